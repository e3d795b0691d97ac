import Derived.Test.YtepaanpdjadakaaArr
import Derived.Test.YtepaanpdjadakaaUtil
import Derived.ProofKit
/-! Slices of whole numbers that came in. -/
namespace Go.Proofs.Ytepaanpdjadakaa
open Go Go.RowKit

def IsRow (k : IntKind) (w : World) (a : Option Addr) (len cap : Nat) (zs : List Int) : Prop :=
  (a = none ∧ len = 0 ∧ cap = 0 ∧ zs = []) ∨
  ∃ x, a = some x ∧ len ≤ cap ∧ cap ≤ maxLen ∧ zs.length = cap ∧ (∀ i, i < zs.length → w.cell? (x.add i) = some (.int k (zs.getD i 0))) ∧ ∀ n ∈ zs, (Lit.int k n).wf = true

theorem IsRow.len_le {k : IntKind} {w : World} {a : Option Addr} {len cap : Nat} {zs : List Int} (h : IsRow k w a len cap zs) : len ≤ maxLen := by
  rcases h with ⟨_, rfl, _⟩ | ⟨x, _, h1, h2, _⟩
  · exact Nat.zero_le _
  · omega
theorem IsRow.at_ {k : IntKind} {w : World} {a : Option Addr} {len cap : Nat} {zs : List Int} (h : IsRow k w a len cap zs) {i : Nat} (hi : i < len) :
    ∃ x, a = some x ∧ w.cell? (x.add i) = some (.int k (zs.getD i 0)) ∧ x.block < w.heap.size ∧ (Lit.int k (zs.getD i 0)).wf = true := by
  rcases h with ⟨_, rfl, _⟩ | ⟨x, rfl, h1, h2, h3, h4, h5⟩
  · omega
  · have hc := h4 i (by omega)
    refine ⟨x, rfl, hc, ?_, h5 _ ?_⟩
    · have := World.block_lt_of_cell? _ _ hc
      unfold Addr.add at this
      split at this <;> exact this
    · rw [List.getD_eq_getElem?_getD, List.getElem?_eq_getElem (by omega)]
      exact List.getElem_mem _

theorem IsRow.at' {k : IntKind} {w : World} {a : Option Addr} {len cap : Nat} {zs : List Int} (h : IsRow k w a len cap zs) {i : Nat} (hi : i < len) :
    ∃ x, a = some x ∧ x.block < w.heap.size ∧ ∀ W, Below w.heap.size w W → W.cell? (x.add i) = some (.int k (zs.getD i 0)) := by
  obtain ⟨x, hx, hc, hl, _⟩ := h.at_ hi
  refine ⟨x, hx, hl, fun W hb => ?_⟩
  rw [hb.cell (by unfold Addr.add; split <;> exact hl), hc]
end Go.Proofs.Ytepaanpdjadakaa
