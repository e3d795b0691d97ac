import Derived.Test.YtepaanpdjadakaaGreatDoorRow
import Derived.Test.YtepaanpdjadakaaGreatDoorBase
/-! s[k:] of a slice of one's own. -/
namespace Go.Proofs.YtepaanpdjadakaaGreatDoor
open Go Go.RowKit

def tailV (g sz k n c : Nat) : Value := .slice (some ⟨g, if c = k then 0 else k * sz, none⟩) (n - k) (c - k)
section
variable {P : Program} {w : World} {t e : TypeId} {g sz k n c : Nat} {kd : IntKind}
theorem run_tail (ht : P.underlying t = some (.slice e)) (hs : (P.info? e).map (·.size) = some sz) (hk : k ≤ n) (_ : n ≤ c) :
    (Instr.sliceAt t (.slice (some ⟨g, 0, none⟩) n c) (some (.int kd k)) none none).run P w = .ok (tailV g sz k n c) w := by
  have hel : P.elem t = e := by simp [Program.elem, ht]
  have ht' : P.underlying t = some (.slice (P.elem t)) := by rw [hel]; exact ht
  obtain ⟨i, hi, hz⟩ := Option.map_eq_some_iff.1 hs
  rw [run_sliceAt_slice (h := ht'), run_slice_l (ht := ht') (kl := kd) (l := (k : Int)) (h0 := by omega) (h1 := by omega), hel]
  simp only [sizeOf, typeInfo, Sem.run_bind, run_program, hi, Sem.run_pure, Result.andThen_ok, hz]
  unfold sliced tailV
  by_cases h : c = k
  · subst h
    simp
  · simp [h, Addr.add_lit]
theorem run_head (ht : P.underlying t = some (.slice e)) (hs : (P.info? e).map (·.size) = some sz) {A : Option Addr} (hk : k ≤ c) :
    (Instr.sliceAt t (.slice A n c) none (some (.int kd k)) none).run P w = .ok (.slice A k c) w := by
  have hel : P.elem t = e := by simp [Program.elem, ht]
  have ht' : P.underlying t = some (.slice (P.elem t)) := by rw [hel]; exact ht
  obtain ⟨i, hi, hz⟩ := Option.map_eq_some_iff.1 hs
  rw [run_sliceAt_slice (h := ht'), run_slice_h (ht := ht') (kh := kd) (h := (k : Int)) (h0 := by omega) (h2 := by omega), hel]
  simp only [sizeOf, typeInfo, Sem.run_bind, run_program, hi, Sem.run_pure, Result.andThen_ok, hz]
  unfold sliced
  cases A <;> simp [Addr.add]
variable {K : Act → World → Prop} {C : World → Prop} {a : Act} {i : Nat} {rest : List (Nat × How)} {o : Oper} {l : List Oper} {A : Option Addr}
theorem ord_tail (hi : l[i]? = some o) (hw : Region.wanted o (yielded l.toArray a.tmps) = true) {x lo : Operand} (ho : o.op = .slice t x (some lo) none none) (hx : a.eval x = .slice (some ⟨g, 0, none⟩) n c) (hlo : a.eval lo = .int kd k)
    (ht : P.underlying t = some (.slice e)) (hs : (P.info? e).map (·.size) = some sz) (hk : k ≤ n) (hn : n ≤ c)
    (h : ∀ K' : Act → Prop, (∀ a, wpOrd P l.toArray K C rest a w → K' a) → K' (a.put o.dst (tailV g sz k n c))) : wpOrd P l.toArray K C ((i, .pure) :: rest) a w :=
  ord_run hi hw (fun w' => by
    unfold execOp
    simp only [ho, hx, hlo, Option.map_some, Option.map_none, Sem.run_bind, run_tail ht hs hk hn, Result.andThen_ok, Sem.run_pure]) h
theorem ord_head (hi : l[i]? = some o) (hw : Region.wanted o (yielded l.toArray a.tmps) = true) {x hi' : Operand} (ho : o.op = .slice t x none (some hi') none) (hx : a.eval x = .slice A n c) (hlo : a.eval hi' = .int kd k)
    (ht : P.underlying t = some (.slice e)) (hs : (P.info? e).map (·.size) = some sz) (hk : k ≤ c)
    (h : ∀ K' : Act → Prop, (∀ a, wpOrd P l.toArray K C rest a w → K' a) → K' (a.put o.dst (.slice A k c))) : wpOrd P l.toArray K C ((i, .pure) :: rest) a w :=
  ord_run hi hw (fun w' => by
    unfold execOp
    simp only [ho, hx, hlo, Option.map_some, Option.map_none, Sem.run_bind, run_head ht hs hk, Result.andThen_ok, Sem.run_pure]) h
end
section
variable {B : Nat} {w0 w w' : World} {F : HP} {α : Type} {enc : α → List Value} {sz c n k : Nat} {l : List α} {A : Option Addr} {e : TypeId} {g : Nat}
theorem Sat.tail_reads (hsz : ∀ x, (enc x).length = sz) (hpos : 0 < sz) (h : Sat B w0 w (arr e sz (.slice (some ⟨g, 0, none⟩) n c) n (l.flatMap enc) • F)) (hn : l.length = n) (hk : k ≤ n) : Reads w (tailV g sz k n c) (n - k) ((l.drop k).flatMap enc) := by
  have hr := h.arr_reads
  unfold tailV
  refine .inr ⟨_, _, rfl, fun j u hu => ?_⟩
  obtain ⟨i, r, y, rfl, hr', hy, hu'⟩ := flat_split' hsz hpos hu
  rw [List.getElem?_drop] at hy
  have hlt := (List.getElem?_eq_some_iff.1 hy).1
  have hcn : n ≤ c := by
    rcases h.arr_open with ⟨hv, _, _, _⟩ | ⟨_, _, _, hv, q1, _, _, _, _⟩
    · cases hv
    · cases hv; exact q1
  rw [if_neg (by omega)]
  rcases hr with ⟨_, hv, _⟩ | ⟨a, c', hv, hc⟩
  · cases hv
  · cases hv
    have h1 := hc ((k + i) * sz + r) u (by rw [flat_get hsz l (k + i) r y hy hr']; exact hu')
    rw [Addr.add_lit] at h1 ⊢
    rw [show k * sz + (i * sz + r) = 0 + ((k + i) * sz + r) by rw [Nat.add_mul]; omega]
    exact h1
theorem Sat.head_reads (hsz : ∀ x, (enc x).length = sz) (hpos : 0 < sz) (h : Sat B w0 w (arr e sz (.slice A n c) n (l.flatMap enc) • F)) (hn : l.length = n) (hk : k ≤ n) : Reads w (.slice A k c) k ((l.take k).flatMap enc) := by
  rcases h.arr_reads with ⟨c', hv, h0, _⟩ | ⟨a, c', hv, hc⟩
  · cases hv
    obtain rfl : k = 0 := by omega
    exact .inl ⟨_, rfl, rfl, rfl⟩
  · cases hv
    refine .inr ⟨_, _, rfl, fun j u hu => ?_⟩
    obtain ⟨i, r, y, rfl, hr', hy, hu'⟩ := flat_split' hsz hpos hu
    rw [List.getElem?_take] at hy
    split at hy
    · exact hc _ u (by rw [flat_get hsz l i r y hy hr']; exact hu')
    · cases hy
end
end Go.Proofs.YtepaanpdjadakaaGreatDoor
