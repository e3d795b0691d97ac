import Derived.Test.YtepaanpdjadakaaGreatDoorRefuseP
import Derived.Test.YtepaanpdjadakaaGreatDoorRow
/-! The operations of FlowsPlay as the reader finds them. -/
namespace Go.Proofs.YtepaanpdjadakaaGreatDoor
open Go Go.RowKit Go.Deep

section
variable {P : Program} {H : Type} {enc : TypeId × Value → H} {w : World} {base : Nat} {spare : Nat → Bool} {held : Bool} {fuel : Nat} {cs : List Value} {x : DataW H × List MemPlace}
theorem open_rows_p {α : Type} [Inhabited α] {e' : α → List Value} {p : α → Prop} {t e sz : Nat} {v : Value} (ht : P.underlying t = some (.slice e)) (hc : P.cellsOf e = sz) (hpos : 0 < sz) (hsz : ∀ a, (e' a).length = sz)
    (h1 : ∀ {fuel : Nat} {cs : List Value} {x : DataW H × List MemPlace}, DataW.trod enc P w base spare held fuel e cs = some x → ∃ a, cs = e' a ∧ p a)
    (h : DataW.trod enc P w base spare held fuel t [v] = some x) : ∃ l : List α, RowsAt e' w v l ∧ ∀ a ∈ l, p a := by
  rcases open_slice ht h with ⟨hc, _⟩ | ⟨a, len, cap, m, n, D, Pl, hv, _, hl, hm, hmm, _, hx⟩
  · simp only [List.cons.injEq, and_true] at hc
    subst hc
    exact ⟨[], ⟨.inl ⟨0, rfl, rfl, rfl⟩, Nat.zero_le _⟩, fun a ha => by cases ha⟩
  · simp only [List.cons.injEq, and_true] at hv
    subst hv
    rw [hc] at hx
    have hlm : len ≤ m := by rw [hmm]; split <;> omega
    obtain ⟨V, hV⟩ := choose_lt (n := len) (α := α) (p := fun i r => w.cells? base (a.add (i * sz)) sz = some (e' r) ∧ p r) (fun i hi => by
      obtain ⟨cs', h2, h3⟩ := hx i (by omega)
      obtain ⟨r, rfl, hp⟩ := h1 h3
      exact ⟨r, h2, hp⟩)
    have hlen : ((List.range len).map V).length = len := by simp
    refine ⟨(List.range len).map V, ⟨.inr ⟨a, cap, by rw [hlen], fun j u hu => ?_⟩, by rw [hlen]; unfold maxLen at *; omega⟩, fun r hr => ?_⟩
    · obtain ⟨i, r, y, rfl, hr, hy, hu'⟩ := flat_split' hsz hpos hu
      have hi : i < len := by have := (List.getElem?_eq_some_iff.1 hy).1; simpa using this
      simp only [List.getElem?_map, List.getElem?_range hi, Option.map_some, Option.some.injEq] at hy
      subst hy
      obtain ⟨_, _, h4⟩ := World.cells?_some (hV i hi).1
      rw [← add_add', h4 r hr, hu']
    · obtain ⟨i, hi, rfl⟩ := List.mem_map.1 hr
      exact (hV i (List.mem_range.1 hi)).2
end
def gapOk (x : WOp) : Prop := 0 ≤ x.gap ∧ x.gap ≤ 18446744073709551615
section
variable {H : Type} {enc : TypeId × Value → H} {w : World} {base : Nat} {spare : Nat → Bool} {held : Bool} {fuel : Nat} {cs : List Value} {x : DataW H × List MemPlace}
theorem open1_wopP (h : DataW.trod enc Tryz.prog w base spare held fuel 32 cs = some x) : ∃ o : WOp, cs = o.enc ∧ gapOk o := by
  obtain ⟨o, ho⟩ := open1_wop h
  refine ⟨o, ho, ?_⟩
  obtain ⟨fs, hu, h0, h1, h2, h3, h4⟩ := under_wop
  obtain ⟨xs, n, rfl, rfl, hlen, hxl, hx⟩ := DataW.trod_struct hu h
  obtain ⟨y4, e4⟩ := open_fld hx hxl h4
  rw [show Tryz.prog.cellsOf 30 = 1 by kernel_rfl] at e4
  obtain ⟨g, hg, _, hw⟩ := DataW.trod_int Tryz.underlying30 e4
  rw [ho] at hg
  have hgg : g = o.gap := by
    simp [WOp.enc] at hg
    exact hg.symm
  rw [hgg] at hw
  simp [Lit.wf, IntKind.signed, IntKind.bits, IntKind.min, IntKind.max] at hw
  unfold gapOk
  omega
end
end Go.Proofs.YtepaanpdjadakaaGreatDoor
