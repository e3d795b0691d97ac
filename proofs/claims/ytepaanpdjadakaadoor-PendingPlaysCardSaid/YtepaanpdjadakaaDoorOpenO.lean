import Derived.Test.YtepaanpdjadakaaDoorPPlaysP
import Derived.Test.YtepaanpdjadakaaDoorOpenQ
/-! The operations of PendingPlays as the reader finds them. -/
namespace Go.Proofs.YtepaanpdjadakaaDoor
open Go Go.RowKit Go.Deep

section
variable {P : Program} {H : Type} {enc : TypeId × Value → H} {w : World} {base : Nat} {spare : Nat → Bool} {held : Bool} {fuel : Nat} {cs : List Value} {x : DataW H × List MemPlace}
theorem open_rows_p {α : Type} [Inhabited α] {e' : α → List Value} {p : α → Prop} {t e sz : Nat} {v : Value} (ht : P.underlying t = some (.slice e)) (hc : P.cellsOf e = sz) (hpos : 0 < sz) (hsz : ∀ a, (e' a).length = sz)
    (h1 : ∀ {fuel : Nat} {cs : List Value} {x : DataW H × List MemPlace}, DataW.trod enc P w base spare held fuel e cs = some x → ∃ a, cs = e' a ∧ p a)
    (h : DataW.trod enc P w base spare held fuel t [v] = some x) : ∃ l : List α, RowsAt e' w v l ∧ ∀ a ∈ l, p a := by
  rcases open_slice ht h with ⟨hc, _⟩ | ⟨a, len, cap, m, n, D, Pl, hv, _, hl, hm, hmm, _, hx⟩
  · simp only [List.cons.injEq, and_true] at hc
    subst hc
    exact ⟨[], ⟨.inl ⟨0, rfl, rfl, rfl⟩, Nat.zero_le _⟩, fun a ha => by cases ha⟩
  · simp only [List.cons.injEq, and_true] at hv
    subst hv
    rw [hc] at hx
    have hlm : len ≤ m := by rw [hmm]; split <;> omega
    obtain ⟨V, hV⟩ := choose_lt (n := len) (α := α) (p := fun i r => w.cells? base (a.add (i * sz)) sz = some (e' r) ∧ p r) (fun i hi => by
      obtain ⟨cs', h2, h3⟩ := hx i (by omega)
      obtain ⟨r, rfl, hp⟩ := h1 h3
      exact ⟨r, h2, hp⟩)
    have hlen : ((List.range len).map V).length = len := by simp
    refine ⟨(List.range len).map V, ⟨.inr ⟨a, cap, by rw [hlen], fun j u hu => ?_⟩, by rw [hlen]; unfold maxLen at *; omega⟩, fun r hr => ?_⟩
    · obtain ⟨i, r, y, rfl, hr, hy, hu'⟩ := flat_split' hsz hpos hu
      have hi : i < len := by have := (List.getElem?_eq_some_iff.1 hy).1; simpa using this
      simp only [List.getElem?_map, List.getElem?_range hi, Option.map_some, Option.some.injEq] at hy
      subst hy
      obtain ⟨_, _, h4⟩ := World.cells?_some (hV i hi).1
      rw [← add_add', h4 r hr, hu']
    · obtain ⟨i, hi, rfl⟩ := List.mem_map.1 hr
      exact (hV i (List.mem_range.1 hi)).2
end
section
variable {H : Type} {enc : TypeId × Value → H} {w : World} {base : Nat} {spare : Nat → Bool} {held : Bool} {fuel : Nat} {cs : List Value} {x : DataW H × List MemPlace}
theorem under_qop : ∃ fs : Array Field, Tryd.prog.underlying 88 = some (.struct fs) ∧ (fs[0]?.map fun f => (f.type, f.offset)) = some (3, 0) ∧ (fs[1]?.map fun f => (f.type, f.offset)) = some (67, 1) ∧ (fs[2]?.map fun f => (f.type, f.offset)) = some (23, 41) ∧ (fs[3]?.map fun f => (f.type, f.offset)) = some (76, 42) :=
  ⟨_, Tryd.underlying88, rfl, rfl, rfl, rfl⟩
abbrev Adr.enc_sz : Nat := 17
theorem open1_qop (h : DataW.trod enc Tryd.prog w base spare held fuel 88 cs = some x) : ∃ o : QOp, cs = o.enc ∧ RowsAt Adr.enc w (.slice o.sa o.ss.length o.sc) o.ss := by
  obtain ⟨fs, hu, h0, h1, h2, h3⟩ := under_qop
  obtain ⟨xs, n, rfl, rfl, hlen, hxl, hx⟩ := DataW.trod_struct hu h
  rw [show Tryd.prog.cellsOf 88 = 43 by kernel_rfl] at hlen
  obtain ⟨y0, e0⟩ := open_fld hx hxl h0
  obtain ⟨y1, e1⟩ := open_fld hx hxl h1
  obtain ⟨y2, e2⟩ := open_fld hx hxl h2
  obtain ⟨y3, e3⟩ := open_fld hx hxl h3
  rw [show Tryd.prog.cellsOf 3 = 1 by kernel_rfl] at e0
  rw [show Tryd.prog.cellsOf 67 = 40 by kernel_rfl] at e1
  rw [show Tryd.prog.cellsOf 23 = 1 by kernel_rfl] at e2
  rw [show Tryd.prog.cellsOf 76 = 1 by kernel_rfl] at e3
  obtain ⟨a, ha, _, _⟩ := DataW.trod_int Tryd.underlying3 e0
  obtain ⟨q, hq, _⟩ := open1_qry e1
  obtain ⟨c, hc, _, _⟩ := DataW.trod_int Tryd.underlying23 e2
  have hl1 : ((cs.drop 42).take 1).length = 1 := by simp [hlen]
  obtain ⟨v, hv⟩ : ∃ v, (cs.drop 42).take 1 = [v] := List.length_eq_one_iff.1 hl1
  rw [hv] at e3
  obtain ⟨ss, hss⟩ := open_rows (α := Adr) Tryd.underlying76 (sz := 17) (by kernel_rfl) (by decide) Adr.enc_length open1_adr e3
  obtain ⟨sa, sc, rfl⟩ := hss.form
  refine ⟨⟨a, q, c, sa, sc, ss⟩, ?_, hss⟩
  have c0 := cut_at' cs 0 1
  have c1 := cut_at' cs 1 40
  have c2 := cut_at' cs 41 1
  have c3 := cut_at' cs 42 1
  simp only [Nat.zero_add, Nat.reduceAdd] at c0 c1 c2 c3
  rw [ha, List.drop_zero] at c0
  rw [hq] at c1
  rw [hc] at c2
  rw [hv, List.drop_of_length_le (by omega : cs.length ≤ 43)] at c3
  rw [c0, c1, c2, c3]
  simp [QOp.enc]
end
end Go.Proofs.YtepaanpdjadakaaDoor
