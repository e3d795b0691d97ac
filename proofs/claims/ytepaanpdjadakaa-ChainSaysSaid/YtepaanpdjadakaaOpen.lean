import Derived.Test.YtepaanpdjadakaaChain1
import Derived.ProofKit
import Derived.OpenShut
import Derived.ChangeArms
import Derived.Deep.Slices
/-! Arguments, opened: records, messages. -/
namespace Go.Proofs.Ytepaanpdjadakaa
open Go Go.RowKit Go.Deep

instance : Inhabited Rec := ⟨zeroRec⟩
theorem cut_at (cs : List Value) (o n : Nat) : cs.drop o = (cs.drop o).take n ++ cs.drop (o + n) := by
  rw [← List.drop_drop, List.take_append_drop]
section
variable {H : Type} {enc : TypeId × Value → H} {w : World} {base : Nat} {spare : Nat → Bool} {held : Bool} {fuel : Nat} {cs : List Value} {x : DataW H × List MemPlace}
theorem cells_addr : Try.prog.cellsOf 46 = 17 := by kernel_rfl
theorem cells_rec : Try.prog.cellsOf 54 = 23 := by kernel_rfl
theorem cells_msg : Try.prog.cellsOf 38 = 9 := by kernel_rfl
theorem cells_str : Try.prog.cellsOf 9 = 1 := by kernel_rfl
theorem cells_int : Try.prog.cellsOf 3 = 1 := by kernel_rfl
theorem cells_u32 : Try.prog.cellsOf 47 = 1 := by kernel_rfl
theorem cells_u8 : Try.prog.cellsOf 5 = 1 := by kernel_rfl
theorem cells_bool : Try.prog.cellsOf 4 = 1 := by kernel_rfl
theorem cells_bytes : Try.prog.cellsOf 52 = 1 := by kernel_rfl
theorem cells_b16 : Try.prog.cellsOf 44 = 16 := by kernel_rfl
theorem cells_recs : Try.prog.cellsOf 36 = 1 := by kernel_rfl
theorem under_rec : ∃ fs : Array Field, Try.prog.underlying 54 = some (.struct fs) ∧ (fs[0]?.map fun f => (f.type, f.offset)) = some (9, 0) ∧ (fs[1]?.map fun f => (f.type, f.offset)) = some (3, 1) ∧ (fs[2]?.map fun f => (f.type, f.offset)) = some (3, 2) ∧ (fs[3]?.map fun f => (f.type, f.offset)) = some (47, 3) ∧ (fs[4]?.map fun f => (f.type, f.offset)) = some (46, 4) ∧ (fs[5]?.map fun f => (f.type, f.offset)) = some (9, 21) ∧ (fs[6]?.map fun f => (f.type, f.offset)) = some (52, 22) :=
  ⟨_, Try.underlying54, rfl, rfl, rfl, rfl, rfl, rfl, rfl⟩
theorem under_addr : ∃ fs : Array Field, Try.prog.underlying 46 = some (.struct fs) ∧ (fs[0]?.map fun f => (f.type, f.offset)) = some (4, 0) ∧ (fs[1]?.map fun f => (f.type, f.offset)) = some (44, 1) :=
  ⟨_, Try.underlying46, rfl, rfl⟩
theorem under_msg : ∃ fs : Array Field, Try.prog.underlying 38 = some (.struct fs) ∧ (fs[6]?.map fun f => (f.type, f.offset)) = some (36, 6) :=
  ⟨_, Try.underlying38, rfl⟩
/-- One field. -/
theorem open_field {P : Program} {n : Nat} {fs : Array Field} {xs : List (DataW H × List MemPlace)} (h : ∀ (i : Nat) (f : Field), fs[i]? = some f → DataW.trod enc P w base spare held n f.type ((cs.drop f.offset).take (P.cellsOf f.type)) = xs[i]?) (hl : xs.length = fs.size)
    {i t o : Nat} (hi : (fs[i]?.map fun f => (f.type, f.offset)) = some (t, o)) : ∃ y, DataW.trod enc P w base spare held n t ((cs.drop o).take (P.cellsOf t)) = some y := by
  obtain ⟨f, hf, he⟩ := Option.map_eq_some_iff.1 hi
  simp only [Prod.mk.injEq] at he
  obtain ⟨rfl, rfl⟩ := he
  have hi' : i < xs.length := by rw [hl]; exact (Array.getElem?_eq_some_iff.1 hf).1
  exact ⟨xs[i], by rw [h i f hf, List.getElem?_eq_getElem hi']⟩
theorem open_ints16 (h : DataW.trod enc Try.prog w base spare held fuel 44 cs = some x) : ∃ l : List Int, l.length = 16 ∧ cs = l.map (.int .u8) := by
  obtain ⟨xs, m, rfl, rfl, hlen, hxl, hx⟩ := DataW.trod_array Try.underlying44 h
  rw [cells_b16] at hlen
  have hone : ∀ i, i < 16 → ∃ n : Int, cs[i]? = some (.int .u8 n) := by
    intro i hi
    have h1 := hx i hi
    rw [cells_u8, List.getElem?_eq_getElem (by omega)] at h1
    obtain ⟨n, hn, _, _⟩ := DataW.trod_int Try.underlying5 h1
    refine ⟨n, ?_⟩
    have h2 : ((cs.drop (i * 1)).take 1)[0]? = some (.int .u8 n) := by rw [hn]; rfl
    rw [List.getElem?_take, if_pos (by decide), List.getElem?_drop] at h2
    simpa using h2
  refine ⟨cs.map intOf, by simpa using hlen, ?_⟩
  apply List.ext_getElem?
  intro i
  by_cases hi : i < 16
  · obtain ⟨n, hn⟩ := hone i hi
    simp [hn, intOf]
  · rw [List.getElem?_eq_none (by omega), List.getElem?_eq_none (by simp; omega)]
theorem open_addr (h : DataW.trod enc Try.prog w base spare held fuel 46 cs = some x) : ∃ a : Adr, cs = a.enc := by
  obtain ⟨fs, hu, h0, h1⟩ := under_addr
  obtain ⟨xs, n, rfl, rfl, hlen, hxl, hx⟩ := DataW.trod_struct hu h
  rw [cells_addr] at hlen
  obtain ⟨y0, e0⟩ := open_field hx hxl h0
  obtain ⟨y1, e1⟩ := open_field hx hxl h1
  rw [cells_bool] at e0
  rw [cells_b16] at e1
  obtain ⟨b, hb, _⟩ := DataW.trod_bool Try.underlying4 e0
  obtain ⟨l, hl, hl'⟩ := open_ints16 e1
  refine ⟨⟨b, l, hl⟩, ?_⟩
  have c0 := cut_at cs 0 1
  have c1 := cut_at cs (0 + 1) 16
  rw [List.drop_zero] at c0
  rw [c0, c1, show List.take 1 cs = [Value.bool b] by simpa using hb, show (cs.drop (0 + 1)).take 16 = _ from hl', List.drop_of_length_le (by omega)]
  simp [Adr.enc]
theorem open_rec (h : DataW.trod enc Try.prog w base spare held fuel 54 cs = some x) : ∃ r : Rec, cs = r.enc := by
  obtain ⟨fs, hu, h0, h1, h2, h3, h4, h5, h6⟩ := under_rec
  obtain ⟨xs, n, rfl, rfl, hlen, hxl, hx⟩ := DataW.trod_struct hu h
  rw [cells_rec] at hlen
  obtain ⟨y0, e0⟩ := open_field hx hxl h0
  obtain ⟨y1, e1⟩ := open_field hx hxl h1
  obtain ⟨y2, e2⟩ := open_field hx hxl h2
  obtain ⟨y3, e3⟩ := open_field hx hxl h3
  obtain ⟨y4, e4⟩ := open_field hx hxl h4
  obtain ⟨y5, e5⟩ := open_field hx hxl h5
  obtain ⟨y6, e6⟩ := open_field hx hxl h6
  rw [cells_str] at e0 e5
  rw [cells_int] at e1 e2
  rw [cells_u32] at e3
  rw [cells_addr] at e4
  rw [cells_bytes] at e6
  obtain ⟨s, hs, _, _⟩ := DataW.trod_string Try.underlying9 e0
  obtain ⟨ty, hty, _, _⟩ := DataW.trod_int Try.underlying3 e1
  obtain ⟨cl, hcl, _, _⟩ := DataW.trod_int Try.underlying3 e2
  obtain ⟨tt, htt, _, _⟩ := DataW.trod_int Try.underlying47 e3
  obtain ⟨ad, had⟩ := open_addr e4
  obtain ⟨tg, htg, _, _⟩ := DataW.trod_string Try.underlying9 e5
  obtain ⟨dv, hdv, hone⟩ : ∃ dv : Value, (cs.drop 22).take 1 = [dv] ∧ dv.oneCell' = true := by
    rcases DataW.trod_slice Try.underlying52 e6 with ⟨hd, _⟩ | ⟨a, ln, cp, _, _, _, _, hd, _⟩
    · exact ⟨_, hd, rfl⟩
    · exact ⟨_, hd, rfl⟩
  refine ⟨{ name := s, typ := ty, cls := cl, ttl := tt, addr := ad, tgt := tg, data := dv, one := hone }, ?_⟩
  have c0 := cut_at cs 0 1
  have c1 := cut_at cs 1 1
  have c2 := cut_at cs 2 1
  have c3 := cut_at cs 3 1
  have c4 := cut_at cs 4 17
  have c5 := cut_at cs 21 1
  have c6 := cut_at cs 22 1
  simp only [Nat.zero_add, Nat.reduceAdd] at c0 c1 c2 c3 c4 c5 c6
  rw [hs] at c0
  rw [hty] at c1
  rw [hcl] at c2
  rw [htt] at c3
  rw [had] at c4
  rw [htg] at c5
  rw [hdv, List.drop_of_length_le (by omega : cs.length ≤ 23)] at c6
  rw [List.drop_zero] at c0
  rw [c0, c1, c2, c3, c4, c5, c6]
  simp [Rec.enc]
theorem flat_split {α : Type} {e : α → List Value} {sz : Nat} (hsz : ∀ x, (e x).length = sz) (hpos : 0 < sz) {l : List α} {j : Nat} {u : Value} (h : (l.flatMap e)[j]? = some u) : ∃ (i r : Nat) (x : α), j = i * sz + r ∧ r < sz ∧ l[i]? = some x ∧ (e x)[r]? = some u := by
  have hj : j < l.length * sz := by rw [← flat_length hsz l]; exact (List.getElem?_eq_some_iff.1 h).1
  have hi : j / sz < l.length := Nat.div_lt_of_lt_mul (by rw [Nat.mul_comm]; exact hj)
  have hr : j % sz < sz := Nat.mod_lt _ hpos
  have he : j = j / sz * sz + j % sz := (Nat.div_add_mod' j sz).symm
  refine ⟨j / sz, j % sz, l[j / sz], he, hr, List.getElem?_eq_getElem hi, ?_⟩
  rw [← flat_get hsz l (j / sz) (j % sz) _ (List.getElem?_eq_getElem hi) hr, ← he]
  exact h
theorem open_recs {v : Value} (h : DataW.trod enc Try.prog w base spare held fuel 36 [v] = some x) : ∃ l : List Rec, RecsAt w v l := by
  rcases open_slice Try.underlying36 h with ⟨hc, _⟩ | ⟨a, len, cap, m, n, D, Pl, hc, _, hl, hm, hmm, _, hx⟩
  · simp only [List.cons.injEq, and_true] at hc
    subst hc
    exact ⟨[], .inl ⟨0, rfl, rfl, rfl⟩, Nat.zero_le _⟩
  · simp only [List.cons.injEq, and_true] at hc
    subst hc
    rw [cells_rec] at hx
    have hlm : len ≤ m := by rw [hmm]; split <;> omega
    obtain ⟨V, hV⟩ := choose_lt (n := len) (α := Rec) (p := fun i r => w.cells? base (a.add (i * 23)) 23 = some r.enc) (fun i hi => by
      obtain ⟨cs', h1, h2⟩ := hx i (by omega)
      obtain ⟨r, rfl⟩ := open_rec h2
      exact ⟨r, h1⟩)
    have hlen : ((List.range len).map V).length = len := by simp
    refine ⟨(List.range len).map V, .inr ⟨a, cap, by rw [hlen], fun j u hu => ?_⟩, by rw [hlen]; unfold maxLen at hm; omega⟩
    obtain ⟨i, r, y, rfl, hr, hy, hu'⟩ := flat_split Rec.enc_length (by decide) hu
    have hi : i < len := by have := (List.getElem?_eq_some_iff.1 hy).1; simpa using this
    simp only [List.getElem?_map, List.getElem?_range hi, Option.map_some, Option.some.injEq] at hy
    subst hy
    obtain ⟨_, _, h3⟩ := World.cells?_some (hV i hi)
    rw [← add_add', h3 r hr, hu']
theorem open_msg {v : Value} {r : Reach} {b0 : Nat} {d : DataW H} {ps : List MemPlace} (hval : Value.okWide Try.prog w r b0 38 v) (hd : DataW.Trod enc Try.prog w base spare held 38 v d ps) : ∃ (m : Msg) (l : List Rec), v = .agg m.cells ∧ RecsAt w m.ans l := by
  obtain ⟨fs, hu, h6⟩ := under_msg
  obtain ⟨cs, rfl, hsz⟩ := Go.WideShapes.okWide_struct hu hval
  obtain ⟨fuel, hf⟩ := hd
  obtain ⟨xs, n, _, _, hlen, hxl, hx⟩ := DataW.trod_struct hu hf
  obtain ⟨y6, e6⟩ := open_field hx hxl h6
  rw [cells_recs] at e6
  rw [cells_msg] at hsz
  obtain ⟨c⟩ := cs
  match c, hsz with
  | [c0, c1, c2, c3, c4, c5, c6, c7, c8], _ =>
    obtain ⟨l, hl⟩ := open_recs (v := c6) (by simpa [Value.cells] using e6)
    exact ⟨⟨c0, c1, c2, c3, c4, c5, c6, c7, c8⟩, l, rfl, hl⟩
end
end Go.Proofs.Ytepaanpdjadakaa
