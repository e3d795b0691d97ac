import Derived.Test.YtepaanpdjadakaaDoorQry
import Derived.Test.YtepaanpdjadakaaDoorRow
import Derived.SizedLaws
/-! Queries as the reader finds them. -/
namespace Go.Proofs.YtepaanpdjadakaaDoor
open Go Go.RowKit

section
variable {P : Program} {H : Type} {enc : TypeId × Value → H} {w : World} {base : Nat} {spare : Nat → Bool} {held : Bool} {fuel : Nat} {cs : List Value} {x : DataW H × List MemPlace}
theorem open_arr {t e n : Nat} (ht : P.underlying t = some (.array n e)) (h : DataW.trod enc P w base spare held fuel t cs = some x) :
    cs.length = P.cellsOf t ∧ ∃ m, ∀ i, i < n → ∃ y, DataW.trod enc P w base spare held m e ((cs.drop (i * P.cellsOf e)).take (P.cellsOf e)) = some y := by
  cases fuel with
  | zero => simp [DataW.trod] at h
  | succ k =>
    unfold DataW.trod at h
    rw [ht] at h
    split at h <;> simp_all
    obtain ⟨_, xs, hp, hd⟩ := h
    refine ⟨k, fun i hi => ?_⟩
    have hl := mapM_some_length hp
    have hg := mapM_some_get hp i i (by simp [hi])
    have hi' : i < xs.length := by rw [hl]; simpa using hi
    refine ⟨xs[i].1, xs[i].2, ?_⟩
    rw [hg, List.getElem?_eq_getElem hi']
theorem ints_of : ∀ (n : Nat) (cs : List Value), cs.length = n → (∀ i, i < n → ∃ a, (cs.drop i).take 1 = [.int .u8 a]) → ∃ b : List Int, b.length = n ∧ cs = b.map (.int .u8)
  | 0, cs, hl, _ => ⟨[], rfl, by simpa using hl⟩
  | n + 1, [], hl, _ => by simp at hl
  | n + 1, c :: cs, hl, h => by
    obtain ⟨a, ha⟩ := h 0 (by omega)
    simp at ha
    obtain ⟨b, hb, hc⟩ := ints_of n cs (by simpa using hl) (fun i hi => by simpa using h (i + 1) (by omega))
    exact ⟨a :: b, by simp [hb], by simp [ha, hc]⟩
end
section
variable {H : Type} {enc : TypeId × Value → H} {w : World} {base : Nat} {spare : Nat → Bool} {held : Bool} {fuel : Nat} {cs : List Value} {x : DataW H × List MemPlace}
theorem under_adr : ∃ fs : Array Field, Tryd.prog.underlying 63 = some (.struct fs) ∧ fs.size = 2 ∧ (fs[0]?.map fun f => (f.type, f.offset)) = some (4, 0) ∧ (fs[1]?.map fun f => (f.type, f.offset)) = some (61, 1) :=
  ⟨_, Tryd.underlying63, rfl, rfl, rfl⟩
theorem open1_adr (h : DataW.trod enc Tryd.prog w base spare held fuel 63 cs = some x) : ∃ a : Adr, cs = a.enc := by
  obtain ⟨fs, hu, hfs, h0, h1⟩ := under_adr
  obtain ⟨xs, n, rfl, rfl, hlen, hxl, hx⟩ := DataW.trod_struct hu h
  rw [show Tryd.prog.cellsOf 63 = 17 by kernel_rfl] at hlen
  obtain ⟨y0, e0⟩ := open_fld hx hxl h0
  obtain ⟨y1, e1⟩ := open_fld hx hxl h1
  rw [show Tryd.prog.cellsOf 4 = 1 by kernel_rfl] at e0
  rw [show Tryd.prog.cellsOf 61 = 16 by kernel_rfl] at e1
  obtain ⟨a, ha, _⟩ := DataW.trod_bool Tryd.underlying4 e0
  obtain ⟨h2, m, h3⟩ := open_arr Tryd.underlying61 e1
  rw [show Tryd.prog.cellsOf 61 = 16 by kernel_rfl] at h2
  rw [show Tryd.prog.cellsOf 5 = 1 by kernel_rfl] at h3
  obtain ⟨b, hb, hc⟩ := ints_of 16 _ h2 (fun i hi => by
    obtain ⟨y, hy⟩ := h3 i hi
    rw [Nat.mul_one] at hy
    obtain ⟨a, ha, _⟩ := DataW.trod_int Tryd.underlying5 hy
    exact ⟨a, ha⟩)
  refine ⟨⟨a, b, hb⟩, ?_⟩
  have c0 := cut_at' cs 0 1
  have c1 := cut_at' cs 1 16
  rw [ha, List.drop_zero] at c0
  rw [hc, List.drop_of_length_le (by omega : cs.length ≤ 1 + 16)] at c1
  rw [c0, Nat.zero_add, c1]
  simp [Adr.enc]
theorem under_qst : ∃ fs : Array Field, Tryd.prog.underlying 65 = some (.struct fs) ∧ (fs.toList.map (·.type)) = [9, 3, 3] ∧ (fs[0]?.map fun f => (f.type, f.offset)) = some (9, 0) ∧ (fs[1]?.map fun f => (f.type, f.offset)) = some (3, 1) ∧ (fs[2]?.map fun f => (f.type, f.offset)) = some (3, 2) :=
  ⟨_, Tryd.underlying65, rfl, rfl, rfl, rfl⟩
theorem open1_qst (h : DataW.trod enc Tryd.prog w base spare held fuel 65 cs = some x) : ∃ a : Qst, cs = a.enc ∧ a.name.size ∈ x.1.weights Tryd.prog 65 := by
  obtain ⟨fs, hu, hft, h0, h1, h2⟩ := under_qst
  obtain ⟨xs, n, rfl, rfl, hlen, hxl, hx⟩ := DataW.trod_struct hu h
  rw [show Tryd.prog.cellsOf 65 = 3 by kernel_rfl] at hlen
  obtain ⟨f0, hf0, hft0⟩ := Option.map_eq_some_iff.1 h0
  simp only [Prod.mk.injEq] at hft0
  have g0 := hx 0 f0 hf0
  have hi0 : 0 < xs.length := by rw [hxl]; exact (Array.getElem?_eq_some_iff.1 hf0).1
  rw [hft0.1, hft0.2, show Tryd.prog.cellsOf 9 = 1 by kernel_rfl, List.getElem?_eq_getElem hi0] at g0
  obtain ⟨y1, e1⟩ := open_fld hx hxl h1
  obtain ⟨y2, e2⟩ := open_fld hx hxl h2
  rw [show Tryd.prog.cellsOf 3 = 1 by kernel_rfl] at e1 e2
  obtain ⟨a, ha, ha2, _⟩ := DataW.trod_string Tryd.underlying9 g0
  obtain ⟨b, hb, _, _⟩ := DataW.trod_int Tryd.underlying3 e1
  obtain ⟨c, hc, _, _⟩ := DataW.trod_int Tryd.underlying3 e2
  refine ⟨⟨a, b, c⟩, ?_, ?_⟩
  · have c0 := cut_at' cs 0 1
    have c1 := cut_at' cs 1 1
    have c2 := cut_at' cs 2 1
    simp only [Nat.zero_add, Nat.reduceAdd] at c0 c1 c2
    rw [ha] at c0
    rw [hb] at c1
    rw [hc, List.drop_of_length_le (by omega : cs.length ≤ 3)] at c2
    rw [List.drop_zero] at c0
    rw [c0, c1, c2]
    rfl
  · unfold DataW.weights
    rw [hu]
    show _ ∈ DataW.weightsEach _ (fs.toList.map (·.type)) _
    rw [hft]
    refine DataW.weights_mem_each (j := 0) (t := 9) (d := xs[0].1) rfl (by rw [List.getElem?_map, List.getElem?_eq_getElem hi0]; rfl) _ ?_
    rw [ha2]
    show a.size ∈ DataW.weights _ _ (.lit (.string a.data.toList))
    unfold DataW.weights
    show a.size ∈ [a.data.toList.length]
    rw [List.mem_singleton]
    exact Array.length_toList.symm
theorem under_qry : ∃ fs : Array Field, Tryd.prog.underlying 67 = some (.struct fs) ∧ (fs.toList.map (·.type)) = [63, 63, 3, 3, 4, 65] ∧ (fs[0]?.map fun f => (f.type, f.offset)) = some (63, 0) ∧ (fs[1]?.map fun f => (f.type, f.offset)) = some (63, 17) ∧ (fs[2]?.map fun f => (f.type, f.offset)) = some (3, 34) ∧ (fs[3]?.map fun f => (f.type, f.offset)) = some (3, 35) ∧ (fs[4]?.map fun f => (f.type, f.offset)) = some (4, 36) ∧ (fs[5]?.map fun f => (f.type, f.offset)) = some (65, 37) :=
  ⟨_, Tryd.underlying67, rfl, rfl, rfl, rfl, rfl, rfl, rfl⟩
theorem open1_qry (h : DataW.trod enc Tryd.prog w base spare held fuel 67 cs = some x) : ∃ a : Qry, cs = a.enc ∧ a.qst.name.size ∈ x.1.weights Tryd.prog 67 := by
  obtain ⟨fs, hu, hft, h0, h1, h2, h3, h4, h5⟩ := under_qry
  obtain ⟨xs, n, rfl, rfl, hlen, hxl, hx⟩ := DataW.trod_struct hu h
  rw [show Tryd.prog.cellsOf 67 = 40 by kernel_rfl] at hlen
  obtain ⟨f5, hf5, hft5⟩ := Option.map_eq_some_iff.1 h5
  simp only [Prod.mk.injEq] at hft5
  have g5 := hx 5 f5 hf5
  have hi5 : 5 < xs.length := by rw [hxl]; exact (Array.getElem?_eq_some_iff.1 hf5).1
  rw [hft5.1, hft5.2, show Tryd.prog.cellsOf 65 = 3 by kernel_rfl, List.getElem?_eq_getElem hi5] at g5
  obtain ⟨y0, e0⟩ := open_fld hx hxl h0
  obtain ⟨y1, e1⟩ := open_fld hx hxl h1
  obtain ⟨y2, e2⟩ := open_fld hx hxl h2
  obtain ⟨y3, e3⟩ := open_fld hx hxl h3
  obtain ⟨y4, e4⟩ := open_fld hx hxl h4
  rw [show Tryd.prog.cellsOf 63 = 17 by kernel_rfl] at e0 e1
  rw [show Tryd.prog.cellsOf 3 = 1 by kernel_rfl] at e2 e3
  rw [show Tryd.prog.cellsOf 4 = 1 by kernel_rfl] at e4
  obtain ⟨a0, ha0⟩ := open1_adr e0
  obtain ⟨a1, ha1⟩ := open1_adr e1
  obtain ⟨a2, ha2, _, _⟩ := DataW.trod_int Tryd.underlying3 e2
  obtain ⟨a3, ha3, _, _⟩ := DataW.trod_int Tryd.underlying3 e3
  obtain ⟨a4, ha4, _⟩ := DataW.trod_bool Tryd.underlying4 e4
  obtain ⟨a5, ha5, hw⟩ := open1_qst g5
  refine ⟨⟨a0, a1, a2, a3, a4, a5⟩, ?_, ?_⟩
  · have c0 := cut_at' cs 0 17
    have c1 := cut_at' cs 17 17
    have c2 := cut_at' cs 34 1
    have c3 := cut_at' cs 35 1
    have c4 := cut_at' cs 36 1
    have c5 := cut_at' cs 37 3
    simp only [Nat.zero_add, Nat.reduceAdd] at c0 c1 c2 c3 c4 c5
    rw [ha0, List.drop_zero] at c0
    rw [ha1] at c1
    rw [ha2] at c2
    rw [ha3] at c3
    rw [ha4] at c4
    rw [ha5, List.drop_of_length_le (by omega : cs.length ≤ 40), List.append_nil] at c5
    rw [c0, c1, c2, c3, c4, c5]
    simp [Qry.enc]
  · unfold DataW.weights
    rw [hu]
    show _ ∈ DataW.weightsEach _ (fs.toList.map (·.type)) _
    rw [hft]
    exact DataW.weights_mem_each (j := 5) (t := 65) (d := xs[5].1) rfl (by rw [List.getElem?_map, List.getElem?_eq_getElem hi5]; rfl) _ hw
end
end Go.Proofs.YtepaanpdjadakaaDoor
