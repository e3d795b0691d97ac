import Derived.Test.YtepaanpdjadakaaDoorEnds2
import Derived.Test.YtepaanpdjadakaaDoorEnds4
import Derived.Test.YtepaanpdjadakaaDoorEnds6
import Derived.Test.YtepaanpdjadakaaDoorSameE
import Derived.Test.YtepaanpdjadakaaDoorExpA
/-! ExpiryPlays' walk. -/
namespace Go.Proofs.YtepaanpdjadakaaDoor
open Go Go.RowKit

structure XOp where
  kind : Int
  id : Int
  at_ : Int
  deriving Inhabited
def XOp.enc (o : XOp) : List Value := [.int .i64 o.kind, .int .i64 o.id, .int .u64 o.at_]
abbrev XOp.enc_sz : Nat := 3
theorem XOp.enc_length (o : XOp) : o.enc.length = 3 := rfl
theorem XOp.enc_one (o : XOp) : ∀ u ∈ o.enc, u.oneCell' = true := by
  intro u hu
  simp only [XOp.enc, List.mem_cons, List.not_mem_nil, or_false] at hu
  rcases hu with rfl | rfl | rfl <;> rfl
theorem under_xop : ∃ fs : Array Field, Tryd.prog.underlying 54 = some (.struct fs) ∧ (fs[0]?.map fun f => (f.type, f.offset)) = some (3, 0) ∧ (fs[1]?.map fun f => (f.type, f.offset)) = some (3, 1) ∧ (fs[2]?.map fun f => (f.type, f.offset)) = some (23, 2) :=
  ⟨_, Tryd.underlying54, rfl, rfl, rfl⟩
theorem open1_xop {H : Type} {enc : TypeId × Value → H} {w : World} {base : Nat} {spare : Nat → Bool} {held : Bool} {fuel : Nat} {cs : List Value} {x : DataW H × List MemPlace} (h : DataW.trod enc Tryd.prog w base spare held fuel 54 cs = some x) : ∃ o : XOp, cs = o.enc := by
  obtain ⟨fs, hu, h0, h1, h2⟩ := under_xop
  obtain ⟨xs, n, rfl, rfl, hlen, hxl, hx⟩ := DataW.trod_struct hu h
  rw [show Tryd.prog.cellsOf 54 = 3 by kernel_rfl] at hlen
  obtain ⟨y0, e0⟩ := open_fld hx hxl h0
  obtain ⟨y1, e1⟩ := open_fld hx hxl h1
  obtain ⟨y2, e2⟩ := open_fld hx hxl h2
  rw [show Tryd.prog.cellsOf 3 = 1 by kernel_rfl] at e0 e1
  rw [show Tryd.prog.cellsOf 23 = 1 by kernel_rfl] at e2
  obtain ⟨a, ha, _, _⟩ := DataW.trod_int Tryd.underlying3 e0
  obtain ⟨b, hb, _, _⟩ := DataW.trod_int Tryd.underlying3 e1
  obtain ⟨c, hc, _, _⟩ := DataW.trod_int Tryd.underlying23 e2
  refine ⟨⟨a, b, c⟩, ?_⟩
  have c0 := cut_at' cs 0 1
  have c1 := cut_at' cs 1 1
  have c2 := cut_at' cs 2 1
  simp only [Nat.zero_add, Nat.reduceAdd] at c0 c1 c2
  rw [ha] at c0
  rw [hb] at c1
  rw [hc, List.drop_of_length_le (by omega : cs.length ≤ 3)] at c2
  rw [List.drop_zero] at c0
  rw [c0, c1, c2]
  rfl
/-- What the scan knows of an id behind the first entries. -/
def AtIs (S : List Ent) (id : Int) (j : Nat) (av iv : Value) : Prop :=
  (av = .int .u64 0 ∧ iv = .bool false ∧ ∀ i, i < j → (Hp.g S i).id ≠ id) ∨ ∃ i, i < j ∧ (Hp.g S i).id = id ∧ av = .int .u64 (Hp.g S i).due ∧ iv = .bool true
theorem atIs_end {S : List Ent} (hn : Nd S) {id : Int} {av iv : Value} (h : AtIs S id S.length av iv) : av = .int .u64 ((dueAt S id).getD 0) ∧ iv = .bool (dueAt S id).isSome := by
  rcases h with ⟨rfl, rfl, h⟩ | ⟨i, hi, rfl, rfl, rfl⟩
  · have : hasId S id = false := by
      unfold hasId
      rw [List.any_eq_false]
      intro x hx
      obtain ⟨i, hi, rfl⟩ := mem_g hx
      simpa using h i hi
    rw [dueAt_none this]
    exact ⟨rfl, rfl⟩
  · rw [dueAt_of hn (g_mem hi)]
    exact ⟨rfl, rfl⟩
theorem atIs_val {S : List Ent} {id : Int} {j : Nat} {av iv : Value} (h : AtIs S id j av iv) : ∃ (a : Int) (t : Bool), av = .int .u64 a ∧ iv = .bool t := by
  rcases h with ⟨rfl, rfl, _⟩ | ⟨i, _, _, rfl, rfl⟩
  · exact ⟨_, _, rfl, rfl⟩
  · exact ⟨_, _, rfl, rfl⟩
theorem atIs_no {S : List Ent} {id : Int} {j : Nat} {av iv : Value} (h : AtIs S id j av iv) (hj : (Hp.g S j).id ≠ id) : AtIs S id (j + 1) av iv := by
  rcases h with ⟨h1, h2, h3⟩ | ⟨i, hi, h1⟩
  · refine .inl ⟨h1, h2, fun i hi => ?_⟩
    by_cases e : i = j
    · rw [e]; exact hj
    · exact h3 i (by omega)
  · exact .inr ⟨i, by omega, h1⟩
theorem next_val (S : List Ent) : ∃ (y : Ent) (t : Bool), nextV S = .tuple #[.agg y.enc.toArray, .bool t] := by
  unfold nextV
  cases minE S with
  | none => exact ⟨⟨0, 0⟩, false, rfl⟩
  | some m => exact ⟨m, true, rfl⟩
theorem op_cells {B ob : Nat} {w0 w : World} {F : HP} {ok oi oa : Int} (h : Sat B w0 w (blk ob (.cells #[.int .i64 ok, .int .i64 oi, .int .u64 oa] 54) • F)) : w.cell? ⟨ob, 1, none⟩ = some (.int .i64 oi) ∧ w.cell? ⟨ob, 2, none⟩ = some (.int .u64 oa) :=
  ⟨cell_heap h.heap rfl, cell_heap h.heap rfl⟩
attribute [local irreducible] wpOrd
set_option maxRecDepth 8000 in
set_option maxHeartbeats 16000000 in
theorem plays_any (n : Int) (v0 : Value) (ops : List XOp) (w : World) (r0 : RowsAt XOp.enc w v0 ops) (hE : Et w) :
    Calls Tryd.prog 6 #[.int .i64 n, v0] w fun e w' => e = .returned (.bool true) ∧ Below w.heap.size w w' := by
  obtain ⟨A0, cp0, rfl⟩ := r0.form
  have hol := r0.2
  unfold maxLen at hol
  have e0 : errV 0 = .nilIface := rfl
  have hgd := ent_guard
  have c1 := qNew_any n (Sat.start w)
  go_enter Tryd.func6, Tryd.ntmps6
  go_wp2_with fail
  refine c1.mono ?_
  rintro e w1 ⟨q, rfl, hS1⟩
  have hS2 : Sat w.heap.size w _ (ends w1.heap.size n [] • queue q (roomOf n) [] • emp) := Sat.ends_shut (v := .slice none 0 0) (arr_nil (e := 34) (sz := 2) (hS1.alloc (.cells #[.int .i64 n, .slice none 0 0] 52))).pull2
  generalize hb : w1.heap.size = b at *
  clear c1 hS1
  go_wp2_with fail
  refine (awake17_any _ (hS2.et hE.pos hE)).mono ?_
  rintro e w3 ⟨rfl, hb3⟩
  have hS3 := hS2.below_ hb3
  clear hS2 hb3 hb
  go_wp2_with fail
  go_loopw [7] (fun i wr => ∃ (k : Nat) (S : List Ent), k ≤ ops.length ∧ k ≤ 120 ∧ i = .int .i64 k ∧ Sat w.heap.size w wr (ends b n S • queue q (roomOf n) S • emp)) (fun i _ => ops.length - (intOf i).toNat)
  case atStart => exact ⟨0, [], Nat.zero_le _, by omega, rfl, hS3⟩
  case round =>
    clear hS3
    obtain ⟨k, S, hk, hk120, rfl, hS⟩ := hrel
    by_cases hlt : k < ops.length ∧ k < 120
    · obtain ⟨hl1, hl2⟩ := hlt
      obtain ⟨o, ho⟩ : ∃ o, ops[k]? = some o := ⟨_, List.getElem?_eq_getElem hl1⟩
      obtain ⟨a, ca, hva⟩ := r0.some_addr ho
      cases hva
      have hld := (r0.below hS.below).agg_at Tryd.underlying54 rfl (by kernel_rfl) XOp.enc_length ho rfl
      have hst : ∀ (W : World) (z : Array Value), z.size = 3 → (Instr.storeAt 54 (.pointer (some ⟨W.heap.size, 0, none⟩)) (.agg o.enc.toArray)).run Tryd.prog (W.alloc (.cells z 54)) = .ok () (W.alloc (.cells o.enc.toArray 54)) :=
        fun W z hz => run_storeAt_new (v := .agg o.enc.toArray) (by simp only [Value.cells, List.size_toArray, XOp.enc_length]; kernel_rfl) (by simp only [Value.cells, List.size_toArray, XOp.enc_length]; exact hz) (by simpa [Value.cells] using o.enc_one)
      have hq1 := hS.pull2.queue_len
      have hnd := hS.pull2.queue_nd
      have hSl : S.length ≤ 1000 := by omega
      obtain ⟨ok, oi, oa⟩ := o
      simp only [XOp.enc] at hld hst
      have hS4 := hS.alloc (.cells #[.int .i64 ok, .int .i64 oi, .int .u64 oa] 54)
      have d1 : (wr.alloc (.cells #[.int .i64 ok, .int .i64 oi, .int .u64 oa] 54)).cell? ⟨wr.heap.size, 1, none⟩ = some (.int .i64 oi) := by rw [cell_new]; rfl
      have d2 : (wr.alloc (.cells #[.int .i64 ok, .int .i64 oi, .int .u64 oa] 54)).cell? ⟨wr.heap.size, 2, none⟩ = some (.int .u64 oa) := by rw [cell_new]; rfl
      clear ho hS hk hk120
      generalize hob : wr.heap.size = ob at *
      generalize hW : wr.alloc (.cells #[.int .i64 ok, .int .i64 oi, .int .u64 oa] 54) = W at *
      have HOB := Lib.hid hob
      have HW := Lib.hid hW
      clear hob hW
      by_cases h1 : ok = 1
      · have hb1 : (ok == 1) = true := by simpa using h1
        clear h1
        go_wp2_with (first | (refine wpList_load_run (t := 54) rfl rfl rfl hld ?_) | (refine wpList_store_run (t := 54) rfl rfl rfl rfl (hst _ _ rfl) ?_))
        rw [HW.out, HOB.out]
        try go_frame
        have hS5 := hS4.drew
        clear hld hst HW HOB
        refine wp_region_ord [(0, .pure), (1, .pure), (2, .quiet), (3, .pure), (4, .quiet), (6, .pure), (7, .pure), (8, .quiet), (9, .pure), (10, .quiet), (5, .acts), (11, .acts), (12, .acts), (13, .pure)] (by kernel_rfl) (by kernel_rfl)
          (fun w' => w'.cell? ⟨ob, 1, none⟩ = some (.int .i64 oi) ∧ w'.cell? ⟨ob, 2, none⟩ = some (.int .u64 oa)) (op_cells hS5) ?_
        iterate 2 (refine ord_pure rfl rfl rfl (fun K' hK => ?_); go_big_quiet_op; refine hK _ ?_; clear hK K')
        refine ord_load (t := 3) rfl rfl rfl (p := .pointer (some ⟨ob, 1, none⟩)) (v := .int .i64 oi) rfl (fun w' hC => load_one Tryd.underlying3 rfl hC.1) (fun K' hK => ?_)
        go_simp
        refine hK _ ?_
        clear hK K'
        iterate 1 (refine ord_pure rfl rfl rfl (fun K' hK => ?_); go_big_quiet_op; refine hK _ ?_; clear hK K')
        refine ord_load (t := 23) rfl rfl rfl (p := .pointer (some ⟨ob, 2, none⟩)) (v := .int .u64 oa) rfl (fun w' hC => load_one Tryd.underlying23 rfl hC.2) (fun K' hK => ?_)
        go_simp
        refine hK _ ?_
        clear hK K'
        iterate 2 (refine ord_pure rfl rfl rfl (fun K' hK => ?_); go_big_quiet_op; refine hK _ ?_; clear hK K')
        refine ord_load (t := 3) rfl rfl rfl (p := .pointer (some ⟨ob, 1, none⟩)) (v := .int .i64 oi) rfl (fun w' hC => load_one Tryd.underlying3 rfl hC.1) (fun K' hK => ?_)
        go_simp
        refine hK _ ?_
        clear hK K'
        iterate 1 (refine ord_pure rfl rfl rfl (fun K' hK => ?_); go_big_quiet_op; refine hK _ ?_; clear hK K')
        refine ord_load (t := 23) rfl rfl rfl (p := .pointer (some ⟨ob, 2, none⟩)) (v := .int .u64 oa) rfl (fun w' hC => load_one Tryd.underlying23 rfl hC.2) (fun K' hK => ?_)
        go_simp
        refine hK _ ?_
        clear hK K'
        refine ord_acts rfl rfl (fun K' hK => ?_)
        go_simp
        refine (qMove_any hS5.pull3 oi oa).mono ?_
        rintro e wa ⟨rfl, hT⟩
        refine hK _ _ (op_cells hT.pull2) ?_
        clear hK K'
        go_simp
        refine ord_acts rfl rfl (fun K' hK => ?_)
        go_simp
        refine (eMove_any hT.pull3 hSl hnd oi oa).mono ?_
        rintro e wb ⟨rfl, hU⟩
        refine hK _ _ (op_cells hU.pull3) ?_
        clear hK K'
        go_simp
        refine ord_acts rfl rfl (fun K' hK => ?_)
        go_simp
        refine (same_any _ _ _ (hU.et hE.pos hE)).mono ?_
        rintro e wc ⟨rfl, hb⟩
        rw [beq_self_eq_true]
        have hV := hU.below_ hb
        refine hK _ _ (op_cells hV.pull3) ?_
        clear hK K'
        go_simp
        iterate 1 (refine ord_pure rfl rfl rfl (fun K' hK => ?_); go_big_quiet_op; refine hK _ ?_; clear hK K')
        refine ord_nil ?_
        clear hU hT hS5 hS4 d1 d2
        generalize withDue S oi oa = S2 at *
        have hq2 := hV.pull2.queue_len
        have hnd2 := hV.pull2.queue_nd
        have hSl2 : S2.length ≤ 1000 := by omega
        obtain ⟨y, tt, hnv⟩ := next_val S2
        obtain ⟨yi, yd⟩ := y
        have hqq : ∀ w, (Op.equalIn 10000 34 (.agg #[.int .i64 yi, .int .u64 yd]) (.agg #[.int .i64 yi, .int .u64 yd])).run Tryd.prog w = .ok true w := fun w => by
          have := ent_eq (w := w) 9998 ⟨yi, yd⟩ ⟨yi, yd⟩
          simpa [EqV, Ent.enc] using this
        have c5 := qNext_any hV.pull2
        rw [hnv] at c5
        simp only [Ent.enc] at c5
        clear hnd hq1 hSl
        go_wp2_with fail
        refine c5.mono ?_
        rintro e w5 ⟨rfl, hb5⟩
        have hX1 := (hV.below_ hb5).alloc (.cells #[.int .i64 yi, .int .u64 yd] 34)
        have c6 := eNext_any hX1.pull2 hSl2
        rw [hnv] at c6
        simp only [Ent.enc] at c6
        clear c5 hV hb5 hnv
        go_wp2_with fail
        refine c6.mono ?_
        rintro e w6 ⟨rfl, hX2⟩
        have hX3 := hX2.alloc (.cells #[.int .i64 yi, .int .u64 yd] 34)
        have d1o : (w6.alloc (.cells #[.int .i64 yi, .int .u64 yd] 34)).cell? ⟨ob, 1, none⟩ = some (.int .i64 oi) := (op_cells (hX3.to (by ac_rfl : _ = blk ob (.cells #[.int .i64 ok, .int .i64 oi, .int .u64 oa] 54) • blk w6.heap.size (.cells #[.int .i64 yi, .int .u64 yd] 34) • ends b n S2 • blk w5.heap.size (.cells #[.int .i64 yi, .int .u64 yd] 34) • queue q (roomOf n) S2 • emp))).1
        have c7 := qAt_any hX3.pull4 oi
        clear c6 hX1 hX2
        go_wp2_with fail
        refine c7.mono ?_
        rintro e w7 ⟨rfl, rfl⟩
        clear c7 d1o
        go_wp2_with fail
        go_loopw [16, 17, 18] (fun av iv jj wz => ∃ j : Nat, j ≤ S2.length ∧ jj = .int .i64 j ∧ AtIs S2 oi j av iv ∧ Sat w.heap.size w wz (blk w6.heap.size (.cells #[.int .i64 yi, .int .u64 yd] 34) • ends b n S2 • blk w5.heap.size (.cells #[.int .i64 yi, .int .u64 yd] 34) • queue q (roomOf n) S2 • blk ob (.cells #[.int .i64 ok, .int .i64 oi, .int .u64 oa] 54) • emp)) (fun _ _ jj _ => S2.length - (intOf jj).toNat)
        case atStart => exact ⟨0, Nat.zero_le _, rfl, .inl ⟨rfl, rfl, fun i hi => absurd hi (Nat.not_lt_zero _)⟩, hX3⟩
        case round =>
          clear hX3
          obtain ⟨j, hj, rfl, HA, hZ⟩ := hrel
          obtain ⟨Ae, ce, hO⟩ := hZ.pull2.ends_open
          have d1e : wr.cell? ⟨b, 1, none⟩ = some (.slice Ae S2.length ce) := by simp [World.cell?, hO.heap]
          have d1o := (op_cells (hZ.to (by ac_rfl : _ = blk ob (.cells #[.int .i64 ok, .int .i64 oi, .int .u64 oa] 54) • blk w6.heap.size (.cells #[.int .i64 yi, .int .u64 yd] 34) • ends b n S2 • blk w5.heap.size (.cells #[.int .i64 yi, .int .u64 yd] 34) • queue q (roomOf n) S2 • emp))).1
          by_cases hjl : j < S2.length
          · obtain ⟨g, rfl, _, hcx⟩ := hO.pull2.arr_at Ent.enc_length rfl (g_get hjl)
            have dx0 := hcx 0 _ rfl
            have dx1 := hcx 1 _ rfl
            rw [Nat.add_zero] at dx0
            by_cases hid : (Hp.g S2 j).id = oi
            · have HR : Hid (AtIs S2 oi (j + 1) (.int .u64 (Hp.g S2 j).due) (.bool true)) := Lib.hid (.inr ⟨j, by omega, hid, rfl, rfl⟩)
              rw [hid] at dx0
              clear hO hcx HA hid
              generalize Hp.g S2 j = x at *
              go_wp2_with fail
              try go_frame
              refine wp_region_ord [(0, .pure), (1, .pure), (2, .pure), (3, .quiet), (4, .pure), (5, .pure), (6, .pure), (7, .quiet), (8, .pure), (9, .quiet), (10, .pure)] (by kernel_rfl) (by kernel_rfl)
                (fun w' => ∀ p, w'.cell? p = wr.cell? p) (fun _ => rfl) ?_
              iterate 3 (refine ord_pure rfl rfl rfl (fun K' hK => ?_); go_big_quiet_op; refine hK _ ?_; clear hK K')
              refine ord_load (t := 30) rfl rfl rfl (p := .pointer (some ⟨b, 1, none⟩)) (v := .slice (some ⟨g, 0, none⟩) S2.length ce) rfl (fun w' hC => load_one Tryd.underlying30 rfl (by rw [hC]; exact d1e)) (fun K' hK => ?_)
              go_simp
              refine hK _ ?_
              clear hK K'
              iterate 3 (refine ord_pure rfl rfl rfl (fun K' hK => ?_); go_big_quiet_op; refine hK _ ?_; clear hK K')
              refine ord_load (t := 3) rfl rfl rfl (p := .pointer (some ⟨g, j * 2, none⟩)) (v := .int .i64 oi) rfl (fun w' hC => load_one Tryd.underlying3 rfl (by rw [hC]; exact dx0)) (fun K' hK => ?_)
              go_simp
              refine hK _ ?_
              clear hK K'
              iterate 1 (refine ord_pure rfl rfl rfl (fun K' hK => ?_); go_big_quiet_op; refine hK _ ?_; clear hK K')
              refine ord_load (t := 3) rfl rfl rfl (p := .pointer (some ⟨ob, 1, none⟩)) (v := .int .i64 oi) rfl (fun w' hC => load_one Tryd.underlying3 rfl (by rw [hC]; exact d1o)) (fun K' hK => ?_)
              go_simp
              refine hK _ ?_
              clear hK K'
              iterate 1 (refine ord_pure rfl rfl rfl (fun K' hK => ?_); go_big_quiet_op; refine hK _ ?_; clear hK K')
              refine ord_nil ?_
              go_wp2_with fail
              go_roundw
              case rel => exact ⟨j + 1, by omega, by go_num, HR.out, hZ.drew⟩
              case measure => simp [intOf]; omega
            · have HR := Lib.hid (atIs_no HA hid)
              have hidb : ((Hp.g S2 j).id == oi) = false := by simpa using hid
              clear hO hcx HA hid
              generalize Hp.g S2 j = x at *
              go_wp2_with fail
              try go_frame
              refine wp_region_ord [(0, .pure), (1, .pure), (2, .pure), (3, .quiet), (4, .pure), (5, .pure), (6, .pure), (7, .quiet), (8, .pure), (9, .quiet), (10, .pure)] (by kernel_rfl) (by kernel_rfl)
                (fun w' => ∀ p, w'.cell? p = wr.cell? p) (fun _ => rfl) ?_
              iterate 3 (refine ord_pure rfl rfl rfl (fun K' hK => ?_); go_big_quiet_op; refine hK _ ?_; clear hK K')
              refine ord_load (t := 30) rfl rfl rfl (p := .pointer (some ⟨b, 1, none⟩)) (v := .slice (some ⟨g, 0, none⟩) S2.length ce) rfl (fun w' hC => load_one Tryd.underlying30 rfl (by rw [hC]; exact d1e)) (fun K' hK => ?_)
              go_simp
              refine hK _ ?_
              clear hK K'
              iterate 3 (refine ord_pure rfl rfl rfl (fun K' hK => ?_); go_big_quiet_op; refine hK _ ?_; clear hK K')
              refine ord_load (t := 3) rfl rfl rfl (p := .pointer (some ⟨g, j * 2, none⟩)) (v := .int .i64 x.id) rfl (fun w' hC => load_one Tryd.underlying3 rfl (by rw [hC]; exact dx0)) (fun K' hK => ?_)
              go_simp
              refine hK _ ?_
              clear hK K'
              iterate 1 (refine ord_pure rfl rfl rfl (fun K' hK => ?_); go_big_quiet_op; refine hK _ ?_; clear hK K')
              refine ord_load (t := 3) rfl rfl rfl (p := .pointer (some ⟨ob, 1, none⟩)) (v := .int .i64 oi) rfl (fun w' hC => load_one Tryd.underlying3 rfl (by rw [hC]; exact d1o)) (fun K' hK => ?_)
              go_simp
              refine hK _ ?_
              clear hK K'
              iterate 1 (refine ord_pure rfl rfl rfl (fun K' hK => ?_); go_big_quiet_op; refine hK _ ?_; clear hK K')
              refine ord_nil ?_
              go_wp2_with fail
              go_roundw
              case rel => exact ⟨j + 1, by omega, by go_num, HR.out, hZ.drew⟩
              case measure => simp [intOf]; omega
          · obtain rfl : j = S2.length := by omega
            obtain ⟨rfl, rfl⟩ := atIs_end hnd2 HA
            have hO5 := (hO.to (by ac_rfl : _ = blk b (.cells #[.int .i64 n, .slice Ae S2.length ce] 52) • blk w6.heap.size (.cells #[.int .i64 yi, .int .u64 yd] 34) • blk w5.heap.size (.cells #[.int .i64 yi, .int .u64 yd] 34) • queue q (roomOf n) S2 • arr 34 2 (.slice Ae S2.length ce) S2.length (S2.flatMap Ent.enc) • blk ob (.cells #[.int .i64 ok, .int .i64 oi, .int .u64 oa] 54) • emp)).drew
            have HZ := Lib.hid ((hZ.drew.to (by ac_rfl : _ = blk w6.heap.size (.cells #[.int .i64 yi, .int .u64 yd] 34) • blk w5.heap.size (.cells #[.int .i64 yi, .int .u64 yd] 34) • blk ob (.cells #[.int .i64 ok, .int .i64 oi, .int .u64 oa] 54) • ends b n S2 • queue q (roomOf n) S2 • emp)).drop.drop.drop)
            have c8 := qLen_any hO5.pull4
            clear hO HA hZ d1o
            generalize (dueAt S2 oi).getD 0 = da at *
            generalize (dueAt S2 oi).isSome = db at *
            go_wp2_with fail
            try go_frame
            refine wp_region_ord [(0, .pure), (1, .pure), (2, .pure), (3, .quiet), (4, .quiet), (5, .pure), (6, .pure), (7, .pure), (8, .pure), (9, .pure), (10, .pure), (11, .pure), (12, .pure), (13, .pure), (15, .pure), (16, .pure), (17, .pure), (18, .quiet), (19, .pure), (14, .acts), (20, .pure), (21, .pure), (22, .pure), (23, .pure), (24, .pure), (25, .pure), (26, .pure), (27, .pure), (28, .pure), (29, .pure), (30, .pure), (31, .pure)] (by kernel_rfl) (by kernel_rfl)
              (fun w' => Sat w.heap.size w w' (blk b (.cells #[.int .i64 n, .slice Ae S2.length ce] 52) • blk w6.heap.size (.cells #[.int .i64 yi, .int .u64 yd] 34) • blk w5.heap.size (.cells #[.int .i64 yi, .int .u64 yd] 34) • queue q (roomOf n) S2 • arr 34 2 (.slice Ae S2.length ce) S2.length (S2.flatMap Ent.enc) • blk ob (.cells #[.int .i64 ok, .int .i64 oi, .int .u64 oa] 54) • emp)) hO5 ?_
            iterate 3 (refine ord_pure rfl rfl rfl (fun K' hK => ?_); go_big_quiet_op; refine hK _ ?_; clear hK K')
            refine ord_load (t := 34) rfl rfl rfl (p := .pointer (some ⟨w5.heap.size, 0, none⟩)) (v := .agg #[.int .i64 yi, .int .u64 yd]) rfl (fun w' hC => run_loadAt_row (cs := [.int .i64 yi, .int .u64 yd]) hC.pull3.heap Tryd.underlying34 rfl (by kernel_rfl) (fun j u hu => by simpa using hu)) (fun K' hK => ?_)
            go_simp
            refine hK _ ?_
            clear hK K'
            refine ord_load (t := 34) rfl rfl rfl (p := .pointer (some ⟨w6.heap.size, 0, none⟩)) (v := .agg #[.int .i64 yi, .int .u64 yd]) rfl (fun w' hC => run_loadAt_row (cs := [.int .i64 yi, .int .u64 yd]) hC.pull2.heap Tryd.underlying34 rfl (by kernel_rfl) (fun j u hu => by simpa using hu)) (fun K' hK => ?_)
            go_simp
            refine hK _ ?_
            clear hK K'
            iterate 12 (refine ord_pure rfl rfl rfl (fun K' hK => ?_); go_big_quiet_op; refine hK _ ?_; clear hK K')
            refine ord_load (t := 30) rfl rfl rfl (p := .pointer (some ⟨b, 1, none⟩)) (v := .slice Ae S2.length ce) rfl (fun w' hC => load_one Tryd.underlying30 rfl (by simp [World.cell?, hC.heap])) (fun K' hK => ?_)
            go_simp
            refine hK _ ?_
            clear hK K'
            iterate 1 (refine ord_pure rfl rfl rfl (fun K' hK => ?_); go_big_quiet_op; refine hK _ ?_; clear hK K')
            refine ord_acts rfl rfl (fun K' hK => ?_)
            go_simp
            refine (c8).mono ?_
            rintro e wx ⟨rfl, rfl⟩
            refine hK _ _ (hO5) ?_
            clear hK K'
            go_simp
            iterate 12 (refine ord_pure rfl rfl rfl (fun K' hK => ?_); go_big_quiet_op; refine hK _ ?_; clear hK K')
            refine ord_nil ?_
            go_wp2_with fail
            go_roundw
            case rel => exact ⟨k + 1, S2, by omega, by omega, by go_num, HZ.out⟩
            case measure => simp [intOf]; omega
      · have hb1 : (ok == 1) = false := by simpa using h1
        clear h1
        by_cases h2 : ok = 2
        · have hb2 : (ok == 2) = true := by simpa using h2
          clear h2
          go_wp2_with (first | (refine wpList_load_run (t := 54) rfl rfl rfl hld ?_) | (refine wpList_store_run (t := 54) rfl rfl rfl rfl (hst _ _ rfl) ?_))
          rw [HW.out, HOB.out]
          try go_frame
          have hS5 := hS4.drew
          clear hld hst HW HOB
          refine wp_region_ord [(0, .pure), (1, .pure), (2, .quiet), (4, .pure), (5, .pure), (6, .quiet), (3, .acts), (7, .acts), (8, .acts), (9, .pure)] (by kernel_rfl) (by kernel_rfl)
            (fun w' => w'.cell? ⟨ob, 1, none⟩ = some (.int .i64 oi) ∧ w'.cell? ⟨ob, 2, none⟩ = some (.int .u64 oa)) (op_cells hS5) ?_
          iterate 2 (refine ord_pure rfl rfl rfl (fun K' hK => ?_); go_big_quiet_op; refine hK _ ?_; clear hK K')
          refine ord_load (t := 3) rfl rfl rfl (p := .pointer (some ⟨ob, 1, none⟩)) (v := .int .i64 oi) rfl (fun w' hC => load_one Tryd.underlying3 rfl hC.1) (fun K' hK => ?_)
          go_simp
          refine hK _ ?_
          clear hK K'
          iterate 2 (refine ord_pure rfl rfl rfl (fun K' hK => ?_); go_big_quiet_op; refine hK _ ?_; clear hK K')
          refine ord_load (t := 3) rfl rfl rfl (p := .pointer (some ⟨ob, 1, none⟩)) (v := .int .i64 oi) rfl (fun w' hC => load_one Tryd.underlying3 rfl hC.1) (fun K' hK => ?_)
          go_simp
          refine hK _ ?_
          clear hK K'
          refine ord_acts rfl rfl (fun K' hK => ?_)
          go_simp
          refine (qCancel_any hS5.pull3 oi).mono ?_
          rintro e wa ⟨rfl, hT⟩
          refine hK _ _ (op_cells hT.pull2) ?_
          clear hK K'
          go_simp
          refine ord_acts rfl rfl (fun K' hK => ?_)
          go_simp
          refine (eCancel_any hT.pull3 hSl hnd oi).mono ?_
          rintro e wb ⟨rfl, hU⟩
          refine hK _ _ (op_cells hU.pull3) ?_
          clear hK K'
          go_simp
          refine ord_acts rfl rfl (fun K' hK => ?_)
          go_simp
          refine (same_any _ _ _ (hU.et hE.pos hE)).mono ?_
          rintro e wc ⟨rfl, hb⟩
          rw [beq_self_eq_true]
          have hV := hU.below_ hb
          refine hK _ _ (op_cells hV.pull3) ?_
          clear hK K'
          go_simp
          iterate 1 (refine ord_pure rfl rfl rfl (fun K' hK => ?_); go_big_quiet_op; refine hK _ ?_; clear hK K')
          refine ord_nil ?_
          clear hU hT hS5 hS4 d1 d2
          generalize without S oi = S2 at *
          have hq2 := hV.pull2.queue_len
          have hnd2 := hV.pull2.queue_nd
          have hSl2 : S2.length ≤ 1000 := by omega
          obtain ⟨y, tt, hnv⟩ := next_val S2
          obtain ⟨yi, yd⟩ := y
          have hqq : ∀ w, (Op.equalIn 10000 34 (.agg #[.int .i64 yi, .int .u64 yd]) (.agg #[.int .i64 yi, .int .u64 yd])).run Tryd.prog w = .ok true w := fun w => by
            have := ent_eq (w := w) 9998 ⟨yi, yd⟩ ⟨yi, yd⟩
            simpa [EqV, Ent.enc] using this
          have c5 := qNext_any hV.pull2
          rw [hnv] at c5
          simp only [Ent.enc] at c5
          clear hnd hq1 hSl
          go_wp2_with fail
          refine c5.mono ?_
          rintro e w5 ⟨rfl, hb5⟩
          have hX1 := (hV.below_ hb5).alloc (.cells #[.int .i64 yi, .int .u64 yd] 34)
          have c6 := eNext_any hX1.pull2 hSl2
          rw [hnv] at c6
          simp only [Ent.enc] at c6
          clear c5 hV hb5 hnv
          go_wp2_with fail
          refine c6.mono ?_
          rintro e w6 ⟨rfl, hX2⟩
          have hX3 := hX2.alloc (.cells #[.int .i64 yi, .int .u64 yd] 34)
          have d1o : (w6.alloc (.cells #[.int .i64 yi, .int .u64 yd] 34)).cell? ⟨ob, 1, none⟩ = some (.int .i64 oi) := (op_cells (hX3.to (by ac_rfl : _ = blk ob (.cells #[.int .i64 ok, .int .i64 oi, .int .u64 oa] 54) • blk w6.heap.size (.cells #[.int .i64 yi, .int .u64 yd] 34) • ends b n S2 • blk w5.heap.size (.cells #[.int .i64 yi, .int .u64 yd] 34) • queue q (roomOf n) S2 • emp))).1
          have c7 := qAt_any hX3.pull4 oi
          clear c6 hX1 hX2
          go_wp2_with fail
          refine c7.mono ?_
          rintro e w7 ⟨rfl, rfl⟩
          clear c7 d1o
          go_wp2_with fail
          go_loopw [16, 17, 18] (fun av iv jj wz => ∃ j : Nat, j ≤ S2.length ∧ jj = .int .i64 j ∧ AtIs S2 oi j av iv ∧ Sat w.heap.size w wz (blk w6.heap.size (.cells #[.int .i64 yi, .int .u64 yd] 34) • ends b n S2 • blk w5.heap.size (.cells #[.int .i64 yi, .int .u64 yd] 34) • queue q (roomOf n) S2 • blk ob (.cells #[.int .i64 ok, .int .i64 oi, .int .u64 oa] 54) • emp)) (fun _ _ jj _ => S2.length - (intOf jj).toNat)
          case atStart => exact ⟨0, Nat.zero_le _, rfl, .inl ⟨rfl, rfl, fun i hi => absurd hi (Nat.not_lt_zero _)⟩, hX3⟩
          case round =>
            clear hX3
            obtain ⟨j, hj, rfl, HA, hZ⟩ := hrel
            obtain ⟨Ae, ce, hO⟩ := hZ.pull2.ends_open
            have d1e : wr.cell? ⟨b, 1, none⟩ = some (.slice Ae S2.length ce) := by simp [World.cell?, hO.heap]
            have d1o := (op_cells (hZ.to (by ac_rfl : _ = blk ob (.cells #[.int .i64 ok, .int .i64 oi, .int .u64 oa] 54) • blk w6.heap.size (.cells #[.int .i64 yi, .int .u64 yd] 34) • ends b n S2 • blk w5.heap.size (.cells #[.int .i64 yi, .int .u64 yd] 34) • queue q (roomOf n) S2 • emp))).1
            by_cases hjl : j < S2.length
            · obtain ⟨g, rfl, _, hcx⟩ := hO.pull2.arr_at Ent.enc_length rfl (g_get hjl)
              have dx0 := hcx 0 _ rfl
              have dx1 := hcx 1 _ rfl
              rw [Nat.add_zero] at dx0
              by_cases hid : (Hp.g S2 j).id = oi
              · have HR : Hid (AtIs S2 oi (j + 1) (.int .u64 (Hp.g S2 j).due) (.bool true)) := Lib.hid (.inr ⟨j, by omega, hid, rfl, rfl⟩)
                rw [hid] at dx0
                clear hO hcx HA hid
                generalize Hp.g S2 j = x at *
                go_wp2_with fail
                try go_frame
                refine wp_region_ord [(0, .pure), (1, .pure), (2, .pure), (3, .quiet), (4, .pure), (5, .pure), (6, .pure), (7, .quiet), (8, .pure), (9, .quiet), (10, .pure)] (by kernel_rfl) (by kernel_rfl)
                  (fun w' => ∀ p, w'.cell? p = wr.cell? p) (fun _ => rfl) ?_
                iterate 3 (refine ord_pure rfl rfl rfl (fun K' hK => ?_); go_big_quiet_op; refine hK _ ?_; clear hK K')
                refine ord_load (t := 30) rfl rfl rfl (p := .pointer (some ⟨b, 1, none⟩)) (v := .slice (some ⟨g, 0, none⟩) S2.length ce) rfl (fun w' hC => load_one Tryd.underlying30 rfl (by rw [hC]; exact d1e)) (fun K' hK => ?_)
                go_simp
                refine hK _ ?_
                clear hK K'
                iterate 3 (refine ord_pure rfl rfl rfl (fun K' hK => ?_); go_big_quiet_op; refine hK _ ?_; clear hK K')
                refine ord_load (t := 3) rfl rfl rfl (p := .pointer (some ⟨g, j * 2, none⟩)) (v := .int .i64 oi) rfl (fun w' hC => load_one Tryd.underlying3 rfl (by rw [hC]; exact dx0)) (fun K' hK => ?_)
                go_simp
                refine hK _ ?_
                clear hK K'
                iterate 1 (refine ord_pure rfl rfl rfl (fun K' hK => ?_); go_big_quiet_op; refine hK _ ?_; clear hK K')
                refine ord_load (t := 3) rfl rfl rfl (p := .pointer (some ⟨ob, 1, none⟩)) (v := .int .i64 oi) rfl (fun w' hC => load_one Tryd.underlying3 rfl (by rw [hC]; exact d1o)) (fun K' hK => ?_)
                go_simp
                refine hK _ ?_
                clear hK K'
                iterate 1 (refine ord_pure rfl rfl rfl (fun K' hK => ?_); go_big_quiet_op; refine hK _ ?_; clear hK K')
                refine ord_nil ?_
                go_wp2_with fail
                go_roundw
                case rel => exact ⟨j + 1, by omega, by go_num, HR.out, hZ.drew⟩
                case measure => simp [intOf]; omega
              · have HR := Lib.hid (atIs_no HA hid)
                have hidb : ((Hp.g S2 j).id == oi) = false := by simpa using hid
                clear hO hcx HA hid
                generalize Hp.g S2 j = x at *
                go_wp2_with fail
                try go_frame
                refine wp_region_ord [(0, .pure), (1, .pure), (2, .pure), (3, .quiet), (4, .pure), (5, .pure), (6, .pure), (7, .quiet), (8, .pure), (9, .quiet), (10, .pure)] (by kernel_rfl) (by kernel_rfl)
                  (fun w' => ∀ p, w'.cell? p = wr.cell? p) (fun _ => rfl) ?_
                iterate 3 (refine ord_pure rfl rfl rfl (fun K' hK => ?_); go_big_quiet_op; refine hK _ ?_; clear hK K')
                refine ord_load (t := 30) rfl rfl rfl (p := .pointer (some ⟨b, 1, none⟩)) (v := .slice (some ⟨g, 0, none⟩) S2.length ce) rfl (fun w' hC => load_one Tryd.underlying30 rfl (by rw [hC]; exact d1e)) (fun K' hK => ?_)
                go_simp
                refine hK _ ?_
                clear hK K'
                iterate 3 (refine ord_pure rfl rfl rfl (fun K' hK => ?_); go_big_quiet_op; refine hK _ ?_; clear hK K')
                refine ord_load (t := 3) rfl rfl rfl (p := .pointer (some ⟨g, j * 2, none⟩)) (v := .int .i64 x.id) rfl (fun w' hC => load_one Tryd.underlying3 rfl (by rw [hC]; exact dx0)) (fun K' hK => ?_)
                go_simp
                refine hK _ ?_
                clear hK K'
                iterate 1 (refine ord_pure rfl rfl rfl (fun K' hK => ?_); go_big_quiet_op; refine hK _ ?_; clear hK K')
                refine ord_load (t := 3) rfl rfl rfl (p := .pointer (some ⟨ob, 1, none⟩)) (v := .int .i64 oi) rfl (fun w' hC => load_one Tryd.underlying3 rfl (by rw [hC]; exact d1o)) (fun K' hK => ?_)
                go_simp
                refine hK _ ?_
                clear hK K'
                iterate 1 (refine ord_pure rfl rfl rfl (fun K' hK => ?_); go_big_quiet_op; refine hK _ ?_; clear hK K')
                refine ord_nil ?_
                go_wp2_with fail
                go_roundw
                case rel => exact ⟨j + 1, by omega, by go_num, HR.out, hZ.drew⟩
                case measure => simp [intOf]; omega
            · obtain rfl : j = S2.length := by omega
              obtain ⟨rfl, rfl⟩ := atIs_end hnd2 HA
              have hO5 := (hO.to (by ac_rfl : _ = blk b (.cells #[.int .i64 n, .slice Ae S2.length ce] 52) • blk w6.heap.size (.cells #[.int .i64 yi, .int .u64 yd] 34) • blk w5.heap.size (.cells #[.int .i64 yi, .int .u64 yd] 34) • queue q (roomOf n) S2 • arr 34 2 (.slice Ae S2.length ce) S2.length (S2.flatMap Ent.enc) • blk ob (.cells #[.int .i64 ok, .int .i64 oi, .int .u64 oa] 54) • emp)).drew
              have HZ := Lib.hid ((hZ.drew.to (by ac_rfl : _ = blk w6.heap.size (.cells #[.int .i64 yi, .int .u64 yd] 34) • blk w5.heap.size (.cells #[.int .i64 yi, .int .u64 yd] 34) • blk ob (.cells #[.int .i64 ok, .int .i64 oi, .int .u64 oa] 54) • ends b n S2 • queue q (roomOf n) S2 • emp)).drop.drop.drop)
              have c8 := qLen_any hO5.pull4
              clear hO HA hZ d1o
              generalize (dueAt S2 oi).getD 0 = da at *
              generalize (dueAt S2 oi).isSome = db at *
              go_wp2_with fail
              try go_frame
              refine wp_region_ord [(0, .pure), (1, .pure), (2, .pure), (3, .quiet), (4, .quiet), (5, .pure), (6, .pure), (7, .pure), (8, .pure), (9, .pure), (10, .pure), (11, .pure), (12, .pure), (13, .pure), (15, .pure), (16, .pure), (17, .pure), (18, .quiet), (19, .pure), (14, .acts), (20, .pure), (21, .pure), (22, .pure), (23, .pure), (24, .pure), (25, .pure), (26, .pure), (27, .pure), (28, .pure), (29, .pure), (30, .pure), (31, .pure)] (by kernel_rfl) (by kernel_rfl)
                (fun w' => Sat w.heap.size w w' (blk b (.cells #[.int .i64 n, .slice Ae S2.length ce] 52) • blk w6.heap.size (.cells #[.int .i64 yi, .int .u64 yd] 34) • blk w5.heap.size (.cells #[.int .i64 yi, .int .u64 yd] 34) • queue q (roomOf n) S2 • arr 34 2 (.slice Ae S2.length ce) S2.length (S2.flatMap Ent.enc) • blk ob (.cells #[.int .i64 ok, .int .i64 oi, .int .u64 oa] 54) • emp)) hO5 ?_
              iterate 3 (refine ord_pure rfl rfl rfl (fun K' hK => ?_); go_big_quiet_op; refine hK _ ?_; clear hK K')
              refine ord_load (t := 34) rfl rfl rfl (p := .pointer (some ⟨w5.heap.size, 0, none⟩)) (v := .agg #[.int .i64 yi, .int .u64 yd]) rfl (fun w' hC => run_loadAt_row (cs := [.int .i64 yi, .int .u64 yd]) hC.pull3.heap Tryd.underlying34 rfl (by kernel_rfl) (fun j u hu => by simpa using hu)) (fun K' hK => ?_)
              go_simp
              refine hK _ ?_
              clear hK K'
              refine ord_load (t := 34) rfl rfl rfl (p := .pointer (some ⟨w6.heap.size, 0, none⟩)) (v := .agg #[.int .i64 yi, .int .u64 yd]) rfl (fun w' hC => run_loadAt_row (cs := [.int .i64 yi, .int .u64 yd]) hC.pull2.heap Tryd.underlying34 rfl (by kernel_rfl) (fun j u hu => by simpa using hu)) (fun K' hK => ?_)
              go_simp
              refine hK _ ?_
              clear hK K'
              iterate 12 (refine ord_pure rfl rfl rfl (fun K' hK => ?_); go_big_quiet_op; refine hK _ ?_; clear hK K')
              refine ord_load (t := 30) rfl rfl rfl (p := .pointer (some ⟨b, 1, none⟩)) (v := .slice Ae S2.length ce) rfl (fun w' hC => load_one Tryd.underlying30 rfl (by simp [World.cell?, hC.heap])) (fun K' hK => ?_)
              go_simp
              refine hK _ ?_
              clear hK K'
              iterate 1 (refine ord_pure rfl rfl rfl (fun K' hK => ?_); go_big_quiet_op; refine hK _ ?_; clear hK K')
              refine ord_acts rfl rfl (fun K' hK => ?_)
              go_simp
              refine (c8).mono ?_
              rintro e wx ⟨rfl, rfl⟩
              refine hK _ _ (hO5) ?_
              clear hK K'
              go_simp
              iterate 12 (refine ord_pure rfl rfl rfl (fun K' hK => ?_); go_big_quiet_op; refine hK _ ?_; clear hK K')
              refine ord_nil ?_
              go_wp2_with fail
              go_roundw
              case rel => exact ⟨k + 1, S2, by omega, by omega, by go_num, HZ.out⟩
              case measure => simp [intOf]; omega
        · have hb2 : (ok == 2) = false := by simpa using h2
          clear h2
          by_cases h3 : ok = 3
          · have hb3 : (ok == 3) = true := by simpa using h3
            clear h3
            go_wp2_with (first | (refine wpList_load_run (t := 54) rfl rfl rfl hld ?_) | (refine wpList_store_run (t := 54) rfl rfl rfl rfl (hst _ _ rfl) ?_))
            rw [HW.out, HOB.out]
            try go_frame
            have hS5 := hS4.drew
            clear hld hst HW HOB
            have hDl : (dueL S.length S oa).1.length ≤ maxLen := by
              obtain ⟨hp, _⟩ := dueL_spec S.length S oa (Nat.le_refl _) hnd
              have := hp.length_eq
              rw [List.length_append] at this
              unfold maxLen; omega
            refine wp_region_ord [(0, .pure), (1, .pure), (2, .quiet), (4, .pure), (5, .pure), (6, .quiet), (3, .acts), (7, .acts), (8, .acts), (9, .pure)] (by kernel_rfl) (by kernel_rfl)
              (fun w' => w'.cell? ⟨ob, 1, none⟩ = some (.int .i64 oi) ∧ w'.cell? ⟨ob, 2, none⟩ = some (.int .u64 oa)) (op_cells hS5) ?_
            iterate 2 (refine ord_pure rfl rfl rfl (fun K' hK => ?_); go_big_quiet_op; refine hK _ ?_; clear hK K')
            refine ord_load (t := 23) rfl rfl rfl (p := .pointer (some ⟨ob, 2, none⟩)) (v := .int .u64 oa) rfl (fun w' hC => load_one Tryd.underlying23 rfl hC.2) (fun K' hK => ?_)
            go_simp
            refine hK _ ?_
            clear hK K'
            iterate 2 (refine ord_pure rfl rfl rfl (fun K' hK => ?_); go_big_quiet_op; refine hK _ ?_; clear hK K')
            refine ord_load (t := 23) rfl rfl rfl (p := .pointer (some ⟨ob, 2, none⟩)) (v := .int .u64 oa) rfl (fun w' hC => load_one Tryd.underlying23 rfl hC.2) (fun K' hK => ?_)
            go_simp
            refine hK _ ?_
            clear hK K'
            refine ord_acts rfl rfl (fun K' hK => ?_)
            go_simp
            refine (qDue_any hS5.pull3 oa).mono ?_
            rintro e wa ⟨v1, rfl, hT⟩
            refine hK _ _ (op_cells hT.pull3) ?_
            clear hK K'
            go_simp
            refine ord_acts rfl rfl (fun K' hK => ?_)
            go_simp
            refine (eDue_any hT.pull4 hSl hnd oa).mono ?_
            rintro e wb ⟨v2, rfl, hU⟩
            have hC2 := hU.to (by ac_rfl : _ = blk ob (.cells #[.int .i64 ok, .int .i64 oi, .int .u64 oa] 54) • arr 34 2 v2 (dueL S.length S oa).1.length ((dueL S.length S oa).1.flatMap Ent.enc) • ends b n (dueL S.length S oa).2 • arr 34 2 v1 (dueL S.length S oa).1.length ((dueL S.length S oa).1.flatMap Ent.enc) • queue q (roomOf n) (dueL S.length S oa).2 • emp)
            refine hK _ _ (op_cells hC2) ?_
            clear hK K'
            go_simp
            refine ord_acts rfl rfl (fun K' hK => ?_)
            go_simp
            refine (plainE_any _ _ _ _ _ ⟨hU.pull3.arr_reads, hDl⟩ ⟨hU.arr_reads, hDl⟩).mono ?_
            rintro e wc ⟨rfl, hb⟩
            rw [sameOf_refl eqD_refl]
            have hV := ((hU.to (by ac_rfl : _ = arr 34 2 v2 (dueL S.length S oa).1.length ((dueL S.length S oa).1.flatMap Ent.enc) • arr 34 2 v1 (dueL S.length S oa).1.length ((dueL S.length S oa).1.flatMap Ent.enc) • ends b n (dueL S.length S oa).2 • queue q (roomOf n) (dueL S.length S oa).2 • blk ob (.cells #[.int .i64 ok, .int .i64 oi, .int .u64 oa] 54) • emp)).drop.drop).below_ hb
            refine hK _ _ (op_cells (hC2.below_ hb)) ?_
            clear hK K'
            go_simp
            iterate 1 (refine ord_pure rfl rfl rfl (fun K' hK => ?_); go_big_quiet_op; refine hK _ ?_; clear hK K')
            refine ord_nil ?_
            clear hC2 hU hT hS5 hS4 d1 d2 hDl
            generalize (dueL S.length S oa).2 = S2 at *
            have hq2 := hV.pull2.queue_len
            have hnd2 := hV.pull2.queue_nd
            have hSl2 : S2.length ≤ 1000 := by omega
            obtain ⟨y, tt, hnv⟩ := next_val S2
            obtain ⟨yi, yd⟩ := y
            have hqq : ∀ w, (Op.equalIn 10000 34 (.agg #[.int .i64 yi, .int .u64 yd]) (.agg #[.int .i64 yi, .int .u64 yd])).run Tryd.prog w = .ok true w := fun w => by
              have := ent_eq (w := w) 9998 ⟨yi, yd⟩ ⟨yi, yd⟩
              simpa [EqV, Ent.enc] using this
            have c5 := qNext_any hV.pull2
            rw [hnv] at c5
            simp only [Ent.enc] at c5
            clear hnd hq1 hSl
            go_wp2_with fail
            refine c5.mono ?_
            rintro e w5 ⟨rfl, hb5⟩
            have hX1 := (hV.below_ hb5).alloc (.cells #[.int .i64 yi, .int .u64 yd] 34)
            have c6 := eNext_any hX1.pull2 hSl2
            rw [hnv] at c6
            simp only [Ent.enc] at c6
            clear c5 hV hb5 hnv
            go_wp2_with fail
            refine c6.mono ?_
            rintro e w6 ⟨rfl, hX2⟩
            have hX3 := hX2.alloc (.cells #[.int .i64 yi, .int .u64 yd] 34)
            have d1o : (w6.alloc (.cells #[.int .i64 yi, .int .u64 yd] 34)).cell? ⟨ob, 1, none⟩ = some (.int .i64 oi) := (op_cells (hX3.to (by ac_rfl : _ = blk ob (.cells #[.int .i64 ok, .int .i64 oi, .int .u64 oa] 54) • blk w6.heap.size (.cells #[.int .i64 yi, .int .u64 yd] 34) • ends b n S2 • blk w5.heap.size (.cells #[.int .i64 yi, .int .u64 yd] 34) • queue q (roomOf n) S2 • emp))).1
            have c7 := qAt_any hX3.pull4 oi
            clear c6 hX1 hX2
            go_wp2_with fail
            refine c7.mono ?_
            rintro e w7 ⟨rfl, rfl⟩
            clear c7 d1o
            go_wp2_with fail
            go_loopw [16, 17, 18] (fun av iv jj wz => ∃ j : Nat, j ≤ S2.length ∧ jj = .int .i64 j ∧ AtIs S2 oi j av iv ∧ Sat w.heap.size w wz (blk w6.heap.size (.cells #[.int .i64 yi, .int .u64 yd] 34) • ends b n S2 • blk w5.heap.size (.cells #[.int .i64 yi, .int .u64 yd] 34) • queue q (roomOf n) S2 • blk ob (.cells #[.int .i64 ok, .int .i64 oi, .int .u64 oa] 54) • emp)) (fun _ _ jj _ => S2.length - (intOf jj).toNat)
            case atStart => exact ⟨0, Nat.zero_le _, rfl, .inl ⟨rfl, rfl, fun i hi => absurd hi (Nat.not_lt_zero _)⟩, hX3⟩
            case round =>
              clear hX3
              obtain ⟨j, hj, rfl, HA, hZ⟩ := hrel
              obtain ⟨Ae, ce, hO⟩ := hZ.pull2.ends_open
              have d1e : wr.cell? ⟨b, 1, none⟩ = some (.slice Ae S2.length ce) := by simp [World.cell?, hO.heap]
              have d1o := (op_cells (hZ.to (by ac_rfl : _ = blk ob (.cells #[.int .i64 ok, .int .i64 oi, .int .u64 oa] 54) • blk w6.heap.size (.cells #[.int .i64 yi, .int .u64 yd] 34) • ends b n S2 • blk w5.heap.size (.cells #[.int .i64 yi, .int .u64 yd] 34) • queue q (roomOf n) S2 • emp))).1
              by_cases hjl : j < S2.length
              · obtain ⟨g, rfl, _, hcx⟩ := hO.pull2.arr_at Ent.enc_length rfl (g_get hjl)
                have dx0 := hcx 0 _ rfl
                have dx1 := hcx 1 _ rfl
                rw [Nat.add_zero] at dx0
                by_cases hid : (Hp.g S2 j).id = oi
                · have HR : Hid (AtIs S2 oi (j + 1) (.int .u64 (Hp.g S2 j).due) (.bool true)) := Lib.hid (.inr ⟨j, by omega, hid, rfl, rfl⟩)
                  rw [hid] at dx0
                  clear hO hcx HA hid
                  generalize Hp.g S2 j = x at *
                  go_wp2_with fail
                  try go_frame
                  refine wp_region_ord [(0, .pure), (1, .pure), (2, .pure), (3, .quiet), (4, .pure), (5, .pure), (6, .pure), (7, .quiet), (8, .pure), (9, .quiet), (10, .pure)] (by kernel_rfl) (by kernel_rfl)
                    (fun w' => ∀ p, w'.cell? p = wr.cell? p) (fun _ => rfl) ?_
                  iterate 3 (refine ord_pure rfl rfl rfl (fun K' hK => ?_); go_big_quiet_op; refine hK _ ?_; clear hK K')
                  refine ord_load (t := 30) rfl rfl rfl (p := .pointer (some ⟨b, 1, none⟩)) (v := .slice (some ⟨g, 0, none⟩) S2.length ce) rfl (fun w' hC => load_one Tryd.underlying30 rfl (by rw [hC]; exact d1e)) (fun K' hK => ?_)
                  go_simp
                  refine hK _ ?_
                  clear hK K'
                  iterate 3 (refine ord_pure rfl rfl rfl (fun K' hK => ?_); go_big_quiet_op; refine hK _ ?_; clear hK K')
                  refine ord_load (t := 3) rfl rfl rfl (p := .pointer (some ⟨g, j * 2, none⟩)) (v := .int .i64 oi) rfl (fun w' hC => load_one Tryd.underlying3 rfl (by rw [hC]; exact dx0)) (fun K' hK => ?_)
                  go_simp
                  refine hK _ ?_
                  clear hK K'
                  iterate 1 (refine ord_pure rfl rfl rfl (fun K' hK => ?_); go_big_quiet_op; refine hK _ ?_; clear hK K')
                  refine ord_load (t := 3) rfl rfl rfl (p := .pointer (some ⟨ob, 1, none⟩)) (v := .int .i64 oi) rfl (fun w' hC => load_one Tryd.underlying3 rfl (by rw [hC]; exact d1o)) (fun K' hK => ?_)
                  go_simp
                  refine hK _ ?_
                  clear hK K'
                  iterate 1 (refine ord_pure rfl rfl rfl (fun K' hK => ?_); go_big_quiet_op; refine hK _ ?_; clear hK K')
                  refine ord_nil ?_
                  go_wp2_with fail
                  go_roundw
                  case rel => exact ⟨j + 1, by omega, by go_num, HR.out, hZ.drew⟩
                  case measure => simp [intOf]; omega
                · have HR := Lib.hid (atIs_no HA hid)
                  have hidb : ((Hp.g S2 j).id == oi) = false := by simpa using hid
                  clear hO hcx HA hid
                  generalize Hp.g S2 j = x at *
                  go_wp2_with fail
                  try go_frame
                  refine wp_region_ord [(0, .pure), (1, .pure), (2, .pure), (3, .quiet), (4, .pure), (5, .pure), (6, .pure), (7, .quiet), (8, .pure), (9, .quiet), (10, .pure)] (by kernel_rfl) (by kernel_rfl)
                    (fun w' => ∀ p, w'.cell? p = wr.cell? p) (fun _ => rfl) ?_
                  iterate 3 (refine ord_pure rfl rfl rfl (fun K' hK => ?_); go_big_quiet_op; refine hK _ ?_; clear hK K')
                  refine ord_load (t := 30) rfl rfl rfl (p := .pointer (some ⟨b, 1, none⟩)) (v := .slice (some ⟨g, 0, none⟩) S2.length ce) rfl (fun w' hC => load_one Tryd.underlying30 rfl (by rw [hC]; exact d1e)) (fun K' hK => ?_)
                  go_simp
                  refine hK _ ?_
                  clear hK K'
                  iterate 3 (refine ord_pure rfl rfl rfl (fun K' hK => ?_); go_big_quiet_op; refine hK _ ?_; clear hK K')
                  refine ord_load (t := 3) rfl rfl rfl (p := .pointer (some ⟨g, j * 2, none⟩)) (v := .int .i64 x.id) rfl (fun w' hC => load_one Tryd.underlying3 rfl (by rw [hC]; exact dx0)) (fun K' hK => ?_)
                  go_simp
                  refine hK _ ?_
                  clear hK K'
                  iterate 1 (refine ord_pure rfl rfl rfl (fun K' hK => ?_); go_big_quiet_op; refine hK _ ?_; clear hK K')
                  refine ord_load (t := 3) rfl rfl rfl (p := .pointer (some ⟨ob, 1, none⟩)) (v := .int .i64 oi) rfl (fun w' hC => load_one Tryd.underlying3 rfl (by rw [hC]; exact d1o)) (fun K' hK => ?_)
                  go_simp
                  refine hK _ ?_
                  clear hK K'
                  iterate 1 (refine ord_pure rfl rfl rfl (fun K' hK => ?_); go_big_quiet_op; refine hK _ ?_; clear hK K')
                  refine ord_nil ?_
                  go_wp2_with fail
                  go_roundw
                  case rel => exact ⟨j + 1, by omega, by go_num, HR.out, hZ.drew⟩
                  case measure => simp [intOf]; omega
              · obtain rfl : j = S2.length := by omega
                obtain ⟨rfl, rfl⟩ := atIs_end hnd2 HA
                have hO5 := (hO.to (by ac_rfl : _ = blk b (.cells #[.int .i64 n, .slice Ae S2.length ce] 52) • blk w6.heap.size (.cells #[.int .i64 yi, .int .u64 yd] 34) • blk w5.heap.size (.cells #[.int .i64 yi, .int .u64 yd] 34) • queue q (roomOf n) S2 • arr 34 2 (.slice Ae S2.length ce) S2.length (S2.flatMap Ent.enc) • blk ob (.cells #[.int .i64 ok, .int .i64 oi, .int .u64 oa] 54) • emp)).drew
                have HZ := Lib.hid ((hZ.drew.to (by ac_rfl : _ = blk w6.heap.size (.cells #[.int .i64 yi, .int .u64 yd] 34) • blk w5.heap.size (.cells #[.int .i64 yi, .int .u64 yd] 34) • blk ob (.cells #[.int .i64 ok, .int .i64 oi, .int .u64 oa] 54) • ends b n S2 • queue q (roomOf n) S2 • emp)).drop.drop.drop)
                have c8 := qLen_any hO5.pull4
                clear hO HA hZ d1o
                generalize (dueAt S2 oi).getD 0 = da at *
                generalize (dueAt S2 oi).isSome = db at *
                go_wp2_with fail
                try go_frame
                refine wp_region_ord [(0, .pure), (1, .pure), (2, .pure), (3, .quiet), (4, .quiet), (5, .pure), (6, .pure), (7, .pure), (8, .pure), (9, .pure), (10, .pure), (11, .pure), (12, .pure), (13, .pure), (15, .pure), (16, .pure), (17, .pure), (18, .quiet), (19, .pure), (14, .acts), (20, .pure), (21, .pure), (22, .pure), (23, .pure), (24, .pure), (25, .pure), (26, .pure), (27, .pure), (28, .pure), (29, .pure), (30, .pure), (31, .pure)] (by kernel_rfl) (by kernel_rfl)
                  (fun w' => Sat w.heap.size w w' (blk b (.cells #[.int .i64 n, .slice Ae S2.length ce] 52) • blk w6.heap.size (.cells #[.int .i64 yi, .int .u64 yd] 34) • blk w5.heap.size (.cells #[.int .i64 yi, .int .u64 yd] 34) • queue q (roomOf n) S2 • arr 34 2 (.slice Ae S2.length ce) S2.length (S2.flatMap Ent.enc) • blk ob (.cells #[.int .i64 ok, .int .i64 oi, .int .u64 oa] 54) • emp)) hO5 ?_
                iterate 3 (refine ord_pure rfl rfl rfl (fun K' hK => ?_); go_big_quiet_op; refine hK _ ?_; clear hK K')
                refine ord_load (t := 34) rfl rfl rfl (p := .pointer (some ⟨w5.heap.size, 0, none⟩)) (v := .agg #[.int .i64 yi, .int .u64 yd]) rfl (fun w' hC => run_loadAt_row (cs := [.int .i64 yi, .int .u64 yd]) hC.pull3.heap Tryd.underlying34 rfl (by kernel_rfl) (fun j u hu => by simpa using hu)) (fun K' hK => ?_)
                go_simp
                refine hK _ ?_
                clear hK K'
                refine ord_load (t := 34) rfl rfl rfl (p := .pointer (some ⟨w6.heap.size, 0, none⟩)) (v := .agg #[.int .i64 yi, .int .u64 yd]) rfl (fun w' hC => run_loadAt_row (cs := [.int .i64 yi, .int .u64 yd]) hC.pull2.heap Tryd.underlying34 rfl (by kernel_rfl) (fun j u hu => by simpa using hu)) (fun K' hK => ?_)
                go_simp
                refine hK _ ?_
                clear hK K'
                iterate 12 (refine ord_pure rfl rfl rfl (fun K' hK => ?_); go_big_quiet_op; refine hK _ ?_; clear hK K')
                refine ord_load (t := 30) rfl rfl rfl (p := .pointer (some ⟨b, 1, none⟩)) (v := .slice Ae S2.length ce) rfl (fun w' hC => load_one Tryd.underlying30 rfl (by simp [World.cell?, hC.heap])) (fun K' hK => ?_)
                go_simp
                refine hK _ ?_
                clear hK K'
                iterate 1 (refine ord_pure rfl rfl rfl (fun K' hK => ?_); go_big_quiet_op; refine hK _ ?_; clear hK K')
                refine ord_acts rfl rfl (fun K' hK => ?_)
                go_simp
                refine (c8).mono ?_
                rintro e wx ⟨rfl, rfl⟩
                refine hK _ _ (hO5) ?_
                clear hK K'
                go_simp
                iterate 12 (refine ord_pure rfl rfl rfl (fun K' hK => ?_); go_big_quiet_op; refine hK _ ?_; clear hK K')
                refine ord_nil ?_
                go_wp2_with fail
                go_roundw
                case rel => exact ⟨k + 1, S2, by omega, by omega, by go_num, HZ.out⟩
                case measure => simp [intOf]; omega
          · have hb3 : (ok == 3) = false := by simpa using h3
            clear h3
            go_wp2_with (first | (refine wpList_load_run (t := 54) rfl rfl rfl hld ?_) | (refine wpList_store_run (t := 54) rfl rfl rfl rfl (hst _ _ rfl) ?_))
            rw [HW.out, HOB.out]
            try go_frame
            have hS5 := hS4.drew
            clear hld hst HW HOB
            refine wp_region_ord [(0, .pure), (1, .pure), (2, .quiet), (3, .pure), (4, .quiet), (6, .pure), (7, .pure), (8, .quiet), (9, .pure), (10, .quiet), (5, .acts), (11, .acts), (12, .acts), (13, .pure)] (by kernel_rfl) (by kernel_rfl)
              (fun w' => w'.cell? ⟨ob, 1, none⟩ = some (.int .i64 oi) ∧ w'.cell? ⟨ob, 2, none⟩ = some (.int .u64 oa)) (op_cells hS5) ?_
            iterate 2 (refine ord_pure rfl rfl rfl (fun K' hK => ?_); go_big_quiet_op; refine hK _ ?_; clear hK K')
            refine ord_load (t := 3) rfl rfl rfl (p := .pointer (some ⟨ob, 1, none⟩)) (v := .int .i64 oi) rfl (fun w' hC => load_one Tryd.underlying3 rfl hC.1) (fun K' hK => ?_)
            go_simp
            refine hK _ ?_
            clear hK K'
            iterate 1 (refine ord_pure rfl rfl rfl (fun K' hK => ?_); go_big_quiet_op; refine hK _ ?_; clear hK K')
            refine ord_load (t := 23) rfl rfl rfl (p := .pointer (some ⟨ob, 2, none⟩)) (v := .int .u64 oa) rfl (fun w' hC => load_one Tryd.underlying23 rfl hC.2) (fun K' hK => ?_)
            go_simp
            refine hK _ ?_
            clear hK K'
            iterate 2 (refine ord_pure rfl rfl rfl (fun K' hK => ?_); go_big_quiet_op; refine hK _ ?_; clear hK K')
            refine ord_load (t := 3) rfl rfl rfl (p := .pointer (some ⟨ob, 1, none⟩)) (v := .int .i64 oi) rfl (fun w' hC => load_one Tryd.underlying3 rfl hC.1) (fun K' hK => ?_)
            go_simp
            refine hK _ ?_
            clear hK K'
            iterate 1 (refine ord_pure rfl rfl rfl (fun K' hK => ?_); go_big_quiet_op; refine hK _ ?_; clear hK K')
            refine ord_load (t := 23) rfl rfl rfl (p := .pointer (some ⟨ob, 2, none⟩)) (v := .int .u64 oa) rfl (fun w' hC => load_one Tryd.underlying23 rfl hC.2) (fun K' hK => ?_)
            go_simp
            refine hK _ ?_
            clear hK K'
            refine ord_acts rfl rfl (fun K' hK => ?_)
            go_simp
            refine (qPush_any hS5.pull3 (hS5.et hE.pos hE) oi oa).mono ?_
            rintro e wa ⟨rfl, hT⟩
            refine hK _ _ (op_cells hT.pull2) ?_
            clear hK K'
            go_simp
            refine ord_acts rfl rfl (fun K' hK => ?_)
            go_simp
            refine (ePush_any hT.pull3 hSl oi oa).mono ?_
            rintro e wb ⟨rfl, hU⟩
            refine hK _ _ (op_cells hU.pull3) ?_
            clear hK K'
            go_simp
            refine ord_acts rfl rfl (fun K' hK => ?_)
            go_simp
            refine (same_any _ _ _ (hU.et hE.pos hE)).mono ?_
            rintro e wc ⟨rfl, hb⟩
            rw [beq_self_eq_true]
            have hV := hU.below_ hb
            refine hK _ _ (op_cells hV.pull3) ?_
            clear hK K'
            go_simp
            iterate 1 (refine ord_pure rfl rfl rfl (fun K' hK => ?_); go_big_quiet_op; refine hK _ ?_; clear hK K')
            refine ord_nil ?_
            clear hU hT hS5 hS4 d1 d2
            generalize pushS (roomOf n) S oi oa = S2 at *
            have hq2 := hV.pull2.queue_len
            have hnd2 := hV.pull2.queue_nd
            have hSl2 : S2.length ≤ 1000 := by omega
            obtain ⟨y, tt, hnv⟩ := next_val S2
            obtain ⟨yi, yd⟩ := y
            have hqq : ∀ w, (Op.equalIn 10000 34 (.agg #[.int .i64 yi, .int .u64 yd]) (.agg #[.int .i64 yi, .int .u64 yd])).run Tryd.prog w = .ok true w := fun w => by
              have := ent_eq (w := w) 9998 ⟨yi, yd⟩ ⟨yi, yd⟩
              simpa [EqV, Ent.enc] using this
            have c5 := qNext_any hV.pull2
            rw [hnv] at c5
            simp only [Ent.enc] at c5
            clear hnd hq1 hSl
            go_wp2_with fail
            refine c5.mono ?_
            rintro e w5 ⟨rfl, hb5⟩
            have hX1 := (hV.below_ hb5).alloc (.cells #[.int .i64 yi, .int .u64 yd] 34)
            have c6 := eNext_any hX1.pull2 hSl2
            rw [hnv] at c6
            simp only [Ent.enc] at c6
            clear c5 hV hb5 hnv
            go_wp2_with fail
            refine c6.mono ?_
            rintro e w6 ⟨rfl, hX2⟩
            have hX3 := hX2.alloc (.cells #[.int .i64 yi, .int .u64 yd] 34)
            have d1o : (w6.alloc (.cells #[.int .i64 yi, .int .u64 yd] 34)).cell? ⟨ob, 1, none⟩ = some (.int .i64 oi) := (op_cells (hX3.to (by ac_rfl : _ = blk ob (.cells #[.int .i64 ok, .int .i64 oi, .int .u64 oa] 54) • blk w6.heap.size (.cells #[.int .i64 yi, .int .u64 yd] 34) • ends b n S2 • blk w5.heap.size (.cells #[.int .i64 yi, .int .u64 yd] 34) • queue q (roomOf n) S2 • emp))).1
            have c7 := qAt_any hX3.pull4 oi
            clear c6 hX1 hX2
            go_wp2_with fail
            refine c7.mono ?_
            rintro e w7 ⟨rfl, rfl⟩
            clear c7 d1o
            go_wp2_with fail
            go_loopw [16, 17, 18] (fun av iv jj wz => ∃ j : Nat, j ≤ S2.length ∧ jj = .int .i64 j ∧ AtIs S2 oi j av iv ∧ Sat w.heap.size w wz (blk w6.heap.size (.cells #[.int .i64 yi, .int .u64 yd] 34) • ends b n S2 • blk w5.heap.size (.cells #[.int .i64 yi, .int .u64 yd] 34) • queue q (roomOf n) S2 • blk ob (.cells #[.int .i64 ok, .int .i64 oi, .int .u64 oa] 54) • emp)) (fun _ _ jj _ => S2.length - (intOf jj).toNat)
            case atStart => exact ⟨0, Nat.zero_le _, rfl, .inl ⟨rfl, rfl, fun i hi => absurd hi (Nat.not_lt_zero _)⟩, hX3⟩
            case round =>
              clear hX3
              obtain ⟨j, hj, rfl, HA, hZ⟩ := hrel
              obtain ⟨Ae, ce, hO⟩ := hZ.pull2.ends_open
              have d1e : wr.cell? ⟨b, 1, none⟩ = some (.slice Ae S2.length ce) := by simp [World.cell?, hO.heap]
              have d1o := (op_cells (hZ.to (by ac_rfl : _ = blk ob (.cells #[.int .i64 ok, .int .i64 oi, .int .u64 oa] 54) • blk w6.heap.size (.cells #[.int .i64 yi, .int .u64 yd] 34) • ends b n S2 • blk w5.heap.size (.cells #[.int .i64 yi, .int .u64 yd] 34) • queue q (roomOf n) S2 • emp))).1
              by_cases hjl : j < S2.length
              · obtain ⟨g, rfl, _, hcx⟩ := hO.pull2.arr_at Ent.enc_length rfl (g_get hjl)
                have dx0 := hcx 0 _ rfl
                have dx1 := hcx 1 _ rfl
                rw [Nat.add_zero] at dx0
                by_cases hid : (Hp.g S2 j).id = oi
                · have HR : Hid (AtIs S2 oi (j + 1) (.int .u64 (Hp.g S2 j).due) (.bool true)) := Lib.hid (.inr ⟨j, by omega, hid, rfl, rfl⟩)
                  rw [hid] at dx0
                  clear hO hcx HA hid
                  generalize Hp.g S2 j = x at *
                  go_wp2_with fail
                  try go_frame
                  refine wp_region_ord [(0, .pure), (1, .pure), (2, .pure), (3, .quiet), (4, .pure), (5, .pure), (6, .pure), (7, .quiet), (8, .pure), (9, .quiet), (10, .pure)] (by kernel_rfl) (by kernel_rfl)
                    (fun w' => ∀ p, w'.cell? p = wr.cell? p) (fun _ => rfl) ?_
                  iterate 3 (refine ord_pure rfl rfl rfl (fun K' hK => ?_); go_big_quiet_op; refine hK _ ?_; clear hK K')
                  refine ord_load (t := 30) rfl rfl rfl (p := .pointer (some ⟨b, 1, none⟩)) (v := .slice (some ⟨g, 0, none⟩) S2.length ce) rfl (fun w' hC => load_one Tryd.underlying30 rfl (by rw [hC]; exact d1e)) (fun K' hK => ?_)
                  go_simp
                  refine hK _ ?_
                  clear hK K'
                  iterate 3 (refine ord_pure rfl rfl rfl (fun K' hK => ?_); go_big_quiet_op; refine hK _ ?_; clear hK K')
                  refine ord_load (t := 3) rfl rfl rfl (p := .pointer (some ⟨g, j * 2, none⟩)) (v := .int .i64 oi) rfl (fun w' hC => load_one Tryd.underlying3 rfl (by rw [hC]; exact dx0)) (fun K' hK => ?_)
                  go_simp
                  refine hK _ ?_
                  clear hK K'
                  iterate 1 (refine ord_pure rfl rfl rfl (fun K' hK => ?_); go_big_quiet_op; refine hK _ ?_; clear hK K')
                  refine ord_load (t := 3) rfl rfl rfl (p := .pointer (some ⟨ob, 1, none⟩)) (v := .int .i64 oi) rfl (fun w' hC => load_one Tryd.underlying3 rfl (by rw [hC]; exact d1o)) (fun K' hK => ?_)
                  go_simp
                  refine hK _ ?_
                  clear hK K'
                  iterate 1 (refine ord_pure rfl rfl rfl (fun K' hK => ?_); go_big_quiet_op; refine hK _ ?_; clear hK K')
                  refine ord_nil ?_
                  go_wp2_with fail
                  go_roundw
                  case rel => exact ⟨j + 1, by omega, by go_num, HR.out, hZ.drew⟩
                  case measure => simp [intOf]; omega
                · have HR := Lib.hid (atIs_no HA hid)
                  have hidb : ((Hp.g S2 j).id == oi) = false := by simpa using hid
                  clear hO hcx HA hid
                  generalize Hp.g S2 j = x at *
                  go_wp2_with fail
                  try go_frame
                  refine wp_region_ord [(0, .pure), (1, .pure), (2, .pure), (3, .quiet), (4, .pure), (5, .pure), (6, .pure), (7, .quiet), (8, .pure), (9, .quiet), (10, .pure)] (by kernel_rfl) (by kernel_rfl)
                    (fun w' => ∀ p, w'.cell? p = wr.cell? p) (fun _ => rfl) ?_
                  iterate 3 (refine ord_pure rfl rfl rfl (fun K' hK => ?_); go_big_quiet_op; refine hK _ ?_; clear hK K')
                  refine ord_load (t := 30) rfl rfl rfl (p := .pointer (some ⟨b, 1, none⟩)) (v := .slice (some ⟨g, 0, none⟩) S2.length ce) rfl (fun w' hC => load_one Tryd.underlying30 rfl (by rw [hC]; exact d1e)) (fun K' hK => ?_)
                  go_simp
                  refine hK _ ?_
                  clear hK K'
                  iterate 3 (refine ord_pure rfl rfl rfl (fun K' hK => ?_); go_big_quiet_op; refine hK _ ?_; clear hK K')
                  refine ord_load (t := 3) rfl rfl rfl (p := .pointer (some ⟨g, j * 2, none⟩)) (v := .int .i64 x.id) rfl (fun w' hC => load_one Tryd.underlying3 rfl (by rw [hC]; exact dx0)) (fun K' hK => ?_)
                  go_simp
                  refine hK _ ?_
                  clear hK K'
                  iterate 1 (refine ord_pure rfl rfl rfl (fun K' hK => ?_); go_big_quiet_op; refine hK _ ?_; clear hK K')
                  refine ord_load (t := 3) rfl rfl rfl (p := .pointer (some ⟨ob, 1, none⟩)) (v := .int .i64 oi) rfl (fun w' hC => load_one Tryd.underlying3 rfl (by rw [hC]; exact d1o)) (fun K' hK => ?_)
                  go_simp
                  refine hK _ ?_
                  clear hK K'
                  iterate 1 (refine ord_pure rfl rfl rfl (fun K' hK => ?_); go_big_quiet_op; refine hK _ ?_; clear hK K')
                  refine ord_nil ?_
                  go_wp2_with fail
                  go_roundw
                  case rel => exact ⟨j + 1, by omega, by go_num, HR.out, hZ.drew⟩
                  case measure => simp [intOf]; omega
              · obtain rfl : j = S2.length := by omega
                obtain ⟨rfl, rfl⟩ := atIs_end hnd2 HA
                have hO5 := (hO.to (by ac_rfl : _ = blk b (.cells #[.int .i64 n, .slice Ae S2.length ce] 52) • blk w6.heap.size (.cells #[.int .i64 yi, .int .u64 yd] 34) • blk w5.heap.size (.cells #[.int .i64 yi, .int .u64 yd] 34) • queue q (roomOf n) S2 • arr 34 2 (.slice Ae S2.length ce) S2.length (S2.flatMap Ent.enc) • blk ob (.cells #[.int .i64 ok, .int .i64 oi, .int .u64 oa] 54) • emp)).drew
                have HZ := Lib.hid ((hZ.drew.to (by ac_rfl : _ = blk w6.heap.size (.cells #[.int .i64 yi, .int .u64 yd] 34) • blk w5.heap.size (.cells #[.int .i64 yi, .int .u64 yd] 34) • blk ob (.cells #[.int .i64 ok, .int .i64 oi, .int .u64 oa] 54) • ends b n S2 • queue q (roomOf n) S2 • emp)).drop.drop.drop)
                have c8 := qLen_any hO5.pull4
                clear hO HA hZ d1o
                generalize (dueAt S2 oi).getD 0 = da at *
                generalize (dueAt S2 oi).isSome = db at *
                go_wp2_with fail
                try go_frame
                refine wp_region_ord [(0, .pure), (1, .pure), (2, .pure), (3, .quiet), (4, .quiet), (5, .pure), (6, .pure), (7, .pure), (8, .pure), (9, .pure), (10, .pure), (11, .pure), (12, .pure), (13, .pure), (15, .pure), (16, .pure), (17, .pure), (18, .quiet), (19, .pure), (14, .acts), (20, .pure), (21, .pure), (22, .pure), (23, .pure), (24, .pure), (25, .pure), (26, .pure), (27, .pure), (28, .pure), (29, .pure), (30, .pure), (31, .pure)] (by kernel_rfl) (by kernel_rfl)
                  (fun w' => Sat w.heap.size w w' (blk b (.cells #[.int .i64 n, .slice Ae S2.length ce] 52) • blk w6.heap.size (.cells #[.int .i64 yi, .int .u64 yd] 34) • blk w5.heap.size (.cells #[.int .i64 yi, .int .u64 yd] 34) • queue q (roomOf n) S2 • arr 34 2 (.slice Ae S2.length ce) S2.length (S2.flatMap Ent.enc) • blk ob (.cells #[.int .i64 ok, .int .i64 oi, .int .u64 oa] 54) • emp)) hO5 ?_
                iterate 3 (refine ord_pure rfl rfl rfl (fun K' hK => ?_); go_big_quiet_op; refine hK _ ?_; clear hK K')
                refine ord_load (t := 34) rfl rfl rfl (p := .pointer (some ⟨w5.heap.size, 0, none⟩)) (v := .agg #[.int .i64 yi, .int .u64 yd]) rfl (fun w' hC => run_loadAt_row (cs := [.int .i64 yi, .int .u64 yd]) hC.pull3.heap Tryd.underlying34 rfl (by kernel_rfl) (fun j u hu => by simpa using hu)) (fun K' hK => ?_)
                go_simp
                refine hK _ ?_
                clear hK K'
                refine ord_load (t := 34) rfl rfl rfl (p := .pointer (some ⟨w6.heap.size, 0, none⟩)) (v := .agg #[.int .i64 yi, .int .u64 yd]) rfl (fun w' hC => run_loadAt_row (cs := [.int .i64 yi, .int .u64 yd]) hC.pull2.heap Tryd.underlying34 rfl (by kernel_rfl) (fun j u hu => by simpa using hu)) (fun K' hK => ?_)
                go_simp
                refine hK _ ?_
                clear hK K'
                iterate 12 (refine ord_pure rfl rfl rfl (fun K' hK => ?_); go_big_quiet_op; refine hK _ ?_; clear hK K')
                refine ord_load (t := 30) rfl rfl rfl (p := .pointer (some ⟨b, 1, none⟩)) (v := .slice Ae S2.length ce) rfl (fun w' hC => load_one Tryd.underlying30 rfl (by simp [World.cell?, hC.heap])) (fun K' hK => ?_)
                go_simp
                refine hK _ ?_
                clear hK K'
                iterate 1 (refine ord_pure rfl rfl rfl (fun K' hK => ?_); go_big_quiet_op; refine hK _ ?_; clear hK K')
                refine ord_acts rfl rfl (fun K' hK => ?_)
                go_simp
                refine (c8).mono ?_
                rintro e wx ⟨rfl, rfl⟩
                refine hK _ _ (hO5) ?_
                clear hK K'
                go_simp
                iterate 12 (refine ord_pure rfl rfl rfl (fun K' hK => ?_); go_big_quiet_op; refine hK _ ?_; clear hK K')
                refine ord_nil ?_
                go_wp2_with fail
                go_roundw
                case rel => exact ⟨k + 1, S2, by omega, by omega, by go_num, HZ.out⟩
                case measure => simp [intOf]; omega
    · have hstop : (ops.length : Int) ≤ k ∨ ((k : Int) < ops.length ∧ (120 : Int) ≤ k) := by omega
      rcases hstop with h1 | ⟨h1, h2⟩
      · go_wp2_with fail
        go_ret
        exact ⟨rfl, hS.below⟩
      · go_wp2_with fail
        go_ret
        exact ⟨rfl, hS.below⟩
end Go.Proofs.YtepaanpdjadakaaDoor
