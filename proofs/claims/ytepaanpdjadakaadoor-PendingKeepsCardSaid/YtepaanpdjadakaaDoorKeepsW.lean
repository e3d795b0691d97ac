import Derived.Test.YtepaanpdjadakaaDoorKeepsA
/-! PendingKeeps' walk. -/
namespace Go.Proofs.YtepaanpdjadakaaDoor
open Go Go.RowKit

def keepL (zs : List Int) (k : Nat) : List Adr := (List.range k).map fun i => adr5 (zs.getD i 0)
theorem keepL_length (zs : List Int) (k : Nat) : (keepL zs k).length = k := by simp [keepL]
theorem keepL_succ (zs : List Int) (k : Nat) : keepL zs (k + 1) = keepL zs k ++ [adr5 (zs.getD k 0)] := by simp [keepL, List.range_succ]
def qk (zs : List Int) (i : Nat) : Qry := ⟨zAdr, adr5 (zs.getD i 0), 0, i, false, ⟨⟨#[]⟩, 0, 0⟩⟩
def keepR (zs : List Int) (k : Nat) : List (Itm Qry) := (List.range k).map fun i => ⟨qk zs i, i, 9⟩
theorem keepR_length (zs : List Int) (k : Nat) : (keepR zs k).length = k := by simp [keepR]
theorem keepR_succ (zs : List Int) (k : Nat) : keepR zs (k + 1) = keepR zs k ++ [⟨qk zs k, k, 9⟩] := by simp [keepR, List.range_succ]
theorem keepR_any (zs : List Int) (k : Nat) : (keepR zs k).any (isQ (qk zs k)) = false := by
  rw [List.any_eq_false]
  intro x hx
  unfold keepR at hx
  obtain ⟨i, hi, rfl⟩ := List.mem_map.1 hx
  have := List.mem_range.1 hi
  simp [isQ, qk]
  intro _ h; omega
theorem keep_add (zs : List Int) {k : Nat} (h : k < 60) : addC 60 (keepR zs k) (qk zs k) = 0 ∧ addR 60 (keepR zs k) k (qk zs k) 9 = keepR zs (k + 1) ∧ addN 60 (keepR zs k) k (qk zs k) = (k + 1 : Nat) := by
  unfold addC addR addN
  rw [keepR_any, keepR_length, keepR_succ]
  simp only [Bool.false_eq_true, if_false]
  rw [if_neg (by omega), if_neg (by omega), if_neg (by omega)]
  exact ⟨rfl, rfl, by omega⟩
def wantL (ss : List Adr) (zs : List Int) (k : Nat) : List Qry := ((keepR zs k).filter fun x => !away ss x).map (·.key)
theorem away_eq (ss : List Adr) (x : Itm Qry) : away ss x = !ss.any fun b => decide (b = x.key.server) := by
  unfold away
  congr 2
  funext b
  by_cases e : b = x.key.server
  · simp [e]
  · have : ¬ x.key.server = b := fun h => e h.symm
    simp [e, this]
theorem want_succ (ss : List Adr) (zs : List Int) (k : Nat) : wantL ss zs (k + 1) = if (ss.any fun b => decide (b = (qk zs k).server)) then wantL ss zs k ++ [qk zs k] else wantL ss zs k := by
  unfold wantL
  rw [keepR_succ, List.filter_append, List.map_append]
  have := away_eq ss ⟨qk zs k, k, 9⟩
  simp only at this
  cases hc : ss.any fun b => decide (b = (qk zs k).server)
  · rw [hc] at this; simp [this]
  · rw [hc] at this; simp [this]
theorem want_le (ss : List Adr) (zs : List Int) (k : Nat) : (wantL ss zs k).length ≤ k := by
  unfold wantL
  rw [List.length_map]
  have := List.length_filter_le (fun x => !away ss x) (keepR zs k)
  rw [keepR_length] at this
  exact this
theorem qk_built (a : Adr) (i : Int) : Tryd.prog.built 67 [(1, .agg a.enc.toArray), (3, .int .i64 i)] = some (Qry.enc ⟨zAdr, a, 0, i, false, ⟨⟨#[]⟩, 0, 0⟩⟩).toArray := by
  rw [built_struct (places := [(0, 17), (17, 17), (34, 1), (35, 1), (36, 1), (37, 3)]) (z := .agg (qid 0).enc.toArray) Tryd.underlying67 (by kernel_rfl) (by kernel_rfl)]
  rw [fill_one (off := 17) (by simp [Value.cells, Adr.enc_length]) (by simp [Value.cells, Qry.enc_length, Adr.enc_length])]
  rw [fill_one (off := 35) (by simp [Value.cells]) (by rw [splice_size (by simp [Value.cells, Qry.enc_length, Adr.enc_length])]; simp [Value.cells, Qry.enc_length])]
  simp only [Instr.fill, Value.cells]
  have h1 : splice (qid 0).enc.toArray 17 a.enc = (zAdr.enc ++ (a.enc ++ ([.int .i64 0, .int .i64 0, .bool false, .string ⟨#[]⟩, .int .i64 0, .int .i64 0] : List Value))).toArray := by
    unfold splice
    rw [Adr.enc_length]
    congr 1
  rw [h1]
  congr 1
  have h2 : (zAdr.enc ++ (a.enc ++ ([.int .i64 0, .int .i64 0, .bool false, .string ⟨#[]⟩, .int .i64 0, .int .i64 0] : List Value))) = ((zAdr.enc ++ a.enc) ++ ([.int .i64 0] : List Value)) ++ (([.int .i64 0] : List Value) ++ [.bool false, .string ⟨#[]⟩, .int .i64 0, .int .i64 0]) := by simp
  have hl : ((zAdr.enc ++ a.enc) ++ [Value.int .i64 0]).length = 35 := by simp [Adr.enc_length]
  rw [h2]
  unfold splice
  rw [List.take_left' hl, ← List.drop_drop, List.drop_left' hl]
  simp [Qry.enc, Qst.enc]
theorem adr_zero : ∃ z, (Tryd.prog.info? 63).map (fun i => (i.zero, i.size, i.bytes)) = some (some z, 17, 17) ∧ (Tryd.prog.info? 63).map (fun i => (i.zero, i.size)) = some (some z, 17) ∧ z.cells.size = 17 := by
  obtain ⟨i, hi, hz⟩ := Option.map_eq_some_iff.1 (show (Tryd.prog.info? 63).map (fun i => (i.zero.map fun z => z.cells.size, i.size, i.bytes)) = some (some 17, 17, 17) by kernel_rfl)
  simp only [Prod.mk.injEq] at hz
  obtain ⟨z, hz1, hz2⟩ := Option.map_eq_some_iff.1 hz.1
  exact ⟨z, by simp [hi, hz1, hz.2], by simp [hi, hz1, hz.2], hz2⟩
attribute [local irreducible] wpOrd
set_option maxRecDepth 8000 in
set_option maxHeartbeats 16000000 in
theorem keeps_any (a0 : Option Addr) (len0 cap0 : Nat) (z0 : List Int) (a1 : Option Addr) (len1 cap1 : Nat) (z1 : List Int) (w : World) (r0 : IsRow .i64 w a0 len0 cap0 z0) (r1 : IsRow .i64 w a1 len1 cap1 z1) (hE : Et w) :
    Calls Tryd.prog 9 #[.slice a0 len0 cap0, .slice a1 len1 cap1] w fun e w' => e = .returned (.bool true) ∧ Below w.heap.size w w' := by
  have hlen := r0.len_le
  have hlen1 := r1.len_le
  unfold maxLen at hlen hlen1
  have e0 : errV 0 = .nilIface := rfl
  have c1 := pNew_any 60 (Sat.start w)
  rw [show roomOf 60 = 60 by decide] at c1
  go_enter Tryd.func9, Tryd.ntmps9
  go_wp2_with fail
  refine c1.mono ?_
  rintro e w1 ⟨t, rfl, hS1⟩
  clear c1
  go_wp2_with fail
  refine (awake23_any _ (hS1.et hE.pos hE)).mono ?_
  rintro e w3 ⟨rfl, hb3⟩
  have hS3 := arr_nil (e := 63) (sz := 17) (hS1.below_ hb3)
  clear hS1 hb3
  go_wp2_with fail
  go_loopw [7, 8] (fun v i wr => ∃ k : Nat, k ≤ len1 ∧ k ≤ 10 ∧ i = .int .i64 k ∧ Sat w.heap.size w wr (arr 63 17 v k ((keepL z1 k).flatMap Adr.enc) • ptab t 60 [] 0 • emp)) (fun _ i _ => len1 - (intOf i).toNat)
  case atStart => exact ⟨0, Nat.zero_le _, by omega, rfl, hS3⟩
  case round =>
    clear hS3
    obtain ⟨k, hk, hk10, rfl, hS⟩ := hrel
    obtain ⟨A3, c3, hv3⟩ := hS.arr_form
    subst hv3
    by_cases hlt : k < len1 ∧ k < 10
    · obtain ⟨hl1, hl2⟩ := hlt
      obtain ⟨x, rfl, hxl, hxw⟩ := r1.at' hl1
      have hc := hxw _ hS.below
      have hls := keepL_succ z1 k
      have cA := fun W => adr5_any (z1.getD k 0) W
      generalize hz : z1.getD k 0 = z at *
      clear hz
      go_wp2_with fail
      refine (cA _).mono ?_
      rintro e w4 ⟨rfl, hb4⟩
      have hX := (hS.below_ hb4).alloc_ (.cells (adr5 z).enc.toArray 63)
      obtain ⟨zz, hz1, hz2, hz3⟩ := adr_zero
      obtain ⟨v5, w5, hrun, hS5⟩ := hX.append (m := 1) (news := (adr5 z).enc) (t := 76) (ty := 76) (P := Tryd.prog) (x := .slice (some ⟨w4.heap.size, 0, none⟩) 1 1) Tryd.underlying76 hz1 hz3 (by decide) reads_new (by rw [Adr.enc_length]) (adr5 z).enc_one (by unfold maxLen; omega) (by omega)
      have hfl : (keepL z1 k).flatMap Adr.enc ++ (adr5 z).enc = (keepL z1 (k + 1)).flatMap Adr.enc := by rw [hls]; simp
      rw [hfl] at hS5
      obtain ⟨A5, c5, rfl⟩ := hS5.arr_form
      have hel : (Value.agg (adr5 z).enc.toArray).cells.size = 17 := by simp [Value.cells, Adr.enc_length]
      clear cA hS hX hc hls hfl
      generalize (adr5 z).enc.toArray = Z at *
      go_wp2_with (first | (refine wpList_buildSlice_one (v := .agg Z) rfl rfl rfl Tryd.underlying76 hz2 hel (by decide) (by decide) ?_) | (at_builtin; refine wpList_append_run rfl _ _ _ rfl rfl rfl hrun ?_))
      go_roundw
      case rel => exact ⟨k + 1, by omega, by omega, by go_num, hS5⟩
      case measure => simp [intOf]; omega
    · have hstop : (len1 : Int) ≤ k ∨ ((k : Int) < len1 ∧ (10 : Int) ≤ k) := by omega
      generalize hKL : keepL z1 k = ss at *
      have hsl : ss.length = k := by rw [← hKL]; exact keepL_length _ _
      have HSL := Lib.hid hsl
      clear hKL hsl hlt
      rcases hstop with hst | ⟨hst, hst'⟩
      · go_wp2_with fail
        go_loopw [9, 10, 11, 12] (fun v n i _ wr => ∃ j : Nat, j ≤ len0 ∧ j ≤ 50 ∧ i = .int .i64 j ∧ n = .int .i64 ((j : Int) - (wantL ss z0 j).length) ∧ Sat w.heap.size w wr (arr 67 40 v (wantL ss z0 j).length ((wantL ss z0 j).flatMap Qry.enc) • ptab t 60 (keepR z0 j) j • arr 63 17 (.slice A3 k c3) k (ss.flatMap Adr.enc) • emp) ∧ Hid (KN (keepR z0 j))) (fun _ _ i _ _ => len0 - (intOf i).toNat)
        case atStart => exact ⟨0, Nat.zero_le _, by omega, rfl, rfl, (arr_nil (e := 67) (sz := 40) hS.pull2), Lib.hid KN.nil⟩
        case round =>
          clear hS
          obtain ⟨j, hj, hj50, rfl, rfl, hS, HK⟩ := hrel
          obtain ⟨A4, c4, hv4⟩ := hS.arr_form
          subst hv4
          have hwl := want_le ss z0 j
          by_cases hlt : j < len0 ∧ j < 50
          · obtain ⟨hl1, hl2⟩ := hlt
            obtain ⟨x, rfl, hxl, hxw⟩ := r0.at' hl1
            have hc := hxw _ hS.below
            obtain ⟨p1, p2, p3⟩ := keep_add z0 (k := j) (by omega)
            have hkn := HK.out.add 60 j (qk z0 j) 9
            rw [p2] at hkn
            have HKN := Lib.hid hkn
            have hws := want_succ ss z0 j
            have cA := fun W => adr5_any (z0.getD j 0) W
            have hbq : Tryd.prog.built 67 [(1, .agg (adr5 (z0.getD j 0)).enc.toArray), (3, .int .i64 j)] = some (qk z0 j).enc.toArray := qk_built _ _
            have hst := qry_store (qk z0 j)
            have c2 := fun (W : World) (F : HP) (hW : Sat w.heap.size w W (ptab t 60 (keepR z0 j) j • F)) => pAdd_any hW hE.pos hE HK.out (by omega) (qk z0 j) 9
            rw [p1, p2, p3, e0] at c2
            have HC2 := Lib.hid c2
            have cI := fun W (hW : RowsAt Adr.enc W (.slice A3 k c3) ss) => aIn_any ss (.slice A3 k c3) (qk z0 j).server hW (by rw [HSL.out]; omega)
            have HCI := Lib.hid cI
            have hql := (qk z0 j).enc_length
            have hqo := (qk z0 j).enc_one
            have hqs : ∀ m u, (qk z0 j).server.enc[m]? = some u → (qk z0 j).enc[17 + m]? = some u := fun m u hu => by
              have hm : m < 17 := by have := (List.getElem?_eq_some_iff.1 hu).1; rwa [Adr.enc_length] at this
              rw [(qk z0 j).at17 m hm]; exact hu
            have hsl := (qk z0 j).server.enc_length
            have HQ := Lib.hid (And.intro hql (And.intro hqo (And.intro hqs hsl)))
            have hfl1 : (wantL ss z0 j).flatMap Qry.enc ++ (qk z0 j).enc = (wantL ss z0 j ++ [qk z0 j]).flatMap Qry.enc := by simp
            have HFL := Lib.hid hfl1
            clear c2 cI p1 p2 p3 hkn hql hqo hqs hsl hfl1
            generalize hz : (adr5 (z0.getD j 0)).enc.toArray = Z at *
            generalize hzj : z0.getD j 0 = z at *
            generalize (qk z0 j).server.enc = QS at *
            generalize (qk z0 j).enc = QE at *
            have HZ := Lib.hid hz
            clear hz hzj
            go_wp2_with fail
            refine (cA _).mono ?_
            rintro e w4 ⟨rfl, hb4⟩
            have hX := (hS.below_ hb4).alloc (.cells QE.toArray 67)
            have hld : (Instr.loadAt 67 (.pointer (some ⟨w4.heap.size, 0, none⟩))).run Tryd.prog (w4.alloc (.cells QE.toArray 67)) = .ok (.agg QE.toArray) (w4.alloc (.cells QE.toArray 67)) :=
              run_loadAt_row (cs := QE) hX.heap Tryd.underlying67 rfl (by rw [HQ.out.1]; kernel_rfl) (fun j u hu => by simpa using hu)
            have cadd := HC2.out _ _ hX.pull3
            clear cA hc hS hb4 hX
            go_wp2_with (first | (refine wpList_build2_run rfl rfl rfl rfl hbq ?_) | (refine wpList_store_run (t := 67) rfl rfl rfl rfl (hst _ _ rfl) ?_) | (refine wpList_load_run (t := 67) rfl rfl rfl hld ?_))
            refine cadd.mono ?_
            rintro e w5 ⟨rfl, hS5⟩
            have hT := hS5.to (by ac_rfl : _ = blk w4.heap.size (.cells QE.toArray 67) • arr 67 40 (.slice A4 (wantL ss z0 j).length c4) (wantL ss z0 j).length ((wantL ss z0 j).flatMap Qry.enc) • ptab t 60 (keepR z0 (j + 1)) (j + 1 : Nat) • arr 63 17 (.slice A3 k c3) k (ss.flatMap Adr.enc) • emp)
            have hld2 : (Instr.loadAt 63 (.pointer (some ⟨w4.heap.size, 17, none⟩))).run Tryd.prog w5 = .ok (.agg QS.toArray) w5 :=
              run_loadAt_row (cs := QS) hT.heap Tryd.underlying63 rfl (by rw [HQ.out.2.2.2]; kernel_rfl) (fun m u hu => by have := HQ.out.2.2.1 m u hu; simpa using this)
            have hra : RowsAt Adr.enc w5 (.slice A3 k c3) ss := ⟨by rw [HSL.out]; exact (hT.pull4).arr_reads, by rw [HSL.out]; unfold maxLen; omega⟩
            have cin := HCI.out _ hra
            clear cadd hst hld hra hS5
            go_wp2_with (first | (refine wpList_load_run (t := 63) rfl rfl rfl hld2 ?_))
            refine cin.mono ?_
            rintro e w6 ⟨rfl, hb6⟩
            have hU := hT.below_ hb6
            clear cin hT hb6 hld2
            have hql := HQ.out.1
            have hlq : (Instr.loadAt 67 (.pointer (some ⟨w4.heap.size, 0, none⟩))).run Tryd.prog w6 = .ok (.agg QE.toArray) w6 :=
              run_loadAt_row (cs := QE) hU.heap Tryd.underlying67 rfl (by rw [hql]; kernel_rfl) (fun j u hu => by simpa using hu)
            have hX := hU.pull2.alloc_ (.cells QE.toArray 67)
            obtain ⟨zz, hz1, hz2, hz3⟩ := qry_zero
            obtain ⟨v7, w7, hrun, hS7⟩ := hX.append (m := 1) (news := QE) (t := 77) (ty := 77) (P := Tryd.prog) (x := .slice (some ⟨w6.heap.size, 0, none⟩) 1 1) Tryd.underlying77 hz1 hz3 (by decide) reads_new (by rw [hql]) HQ.out.2.1 (by unfold maxLen; omega) (by omega)
            obtain ⟨A7, c7, rfl⟩ := hS7.arr_form
            have hel : (Value.agg QE.toArray).cells.size = 40 := by simp [Value.cells, hql]
            rw [HFL.out] at hS7
            clear hX hql
            cases hin : ss.any fun b => decide (b = (qk z0 j).server) with
            | true =>
              rw [hin, if_pos rfl] at hws
              have hwl2 : (wantL ss z0 (j + 1)).length = (wantL ss z0 j).length + 1 := by rw [hws]; simp
              rw [← hws] at hS7
              have HWL := Lib.hid hwl2
              clear hws hwl2 hU
              generalize QE.toArray = QA at *
              go_wp2_with (first | (refine wpList_load_run (t := 67) rfl rfl rfl hlq ?_) | (refine wpList_buildSlice_one (v := .agg QA) rfl rfl rfl Tryd.underlying77 hz2 hel (by decide) (by decide) ?_) | (at_builtin; refine wpList_append_run rfl _ _ _ rfl rfl rfl hrun ?_))
              go_roundw
              case rel => exact ⟨j + 1, by omega, by omega, by go_num, by rw [HWL.out]; go_num, by rw [HWL.out]; exact hS7.pull2.drop, HKN⟩
              case measure => simp [intOf]; omega
            | false =>
              rw [hin, if_neg (by decide)] at hws
              have HWS := Lib.hid hws
              clear hws hrun hS7 hlq
              go_wp2_with fail
              go_roundw
              case rel => exact ⟨j + 1, by omega, by omega, by go_num, by rw [HWS.out]; go_num, by rw [HWS.out]; exact hU.drop, HKN⟩
              case measure => simp [intOf]; omega
          · have hstop2 : (len0 : Int) ≤ j ∨ ((j : Int) < len0 ∧ (50 : Int) ≤ j) := by omega
            have cK := pKeep_any hS.pull2 ss (.slice A3 k c3) (by rw [HSL.out]; omega) rfl (fun W G hh => ⟨by rw [HSL.out]; exact (hh.to (by ac_rfl : _ = arr 63 17 (.slice A3 k c3) k (ss.flatMap Adr.enc) • (arr 67 40 (.slice A4 (wantL ss z0 j).length c4) (wantL ss z0 j).length ((wantL ss z0 j).flatMap Qry.enc) • emp • G))).arr_reads, by rw [HSL.out]; unfold maxLen; omega⟩)
            have hfl : ((keepR z0 j).filter fun x => !away ss x).length = (wantL ss z0 j).length := by simp [wantL]
            rw [keepR_length, hfl] at cK
            have HW : Hid (wantL ss z0 j = ((keepR z0 j).filter fun x => !away ss x).map (·.key)) := Lib.hid rfl
            have heq : ((j : Int) - (wantL ss z0 j).length == (j : Int) - (wantL ss z0 j).length) = true := by simp
            have hwz : (wantL ss z0 j).length ≤ 50 := by omega
            generalize (keepR z0 j).filter (fun x => !away ss x) = RR at *
            generalize wantL ss z0 j = WL at *
            have HFL2 := Lib.hid hfl
            clear hS hfl hwl hlt
            rcases hstop2 with hst2 | ⟨hst2, hst3⟩
            · go_wp2_with fail
              refine cK.mono ?_
              rintro e w5 ⟨rfl, hS5⟩
              have cA := pAll_any hS5
              clear cK
              go_wp2_with fail
              refine cA.mono ?_
              rintro e w6 ⟨v6, rfl, hS6⟩
              have cP := plainQ_any (RR.map (·.key)) WL v6 (.slice A4 WL.length c4) w6 ⟨by rw [List.length_map]; exact hS6.arr_reads, by rw [List.length_map, HFL2.out]; unfold maxLen; omega⟩ ⟨hS6.pull3.arr_reads, by unfold maxLen; omega⟩
              rw [← HW.out, sameOf_refl eqD_refl] at cP
              have hS6b := hS6
              obtain ⟨A6, c6, rfl⟩ := hS6b.arr_form
              clear cA hS6b
              go_wp2_with fail
              refine cP.mono ?_
              rintro e w7 ⟨rfl, hb7⟩
              have hS7 := hS6.below_ hb7
              have cL := pLen_any hS7.pull2
              rw [HFL2.out] at cL
              have hee : ((WL.length : Int) == WL.length) = true := by simp
              have hb := hS7.below
              clear cP hS6 hb7 hS7
              go_wp2_with fail
              refine cL.mono ?_
              rintro e w8 ⟨rfl, hw8⟩
              clear cL
              go_wp2_with fail
              go_ret
              rw [← hw8]
              exact ⟨rfl, hb⟩
            · go_wp2_with fail
              refine cK.mono ?_
              rintro e w5 ⟨rfl, hS5⟩
              have cA := pAll_any hS5
              clear cK
              go_wp2_with fail
              refine cA.mono ?_
              rintro e w6 ⟨v6, rfl, hS6⟩
              have cP := plainQ_any (RR.map (·.key)) WL v6 (.slice A4 WL.length c4) w6 ⟨by rw [List.length_map]; exact hS6.arr_reads, by rw [List.length_map, HFL2.out]; unfold maxLen; omega⟩ ⟨hS6.pull3.arr_reads, by unfold maxLen; omega⟩
              rw [← HW.out, sameOf_refl eqD_refl] at cP
              have hS6b := hS6
              obtain ⟨A6, c6, rfl⟩ := hS6b.arr_form
              clear cA hS6b
              go_wp2_with fail
              refine cP.mono ?_
              rintro e w7 ⟨rfl, hb7⟩
              have hS7 := hS6.below_ hb7
              have cL := pLen_any hS7.pull2
              rw [HFL2.out] at cL
              have hee : ((WL.length : Int) == WL.length) = true := by simp
              have hb := hS7.below
              clear cP hS6 hb7 hS7
              go_wp2_with fail
              refine cL.mono ?_
              rintro e w8 ⟨rfl, hw8⟩
              clear cL
              go_wp2_with fail
              go_ret
              rw [← hw8]
              exact ⟨rfl, hb⟩
        
      · go_wp2_with fail
        go_loopw [9, 10, 11, 12] (fun v n i _ wr => ∃ j : Nat, j ≤ len0 ∧ j ≤ 50 ∧ i = .int .i64 j ∧ n = .int .i64 ((j : Int) - (wantL ss z0 j).length) ∧ Sat w.heap.size w wr (arr 67 40 v (wantL ss z0 j).length ((wantL ss z0 j).flatMap Qry.enc) • ptab t 60 (keepR z0 j) j • arr 63 17 (.slice A3 k c3) k (ss.flatMap Adr.enc) • emp) ∧ Hid (KN (keepR z0 j))) (fun _ _ i _ _ => len0 - (intOf i).toNat)
        case atStart => exact ⟨0, Nat.zero_le _, by omega, rfl, rfl, (arr_nil (e := 67) (sz := 40) hS.pull2), Lib.hid KN.nil⟩
        case round =>
          clear hS
          obtain ⟨j, hj, hj50, rfl, rfl, hS, HK⟩ := hrel
          obtain ⟨A4, c4, hv4⟩ := hS.arr_form
          subst hv4
          have hwl := want_le ss z0 j
          by_cases hlt : j < len0 ∧ j < 50
          · obtain ⟨hl1, hl2⟩ := hlt
            obtain ⟨x, rfl, hxl, hxw⟩ := r0.at' hl1
            have hc := hxw _ hS.below
            obtain ⟨p1, p2, p3⟩ := keep_add z0 (k := j) (by omega)
            have hkn := HK.out.add 60 j (qk z0 j) 9
            rw [p2] at hkn
            have HKN := Lib.hid hkn
            have hws := want_succ ss z0 j
            have cA := fun W => adr5_any (z0.getD j 0) W
            have hbq : Tryd.prog.built 67 [(1, .agg (adr5 (z0.getD j 0)).enc.toArray), (3, .int .i64 j)] = some (qk z0 j).enc.toArray := qk_built _ _
            have hst := qry_store (qk z0 j)
            have c2 := fun (W : World) (F : HP) (hW : Sat w.heap.size w W (ptab t 60 (keepR z0 j) j • F)) => pAdd_any hW hE.pos hE HK.out (by omega) (qk z0 j) 9
            rw [p1, p2, p3, e0] at c2
            have HC2 := Lib.hid c2
            have cI := fun W (hW : RowsAt Adr.enc W (.slice A3 k c3) ss) => aIn_any ss (.slice A3 k c3) (qk z0 j).server hW (by rw [HSL.out]; omega)
            have HCI := Lib.hid cI
            have hql := (qk z0 j).enc_length
            have hqo := (qk z0 j).enc_one
            have hqs : ∀ m u, (qk z0 j).server.enc[m]? = some u → (qk z0 j).enc[17 + m]? = some u := fun m u hu => by
              have hm : m < 17 := by have := (List.getElem?_eq_some_iff.1 hu).1; rwa [Adr.enc_length] at this
              rw [(qk z0 j).at17 m hm]; exact hu
            have hsl := (qk z0 j).server.enc_length
            have HQ := Lib.hid (And.intro hql (And.intro hqo (And.intro hqs hsl)))
            have hfl1 : (wantL ss z0 j).flatMap Qry.enc ++ (qk z0 j).enc = (wantL ss z0 j ++ [qk z0 j]).flatMap Qry.enc := by simp
            have HFL := Lib.hid hfl1
            clear c2 cI p1 p2 p3 hkn hql hqo hqs hsl hfl1
            generalize hz : (adr5 (z0.getD j 0)).enc.toArray = Z at *
            generalize hzj : z0.getD j 0 = z at *
            generalize (qk z0 j).server.enc = QS at *
            generalize (qk z0 j).enc = QE at *
            have HZ := Lib.hid hz
            clear hz hzj
            go_wp2_with fail
            refine (cA _).mono ?_
            rintro e w4 ⟨rfl, hb4⟩
            have hX := (hS.below_ hb4).alloc (.cells QE.toArray 67)
            have hld : (Instr.loadAt 67 (.pointer (some ⟨w4.heap.size, 0, none⟩))).run Tryd.prog (w4.alloc (.cells QE.toArray 67)) = .ok (.agg QE.toArray) (w4.alloc (.cells QE.toArray 67)) :=
              run_loadAt_row (cs := QE) hX.heap Tryd.underlying67 rfl (by rw [HQ.out.1]; kernel_rfl) (fun j u hu => by simpa using hu)
            have cadd := HC2.out _ _ hX.pull3
            clear cA hc hS hb4 hX
            go_wp2_with (first | (refine wpList_build2_run rfl rfl rfl rfl hbq ?_) | (refine wpList_store_run (t := 67) rfl rfl rfl rfl (hst _ _ rfl) ?_) | (refine wpList_load_run (t := 67) rfl rfl rfl hld ?_))
            refine cadd.mono ?_
            rintro e w5 ⟨rfl, hS5⟩
            have hT := hS5.to (by ac_rfl : _ = blk w4.heap.size (.cells QE.toArray 67) • arr 67 40 (.slice A4 (wantL ss z0 j).length c4) (wantL ss z0 j).length ((wantL ss z0 j).flatMap Qry.enc) • ptab t 60 (keepR z0 (j + 1)) (j + 1 : Nat) • arr 63 17 (.slice A3 k c3) k (ss.flatMap Adr.enc) • emp)
            have hld2 : (Instr.loadAt 63 (.pointer (some ⟨w4.heap.size, 17, none⟩))).run Tryd.prog w5 = .ok (.agg QS.toArray) w5 :=
              run_loadAt_row (cs := QS) hT.heap Tryd.underlying63 rfl (by rw [HQ.out.2.2.2]; kernel_rfl) (fun m u hu => by have := HQ.out.2.2.1 m u hu; simpa using this)
            have hra : RowsAt Adr.enc w5 (.slice A3 k c3) ss := ⟨by rw [HSL.out]; exact (hT.pull4).arr_reads, by rw [HSL.out]; unfold maxLen; omega⟩
            have cin := HCI.out _ hra
            clear cadd hst hld hra hS5
            go_wp2_with (first | (refine wpList_load_run (t := 63) rfl rfl rfl hld2 ?_))
            refine cin.mono ?_
            rintro e w6 ⟨rfl, hb6⟩
            have hU := hT.below_ hb6
            clear cin hT hb6 hld2
            have hql := HQ.out.1
            have hlq : (Instr.loadAt 67 (.pointer (some ⟨w4.heap.size, 0, none⟩))).run Tryd.prog w6 = .ok (.agg QE.toArray) w6 :=
              run_loadAt_row (cs := QE) hU.heap Tryd.underlying67 rfl (by rw [hql]; kernel_rfl) (fun j u hu => by simpa using hu)
            have hX := hU.pull2.alloc_ (.cells QE.toArray 67)
            obtain ⟨zz, hz1, hz2, hz3⟩ := qry_zero
            obtain ⟨v7, w7, hrun, hS7⟩ := hX.append (m := 1) (news := QE) (t := 77) (ty := 77) (P := Tryd.prog) (x := .slice (some ⟨w6.heap.size, 0, none⟩) 1 1) Tryd.underlying77 hz1 hz3 (by decide) reads_new (by rw [hql]) HQ.out.2.1 (by unfold maxLen; omega) (by omega)
            obtain ⟨A7, c7, rfl⟩ := hS7.arr_form
            have hel : (Value.agg QE.toArray).cells.size = 40 := by simp [Value.cells, hql]
            rw [HFL.out] at hS7
            clear hX hql
            cases hin : ss.any fun b => decide (b = (qk z0 j).server) with
            | true =>
              rw [hin, if_pos rfl] at hws
              have hwl2 : (wantL ss z0 (j + 1)).length = (wantL ss z0 j).length + 1 := by rw [hws]; simp
              rw [← hws] at hS7
              have HWL := Lib.hid hwl2
              clear hws hwl2 hU
              generalize QE.toArray = QA at *
              go_wp2_with (first | (refine wpList_load_run (t := 67) rfl rfl rfl hlq ?_) | (refine wpList_buildSlice_one (v := .agg QA) rfl rfl rfl Tryd.underlying77 hz2 hel (by decide) (by decide) ?_) | (at_builtin; refine wpList_append_run rfl _ _ _ rfl rfl rfl hrun ?_))
              go_roundw
              case rel => exact ⟨j + 1, by omega, by omega, by go_num, by rw [HWL.out]; go_num, by rw [HWL.out]; exact hS7.pull2.drop, HKN⟩
              case measure => simp [intOf]; omega
            | false =>
              rw [hin, if_neg (by decide)] at hws
              have HWS := Lib.hid hws
              clear hws hrun hS7 hlq
              go_wp2_with fail
              go_roundw
              case rel => exact ⟨j + 1, by omega, by omega, by go_num, by rw [HWS.out]; go_num, by rw [HWS.out]; exact hU.drop, HKN⟩
              case measure => simp [intOf]; omega
          · have hstop2 : (len0 : Int) ≤ j ∨ ((j : Int) < len0 ∧ (50 : Int) ≤ j) := by omega
            have cK := pKeep_any hS.pull2 ss (.slice A3 k c3) (by rw [HSL.out]; omega) rfl (fun W G hh => ⟨by rw [HSL.out]; exact (hh.to (by ac_rfl : _ = arr 63 17 (.slice A3 k c3) k (ss.flatMap Adr.enc) • (arr 67 40 (.slice A4 (wantL ss z0 j).length c4) (wantL ss z0 j).length ((wantL ss z0 j).flatMap Qry.enc) • emp • G))).arr_reads, by rw [HSL.out]; unfold maxLen; omega⟩)
            have hfl : ((keepR z0 j).filter fun x => !away ss x).length = (wantL ss z0 j).length := by simp [wantL]
            rw [keepR_length, hfl] at cK
            have HW : Hid (wantL ss z0 j = ((keepR z0 j).filter fun x => !away ss x).map (·.key)) := Lib.hid rfl
            have heq : ((j : Int) - (wantL ss z0 j).length == (j : Int) - (wantL ss z0 j).length) = true := by simp
            have hwz : (wantL ss z0 j).length ≤ 50 := by omega
            generalize (keepR z0 j).filter (fun x => !away ss x) = RR at *
            generalize wantL ss z0 j = WL at *
            have HFL2 := Lib.hid hfl
            clear hS hfl hwl hlt
            rcases hstop2 with hst2 | ⟨hst2, hst3⟩
            · go_wp2_with fail
              refine cK.mono ?_
              rintro e w5 ⟨rfl, hS5⟩
              have cA := pAll_any hS5
              clear cK
              go_wp2_with fail
              refine cA.mono ?_
              rintro e w6 ⟨v6, rfl, hS6⟩
              have cP := plainQ_any (RR.map (·.key)) WL v6 (.slice A4 WL.length c4) w6 ⟨by rw [List.length_map]; exact hS6.arr_reads, by rw [List.length_map, HFL2.out]; unfold maxLen; omega⟩ ⟨hS6.pull3.arr_reads, by unfold maxLen; omega⟩
              rw [← HW.out, sameOf_refl eqD_refl] at cP
              have hS6b := hS6
              obtain ⟨A6, c6, rfl⟩ := hS6b.arr_form
              clear cA hS6b
              go_wp2_with fail
              refine cP.mono ?_
              rintro e w7 ⟨rfl, hb7⟩
              have hS7 := hS6.below_ hb7
              have cL := pLen_any hS7.pull2
              rw [HFL2.out] at cL
              have hee : ((WL.length : Int) == WL.length) = true := by simp
              have hb := hS7.below
              clear cP hS6 hb7 hS7
              go_wp2_with fail
              refine cL.mono ?_
              rintro e w8 ⟨rfl, hw8⟩
              clear cL
              go_wp2_with fail
              go_ret
              rw [← hw8]
              exact ⟨rfl, hb⟩
            · go_wp2_with fail
              refine cK.mono ?_
              rintro e w5 ⟨rfl, hS5⟩
              have cA := pAll_any hS5
              clear cK
              go_wp2_with fail
              refine cA.mono ?_
              rintro e w6 ⟨v6, rfl, hS6⟩
              have cP := plainQ_any (RR.map (·.key)) WL v6 (.slice A4 WL.length c4) w6 ⟨by rw [List.length_map]; exact hS6.arr_reads, by rw [List.length_map, HFL2.out]; unfold maxLen; omega⟩ ⟨hS6.pull3.arr_reads, by unfold maxLen; omega⟩
              rw [← HW.out, sameOf_refl eqD_refl] at cP
              have hS6b := hS6
              obtain ⟨A6, c6, rfl⟩ := hS6b.arr_form
              clear cA hS6b
              go_wp2_with fail
              refine cP.mono ?_
              rintro e w7 ⟨rfl, hb7⟩
              have hS7 := hS6.below_ hb7
              have cL := pLen_any hS7.pull2
              rw [HFL2.out] at cL
              have hee : ((WL.length : Int) == WL.length) = true := by simp
              have hb := hS7.below
              clear cP hS6 hb7 hS7
              go_wp2_with fail
              refine cL.mono ?_
              rintro e w8 ⟨rfl, hw8⟩
              clear cL
              go_wp2_with fail
              go_ret
              rw [← hw8]
              exact ⟨rfl, hb⟩
        
end Go.Proofs.YtepaanpdjadakaaDoor
