import Derived.Test.YtdcekoocnoackaaGreatDoorPart19
import Derived.Test.YtdcekoocnoackaaGreatDoorPart02
import Derived.Test.YtdcekoocnoackaaGreatDoorPart06
import Derived.Test.YtdcekoocnoackaaGreatDoorPart04
import Derived.Stop.Asserts
import Derived.Test.YtdcekoocnoackaaGreatDoorPart14
import Derived.Test.YtdcekoocnoackaaGreatDoorPart12

/-! lexer.Tokens. -/
namespace Go.Proofs.YtdcekoocnoackaaGreatDoor
open Go Go.RowKit

theorem ext_tl (s : ByteArray) (i : Nat) : (s.extract i s.size).data.toList = s.data.toList.drop i := by
  simp only [ByteArray.data_extract, Array.toList_extract, List.extract]
  exact List.take_of_length_le (by simp)
theorem tok_zero : ∃ z, (Tryz.prog.info? 157).map (fun i => (i.zero, i.size, i.bytes)) = some (some z, 4, 40) ∧ (Tryz.prog.info? 157).map (fun i => (i.zero, i.size)) = some (some z, 4) ∧ z.cells.size = 4 := ⟨.agg #[.int .i64 0, .int .i64 0, .int .i64 0, .string ByteArray.empty], by kernel_rfl, by kernel_rfl, by kernel_rfl⟩
theorem word_le (s : ByteArray) (i : Nat) (h : i ≤ s.size) : i + ((s.data.toList.drop i).takeWhile isL).length ≤ s.size := by
  have h1 : ((s.data.toList.drop i).takeWhile isL).length ≤ (s.data.toList.drop i).length := (List.takeWhile_sublist _).length_le
  have h2 : (s.data.toList.drop i).length = s.size - i := by simp
  omega
set_option maxRecDepth 8000 in
set_option maxHeartbeats 2000000 in
theorem tokens_any {B : Nat} {w0 w : World} {F : HP} (h : Sat B w0 w F) (s : ByteArray) (hs : s.size ≤ 20000) (f : Nat) (T : List Tok) (hT : toksFrom f s 0 1 = some T) (hl : T.length ≤ 1000) :
    Calls Tryz.prog 26 #[.string s] w fun e w' => ∃ v, e = .returned (.tuple #[v, .nilIface]) ∧ Sat B w0 w' (arr 157 4 v T.length (T.flatMap Tok.enc) • F) := by
  have hS0 := arr_nil (e := 157) (sz := 4) h
  have hsz : (s.size : Int) ≤ 20000 := by omega
  clear h
  go_enter Tryz.func26, Tryz.ntmps26
  go_wp2_with fail
  go_loopw [4, 5, 6] (fun v r i wr => ∃ (D R : List Tok) (g row k : Nat), k ≤ s.size ∧ r = .int .i64 row ∧ i = .int .i64 k ∧ row ≤ k + 1 ∧ Hid (T = D ++ R ∧ toksFrom g s k row = some R) ∧ Sat B w0 wr (arr 157 4 v D.length (D.flatMap Tok.enc) • F)) (fun _ _ i _ => s.size - (intOf i).toNat)
  case atStart => exact ⟨[], T, f, 1, 0, Nat.zero_le _, rfl, rfl, by omega, Lib.hid ⟨rfl, hT⟩, hS0⟩
  case round =>
    clear hS0
    obtain ⟨D, R, g, row, k, hk, rfl, rfl, hrk, HK, hS⟩ := hrel
    obtain ⟨A3, c3, hv3⟩ := hS.arr_form
    subst hv3
    by_cases hlt : k < s.size
    · obtain ⟨c, hc⟩ : ∃ c, s.data.toList[k]? = some c := ⟨_, List.getElem?_eq_getElem (by simpa using hlt)⟩
      obtain ⟨h1, h2⟩ := ba_at hc
      have hlz : (k : Int) < (s.size : Int) := by omega
      have c1 := kind_any c wr
      obtain ⟨hTD, hR⟩ := HK.out
      clear HK
      cases g with
      | zero => simp [toksFrom] at hR
      | succ g =>
      unfold toksFrom at hR
      rw [hc] at hR
      simp only at hR
      generalize hKd : kindU c = K at *
      have HC : Hid (s.data.toList.drop k = c :: s.data.toList.drop (k + 1)) := Lib.hid (by rw [List.drop_eq_getElem_cons (by simpa using hlt)]; congr 1)
      clear hc
      by_cases k1 : K = 1
      · subst k1
        rw [if_pos rfl] at hR
        have HR := Lib.hid hR
        have HT := Lib.hid hTD
        clear hR hTD
        go_wp2_with fail
        refine c1.mono ?_
        rintro e w1 ⟨rfl, rfl⟩
        go_wp2_with fail
        go_roundw
        case rel => exact ⟨D, R, g, row, k + 1, by omega, rfl, by go_num, by omega, Lib.hid ⟨HT.out, HR.out⟩, hS⟩
        case measure => simp [intOf]; omega
      rw [if_neg k1] at hR
      by_cases k2 : K = 2
      · subst k2
        rw [if_pos rfl] at hR
        obtain ⟨R', hR', rfl⟩ := Option.map_eq_some_iff.1 hR
        obtain ⟨z, hz1, hz2, hz3⟩ := tok_zero
        have hDl : D.length + 1 + R'.length ≤ 1000 := by have := congrArg List.length hTD; simp at this; omega
        have hY := hS.alloc_ (.cells #[.int .i64 2, .int .i64 k, .int .i64 row, .string ⟨#[]⟩] 157)
        obtain ⟨v4, w4, hrun, hS4⟩ := hY.append (m := 1) (news := [.int .i64 2, .int .i64 k, .int .i64 row, .string ⟨#[]⟩]) (t := 82) (ty := 82) (P := Tryz.prog) (x := .slice (some ⟨wr.heap.size, 0, none⟩) 1 1) Tryz.underlying82 hz1 hz3 (by decide) (reads_new (cs := [.int .i64 2, .int .i64 k, .int .i64 row, .string ⟨#[]⟩])) rfl (Tok.enc_one ⟨2, k, row, ⟨#[]⟩⟩) (by unfold maxLen; omega) (by omega)
        obtain ⟨A5, c5, rfl⟩ := hS4.arr_form
        have HR := Lib.hid hR'
        have HT := Lib.hid hTD
        clear hR hR' hTD hS hY
        go_wp2_with fail
        refine c1.mono ?_
        rintro e w1 ⟨rfl, rfl⟩
        go_wp2_with (at_builtin; refine wpList_append_run rfl _ _ _ rfl rfl rfl hrun (stop_ ?_))
        unfold Stop
        go_wp2_with fail
        go_roundw
        case rel => exact ⟨D ++ [⟨2, k, row, ⟨#[]⟩⟩], R', g, row + 1, k + 1, by omega, by go_num, by go_num, by omega, Lib.hid ⟨by rw [HT.out]; simp; rfl, HR.out⟩, by simpa [Tok.enc] using hS4⟩
        case measure => simp [intOf]; omega
      rw [if_neg k2] at hR
      by_cases k4 : K = 4
      · subst k4
        have hp4 : 0 < ((c :: s.data.toList.drop (k + 1)).takeWhile isL).length := by simp [List.takeWhile, isL, hKd]
        rw [if_pos rfl] at hR
        obtain ⟨R', hR', rfl⟩ := Option.map_eq_some_iff.1 hR
        have hle := word_le s k hk
        have c2 := word_any (s.extract k s.size) (by simp; omega) wr
        rw [ext_tl] at c2
        have hpos : 0 < ((s.data.toList.drop k).takeWhile isL).length := by rw [HC.out]; exact hp4
        generalize ((s.data.toList.drop k).takeWhile isL).length = n at *
        obtain ⟨z, hz1, hz2, hz3⟩ := tok_zero
        have hDl : D.length + 1 + R'.length ≤ 1000 := by have := congrArg List.length hTD; simp at this; omega
        generalize hX : s.extract k (k + n) = X at *
        have hY := hS.alloc_ (.cells #[.int .i64 1, .int .i64 k, .int .i64 row, .string X] 157)
        obtain ⟨v4, w4, hrun, hS4⟩ := hY.append (m := 1) (news := [.int .i64 1, .int .i64 k, .int .i64 row, .string X]) (t := 82) (ty := 82) (P := Tryz.prog) (x := .slice (some ⟨wr.heap.size, 0, none⟩) 1 1) Tryz.underlying82 hz1 hz3 (by decide) (reads_new (cs := [.int .i64 1, .int .i64 k, .int .i64 row, .string X])) rfl (Tok.enc_one ⟨1, k, row, X⟩) (by unfold maxLen; omega) (by omega)
        obtain ⟨A5, c5, rfl⟩ := hS4.arr_form
        have hsl : ∀ W : World, (Instr.slice 9 (.string s) (some (.int .i64 (k : Int))) (some (.int .i64 ((k : Int) + (n : Int)))) none).run Tryz.prog W = .ok (.string X) W := fun W => by
          rw [run_slice_string W 9 s .i64 .i64 _ _ Tryz.underlying9 (by omega) (by omega) (by omega), ← hX]
          congr 2
        have HR := Lib.hid hR'
        have HT := Lib.hid hTD
        clear hR hR' hTD hS hY
        have hkn : (k : Int) + n ≤ s.size := by omega
        go_wp2_with fail
        refine c1.mono ?_
        rintro e w1 ⟨rfl, rfl⟩
        go_wp2_with fail
        refine c2.mono ?_
        rintro e w2 ⟨rfl, rfl⟩
        go_wp2_with (at_builtin; refine wpList_append_run rfl _ _ _ rfl rfl rfl hrun (stop_ ?_))
        unfold Stop
        go_wp2_with fail
        go_roundw
        case rel => exact ⟨D ++ [⟨1, k, row, X⟩], R', g, row, k + n, by omega, rfl, by go_num, by omega, Lib.hid ⟨by rw [HT.out]; simp, HR.out⟩, by simpa [Tok.enc] using hS4⟩
        case measure => simp [intOf]; omega
      rw [if_neg k4] at hR
      cases hR
    · obtain rfl : k = s.size := by omega
      obtain ⟨hTD, hR⟩ := HK.out
      cases g with
      | zero => simp [toksFrom] at hR
      | succ g =>
      unfold toksFrom at hR
      rw [List.getElem?_eq_none (by simp)] at hR
      obtain rfl := Option.some.inj hR
      obtain ⟨z, hz1, hz2, hz3⟩ := tok_zero
      have hDl : D.length + 1 ≤ 1000 := by have := congrArg List.length hTD; simp at this; omega
      have hY := hS.alloc_ (.cells #[.int .i64 2, .int .i64 s.size, .int .i64 row, .string ⟨#[]⟩] 157)
      obtain ⟨v4, w4, hrun, hS4⟩ := hY.append (m := 1) (news := [.int .i64 2, .int .i64 s.size, .int .i64 row, .string ⟨#[]⟩]) (t := 82) (ty := 82) (P := Tryz.prog) (x := .slice (some ⟨wr.heap.size, 0, none⟩) 1 1) Tryz.underlying82 hz1 hz3 (by decide) (reads_new (cs := [.int .i64 2, .int .i64 s.size, .int .i64 row, .string ⟨#[]⟩])) rfl (Tok.enc_one ⟨2, s.size, row, ⟨#[]⟩⟩) (by unfold maxLen; omega) (by omega)
      obtain ⟨A5, c5, rfl⟩ := hS4.arr_form
      have HT := Lib.hid hTD
      have hTl : T.length = D.length + 1 := by rw [hTD]; simp
      have HTl := Lib.hid hTl
      have hltz : ¬ (s.size : Int) < (s.size : Int) := by omega
      clear hR hTD hS hY HK hTl hT hl
      go_wp2_with (at_builtin; refine wpList_append_run rfl _ _ _ rfl rfl rfl hrun (stop_ ?_))
      unfold Stop
      go_wp2_with fail
      go_ret2
      refine ⟨_, rfl, ?_⟩
      rw [HTl.out, HT.out, List.flatMap_append]
      exact hS4.to (by simp [Tok.enc]; rfl)
end Go.Proofs.YtdcekoocnoackaaGreatDoor

/-! rule.lines. -/
namespace Go.Proofs.YtdcekoocnoackaaGreatDoor
open Go Go.RowKit

theorem lnw_zero : ∃ z, (Tryz.prog.info? 161).map (fun i => (i.zero, i.size, i.bytes)) = some (some z, 2, 32) ∧ (Tryz.prog.info? 161).map (fun i => (i.zero, i.size)) = some (some z, 2) ∧ z.cells.size = 2 := ⟨.agg #[.slice none 0 0, .int .i64 0], by kernel_rfl, by kernel_rfl, by kernel_rfl⟩
theorem lineNone_any (x : Ln) (w : World) : Calls Tryz.prog 128 #[.agg x.enc.toArray] w fun e w' => e = .returned (.bool x.toks.isEmpty) ∧ Below w.heap.size w w' := by
  have hS := (Sat.start w).alloc (.cells #[.slice x.a x.toks.length x.c, .int .i64 x.fin] 161)
  have hB := hS.below
  have d0 : (w.alloc (.cells #[.slice x.a x.toks.length x.c, .int .i64 x.fin] 161)).cell? ⟨w.heap.size, 0, none⟩ = some (.slice x.a x.toks.length x.c) := cell_heap hS.heap rfl
  have hq : ((x.toks.length : Int) == 0) = x.toks.isEmpty := by cases x.toks <;> simp; omega
  have he : x.enc.toArray = #[.slice x.a x.toks.length x.c, .int .i64 x.fin] := rfl
  rw [he]
  generalize x.toks.isEmpty = b at *
  clear hS he
  go_enter Tryz.func128, Tryz.ntmps128
  go_wp2_with fail
  go_ret
  exact ⟨rfl, hB⟩
set_option maxRecDepth 8000 in
set_option maxHeartbeats 2000000 in
theorem lines_any {B : Nat} {w0 w : World} {F : HP} {v : Value} {T : List Tok} (h : Sat B w0 w (arr 157 4 v T.length (T.flatMap Tok.enc) • F)) (hl : T.length ≤ 900) (hk : ∀ t ∈ T, t.kind = 1 ∨ t.kind = 2) :
    Calls Tryz.prog 62 #[v] w fun e w' => ∃ (v' : Value) (R : List Ln), e = .returned v' ∧ R.map Ln.plain = (linesF T []).filter (fun x => !x.1.isEmpty) ∧ Sat B w0 w' (arr 161 2 v' R.length (R.flatMap Ln.enc) • lns R (arr 157 4 v T.length (T.flatMap Tok.enc) • F)) := by
  obtain ⟨A, c, rfl⟩ := h.arr_form
  have h0 := arr_nil (e := 161) (sz := 2) ((h.alloc (.cells #[.slice none 0 0, .int .i64 0] 161)))
  have hS0 := arr_nil (e := 157) (sz := 4) h0
  generalize hb4 : w.heap.size = b4 at *
  have HK := Lib.hid hk
  clear h h0 hk
  go_enter Tryz.func62, Tryz.ntmps62
  go_wp2_with fail
  go_loopw [3, 6, 9] (fun o _ i wr => ∃ (k : Nat) (vx : Value) (X : List Tok) (R : List Ln), k ≤ T.length ∧ i = .int .i64 k ∧ Hid (R.map Ln.plain ++ linesF (T.drop k) X = linesF T []) ∧ X.length + R.length ≤ k ∧ Sat B w0 wr (arr 161 2 o R.length (R.flatMap Ln.enc) • arr 157 4 vx X.length (X.flatMap Tok.enc) • blk b4 (.cells #[vx, .int .i64 0] 161) • lns R (arr 157 4 (.slice A T.length c) T.length (T.flatMap Tok.enc) • F))) (fun _ _ i _ => T.length - (intOf i).toNat)
  case atStart => exact ⟨0, .slice none 0 0, [], [], Nat.zero_le _, rfl, Lib.hid rfl, Nat.le_refl _, hS0.pull2⟩
  case round =>
    clear hS0
    obtain ⟨k, vx, X, R, hk, rfl, HL, hXR, hS⟩ := hrel
    obtain ⟨A3, c3, hv3⟩ := hS.arr_form
    subst hv3
    obtain ⟨A4, c4, hv4⟩ := hS.drop.arr_form
    subst hv4
    by_cases hlt : k < T.length
    · obtain ⟨t, htk⟩ : ∃ t, T[k]? = some t := ⟨_, List.getElem?_eq_getElem hlt⟩
      have hTA := hS.drop.drop.drop
      rw [lns_star] at hTA
      obtain ⟨g, rfl, _, hc⟩ := hTA.arr_at Tok.enc_length rfl htk
      clear hTA
      have hltz : (k : Int) < T.length := by omega
      have hld : (Instr.loadAt 157 (.pointer (some ⟨g, k * 4, none⟩))).run Tryz.prog wr = .ok (.agg t.enc.toArray) wr :=
        run_loadAt_cells Tryz.underlying157 rfl (by rw [Tok.enc_length]; kernel_rfl) (fun j u hu => by rw [Addr.add_lit]; exact hc j u hu)
      have hst : ∀ z : Array Value, z.size = 4 → (Instr.storeAt 157 (.pointer (some ⟨wr.heap.size, 0, none⟩)) (.agg t.enc.toArray)).run Tryz.prog (wr.alloc (.cells z 157)) = .ok () (wr.alloc (.cells t.enc.toArray 157)) :=
        fun z hz => run_storeAt_new (v := .agg t.enc.toArray) (by simp only [Value.cells, List.size_toArray, Tok.enc_length]; kernel_rfl) (by simp only [Value.cells, List.size_toArray, Tok.enc_length]; exact hz) (by simpa [Value.cells] using Tok.enc_one t)
      have hY := hS.alloc (.cells t.enc.toArray 157)
      have d0 : (wr.alloc (.cells t.enc.toArray 157)).cell? ⟨wr.heap.size, 0, none⟩ = some (.int .i64 t.kind) := cell_heap hY.heap rfl
      have d1 : (wr.alloc (.cells t.enc.toArray 157)).cell? ⟨wr.heap.size, 1, none⟩ = some (.int .i64 t.pos) := cell_heap hY.heap rfl
      have e0 : (wr.alloc (.cells t.enc.toArray 157)).cell? ⟨b4, 0, none⟩ = some (.slice A4 X.length c4) := cell_heap hY.drop.drop.drop.heap rfl
      have hl2 : (Instr.loadAt 157 (.pointer (some ⟨wr.heap.size, 0, none⟩))).run Tryz.prog (wr.alloc (.cells t.enc.toArray 157)) = .ok (.agg t.enc.toArray) (wr.alloc (.cells t.enc.toArray 157)) :=
        run_loadAt_row hY.heap Tryz.underlying157 rfl (by rw [Tok.enc_length]; kernel_rfl) (fun j u hu => by simpa using hu)
      have hnx := linesF_next htk X
      have HX := Lib.hid hnx
      have hkt := HK.out t (List.mem_of_getElem? htk)
      clear hc hnx htk hS
      by_cases hk2 : t.kind = 2
      · rw [if_pos hk2] at HX
        rw [hk2] at d0
        obtain ⟨z, hz1, hz2, hz3⟩ := lnw_zero
        obtain ⟨w5, hst5, hS5⟩ := one_storeS (o := 1) (ty := 3) (u := .int .i64 t.pos) hY.pull4 (by kernel_rfl) (by simp) rfl rfl
        have hl5 : (Instr.loadAt 161 (.pointer (some ⟨b4, 0, none⟩))).run Tryz.prog w5 = .ok (.agg #[.slice A4 X.length c4, .int .i64 t.pos]) w5 :=
          run_loadAt_row (cs := [.slice A4 X.length c4, .int .i64 t.pos]) hS5.heap Tryz.underlying161 rfl (by kernel_rfl) (fun j u hu => by simpa using hu)
        have hY5 := hS5.alloc_ (.cells #[.slice A4 X.length c4, .int .i64 t.pos] 161)
        obtain ⟨v6, w6, hrun, hS6⟩ := (hY5.pull3).append (m := 1) (news := [.slice A4 X.length c4, .int .i64 t.pos]) (t := 158) (ty := 158) (P := Tryz.prog) (x := .slice (some ⟨w5.heap.size, 0, none⟩) 1 1) Tryz.underlying158 hz1 hz3 (by decide) (reads_new (cs := [.slice A4 X.length c4, .int .i64 t.pos])) rfl (by intro u hu; simp at hu; rcases hu with rfl | rfl <;> rfl) (by unfold maxLen; omega) (by omega)
        obtain ⟨A7, c7, rfl⟩ := hS6.arr_form
        have hst7 := run_storeAt_row (P := Tryz.prog) (o := 0) (ty := 161) (v := .agg #[.slice none 0 0, .int .i64 0]) hS6.pull2.heap (by kernel_rfl) (by simp [Value.cells]) (by simp [Value.cells, Value.oneCell'])
        have hS7 := hS6.pull2.setRow (cs := splice (#[Value.slice A4 X.length c4, .int .i64 0].setIfInBounds 1 (.int .i64 t.pos)) 0 [.slice none 0 0, .int .i64 0])
        simp only [Value.cells] at hst7
        clear hY hY5 hkt hk2
        generalize t.enc.toArray = Y at *
        go_wp2_with (first | (refine wpList_load_run (t := 157) rfl rfl rfl hld ?_) | (refine wpList_store_run (t := 157) rfl rfl rfl rfl (hst _ rfl) (stop_ ?_)))
        unfold Stop
        clear hst hld
        generalize wr.alloc (.cells Y 157) = W1 at *
        generalize wr.heap.size = q at *
        go_wp2_with (refine wpList_store_run (t := 3) rfl rfl rfl rfl hst5 (stop_ ?_))
        unfold Stop
        clear hst5 hl2 d0 d1 e0
        go_wp2_with (first | (refine wpList_load_run (t := 161) rfl rfl rfl hl5 ?_) | (at_builtin; refine wpList_append_run rfl _ _ _ rfl rfl rfl hrun (stop_ ?_)))
        unfold Stop
        clear hrun hl5
        go_wp2_with (refine wpList_store_run (t := 161) rfl rfl rfl rfl hst7 (stop_ ?_))
        unfold Stop
        go_wp2_with fail
        go_roundw
        case rel =>
          refine ⟨k + 1, .slice none 0 0, [], R ++ [⟨A4, c4, X, t.pos⟩], by omega, by go_num, Lib.hid ?_, by simp; omega, ?_⟩
          · rw [← HL.out, HX.out]; simp [Ln.plain]
          · have h6 := arr_nil (e := 157) (sz := 4) (hS7.to (by ac_rfl : _ = blk q (.cells Y 157) • arr 161 2 (.slice A7 (R.length + 1) c7) (R.length + 1) (R.flatMap Ln.enc ++ [.slice A4 X.length c4, .int .i64 t.pos]) • arr 157 4 (.slice A4 X.length c4) X.length (X.flatMap Tok.enc) • blk b4 (.cells (splice (#[Value.slice A4 X.length c4, .int .i64 0].setIfInBounds 1 (.int .i64 t.pos)) 0 [.slice none 0 0, .int .i64 0]) 161) • lns R (arr 157 4 (.slice (some ⟨g, 0, none⟩) T.length c) T.length (T.flatMap Tok.enc) • F))).drop
            rw [lns_app]
            simp only [lns]
            rw [lns_star]
            refine h6.to ?_
            rw [List.flatMap_append]
            simp only [List.flatMap_cons, List.flatMap_nil, List.append_nil, List.length_append, List.length_cons, List.length_nil, Ln.enc, Ln.v, lnb]
            ac_rfl
        case measure => simp [intOf]; omega
      · have hk1 : t.kind = 1 := by rcases hkt with h | h; exact h; exact absurd h hk2
        rw [if_neg hk2] at HX
        rw [hk1] at d0
        obtain ⟨z, hz1, hz2, hz3⟩ := tok_zero
        have hY2 := hY.alloc_ (.cells t.enc.toArray 157)
        obtain ⟨v4, w4, hrun, hS4⟩ := (hY2.pull3).append (m := 1) (news := t.enc) (t := 82) (ty := 82) (P := Tryz.prog) (x := .slice (some ⟨(wr.alloc (.cells t.enc.toArray 157)).heap.size, 0, none⟩) 1 1) Tryz.underlying82 hz1 hz3 (by decide) (reads_new (cs := t.enc)) rfl (Tok.enc_one t) (by unfold maxLen; omega) (by omega)
        obtain ⟨A5, c5, rfl⟩ := hS4.arr_form
        have hbw : (w4.cell? ⟨b4, 0, none⟩).isSome := by rw [cell_heap hS4.drop.drop.drop.heap rfl]; rfl
        have HFL : Hid ((Value.agg t.enc.toArray).cells.size = 4) := Lib.hid (by simp [Value.cells, Tok.enc_length])
        clear hY hY2 hkt hk2 hk1
        generalize t.enc.toArray = Y at *
        go_wp2_with (first | (refine wpList_load_run (t := 157) rfl rfl rfl hld ?_) | (refine wpList_store_run (t := 157) rfl rfl rfl rfl (hst _ rfl) (stop_ ?_)))
        unfold Stop
        clear hst hld
        generalize wr.alloc (.cells Y 157) = W1 at *
        generalize wr.heap.size = q at *
        go_wp2_with (first | (refine wpList_load_run (t := 157) rfl rfl rfl hl2 ?_) | (refine wpList_buildSlice_one (v := .agg Y) rfl rfl rfl Tryz.underlying82 hz2 HFL.out (by decide) (by decide) ?_) | (at_builtin; refine wpList_append_run rfl _ _ _ rfl rfl rfl hrun (stop_ ?_)))
        unfold Stop
        obtain ⟨w5, hst5, hS5⟩ := one_storeS (o := 0) (ty := 82) (u := .slice A5 (X.length + 1) c5) hS4.pull4 (by kernel_rfl) (by simp) rfl rfl
        clear hrun hl2
        go_wp2_with (refine wpList_store_run (t := 82) rfl rfl rfl rfl hst5 (stop_ ?_))
        unfold Stop
        go_wp2_with fail
        go_roundw
        case rel =>
          refine ⟨k + 1, .slice A5 (X.length + 1) c5, X ++ [t], R, by omega, by go_num, Lib.hid (by rw [← HX.out]; exact HL.out), by simp; omega, ?_⟩
          have h6 := (hS5.to (by ac_rfl : _ = blk q (.cells Y 157) • arr 161 2 (.slice A3 R.length c3) R.length (R.flatMap Ln.enc) • arr 157 4 (.slice A5 (X.length + 1) c5) (X.length + 1) (X.flatMap Tok.enc ++ t.enc) • blk b4 (.cells (#[Value.slice A4 X.length c4, .int .i64 0].setIfInBounds 0 (.slice A5 (X.length + 1) c5)) 161) • lns R (arr 157 4 (.slice (some ⟨g, 0, none⟩) T.length c) T.length (T.flatMap Tok.enc) • F))).drop
          exact h6.to (by simp)
        case measure => simp [intOf]; omega
    · obtain rfl : k = T.length := by omega
      have hltz : ¬ (T.length : Int) < T.length := by omega
      have HL2 := HL.out
      rw [List.drop_length] at HL2
      obtain ⟨z, hz1, hz2, hz3⟩ := lnw_zero
      have hl5 : (Instr.loadAt 161 (.pointer (some ⟨b4, 0, none⟩))).run Tryz.prog wr = .ok (.agg #[.slice A4 X.length c4, .int .i64 0]) wr :=
        run_loadAt_row (cs := [.slice A4 X.length c4, .int .i64 0]) hS.pull3.heap Tryz.underlying161 rfl (by kernel_rfl) (fun j u hu => by simpa using hu)
      have hY5 := hS.alloc_ (.cells #[.slice A4 X.length c4, .int .i64 0] 161)
      obtain ⟨v6, w6, hrun, hS6⟩ := hY5.append (m := 1) (news := [.slice A4 X.length c4, .int .i64 0]) (t := 158) (ty := 158) (P := Tryz.prog) (x := .slice (some ⟨wr.heap.size, 0, none⟩) 1 1) Tryz.underlying158 hz1 hz3 (by decide) (reads_new (cs := [.slice A4 X.length c4, .int .i64 0])) rfl (by intro u hu; simp at hu; rcases hu with rfl | rfl <;> rfl) (by unfold maxLen; omega) (by omega)
      obtain ⟨A7, c7, rfl⟩ := hS6.arr_form
      have h7 : Sat B w0 w6 (arr 161 2 (.slice A7 (R.length + 1) c7) (R ++ [(⟨A4, c4, X, 0⟩ : Ln)]).length ((R ++ [(⟨A4, c4, X, 0⟩ : Ln)]).flatMap Ln.enc) • lns (R ++ [(⟨A4, c4, X, 0⟩ : Ln)]) (arr 157 4 (.slice A T.length c) T.length (T.flatMap Tok.enc) • F)) := by
        have h6 := (hS6.to (by ac_rfl : _ = blk b4 (.cells #[Value.slice A4 X.length c4, .int .i64 0] 161) • arr 161 2 (.slice A7 (R.length + 1) c7) (R.length + 1) (R.flatMap Ln.enc ++ [.slice A4 X.length c4, .int .i64 0]) • arr 157 4 (.slice A4 X.length c4) X.length (X.flatMap Tok.enc) • lns R (arr 157 4 (.slice A T.length c) T.length (T.flatMap Tok.enc) • F))).drop
        rw [lns_app]
        simp only [lns]
        rw [lns_star]
        refine h6.to ?_
        rw [List.flatMap_append]
        simp only [List.flatMap_cons, List.flatMap_nil, List.append_nil, List.length_append, List.length_cons, List.length_nil, Ln.enc, Ln.v, lnb]
        rfl
      have hRl : (R ++ [(⟨A4, c4, X, 0⟩ : Ln)]).length ≤ 1000 := by simp; omega
      have hpl : (R ++ [(⟨A4, c4, X, 0⟩ : Ln)]).map Ln.plain = linesF T [] := by rw [← HL2]; simp [linesF, Ln.plain]
      generalize (R ++ [(⟨A4, c4, X, 0⟩ : Ln)]) = R9 at *
      have hdel := deleteL_any (B := B) (w0 := w0) (p := fun x : Ln => x.toks.isEmpty) (lb := #[]) Ln.enc_length Ln.enc_one (enters_of Tryz.func128 (by kernel_rfl) rfl) (fun _ => lns R9 (arr 157 4 (.slice A T.length c) T.length (T.flatMap Tok.enc) • F)) hRl (fun k x W G hx hG => (lineNone_any x W).mono (by rintro e w' ⟨rfl, hb⟩; exact ⟨rfl, hG.below_ hb⟩)) h7
      have HP := Lib.hid hpl
      clear hS hY5 hS6 h7 hpl HL HL2 HK
      go_wp2_with (first | (refine wpList_load_run (t := 161) rfl rfl rfl hl5 ?_) | (at_builtin; refine wpList_append_run rfl _ _ _ rfl rfl rfl hrun (stop_ ?_)))
      unfold Stop
      go_wp2_with fail
      refine hdel.mono ?_
      rintro e w9 ⟨v9, rfl, hS9⟩
      go_wp2_with fail
      go_ret
      refine ⟨v9, R9.filter (fun x => !x.toks.isEmpty), rfl, ?_, ?_⟩
      · rw [← HP.out, List.filter_map]; rfl
      · have := lns_filter (fun x : Ln => !x.toks.isEmpty) R9 _ (hS9.to (by rw [← lns_star]))
        rw [lns_star] at this
        exact this
end Go.Proofs.YtdcekoocnoackaaGreatDoor
