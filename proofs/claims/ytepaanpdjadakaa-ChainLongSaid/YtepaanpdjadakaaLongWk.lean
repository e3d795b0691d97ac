import Derived.Test.YtepaanpdjadakaaDig2
import Derived.Test.YtepaanpdjadakaaPut
import Derived.Test.YtepaanpdjadakaaInts
import Derived.Lib.MinMax
/-! ChainLong's walk. -/
namespace Go.Proofs.Ytepaanpdjadakaa
open Go Go.RowKit

set_option maxRecDepth 8000 in
set_option maxHeartbeats 1000000 in
theorem name_any (i : Nat) (h : i < 20) (w : World) : Calls Try.prog 21 #[.int .i64 i] w fun e w' => e = .returned (.string (nmB i)) ∧ Below w.heap.size w w' := by
  have hc := digits20_any i h w
  have hs : (dgB i).size ≤ 2 := by unfold dgB; split <;> (first | exact (by decide : (1 : Nat) ≤ 2) | exact (by decide : (2 : Nat) ≤ 2))
  have hn : (⟨#[110]⟩ : ByteArray) ++ dgB i = nmB i := rfl
  have hsz : ¬ 9223372036854775807 < 1 + (dgB i).size := by omega
  generalize dgB i = D at *
  go_enter Try.func21, Try.ntmps21
  go_wp2_with fail
  refine hc.mono ?_
  rintro e w1 ⟨rfl, hb⟩
  go_wp2_with fail
  go_ret
  exact ⟨by rw [← hn]; rfl, hb⟩
theorem mod_ofL (n k : Int) (h0 : 0 < k) (h1 : k ≤ 1000000) : ∃ m : Nat, (m : Int) < k ∧ wrap64 ((IntKind.u64.wrap n).tmod k) = m := by
  have hu : 0 ≤ IntKind.u64.wrap n := by simp only [IntKind.wrap, IntKind.bits, IntKind.signed]; simp; omega
  rw [Int.tmod_eq_emod_of_nonneg hu]
  have h2 := Int.emod_nonneg (IntKind.u64.wrap n) (by omega : k ≠ 0)
  have h3 := Int.emod_lt_of_pos (IntKind.u64.wrap n) h0
  refine ⟨(IntKind.u64.wrap n % k).toNat, by omega, ?_⟩
  rw [IntWalk.wrap64_in _ (by omega)]
  omega
theorem rec_zero3 : (Try.prog.info? 54).map (fun i => (i.zero, i.size, i.bytes)) = some (some (.agg zeroRec.enc.toArray), 23, 96) := by kernel_rfl
theorem exec_build1 {P : Program} {o : Oper} {a : Act} {t i : Nat} {x : Operand} {u : Value} {cells : Array Value} (ho : o.op = .build t #[(i, x)]) (hx : a.eval x = u) (hb : P.built t [(i, u)] = some cells) (w' : World) :
    (execOp a.eval o).run P w' = .ok (.value (.agg cells)) w' := by
  have hr := run_build (P := P) w' t ((#[(i, x)] : Array (Nat × Operand)).map fun (i, x) => (i, a.eval x)) cells (by simpa [hx] using hb)
  unfold execOp
  simp only [ho, Sem.run_bind, hr, Result.andThen_ok]
  rfl
theorem exec_build2L {P : Program} {o : Oper} {a : Act} {t i j : Nat} {x y : Operand} {u v : Value} {cells : Array Value} (ho : o.op = .build t #[(i, x), (j, y)]) (hx : a.eval x = u) (hy : a.eval y = v) (hb : P.built t [(i, u), (j, v)] = some cells) (w' : World) :
    (execOp a.eval o).run P w' = .ok (.value (.agg cells)) w' := by
  have hr := run_build (P := P) w' t ((#[(i, x), (j, y)] : Array (Nat × Operand)).map fun (i, x) => (i, a.eval x)) cells (by simpa [hx, hy] using hb)
  unfold execOp
  simp only [ho, Sem.run_bind, hr, Result.andThen_ok]
  rfl
theorem msg_built (A : Option Addr) (n c : Nat) : Try.prog.built 38 [(6, .slice A n c)] = some #[.int .i64 0, .bool false, .int .i64 0, .int .i64 0, .int .i64 0, .slice none 0 0, .slice A n c, .slice none 0 0, .slice none 0 0] := by kernel_rfl
theorem flat_rec (l : List Rec) : (l.flatMap Rec.enc).length = l.length * 23 := flat_length Rec.enc_length l
theorem flat_rec_one (l : List Rec) : ∀ u ∈ l.flatMap Rec.enc, u.oneCell' = true := by
  intro u hu
  obtain ⟨x, _, hx⟩ := List.mem_flatMap.1 hu
  exact x.enc_one u hx
attribute [local irreducible] wpOrd
set_option maxRecDepth 8000 in
set_option maxHeartbeats 32000000 in
theorem long_any (n0 r0 : Int) (at_ : Option Addr) (lt ct : Nat) (ts : List Int) (ttl : Int) (w : World) (hts : IsRow .i64 w at_ lt ct ts) (wl : (Lit.int .u32 ttl).wf = true) :
    Calls Try.prog 8 #[.int .i64 n0, .int .i64 r0, .slice at_ lt ct, .int .u32 ttl] w fun e w' => e = .returned (.bool true) ∧ Below w.heap.size w w' := by
  have hl : 0 ≤ ttl ∧ ttl ≤ 4294967295 := by
    simp [Lit.wf, IntKind.signed, IntKind.bits, IntKind.min, IntKind.max] at wl
    omega
  clear wl
  obtain ⟨m, hm, hmod⟩ := mod_ofL n0 20 (by decide) (by decide)
  obtain ⟨n, hn0⟩ : ∃ n : Nat, n = m + 1 := ⟨_, rfl⟩
  have hn1 : 1 + (m : Int) = n := by omega
  have hn2 : (n : Int) - 1 = (m : Int) := by omega
  have hn20 : n ≤ 20 := by omega
  have hnp : 1 ≤ n := by omega
  have hnm : n - 1 = m := by omega
  have HN := Lib.hid hn0
  clear hn0 hm
  obtain ⟨t, ht⟩ : ∃ t, t = ttl / 2 := ⟨_, rfl⟩
  have htb : 0 ≤ t ∧ t ≤ 2147483647 := by omega
  have htd : ttl / 2 = t := ht.symm
  have HTD := Lib.hid htd
  clear ht htd
  have htl := hts.len_le
  unfold maxLen at htl
  have HTS := Lib.hid hts
  clear hts
  go_enter Try.func8, Try.ntmps8
  go_wp2_with fail
  rw [hmod]
  go_wp2_with fail
  clear hmod
  have hS0 := arr_nil (e := 54) (sz := 23) (Sat.start w)
  go_loopw [10, 11] (fun v ii wr => ∃ i : Nat, i + 1 ≤ n ∧ ii = .int .i64 i ∧ Sat w.heap.size w wr (arr 54 23 v i ((recsL t i).flatMap Rec.enc) • emp)) (fun _ ii _ => n - (intOf ii).toNat)
  case atStart => exact ⟨0, hnp, rfl, hS0⟩
  case round =>
    clear hS0
    obtain ⟨i, hi, rfl, hS⟩ := hrel
    obtain ⟨A, c, hv⟩ := hS.arr_form
    subst hv
    by_cases hlt : i + 1 < n
    · have hltz : (i : Int) + 1 < n := by omega
      have hc1 := name_any i (by omega) wr
      have hwi : IntKind.u32.wrap (i : Int) = i := by simp [IntKind.wrap, IntKind.bits, IntKind.signed]; omega
      have hws : IntKind.u32.wrap (t + i) = t + i := by simp [IntKind.wrap, IntKind.bits, IntKind.signed]; omega
      have HWI := Lib.hid hwi
      have HWS := Lib.hid hws
      clear hwi hws
      go_wp2_with fail
      refine hc1.mono ?_
      rintro e w1 ⟨rfl, hb1⟩
      have hc2 := name_any (i + 1) (by omega) w1
      rw [Int.natCast_add, Int.natCast_one] at hc2
      clear hc1
      go_wp2_with fail
      refine hc2.mono ?_
      rintro e w2 ⟨rfl, hb2⟩
      have hc3 := cname_any (nmB i) (nmB (i + 1)) (t + i) w2
      clear hc2
      go_wp2_with fail
      try rw [HTD.out]
      try rw [HWI.out]
      try rw [HWS.out]
      refine hc3.mono ?_
      rintro e w3 ⟨rfl, hb3⟩
      have hS3 := ((hS.below_ hb1).below_ hb2).below_ hb3
      clear hc3 hS hb1 hb2 hb3
      rw [show cnameOf (nmB i) (nmB (i + 1)) (t + i) = cnR t i from rfl]
      have hY := hS3.alloc_ (.cells (cnR t i).enc.toArray 54)
      obtain ⟨v4, w4, hrun, hS4⟩ := hY.append (m := 1) (news := (cnR t i).enc) (t := 36) (ty := 36) (P := Try.prog) (x := .slice (some ⟨w3.heap.size, 0, none⟩) 1 1) Try.underlying36 rec_zero3 (by simp [Value.cells, Rec.enc_length]) (by decide) reads_new (by rw [Rec.enc_length]) (Rec.enc_one _) (by unfold maxLen; omega) (by omega)
      have htk : (recsL t i).flatMap Rec.enc ++ (cnR t i).enc = (recsL t (i + 1)).flatMap Rec.enc := by rw [recsL_succ, List.flatMap_append, List.flatMap_singleton]
      rw [htk] at hS4
      have HYL : Hid ((Value.agg (cnR t i).enc.toArray).cells.size = 23) := Lib.hid (by simp [Value.cells, Rec.enc_length])
      have HRZ := Lib.hid record_zero
      clear htk hY hS3
      generalize (cnR t i).enc.toArray = Y at *
      go_wp2_with (first | (refine wpList_buildSlice_one (v := .agg Y) rfl rfl rfl Try.underlying36 HRZ.out HYL.out (by decide) (by decide) ?_) | (at_builtin; refine wpList_append_run rfl _ _ _ rfl rfl rfl hrun ?_))
      go_roundw
      case rel => exact ⟨i + 1, by omega, by go_num, hS4⟩
      case measure => simp [intOf]; omega
    · have hltz : ¬ (i : Int) + 1 < n := by omega
      obtain rfl : i = m := by omega
      have hc1 := name_any i (by omega) wr
      go_wp2_with fail
      try rw [hn2]
      refine hc1.mono ?_
      rintro e w1 ⟨rfl, hb1⟩
      have hc3 := a_any (nmB i) 7 ttl w1
      clear hc1
      go_wp2_with fail
      refine hc3.mono ?_
      rintro e w3 ⟨rfl, hb3⟩
      have hS3 := (hS.below_ hb1).below_ hb3
      clear hc3 hS hb1 hb3
      have hY := hS3.alloc_ (.cells (aOf (nmB i) 7 ttl).enc.toArray 54)
      obtain ⟨v4, w4, hrun, hS4⟩ := hY.append (m := 1) (news := (aOf (nmB i) 7 ttl).enc) (t := 36) (ty := 36) (P := Try.prog) (x := .slice (some ⟨w3.heap.size, 0, none⟩) 1 1) Try.underlying36 rec_zero3 (by simp [Value.cells, Rec.enc_length]) (by decide) reads_new (by rw [Rec.enc_length]) (Rec.enc_one _) (by unfold maxLen; omega) (by omega)
      have htk : (recsL t i).flatMap Rec.enc ++ (aOf (nmB i) 7 ttl).enc = (longL n ttl t).flatMap Rec.enc := by unfold longL; rw [hnm, List.flatMap_append, List.flatMap_singleton]
      have hLM : LongM n ttl t (longL n ttl t) := ⟨hnp, hn20, List.Perm.refl _⟩
      rw [htk, show i + 1 = n by omega] at hS4
      have HLM := Lib.hid hLM
      have HYL : Hid ((Value.agg (aOf (nmB i) 7 ttl).enc.toArray).cells.size = 23) := Lib.hid (by simp [Value.cells, Rec.enc_length])
      have HRZ := Lib.hid record_zero
      clear htk hY hS3 hLM
      generalize (aOf (nmB i) 7 ttl).enc.toArray = Y at *
      generalize hL0 : longL n ttl t = L0 at *
      clear hL0
      go_wp2_with (first | (refine wpList_buildSlice_one (v := .agg Y) rfl rfl rfl Try.underlying36 HRZ.out HYL.out (by decide) (by decide) ?_) | (at_builtin; refine wpList_append_run rfl _ _ _ rfl rfl rfl hrun ?_))
      obtain ⟨A4, c4, rfl⟩ := hS4.arr_form
      have hun : ¬ IntKind.u64.wrap (n : Int) = 0 := by simp [IntKind.wrap, IntKind.bits, IntKind.signed]; omega
      have huw : IntKind.u64.wrap (n : Int) = n := by simp [IntKind.wrap, IntKind.bits, IntKind.signed]; omega
      have HUW := Lib.hid huw
      have hnz : ¬ (n : Int) = 0 := by omega
      clear HYL huw
      go_loopw [12] (fun ii wr => ∃ (k : Nat) (L : List Rec), k ≤ lt ∧ k ≤ 40 ∧ ii = .int .i64 k ∧ Sat w.heap.size w wr (arr 54 23 (.slice A4 n c4) n (L.flatMap Rec.enc) • emp) ∧ Hid (LongM n ttl t L)) (fun ii _ => lt - (intOf ii).toNat)
      case atStart => exact ⟨0, L0, Nat.zero_le _, by omega, rfl, hS4, HLM⟩
      case round =>
        clear hS4 HLM
        obtain ⟨k, L, hk, hk40, rfl, hS, HLM⟩ := hrel
        have hll : L.length = n := by rw [HLM.out.perm.length_eq, longL_length _ _ _ hnp]
        by_cases hlt2 : k < lt ∧ k < 40
        · obtain ⟨q1, q2⟩ := hlt2
          have q1z : (k : Int) < lt := by omega
          have q2z : (k : Int) < 40 := by omega
          obtain ⟨x, rfl, hxb, hx⟩ := HTS.out.at' q1
          have hx1 := hx wr hS.below
          generalize ts.getD k 0 = z at hx1
          obtain ⟨j, hj, hmj⟩ := mod_ofL z n (by omega) (by omega)
          obtain ⟨kk, hkk, hmk⟩ : ∃ kk : Nat, kk < n ∧ (k : Int).tmod n = kk := ⟨k % n, Nat.mod_lt _ hnp, by rw [Int.tmod_eq_emod_of_nonneg (by omega)]; rfl⟩
          have hkkz : (kk : Int) < n := by omega
          obtain ⟨rj, hrj⟩ : ∃ r, L[j]? = some r := ⟨_, List.getElem?_eq_getElem (by omega)⟩
          obtain ⟨rk, hrk⟩ : ∃ r, L[kk]? = some r := ⟨_, List.getElem?_eq_getElem (by omega)⟩
          have hD := hS.drew
          rw [← hll] at hD
          obtain ⟨g, c5, w5, hv5, hst5, hS5⟩ := hD.arr_put (P := Try.prog) (ty := 54) Rec.enc_length Rec.enc_one (by kernel_rfl) (by decide) (show kk < L.length by omega) rj
          simp only [Value.slice.injEq] at hv5
          obtain ⟨rfl, _, rfl⟩ := hv5
          obtain ⟨g6, c6, w6, hv6, hst6, hS6⟩ := hS5.arr_put (P := Try.prog) (ty := 54) Rec.enc_length Rec.enc_one (by kernel_rfl) (by decide) (show j < (L.set kk rj).length by rw [List.length_set]; omega) rk
          simp only [Value.slice.injEq, Option.some.injEq, Addr.mk.injEq] at hv6
          obtain ⟨⟨rfl, _⟩, _, rfl⟩ := hv6
          have hrow : ∀ W, Sat w.heap.size w W (arr 54 23 (.slice (some ⟨g, 0, none⟩) L.length c4) L.length (L.flatMap Rec.enc) • emp) → (Instr.loadAt 54 (.pointer (some ⟨g, j * 23, none⟩))).run Try.prog W = .ok (.agg rj.enc.toArray) W ∧ (Instr.loadAt 54 (.pointer (some ⟨g, kk * 23, none⟩))).run Try.prog W = .ok (.agg rk.enc.toArray) W := by
            intro W hW
            have key : ∀ (i : Nat) (r : Rec), L[i]? = some r → (Instr.loadAt 54 (.pointer (some ⟨g, i * 23, none⟩))).run Try.prog W = .ok (.agg r.enc.toArray) W := by
              intro i r hir
              obtain ⟨a', c', hv, hcl⟩ := hW.arr_reads.elem Rec.enc_length hir
              simp only [Value.slice.injEq] at hv
              obtain ⟨e1, _, _⟩ := hv
              obtain rfl := Option.some.inj e1
              exact run_loadAt_cells Try.underlying54 rfl (by rw [r.enc_length]; kernel_rfl) (fun j u hu => by
                have := hcl j u hu
                rw [Addr.add_lit] at this ⊢
                simpa using this)
            exact ⟨key _ _ hrj, key _ _ hrk⟩
          have HROW := Lib.hid hrow
          have hLM2 := HLM.out.swap hrk hrj
          have HLM2 := Lib.hid hLM2
          have hS7 : Sat w.heap.size w w6 (arr 54 23 (.slice (some ⟨g, 0, none⟩) n c4) n (((L.set kk rj).set j rk).flatMap Rec.enc) • emp) := by
            rw [List.length_set, List.length_set, hll] at hS6
            exact hS6
          rw [hll] at hD HROW
          clear hS hS5 hS6 hrow hLM2 hrj hrk HLM hx
          generalize rj.enc.toArray = Yj at *
          generalize rk.enc.toArray = Yk at *
          go_wp2_with fail
          rw [hmj]
          try go_frame
          refine wp_region_ord [(0, .pure), (1, .pure), (2, .pure), (3, .pure), (4, .pure), (5, .pure), (6, .pure), (7, .pure), (8, .pure), (9, .pure), (10, .quiet), (11, .pure), (12, .pure), (13, .pure), (14, .pure), (15, .pure), (16, .pure), (17, .quiet), (18, .pure), (19, .seals), (20, .pure), (21, .seals)] (by kernel_rfl) (by kernel_rfl)
            (fun w' => Sat w.heap.size w w' (arr 54 23 (.slice (some ⟨g, 0, none⟩) n c4) n (L.flatMap Rec.enc) • emp)) hD ?_
          iterate 10 (refine ord_pure rfl rfl rfl (fun K' hK => ?_); go_big_quiet_op; refine hK _ ?_; clear hK K')
          refine ord_load (t := 54) rfl rfl rfl (p := .pointer (some ⟨g, j * 23, none⟩)) (v := .agg Yj) rfl (fun w' hC => (HROW.out _ hC).1) (fun K' hK => ?_)
          go_simp
          refine hK _ ?_
          clear hK K'
          iterate 6 (refine ord_pure rfl rfl rfl (fun K' hK => ?_); go_big_quiet_op; refine hK _ ?_; clear hK K')
          refine ord_load (t := 54) rfl rfl rfl (p := .pointer (some ⟨g, kk * 23, none⟩)) (v := .agg Yk) rfl (fun w' hC => (HROW.out _ hC).2) (fun K' hK => ?_)
          go_simp
          refine hK _ ?_
          clear hK K'
          iterate 1 (refine ord_pure rfl rfl rfl (fun K' hK => ?_); go_big_quiet_op; refine hK _ ?_; clear hK K')
          refine ord_store rfl rfl rfl rfl (p := .pointer (some ⟨g, kk * 23, none⟩)) (v := .agg Yj) rfl rfl hst5 (fun _ => True) trivial ?_
          go_simp
          iterate 1 (refine ord_pure rfl rfl rfl (fun K' hK => ?_); go_big_quiet_op; refine hK _ ?_; clear hK K')
          refine ord_store rfl rfl rfl rfl (p := .pointer (some ⟨g, j * 23, none⟩)) (v := .agg Yk) rfl rfl hst6 (fun _ => True) trivial ?_
          go_simp
          refine ord_nil ?_
          go_wp2_with fail
          go_roundw
          case rel => exact ⟨k + 1, (L.set kk rj).set j rk, by omega, by omega, by go_num, hS7, HLM2⟩
          case measure => simp [intOf]; omega
        · have hstop : (lt : Int) ≤ k ∨ ((k : Int) < lt ∧ (40 : Int) ≤ k) := by omega
          clear hk hk40
          rcases hstop with h1 | ⟨h1, h2⟩
          · go_wp2_with fail
            have hc0 := name_any 0 (by decide) wr
            rw [Int.natCast_zero] at hc0
            refine hc0.mono ?_
            rintro e w1 ⟨rfl, hb1⟩
            have hS1 := hS.below_ hb1
            clear hc0 hS hb1
            have hra : RecsAt w1 (.slice A4 n c4) L := ⟨by rw [hll]; exact hS1.arr_reads, by omega⟩
            go_wp2_with fail
            refine (follow_any ⟨_, _, _, _, _, _, _, _, _⟩ L _ _ hra (by omega)).mono ?_
            rintro e w2 ⟨v1, v2, rfl, hF⟩
            have hS2 := hS1.and hF
            have hS2 := hS2.to (by ac_rfl : _ = arr 54 23 (.slice A4 n c4) n (L.flatMap Rec.enc) • arr 49 18 v1 (followOf L (nmB 0)).1.length ((followOf L (nmB 0)).1.flatMap Fnd.enc) • arr 9 1 v2 (followOf L (nmB 0)).2.length ((followOf L (nmB 0)).2.map Value.string) • emp • emp)
            have hfo := HLM.out.follow htb hl
            obtain ⟨r, hr, hmr⟩ := mod_ofL r0 n (by omega) (by omega)
            have hrz : (r : Int) < n := by omega
            have hr20 : r < 20 := by omega
            have hrd := HLM.out.round htb (show r < n by omega) 9
            rw [hnm] at hrd
            obtain ⟨FF, hFF⟩ : ∃ FF, FF = (followOf L (nmB 0)).1 := ⟨_, rfl⟩
            obtain ⟨NN, hNN⟩ : ∃ NN, NN = (followOf L (nmB 0)).2 := ⟨_, rfl⟩
            rw [← hFF, ← hNN] at hS2
            obtain ⟨AF, cF, rfl⟩ := hS2.pull2.arr_form
            obtain ⟨AN, cN, rfl⟩ := hS2.pull3.arr_form
            have HFF := Lib.hid hFF
            have HNN := Lib.hid hNN
            have HFO := Lib.hid hfo
            have HRD := Lib.hid hrd
            clear hF hS1 hra hFF hNN hfo hrd
            go_wp2_with fail
            try go_frame
            have hD2 := hS2.drew
            clear hS2
            obtain ⟨v3, w3', hr1, hS3⟩ := (arr_nil (e := 54) (sz := 23) hD2).append (m := n) (news := L.flatMap Rec.enc) (t := 36) (ty := 36) (P := Try.prog) (x := .slice A4 n c4) Try.underlying36 rec_zero3 (by simp [Value.cells, Rec.enc_length]) (by decide) hD2.arr_reads (by rw [flat_rec, hll]) (flat_rec_one L) (by unfold maxLen; omega) (by omega)
            rw [Nat.zero_add, List.nil_append] at hS3
            obtain ⟨A5, c5, rfl⟩ := hS3.arr_form
            have hn1' := name_any i (by omega) w3'
            have hYL : Hid ((Value.agg (cnameOf (nmB i) (nmB r) 9).enc.toArray).cells.size = 23) := Lib.hid (by simp [Value.cells, Rec.enc_length])
            have HRE := Lib.hid (And.intro (Rec.enc_one (cnameOf (nmB i) (nmB r) 9)) (Rec.enc_length (cnameOf (nmB i) (nmB r) 9)))
            have hcn := fun W : World => cname_any (nmB i) (nmB r) 9 W
            obtain ⟨YR, hYR⟩ : ∃ YR, YR = cnameOf (nmB i) (nmB r) 9 := ⟨_, rfl⟩
            rw [← hYR] at hYL HRE hcn HRD
            clear hD2 hYR
            refine wp_region_ord [(0, .pure), (2, .pure), (3, .pure), (4, .pure), (6, .pure), (7, .pure), (8, .pure), (9, .pure), (10, .pure), (11, .pure), (12, .pure), (18, .pure), (1, .acts), (5, .acts), (13, .acts), (14, .acts), (15, .acts), (16, .acts), (17, .pure), (19, .acts), (20, .acts), (21, .pure), (22, .pure), (23, .pure), (24, .pure), (25, .pure)] (by kernel_rfl) (by kernel_rfl)
              (fun w' => True) trivial ?_
            iterate 12 (refine ord_pure rfl rfl rfl (fun K' hK => ?_); go_big_quiet_op; refine hK _ ?_; clear hK K')
            refine ord_acts rfl rfl (fun K' hK => wp_append_run _ _ _ rfl rfl rfl hr1 (hK _ _ trivial ?_))
            clear hK K'
            go_simp
            try rw [hn2]
            refine ord_acts rfl rfl (fun K' hK => ?_)
            go_simp
            refine (hn1').mono ?_
            rintro e w4 ⟨rfl, hb4⟩
            have hS4 := hS3.below_ hb4
            have hn3 := name_any r (by omega) w4
            refine hK _ _ (trivial) ?_
            clear hK K'
            go_simp
            try rw [hmr]
            refine ord_acts rfl rfl (fun K' hK => ?_)
            go_simp
            refine (hn3).mono ?_
            rintro e w5 ⟨rfl, hb5⟩
            have hS5 := hS4.below_ hb5
            refine hK _ _ (trivial) ?_
            clear hK K'
            go_simp
            refine ord_acts rfl rfl (fun K' hK => ?_)
            go_simp
            refine (hcn _).mono ?_
            rintro e w6 ⟨rfl, hb6⟩
            have hS6 := (hS5.below_ hb6)
            have hS7 := hS6.alloc_ (.cells YR.enc.toArray 54)
            obtain ⟨v8, w8, hr8, hS8⟩ := hS7.append (m := 1) (news := YR.enc) (t := 36) (ty := 36) (P := Try.prog) (x := .slice (some ⟨w6.heap.size, 0, none⟩) 1 1) Try.underlying36 rec_zero3 (by simp [Value.cells, Rec.enc_length]) (by decide) reads_new (by rw [Rec.enc_length]) (Rec.enc_one _) (by unfold maxLen; omega) (by omega)
            rw [show L.flatMap Rec.enc ++ YR.enc = (L ++ [YR]).flatMap Rec.enc by rw [List.flatMap_append, List.flatMap_singleton]] at hS8
            obtain ⟨A8, c8, rfl⟩ := hS8.arr_form
            have hM8 := msg_built A8 (n + 1) c8
            have hc0 := name_any 0 (by decide) w8
            rw [Int.natCast_zero] at hc0
            clear hS3 hS4 hS5 hS6 hS7
            generalize YR.enc.toArray = YE at *
            refine hK _ _ (trivial) ?_
            clear hK K'
            go_simp
            refine ord_acts rfl rfl (fun K' hK => wp_buildSlice_one (v := .agg YE) (sz := 23) rfl rfl Try.underlying36 record_zero hYL.out (by decide) (by decide) (hK _ _ trivial ?_))
            clear hK K'
            go_simp
            refine ord_acts rfl rfl (fun K' hK => wp_append_run _ _ _ rfl rfl rfl hr8 (hK _ _ trivial ?_))
            clear hK K'
            go_simp
            refine ord_run rfl rfl (exec_build1 rfl (u := .slice A8 (n + 1) c8) rfl hM8) (fun K' hK => ?_)
            go_simp
            refine hK _ ?_
            clear hK K'
            refine ord_acts rfl rfl (fun K' hK => ?_)
            go_simp
            refine (hc0).mono ?_
            rintro e w9 ⟨rfl, hb9⟩
            have hS9 := hS8.below_ hb9
            have hra9 : RecsAt w9 (.slice A8 (n + 1) c8) (L ++ [YR]) := ⟨by rw [List.length_append, hll]; exact hS9.arr_reads, by rw [List.length_append, hll]; simp; omega⟩
            refine hK _ _ (trivial) ?_
            clear hK K'
            go_simp
            refine ord_acts rfl rfl (fun K' hK => ?_)
            go_simp
            refine (follow_any ⟨_, _, _, _, _, _, _, _, _⟩ (L ++ [YR]) _ _ hra9 (by rw [List.length_append, hll]; simp; omega)).mono ?_
            rintro e w10 ⟨v5, v6, rfl, hF⟩
            rw [HRD.out] at hF
            dsimp only [List.length_nil, List.flatMap_nil, List.map_nil] at hF
            have hS10 := hS9.and hF
            obtain ⟨A10, c10, rfl⟩ := hF.arr_form
            obtain ⟨A11, c11, rfl⟩ := hF.pull2.arr_form
            refine hK _ _ (trivial) ?_
            clear hK K'
            go_simp
            iterate 5 (refine ord_pure rfl rfl rfl (fun K' hK => ?_); go_big_quiet_op; refine hK _ ?_; clear hK K')
            refine ord_nil ?_
            clear hr1 hn1' hn3 hr8 hM8 hc0 hra9 hF
            go_wp2_with fail
            refine (awake_any _).mono ?_
            rintro e w11 ⟨rfl, hb11⟩
            have hS11 := (hS10.below_ hb11).to (by ac_rfl : _ = arr 49 18 (.slice AF FF.length cF) FF.length (FF.flatMap Fnd.enc) • (arr 49 18 (.slice A10 0 c10) 0 [] • arr 9 1 (.slice A11 0 c11) 0 [] • emp) • arr 54 23 (.slice A8 (n + 1) c8) (n + 1) ((L ++ [YR]).flatMap Rec.enc) • arr 54 23 (.slice A4 n c4) n (L.flatMap Rec.enc) • arr 9 1 (.slice AN NN.length cN) NN.length (NN.map Value.string) • emp • emp)
            have hfo := HFO.out
            by_cases h16 : n ≤ 16
            · rw [if_pos h16] at hfo
              have h16z : ¬ (16 : Int) < n := by omega
              have hNl : NN.length = n := by rw [HNN.out, hfo]; simp [nms]
              obtain ⟨wt, hwt⟩ : ∃ wt, wt = if n = 1 then ttl else min ttl t := ⟨_, rfl⟩
              rw [← hwt] at hfo
              have hF1 : FF = [⟨v4 8 8 8 7, wt⟩] := by rw [HFF.out, hfo]
              have hFl : FF.length = 1 := by rw [hF1]; rfl
              rw [hFl, hF1] at hS11
              have hS12 := Sat.left hS11
              rcases hS11.arr_open with ⟨_, h0, _, _⟩ | ⟨g, cap, cur, hv, q1, q2, q3, q4, hO⟩
              · cases h0
              simp only [Value.slice.injEq] at hv
              obtain ⟨rfl, _, rfl⟩ := hv
              have hld : ∀ W, Sat w.heap.size w W (arr 49 18 (.slice (some ⟨g, 0, none⟩) 1 cF) 1 ([(⟨v4 8 8 8 7, wt⟩ : Fnd)].flatMap Fnd.enc) • emp) → (Instr.loadAt 49 (.pointer (some ⟨g, 0, none⟩))).run Try.prog W = .ok (.agg (Fnd.enc ⟨v4 8 8 8 7, wt⟩).toArray) W := by
                intro W hW
                have hfa : FndsAt W (.slice (some ⟨g, 0, none⟩) 1 cF) [⟨v4 8 8 8 7, wt⟩] := ⟨hW.arr_reads, by simp⟩
                have := FndsAt.cellAt (i := 0) hfa rfl rfl
                rw [Addr.add_lit] at this
                simpa using this
              have HLD := Lib.hid hld
              have HFB := Lib.hid (found_built (v4 8 8 8 7) wt)
              have HEQ := Lib.hid (fun w' : World => (fnd_eq 9996 ⟨v4 8 8 8 7, wt⟩ ⟨v4 8 8 8 7, wt⟩ : EqV Try.prog w' 10000 49 _ _ _))
              have hEQd : decide ((⟨v4 8 8 8 7, wt⟩ : Fnd) = ⟨v4 8 8 8 7, wt⟩) = true := by simp
              rw [hEQd] at HEQ
              have hv4 := fun W : World => v4_any 8 8 8 7 W
              have hSE := hS11
              have hE := hS12.add_emp
              rw [hFl, hNl]
              clear hld q1 q2 q3 q4 hO hS11 hS12 hSE hS10 hF1 hFl hNl hfo HFO HFF HNN HRD hEQd
              generalize (Fnd.enc ⟨v4 8 8 8 7, wt⟩).toArray = FE at *
              generalize (v4 8 8 8 7).enc.toArray = VE at *
              by_cases h1n : n = 1
              · rw [if_pos h1n] at hwt
                subst hwt
                have h1z : ¬ (1 : Int) < n := by omega
                go_wp2_with fail
                try go_frame
                refine wp_region_ord [(0, .pure), (1, .pure), (2, .pure), (3, .pure), (4, .pure), (5, .pure), (6, .pure), (7, .pure), (8, .pure), (9, .pure), (10, .pure), (11, .pure), (12, .quiet), (14, .pure), (13, .acts), (15, .pure), (16, .pure), (17, .pure), (18, .pure)] (by kernel_rfl) (by kernel_rfl)
                  (fun w' => Sat w.heap.size w w' (arr 49 18 (.slice (some ⟨g, 0, none⟩) 1 cF) 1 ([(⟨v4 8 8 8 7, wt⟩ : Fnd)].flatMap Fnd.enc) • emp)) hE.drew ?_
                iterate 12 (refine ord_pure rfl rfl rfl (fun K' hK => ?_); go_big_quiet_op; refine hK _ ?_; clear hK K')
                refine ord_load (t := 49) rfl rfl rfl (p := .pointer (some ⟨g, 0, none⟩)) (v := .agg FE) rfl (fun w' hC => HLD.out _ hC) (fun K' hK => ?_)
                go_simp
                refine hK _ ?_
                clear hK K'
                iterate 1 (refine ord_pure rfl rfl rfl (fun K' hK => ?_); go_big_quiet_op; refine hK _ ?_; clear hK K')
                refine ord_acts rfl rfl (fun K' hK => ?_)
                go_simp
                refine (hv4 _).mono ?_
                rintro e w13 ⟨rfl, hb13⟩
                have hSF := hE.drew.below_ hb13
                refine hK _ _ (hSF) ?_
                clear hK K'
                go_simp
                refine ord_run rfl rfl (exec_build2L rfl (u := .agg VE) (v := .int .u32 wt) rfl rfl HFB.out) (fun K' hK => ?_)
                go_simp
                refine hK _ ?_
                clear hK K'
                refine ord_eql rfl rfl rfl rfl rfl (by kernel_rfl) (fun w' => HEQ.out w') (fun K' hK => ?_)
                go_simp
                refine hK _ ?_
                clear hK K'
                iterate 2 (refine ord_pure rfl rfl rfl (fun K' hK => ?_); go_big_quiet_op; refine hK _ ?_; clear hK K')
                refine ord_nil ?_
                go_wp2_with fail
                go_ret
                exact ⟨rfl, hSF.below⟩
              · rw [if_neg h1n] at hwt
                have h1z : (1 : Int) < n := by omega
                have HWT : Hid (min ttl (ttl / 2) = wt) := Lib.hid (by rw [hwt, HTD.out])
                clear hwt
                go_wp2_with fail
                try rw [HWT.out]
                try go_frame
                refine wp_region_ord [(0, .pure), (1, .pure), (2, .pure), (3, .pure), (4, .pure), (5, .pure), (6, .pure), (7, .pure), (8, .pure), (9, .pure), (10, .pure), (11, .pure), (12, .quiet), (14, .pure), (13, .acts), (15, .pure), (16, .pure), (17, .pure), (18, .pure)] (by kernel_rfl) (by kernel_rfl)
                  (fun w' => Sat w.heap.size w w' (arr 49 18 (.slice (some ⟨g, 0, none⟩) 1 cF) 1 ([(⟨v4 8 8 8 7, wt⟩ : Fnd)].flatMap Fnd.enc) • emp)) hE.drew ?_
                iterate 12 (refine ord_pure rfl rfl rfl (fun K' hK => ?_); go_big_quiet_op; refine hK _ ?_; clear hK K')
                refine ord_load (t := 49) rfl rfl rfl (p := .pointer (some ⟨g, 0, none⟩)) (v := .agg FE) rfl (fun w' hC => HLD.out _ hC) (fun K' hK => ?_)
                go_simp
                refine hK _ ?_
                clear hK K'
                iterate 1 (refine ord_pure rfl rfl rfl (fun K' hK => ?_); go_big_quiet_op; refine hK _ ?_; clear hK K')
                refine ord_acts rfl rfl (fun K' hK => ?_)
                go_simp
                refine (hv4 _).mono ?_
                rintro e w13 ⟨rfl, hb13⟩
                have hSF := hE.drew.below_ hb13
                refine hK _ _ (hSF) ?_
                clear hK K'
                go_simp
                refine ord_run rfl rfl (exec_build2L rfl (u := .agg VE) (v := .int .u32 wt) rfl rfl HFB.out) (fun K' hK => ?_)
                go_simp
                refine hK _ ?_
                clear hK K'
                refine ord_eql rfl rfl rfl rfl rfl (by kernel_rfl) (fun w' => HEQ.out w') (fun K' hK => ?_)
                go_simp
                refine hK _ ?_
                clear hK K'
                iterate 2 (refine ord_pure rfl rfl rfl (fun K' hK => ?_); go_big_quiet_op; refine hK _ ?_; clear hK K')
                refine ord_nil ?_
                go_wp2_with fail
                go_ret
                exact ⟨rfl, hSF.below⟩
            · rw [if_neg h16] at hfo
              have h16z : (16 : Int) < n := by omega
              have hNl : NN.length = 0 := by rw [HNN.out, hfo]; rfl
              have hFl : FF.length = 0 := by rw [HFF.out, hfo]; rfl
              have HE := Lib.hid hS11.below
              rw [hFl, hNl]
              clear hS11 hS10 hFl hNl hfo HFO HFF HNN HRD
              go_wp2_with fail
              go_ret
              exact ⟨rfl, HE.out⟩
          · go_wp2_with fail
            have hc0 := name_any 0 (by decide) wr
            rw [Int.natCast_zero] at hc0
            refine hc0.mono ?_
            rintro e w1 ⟨rfl, hb1⟩
            have hS1 := hS.below_ hb1
            clear hc0 hS hb1
            have hra : RecsAt w1 (.slice A4 n c4) L := ⟨by rw [hll]; exact hS1.arr_reads, by omega⟩
            go_wp2_with fail
            refine (follow_any ⟨_, _, _, _, _, _, _, _, _⟩ L _ _ hra (by omega)).mono ?_
            rintro e w2 ⟨v1, v2, rfl, hF⟩
            have hS2 := hS1.and hF
            have hS2 := hS2.to (by ac_rfl : _ = arr 54 23 (.slice A4 n c4) n (L.flatMap Rec.enc) • arr 49 18 v1 (followOf L (nmB 0)).1.length ((followOf L (nmB 0)).1.flatMap Fnd.enc) • arr 9 1 v2 (followOf L (nmB 0)).2.length ((followOf L (nmB 0)).2.map Value.string) • emp • emp)
            have hfo := HLM.out.follow htb hl
            obtain ⟨r, hr, hmr⟩ := mod_ofL r0 n (by omega) (by omega)
            have hrz : (r : Int) < n := by omega
            have hr20 : r < 20 := by omega
            have hrd := HLM.out.round htb (show r < n by omega) 9
            rw [hnm] at hrd
            obtain ⟨FF, hFF⟩ : ∃ FF, FF = (followOf L (nmB 0)).1 := ⟨_, rfl⟩
            obtain ⟨NN, hNN⟩ : ∃ NN, NN = (followOf L (nmB 0)).2 := ⟨_, rfl⟩
            rw [← hFF, ← hNN] at hS2
            obtain ⟨AF, cF, rfl⟩ := hS2.pull2.arr_form
            obtain ⟨AN, cN, rfl⟩ := hS2.pull3.arr_form
            have HFF := Lib.hid hFF
            have HNN := Lib.hid hNN
            have HFO := Lib.hid hfo
            have HRD := Lib.hid hrd
            clear hF hS1 hra hFF hNN hfo hrd
            go_wp2_with fail
            try go_frame
            have hD2 := hS2.drew
            clear hS2
            obtain ⟨v3, w3', hr1, hS3⟩ := (arr_nil (e := 54) (sz := 23) hD2).append (m := n) (news := L.flatMap Rec.enc) (t := 36) (ty := 36) (P := Try.prog) (x := .slice A4 n c4) Try.underlying36 rec_zero3 (by simp [Value.cells, Rec.enc_length]) (by decide) hD2.arr_reads (by rw [flat_rec, hll]) (flat_rec_one L) (by unfold maxLen; omega) (by omega)
            rw [Nat.zero_add, List.nil_append] at hS3
            obtain ⟨A5, c5, rfl⟩ := hS3.arr_form
            have hn1' := name_any i (by omega) w3'
            have hYL : Hid ((Value.agg (cnameOf (nmB i) (nmB r) 9).enc.toArray).cells.size = 23) := Lib.hid (by simp [Value.cells, Rec.enc_length])
            have HRE := Lib.hid (And.intro (Rec.enc_one (cnameOf (nmB i) (nmB r) 9)) (Rec.enc_length (cnameOf (nmB i) (nmB r) 9)))
            have hcn := fun W : World => cname_any (nmB i) (nmB r) 9 W
            obtain ⟨YR, hYR⟩ : ∃ YR, YR = cnameOf (nmB i) (nmB r) 9 := ⟨_, rfl⟩
            rw [← hYR] at hYL HRE hcn HRD
            clear hD2 hYR
            refine wp_region_ord [(0, .pure), (2, .pure), (3, .pure), (4, .pure), (6, .pure), (7, .pure), (8, .pure), (9, .pure), (10, .pure), (11, .pure), (12, .pure), (18, .pure), (1, .acts), (5, .acts), (13, .acts), (14, .acts), (15, .acts), (16, .acts), (17, .pure), (19, .acts), (20, .acts), (21, .pure), (22, .pure), (23, .pure), (24, .pure), (25, .pure)] (by kernel_rfl) (by kernel_rfl)
              (fun w' => True) trivial ?_
            iterate 12 (refine ord_pure rfl rfl rfl (fun K' hK => ?_); go_big_quiet_op; refine hK _ ?_; clear hK K')
            refine ord_acts rfl rfl (fun K' hK => wp_append_run _ _ _ rfl rfl rfl hr1 (hK _ _ trivial ?_))
            clear hK K'
            go_simp
            try rw [hn2]
            refine ord_acts rfl rfl (fun K' hK => ?_)
            go_simp
            refine (hn1').mono ?_
            rintro e w4 ⟨rfl, hb4⟩
            have hS4 := hS3.below_ hb4
            have hn3 := name_any r (by omega) w4
            refine hK _ _ (trivial) ?_
            clear hK K'
            go_simp
            try rw [hmr]
            refine ord_acts rfl rfl (fun K' hK => ?_)
            go_simp
            refine (hn3).mono ?_
            rintro e w5 ⟨rfl, hb5⟩
            have hS5 := hS4.below_ hb5
            refine hK _ _ (trivial) ?_
            clear hK K'
            go_simp
            refine ord_acts rfl rfl (fun K' hK => ?_)
            go_simp
            refine (hcn _).mono ?_
            rintro e w6 ⟨rfl, hb6⟩
            have hS6 := (hS5.below_ hb6)
            have hS7 := hS6.alloc_ (.cells YR.enc.toArray 54)
            obtain ⟨v8, w8, hr8, hS8⟩ := hS7.append (m := 1) (news := YR.enc) (t := 36) (ty := 36) (P := Try.prog) (x := .slice (some ⟨w6.heap.size, 0, none⟩) 1 1) Try.underlying36 rec_zero3 (by simp [Value.cells, Rec.enc_length]) (by decide) reads_new (by rw [Rec.enc_length]) (Rec.enc_one _) (by unfold maxLen; omega) (by omega)
            rw [show L.flatMap Rec.enc ++ YR.enc = (L ++ [YR]).flatMap Rec.enc by rw [List.flatMap_append, List.flatMap_singleton]] at hS8
            obtain ⟨A8, c8, rfl⟩ := hS8.arr_form
            have hM8 := msg_built A8 (n + 1) c8
            have hc0 := name_any 0 (by decide) w8
            rw [Int.natCast_zero] at hc0
            clear hS3 hS4 hS5 hS6 hS7
            generalize YR.enc.toArray = YE at *
            refine hK _ _ (trivial) ?_
            clear hK K'
            go_simp
            refine ord_acts rfl rfl (fun K' hK => wp_buildSlice_one (v := .agg YE) (sz := 23) rfl rfl Try.underlying36 record_zero hYL.out (by decide) (by decide) (hK _ _ trivial ?_))
            clear hK K'
            go_simp
            refine ord_acts rfl rfl (fun K' hK => wp_append_run _ _ _ rfl rfl rfl hr8 (hK _ _ trivial ?_))
            clear hK K'
            go_simp
            refine ord_run rfl rfl (exec_build1 rfl (u := .slice A8 (n + 1) c8) rfl hM8) (fun K' hK => ?_)
            go_simp
            refine hK _ ?_
            clear hK K'
            refine ord_acts rfl rfl (fun K' hK => ?_)
            go_simp
            refine (hc0).mono ?_
            rintro e w9 ⟨rfl, hb9⟩
            have hS9 := hS8.below_ hb9
            have hra9 : RecsAt w9 (.slice A8 (n + 1) c8) (L ++ [YR]) := ⟨by rw [List.length_append, hll]; exact hS9.arr_reads, by rw [List.length_append, hll]; simp; omega⟩
            refine hK _ _ (trivial) ?_
            clear hK K'
            go_simp
            refine ord_acts rfl rfl (fun K' hK => ?_)
            go_simp
            refine (follow_any ⟨_, _, _, _, _, _, _, _, _⟩ (L ++ [YR]) _ _ hra9 (by rw [List.length_append, hll]; simp; omega)).mono ?_
            rintro e w10 ⟨v5, v6, rfl, hF⟩
            rw [HRD.out] at hF
            dsimp only [List.length_nil, List.flatMap_nil, List.map_nil] at hF
            have hS10 := hS9.and hF
            obtain ⟨A10, c10, rfl⟩ := hF.arr_form
            obtain ⟨A11, c11, rfl⟩ := hF.pull2.arr_form
            refine hK _ _ (trivial) ?_
            clear hK K'
            go_simp
            iterate 5 (refine ord_pure rfl rfl rfl (fun K' hK => ?_); go_big_quiet_op; refine hK _ ?_; clear hK K')
            refine ord_nil ?_
            clear hr1 hn1' hn3 hr8 hM8 hc0 hra9 hF
            go_wp2_with fail
            refine (awake_any _).mono ?_
            rintro e w11 ⟨rfl, hb11⟩
            have hS11 := (hS10.below_ hb11).to (by ac_rfl : _ = arr 49 18 (.slice AF FF.length cF) FF.length (FF.flatMap Fnd.enc) • (arr 49 18 (.slice A10 0 c10) 0 [] • arr 9 1 (.slice A11 0 c11) 0 [] • emp) • arr 54 23 (.slice A8 (n + 1) c8) (n + 1) ((L ++ [YR]).flatMap Rec.enc) • arr 54 23 (.slice A4 n c4) n (L.flatMap Rec.enc) • arr 9 1 (.slice AN NN.length cN) NN.length (NN.map Value.string) • emp • emp)
            have hfo := HFO.out
            by_cases h16 : n ≤ 16
            · rw [if_pos h16] at hfo
              have h16z : ¬ (16 : Int) < n := by omega
              have hNl : NN.length = n := by rw [HNN.out, hfo]; simp [nms]
              obtain ⟨wt, hwt⟩ : ∃ wt, wt = if n = 1 then ttl else min ttl t := ⟨_, rfl⟩
              rw [← hwt] at hfo
              have hF1 : FF = [⟨v4 8 8 8 7, wt⟩] := by rw [HFF.out, hfo]
              have hFl : FF.length = 1 := by rw [hF1]; rfl
              rw [hFl, hF1] at hS11
              have hS12 := Sat.left hS11
              rcases hS11.arr_open with ⟨_, h0, _, _⟩ | ⟨g, cap, cur, hv, q1, q2, q3, q4, hO⟩
              · cases h0
              simp only [Value.slice.injEq] at hv
              obtain ⟨rfl, _, rfl⟩ := hv
              have hld : ∀ W, Sat w.heap.size w W (arr 49 18 (.slice (some ⟨g, 0, none⟩) 1 cF) 1 ([(⟨v4 8 8 8 7, wt⟩ : Fnd)].flatMap Fnd.enc) • emp) → (Instr.loadAt 49 (.pointer (some ⟨g, 0, none⟩))).run Try.prog W = .ok (.agg (Fnd.enc ⟨v4 8 8 8 7, wt⟩).toArray) W := by
                intro W hW
                have hfa : FndsAt W (.slice (some ⟨g, 0, none⟩) 1 cF) [⟨v4 8 8 8 7, wt⟩] := ⟨hW.arr_reads, by simp⟩
                have := FndsAt.cellAt (i := 0) hfa rfl rfl
                rw [Addr.add_lit] at this
                simpa using this
              have HLD := Lib.hid hld
              have HFB := Lib.hid (found_built (v4 8 8 8 7) wt)
              have HEQ := Lib.hid (fun w' : World => (fnd_eq 9996 ⟨v4 8 8 8 7, wt⟩ ⟨v4 8 8 8 7, wt⟩ : EqV Try.prog w' 10000 49 _ _ _))
              have hEQd : decide ((⟨v4 8 8 8 7, wt⟩ : Fnd) = ⟨v4 8 8 8 7, wt⟩) = true := by simp
              rw [hEQd] at HEQ
              have hv4 := fun W : World => v4_any 8 8 8 7 W
              have hSE := hS11
              have hE := hS12.add_emp
              rw [hFl, hNl]
              clear hld q1 q2 q3 q4 hO hS11 hS12 hSE hS10 hF1 hFl hNl hfo HFO HFF HNN HRD hEQd
              generalize (Fnd.enc ⟨v4 8 8 8 7, wt⟩).toArray = FE at *
              generalize (v4 8 8 8 7).enc.toArray = VE at *
              by_cases h1n : n = 1
              · rw [if_pos h1n] at hwt
                subst hwt
                have h1z : ¬ (1 : Int) < n := by omega
                go_wp2_with fail
                try go_frame
                refine wp_region_ord [(0, .pure), (1, .pure), (2, .pure), (3, .pure), (4, .pure), (5, .pure), (6, .pure), (7, .pure), (8, .pure), (9, .pure), (10, .pure), (11, .pure), (12, .quiet), (14, .pure), (13, .acts), (15, .pure), (16, .pure), (17, .pure), (18, .pure)] (by kernel_rfl) (by kernel_rfl)
                  (fun w' => Sat w.heap.size w w' (arr 49 18 (.slice (some ⟨g, 0, none⟩) 1 cF) 1 ([(⟨v4 8 8 8 7, wt⟩ : Fnd)].flatMap Fnd.enc) • emp)) hE.drew ?_
                iterate 12 (refine ord_pure rfl rfl rfl (fun K' hK => ?_); go_big_quiet_op; refine hK _ ?_; clear hK K')
                refine ord_load (t := 49) rfl rfl rfl (p := .pointer (some ⟨g, 0, none⟩)) (v := .agg FE) rfl (fun w' hC => HLD.out _ hC) (fun K' hK => ?_)
                go_simp
                refine hK _ ?_
                clear hK K'
                iterate 1 (refine ord_pure rfl rfl rfl (fun K' hK => ?_); go_big_quiet_op; refine hK _ ?_; clear hK K')
                refine ord_acts rfl rfl (fun K' hK => ?_)
                go_simp
                refine (hv4 _).mono ?_
                rintro e w13 ⟨rfl, hb13⟩
                have hSF := hE.drew.below_ hb13
                refine hK _ _ (hSF) ?_
                clear hK K'
                go_simp
                refine ord_run rfl rfl (exec_build2L rfl (u := .agg VE) (v := .int .u32 wt) rfl rfl HFB.out) (fun K' hK => ?_)
                go_simp
                refine hK _ ?_
                clear hK K'
                refine ord_eql rfl rfl rfl rfl rfl (by kernel_rfl) (fun w' => HEQ.out w') (fun K' hK => ?_)
                go_simp
                refine hK _ ?_
                clear hK K'
                iterate 2 (refine ord_pure rfl rfl rfl (fun K' hK => ?_); go_big_quiet_op; refine hK _ ?_; clear hK K')
                refine ord_nil ?_
                go_wp2_with fail
                go_ret
                exact ⟨rfl, hSF.below⟩
              · rw [if_neg h1n] at hwt
                have h1z : (1 : Int) < n := by omega
                have HWT : Hid (min ttl (ttl / 2) = wt) := Lib.hid (by rw [hwt, HTD.out])
                clear hwt
                go_wp2_with fail
                try rw [HWT.out]
                try go_frame
                refine wp_region_ord [(0, .pure), (1, .pure), (2, .pure), (3, .pure), (4, .pure), (5, .pure), (6, .pure), (7, .pure), (8, .pure), (9, .pure), (10, .pure), (11, .pure), (12, .quiet), (14, .pure), (13, .acts), (15, .pure), (16, .pure), (17, .pure), (18, .pure)] (by kernel_rfl) (by kernel_rfl)
                  (fun w' => Sat w.heap.size w w' (arr 49 18 (.slice (some ⟨g, 0, none⟩) 1 cF) 1 ([(⟨v4 8 8 8 7, wt⟩ : Fnd)].flatMap Fnd.enc) • emp)) hE.drew ?_
                iterate 12 (refine ord_pure rfl rfl rfl (fun K' hK => ?_); go_big_quiet_op; refine hK _ ?_; clear hK K')
                refine ord_load (t := 49) rfl rfl rfl (p := .pointer (some ⟨g, 0, none⟩)) (v := .agg FE) rfl (fun w' hC => HLD.out _ hC) (fun K' hK => ?_)
                go_simp
                refine hK _ ?_
                clear hK K'
                iterate 1 (refine ord_pure rfl rfl rfl (fun K' hK => ?_); go_big_quiet_op; refine hK _ ?_; clear hK K')
                refine ord_acts rfl rfl (fun K' hK => ?_)
                go_simp
                refine (hv4 _).mono ?_
                rintro e w13 ⟨rfl, hb13⟩
                have hSF := hE.drew.below_ hb13
                refine hK _ _ (hSF) ?_
                clear hK K'
                go_simp
                refine ord_run rfl rfl (exec_build2L rfl (u := .agg VE) (v := .int .u32 wt) rfl rfl HFB.out) (fun K' hK => ?_)
                go_simp
                refine hK _ ?_
                clear hK K'
                refine ord_eql rfl rfl rfl rfl rfl (by kernel_rfl) (fun w' => HEQ.out w') (fun K' hK => ?_)
                go_simp
                refine hK _ ?_
                clear hK K'
                iterate 2 (refine ord_pure rfl rfl rfl (fun K' hK => ?_); go_big_quiet_op; refine hK _ ?_; clear hK K')
                refine ord_nil ?_
                go_wp2_with fail
                go_ret
                exact ⟨rfl, hSF.below⟩
            · rw [if_neg h16] at hfo
              have h16z : (16 : Int) < n := by omega
              have hNl : NN.length = 0 := by rw [HNN.out, hfo]; rfl
              have hFl : FF.length = 0 := by rw [HFF.out, hfo]; rfl
              have HE := Lib.hid hS11.below
              rw [hFl, hNl]
              clear hS11 hS10 hFl hNl hfo HFO HFF HNN HRD
              go_wp2_with fail
              go_ret
              exact ⟨rfl, HE.out⟩
end Go.Proofs.Ytepaanpdjadakaa
