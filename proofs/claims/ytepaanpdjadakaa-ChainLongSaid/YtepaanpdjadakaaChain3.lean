import Derived.Test.YtepaanpdjadakaaChain2
import Derived.Test.YtepaanpdjadakaaBuild
/-! chain.found. -/
namespace Go.Proofs.Ytepaanpdjadakaa
open Go Go.RowKit

theorem addFound_len (name : ByteArray) (ttl : Int) (out : List Fnd) (r : Rec) : (addFound name ttl out r).length ≤ out.length + 1 := by
  unfold addFound; split <;> simp
theorem foundOf_take (l : List Rec) (name : ByteArray) (ttl : Int) (k : Nat) (r : Rec) (h : l[k]? = some r) : foundOf (l.take (k + 1)) name ttl = addFound name ttl (foundOf (l.take k) name ttl) r := by
  unfold foundOf
  rw [List.take_add_one, h, List.foldl_append]; rfl

theorem found_built (a : Adr) (t : Int) : Try.prog.built 49 [(0, .agg a.enc.toArray), (1, .int .u32 t)] = some (Fnd.enc ⟨a, t⟩).toArray := by
  rw [built_struct (places := [(0, 17), (17, 1)]) (z := .agg (Fnd.enc ⟨zeroRec.addr, 0⟩).toArray) Try.underlying49 (by kernel_rfl) (by kernel_rfl)]
  have hl := a.enc_length
  rw [fill_one (off := 0) (by simp [Value.cells, hl]) (by simp [Value.cells, hl, Fnd.enc_length])]
  rw [fill_one (off := 17) (by simp [Value.cells]) (by simp [Value.cells, hl, Fnd.enc_length, splice])]
  simp [Instr.fill, splice, Value.cells, Fnd.enc, hl, zeroRec.addr.enc_length]
theorem found_zero : (Try.prog.info? 49).map (fun i => (i.zero, i.size, i.bytes)) = some (some (.agg (Fnd.enc ⟨zeroRec.addr, 0⟩).toArray), 18, 24) := by kernel_rfl
theorem found_zero2 : (Try.prog.info? 49).map (fun i => (i.zero, i.size)) = some (some (.agg (Fnd.enc ⟨zeroRec.addr, 0⟩).toArray), 18) := by kernel_rfl

set_option maxHeartbeats 2000000 in
theorem found_any (m : Msg) (l : List Rec) (name : ByteArray) (ttl : Int) (w : World) (hr : RecsAt w m.ans l) (hsm : l.length ≤ 4096) :
    Calls Try.prog 28 #[.agg m.cells, .string name, .int .u32 ttl] w fun e w' =>
      ∃ v, e = .returned v ∧ Sat w.heap.size w w' (arr 49 18 v (foundOf l name ttl).length ((foundOf l name ttl).flatMap Fnd.enc) • emp) := by
  obtain ⟨A, c, hA⟩ := hr.1.len
  obtain ⟨c0, c1, c2, c3, c4, c5, ans, c7, c8⟩ := m
  simp only at hA hr
  subst hA
  have hll := hr.2
  unfold Msg.cells
  go_enter Try.func28, Try.ntmps28
  have hmf : ∀ (fn : Fn) (first cap : Array Value) (w : World), (Instr.makeFunc fn first cap).run Try.prog w = .ok (.func fn first cap) w := fun _ _ _ _ => rfl
  go_wp2_with fail
  have hS0 := ((Sat.start w).alloc_ (.cells #[c0, c1, c2, c3, c4, c5, .slice A l.length c, c7, c8] 38))
  go_loopw [7, 15] (fun v i wr => ∃ k : Nat, k ≤ l.length ∧ i = .int .i64 k ∧ (foundOf (l.take k) name ttl).length ≤ k ∧ Sat w.heap.size w wr (arr 49 18 v (foundOf (l.take k) name ttl).length ((foundOf (l.take k) name ttl).flatMap Fnd.enc) • emp))
    (fun _ i _ => l.length - (intOf i).toNat)
  case atStart => exact ⟨0, Nat.zero_le _, rfl, Nat.le_refl _, arr_nil hS0⟩
  case round =>
    obtain ⟨k, hk, rfl, hle, hS⟩ := hrel
    clear hS0
    by_cases hlt : k < l.length
    · obtain ⟨r, hrk⟩ : ∃ r, l[k]? = some r := ⟨_, List.getElem?_eq_getElem hlt⟩
      have hft := foundOf_take l name ttl k r hrk
      have hlen := addFound_len name ttl (foundOf (l.take k) name ttl) r
      rw [← hft] at hlen
      obtain ⟨a, c', hv, hcell⟩ := (hr.below hS.below).1.elem Rec.enc_length hrk
      cases hv
      have hl1 : (Instr.loadAt 54 (.pointer (some (a.add (k * 23))))).run Try.prog wr = .ok (.agg r.enc.toArray) wr :=
        run_loadAt_cells Try.underlying54 rfl (by rw [r.enc_length]; kernel_rfl) (fun j u hu => by rw [add_add']; exact hcell j u hu)
      have hst : ∀ (r : Rec) (W : World) (z : Array Value), z.size = 23 → (Instr.storeAt 54 (.pointer (some ⟨W.heap.size, 0, none⟩)) (.agg r.enc.toArray)).run Try.prog (W.alloc (.cells z 54)) = .ok () (W.alloc (.cells r.enc.toArray 54)) :=
        fun r W z hz => run_storeAt_new (v := .agg r.enc.toArray) (by simp only [Value.cells, List.size_toArray, r.enc_length]; kernel_rfl) (by simp only [Value.cells, List.size_toArray, r.enc_length]; exact hz) (by simpa [Value.cells] using r.enc_one)
      have hld : ∀ (r : Rec) (W : World), (Instr.loadAt 54 (.pointer (some ⟨W.heap.size, 0, none⟩))).run Try.prog (W.alloc (.cells r.enc.toArray 54)) = .ok (.agg r.enc.toArray) (W.alloc (.cells r.enc.toArray 54)) :=
        fun r W => run_loadAt_row (heap_alloc_new _ _) Try.underlying54 rfl (by rw [r.enc_length]; kernel_rfl) (fun j u hu => by simpa using hu)
      have h0 := r.at0
      have h3 := r.at3
      have hSr := hS.alloc (.cells r.enc.toArray 54)
      generalize hfo : foundOf (l.take k) name ttl = fs at *
      cases had : r.isAddr
      · have hno : foundOf (l.take (k + 1)) name ttl = fs := by rw [hft]; unfold addFound; rw [had]; rfl
        rw [hno] at hlen
        have HN := Lib.hid hno
        clear hno hft
        go_wp2_with (first | (refine wpList_load_run rfl rfl rfl hl1 ?_) | (refine wpList_store_run rfl rfl rfl rfl (hst r _ _ rfl) ?_) | (refine wpList_load_run rfl rfl rfl (hld r _) ?_))
        refine (leads_b r _).mono ?_
        rintro e w2 ⟨rfl, hb2⟩
        have hS2 := hSr.below_ hb2
        go_wp2_with fail
        go_roundw
        case rel => exact ⟨k + 1, by omega, by go_num, by rw [HN.out]; omega, by rw [HN.out]; exact hS2.drop⟩
        case measure => simp [intOf]; omega
      · cases hnm : (r.name.toList == name.toList)
        · have hno : foundOf (l.take (k + 1)) name ttl = fs := by rw [hft]; unfold addFound; rw [had, hnm]; rfl
          have HN := Lib.hid hno
          clear hno hft
          go_wp2_with (first | (refine wpList_load_run rfl rfl rfl hl1 ?_) | (refine wpList_store_run rfl rfl rfl rfl (hst r _ _ rfl) ?_) | (refine wpList_load_run rfl rfl rfl (hld r _) ?_))
          refine (leads_b r _).mono ?_
          rintro e w2 ⟨rfl, hb2⟩
          have hS2 := hSr.below_ hb2
          have hcn : w2.cell? ⟨wr.heap.size, 0, none⟩ = some (.string r.name) := by simp [World.cell?, hS2.heap, h0]
          go_wp2_with fail
          go_roundw
          case rel => exact ⟨k + 1, by omega, by go_num, by rw [HN.out]; omega, by rw [HN.out]; exact hS2.drop⟩
          case measure => simp [intOf]; omega
        · go_wp2_with (first | (refine wpList_load_run rfl rfl rfl hl1 ?_) | (refine wpList_store_run rfl rfl rfl rfl (hst r _ _ rfl) ?_) | (refine wpList_load_run rfl rfl rfl (hld r _) ?_))
          refine (leads_b r _).mono ?_
          rintro e w2 ⟨rfl, hb2⟩
          have hS2 := hSr.below_ hb2
          have hcn : w2.cell? ⟨wr.heap.size, 0, none⟩ = some (.string r.name) := by simp [World.cell?, hS2.heap, h0]
          have hct : w2.cell? ⟨wr.heap.size, 3, none⟩ = some (.int .u32 r.ttl) := by simp [World.cell?, hS2.heap, h3]
          have hfa : FndsAt w2 _ fs := ⟨hS2.pull2.arr_reads, by omega⟩
          go_wp2_with fail
          refine (containsFunc_any fs r _ _ _ hfa hS2.heap).mono ?_
          rintro e w3 ⟨rfl, hb3⟩
          have hS3 := hS2.below_ hb3
          cases hany : (fs.any fun x => decide (x.addr = r.addr))
          · have hct3 : w3.cell? ⟨wr.heap.size, 3, none⟩ = some (.int .u32 r.ttl) := by simp [World.cell?, hS3.heap, h3]
            have hl3 : (Instr.loadAt 46 (.pointer (some ⟨wr.heap.size, 4, none⟩))).run Try.prog w3 = .ok (.agg r.addr.enc.toArray) w3 :=
              run_loadAt_row hS3.heap Try.underlying46 rfl (by rw [Adr.enc_length]; kernel_rfl) (fun j u hu => by simpa using r.at4 j u hu)
            have hfin : foundOf (l.take (k + 1)) name ttl = fs ++ [⟨r.addr, if r.ttl < ttl then r.ttl else ttl⟩] := by
              rw [hft]; unfold addFound; rw [had, hnm, hany]; rfl
            have HN := Lib.hid hfin
            clear hfin hft
            by_cases hmin : r.ttl < ttl
            · rw [if_pos hmin] at HN
              have hS4 := hS3.drop.alloc_ (.cells (Fnd.enc ⟨r.addr, r.ttl⟩).toArray 49)
              obtain ⟨v5, w5, hrun, hS5⟩ := hS4.append (m := 1) (news := Fnd.enc ⟨r.addr, r.ttl⟩) (t := 39) (ty := 39) (P := Try.prog) (x := .slice (some ⟨w3.heap.size, 0, none⟩) 1 1) Try.underlying39 found_zero (by simp [Value.cells, Fnd.enc_length]) (by decide) reads_new (by rw [Fnd.enc_length]) (Fnd.enc_one _) (by unfold maxLen; omega) (by omega)
              go_wp2_with (first | (refine wpList_load_run rfl rfl rfl hl3 ?_) | (refine wpList_build2_run rfl rfl rfl rfl (found_built r.addr r.ttl) ?_) | (refine wpList_buildSlice_one (v := .agg (Fnd.enc ⟨r.addr, r.ttl⟩).toArray) rfl rfl rfl Try.underlying39 found_zero2 (by simp [Value.cells, Fnd.enc_length]) (by decide) (by decide) ?_) | (at_builtin; refine wpList_append_run rfl _ _ _ rfl rfl rfl hrun ?_))
              go_roundw
              case rel => exact ⟨k + 1, by omega, by go_num, by rw [HN.out]; simp; omega, by rw [HN.out]; simpa using hS5⟩
              case measure => simp [intOf]; omega
            · rw [if_neg hmin] at HN
              have hS4 := hS3.drop.alloc_ (.cells (Fnd.enc ⟨r.addr, ttl⟩).toArray 49)
              obtain ⟨v5, w5, hrun, hS5⟩ := hS4.append (m := 1) (news := Fnd.enc ⟨r.addr, ttl⟩) (t := 39) (ty := 39) (P := Try.prog) (x := .slice (some ⟨w3.heap.size, 0, none⟩) 1 1) Try.underlying39 found_zero (by simp [Value.cells, Fnd.enc_length]) (by decide) reads_new (by rw [Fnd.enc_length]) (Fnd.enc_one _) (by unfold maxLen; omega) (by omega)
              go_wp2_with (first | (refine wpList_load_run rfl rfl rfl hl3 ?_) | (refine wpList_build2_run rfl rfl rfl rfl (found_built r.addr ttl) ?_) | (refine wpList_buildSlice_one (v := .agg (Fnd.enc ⟨r.addr, ttl⟩).toArray) rfl rfl rfl Try.underlying39 found_zero2 (by simp [Value.cells, Fnd.enc_length]) (by decide) (by decide) ?_) | (at_builtin; refine wpList_append_run rfl _ _ _ rfl rfl rfl hrun ?_))
              go_roundw
              case rel => exact ⟨k + 1, by omega, by go_num, by rw [HN.out]; simp; omega, by rw [HN.out]; simpa using hS5⟩
              case measure => simp [intOf]; omega
          · have hfin : foundOf (l.take (k + 1)) name ttl = fs := by
              rw [hft]; unfold addFound; rw [had, hnm, hany]; rfl
            have HN := Lib.hid hfin
            clear hfin hft
            go_wp2_with fail
            go_roundw
            case rel => exact ⟨k + 1, by omega, by go_num, by rw [HN.out]; omega, by rw [HN.out]; exact hS3.drop⟩
            case measure => simp [intOf]; omega
    · obtain rfl : k = l.length := by omega
      rw [List.take_length] at hS
      go_wp2_with fail
      go_ret
      exact ⟨_, rfl, hS⟩
end Go.Proofs.Ytepaanpdjadakaa
