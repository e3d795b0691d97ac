import Derived.Test.YtepaanpdjadakaaChain3
/-! chain.Follow. -/
namespace Go.Proofs.Ytepaanpdjadakaa
open Go Go.RowKit

theorem string_zero : (Try.prog.info? 9).map (fun i => (i.zero, i.size, i.bytes)) = some (some (.string ⟨#[]⟩), 1, 16) := by kernel_rfl
def lenOf' : Value → Nat
  | .slice _ n _ => n
  | _ => 0
theorem follow_none {l : List Rec} {k : Nat} {names : List ByteArray} {nm : ByteArray} {tl : Int} (h : nextOf l nm = none) : followFrom l (k + 1) names nm tl = (foundOf l nm tl, names) := by
  rw [followFrom, h]
theorem follow_stop {l : List Rec} {k : Nat} {names : List ByteArray} {nm : ByteArray} {tl : Int} {r : Rec} (h : nextOf l nm = some r) (h2 : hasName names r.tgt = true ∨ 16 ≤ names.length) : followFrom l (k + 1) names nm tl = ([], []) := by
  rw [followFrom, h]
  have : (hasName names r.tgt || decide (16 ≤ names.length)) = true := by rcases h2 with h2 | h2 <;> simp [h2]
  simp [this]
theorem follow_go {l : List Rec} {k : Nat} {names : List ByteArray} {nm : ByteArray} {tl : Int} {r : Rec} (h : nextOf l nm = some r) (h2 : hasName names r.tgt = false) (h3 : ¬ 16 ≤ names.length) :
    followFrom l (k + 1) names nm tl = followFrom l k (names ++ [r.tgt]) r.tgt (if r.ttl < tl then r.ttl else tl) := by
  rw [followFrom, h]
  have : (hasName names r.tgt || decide (16 ≤ names.length)) = false := by simp [h2, h3]
  simp [this]

set_option maxHeartbeats 2000000 in
theorem follow_any (m : Msg) (l : List Rec) (name : ByteArray) (w : World) (hr : RecsAt w m.ans l) (hsm : l.length ≤ 4096) :
    Calls Try.prog 17 #[.agg m.cells, .string name] w fun e w' =>
      ∃ v1 v2, e = .returned (.tuple #[v1, v2]) ∧ Sat w.heap.size w w' (arr 49 18 v1 (followOf l name).1.length ((followOf l name).1.flatMap Fnd.enc) • arr 9 1 v2 (followOf l name).2.length ((followOf l name).2.map Value.string) • emp) := by
  have hmn : m.cells.size = 9 := rfl
  generalize hM : m.cells = M at *
  go_enter Try.func17, Try.ntmps17
  go_wp2_with fail
  have hS0 := ((Sat.start w).alloc (.cells M 38)).alloc (.cells #[.string name] 9)
  rw [World.size_alloc] at hS0
  go_loopw [1, 6, 7] (fun v1 v6 v7 wr => ∃ (k : Nat) (names : List ByteArray) (nm : ByteArray) (tl : Int), v1 = .string nm ∧ v7 = .int .u32 tl ∧ names.length + k = 16 ∧
      Sat w.heap.size w wr (blk w.heap.size (.cells M 38) • arr 9 1 v6 names.length (names.map Value.string) • emp) ∧ followOf l name = followFrom l (k + 1) names nm tl)
    (fun _ v6 _ _ => 17 - lenOf' v6)
  case atStart =>
    refine ⟨15, [name], name, 4294967295, rfl, rfl, rfl, ?_, rfl⟩
    have h := Sat.arr_shut (n := 1) (cap := 1) (sz := 1) (xs := [.string name]) (Nat.le_refl _) (by decide) (by simp) (by simp) hS0
    exact h.pull2
  case round =>
    obtain ⟨k, names, nm, tl, rfl, rfl, hkn, hS, hfo⟩ := hrel
    clear hS0
    have hrr := hr.below hS.below
    have hl1 : (Instr.loadAt 38 (.pointer (some ⟨w.heap.size, 0, none⟩))).run Try.prog wr = .ok (.agg M) wr := by
      have := run_loadAt_row (P := Try.prog) (cs := M.toList) (o := 0) hS.heap Try.underlying38 rfl (by rw [Array.length_toList, hmn]; kernel_rfl) (fun j u hu => by simpa using hu)
      simpa using this
    go_wp2_with (refine wpList_load_run rfl rfl rfl hl1 ?_)
    subst hM
    refine (next_any m l nm _ hrr).mono ?_
    rintro e w2 ⟨rfl, hb2⟩
    have hS2 := hS.below_ hb2
    have hrr2 := hr.below hS2.below
    have hst : ∀ (r : Rec) (W : World) (z : Array Value), z.size = 23 → (Instr.storeAt 54 (.pointer (some ⟨W.heap.size, 0, none⟩)) (.agg r.enc.toArray)).run Try.prog (W.alloc (.cells z 54)) = .ok () (W.alloc (.cells r.enc.toArray 54)) :=
      fun r W z hz => run_storeAt_new (v := .agg r.enc.toArray) (by simp only [Value.cells, List.size_toArray, r.enc_length]; kernel_rfl) (by simp only [Value.cells, List.size_toArray, r.enc_length]; exact hz) (by simpa [Value.cells] using r.enc_one)
    cases hnx : nextOf l nm
    case none =>
      have hfin := hfo.trans (follow_none hnx)
      simp only [Option.getD_none, Option.isSome_none]
      have HF := Lib.hid hfin
      clear hfin hfo hnx
      have hl2 : ∀ (c : Array Value), (Instr.loadAt 38 (.pointer (some ⟨w.heap.size, 0, none⟩))).run Try.prog (w2.alloc (.cells c 54)) = .ok (.agg m.cells) (w2.alloc (.cells c 54)) := fun c => by
        have := run_loadAt_row (P := Try.prog) (cs := m.cells.toList) (o := 0) (hS2.alloc_ (.cells c 54)).heap Try.underlying38 rfl (by rw [Array.length_toList, hmn]; kernel_rfl) (fun j u hu => by simpa using hu)
        simpa using this
      go_wp2_with (first | (refine wpList_store_run rfl rfl rfl rfl (hst _ _ _ rfl) ?_) | (refine wpList_load_run rfl rfl rfl (hl2 _) ?_))
      refine (found_any m l nm tl _ (hr.below (hS2.alloc_ _).below) hsm).mono ?_
      rintro e w3 ⟨v3, rfl, hS3⟩
      go_wp2_with fail
      go_ret2
      refine ⟨_, _, rfl, ?_⟩
      rw [HF.out]
      exact (((hS2.alloc_ _).drop).and hS3.left).to (by ac_rfl)
    case some r =>
      simp only [Option.getD_some, Option.isSome_some]
      have h3 := r.at3
      have h21 := r.at21
      have hS3 := hS2.alloc (.cells r.enc.toArray 54)
      have hct : (w2.alloc (.cells r.enc.toArray 54)).cell? ⟨w2.heap.size, 21, none⟩ = some (.string r.tgt) := by rw [cell_new]; simpa using h21
      have hna : NamesAt (w2.alloc (.cells r.enc.toArray 54)) _ names := ⟨by rw [← List.length_map (f := Value.string)]; exact (by simpa using hS3.pull3.arr_reads), by omega⟩
      obtain ⟨A6, c6, rfl⟩ := hS3.pull3.arr_form
      go_wp2_with (first | (refine wpList_store_run rfl rfl rfl rfl (hst _ _ _ rfl) ?_))
      refine (contains_any names r.tgt _ _ hna).mono ?_
      rintro e w3 ⟨rfl, hb3⟩
      have hS3 := hS3.below_ hb3
      cases hhn : hasName names r.tgt
      · by_cases h16 : 16 ≤ names.length
        · have h16i : (16 : Int) ≤ (names.length : Int) := by omega
          have hfin := hfo.trans (follow_stop hnx (.inr h16))
          have HF := Lib.hid hfin
          clear hfin hfo hnx
          go_wp2_with fail
          go_ret2
          refine ⟨_, _, rfl, ?_⟩
          rw [HF.out]
          exact arr_nil (arr_nil hS3.emp_)
        · have h16i : (names.length : Int) < 16 := by omega
          have hfin := hfo.trans (follow_go hnx hhn h16)
          have HF := Lib.hid hfin
          clear hfin hfo hnx
          obtain ⟨k', rfl⟩ : ∃ k', k = k' + 1 := ⟨k - 1, by omega⟩
          have hct3 : w3.cell? ⟨w2.heap.size, 21, none⟩ = some (.string r.tgt) := by simp [World.cell?, hS3.heap, h21]
          have hcu3 : w3.cell? ⟨w2.heap.size, 3, none⟩ = some (.int .u32 r.ttl) := by simp [World.cell?, hS3.heap, h3]
          by_cases hmin : r.ttl < tl
          · rw [if_pos hmin] at HF
            have hS4 := hS3.drew.pull3.alloc_ (.cells #[.string r.tgt] 9)
            obtain ⟨v5, w5, hrun, hS5⟩ := hS4.append (m := 1) (news := [.string r.tgt]) (t := 40) (ty := 40) (P := Try.prog) (x := .slice (some ⟨w3.drew.heap.size, 0, none⟩) 1 1) Try.underlying40 string_zero (by decide) (by decide) reads_new rfl (by simp [Value.oneCell']) (by unfold maxLen; omega) (by omega)
            go_wp2_with fail
            refine wp_region_ord [(0, .pure), (1, .quiet), (2, .pure), (3, .pure), (4, .quiet), (5, .pure), (6, .pure), (7, .pure)] (by kernel_rfl) (by kernel_rfl) (fun w' => w'.heap[w2.heap.size]? = some (.cells r.enc.toArray 54)) hS3.heap ?_
            iterate 1 (refine ord_pure rfl rfl rfl (fun K' hK => ?_); go_big_quiet_op; refine hK _ ?_; clear hK K')
            refine ord_load rfl rfl rfl (p := .pointer (some ⟨w2.heap.size, 21, none⟩)) (v := .string r.tgt) rfl (fun w' hC => run_loadAt_one hC Try.underlying9 rfl (by simpa using h21)) (fun K' hK => ?_)
            go_simp
            refine hK _ ?_
            clear hK K'
            iterate 2 (refine ord_pure rfl rfl rfl (fun K' hK => ?_); go_big_quiet_op; refine hK _ ?_; clear hK K')
            refine ord_load rfl rfl rfl (p := .pointer (some ⟨w2.heap.size, 3, none⟩)) (v := .int .u32 r.ttl) rfl (fun w' hC => run_loadAt_one hC Try.underlying47 rfl (by simpa using h3)) (fun K' hK => ?_)
            go_simp
            refine hK _ ?_
            clear hK K'
            refine ord_run (v := .int .u32 r.ttl) rfl rfl (fun w' => by go_simp) (fun K' hK => ?_)
            go_simp
            refine hK _ ?_
            clear hK K'
            iterate 2 (refine ord_pure rfl rfl rfl (fun K' hK => ?_); go_big_quiet_op; refine hK _ ?_; clear hK K')
            refine ord_nil ?_
            go_wp2_with (first | (at_builtin; refine wpList_append_run rfl _ _ _ rfl rfl rfl hrun ?_))
            go_roundw
            case rel =>
             exact ⟨k', names ++ [r.tgt], r.tgt, r.ttl, rfl, rfl, by simp; omega, by simpa using hS5.pull2.drop.pull2, by simpa using HF.out⟩
            case measure => obtain ⟨A5, c5, rfl⟩ := hS5.arr_form; simp [lenOf']; omega
          · rw [if_neg hmin] at HF
            have hmin2 : tl ≤ r.ttl := by omega
            have hS4 := hS3.drew.pull3.alloc_ (.cells #[.string r.tgt] 9)
            obtain ⟨v5, w5, hrun, hS5⟩ := hS4.append (m := 1) (news := [.string r.tgt]) (t := 40) (ty := 40) (P := Try.prog) (x := .slice (some ⟨w3.drew.heap.size, 0, none⟩) 1 1) Try.underlying40 string_zero (by decide) (by decide) reads_new rfl (by simp [Value.oneCell']) (by unfold maxLen; omega) (by omega)
            go_wp2_with fail
            refine wp_region_ord [(0, .pure), (1, .quiet), (2, .pure), (3, .pure), (4, .quiet), (5, .pure), (6, .pure), (7, .pure)] (by kernel_rfl) (by kernel_rfl) (fun w' => w'.heap[w2.heap.size]? = some (.cells r.enc.toArray 54)) hS3.heap ?_
            iterate 1 (refine ord_pure rfl rfl rfl (fun K' hK => ?_); go_big_quiet_op; refine hK _ ?_; clear hK K')
            refine ord_load rfl rfl rfl (p := .pointer (some ⟨w2.heap.size, 21, none⟩)) (v := .string r.tgt) rfl (fun w' hC => run_loadAt_one hC Try.underlying9 rfl (by simpa using h21)) (fun K' hK => ?_)
            go_simp
            refine hK _ ?_
            clear hK K'
            iterate 2 (refine ord_pure rfl rfl rfl (fun K' hK => ?_); go_big_quiet_op; refine hK _ ?_; clear hK K')
            refine ord_load rfl rfl rfl (p := .pointer (some ⟨w2.heap.size, 3, none⟩)) (v := .int .u32 r.ttl) rfl (fun w' hC => run_loadAt_one hC Try.underlying47 rfl (by simpa using h3)) (fun K' hK => ?_)
            go_simp
            refine hK _ ?_
            clear hK K'
            refine ord_run (v := .int .u32 tl) rfl rfl (fun w' => by go_simp; omega) (fun K' hK => ?_)
            go_simp
            refine hK _ ?_
            clear hK K'
            iterate 2 (refine ord_pure rfl rfl rfl (fun K' hK => ?_); go_big_quiet_op; refine hK _ ?_; clear hK K')
            refine ord_nil ?_
            go_wp2_with (first | (at_builtin; refine wpList_append_run rfl _ _ _ rfl rfl rfl hrun ?_))
            go_roundw
            case rel => exact ⟨k', names ++ [r.tgt], r.tgt, tl, rfl, rfl, by simp; omega, by simpa using hS5.pull2.drop.pull2, by simpa using HF.out⟩
            case measure => obtain ⟨A5, c5, rfl⟩ := hS5.arr_form; simp [lenOf']; omega
      · have hfin := hfo.trans (follow_stop hnx (.inl hhn))
        have HF := Lib.hid hfin
        clear hfin hfo hnx
        go_wp2_with fail
        go_ret2
        refine ⟨_, _, rfl, ?_⟩
        rw [HF.out]
        exact arr_nil (arr_nil hS3.emp_)
end Go.Proofs.Ytepaanpdjadakaa
