import Derived.Test.YtepaanpdjadakaaSaysP
import Derived.Test.YtepaanpdjadakaaBuild2
import Derived.Lib.MinMax
/-! ChainSays' walk. -/
namespace Go.Proofs.Ytepaanpdjadakaa
open Go Go.RowKit

theorem load_of_cell {w : World} {p : Addr} {ty : TypeId} {v : Value} {d : TypeDesc} (hu : Try.prog.underlying ty = some d) (hd : d.isRow = false) (h : w.cell? p = some v) : (Instr.loadAt ty (.pointer (some p))).run Try.prog w = .ok v w := by
  have hagg : (isAgg ty).run Try.prog w = .ok false w := by
    unfold isAgg
    rw [Sem.run_bind, run_underlying hu w]
    cases d <;> simp_all
  simp only [Instr.loadAt, Instr.sureAddr, Sem.run_bind, Sem.run_pure, Result.andThen_ok, loadVar, hagg]
  simp [load, Sem.run, h]
theorem find_take_step {α : Type} {p : α → Bool} {l : List α} {k : Nat} {r : α} (hr : l[k]? = some r) (hn : (l.take k).find? p = none) : (l.take (k + 1)).find? p = if p r then some r else none := by
  rw [List.take_add_one, hr, Option.toList_some, List.find?_append, hn]
  simp only [Option.none_or, List.find?_cons, List.find?_nil]
  cases p r <;> rfl
theorem find_take_done {α : Type} {p : α → Bool} {l : List α} {k : Nat} {r : α} (h : (l.take k).find? p = some r) : l.find? p = some r := by
  rw [← List.take_append_drop k l, List.find?_append, h]; rfl
def nthS (l : List ByteArray) (i : Nat) : ByteArray := l.getD i ⟨#[]⟩
theorem nthS_get {l : List ByteArray} {i : Nat} (h : i < l.length) : l[i]? = some (nthS l i) := by
  unfold nthS; rw [List.getD_eq_getElem?_getD, List.getElem?_eq_getElem h]; rfl
def Rin (l : List Rec) (a b' : ByteArray) (t t' : Int) (w1 : World) (ls fd kk : Value) (wr : World) : Prop :=
  ∃ (k : Nat) (b : Bool), k ≤ l.length ∧ kk = .int .i64 k ∧ fd = .bool b ∧ ls = .int .u32 (if b then t' else t) ∧ Sat w1.heap.size w1 wr emp ∧ Hid (b = false → (l.take k).find? (isStep a b') = none)
def Rin2 (l : List Rec) (z : ByteArray) (T : Int) (f : Fnd) (w1 : World) (fd kk : Value) (wr : World) : Prop :=
  ∃ k : Nat, k ≤ l.length ∧ kk = .int .i64 k ∧ fd = .bool ((l.take k).any (isHit z T f)) ∧ Sat w1.heap.size w1 wr emp
attribute [local irreducible] wpOrd
set_option maxRecDepth 8000 in
set_option maxHeartbeats 32000000 in
theorem says_any (m : Msg) (l : List Rec) (name : ByteArray) (w : World) (hr : RecsAt w m.ans l) :
    Calls Try.prog 7 #[.agg m.cells, .string name] w fun e w' => e = .returned (.bool true) ∧ Below w.heap.size w w' := by
  have hmn : m.cells.size = 9 := rfl
  have h6 : m.cells[6]? = some m.ans := rfl
  obtain ⟨A, c, hA⟩ := hr.1.len
  have hll := hr.2
  have hcell : (w.alloc (.cells m.cells 38)).cell? ⟨w.heap.size, 6, none⟩ = some (.slice A l.length c) := by rw [cell_new, h6, hA]
  generalize hM : m.cells = M at *
  have hS := (Sat.start w).alloc (.cells M 38)
  by_cases h1 : (80 : Int) < l.length
  · go_enter Try.func7, Try.ntmps7
    go_wp2_with fail
    refine (awake_any _).mono ?_
    rintro e w1 ⟨rfl, hb⟩
    go_wp2_with fail
    go_ret
    exact ⟨rfl, (hS.below_ hb).below⟩
  · have h1' : (l.length : Int) ≤ 80 := by omega
    by_cases h2 : (300 : Int) < name.size
    · go_enter Try.func7, Try.ntmps7
      go_wp2_with fail
      refine (awake_any _).mono ?_
      rintro e w1 ⟨rfl, hb⟩
      go_wp2_with fail
      go_ret
      exact ⟨rfl, (hS.below_ hb).below⟩
    · have h2' : (name.size : Int) ≤ 300 := by omega
      have hl1 : (Instr.loadAt 38 (.pointer (some ⟨w.heap.size, 0, none⟩))).run Try.prog (w.alloc (.cells M 38)) = .ok (.agg M) (w.alloc (.cells M 38)) := by
        have := run_loadAt_row (P := Try.prog) (cs := M.toList) (o := 0) hS.heap Try.underlying38 rfl (by rw [Array.length_toList, hmn]; kernel_rfl) (fun j u hu => by simpa using hu)
        simpa using this
      have hFl := follow_len1 l name
      have hNl := follow_len2 l name
      have hemp := follow_empty l 16 [name] name 4294967295 (by simp)
      have hpath := follow_path l 16 [name] name 4294967295
      go_enter Try.func7, Try.ntmps7
      go_wp2_with (refine wpList_load_run (t := 38) rfl rfl rfl hl1 ?_)
      subst hM
      refine (follow_any m l name _ (hr.below hS.below) (by omega)).mono ?_
      rintro e w1 ⟨v1, v2, rfl, hF⟩
      have hS1 := hS.and hF
      have hmc : w1.cell? ⟨w.heap.size, 6, none⟩ = some (.slice A l.length c) := by rw [hF.below.cell (by simp)]; exact hcell
      have hr1 := hr.below hS1.below
      change (followOf l name).2 = [] → (followOf l name).1 = [] at hemp
      change (followOf l name).2 ≠ [] → _ at hpath
      obtain ⟨A1, c1, rfl⟩ := hF.arr_form
      obtain ⟨A2, c2, rfl⟩ := hF.pull2.arr_form
      have f1 : FndsAt w1 (.slice A1 (followOf l name).1.length c1) (followOf l name).1 := ⟨hF.arr_reads, by omega⟩
      have f2 : NamesAt w1 (.slice A2 (followOf l name).2.length c2) (followOf l name).2 := ⟨by simpa using hF.pull2.arr_reads, by omega⟩
      clear hF hl1 hcell
      by_cases hN0 : (followOf l name).2 = []
      · have hF0 := hemp hN0
        have HN := Lib.hid hN0
        have HF := Lib.hid hF0
        have e1 : (followOf l name).2.length = 0 := by rw [hN0]; rfl
        have e2 : (followOf l name).1.length = 0 := by rw [hF0]; rfl
        clear hN0 hF0 hpath hemp
        go_wp2_with fail
        refine (awake_any _).mono ?_
        rintro e w2 ⟨rfl, hb2⟩
        go_wp2_with fail
        go_ret
        exact ⟨rfl, (hS1.below_ hb2).below⟩
      · obtain ⟨ext, z, T, hN, hP, hFz⟩ := hpath hN0
        change (followOf l name).2 = [name] ++ ext at hN
        change (followOf l name).1 = foundOf l z T at hFz
        have hhit := found_hit l z T
        rw [← hFz] at hhit
        generalize (followOf l name).1 = F at *
        generalize (followOf l name).2 = N at *
        have hN1 : 0 < N.length := by rw [hN]; simp
        have HP : Hid (Path l (N.drop (0 + 1)) (nthS N 0) 4294967295 z T) := Lib.hid (by rw [hN]; exact hP)
        have HN0 : Hid (nthS N 0 = name) := Lib.hid (by rw [hN]; rfl)
        have HH := Lib.hid hhit
        have hne : ((N.length : Int) == 0) = false := by rw [beq_eq_false_iff_ne]; omega
        have hS0 := Sat.start w1
        clear hP hhit hN hFz hemp hpath hN0
        go_wp2_with fail
        go_loopw [7, 8] (fun ls ii wr => ∃ (i : Nat) (t : Int), i < N.length ∧ ii = .int .i64 i ∧ ls = .int .u32 t ∧ Sat w1.heap.size w1 wr emp ∧ Hid (Path l (N.drop (i + 1)) (nthS N i) t z T)) (fun _ ii _ => N.length - (intOf ii).toNat)
        case atStart => exact ⟨0, 4294967295, hN1, rfl, rfl, hS0, HP⟩
        case round =>
          clear hS0 HP
          obtain ⟨i, t, hi, rfl, rfl, hS2, HP⟩ := hrel
          by_cases hi2 : i + 1 < N.length
          · have hp := HP.out
            rw [List.drop_eq_getElem_cons hi2] at hp
            have hb : N[i + 1] = nthS N (i + 1) := by rw [← Option.some_inj, ← nthS_get hi2, List.getElem?_eq_getElem hi2]
            rw [hb] at hp
            obtain ⟨r, hr2, hrt, hp2⟩ := hp
            have hfr := step_found hr2
            rw [hrt] at hfr
            have HFR := Lib.hid hfr
            have HP2 := Lib.hid hp2
            clear hb hr2 hrt hfr hp2 HP
            generalize hsr : (if r.ttl < t then r.ttl else t) = t' at *
            have HT := Lib.hid hsr
            clear hsr
            obtain ⟨a1, ca1, hv1, hcn1⟩ := (f2.below hS2.below).elem (nthS_get (show i < N.length by omega))
            obtain ⟨a2, ca2, hv2, hcn2⟩ := (f2.below hS2.below).elem (nthS_get hi2)
            simp only [Value.slice.injEq] at hv1 hv2
            obtain ⟨rfl, _, rfl⟩ := hv1
            obtain ⟨e, _, _⟩ := hv2
            obtain rfl := Option.some.inj e
            clear e hcn1 hcn2
            go_wp2_with fail
            generalize hrb : wr.heap.size = rb at *
            go_loopw [7, 9, 10] (fun ls fd kk wr => Rin l (nthS N i) (nthS N (i + 1)) t t' w1 ls fd kk wr) (fun _ _ kk _ => l.length - (intOf kk).toNat)
            case atStart => unfold Rin; exact ⟨0, false, Nat.zero_le _, rfl, rfl, rfl, hS2, Lib.hid fun _ => rfl⟩
            case round =>
              obtain ⟨k, b, hk, rfl, rfl, rfl, hS3, HK⟩ := hrel
              have hc6 : wr.cell? ⟨w.heap.size, 6, none⟩ = some (.slice A l.length c) := by rw [hS3.below.cell (World.block_lt_of_cell? _ _ hmc)]; exact hmc
              cases b with
              | true =>
                by_cases hlt : k < l.length
                · go_wp2_with fail
                  go_roundw
                  case rel => exact ⟨i + 1, t', hi2, by go_num, rfl, hS3, HP2⟩
                  case measure => simp [intOf]; omega
                · go_wp2_with fail
                  go_roundw
                  case rel => exact ⟨i + 1, t', hi2, by go_num, rfl, hS3, HP2⟩
                  case measure => simp [intOf]; omega
              | false =>
                by_cases hlt : k < l.length
                · obtain ⟨rk, hrk⟩ : ∃ r, l[k]? = some r := ⟨_, List.getElem?_eq_getElem hlt⟩
                  have hra := hr1
                  rw [hA] at hra
                  obtain ⟨a, c', hv, hcl⟩ := (hra.below hS3.below).1.elem Rec.enc_length hrk
                  simp only [Value.slice.injEq] at hv
                  obtain ⟨rfl, _, rfl⟩ := hv
                  have hl1 : (Instr.loadAt 54 (.pointer (some (a.add (k * 23))))).run Try.prog wr = .ok (.agg rk.enc.toArray) wr :=
                    run_loadAt_cells Try.underlying54 rfl (by rw [rk.enc_length]; kernel_rfl) (fun j u hu => by rw [add_add']; exact hcl j u hu)
                  have hst : ∀ (W : World) (z : Array Value), z.size = 23 → (Instr.storeAt 54 (.pointer (some ⟨W.heap.size, 0, none⟩)) (.agg rk.enc.toArray)).run Try.prog (W.alloc (.cells z 54)) = .ok () (W.alloc (.cells rk.enc.toArray 54)) :=
                    fun W z hz => run_storeAt_new (v := .agg rk.enc.toArray) (by simp only [Value.cells, List.size_toArray, rk.enc_length]; kernel_rfl) (by simp only [Value.cells, List.size_toArray, rk.enc_length]; exact hz) (by simpa [Value.cells] using rk.enc_one)
                  have d0 : (wr.alloc (.cells rk.enc.toArray 54)).cell? ⟨wr.heap.size, 0, none⟩ = some (.string rk.name) := by rw [cell_new]; simpa using rk.at0
                  have d1 : (wr.alloc (.cells rk.enc.toArray 54)).cell? ⟨wr.heap.size, 1, none⟩ = some (.int .i64 rk.typ) := by rw [cell_new]; simpa using rk.at1
                  have d2 : (wr.alloc (.cells rk.enc.toArray 54)).cell? ⟨wr.heap.size, 2, none⟩ = some (.int .i64 rk.cls) := by rw [cell_new]; simpa using rk.at2
                  have d3 : (wr.alloc (.cells rk.enc.toArray 54)).cell? ⟨wr.heap.size, 3, none⟩ = some (.int .u32 rk.ttl) := by rw [cell_new]; simpa using rk.at3
                  have d21 : (wr.alloc (.cells rk.enc.toArray 54)).cell? ⟨wr.heap.size, 21, none⟩ = some (.string rk.tgt) := by rw [cell_new]; simpa using rk.at21
                  have hS4 := hS3.alloc_ (.cells rk.enc.toArray 54)
                  have n1 : (wr.alloc (.cells rk.enc.toArray 54)).cell? (a1.add i) = some (.string (nthS N i)) := by
                    obtain ⟨a', c', hv, hcn⟩ := (f2.below hS4.below).elem (nthS_get (show i < N.length by omega))
                    cases hv; exact hcn
                  have n2 : (wr.alloc (.cells rk.enc.toArray 54)).cell? (a1.add (i + 1)) = some (.string (nthS N (i + 1))) := by
                    obtain ⟨a', c', hv, hcn⟩ := (f2.below hS4.below).elem (nthS_get hi2)
                    cases hv; exact hcn
                  have hfs := find_take_step hrk (HK.out rfl)
                  have hpv : isStep (nthS N i) (nthS N (i + 1)) rk = ((rk.typ == 5) && (rk.cls == 1) && (rk.name.toList == (nthS N i).toList) && (rk.tgt.toList == (nthS N (i + 1)).toList)) := rfl
                  have hS5 := hS4.drew
                  generalize hW : wr.alloc (.cells rk.enc.toArray 54) = W at *
                  have HW := Lib.hid hW
                  have HFS := Lib.hid hfs
                  have HRK := Lib.hid hrk
                  clear hW hfs hrk hcl HK hS3 hS4
                  cases b1 : (rk.typ == 5)
                  · have hp : isStep (nthS N i) (nthS N (i + 1)) rk = false := by rw [hpv, b1]; rfl
                    rw [hp] at HFS
                    clear hpv
                    go_wp2_with (first | (refine wpList_load_run (t := 54) rfl rfl rfl hl1 ?_) | (refine wpList_store_run (t := 54) rfl rfl rfl rfl (hst _ _ rfl) ?_))
                    rw [HW.out]
                    try go_frame
                    refine wp_region_ord [(0, .pure), (1, .quiet), (2, .pure), (3, .pure), (4, .pure), (5, .quiet), (6, .pure), (7, .pure), (8, .pure), (9, .pure), (10, .quiet), (11, .pure), (12, .pure), (13, .pure), (14, .quiet), (15, .pure), (16, .pure), (17, .pure), (18, .pure), (19, .quiet), (20, .pure), (21, .pure), (22, .pure), (23, .pure), (24, .quiet), (25, .pure), (26, .pure), (27, .pure)] (by kernel_rfl) (by kernel_rfl)
                      (fun w' => ∀ p, w'.cell? p = W.cell? p) (fun _ => rfl) ?_
                    iterate 1 (refine ord_pure rfl rfl rfl (fun K' hK => ?_); go_big_quiet_op; refine hK _ ?_; clear hK K')
                    refine ord_load (t := 3) rfl rfl rfl (p := .pointer (some ⟨wr.heap.size, 1, none⟩)) (v := .int .i64 rk.typ) rfl (fun w' hC => load_of_cell Try.underlying3 rfl (by rw [hC]; exact d1)) (fun K' hK => ?_)
                    go_simp
                    refine hK _ ?_
                    clear hK K'
                    iterate 2 (refine ord_pure rfl rfl rfl (fun K' hK => ?_); go_big_quiet_op; refine hK _ ?_; clear hK K')
                    iterate 3 (refine ord_skip' rfl rfl (fun K' hK => ?_); go_simp; refine hK _ ?_; clear hK K')
                    iterate 2 (refine ord_pure rfl rfl rfl (fun K' hK => ?_); go_big_quiet_op; refine hK _ ?_; clear hK K')
                    iterate 7 (refine ord_skip' rfl rfl (fun K' hK => ?_); go_simp; refine hK _ ?_; clear hK K')
                    iterate 2 (refine ord_pure rfl rfl rfl (fun K' hK => ?_); go_big_quiet_op; refine hK _ ?_; clear hK K')
                    iterate 8 (refine ord_skip' rfl rfl (fun K' hK => ?_); go_simp; refine hK _ ?_; clear hK K')
                    iterate 2 (refine ord_pure rfl rfl rfl (fun K' hK => ?_); go_big_quiet_op; refine hK _ ?_; clear hK K')
                    refine ord_nil ?_
                    go_wp2_with fail
                    first | refine ⟨⟨_, _, _, ?rel, rfl, rfl, rfl⟩, ?measure⟩ | go_roundw
                    case rel => unfold Rin; exact ⟨k + 1, false, by omega, by go_num, rfl, rfl, hS5, Lib.hid fun _ => by rw [HFS.out]; rfl⟩
                    case measure => simp [intOf]; omega
                  · cases b2 : (rk.cls == 1)
                    · have hp : isStep (nthS N i) (nthS N (i + 1)) rk = false := by rw [hpv, b1, b2]; rfl
                      rw [hp] at HFS
                      clear hpv
                      go_wp2_with (first | (refine wpList_load_run (t := 54) rfl rfl rfl hl1 ?_) | (refine wpList_store_run (t := 54) rfl rfl rfl rfl (hst _ _ rfl) ?_))
                      rw [HW.out]
                      try go_frame
                      refine wp_region_ord [(0, .pure), (1, .quiet), (2, .pure), (3, .pure), (4, .pure), (5, .quiet), (6, .pure), (7, .pure), (8, .pure), (9, .pure), (10, .quiet), (11, .pure), (12, .pure), (13, .pure), (14, .quiet), (15, .pure), (16, .pure), (17, .pure), (18, .pure), (19, .quiet), (20, .pure), (21, .pure), (22, .pure), (23, .pure), (24, .quiet), (25, .pure), (26, .pure), (27, .pure)] (by kernel_rfl) (by kernel_rfl)
                        (fun w' => ∀ p, w'.cell? p = W.cell? p) (fun _ => rfl) ?_
                      iterate 1 (refine ord_pure rfl rfl rfl (fun K' hK => ?_); go_big_quiet_op; refine hK _ ?_; clear hK K')
                      refine ord_load (t := 3) rfl rfl rfl (p := .pointer (some ⟨wr.heap.size, 1, none⟩)) (v := .int .i64 rk.typ) rfl (fun w' hC => load_of_cell Try.underlying3 rfl (by rw [hC]; exact d1)) (fun K' hK => ?_)
                      go_simp
                      refine hK _ ?_
                      clear hK K'
                      iterate 3 (refine ord_pure rfl rfl rfl (fun K' hK => ?_); go_big_quiet_op; refine hK _ ?_; clear hK K')
                      refine ord_load (t := 3) rfl rfl rfl (p := .pointer (some ⟨wr.heap.size, 2, none⟩)) (v := .int .i64 rk.cls) rfl (fun w' hC => load_of_cell Try.underlying3 rfl (by rw [hC]; exact d2)) (fun K' hK => ?_)
                      go_simp
                      refine hK _ ?_
                      clear hK K'
                      iterate 3 (refine ord_pure rfl rfl rfl (fun K' hK => ?_); go_big_quiet_op; refine hK _ ?_; clear hK K')
                      iterate 7 (refine ord_skip' rfl rfl (fun K' hK => ?_); go_simp; refine hK _ ?_; clear hK K')
                      iterate 2 (refine ord_pure rfl rfl rfl (fun K' hK => ?_); go_big_quiet_op; refine hK _ ?_; clear hK K')
                      iterate 8 (refine ord_skip' rfl rfl (fun K' hK => ?_); go_simp; refine hK _ ?_; clear hK K')
                      iterate 2 (refine ord_pure rfl rfl rfl (fun K' hK => ?_); go_big_quiet_op; refine hK _ ?_; clear hK K')
                      refine ord_nil ?_
                      go_wp2_with fail
                      first | refine ⟨⟨_, _, _, ?rel, rfl, rfl, rfl⟩, ?measure⟩ | go_roundw
                      case rel => unfold Rin; exact ⟨k + 1, false, by omega, by go_num, rfl, rfl, hS5, Lib.hid fun _ => by rw [HFS.out]; rfl⟩
                      case measure => simp [intOf]; omega
                    · cases b3 : (rk.name.toList == (nthS N i).toList)
                      · have hp : isStep (nthS N i) (nthS N (i + 1)) rk = false := by rw [hpv, b1, b2, b3]; rfl
                        rw [hp] at HFS
                        clear hpv
                        go_wp2_with (first | (refine wpList_load_run (t := 54) rfl rfl rfl hl1 ?_) | (refine wpList_store_run (t := 54) rfl rfl rfl rfl (hst _ _ rfl) ?_))
                        rw [HW.out]
                        try go_frame
                        refine wp_region_ord [(0, .pure), (1, .quiet), (2, .pure), (3, .pure), (4, .pure), (5, .quiet), (6, .pure), (7, .pure), (8, .pure), (9, .pure), (10, .quiet), (11, .pure), (12, .pure), (13, .pure), (14, .quiet), (15, .pure), (16, .pure), (17, .pure), (18, .pure), (19, .quiet), (20, .pure), (21, .pure), (22, .pure), (23, .pure), (24, .quiet), (25, .pure), (26, .pure), (27, .pure)] (by kernel_rfl) (by kernel_rfl)
                          (fun w' => ∀ p, w'.cell? p = W.cell? p) (fun _ => rfl) ?_
                        iterate 1 (refine ord_pure rfl rfl rfl (fun K' hK => ?_); go_big_quiet_op; refine hK _ ?_; clear hK K')
                        refine ord_load (t := 3) rfl rfl rfl (p := .pointer (some ⟨wr.heap.size, 1, none⟩)) (v := .int .i64 rk.typ) rfl (fun w' hC => load_of_cell Try.underlying3 rfl (by rw [hC]; exact d1)) (fun K' hK => ?_)
                        go_simp
                        refine hK _ ?_
                        clear hK K'
                        iterate 3 (refine ord_pure rfl rfl rfl (fun K' hK => ?_); go_big_quiet_op; refine hK _ ?_; clear hK K')
                        refine ord_load (t := 3) rfl rfl rfl (p := .pointer (some ⟨wr.heap.size, 2, none⟩)) (v := .int .i64 rk.cls) rfl (fun w' hC => load_of_cell Try.underlying3 rfl (by rw [hC]; exact d2)) (fun K' hK => ?_)
                        go_simp
                        refine hK _ ?_
                        clear hK K'
                        iterate 4 (refine ord_pure rfl rfl rfl (fun K' hK => ?_); go_big_quiet_op; refine hK _ ?_; clear hK K')
                        refine ord_load (t := 9) rfl rfl rfl (p := .pointer (some ⟨wr.heap.size, 0, none⟩)) (v := .string rk.name) rfl (fun w' hC => load_of_cell Try.underlying9 rfl (by rw [hC]; exact d0)) (fun K' hK => ?_)
                        go_simp
                        refine hK _ ?_
                        clear hK K'
                        iterate 3 (refine ord_pure rfl rfl rfl (fun K' hK => ?_); go_big_quiet_op; refine hK _ ?_; clear hK K')
                        refine ord_load (t := 9) rfl rfl rfl (p := .pointer (some (a1.add i))) (v := .string (nthS N i)) rfl (fun w' hC => load_of_cell Try.underlying9 rfl (by rw [hC]; exact n1)) (fun K' hK => ?_)
                        go_simp
                        refine hK _ ?_
                        clear hK K'
                        iterate 3 (refine ord_pure rfl rfl rfl (fun K' hK => ?_); go_big_quiet_op; refine hK _ ?_; clear hK K')
                        iterate 8 (refine ord_skip' rfl rfl (fun K' hK => ?_); go_simp; refine hK _ ?_; clear hK K')
                        iterate 2 (refine ord_pure rfl rfl rfl (fun K' hK => ?_); go_big_quiet_op; refine hK _ ?_; clear hK K')
                        refine ord_nil ?_
                        go_wp2_with fail
                        first | refine ⟨⟨_, _, _, ?rel, rfl, rfl, rfl⟩, ?measure⟩ | go_roundw
                        case rel => unfold Rin; exact ⟨k + 1, false, by omega, by go_num, rfl, rfl, hS5, Lib.hid fun _ => by rw [HFS.out]; rfl⟩
                        case measure => simp [intOf]; omega
                      · cases b4 : (rk.tgt.toList == (nthS N (i + 1)).toList)
                        · have hp : isStep (nthS N i) (nthS N (i + 1)) rk = false := by rw [hpv, b1, b2, b3, b4]; rfl
                          rw [hp] at HFS
                          clear hpv
                          go_wp2_with (first | (refine wpList_load_run (t := 54) rfl rfl rfl hl1 ?_) | (refine wpList_store_run (t := 54) rfl rfl rfl rfl (hst _ _ rfl) ?_))
                          rw [HW.out]
                          try go_frame
                          refine wp_region_ord [(0, .pure), (1, .quiet), (2, .pure), (3, .pure), (4, .pure), (5, .quiet), (6, .pure), (7, .pure), (8, .pure), (9, .pure), (10, .quiet), (11, .pure), (12, .pure), (13, .pure), (14, .quiet), (15, .pure), (16, .pure), (17, .pure), (18, .pure), (19, .quiet), (20, .pure), (21, .pure), (22, .pure), (23, .pure), (24, .quiet), (25, .pure), (26, .pure), (27, .pure)] (by kernel_rfl) (by kernel_rfl)
                            (fun w' => ∀ p, w'.cell? p = W.cell? p) (fun _ => rfl) ?_
                          iterate 1 (refine ord_pure rfl rfl rfl (fun K' hK => ?_); go_big_quiet_op; refine hK _ ?_; clear hK K')
                          refine ord_load (t := 3) rfl rfl rfl (p := .pointer (some ⟨wr.heap.size, 1, none⟩)) (v := .int .i64 rk.typ) rfl (fun w' hC => load_of_cell Try.underlying3 rfl (by rw [hC]; exact d1)) (fun K' hK => ?_)
                          go_simp
                          refine hK _ ?_
                          clear hK K'
                          iterate 3 (refine ord_pure rfl rfl rfl (fun K' hK => ?_); go_big_quiet_op; refine hK _ ?_; clear hK K')
                          refine ord_load (t := 3) rfl rfl rfl (p := .pointer (some ⟨wr.heap.size, 2, none⟩)) (v := .int .i64 rk.cls) rfl (fun w' hC => load_of_cell Try.underlying3 rfl (by rw [hC]; exact d2)) (fun K' hK => ?_)
                          go_simp
                          refine hK _ ?_
                          clear hK K'
                          iterate 4 (refine ord_pure rfl rfl rfl (fun K' hK => ?_); go_big_quiet_op; refine hK _ ?_; clear hK K')
                          refine ord_load (t := 9) rfl rfl rfl (p := .pointer (some ⟨wr.heap.size, 0, none⟩)) (v := .string rk.name) rfl (fun w' hC => load_of_cell Try.underlying9 rfl (by rw [hC]; exact d0)) (fun K' hK => ?_)
                          go_simp
                          refine hK _ ?_
                          clear hK K'
                          iterate 3 (refine ord_pure rfl rfl rfl (fun K' hK => ?_); go_big_quiet_op; refine hK _ ?_; clear hK K')
                          refine ord_load (t := 9) rfl rfl rfl (p := .pointer (some (a1.add i))) (v := .string (nthS N i)) rfl (fun w' hC => load_of_cell Try.underlying9 rfl (by rw [hC]; exact n1)) (fun K' hK => ?_)
                          go_simp
                          refine hK _ ?_
                          clear hK K'
                          iterate 4 (refine ord_pure rfl rfl rfl (fun K' hK => ?_); go_big_quiet_op; refine hK _ ?_; clear hK K')
                          refine ord_load (t := 9) rfl rfl rfl (p := .pointer (some ⟨wr.heap.size, 21, none⟩)) (v := .string rk.tgt) rfl (fun w' hC => load_of_cell Try.underlying9 rfl (by rw [hC]; exact d21)) (fun K' hK => ?_)
                          go_simp
                          refine hK _ ?_
                          clear hK K'
                          iterate 4 (refine ord_pure rfl rfl rfl (fun K' hK => ?_); go_big_quiet_op; refine hK _ ?_; clear hK K')
                          refine ord_load (t := 9) rfl rfl rfl (p := .pointer (some (a1.add (i + 1)))) (v := .string (nthS N (i + 1))) rfl (fun w' hC => load_of_cell Try.underlying9 rfl (by rw [hC]; exact n2)) (fun K' hK => ?_)
                          go_simp
                          refine hK _ ?_
                          clear hK K'
                          iterate 3 (refine ord_pure rfl rfl rfl (fun K' hK => ?_); go_big_quiet_op; refine hK _ ?_; clear hK K')
                          refine ord_nil ?_
                          go_wp2_with fail
                          first | refine ⟨⟨_, _, _, ?rel, rfl, rfl, rfl⟩, ?measure⟩ | go_roundw
                          case rel => unfold Rin; exact ⟨k + 1, false, by omega, by go_num, rfl, rfl, hS5, Lib.hid fun _ => by rw [HFS.out]; rfl⟩
                          case measure => simp [intOf]; omega
                        · have hp : isStep (nthS N i) (nthS N (i + 1)) rk = true := by rw [hpv, b1, b2, b3, b4]; rfl
                          rw [hp] at HFS
                          clear hpv
                          go_wp2_with (first | (refine wpList_load_run (t := 54) rfl rfl rfl hl1 ?_) | (refine wpList_store_run (t := 54) rfl rfl rfl rfl (hst _ _ rfl) ?_))
                          rw [HW.out]
                          try go_frame
                          refine wp_region_ord [(0, .pure), (1, .quiet), (2, .pure), (3, .pure), (4, .pure), (5, .quiet), (6, .pure), (7, .pure), (8, .pure), (9, .pure), (10, .quiet), (11, .pure), (12, .pure), (13, .pure), (14, .quiet), (15, .pure), (16, .pure), (17, .pure), (18, .pure), (19, .quiet), (20, .pure), (21, .pure), (22, .pure), (23, .pure), (24, .quiet), (25, .pure), (26, .pure), (27, .pure)] (by kernel_rfl) (by kernel_rfl)
                            (fun w' => ∀ p, w'.cell? p = W.cell? p) (fun _ => rfl) ?_
                          iterate 1 (refine ord_pure rfl rfl rfl (fun K' hK => ?_); go_big_quiet_op; refine hK _ ?_; clear hK K')
                          refine ord_load (t := 3) rfl rfl rfl (p := .pointer (some ⟨wr.heap.size, 1, none⟩)) (v := .int .i64 rk.typ) rfl (fun w' hC => load_of_cell Try.underlying3 rfl (by rw [hC]; exact d1)) (fun K' hK => ?_)
                          go_simp
                          refine hK _ ?_
                          clear hK K'
                          iterate 3 (refine ord_pure rfl rfl rfl (fun K' hK => ?_); go_big_quiet_op; refine hK _ ?_; clear hK K')
                          refine ord_load (t := 3) rfl rfl rfl (p := .pointer (some ⟨wr.heap.size, 2, none⟩)) (v := .int .i64 rk.cls) rfl (fun w' hC => load_of_cell Try.underlying3 rfl (by rw [hC]; exact d2)) (fun K' hK => ?_)
                          go_simp
                          refine hK _ ?_
                          clear hK K'
                          iterate 4 (refine ord_pure rfl rfl rfl (fun K' hK => ?_); go_big_quiet_op; refine hK _ ?_; clear hK K')
                          refine ord_load (t := 9) rfl rfl rfl (p := .pointer (some ⟨wr.heap.size, 0, none⟩)) (v := .string rk.name) rfl (fun w' hC => load_of_cell Try.underlying9 rfl (by rw [hC]; exact d0)) (fun K' hK => ?_)
                          go_simp
                          refine hK _ ?_
                          clear hK K'
                          iterate 3 (refine ord_pure rfl rfl rfl (fun K' hK => ?_); go_big_quiet_op; refine hK _ ?_; clear hK K')
                          refine ord_load (t := 9) rfl rfl rfl (p := .pointer (some (a1.add i))) (v := .string (nthS N i)) rfl (fun w' hC => load_of_cell Try.underlying9 rfl (by rw [hC]; exact n1)) (fun K' hK => ?_)
                          go_simp
                          refine hK _ ?_
                          clear hK K'
                          iterate 4 (refine ord_pure rfl rfl rfl (fun K' hK => ?_); go_big_quiet_op; refine hK _ ?_; clear hK K')
                          refine ord_load (t := 9) rfl rfl rfl (p := .pointer (some ⟨wr.heap.size, 21, none⟩)) (v := .string rk.tgt) rfl (fun w' hC => load_of_cell Try.underlying9 rfl (by rw [hC]; exact d21)) (fun K' hK => ?_)
                          go_simp
                          refine hK _ ?_
                          clear hK K'
                          iterate 4 (refine ord_pure rfl rfl rfl (fun K' hK => ?_); go_big_quiet_op; refine hK _ ?_; clear hK K')
                          refine ord_load (t := 9) rfl rfl rfl (p := .pointer (some (a1.add (i + 1)))) (v := .string (nthS N (i + 1))) rfl (fun w' hC => load_of_cell Try.underlying9 rfl (by rw [hC]; exact n2)) (fun K' hK => ?_)
                          go_simp
                          refine hK _ ?_
                          clear hK K'
                          iterate 3 (refine ord_pure rfl rfl rfl (fun K' hK => ?_); go_big_quiet_op; refine hK _ ?_; clear hK K')
                          refine ord_nil ?_
                          have hrr : rk = r := Option.some.inj ((find_take_done HFS.out).symm.trans HFR.out)
                          have htt : min t rk.ttl = t' := by rw [hrr, ← HT.out]; split <;> omega
                          have HTT := Lib.hid htt
                          clear hrr htt
                          have d3' : W.drew.cell? ⟨wr.heap.size, 3, none⟩ = some (.int .u32 rk.ttl) := d3
                          go_wp2_with fail
                          first | refine ⟨⟨_, _, _, ?rel, rfl, rfl, rfl⟩, ?measure⟩ | go_roundw
                          case rel => unfold Rin; exact ⟨k + 1, true, by omega, by go_num, rfl, by rw [HTT.out]; rfl, hS5, Lib.hid fun h => by cases h⟩
                          case measure => simp [intOf]; omega
                · exfalso
                  obtain rfl : k = l.length := by omega
                  have h1 := HK.out rfl
                  rw [List.take_length, HFR.out] at h1
                  cases h1
          · have hp := HP.out
            rw [List.drop_eq_nil_of_le (by omega)] at hp
            obtain ⟨hz, rfl⟩ := hp
            obtain ⟨n1, hn1⟩ : ∃ n1 : Nat, N.length = n1 + 1 := ⟨N.length - 1, by omega⟩
            have hz2 : N[n1]? = some z := by rw [nthS_get (by omega), ← hz]; congr 2; omega
            obtain ⟨a1, ca1, hv1, hcn1⟩ := (f2.below hS2.below).elem (nthS_get hN1)
            simp only [Value.slice.injEq] at hv1
            obtain ⟨rfl, _, rfl⟩ := hv1
            have HZ := Lib.hid hz2
            have hnn : ((N.length : Int) - 1) = (n1 : Int) := by omega
            have hnb : n1 < N.length := by omega
            have HNL := Lib.hid hn1
            clear HP hz hz2 hcn1 hn1
            go_wp2_with fail
            go_loopw [12] (fun jj wr => ∃ j : Nat, j ≤ F.length ∧ jj = .int .i64 j ∧ Sat w1.heap.size w1 wr emp) (fun jj _ => F.length - (intOf jj).toNat)
            case atStart => exact ⟨0, Nat.zero_le _, rfl, hS2⟩
            case round =>
              clear hS2
              obtain ⟨j, hj, rfl, hS2⟩ := hrel
              by_cases hjl : j < F.length
              · obtain ⟨f, hfj⟩ : ∃ f, F[j]? = some f := ⟨_, List.getElem?_eq_getElem hjl⟩
                have hfm : f ∈ F := List.mem_of_getElem? hfj
                have HF := Lib.hid (HH.out f hfm)
                obtain ⟨aF, caF, hvF, hcF⟩ := (f1.below hS2.below).1.elem Fnd.enc_length hfj
                simp only [Value.slice.injEq] at hvF
                obtain ⟨rfl, _, rfl⟩ := hvF
                have HFJ := Lib.hid hfj
                clear hfm hcF hfj
                go_wp2_with fail
                go_loopw [13, 14] (fun fd kk wr => Rin2 l z t f w1 fd kk wr) (fun _ kk _ => l.length - (intOf kk).toNat)
                case atStart => unfold Rin2; exact ⟨0, Nat.zero_le _, rfl, rfl, hS2⟩
                case round =>
                  clear hS2
                  unfold Rin2 at hrel
                  obtain ⟨k, hk, rfl, rfl, hS3⟩ := hrel
                  have hc6 : wr.cell? ⟨w.heap.size, 6, none⟩ = some (.slice A l.length c) := by rw [hS3.below.cell (World.block_lt_of_cell? _ _ hmc)]; exact hmc
                  by_cases hlt : k < l.length
                  · obtain ⟨rk, hrk⟩ : ∃ r, l[k]? = some r := ⟨_, List.getElem?_eq_getElem hlt⟩
                    have hra := hr1
                    rw [hA] at hra
                    obtain ⟨a, c', hv, hcl⟩ := (hra.below hS3.below).1.elem Rec.enc_length hrk
                    simp only [Value.slice.injEq] at hv
                    obtain ⟨rfl, _, rfl⟩ := hv
                    have hl1 : (Instr.loadAt 54 (.pointer (some (a.add (k * 23))))).run Try.prog wr = .ok (.agg rk.enc.toArray) wr :=
                      run_loadAt_cells Try.underlying54 rfl (by rw [rk.enc_length]; kernel_rfl) (fun j u hu => by rw [add_add']; exact hcl j u hu)
                    have hst : ∀ (W : World) (z : Array Value), z.size = 23 → (Instr.storeAt 54 (.pointer (some ⟨W.heap.size, 0, none⟩)) (.agg rk.enc.toArray)).run Try.prog (W.alloc (.cells z 54)) = .ok () (W.alloc (.cells rk.enc.toArray 54)) :=
                      fun W z hz => run_storeAt_new (v := .agg rk.enc.toArray) (by simp only [Value.cells, List.size_toArray, rk.enc_length]; kernel_rfl) (by simp only [Value.cells, List.size_toArray, rk.enc_length]; exact hz) (by simpa [Value.cells] using rk.enc_one)
                    have d0 : (wr.alloc (.cells rk.enc.toArray 54)).cell? ⟨wr.heap.size, 0, none⟩ = some (.string rk.name) := by rw [cell_new]; simpa using rk.at0
                    have d1 : (wr.alloc (.cells rk.enc.toArray 54)).cell? ⟨wr.heap.size, 1, none⟩ = some (.int .i64 rk.typ) := by rw [cell_new]; simpa using rk.at1
                    have d2 : (wr.alloc (.cells rk.enc.toArray 54)).cell? ⟨wr.heap.size, 2, none⟩ = some (.int .i64 rk.cls) := by rw [cell_new]; simpa using rk.at2
                    have d3 : (wr.alloc (.cells rk.enc.toArray 54)).cell? ⟨wr.heap.size, 3, none⟩ = some (.int .u32 rk.ttl) := by rw [cell_new]; simpa using rk.at3
                    have d4 : ∀ (j : Nat) (u : Value), rk.addr.enc[j]? = some u → (wr.alloc (.cells rk.enc.toArray 54)).cell? ((⟨wr.heap.size, 4, none⟩ : Addr).add j) = some u := by
                      intro j u hu
                      rw [Addr.add_lit, cell_new]; simpa using rk.at4 j u hu
                    have hS4 := hS3.alloc_ (.cells rk.enc.toArray 54)
                    have n2 : (wr.alloc (.cells rk.enc.toArray 54)).cell? (a1.add n1) = some (.string z) := by
                      obtain ⟨a', c', hv, hcn⟩ := (f2.below hS4.below).elem HZ.out
                      cases hv; exact hcn
                    have fA : ∀ (j' : Nat) (u : Value), f.addr.enc[j']? = some u → (wr.alloc (.cells rk.enc.toArray 54)).cell? ((aF.add (j * 18)).add j') = some u := by
                      intro j' u hu
                      obtain ⟨a', c', hv, hcn⟩ := (f1.below hS4.below).1.elem Fnd.enc_length HFJ.out
                      cases hv; rw [add_add']; exact hcn j' u (f.at0 j' u hu)
                    have fT : (wr.alloc (.cells rk.enc.toArray 54)).cell? ((aF.add (j * 18)).add 17) = some (.int .u32 f.ttl) := by
                      obtain ⟨a', c', hv, hcn⟩ := (f1.below hS4.below).1.elem Fnd.enc_length HFJ.out
                      cases hv; rw [add_add']; exact hcn 17 _ f.at17
                    have hfs : (l.take (k + 1)).any (isHit z t f) = ((l.take k).any (isHit z t f) || isHit z t f rk) := by
                      rw [List.take_add_one, hrk, Option.toList_some, List.any_append]; simp
                    have hpv : isHit z t f rk = ((((rk.typ == 1) || (rk.typ == 28)) && (rk.cls == 1)) && (rk.name.toList == z.toList) && decide (rk.addr = f.addr) && (f.ttl == if rk.ttl < t then rk.ttl else t)) := rfl
                    have HMIN : Hid (min t rk.ttl = if rk.ttl < t then rk.ttl else t) := Lib.hid (by split <;> omega)
                    have hS5 := hS4.drew
                    generalize hW : wr.alloc (.cells rk.enc.toArray 54) = W at *
                    generalize hbb : (l.take k).any (isHit z t f) = bb at *
                    have HW := Lib.hid hW
                    have HS2 := Lib.hid hfs
                    clear hW hfs hrk hcl hS3 hS4 hbb
                    go_wp2_with (first | (refine wpList_load_run (t := 54) rfl rfl rfl hl1 ?_) | (refine wpList_store_run (t := 54) rfl rfl rfl rfl (hst _ _ rfl) ?_))
                    rw [HW.out]
                    try go_frame
                    refine wp_region_ord [(0, .pure), (1, .pure), (2, .pure), (3, .quiet), (4, .pure), (5, .pure), (6, .pure), (7, .quiet), (8, .pure), (9, .pure), (10, .pure), (11, .pure), (12, .quiet), (13, .pure), (14, .pure), (15, .pure), (16, .pure), (17, .quiet), (18, .pure), (19, .pure), (20, .pure), (21, .pure), (22, .pure), (23, .quiet), (24, .pure), (25, .pure), (26, .pure), (27, .pure), (28, .quiet), (29, .pure), (30, .pure), (31, .pure), (32, .pure), (33, .quiet), (34, .pure), (35, .pure), (36, .pure), (37, .pure), (38, .pure), (39, .pure), (40, .pure), (41, .quiet), (42, .pure), (43, .pure), (44, .quiet), (45, .pure), (46, .pure), (47, .pure), (48, .pure), (49, .pure)] (by kernel_rfl) (by kernel_rfl)
                      (fun w' => ∀ p, w'.cell? p = W.cell? p) (fun _ => rfl) ?_
                    iterate 2 (refine ord_pure rfl rfl rfl (fun K' hK => ?_); go_big_quiet_op; refine hK _ ?_; clear hK K')
                    cases bb
                    · iterate 1 (refine ord_pure rfl rfl rfl (fun K' hK => ?_); go_big_quiet_op; refine hK _ ?_; clear hK K')
                      refine ord_load (t := 3) rfl rfl rfl (p := .pointer (some ⟨wr.heap.size, 1, none⟩)) (v := .int .i64 rk.typ) rfl (fun w' hC => load_of_cell Try.underlying3 rfl (by rw [hC]; exact d1)) (fun K' hK => ?_)
                      go_simp
                      refine hK _ ?_
                      clear hK K'
                      iterate 2 (refine ord_pure rfl rfl rfl (fun K' hK => ?_); go_big_quiet_op; refine hK _ ?_; clear hK K')
                      cases b1 : (rk.typ == 1)
                      · iterate 1 (refine ord_pure rfl rfl rfl (fun K' hK => ?_); go_big_quiet_op; refine hK _ ?_; clear hK K')
                        refine ord_load (t := 3) rfl rfl rfl (p := .pointer (some ⟨wr.heap.size, 1, none⟩)) (v := .int .i64 rk.typ) rfl (fun w' hC => load_of_cell Try.underlying3 rfl (by rw [hC]; exact d1)) (fun K' hK => ?_)
                        go_simp
                        refine hK _ ?_
                        clear hK K'
                        iterate 1 (refine ord_pure rfl rfl rfl (fun K' hK => ?_); go_big_quiet_op; refine hK _ ?_; clear hK K')
                        cases b2 : (rk.typ == 28)
                        · iterate 2 (refine ord_pure rfl rfl rfl (fun K' hK => ?_); go_big_quiet_op; refine hK _ ?_; clear hK K')
                          iterate 3 (refine ord_skip' rfl rfl (fun K' hK => ?_); go_simp; refine hK _ ?_; clear hK K')
                          iterate 2 (refine ord_pure rfl rfl rfl (fun K' hK => ?_); go_big_quiet_op; refine hK _ ?_; clear hK K')
                          iterate 9 (refine ord_skip' rfl rfl (fun K' hK => ?_); go_simp; refine hK _ ?_; clear hK K')
                          iterate 2 (refine ord_pure rfl rfl rfl (fun K' hK => ?_); go_big_quiet_op; refine hK _ ?_; clear hK K')
                          iterate 8 (refine ord_skip' rfl rfl (fun K' hK => ?_); go_simp; refine hK _ ?_; clear hK K')
                          iterate 2 (refine ord_pure rfl rfl rfl (fun K' hK => ?_); go_big_quiet_op; refine hK _ ?_; clear hK K')
                          iterate 10 (refine ord_skip' rfl rfl (fun K' hK => ?_); go_simp; refine hK _ ?_; clear hK K')
                          iterate 3 (refine ord_pure rfl rfl rfl (fun K' hK => ?_); go_big_quiet_op; refine hK _ ?_; clear hK K')
                          refine ord_nil ?_
                          have hp : isHit z t f rk = false := by rw [hpv, b1, b2]; rfl
                          rw [hp] at HS2
                          clear hpv
                          go_wp2_with fail
                          first | refine ⟨⟨_, _, ?rel, rfl, rfl⟩, ?measure⟩ | go_roundw
                          case rel => unfold Rin2; exact ⟨k + 1, by omega, by go_num, by rw [HS2.out]; rfl, hS5⟩
                          case measure => simp [intOf]; omega
                        · iterate 3 (refine ord_pure rfl rfl rfl (fun K' hK => ?_); go_big_quiet_op; refine hK _ ?_; clear hK K')
                          refine ord_load (t := 3) rfl rfl rfl (p := .pointer (some ⟨wr.heap.size, 2, none⟩)) (v := .int .i64 rk.cls) rfl (fun w' hC => load_of_cell Try.underlying3 rfl (by rw [hC]; exact d2)) (fun K' hK => ?_)
                          go_simp
                          refine hK _ ?_
                          clear hK K'
                          iterate 1 (refine ord_pure rfl rfl rfl (fun K' hK => ?_); go_big_quiet_op; refine hK _ ?_; clear hK K')
                          cases b3 : (rk.cls == 1)
                          · iterate 2 (refine ord_pure rfl rfl rfl (fun K' hK => ?_); go_big_quiet_op; refine hK _ ?_; clear hK K')
                            iterate 9 (refine ord_skip' rfl rfl (fun K' hK => ?_); go_simp; refine hK _ ?_; clear hK K')
                            iterate 2 (refine ord_pure rfl rfl rfl (fun K' hK => ?_); go_big_quiet_op; refine hK _ ?_; clear hK K')
                            iterate 8 (refine ord_skip' rfl rfl (fun K' hK => ?_); go_simp; refine hK _ ?_; clear hK K')
                            iterate 2 (refine ord_pure rfl rfl rfl (fun K' hK => ?_); go_big_quiet_op; refine hK _ ?_; clear hK K')
                            iterate 10 (refine ord_skip' rfl rfl (fun K' hK => ?_); go_simp; refine hK _ ?_; clear hK K')
                            iterate 3 (refine ord_pure rfl rfl rfl (fun K' hK => ?_); go_big_quiet_op; refine hK _ ?_; clear hK K')
                            refine ord_nil ?_
                            have hp : isHit z t f rk = false := by rw [hpv, b1, b2, b3]; rfl
                            rw [hp] at HS2
                            clear hpv
                            go_wp2_with fail
                            first | refine ⟨⟨_, _, ?rel, rfl, rfl⟩, ?measure⟩ | go_roundw
                            case rel => unfold Rin2; exact ⟨k + 1, by omega, by go_num, by rw [HS2.out]; rfl, hS5⟩
                            case measure => simp [intOf]; omega
                          · iterate 3 (refine ord_pure rfl rfl rfl (fun K' hK => ?_); go_big_quiet_op; refine hK _ ?_; clear hK K')
                            refine ord_load (t := 9) rfl rfl rfl (p := .pointer (some ⟨wr.heap.size, 0, none⟩)) (v := .string rk.name) rfl (fun w' hC => load_of_cell Try.underlying9 rfl (by rw [hC]; exact d0)) (fun K' hK => ?_)
                            go_simp
                            refine hK _ ?_
                            clear hK K'
                            iterate 5 (refine ord_pure rfl rfl rfl (fun K' hK => ?_); go_big_quiet_op; refine hK _ ?_; clear hK K')
                            refine ord_load (t := 9) rfl rfl rfl (p := .pointer (some (a1.add n1))) (v := .string z) rfl (fun w' hC => load_of_cell Try.underlying9 rfl (by rw [hC]; exact n2)) (fun K' hK => ?_)
                            go_simp
                            refine hK _ ?_
                            clear hK K'
                            iterate 1 (refine ord_pure rfl rfl rfl (fun K' hK => ?_); go_big_quiet_op; refine hK _ ?_; clear hK K')
                            cases b4 : (rk.name.toList == z.toList)
                            · iterate 2 (refine ord_pure rfl rfl rfl (fun K' hK => ?_); go_big_quiet_op; refine hK _ ?_; clear hK K')
                              iterate 8 (refine ord_skip' rfl rfl (fun K' hK => ?_); go_simp; refine hK _ ?_; clear hK K')
                              iterate 2 (refine ord_pure rfl rfl rfl (fun K' hK => ?_); go_big_quiet_op; refine hK _ ?_; clear hK K')
                              iterate 10 (refine ord_skip' rfl rfl (fun K' hK => ?_); go_simp; refine hK _ ?_; clear hK K')
                              iterate 3 (refine ord_pure rfl rfl rfl (fun K' hK => ?_); go_big_quiet_op; refine hK _ ?_; clear hK K')
                              refine ord_nil ?_
                              have hp : isHit z t f rk = false := by rw [hpv, b1, b2, b3, b4]; rfl
                              rw [hp] at HS2
                              clear hpv
                              go_wp2_with fail
                              first | refine ⟨⟨_, _, ?rel, rfl, rfl⟩, ?measure⟩ | go_roundw
                              case rel => unfold Rin2; exact ⟨k + 1, by omega, by go_num, by rw [HS2.out]; rfl, hS5⟩
                              case measure => simp [intOf]; omega
                            · iterate 3 (refine ord_pure rfl rfl rfl (fun K' hK => ?_); go_big_quiet_op; refine hK _ ?_; clear hK K')
                              refine ord_load (t := 46) rfl rfl rfl (p := .pointer (some ⟨wr.heap.size, 4, none⟩)) (v := .agg rk.addr.enc.toArray) rfl (fun w' hC => run_loadAt_cells Try.underlying46 rfl (by rw [Adr.enc_length]; kernel_rfl) (fun j u hu => by rw [hC]; exact d4 j u hu)) (fun K' hK => ?_)
                              go_simp
                              refine hK _ ?_
                              clear hK K'
                              iterate 4 (refine ord_pure rfl rfl rfl (fun K' hK => ?_); go_big_quiet_op; refine hK _ ?_; clear hK K')
                              refine ord_load (t := 46) rfl rfl rfl (p := .pointer (some (aF.add (j * 18)))) (v := .agg f.addr.enc.toArray) rfl (fun w' hC => run_loadAt_cells Try.underlying46 rfl (by rw [Adr.enc_length]; kernel_rfl) (fun j u hu => by rw [hC]; exact fA j u hu)) (fun K' hK => ?_)
                              go_simp
                              refine hK _ ?_
                              clear hK K'
                              refine ord_eql rfl rfl rfl rfl rfl (by kernel_rfl) (fun w' => adr_eq 9997 rk.addr f.addr) (fun K' hK => ?_)
                              go_simp
                              refine hK _ ?_
                              clear hK K'
                              cases b5 : decide (rk.addr = f.addr)
                              · iterate 2 (refine ord_pure rfl rfl rfl (fun K' hK => ?_); go_big_quiet_op; refine hK _ ?_; clear hK K')
                                iterate 10 (refine ord_skip' rfl rfl (fun K' hK => ?_); go_simp; refine hK _ ?_; clear hK K')
                                iterate 3 (refine ord_pure rfl rfl rfl (fun K' hK => ?_); go_big_quiet_op; refine hK _ ?_; clear hK K')
                                refine ord_nil ?_
                                have hp : isHit z t f rk = false := by rw [hpv, b1, b2, b3, b4, b5]; rfl
                                rw [hp] at HS2
                                clear hpv
                                go_wp2_with fail
                                first | refine ⟨⟨_, _, ?rel, rfl, rfl⟩, ?measure⟩ | go_roundw
                                case rel => unfold Rin2; exact ⟨k + 1, by omega, by go_num, by rw [HS2.out]; rfl, hS5⟩
                                case measure => simp [intOf]; omega
                              · iterate 6 (refine ord_pure rfl rfl rfl (fun K' hK => ?_); go_big_quiet_op; refine hK _ ?_; clear hK K')
                                refine ord_load (t := 47) rfl rfl rfl (p := .pointer (some ((aF.add (j * 18)).add 17))) (v := .int .u32 f.ttl) rfl (fun w' hC => load_of_cell Try.underlying47 rfl (by rw [hC]; exact fT)) (fun K' hK => ?_)
                                go_simp
                                refine hK _ ?_
                                clear hK K'
                                iterate 2 (refine ord_pure rfl rfl rfl (fun K' hK => ?_); go_big_quiet_op; refine hK _ ?_; clear hK K')
                                refine ord_load (t := 47) rfl rfl rfl (p := .pointer (some ⟨wr.heap.size, 3, none⟩)) (v := .int .u32 rk.ttl) rfl (fun w' hC => load_of_cell Try.underlying47 rfl (by rw [hC]; exact d3)) (fun K' hK => ?_)
                                go_simp
                                refine hK _ ?_
                                clear hK K'
                                iterate 2 (refine ord_pure rfl rfl rfl (fun K' hK => ?_); go_big_quiet_op; refine hK _ ?_; clear hK K')
                                try rw [HMIN.out]
                                cases b6 : (f.ttl == if rk.ttl < t then rk.ttl else t)
                                · iterate 3 (refine ord_pure rfl rfl rfl (fun K' hK => ?_); go_big_quiet_op; refine hK _ ?_; clear hK K')
                                  refine ord_nil ?_
                                  have hp : isHit z t f rk = false := by rw [hpv, b1, b2, b3, b4, b5, b6]; rfl
                                  rw [hp] at HS2
                                  clear hpv
                                  go_wp2_with fail
                                  first | refine ⟨⟨_, _, ?rel, rfl, rfl⟩, ?measure⟩ | go_roundw
                                  case rel => unfold Rin2; exact ⟨k + 1, by omega, by go_num, by rw [HS2.out]; rfl, hS5⟩
                                  case measure => simp [intOf]; omega
                                · iterate 3 (refine ord_pure rfl rfl rfl (fun K' hK => ?_); go_big_quiet_op; refine hK _ ?_; clear hK K')
                                  refine ord_nil ?_
                                  have hp : isHit z t f rk = true := by rw [hpv, b1, b2, b3, b4, b5, b6]; rfl
                                  rw [hp] at HS2
                                  clear hpv
                                  go_wp2_with fail
                                  first | refine ⟨⟨_, _, ?rel, rfl, rfl⟩, ?measure⟩ | go_roundw
                                  case rel => unfold Rin2; exact ⟨k + 1, by omega, by go_num, by rw [HS2.out]; rfl, hS5⟩
                                  case measure => simp [intOf]; omega
                      · iterate 3 (refine ord_skip' rfl rfl (fun K' hK => ?_); go_simp; refine hK _ ?_; clear hK K')
                        iterate 3 (refine ord_pure rfl rfl rfl (fun K' hK => ?_); go_big_quiet_op; refine hK _ ?_; clear hK K')
                        refine ord_load (t := 3) rfl rfl rfl (p := .pointer (some ⟨wr.heap.size, 2, none⟩)) (v := .int .i64 rk.cls) rfl (fun w' hC => load_of_cell Try.underlying3 rfl (by rw [hC]; exact d2)) (fun K' hK => ?_)
                        go_simp
                        refine hK _ ?_
                        clear hK K'
                        iterate 1 (refine ord_pure rfl rfl rfl (fun K' hK => ?_); go_big_quiet_op; refine hK _ ?_; clear hK K')
                        cases b3 : (rk.cls == 1)
                        · iterate 2 (refine ord_pure rfl rfl rfl (fun K' hK => ?_); go_big_quiet_op; refine hK _ ?_; clear hK K')
                          iterate 9 (refine ord_skip' rfl rfl (fun K' hK => ?_); go_simp; refine hK _ ?_; clear hK K')
                          iterate 2 (refine ord_pure rfl rfl rfl (fun K' hK => ?_); go_big_quiet_op; refine hK _ ?_; clear hK K')
                          iterate 8 (refine ord_skip' rfl rfl (fun K' hK => ?_); go_simp; refine hK _ ?_; clear hK K')
                          iterate 2 (refine ord_pure rfl rfl rfl (fun K' hK => ?_); go_big_quiet_op; refine hK _ ?_; clear hK K')
                          iterate 10 (refine ord_skip' rfl rfl (fun K' hK => ?_); go_simp; refine hK _ ?_; clear hK K')
                          iterate 3 (refine ord_pure rfl rfl rfl (fun K' hK => ?_); go_big_quiet_op; refine hK _ ?_; clear hK K')
                          refine ord_nil ?_
                          have hp : isHit z t f rk = false := by rw [hpv, b1, b3]; rfl
                          rw [hp] at HS2
                          clear hpv
                          go_wp2_with fail
                          first | refine ⟨⟨_, _, ?rel, rfl, rfl⟩, ?measure⟩ | go_roundw
                          case rel => unfold Rin2; exact ⟨k + 1, by omega, by go_num, by rw [HS2.out]; rfl, hS5⟩
                          case measure => simp [intOf]; omega
                        · iterate 3 (refine ord_pure rfl rfl rfl (fun K' hK => ?_); go_big_quiet_op; refine hK _ ?_; clear hK K')
                          refine ord_load (t := 9) rfl rfl rfl (p := .pointer (some ⟨wr.heap.size, 0, none⟩)) (v := .string rk.name) rfl (fun w' hC => load_of_cell Try.underlying9 rfl (by rw [hC]; exact d0)) (fun K' hK => ?_)
                          go_simp
                          refine hK _ ?_
                          clear hK K'
                          iterate 5 (refine ord_pure rfl rfl rfl (fun K' hK => ?_); go_big_quiet_op; refine hK _ ?_; clear hK K')
                          refine ord_load (t := 9) rfl rfl rfl (p := .pointer (some (a1.add n1))) (v := .string z) rfl (fun w' hC => load_of_cell Try.underlying9 rfl (by rw [hC]; exact n2)) (fun K' hK => ?_)
                          go_simp
                          refine hK _ ?_
                          clear hK K'
                          iterate 1 (refine ord_pure rfl rfl rfl (fun K' hK => ?_); go_big_quiet_op; refine hK _ ?_; clear hK K')
                          cases b4 : (rk.name.toList == z.toList)
                          · iterate 2 (refine ord_pure rfl rfl rfl (fun K' hK => ?_); go_big_quiet_op; refine hK _ ?_; clear hK K')
                            iterate 8 (refine ord_skip' rfl rfl (fun K' hK => ?_); go_simp; refine hK _ ?_; clear hK K')
                            iterate 2 (refine ord_pure rfl rfl rfl (fun K' hK => ?_); go_big_quiet_op; refine hK _ ?_; clear hK K')
                            iterate 10 (refine ord_skip' rfl rfl (fun K' hK => ?_); go_simp; refine hK _ ?_; clear hK K')
                            iterate 3 (refine ord_pure rfl rfl rfl (fun K' hK => ?_); go_big_quiet_op; refine hK _ ?_; clear hK K')
                            refine ord_nil ?_
                            have hp : isHit z t f rk = false := by rw [hpv, b1, b3, b4]; rfl
                            rw [hp] at HS2
                            clear hpv
                            go_wp2_with fail
                            first | refine ⟨⟨_, _, ?rel, rfl, rfl⟩, ?measure⟩ | go_roundw
                            case rel => unfold Rin2; exact ⟨k + 1, by omega, by go_num, by rw [HS2.out]; rfl, hS5⟩
                            case measure => simp [intOf]; omega
                          · iterate 3 (refine ord_pure rfl rfl rfl (fun K' hK => ?_); go_big_quiet_op; refine hK _ ?_; clear hK K')
                            refine ord_load (t := 46) rfl rfl rfl (p := .pointer (some ⟨wr.heap.size, 4, none⟩)) (v := .agg rk.addr.enc.toArray) rfl (fun w' hC => run_loadAt_cells Try.underlying46 rfl (by rw [Adr.enc_length]; kernel_rfl) (fun j u hu => by rw [hC]; exact d4 j u hu)) (fun K' hK => ?_)
                            go_simp
                            refine hK _ ?_
                            clear hK K'
                            iterate 4 (refine ord_pure rfl rfl rfl (fun K' hK => ?_); go_big_quiet_op; refine hK _ ?_; clear hK K')
                            refine ord_load (t := 46) rfl rfl rfl (p := .pointer (some (aF.add (j * 18)))) (v := .agg f.addr.enc.toArray) rfl (fun w' hC => run_loadAt_cells Try.underlying46 rfl (by rw [Adr.enc_length]; kernel_rfl) (fun j u hu => by rw [hC]; exact fA j u hu)) (fun K' hK => ?_)
                            go_simp
                            refine hK _ ?_
                            clear hK K'
                            refine ord_eql rfl rfl rfl rfl rfl (by kernel_rfl) (fun w' => adr_eq 9997 rk.addr f.addr) (fun K' hK => ?_)
                            go_simp
                            refine hK _ ?_
                            clear hK K'
                            cases b5 : decide (rk.addr = f.addr)
                            · iterate 2 (refine ord_pure rfl rfl rfl (fun K' hK => ?_); go_big_quiet_op; refine hK _ ?_; clear hK K')
                              iterate 10 (refine ord_skip' rfl rfl (fun K' hK => ?_); go_simp; refine hK _ ?_; clear hK K')
                              iterate 3 (refine ord_pure rfl rfl rfl (fun K' hK => ?_); go_big_quiet_op; refine hK _ ?_; clear hK K')
                              refine ord_nil ?_
                              have hp : isHit z t f rk = false := by rw [hpv, b1, b3, b4, b5]; rfl
                              rw [hp] at HS2
                              clear hpv
                              go_wp2_with fail
                              first | refine ⟨⟨_, _, ?rel, rfl, rfl⟩, ?measure⟩ | go_roundw
                              case rel => unfold Rin2; exact ⟨k + 1, by omega, by go_num, by rw [HS2.out]; rfl, hS5⟩
                              case measure => simp [intOf]; omega
                            · iterate 6 (refine ord_pure rfl rfl rfl (fun K' hK => ?_); go_big_quiet_op; refine hK _ ?_; clear hK K')
                              refine ord_load (t := 47) rfl rfl rfl (p := .pointer (some ((aF.add (j * 18)).add 17))) (v := .int .u32 f.ttl) rfl (fun w' hC => load_of_cell Try.underlying47 rfl (by rw [hC]; exact fT)) (fun K' hK => ?_)
                              go_simp
                              refine hK _ ?_
                              clear hK K'
                              iterate 2 (refine ord_pure rfl rfl rfl (fun K' hK => ?_); go_big_quiet_op; refine hK _ ?_; clear hK K')
                              refine ord_load (t := 47) rfl rfl rfl (p := .pointer (some ⟨wr.heap.size, 3, none⟩)) (v := .int .u32 rk.ttl) rfl (fun w' hC => load_of_cell Try.underlying47 rfl (by rw [hC]; exact d3)) (fun K' hK => ?_)
                              go_simp
                              refine hK _ ?_
                              clear hK K'
                              iterate 2 (refine ord_pure rfl rfl rfl (fun K' hK => ?_); go_big_quiet_op; refine hK _ ?_; clear hK K')
                              try rw [HMIN.out]
                              cases b6 : (f.ttl == if rk.ttl < t then rk.ttl else t)
                              · iterate 3 (refine ord_pure rfl rfl rfl (fun K' hK => ?_); go_big_quiet_op; refine hK _ ?_; clear hK K')
                                refine ord_nil ?_
                                have hp : isHit z t f rk = false := by rw [hpv, b1, b3, b4, b5, b6]; rfl
                                rw [hp] at HS2
                                clear hpv
                                go_wp2_with fail
                                first | refine ⟨⟨_, _, ?rel, rfl, rfl⟩, ?measure⟩ | go_roundw
                                case rel => unfold Rin2; exact ⟨k + 1, by omega, by go_num, by rw [HS2.out]; rfl, hS5⟩
                                case measure => simp [intOf]; omega
                              · iterate 3 (refine ord_pure rfl rfl rfl (fun K' hK => ?_); go_big_quiet_op; refine hK _ ?_; clear hK K')
                                refine ord_nil ?_
                                have hp : isHit z t f rk = true := by rw [hpv, b1, b3, b4, b5, b6]; rfl
                                rw [hp] at HS2
                                clear hpv
                                go_wp2_with fail
                                first | refine ⟨⟨_, _, ?rel, rfl, rfl⟩, ?measure⟩ | go_roundw
                                case rel => unfold Rin2; exact ⟨k + 1, by omega, by go_num, by rw [HS2.out]; rfl, hS5⟩
                                case measure => simp [intOf]; omega
                    · iterate 46 (refine ord_skip' rfl rfl (fun K' hK => ?_); go_simp; refine hK _ ?_; clear hK K')
                      iterate 2 (refine ord_pure rfl rfl rfl (fun K' hK => ?_); go_big_quiet_op; refine hK _ ?_; clear hK K')
                      refine ord_nil ?_
                      clear hpv
                      go_wp2_with fail
                      first | refine ⟨⟨_, _, ?rel, rfl, rfl⟩, ?measure⟩ | go_roundw
                      case rel => unfold Rin2; exact ⟨k + 1, by omega, by go_num, by rw [HS2.out]; rfl, hS5⟩
                      case measure => simp [intOf]; omega
                  · obtain rfl : k = l.length := by omega
                    rw [List.take_length, HF.out]
                    go_wp2_with fail
                    go_roundw
                    case rel => exact ⟨j + 1, by omega, by go_num, hS3⟩
                    case measure => simp [intOf]; omega
              · obtain rfl : j = F.length := by omega
                go_wp2_with fail
                refine (awake_any _).mono ?_
                rintro e w2 ⟨rfl, hb2⟩
                have hS4 := hS2.below_ hb2
                have hn0 : w2.cell? (a1.add 0) = some (.string name) := by
                  obtain ⟨a', c', hv, hcn⟩ := (f2.below hS4.below).elem (nthS_get hN1)
                  cases hv; rw [← HN0.out]; exact hcn
                have hn0' : w2.cell? a1 = some (.string name) := by simpa [Addr.add] using hn0
                have hss : (name.toList == name.toList) = true := isrefl _
                have hN16 : (N.length : Int) ≤ 16 := by omega
                go_wp2_with fail
                go_ret
                exact ⟨rfl, (hS1.below_ hS4.below).below⟩
end Go.Proofs.Ytepaanpdjadakaa
