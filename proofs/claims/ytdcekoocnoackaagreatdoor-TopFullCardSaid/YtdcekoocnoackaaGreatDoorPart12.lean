import Derived.Test.YtdcekoocnoackaaGreatDoorPart11
import Derived.Test.YtdcekoocnoackaaGreatDoorPart05
import Derived.Test.YtdcekoocnoackaaGreatDoorPart06
import Derived.ProofKit
import Derived.OpenShut
import Derived.ChangeArms
import Derived.Deep.Slices

/-! The queue's Push, Move, Cancel, At, Next. -/
namespace Go.Proofs.YtdcekoocnoackaaGreatDoor
open Go Go.RowKit

def pushC (room : Nat) (S : List Ent) (id : Int) : Int := if hasId S id then 19 else if room ≤ S.length then 18 else 0
def pushS (room : Nat) (S : List Ent) (id a : Int) : List Ent := if hasId S id then S else if room ≤ S.length then S else S ++ [⟨id, a⟩]
section
variable {B : Nat} {w0 w w' : World} {F : HP} {p q room : Nat} {L S : List Ent}
set_option maxRecDepth 8000 in
set_option maxHeartbeats 2000000 in
theorem qPush_any (h : Sat B w0 w (queue q room S • F)) (hE : Et w) (id a : Int) : Calls Tryz.prog 226 #[.pointer (some ⟨q, 0, none⟩), .int .i64 id, .int .u64 a] w fun e w' =>
    e = .returned (errV (pushC room S id)) ∧ Sat B w0 w' (queue q room (pushS room S id a) • F) := by
  obtain ⟨p, L, h1, h2, h3, h4, hS⟩ := h.queue_open
  have hhas := hasId_perm h2 id
  cases hid : hasId L id
  · rw [hid] at hhas
    have c1 := place_no hS hid
    have c2 := eis_any 20 2 (by decide) w
    have c3 := code_any 20 w hE
    have hpc : pushC room S id = if room ≤ S.length then 18 else 0 := by unfold pushC; rw [← hhas]; rfl
    have hps : pushS room S id a = if room ≤ S.length then S else S ++ [⟨id, a⟩] := by unfold pushS; rw [← hhas]; rfl
    by_cases hfull : room ≤ S.length
    · rw [hpc, hps, if_pos hfull, if_pos hfull]
      have hfi : (room : Int) ≤ S.length := by omega
      have HID := Lib.hid hid
      clear hhas hpc hps hfull hid
      go_enter Tryz.func226, Tryz.ntmps226
      go_wp2_with fail
      refine c1.mono ?_
      rintro e w1 ⟨rfl, rfl⟩
      go_wp2_with fail
      refine c2.mono ?_
      rintro e w1 ⟨rfl, rfl⟩
      go_wp2_with fail
      refine c3.mono ?_
      rintro e w2 ⟨rfl, hb2⟩
      have hS2 := (hS.below_ hb2).drew
      clear c1 c2 c3 hS h hE
      go_wp2_with fail
      try go_frame
      refine wp_region_ord [(0, .pure), (2, .pure), (3, .pure), (4, .pure), (5, .quiet), (1, .acts), (6, .pure), (7, .pure)] (by kernel_rfl) (by kernel_rfl)
        (fun w' => Sat B w0 w' (blk q (.cells #[.pointer (some ⟨p, 0, none⟩), .int .i64 room] 200) • pile p L • F)) hS2 ?_
      iterate 4 (refine ord_pure rfl rfl rfl (fun K' hK => ?_); go_big_quiet_op; refine hK _ ?_; clear hK K')
      refine ord_load (t := 3) rfl rfl rfl (p := .pointer (some ⟨q, 1, none⟩)) (v := .int .i64 room) rfl (fun w' hC => run_loadAt_one hC.heap Tryz.underlying3 rfl rfl) (fun K' hK => ?_)
      go_simp
      refine hK _ ?_
      clear hK K'
      refine ord_acts rfl rfl (fun K' hK => ?_)
      go_simp
      refine (qLen_any (Sat.queue_shut h1 h2 h3 h4 hS2)).mono ?_
      rintro e w3 ⟨rfl, rfl⟩
      refine hK _ _ hS2 ?_
      clear hK K'
      go_simp
      iterate 2 (refine ord_pure rfl rfl rfl (fun K' hK => ?_); go_big_quiet_op; refine hK _ ?_; clear hK K')
      refine ord_nil ?_
      go_wp2_with fail
      go_ret
      exact ⟨rfl, Sat.queue_shut h1 h2 h3 h4 hS2⟩
    · rw [hpc, hps, if_neg hfull, if_neg hfull]
      have hfi : (S.length : Int) < room := by omega
      have hlen := h2.length_eq
      have hnid : ∀ i, i < L.length → (Hp.g L i).id ≠ (⟨id, a⟩ : Ent).id := by
        intro i hi e
        unfold hasId at hid
        rw [List.any_eq_false] at hid
        exact hid _ (g_mem hi) (by simpa using e)
      have HN := Lib.hid hnid
      have HF := Lib.hid hfull
      have HLE := Lib.hid hlen
      clear hhas hpc hps hfull hid hnid hlen
      go_enter Tryz.func226, Tryz.ntmps226
      go_wp2_with fail
      refine c1.mono ?_
      rintro e w1 ⟨rfl, rfl⟩
      go_wp2_with fail
      refine c2.mono ?_
      rintro e w1 ⟨rfl, rfl⟩
      go_wp2_with fail
      refine c3.mono ?_
      rintro e w2 ⟨rfl, hb2⟩
      have hS2 := (hS.below_ hb2).drew
      clear c1 c2 c3 hS h hE
      go_wp2_with fail
      try go_frame
      refine wp_region_ord [(0, .pure), (2, .pure), (3, .pure), (4, .pure), (5, .quiet), (1, .acts), (6, .pure), (7, .pure)] (by kernel_rfl) (by kernel_rfl)
        (fun w' => Sat B w0 w' (blk q (.cells #[.pointer (some ⟨p, 0, none⟩), .int .i64 room] 200) • pile p L • F)) hS2 ?_
      iterate 4 (refine ord_pure rfl rfl rfl (fun K' hK => ?_); go_big_quiet_op; refine hK _ ?_; clear hK K')
      refine ord_load (t := 3) rfl rfl rfl (p := .pointer (some ⟨q, 1, none⟩)) (v := .int .i64 room) rfl (fun w' hC => run_loadAt_one hC.heap Tryz.underlying3 rfl rfl) (fun K' hK => ?_)
      go_simp
      refine hK _ ?_
      clear hK K'
      refine ord_acts rfl rfl (fun K' hK => ?_)
      go_simp
      refine (qLen_any (Sat.queue_shut h1 h2 h3 h4 hS2)).mono ?_
      rintro e w3 ⟨rfl, rfl⟩
      refine hK _ _ hS2 ?_
      clear hK K'
      go_simp
      iterate 2 (refine ord_pure rfl rfl rfl (fun K' hK => ?_); go_big_quiet_op; refine hK _ ?_; clear hK K')
      refine ord_nil ?_
      have d1 : w2.drew.cell? ⟨q, 0, none⟩ = some (.pointer (some ⟨p, 0, none⟩)) := by simp only [World.cell?, hS2.heap]; rfl
      have c4 := hPush_any hS2.pull2 ⟨id, a⟩ (by rw [HLE.out]; omega) HN.out
      simp only [Ent.enc] at c4
      generalize w2.drew = W at *
      go_wp2_with fail
      refine c4.mono ?_
      rintro e w3 ⟨rfl, hS3⟩
      clear c4 hS2 d1
      obtain ⟨k1, k2⟩ := h1.push ⟨id, a⟩
      go_wp2_with fail
      go_ret
      refine ⟨rfl, Sat.queue_shut (L := Hp.up L.length (L ++ [⟨id, a⟩]) L.length) (p := p) ?_ (k2.trans (h2.append_right _)) ?_ h4 hS3.pull2⟩
      · rw [up_length, List.length_append, List.length_singleton]; exact k1
      · rw [List.length_append, List.length_singleton]; have := HF.out; omega
  · rw [hid] at hhas
    have hpc : pushC room S id = 19 := by unfold pushC; rw [← hhas]; rfl
    have hps : pushS room S id a = S := by unfold pushS; rw [← hhas]; rfl
    rw [hpc, hps]
    obtain ⟨i, hi, rfl⟩ := hasId_g hid
    have c1 := place_yes hS hi
    have c2 := eis_any 0 2 (by decide) w
    have c3 := code_any 0 w hE
    generalize (Hp.g L i).id = id at *
    clear hhas hpc hps hid hi h1 h2 h3 h4 hS
    go_enter Tryz.func226, Tryz.ntmps226
    go_wp2_with fail
    refine c1.mono ?_
    rintro e w1 ⟨rfl, rfl⟩
    go_wp2_with fail
    refine c2.mono ?_
    rintro e w1 ⟨rfl, rfl⟩
    go_wp2_with fail
    refine c3.mono ?_
    rintro e w2 ⟨rfl, hb2⟩
    go_wp2_with fail
    go_ret
    exact ⟨rfl, h.below_ hb2⟩
end
end Go.Proofs.YtdcekoocnoackaaGreatDoor

/-! The queue's Move, Cancel, At, Next. -/
namespace Go.Proofs.YtdcekoocnoackaaGreatDoor
open Go Go.RowKit

def noneC (S : List Ent) (id : Int) : Int := if hasId S id then 0 else 20
section
variable {B : Nat} {w0 w w' : World} {F : HP} {p q room : Nat} {L S : List Ent}
theorem noneC_yes {S : List Ent} {id : Int} (h : hasId S id = true) : noneC S id = 0 := by unfold noneC; rw [h]; rfl
theorem noneC_no {S : List Ent} {id : Int} (h : hasId S id = false) : noneC S id = 20 := by unfold noneC; rw [h]; rfl
theorem withDue_no {S : List Ent} {id a : Int} (h : hasId S id = false) : withDue S id a = S := by
  unfold withDue
  have : ∀ e ∈ S, (if e.id = id then (⟨id, a⟩ : Ent) else e) = e := by
    intro e he
    unfold hasId at h
    rw [List.any_eq_false] at h
    rw [if_neg]
    intro h2
    exact h e he (by simpa using h2)
  rw [List.map_congr_left this]
  simp
theorem without_no {S : List Ent} {id : Int} (h : hasId S id = false) : without S id = S := by
  unfold without
  rw [List.filter_eq_self]
  intro e he
  unfold hasId at h
  rw [List.any_eq_false] at h
  rw [bne_iff_ne]
  intro h2
  exact h e he (by simpa using h2)
theorem setAt_enc (e : Ent) (a : Int) (cur : Array Value) (i : Nat) (hc : cur.toList.take (L.length * 2) = L.flatMap Ent.enc) (hle : L.length * 2 ≤ cur.size) (hi : i < L.length) (he : Hp.g L i = e) :
    splice cur (i * 2 + 1) [.int .u64 a] = splice cur (i * 2) (Ent.enc ⟨e.id, a⟩) := by
  have h0 : cur[i * 2]? = some (.int .i64 e.id) := by
    have := cur_at Ent.enc_length hc (g_get hi) 0 _ rfl
    rw [he] at this
    simpa using this
  apply Array.ext_getElem?
  intro j
  rw [splice_get (by simp; omega), splice_get (by rw [Ent.enc_length]; omega)]
  have el := Ent.enc_length ⟨e.id, a⟩
  have x0 : (Ent.enc ⟨e.id, a⟩)[0]? = some (.int .i64 e.id) := rfl
  have x1 : (Ent.enc ⟨e.id, a⟩)[1]? = some (.int .u64 a) := rfl
  have y0 : ([.int .u64 a] : List Value)[0]? = some (.int .u64 a) := rfl
  have yl : ([.int .u64 a] : List Value).length = 1 := rfl
  generalize Ent.enc ⟨e.id, a⟩ = E at *
  generalize ([.int .u64 a] : List Value) = E1 at *
  rw [el, yl]
  by_cases h1 : j < i * 2
  · rw [if_pos (by omega), if_pos h1]
  · by_cases h2 : j = i * 2
    · subst h2
      rw [if_pos (by omega), if_neg h1, if_pos (by omega), h0, Nat.sub_self, x0]
    · by_cases h3 : j = i * 2 + 1
      · subst h3
        rw [if_neg (by omega), if_pos (by omega), if_neg h1, if_pos (by omega), Nat.sub_self, y0, show i * 2 + 1 - i * 2 = 1 by omega, x1]
      · rw [if_neg (by omega), if_neg (by omega), if_neg h1, if_neg (by omega)]
set_option maxRecDepth 8000 in
set_option maxHeartbeats 2000000 in
theorem qMove_any (h : Sat B w0 w (queue q room S • F)) (id a : Int) : Calls Tryz.prog 229 #[.pointer (some ⟨q, 0, none⟩), .int .i64 id, .int .u64 a] w fun e w' =>
    e = .returned (errV (noneC S id)) ∧ Sat B w0 w' (queue q room (withDue S id a) • F) := by
  obtain ⟨p, L, h1, h2, h3, h4, hS⟩ := h.queue_open
  have hhas := hasId_perm h2 id
  have e0 : errV 0 = .nilIface := rfl
  have e20 : errV 20 = .iface 58 (.int .i64 20) := rfl
  cases hid : hasId L id
  · rw [hid] at hhas
    rw [noneC_no hhas.symm, withDue_no hhas.symm]
    have c1 := place_no hS hid
    rw [e20] at c1
    clear hhas hid h1 h2 h3 h4 hS
    go_enter Tryz.func229, Tryz.ntmps229
    go_wp2_with fail
    refine c1.mono ?_
    rintro e w1 ⟨rfl, rfl⟩
    go_wp2_with fail
    go_ret
    exact ⟨rfl, h⟩
  · rw [hid] at hhas
    rw [noneC_yes hhas.symm]
    obtain ⟨i, hi, rfl⟩ := hasId_g hid
    have c1 := place_yes hS hi
    rw [e0] at c1
    obtain ⟨f, hf⟩ := hS.pull2.pile_idx
    have hlen := h2.length_eq
    have hset := withDue_set hf hi a
    obtain ⟨g, cap, cur, mb, f', hf', r1, r2, r3, r4, hR⟩ := hS.pull2.pile_row (by omega)
    have d1 : w.cell? ⟨q, 0, none⟩ = some (.pointer (some ⟨p, 0, none⟩)) := by simp [World.cell?, hS.heap]
    have d2 : w.cell? ⟨p, 0, none⟩ = some (.slice (some ⟨g, 0, none⟩) L.length cap) := by simp [World.cell?, hR.heap]
    have hmx : L.length ≤ 9223372036854775807 := by omega
    have hsp := setAt_enc (Hp.g L i) a cur i r4 (by omega) hi rfl
    have hst := run_storeAt_row (P := Tryz.prog) (o := i * 2 + 1) (ty := 49) (v := .int .u64 a) hR.pull2.heap (by kernel_rfl) (by simp only [Value.cells, List.size_toArray, List.length_cons, List.length_nil]; omega) (by simp [Value.cells, Value.oneCell'])
    rw [show (Value.int .u64 a).cells.toList = [.int .u64 a] from rfl, hsp] at hst
    have hR2 := (hR.pull2.setRow (cs := splice cur (i * 2) (Ent.enc ⟨(Hp.g L i).id, a⟩))).pull2
    have t1 := take_splice_set (L := L) (cur := cur) Ent.enc_length (by decide) r4 rfl (by omega) hi (⟨(Hp.g L i).id, a⟩ : Ent)
    have z1 : (splice cur (i * 2) (Ent.enc ⟨(Hp.g L i).id, a⟩)).size = cur.size := splice_size (by rw [Ent.enc_length]; omega)
    have hP := Sat.pile_row_shut (L := L.set i ⟨(Hp.g L i).id, a⟩) (hf'.set hi rfl) (by rw [List.length_set]; exact r1) r2 (by rw [z1]; exact r3) (by rw [List.length_set]; exact t1) (by rw [List.length_set]; exact hR2)
    have c2 := hFix_any hP (i := i) (by rw [List.length_set]; exact hi) (by rw [List.length_set]; omega)
    rw [List.length_set] at c2
    obtain ⟨k1, k2, _⟩ := h1.fix_set hi (Nat.le_refl _) (⟨(Hp.g L i).id, a⟩ : Ent)
    have k3 : (Hp.fix (L.set i ⟨(Hp.g L i).id, a⟩) i L.length).length = L.length := by rw [fix_length, List.length_set]
    have K1 := Lib.hid k1
    have K2 := Lib.hid (k2.trans (hset ▸ withDue_perm h2 (Hp.g L i).id a))
    have K3 := Lib.hid k3
    have d3 : (w.setRow g (splice cur (i * 2) (Ent.enc ⟨(Hp.g L i).id, a⟩))).cell? ⟨q, 0, none⟩ = some (.pointer (some ⟨p, 0, none⟩)) := by
      have := hP.pull2.heap
      simp only [World.cell?, this]; rfl
    clear hP hR2 t1 z1 hR r4 r3 r1 hf hf' hset hhas hid h hS k1 k2 k3 hsp
    generalize (Hp.g L i).id = id at *
    generalize splice cur (i * 2) (Ent.enc ⟨id, a⟩) = cur2 at *
    generalize Hp.fix (L.set i ⟨id, a⟩) i L.length = L2 at *
    generalize hWW : w.setRow g cur2 = W at *
    have HW := Lib.hid hWW
    clear hWW
    go_enter Tryz.func229, Tryz.ntmps229
    go_wp2_with fail
    refine c1.mono ?_
    rintro e w1 ⟨rfl, rfl⟩
    clear c1
    go_wp2_with (refine wpList_store_run (t := 49) rfl rfl rfl rfl hst ?_)
    refine c2.mono ?_
    rintro e w3 ⟨rfl, hS3⟩
    clear c2
    go_wp2_with fail
    go_ret
    exact ⟨rfl, Sat.queue_shut (by rw [K3.out]; exact K1.out) K2.out (by rw [withDue_length]; exact h3) h4 hS3.pull2⟩
end
end Go.Proofs.YtdcekoocnoackaaGreatDoor

/-! The queue's Cancel, At, Next. -/
namespace Go.Proofs.YtdcekoocnoackaaGreatDoor
open Go Go.RowKit

def nextV (S : List Ent) : Value := match minE S with
  | some m => .tuple #[.agg m.enc.toArray, .bool true]
  | none => .tuple #[.agg (Ent.enc ⟨0, 0⟩).toArray, .bool false]
section
variable {B : Nat} {w0 w w' : World} {F : HP} {p q room : Nat} {L S : List Ent}
set_option maxRecDepth 8000 in
set_option maxHeartbeats 2000000 in
theorem qCancel_any (h : Sat B w0 w (queue q room S • F)) (id : Int) : Calls Tryz.prog 169 #[.pointer (some ⟨q, 0, none⟩), .int .i64 id] w fun e w' =>
    e = .returned (errV (noneC S id)) ∧ Sat B w0 w' (queue q room (without S id) • F) := by
  obtain ⟨p, L, h1, h2, h3, h4, hS⟩ := h.queue_open
  have hhas := hasId_perm h2 id
  have e0 : errV 0 = .nilIface := rfl
  have e20 : errV 20 = .iface 58 (.int .i64 20) := rfl
  cases hid : hasId L id
  · rw [hid] at hhas
    rw [noneC_no hhas.symm, without_no hhas.symm]
    have c1 := place_no hS hid
    rw [e20] at c1
    clear hhas hid h1 h2 h3 h4 hS
    go_enter Tryz.func169, Tryz.ntmps169
    go_wp2_with fail
    refine c1.mono ?_
    rintro e w1 ⟨rfl, rfl⟩
    go_wp2_with fail
    go_ret
    exact ⟨rfl, h⟩
  · rw [hid] at hhas
    rw [noneC_yes hhas.symm]
    obtain ⟨i, hi, rfl⟩ := hasId_g hid
    have c1 := place_yes hS hi
    rw [e0] at c1
    obtain ⟨f, hf⟩ := hS.pull2.pile_idx
    have hlen := h2.length_eq
    have c2 := hRemove_any hS.pull2 hi (by omega)
    obtain ⟨k1, k2, k3⟩ := h1.remove hi
    have k4 := (without_of hf.nd k3).trans (without_perm h2 _)
    have d1 : w.cell? ⟨q, 0, none⟩ = some (.pointer (some ⟨p, 0, none⟩)) := by simp [World.cell?, hS.heap]
    have K1 := Lib.hid k1
    have K2 := Lib.hid k2
    have K4 := Lib.hid k4
    have hlw := without_length S (Hp.g L i).id
    generalize (Hp.g L i).id = id at *
    generalize Hp.remove L i = L2 at *
    clear hf hhas hid h hS k1 k2 k3 k4 hlen hi
    go_enter Tryz.func169, Tryz.ntmps169
    go_wp2_with fail
    refine c1.mono ?_
    rintro e w1 ⟨rfl, rfl⟩
    clear c1
    go_wp2_with fail
    refine c2.mono ?_
    rintro e w3 ⟨⟨x, rfl⟩, hS3⟩
    clear c2
    go_wp2_with fail
    go_ret
    exact ⟨rfl, Sat.queue_shut (by rw [K2.out]; exact K1.out) K4.out (by omega) h4 hS3.pull2⟩
end
end Go.Proofs.YtdcekoocnoackaaGreatDoor

/-! The queue's Due. -/
namespace Go.Proofs.YtdcekoocnoackaaGreatDoor
open Go Go.RowKit

def lenV : Value → Nat
  | .slice _ n _ => n
  | _ => 0
section
variable {B : Nat} {w0 w w' : World} {F : HP} {p q room : Nat} {L S : List Ent}
end
end Go.Proofs.YtdcekoocnoackaaGreatDoor

/-! Places in lists, in plain words. -/
namespace Go.Proofs.YtdcekoocnoackaaGreatDoor

section
variable {α β : Type} {f : α → Bool} {l : List α} {k : Nat} {x : α}
/-- The first place of which something is so; -1: none. -/
def plc (f : α → Bool) (l : List α) : Int := match l.findIdx? f with
  | some i => (i : Int)
  | none => -1
theorem plc_hit (h : l[k]? = some x) (hf : f x = true) (hn : ∀ j y, j < k → l[j]? = some y → f y = false) : plc f l = k := by
  obtain ⟨h1, h2⟩ := List.getElem?_eq_some_iff.1 h
  have : l.findIdx? f = some k := by
    rw [List.findIdx?_eq_some_iff_getElem]
    refine ⟨h1, by rw [h2]; exact hf, fun j hj => ?_⟩
    have := hn j l[j] hj (List.getElem?_eq_getElem _)
    simp [this]
  unfold plc
  rw [this]
theorem plc_miss (hn : ∀ x ∈ l, f x = false) : plc f l = -1 := by
  have : l.findIdx? f = none := by
    rw [List.findIdx?_eq_none_iff]; exact hn
  unfold plc
  rw [this]
theorem plc_cases (f : α → Bool) (l : List α) : (plc f l = -1 ∧ ∀ x ∈ l, f x = false) ∨ ∃ (k : Nat) (x : α), l[k]? = some x ∧ f x = true ∧ plc f l = k ∧ ∀ j y, j < k → l[j]? = some y → f y = false := by
  unfold plc
  cases h : l.findIdx? f with
  | none =>
    rw [List.findIdx?_eq_none_iff] at h
    exact .inl ⟨rfl, h⟩
  | some i =>
    rw [List.findIdx?_eq_some_iff_getElem] at h
    obtain ⟨h1, h2, h3⟩ := h
    refine .inr ⟨i, l[i], List.getElem?_eq_getElem h1, h2, rfl, fun j y hj hy => ?_⟩
    obtain ⟨h4, rfl⟩ := List.getElem?_eq_some_iff.1 hy
    simpa using h3 j hj
theorem plc_done (hn : ∀ j y, j < k → l[j]? = some y → f y = false) (hk : l.length ≤ k) : plc f l = -1 :=
  plc_miss fun x hx => by
    obtain ⟨i, hi⟩ := List.mem_iff_getElem?.1 hx
    exact hn i x (by have := (List.getElem?_eq_some_iff.1 hi).1; omega) hi
theorem plc_next (hn : ∀ j y, j < k → l[j]? = some y → f y = false) (h : l[k]? = some x) (hf : f x = false) : ∀ j y, j < k + 1 → l[j]? = some y → f y = false := by
  intro j y hj hy
  by_cases e : j = k
  · subst e; rw [h] at hy; cases hy; exact hf
  · exact hn j y (by omega) hy
/-- One taken out, in a list where no two have one key. -/
theorem cut_filter [DecidableEq β] {key : α → β} (hn : (l.map key).Nodup) (h : l[k]? = some x) : l.take k ++ l.drop (k + 1) = l.filter fun y => !decide (key y = key x) := by
  obtain ⟨h1, h2⟩ := List.getElem?_eq_some_iff.1 h
  have hs : l = l.take k ++ x :: l.drop (k + 1) := by
    conv => lhs; rw [← List.take_append_drop k l, List.drop_eq_getElem_cons h1, h2]
  have hn' := hn
  rw [hs] at hn'
  rw [List.map_append, List.map_cons, List.nodup_append] at hn'
  obtain ⟨a1, a2, a3⟩ := hn'
  rw [List.nodup_cons] at a2
  have h3 : (l.take k ++ x :: l.drop (k + 1)).filter (fun y => !decide (key y = key x)) = l.take k ++ l.drop (k + 1) := by
    rw [List.filter_append, List.filter_cons]
    simp only [decide_true, Bool.not_true, Bool.false_eq_true, if_false]
    congr 1
    · rw [List.filter_eq_self]
      intro y hy
      have := a3 (key y) (List.mem_map.2 ⟨y, hy, rfl⟩) (key x) (by simp)
      simp [this]
    · rw [List.filter_eq_self]
      intro y hy
      have : key y ≠ key x := fun e => a2.1 (by rw [← e]; exact List.mem_map.2 ⟨y, hy, rfl⟩)
      simp [this]
  rw [← h3, ← hs]
end
end Go.Proofs.YtdcekoocnoackaaGreatDoor

/-! Slices of things that came in. -/
namespace Go.Proofs.YtdcekoocnoackaaGreatDoor
open Go Go.RowKit Go.Deep

/-- A slice that came in, of things of a kind. -/
def RowsAt {α : Type} (e : α → List Value) (w : World) (v : Value) (l : List α) : Prop := Reads w v l.length (l.flatMap e) ∧ l.length ≤ maxLen
theorem RowsAt.below {α : Type} {e : α → List Value} {w w' : World} {v : Value} {l : List α} (h : RowsAt e w v l) (hb : Below w.heap.size w w') : RowsAt e w' v l := ⟨h.1.below hb, h.2⟩
theorem RowsAt.elem {α : Type} {e : α → List Value} {sz : Nat} (hsz : ∀ x, (e x).length = sz) {w : World} {v : Value} {l : List α} (h : RowsAt e w v l) {i : Nat} {x : α} (hi : l[i]? = some x) :
    ∃ a c, v = .slice (some a) l.length c ∧ ∀ W, Below w.heap.size w W → ∀ j u, (e x)[j]? = some u → W.cell? (a.add (i * sz + j)) = some u := by
  obtain ⟨a, c, hv, hc⟩ := h.1.elem hsz hi
  exact ⟨a, c, hv, fun W hb j u hu => by
    have := hc j u hu
    rw [hb.cell (World.block_lt_of_cell? _ _ this)]; exact this⟩
def boolC (b : Bool) : List Value := [.bool b]
def intC (k : IntKind) (n : Int) : List Value := [.int k n]
abbrev boolC_sz : Nat := 1
section
variable {P : Program} {H : Type} {enc : TypeId × Value → H} {w : World} {base : Nat} {spare : Nat → Bool} {held : Bool} {fuel : Nat} {cs : List Value} {x : DataW H × List MemPlace}
end
end Go.Proofs.YtdcekoocnoackaaGreatDoor

/-! What is due, in plain words. -/
namespace Go.Proofs.YtdcekoocnoackaaGreatDoor

theorem Nd.without {S : List Ent} (h : Nd S) (id : Int) : Nd (without S id) := by
  unfold Nd YtdcekoocnoackaaGreatDoor.without at *
  exact (List.filter_sublist.map _).nodup h
/-- Entries pushed one behind the other, with numbers from 0 on. -/
def entsOf (zs : List Int) (k : Nat) : List Ent := (List.range k).map fun (i : Nat) => ⟨(i : Int), zs.getD i 0⟩
def cntOf (zs : List Int) (now : Int) (k : Nat) : Nat := (entsOf zs k).countP fun e => decide (e.due ≤ now)
end Go.Proofs.YtdcekoocnoackaaGreatDoor

/-! ExpiryMoves, in plain words. -/
namespace Go.Proofs.YtdcekoocnoackaaGreatDoor

section
variable (zs ts : List Int) (m : Nat) (gone : Nat → Bool) (n : Nat)
def endOf (j : Nat) : Int := if j < m then ts.getD j 0 else zs.getD j 0
def mvE (i j : Nat) : Option Ent := if j < i then (if gone j then none else some ⟨(j : Int), endOf zs ts m j⟩) else some ⟨(j : Int), zs.getD j 0⟩
def mvF (i j : Nat) : Option Ent := if j = i then some ⟨(j : Int), endOf zs ts m j⟩ else mvE zs ts m gone i j
/-- Ahead of round i; in it, behind the Move. -/
def mvS (i : Nat) : List Ent := (List.range n).filterMap (mvE zs ts m gone i)
def mvT (i : Nat) : List Ent := (List.range n).filterMap (mvF zs ts m gone i)
def leftOf (i : Nat) : Nat := ((List.range i).filter fun j => !gone j).length
def endsOf (i : Nat) : List Int := (List.range n).map fun j => if j < i then endOf zs ts m j else zs.getD j 0
variable {zs ts m gone n}
end
end Go.Proofs.YtdcekoocnoackaaGreatDoor

/-! More on slices of one's own; entries that a reference has. -/
namespace Go.Proofs.YtdcekoocnoackaaGreatDoor
open Go Go.RowKit

theorem load_one {P : Program} {w : World} {p : Addr} {ty : TypeId} {v : Value} {d : TypeDesc} (hu : P.underlying ty = some d) (hd : isRowD d = false) (h : w.cell? p = some v) : (Instr.loadAt ty (.pointer (some p))).run P w = .ok v w := by
  have hagg : (isAgg ty).run P w = .ok false w := by rw [run_isAgg hu, hd]
  simp only [Instr.loadAt, Instr.sureAddr, Sem.run_bind, Sem.run_pure, Result.andThen_ok, loadVar, hagg]
  simp [load, Sem.run, h]
theorem cell_heap {w : World} {g o : Nat} {cur : Array Value} {t : TypeId} {fr : Nat × Nat} {v : Value} (h : w.heap[g]? = some (.cells cur t fr)) (hv : cur[o]? = some v) : w.cell? ⟨g, o, none⟩ = some v := by
  simp only [World.cell?, h]; exact hv
section
variable {B : Nat} {w0 w w' : World} {F : HP} {α : Type} {enc : α → List Value} {sz c n : Nat} {l : List α} {A : Option Addr} {e : TypeId} {k : Nat} {x : α}
/-- The cells of an element. -/
theorem Sat.arr_at (hsz : ∀ x, (enc x).length = sz) (h : Sat B w0 w (arr e sz (.slice A n c) n (l.flatMap enc) • F)) (hn : l.length = n) (hk : l[k]? = some x) :
    ∃ g, A = some ⟨g, 0, none⟩ ∧ B ≤ g ∧ ∀ j u, (enc x)[j]? = some u → w.cell? ⟨g, k * sz + j, none⟩ = some u := by
  rcases h.arr_open with ⟨_, h0, _, _⟩ | ⟨g, cap, cur, hv, q1, q2, q3, q4, hSb⟩
  · have := (List.getElem?_eq_some_iff.1 hk).1; omega
  simp only [Value.slice.injEq] at hv
  obtain ⟨rfl, _, rfl⟩ := hv
  exact ⟨g, rfl, hSb.ge, fun j u hu => cell_heap hSb.heap (cur_at hsz q4 hk j u hu)⟩
end
/-- The place of an id. -/
def eplc (S : List Ent) (id : Int) : Int := plc (fun x => x.id == id) S
/-- The best of the first ones; -1: there are none. -/
def BestIs (S : List Ent) (k : Nat) (v : Int) : Prop := (k = 0 ∧ v = -1) ∨ ∃ m : Nat, m < k ∧ v = m ∧ ∀ j, j < k → (Hp.g S j).lt (Hp.g S m) = false
section
variable {B : Nat} {w0 w w' : World} {F : HP} {b : Nat} {n : Int} {S : List Ent} {v : Value}
end
end Go.Proofs.YtdcekoocnoackaaGreatDoor

/-! One cell is stored. -/
namespace Go.Proofs.YtdcekoocnoackaaGreatDoor
open Go Go.RowKit
section
variable {B : Nat} {w0 w w' : World} {F : HP}
theorem splice_oneS {cur : Array Value} {o : Nat} {u : Value} (h : o < cur.size) : splice cur o [u] = cur.setIfInBounds o u := by
  unfold splice
  apply Array.ext'
  simp only [Array.toList_setIfInBounds, List.length_cons, List.length_nil, Nat.zero_add]
  rw [List.set_eq_take_append_cons_drop, if_pos (by simpa using h)]
  simp
theorem one_storeS {x o : Nat} {cur : Array Value} {t ty : TypeId} {u : Value} (hS : Sat B w0 w (blk x (.cells cur t) • F)) (hi : (Tryz.prog.info? ty).map (·.size) = some 1) (ho : o < cur.size) (hu : u.oneCell' = true) (hc : u.cells = #[u]) :
    ∃ W, (Instr.storeAt ty (.pointer (some ⟨x, o, none⟩)) u).run Tryz.prog w = .ok () W ∧ Sat B w0 W (blk x (.cells (cur.setIfInBounds o u) t) • F) := by
  have hst := run_storeAt_row (P := Tryz.prog) (o := o) (ty := ty) (v := u) hS.heap (by rw [hi, hc]; rfl) (by rw [hc]; simp; omega) (by rw [hc]; simpa using hu)
  have hS2 := hS.setRow (cs := splice cur o u.cells.toList)
  refine ⟨_, hst, ?_⟩
  rw [hc] at hS2 ⊢
  rw [show (#[u] : Array Value).toList = [u] from rfl, splice_oneS ho] at hS2 ⊢
  exact hS2
end
end Go.Proofs.YtdcekoocnoackaaGreatDoor
