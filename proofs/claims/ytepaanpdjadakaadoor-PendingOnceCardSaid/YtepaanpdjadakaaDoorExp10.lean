import Derived.Test.YtepaanpdjadakaaDoorExp9
/-! The queue's Push, Move, Cancel, At, Next. -/
namespace Go.Proofs.YtepaanpdjadakaaDoor
open Go Go.RowKit

def pushC (room : Nat) (S : List Ent) (id : Int) : Int := if hasId S id then 19 else if room ≤ S.length then 18 else 0
def pushS (room : Nat) (S : List Ent) (id a : Int) : List Ent := if hasId S id then S else if room ≤ S.length then S else S ++ [⟨id, a⟩]
section
variable {B : Nat} {w0 w w' : World} {F : HP} {p q room : Nat} {L S : List Ent}
set_option maxRecDepth 8000 in
set_option maxHeartbeats 2000000 in
theorem qPush_any (h : Sat B w0 w (queue q room S ⋆ F)) (hE : Et w) (id a : Int) : Calls Tryd.prog 22 #[.pointer (some ⟨q, 0, none⟩), .int .i64 id, .int .u64 a] w fun e w' =>
    e = .returned (errV (pushC room S id)) ∧ Sat B w0 w' (queue q room (pushS room S id a) ⋆ F) := by
  obtain ⟨p, L, h1, h2, h3, h4, hS⟩ := h.queue_open
  have hhas := hasId_perm h2 id
  cases hid : hasId L id
  · rw [hid] at hhas
    have c1 := place_no hS hid
    have c2 := eis_any 20 2 (by decide) w
    have c3 := code_any 20 w hE
    have hpc : pushC room S id = if room ≤ S.length then 18 else 0 := by unfold pushC; rw [← hhas]; rfl
    have hps : pushS room S id a = if room ≤ S.length then S else S ++ [⟨id, a⟩] := by unfold pushS; rw [← hhas]; rfl
    by_cases hfull : room ≤ S.length
    · rw [hpc, hps, if_pos hfull, if_pos hfull]
      have hfi : (room : Int) ≤ S.length := by omega
      have HID := Lib.hid hid
      clear hhas hpc hps hfull hid
      go_enter Tryd.func22, Tryd.ntmps22
      go_wp2_with fail
      refine c1.mono ?_
      rintro e w1 ⟨rfl, rfl⟩
      go_wp2_with fail
      refine c2.mono ?_
      rintro e w1 ⟨rfl, rfl⟩
      go_wp2_with fail
      refine c3.mono ?_
      rintro e w2 ⟨rfl, hb2⟩
      have hS2 := (hS.below_ hb2).drew
      clear c1 c2 c3 hS h hE
      go_wp2_with fail
      try go_frame
      refine wp_region_ord [(0, .pure), (2, .pure), (3, .pure), (4, .pure), (5, .quiet), (1, .acts), (6, .pure), (7, .pure)] (by kernel_rfl) (by kernel_rfl)
        (fun w' => Sat B w0 w' (blk q (.cells #[.pointer (some ⟨p, 0, none⟩), .int .i64 room] 146) ⋆ pile p L ⋆ F)) hS2 ?_
      iterate 4 (refine ord_pure rfl rfl rfl (fun K' hK => ?_); go_big_quiet_op; refine hK _ ?_; clear hK K')
      refine ord_load (t := 3) rfl rfl rfl (p := .pointer (some ⟨q, 1, none⟩)) (v := .int .i64 room) rfl (fun w' hC => run_loadAt_one hC.heap Tryd.underlying3 rfl rfl) (fun K' hK => ?_)
      go_simp
      refine hK _ ?_
      clear hK K'
      refine ord_acts rfl rfl (fun K' hK => ?_)
      go_simp
      refine (qLen_any (Sat.queue_shut h1 h2 h3 h4 hS2)).mono ?_
      rintro e w3 ⟨rfl, rfl⟩
      refine hK _ _ hS2 ?_
      clear hK K'
      go_simp
      iterate 2 (refine ord_pure rfl rfl rfl (fun K' hK => ?_); go_big_quiet_op; refine hK _ ?_; clear hK K')
      refine ord_nil ?_
      go_wp2_with fail
      go_ret
      exact ⟨rfl, Sat.queue_shut h1 h2 h3 h4 hS2⟩
    · rw [hpc, hps, if_neg hfull, if_neg hfull]
      have hfi : (S.length : Int) < room := by omega
      have hlen := h2.length_eq
      have hnid : ∀ i, i < L.length → (Hp.g L i).id ≠ (⟨id, a⟩ : Ent).id := by
        intro i hi e
        unfold hasId at hid
        rw [List.any_eq_false] at hid
        exact hid _ (g_mem hi) (by simpa using e)
      have HN := Lib.hid hnid
      have HF := Lib.hid hfull
      have HLE := Lib.hid hlen
      clear hhas hpc hps hfull hid hnid hlen
      go_enter Tryd.func22, Tryd.ntmps22
      go_wp2_with fail
      refine c1.mono ?_
      rintro e w1 ⟨rfl, rfl⟩
      go_wp2_with fail
      refine c2.mono ?_
      rintro e w1 ⟨rfl, rfl⟩
      go_wp2_with fail
      refine c3.mono ?_
      rintro e w2 ⟨rfl, hb2⟩
      have hS2 := (hS.below_ hb2).drew
      clear c1 c2 c3 hS h hE
      go_wp2_with fail
      try go_frame
      refine wp_region_ord [(0, .pure), (2, .pure), (3, .pure), (4, .pure), (5, .quiet), (1, .acts), (6, .pure), (7, .pure)] (by kernel_rfl) (by kernel_rfl)
        (fun w' => Sat B w0 w' (blk q (.cells #[.pointer (some ⟨p, 0, none⟩), .int .i64 room] 146) ⋆ pile p L ⋆ F)) hS2 ?_
      iterate 4 (refine ord_pure rfl rfl rfl (fun K' hK => ?_); go_big_quiet_op; refine hK _ ?_; clear hK K')
      refine ord_load (t := 3) rfl rfl rfl (p := .pointer (some ⟨q, 1, none⟩)) (v := .int .i64 room) rfl (fun w' hC => run_loadAt_one hC.heap Tryd.underlying3 rfl rfl) (fun K' hK => ?_)
      go_simp
      refine hK _ ?_
      clear hK K'
      refine ord_acts rfl rfl (fun K' hK => ?_)
      go_simp
      refine (qLen_any (Sat.queue_shut h1 h2 h3 h4 hS2)).mono ?_
      rintro e w3 ⟨rfl, rfl⟩
      refine hK _ _ hS2 ?_
      clear hK K'
      go_simp
      iterate 2 (refine ord_pure rfl rfl rfl (fun K' hK => ?_); go_big_quiet_op; refine hK _ ?_; clear hK K')
      refine ord_nil ?_
      have d1 : w2.drew.cell? ⟨q, 0, none⟩ = some (.pointer (some ⟨p, 0, none⟩)) := by simp only [World.cell?, hS2.heap]; rfl
      have c4 := hPush_any hS2.pull2 ⟨id, a⟩ (by rw [HLE.out]; omega) HN.out
      simp only [Ent.enc] at c4
      generalize w2.drew = W at *
      go_wp2_with fail
      refine c4.mono ?_
      rintro e w3 ⟨rfl, hS3⟩
      clear c4 hS2 d1
      obtain ⟨k1, k2⟩ := h1.push ⟨id, a⟩
      go_wp2_with fail
      go_ret
      refine ⟨rfl, Sat.queue_shut (L := Hp.up L.length (L ++ [⟨id, a⟩]) L.length) (p := p) ?_ (k2.trans (h2.append_right _)) ?_ h4 hS3.pull2⟩
      · rw [up_length, List.length_append, List.length_singleton]; exact k1
      · rw [List.length_append, List.length_singleton]; have := HF.out; omega
  · rw [hid] at hhas
    have hpc : pushC room S id = 19 := by unfold pushC; rw [← hhas]; rfl
    have hps : pushS room S id a = S := by unfold pushS; rw [← hhas]; rfl
    rw [hpc, hps]
    obtain ⟨i, hi, rfl⟩ := hasId_g hid
    have c1 := place_yes hS hi
    have c2 := eis_any 0 2 (by decide) w
    have c3 := code_any 0 w hE
    generalize (Hp.g L i).id = id at *
    clear hhas hpc hps hid hi h1 h2 h3 h4 hS
    go_enter Tryd.func22, Tryd.ntmps22
    go_wp2_with fail
    refine c1.mono ?_
    rintro e w1 ⟨rfl, rfl⟩
    go_wp2_with fail
    refine c2.mono ?_
    rintro e w1 ⟨rfl, rfl⟩
    go_wp2_with fail
    refine c3.mono ?_
    rintro e w2 ⟨rfl, hb2⟩
    go_wp2_with fail
    go_ret
    exact ⟨rfl, h.below_ hb2⟩
theorem qPush_nil (id a : Int) (w : World) : Calls Tryd.prog 22 #[.pointer none, .int .i64 id, .int .u64 a] w fun e w' => e = .returned (errV 2) ∧ w' = w := by
  go_enter Tryd.func22, Tryd.ntmps22
  go_wp2_with fail
  refine (place_nil id w).mono ?_
  rintro e w1 ⟨rfl, rfl⟩
  go_wp2_with fail
  refine (eis_any 2 2 (by decide) _).mono ?_
  rintro e w1 ⟨rfl, rfl⟩
  go_wp2_with fail
  go_ret
  exact ⟨rfl, rfl⟩
end
end Go.Proofs.YtepaanpdjadakaaDoor
