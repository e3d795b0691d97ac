import Derived.Test.YtepaanpdjadakaaDoorExp10
/-! The queue's Move, Cancel, At, Next. -/
namespace Go.Proofs.YtepaanpdjadakaaDoor
open Go Go.RowKit

def noneC (S : List Ent) (id : Int) : Int := if hasId S id then 0 else 20
section
variable {B : Nat} {w0 w w' : World} {F : HP} {p q room : Nat} {L S : List Ent}
theorem noneC_yes {S : List Ent} {id : Int} (h : hasId S id = true) : noneC S id = 0 := by unfold noneC; rw [h]; rfl
theorem noneC_no {S : List Ent} {id : Int} (h : hasId S id = false) : noneC S id = 20 := by unfold noneC; rw [h]; rfl
theorem withDue_no {S : List Ent} {id a : Int} (h : hasId S id = false) : withDue S id a = S := by
  unfold withDue
  have : ∀ e ∈ S, (if e.id = id then (⟨id, a⟩ : Ent) else e) = e := by
    intro e he
    unfold hasId at h
    rw [List.any_eq_false] at h
    rw [if_neg]
    intro h2
    exact h e he (by simpa using h2)
  rw [List.map_congr_left this]
  simp
theorem without_no {S : List Ent} {id : Int} (h : hasId S id = false) : without S id = S := by
  unfold without
  rw [List.filter_eq_self]
  intro e he
  unfold hasId at h
  rw [List.any_eq_false] at h
  rw [bne_iff_ne]
  intro h2
  exact h e he (by simpa using h2)
theorem setAt_enc (e : Ent) (a : Int) (cur : Array Value) (i : Nat) (hc : cur.toList.take (L.length * 2) = L.flatMap Ent.enc) (hle : L.length * 2 ≤ cur.size) (hi : i < L.length) (he : Hp.g L i = e) :
    splice cur (i * 2 + 1) [.int .u64 a] = splice cur (i * 2) (Ent.enc ⟨e.id, a⟩) := by
  have h0 : cur[i * 2]? = some (.int .i64 e.id) := by
    have := cur_at Ent.enc_length hc (g_get hi) 0 _ rfl
    rw [he] at this
    simpa using this
  apply Array.ext_getElem?
  intro j
  rw [splice_get (by simp; omega), splice_get (by rw [Ent.enc_length]; omega)]
  have el := Ent.enc_length ⟨e.id, a⟩
  have x0 : (Ent.enc ⟨e.id, a⟩)[0]? = some (.int .i64 e.id) := rfl
  have x1 : (Ent.enc ⟨e.id, a⟩)[1]? = some (.int .u64 a) := rfl
  have y0 : ([.int .u64 a] : List Value)[0]? = some (.int .u64 a) := rfl
  have yl : ([.int .u64 a] : List Value).length = 1 := rfl
  generalize Ent.enc ⟨e.id, a⟩ = E at *
  generalize ([.int .u64 a] : List Value) = E1 at *
  rw [el, yl]
  by_cases h1 : j < i * 2
  · rw [if_pos (by omega), if_pos h1]
  · by_cases h2 : j = i * 2
    · subst h2
      rw [if_pos (by omega), if_neg h1, if_pos (by omega), h0, Nat.sub_self, x0]
    · by_cases h3 : j = i * 2 + 1
      · subst h3
        rw [if_neg (by omega), if_pos (by omega), if_neg h1, if_pos (by omega), Nat.sub_self, y0, show i * 2 + 1 - i * 2 = 1 by omega, x1]
      · rw [if_neg (by omega), if_neg (by omega), if_neg h1, if_neg (by omega)]
set_option maxRecDepth 8000 in
set_option maxHeartbeats 2000000 in
theorem qMove_any (h : Sat B w0 w (queue q room S ⋆ F)) (id a : Int) : Calls Tryd.prog 28 #[.pointer (some ⟨q, 0, none⟩), .int .i64 id, .int .u64 a] w fun e w' =>
    e = .returned (errV (noneC S id)) ∧ Sat B w0 w' (queue q room (withDue S id a) ⋆ F) := by
  obtain ⟨p, L, h1, h2, h3, h4, hS⟩ := h.queue_open
  have hhas := hasId_perm h2 id
  have e0 : errV 0 = .nilIface := rfl
  have e20 : errV 20 = .iface 44 (.int .i64 20) := rfl
  cases hid : hasId L id
  · rw [hid] at hhas
    rw [noneC_no hhas.symm, withDue_no hhas.symm]
    have c1 := place_no hS hid
    rw [e20] at c1
    clear hhas hid h1 h2 h3 h4 hS
    go_enter Tryd.func28, Tryd.ntmps28
    go_wp2_with fail
    refine c1.mono ?_
    rintro e w1 ⟨rfl, rfl⟩
    go_wp2_with fail
    go_ret
    exact ⟨rfl, h⟩
  · rw [hid] at hhas
    rw [noneC_yes hhas.symm]
    obtain ⟨i, hi, rfl⟩ := hasId_g hid
    have c1 := place_yes hS hi
    rw [e0] at c1
    obtain ⟨f, hf⟩ := hS.pull2.pile_idx
    have hlen := h2.length_eq
    have hset := withDue_set hf hi a
    obtain ⟨g, cap, cur, mb, f', hf', r1, r2, r3, r4, hR⟩ := hS.pull2.pile_row (by omega)
    have d1 : w.cell? ⟨q, 0, none⟩ = some (.pointer (some ⟨p, 0, none⟩)) := by simp [World.cell?, hS.heap]
    have d2 : w.cell? ⟨p, 0, none⟩ = some (.slice (some ⟨g, 0, none⟩) L.length cap) := by simp [World.cell?, hR.heap]
    have hmx : L.length ≤ 9223372036854775807 := by omega
    have hsp := setAt_enc (Hp.g L i) a cur i r4 (by omega) hi rfl
    have hst := run_storeAt_row (P := Tryd.prog) (o := i * 2 + 1) (ty := 23) (v := .int .u64 a) hR.pull2.heap (by kernel_rfl) (by simp only [Value.cells, List.size_toArray, List.length_cons, List.length_nil]; omega) (by simp [Value.cells, Value.oneCell'])
    rw [show (Value.int .u64 a).cells.toList = [.int .u64 a] from rfl, hsp] at hst
    have hR2 := (hR.pull2.setRow (cs := splice cur (i * 2) (Ent.enc ⟨(Hp.g L i).id, a⟩))).pull2
    have t1 := take_splice_set (L := L) (cur := cur) Ent.enc_length (by decide) r4 rfl (by omega) hi (⟨(Hp.g L i).id, a⟩ : Ent)
    have z1 : (splice cur (i * 2) (Ent.enc ⟨(Hp.g L i).id, a⟩)).size = cur.size := splice_size (by rw [Ent.enc_length]; omega)
    have hP := Sat.pile_row_shut (L := L.set i ⟨(Hp.g L i).id, a⟩) (hf'.set hi rfl) (by rw [List.length_set]; exact r1) r2 (by rw [z1]; exact r3) (by rw [List.length_set]; exact t1) (by rw [List.length_set]; exact hR2)
    have c2 := hFix_any hP (i := i) (by rw [List.length_set]; exact hi) (by rw [List.length_set]; omega)
    rw [List.length_set] at c2
    obtain ⟨k1, k2, _⟩ := h1.fix_set hi (Nat.le_refl _) (⟨(Hp.g L i).id, a⟩ : Ent)
    have k3 : (Hp.fix (L.set i ⟨(Hp.g L i).id, a⟩) i L.length).length = L.length := by rw [fix_length, List.length_set]
    have K1 := Lib.hid k1
    have K2 := Lib.hid (k2.trans (hset ▸ withDue_perm h2 (Hp.g L i).id a))
    have K3 := Lib.hid k3
    have d3 : (w.setRow g (splice cur (i * 2) (Ent.enc ⟨(Hp.g L i).id, a⟩))).cell? ⟨q, 0, none⟩ = some (.pointer (some ⟨p, 0, none⟩)) := by
      have := hP.pull2.heap
      simp only [World.cell?, this]; rfl
    clear hP hR2 t1 z1 hR r4 r3 r1 hf hf' hset hhas hid h hS k1 k2 k3 hsp
    generalize (Hp.g L i).id = id at *
    generalize splice cur (i * 2) (Ent.enc ⟨id, a⟩) = cur2 at *
    generalize Hp.fix (L.set i ⟨id, a⟩) i L.length = L2 at *
    generalize hWW : w.setRow g cur2 = W at *
    have HW := Lib.hid hWW
    clear hWW
    go_enter Tryd.func28, Tryd.ntmps28
    go_wp2_with fail
    refine c1.mono ?_
    rintro e w1 ⟨rfl, rfl⟩
    clear c1
    go_wp2_with (refine wpList_store_run (t := 23) rfl rfl rfl rfl hst ?_)
    refine c2.mono ?_
    rintro e w3 ⟨rfl, hS3⟩
    clear c2
    go_wp2_with fail
    go_ret
    exact ⟨rfl, Sat.queue_shut (by rw [K3.out]; exact K1.out) K2.out (by rw [withDue_length]; exact h3) h4 hS3.pull2⟩
theorem qMove_nil (id a : Int) (w : World) : Calls Tryd.prog 28 #[.pointer none, .int .i64 id, .int .u64 a] w fun e w' => e = .returned (errV 2) ∧ w' = w := by
  have e2 : errV 2 = .iface 44 (.int .i64 2) := rfl
  have c1 := place_nil id w
  rw [e2] at c1
  go_enter Tryd.func28, Tryd.ntmps28
  go_wp2_with fail
  refine c1.mono ?_
  rintro e w1 ⟨rfl, rfl⟩
  go_wp2_with fail
  go_ret
  exact ⟨rfl, rfl⟩
end
end Go.Proofs.YtepaanpdjadakaaDoor
