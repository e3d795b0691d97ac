import Derived.Test.YtepaanpdjadakaaDoorExp7
import Derived.Test.YtepaanpdjadakaaDoorExp8
import Derived.Test.YtepaanpdjadakaaDoorQueP
import Derived.Lib.MinMax
/-! The queue. -/
namespace Go.Proofs.YtepaanpdjadakaaDoor
open Go Go.RowKit

def queue (q room : Nat) (S : List Ent) : HP := hex fun (x : Nat × List Ent) => lift (Hp.Is x.2 x.2.length ∧ x.2.Perm S ∧ S.length ≤ room ∧ room ≤ 1000)
  (blk q (.cells #[.pointer (some ⟨x.1, 0, none⟩), .int .i64 room] 146) ⋆ pile x.1 x.2)
section
variable {B : Nat} {w0 w w' : World} {F : HP} {p q room : Nat} {L S : List Ent}
theorem Sat.queue_open (h : Sat B w0 w (queue q room S ⋆ F)) : ∃ p L, Hp.Is L L.length ∧ L.Perm S ∧ S.length ≤ room ∧ room ≤ 1000 ∧
    Sat B w0 w (blk q (.cells #[.pointer (some ⟨p, 0, none⟩), .int .i64 room] 146) ⋆ pile p L ⋆ F) := by
  unfold queue at h
  rw [hex_star] at h
  obtain ⟨⟨p, L⟩, h⟩ := h.ex
  rw [lift_star] at h
  obtain ⟨⟨h1, h2, h3, h4⟩, h⟩ := h.lift
  rw [star_assoc] at h
  exact ⟨p, L, h1, h2, h3, h4, h⟩
theorem Sat.queue_shut (h1 : Hp.Is L L.length) (h2 : L.Perm S) (h3 : S.length ≤ room) (h4 : room ≤ 1000)
    (h : Sat B w0 w (blk q (.cells #[.pointer (some ⟨p, 0, none⟩), .int .i64 room] 146) ⋆ pile p L ⋆ F)) : Sat B w0 w (queue q room S ⋆ F) := by
  unfold queue
  rw [hex_star]
  refine Sat.ex_mk (⟨p, L⟩ : Nat × List Ent) ?_
  rw [lift_star]
  refine Sat.lift_mk ⟨h1, h2, h3, h4⟩ ?_
  rw [star_assoc]
  exact h
theorem Sat.pile_idx (h : Sat B w0 w (pile p L ⋆ F)) : ∃ f, IsIdx L f := by
  obtain ⟨v, mb, f, hi, _⟩ := h.pile_open
  exact ⟨f, hi⟩
theorem Sat.queue_nd (h : Sat B w0 w (queue q room S ⋆ F)) : Nd S := by
  obtain ⟨p, L, h1, h2, h3, h4, hS⟩ := h.queue_open
  obtain ⟨f, hf⟩ := hS.pull2.pile_idx
  exact hf.nd.perm h2
theorem Sat.queue_len (h : Sat B w0 w (queue q room S ⋆ F)) : S.length ≤ room ∧ room ≤ 1000 := by
  obtain ⟨p, L, h1, h2, h3, h4, hS⟩ := h.queue_open
  exact ⟨h3, h4⟩
theorem int_zero (w : World) : (zeroValue 3).run Tryd.prog w = .ok (.int .i64 0) w := by kernel_rfl

theorem qLen_any (h : Sat B w0 w (queue q room S ⋆ F)) : Calls Tryd.prog 24 #[.pointer (some ⟨q, 0, none⟩)] w fun e w' => e = .returned (.int .i64 S.length) ∧ w' = w := by
  obtain ⟨p, L, h1, h2, h3, h4, hS⟩ := h.queue_open
  have c1 := pileLen_any hS.pull2
  rw [h2.length_eq] at c1
  have d1 : w.cell? ⟨q, 0, none⟩ = some (.pointer (some ⟨p, 0, none⟩)) := by simp [World.cell?, hS.heap]
  clear h hS h2
  go_enter Tryd.func24, Tryd.ntmps24
  go_wp2_with fail
  refine c1.mono ?_
  rintro e w1 ⟨rfl, rfl⟩
  go_wp2_with fail
  go_ret
  exact ⟨rfl, rfl⟩
theorem qLen_nil (w : World) : Calls Tryd.prog 24 #[.pointer none] w fun e w' => e = .returned (.int .i64 0) ∧ w' = w := by
  go_enter Tryd.func24, Tryd.ntmps24
  go_wp2
  go_ret
  exact ⟨rfl, rfl⟩
set_option maxRecDepth 8000 in
theorem place_nil (id : Int) (w : World) : Calls Tryd.prog 84 #[.pointer none, .int .i64 id] w fun e w' => e = .returned (.tuple #[.int .i64 0, errV 2]) ∧ w' = w := by
  go_enter Tryd.func84, Tryd.ntmps84
  go_wp2
  go_ret2
  exact ⟨rfl, rfl⟩
set_option maxRecDepth 8000 in
set_option maxHeartbeats 1000000 in
theorem place_no (h : Sat B w0 w (blk q (.cells #[.pointer (some ⟨p, 0, none⟩), .int .i64 room] 146) ⋆ pile p L ⋆ F)) {id : Int} (hid : hasId L id = false) :
    Calls Tryd.prog 84 #[.pointer (some ⟨q, 0, none⟩), .int .i64 id] w fun e w' => e = .returned (.tuple #[.int .i64 0, errV 20]) ∧ w' = w := by
  obtain ⟨v, mb, f, hi, hS⟩ := h.pull2.pile_open
  have hf := hi.has id
  rw [hid] at hf
  have hf2 : f id = none := by simpa using hf
  have hrun := hS.pull3.run_lookup (P := Tryd.prog) (mt := 142) (k := id) Tryd.underlying142 Tryd.underlying3 int_zero true
  rw [hf2] at hrun
  have d1 : w.cell? ⟨q, 0, none⟩ = some (.pointer (some ⟨p, 0, none⟩)) := by simp [World.cell?, h.heap]
  have d2 : w.cell? ⟨p, 1, none⟩ = some (.map (some mb)) := by simp [World.cell?, hS.heap]
  clear h hS hf hf2 hi hid
  go_enter Tryd.func84, Tryd.ntmps84
  go_wp2_with (refine wpList_lookup_run rfl rfl rfl rfl hrun ?_)
  go_ret2
  exact ⟨rfl, rfl⟩
set_option maxRecDepth 8000 in
set_option maxHeartbeats 1000000 in
theorem place_yes (h : Sat B w0 w (blk q (.cells #[.pointer (some ⟨p, 0, none⟩), .int .i64 room] 146) ⋆ pile p L ⋆ F)) {i : Nat} (hi : i < L.length) :
    Calls Tryd.prog 84 #[.pointer (some ⟨q, 0, none⟩), .int .i64 (Hp.g L i).id] w fun e w' => e = .returned (.tuple #[.int .i64 i, errV 0]) ∧ w' = w := by
  obtain ⟨v, mb, f, hx, hS⟩ := h.pull2.pile_open
  have hf2 : f (Hp.g L i).id = some (i : Int) := (hx _ _).2 ⟨i, rfl, hi, rfl⟩
  have hrun := hS.pull3.run_lookup (P := Tryd.prog) (mt := 142) (k := (Hp.g L i).id) Tryd.underlying142 Tryd.underlying3 int_zero true
  rw [hf2] at hrun
  have d1 : w.cell? ⟨q, 0, none⟩ = some (.pointer (some ⟨p, 0, none⟩)) := by simp [World.cell?, h.heap]
  have d2 : w.cell? ⟨p, 1, none⟩ = some (.map (some mb)) := by simp [World.cell?, hS.heap]
  clear h hS hf2 hx hi
  go_enter Tryd.func84, Tryd.ntmps84
  go_wp2_with (refine wpList_lookup_run rfl rfl rfl rfl hrun ?_)
  go_ret2
  exact ⟨rfl, rfl⟩
theorem hasId_g {id : Int} (hid : hasId L id = true) : ∃ i, i < L.length ∧ (Hp.g L i).id = id := by
  unfold hasId at hid
  rw [List.any_eq_true] at hid
  obtain ⟨x, hx, e⟩ := hid
  obtain ⟨i, hi, rfl⟩ := mem_g hx
  exact ⟨i, hi, by simpa using e⟩
/-- expiry.New. -/
def roomOf (n : Int) : Nat := (min (max n 0) 1000).toNat
set_option maxRecDepth 8000 in
set_option maxHeartbeats 1000000 in
theorem qNew_any (n : Int) (h : Sat B w0 w F) : Calls Tryd.prog 21 #[.int .i64 n] w fun e w' => ∃ q, e = .returned (.pointer (some ⟨q, 0, none⟩)) ∧ Sat B w0 w' (queue q (roomOf n) [] ⋆ F) := by
  have hr : ((roomOf n : Nat) : Int) = min (max n 0) 1000 := by unfold roomOf; omega
  have hmm := @run_makeMap Tryd.prog
  have h1 := mp_new h
  have h2 := h1.alloc (.cells #[.slice none 0 0, .map (some w.heap.size)] 144)
  have h3 := h2.alloc (.cells #[.pointer (some ⟨w.heap.size + 1, 0, none⟩), .int .i64 (roomOf n)] 146)
  have e1 : (w.alloc (.map #[] 0)).heap.size = w.heap.size + 1 := by simp
  have e2 : ((w.alloc (.map #[] 0)).alloc (.cells #[.slice none 0 0, .map (some w.heap.size)] 144)).heap.size = w.heap.size + 1 + 1 := by simp
  rw [e1, e2] at h3
  have h4 := arr_nil (e := 34) (sz := 2) h3
  have h5 : Sat B w0 _ (pile (w.heap.size + 1) [] ⋆ blk (w.heap.size + 1 + 1) (.cells #[.pointer (some ⟨w.heap.size + 1, 0, none⟩), .int .i64 (roomOf n)] 146) ⋆ F) :=
    Sat.pile_shut (v := .slice none 0 0) (mb := w.heap.size) IsIdx.nil (h4.to (by
      show arr 34 2 (.slice none 0 0) 0 [] ⋆ blk (w.heap.size + 1 + 1) _ ⋆ blk (w.heap.size + 1) _ ⋆ mp w.heap.size _ ⋆ F = blk (w.heap.size + 1) _ ⋆ arr 34 2 (.slice none 0 0) 0 [] ⋆ mp w.heap.size _ ⋆ blk (w.heap.size + 1 + 1) _ ⋆ F
      ac_rfl))
  have h6 := Sat.queue_shut (S := []) (room := roomOf n) (fun k hk hk2 => absurd hk2 (by simp)) (List.Perm.refl _) (Nat.zero_le _) (by unfold roomOf; omega) h5.pull2
  have H6 := Lib.hid h6
  have HR := Lib.hid hr
  clear h h1 h2 h3 h4 h5 h6 e1 e2 hr
  go_enter Tryd.func21, Tryd.ntmps21
  go_wp2_with fail
  go_ret
  refine ⟨w.heap.size + 1 + 1, rfl, ?_⟩
  have := H6.out
  rw [HR.out] at this
  exact this
end
end Go.Proofs.YtepaanpdjadakaaDoor
