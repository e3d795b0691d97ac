import Derived.Test.YtepaanpdjadakaaGreatDoorBaseX
import Derived.Test.YtepaanpdjadakaaGreatDoorExp8
import Derived.Lib.MinMax

/-! What a queue holds, in plain words. -/
namespace Go.Proofs.YtepaanpdjadakaaGreatDoor

def Nd (S : List Ent) : Prop := (S.map (·.id)).Nodup
def hasId (S : List Ent) (id : Int) : Bool := S.any fun e => e.id == id
def withDue (S : List Ent) (id a : Int) : List Ent := S.map fun e => if e.id = id then ⟨id, a⟩ else e
def without (S : List Ent) (id : Int) : List Ent := S.filter fun e => e.id != id
def dueAt (S : List Ent) (id : Int) : Option Int := (S.find? fun e => e.id == id).map (·.due)
def minE : List Ent → Option Ent
  | [] => none
  | e :: r => match minE r with
    | none => some e
    | some m => some (if m.lt e then m else e)
def dueL : Nat → List Ent → Int → List Ent × List Ent
  | 0, S, _ => ([], S)
  | k + 1, S, now => match minE S with
    | none => ([], S)
    | some m => if now < m.due then ([], S) else (m :: (dueL k (without S m.id) now).1, (dueL k (without S m.id) now).2)

theorem minE_none {S : List Ent} : minE S = none ↔ S = [] := by
  cases S with
  | nil => simp [minE]
  | cons e r =>
    simp only [minE]
    cases minE r <;> simp
theorem minE_mem : ∀ {S : List Ent} {m : Ent}, minE S = some m → m ∈ S ∧ ∀ x ∈ S, x.lt m = false := by
  intro S
  induction S with
  | nil => intro m h; simp [minE] at h
  | cons e r ih =>
    intro m h
    simp only [minE] at h
    cases hr : minE r with
    | none =>
      rw [hr] at h
      cases h
      have := minE_none.1 hr
      subst this
      exact ⟨by simp, by intro x hx; simp at hx; subst hx; exact Ent.lt_irrefl _⟩
    | some k =>
      rw [hr] at h
      simp only [Option.some.injEq] at h
      obtain ⟨h1, h2⟩ := ih hr
      by_cases hk : k.lt e = true
      · rw [if_pos hk] at h
        subst h
        refine ⟨by simp [h1], fun x hx => ?_⟩
        rcases List.mem_cons.1 hx with rfl | hx
        · exact Ent.le_of_lt hk
        · exact h2 x hx
      · rw [if_neg hk] at h
        subst h
        have hk' : k.lt e = false := by simpa using hk
        refine ⟨by simp, fun x hx => ?_⟩
        rcases List.mem_cons.1 hx with rfl | hx
        · exact Ent.lt_irrefl _
        · exact Ent.le_trans hk' (h2 x hx)
theorem minE_of {S : List Ent} {m : Ent} (h1 : m ∈ S) (h2 : ∀ x ∈ S, x.lt m = false) : minE S = some m := by
  cases h : minE S with
  | none => rw [minE_none] at h; subst h; cases h1
  | some k =>
    obtain ⟨h3, h4⟩ := minE_mem h
    rw [Ent.eq_of_le (h2 k h3) (h4 m h1)]
theorem minE_perm {L S : List Ent} (h : L.Perm S) : minE L = minE S := by
  cases hS : minE S with
  | none =>
    rw [minE_none] at hS ⊢
    subst hS
    exact h.eq_nil
  | some m =>
    obtain ⟨h1, h2⟩ := minE_mem hS
    exact minE_of (h.mem_iff.2 h1) (fun x hx => h2 x (h.mem_iff.1 hx))
theorem g_mem {L : List Ent} {i : Nat} (h : i < L.length) : Hp.g L i ∈ L := List.mem_of_getElem? (g_get h)
theorem mem_g {L : List Ent} {x : Ent} (h : x ∈ L) : ∃ i, i < L.length ∧ Hp.g L i = x := by
  obtain ⟨i, hi⟩ := List.mem_iff_getElem?.1 h
  have hl := (List.getElem?_eq_some_iff.1 hi).1
  exact ⟨i, hl, Option.some.inj ((g_get hl).symm.trans hi)⟩
theorem minE_heap {L : List Ent} (h : Hp.Is L L.length) (hl : 0 < L.length) : minE L = some (Hp.g L 0) :=
  minE_of (g_mem hl) fun x hx => by
    obtain ⟨i, hi, rfl⟩ := mem_g hx
    exact h.min i hi
theorem Nd.perm {L S : List Ent} (h : Nd L) (p : L.Perm S) : Nd S := (p.map _).nodup_iff.1 h
theorem IsIdx.nd {L : List Ent} {f : Int → Option Int} (h : IsIdx L f) : Nd L := by
  unfold Nd
  rw [List.nodup_iff_pairwise_ne, List.pairwise_map, List.pairwise_iff_getElem]
  intro i j hi hj hij e
  have e1 : L[i] = Hp.g L i := by rw [← Option.some_inj, ← g_get hi, List.getElem?_eq_getElem hi]
  have e2 : L[j] = Hp.g L j := by rw [← Option.some_inj, ← g_get hj, List.getElem?_eq_getElem hj]
  rw [e1, e2] at e
  have := h.inj hi hj e
  omega
theorem hasId_perm {L S : List Ent} (p : L.Perm S) (id : Int) : hasId L id = hasId S id := by
  unfold hasId
  rw [Bool.eq_iff_iff, List.any_eq_true, List.any_eq_true]
  constructor
  · rintro ⟨x, h1, h2⟩; exact ⟨x, p.mem_iff.1 h1, h2⟩
  · rintro ⟨x, h1, h2⟩; exact ⟨x, p.mem_iff.2 h1, h2⟩
theorem IsIdx.has {L : List Ent} {f : Int → Option Int} (h : IsIdx L f) (id : Int) : (f id).isSome = hasId L id := by
  unfold hasId
  cases hf : f id with
  | none =>
    symm
    rw [Option.isSome_none, List.any_eq_false]
    intro x hx e
    obtain ⟨i, hi, rfl⟩ := mem_g hx
    have := (h id i).2 ⟨i, rfl, hi, by simpa using e⟩
    rw [hf] at this; cases this
  | some n =>
    symm
    rw [Option.isSome_some, List.any_eq_true]
    obtain ⟨i, _, hi, e⟩ := (h id n).1 hf
    exact ⟨_, g_mem hi, by simpa using e⟩
theorem without_of {g : Ent} {R L : List Ent} (h : Nd L) (p : (g :: R).Perm L) : R.Perm (without L g.id) := by
  have h1 := p.filter (fun e => e.id != g.id)
  have hn : Nd (g :: R) := h.perm p.symm
  unfold Nd at hn
  rw [List.map_cons, List.nodup_cons] at hn
  have h2 : (g :: R).filter (fun e => e.id != g.id) = R := by
    rw [List.filter_cons]
    simp only [bne_self_eq_false, Bool.false_eq_true, if_false]
    rw [List.filter_eq_self]
    intro x hx
    rw [bne_iff_ne]
    intro e
    exact hn.1 (List.mem_map.2 ⟨x, hx, e⟩)
  rw [h2] at h1
  exact h1
theorem without_perm {L S : List Ent} (p : L.Perm S) (id : Int) : (without L id).Perm (without S id) := p.filter _
theorem withDue_perm {L S : List Ent} (p : L.Perm S) (id a : Int) : (withDue L id a).Perm (withDue S id a) := p.map _
theorem withDue_set {L : List Ent} {f : Int → Option Int} (h : IsIdx L f) {i : Nat} (hi : i < L.length) (a : Int) : L.set i ⟨(Hp.g L i).id, a⟩ = withDue L (Hp.g L i).id a := by
  apply List.ext_getElem?
  intro j
  unfold withDue
  rw [List.getElem?_set, List.getElem?_map]
  by_cases e : i = j
  · subst e
    rw [if_pos rfl, if_pos hi, g_get hi]
    simp
  · rw [if_neg e]
    by_cases hj : j < L.length
    · rw [g_get hj]
      simp only [Option.map_some, Option.some.injEq]
      rw [if_neg]
      intro e2
      exact e (h.inj hi hj e2.symm)
    · rw [List.getElem?_eq_none (by omega)]; rfl
theorem withDue_length (S : List Ent) (id a : Int) : (withDue S id a).length = S.length := by simp [withDue]
theorem without_length (S : List Ent) (id : Int) : (without S id).length ≤ S.length := List.length_filter_le _ _
theorem without_lt {S : List Ent} {m : Ent} (h : m ∈ S) : (without S m.id).length < S.length := by
  unfold without
  rw [List.length_filter_lt_length_iff_exists]
  exact ⟨m, h, by simp⟩
theorem dueAt_of {S : List Ent} (h : Nd S) {x : Ent} (hx : x ∈ S) : dueAt S x.id = some x.due := by
  unfold dueAt
  induction S with
  | nil => cases hx
  | cons e r ih =>
    unfold Nd at h
    rw [List.map_cons, List.nodup_cons] at h
    rw [List.find?_cons]
    rcases List.mem_cons.1 hx with rfl | hx
    · simp
    · have : (e.id == x.id) = false := by
        simp only [beq_eq_false_iff_ne]
        intro e1
        exact h.1 (List.mem_map.2 ⟨x, hx, e1.symm⟩)
      rw [this]
      exact ih h.2 hx
theorem dueAt_perm {L S : List Ent} (h : Nd L) (p : L.Perm S) (id : Int) : dueAt L id = dueAt S id := by
  have hS : Nd S := h.perm p
  cases hq : S.find? fun e => e.id == id with
  | none =>
    have h1 : dueAt S id = none := by unfold dueAt; rw [hq]; rfl
    rw [h1]
    unfold dueAt
    rw [List.find?_eq_none.2]
    · rfl
    · intro x hx
      exact List.find?_eq_none.1 hq x (p.mem_iff.1 hx)
  | some x =>
    have hx := List.mem_of_find?_eq_some hq
    have he : x.id = id := by simpa using List.find?_some hq
    subst he
    rw [dueAt_of hS hx, dueAt_of h (p.mem_iff.2 hx)]
theorem dueAt_none {S : List Ent} {id : Int} (h : hasId S id = false) : dueAt S id = none := by
  unfold dueAt
  rw [List.find?_eq_none.2]
  · rfl
  · intro x hx e
    unfold hasId at h
    rw [List.any_eq_false] at h
    exact h x hx e
end Go.Proofs.YtepaanpdjadakaaGreatDoor

/-! The queue. -/
namespace Go.Proofs.YtepaanpdjadakaaGreatDoor
open Go Go.RowKit

def queue (q room : Nat) (S : List Ent) : HP := hex fun (x : Nat × List Ent) => lift (Hp.Is x.2 x.2.length ∧ x.2.Perm S ∧ S.length ≤ room ∧ room ≤ 1000)
  (blk q (.cells #[.pointer (some ⟨x.1, 0, none⟩), .int .i64 room] 108) • pile x.1 x.2)
section
variable {B : Nat} {w0 w w' : World} {F : HP} {p q room : Nat} {L S : List Ent}
theorem Sat.queue_open (h : Sat B w0 w (queue q room S • F)) : ∃ p L, Hp.Is L L.length ∧ L.Perm S ∧ S.length ≤ room ∧ room ≤ 1000 ∧
    Sat B w0 w (blk q (.cells #[.pointer (some ⟨p, 0, none⟩), .int .i64 room] 108) • pile p L • F) := by
  unfold queue at h
  rw [hex_star] at h
  obtain ⟨⟨p, L⟩, h⟩ := h.ex
  rw [lift_star] at h
  obtain ⟨⟨h1, h2, h3, h4⟩, h⟩ := h.lift
  rw [star_assoc] at h
  exact ⟨p, L, h1, h2, h3, h4, h⟩
theorem Sat.queue_shut (h1 : Hp.Is L L.length) (h2 : L.Perm S) (h3 : S.length ≤ room) (h4 : room ≤ 1000)
    (h : Sat B w0 w (blk q (.cells #[.pointer (some ⟨p, 0, none⟩), .int .i64 room] 108) • pile p L • F)) : Sat B w0 w (queue q room S • F) := by
  unfold queue
  rw [hex_star]
  refine Sat.ex_mk (⟨p, L⟩ : Nat × List Ent) ?_
  rw [lift_star]
  refine Sat.lift_mk ⟨h1, h2, h3, h4⟩ ?_
  rw [star_assoc]
  exact h
theorem Sat.pile_idx (h : Sat B w0 w (pile p L • F)) : ∃ f, IsIdx L f := by
  obtain ⟨v, mb, f, hi, _⟩ := h.pile_open
  exact ⟨f, hi⟩
theorem Sat.queue_nd (h : Sat B w0 w (queue q room S • F)) : Nd S := by
  obtain ⟨p, L, h1, h2, h3, h4, hS⟩ := h.queue_open
  obtain ⟨f, hf⟩ := hS.pull2.pile_idx
  exact hf.nd.perm h2
theorem Sat.queue_len (h : Sat B w0 w (queue q room S • F)) : S.length ≤ room ∧ room ≤ 1000 := by
  obtain ⟨p, L, h1, h2, h3, h4, hS⟩ := h.queue_open
  exact ⟨h3, h4⟩
theorem int_zero (w : World) : (zeroValue 3).run Tryz.prog w = .ok (.int .i64 0) w := by kernel_rfl

theorem qLen_any (h : Sat B w0 w (queue q room S • F)) : Calls Tryz.prog 67 #[.pointer (some ⟨q, 0, none⟩)] w fun e w' => e = .returned (.int .i64 S.length) ∧ w' = w := by
  obtain ⟨p, L, h1, h2, h3, h4, hS⟩ := h.queue_open
  have c1 := pileLen_any hS.pull2
  rw [h2.length_eq] at c1
  have d1 : w.cell? ⟨q, 0, none⟩ = some (.pointer (some ⟨p, 0, none⟩)) := by simp [World.cell?, hS.heap]
  clear h hS h2
  go_enter Tryz.func67, Tryz.ntmps67
  go_wp2_with fail
  refine c1.mono ?_
  rintro e w1 ⟨rfl, rfl⟩
  go_wp2_with fail
  go_ret
  exact ⟨rfl, rfl⟩
theorem qLen_nil (w : World) : Calls Tryz.prog 67 #[.pointer none] w fun e w' => e = .returned (.int .i64 0) ∧ w' = w := by
  go_enter Tryz.func67, Tryz.ntmps67
  go_wp2
  go_ret
  exact ⟨rfl, rfl⟩
set_option maxRecDepth 8000 in
theorem place_nil (id : Int) (w : World) : Calls Tryz.prog 53 #[.pointer none, .int .i64 id] w fun e w' => e = .returned (.tuple #[.int .i64 0, errV 2]) ∧ w' = w := by
  go_enter Tryz.func53, Tryz.ntmps53
  go_wp2
  go_ret2
  exact ⟨rfl, rfl⟩
set_option maxRecDepth 8000 in
set_option maxHeartbeats 1000000 in
theorem place_no (h : Sat B w0 w (blk q (.cells #[.pointer (some ⟨p, 0, none⟩), .int .i64 room] 108) • pile p L • F)) {id : Int} (hid : hasId L id = false) :
    Calls Tryz.prog 53 #[.pointer (some ⟨q, 0, none⟩), .int .i64 id] w fun e w' => e = .returned (.tuple #[.int .i64 0, errV 20]) ∧ w' = w := by
  obtain ⟨v, mb, f, hi, hS⟩ := h.pull2.pile_open
  have hf := hi.has id
  rw [hid] at hf
  have hf2 : f id = none := by simpa using hf
  have hrun := hS.pull3.run_lookup (P := Tryz.prog) (mt := 103) (k := id) Tryz.underlying103 Tryz.underlying3 int_zero true
  rw [hf2] at hrun
  have d1 : w.cell? ⟨q, 0, none⟩ = some (.pointer (some ⟨p, 0, none⟩)) := by simp [World.cell?, h.heap]
  have d2 : w.cell? ⟨p, 1, none⟩ = some (.map (some mb)) := by simp [World.cell?, hS.heap]
  clear h hS hf hf2 hi hid
  go_enter Tryz.func53, Tryz.ntmps53
  go_wp2_with (refine wpList_lookup_run rfl rfl rfl rfl hrun ?_)
  go_ret2
  exact ⟨rfl, rfl⟩
set_option maxRecDepth 8000 in
set_option maxHeartbeats 1000000 in
theorem place_yes (h : Sat B w0 w (blk q (.cells #[.pointer (some ⟨p, 0, none⟩), .int .i64 room] 108) • pile p L • F)) {i : Nat} (hi : i < L.length) :
    Calls Tryz.prog 53 #[.pointer (some ⟨q, 0, none⟩), .int .i64 (Hp.g L i).id] w fun e w' => e = .returned (.tuple #[.int .i64 i, errV 0]) ∧ w' = w := by
  obtain ⟨v, mb, f, hx, hS⟩ := h.pull2.pile_open
  have hf2 : f (Hp.g L i).id = some (i : Int) := (hx _ _).2 ⟨i, rfl, hi, rfl⟩
  have hrun := hS.pull3.run_lookup (P := Tryz.prog) (mt := 103) (k := (Hp.g L i).id) Tryz.underlying103 Tryz.underlying3 int_zero true
  rw [hf2] at hrun
  have d1 : w.cell? ⟨q, 0, none⟩ = some (.pointer (some ⟨p, 0, none⟩)) := by simp [World.cell?, h.heap]
  have d2 : w.cell? ⟨p, 1, none⟩ = some (.map (some mb)) := by simp [World.cell?, hS.heap]
  clear h hS hf2 hx hi
  go_enter Tryz.func53, Tryz.ntmps53
  go_wp2_with (refine wpList_lookup_run rfl rfl rfl rfl hrun ?_)
  go_ret2
  exact ⟨rfl, rfl⟩
theorem hasId_g {id : Int} (hid : hasId L id = true) : ∃ i, i < L.length ∧ (Hp.g L i).id = id := by
  unfold hasId at hid
  rw [List.any_eq_true] at hid
  obtain ⟨x, hx, e⟩ := hid
  obtain ⟨i, hi, rfl⟩ := mem_g hx
  exact ⟨i, hi, by simpa using e⟩
/-- expiry.New. -/
def roomOf (n : Int) : Nat := (min (max n 0) 1000).toNat
set_option maxRecDepth 8000 in
set_option maxHeartbeats 1000000 in
theorem qNew_any (n : Int) (h : Sat B w0 w F) : Calls Tryz.prog 25 #[.int .i64 n] w fun e w' => ∃ q, e = .returned (.pointer (some ⟨q, 0, none⟩)) ∧ Sat B w0 w' (queue q (roomOf n) [] • F) := by
  have hr : ((roomOf n : Nat) : Int) = min (max n 0) 1000 := by unfold roomOf; omega
  have hmm := @run_makeMap Tryz.prog
  have h1 := mp_new h
  have h2 := h1.alloc (.cells #[.slice none 0 0, .map (some w.heap.size)] 106)
  have h3 := h2.alloc (.cells #[.pointer (some ⟨w.heap.size + 1, 0, none⟩), .int .i64 (roomOf n)] 108)
  have e1 : (w.alloc (.map #[] 0)).heap.size = w.heap.size + 1 := by simp
  have e2 : ((w.alloc (.map #[] 0)).alloc (.cells #[.slice none 0 0, .map (some w.heap.size)] 106)).heap.size = w.heap.size + 1 + 1 := by simp
  rw [e1, e2] at h3
  have h4 := arr_nil (e := 113) (sz := 2) h3
  have h5 : Sat B w0 _ (pile (w.heap.size + 1) [] • blk (w.heap.size + 1 + 1) (.cells #[.pointer (some ⟨w.heap.size + 1, 0, none⟩), .int .i64 (roomOf n)] 108) • F) :=
    Sat.pile_shut (v := .slice none 0 0) (mb := w.heap.size) IsIdx.nil (h4.to (by
      show arr 113 2 (.slice none 0 0) 0 [] • blk (w.heap.size + 1 + 1) _ • blk (w.heap.size + 1) _ • mp w.heap.size _ • F = blk (w.heap.size + 1) _ • arr 113 2 (.slice none 0 0) 0 [] • mp w.heap.size _ • blk (w.heap.size + 1 + 1) _ • F
      ac_rfl))
  have h6 := Sat.queue_shut (S := []) (room := roomOf n) (fun k hk hk2 => absurd hk2 (by simp)) (List.Perm.refl _) (Nat.zero_le _) (by unfold roomOf; omega) h5.pull2
  have H6 := Lib.hid h6
  have HR := Lib.hid hr
  clear h h1 h2 h3 h4 h5 h6 e1 e2 hr
  go_enter Tryz.func25, Tryz.ntmps25
  go_wp2_with fail
  go_ret
  refine ⟨w.heap.size + 1 + 1, rfl, ?_⟩
  have := H6.out
  rw [HR.out] at this
  exact this
end
end Go.Proofs.YtepaanpdjadakaaGreatDoor

/-! The queue's Push, Move, Cancel, At, Next. -/
namespace Go.Proofs.YtepaanpdjadakaaGreatDoor
open Go Go.RowKit

def pushC (room : Nat) (S : List Ent) (id : Int) : Int := if hasId S id then 19 else if room ≤ S.length then 18 else 0
def pushS (room : Nat) (S : List Ent) (id a : Int) : List Ent := if hasId S id then S else if room ≤ S.length then S else S ++ [⟨id, a⟩]
section
variable {B : Nat} {w0 w w' : World} {F : HP} {p q room : Nat} {L S : List Ent}
set_option maxRecDepth 8000 in
set_option maxHeartbeats 2000000 in
theorem qPush_any (h : Sat B w0 w (queue q room S • F)) (hE : Et w) (id a : Int) : Calls Tryz.prog 46 #[.pointer (some ⟨q, 0, none⟩), .int .i64 id, .int .u64 a] w fun e w' =>
    e = .returned (errV (pushC room S id)) ∧ Sat B w0 w' (queue q room (pushS room S id a) • F) := by
  obtain ⟨p, L, h1, h2, h3, h4, hS⟩ := h.queue_open
  have hhas := hasId_perm h2 id
  cases hid : hasId L id
  · rw [hid] at hhas
    have c1 := place_no hS hid
    have c2 := eis_any 20 2 (by decide) w
    have c3 := code_any 20 w hE
    have hpc : pushC room S id = if room ≤ S.length then 18 else 0 := by unfold pushC; rw [← hhas]; rfl
    have hps : pushS room S id a = if room ≤ S.length then S else S ++ [⟨id, a⟩] := by unfold pushS; rw [← hhas]; rfl
    by_cases hfull : room ≤ S.length
    · rw [hpc, hps, if_pos hfull, if_pos hfull]
      have hfi : (room : Int) ≤ S.length := by omega
      have HID := Lib.hid hid
      clear hhas hpc hps hfull hid
      go_enter Tryz.func46, Tryz.ntmps46
      go_wp2_with fail
      refine c1.mono ?_
      rintro e w1 ⟨rfl, rfl⟩
      go_wp2_with fail
      refine c2.mono ?_
      rintro e w1 ⟨rfl, rfl⟩
      go_wp2_with fail
      refine c3.mono ?_
      rintro e w2 ⟨rfl, hb2⟩
      have hS2 := (hS.below_ hb2).drew
      clear c1 c2 c3 hS h hE
      go_wp2_with fail
      try go_frame
      refine wp_region_ord [(0, .pure), (2, .pure), (3, .pure), (4, .pure), (5, .quiet), (1, .acts), (6, .pure), (7, .pure)] (by kernel_rfl) (by kernel_rfl)
        (fun w' => Sat B w0 w' (blk q (.cells #[.pointer (some ⟨p, 0, none⟩), .int .i64 room] 108) • pile p L • F)) hS2 ?_
      iterate 4 (refine ord_pure rfl rfl rfl (fun K' hK => ?_); go_big_quiet_op; refine hK _ ?_; clear hK K')
      refine ord_load (t := 3) rfl rfl rfl (p := .pointer (some ⟨q, 1, none⟩)) (v := .int .i64 room) rfl (fun w' hC => run_loadAt_one hC.heap Tryz.underlying3 rfl rfl) (fun K' hK => ?_)
      go_simp
      refine hK _ ?_
      clear hK K'
      refine ord_acts rfl rfl (fun K' hK => ?_)
      go_simp
      refine (qLen_any (Sat.queue_shut h1 h2 h3 h4 hS2)).mono ?_
      rintro e w3 ⟨rfl, rfl⟩
      refine hK _ _ hS2 ?_
      clear hK K'
      go_simp
      iterate 2 (refine ord_pure rfl rfl rfl (fun K' hK => ?_); go_big_quiet_op; refine hK _ ?_; clear hK K')
      refine ord_nil ?_
      go_wp2_with fail
      go_ret
      exact ⟨rfl, Sat.queue_shut h1 h2 h3 h4 hS2⟩
    · rw [hpc, hps, if_neg hfull, if_neg hfull]
      have hfi : (S.length : Int) < room := by omega
      have hlen := h2.length_eq
      have hnid : ∀ i, i < L.length → (Hp.g L i).id ≠ (⟨id, a⟩ : Ent).id := by
        intro i hi e
        unfold hasId at hid
        rw [List.any_eq_false] at hid
        exact hid _ (g_mem hi) (by simpa using e)
      have HN := Lib.hid hnid
      have HF := Lib.hid hfull
      have HLE := Lib.hid hlen
      clear hhas hpc hps hfull hid hnid hlen
      go_enter Tryz.func46, Tryz.ntmps46
      go_wp2_with fail
      refine c1.mono ?_
      rintro e w1 ⟨rfl, rfl⟩
      go_wp2_with fail
      refine c2.mono ?_
      rintro e w1 ⟨rfl, rfl⟩
      go_wp2_with fail
      refine c3.mono ?_
      rintro e w2 ⟨rfl, hb2⟩
      have hS2 := (hS.below_ hb2).drew
      clear c1 c2 c3 hS h hE
      go_wp2_with fail
      try go_frame
      refine wp_region_ord [(0, .pure), (2, .pure), (3, .pure), (4, .pure), (5, .quiet), (1, .acts), (6, .pure), (7, .pure)] (by kernel_rfl) (by kernel_rfl)
        (fun w' => Sat B w0 w' (blk q (.cells #[.pointer (some ⟨p, 0, none⟩), .int .i64 room] 108) • pile p L • F)) hS2 ?_
      iterate 4 (refine ord_pure rfl rfl rfl (fun K' hK => ?_); go_big_quiet_op; refine hK _ ?_; clear hK K')
      refine ord_load (t := 3) rfl rfl rfl (p := .pointer (some ⟨q, 1, none⟩)) (v := .int .i64 room) rfl (fun w' hC => run_loadAt_one hC.heap Tryz.underlying3 rfl rfl) (fun K' hK => ?_)
      go_simp
      refine hK _ ?_
      clear hK K'
      refine ord_acts rfl rfl (fun K' hK => ?_)
      go_simp
      refine (qLen_any (Sat.queue_shut h1 h2 h3 h4 hS2)).mono ?_
      rintro e w3 ⟨rfl, rfl⟩
      refine hK _ _ hS2 ?_
      clear hK K'
      go_simp
      iterate 2 (refine ord_pure rfl rfl rfl (fun K' hK => ?_); go_big_quiet_op; refine hK _ ?_; clear hK K')
      refine ord_nil ?_
      have d1 : w2.drew.cell? ⟨q, 0, none⟩ = some (.pointer (some ⟨p, 0, none⟩)) := by simp only [World.cell?, hS2.heap]; rfl
      have c4 := hPush_any hS2.pull2 ⟨id, a⟩ (by rw [HLE.out]; omega) HN.out
      simp only [Ent.enc] at c4
      generalize w2.drew = W at *
      go_wp2_with fail
      refine c4.mono ?_
      rintro e w3 ⟨rfl, hS3⟩
      clear c4 hS2 d1
      obtain ⟨k1, k2⟩ := h1.push ⟨id, a⟩
      go_wp2_with fail
      go_ret
      refine ⟨rfl, Sat.queue_shut (L := Hp.up L.length (L ++ [⟨id, a⟩]) L.length) (p := p) ?_ (k2.trans (h2.append_right _)) ?_ h4 hS3.pull2⟩
      · rw [up_length, List.length_append, List.length_singleton]; exact k1
      · rw [List.length_append, List.length_singleton]; have := HF.out; omega
  · rw [hid] at hhas
    have hpc : pushC room S id = 19 := by unfold pushC; rw [← hhas]; rfl
    have hps : pushS room S id a = S := by unfold pushS; rw [← hhas]; rfl
    rw [hpc, hps]
    obtain ⟨i, hi, rfl⟩ := hasId_g hid
    have c1 := place_yes hS hi
    have c2 := eis_any 0 2 (by decide) w
    have c3 := code_any 0 w hE
    generalize (Hp.g L i).id = id at *
    clear hhas hpc hps hid hi h1 h2 h3 h4 hS
    go_enter Tryz.func46, Tryz.ntmps46
    go_wp2_with fail
    refine c1.mono ?_
    rintro e w1 ⟨rfl, rfl⟩
    go_wp2_with fail
    refine c2.mono ?_
    rintro e w1 ⟨rfl, rfl⟩
    go_wp2_with fail
    refine c3.mono ?_
    rintro e w2 ⟨rfl, hb2⟩
    go_wp2_with fail
    go_ret
    exact ⟨rfl, h.below_ hb2⟩
theorem qPush_nil (id a : Int) (w : World) : Calls Tryz.prog 46 #[.pointer none, .int .i64 id, .int .u64 a] w fun e w' => e = .returned (errV 2) ∧ w' = w := by
  go_enter Tryz.func46, Tryz.ntmps46
  go_wp2_with fail
  refine (place_nil id w).mono ?_
  rintro e w1 ⟨rfl, rfl⟩
  go_wp2_with fail
  refine (eis_any 2 2 (by decide) _).mono ?_
  rintro e w1 ⟨rfl, rfl⟩
  go_wp2_with fail
  go_ret
  exact ⟨rfl, rfl⟩
end
end Go.Proofs.YtepaanpdjadakaaGreatDoor

/-! The queue's Move, Cancel, At, Next. -/
namespace Go.Proofs.YtepaanpdjadakaaGreatDoor
open Go Go.RowKit

def noneC (S : List Ent) (id : Int) : Int := if hasId S id then 0 else 20
section
variable {B : Nat} {w0 w w' : World} {F : HP} {p q room : Nat} {L S : List Ent}
theorem noneC_yes {S : List Ent} {id : Int} (h : hasId S id = true) : noneC S id = 0 := by unfold noneC; rw [h]; rfl
theorem noneC_no {S : List Ent} {id : Int} (h : hasId S id = false) : noneC S id = 20 := by unfold noneC; rw [h]; rfl
theorem withDue_no {S : List Ent} {id a : Int} (h : hasId S id = false) : withDue S id a = S := by
  unfold withDue
  have : ∀ e ∈ S, (if e.id = id then (⟨id, a⟩ : Ent) else e) = e := by
    intro e he
    unfold hasId at h
    rw [List.any_eq_false] at h
    rw [if_neg]
    intro h2
    exact h e he (by simpa using h2)
  rw [List.map_congr_left this]
  simp
theorem without_no {S : List Ent} {id : Int} (h : hasId S id = false) : without S id = S := by
  unfold without
  rw [List.filter_eq_self]
  intro e he
  unfold hasId at h
  rw [List.any_eq_false] at h
  rw [bne_iff_ne]
  intro h2
  exact h e he (by simpa using h2)
theorem setAt_enc (e : Ent) (a : Int) (cur : Array Value) (i : Nat) (hc : cur.toList.take (L.length * 2) = L.flatMap Ent.enc) (hle : L.length * 2 ≤ cur.size) (hi : i < L.length) (he : Hp.g L i = e) :
    splice cur (i * 2 + 1) [.int .u64 a] = splice cur (i * 2) (Ent.enc ⟨e.id, a⟩) := by
  have h0 : cur[i * 2]? = some (.int .i64 e.id) := by
    have := cur_at Ent.enc_length hc (g_get hi) 0 _ rfl
    rw [he] at this
    simpa using this
  apply Array.ext_getElem?
  intro j
  rw [splice_get (by simp; omega), splice_get (by rw [Ent.enc_length]; omega)]
  have el := Ent.enc_length ⟨e.id, a⟩
  have x0 : (Ent.enc ⟨e.id, a⟩)[0]? = some (.int .i64 e.id) := rfl
  have x1 : (Ent.enc ⟨e.id, a⟩)[1]? = some (.int .u64 a) := rfl
  have y0 : ([.int .u64 a] : List Value)[0]? = some (.int .u64 a) := rfl
  have yl : ([.int .u64 a] : List Value).length = 1 := rfl
  generalize Ent.enc ⟨e.id, a⟩ = E at *
  generalize ([.int .u64 a] : List Value) = E1 at *
  rw [el, yl]
  by_cases h1 : j < i * 2
  · rw [if_pos (by omega), if_pos h1]
  · by_cases h2 : j = i * 2
    · subst h2
      rw [if_pos (by omega), if_neg h1, if_pos (by omega), h0, Nat.sub_self, x0]
    · by_cases h3 : j = i * 2 + 1
      · subst h3
        rw [if_neg (by omega), if_pos (by omega), if_neg h1, if_pos (by omega), Nat.sub_self, y0, show i * 2 + 1 - i * 2 = 1 by omega, x1]
      · rw [if_neg (by omega), if_neg (by omega), if_neg h1, if_neg (by omega)]
set_option maxRecDepth 8000 in
set_option maxHeartbeats 2000000 in
theorem qMove_any (h : Sat B w0 w (queue q room S • F)) (id a : Int) : Calls Tryz.prog 31 #[.pointer (some ⟨q, 0, none⟩), .int .i64 id, .int .u64 a] w fun e w' =>
    e = .returned (errV (noneC S id)) ∧ Sat B w0 w' (queue q room (withDue S id a) • F) := by
  obtain ⟨p, L, h1, h2, h3, h4, hS⟩ := h.queue_open
  have hhas := hasId_perm h2 id
  have e0 : errV 0 = .nilIface := rfl
  have e20 : errV 20 = .iface 50 (.int .i64 20) := rfl
  cases hid : hasId L id
  · rw [hid] at hhas
    rw [noneC_no hhas.symm, withDue_no hhas.symm]
    have c1 := place_no hS hid
    rw [e20] at c1
    clear hhas hid h1 h2 h3 h4 hS
    go_enter Tryz.func31, Tryz.ntmps31
    go_wp2_with fail
    refine c1.mono ?_
    rintro e w1 ⟨rfl, rfl⟩
    go_wp2_with fail
    go_ret
    exact ⟨rfl, h⟩
  · rw [hid] at hhas
    rw [noneC_yes hhas.symm]
    obtain ⟨i, hi, rfl⟩ := hasId_g hid
    have c1 := place_yes hS hi
    rw [e0] at c1
    obtain ⟨f, hf⟩ := hS.pull2.pile_idx
    have hlen := h2.length_eq
    have hset := withDue_set hf hi a
    obtain ⟨g, cap, cur, mb, f', hf', r1, r2, r3, r4, hR⟩ := hS.pull2.pile_row (by omega)
    have d1 : w.cell? ⟨q, 0, none⟩ = some (.pointer (some ⟨p, 0, none⟩)) := by simp [World.cell?, hS.heap]
    have d2 : w.cell? ⟨p, 0, none⟩ = some (.slice (some ⟨g, 0, none⟩) L.length cap) := by simp [World.cell?, hR.heap]
    have hmx : L.length ≤ 9223372036854775807 := by omega
    have hsp := setAt_enc (Hp.g L i) a cur i r4 (by omega) hi rfl
    have hst := run_storeAt_row (P := Tryz.prog) (o := i * 2 + 1) (ty := 30) (v := .int .u64 a) hR.pull2.heap (by kernel_rfl) (by simp only [Value.cells, List.size_toArray, List.length_cons, List.length_nil]; omega) (by simp [Value.cells, Value.oneCell'])
    rw [show (Value.int .u64 a).cells.toList = [.int .u64 a] from rfl, hsp] at hst
    have hR2 := (hR.pull2.setRow (cs := splice cur (i * 2) (Ent.enc ⟨(Hp.g L i).id, a⟩))).pull2
    have t1 := take_splice_set (L := L) (cur := cur) Ent.enc_length (by decide) r4 rfl (by omega) hi (⟨(Hp.g L i).id, a⟩ : Ent)
    have z1 : (splice cur (i * 2) (Ent.enc ⟨(Hp.g L i).id, a⟩)).size = cur.size := splice_size (by rw [Ent.enc_length]; omega)
    have hP := Sat.pile_row_shut (L := L.set i ⟨(Hp.g L i).id, a⟩) (hf'.set hi rfl) (by rw [List.length_set]; exact r1) r2 (by rw [z1]; exact r3) (by rw [List.length_set]; exact t1) (by rw [List.length_set]; exact hR2)
    have c2 := hFix_any hP (i := i) (by rw [List.length_set]; exact hi) (by rw [List.length_set]; omega)
    rw [List.length_set] at c2
    obtain ⟨k1, k2, _⟩ := h1.fix_set hi (Nat.le_refl _) (⟨(Hp.g L i).id, a⟩ : Ent)
    have k3 : (Hp.fix (L.set i ⟨(Hp.g L i).id, a⟩) i L.length).length = L.length := by rw [fix_length, List.length_set]
    have K1 := Lib.hid k1
    have K2 := Lib.hid (k2.trans (hset ▸ withDue_perm h2 (Hp.g L i).id a))
    have K3 := Lib.hid k3
    have d3 : (w.setRow g (splice cur (i * 2) (Ent.enc ⟨(Hp.g L i).id, a⟩))).cell? ⟨q, 0, none⟩ = some (.pointer (some ⟨p, 0, none⟩)) := by
      have := hP.pull2.heap
      simp only [World.cell?, this]; rfl
    clear hP hR2 t1 z1 hR r4 r3 r1 hf hf' hset hhas hid h hS k1 k2 k3 hsp
    generalize (Hp.g L i).id = id at *
    generalize splice cur (i * 2) (Ent.enc ⟨id, a⟩) = cur2 at *
    generalize Hp.fix (L.set i ⟨id, a⟩) i L.length = L2 at *
    generalize hWW : w.setRow g cur2 = W at *
    have HW := Lib.hid hWW
    clear hWW
    go_enter Tryz.func31, Tryz.ntmps31
    go_wp2_with fail
    refine c1.mono ?_
    rintro e w1 ⟨rfl, rfl⟩
    clear c1
    go_wp2_with (refine wpList_store_run (t := 30) rfl rfl rfl rfl hst ?_)
    refine c2.mono ?_
    rintro e w3 ⟨rfl, hS3⟩
    clear c2
    go_wp2_with fail
    go_ret
    exact ⟨rfl, Sat.queue_shut (by rw [K3.out]; exact K1.out) K2.out (by rw [withDue_length]; exact h3) h4 hS3.pull2⟩
theorem qMove_nil (id a : Int) (w : World) : Calls Tryz.prog 31 #[.pointer none, .int .i64 id, .int .u64 a] w fun e w' => e = .returned (errV 2) ∧ w' = w := by
  have e2 : errV 2 = .iface 50 (.int .i64 2) := rfl
  have c1 := place_nil id w
  rw [e2] at c1
  go_enter Tryz.func31, Tryz.ntmps31
  go_wp2_with fail
  refine c1.mono ?_
  rintro e w1 ⟨rfl, rfl⟩
  go_wp2_with fail
  go_ret
  exact ⟨rfl, rfl⟩
end
end Go.Proofs.YtepaanpdjadakaaGreatDoor

/-! The queue's Cancel, At, Next. -/
namespace Go.Proofs.YtepaanpdjadakaaGreatDoor
open Go Go.RowKit

def nextV (S : List Ent) : Value := match minE S with
  | some m => .tuple #[.agg m.enc.toArray, .bool true]
  | none => .tuple #[.agg (Ent.enc ⟨0, 0⟩).toArray, .bool false]
section
variable {B : Nat} {w0 w w' : World} {F : HP} {p q room : Nat} {L S : List Ent}
set_option maxRecDepth 8000 in
set_option maxHeartbeats 2000000 in
theorem qCancel_any (h : Sat B w0 w (queue q room S • F)) (id : Int) : Calls Tryz.prog 58 #[.pointer (some ⟨q, 0, none⟩), .int .i64 id] w fun e w' =>
    e = .returned (errV (noneC S id)) ∧ Sat B w0 w' (queue q room (without S id) • F) := by
  obtain ⟨p, L, h1, h2, h3, h4, hS⟩ := h.queue_open
  have hhas := hasId_perm h2 id
  have e0 : errV 0 = .nilIface := rfl
  have e20 : errV 20 = .iface 50 (.int .i64 20) := rfl
  cases hid : hasId L id
  · rw [hid] at hhas
    rw [noneC_no hhas.symm, without_no hhas.symm]
    have c1 := place_no hS hid
    rw [e20] at c1
    clear hhas hid h1 h2 h3 h4 hS
    go_enter Tryz.func58, Tryz.ntmps58
    go_wp2_with fail
    refine c1.mono ?_
    rintro e w1 ⟨rfl, rfl⟩
    go_wp2_with fail
    go_ret
    exact ⟨rfl, h⟩
  · rw [hid] at hhas
    rw [noneC_yes hhas.symm]
    obtain ⟨i, hi, rfl⟩ := hasId_g hid
    have c1 := place_yes hS hi
    rw [e0] at c1
    obtain ⟨f, hf⟩ := hS.pull2.pile_idx
    have hlen := h2.length_eq
    have c2 := hRemove_any hS.pull2 hi (by omega)
    obtain ⟨k1, k2, k3⟩ := h1.remove hi
    have k4 := (without_of hf.nd k3).trans (without_perm h2 _)
    have d1 : w.cell? ⟨q, 0, none⟩ = some (.pointer (some ⟨p, 0, none⟩)) := by simp [World.cell?, hS.heap]
    have K1 := Lib.hid k1
    have K2 := Lib.hid k2
    have K4 := Lib.hid k4
    have hlw := without_length S (Hp.g L i).id
    generalize (Hp.g L i).id = id at *
    generalize Hp.remove L i = L2 at *
    clear hf hhas hid h hS k1 k2 k3 k4 hlen hi
    go_enter Tryz.func58, Tryz.ntmps58
    go_wp2_with fail
    refine c1.mono ?_
    rintro e w1 ⟨rfl, rfl⟩
    clear c1
    go_wp2_with fail
    refine c2.mono ?_
    rintro e w3 ⟨⟨x, rfl⟩, hS3⟩
    clear c2
    go_wp2_with fail
    go_ret
    exact ⟨rfl, Sat.queue_shut (by rw [K2.out]; exact K1.out) K4.out (by omega) h4 hS3.pull2⟩
theorem qCancel_nil (id : Int) (w : World) : Calls Tryz.prog 58 #[.pointer none, .int .i64 id] w fun e w' => e = .returned (errV 2) ∧ w' = w := by
  have e2 : errV 2 = .iface 50 (.int .i64 2) := rfl
  have c1 := place_nil id w
  rw [e2] at c1
  go_enter Tryz.func58, Tryz.ntmps58
  go_wp2_with fail
  refine c1.mono ?_
  rintro e w1 ⟨rfl, rfl⟩
  go_wp2_with fail
  go_ret
  exact ⟨rfl, rfl⟩
end
end Go.Proofs.YtepaanpdjadakaaGreatDoor

/-! The queue's Due. -/
namespace Go.Proofs.YtepaanpdjadakaaGreatDoor
open Go Go.RowKit

def lenV : Value → Nat
  | .slice _ n _ => n
  | _ => 0
theorem dueL_stop {k : Nat} {S : List Ent} {now : Int} (h : ∀ m, minE S = some m → now < m.due) : dueL k S now = ([], S) := by
  cases k with
  | zero => rfl
  | succ k =>
    rw [dueL]
    cases hm : minE S with
    | none => rfl
    | some m => simp only; rw [if_pos (h m hm)]
theorem dueL_go {k : Nat} {S : List Ent} {now : Int} {m : Ent} (hm : minE S = some m) (h : ¬ now < m.due) : dueL (k + 1) S now = (m :: (dueL k (without S m.id) now).1, (dueL k (without S m.id) now).2) := by
  rw [dueL, hm]; simp only; rw [if_neg h]
theorem dueL_fuel : ∀ (k j : Nat) (S : List Ent) (now : Int), S.length ≤ k → S.length ≤ j → dueL k S now = dueL j S now := by
  intro k
  induction k with
  | zero =>
    intro j S now hk hj
    obtain rfl : S = [] := List.eq_nil_of_length_eq_zero (by omega)
    rw [dueL_stop (by simp [minE]), dueL_stop (by simp [minE])]
  | succ k ih =>
    intro j S now hk hj
    by_cases hs : ∃ m, minE S = some m ∧ ¬ now < m.due
    · obtain ⟨m, hm, hd⟩ := hs
      have hl := without_lt (minE_mem hm).1
      cases j with
      | zero => omega
      | succ j => rw [dueL_go hm hd, dueL_go hm hd, ih j _ _ (by omega) (by omega)]
    · have : ∀ m, minE S = some m → now < m.due := fun m hm => by
        by_cases hd : now < m.due
        · exact hd
        · exact absurd ⟨m, hm, hd⟩ hs
      rw [dueL_stop this, dueL_stop this]
section
variable {B : Nat} {w0 w w' : World} {F : HP} {p q room : Nat} {L S : List Ent}
end
end Go.Proofs.YtepaanpdjadakaaGreatDoor

/-! What is due, in plain words. -/
namespace Go.Proofs.YtepaanpdjadakaaGreatDoor

theorem Ent.lt_of {a b : Ent} (h : b.lt a = false) (hne : a.id ≠ b.id) : a.lt b = true := by
  cases h2 : a.lt b with
  | true => rfl
  | false => exact absurd (congrArg Ent.id (Ent.eq_of_le h2 h)) hne
theorem Nd.without {S : List Ent} (h : Nd S) (id : Int) : Nd (without S id) := by
  unfold Nd YtepaanpdjadakaaGreatDoor.without at *
  exact (List.filter_sublist.map _).nodup h
theorem mem_without {S : List Ent} {id : Int} {x : Ent} : x ∈ without S id ↔ x ∈ S ∧ x.id ≠ id := by
  unfold without; rw [List.mem_filter, bne_iff_ne]
theorem without_perm_of {S : List Ent} {m : Ent} (h : Nd S) (hm : m ∈ S) : (m :: without S m.id).Perm S := by
  induction S with
  | nil => cases hm
  | cons e r ih =>
    unfold Nd at h
    rw [List.map_cons, List.nodup_cons] at h
    unfold without
    rw [List.filter_cons]
    rcases List.mem_cons.1 hm with rfl | hm
    · simp only [bne_self_eq_false, Bool.false_eq_true, if_false]
      have : r.filter (fun e => e.id != m.id) = r := by
        rw [List.filter_eq_self]
        intro x hx
        rw [bne_iff_ne]
        intro e
        exact h.1 (List.mem_map.2 ⟨x, hx, e⟩)
      rw [this]
    · have hne : (e.id != m.id) = true := by
        rw [bne_iff_ne]; intro e1; exact h.1 (List.mem_map.2 ⟨m, hm, e1.symm⟩)
      rw [hne, if_pos rfl]
      exact (List.Perm.swap _ _ _).trans ((ih h.2 hm).cons e)
theorem dueL_spec : ∀ (k : Nat) (S : List Ent) (now : Int), S.length ≤ k → Nd S →
    ((dueL k S now).1 ++ (dueL k S now).2).Perm S ∧ (∀ x ∈ (dueL k S now).1, x.due ≤ now) ∧ (∀ x ∈ (dueL k S now).2, now < x.due) ∧ (dueL k S now).1.Pairwise (fun a b => a.lt b = true) := by
  intro k
  induction k with
  | zero =>
    intro S now hk _
    obtain rfl : S = [] := List.eq_nil_of_length_eq_zero (by omega)
    simp [dueL]
  | succ k ih =>
    intro S now hk hn
    by_cases hs : ∃ m, minE S = some m ∧ ¬ now < m.due
    · obtain ⟨m, hm, hd⟩ := hs
      obtain ⟨hm1, hm2⟩ := minE_mem hm
      obtain ⟨h1, h2, h3, h4⟩ := ih (without S m.id) now (by have := without_lt hm1; omega) (hn.without _)
      rw [dueL_go hm hd]
      refine ⟨?_, ?_, h3, ?_⟩
      · exact (List.Perm.cons m h1).trans (without_perm_of hn hm1)
      · intro x hx
        rcases List.mem_cons.1 hx with rfl | hx
        · omega
        · exact h2 x hx
      · rw [List.pairwise_cons]
        refine ⟨fun y hy => ?_, h4⟩
        have hy2 : y ∈ without S m.id := h1.mem_iff.1 (List.mem_append_left _ hy)
        rw [mem_without] at hy2
        exact Ent.lt_of (hm2 y hy2.1) (Ne.symm hy2.2)
    · have hs' : ∀ m, minE S = some m → now < m.due := fun m hm => by
        by_cases hd : now < m.due
        · exact hd
        · exact absurd ⟨m, hm, hd⟩ hs
      rw [dueL_stop hs']
      refine ⟨by simp, by simp, ?_, by simp⟩
      intro x hx
      cases hm : minE S with
      | none => rw [minE_none] at hm; subst hm; cases hx
      | some m =>
        have h1 := hs' m hm
        have h2 := (minE_mem hm).2 x hx
        rw [Ent.lt_false] at h2
        omega
theorem dueL_count {k : Nat} {S : List Ent} {now : Int} (hk : S.length ≤ k) (hn : Nd S) : (dueL k S now).1.length = S.countP (fun e => decide (e.due ≤ now)) ∧ (dueL k S now).2.length = S.length - S.countP (fun e => decide (e.due ≤ now)) := by
  obtain ⟨h1, h2, h3, _⟩ := dueL_spec k S now hk hn
  have hc := h1.countP_eq (fun e => decide (e.due ≤ now))
  rw [List.countP_append] at hc
  have e1 : (dueL k S now).1.countP (fun e => decide (e.due ≤ now)) = (dueL k S now).1.length := by
    rw [List.countP_eq_length]; intro x hx; simpa using h2 x hx
  have e2 : (dueL k S now).2.countP (fun e => decide (e.due ≤ now)) = 0 := by
    rw [List.countP_eq_zero]; intro x hx; have := h3 x hx; simp; omega
  have hl := h1.length_eq
  rw [List.length_append] at hl
  omega
/-- Entries pushed one behind the other, with numbers from 0 on. -/
def entsOf (zs : List Int) (k : Nat) : List Ent := (List.range k).map fun (i : Nat) => ⟨(i : Int), zs.getD i 0⟩
theorem entsOf_length (zs : List Int) (k : Nat) : (entsOf zs k).length = k := by simp [entsOf]
theorem entsOf_succ (zs : List Int) (k : Nat) : entsOf zs (k + 1) = entsOf zs k ++ [⟨(k : Int), zs.getD k 0⟩] := by simp [entsOf, List.range_succ]
theorem mem_ents {zs : List Int} {k : Nat} {x : Ent} : x ∈ entsOf zs k ↔ ∃ i : Nat, i < k ∧ x = ⟨(i : Int), zs.getD i 0⟩ := by
  unfold entsOf
  rw [List.mem_map]
  constructor
  · rintro ⟨i, hi, rfl⟩; exact ⟨i, by simpa using hi, rfl⟩
  · rintro ⟨i, hi, rfl⟩; exact ⟨i, by simpa using hi, rfl⟩
theorem ents_has (zs : List Int) (k : Nat) : hasId (entsOf zs k) k = false := by
  unfold hasId
  rw [List.any_eq_false]
  intro x hx e
  obtain ⟨i, hi, rfl⟩ := mem_ents.1 hx
  have : (i : Int) = k := by simpa using e
  omega
theorem ents_push {room : Nat} (zs : List Int) (k : Nat) (h : k < room) : pushC room (entsOf zs k) k = 0 ∧ pushS room (entsOf zs k) k (zs.getD k 0) = entsOf zs (k + 1) := by
  unfold pushC pushS
  rw [ents_has, entsOf_length, entsOf_succ]
  simp only [Bool.false_eq_true, if_false]
  rw [if_neg (by omega), if_neg (by omega)]
  exact ⟨rfl, rfl⟩
theorem ents_nd (zs : List Int) (k : Nat) : Nd (entsOf zs k) := by
  unfold Nd entsOf
  rw [List.map_map]
  rw [List.nodup_iff_pairwise_ne, List.pairwise_map]
  refine List.Pairwise.imp ?_ (List.nodup_iff_pairwise_ne.1 List.nodup_range)
  intro a b h e
  simp only [Function.comp] at e
  omega
def cntOf (zs : List Int) (now : Int) (k : Nat) : Nat := (entsOf zs k).countP fun e => decide (e.due ≤ now)
theorem cnt_succ (zs : List Int) (now : Int) (k : Nat) : cntOf zs now (k + 1) = cntOf zs now k + if zs.getD k 0 ≤ now then 1 else 0 := by
  unfold cntOf
  rw [entsOf_succ, List.countP_append, List.countP_singleton]
  simp
theorem cnt_le (zs : List Int) (now : Int) (k : Nat) : cntOf zs now k ≤ k := by
  have := List.countP_le_length (p := fun e : Ent => decide (e.due ≤ now)) (l := entsOf zs k)
  rw [entsOf_length] at this
  exact this
end Go.Proofs.YtepaanpdjadakaaGreatDoor

/-! ExpiryMoves, in plain words. -/
namespace Go.Proofs.YtepaanpdjadakaaGreatDoor

theorem fm_congr {α β : Type} {f g : α → Option β} : ∀ {l : List α}, (∀ x ∈ l, f x = g x) → l.filterMap f = l.filterMap g
  | [], _ => rfl
  | x :: l, h => by rw [List.filterMap_cons, List.filterMap_cons, h x (by simp), fm_congr (l := l) fun y hy => h y (by simp [hy])]
section
variable (zs ts : List Int) (m : Nat) (gone : Nat → Bool) (n : Nat)
def endOf (j : Nat) : Int := if j < m then ts.getD j 0 else zs.getD j 0
def mvE (i j : Nat) : Option Ent := if j < i then (if gone j then none else some ⟨(j : Int), endOf zs ts m j⟩) else some ⟨(j : Int), zs.getD j 0⟩
def mvF (i j : Nat) : Option Ent := if j = i then some ⟨(j : Int), endOf zs ts m j⟩ else mvE zs ts m gone i j
/-- Ahead of round i; in it, behind the Move. -/
def mvS (i : Nat) : List Ent := (List.range n).filterMap (mvE zs ts m gone i)
def mvT (i : Nat) : List Ent := (List.range n).filterMap (mvF zs ts m gone i)
def leftOf (i : Nat) : Nat := ((List.range i).filter fun j => !gone j).length
def endsOf (i : Nat) : List Int := (List.range n).map fun j => if j < i then endOf zs ts m j else zs.getD j 0
variable {zs ts m gone n}
theorem mvS_zero : mvS zs ts m gone n 0 = entsOf zs n := by
  unfold mvS entsOf
  rw [← List.filterMap_eq_map]
  apply fm_congr
  intro j _
  simp [mvE]
theorem mvE_id {i j : Nat} {x : Ent} (h : mvE zs ts m gone i j = some x) : x.id = j := by
  unfold mvE at h
  split at h
  · split at h
    · cases h
    · cases h; rfl
  · cases h; rfl
theorem mvF_id {i j : Nat} {x : Ent} (h : mvF zs ts m gone i j = some x) : x.id = j := by
  unfold mvF at h
  split at h
  · cases h; rfl
  · exact mvE_id h
theorem mv_with {i : Nat} (hm : i < m) : withDue (mvS zs ts m gone n i) i (ts.getD i 0) = mvT zs ts m gone n i := by
  unfold withDue mvS mvT
  rw [List.map_filterMap]
  apply fm_congr
  intro j _
  unfold mvF
  by_cases e : j = i
  · subst e
    simp [mvE, endOf, hm]
  · rw [if_neg e]
    cases h : mvE zs ts m gone i j with
    | none => rfl
    | some x =>
      have := mvE_id h
      simp only [Option.map_some, Option.some.injEq]
      rw [if_neg (by omega)]
theorem mv_stay {i : Nat} (hm : ¬ i < m) : mvT zs ts m gone n i = mvS zs ts m gone n i := by
  unfold mvS mvT
  apply fm_congr
  intro j _
  unfold mvF
  by_cases e : j = i
  · subst e
    simp [mvE, endOf, hm]
  · rw [if_neg e]
theorem mv_gone {i : Nat} (hg : gone i = true) : without (mvT zs ts m gone n i) i = mvS zs ts m gone n (i + 1) := by
  unfold without mvS mvT
  rw [List.filter_filterMap]
  apply fm_congr
  intro j _
  unfold mvF
  by_cases e : j = i
  · subst e
    simp [mvE, hg]
  · rw [if_neg e]
    have e1 : mvE zs ts m gone (i + 1) j = mvE zs ts m gone i j := by
      unfold mvE
      by_cases h : j < i
      · rw [if_pos h, if_pos (by omega)]
      · rw [if_neg h, if_neg (by omega)]
    rw [e1]
    cases h : mvE zs ts m gone i j with
    | none => rfl
    | some x =>
      have := mvE_id h
      have hb : (x.id != (i : Int)) = true := by rw [bne_iff_ne]; omega
      simp [Option.filter, hb]
theorem mv_keep {i : Nat} (hg : gone i = false) : mvT zs ts m gone n i = mvS zs ts m gone n (i + 1) := by
  unfold mvS mvT
  apply fm_congr
  intro j _
  unfold mvF
  by_cases e : j = i
  · subst e
    simp [mvE, hg]
  · rw [if_neg e]
    unfold mvE
    by_cases h : j < i
    · rw [if_pos h, if_pos (show j < i + 1 by omega)]
    · rw [if_neg h, if_neg (show ¬ j < i + 1 by omega)]
theorem mvS_has {i : Nat} (hi : i < n) : hasId (mvS zs ts m gone n i) i = true := by
  unfold hasId
  rw [List.any_eq_true]
  refine ⟨⟨(i : Int), zs.getD i 0⟩, ?_, by simp⟩
  unfold mvS
  rw [List.mem_filterMap]
  exact ⟨i, by simpa using hi, by simp [mvE]⟩
theorem mvT_has {i : Nat} (hi : i < n) : hasId (mvT zs ts m gone n i) i = true := by
  unfold hasId
  rw [List.any_eq_true]
  refine ⟨⟨(i : Int), endOf zs ts m i⟩, ?_, by simp⟩
  unfold mvT
  rw [List.mem_filterMap]
  exact ⟨i, by simpa using hi, by simp [mvF]⟩
theorem mvS_hasnt {i : Nat} (hg : gone i = true) : hasId (mvS zs ts m gone n (i + 1)) i = false := by
  rw [← mv_gone hg]
  unfold hasId
  rw [List.any_eq_false]
  intro x hx
  rw [mem_without] at hx
  simpa using hx.2
theorem mem_mvS {x : Ent} : x ∈ mvS zs ts m gone n n → ∃ j, j < n ∧ gone j = false ∧ x = ⟨(j : Int), endOf zs ts m j⟩ := by
  intro h
  unfold mvS at h
  rw [List.mem_filterMap] at h
  obtain ⟨j, hj, h⟩ := h
  have hj' : j < n := by simpa using hj
  unfold mvE at h
  rw [if_pos hj'] at h
  cases hg : gone j
  · rw [hg] at h
    simp only [Bool.false_eq_true, if_false, Option.some.injEq] at h
    exact ⟨j, hj', hg, h.symm⟩
  · rw [hg] at h
    simp at h
theorem mvS_len : (mvS zs ts m gone n n).length = leftOf gone n := by
  unfold mvS leftOf
  have : ∀ l : List Nat, (∀ j ∈ l, j < n) → (l.filterMap (mvE zs ts m gone n)).length = (l.filter fun j => !gone j).length := by
    intro l
    induction l with
    | nil => intro _; rfl
    | cons j l ih =>
      intro h
      have h1 := ih (fun k hk => h k (List.mem_cons_of_mem _ hk))
      have h2 := h j (by simp)
      rw [List.filterMap_cons, List.filter_cons]
      unfold mvE
      rw [if_pos h2]
      cases hg : gone j
      · simp; exact h1
      · simp; exact h1
  exact this _ (fun j hj => by simpa using hj)
theorem mvS_nd {i : Nat} : Nd (mvS zs ts m gone n i) := by
  unfold Nd mvS
  have : ∀ l : List Nat, l.Nodup → ((l.filterMap (mvE zs ts m gone i)).map (·.id)).Nodup ∧ ∀ x ∈ l.filterMap (mvE zs ts m gone i), ∃ j ∈ l, x.id = (j : Int) := by
    intro l
    induction l with
    | nil => intro _; simp
    | cons j l ih =>
      intro h
      rw [List.nodup_cons] at h
      obtain ⟨h1, h2⟩ := ih h.2
      rw [List.filterMap_cons]
      cases hx : mvE zs ts m gone i j with
      | none => exact ⟨h1, fun x hx => by obtain ⟨k, hk, e⟩ := h2 x hx; exact ⟨k, List.mem_cons_of_mem _ hk, e⟩⟩
      | some x =>
        have hid := mvE_id hx
        refine ⟨?_, ?_⟩
        · simp only [List.map_cons, List.nodup_cons]
          refine ⟨fun hm => ?_, h1⟩
          obtain ⟨y, hy, e⟩ := List.mem_map.1 hm
          obtain ⟨k, hk, e2⟩ := h2 y hy
          have : k = j := by omega
          subst this
          exact h.1 hk
        · intro y hy
          rcases List.mem_cons.1 hy with rfl | hy
          · exact ⟨j, by simp, hid⟩
          · obtain ⟨k, hk, e⟩ := h2 y hy; exact ⟨k, List.mem_cons_of_mem _ hk, e⟩
  exact (this _ List.nodup_range).1
theorem left_succ (i : Nat) : leftOf gone (i + 1) = leftOf gone i + if gone i then 0 else 1 := by
  unfold leftOf
  rw [List.range_succ, List.filter_append, List.length_append]
  cases hg : gone i <;> simp [hg]
theorem left_le (i : Nat) : leftOf gone i ≤ i := by
  unfold leftOf
  have := List.length_filter_le (fun j => !gone j) (List.range i)
  simpa using this
theorem ends_length (i : Nat) : (endsOf zs ts m n i).length = n := by simp [endsOf]
theorem ends_get {i j : Nat} (hj : j < n) : (endsOf zs ts m n i)[j]? = some (if j < i then endOf zs ts m j else zs.getD j 0) := by
  unfold endsOf
  rw [List.getElem?_map, List.getElem?_range hj]; rfl
theorem ends_set {i : Nat} (hi : i < n) (hm : i < m) : (endsOf zs ts m n i).set i (ts.getD i 0) = endsOf zs ts m n (i + 1) := by
  apply List.ext_getElem?
  intro j
  rw [List.getElem?_set]
  by_cases hj : j < n
  · rw [ends_get hj, ends_get hj]
    by_cases e : i = j
    · subst e
      rw [if_pos rfl, if_pos (by rw [ends_length]; exact hi)]
      simp [endOf, hm]
    · rw [if_neg e]
      congr 1
      by_cases h : j < i
      · rw [if_pos h, if_pos (by omega)]
      · rw [if_neg h, if_neg (by omega)]
  · rw [List.getElem?_eq_none (by rw [ends_length]; omega), List.getElem?_eq_none (by rw [ends_length]; omega)]
    rw [if_neg (by omega)]
theorem ends_stay {i : Nat} (hm : ¬ i < m) : endsOf zs ts m n (i + 1) = endsOf zs ts m n i := by
  unfold endsOf
  apply List.map_congr_left
  intro j _
  by_cases h : j < i
  · rw [if_pos h, if_pos (by omega)]
  · rw [if_neg h]
    by_cases e : j = i
    · subst e; simp [endOf, hm]
    · rw [if_neg (by omega)]
theorem ends_zero : endsOf zs ts m n 0 = (List.range n).map fun j => zs.getD j 0 := by
  unfold endsOf
  apply List.map_congr_left
  intro j _
  simp
end
end Go.Proofs.YtepaanpdjadakaaGreatDoor
