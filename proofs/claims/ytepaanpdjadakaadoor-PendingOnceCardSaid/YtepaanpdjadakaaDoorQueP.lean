import Derived.Test.YtepaanpdjadakaaDoorExp2
/-! What a queue holds, in plain words. -/
namespace Go.Proofs.YtepaanpdjadakaaDoor

def Nd (S : List Ent) : Prop := (S.map (·.id)).Nodup
def hasId (S : List Ent) (id : Int) : Bool := S.any fun e => e.id == id
def withDue (S : List Ent) (id a : Int) : List Ent := S.map fun e => if e.id = id then ⟨id, a⟩ else e
def without (S : List Ent) (id : Int) : List Ent := S.filter fun e => e.id != id
def dueAt (S : List Ent) (id : Int) : Option Int := (S.find? fun e => e.id == id).map (·.due)
def minE : List Ent → Option Ent
  | [] => none
  | e :: r => match minE r with
    | none => some e
    | some m => some (if m.lt e then m else e)
def dueL : Nat → List Ent → Int → List Ent × List Ent
  | 0, S, _ => ([], S)
  | k + 1, S, now => match minE S with
    | none => ([], S)
    | some m => if now < m.due then ([], S) else (m :: (dueL k (without S m.id) now).1, (dueL k (without S m.id) now).2)

theorem minE_none {S : List Ent} : minE S = none ↔ S = [] := by
  cases S with
  | nil => simp [minE]
  | cons e r =>
    simp only [minE]
    cases minE r <;> simp
theorem minE_mem : ∀ {S : List Ent} {m : Ent}, minE S = some m → m ∈ S ∧ ∀ x ∈ S, x.lt m = false := by
  intro S
  induction S with
  | nil => intro m h; simp [minE] at h
  | cons e r ih =>
    intro m h
    simp only [minE] at h
    cases hr : minE r with
    | none =>
      rw [hr] at h
      cases h
      have := minE_none.1 hr
      subst this
      exact ⟨by simp, by intro x hx; simp at hx; subst hx; exact Ent.lt_irrefl _⟩
    | some k =>
      rw [hr] at h
      simp only [Option.some.injEq] at h
      obtain ⟨h1, h2⟩ := ih hr
      by_cases hk : k.lt e = true
      · rw [if_pos hk] at h
        subst h
        refine ⟨by simp [h1], fun x hx => ?_⟩
        rcases List.mem_cons.1 hx with rfl | hx
        · exact Ent.le_of_lt hk
        · exact h2 x hx
      · rw [if_neg hk] at h
        subst h
        have hk' : k.lt e = false := by simpa using hk
        refine ⟨by simp, fun x hx => ?_⟩
        rcases List.mem_cons.1 hx with rfl | hx
        · exact Ent.lt_irrefl _
        · exact Ent.le_trans hk' (h2 x hx)
theorem minE_of {S : List Ent} {m : Ent} (h1 : m ∈ S) (h2 : ∀ x ∈ S, x.lt m = false) : minE S = some m := by
  cases h : minE S with
  | none => rw [minE_none] at h; subst h; cases h1
  | some k =>
    obtain ⟨h3, h4⟩ := minE_mem h
    rw [Ent.eq_of_le (h2 k h3) (h4 m h1)]
theorem minE_perm {L S : List Ent} (h : L.Perm S) : minE L = minE S := by
  cases hS : minE S with
  | none =>
    rw [minE_none] at hS ⊢
    subst hS
    exact h.eq_nil
  | some m =>
    obtain ⟨h1, h2⟩ := minE_mem hS
    exact minE_of (h.mem_iff.2 h1) (fun x hx => h2 x (h.mem_iff.1 hx))
theorem g_mem {L : List Ent} {i : Nat} (h : i < L.length) : Hp.g L i ∈ L := List.mem_of_getElem? (g_get h)
theorem mem_g {L : List Ent} {x : Ent} (h : x ∈ L) : ∃ i, i < L.length ∧ Hp.g L i = x := by
  obtain ⟨i, hi⟩ := List.mem_iff_getElem?.1 h
  have hl := (List.getElem?_eq_some_iff.1 hi).1
  exact ⟨i, hl, Option.some.inj ((g_get hl).symm.trans hi)⟩
theorem minE_heap {L : List Ent} (h : Hp.Is L L.length) (hl : 0 < L.length) : minE L = some (Hp.g L 0) :=
  minE_of (g_mem hl) fun x hx => by
    obtain ⟨i, hi, rfl⟩ := mem_g hx
    exact h.min i hi
theorem Nd.perm {L S : List Ent} (h : Nd L) (p : L.Perm S) : Nd S := (p.map _).nodup_iff.1 h
theorem IsIdx.nd {L : List Ent} {f : Int → Option Int} (h : IsIdx L f) : Nd L := by
  unfold Nd
  rw [List.nodup_iff_pairwise_ne, List.pairwise_map, List.pairwise_iff_getElem]
  intro i j hi hj hij e
  have e1 : L[i] = Hp.g L i := by rw [← Option.some_inj, ← g_get hi, List.getElem?_eq_getElem hi]
  have e2 : L[j] = Hp.g L j := by rw [← Option.some_inj, ← g_get hj, List.getElem?_eq_getElem hj]
  rw [e1, e2] at e
  have := h.inj hi hj e
  omega
theorem hasId_perm {L S : List Ent} (p : L.Perm S) (id : Int) : hasId L id = hasId S id := by
  unfold hasId
  rw [Bool.eq_iff_iff, List.any_eq_true, List.any_eq_true]
  constructor
  · rintro ⟨x, h1, h2⟩; exact ⟨x, p.mem_iff.1 h1, h2⟩
  · rintro ⟨x, h1, h2⟩; exact ⟨x, p.mem_iff.2 h1, h2⟩
theorem IsIdx.has {L : List Ent} {f : Int → Option Int} (h : IsIdx L f) (id : Int) : (f id).isSome = hasId L id := by
  unfold hasId
  cases hf : f id with
  | none =>
    symm
    rw [Option.isSome_none, List.any_eq_false]
    intro x hx e
    obtain ⟨i, hi, rfl⟩ := mem_g hx
    have := (h id i).2 ⟨i, rfl, hi, by simpa using e⟩
    rw [hf] at this; cases this
  | some n =>
    symm
    rw [Option.isSome_some, List.any_eq_true]
    obtain ⟨i, _, hi, e⟩ := (h id n).1 hf
    exact ⟨_, g_mem hi, by simpa using e⟩
theorem without_of {g : Ent} {R L : List Ent} (h : Nd L) (p : (g :: R).Perm L) : R.Perm (without L g.id) := by
  have h1 := p.filter (fun e => e.id != g.id)
  have hn : Nd (g :: R) := h.perm p.symm
  unfold Nd at hn
  rw [List.map_cons, List.nodup_cons] at hn
  have h2 : (g :: R).filter (fun e => e.id != g.id) = R := by
    rw [List.filter_cons]
    simp only [bne_self_eq_false, Bool.false_eq_true, if_false]
    rw [List.filter_eq_self]
    intro x hx
    rw [bne_iff_ne]
    intro e
    exact hn.1 (List.mem_map.2 ⟨x, hx, e⟩)
  rw [h2] at h1
  exact h1
theorem without_perm {L S : List Ent} (p : L.Perm S) (id : Int) : (without L id).Perm (without S id) := p.filter _
theorem withDue_perm {L S : List Ent} (p : L.Perm S) (id a : Int) : (withDue L id a).Perm (withDue S id a) := p.map _
theorem withDue_set {L : List Ent} {f : Int → Option Int} (h : IsIdx L f) {i : Nat} (hi : i < L.length) (a : Int) : L.set i ⟨(Hp.g L i).id, a⟩ = withDue L (Hp.g L i).id a := by
  apply List.ext_getElem?
  intro j
  unfold withDue
  rw [List.getElem?_set, List.getElem?_map]
  by_cases e : i = j
  · subst e
    rw [if_pos rfl, if_pos hi, g_get hi]
    simp
  · rw [if_neg e]
    by_cases hj : j < L.length
    · rw [g_get hj]
      simp only [Option.map_some, Option.some.injEq]
      rw [if_neg]
      intro e2
      exact e (h.inj hi hj e2.symm)
    · rw [List.getElem?_eq_none (by omega)]; rfl
theorem withDue_length (S : List Ent) (id a : Int) : (withDue S id a).length = S.length := by simp [withDue]
theorem without_length (S : List Ent) (id : Int) : (without S id).length ≤ S.length := List.length_filter_le _ _
theorem without_lt {S : List Ent} {m : Ent} (h : m ∈ S) : (without S m.id).length < S.length := by
  unfold without
  rw [List.length_filter_lt_length_iff_exists]
  exact ⟨m, h, by simp⟩
theorem dueAt_of {S : List Ent} (h : Nd S) {x : Ent} (hx : x ∈ S) : dueAt S x.id = some x.due := by
  unfold dueAt
  induction S with
  | nil => cases hx
  | cons e r ih =>
    unfold Nd at h
    rw [List.map_cons, List.nodup_cons] at h
    rw [List.find?_cons]
    rcases List.mem_cons.1 hx with rfl | hx
    · simp
    · have : (e.id == x.id) = false := by
        simp only [beq_eq_false_iff_ne]
        intro e1
        exact h.1 (List.mem_map.2 ⟨x, hx, e1.symm⟩)
      rw [this]
      exact ih h.2 hx
theorem dueAt_perm {L S : List Ent} (h : Nd L) (p : L.Perm S) (id : Int) : dueAt L id = dueAt S id := by
  have hS : Nd S := h.perm p
  cases hq : S.find? fun e => e.id == id with
  | none =>
    have h1 : dueAt S id = none := by unfold dueAt; rw [hq]; rfl
    rw [h1]
    unfold dueAt
    rw [List.find?_eq_none.2]
    · rfl
    · intro x hx
      exact List.find?_eq_none.1 hq x (p.mem_iff.1 hx)
  | some x =>
    have hx := List.mem_of_find?_eq_some hq
    have he : x.id = id := by simpa using List.find?_some hq
    subst he
    rw [dueAt_of hS hx, dueAt_of h (p.mem_iff.2 hx)]
theorem dueAt_none {S : List Ent} {id : Int} (h : hasId S id = false) : dueAt S id = none := by
  unfold dueAt
  rw [List.find?_eq_none.2]
  · rfl
  · intro x hx e
    unfold hasId at h
    rw [List.any_eq_false] at h
    exact h x hx e
end Go.Proofs.YtepaanpdjadakaaDoor
