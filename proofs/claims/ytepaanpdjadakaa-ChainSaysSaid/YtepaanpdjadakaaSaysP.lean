import Derived.Test.YtepaanpdjadakaaTells
/-! ChainSays, in plain words. -/
namespace Go.Proofs.Ytepaanpdjadakaa

def lessOf (t r : Int) : Int := if r < t then r else t
/-- The way on from a name: the names behind it, and the least time. -/
def Path (l : List Rec) : List ByteArray → ByteArray → Int → ByteArray → Int → Prop
  | [], a, t, z, T => a = z ∧ t = T
  | b :: rest, a, t, z, T => ∃ r, nextOf l a = some r ∧ r.tgt = b ∧ Path l rest b (if r.ttl < t then r.ttl else t) z T
theorem follow_path (l : List Rec) : ∀ (k : Nat) (names : List ByteArray) (nm : ByteArray) (tl : Int), (followFrom l k names nm tl).2 ≠ [] →
    ∃ ext z T, (followFrom l k names nm tl).2 = names ++ ext ∧ Path l ext nm tl z T ∧ (followFrom l k names nm tl).1 = foundOf l z T := by
  intro k
  induction k with
  | zero => intro names nm tl h; exact absurd rfl h
  | succ k ih =>
    intro names nm tl h
    cases hn : nextOf l nm with
    | none =>
      rw [follow_none hn]
      exact ⟨[], nm, tl, by simp, ⟨rfl, rfl⟩, rfl⟩
    | some r =>
      by_cases h2 : hasName names r.tgt = true ∨ 16 ≤ names.length
      · rw [follow_stop hn h2] at h; exact absurd rfl h
      · have e := follow_go (l := l) (k := k) (tl := tl) hn (by simpa using fun e => h2 (.inl e)) (fun e => h2 (.inr e))
        rw [e] at h ⊢
        obtain ⟨ext, z, T, h3, h4, h5⟩ := ih _ _ _ h
        exact ⟨r.tgt :: ext, z, T, by rw [h3]; simp, ⟨r, hn, rfl, h4⟩, h5⟩
theorem follow_empty (l : List Rec) : ∀ (k : Nat) (names : List ByteArray) (nm : ByteArray) (tl : Int), names ≠ [] → (followFrom l k names nm tl).2 = [] → (followFrom l k names nm tl).1 = [] := by
  intro k
  induction k with
  | zero => intro names nm tl _ _; rfl
  | succ k ih =>
    intro names nm tl hne h
    cases hn : nextOf l nm with
    | none => rw [follow_none hn] at h; exact absurd h hne
    | some r =>
      by_cases h2 : hasName names r.tgt = true ∨ 16 ≤ names.length
      · rw [follow_stop hn h2]
      · have e := follow_go (l := l) (k := k) (tl := tl) hn (by simpa using fun e => h2 (.inl e)) (fun e => h2 (.inr e))
        rw [e] at h ⊢
        exact ih _ _ _ (by simp) h
/-- What the law looks for at a step. -/
def isStep (a b : ByteArray) (r : Rec) : Bool := (r.typ == 5) && (r.cls == 1) && (r.name.toList == a.toList) && (r.tgt.toList == b.toList)
theorem find_sub {α : Type} {p q : α → Bool} {l : List α} {x : α} (h : l.find? p = some x) (hq : q x = true) (hs : ∀ y, q y = true → p y = true) : l.find? q = some x := by
  induction l with
  | nil => cases h
  | cons y l ih =>
    rw [List.find?_cons] at h ⊢
    cases hp : p y with
    | true => rw [hp] at h; cases h; rw [hq]
    | false =>
      rw [hp] at h
      have : q y = false := by
        cases hqy : q y with
        | true => rw [hs y hqy] at hp; cases hp
        | false => rfl
      rw [this]
      exact ih h
theorem step_found {l : List Rec} {a : ByteArray} {r : Rec} (h : nextOf l a = some r) : l.find? (isStep a r.tgt) = some r := by
  unfold nextOf at h
  have h1 := List.find?_some h
  simp only [Rec.isAlias, Bool.and_eq_true] at h1
  refine find_sub h ?_ ?_
  · unfold isStep
    rw [h1.1.2, h1.1.1, h1.2, show (r.tgt.toList == r.tgt.toList) = true from isrefl _]; rfl
  · intro y hy
    unfold isStep at hy
    simp only [Bool.and_eq_true] at hy
    simp only [Rec.isAlias, hy.1.1.1, hy.1.1.2, hy.1.2, Bool.and_self]
/-- What the law looks for at an address that was found. -/
def isHit (z : ByteArray) (T : Int) (f : Fnd) (r : Rec) : Bool :=
  (((r.typ == 1) || (r.typ == 28)) && (r.cls == 1)) && (r.name.toList == z.toList) && decide (r.addr = f.addr) && (f.ttl == if r.ttl < T then r.ttl else T)
theorem found_hit (l : List Rec) (z : ByteArray) (T : Int) : ∀ f ∈ foundOf l z T, l.any (isHit z T f) = true := by
  have key : ∀ (l : List Rec) (out : List Fnd) (f : Fnd), f ∈ l.foldl (addFound z T) out → f ∈ out ∨ l.any (isHit z T f) = true := by
    intro l
    induction l with
    | nil => intro out f h; exact .inl h
    | cons r l ih =>
      intro out f h
      rw [List.foldl_cons] at h
      rcases ih _ f h with h | h
      · unfold addFound at h
        split at h
        · rename_i hc
          rw [List.mem_append, List.mem_singleton] at h
          rcases h with h | rfl
          · exact .inl h
          · right
            simp only [Bool.and_eq_true] at hc
            rw [List.any_cons]
            have : isHit z T ⟨r.addr, if r.ttl < T then r.ttl else T⟩ r = true := by
              have h1 := hc.1.1
              unfold Rec.isAddr at h1
              simp only [Bool.and_eq_true] at h1
              unfold isHit
              simp only [h1.1, h1.2, hc.1.2, decide_true, beq_self_eq_true, Bool.and_self]
            rw [this]; rfl
        · exact .inl h
      · right
        rw [List.any_cons, h]; simp
  intro f hf
  rcases key l [] f hf with h | h
  · cases h
  · exact h
end Go.Proofs.Ytepaanpdjadakaa
