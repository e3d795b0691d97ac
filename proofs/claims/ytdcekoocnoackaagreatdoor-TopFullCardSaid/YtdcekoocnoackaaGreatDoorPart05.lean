import Derived.RowKit
import Derived.WalkKit
import Derived.Laws.StructEq

/-! Binary heaps of entries, as lists. -/
namespace Go.Proofs.YtdcekoocnoackaaGreatDoor
/-- An entry: an id, and when it ends. -/
structure Ent where
  id : Int
  due : Int
  deriving DecidableEq, Inhabited

/-- Which of two ends first. -/
def Ent.lt (a b : Ent) : Bool := decide (a.due < b.due) || (decide (a.due = b.due) && decide (a.id < b.id))

theorem Ent.lt_iff (a b : Ent) : a.lt b = true ↔ a.due < b.due ∨ (a.due = b.due ∧ a.id < b.id) := by
  simp [Ent.lt]
theorem Ent.lt_false (a b : Ent) : a.lt b = false ↔ ¬ (a.due < b.due ∨ (a.due = b.due ∧ a.id < b.id)) := by
  rw [← Ent.lt_iff]; simp
theorem Ent.lt_irrefl (a : Ent) : a.lt a = false := by rw [Ent.lt_false]; omega
theorem Ent.le_trans {a b c : Ent} (h : b.lt a = false) (k : c.lt b = false) : c.lt a = false := by
  rw [Ent.lt_false] at *; omega
theorem Ent.le_of_lt {a b : Ent} (h : a.lt b = true) : b.lt a = false := by
  rw [Ent.lt_iff] at h; rw [Ent.lt_false]; omega
namespace Hp
def g (l : List Ent) (i : Nat) : Ent := l.getD i default
def swap (l : List Ent) (i j : Nat) : List Ent := (l.set i (g l j)).set j (g l i)

theorem swap_length (l : List Ent) (i j : Nat) : (swap l i j).length = l.length := by simp [swap]
theorem g_set (l : List Ent) (i k : Nat) (x : Ent) (h : i < l.length) : g (l.set i x) k = if k = i then x else g l k := by
  unfold g
  simp only [List.getD_eq_getElem?_getD, List.getElem?_set]
  by_cases e : i = k
  · subst e; simp [h]
  · simp [e, Ne.symm e]
theorem g_swap (l : List Ent) (i j k : Nat) (hi : i < l.length) (hj : j < l.length) :
    g (swap l i j) k = if k = j then g l i else if k = i then g l j else g l k := by
  unfold swap
  rw [g_set _ _ _ _ (by simpa using hj), g_set _ _ _ _ hi]

theorem count_set (l : List Ent) (i : Nat) (x y : Ent) (h : i < l.length) : (l.set i x).count y + (if g l i = y then 1 else 0) = l.count y + (if x = y then 1 else 0) := by
  induction l generalizing i with
  | nil => simp at h
  | cons a l ih =>
    cases i with
    | zero => simp [g, List.count_cons]; omega
    | succ i =>
      have := ih i (by simpa using h)
      simp [g, List.count_cons] at *
      omega
theorem swap_perm (l : List Ent) (i j : Nat) (hi : i < l.length) (hj : j < l.length) : (swap l i j).Perm l := by
  rw [List.perm_iff_count]
  intro y
  have h1 := count_set l i (g l j) y hi
  have h2 := count_set (l.set i (g l j)) j (g l i) y (by simpa using hj)
  rw [g_set _ _ _ _ hi] at h2
  unfold swap
  by_cases e : j = i
  · subst e; simp only [if_true] at h2; omega
  · simp only [if_neg e] at h2; omega
theorem swap_self (l : List Ent) (i : Nat) (hi : i < l.length) : swap l i i = l := by
  apply List.ext_getElem
  · simp [swap]
  · intro k h1 h2
    have := g_swap l i i k hi hi
    simp only [g, List.getD_eq_getElem?_getD, List.getElem?_eq_getElem h1, List.getElem?_eq_getElem h2, Option.getD_some] at this
    rw [this]
    by_cases e : k = i
    · subst e; simp [h2]
    · simp [e]

def par (k : Nat) : Nat := (k - 1) / 2
/-- Entry k does not end ahead of its parent. -/
def ok (l : List Ent) (k : Nat) : Prop := (g l k).lt (g l (par k)) = false
/-- The first n are a heap. -/
def Is (l : List Ent) (n : Nat) : Prop := ∀ k, 0 < k → k < n → ok l k

theorem Is.min {l : List Ent} {n : Nat} (h : Is l n) : ∀ k, k < n → (g l k).lt (g l 0) = false := by
  intro k
  induction k using Nat.strongRecOn with
  | _ k ih =>
    intro hk
    rcases Nat.eq_zero_or_pos k with e | e
    · subst e; exact Ent.lt_irrefl _
    · exact Ent.le_trans (ih (par k) (by unfold par; omega) (by unfold par; omega)) (h k e hk)

/-! up -/
def up : Nat → List Ent → Nat → List Ent
  | 0, l, _ => l
  | f + 1, l, j => if j = 0 then l else if (g l j).lt (g l (par j)) then up f (swap l (par j) j) (par j) else l

theorem up_spec (n : Nat) : ∀ (f : Nat) (l : List Ent) (j : Nat), j ≤ f → j < n → n ≤ l.length →
    (∀ k, 0 < k → k < n → k ≠ j → ok l k) →
    (∀ c, 0 < c → c < n → par c = j → 0 < j → (g l c).lt (g l (par j)) = false) →
    Is (up f l j) n ∧ (up f l j).Perm l ∧ (∀ k, n ≤ k → g (up f l j) k = g l k) := by
  intro f
  induction f with
  | zero =>
    intro l j hj hn hl h1 _
    refine ⟨fun k hk hkn => h1 k hk hkn (by omega), List.Perm.refl _, fun _ _ => rfl⟩
  | succ f ih =>
    intro l j hj hn hl h1 h2
    unfold up
    by_cases e : j = 0
    · simp only [if_pos e]
      exact ⟨fun k hk hkn => h1 k hk hkn (by omega), List.Perm.refl _, fun _ _ => by trivial⟩
    · simp only [e, if_false]
      have hp : par j < j := by unfold par; omega
      split
      · rename_i hlt
        have hs := g_swap l (par j) j
        have := ih (swap l (par j) j) (par j) (by omega) (by omega) (by rw [swap_length]; omega) ?_ ?_
        · obtain ⟨a, b, c⟩ := this
          refine ⟨a, b.trans (swap_perm l _ _ (by omega) (by omega)), fun k hk => ?_⟩
          rw [c k hk, hs k (by omega) (by omega), if_neg (by omega), if_neg (by omega)]
        · intro k hk hkn hne
          unfold ok
          rw [hs k (by omega) (by omega), hs (par k) (by omega) (by omega)]
          by_cases e1 : k = j
          · subst e1; simp only [if_true]
            rw [if_neg (by omega)]
            exact Ent.le_of_lt hlt
          · rw [if_neg e1, if_neg hne]
            by_cases e2 : par k = j
            · rw [if_pos e2]; exact h2 k hk hkn e2 (by omega)
            · rw [if_neg e2]
              by_cases e3 : par k = par j
              · rw [if_pos e3]
                have := h1 k hk hkn e1
                unfold ok at this
                rw [e3] at this
                exact Ent.le_trans (Ent.le_of_lt hlt) this
              · rw [if_neg e3]; exact h1 k hk hkn e1
        · intro c hc hcn hpc hpj
          rw [hs c (by omega) (by omega), hs (par (par j)) (by omega) (by omega)]
          have hpp : par (par j) < par j := by generalize par j = m at *; unfold par; omega
          rw [if_neg (show ¬ par (par j) = j by omega), if_neg (show ¬ par (par j) = par j by omega)]
          have hok := h1 (par j) (by omega) (by omega) (by omega)
          unfold ok at hok
          by_cases e1 : c = j
          · rw [if_pos e1]; exact hok
          · rw [if_neg e1]
            by_cases e2 : c = par j
            · exfalso; subst e2; omega
            · rw [if_neg e2]
              have := h1 c hc hcn e1
              unfold ok at this
              rw [hpc] at this
              exact Ent.le_trans hok this
      · rename_i hlt
        refine ⟨fun k hk hkn => ?_, List.Perm.refl _, fun _ _ => rfl⟩
        by_cases e1 : k = j
        · subst e1; unfold ok; simpa using hlt
        · exact h1 k hk hkn e1

/-! down -/
def child (l : List Ent) (i n : Nat) : Nat := if 2 * i + 2 < n ∧ (g l (2 * i + 2)).lt (g l (2 * i + 1)) = true then 2 * i + 2 else 2 * i + 1
def down : Nat → List Ent → Nat → Nat → List Ent × Nat
  | 0, l, i, _ => (l, i)
  | f + 1, l, i, n =>
    if n ≤ 2 * i + 1 then (l, i)
    else if (g l (child l i n)).lt (g l i) then down f (swap l i (child l i n)) (child l i n) n else (l, i)

theorem child_cases (l : List Ent) (i n : Nat) (h : 2 * i + 1 < n) : (child l i n = 2 * i + 1 ∨ child l i n = 2 * i + 2) ∧ child l i n < n ∧ par (child l i n) = i ∧ i < child l i n := by
  unfold child
  split
  · exact ⟨.inr rfl, by omega, by unfold par; omega, by omega⟩
  · exact ⟨.inl rfl, by omega, by unfold par; omega, by omega⟩
theorem child_least (l : List Ent) (i n c : Nat) (hc : 0 < c) (hcn : c < n) (h : par c = i) : (g l c).lt (g l (child l i n)) = false := by
  have : c = 2 * i + 1 ∨ c = 2 * i + 2 := by unfold par at h; omega
  unfold child
  rcases this with e | e
  · subst e
    split
    · rename_i h2; exact Ent.le_of_lt h2.2
    · exact Ent.lt_irrefl _
  · subst e
    split
    · exact Ent.lt_irrefl _
    · rename_i h2
      cases h3 : (g l (2 * i + 2)).lt (g l (2 * i + 1)) with
      | false => rfl
      | true => exact absurd ⟨hcn, h3⟩ h2

theorem down_spec (n : Nat) : ∀ (f : Nat) (l : List Ent) (i : Nat), n ≤ i + f → i < n → n ≤ l.length →
    (∀ k, 0 < k → k < n → k ≠ i → par k ≠ i → ok l k) →
    (∀ c, 0 < c → c < n → par c = i → 0 < i → (g l c).lt (g l (par i)) = false) →
    (∀ k, 0 < k → k < n → k ≠ i → ok (down f l i n).1 k) ∧
    ((down f l i n).2 ≠ i → 0 < i → ok (down f l i n).1 i) ∧
    ((down f l i n).2 = i → (down f l i n).1 = l) ∧
    (0 < i → ok l i → ok (down f l i n).1 i) ∧
    i ≤ (down f l i n).2 ∧
    (down f l i n).1.Perm l ∧ (∀ k, n ≤ k → g (down f l i n).1 k = g l k) := by
  intro f
  induction f with
  | zero => intro l i h hi; omega
  | succ f ih =>
    intro l i hf hi hl h1 h2
    unfold down
    by_cases e : n ≤ 2 * i + 1
    · rw [if_pos e]
      exact ⟨fun k hk hkn hne => h1 k hk hkn hne (by unfold par; omega), fun h => absurd rfl h, fun _ => rfl, fun _ h => h, Nat.le_refl _, List.Perm.refl _, fun _ _ => rfl⟩
    · rw [if_neg e]
      obtain ⟨_, hcn, hcp, hic⟩ := child_cases l i n (by omega)
      have hleast := child_least l i n
      generalize child l i n = c at *
      split
      · rename_i hlt
        have hs := g_swap l i c
        have hsw1 : ∀ k, 0 < k → k < n → k ≠ c → par k ≠ c → ok (swap l i c) k := by
          intro k hk hkn hne hpk
          unfold ok
          rw [hs k (by omega) (by omega), hs (par k) (by omega) (by omega), if_neg hne, if_neg hpk]
          by_cases e1 : k = i
          · subst e1
            rw [if_pos rfl]
            have hpi : par k ≠ k := by unfold par; omega
            rw [if_neg hpi]
            exact h2 c (by omega) hcn hcp hk
          · rw [if_neg e1]
            by_cases e2 : par k = i
            · rw [if_pos e2]; exact hleast k hk hkn e2
            · rw [if_neg e2]; exact h1 k hk hkn e1 e2
        have hokc : ok (swap l i c) c := by
          unfold ok
          rw [hs c (by omega) (by omega), hs (par c) (by omega) (by omega), if_pos rfl, hcp, if_neg (by omega), if_pos rfl]
          exact Ent.le_of_lt hlt
        obtain ⟨a1, a2, a3, a4, a5, a6, a7⟩ := ih (swap l i c) c (by omega) hcn (by rw [swap_length]; omega) hsw1 (by
          intro d hd hdn hpd _
          rw [hs d (by omega) (by omega), hs (par c) (by omega) (by omega), hcp]
          have : d ≠ c := by unfold par at hpd; omega
          have : d ≠ i := by unfold par at hpd; omega
          rw [if_neg ‹d ≠ c›, if_neg ‹d ≠ i›, if_neg (show ¬ i = c by omega), if_pos rfl]
          have := h1 d hd hdn ‹_› (by omega)
          unfold ok at this
          rwa [hpd] at this)
        have hall : ∀ k, 0 < k → k < n → ok (down f (swap l i c) c n).1 k := by
          intro k hk hkn
          by_cases e1 : k = c
          · subst e1
            exact a4 (by omega) hokc
          · exact a1 k hk hkn e1
        refine ⟨fun k hk hkn _ => hall k hk hkn, fun _ h0 => hall i h0 hi, fun h => absurd h (by omega), fun h0 _ => hall i h0 hi, by omega, a6.trans (swap_perm l _ _ (by omega) (by omega)), fun k hk => ?_⟩
        rw [a7 k hk, hs k (by omega) (by omega), if_neg (by omega), if_neg (by omega)]
      · rename_i hlt
        refine ⟨fun k hk hkn hne => ?_, fun h => absurd rfl h, fun _ => rfl, fun _ h => h, Nat.le_refl _, List.Perm.refl _, fun _ _ => rfl⟩
        by_cases e1 : par k = i
        · unfold ok
          rw [e1]
          exact Ent.le_trans (by simpa using hlt) (hleast k hk hkn e1)
        · exact h1 k hk hkn hne e1

/-- heap.Fix, and what heap.Remove does ahead of its Pop. -/
def fix (l : List Ent) (i n : Nat) : List Ent :=
  if (down n l i n).2 > i then (down n l i n).1 else up n (down n l i n).1 i

theorem fix_spec (n : Nat) (l : List Ent) (i : Nat) (hi : i < n) (hl : n ≤ l.length)
    (h1 : ∀ k, 0 < k → k < n → k ≠ i → par k ≠ i → ok l k)
    (h2 : ∀ c, 0 < c → c < n → par c = i → 0 < i → (g l c).lt (g l (par i)) = false) :
    Is (fix l i n) n ∧ (fix l i n).Perm l ∧ (∀ k, n ≤ k → g (fix l i n) k = g l k) := by
  obtain ⟨a1, a2, a3, a4, a5, a6, a7⟩ := down_spec n n l i (by omega) hi hl h1 h2
  unfold fix
  split
  · rename_i h
    refine ⟨fun k hk hkn => ?_, a6, a7⟩
    by_cases e : k = i
    · subst e; exact a2 (by omega) hk
    · exact a1 k hk hkn e
  · rename_i h
    have e : (down n l i n).1 = l := a3 (by omega)
    rw [e] at a1 ⊢
    exact up_spec n n l i (by omega) hi hl a1 h2

/-- One entry of a heap is another one now. -/
theorem Is.hole {l : List Ent} {n : Nat} (h : Is l n) {i : Nat} (hi : i < n) (hl : n ≤ l.length) (x : Ent) :
    (∀ k, 0 < k → k < n → k ≠ i → par k ≠ i → ok (l.set i x) k) ∧
    (∀ c, 0 < c → c < n → par c = i → 0 < i → (g (l.set i x) c).lt (g (l.set i x) (par i)) = false) := by
  constructor
  · intro k hk hkn h1 h2
    unfold ok
    rw [g_set _ _ _ _ (by omega), g_set _ _ _ _ (by omega), if_neg h1, if_neg h2]
    exact h k hk hkn
  · intro c hc hcn hp h0
    have : c ≠ i := by unfold par at hp; omega
    have : par i ≠ i := by unfold par; omega
    rw [g_set _ _ _ _ (by omega), g_set _ _ _ _ (by omega), if_neg ‹c ≠ i›, if_neg ‹par i ≠ i›]
    have a := h c hc hcn
    have b := h i h0 hi
    unfold ok at a b
    rw [hp] at a
    exact Ent.le_trans b a

theorem Is.fix_set {l : List Ent} {n : Nat} (h : Is l n) {i : Nat} (hi : i < n) (hl : n ≤ l.length) (x : Ent) :
    Is (fix (l.set i x) i n) n ∧ (fix (l.set i x) i n).Perm (l.set i x) ∧ (∀ k, n ≤ k → g (fix (l.set i x) i n) k = g (l.set i x) k) :=
  fix_spec n _ i hi (by simpa using hl) (h.hole hi hl x).1 (h.hole hi hl x).2

/-- heap.Push: one more at the end, then up. -/
theorem Is.push {l : List Ent} (h : Is l l.length) (x : Ent) :
    Is (up l.length (l ++ [x]) l.length) (l.length + 1) ∧ (up l.length (l ++ [x]) l.length).Perm (l ++ [x]) := by
  have hg : ∀ k, k < l.length → g (l ++ [x]) k = g l k := by
    intro k hk; simp [g, List.getD_eq_getElem?_getD, List.getElem?_append_left hk]
  obtain ⟨a, b, _⟩ := up_spec (l.length + 1) l.length (l ++ [x]) l.length (by omega) (by omega) (by simp)
    (by
      intro k hk hkn hne
      unfold ok
      rw [hg k (by omega), hg (par k) (by unfold par; omega)]
      exact h k hk (by omega))
    (by
      intro c hc hcn hp h0
      unfold par at hp; omega)
  exact ⟨a, b⟩

theorem Is.mono {l : List Ent} {n m : Nat} (h : Is l n) (hm : m ≤ n) : Is l m := fun k hk hkm => h k hk (by omega)
theorem Is.congr {l l' : List Ent} {n : Nat} (h : Is l n) (e : ∀ k, k < n → g l' k = g l k) : Is l' n := by
  intro k hk hkn
  unfold ok
  rw [e k hkn, e (par k) (by unfold par; omega)]
  exact h k hk hkn

/-- heap.Pop, and heap.Remove. -/
def pop (l : List Ent) : List Ent := (down (l.length - 1) (swap l 0 (l.length - 1)) 0 (l.length - 1)).1.dropLast
def remove (l : List Ent) (i : Nat) : List Ent :=
  (if l.length - 1 = i then l else fix (swap l i (l.length - 1)) i (l.length - 1)).dropLast

theorem g_dropLast (l : List Ent) (k : Nat) (h : k < l.length - 1) : g l.dropLast k = g l k := by
  unfold g
  simp only [List.getD_eq_getElem?_getD, List.getElem?_dropLast, if_pos h]
theorem dropLast_perm (l : List Ent) (h : 0 < l.length) : (g l (l.length - 1) :: l.dropLast).Perm l := by
  have e : l = l.dropLast ++ [g l (l.length - 1)] := by
    have hne : l ≠ [] := by rintro rfl; simp at h
    have := List.dropLast_concat_getLast hne
    rw [List.getLast_eq_getElem] at this
    have h2 : g l (l.length - 1) = l[l.length - 1] := by
      simp [g, List.getD_eq_getElem?_getD, show l.length - 1 < l.length by omega]
    rw [h2]; exact this.symm
  have hp : (g l (l.length - 1) :: l.dropLast).Perm (l.dropLast ++ [g l (l.length - 1)]) := by
    have := List.perm_append_comm (l₁ := [g l (l.length - 1)]) (l₂ := l.dropLast)
    simpa using this
  rw [← e] at hp
  exact hp

theorem swap_last_hole {l : List Ent} (h : Is l l.length) {i : Nat} (hi : i < l.length - 1) :
    (∀ k, 0 < k → k < l.length - 1 → k ≠ i → par k ≠ i → ok (swap l i (l.length - 1)) k) ∧
    (∀ c, 0 < c → c < l.length - 1 → par c = i → 0 < i → (g (swap l i (l.length - 1)) c).lt (g (swap l i (l.length - 1)) (par i)) = false) := by
  have hs := fun k => g_swap l i (l.length - 1) k (by omega) (by omega)
  have e : ∀ k, k < l.length - 1 → g (swap l i (l.length - 1)) k = g (l.set i (g l (l.length - 1))) k := by
    intro k hk
    rw [hs, g_set _ _ _ _ (by omega), if_neg (by omega)]
  obtain ⟨a, b⟩ := (h.mono (m := l.length - 1) (by omega)).hole hi (by omega) (g l (l.length - 1))
  constructor
  · intro k hk hkn h1 h2
    unfold ok
    rw [e k hkn, e (par k) (by unfold par; omega)]
    exact a k hk hkn h1 h2
  · intro c hc hcn hp h0
    rw [e c hcn, e (par i) (by unfold par; omega)]
    exact b c hc hcn hp h0

theorem Is.remove {l : List Ent} (h : Is l l.length) {i : Nat} (hi : i < l.length) :
    Is (remove l i) (l.length - 1) ∧ (remove l i).length = l.length - 1 ∧ (g l i :: remove l i).Perm l := by
  unfold Hp.remove
  by_cases e : l.length - 1 = i
  · rw [if_pos e]
    refine ⟨(h.mono (m := l.length - 1) (by omega)).congr fun k hk => g_dropLast l k hk, by simp, ?_⟩
    have := dropLast_perm l (by omega)
    rwa [e] at this
  · rw [if_neg e]
    obtain ⟨a, b⟩ := swap_last_hole h (i := i) (by omega)
    obtain ⟨c, d, f⟩ := fix_spec (l.length - 1) (swap l i (l.length - 1)) i (by omega) (by rw [swap_length]; omega) a b
    have hlen : (fix (swap l i (l.length - 1)) i (l.length - 1)).length = l.length := by rw [d.length_eq, swap_length]
    refine ⟨c.congr fun k hk => g_dropLast _ k (by omega), by simp [hlen], ?_⟩
    have := dropLast_perm (fix (swap l i (l.length - 1)) i (l.length - 1)) (by omega)
    rw [hlen, f (l.length - 1) (Nat.le_refl _), g_swap l i (l.length - 1) _ (by omega) (by omega), if_pos rfl] at this
    exact this.trans (d.trans (swap_perm l _ _ (by omega) (by omega)))

theorem Is.pop {l : List Ent} (h : Is l l.length) (hl : 0 < l.length) :
    Is (pop l) (l.length - 1) ∧ (pop l).length = l.length - 1 ∧ (g l 0 :: pop l).Perm l := by
  unfold Hp.pop
  by_cases e : l.length = 1
  · have hd : down (l.length - 1) (swap l 0 (l.length - 1)) 0 (l.length - 1) = (l, 0) := by
      rw [e]; simp [down, swap_self l 0 hl]
    rw [hd]
    refine ⟨fun k hk hkn => by omega, by simp, ?_⟩
    have := dropLast_perm l hl
    rwa [show l.length - 1 = 0 by omega] at this
  · obtain ⟨a, b⟩ := swap_last_hole h (i := 0) (by omega)
    obtain ⟨a1, a2, a3, a4, a5, a6, a7⟩ := down_spec (l.length - 1) (l.length - 1) (swap l 0 (l.length - 1)) 0 (by omega) (by omega) (by rw [swap_length]; omega) a b
    have hlen : (down (l.length - 1) (swap l 0 (l.length - 1)) 0 (l.length - 1)).1.length = l.length := by rw [a6.length_eq, swap_length]
    refine ⟨(show Is (down (l.length - 1) (swap l 0 (l.length - 1)) 0 (l.length - 1)).1 (l.length - 1) from fun k hk hkn => a1 k hk hkn (by omega)).congr fun k hk => g_dropLast _ k (by omega), by simp [hlen], ?_⟩
    have := dropLast_perm (down (l.length - 1) (swap l 0 (l.length - 1)) 0 (l.length - 1)).1 (by omega)
    rw [hlen, a7 (l.length - 1) (Nat.le_refl _), g_swap l 0 (l.length - 1) _ (by omega) (by omega), if_pos rfl] at this
    exact this.trans (a6.trans (swap_perm l _ _ (by omega) (by omega)))

end Hp
end Go.Proofs.YtdcekoocnoackaaGreatDoor

/-! Plain lists. -/
namespace Go.Proofs.YtdcekoocnoackaaGreatDoor

/-- The i-th; the walk does not look into it. -/
def nth (l : List Int) (i : Nat) : Int := l.getD i 0

theorem nth_eq {l : List Int} {i : Nat} (h : i < l.length) : l[i]? = some (nth l i) := by
  unfold nth; rw [List.getD_eq_getElem?_getD, List.getElem?_eq_getElem h]; rfl
end Go.Proofs.YtdcekoocnoackaaGreatDoor

/-! '==' of structs and rows of bytes. -/
namespace Go.Proofs.YtdcekoocnoackaaGreatDoor
open Go Go.RowKit

section
variable {P : Program} {w : World}

def isRowD : TypeDesc → Bool
  | .struct _ | .array _ _ => true
  | _ => false
theorem run_isAgg {t : TypeId} {d : TypeDesc} (hu : P.underlying t = some d) : (isAgg t).run P w = .ok (isRowD d) w := by
  unfold isAgg
  rw [Sem.run_bind, run_underlying hu w]
  cases d <;> rfl
/-- A part of some cells. -/
theorem run_part_row {t : TypeId} {d : TypeDesc} (hu : P.underlying t = some d) (hd : isRowD d = true) {xs mid : List Value} {o : Nat} (hi : (P.info? t).map (·.size) = some mid.length) (hx : (xs.drop o).take mid.length = mid) :
    (part t xs.toArray o).run P w = .ok (.agg mid.toArray) w := by
  cases hq : P.info? t with
  | none => simp [hq] at hi
  | some i =>
    have hs : i.size = mid.length := by simpa [hq] using hi
    simp only [part, Sem.run_bind, run_isAgg hu, hd, Result.andThen_ok, if_true]
    simp only [sizeOf, typeInfo, Sem.run_bind, run_program, Result.andThen_ok, hq, Sem.run_pure, hs]
    rw [List.extract_toArray, List.extract_eq_take_drop, Nat.add_sub_cancel_left, hx]
theorem run_part_one {t : TypeId} {d : TypeDesc} (hu : P.underlying t = some d) (hd : isRowD d = false) {xs : List Value} {v : Value} {o : Nat} (hx : xs[o]? = some v) :
    (part t xs.toArray o).run P w = .ok v w := by
  simp only [part, Sem.run_bind, run_isAgg hu, hd, Result.andThen_ok, Bool.false_eq_true, if_false]
  simp [hx]

/-- That two values are the same, or not. -/
def EqV (P : Program) (w : World) (d : Nat) (t : TypeId) (x y : Value) (r : Bool) : Prop := (Op.equalIn d t x y).run P w = .ok r w
def EqF (P : Program) (w : World) (d : Nat) (xs ys : List Value) (fs : List Field) (r : Bool) : Prop := (Op.eqFields d xs.toArray ys.toArray fs).run P w = .ok r w
variable {d : Nat} {xs ys : List Value} {f : Field} {fs : List Field} {r s : Bool}
theorem EqF.nil : EqF P w d xs ys [] true := by simp [EqF, Op.eqFields]
theorem EqF.cons {a b : Value} (hn : f.name ≠ "_") (ha : (part f.type xs.toArray f.offset).run P w = .ok a w) (hb : (part f.type ys.toArray f.offset).run P w = .ok b w) (he : EqV P w d f.type a b r) (hr : EqF P w d xs ys fs s) :
    EqF P w d xs ys (f :: fs) (r && s) := by
  unfold EqF EqV at *
  rw [Op.eqFields, if_pos hn]
  simp only [Sem.run_bind, ha, hb, he, Result.andThen_ok]
  cases r
  · simp
  · simpa using hr
theorem EqV.struct {t : TypeId} {fa : Array Field} (hu : P.underlying t = some (.struct fa)) (hp : P.stoodInHeld t = false) (h : EqF P w d xs ys fa.toList r) : EqV P w (d + 1) t (.agg xs.toArray) (.agg ys.toArray) r := by
  have hf : P.fieldsOf t = fa := by simp [Program.fieldsOf, hu]
  unfold EqV
  rw [run_equalIn_struct (P := P) w d t xs.toArray ys.toArray (by rw [hf]; exact hu) hp, hf]
  exact h
theorem EqV.int {t : TypeId} {k k' : IntKind} {a b : Int} (hu : P.underlying t = some (.int k')) : EqV P w (d + 1) t (.int k a) (.int k b) (a == b) := run_equalIn_int w d t k k' a b hu
theorem EqV.bool {t : TypeId} {a b : Bool} (hu : P.underlying t = some .bool) : EqV P w (d + 1) t (.bool a) (.bool b) (a == b) := run_equalIn_bool w d t a b hu
theorem EqV.string {t : TypeId} {a b : ByteArray} (hu : P.underlying t = some .string) : EqV P w (d + 1) t (.string a) (.string b) (a.toList == b.toList) := run_equalIn_string w d t a b hu

/-- A row of whole numbers. -/
theorem EqV.ints {t e : TypeId} {k k' : IntKind} {n : Nat} (hu : P.underlying t = some (.array n e)) (he : P.underlying e = some (.int k')) (hs : (P.info? e).map (·.size) = some 1) {la lb : List Int} (ha : la.length = n) (hb : lb.length = n) :
    EqV P w (d + 2) t (.agg (la.map (.int k)).toArray) (.agg (lb.map (.int k)).toArray) (decide (la = lb)) := by
  obtain ⟨i0, hi0, hsz⟩ := Option.map_eq_some_iff.1 hs
  have key : ∀ (l : List Nat) (la lb : List Int) (w : World), (∀ i ∈ l, i < la.length ∧ i < lb.length) →
      (forIn l ((none, ()) : Option Bool × Unit) (fun (i : Nat) (_ : Option Bool × Unit) => do
        let a ← part e (la.map (.int k)).toArray (i * 1)
        let b ← part e (lb.map (.int k)).toArray (i * 1)
        let r ← Op.equalIn (d + 1) e a b
        if (!r) = true then pure (ForInStep.done (some false, ())) else pure (ForInStep.yield (none, ())) : _ → _ → Sem (ForInStep (Option Bool × Unit)))).run P w =
        .ok (if ∀ i ∈ l, nth la i = nth lb i then (none, ()) else (some false, ())) w := by
    intro l
    induction l with
    | nil => intro la lb w _; simp [List.forIn_nil]
    | cons i l ih =>
      intro la lb w hl
      obtain ⟨h1, h2⟩ := hl i (by simp)
      have e1 : (part e (la.map (.int k)).toArray (i * 1)).run P w = .ok (.int k (nth la i)) w := run_part_one he rfl (by simp [nth_eq h1])
      have e2 : (part e (lb.map (.int k)).toArray (i * 1)).run P w = .ok (.int k (nth lb i)) w := run_part_one he rfl (by simp [nth_eq h2])
      simp only [List.forIn_cons, Sem.run_bind, e1, e2, Result.andThen_ok, run_equalIn_int w d e k k' _ _ he]
      by_cases hq : nth la i = nth lb i
      · simp only [hq, beq_self_eq_true, Bool.not_true, Bool.false_eq_true, if_false, Sem.run_pure, Result.andThen_ok]
        rw [ih la lb w (fun j hj => hl j (by simp [hj]))]
        simp [hq]
      · have hb' : (nth la i == nth lb i) = false := by simpa using hq
        simp only [hb', Bool.not_false, if_true, Sem.run_pure, Result.andThen_ok]
        simp [hq]
  have hall : (∀ i ∈ List.range' 0 n, nth la i = nth lb i) ↔ la = lb := by
    constructor
    · intro h
      apply List.ext_getElem?
      intro i
      by_cases hi : i < n
      · rw [nth_eq (by omega), nth_eq (by omega), h i (by simp [List.mem_range']; omega)]
      · rw [List.getElem?_eq_none (by omega), List.getElem?_eq_none (by omega)]
    · rintro rfl i _; rfl
  unfold EqV
  rw [Op.equalIn]
  simp only [Sem.run_bind, run_underlying hu, Result.andThen_ok, sizeOf, typeInfo, run_program, hi0, Sem.run_pure, hsz]
  rw [Std.Legacy.Range.forIn_eq_forIn_range']
  have hk := key (List.range' 0 n) la lb w (fun i hi => by simp [List.mem_range'] at hi; omega)
  have hr : List.range' [:n].start [:n].size [:n].step = List.range' 0 n := by simp [Std.Legacy.Range.size]
  rw [hr, hk, Result.andThen_ok]
  by_cases h : la = lb
  · rw [if_pos (hall.2 h)]; simp [h]
  · rw [if_neg (fun h' => h (hall.1 h'))]; simp [h]
end
end Go.Proofs.YtdcekoocnoackaaGreatDoor
