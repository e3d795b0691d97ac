import Derived.WalkKit
import Derived.Below
import Derived.Orders
import Derived.Deep.Quiet
import Derived.Deep.QuietTactic
import Derived.BigQuiet

namespace Go.Proofs.YtdcekoocnoackaaGreatDoor
open Go

/-- How an operation is taken: it only yields a value; or it acts; or it acts behind all that came ahead of it. -/
inductive How | pure | quiet | acts | seals
  deriving DecidableEq

section
variable {P : Program} {ops : Array Oper} {md : Region.Mode}

def NoQ : Exit → Act → World → Prop := fun _ _ _ => False

/-- In state a operation o yields v in every world of the class; none is changed. -/
def YC (P : Program) (ops : Array Oper) (C : World → Prop) (o : Oper) (v : Value) (a : Act) : Prop :=
  (Region.wanted o (yielded ops a.tmps) = true ∧ ∀ w, C w → (execOp a.eval o).run P w = .ok (.value v) w) ∨
  (Region.wanted o (yielded ops a.tmps) = false ∧ v = undef)

theorem YC.wpOp {C : World → Prop} {i : Nat} {o : Oper} {v : Value} {a : Act} {w : World} {Q : Exit → Act → World → Prop} (hi : ops[i]? = some o) (hy : YC P ops C o v a) (hC : C w)
    {K : Act → World → Prop} (h : K (a.put o.dst v) w) : wpOp P ops Q i K a w := by
  unfold Go.wpOp
  simp only [hi]
  rcases hy with ⟨hw, hv⟩ | ⟨hw, rfl⟩
  · simp only [hw, if_true, Oper.wp, hv w hC, Oper.upon]; exact .inl h
  · simp only [hw, Bool.false_eq_true, if_false]; exact h
theorem YC.of_same {C : World → Prop} {o : Oper} {v : Value} {a a' : Act} (hy : YC P ops C o v a) (he : execOp a'.eval o = execOp a.eval o)
    (hw : Region.wanted o (yielded ops a'.tmps) = Region.wanted o (yielded ops a.tmps)) : YC P ops C o v a' := by
  unfold YC at *
  rw [he, hw]
  exact hy

theorem wpOp_putC {C : World → Prop} {j : Nat} {oi oj : Oper} {v : Value} (hj : ops[j]? = some oj) (hap : oi.apart ops oj = true)
    (hsi : ∀ cs b, oi.op ≠ .select cs b) (hsj : ∀ cs b, oj.op ≠ .select cs b) {K : Act → World → Prop} {a : Act} {w : World}
    (hy : YC P ops C oi v a) (h : wpOp P ops NoQ j K (a.put oi.dst v) w) :
    wpOp P ops NoQ j (fun a' w' => YC P ops C oi v a' ∧ K (a'.put oi.dst v) w') a w := by
  obtain ⟨h1, h2, h3⟩ := Oper.apart_spec hap
  have keep : ∀ (a : Act), YC P ops C oi v a → ∀ u, YC P ops C oi v (a.put oj.dst u) := fun a hy u =>
    hy.of_same (execOp_put oi hsi a oj.dst u h3) (wanted_put oi a oj.dst u h3)
  have keepD : ∀ d, YC P ops C oi v { a with defers := d :: a.defers } := fun d => hy.of_same rfl rfl
  unfold wpOp at *
  simp only [hj] at *
  rw [wanted_put oj a oi.dst v h1] at h
  split
  · rename_i hw
    simp only [hw, if_true] at h
    rcases h with h | ⟨_, _, _, hlets⟩
    case inr => exact hlets.elim
    refine .inl ?_
    unfold Oper.wp at *
    rw [execOp_put oj hsj a oi.dst v h1] at h
    generalize (execOp a.eval oj).run P w = r at *
    cases r with
    | ok n w' =>
      cases n <;> simp only [Oper.upon] at h ⊢
      case value u => exact ⟨keep a hy u, by rw [← Act.put_comm a v u h2]; exact h⟩
      case skip => exact ⟨keep a hy _, by rw [← Act.put_comm a v undef h2]; exact h⟩
      case defer d =>
        refine ⟨keep _ (keepD d) _, ?_⟩
        rw [← Act.put_comm _ v undef h2, ← Act.put_defers]
        exact h
      case enter f args =>
        refine Calls.mono h fun e w'' he => ?_
        cases e with
        | returned u => exact ⟨keep a hy u, by rw [← Act.put_comm a v u h2]; exact he⟩
        | panicked c => exact he
        | outgrown => exact he
      case row row args => exact Rows.mono h fun u w'' he => ⟨keep a hy u, by rw [← Act.put_comm a v u h2]; exact he⟩
    | halt x w' =>
      cases x <;> simp only [Oper.upon] at h ⊢
      case panic u => exact h
  · rename_i hw
    simp only [hw] at h
    exact ⟨keep a hy _, by rw [← Act.put_comm a v undef h2]; exact h⟩

/-- All that binds what is listed is listed. -/
def Closed (md : Region.Mode) (ops : Array Oper) (listed : Array Bool) : Prop :=
  ∀ k o, ops[k]? = some o → listed.getD k false = true → ∀ e ∈ o.after, Region.binds md e = true → listed.getD e.on false = true
/-- Operation i stands ahead of operation j in every order. -/
def Ahead (md : Region.Mode) (ops : Array Oper) (i j : Nat) : Prop := ∀ listed, Closed md ops listed → j ∈ Region.ready md ops listed → listed.getD i false = true

/-- What the one lists the other lists. -/
def Sub (l0 l1 : Array Bool) : Prop := ∀ k, l0.getD k false = true → l1.getD k false = true

theorem closed_set {listed : Array Bool} {i : Nat} (h : Closed md ops listed) (hi : i ∈ Region.ready md ops listed) : Closed md ops (listed.setIfInBounds i true) := by
  intro k o hk hl e he hb
  by_cases hki : i = k
  · subst hki
    obtain ⟨_, o', ho', hall⟩ := mem_ready.1 hi
    rw [hk] at ho'; cases ho'
    exact getD_set_true (hall e he hb)
  · rw [getD_set_ne false hki] at hl
    exact getD_set_true (h k o hk hl e he hb)

/-- Whatever order is picked from here on, the class kept till an operation that seals. -/
def wpAnyC (P : Program) (md : Region.Mode) (ops : Array Oper) (K : Act → World → Prop) (fl : Nat → Bool) : Nat → (World → Prop) → Array Bool → Act → World → Prop
  | 0, C, listed, a, w => C w ∧ Region.ready md ops listed = [] ∧ K a w
  | fuel + 1, C, listed, a, w => C w ∧ (Region.ready md ops listed = [] → K a w) ∧
    ∀ i ∈ Region.ready md ops listed, wpOp P ops NoQ i (fun a' w' => ∃ C', (fl i = false → C' = C) ∧ wpAnyC P md ops K fl fuel C' (listed.setIfInBounds i true) a' w') a w

theorem wpOp_monoQ {i : Nat} {a : Act} {w : World} {K K' : Act → World → Prop} {Q : Exit → Act → World → Prop} (h : ∀ a w, K a w → K' a w) (hh : wpOp P ops NoQ i K a w) : wpOp P ops Q i K' a w := by
  have h1 := wpOp_mono h hh
  clear hh h
  unfold wpOp at *
  split
  · simpa [*] using h1
  · rename_i o ho
    simp only [ho] at h1
    split
    · rename_i hw
      simp only [hw, if_true] at h1
      rcases h1 with h1 | ⟨_, _, _, hlets⟩
      · left
        unfold Oper.wp at *
        generalize (execOp a.eval o).run P w = r at *
        cases r with
        | ok n w' =>
          cases n <;> simp only [Oper.upon] at h1 ⊢ <;> first | exact h1 | exact Calls.mono h1 (fun e w'' he => by cases e with
            | returned u => exact he
            | panicked c => exact he.elim
            | outgrown => obtain ⟨_, _, h⟩ := he; exact h.elim)
        | halt x w' => cases x <;> simp only [Oper.upon] at h1 ⊢ <;> exact h1.elim
      · exact hlets.elim
    · rename_i hw; simp only [hw] at h1; exact h1

theorem wpAny_of_wpAnyC {K : Act → World → Prop} {Q : Exit → Act → World → Prop} {fl : Nat → Bool} (hQ : ∀ a w, K a w → Q .normal a w) : ∀ (fuel : Nat) (C : World → Prop) (listed : Array Bool) (a : Act) (w : World),
    wpAnyC P md ops K fl fuel C listed a w → wpAny P md ops Q fuel listed a w
  | 0, _, _, _, _, h => ⟨h.2.1, hQ _ _ h.2.2⟩
  | fuel + 1, _, _, _, _, h => ⟨fun h0 => hQ _ _ (h.2.1 h0), fun i hi => wpOp_monoQ (fun a' w' ⟨C', _, h'⟩ => wpAny_of_wpAnyC hQ fuel C' _ a' w' h') (h.2.2 i hi)⟩

theorem wpAnyC_first {K : Act → World → Prop} {fl : Nat → Bool} {C : World → Prop} {i : Nat} {oi : Oper} {v : Value} (hi : ops[i]? = some oi) (hsel : ∀ (j : Nat) (o : Oper) cs b, ops[j]? = some o → o.op ≠ .select cs b)
    (hfl : fl i = false) (l0 : Array Bool) (hah : ∀ (listed : Array Bool) j, fl j = true → listed.getD i true = false → Sub l0 listed → Closed md ops listed → j ∉ Region.ready md ops listed) :
    ∀ (fuel : Nat) (listed : Array Bool) (a : Act) (w : World), Closed md ops listed → Sub l0 listed →
      (∀ j oj, ops[j]? = some oj → j ≠ i → listed.getD j true = false → (∀ e ∈ oj.after, Region.binds md e = true → e.on ≠ i) → oi.apart ops oj = true) →
      i ∈ Region.ready md ops listed → YC P ops C oi v a →
      wpAnyC P md ops K fl fuel C (listed.setIfInBounds i true) (a.put oi.dst v) w → wpAnyC P md ops K fl (fuel + 1) C listed a w := by
  intro fuel
  induction fuel with
  | zero =>
    intro listed a w _ _ _ hr hy H
    refine ⟨H.1, fun h => (by rw [h] at hr; cases hr), fun j hj => ?_⟩
    by_cases hji : j = i
    · subst hji; exact hy.wpOp hi H.1 ⟨C, fun _ => rfl, H⟩
    · have := ready_mono hj hji
      rw [H.2.1] at this
      cases this
  | succ fuel ih =>
    intro listed a w hcl hsub hfree hr hy H
    refine ⟨H.1, fun h => (by rw [h] at hr; cases hr), fun j hj => ?_⟩
    by_cases hji : j = i
    · subst hji; exact hy.wpOp hi H.1 ⟨C, fun _ => rfl, H⟩
    · have h1 := H.2.2 j (ready_mono hj hji)
      obtain ⟨hjun, oj, hoj, hall⟩ := mem_ready.1 hj
      have hiun := (mem_ready.1 hr).1
      have hnot : ∀ e ∈ oj.after, Region.binds md e = true → e.on ≠ i := fun e he hb heq => by
        have h1 := hall e he hb
        have h0 := (mem_ready.1 hr).1
        rw [heq] at h1
        rcases Nat.lt_or_ge i listed.size with h' | h'
        · simp [h'] at h0 h1; rw [h0] at h1; cases h1
        · simp [Array.getElem?_eq_none h'] at h1
      have hflj : fl j = false := by
        cases e : fl j with
        | false => rfl
        | true => exact absurd hj (hah listed j e hiun hsub hcl)
      have h2 := wpOp_putC hoj (hfree j oj hoj hji hjun hnot) (fun cs b => hsel i oi cs b hi) (fun cs b => hsel j oj cs b hoj) hy h1
      have hfree' : ∀ k ok, ops[k]? = some ok → k ≠ i → (listed.setIfInBounds j true).getD k true = false →
          (∀ e ∈ ok.after, Region.binds md e = true → e.on ≠ i) → oi.apart ops ok = true := fun k ok hk hki hun hno => by
        refine hfree k ok hk hki ?_ hno
        by_cases hjk : j = k
        · subst hjk; exact hjun
        · rw [getD_set_ne true hjk] at hun; exact hun
      refine wpOp_mono (fun a' w' h3 => ?_) h2
      obtain ⟨hy', C', hC', h4⟩ := h3
      obtain rfl := hC' hflj
      refine ⟨C', fun _ => rfl, ih (listed.setIfInBounds j true) a' w' (closed_set hcl hj) (fun k hk => getD_set_true (hsub k hk)) hfree' (ready_mono hr (Ne.symm hji)) hy' ?_⟩
      rw [Array.setIfInBounds_comm _ _ hji]
      exact h4


/-- The same of an operation that yields its value in whatever world. -/
theorem wpAnyC_firstP {K : Act → World → Prop} {fl : Nat → Bool} {i : Nat} {oi : Oper} {v : Value} (hi : ops[i]? = some oi) (hsel : ∀ (j : Nat) (o : Oper) cs b, ops[j]? = some o → o.op ≠ .select cs b)
    (hfl : fl i = false) :
    ∀ (fuel : Nat) (C : World → Prop) (listed : Array Bool) (a : Act) (w : World),
      (∀ j oj, ops[j]? = some oj → j ≠ i → listed.getD j true = false → (∀ e ∈ oj.after, Region.binds md e = true → e.on ≠ i) → oi.apart ops oj = true) →
      i ∈ Region.ready md ops listed → YC P ops (fun _ => True) oi v a →
      wpAnyC P md ops K fl fuel C (listed.setIfInBounds i true) (a.put oi.dst v) w → wpAnyC P md ops K fl (fuel + 1) C listed a w := by
  intro fuel
  induction fuel with
  | zero =>
    intro C listed a w _ hr hy H
    refine ⟨H.1, fun h => (by rw [h] at hr; cases hr), fun j hj => ?_⟩
    by_cases hji : j = i
    · subst hji; exact hy.wpOp hi trivial ⟨C, fun _ => rfl, H⟩
    · have := ready_mono hj hji
      rw [H.2.1] at this
      cases this
  | succ fuel ih =>
    intro C listed a w hfree hr hy H
    refine ⟨H.1, fun h => (by rw [h] at hr; cases hr), fun j hj => ?_⟩
    by_cases hji : j = i
    · subst hji; exact hy.wpOp hi trivial ⟨C, fun _ => rfl, H⟩
    · have h1 := H.2.2 j (ready_mono hj hji)
      obtain ⟨hjun, oj, hoj, hall⟩ := mem_ready.1 hj
      have hnot : ∀ e ∈ oj.after, Region.binds md e = true → e.on ≠ i := fun e he hb heq => by
        have h1 := hall e he hb
        have h0 := (mem_ready.1 hr).1
        rw [heq] at h1
        rcases Nat.lt_or_ge i listed.size with h' | h'
        · simp [h'] at h0 h1; rw [h0] at h1; cases h1
        · simp [Array.getElem?_eq_none h'] at h1
      have h2 := wpOp_putC hoj (hfree j oj hoj hji hjun hnot) (fun cs b => hsel i oi cs b hi) (fun cs b => hsel j oj cs b hoj) hy h1
      have hfree' : ∀ k ok, ops[k]? = some ok → k ≠ i → (listed.setIfInBounds j true).getD k true = false →
          (∀ e ∈ ok.after, Region.binds md e = true → e.on ≠ i) → oi.apart ops ok = true := fun k ok hk hki hun hno => by
        refine hfree k ok hk hki ?_ hno
        by_cases hjk : j = k
        · subst hjk; exact hjun
        · rw [getD_set_ne true hjk] at hun; exact hun
      refine wpOp_mono (fun a' w' h3 => ?_) h2
      obtain ⟨hy', C', hC', h4⟩ := h3
      refine ⟨C', hC', ih C' (listed.setIfInBounds j true) a' w' hfree' (ready_mono hr (Ne.symm hji)) hy' ?_⟩
      rw [Array.setIfInBounds_comm _ _ hji]
      exact h4

/-! The order by which it is walked, and what is asked of it -/
/-- Each operation that is in the way of j, as far as n steps tell. -/
def heads (md : Region.Mode) (ops : Array Oper) : Nat → List Nat → List Nat
  | 0, l => l
  | n + 1, l => heads md ops n ((l ++ l.flatMap fun j => match ops[j]? with | some o => (o.after.toList.filter (Region.binds md)).map (·.on) | none => []).eraseDups)

theorem heads_listed {listed : Array Bool} (hc : Closed md ops listed) : ∀ (n : Nat) (l : List Nat), (∀ j ∈ l, listed.getD j false = true) → ∀ j ∈ heads md ops n l, listed.getD j false = true := by
  intro n
  induction n with
  | zero => intro l h; exact h
  | succ n ih =>
    intro l h
    refine ih _ fun j hj => ?_
    rw [List.mem_eraseDups, List.mem_append, List.mem_flatMap] at hj
    rcases hj with hj | ⟨k, hk, hj⟩
    · exact h j hj
    · cases ho : ops[k]? with
      | none => rw [ho] at hj; cases hj
      | some o =>
        rw [ho] at hj
        simp only [List.mem_map, List.mem_filter] at hj
        obtain ⟨e, ⟨he, hb⟩, rfl⟩ := hj
        exact hc k o ho (h k hk) e (by simpa using he) hb

def preds (md : Region.Mode) (ops : Array Oper) (j : Nat) : List Nat := match ops[j]? with | some o => (o.after.toList.filter (Region.binds md)).map (·.on) | none => []
def aheadB (md : Region.Mode) (ops : Array Oper) (i j : Nat) : Bool := (heads md ops ops.size (preds md ops j)).contains i
theorem ahead_of {i j : Nat} (h : aheadB md ops i j = true) (listed : Array Bool) (hc : Closed md ops listed) (hj : j ∈ Region.ready md ops listed) : listed.getD i false = true := by
  obtain ⟨_, o, ho, hall⟩ := mem_ready.1 hj
  refine heads_listed hc _ (preds md ops j) (fun k hk => ?_) i (by simpa [aheadB] using h)
  simp only [preds, ho, List.mem_map, List.mem_filter] at hk
  obtain ⟨e, ⟨he, hb⟩, rfl⟩ := hk
  exact hall e (by simpa using he) hb

def flags (ord : List (Nat × How)) (j : Nat) : Bool := ord.any fun p => p.1 == j && p.2 == .seals

def checkFrom (md : Region.Mode) (ops : Array Oper) (seals : List Nat) : List (Nat × How) → Array Bool → Bool
  | [], listed => (Region.ready md ops listed).isEmpty
  | (i, k) :: rest, listed =>
    (match k with
     | .pure => (Region.ready md ops listed).contains i && Region.free md ops listed i && !seals.contains i
     | .quiet => (Region.ready md ops listed).contains i && Region.free md ops listed i && !seals.contains i && seals.all fun j => listed.getD j false || aheadB md ops i j
     | .acts => (Region.ready md ops listed == [i]) && !seals.contains i
     | .seals => (Region.ready md ops listed == [i]) && seals.contains i) &&
    checkFrom md ops seals rest (listed.setIfInBounds i true)
def sealsOf (ord : List (Nat × How)) : List Nat := (ord.filter fun p => p.2 == .seals).map (·.1)
def check (ops : Array Oper) (ord : List (Nat × How)) : Bool :=
  Region.noSelect ops && ord.length == ops.size && checkFrom .any ops (sealsOf ord) ord (Array.replicate ops.size false)

/-- The walk, in that order. -/
def wpOrd (P : Program) (ops : Array Oper) (K : Act → World → Prop) : (World → Prop) → List (Nat × How) → Act → World → Prop
  | _, [], a, w => K a w
  | C, (i, k) :: rest, a, w =>
    match ops[i]? with
    | none => False
    | some o =>
      if Region.wanted o (yielded ops a.tmps) then
        match k with
        | .pure => ∃ v, (∀ w', (execOp a.eval o).run P w' = .ok (.value v) w') ∧ wpOrd P ops K C rest (a.put o.dst v) w
        | .quiet => ∃ v, (∀ w', C w' → (execOp a.eval o).run P w' = .ok (.value v) w') ∧ wpOrd P ops K C rest (a.put o.dst v) w
        | .acts => o.wp P a w (fun a' w' => C w' ∧ wpOrd P ops K C rest a' w') NoQ
        | .seals => o.wp P a w (fun a' w' => ∃ C' : World → Prop, C' w' ∧ wpOrd P ops K C' rest a' w') NoQ
      else wpOrd P ops K C rest (a.put o.dst undef) w

theorem wpAnyC_ord {K : Act → World → Prop} {seals : List Nat} (hsel : Region.noSelect ops = true) : ∀ (ord : List (Nat × How)) (C : World → Prop) (listed : Array Bool) (a : Act) (w : World),
    Closed md ops listed → checkFrom md ops seals ord listed = true → C w → wpOrd P ops K C ord a w → wpAnyC P md ops K (seals.contains ·) ord.length C listed a w := by
  intro ord
  induction ord with
  | nil =>
    intro C listed a w hcl hch hC h
    exact ⟨hC, by simpa [checkFrom] using hch, h⟩
  | cons p rest ih =>
    intro C listed a w hcl hch hC h
    obtain ⟨i, k⟩ := p
    simp only [checkFrom, Bool.and_eq_true] at hch
    obtain ⟨hk, hrest⟩ := hch
    have hready : i ∈ Region.ready md ops listed := by
      cases k <;> simp only [Bool.and_eq_true, beq_iff_eq] at hk
      · simpa using hk.1.1
      · simpa using hk.1.1.1
      · rw [hk.1]; simp
      · rw [hk.1]; simp
    obtain ⟨_, o, ho, _⟩ := mem_ready.1 hready
    simp only [wpOrd, ho] at h
    have hfirst : ∀ v, YC P ops C o v a → k = .quiet → wpOrd P ops K C rest (a.put o.dst v) w → wpAnyC P md ops K (seals.contains ·) (rest.length + 1) C listed a w := by
      intro v hy hq h'
      subst hq
      simp only [Bool.and_eq_true, Bool.not_eq_true', List.all_eq_true, Bool.or_eq_true] at hk
      refine wpAnyC_first ho (Region.noSelect_spec hsel) hk.1.2 listed (fun l2 j hj hun hs hc hjr => ?_) rest.length listed a w hcl (fun _ h => h) (Region.free_spec ho hk.1.1.2) hready hy (ih C _ _ w (closed_set hcl hready) hrest hC h')
      have hu2 : l2.getD i false = false := by
        rcases Nat.lt_or_ge i l2.size with h3 | h3
        · simp [h3] at hun ⊢; exact hun
        · simp [Array.getElem?_eq_none h3] at hun
      rcases hk.2 j (by simpa using hj) with h1 | h1
      · have h2 := hs j h1
        have h3 := (mem_ready.1 hjr).1
        rcases Nat.lt_or_ge j l2.size with h4 | h4
        · simp [h4] at h2 h3; rw [h2] at h3; cases h3
        · simp [Array.getElem?_eq_none h4] at h2
      · rw [ahead_of h1 l2 hc hjr] at hu2; cases hu2
    have hfirstP : ∀ v, YC P ops (fun _ => True) o v a → k = .pure → wpOrd P ops K C rest (a.put o.dst v) w → wpAnyC P md ops K (seals.contains ·) (rest.length + 1) C listed a w := by
      intro v hy hq h'
      subst hq
      simp only [Bool.and_eq_true, Bool.not_eq_true'] at hk
      exact wpAnyC_firstP ho (Region.noSelect_spec hsel) hk.2 rest.length C listed a w (Region.free_spec ho hk.1.2) hready hy (ih C _ _ w (closed_set hcl hready) hrest hC h')
    by_cases hw : Region.wanted o (yielded ops a.tmps) = true
    · simp only [hw, if_true] at h
      cases k with
      | pure =>
        obtain ⟨v, hv, h'⟩ := h
        exact hfirstP v (.inl ⟨hw, fun w' _ => hv w'⟩) rfl h'
      | quiet =>
        obtain ⟨v, hv, h'⟩ := h
        exact hfirst v (.inl ⟨hw, hv⟩) rfl h'
      | acts =>
        simp only [Bool.and_eq_true, beq_iff_eq, Bool.not_eq_true'] at hk
        refine ⟨hC, fun h0 => absurd (h0 ▸ hk.1) (by simp), fun j hj => ?_⟩
        rw [hk.1] at hj
        obtain rfl : j = i := by simpa using hj
        unfold wpOp
        simp only [ho, hw, if_true]
        exact .inl (Oper.wp_mono (fun a' w' ⟨h1, h2⟩ => ⟨C, fun _ => rfl, ih C _ a' w' (closed_set hcl hready) hrest h1 h2⟩) h)
      | seals =>
        simp only [Bool.and_eq_true, beq_iff_eq] at hk
        refine ⟨hC, fun h0 => absurd (h0 ▸ hk.1) (by simp), fun j hj => ?_⟩
        rw [hk.1] at hj
        obtain rfl : j = i := by simpa using hj
        unfold wpOp
        simp only [ho, hw, if_true]
        exact .inl (Oper.wp_mono (fun a' w' ⟨C', h1, h2⟩ => ⟨C', fun e => (by rw [hk.2] at e; cases e), ih C' _ a' w' (closed_set hcl hready) hrest h1 h2⟩) h)
    · simp only [hw] at h
      have hw' : Region.wanted o (yielded ops a.tmps) = false := by simpa using hw
      have hone : Region.ready md ops listed = [i] → wpAnyC P md ops K (seals.contains ·) (rest.length + 1) C listed a w := by
        intro hr1
        refine ⟨hC, fun h0 => absurd (h0 ▸ hr1) (by simp), fun j hj => ?_⟩
        rw [hr1] at hj
        obtain rfl : j = i := by simpa using hj
        unfold wpOp
        simp only [ho, hw']
        exact ⟨C, fun _ => rfl, ih C _ _ w (closed_set hcl hready) hrest hC h⟩
      cases k with
      | pure => exact hfirstP undef (.inr ⟨hw', rfl⟩) rfl h
      | quiet => exact hfirst undef (.inr ⟨hw', rfl⟩) rfl h
      | acts => simp only [Bool.and_eq_true, beq_iff_eq] at hk; exact hone hk.1
      | seals => simp only [Bool.and_eq_true, beq_iff_eq] at hk; exact hone hk.1

theorem closed_none (n : Nat) : Closed md ops (Array.replicate n false) := by
  intro k o _ hl
  simp only [Array.getD_eq_getD_getElem?, Array.getElem?_replicate] at hl
  split at hl <;> simp at hl

/-- A REGION THAT DRAWS ITS ORDER, walked in one order of one's own. -/
theorem wp_region_ord {id : Nat} {Q : Exit → Act → World → Prop} {a : Act} {w : World} {l : List Oper} (ord : List (Nat × How)) (hm : P.follows .mixedOrders = true) (hB : check l.toArray ord = true)
    (C : World → Prop) (hC : C w.drew) (h : wpOrd P l.toArray (Q .normal) C ord a w.drew) : (Code.region id l.toArray true).wp P Q a w := by
  simp only [check, Bool.and_eq_true, beq_iff_eq] at hB
  obtain ⟨⟨h1, h2⟩, h3⟩ := hB
  refine wp_region_any hm (wpAny_of_wpAnyC (K := Q .normal) (fl := fun i => (sealsOf ord).contains i) (fun _ _ h => h) _ C _ _ _ ?_)
  rw [← h2] at h3 ⊢
  exact wpAnyC_ord h1 ord C _ a w.drew (closed_none _) h3 hC h
end

/-! Steps -/
/-- An operation that enters no function. -/
def stays : Op → Bool
  | .call c => match c.callee with | .builtin .len | .builtin .cap | .builtin .min | .builtin .max => true | _ => false
  | .move _ | .assign _ | .pick .. | .load .. | .binOp .. | .unOp .. | .convert .. | .makeInterface .. | .fieldAddr .. | .field .. | .indexAddr .. | .index .. | .extract .. | .nilCheck _ | .typeAssert .. | .slice .. | .lookup .. | .build .. => true
  | _ => false

def NoEnter (s : Sem Next) : Prop := ∀ (P : Program) (w w' : World) (n : Next), s.run P w = .ok n w' → ∃ v, n = .value v
theorem ne_value (v : Value) : NoEnter (pure (.value v)) := fun P w w' n h => by
  have h' : (Result.ok (Next.value v) w : Result Next) = .ok n w' := h
  injection h' with h'
  exact ⟨v, h'.symm⟩
theorem ne_halt (x : Halt) : NoEnter (.halt x) := fun P w w' n h => by
  have h' : (Result.halt x w : Result Next) = .ok n w' := h
  cases h'
theorem ne_bind {α : Type} (s : Sem α) (k : α → Sem Next) (h : ∀ x, NoEnter (k x)) : NoEnter (s >>= k) := fun P w w' n => by
  rw [Sem.run_bind]
  cases s.run P w with
  | ok v w1 => exact h v P w1 w' n
  | halt x w1 => intro h'; cases h'
theorem ne_v (s : Sem Value) : NoEnter (do pure (Next.value (← s))) := ne_bind s _ fun _ => ne_value _
theorem ne_nil : NoEnter (runtimePanic .nilDeref) := ne_bind _ _ fun _ => ne_halt _

theorem stays_enter {o : Oper} {ρ : Operand → Value} (h : stays o.op = true) : NoEnter (execOp ρ o) := by
  obtain ⟨dst, op, type, pos, after, guard⟩ := o
  cases op <;> simp only [stays] at h <;> try (exact absurd h (by decide))
  all_goals simp only [execOp]
  case call c =>
    obtain ⟨callee, as, tys⟩ := c
    cases callee with
    | value f => simp at h
    | invoke r m => simp at h
    | builtin b =>
      cases b <;> simp at h <;> (simp only [resolve, invoke, builtin]; exact ne_v _)
  case nilCheck x =>
    split
    · exact ne_nil
    · exact ne_nil
    · exact ne_nil
    · split
      · exact ne_nil
      · refine ne_bind _ _ fun _ => ne_bind _ _ fun _ => ?_
        split
        · exact ne_bind _ _ fun _ => ne_value _
        · exact ne_value _
      · exact ne_value _
    · exact ne_value _
  all_goals first | exact ne_v _ | exact ne_value _ | exact ne_bind _ _ fun _ => ne_value _

section
variable {P : Program} {K : Act → World → Prop} {C : World → Prop} {a : Act} {w : World} {i : Nat} {rest : List (Nat × How)} {o : Oper}

theorem quiet_value {D : World → Prop} {K' : Act → Prop} (hs : stays o.op = true) (h : o.quiet P a D K') : ∃ v, (∀ w', D w' → (execOp a.eval o).run P w' = .ok (.value v) w') ∧ K' (a.put o.dst v) := by
  obtain ⟨v, h1, h2⟩ := h
  refine ⟨v, fun w' hw => ?_, h2⟩
  have h3 := h1 w' hw
  unfold Oper.quietAt at h3
  have hne := stays_enter (ρ := a.eval) hs P w'
  generalize hr : (execOp a.eval o).run P w' = r at *
  cases r with
  | ok n w1 =>
    obtain ⟨u, rfl⟩ := hne w1 n rfl
    simp only [Oper.quietUpon] at h3
    obtain ⟨rfl, rfl⟩ := h3
    rfl
  | halt x w1 => simp only [Oper.quietUpon] at h3

variable {l : List Oper}
theorem ord_nil (h : K a w) : wpOrd P l.toArray K C [] a w := h
theorem ord_pure (hi : l[i]? = some o) (hw : Region.wanted o (yielded l.toArray a.tmps) = true) (hs : stays o.op = true)
    (h : ∀ K' : Act → Prop, (∀ a, wpOrd P l.toArray K C rest a w → K' a) → o.quiet P a (fun _ => True) K') : wpOrd P l.toArray K C ((i, .pure) :: rest) a w := by
  have hi' : l.toArray[i]? = some o := by simpa using hi
  simp only [wpOrd, hi', hw, if_true]
  obtain ⟨v, h1, h2⟩ := quiet_value hs (h _ fun _ h => h)
  exact ⟨v, fun w' => h1 w' trivial, h2⟩
theorem ord_skip {k : How} (hi : l[i]? = some o) (hw : Region.wanted o (yielded l.toArray a.tmps) = false) (h : wpOrd P l.toArray K C rest (a.put o.dst undef) w) : wpOrd P l.toArray K C ((i, k) :: rest) a w := by
  have hi' : l.toArray[i]? = some o := by simpa using hi
  simp only [wpOrd, hi', hw]
  exact h
theorem ord_acts (hi : l[i]? = some o) (hw : Region.wanted o (yielded l.toArray a.tmps) = true)
    (h : ∀ K' : Act → World → Prop, (∀ a w, C w → wpOrd P l.toArray K C rest a w → K' a w) → o.wp P a w K' NoQ) : wpOrd P l.toArray K C ((i, .acts) :: rest) a w := by
  have hi' : l.toArray[i]? = some o := by simpa using hi
  simp only [wpOrd, hi', hw, if_true]
  exact h _ fun _ _ h1 h2 => ⟨h1, h2⟩
theorem ord_seals (hi : l[i]? = some o) (hw : Region.wanted o (yielded l.toArray a.tmps) = true)
    (h : ∀ K' : Act → World → Prop, (∀ (C' : World → Prop) a w, C' w → wpOrd P l.toArray K C' rest a w → K' a w) → o.wp P a w K' NoQ) : wpOrd P l.toArray K C ((i, .seals) :: rest) a w := by
  have hi' : l.toArray[i]? = some o := by simpa using hi
  simp only [wpOrd, hi', hw, if_true]
  exact h _ fun C' _ _ h1 h2 => ⟨C', h1, h2⟩
end
end Go.Proofs.YtdcekoocnoackaaGreatDoor
