import Derived.Test.YtepaanpdjadakaaOrd
/-! A region that draws its order, where acts that are not bound to each other come in any order: each is walked. -/
namespace Go.Proofs.Ytepaanpdjadakaa
open Go

inductive Tree
  | leaf (ord : List (Nat × How))
  | two (ord : List (Nat × How)) (i : Nat) (t : Tree) (j : Nat) (u : Tree)
  | three (ord : List (Nat × How)) (i : Nat) (t : Tree) (j : Nat) (u : Tree) (k : Nat) (v : Tree)
def Tree.len : Tree → Nat
  | .leaf ord => ord.length
  | .two ord _ t _ _ => ord.length + (t.len + 1)
  | .three ord _ t _ _ _ _ => ord.length + (t.len + 1)

section
variable {P : Program} {ops : Array Oper} {md : Region.Mode}

/-- The prefix: no seals. -/
def checkPre (md : Region.Mode) (ops : Array Oper) (seals : List Nat) : List (Nat × How) → Array Bool → Bool
  | [], _ => true
  | (i, k) :: rest, listed =>
    (match k with
     | .pure => (Region.ready md ops listed).contains i && Region.free md ops listed i && !seals.contains i
     | .quiet => (Region.ready md ops listed).contains i && Region.free md ops listed i && !seals.contains i && seals.all fun j => listed.getD j false || aheadB md ops i j
     | .acts => (Region.ready md ops listed == [i]) && !seals.contains i
     | .seals => false) &&
    checkPre md ops seals rest (listed.setIfInBounds i true)
def behind : List (Nat × How) → Array Bool → Array Bool
  | [], l => l
  | (i, _) :: rest, l => behind rest (l.setIfInBounds i true)
def checkTree (md : Region.Mode) (ops : Array Oper) (seals : List Nat) : Tree → Array Bool → Bool
  | .leaf ord, l => checkFrom md ops seals ord l
  | .two ord i t j u, l => checkPre md ops seals ord l && (Region.ready md ops (behind ord l) == [i, j]) && !seals.contains i && !seals.contains j && (t.len == u.len) &&
      checkTree md ops seals t ((behind ord l).setIfInBounds i true) && checkTree md ops seals u ((behind ord l).setIfInBounds j true)
  | .three ord i t j u k v, l => checkPre md ops seals ord l && (Region.ready md ops (behind ord l) == [i, j, k]) && !seals.contains i && !seals.contains j && !seals.contains k && (t.len == u.len) && (t.len == v.len) &&
      checkTree md ops seals t ((behind ord l).setIfInBounds i true) && checkTree md ops seals u ((behind ord l).setIfInBounds j true) && checkTree md ops seals v ((behind ord l).setIfInBounds k true)

def wpTree (P : Program) (ops : Array Oper) (K : Act → World → Prop) (C : World → Prop) : Tree → Act → World → Prop
  | .leaf ord, a, w => wpOrd P ops K C ord a w
  | .two ord i t j u, a, w => wpOrd P ops (fun a w => wpOp P ops NoQ i (fun a' w' => C w' ∧ wpTree P ops K C t a' w') a w ∧ wpOp P ops NoQ j (fun a' w' => C w' ∧ wpTree P ops K C u a' w') a w) C ord a w
  | .three ord i t j u k v, a, w => wpOrd P ops (fun a w => wpOp P ops NoQ i (fun a' w' => C w' ∧ wpTree P ops K C t a' w') a w ∧ wpOp P ops NoQ j (fun a' w' => C w' ∧ wpTree P ops K C u a' w') a w ∧ wpOp P ops NoQ k (fun a' w' => C w' ∧ wpTree P ops K C v a' w') a w) C ord a w

theorem wpAnyC_pre {K K' : Act → World → Prop} {seals : List Nat} {n : Nat} {C : World → Prop} (hsel : Region.noSelect ops = true) : ∀ (ord : List (Nat × How)) (listed : Array Bool) (a : Act) (w : World),
    Closed md ops listed → checkPre md ops seals ord listed = true → C w → wpOrd P ops K' C ord a w →
    (∀ a w, Closed md ops (behind ord listed) → C w → K' a w → wpAnyC P md ops K (seals.contains ·) n C (behind ord listed) a w) →
    wpAnyC P md ops K (seals.contains ·) (ord.length + n) C listed a w := by
  intro ord
  induction ord with
  | nil =>
    intro listed a w hcl _ hC h hend
    rw [List.length_nil, Nat.zero_add]
    exact hend a w hcl hC h
  | cons p rest ih =>
    intro listed a w hcl hch hC h hend
    obtain ⟨i, k⟩ := p
    simp only [checkPre, Bool.and_eq_true] at hch
    obtain ⟨hk, hrest⟩ := hch
    have hready : i ∈ Region.ready md ops listed := by
      cases k <;> simp only [Bool.and_eq_true, beq_iff_eq] at hk
      · simpa using hk.1.1
      · simpa using hk.1.1.1
      · rw [hk.1]; simp
      · cases hk
    obtain ⟨_, o, ho, _⟩ := mem_ready.1 hready
    simp only [wpOrd, ho] at h
    have hlen : (((i, k) :: rest).length + n) = (rest.length + n) + 1 := by simp; omega
    rw [hlen]
    have hfirst : ∀ v, YC P ops C o v a → k = .quiet → wpOrd P ops K' C rest (a.put o.dst v) w → wpAnyC P md ops K (seals.contains ·) (rest.length + n + 1) C listed a w := by
      intro v hy hq h'
      subst hq
      simp only [Bool.and_eq_true, Bool.not_eq_true', List.all_eq_true, Bool.or_eq_true] at hk
      refine wpAnyC_first ho (Region.noSelect_spec hsel) hk.1.2 listed (fun l2 j hj hun hs hc hjr => ?_) (rest.length + n) listed a w hcl (fun _ h => h) (Region.free_spec ho hk.1.1.2) hready hy (ih _ _ w (closed_set hcl hready) hrest hC h' hend)
      have hu2 : l2.getD i false = false := by
        rcases Nat.lt_or_ge i l2.size with h3 | h3
        · simp [h3] at hun ⊢; exact hun
        · simp [Array.getElem?_eq_none h3] at hun
      rcases hk.2 j (by simpa using hj) with h1 | h1
      · have h2 := hs j h1
        have h3 := (mem_ready.1 hjr).1
        rcases Nat.lt_or_ge j l2.size with h4 | h4
        · simp [h4] at h2 h3; rw [h2] at h3; cases h3
        · simp [Array.getElem?_eq_none h4] at h2
      · rw [ahead_of h1 l2 hc hjr] at hu2; cases hu2
    have hfirstP : ∀ v, YC P ops (fun _ => True) o v a → k = .pure → wpOrd P ops K' C rest (a.put o.dst v) w → wpAnyC P md ops K (seals.contains ·) (rest.length + n + 1) C listed a w := by
      intro v hy hq h'
      subst hq
      simp only [Bool.and_eq_true, Bool.not_eq_true'] at hk
      exact wpAnyC_firstP ho (Region.noSelect_spec hsel) hk.2 (rest.length + n) C listed a w (Region.free_spec ho hk.1.2) hready hy (ih _ _ w (closed_set hcl hready) hrest hC h' hend)
    by_cases hw : Region.wanted o (yielded ops a.tmps) = true
    · simp only [hw, if_true] at h
      cases k with
      | pure =>
        obtain ⟨v, hv, h'⟩ := h
        exact hfirstP v (.inl ⟨hw, fun w' _ => hv w'⟩) rfl h'
      | quiet =>
        obtain ⟨v, hv, h'⟩ := h
        exact hfirst v (.inl ⟨hw, hv⟩) rfl h'
      | acts =>
        simp only [Bool.and_eq_true, beq_iff_eq, Bool.not_eq_true'] at hk
        refine ⟨hC, fun h0 => absurd (h0 ▸ hk.1) (by simp), fun j hj => ?_⟩
        rw [hk.1] at hj
        obtain rfl : j = i := by simpa using hj
        unfold wpOp
        simp only [ho, hw, if_true]
        exact .inl (Oper.wp_mono (fun a' w' ⟨h1, h2⟩ => ⟨C, fun _ => rfl, ih _ a' w' (closed_set hcl hready) hrest h1 h2 hend⟩) h)
      | seals => cases hk
    · simp only [hw] at h
      have hw' : Region.wanted o (yielded ops a.tmps) = false := by simpa using hw
      cases k with
      | pure => exact hfirstP undef (.inr ⟨hw', rfl⟩) rfl h
      | quiet => exact hfirst undef (.inr ⟨hw', rfl⟩) rfl h
      | acts =>
        simp only [Bool.and_eq_true, beq_iff_eq] at hk
        refine ⟨hC, fun h0 => absurd (h0 ▸ hk.1) (by simp), fun j hj => ?_⟩
        rw [hk.1] at hj
        obtain rfl : j = i := by simpa using hj
        unfold wpOp
        simp only [ho, hw']
        exact ⟨C, fun _ => rfl, ih _ _ w (closed_set hcl hready) hrest hC h hend⟩
      | seals => cases hk

theorem wpAnyC_tree {K : Act → World → Prop} {seals : List Nat} {C : World → Prop} (hsel : Region.noSelect ops = true) : ∀ (t : Tree) (listed : Array Bool) (a : Act) (w : World),
    Closed md ops listed → checkTree md ops seals t listed = true → C w → wpTree P ops K C t a w → wpAnyC P md ops K (seals.contains ·) t.len C listed a w := by
  intro t
  induction t with
  | leaf ord =>
    intro listed a w hcl hch hC h
    exact wpAnyC_ord hsel ord C listed a w hcl hch hC h
  | two ord i t j u iht ihu =>
    intro listed a w hcl hch hC h
    simp only [checkTree, Bool.and_eq_true, Bool.not_eq_true', beq_iff_eq] at hch
    obtain ⟨⟨⟨⟨⟨⟨h1, h2⟩, h3⟩, h4⟩, h5⟩, h6⟩, h7⟩ := hch
    refine wpAnyC_pre hsel ord listed a w hcl h1 hC h fun a w hcl hC ⟨hi, hj⟩ => ?_
    refine ⟨hC, fun h0 => (by rw [h2] at h0; cases h0), fun m hm => ?_⟩
    have hm' := hm
    rw [h2] at hm
    simp only [List.mem_cons, List.not_mem_nil, or_false] at hm
    rcases hm with rfl | rfl
    · exact wpOp_mono (fun a' w' ⟨k1, k2⟩ => ⟨C, fun _ => rfl, iht _ a' w' (closed_set hcl hm') h6 k1 k2⟩) hi
    · exact wpOp_mono (fun a' w' ⟨k1, k2⟩ => ⟨C, fun _ => rfl, by rw [h5]; exact ihu _ a' w' (closed_set hcl hm') h7 k1 k2⟩) hj
  | three ord i t j u k v iht ihu ihv =>
    intro listed a w hcl hch hC h
    simp only [checkTree, Bool.and_eq_true, Bool.not_eq_true', beq_iff_eq] at hch
    obtain ⟨⟨⟨⟨⟨⟨⟨⟨⟨h1, h2⟩, h3⟩, h4⟩, h4'⟩, h5⟩, h5'⟩, h6⟩, h7⟩, h8⟩ := hch
    refine wpAnyC_pre hsel ord listed a w hcl h1 hC h fun a w hcl hC ⟨hi, hj, hk⟩ => ?_
    refine ⟨hC, fun h0 => (by rw [h2] at h0; cases h0), fun m hm => ?_⟩
    have hm' := hm
    rw [h2] at hm
    simp only [List.mem_cons, List.not_mem_nil, or_false] at hm
    rcases hm with rfl | rfl | rfl
    · exact wpOp_mono (fun a' w' ⟨k1, k2⟩ => ⟨C, fun _ => rfl, iht _ a' w' (closed_set hcl hm') h6 k1 k2⟩) hi
    · exact wpOp_mono (fun a' w' ⟨k1, k2⟩ => ⟨C, fun _ => rfl, by rw [h5]; exact ihu _ a' w' (closed_set hcl hm') h7 k1 k2⟩) hj
    · exact wpOp_mono (fun a' w' ⟨k1, k2⟩ => ⟨C, fun _ => rfl, by rw [h5']; exact ihv _ a' w' (closed_set hcl hm') h8 k1 k2⟩) hk

/-- The check of a tree. -/
def checkT (ops : Array Oper) (seals : List Nat) (t : Tree) : Bool := Region.noSelect ops && t.len == ops.size && checkTree .any ops seals t (Array.replicate ops.size false)
/-- A REGION THAT DRAWS ITS ORDER, walked in a tree of orders. -/
theorem wp_region_tree {id : Nat} {Q : Exit → Act → World → Prop} {a : Act} {w : World} {l : List Oper} (t : Tree) (seals : List Nat) (hm : P.follows .mixedOrders = true) (hB : checkT l.toArray seals t = true)
    (C : World → Prop) (hC : C w.drew) (h : wpTree P l.toArray (Q .normal) C t a w.drew) : (Code.region id l.toArray true).wp P Q a w := by
  simp only [checkT, Bool.and_eq_true, beq_iff_eq] at hB
  obtain ⟨⟨h1, h2⟩, h3⟩ := hB
  refine wp_region_any hm (wpAny_of_wpAnyC (K := Q .normal) (fl := fun i => seals.contains i) (fun _ _ h => h) _ C _ _ _ ?_)
  rw [← h2] at h3 ⊢
  exact wpAnyC_tree h1 t _ a w.drew (closed_none _) h3 hC h
variable {K : Act → World → Prop} {C : World → Prop} {a : Act} {w : World}
theorem tree_leaf {ord : List (Nat × How)} (h : wpOrd P ops K C ord a w) : wpTree P ops K C (.leaf ord) a w := h
theorem tree_two {ord : List (Nat × How)} {i j : Nat} {t u : Tree} (h : wpOrd P ops (fun a w => wpOp P ops NoQ i (fun a' w' => C w' ∧ wpTree P ops K C t a' w') a w ∧ wpOp P ops NoQ j (fun a' w' => C w' ∧ wpTree P ops K C u a' w') a w) C ord a w) : wpTree P ops K C (.two ord i t j u) a w := h
theorem tree_three {ord : List (Nat × How)} {i j k : Nat} {t u v : Tree} (h : wpOrd P ops (fun a w => wpOp P ops NoQ i (fun a' w' => C w' ∧ wpTree P ops K C t a' w') a w ∧ wpOp P ops NoQ j (fun a' w' => C w' ∧ wpTree P ops K C u a' w') a w ∧ wpOp P ops NoQ k (fun a' w' => C w' ∧ wpTree P ops K C v a' w') a w) C ord a w) : wpTree P ops K C (.three ord i t j u k v) a w := h
theorem tree_two0 {i j : Nat} {t u : Tree} (h : wpOp P ops NoQ i (fun a' w' => C w' ∧ wpTree P ops K C t a' w') a w) (h' : wpOp P ops NoQ j (fun a' w' => C w' ∧ wpTree P ops K C u a' w') a w) : wpTree P ops K C (.two [] i t j u) a w := ⟨h, h'⟩
/-- An act at a fork. -/
theorem fork_act {l : List Oper} {i : Nat} {o : Oper} {T : Act → World → Prop} (hi : l[i]? = some o) (hw : Region.wanted o (yielded l.toArray a.tmps) = true)
    (h : ∀ K' : Act → World → Prop, (∀ a w, C w → T a w → K' a w) → o.wp P a w K' NoQ) : wpOp P l.toArray NoQ i (fun a' w' => C w' ∧ T a' w') a w := by
  unfold wpOp
  have : l.toArray[i]? = some o := by simpa using hi
  simp only [this, hw, if_true]
  exact .inl (h _ fun _ _ h1 h2 => ⟨h1, h2⟩)
end
end Go.Proofs.Ytepaanpdjadakaa
