import Derived.Test.YtepaanpdjadakaaGreatDoorBase
import Derived.Test.YtepaanpdjadakaaGreatDoorFloB
import Derived.Test.YtepaanpdjadakaaGreatDoorFail
import Derived.Test.YtepaanpdjadakaaGreatDoorAft
import Derived.Test.YtepaanpdjadakaaGreatDoorTail
import Derived.Test.YtepaanpdjadakaaGreatDoorSeq
import Derived.Test.YtepaanpdjadakaaGreatDoorFlOne
import Derived.Test.YtepaanpdjadakaaGreatDoorFlo6
import Derived.Test.YtepaanpdjadakaaGreatDoorFlo5
import Derived.Test.YtepaanpdjadakaaGreatDoorExpB

/-! A struct stored at its place in a slice of one's own. -/
namespace Go.Proofs.YtepaanpdjadakaaGreatDoor
open Go Go.RowKit

theorem take_put {α : Type} {enc : α → List Value} {sz : Nat} (hsz : ∀ x, (enc x).length = sz) (hpos : 0 < sz) {L : List α} {cur : Array Value} {n : Nat} (h : cur.toList.take (n * sz) = L.flatMap enc) (hn : L.length = n) (hle : n * sz ≤ cur.size)
    {i : Nat} (hi : i < n) (e : α) : (splice cur (i * sz) (enc e)).toList.take (n * sz) = (L.set i e).flatMap enc := by
  have hi2 : i * sz + sz ≤ n * sz := by
    have := Nat.mul_le_mul_right sz (show i + 1 ≤ n by omega)
    rw [Nat.add_mul] at this; omega
  apply List.ext_getElem?
  intro j
  by_cases hj : j < n * sz
  · have hq : j / sz < n := (Nat.div_lt_iff_lt_mul hpos).2 hj
    have hr : j % sz < sz := Nat.mod_lt _ hpos
    have hjj : j = j / sz * sz + j % sz := by rw [Nat.mul_comm]; exact (Nat.div_add_mod j sz).symm
    rw [List.getElem?_take, if_pos hj]
    have h1 : (splice cur (i * sz) (enc e)).toList[j]? = (splice cur (i * sz) (enc e))[j]? := by simp
    rw [h1, splice_get (by rw [hsz]; omega)]
    obtain ⟨x, hx⟩ : ∃ x, L[j / sz]? = some x := ⟨_, List.getElem?_eq_getElem (by omega)⟩
    have hcur : cur[j]? = (enc x)[j % sz]? := by
      rw [← flat_get hsz L (j / sz) (j % sz) x hx hr, ← hjj, ← h, List.getElem?_take, if_pos hj]; simp
    by_cases e1 : j / sz = i
    · have hs : (L.set i e)[j / sz]? = some e := by rw [e1, List.getElem?_set]; simp; omega
      have := flat_get hsz (L.set i e) (j / sz) (j % sz) e hs hr
      rw [← hjj] at this
      rw [this, if_neg (by rw [← e1]; omega), if_pos (by rw [hsz, ← e1]; omega)]
      congr 1
      rw [← e1]; omega
    · have hs : (L.set i e)[j / sz]? = some x := by rw [List.getElem?_set, if_neg (Ne.symm e1)]; exact hx
      have := flat_get hsz (L.set i e) (j / sz) (j % sz) x hs hr
      rw [← hjj] at this
      rw [this, hcur]
      have : j < i * sz ∨ i * sz + sz ≤ j := by
        rcases Nat.lt_or_gt_of_ne e1 with h2 | h2
        · left
          have := Nat.mul_le_mul_right sz (show j / sz + 1 ≤ i by omega)
          rw [Nat.add_mul] at this; omega
        · right
          have := Nat.mul_le_mul_right sz (show i + 1 ≤ j / sz by omega)
          rw [Nat.add_mul] at this; omega
      rcases this with h2 | h2
      · rw [if_pos h2]
      · rw [if_neg (by omega), if_neg (by rw [hsz]; omega)]
  · rw [List.getElem?_eq_none (by rw [List.length_take]; omega), List.getElem?_eq_none (by rw [flat_length hsz, List.length_set, hn]; omega)]
section
variable {B : Nat} {w0 w : World} {F : HP} {e : TypeId} {α : Type} {enc : α → List Value} {sz : Nat} {v : Value} {l : List α} {P : Program}
/-- A struct is stored at its place. -/
theorem Sat.arr_put {ty : TypeId} (hsz : ∀ x, (enc x).length = sz) (hone : ∀ x, ∀ u ∈ enc x, u.oneCell' = true) (hi : (P.info? ty).map (·.size) = some sz) (hpos : 0 < sz) (h : Sat B w0 w (arr e sz v l.length (l.flatMap enc) • F)) {i : Nat} (hil : i < l.length) (x : α) :
    ∃ g c w', v = .slice (some ⟨g, 0, none⟩) l.length c ∧ (Instr.storeAt ty (.pointer (some ⟨g, i * sz, none⟩)) (.agg (enc x).toArray)).run P w = .ok () w' ∧ Sat B w0 w' (arr e sz v (l.set i x).length ((l.set i x).flatMap enc) • F) := by
  rcases h.arr_open with ⟨_, h0, _, _⟩ | ⟨g, cap, cur, rfl, q1, q2, q3, q4, hO⟩
  · omega
  have hle : l.length * sz ≤ cur.size := by rw [q3]; exact Nat.mul_le_mul_right _ q1
  have hi2 : i * sz + sz ≤ l.length * sz := by
    have := Nat.mul_le_mul_right sz (show i + 1 ≤ l.length by omega)
    rw [Nat.add_mul] at this; omega
  have hcl : (Value.agg (enc x).toArray).cells.toList = enc x := by simp [Value.cells]
  have hcs : (Value.agg (enc x).toArray).cells.size = sz := by simp [Value.cells, hsz]
  have hst := run_storeAt_row (P := P) (o := i * sz) (ty := ty) (v := .agg (enc x).toArray) hO.heap (by rw [hi, hcs]) (by rw [hcs]; omega) (by rw [hcl]; exact hone x)
  have hS2 := hO.setRow (cs := splice cur (i * sz) (Value.agg (enc x).toArray).cells.toList)
  refine ⟨g, cap, _, rfl, hst, ?_⟩
  have htk := take_put hsz hpos q4 rfl hle hil x
  rw [List.length_set]
  refine Sat.arr_shut q1 q2 ?_ ?_ hS2
  · rw [hcl, splice_size (by rw [hsz]; omega), q3]
  · rw [hcl]; exact htk
end
end Go.Proofs.YtepaanpdjadakaaGreatDoor

/-! A region that draws its order, where acts that are not bound to each other come in any order: each is walked. -/
namespace Go.Proofs.YtepaanpdjadakaaGreatDoor
open Go

inductive Tree
  | leaf (ord : List (Nat × How))
  | two (ord : List (Nat × How)) (i : Nat) (t : Tree) (j : Nat) (u : Tree)
  | three (ord : List (Nat × How)) (i : Nat) (t : Tree) (j : Nat) (u : Tree) (k : Nat) (v : Tree)
def Tree.len : Tree → Nat
  | .leaf ord => ord.length
  | .two ord _ t _ _ => ord.length + (t.len + 1)
  | .three ord _ t _ _ _ _ => ord.length + (t.len + 1)

section
variable {P : Program} {ops : Array Oper} {md : Region.Mode}

/-- The prefix: no seals. -/
def checkPre (md : Region.Mode) (ops : Array Oper) (seals : List Nat) : List (Nat × How) → Array Bool → Bool
  | [], _ => true
  | (i, k) :: rest, listed =>
    (match k with
     | .pure => (Region.ready md ops listed).contains i && Region.free md ops listed i && !seals.contains i
     | .quiet => (Region.ready md ops listed).contains i && Region.free md ops listed i && !seals.contains i && seals.all fun j => listed.getD j false || aheadB md ops i j
     | .acts => (Region.ready md ops listed == [i]) && !seals.contains i
     | .seals => false) &&
    checkPre md ops seals rest (listed.setIfInBounds i true)
def behind : List (Nat × How) → Array Bool → Array Bool
  | [], l => l
  | (i, _) :: rest, l => behind rest (l.setIfInBounds i true)
def checkTree (md : Region.Mode) (ops : Array Oper) (seals : List Nat) : Tree → Array Bool → Bool
  | .leaf ord, l => checkFrom md ops seals ord l
  | .two ord i t j u, l => checkPre md ops seals ord l && (Region.ready md ops (behind ord l) == [i, j]) && !seals.contains i && !seals.contains j && (t.len == u.len) &&
      checkTree md ops seals t ((behind ord l).setIfInBounds i true) && checkTree md ops seals u ((behind ord l).setIfInBounds j true)
  | .three ord i t j u k v, l => checkPre md ops seals ord l && (Region.ready md ops (behind ord l) == [i, j, k]) && !seals.contains i && !seals.contains j && !seals.contains k && (t.len == u.len) && (t.len == v.len) &&
      checkTree md ops seals t ((behind ord l).setIfInBounds i true) && checkTree md ops seals u ((behind ord l).setIfInBounds j true) && checkTree md ops seals v ((behind ord l).setIfInBounds k true)

def wpTree (P : Program) (ops : Array Oper) (K : Act → World → Prop) (C : World → Prop) : Tree → Act → World → Prop
  | .leaf ord, a, w => wpOrd P ops K C ord a w
  | .two ord i t j u, a, w => wpOrd P ops (fun a w => wpOp P ops NoQ i (fun a' w' => C w' ∧ wpTree P ops K C t a' w') a w ∧ wpOp P ops NoQ j (fun a' w' => C w' ∧ wpTree P ops K C u a' w') a w) C ord a w
  | .three ord i t j u k v, a, w => wpOrd P ops (fun a w => wpOp P ops NoQ i (fun a' w' => C w' ∧ wpTree P ops K C t a' w') a w ∧ wpOp P ops NoQ j (fun a' w' => C w' ∧ wpTree P ops K C u a' w') a w ∧ wpOp P ops NoQ k (fun a' w' => C w' ∧ wpTree P ops K C v a' w') a w) C ord a w

theorem wpAnyC_pre {K K' : Act → World → Prop} {seals : List Nat} {n : Nat} {C : World → Prop} (hsel : Region.noSelect ops = true) : ∀ (ord : List (Nat × How)) (listed : Array Bool) (a : Act) (w : World),
    Closed md ops listed → checkPre md ops seals ord listed = true → C w → wpOrd P ops K' C ord a w →
    (∀ a w, Closed md ops (behind ord listed) → C w → K' a w → wpAnyC P md ops K (seals.contains ·) n C (behind ord listed) a w) →
    wpAnyC P md ops K (seals.contains ·) (ord.length + n) C listed a w := by
  intro ord
  induction ord with
  | nil =>
    intro listed a w hcl _ hC h hend
    rw [List.length_nil, Nat.zero_add]
    exact hend a w hcl hC h
  | cons p rest ih =>
    intro listed a w hcl hch hC h hend
    obtain ⟨i, k⟩ := p
    simp only [checkPre, Bool.and_eq_true] at hch
    obtain ⟨hk, hrest⟩ := hch
    have hready : i ∈ Region.ready md ops listed := by
      cases k <;> simp only [Bool.and_eq_true, beq_iff_eq] at hk
      · simpa using hk.1.1
      · simpa using hk.1.1.1
      · rw [hk.1]; simp
      · cases hk
    obtain ⟨_, o, ho, _⟩ := mem_ready.1 hready
    simp only [wpOrd, ho] at h
    have hlen : (((i, k) :: rest).length + n) = (rest.length + n) + 1 := by simp; omega
    rw [hlen]
    have hfirst : ∀ v, YC P ops C o v a → k = .quiet → wpOrd P ops K' C rest (a.put o.dst v) w → wpAnyC P md ops K (seals.contains ·) (rest.length + n + 1) C listed a w := by
      intro v hy hq h'
      subst hq
      simp only [Bool.and_eq_true, Bool.not_eq_true', List.all_eq_true, Bool.or_eq_true] at hk
      refine wpAnyC_first ho (Region.noSelect_spec hsel) hk.1.2 listed (fun l2 j hj hun hs hc hjr => ?_) (rest.length + n) listed a w hcl (fun _ h => h) (Region.free_spec ho hk.1.1.2) hready hy (ih _ _ w (closed_set hcl hready) hrest hC h' hend)
      have hu2 : l2.getD i false = false := by
        rcases Nat.lt_or_ge i l2.size with h3 | h3
        · simp [h3] at hun ⊢; exact hun
        · simp [Array.getElem?_eq_none h3] at hun
      rcases hk.2 j (by simpa using hj) with h1 | h1
      · have h2 := hs j h1
        have h3 := (mem_ready.1 hjr).1
        rcases Nat.lt_or_ge j l2.size with h4 | h4
        · simp [h4] at h2 h3; rw [h2] at h3; cases h3
        · simp [Array.getElem?_eq_none h4] at h2
      · rw [ahead_of h1 l2 hc hjr] at hu2; cases hu2
    have hfirstP : ∀ v, YC P ops (fun _ => True) o v a → k = .pure → wpOrd P ops K' C rest (a.put o.dst v) w → wpAnyC P md ops K (seals.contains ·) (rest.length + n + 1) C listed a w := by
      intro v hy hq h'
      subst hq
      simp only [Bool.and_eq_true, Bool.not_eq_true'] at hk
      exact wpAnyC_firstP ho (Region.noSelect_spec hsel) hk.2 (rest.length + n) C listed a w (Region.free_spec ho hk.1.2) hready hy (ih _ _ w (closed_set hcl hready) hrest hC h' hend)
    by_cases hw : Region.wanted o (yielded ops a.tmps) = true
    · simp only [hw, if_true] at h
      cases k with
      | pure =>
        obtain ⟨v, hv, h'⟩ := h
        exact hfirstP v (.inl ⟨hw, fun w' _ => hv w'⟩) rfl h'
      | quiet =>
        obtain ⟨v, hv, h'⟩ := h
        exact hfirst v (.inl ⟨hw, hv⟩) rfl h'
      | acts =>
        simp only [Bool.and_eq_true, beq_iff_eq, Bool.not_eq_true'] at hk
        refine ⟨hC, fun h0 => absurd (h0 ▸ hk.1) (by simp), fun j hj => ?_⟩
        rw [hk.1] at hj
        obtain rfl : j = i := by simpa using hj
        unfold wpOp
        simp only [ho, hw, if_true]
        exact .inl (Oper.wp_mono (fun a' w' ⟨h1, h2⟩ => ⟨C, fun _ => rfl, ih _ a' w' (closed_set hcl hready) hrest h1 h2 hend⟩) h)
      | seals => cases hk
    · simp only [hw] at h
      have hw' : Region.wanted o (yielded ops a.tmps) = false := by simpa using hw
      cases k with
      | pure => exact hfirstP undef (.inr ⟨hw', rfl⟩) rfl h
      | quiet => exact hfirst undef (.inr ⟨hw', rfl⟩) rfl h
      | acts =>
        simp only [Bool.and_eq_true, beq_iff_eq] at hk
        refine ⟨hC, fun h0 => absurd (h0 ▸ hk.1) (by simp), fun j hj => ?_⟩
        rw [hk.1] at hj
        obtain rfl : j = i := by simpa using hj
        unfold wpOp
        simp only [ho, hw']
        exact ⟨C, fun _ => rfl, ih _ _ w (closed_set hcl hready) hrest hC h hend⟩
      | seals => cases hk

theorem wpAnyC_tree {K : Act → World → Prop} {seals : List Nat} {C : World → Prop} (hsel : Region.noSelect ops = true) : ∀ (t : Tree) (listed : Array Bool) (a : Act) (w : World),
    Closed md ops listed → checkTree md ops seals t listed = true → C w → wpTree P ops K C t a w → wpAnyC P md ops K (seals.contains ·) t.len C listed a w := by
  intro t
  induction t with
  | leaf ord =>
    intro listed a w hcl hch hC h
    exact wpAnyC_ord hsel ord C listed a w hcl hch hC h
  | two ord i t j u iht ihu =>
    intro listed a w hcl hch hC h
    simp only [checkTree, Bool.and_eq_true, Bool.not_eq_true', beq_iff_eq] at hch
    obtain ⟨⟨⟨⟨⟨⟨h1, h2⟩, h3⟩, h4⟩, h5⟩, h6⟩, h7⟩ := hch
    refine wpAnyC_pre hsel ord listed a w hcl h1 hC h fun a w hcl hC ⟨hi, hj⟩ => ?_
    refine ⟨hC, fun h0 => (by rw [h2] at h0; cases h0), fun m hm => ?_⟩
    have hm' := hm
    rw [h2] at hm
    simp only [List.mem_cons, List.not_mem_nil, or_false] at hm
    rcases hm with rfl | rfl
    · exact wpOp_mono (fun a' w' ⟨k1, k2⟩ => ⟨C, fun _ => rfl, iht _ a' w' (closed_set hcl hm') h6 k1 k2⟩) hi
    · exact wpOp_mono (fun a' w' ⟨k1, k2⟩ => ⟨C, fun _ => rfl, by rw [h5]; exact ihu _ a' w' (closed_set hcl hm') h7 k1 k2⟩) hj
  | three ord i t j u k v iht ihu ihv =>
    intro listed a w hcl hch hC h
    simp only [checkTree, Bool.and_eq_true, Bool.not_eq_true', beq_iff_eq] at hch
    obtain ⟨⟨⟨⟨⟨⟨⟨⟨⟨h1, h2⟩, h3⟩, h4⟩, h4'⟩, h5⟩, h5'⟩, h6⟩, h7⟩, h8⟩ := hch
    refine wpAnyC_pre hsel ord listed a w hcl h1 hC h fun a w hcl hC ⟨hi, hj, hk⟩ => ?_
    refine ⟨hC, fun h0 => (by rw [h2] at h0; cases h0), fun m hm => ?_⟩
    have hm' := hm
    rw [h2] at hm
    simp only [List.mem_cons, List.not_mem_nil, or_false] at hm
    rcases hm with rfl | rfl | rfl
    · exact wpOp_mono (fun a' w' ⟨k1, k2⟩ => ⟨C, fun _ => rfl, iht _ a' w' (closed_set hcl hm') h6 k1 k2⟩) hi
    · exact wpOp_mono (fun a' w' ⟨k1, k2⟩ => ⟨C, fun _ => rfl, by rw [h5]; exact ihu _ a' w' (closed_set hcl hm') h7 k1 k2⟩) hj
    · exact wpOp_mono (fun a' w' ⟨k1, k2⟩ => ⟨C, fun _ => rfl, by rw [h5']; exact ihv _ a' w' (closed_set hcl hm') h8 k1 k2⟩) hk

/-- The check of a tree. -/
def checkT (ops : Array Oper) (seals : List Nat) (t : Tree) : Bool := Region.noSelect ops && t.len == ops.size && checkTree .any ops seals t (Array.replicate ops.size false)
/-- A REGION THAT DRAWS ITS ORDER, walked in a tree of orders. -/
theorem wp_region_tree {id : Nat} {Q : Exit → Act → World → Prop} {a : Act} {w : World} {l : List Oper} (t : Tree) (seals : List Nat) (hm : P.follows .mixedOrders = true) (hB : checkT l.toArray seals t = true)
    (C : World → Prop) (hC : C w.drew) (h : wpTree P l.toArray (Q .normal) C t a w.drew) : (Code.region id l.toArray true).wp P Q a w := by
  simp only [checkT, Bool.and_eq_true, beq_iff_eq] at hB
  obtain ⟨⟨h1, h2⟩, h3⟩ := hB
  refine wp_region_any hm (wpAny_of_wpAnyC (K := Q .normal) (fl := fun i => seals.contains i) (fun _ _ h => h) _ C _ _ _ ?_)
  rw [← h2] at h3 ⊢
  exact wpAnyC_tree h1 t _ a w.drew (closed_none _) h3 hC h
variable {K : Act → World → Prop} {C : World → Prop} {a : Act} {w : World}
theorem tree_leaf {ord : List (Nat × How)} (h : wpOrd P ops K C ord a w) : wpTree P ops K C (.leaf ord) a w := h
theorem tree_two {ord : List (Nat × How)} {i j : Nat} {t u : Tree} (h : wpOrd P ops (fun a w => wpOp P ops NoQ i (fun a' w' => C w' ∧ wpTree P ops K C t a' w') a w ∧ wpOp P ops NoQ j (fun a' w' => C w' ∧ wpTree P ops K C u a' w') a w) C ord a w) : wpTree P ops K C (.two ord i t j u) a w := h
theorem tree_three {ord : List (Nat × How)} {i j k : Nat} {t u v : Tree} (h : wpOrd P ops (fun a w => wpOp P ops NoQ i (fun a' w' => C w' ∧ wpTree P ops K C t a' w') a w ∧ wpOp P ops NoQ j (fun a' w' => C w' ∧ wpTree P ops K C u a' w') a w ∧ wpOp P ops NoQ k (fun a' w' => C w' ∧ wpTree P ops K C v a' w') a w) C ord a w) : wpTree P ops K C (.three ord i t j u k v) a w := h
theorem tree_two0 {i j : Nat} {t u : Tree} (h : wpOp P ops NoQ i (fun a' w' => C w' ∧ wpTree P ops K C t a' w') a w) (h' : wpOp P ops NoQ j (fun a' w' => C w' ∧ wpTree P ops K C u a' w') a w) : wpTree P ops K C (.two [] i t j u) a w := ⟨h, h'⟩
/-- An act at a fork. -/
theorem fork_act {l : List Oper} {i : Nat} {o : Oper} {T : Act → World → Prop} (hi : l[i]? = some o) (hw : Region.wanted o (yielded l.toArray a.tmps) = true)
    (h : ∀ K' : Act → World → Prop, (∀ a w, C w → T a w → K' a w) → o.wp P a w K' NoQ) : wpOp P l.toArray NoQ i (fun a' w' => C w' ∧ T a' w') a w := by
  unfold wpOp
  have : l.toArray[i]? = some o := by simpa using hi
  simp only [this, hw, if_true]
  exact .inl (h _ fun _ _ h1 h2 => ⟨h1, h2⟩)
end
end Go.Proofs.YtepaanpdjadakaaGreatDoor

/-! The reference's flows: what it holds; place, Get. -/
namespace Go.Proofs.YtepaanpdjadakaaGreatDoor
open Go Go.RowKit

attribute [local irreducible] wpOrd
def isWL (q : Tup) (f : Flw) : Bool := decide (f.tup = q)
/-- What a reference holds. -/
def gref (b : Nat) (n : Int) (L : List Flw) : HP := hex fun (v : Value) => blk b (.cells #[.int .i64 n, v] 28) • arr 55 40 v L.length (L.flatMap Flw.enc)
section
variable {B : Nat} {w0 w w' : World} {F : HP} {b : Nat} {n : Int} {L : List Flw} {v : Value}
theorem Sat.gref_open (h : Sat B w0 w (gref b n L • F)) : ∃ A c, Sat B w0 w (blk b (.cells #[.int .i64 n, .slice A L.length c] 28) • arr 55 40 (.slice A L.length c) L.length (L.flatMap Flw.enc) • F) := by
  unfold gref at h
  rw [hex_star] at h
  obtain ⟨v, h⟩ := h.ex
  rw [star_assoc] at h
  obtain ⟨A, c, rfl⟩ := h.pull2.arr_form
  exact ⟨A, c, h⟩
theorem Sat.gref_shut (h : Sat B w0 w (blk b (.cells #[.int .i64 n, v] 28) • arr 55 40 v L.length (L.flatMap Flw.enc) • F)) : Sat B w0 w (gref b n L • F) := by
  unfold gref
  rw [hex_star]
  refine Sat.ex_mk v ?_
  rw [star_assoc]
  exact h
theorem flat_flw (l : List Flw) : (l.flatMap Flw.enc).length = l.length * 40 := flat_length Flw.enc_length l
theorem flat_flw_one (l : List Flw) : ∀ u ∈ l.flatMap Flw.enc, u.oneCell' = true := by
  intro u hu
  obtain ⟨x, _, hx⟩ := List.mem_flatMap.1 hu
  exact x.enc_one u hx
/-- A flow of a row, and its parts. -/
theorem row_flw {g k c : Nat} {x : Flw} {W : World} {G : HP} (hk : L[k]? = some x) (h : Sat B w0 W (arr 55 40 (.slice (some ⟨g, 0, none⟩) L.length c) L.length (L.flatMap Flw.enc) • G)) :
    (Instr.loadAt 37 (.pointer (some ⟨g, k * 40, none⟩))).run Tryz.prog W = .ok (.agg x.tup.enc.toArray) W ∧ (Instr.loadAt 55 (.pointer (some ⟨g, k * 40, none⟩))).run Tryz.prog W = .ok (.agg x.enc.toArray) W ∧ W.cell? ⟨g, k * 40 + 39, none⟩ = some (.int .u64 x.due) := by
  obtain ⟨g', hg, _, hc⟩ := h.arr_at Flw.enc_length rfl hk
  simp only [Option.some.injEq, Addr.mk.injEq] at hg
  obtain ⟨rfl, _⟩ := hg
  refine ⟨run_loadAt_cells Tryz.underlying37 rfl (by rw [Tup.enc_length]; kernel_rfl) (fun j u hu => ?_), run_loadAt_cells Tryz.underlying55 rfl (by rw [Flw.enc_length]; kernel_rfl) (fun j u hu => by rw [Addr.add_lit]; exact hc j u hu), hc 39 _ (x.at37 2)⟩
  have hj : j < 37 := by have := (List.getElem?_eq_some_iff.1 hu).1; rwa [Tup.enc_length] at this
  rw [Addr.add_lit]
  exact hc j u (by rw [x.at0 j hj]; exact hu)
set_option maxRecDepth 8000 in
set_option maxHeartbeats 4000000 in
theorem gPlace_any (h : Sat B w0 w (gref b n L • F)) (hl : L.length ≤ 1000) (q : Tup) : Calls Tryz.prog 32 #[.pointer (some ⟨b, 0, none⟩), .agg q.enc.toArray] w fun e w' => e = .returned (.int .i64 (plc (isWL q) L)) ∧ Sat B w0 w' (gref b n L • F) := by
  obtain ⟨A, c, hS0⟩ := h.gref_open
  have hX := hS0.alloc (.cells q.enc.toArray 37)
  have hlq : ∀ W, W.heap[w.heap.size]? = some (.cells q.enc.toArray 37) → (Instr.loadAt 37 (.pointer (some ⟨w.heap.size, 0, none⟩))).run Tryz.prog W = .ok (.agg q.enc.toArray) W :=
    fun W h => run_loadAt_row h Tryz.underlying37 rfl (by rw [Tup.enc_length]; kernel_rfl) (fun j u hu => by simpa using hu)
  have HLQ := Lib.hid hlq
  have HEQ := Lib.hid (fun (x : Tup) (w : World) => (tup_eq 9996 x q : EqV Tryz.prog w 10000 37 _ _ (decide (x = q))))
  clear hlq hS0 h
  have HLL := Lib.hid hl
  generalize hQ : q.enc.toArray = Q0 at *
  clear hQ
  generalize hxb : w.heap.size = xb at *
  go_enter Tryz.func32, Tryz.ntmps32
  go_wp2_with fail
  try rw [hxb]
  go_loopw [5] (fun i wr => ∃ k : Nat, k ≤ L.length ∧ i = .int .i64 k ∧ Sat B w0 wr (blk xb (.cells Q0 37) • blk b (.cells #[.int .i64 n, .slice A L.length c] 28) • arr 55 40 (.slice A L.length c) L.length (L.flatMap Flw.enc) • F) ∧ Hid (∀ j y, j < k → L[j]? = some y → isWL q y = false)) (fun i _ => L.length - (intOf i).toNat)
  case atStart => exact ⟨0, Nat.zero_le _, rfl, hX, Lib.hid fun j y hj => absurd hj (Nat.not_lt_zero _)⟩
  case round =>
    clear hX hxb
    obtain ⟨k, hk, rfl, hS, HK⟩ := hrel
    have d1 : wr.cell? ⟨b, 1, none⟩ = some (.slice A L.length c) := cell_heap hS.pull2.heap rfl
    by_cases hlt : k < L.length
    · obtain ⟨y, hyk⟩ : ∃ y, L[k]? = some y := ⟨_, List.getElem?_eq_getElem hlt⟩
      obtain ⟨g, rfl, _, _⟩ := hS.pull3.arr_at Flw.enc_length rfl hyk
      have hltz : (k : Int) < L.length := by omega
      have HY := Lib.hid hyk
      have HLT := Lib.hid (fun (W : World) (hW : Sat B w0 W (blk xb (.cells Q0 37) • blk b (.cells #[.int .i64 n, .slice (some ⟨g, 0, none⟩) L.length c] 28) • arr 55 40 (.slice (some ⟨g, 0, none⟩) L.length c) L.length (L.flatMap Flw.enc) • F)) => (row_flw hyk hW.pull3).1)
      have hD := hS.drew
      clear hyk hS
      cases hq : isWL q y with
      | true =>
        have HQ := Lib.hid (show decide (y.tup = q) = true from hq)
        have HQ2 := Lib.hid hq
        clear hq
        go_wp2_with fail
        try go_frame
        refine wp_region_ord [(0, .pure), (1, .pure), (2, .pure), (3, .quiet), (4, .pure), (5, .pure), (6, .pure), (7, .quiet), (8, .quiet), (9, .pure)] (by kernel_rfl) (by kernel_rfl)
          (fun w' => Sat B w0 w' (blk xb (.cells Q0 37) • blk b (.cells #[.int .i64 n, .slice (some ⟨g, 0, none⟩) L.length c] 28) • arr 55 40 (.slice (some ⟨g, 0, none⟩) L.length c) L.length (L.flatMap Flw.enc) • F)) hD ?_
        iterate 3 (refine ord_pure rfl rfl rfl (fun K' hK => ?_); go_big_quiet_op; refine hK _ ?_; clear hK K')
        refine ord_load (t := 26) rfl rfl rfl (p := .pointer (some ⟨b, 1, none⟩)) (v := .slice (some ⟨g, 0, none⟩) L.length c) rfl (fun w' hC => load_one Tryz.underlying26 rfl (cell_heap hC.pull2.heap rfl)) (fun K' hK => ?_)
        go_simp
        refine hK _ ?_
        clear hK K'
        iterate 3 (refine ord_pure rfl rfl rfl (fun K' hK => ?_); go_big_quiet_op; refine hK _ ?_; clear hK K')
        refine ord_load (t := 37) rfl rfl rfl (p := .pointer (some ⟨g, k * 40, none⟩)) (v := .agg y.tup.enc.toArray) rfl (fun w' hC => HLT.out _ hC) (fun K' hK => ?_)
        go_simp
        refine hK _ ?_
        clear hK K'
        refine ord_load (t := 37) rfl rfl rfl (p := .pointer (some ⟨xb, 0, none⟩)) (v := .agg Q0) rfl (fun w' hC => HLQ.out _ hC.heap) (fun K' hK => ?_)
        go_simp
        refine hK _ ?_
        clear hK K'
        refine ord_eql rfl rfl rfl rfl rfl (by kernel_rfl) (fun w' => HEQ.out y.tup w') (fun K' hK => ?_)
        rw [HQ.out]
        go_simp
        refine hK _ ?_
        clear hK K'
        refine ord_nil ?_
        go_wp2_with fail
        go_ret
        rw [plc_hit HY.out HQ2.out HK.out]
        exact ⟨rfl, Sat.gref_shut hD.drop⟩
      | false =>
        have HQ := Lib.hid (show decide (y.tup = q) = false from hq)
        have HQ2 := Lib.hid hq
        clear hq
        go_wp2_with fail
        try go_frame
        refine wp_region_ord [(0, .pure), (1, .pure), (2, .pure), (3, .quiet), (4, .pure), (5, .pure), (6, .pure), (7, .quiet), (8, .quiet), (9, .pure)] (by kernel_rfl) (by kernel_rfl)
          (fun w' => Sat B w0 w' (blk xb (.cells Q0 37) • blk b (.cells #[.int .i64 n, .slice (some ⟨g, 0, none⟩) L.length c] 28) • arr 55 40 (.slice (some ⟨g, 0, none⟩) L.length c) L.length (L.flatMap Flw.enc) • F)) hD ?_
        iterate 3 (refine ord_pure rfl rfl rfl (fun K' hK => ?_); go_big_quiet_op; refine hK _ ?_; clear hK K')
        refine ord_load (t := 26) rfl rfl rfl (p := .pointer (some ⟨b, 1, none⟩)) (v := .slice (some ⟨g, 0, none⟩) L.length c) rfl (fun w' hC => load_one Tryz.underlying26 rfl (cell_heap hC.pull2.heap rfl)) (fun K' hK => ?_)
        go_simp
        refine hK _ ?_
        clear hK K'
        iterate 3 (refine ord_pure rfl rfl rfl (fun K' hK => ?_); go_big_quiet_op; refine hK _ ?_; clear hK K')
        refine ord_load (t := 37) rfl rfl rfl (p := .pointer (some ⟨g, k * 40, none⟩)) (v := .agg y.tup.enc.toArray) rfl (fun w' hC => HLT.out _ hC) (fun K' hK => ?_)
        go_simp
        refine hK _ ?_
        clear hK K'
        refine ord_load (t := 37) rfl rfl rfl (p := .pointer (some ⟨xb, 0, none⟩)) (v := .agg Q0) rfl (fun w' hC => HLQ.out _ hC.heap) (fun K' hK => ?_)
        go_simp
        refine hK _ ?_
        clear hK K'
        refine ord_eql rfl rfl rfl rfl rfl (by kernel_rfl) (fun w' => HEQ.out y.tup w') (fun K' hK => ?_)
        rw [HQ.out]
        go_simp
        refine hK _ ?_
        clear hK K'
        refine ord_nil ?_
        go_wp2_with fail
        go_roundw
        case rel => exact ⟨k + 1, by omega, by go_num, hD, Lib.hid (plc_next HK.out HY.out HQ2.out)⟩
        case measure => simp [intOf]; omega
    · obtain rfl : k = L.length := by omega
      have hltz : ¬ (L.length : Int) < L.length := by omega
      go_wp2_with fail
      go_ret
      rw [plc_done HK.out (Nat.le_refl _)]
      exact ⟨rfl, Sat.gref_shut hS.drop⟩
/-- What Get answers. -/
def getVL (L : List Flw) (q : Tup) : Value := match L.find? (isWL q) with
  | some x => .tuple #[.agg x.enc.toArray, .bool true]
  | none => .tuple #[.agg zFlw.enc.toArray, .bool false]
theorem find_at {k : Nat} {x : Flw} {q : Tup} (h : L[k]? = some x) (hf : isWL q x = true) (hn : ∀ j y, j < k → L[j]? = some y → isWL q y = false) : L.find? (isWL q) = some x := by
  obtain ⟨h1, h2⟩ := List.getElem?_eq_some_iff.1 h
  rw [← List.take_append_drop k L, List.find?_append]
  have e : (L.take k).find? (isWL q) = none := by
    rw [List.find?_eq_none]
    intro y hy
    obtain ⟨j, hj⟩ := List.mem_iff_getElem?.1 hy
    have hjk : j < k := by have := (List.getElem?_eq_some_iff.1 hj).1; rw [List.length_take] at this; omega
    rw [List.getElem?_take_of_lt hjk] at hj
    rw [hn j y hjk hj]; simp
  rw [e, List.drop_eq_getElem_cons h1, h2, List.find?_cons, hf]
  rfl
theorem getL_cases (L : List Flw) (q : Tup) : (plc (isWL q) L = -1 ∧ getVL L q = .tuple #[.agg zFlw.enc.toArray, .bool false] ∧ L.find? (isWL q) = none) ∨ ∃ (k : Nat) (x : Flw), L[k]? = some x ∧ x.tup = q ∧ plc (isWL q) L = k ∧ getVL L q = .tuple #[.agg x.enc.toArray, .bool true] ∧ L.find? (isWL q) = some x := by
  rcases plc_cases (isWL q) L with ⟨h1, h2⟩ | ⟨k, x, h1, h2, h3, h4⟩
  · have : L.find? (isWL q) = none := by rw [List.find?_eq_none]; intro x hx; rw [h2 x hx]; simp
    exact .inl ⟨h1, by unfold getVL; rw [this], this⟩
  · have := find_at h1 h2 h4
    exact .inr ⟨k, x, h1, by simpa [isWL] using h2, h3, by unfold getVL; rw [this], this⟩
set_option maxRecDepth 8000 in
set_option maxHeartbeats 4000000 in
theorem gGet_any (h : Sat B w0 w (gref b n L • F)) (hl : L.length ≤ 1000) (q : Tup) : Calls Tryz.prog 21 #[.pointer (some ⟨b, 0, none⟩), .agg q.enc.toArray] w fun e w' => e = .returned (getVL L q) ∧ Sat B w0 w' (gref b n L • F) := by
  have hX := (h.alloc (.cells q.enc.toArray 37)).alloc (.cells #[.bool false, .int .u8 0, .int .u8 0, .int .u8 0, .int .u8 0, .int .u8 0, .int .u8 0, .int .u8 0, .int .u8 0, .int .u8 0, .int .u8 0, .int .u8 0, .int .u8 0, .int .u8 0, .int .u8 0, .int .u8 0, .int .u8 0, .bool false, .int .u8 0, .int .u8 0, .int .u8 0, .int .u8 0, .int .u8 0, .int .u8 0, .int .u8 0, .int .u8 0, .int .u8 0, .int .u8 0, .int .u8 0, .int .u8 0, .int .u8 0, .int .u8 0, .int .u8 0, .int .u8 0, .int .i64 0, .int .i64 0, .int .i64 0, .int .i64 0, .int .i64 0, .int .u64 0] 55)
  rw [World.size_alloc] at hX
  have hlq : ∀ W, W.heap[w.heap.size]? = some (.cells q.enc.toArray 37) → (Instr.loadAt 37 (.pointer (some ⟨w.heap.size, 0, none⟩))).run Tryz.prog W = .ok (.agg q.enc.toArray) W :=
    fun W h => run_loadAt_row h Tryz.underlying37 rfl (by rw [Tup.enc_length]; kernel_rfl) (fun j u hu => by simpa using hu)
  have hl1 := hlq _ hX.pull2.heap
  have c1 := gPlace_any hX.pull3 hl q
  clear hlq h hX
  generalize q.enc.toArray = QE at *
  generalize hxb : w.heap.size = xb at *
  rcases getL_cases L q with ⟨h1, h2, _⟩ | ⟨k, x, hx, hxq, h1, h2, _⟩
  · rw [h1] at c1
    rw [h2, zFlw_lit]
    clear h1 h2
    go_enter Tryz.func21, Tryz.ntmps21
    go_wp2_with (refine wpList_load_run (t := 37) rfl rfl rfl hl1 ?_)
    try rw [hxb]
    refine c1.mono ?_
    rintro e w1 ⟨rfl, hS1⟩
    obtain ⟨W2, hst, hS2⟩ := flw_store zFlw hS1.pull2 rfl
    rw [zFlw_lit] at hst
    have hld := run_loadAt_row (P := Tryz.prog) (o := 0) (ty := 55) (cs := zFlw.enc) hS2.heap Tryz.underlying55 rfl (by rw [Flw.enc_length]; kernel_rfl) (fun j u hu => by simpa using hu)
    have HS2 := Lib.hid hS2
    rw [zFlw_lit] at hld
    clear c1 hS1 hS2 hl1
    go_wp2_with (refine wpList_store_run (t := 55) rfl rfl rfl rfl hst (stop_ ?_))
    unfold Stop
    go_wp2_with fail
    refine ret_cell_tmp rfl rfl rfl hld rfl ?_
    exact ⟨rfl, HS2.out.drop.pull2.drop⟩
  · rw [h1] at c1
    rw [h2]
    have hkl := (List.getElem?_eq_some_iff.1 hx).1
    have hklz : (k : Int) < L.length := by omega
    clear h1 h2
    have HX := Lib.hid hx
    clear hx
    go_enter Tryz.func21, Tryz.ntmps21
    go_wp2_with (refine wpList_load_run (t := 37) rfl rfl rfl hl1 ?_)
    try rw [hxb]
    refine c1.mono ?_
    rintro e w1 ⟨rfl, hS1⟩
    obtain ⟨A, c, hT⟩ := hS1.gref_open
    obtain ⟨g, rfl, _, _⟩ := hT.pull2.arr_at Flw.enc_length rfl HX.out
    have d1 : w1.cell? ⟨b, 1, none⟩ = some (.slice (some ⟨g, 0, none⟩) L.length c) := cell_heap hT.heap rfl
    have hlf := (row_flw HX.out hT.pull2).2.1
    obtain ⟨W2, hst, hS2⟩ := flw_store x hS1.pull2 rfl
    have hld := run_loadAt_row (P := Tryz.prog) (o := 0) (ty := 55) (cs := x.enc) hS2.heap Tryz.underlying55 rfl (by rw [Flw.enc_length]; kernel_rfl) (fun j u hu => by simpa using hu)
    have HS2 := Lib.hid hS2
    clear c1 hS1 hS2 hl1 hT
    generalize hFE : x.enc.toArray = FE at *
    go_wp2_with (first | (refine wpList_load_run (t := 55) rfl rfl rfl hlf ?_) | (refine wpList_store_run (t := 55) rfl rfl rfl rfl hst (stop_ ?_)))
    unfold Stop
    go_wp2_with fail
    refine ret_cell_tmp rfl rfl rfl hld rfl ?_
    exact ⟨by rw [hFE]; rfl, HS2.out.drop.pull2.drop⟩
end
end Go.Proofs.YtepaanpdjadakaaGreatDoor

/-! The reference's flows: After, Begins, lasts, Remove. -/
namespace Go.Proofs.YtepaanpdjadakaaGreatDoor
open Go Go.RowKit

attribute [local irreducible] wpOrd
set_option maxHeartbeats 1000000 in
theorem gAfter_any (now n : Int) (w : World) (h0 : 0 ≤ now) (h1 : now ≤ 18446744073709551615) (h2 : 0 ≤ n) (h3 : n ≤ 18446744073709551615) :
    Calls Tryz.prog 7 #[.int .u64 now, .int .u64 n] w fun e w' => e = .returned (.int .u64 (aft now n)) ∧ w = w' := by
  by_cases h : n > 18446744073709551615 - now
  · rw [aft_yes h]
    have h' : 18446744073709551615 - now < n := h
    go_enter Tryz.func7, Tryz.ntmps7
    go_wp2_with fail
    go_ret
    exact ⟨rfl, rfl⟩
  · rw [aft_no h]
    have h' : ¬ 18446744073709551615 - now < n := h
    go_enter Tryz.func7, Tryz.ntmps7
    go_wp2_with fail
    go_ret
    exact ⟨rfl, rfl⟩
set_option maxRecDepth 8000 in
set_option maxHeartbeats 1000000 in
theorem gBegins_any (p f : Int) (w : World) : Calls Tryz.prog 9 #[.int .i64 p, .int .i64 f] w fun e w' => e = .returned (.bool (beginsF p f)) ∧ w = w' := by
  by_cases h6 : p = 6
  · subst h6
    have hr : beginsF 6 f = (hasF f 2 && !hasF f 21) := by unfold beginsF; rw [if_pos rfl]
    rw [hr]
    unfold hasF
    have e2 : (!(bits .and .i64 f 21 != 0)) = (bits .and .i64 f 21 == 0) := by rw [bne, Bool.not_not]
    rw [e2]
    clear hr e2
    cases h2 : (bits .and .i64 f 2 != 0) with
    | false =>
      go_enter Tryz.func9, Tryz.ntmps9
      go_wp2_with fail
      go_ret
      exact ⟨rfl, rfl⟩
    | true =>
      go_enter Tryz.func9, Tryz.ntmps9
      go_wp2_with fail
      go_ret
      exact ⟨rfl, rfl⟩
  · have e6 : (p == 6) = false := by simpa using h6
    have hr : beginsF p f = ((p == 17) || ((p == 1) || (p == 58))) := by
      unfold beginsF; rw [if_neg h6, Bool.or_assoc]
      rfl
    rw [hr]
    clear hr h6
    cases h17 : p == 17 with
    | true =>
      go_enter Tryz.func9, Tryz.ntmps9
      go_wp2_with fail
      go_ret
      exact ⟨rfl, rfl⟩
    | false =>
      cases h1 : p == 1 with
      | true =>
        go_enter Tryz.func9, Tryz.ntmps9
        go_wp2_with fail
        go_ret
        exact ⟨rfl, rfl⟩
      | false =>
        go_enter Tryz.func9, Tryz.ntmps9
        go_wp2_with fail
        go_ret
        exact ⟨rfl, rfl⟩
set_option maxRecDepth 8000 in
set_option maxHeartbeats 1000000 in
theorem gLasts_any (p st : Int) (w : World) (hs : 1 ≤ st ∧ st ≤ 7) : Calls Tryz.prog 34 #[.int .i64 p, .int .i64 st] w fun e w' => e = .returned (.int .u64 (lastsF p st)) ∧ w = w' := by
  unfold lastsF
  obtain rfl | rfl | rfl | rfl | rfl | rfl | rfl : st = 1 ∨ st = 2 ∨ st = 3 ∨ st = 4 ∨ st = 5 ∨ st = 6 ∨ st = 7 := by omega
  iterate 5
    · simp only [if_true, Int.reduceEq, if_false]
      go_enter Tryz.func34, Tryz.ntmps34
      go_wp2_with fail
      go_ret
      exact ⟨rfl, rfl⟩
  iterate 2
    · by_cases h17 : p = 17
      · subst h17
        simp only [if_true, Int.reduceEq, if_false]
        go_enter Tryz.func34, Tryz.ntmps34
        go_wp2_with fail
        go_ret
        exact ⟨rfl, rfl⟩
      · have e17 : (p != 17) = true := by simpa using h17
        simp only [if_true, Int.reduceEq, if_false, if_neg h17]
        go_enter Tryz.func34, Tryz.ntmps34
        go_wp2_with fail
        go_ret
        exact ⟨rfl, rfl⟩
def delL (L : List Flw) (q : Tup) : List Flw := L.filter fun f => !isWL q f
def KNL (L : List Flw) : Prop := (L.map (·.tup)).Nodup
section
variable {B : Nat} {w0 w w' : World} {F : HP} {b : Nat} {n : Int} {L : List Flw} {v : Value}
theorem delL_at {k : Nat} {x : Flw} (hn : KNL L) (h : L[k]? = some x) : L.take k ++ L.drop (k + 1) = delL L x.tup := by
  unfold KNL at hn
  exact cut_filter (key := fun f : Flw => f.tup) hn h
theorem delL_none {q : Tup} (h : L.find? (isWL q) = none) : delL L q = L := by
  unfold delL
  rw [List.filter_eq_self]
  intro x hx
  rw [List.find?_eq_none] at h
  have := h x hx
  simpa using this
theorem delL_le (L : List Flw) (q : Tup) : (delL L q).length ≤ L.length := List.length_filter_le _ _
theorem KNL.del (h : KNL L) (q : Tup) : KNL (delL L q) := (List.filter_sublist.map _).nodup h
set_option maxRecDepth 8000 in
set_option maxHeartbeats 8000000 in
theorem gRemove_any (h : Sat B w0 w (gref b n L • F)) (hl : L.length ≤ 1000) (hn : KNL L) (q : Tup) : Calls Tryz.prog 16 #[.pointer (some ⟨b, 0, none⟩), .agg q.enc.toArray] w fun e w' => e = .returned (.bool (L.find? (isWL q)).isSome) ∧ Sat B w0 w' (gref b n (delL L q) • F) := by
  have hX := h.alloc (.cells q.enc.toArray 37)
  have hlq := run_loadAt_row (P := Tryz.prog) (o := 0) (ty := 37) (cs := q.enc) hX.heap Tryz.underlying37 rfl (by rw [Tup.enc_length]; kernel_rfl) (fun j u hu => by simpa using hu)
  have c1 := gPlace_any hX.pull2 hl q
  generalize q.enc.toArray = QE at *
  generalize hxb : w.heap.size = xb at *
  clear h hX
  rcases getL_cases L q with ⟨h1, _, h3⟩ | ⟨k, x, hx, hxq, h1, _, h3⟩
  · rw [h1] at c1
    rw [h3, delL_none h3]
    clear h1 h3
    go_enter Tryz.func16, Tryz.ntmps16
    go_wp2_with (refine wpList_load_run (t := 37) rfl rfl rfl hlq ?_)
    try rw [hxb]
    refine c1.mono ?_
    rintro e w1 ⟨rfl, hS⟩
    go_wp2_with fail
    go_ret
    exact ⟨rfl, hS.pull2.drop⟩
  · rw [h1] at c1
    rw [h3, ← hxq, ← delL_at hn hx]
    have hkl := (List.getElem?_eq_some_iff.1 hx).1
    have hkz : (0 : Int) ≤ k := by omega
    clear h1 h3 hxq hn
    go_enter Tryz.func16, Tryz.ntmps16
    go_wp2_with (refine wpList_load_run (t := 37) rfl rfl rfl hlq ?_)
    try rw [hxb]
    refine c1.mono ?_
    rintro e w1 ⟨rfl, hS1⟩
    obtain ⟨A, c, hS⟩ := hS1.pull2.drop.gref_open
    have hS2 := hS.drew
    obtain ⟨g, rfl, _, _⟩ := hS2.pull2.arr_at Flw.enc_length rfl hx
    have hcap : L.length ≤ c := by
      rcases hS2.pull2.arr_open with ⟨hv, _, _, _⟩ | ⟨_, _, _, hv, q1, _, _, _, _⟩
      · cases hv
      · cases hv; exact q1
    obtain ⟨z, hz1, hz2, hz3⟩ := flw_zero
    have hrd1 := hS2.pull2.head_reads Flw.enc_length (by decide) rfl (Nat.le_of_lt hkl)
    obtain ⟨v1, w2, hr1, hA1⟩ := (arr_nil (e := 55) (sz := 40) hS2).append (m := k) (news := (L.take k).flatMap Flw.enc) (t := 26) (ty := 26) (P := Tryz.prog) (x := .slice (some ⟨g, 0, none⟩) k c) Tryz.underlying26 hz1 hz3 (by decide) hrd1 (by rw [flat_flw, List.length_take]; omega) (flat_flw_one _) (by unfold maxLen; omega) (by omega)
    rw [Nat.zero_add, List.nil_append] at hA1
    have d1' : w1.drew.cell? ⟨b, 1, none⟩ = some (.slice (some ⟨g, 0, none⟩) L.length c) := cell_heap hS2.heap rfl
    have d2 : w2.cell? ⟨b, 1, none⟩ = some (.slice (some ⟨g, 0, none⟩) L.length c) := cell_heap hA1.pull2.heap rfl
    have hrd2 := hA1.pull3.tail_reads Flw.enc_length (by decide) rfl (show k + 1 ≤ L.length by omega)
    obtain ⟨v2, w3, hr2, hA2⟩ := hA1.append (m := L.length - (k + 1)) (news := (L.drop (k + 1)).flatMap Flw.enc) (t := 26) (ty := 26) (P := Tryz.prog) (x := tailV g 40 (k + 1) L.length c) Tryz.underlying26 hz1 hz3 (by decide) hrd2 (by rw [flat_flw, List.length_drop]) (flat_flw_one _) (by unfold maxLen; omega) (by omega)
    obtain ⟨A2, c2, rfl⟩ := hA2.arr_form
    obtain ⟨w4, hr3, hA4⟩ := one_store (o := 1) (ty := 26) (u := .slice A2 (k + (L.length - (k + 1))) c2) hA2.pull2 (by kernel_rfl) (by simp) rfl rfl
    have hln : k + (L.length - (k + 1)) = (L.take k ++ L.drop (k + 1)).length := by rw [List.length_append, List.length_take, List.length_drop]; omega
    have hEnd : Sat B w0 w4 (gref b n (L.take k ++ L.drop (k + 1)) • F) := by
      refine Sat.gref_shut (v := .slice A2 (k + (L.length - (k + 1))) c2) ?_
      rw [List.flatMap_append, ← hln]
      have h9 := hA4.to (by ac_rfl : _ = arr 55 40 (.slice (some ⟨g, 0, none⟩) L.length c) L.length (L.flatMap Flw.enc) • blk b (.cells (#[Value.int .i64 n, .slice (some ⟨g, 0, none⟩) L.length c].setIfInBounds 1 (.slice A2 (k + (L.length - (k + 1))) c2)) 28) • arr 55 40 (.slice A2 (k + (L.length - (k + 1))) c2) (k + (L.length - (k + 1))) ((L.take k).flatMap Flw.enc ++ (L.drop (k + 1)).flatMap Flw.enc) • F)
      exact h9.drop
    have HEND := Lib.hid hEnd
    have hk1 : IntKind.i64.wrap ((k : Int) + 1) = ((k + 1 : Nat) : Int) := by rw [IntWalk.i64_in _ (by omega)]; rfl
    have hk1' : wrap64 ((k : Int) + 1) = ((k + 1 : Nat) : Int) := by rw [IntWalk.wrap64_in _ (by omega)]; rfl
    clear hEnd hA4 hA2 hA1 hS2 hS hx hrd1 hrd2 hln hz1 hz2 hz3 hS1 c1 hlq
    generalize L.length = sl at *
    go_wp2_with fail
    try go_frame
    refine wp_region_ord [(0, .pure), (1, .pure), (2, .pure), (3, .pure), (4, .quiet), (5, .pure), (6, .pure), (8, .pure), (9, .pure), (10, .pure), (11, .quiet), (12, .pure), (13, .pure), (14, .pure), (7, .acts), (15, .seals), (16, .pure), (17, .pure), (18, .seals)] (by kernel_rfl) (by kernel_rfl)
      (fun w' => w'.cell? ⟨b, 1, none⟩ = some (.slice (some ⟨g, 0, none⟩) sl c)) d1' ?_
    iterate 4 (refine ord_pure rfl rfl rfl (fun K' hK => ?_); go_big_quiet_op; refine hK _ ?_; clear hK K')
    refine ord_load (t := 26) rfl rfl rfl (p := .pointer (some ⟨b, 1, none⟩)) (v := .slice (some ⟨g, 0, none⟩) sl c) rfl (fun w' hC => load_one Tryz.underlying26 rfl hC) (fun K' hK => ?_)
    go_simp
    refine hK _ ?_
    clear hK K'
    iterate 1 (refine ord_pure rfl rfl rfl (fun K' hK => ?_); go_big_quiet_op; refine hK _ ?_; clear hK K')
    refine ord_head rfl rfl rfl (k := k) (sz := 40) rfl rfl Tryz.underlying26 (by kernel_rfl) (by omega) (fun K' hK => ?_)
    go_simp
    refine hK _ ?_
    clear hK K'
    iterate 3 (refine ord_pure rfl rfl rfl (fun K' hK => ?_); go_big_quiet_op; refine hK _ ?_; clear hK K')
    refine ord_load (t := 26) rfl rfl rfl (p := .pointer (some ⟨b, 1, none⟩)) (v := .slice (some ⟨g, 0, none⟩) sl c) rfl (fun w' hC => load_one Tryz.underlying26 rfl hC) (fun K' hK => ?_)
    go_simp
    refine hK _ ?_
    clear hK K'
    iterate 2 (refine ord_pure rfl rfl rfl (fun K' hK => ?_); go_big_quiet_op; refine hK _ ?_; clear hK K')
    refine ord_tail rfl rfl rfl (k := k + 1) (sz := 40) (g := g) (n := sl) (c := c) rfl rfl Tryz.underlying26 (by kernel_rfl) (by omega) (by omega) (fun K' hK => ?_)
    go_simp
    refine hK _ ?_
    clear hK K'
    refine ord_acts rfl rfl (fun K' hK => wp_append_run _ _ _ rfl rfl rfl hr1 (hK _ _ d2 ?_))
    clear hK K'
    go_simp
    refine ord_seals rfl rfl (fun K' hK => wp_append_run _ _ _ rfl rfl rfl hr2 (hK (fun _ => True) _ _ trivial ?_))
    clear hK K'
    go_simp
    iterate 2 (refine ord_pure rfl rfl rfl (fun K' hK => ?_); go_big_quiet_op; refine hK _ ?_; clear hK K')
    refine ord_store rfl rfl rfl rfl (p := .pointer (some ⟨b, 1, none⟩)) (v := .slice A2 (k + (sl - (k + 1))) c2) rfl rfl hr3 (fun _ => True) trivial ?_
    refine ord_nil ?_
    go_wp2_with fail
    go_ret
    exact ⟨rfl, HEND.out⟩
end
end Go.Proofs.YtepaanpdjadakaaGreatDoor

/-! The reference's flows: next. -/
namespace Go.Proofs.YtepaanpdjadakaaGreatDoor
open Go Go.RowKit

theorem has_bv (f m : Int) : hasF f m = decide (BitVec.ofInt 64 f &&& BitVec.ofInt 64 m ≠ 0#64) := by
  unfold hasF bits
  show (IntKind.i64.wrap (((BitVec.ofInt 64 f &&& BitVec.ofInt 64 m).toNat : Nat) : Int) != 0) = _
  generalize BitVec.ofInt 64 f &&& BitVec.ofInt 64 m = x
  have hx := x.isLt
  have h0 : x = 0#64 ↔ x.toNat = 0 := by
    constructor
    · rintro rfl; rfl
    · intro h; exact BitVec.eq_of_toNat_eq (by simpa using h)
  rw [Bool.eq_iff_iff, bne_iff_ne, decide_eq_true_eq, Ne, Ne, h0]
  apply not_congr
  simp only [IntKind.wrap, IntKind.bits, IntKind.signed]
  simp
  omega
theorem has17 (f : Int) : hasF f 17 = (hasF f 16 || hasF f 1) := by
  rw [has_bv, has_bv, has_bv, show BitVec.ofInt 64 17 = BitVec.ofInt 64 16 ||| BitVec.ofInt 64 1 by decide, BitVec.and_or_distrib_left, Bool.eq_iff_iff]
  simp only [ne_eq, BitVec.or_eq_zero_iff, Bool.or_eq_true, decide_eq_true_eq]
  exact Decidable.not_and_iff_or_not
def seeN (p : Ph) (side flags : Int) : Bool × Bool × Ph := if p.st = 1 ∨ p.st = 2 then ((openingF p side flags).1, false, (openingF p side flags).2) else openF p side flags
def nxtV (p : Ph) (side flags : Int) : Int × Int := if (seeN p side flags).1 then (if (seeN p side flags).2.1 then (-1, 0) else ((seeN p side flags).2.2.st, (seeN p side flags).2.2.fin)) else (0, 0)
/-- The states of a flow of TCP. -/
structure OkT (p : Ph) : Prop where
  lo : 1 ≤ p.st
  hi : p.st ≤ 5
  fin : p.st ≤ 3 → p.fin = 0
theorem next_st1 (side flags : Int) (syn ack fn : Bool) (hs : hasF flags 2 = syn) (ha : hasF flags 16 = ack) (hf : hasF flags 1 = fn) (h01 : side = 0 ∨ side = 1) (st : Int) (h12 : st = 1 ∨ st = 2) :
    nxtV ⟨st, 0⟩ side flags = if side = 1 then (if syn && ack && !fn then (2, 0) else (0, 0)) else if syn && !ack && !fn then (st, 0) else if st = 2 ∧ (!syn && ack) = true then (if fn then (4, 0) else (3, 0)) else (0, 0) := by
  have h17 := has17 flags
  rw [ha, hf] at h17
  have e : seeN ⟨st, 0⟩ side flags = ((openingF ⟨st, 0⟩ side flags).1, false, (openingF ⟨st, 0⟩ side flags).2) := by unfold seeN; exact if_pos h12
  unfold nxtV
  rw [e]
  unfold openingF answersF firstF closesF
  simp only [hs, ha, hf, h17]
  rcases h01 with rfl | rfl <;> rcases h12 with rfl | rfl <;> cases syn <;> cases ack <;> cases fn <;> rfl
theorem next_st3 (side flags : Int) (syn ack fn : Bool) (hs : hasF flags 2 = syn) (ha : hasF flags 16 = ack) (hf : hasF flags 1 = fn) (st fin : Int) (h35 : st = 3 ∨ st = 4 ∨ st = 5) :
    nxtV ⟨st, fin⟩ side flags = if syn then (0, 0) else if st = 3 then (if fn then (4, side) else (3, fin)) else if st = 4 then (if fn && decide (side ≠ fin) then (5, fin) else (4, fin)) else (if ack && !fn && decide (side = fin) then (-1, 0) else (5, fin)) := by
  have e : seeN ⟨st, fin⟩ side flags = openF ⟨st, fin⟩ side flags := by
    unfold seeN
    rcases h35 with rfl | rfl | rfl <;> rfl
  unfold nxtV
  rw [e]
  unfold openF closesF
  simp only [hs, ha, hf]
  rcases h35 with rfl | rfl | rfl <;> cases syn <;> cases ack <;> cases fn <;> by_cases h : side = fin <;> simp [h]
end Go.Proofs.YtepaanpdjadakaaGreatDoor

/-! The reference's flows: next, the walk (SynSent). -/
namespace Go.Proofs.YtepaanpdjadakaaGreatDoor
open Go Go.RowKit

set_option maxRecDepth 8000 in
set_option maxHeartbeats 16000000 in
theorem gNext1_any (q : Tup) (u side flags : Int) (w : World) (h01 : side = 0 ∨ side = 1) : Calls Tryz.prog 33 #[.agg (Flw.enc ⟨q, 1, 0, u⟩).toArray, .int .i64 side, .int .i64 flags] w fun e w' =>
    e = .returned (.tuple #[.int .i64 (nxtV ⟨1, 0⟩ side flags).1, .int .i64 (nxtV ⟨1, 0⟩ side flags).2]) ∧ Below w.heap.size w w' := by
  have hX := (Sat.start w).alloc (.cells (Flw.enc ⟨q, 1, 0, u⟩).toArray 55)
  obtain ⟨d1, d2, _⟩ := flw_cells (f := ⟨q, 1, 0, u⟩) hX.heap
  simp only at d1 d2
  have hB := hX.below
  have hBd := hX.drew.below
  clear hX
  generalize (Flw.enc ⟨q, 1, 0, u⟩).toArray = FE at *
  obtain ⟨syn, hs⟩ : ∃ b, hasF flags 2 = b := ⟨_, rfl⟩
  obtain ⟨ack, ha⟩ : ∃ b, hasF flags 16 = b := ⟨_, rfl⟩
  obtain ⟨fn, hf⟩ : ∃ b, hasF flags 1 = b := ⟨_, rfl⟩
  rw [next_st1 side flags syn ack fn hs ha hf h01 1 (by omega)]
  unfold hasF at hs ha hf
  rcases h01 with rfl | rfl
  · cases syn
    · cases ack
      · cases fn
        · show Calls _ _ _ _ fun e w' => e = .returned (.tuple #[.int .i64 0, .int .i64 0]) ∧ Below w.heap.size w w'
          go_enter Tryz.func33, Tryz.ntmps33
          go_wp2_with fail
          go_ret2
          exact ⟨rfl, hB⟩
        · show Calls _ _ _ _ fun e w' => e = .returned (.tuple #[.int .i64 0, .int .i64 0]) ∧ Below w.heap.size w w'
          go_enter Tryz.func33, Tryz.ntmps33
          go_wp2_with fail
          go_ret2
          exact ⟨rfl, hB⟩
      · cases fn
        · show Calls _ _ _ _ fun e w' => e = .returned (.tuple #[.int .i64 0, .int .i64 0]) ∧ Below w.heap.size w w'
          go_enter Tryz.func33, Tryz.ntmps33
          go_wp2_with fail
          go_ret2
          exact ⟨rfl, hB⟩
        · show Calls _ _ _ _ fun e w' => e = .returned (.tuple #[.int .i64 0, .int .i64 0]) ∧ Below w.heap.size w w'
          go_enter Tryz.func33, Tryz.ntmps33
          go_wp2_with fail
          go_ret2
          exact ⟨rfl, hB⟩
    · cases ack
      · cases fn
        · show Calls _ _ _ _ fun e w' => e = .returned (.tuple #[.int .i64 1, .int .i64 0]) ∧ Below w.heap.size w w'
          go_enter Tryz.func33, Tryz.ntmps33
          go_wp2_with fail
          go_ret2
          exact ⟨rfl, hB⟩
        · show Calls _ _ _ _ fun e w' => e = .returned (.tuple #[.int .i64 0, .int .i64 0]) ∧ Below w.heap.size w w'
          go_enter Tryz.func33, Tryz.ntmps33
          go_wp2_with fail
          go_ret2
          exact ⟨rfl, hB⟩
      · cases fn
        · show Calls _ _ _ _ fun e w' => e = .returned (.tuple #[.int .i64 0, .int .i64 0]) ∧ Below w.heap.size w w'
          go_enter Tryz.func33, Tryz.ntmps33
          go_wp2_with fail
          go_ret2
          exact ⟨rfl, hB⟩
        · show Calls _ _ _ _ fun e w' => e = .returned (.tuple #[.int .i64 0, .int .i64 0]) ∧ Below w.heap.size w w'
          go_enter Tryz.func33, Tryz.ntmps33
          go_wp2_with fail
          go_ret2
          exact ⟨rfl, hB⟩
  · cases syn
    · cases ack
      · cases fn
        · show Calls _ _ _ _ fun e w' => e = .returned (.tuple #[.int .i64 0, .int .i64 0]) ∧ Below w.heap.size w w'
          go_enter Tryz.func33, Tryz.ntmps33
          go_wp2_with fail
          go_ret2
          exact ⟨rfl, hB⟩
        · show Calls _ _ _ _ fun e w' => e = .returned (.tuple #[.int .i64 0, .int .i64 0]) ∧ Below w.heap.size w w'
          go_enter Tryz.func33, Tryz.ntmps33
          go_wp2_with fail
          go_ret2
          exact ⟨rfl, hB⟩
      · cases fn
        · show Calls _ _ _ _ fun e w' => e = .returned (.tuple #[.int .i64 0, .int .i64 0]) ∧ Below w.heap.size w w'
          go_enter Tryz.func33, Tryz.ntmps33
          go_wp2_with fail
          go_ret2
          exact ⟨rfl, hB⟩
        · show Calls _ _ _ _ fun e w' => e = .returned (.tuple #[.int .i64 0, .int .i64 0]) ∧ Below w.heap.size w w'
          go_enter Tryz.func33, Tryz.ntmps33
          go_wp2_with fail
          go_ret2
          exact ⟨rfl, hB⟩
    · cases ack
      · cases fn
        · show Calls _ _ _ _ fun e w' => e = .returned (.tuple #[.int .i64 0, .int .i64 0]) ∧ Below w.heap.size w w'
          go_enter Tryz.func33, Tryz.ntmps33
          go_wp2_with fail
          go_ret2
          exact ⟨rfl, hB⟩
        · show Calls _ _ _ _ fun e w' => e = .returned (.tuple #[.int .i64 0, .int .i64 0]) ∧ Below w.heap.size w w'
          go_enter Tryz.func33, Tryz.ntmps33
          go_wp2_with fail
          go_ret2
          exact ⟨rfl, hB⟩
      · cases fn
        · show Calls _ _ _ _ fun e w' => e = .returned (.tuple #[.int .i64 2, .int .i64 0]) ∧ Below w.heap.size w w'
          go_enter Tryz.func33, Tryz.ntmps33
          go_wp2_with fail
          go_ret2
          exact ⟨rfl, hB⟩
        · show Calls _ _ _ _ fun e w' => e = .returned (.tuple #[.int .i64 0, .int .i64 0]) ∧ Below w.heap.size w w'
          go_enter Tryz.func33, Tryz.ntmps33
          go_wp2_with fail
          go_ret2
          exact ⟨rfl, hB⟩
end Go.Proofs.YtepaanpdjadakaaGreatDoor

/-! The reference's flows: next, the walk (SynSeen). -/
namespace Go.Proofs.YtepaanpdjadakaaGreatDoor
open Go Go.RowKit

set_option maxRecDepth 8000 in
set_option maxHeartbeats 16000000 in
theorem gNext2_any (q : Tup) (u side flags : Int) (w : World) (h01 : side = 0 ∨ side = 1) : Calls Tryz.prog 33 #[.agg (Flw.enc ⟨q, 2, 0, u⟩).toArray, .int .i64 side, .int .i64 flags] w fun e w' =>
    e = .returned (.tuple #[.int .i64 (nxtV ⟨2, 0⟩ side flags).1, .int .i64 (nxtV ⟨2, 0⟩ side flags).2]) ∧ Below w.heap.size w w' := by
  have hX := (Sat.start w).alloc (.cells (Flw.enc ⟨q, 2, 0, u⟩).toArray 55)
  obtain ⟨d1, d2, _⟩ := flw_cells (f := ⟨q, 2, 0, u⟩) hX.heap
  simp only at d1 d2
  have hB := hX.below
  have hBd := hX.drew.below
  clear hX
  generalize (Flw.enc ⟨q, 2, 0, u⟩).toArray = FE at *
  obtain ⟨syn, hs⟩ : ∃ b, hasF flags 2 = b := ⟨_, rfl⟩
  obtain ⟨ack, ha⟩ : ∃ b, hasF flags 16 = b := ⟨_, rfl⟩
  obtain ⟨fn, hf⟩ : ∃ b, hasF flags 1 = b := ⟨_, rfl⟩
  rw [next_st1 side flags syn ack fn hs ha hf h01 2 (by omega)]
  unfold hasF at hs ha hf
  rcases h01 with rfl | rfl
  · cases syn
    · cases ack
      · cases fn
        · show Calls _ _ _ _ fun e w' => e = .returned (.tuple #[.int .i64 0, .int .i64 0]) ∧ Below w.heap.size w w'
          go_enter Tryz.func33, Tryz.ntmps33
          go_wp2_with fail
          go_ret2
          exact ⟨rfl, hB⟩
        · show Calls _ _ _ _ fun e w' => e = .returned (.tuple #[.int .i64 0, .int .i64 0]) ∧ Below w.heap.size w w'
          go_enter Tryz.func33, Tryz.ntmps33
          go_wp2_with fail
          go_ret2
          exact ⟨rfl, hB⟩
      · cases fn
        · show Calls _ _ _ _ fun e w' => e = .returned (.tuple #[.int .i64 3, .int .i64 0]) ∧ Below w.heap.size w w'
          go_enter Tryz.func33, Tryz.ntmps33
          go_wp2_with fail
          go_ret2
          exact ⟨rfl, hB⟩
        · show Calls _ _ _ _ fun e w' => e = .returned (.tuple #[.int .i64 4, .int .i64 0]) ∧ Below w.heap.size w w'
          go_enter Tryz.func33, Tryz.ntmps33
          go_wp2_with fail
          go_ret2
          exact ⟨rfl, hB⟩
    · cases ack
      · cases fn
        · show Calls _ _ _ _ fun e w' => e = .returned (.tuple #[.int .i64 2, .int .i64 0]) ∧ Below w.heap.size w w'
          go_enter Tryz.func33, Tryz.ntmps33
          go_wp2_with fail
          go_ret2
          exact ⟨rfl, hB⟩
        · show Calls _ _ _ _ fun e w' => e = .returned (.tuple #[.int .i64 0, .int .i64 0]) ∧ Below w.heap.size w w'
          go_enter Tryz.func33, Tryz.ntmps33
          go_wp2_with fail
          go_ret2
          exact ⟨rfl, hB⟩
      · cases fn
        · show Calls _ _ _ _ fun e w' => e = .returned (.tuple #[.int .i64 0, .int .i64 0]) ∧ Below w.heap.size w w'
          go_enter Tryz.func33, Tryz.ntmps33
          go_wp2_with fail
          go_ret2
          exact ⟨rfl, hB⟩
        · show Calls _ _ _ _ fun e w' => e = .returned (.tuple #[.int .i64 0, .int .i64 0]) ∧ Below w.heap.size w w'
          go_enter Tryz.func33, Tryz.ntmps33
          go_wp2_with fail
          go_ret2
          exact ⟨rfl, hB⟩
  · cases syn
    · cases ack
      · cases fn
        · show Calls _ _ _ _ fun e w' => e = .returned (.tuple #[.int .i64 0, .int .i64 0]) ∧ Below w.heap.size w w'
          go_enter Tryz.func33, Tryz.ntmps33
          go_wp2_with fail
          go_ret2
          exact ⟨rfl, hB⟩
        · show Calls _ _ _ _ fun e w' => e = .returned (.tuple #[.int .i64 0, .int .i64 0]) ∧ Below w.heap.size w w'
          go_enter Tryz.func33, Tryz.ntmps33
          go_wp2_with fail
          go_ret2
          exact ⟨rfl, hB⟩
      · cases fn
        · show Calls _ _ _ _ fun e w' => e = .returned (.tuple #[.int .i64 0, .int .i64 0]) ∧ Below w.heap.size w w'
          go_enter Tryz.func33, Tryz.ntmps33
          go_wp2_with fail
          go_ret2
          exact ⟨rfl, hB⟩
        · show Calls _ _ _ _ fun e w' => e = .returned (.tuple #[.int .i64 0, .int .i64 0]) ∧ Below w.heap.size w w'
          go_enter Tryz.func33, Tryz.ntmps33
          go_wp2_with fail
          go_ret2
          exact ⟨rfl, hB⟩
    · cases ack
      · cases fn
        · show Calls _ _ _ _ fun e w' => e = .returned (.tuple #[.int .i64 0, .int .i64 0]) ∧ Below w.heap.size w w'
          go_enter Tryz.func33, Tryz.ntmps33
          go_wp2_with fail
          go_ret2
          exact ⟨rfl, hB⟩
        · show Calls _ _ _ _ fun e w' => e = .returned (.tuple #[.int .i64 0, .int .i64 0]) ∧ Below w.heap.size w w'
          go_enter Tryz.func33, Tryz.ntmps33
          go_wp2_with fail
          go_ret2
          exact ⟨rfl, hB⟩
      · cases fn
        · show Calls _ _ _ _ fun e w' => e = .returned (.tuple #[.int .i64 2, .int .i64 0]) ∧ Below w.heap.size w w'
          go_enter Tryz.func33, Tryz.ntmps33
          go_wp2_with fail
          go_ret2
          exact ⟨rfl, hB⟩
        · show Calls _ _ _ _ fun e w' => e = .returned (.tuple #[.int .i64 0, .int .i64 0]) ∧ Below w.heap.size w w'
          go_enter Tryz.func33, Tryz.ntmps33
          go_wp2_with fail
          go_ret2
          exact ⟨rfl, hB⟩
end Go.Proofs.YtepaanpdjadakaaGreatDoor

/-! The reference's flows: next, the walk (Open). -/
namespace Go.Proofs.YtepaanpdjadakaaGreatDoor
open Go Go.RowKit

set_option maxRecDepth 8000 in
set_option maxHeartbeats 16000000 in
theorem gNext3_any (q : Tup) (u fin side flags : Int) (w : World) : Calls Tryz.prog 33 #[.agg (Flw.enc ⟨q, 3, fin, u⟩).toArray, .int .i64 side, .int .i64 flags] w fun e w' =>
    e = .returned (.tuple #[.int .i64 (nxtV ⟨3, fin⟩ side flags).1, .int .i64 (nxtV ⟨3, fin⟩ side flags).2]) ∧ Below w.heap.size w w' := by
  have hX := (Sat.start w).alloc (.cells (Flw.enc ⟨q, 3, fin, u⟩).toArray 55)
  obtain ⟨d1, d2, _⟩ := flw_cells (f := ⟨q, 3, fin, u⟩) hX.heap
  simp only at d1 d2
  have hB := hX.below
  have hBd := hX.drew.below
  clear hX
  generalize (Flw.enc ⟨q, 3, fin, u⟩).toArray = FE at *
  obtain ⟨syn, hs⟩ : ∃ b, hasF flags 2 = b := ⟨_, rfl⟩
  obtain ⟨ack, ha⟩ : ∃ b, hasF flags 16 = b := ⟨_, rfl⟩
  obtain ⟨fn, hf⟩ : ∃ b, hasF flags 1 = b := ⟨_, rfl⟩
  have hr := next_st3 side flags syn ack fn hs ha hf 3 fin (by omega)
  unfold hasF at hs ha hf
  cases syn
  · cases ack
    · cases fn
      · by_cases h : side = fin
        · obtain rfl : side = fin := h
          rw [show nxtV ⟨3, side⟩ side flags = (3, side) by rw [hr]; simp]
          clear hr
          show Calls _ _ _ _ fun e w' => e = .returned (.tuple #[.int .i64 3, .int .i64 side]) ∧ Below w.heap.size w w'
          go_enter Tryz.func33, Tryz.ntmps33
          go_wp2_with fail
          try go_frame
          refine wp_region_ord [(0, .pure), (1, .quiet), (2, .pure), (3, .quiet), (4, .pure), (5, .pure)] (by kernel_rfl) (by kernel_rfl)
            (fun w' => w'.cell? ⟨w.heap.size, 37, none⟩ = some (.int .i64 3) ∧ w'.cell? ⟨w.heap.size, 38, none⟩ = some (.int .i64 side)) ⟨d1, d2⟩ ?_
          iterate 1 (refine ord_pure rfl rfl rfl (fun K' hK => ?_); go_big_quiet_op; refine hK _ ?_; clear hK K')
          refine ord_load (t := 3) rfl rfl rfl (p := .pointer (some ⟨w.heap.size, 37, none⟩)) (v := .int .i64 3) rfl (fun w' hC => load_one Tryz.underlying3 rfl hC.1) (fun K' hK => ?_)
          go_simp
          refine hK _ ?_
          clear hK K'
          iterate 1 (refine ord_pure rfl rfl rfl (fun K' hK => ?_); go_big_quiet_op; refine hK _ ?_; clear hK K')
          refine ord_load (t := 3) rfl rfl rfl (p := .pointer (some ⟨w.heap.size, 38, none⟩)) (v := .int .i64 side) rfl (fun w' hC => load_one Tryz.underlying3 rfl hC.2) (fun K' hK => ?_)
          go_simp
          refine hK _ ?_
          clear hK K'
          iterate 2 (refine ord_pure rfl rfl rfl (fun K' hK => ?_); go_big_quiet_op; refine hK _ ?_; clear hK K')
          refine ord_nil ?_
          go_wp2_with fail
          go_ret2
          exact ⟨rfl, hBd⟩
        · have hne : (side != fin) = true := by simpa using h
          have heq : (side == fin) = false := by simpa using h
          rw [show nxtV ⟨3, fin⟩ side flags = (3, fin) by rw [hr]; simp]
          clear hr h
          show Calls _ _ _ _ fun e w' => e = .returned (.tuple #[.int .i64 3, .int .i64 fin]) ∧ Below w.heap.size w w'
          go_enter Tryz.func33, Tryz.ntmps33
          go_wp2_with fail
          try go_frame
          refine wp_region_ord [(0, .pure), (1, .quiet), (2, .pure), (3, .quiet), (4, .pure), (5, .pure)] (by kernel_rfl) (by kernel_rfl)
            (fun w' => w'.cell? ⟨w.heap.size, 37, none⟩ = some (.int .i64 3) ∧ w'.cell? ⟨w.heap.size, 38, none⟩ = some (.int .i64 fin)) ⟨d1, d2⟩ ?_
          iterate 1 (refine ord_pure rfl rfl rfl (fun K' hK => ?_); go_big_quiet_op; refine hK _ ?_; clear hK K')
          refine ord_load (t := 3) rfl rfl rfl (p := .pointer (some ⟨w.heap.size, 37, none⟩)) (v := .int .i64 3) rfl (fun w' hC => load_one Tryz.underlying3 rfl hC.1) (fun K' hK => ?_)
          go_simp
          refine hK _ ?_
          clear hK K'
          iterate 1 (refine ord_pure rfl rfl rfl (fun K' hK => ?_); go_big_quiet_op; refine hK _ ?_; clear hK K')
          refine ord_load (t := 3) rfl rfl rfl (p := .pointer (some ⟨w.heap.size, 38, none⟩)) (v := .int .i64 fin) rfl (fun w' hC => load_one Tryz.underlying3 rfl hC.2) (fun K' hK => ?_)
          go_simp
          refine hK _ ?_
          clear hK K'
          iterate 2 (refine ord_pure rfl rfl rfl (fun K' hK => ?_); go_big_quiet_op; refine hK _ ?_; clear hK K')
          refine ord_nil ?_
          go_wp2_with fail
          go_ret2
          exact ⟨rfl, hBd⟩
      · by_cases h : side = fin
        · obtain rfl : side = fin := h
          rw [show nxtV ⟨3, side⟩ side flags = (4, side) by rw [hr]; simp]
          clear hr
          show Calls _ _ _ _ fun e w' => e = .returned (.tuple #[.int .i64 4, .int .i64 side]) ∧ Below w.heap.size w w'
          go_enter Tryz.func33, Tryz.ntmps33
          go_wp2_with fail
          go_ret2
          exact ⟨rfl, hB⟩
        · have hne : (side != fin) = true := by simpa using h
          have heq : (side == fin) = false := by simpa using h
          rw [show nxtV ⟨3, fin⟩ side flags = (4, side) by rw [hr]; simp]
          clear hr h
          show Calls _ _ _ _ fun e w' => e = .returned (.tuple #[.int .i64 4, .int .i64 side]) ∧ Below w.heap.size w w'
          go_enter Tryz.func33, Tryz.ntmps33
          go_wp2_with fail
          go_ret2
          exact ⟨rfl, hB⟩
    · cases fn
      · by_cases h : side = fin
        · obtain rfl : side = fin := h
          rw [show nxtV ⟨3, side⟩ side flags = (3, side) by rw [hr]; simp]
          clear hr
          show Calls _ _ _ _ fun e w' => e = .returned (.tuple #[.int .i64 3, .int .i64 side]) ∧ Below w.heap.size w w'
          go_enter Tryz.func33, Tryz.ntmps33
          go_wp2_with fail
          try go_frame
          refine wp_region_ord [(0, .pure), (1, .quiet), (2, .pure), (3, .quiet), (4, .pure), (5, .pure)] (by kernel_rfl) (by kernel_rfl)
            (fun w' => w'.cell? ⟨w.heap.size, 37, none⟩ = some (.int .i64 3) ∧ w'.cell? ⟨w.heap.size, 38, none⟩ = some (.int .i64 side)) ⟨d1, d2⟩ ?_
          iterate 1 (refine ord_pure rfl rfl rfl (fun K' hK => ?_); go_big_quiet_op; refine hK _ ?_; clear hK K')
          refine ord_load (t := 3) rfl rfl rfl (p := .pointer (some ⟨w.heap.size, 37, none⟩)) (v := .int .i64 3) rfl (fun w' hC => load_one Tryz.underlying3 rfl hC.1) (fun K' hK => ?_)
          go_simp
          refine hK _ ?_
          clear hK K'
          iterate 1 (refine ord_pure rfl rfl rfl (fun K' hK => ?_); go_big_quiet_op; refine hK _ ?_; clear hK K')
          refine ord_load (t := 3) rfl rfl rfl (p := .pointer (some ⟨w.heap.size, 38, none⟩)) (v := .int .i64 side) rfl (fun w' hC => load_one Tryz.underlying3 rfl hC.2) (fun K' hK => ?_)
          go_simp
          refine hK _ ?_
          clear hK K'
          iterate 2 (refine ord_pure rfl rfl rfl (fun K' hK => ?_); go_big_quiet_op; refine hK _ ?_; clear hK K')
          refine ord_nil ?_
          go_wp2_with fail
          go_ret2
          exact ⟨rfl, hBd⟩
        · have hne : (side != fin) = true := by simpa using h
          have heq : (side == fin) = false := by simpa using h
          rw [show nxtV ⟨3, fin⟩ side flags = (3, fin) by rw [hr]; simp]
          clear hr h
          show Calls _ _ _ _ fun e w' => e = .returned (.tuple #[.int .i64 3, .int .i64 fin]) ∧ Below w.heap.size w w'
          go_enter Tryz.func33, Tryz.ntmps33
          go_wp2_with fail
          try go_frame
          refine wp_region_ord [(0, .pure), (1, .quiet), (2, .pure), (3, .quiet), (4, .pure), (5, .pure)] (by kernel_rfl) (by kernel_rfl)
            (fun w' => w'.cell? ⟨w.heap.size, 37, none⟩ = some (.int .i64 3) ∧ w'.cell? ⟨w.heap.size, 38, none⟩ = some (.int .i64 fin)) ⟨d1, d2⟩ ?_
          iterate 1 (refine ord_pure rfl rfl rfl (fun K' hK => ?_); go_big_quiet_op; refine hK _ ?_; clear hK K')
          refine ord_load (t := 3) rfl rfl rfl (p := .pointer (some ⟨w.heap.size, 37, none⟩)) (v := .int .i64 3) rfl (fun w' hC => load_one Tryz.underlying3 rfl hC.1) (fun K' hK => ?_)
          go_simp
          refine hK _ ?_
          clear hK K'
          iterate 1 (refine ord_pure rfl rfl rfl (fun K' hK => ?_); go_big_quiet_op; refine hK _ ?_; clear hK K')
          refine ord_load (t := 3) rfl rfl rfl (p := .pointer (some ⟨w.heap.size, 38, none⟩)) (v := .int .i64 fin) rfl (fun w' hC => load_one Tryz.underlying3 rfl hC.2) (fun K' hK => ?_)
          go_simp
          refine hK _ ?_
          clear hK K'
          iterate 2 (refine ord_pure rfl rfl rfl (fun K' hK => ?_); go_big_quiet_op; refine hK _ ?_; clear hK K')
          refine ord_nil ?_
          go_wp2_with fail
          go_ret2
          exact ⟨rfl, hBd⟩
      · by_cases h : side = fin
        · obtain rfl : side = fin := h
          rw [show nxtV ⟨3, side⟩ side flags = (4, side) by rw [hr]; simp]
          clear hr
          show Calls _ _ _ _ fun e w' => e = .returned (.tuple #[.int .i64 4, .int .i64 side]) ∧ Below w.heap.size w w'
          go_enter Tryz.func33, Tryz.ntmps33
          go_wp2_with fail
          go_ret2
          exact ⟨rfl, hB⟩
        · have hne : (side != fin) = true := by simpa using h
          have heq : (side == fin) = false := by simpa using h
          rw [show nxtV ⟨3, fin⟩ side flags = (4, side) by rw [hr]; simp]
          clear hr h
          show Calls _ _ _ _ fun e w' => e = .returned (.tuple #[.int .i64 4, .int .i64 side]) ∧ Below w.heap.size w w'
          go_enter Tryz.func33, Tryz.ntmps33
          go_wp2_with fail
          go_ret2
          exact ⟨rfl, hB⟩
  · cases ack
    · cases fn
      · by_cases h : side = fin
        · obtain rfl : side = fin := h
          rw [show nxtV ⟨3, side⟩ side flags = (0, 0) by rw [hr]; simp]
          clear hr
          show Calls _ _ _ _ fun e w' => e = .returned (.tuple #[.int .i64 0, .int .i64 0]) ∧ Below w.heap.size w w'
          go_enter Tryz.func33, Tryz.ntmps33
          go_wp2_with fail
          go_ret2
          exact ⟨rfl, hB⟩
        · have hne : (side != fin) = true := by simpa using h
          have heq : (side == fin) = false := by simpa using h
          rw [show nxtV ⟨3, fin⟩ side flags = (0, 0) by rw [hr]; simp]
          clear hr h
          show Calls _ _ _ _ fun e w' => e = .returned (.tuple #[.int .i64 0, .int .i64 0]) ∧ Below w.heap.size w w'
          go_enter Tryz.func33, Tryz.ntmps33
          go_wp2_with fail
          go_ret2
          exact ⟨rfl, hB⟩
      · by_cases h : side = fin
        · obtain rfl : side = fin := h
          rw [show nxtV ⟨3, side⟩ side flags = (0, 0) by rw [hr]; simp]
          clear hr
          show Calls _ _ _ _ fun e w' => e = .returned (.tuple #[.int .i64 0, .int .i64 0]) ∧ Below w.heap.size w w'
          go_enter Tryz.func33, Tryz.ntmps33
          go_wp2_with fail
          go_ret2
          exact ⟨rfl, hB⟩
        · have hne : (side != fin) = true := by simpa using h
          have heq : (side == fin) = false := by simpa using h
          rw [show nxtV ⟨3, fin⟩ side flags = (0, 0) by rw [hr]; simp]
          clear hr h
          show Calls _ _ _ _ fun e w' => e = .returned (.tuple #[.int .i64 0, .int .i64 0]) ∧ Below w.heap.size w w'
          go_enter Tryz.func33, Tryz.ntmps33
          go_wp2_with fail
          go_ret2
          exact ⟨rfl, hB⟩
    · cases fn
      · by_cases h : side = fin
        · obtain rfl : side = fin := h
          rw [show nxtV ⟨3, side⟩ side flags = (0, 0) by rw [hr]; simp]
          clear hr
          show Calls _ _ _ _ fun e w' => e = .returned (.tuple #[.int .i64 0, .int .i64 0]) ∧ Below w.heap.size w w'
          go_enter Tryz.func33, Tryz.ntmps33
          go_wp2_with fail
          go_ret2
          exact ⟨rfl, hB⟩
        · have hne : (side != fin) = true := by simpa using h
          have heq : (side == fin) = false := by simpa using h
          rw [show nxtV ⟨3, fin⟩ side flags = (0, 0) by rw [hr]; simp]
          clear hr h
          show Calls _ _ _ _ fun e w' => e = .returned (.tuple #[.int .i64 0, .int .i64 0]) ∧ Below w.heap.size w w'
          go_enter Tryz.func33, Tryz.ntmps33
          go_wp2_with fail
          go_ret2
          exact ⟨rfl, hB⟩
      · by_cases h : side = fin
        · obtain rfl : side = fin := h
          rw [show nxtV ⟨3, side⟩ side flags = (0, 0) by rw [hr]; simp]
          clear hr
          show Calls _ _ _ _ fun e w' => e = .returned (.tuple #[.int .i64 0, .int .i64 0]) ∧ Below w.heap.size w w'
          go_enter Tryz.func33, Tryz.ntmps33
          go_wp2_with fail
          go_ret2
          exact ⟨rfl, hB⟩
        · have hne : (side != fin) = true := by simpa using h
          have heq : (side == fin) = false := by simpa using h
          rw [show nxtV ⟨3, fin⟩ side flags = (0, 0) by rw [hr]; simp]
          clear hr h
          show Calls _ _ _ _ fun e w' => e = .returned (.tuple #[.int .i64 0, .int .i64 0]) ∧ Below w.heap.size w w'
          go_enter Tryz.func33, Tryz.ntmps33
          go_wp2_with fail
          go_ret2
          exact ⟨rfl, hB⟩
end Go.Proofs.YtepaanpdjadakaaGreatDoor

/-! The reference's flows: next, the walk (Closing). -/
namespace Go.Proofs.YtepaanpdjadakaaGreatDoor
open Go Go.RowKit

set_option maxRecDepth 8000 in
set_option maxHeartbeats 16000000 in
theorem gNext4_any (q : Tup) (u fin side flags : Int) (w : World) : Calls Tryz.prog 33 #[.agg (Flw.enc ⟨q, 4, fin, u⟩).toArray, .int .i64 side, .int .i64 flags] w fun e w' =>
    e = .returned (.tuple #[.int .i64 (nxtV ⟨4, fin⟩ side flags).1, .int .i64 (nxtV ⟨4, fin⟩ side flags).2]) ∧ Below w.heap.size w w' := by
  have hX := (Sat.start w).alloc (.cells (Flw.enc ⟨q, 4, fin, u⟩).toArray 55)
  obtain ⟨d1, d2, _⟩ := flw_cells (f := ⟨q, 4, fin, u⟩) hX.heap
  simp only at d1 d2
  have hB := hX.below
  have hBd := hX.drew.below
  clear hX
  generalize (Flw.enc ⟨q, 4, fin, u⟩).toArray = FE at *
  obtain ⟨syn, hs⟩ : ∃ b, hasF flags 2 = b := ⟨_, rfl⟩
  obtain ⟨ack, ha⟩ : ∃ b, hasF flags 16 = b := ⟨_, rfl⟩
  obtain ⟨fn, hf⟩ : ∃ b, hasF flags 1 = b := ⟨_, rfl⟩
  have hr := next_st3 side flags syn ack fn hs ha hf 4 fin (by omega)
  unfold hasF at hs ha hf
  cases syn
  · cases ack
    · cases fn
      · by_cases h : side = fin
        · obtain rfl : side = fin := h
          rw [show nxtV ⟨4, side⟩ side flags = (4, side) by rw [hr]; simp]
          clear hr
          show Calls _ _ _ _ fun e w' => e = .returned (.tuple #[.int .i64 4, .int .i64 side]) ∧ Below w.heap.size w w'
          go_enter Tryz.func33, Tryz.ntmps33
          go_wp2_with fail
          try go_frame
          refine wp_region_ord [(0, .pure), (1, .quiet), (2, .pure), (3, .quiet), (4, .pure), (5, .pure)] (by kernel_rfl) (by kernel_rfl)
            (fun w' => w'.cell? ⟨w.heap.size, 37, none⟩ = some (.int .i64 4) ∧ w'.cell? ⟨w.heap.size, 38, none⟩ = some (.int .i64 side)) ⟨d1, d2⟩ ?_
          iterate 1 (refine ord_pure rfl rfl rfl (fun K' hK => ?_); go_big_quiet_op; refine hK _ ?_; clear hK K')
          refine ord_load (t := 3) rfl rfl rfl (p := .pointer (some ⟨w.heap.size, 37, none⟩)) (v := .int .i64 4) rfl (fun w' hC => load_one Tryz.underlying3 rfl hC.1) (fun K' hK => ?_)
          go_simp
          refine hK _ ?_
          clear hK K'
          iterate 1 (refine ord_pure rfl rfl rfl (fun K' hK => ?_); go_big_quiet_op; refine hK _ ?_; clear hK K')
          refine ord_load (t := 3) rfl rfl rfl (p := .pointer (some ⟨w.heap.size, 38, none⟩)) (v := .int .i64 side) rfl (fun w' hC => load_one Tryz.underlying3 rfl hC.2) (fun K' hK => ?_)
          go_simp
          refine hK _ ?_
          clear hK K'
          iterate 2 (refine ord_pure rfl rfl rfl (fun K' hK => ?_); go_big_quiet_op; refine hK _ ?_; clear hK K')
          refine ord_nil ?_
          go_wp2_with fail
          go_ret2
          exact ⟨rfl, hBd⟩
        · have hne : (side != fin) = true := by simpa using h
          have heq : (side == fin) = false := by simpa using h
          rw [show nxtV ⟨4, fin⟩ side flags = (4, fin) by rw [hr]; simp]
          clear hr h
          show Calls _ _ _ _ fun e w' => e = .returned (.tuple #[.int .i64 4, .int .i64 fin]) ∧ Below w.heap.size w w'
          go_enter Tryz.func33, Tryz.ntmps33
          go_wp2_with fail
          try go_frame
          refine wp_region_ord [(0, .pure), (1, .quiet), (2, .pure), (3, .quiet), (4, .pure), (5, .pure)] (by kernel_rfl) (by kernel_rfl)
            (fun w' => w'.cell? ⟨w.heap.size, 37, none⟩ = some (.int .i64 4) ∧ w'.cell? ⟨w.heap.size, 38, none⟩ = some (.int .i64 fin)) ⟨d1, d2⟩ ?_
          iterate 1 (refine ord_pure rfl rfl rfl (fun K' hK => ?_); go_big_quiet_op; refine hK _ ?_; clear hK K')
          refine ord_load (t := 3) rfl rfl rfl (p := .pointer (some ⟨w.heap.size, 37, none⟩)) (v := .int .i64 4) rfl (fun w' hC => load_one Tryz.underlying3 rfl hC.1) (fun K' hK => ?_)
          go_simp
          refine hK _ ?_
          clear hK K'
          iterate 1 (refine ord_pure rfl rfl rfl (fun K' hK => ?_); go_big_quiet_op; refine hK _ ?_; clear hK K')
          refine ord_load (t := 3) rfl rfl rfl (p := .pointer (some ⟨w.heap.size, 38, none⟩)) (v := .int .i64 fin) rfl (fun w' hC => load_one Tryz.underlying3 rfl hC.2) (fun K' hK => ?_)
          go_simp
          refine hK _ ?_
          clear hK K'
          iterate 2 (refine ord_pure rfl rfl rfl (fun K' hK => ?_); go_big_quiet_op; refine hK _ ?_; clear hK K')
          refine ord_nil ?_
          go_wp2_with fail
          go_ret2
          exact ⟨rfl, hBd⟩
      · by_cases h : side = fin
        · obtain rfl : side = fin := h
          rw [show nxtV ⟨4, side⟩ side flags = (4, side) by rw [hr]; simp]
          clear hr
          show Calls _ _ _ _ fun e w' => e = .returned (.tuple #[.int .i64 4, .int .i64 side]) ∧ Below w.heap.size w w'
          go_enter Tryz.func33, Tryz.ntmps33
          go_wp2_with fail
          try go_frame
          refine wp_region_ord [(0, .pure), (1, .quiet), (2, .pure), (3, .quiet), (4, .pure), (5, .pure)] (by kernel_rfl) (by kernel_rfl)
            (fun w' => w'.cell? ⟨w.heap.size, 37, none⟩ = some (.int .i64 4) ∧ w'.cell? ⟨w.heap.size, 38, none⟩ = some (.int .i64 side)) ⟨d1, d2⟩ ?_
          iterate 1 (refine ord_pure rfl rfl rfl (fun K' hK => ?_); go_big_quiet_op; refine hK _ ?_; clear hK K')
          refine ord_load (t := 3) rfl rfl rfl (p := .pointer (some ⟨w.heap.size, 37, none⟩)) (v := .int .i64 4) rfl (fun w' hC => load_one Tryz.underlying3 rfl hC.1) (fun K' hK => ?_)
          go_simp
          refine hK _ ?_
          clear hK K'
          iterate 1 (refine ord_pure rfl rfl rfl (fun K' hK => ?_); go_big_quiet_op; refine hK _ ?_; clear hK K')
          refine ord_load (t := 3) rfl rfl rfl (p := .pointer (some ⟨w.heap.size, 38, none⟩)) (v := .int .i64 side) rfl (fun w' hC => load_one Tryz.underlying3 rfl hC.2) (fun K' hK => ?_)
          go_simp
          refine hK _ ?_
          clear hK K'
          iterate 2 (refine ord_pure rfl rfl rfl (fun K' hK => ?_); go_big_quiet_op; refine hK _ ?_; clear hK K')
          refine ord_nil ?_
          go_wp2_with fail
          go_ret2
          exact ⟨rfl, hBd⟩
        · have hne : (side != fin) = true := by simpa using h
          have heq : (side == fin) = false := by simpa using h
          rw [show nxtV ⟨4, fin⟩ side flags = (5, fin) by rw [hr]; simp [h]]
          clear hr h
          show Calls _ _ _ _ fun e w' => e = .returned (.tuple #[.int .i64 5, .int .i64 fin]) ∧ Below w.heap.size w w'
          go_enter Tryz.func33, Tryz.ntmps33
          go_wp2_with fail
          try go_frame
          refine wp_region_ord [(0, .pure), (1, .quiet), (2, .pure), (3, .pure)] (by kernel_rfl) (by kernel_rfl)
            (fun w' => w'.cell? ⟨w.heap.size, 37, none⟩ = some (.int .i64 4) ∧ w'.cell? ⟨w.heap.size, 38, none⟩ = some (.int .i64 fin)) ⟨d1, d2⟩ ?_
          iterate 1 (refine ord_pure rfl rfl rfl (fun K' hK => ?_); go_big_quiet_op; refine hK _ ?_; clear hK K')
          refine ord_load (t := 3) rfl rfl rfl (p := .pointer (some ⟨w.heap.size, 38, none⟩)) (v := .int .i64 fin) rfl (fun w' hC => load_one Tryz.underlying3 rfl hC.2) (fun K' hK => ?_)
          go_simp
          refine hK _ ?_
          clear hK K'
          iterate 2 (refine ord_pure rfl rfl rfl (fun K' hK => ?_); go_big_quiet_op; refine hK _ ?_; clear hK K')
          refine ord_nil ?_
          go_wp2_with fail
          go_ret2
          exact ⟨rfl, hBd⟩
    · cases fn
      · by_cases h : side = fin
        · obtain rfl : side = fin := h
          rw [show nxtV ⟨4, side⟩ side flags = (4, side) by rw [hr]; simp]
          clear hr
          show Calls _ _ _ _ fun e w' => e = .returned (.tuple #[.int .i64 4, .int .i64 side]) ∧ Below w.heap.size w w'
          go_enter Tryz.func33, Tryz.ntmps33
          go_wp2_with fail
          try go_frame
          refine wp_region_ord [(0, .pure), (1, .quiet), (2, .pure), (3, .quiet), (4, .pure), (5, .pure)] (by kernel_rfl) (by kernel_rfl)
            (fun w' => w'.cell? ⟨w.heap.size, 37, none⟩ = some (.int .i64 4) ∧ w'.cell? ⟨w.heap.size, 38, none⟩ = some (.int .i64 side)) ⟨d1, d2⟩ ?_
          iterate 1 (refine ord_pure rfl rfl rfl (fun K' hK => ?_); go_big_quiet_op; refine hK _ ?_; clear hK K')
          refine ord_load (t := 3) rfl rfl rfl (p := .pointer (some ⟨w.heap.size, 37, none⟩)) (v := .int .i64 4) rfl (fun w' hC => load_one Tryz.underlying3 rfl hC.1) (fun K' hK => ?_)
          go_simp
          refine hK _ ?_
          clear hK K'
          iterate 1 (refine ord_pure rfl rfl rfl (fun K' hK => ?_); go_big_quiet_op; refine hK _ ?_; clear hK K')
          refine ord_load (t := 3) rfl rfl rfl (p := .pointer (some ⟨w.heap.size, 38, none⟩)) (v := .int .i64 side) rfl (fun w' hC => load_one Tryz.underlying3 rfl hC.2) (fun K' hK => ?_)
          go_simp
          refine hK _ ?_
          clear hK K'
          iterate 2 (refine ord_pure rfl rfl rfl (fun K' hK => ?_); go_big_quiet_op; refine hK _ ?_; clear hK K')
          refine ord_nil ?_
          go_wp2_with fail
          go_ret2
          exact ⟨rfl, hBd⟩
        · have hne : (side != fin) = true := by simpa using h
          have heq : (side == fin) = false := by simpa using h
          rw [show nxtV ⟨4, fin⟩ side flags = (4, fin) by rw [hr]; simp]
          clear hr h
          show Calls _ _ _ _ fun e w' => e = .returned (.tuple #[.int .i64 4, .int .i64 fin]) ∧ Below w.heap.size w w'
          go_enter Tryz.func33, Tryz.ntmps33
          go_wp2_with fail
          try go_frame
          refine wp_region_ord [(0, .pure), (1, .quiet), (2, .pure), (3, .quiet), (4, .pure), (5, .pure)] (by kernel_rfl) (by kernel_rfl)
            (fun w' => w'.cell? ⟨w.heap.size, 37, none⟩ = some (.int .i64 4) ∧ w'.cell? ⟨w.heap.size, 38, none⟩ = some (.int .i64 fin)) ⟨d1, d2⟩ ?_
          iterate 1 (refine ord_pure rfl rfl rfl (fun K' hK => ?_); go_big_quiet_op; refine hK _ ?_; clear hK K')
          refine ord_load (t := 3) rfl rfl rfl (p := .pointer (some ⟨w.heap.size, 37, none⟩)) (v := .int .i64 4) rfl (fun w' hC => load_one Tryz.underlying3 rfl hC.1) (fun K' hK => ?_)
          go_simp
          refine hK _ ?_
          clear hK K'
          iterate 1 (refine ord_pure rfl rfl rfl (fun K' hK => ?_); go_big_quiet_op; refine hK _ ?_; clear hK K')
          refine ord_load (t := 3) rfl rfl rfl (p := .pointer (some ⟨w.heap.size, 38, none⟩)) (v := .int .i64 fin) rfl (fun w' hC => load_one Tryz.underlying3 rfl hC.2) (fun K' hK => ?_)
          go_simp
          refine hK _ ?_
          clear hK K'
          iterate 2 (refine ord_pure rfl rfl rfl (fun K' hK => ?_); go_big_quiet_op; refine hK _ ?_; clear hK K')
          refine ord_nil ?_
          go_wp2_with fail
          go_ret2
          exact ⟨rfl, hBd⟩
      · by_cases h : side = fin
        · obtain rfl : side = fin := h
          rw [show nxtV ⟨4, side⟩ side flags = (4, side) by rw [hr]; simp]
          clear hr
          show Calls _ _ _ _ fun e w' => e = .returned (.tuple #[.int .i64 4, .int .i64 side]) ∧ Below w.heap.size w w'
          go_enter Tryz.func33, Tryz.ntmps33
          go_wp2_with fail
          try go_frame
          refine wp_region_ord [(0, .pure), (1, .quiet), (2, .pure), (3, .quiet), (4, .pure), (5, .pure)] (by kernel_rfl) (by kernel_rfl)
            (fun w' => w'.cell? ⟨w.heap.size, 37, none⟩ = some (.int .i64 4) ∧ w'.cell? ⟨w.heap.size, 38, none⟩ = some (.int .i64 side)) ⟨d1, d2⟩ ?_
          iterate 1 (refine ord_pure rfl rfl rfl (fun K' hK => ?_); go_big_quiet_op; refine hK _ ?_; clear hK K')
          refine ord_load (t := 3) rfl rfl rfl (p := .pointer (some ⟨w.heap.size, 37, none⟩)) (v := .int .i64 4) rfl (fun w' hC => load_one Tryz.underlying3 rfl hC.1) (fun K' hK => ?_)
          go_simp
          refine hK _ ?_
          clear hK K'
          iterate 1 (refine ord_pure rfl rfl rfl (fun K' hK => ?_); go_big_quiet_op; refine hK _ ?_; clear hK K')
          refine ord_load (t := 3) rfl rfl rfl (p := .pointer (some ⟨w.heap.size, 38, none⟩)) (v := .int .i64 side) rfl (fun w' hC => load_one Tryz.underlying3 rfl hC.2) (fun K' hK => ?_)
          go_simp
          refine hK _ ?_
          clear hK K'
          iterate 2 (refine ord_pure rfl rfl rfl (fun K' hK => ?_); go_big_quiet_op; refine hK _ ?_; clear hK K')
          refine ord_nil ?_
          go_wp2_with fail
          go_ret2
          exact ⟨rfl, hBd⟩
        · have hne : (side != fin) = true := by simpa using h
          have heq : (side == fin) = false := by simpa using h
          rw [show nxtV ⟨4, fin⟩ side flags = (5, fin) by rw [hr]; simp [h]]
          clear hr h
          show Calls _ _ _ _ fun e w' => e = .returned (.tuple #[.int .i64 5, .int .i64 fin]) ∧ Below w.heap.size w w'
          go_enter Tryz.func33, Tryz.ntmps33
          go_wp2_with fail
          try go_frame
          refine wp_region_ord [(0, .pure), (1, .quiet), (2, .pure), (3, .pure)] (by kernel_rfl) (by kernel_rfl)
            (fun w' => w'.cell? ⟨w.heap.size, 37, none⟩ = some (.int .i64 4) ∧ w'.cell? ⟨w.heap.size, 38, none⟩ = some (.int .i64 fin)) ⟨d1, d2⟩ ?_
          iterate 1 (refine ord_pure rfl rfl rfl (fun K' hK => ?_); go_big_quiet_op; refine hK _ ?_; clear hK K')
          refine ord_load (t := 3) rfl rfl rfl (p := .pointer (some ⟨w.heap.size, 38, none⟩)) (v := .int .i64 fin) rfl (fun w' hC => load_one Tryz.underlying3 rfl hC.2) (fun K' hK => ?_)
          go_simp
          refine hK _ ?_
          clear hK K'
          iterate 2 (refine ord_pure rfl rfl rfl (fun K' hK => ?_); go_big_quiet_op; refine hK _ ?_; clear hK K')
          refine ord_nil ?_
          go_wp2_with fail
          go_ret2
          exact ⟨rfl, hBd⟩
  · cases ack
    · cases fn
      · by_cases h : side = fin
        · obtain rfl : side = fin := h
          rw [show nxtV ⟨4, side⟩ side flags = (0, 0) by rw [hr]; simp]
          clear hr
          show Calls _ _ _ _ fun e w' => e = .returned (.tuple #[.int .i64 0, .int .i64 0]) ∧ Below w.heap.size w w'
          go_enter Tryz.func33, Tryz.ntmps33
          go_wp2_with fail
          go_ret2
          exact ⟨rfl, hB⟩
        · have hne : (side != fin) = true := by simpa using h
          have heq : (side == fin) = false := by simpa using h
          rw [show nxtV ⟨4, fin⟩ side flags = (0, 0) by rw [hr]; simp]
          clear hr h
          show Calls _ _ _ _ fun e w' => e = .returned (.tuple #[.int .i64 0, .int .i64 0]) ∧ Below w.heap.size w w'
          go_enter Tryz.func33, Tryz.ntmps33
          go_wp2_with fail
          go_ret2
          exact ⟨rfl, hB⟩
      · by_cases h : side = fin
        · obtain rfl : side = fin := h
          rw [show nxtV ⟨4, side⟩ side flags = (0, 0) by rw [hr]; simp]
          clear hr
          show Calls _ _ _ _ fun e w' => e = .returned (.tuple #[.int .i64 0, .int .i64 0]) ∧ Below w.heap.size w w'
          go_enter Tryz.func33, Tryz.ntmps33
          go_wp2_with fail
          go_ret2
          exact ⟨rfl, hB⟩
        · have hne : (side != fin) = true := by simpa using h
          have heq : (side == fin) = false := by simpa using h
          rw [show nxtV ⟨4, fin⟩ side flags = (0, 0) by rw [hr]; simp]
          clear hr h
          show Calls _ _ _ _ fun e w' => e = .returned (.tuple #[.int .i64 0, .int .i64 0]) ∧ Below w.heap.size w w'
          go_enter Tryz.func33, Tryz.ntmps33
          go_wp2_with fail
          go_ret2
          exact ⟨rfl, hB⟩
    · cases fn
      · by_cases h : side = fin
        · obtain rfl : side = fin := h
          rw [show nxtV ⟨4, side⟩ side flags = (0, 0) by rw [hr]; simp]
          clear hr
          show Calls _ _ _ _ fun e w' => e = .returned (.tuple #[.int .i64 0, .int .i64 0]) ∧ Below w.heap.size w w'
          go_enter Tryz.func33, Tryz.ntmps33
          go_wp2_with fail
          go_ret2
          exact ⟨rfl, hB⟩
        · have hne : (side != fin) = true := by simpa using h
          have heq : (side == fin) = false := by simpa using h
          rw [show nxtV ⟨4, fin⟩ side flags = (0, 0) by rw [hr]; simp]
          clear hr h
          show Calls _ _ _ _ fun e w' => e = .returned (.tuple #[.int .i64 0, .int .i64 0]) ∧ Below w.heap.size w w'
          go_enter Tryz.func33, Tryz.ntmps33
          go_wp2_with fail
          go_ret2
          exact ⟨rfl, hB⟩
      · by_cases h : side = fin
        · obtain rfl : side = fin := h
          rw [show nxtV ⟨4, side⟩ side flags = (0, 0) by rw [hr]; simp]
          clear hr
          show Calls _ _ _ _ fun e w' => e = .returned (.tuple #[.int .i64 0, .int .i64 0]) ∧ Below w.heap.size w w'
          go_enter Tryz.func33, Tryz.ntmps33
          go_wp2_with fail
          go_ret2
          exact ⟨rfl, hB⟩
        · have hne : (side != fin) = true := by simpa using h
          have heq : (side == fin) = false := by simpa using h
          rw [show nxtV ⟨4, fin⟩ side flags = (0, 0) by rw [hr]; simp]
          clear hr h
          show Calls _ _ _ _ fun e w' => e = .returned (.tuple #[.int .i64 0, .int .i64 0]) ∧ Below w.heap.size w w'
          go_enter Tryz.func33, Tryz.ntmps33
          go_wp2_with fail
          go_ret2
          exact ⟨rfl, hB⟩
end Go.Proofs.YtepaanpdjadakaaGreatDoor

/-! The reference's flows: next, the walk (Last). -/
namespace Go.Proofs.YtepaanpdjadakaaGreatDoor
open Go Go.RowKit

set_option maxRecDepth 8000 in
set_option maxHeartbeats 16000000 in
theorem gNext5_any (q : Tup) (u fin side flags : Int) (w : World) : Calls Tryz.prog 33 #[.agg (Flw.enc ⟨q, 5, fin, u⟩).toArray, .int .i64 side, .int .i64 flags] w fun e w' =>
    e = .returned (.tuple #[.int .i64 (nxtV ⟨5, fin⟩ side flags).1, .int .i64 (nxtV ⟨5, fin⟩ side flags).2]) ∧ Below w.heap.size w w' := by
  have hX := (Sat.start w).alloc (.cells (Flw.enc ⟨q, 5, fin, u⟩).toArray 55)
  obtain ⟨d1, d2, _⟩ := flw_cells (f := ⟨q, 5, fin, u⟩) hX.heap
  simp only at d1 d2
  have hB := hX.below
  have hBd := hX.drew.below
  clear hX
  generalize (Flw.enc ⟨q, 5, fin, u⟩).toArray = FE at *
  obtain ⟨syn, hs⟩ : ∃ b, hasF flags 2 = b := ⟨_, rfl⟩
  obtain ⟨ack, ha⟩ : ∃ b, hasF flags 16 = b := ⟨_, rfl⟩
  obtain ⟨fn, hf⟩ : ∃ b, hasF flags 1 = b := ⟨_, rfl⟩
  have hr := next_st3 side flags syn ack fn hs ha hf 5 fin (by omega)
  unfold hasF at hs ha hf
  cases syn
  · cases ack
    · cases fn
      · by_cases h : side = fin
        · obtain rfl : side = fin := h
          rw [show nxtV ⟨5, side⟩ side flags = (5, side) by rw [hr]; simp]
          clear hr
          show Calls _ _ _ _ fun e w' => e = .returned (.tuple #[.int .i64 5, .int .i64 side]) ∧ Below w.heap.size w w'
          go_enter Tryz.func33, Tryz.ntmps33
          go_wp2_with fail
          try go_frame
          refine wp_region_ord [(0, .pure), (1, .quiet), (2, .pure), (3, .quiet), (4, .pure), (5, .pure)] (by kernel_rfl) (by kernel_rfl)
            (fun w' => w'.cell? ⟨w.heap.size, 37, none⟩ = some (.int .i64 5) ∧ w'.cell? ⟨w.heap.size, 38, none⟩ = some (.int .i64 side)) ⟨d1, d2⟩ ?_
          iterate 1 (refine ord_pure rfl rfl rfl (fun K' hK => ?_); go_big_quiet_op; refine hK _ ?_; clear hK K')
          refine ord_load (t := 3) rfl rfl rfl (p := .pointer (some ⟨w.heap.size, 37, none⟩)) (v := .int .i64 5) rfl (fun w' hC => load_one Tryz.underlying3 rfl hC.1) (fun K' hK => ?_)
          go_simp
          refine hK _ ?_
          clear hK K'
          iterate 1 (refine ord_pure rfl rfl rfl (fun K' hK => ?_); go_big_quiet_op; refine hK _ ?_; clear hK K')
          refine ord_load (t := 3) rfl rfl rfl (p := .pointer (some ⟨w.heap.size, 38, none⟩)) (v := .int .i64 side) rfl (fun w' hC => load_one Tryz.underlying3 rfl hC.2) (fun K' hK => ?_)
          go_simp
          refine hK _ ?_
          clear hK K'
          iterate 2 (refine ord_pure rfl rfl rfl (fun K' hK => ?_); go_big_quiet_op; refine hK _ ?_; clear hK K')
          refine ord_nil ?_
          go_wp2_with fail
          go_ret2
          exact ⟨rfl, hBd⟩
        · have hne : (side != fin) = true := by simpa using h
          have heq : (side == fin) = false := by simpa using h
          rw [show nxtV ⟨5, fin⟩ side flags = (5, fin) by rw [hr]; simp]
          clear hr h
          show Calls _ _ _ _ fun e w' => e = .returned (.tuple #[.int .i64 5, .int .i64 fin]) ∧ Below w.heap.size w w'
          go_enter Tryz.func33, Tryz.ntmps33
          go_wp2_with fail
          try go_frame
          refine wp_region_ord [(0, .pure), (1, .quiet), (2, .pure), (3, .quiet), (4, .pure), (5, .pure)] (by kernel_rfl) (by kernel_rfl)
            (fun w' => w'.cell? ⟨w.heap.size, 37, none⟩ = some (.int .i64 5) ∧ w'.cell? ⟨w.heap.size, 38, none⟩ = some (.int .i64 fin)) ⟨d1, d2⟩ ?_
          iterate 1 (refine ord_pure rfl rfl rfl (fun K' hK => ?_); go_big_quiet_op; refine hK _ ?_; clear hK K')
          refine ord_load (t := 3) rfl rfl rfl (p := .pointer (some ⟨w.heap.size, 37, none⟩)) (v := .int .i64 5) rfl (fun w' hC => load_one Tryz.underlying3 rfl hC.1) (fun K' hK => ?_)
          go_simp
          refine hK _ ?_
          clear hK K'
          iterate 1 (refine ord_pure rfl rfl rfl (fun K' hK => ?_); go_big_quiet_op; refine hK _ ?_; clear hK K')
          refine ord_load (t := 3) rfl rfl rfl (p := .pointer (some ⟨w.heap.size, 38, none⟩)) (v := .int .i64 fin) rfl (fun w' hC => load_one Tryz.underlying3 rfl hC.2) (fun K' hK => ?_)
          go_simp
          refine hK _ ?_
          clear hK K'
          iterate 2 (refine ord_pure rfl rfl rfl (fun K' hK => ?_); go_big_quiet_op; refine hK _ ?_; clear hK K')
          refine ord_nil ?_
          go_wp2_with fail
          go_ret2
          exact ⟨rfl, hBd⟩
      · by_cases h : side = fin
        · obtain rfl : side = fin := h
          rw [show nxtV ⟨5, side⟩ side flags = (5, side) by rw [hr]; simp]
          clear hr
          show Calls _ _ _ _ fun e w' => e = .returned (.tuple #[.int .i64 5, .int .i64 side]) ∧ Below w.heap.size w w'
          go_enter Tryz.func33, Tryz.ntmps33
          go_wp2_with fail
          try go_frame
          refine wp_region_ord [(0, .pure), (1, .quiet), (2, .pure), (3, .quiet), (4, .pure), (5, .pure)] (by kernel_rfl) (by kernel_rfl)
            (fun w' => w'.cell? ⟨w.heap.size, 37, none⟩ = some (.int .i64 5) ∧ w'.cell? ⟨w.heap.size, 38, none⟩ = some (.int .i64 side)) ⟨d1, d2⟩ ?_
          iterate 1 (refine ord_pure rfl rfl rfl (fun K' hK => ?_); go_big_quiet_op; refine hK _ ?_; clear hK K')
          refine ord_load (t := 3) rfl rfl rfl (p := .pointer (some ⟨w.heap.size, 37, none⟩)) (v := .int .i64 5) rfl (fun w' hC => load_one Tryz.underlying3 rfl hC.1) (fun K' hK => ?_)
          go_simp
          refine hK _ ?_
          clear hK K'
          iterate 1 (refine ord_pure rfl rfl rfl (fun K' hK => ?_); go_big_quiet_op; refine hK _ ?_; clear hK K')
          refine ord_load (t := 3) rfl rfl rfl (p := .pointer (some ⟨w.heap.size, 38, none⟩)) (v := .int .i64 side) rfl (fun w' hC => load_one Tryz.underlying3 rfl hC.2) (fun K' hK => ?_)
          go_simp
          refine hK _ ?_
          clear hK K'
          iterate 2 (refine ord_pure rfl rfl rfl (fun K' hK => ?_); go_big_quiet_op; refine hK _ ?_; clear hK K')
          refine ord_nil ?_
          go_wp2_with fail
          go_ret2
          exact ⟨rfl, hBd⟩
        · have hne : (side != fin) = true := by simpa using h
          have heq : (side == fin) = false := by simpa using h
          rw [show nxtV ⟨5, fin⟩ side flags = (5, fin) by rw [hr]; simp]
          clear hr h
          show Calls _ _ _ _ fun e w' => e = .returned (.tuple #[.int .i64 5, .int .i64 fin]) ∧ Below w.heap.size w w'
          go_enter Tryz.func33, Tryz.ntmps33
          go_wp2_with fail
          try go_frame
          refine wp_region_ord [(0, .pure), (1, .quiet), (2, .pure), (3, .quiet), (4, .pure), (5, .pure)] (by kernel_rfl) (by kernel_rfl)
            (fun w' => w'.cell? ⟨w.heap.size, 37, none⟩ = some (.int .i64 5) ∧ w'.cell? ⟨w.heap.size, 38, none⟩ = some (.int .i64 fin)) ⟨d1, d2⟩ ?_
          iterate 1 (refine ord_pure rfl rfl rfl (fun K' hK => ?_); go_big_quiet_op; refine hK _ ?_; clear hK K')
          refine ord_load (t := 3) rfl rfl rfl (p := .pointer (some ⟨w.heap.size, 37, none⟩)) (v := .int .i64 5) rfl (fun w' hC => load_one Tryz.underlying3 rfl hC.1) (fun K' hK => ?_)
          go_simp
          refine hK _ ?_
          clear hK K'
          iterate 1 (refine ord_pure rfl rfl rfl (fun K' hK => ?_); go_big_quiet_op; refine hK _ ?_; clear hK K')
          refine ord_load (t := 3) rfl rfl rfl (p := .pointer (some ⟨w.heap.size, 38, none⟩)) (v := .int .i64 fin) rfl (fun w' hC => load_one Tryz.underlying3 rfl hC.2) (fun K' hK => ?_)
          go_simp
          refine hK _ ?_
          clear hK K'
          iterate 2 (refine ord_pure rfl rfl rfl (fun K' hK => ?_); go_big_quiet_op; refine hK _ ?_; clear hK K')
          refine ord_nil ?_
          go_wp2_with fail
          go_ret2
          exact ⟨rfl, hBd⟩
    · cases fn
      · by_cases h : side = fin
        · obtain rfl : side = fin := h
          rw [show nxtV ⟨5, side⟩ side flags = ((-1), 0) by rw [hr]; simp]
          clear hr
          show Calls _ _ _ _ fun e w' => e = .returned (.tuple #[.int .i64 (-1), .int .i64 0]) ∧ Below w.heap.size w w'
          go_enter Tryz.func33, Tryz.ntmps33
          go_wp2_with fail
          go_ret2
          exact ⟨rfl, hB⟩
        · have hne : (side != fin) = true := by simpa using h
          have heq : (side == fin) = false := by simpa using h
          rw [show nxtV ⟨5, fin⟩ side flags = (5, fin) by rw [hr]; simp [h]]
          clear hr h
          show Calls _ _ _ _ fun e w' => e = .returned (.tuple #[.int .i64 5, .int .i64 fin]) ∧ Below w.heap.size w w'
          go_enter Tryz.func33, Tryz.ntmps33
          go_wp2_with fail
          try go_frame
          refine wp_region_ord [(0, .pure), (1, .quiet), (2, .pure), (3, .quiet), (4, .pure), (5, .pure)] (by kernel_rfl) (by kernel_rfl)
            (fun w' => w'.cell? ⟨w.heap.size, 37, none⟩ = some (.int .i64 5) ∧ w'.cell? ⟨w.heap.size, 38, none⟩ = some (.int .i64 fin)) ⟨d1, d2⟩ ?_
          iterate 1 (refine ord_pure rfl rfl rfl (fun K' hK => ?_); go_big_quiet_op; refine hK _ ?_; clear hK K')
          refine ord_load (t := 3) rfl rfl rfl (p := .pointer (some ⟨w.heap.size, 37, none⟩)) (v := .int .i64 5) rfl (fun w' hC => load_one Tryz.underlying3 rfl hC.1) (fun K' hK => ?_)
          go_simp
          refine hK _ ?_
          clear hK K'
          iterate 1 (refine ord_pure rfl rfl rfl (fun K' hK => ?_); go_big_quiet_op; refine hK _ ?_; clear hK K')
          refine ord_load (t := 3) rfl rfl rfl (p := .pointer (some ⟨w.heap.size, 38, none⟩)) (v := .int .i64 fin) rfl (fun w' hC => load_one Tryz.underlying3 rfl hC.2) (fun K' hK => ?_)
          go_simp
          refine hK _ ?_
          clear hK K'
          iterate 2 (refine ord_pure rfl rfl rfl (fun K' hK => ?_); go_big_quiet_op; refine hK _ ?_; clear hK K')
          refine ord_nil ?_
          go_wp2_with fail
          go_ret2
          exact ⟨rfl, hBd⟩
      · by_cases h : side = fin
        · obtain rfl : side = fin := h
          rw [show nxtV ⟨5, side⟩ side flags = (5, side) by rw [hr]; simp]
          clear hr
          show Calls _ _ _ _ fun e w' => e = .returned (.tuple #[.int .i64 5, .int .i64 side]) ∧ Below w.heap.size w w'
          go_enter Tryz.func33, Tryz.ntmps33
          go_wp2_with fail
          try go_frame
          refine wp_region_ord [(0, .pure), (1, .quiet), (2, .pure), (3, .quiet), (4, .pure), (5, .pure)] (by kernel_rfl) (by kernel_rfl)
            (fun w' => w'.cell? ⟨w.heap.size, 37, none⟩ = some (.int .i64 5) ∧ w'.cell? ⟨w.heap.size, 38, none⟩ = some (.int .i64 side)) ⟨d1, d2⟩ ?_
          iterate 1 (refine ord_pure rfl rfl rfl (fun K' hK => ?_); go_big_quiet_op; refine hK _ ?_; clear hK K')
          refine ord_load (t := 3) rfl rfl rfl (p := .pointer (some ⟨w.heap.size, 37, none⟩)) (v := .int .i64 5) rfl (fun w' hC => load_one Tryz.underlying3 rfl hC.1) (fun K' hK => ?_)
          go_simp
          refine hK _ ?_
          clear hK K'
          iterate 1 (refine ord_pure rfl rfl rfl (fun K' hK => ?_); go_big_quiet_op; refine hK _ ?_; clear hK K')
          refine ord_load (t := 3) rfl rfl rfl (p := .pointer (some ⟨w.heap.size, 38, none⟩)) (v := .int .i64 side) rfl (fun w' hC => load_one Tryz.underlying3 rfl hC.2) (fun K' hK => ?_)
          go_simp
          refine hK _ ?_
          clear hK K'
          iterate 2 (refine ord_pure rfl rfl rfl (fun K' hK => ?_); go_big_quiet_op; refine hK _ ?_; clear hK K')
          refine ord_nil ?_
          go_wp2_with fail
          go_ret2
          exact ⟨rfl, hBd⟩
        · have hne : (side != fin) = true := by simpa using h
          have heq : (side == fin) = false := by simpa using h
          rw [show nxtV ⟨5, fin⟩ side flags = (5, fin) by rw [hr]; simp]
          clear hr h
          show Calls _ _ _ _ fun e w' => e = .returned (.tuple #[.int .i64 5, .int .i64 fin]) ∧ Below w.heap.size w w'
          go_enter Tryz.func33, Tryz.ntmps33
          go_wp2_with fail
          try go_frame
          refine wp_region_ord [(0, .pure), (1, .quiet), (2, .pure), (3, .quiet), (4, .pure), (5, .pure)] (by kernel_rfl) (by kernel_rfl)
            (fun w' => w'.cell? ⟨w.heap.size, 37, none⟩ = some (.int .i64 5) ∧ w'.cell? ⟨w.heap.size, 38, none⟩ = some (.int .i64 fin)) ⟨d1, d2⟩ ?_
          iterate 1 (refine ord_pure rfl rfl rfl (fun K' hK => ?_); go_big_quiet_op; refine hK _ ?_; clear hK K')
          refine ord_load (t := 3) rfl rfl rfl (p := .pointer (some ⟨w.heap.size, 37, none⟩)) (v := .int .i64 5) rfl (fun w' hC => load_one Tryz.underlying3 rfl hC.1) (fun K' hK => ?_)
          go_simp
          refine hK _ ?_
          clear hK K'
          iterate 1 (refine ord_pure rfl rfl rfl (fun K' hK => ?_); go_big_quiet_op; refine hK _ ?_; clear hK K')
          refine ord_load (t := 3) rfl rfl rfl (p := .pointer (some ⟨w.heap.size, 38, none⟩)) (v := .int .i64 fin) rfl (fun w' hC => load_one Tryz.underlying3 rfl hC.2) (fun K' hK => ?_)
          go_simp
          refine hK _ ?_
          clear hK K'
          iterate 2 (refine ord_pure rfl rfl rfl (fun K' hK => ?_); go_big_quiet_op; refine hK _ ?_; clear hK K')
          refine ord_nil ?_
          go_wp2_with fail
          go_ret2
          exact ⟨rfl, hBd⟩
  · cases ack
    · cases fn
      · by_cases h : side = fin
        · obtain rfl : side = fin := h
          rw [show nxtV ⟨5, side⟩ side flags = (0, 0) by rw [hr]; simp]
          clear hr
          show Calls _ _ _ _ fun e w' => e = .returned (.tuple #[.int .i64 0, .int .i64 0]) ∧ Below w.heap.size w w'
          go_enter Tryz.func33, Tryz.ntmps33
          go_wp2_with fail
          go_ret2
          exact ⟨rfl, hB⟩
        · have hne : (side != fin) = true := by simpa using h
          have heq : (side == fin) = false := by simpa using h
          rw [show nxtV ⟨5, fin⟩ side flags = (0, 0) by rw [hr]; simp]
          clear hr h
          show Calls _ _ _ _ fun e w' => e = .returned (.tuple #[.int .i64 0, .int .i64 0]) ∧ Below w.heap.size w w'
          go_enter Tryz.func33, Tryz.ntmps33
          go_wp2_with fail
          go_ret2
          exact ⟨rfl, hB⟩
      · by_cases h : side = fin
        · obtain rfl : side = fin := h
          rw [show nxtV ⟨5, side⟩ side flags = (0, 0) by rw [hr]; simp]
          clear hr
          show Calls _ _ _ _ fun e w' => e = .returned (.tuple #[.int .i64 0, .int .i64 0]) ∧ Below w.heap.size w w'
          go_enter Tryz.func33, Tryz.ntmps33
          go_wp2_with fail
          go_ret2
          exact ⟨rfl, hB⟩
        · have hne : (side != fin) = true := by simpa using h
          have heq : (side == fin) = false := by simpa using h
          rw [show nxtV ⟨5, fin⟩ side flags = (0, 0) by rw [hr]; simp]
          clear hr h
          show Calls _ _ _ _ fun e w' => e = .returned (.tuple #[.int .i64 0, .int .i64 0]) ∧ Below w.heap.size w w'
          go_enter Tryz.func33, Tryz.ntmps33
          go_wp2_with fail
          go_ret2
          exact ⟨rfl, hB⟩
    · cases fn
      · by_cases h : side = fin
        · obtain rfl : side = fin := h
          rw [show nxtV ⟨5, side⟩ side flags = (0, 0) by rw [hr]; simp]
          clear hr
          show Calls _ _ _ _ fun e w' => e = .returned (.tuple #[.int .i64 0, .int .i64 0]) ∧ Below w.heap.size w w'
          go_enter Tryz.func33, Tryz.ntmps33
          go_wp2_with fail
          go_ret2
          exact ⟨rfl, hB⟩
        · have hne : (side != fin) = true := by simpa using h
          have heq : (side == fin) = false := by simpa using h
          rw [show nxtV ⟨5, fin⟩ side flags = (0, 0) by rw [hr]; simp]
          clear hr h
          show Calls _ _ _ _ fun e w' => e = .returned (.tuple #[.int .i64 0, .int .i64 0]) ∧ Below w.heap.size w w'
          go_enter Tryz.func33, Tryz.ntmps33
          go_wp2_with fail
          go_ret2
          exact ⟨rfl, hB⟩
      · by_cases h : side = fin
        · obtain rfl : side = fin := h
          rw [show nxtV ⟨5, side⟩ side flags = (0, 0) by rw [hr]; simp]
          clear hr
          show Calls _ _ _ _ fun e w' => e = .returned (.tuple #[.int .i64 0, .int .i64 0]) ∧ Below w.heap.size w w'
          go_enter Tryz.func33, Tryz.ntmps33
          go_wp2_with fail
          go_ret2
          exact ⟨rfl, hB⟩
        · have hne : (side != fin) = true := by simpa using h
          have heq : (side == fin) = false := by simpa using h
          rw [show nxtV ⟨5, fin⟩ side flags = (0, 0) by rw [hr]; simp]
          clear hr h
          show Calls _ _ _ _ fun e w' => e = .returned (.tuple #[.int .i64 0, .int .i64 0]) ∧ Below w.heap.size w w'
          go_enter Tryz.func33, Tryz.ntmps33
          go_wp2_with fail
          go_ret2
          exact ⟨rfl, hB⟩
end Go.Proofs.YtepaanpdjadakaaGreatDoor

/-! The reference's flows: See. -/
namespace Go.Proofs.YtepaanpdjadakaaGreatDoor
open Go Go.RowKit

theorem gNext_any (q : Tup) (u : Int) (p : Ph) (side flags : Int) (w : World) (hp : OkT p) (h01 : side = 0 ∨ side = 1) : Calls Tryz.prog 33 #[.agg (Flw.enc ⟨q, p.st, p.fin, u⟩).toArray, .int .i64 side, .int .i64 flags] w fun e w' =>
    e = .returned (.tuple #[.int .i64 (nxtV p side flags).1, .int .i64 (nxtV p side flags).2]) ∧ Below w.heap.size w w' := by
  obtain ⟨st, fin⟩ := p
  obtain ⟨h1, h5, hf⟩ := hp
  simp only at h1 h5 hf ⊢
  obtain rfl | rfl | rfl | rfl | rfl : st = 1 ∨ st = 2 ∨ st = 3 ∨ st = 4 ∨ st = 5 := by omega
  · rw [hf (by decide)]; exact gNext1_any q u side flags w h01
  · rw [hf (by decide)]; exact gNext2_any q u side flags w h01
  · exact gNext3_any q u fin side flags w
  · exact gNext4_any q u fin side flags w
  · exact gNext5_any q u fin side flags w
theorem okT_mk {st fin : Int} (h1 : 1 ≤ st) (h2 : st ≤ 5) (h3 : 3 < st ∨ fin = 0) : OkT ⟨st, fin⟩ := ⟨h1, h2, fun h => by
  rcases h3 with h3 | h3
  · simp only at h; omega
  · exact h3⟩
theorem OkT_closes {p : Ph} {side : Int} (h : OkT p) (flags : Int) : OkT (closesF p side flags) := by
  unfold closesF
  split
  · exact okT_mk (by decide) (by decide) (.inl (by decide))
  · exact h
/-- The states stay in their bounds. -/
theorem OkT_see {p : Ph} (h : OkT p) {side flags : Int} {ph : Ph} {e : Bool} (hs : seeN p side flags = (true, e, ph)) : OkT ph := by
  obtain ⟨st, fin⟩ := p
  obtain ⟨h1, h5, hf⟩ := id h
  simp only at h1 h5 hf
  unfold seeN at hs
  simp only at hs
  have ok2 : st = 1 ∨ st = 2 → OkT ⟨2, fin⟩ := fun h12 => okT_mk (by decide) (by decide) (.inr (by rcases h12 with rfl | rfl <;> exact hf (by decide)))
  have ok3 : st = 1 ∨ st = 2 → OkT ⟨3, fin⟩ := fun h12 => okT_mk (by decide) (by decide) (.inr (by rcases h12 with rfl | rfl <;> exact hf (by decide)))
  split at hs
  · rename_i h12
    unfold openingF at hs
    split at hs
    · split at hs
      · simp only [Prod.mk.injEq, true_and] at hs; obtain ⟨_, rfl⟩ := hs; exact ok2 h12
      · simp at hs
    · split at hs
      · simp only [Prod.mk.injEq, true_and] at hs; obtain ⟨_, rfl⟩ := hs; exact h
      · split at hs
        · simp at hs
        · split at hs
          · simp at hs
          · split at hs
            · simp only [Prod.mk.injEq, true_and] at hs; obtain ⟨_, rfl⟩ := hs; exact OkT_closes (ok3 h12) flags
            · simp at hs
  · unfold openF at hs
    split at hs
    · simp at hs
    · split at hs
      · simp only [Prod.mk.injEq, true_and] at hs; obtain ⟨_, rfl⟩ := hs; exact OkT_closes h flags
      · split at hs
        · simp only [Prod.mk.injEq, true_and] at hs; obtain ⟨_, rfl⟩ := hs; exact okT_mk (by decide) (by decide) (.inl (by decide))
        · split at hs
          · simp only [Prod.mk.injEq, true_and] at hs; obtain ⟨_, rfl⟩ := hs; exact h
          · simp only [Prod.mk.injEq, true_and] at hs; obtain ⟨_, rfl⟩ := hs; exact h
/-- What a flow may be. -/
def OkF (f : Flw) : Prop := if f.tup.proto = 6 then OkT ⟨f.st, f.fin⟩ else f.st = 6 ∨ f.st = 7
def OkL (L : List Flw) : Prop := ∀ f ∈ L, OkF f
def upF (f : Flw) (p : Ph) (u : Int) : Flw := atDue (withPh f p) u
def setL (L : List Flw) (q : Tup) (p : Ph) (u : Int) : List Flw := L.map fun g => if g.tup = q then upF g p u else g
def seeL (L : List Flw) (q : Tup) (side flags now : Int) : Bool × List Flw := match L.find? (isWL q) with
  | none => (false, L)
  | some f => if side = 0 ∨ side = 1 then
      (if (seeF q.proto ⟨f.st, f.fin⟩ side flags).1 = true then
        (if (seeF q.proto ⟨f.st, f.fin⟩ side flags).2.1 = true then (true, delL L q) else (true, setL L q (seeF q.proto ⟨f.st, f.fin⟩ side flags).2.2 (aft now (lastsF q.proto (seeF q.proto ⟨f.st, f.fin⟩ side flags).2.2.st))))
       else (false, L))
    else (false, L)
theorem setL_at {L : List Flw} {k : Nat} {x : Flw} (hn : KNL L) (h : L[k]? = some x) (p : Ph) (u : Int) : setL L x.tup p u = L.set k (upF x p u) := by
  have hk := (List.getElem?_eq_some_iff.1 h).1
  unfold setL
  apply List.ext_getElem?
  intro j
  rw [List.getElem?_map]
  by_cases e : k = j
  · subst e
    rw [List.getElem?_set_self hk, h]
    simp
  · rw [List.getElem?_set_ne e]
    cases hy : L[j]? with
    | none => rfl
    | some y =>
      have hne : ¬ y.tup = x.tup := fun h2 => e (by
        have h1 : (L.map (·.tup))[k]? = (L.map (·.tup))[j]? := by rw [List.getElem?_map, List.getElem?_map, h, hy]; simp [h2]
        exact (List.getElem?_inj (by simpa using hk) hn).1 h1)
      simp [hne]
theorem setL_length (L : List Flw) (q : Tup) (p : Ph) (u : Int) : (setL L q p u).length = L.length := by simp [setL]
theorem setL_KN {L : List Flw} (h : KNL L) (q : Tup) (p : Ph) (u : Int) : KNL (setL L q p u) := by
  unfold KNL setL at *
  rw [List.map_map]
  have : ((fun f : Flw => f.tup) ∘ fun g : Flw => if g.tup = q then upF g p u else g) = fun f => f.tup := by
    funext g
    simp only [Function.comp]
    split <;> rfl
  rw [this]; exact h
end Go.Proofs.YtepaanpdjadakaaGreatDoor

/-! The reference's flows: See, the walk. -/
namespace Go.Proofs.YtepaanpdjadakaaGreatDoor
open Go Go.RowKit

attribute [local irreducible] wpOrd
section
variable {B : Nat} {w0 w w' : World} {F : HP} {b : Nat} {n : Int} {L : List Flw} {v : Value}
set_option maxRecDepth 8000 in
set_option maxHeartbeats 32000000 in
theorem gSee_any (h : Sat B w0 w (gref b n L • F)) (hl : L.length ≤ 1000) (hn : KNL L) (ho : OkL L) (q : Tup) (side flags now : Int) (hn0 : 0 ≤ now) (hn1 : now ≤ 18446744073709551615) : Calls Tryz.prog 11 #[.pointer (some ⟨b, 0, none⟩), .agg q.enc.toArray, .int .i64 side, .int .i64 flags, .int .u64 now] w fun e w' =>
    e = .returned (.bool (seeL L q side flags now).1) ∧ Sat B w0 w' (gref b n (seeL L q side flags now).2 • F) := by
  have hX := h.alloc (.cells q.enc.toArray 37)
  have hlq : ∀ W, W.heap[w.heap.size]? = some (.cells q.enc.toArray 37) → (Instr.loadAt 37 (.pointer (some ⟨w.heap.size, 0, none⟩))).run Tryz.prog W = .ok (.agg q.enc.toArray) W :=
    fun W h => run_loadAt_row h Tryz.underlying37 rfl (by rw [Tup.enc_length]; kernel_rfl) (fun j u hu => by simpa using hu)
  have HLQ := Lib.hid hlq
  have hl1 := hlq _ hX.heap
  have c1 := gPlace_any hX.pull2 hl q
  have hpr : q.enc.toArray[34]? = some (.int .i64 q.proto) := by rw [List.getElem?_toArray]; exact q.at34 0
  have HPR := Lib.hid hpr
  clear hlq h hX hpr
  generalize hQE : q.enc.toArray = QE at *
  generalize hxb : w.heap.size = xb at *
  rcases getL_cases L q with ⟨h1, _, h3⟩ | ⟨k, x, hx, hxq, h1, _, h3⟩
  · have hr : seeL L q side flags now = (false, L) := by unfold seeL; rw [h3]
    rw [hr]
    rw [h1] at c1
    clear hr h1 h3
    go_enter Tryz.func11, Tryz.ntmps11
    go_wp2_with (refine wpList_load_run (t := 37) rfl rfl rfl hl1 ?_)
    try rw [hxb]
    refine c1.mono ?_
    rintro e w1 ⟨rfl, hS1⟩
    go_wp2_with fail
    go_ret
    exact ⟨rfl, hS1.pull2.drop⟩
  · rw [h1] at c1
    have hkl := (List.getElem?_eq_some_iff.1 hx).1
    have hkz : ¬ (k : Int) < 0 := by omega
    by_cases hsd : side = 0 ∨ side = 1
    · have hr : seeL L q side flags now = (if (seeF q.proto ⟨x.st, x.fin⟩ side flags).1 = true then
          (if (seeF q.proto ⟨x.st, x.fin⟩ side flags).2.1 = true then (true, delL L q) else (true, setL L q (seeF q.proto ⟨x.st, x.fin⟩ side flags).2.2 (aft now (lastsF q.proto (seeF q.proto ⟨x.st, x.fin⟩ side flags).2.2.st))))
          else (false, L)) := by
        unfold seeL; rw [h3]; exact if_pos hsd
      generalize seeL L q side flags now = sr at *
      have HR := Lib.hid hr
      have HX := Lib.hid hx
      have HXQ := Lib.hid hxq
      have HSOME : Hid ((L.find? (isWL q)).isSome = true) := Lib.hid (by rw [h3]; rfl)
      have HOX := Lib.hid (ho x (List.mem_of_getElem? hx))
      have HN := Lib.hid hn
      have hst : ∀ (W : World) (z : Array Value), z.size = 40 → (Instr.storeAt 55 (.pointer (some ⟨W.heap.size, 0, none⟩)) (.agg x.enc.toArray)).run Tryz.prog (W.alloc (.cells z 55)) = .ok () (W.alloc (.cells x.enc.toArray 55)) := fun W z hz => flw_storeN x W z hz
      obtain ⟨z, hz1, hz2, hz3⟩ := flw_zero
      have hsn : ¬ (side ≠ 0 ∧ side ≠ 1) := by omega
      have hs01 : (side != 0) = false ∨ ((side != 0) = true ∧ (side != 1) = false) := by rcases hsd with rfl | rfl <;> simp
      clear hr hx hxq h1 h3 hn ho hsn
      rcases hsd with rfl | rfl
      all_goals clear hs01
      · skip
        go_enter Tryz.func11, Tryz.ntmps11
        go_wp2_with (refine wpList_load_run (t := 37) rfl rfl rfl hl1 ?_)
        try rw [hxb]
        refine c1.mono ?_
        rintro e w1 ⟨rfl, hS1⟩
        obtain ⟨A, c, hT⟩ := hS1.gref_open
        obtain ⟨g, rfl, _, _⟩ := hT.pull2.arr_at Flw.enc_length rfl HX.out
        have d1 : w1.cell? ⟨b, 1, none⟩ = some (.slice (some ⟨g, 0, none⟩) L.length c) := cell_heap hT.heap rfl
        have hlf := (row_flw HX.out hT.pull2).2.1
        have hX2 := hT.alloc (.cells x.enc.toArray 55)
        generalize hbf : w1.heap.size = bf at *
        generalize hWf : w1.alloc (.cells x.enc.toArray 55) = Wf at *
        have HBF := Lib.hid hbf
        have HWF := Lib.hid hWf
        have dpr : Wf.cell? ⟨xb, 34, none⟩ = some (.int .i64 q.proto) := cell_heap (hX2.to (by ac_rfl : _ = blk xb (.cells QE 37) • blk bf (.cells x.enc.toArray 55) • blk b (.cells #[.int .i64 n, .slice (some ⟨g, 0, none⟩) L.length c] 28) • arr 55 40 (.slice (some ⟨g, 0, none⟩) L.length c) L.length (L.flatMap Flw.enc) • F)).heap HPR.out
        obtain ⟨dxs, dxf, _⟩ := flw_cells hX2.heap
        clear c1 hS1 hT hl1 hWf hbf
        go_wp2_with (first | (refine wpList_load_run (t := 55) rfl rfl rfl hlf ?_) | (refine wpList_store_run (t := 55) rfl rfl rfl rfl (hst _ _ rfl) (stop_ ?_)))
        unfold Stop
        try rw [HWF.out]
        try rw [HBF.out]
        clear hlf hst HBF HWF d1
        by_cases hp6 : q.proto = 6
        · have HPQ := Lib.hid hp6
          rw [hp6] at dpr
          have hok : OkT ⟨x.st, x.fin⟩ := by
            have := HOX.out
            unfold OkF at this
            rw [show x.tup.proto = q.proto from congrArg Tup.proto HXQ.out, if_pos hp6] at this
            exact this
          cases h4 : (bits .and .i64 flags 4 != 0)
          · have hsf : seeF q.proto ⟨x.st, x.fin⟩ 0 flags = seeN ⟨x.st, x.fin⟩ 0 flags := by
              unfold seeF seeN
              rw [if_pos hp6, show hasF flags 4 = false from h4]
              rfl
            obtain ⟨sp, hsp⟩ : ∃ sp, sp = seeN ⟨x.st, x.fin⟩ 0 flags := ⟨_, rfl⟩
            have hnx : nxtV ⟨x.st, x.fin⟩ 0 flags = if sp.1 then (if sp.2.1 then (-1, 0) else (sp.2.2.st, sp.2.2.fin)) else (0, 0) := by rw [hsp]; rfl
            rw [← hsp] at hsf
            obtain ⟨may, ends, ph⟩ := sp
            have hlb := run_loadAt_row (P := Tryz.prog) (o := 0) (ty := 55) (cs := x.enc) hX2.heap Tryz.underlying55 rfl (by rw [Flw.enc_length]; kernel_rfl) (fun j u hu => by simpa using hu)
            have cn := gNext_any x.tup x.due ⟨x.st, x.fin⟩ 0 flags Wf hok (by decide)
            have hxe : (Flw.enc ⟨x.tup, (Ph.mk x.st x.fin).st, (Ph.mk x.st x.fin).fin, x.due⟩).toArray = x.enc.toArray := rfl
            rw [hxe] at cn
            obtain ⟨XE, hXE⟩ : ∃ XE, XE = x.enc.toArray := ⟨_, rfl⟩
            rw [← hXE] at cn hlb
            have HXE := Lib.hid hXE
            clear hXE hxe
            have HSF := Lib.hid hsf
            have HSPN := Lib.hid hsp
            clear hsf hsp
            cases may with
            | false =>
              rw [hnx] at cn
              simp only [Bool.false_eq_true, if_false] at cn
              clear hnx
              go_wp2_with (refine wpList_load_run (t := 55) rfl rfl rfl hlb ?_)
              refine cn.mono ?_
              rintro e w3 ⟨rfl, hb3⟩
              have hX2 := hX2.below_ hb3
              have hS4 := (Sat.gref_shut (n := n) (L := L) (v := .slice (some ⟨g, 0, none⟩) L.length c) hX2.drop)
              go_wp2_with fail
              go_ret
              rw [HR.out, HSF.out]
              exact ⟨rfl, hS4.pull2.drop⟩
            | true =>
              cases ends with
              | true =>
                rw [hnx] at cn
                simp only [if_true] at cn
                clear hnx
                go_wp2_with (refine wpList_load_run (t := 55) rfl rfl rfl hlb ?_)
                refine cn.mono ?_
                rintro e w3 ⟨rfl, hb3⟩
                have hX2 := hX2.below_ hb3
                have hS4 := (Sat.gref_shut (n := n) (L := L) (v := .slice (some ⟨g, 0, none⟩) L.length c) hX2.drop)
                have hlx := HLQ.out w3 hS4.pull2.heap
                have c4 := gRemove_any hS4 hl HN.out q
                rw [HSOME.out, hQE] at c4
                go_wp2_with (refine wpList_load_run (t := 37) rfl rfl rfl hlx ?_)
                refine c4.mono ?_
                rintro e w5 ⟨rfl, hS5⟩
                go_wp2_with fail
                go_ret
                rw [HR.out, HSF.out]
                exact ⟨rfl, hS5.pull2.drop⟩
              | false =>
                have hokp := OkT_see hok HSPN.out.symm
                obtain ⟨k1, k5, _⟩ := hokp
                rw [hnx] at cn
                simp only [if_true, Bool.false_eq_true, if_false] at cn
                obtain ⟨st, fin⟩ := ph
                simp only at k1 k5 cn
                have HSL : Hid (setL L q ⟨st, fin⟩ (aft now (lastsF q.proto st)) = L.set k (upF x ⟨st, fin⟩ (aft now (lastsF q.proto st)))) := Lib.hid (by rw [← HXQ.out]; exact setL_at HN.out HX.out _ _)
                clear hnx hok
                go_wp2_with (refine wpList_load_run (t := 55) rfl rfl rfl hlb ?_)
                refine cn.mono ?_
                rintro e w3 ⟨rfl, hb3⟩
                have hX3 := hX2.below_ hb3
                have e1 : (st == 0) = false := by rw [beq_eq_false_iff_ne]; omega
                have e2 : ¬ st < 0 := by omega
                obtain ⟨w4, hr4, hS4⟩ := hX3.flw_st st
                obtain ⟨w5, hr5, hS5⟩ := hS4.flw_fin fin
                clear hX2 hX3 hS4 hlb cn hb3 dpr dxs dxf
                go_wp2_with (refine wpList_store_run (t := 3) rfl rfl rfl rfl hr4 (stop_ ?_))
                unfold Stop
                go_wp2_with (refine wpList_store_run (t := 3) rfl rfl rfl rfl hr5 (stop_ ?_))
                unfold Stop
                have hbd := lastsF_bd 6 st
                have dpr : w5.cell? ⟨xb, 34, none⟩ = some (.int .i64 q.proto) := cell_heap (hS5.to (by ac_rfl : _ = blk xb (.cells QE 37) • blk bf (.cells (withPh (withPh x ⟨st, x.fin⟩) ⟨st, fin⟩).enc.toArray 55) • blk b (.cells #[.int .i64 n, .slice (some ⟨g, 0, none⟩) L.length c] 28) • arr 55 40 (.slice (some ⟨g, 0, none⟩) L.length c) L.length (L.flatMap Flw.enc) • F)).heap HPR.out
                have dst : w5.cell? ⟨bf, 37, none⟩ = some (.int .i64 st) := (flw_cells (f := withPh (withPh x ⟨st, x.fin⟩) ⟨st, fin⟩) hS5.heap).1
                rw [HPQ.out] at dpr
                go_wp2_with fail
                refine (gLasts_any 6 st _ (by omega)).mono ?_
                rintro e wx ⟨rfl, rfl⟩
                go_wp2_with fail
                refine (gAfter_any now (lastsF 6 st) _ hn0 hn1 hbd.1 hbd.2).mono ?_
                rintro e wx ⟨rfl, rfl⟩
                obtain ⟨u, hu⟩ : ∃ u, u = aft now (lastsF 6 st) := ⟨_, rfl⟩
                rw [← hu]
                have HU := Lib.hid hu
                clear hu hbd dpr dst
                obtain ⟨w6, hr6, hS6⟩ := one_store (o := 39) (ty := 30) (u := .int .u64 u) hS5 (by kernel_rfl) (by simp [Flw.enc_length]) rfl rfl
                rw [flw_set39] at hS6
                have d6 : w6.cell? ⟨b, 1, none⟩ = some (.slice (some ⟨g, 0, none⟩) L.length c) := cell_heap hS6.pull2.heap rfl
                go_wp2_with (refine wpList_store_run (t := 30) rfl rfl rfl rfl hr6 (stop_ ?_))
                unfold Stop
                obtain ⟨v7, w7, hr7, hS7⟩ := (arr_nil (e := 55) (sz := 40) hS6).append (m := L.length) (news := L.flatMap Flw.enc) (t := 26) (ty := 26) (P := Tryz.prog) (x := .slice (some ⟨g, 0, none⟩) L.length c) Tryz.underlying26 hz1 hz3 (by decide) hS6.pull3.arr_reads (flat_flw _) (flat_flw_one _) (by unfold maxLen; omega) (by omega)
                rw [Nat.zero_add, List.nil_append] at hS7
                obtain ⟨A7, c7, rfl⟩ := hS7.arr_form
                obtain ⟨w8, hr8, hS8⟩ := one_store (o := 1) (ty := 26) (u := .slice A7 L.length c7) hS7.pull3 (by kernel_rfl) (by simp) rfl rfl
                have hS9 := (hS8.to (by ac_rfl : _ = arr 55 40 (.slice A7 L.length c7) L.length (L.flatMap Flw.enc) • blk bf (.cells (atDue (withPh (withPh x ⟨st, x.fin⟩) ⟨st, fin⟩) u).enc.toArray 55) • blk b (.cells (#[Value.int .i64 n, .slice (some ⟨g, 0, none⟩) L.length c].setIfInBounds 1 (.slice A7 L.length c7)) 28) • arr 55 40 (.slice (some ⟨g, 0, none⟩) L.length c) L.length (L.flatMap Flw.enc) • blk xb (.cells QE 37) • F)).drew
                obtain ⟨g9, c9, w9, hv9, hr9, hS10⟩ := hS9.arr_put (P := Tryz.prog) (ty := 55) Flw.enc_length Flw.enc_one (by kernel_rfl) (by decide) hkl (atDue (withPh (withPh x ⟨st, x.fin⟩) ⟨st, fin⟩) u)
                simp only [Value.slice.injEq] at hv9
                obtain ⟨rfl, _, rfl⟩ := hv9
                have hend : Sat B w0 w9 (gref b n (L.set k (atDue (withPh (withPh x ⟨st, x.fin⟩) ⟨st, fin⟩) u)) • F) := by
                  refine Sat.gref_shut (v := .slice (some ⟨g9, 0, none⟩) L.length c7) ?_
                  exact (hS10.to (by ac_rfl : _ = blk bf (.cells (atDue (withPh (withPh x ⟨st, x.fin⟩) ⟨st, fin⟩) u).enc.toArray 55) • arr 55 40 (.slice (some ⟨g, 0, none⟩) L.length c) L.length (L.flatMap Flw.enc) • blk xb (.cells QE 37) • blk b (.cells (#[Value.int .i64 n, .slice (some ⟨g, 0, none⟩) L.length c].setIfInBounds 1 (.slice (some ⟨g9, 0, none⟩) L.length c7)) 28) • arr 55 40 (.slice (some ⟨g9, 0, none⟩) L.length c7) (L.set k (atDue (withPh (withPh x ⟨st, x.fin⟩) ⟨st, fin⟩) u)).length ((L.set k (atDue (withPh (withPh x ⟨st, x.fin⟩) ⟨st, fin⟩) u)).flatMap Flw.enc) • F)).drop.drop.drop
                have HEND := Lib.hid hend
                have hbfl : ∀ W, W.heap[bf]? = some (.cells (atDue (withPh (withPh x ⟨st, x.fin⟩) ⟨st, fin⟩) u).enc.toArray 55) → (Instr.loadAt 55 (.pointer (some ⟨bf, 0, none⟩))).run Tryz.prog W = .ok (.agg (atDue (withPh (withPh x ⟨st, x.fin⟩) ⟨st, fin⟩) u).enc.toArray) W :=
                  fun W h => run_loadAt_row h Tryz.underlying55 rfl (by rw [Flw.enc_length]; kernel_rfl) (fun j u hu => by simpa using hu)
                have HBL := Lib.hid hbfl
                have hC20 : w8.drew.cell? ⟨b, 1, none⟩ = some (.slice (some ⟨g9, 0, none⟩) L.length c7) ∧ w8.drew.heap[bf]? = some (.cells (atDue (withPh (withPh x ⟨st, x.fin⟩) ⟨st, fin⟩) u).enc.toArray 55) := ⟨cell_heap hS9.pull3.heap rfl, hS9.pull2.heap⟩
                clear hend hbfl hS6 hS7 hS8 hS9 hS10
                generalize (atDue (withPh (withPh x ⟨st, x.fin⟩) ⟨st, fin⟩) u).enc.toArray = FU at *
                go_wp2_with (at_builtin; refine wpList_append_run rfl _ _ _ rfl rfl rfl hr7 (stop_ ?_))
                unfold Stop
                go_wp2_with (refine wpList_store_run (t := 26) rfl rfl rfl rfl hr8 (stop_ ?_))
                unfold Stop
                go_wp2_with fail
                try go_frame
                refine wp_region_ord [(0, .pure), (1, .pure), (2, .pure), (3, .quiet), (4, .pure), (5, .quiet), (6, .pure), (7, .seals)] (by kernel_rfl) (by kernel_rfl)
                  (fun w' => w'.cell? ⟨b, 1, none⟩ = some (.slice (some ⟨g9, 0, none⟩) L.length c7) ∧ w'.heap[bf]? = some (.cells FU 55)) hC20 ?_
                iterate 3 (refine ord_pure rfl rfl rfl (fun K' hK => ?_); go_big_quiet_op; refine hK _ ?_; clear hK K')
                refine ord_load (t := 26) rfl rfl rfl (p := .pointer (some ⟨b, 1, none⟩)) (v := .slice (some ⟨g9, 0, none⟩) L.length c7) rfl (fun w' hC => load_one Tryz.underlying26 rfl hC.1) (fun K' hK => ?_)
                go_simp
                refine hK _ ?_
                clear hK K'
                iterate 1 (refine ord_pure rfl rfl rfl (fun K' hK => ?_); go_big_quiet_op; refine hK _ ?_; clear hK K')
                refine ord_load (t := 55) rfl rfl rfl (p := .pointer (some ⟨bf, 0, none⟩)) (v := .agg FU) rfl (fun w' hC => HBL.out _ hC.2) (fun K' hK => ?_)
                go_simp
                refine hK _ ?_
                clear hK K'
                iterate 1 (refine ord_pure rfl rfl rfl (fun K' hK => ?_); go_big_quiet_op; refine hK _ ?_; clear hK K')
                refine ord_store rfl rfl rfl rfl (p := .pointer (some ⟨g9, k * 40, none⟩)) (v := .agg FU) rfl rfl hr9 (fun _ => True) trivial ?_
                go_simp
                refine ord_nil ?_
                go_wp2_with fail
                go_ret
                rw [HR.out, HSF.out]
                simp only [if_true, Bool.false_eq_true, if_false]
                rw [HSL.out, HPQ.out, ← HU.out]
                exact ⟨rfl, HEND.out⟩
          · have hsf : seeF q.proto ⟨x.st, x.fin⟩ 0 flags = (true, true, ⟨x.st, x.fin⟩) := by
              unfold seeF
              rw [if_pos hp6, show hasF flags 4 = true from h4, if_pos rfl, if_pos (.inr (.inl rfl))]
            have HSF := Lib.hid hsf
            by_cases h1s : x.st = 1
            · rw [h1s] at dxs
              have hS4 := (Sat.gref_shut (n := n) (L := L) (v := .slice (some ⟨g, 0, none⟩) L.length c) hX2.drop)
              have hlx := HLQ.out Wf hS4.pull2.heap
              have c4 := gRemove_any hS4 hl HN.out q
              rw [HSOME.out, hQE] at c4
              go_wp2_with (refine wpList_load_run (t := 37) rfl rfl rfl hlx ?_)
              refine c4.mono ?_
              rintro e w5 ⟨rfl, hS5⟩
              go_wp2_with fail
              go_ret
              rw [HR.out, HSF.out]
              exact ⟨rfl, hS5.pull2.drop⟩
            · have h1b : (x.st == 1) = false := by simpa using h1s
              have hS4 := (Sat.gref_shut (n := n) (L := L) (v := .slice (some ⟨g, 0, none⟩) L.length c) hX2.drop)
              have hlx := HLQ.out Wf hS4.pull2.heap
              have c4 := gRemove_any hS4 hl HN.out q
              rw [HSOME.out, hQE] at c4
              go_wp2_with (refine wpList_load_run (t := 37) rfl rfl rfl hlx ?_)
              refine c4.mono ?_
              rintro e w5 ⟨rfl, hS5⟩
              go_wp2_with fail
              go_ret
              rw [HR.out, HSF.out]
              exact ⟨rfl, hS5.pull2.drop⟩
        · have HPQ : Hid (q.proto = q.proto) := Lib.hid rfl
          have h6b : (q.proto == 6) = false := by simpa using hp6
          have hst67 : x.st = 6 ∨ x.st = 7 := by
            have := HOX.out
            unfold OkF at this
            rw [show x.tup.proto = q.proto from congrArg Tup.proto HXQ.out, if_neg hp6] at this
            exact this
          have HSF : Hid (seeF q.proto ⟨x.st, x.fin⟩ 0 flags = (true, false, ⟨x.st, x.fin⟩)) := Lib.hid (by unfold seeF; rw [if_neg hp6]; rfl)
          have HSL : Hid (setL L q ⟨x.st, x.fin⟩ (aft now (lastsF q.proto x.st)) = L.set k (upF x ⟨x.st, x.fin⟩ (aft now (lastsF q.proto x.st)))) := Lib.hid (by rw [← HXQ.out]; exact setL_at HN.out HX.out _ _)
          go_wp2_with fail
          have hbd := lastsF_bd q.proto x.st
          have dpr : Wf.cell? ⟨xb, 34, none⟩ = some (.int .i64 q.proto) := cell_heap (hX2.to (by ac_rfl : _ = blk xb (.cells QE 37) • blk bf (.cells (x).enc.toArray 55) • blk b (.cells #[.int .i64 n, .slice (some ⟨g, 0, none⟩) L.length c] 28) • arr 55 40 (.slice (some ⟨g, 0, none⟩) L.length c) L.length (L.flatMap Flw.enc) • F)).heap HPR.out
          have dst : Wf.cell? ⟨bf, 37, none⟩ = some (.int .i64 x.st) := (flw_cells (f := x) hX2.heap).1
          go_wp2_with fail
          refine (gLasts_any q.proto x.st _ (by omega)).mono ?_
          rintro e wx ⟨rfl, rfl⟩
          go_wp2_with fail
          refine (gAfter_any now (lastsF q.proto x.st) _ hn0 hn1 hbd.1 hbd.2).mono ?_
          rintro e wx ⟨rfl, rfl⟩
          obtain ⟨u, hu⟩ : ∃ u, u = aft now (lastsF q.proto x.st) := ⟨_, rfl⟩
          rw [← hu]
          have HU := Lib.hid hu
          clear hu hbd dpr dst
          obtain ⟨w6, hr6, hS6⟩ := one_store (o := 39) (ty := 30) (u := .int .u64 u) hX2 (by kernel_rfl) (by simp [Flw.enc_length]) rfl rfl
          rw [flw_set39] at hS6
          have d6 : w6.cell? ⟨b, 1, none⟩ = some (.slice (some ⟨g, 0, none⟩) L.length c) := cell_heap hS6.pull2.heap rfl
          go_wp2_with (refine wpList_store_run (t := 30) rfl rfl rfl rfl hr6 (stop_ ?_))
          unfold Stop
          obtain ⟨v7, w7, hr7, hS7⟩ := (arr_nil (e := 55) (sz := 40) hS6).append (m := L.length) (news := L.flatMap Flw.enc) (t := 26) (ty := 26) (P := Tryz.prog) (x := .slice (some ⟨g, 0, none⟩) L.length c) Tryz.underlying26 hz1 hz3 (by decide) hS6.pull3.arr_reads (flat_flw _) (flat_flw_one _) (by unfold maxLen; omega) (by omega)
          rw [Nat.zero_add, List.nil_append] at hS7
          obtain ⟨A7, c7, rfl⟩ := hS7.arr_form
          obtain ⟨w8, hr8, hS8⟩ := one_store (o := 1) (ty := 26) (u := .slice A7 L.length c7) hS7.pull3 (by kernel_rfl) (by simp) rfl rfl
          have hS9 := (hS8.to (by ac_rfl : _ = arr 55 40 (.slice A7 L.length c7) L.length (L.flatMap Flw.enc) • blk bf (.cells (atDue (x) u).enc.toArray 55) • blk b (.cells (#[Value.int .i64 n, .slice (some ⟨g, 0, none⟩) L.length c].setIfInBounds 1 (.slice A7 L.length c7)) 28) • arr 55 40 (.slice (some ⟨g, 0, none⟩) L.length c) L.length (L.flatMap Flw.enc) • blk xb (.cells QE 37) • F)).drew
          obtain ⟨g9, c9, w9, hv9, hr9, hS10⟩ := hS9.arr_put (P := Tryz.prog) (ty := 55) Flw.enc_length Flw.enc_one (by kernel_rfl) (by decide) hkl (atDue (x) u)
          simp only [Value.slice.injEq] at hv9
          obtain ⟨rfl, _, rfl⟩ := hv9
          have hend : Sat B w0 w9 (gref b n (L.set k (atDue (x) u)) • F) := by
            refine Sat.gref_shut (v := .slice (some ⟨g9, 0, none⟩) L.length c7) ?_
            exact (hS10.to (by ac_rfl : _ = blk bf (.cells (atDue (x) u).enc.toArray 55) • arr 55 40 (.slice (some ⟨g, 0, none⟩) L.length c) L.length (L.flatMap Flw.enc) • blk xb (.cells QE 37) • blk b (.cells (#[Value.int .i64 n, .slice (some ⟨g, 0, none⟩) L.length c].setIfInBounds 1 (.slice (some ⟨g9, 0, none⟩) L.length c7)) 28) • arr 55 40 (.slice (some ⟨g9, 0, none⟩) L.length c7) (L.set k (atDue (x) u)).length ((L.set k (atDue (x) u)).flatMap Flw.enc) • F)).drop.drop.drop
          have HEND := Lib.hid hend
          have hbfl : ∀ W, W.heap[bf]? = some (.cells (atDue (x) u).enc.toArray 55) → (Instr.loadAt 55 (.pointer (some ⟨bf, 0, none⟩))).run Tryz.prog W = .ok (.agg (atDue (x) u).enc.toArray) W :=
            fun W h => run_loadAt_row h Tryz.underlying55 rfl (by rw [Flw.enc_length]; kernel_rfl) (fun j u hu => by simpa using hu)
          have HBL := Lib.hid hbfl
          have hC20 : w8.drew.cell? ⟨b, 1, none⟩ = some (.slice (some ⟨g9, 0, none⟩) L.length c7) ∧ w8.drew.heap[bf]? = some (.cells (atDue (x) u).enc.toArray 55) := ⟨cell_heap hS9.pull3.heap rfl, hS9.pull2.heap⟩
          clear hend hbfl hS6 hS7 hS8 hS9 hS10
          generalize (atDue (x) u).enc.toArray = FU at *
          go_wp2_with (at_builtin; refine wpList_append_run rfl _ _ _ rfl rfl rfl hr7 (stop_ ?_))
          unfold Stop
          go_wp2_with (refine wpList_store_run (t := 26) rfl rfl rfl rfl hr8 (stop_ ?_))
          unfold Stop
          go_wp2_with fail
          try go_frame
          refine wp_region_ord [(0, .pure), (1, .pure), (2, .pure), (3, .quiet), (4, .pure), (5, .quiet), (6, .pure), (7, .seals)] (by kernel_rfl) (by kernel_rfl)
            (fun w' => w'.cell? ⟨b, 1, none⟩ = some (.slice (some ⟨g9, 0, none⟩) L.length c7) ∧ w'.heap[bf]? = some (.cells FU 55)) hC20 ?_
          iterate 3 (refine ord_pure rfl rfl rfl (fun K' hK => ?_); go_big_quiet_op; refine hK _ ?_; clear hK K')
          refine ord_load (t := 26) rfl rfl rfl (p := .pointer (some ⟨b, 1, none⟩)) (v := .slice (some ⟨g9, 0, none⟩) L.length c7) rfl (fun w' hC => load_one Tryz.underlying26 rfl hC.1) (fun K' hK => ?_)
          go_simp
          refine hK _ ?_
          clear hK K'
          iterate 1 (refine ord_pure rfl rfl rfl (fun K' hK => ?_); go_big_quiet_op; refine hK _ ?_; clear hK K')
          refine ord_load (t := 55) rfl rfl rfl (p := .pointer (some ⟨bf, 0, none⟩)) (v := .agg FU) rfl (fun w' hC => HBL.out _ hC.2) (fun K' hK => ?_)
          go_simp
          refine hK _ ?_
          clear hK K'
          iterate 1 (refine ord_pure rfl rfl rfl (fun K' hK => ?_); go_big_quiet_op; refine hK _ ?_; clear hK K')
          refine ord_store rfl rfl rfl rfl (p := .pointer (some ⟨g9, k * 40, none⟩)) (v := .agg FU) rfl rfl hr9 (fun _ => True) trivial ?_
          go_simp
          refine ord_nil ?_
          go_wp2_with fail
          go_ret
          rw [HR.out, HSF.out]
          simp only [if_true, Bool.false_eq_true, if_false]
          rw [HSL.out, ← HU.out]
          exact ⟨rfl, HEND.out⟩
      · skip
        go_enter Tryz.func11, Tryz.ntmps11
        go_wp2_with (refine wpList_load_run (t := 37) rfl rfl rfl hl1 ?_)
        try rw [hxb]
        refine c1.mono ?_
        rintro e w1 ⟨rfl, hS1⟩
        obtain ⟨A, c, hT⟩ := hS1.gref_open
        obtain ⟨g, rfl, _, _⟩ := hT.pull2.arr_at Flw.enc_length rfl HX.out
        have d1 : w1.cell? ⟨b, 1, none⟩ = some (.slice (some ⟨g, 0, none⟩) L.length c) := cell_heap hT.heap rfl
        have hlf := (row_flw HX.out hT.pull2).2.1
        have hX2 := hT.alloc (.cells x.enc.toArray 55)
        generalize hbf : w1.heap.size = bf at *
        generalize hWf : w1.alloc (.cells x.enc.toArray 55) = Wf at *
        have HBF := Lib.hid hbf
        have HWF := Lib.hid hWf
        have dpr : Wf.cell? ⟨xb, 34, none⟩ = some (.int .i64 q.proto) := cell_heap (hX2.to (by ac_rfl : _ = blk xb (.cells QE 37) • blk bf (.cells x.enc.toArray 55) • blk b (.cells #[.int .i64 n, .slice (some ⟨g, 0, none⟩) L.length c] 28) • arr 55 40 (.slice (some ⟨g, 0, none⟩) L.length c) L.length (L.flatMap Flw.enc) • F)).heap HPR.out
        obtain ⟨dxs, dxf, _⟩ := flw_cells hX2.heap
        clear c1 hS1 hT hl1 hWf hbf
        go_wp2_with (first | (refine wpList_load_run (t := 55) rfl rfl rfl hlf ?_) | (refine wpList_store_run (t := 55) rfl rfl rfl rfl (hst _ _ rfl) (stop_ ?_)))
        unfold Stop
        try rw [HWF.out]
        try rw [HBF.out]
        clear hlf hst HBF HWF d1
        by_cases hp6 : q.proto = 6
        · have HPQ := Lib.hid hp6
          rw [hp6] at dpr
          have hok : OkT ⟨x.st, x.fin⟩ := by
            have := HOX.out
            unfold OkF at this
            rw [show x.tup.proto = q.proto from congrArg Tup.proto HXQ.out, if_pos hp6] at this
            exact this
          cases h4 : (bits .and .i64 flags 4 != 0)
          · have hsf : seeF q.proto ⟨x.st, x.fin⟩ 1 flags = seeN ⟨x.st, x.fin⟩ 1 flags := by
              unfold seeF seeN
              rw [if_pos hp6, show hasF flags 4 = false from h4]
              rfl
            obtain ⟨sp, hsp⟩ : ∃ sp, sp = seeN ⟨x.st, x.fin⟩ 1 flags := ⟨_, rfl⟩
            have hnx : nxtV ⟨x.st, x.fin⟩ 1 flags = if sp.1 then (if sp.2.1 then (-1, 0) else (sp.2.2.st, sp.2.2.fin)) else (0, 0) := by rw [hsp]; rfl
            rw [← hsp] at hsf
            obtain ⟨may, ends, ph⟩ := sp
            have hlb := run_loadAt_row (P := Tryz.prog) (o := 0) (ty := 55) (cs := x.enc) hX2.heap Tryz.underlying55 rfl (by rw [Flw.enc_length]; kernel_rfl) (fun j u hu => by simpa using hu)
            have cn := gNext_any x.tup x.due ⟨x.st, x.fin⟩ 1 flags Wf hok (by decide)
            have hxe : (Flw.enc ⟨x.tup, (Ph.mk x.st x.fin).st, (Ph.mk x.st x.fin).fin, x.due⟩).toArray = x.enc.toArray := rfl
            rw [hxe] at cn
            obtain ⟨XE, hXE⟩ : ∃ XE, XE = x.enc.toArray := ⟨_, rfl⟩
            rw [← hXE] at cn hlb
            have HXE := Lib.hid hXE
            clear hXE hxe
            have HSF := Lib.hid hsf
            have HSPN := Lib.hid hsp
            clear hsf hsp
            cases may with
            | false =>
              rw [hnx] at cn
              simp only [Bool.false_eq_true, if_false] at cn
              clear hnx
              go_wp2_with (refine wpList_load_run (t := 55) rfl rfl rfl hlb ?_)
              refine cn.mono ?_
              rintro e w3 ⟨rfl, hb3⟩
              have hX2 := hX2.below_ hb3
              have hS4 := (Sat.gref_shut (n := n) (L := L) (v := .slice (some ⟨g, 0, none⟩) L.length c) hX2.drop)
              go_wp2_with fail
              go_ret
              rw [HR.out, HSF.out]
              exact ⟨rfl, hS4.pull2.drop⟩
            | true =>
              cases ends with
              | true =>
                rw [hnx] at cn
                simp only [if_true] at cn
                clear hnx
                go_wp2_with (refine wpList_load_run (t := 55) rfl rfl rfl hlb ?_)
                refine cn.mono ?_
                rintro e w3 ⟨rfl, hb3⟩
                have hX2 := hX2.below_ hb3
                have hS4 := (Sat.gref_shut (n := n) (L := L) (v := .slice (some ⟨g, 0, none⟩) L.length c) hX2.drop)
                have hlx := HLQ.out w3 hS4.pull2.heap
                have c4 := gRemove_any hS4 hl HN.out q
                rw [HSOME.out, hQE] at c4
                go_wp2_with (refine wpList_load_run (t := 37) rfl rfl rfl hlx ?_)
                refine c4.mono ?_
                rintro e w5 ⟨rfl, hS5⟩
                go_wp2_with fail
                go_ret
                rw [HR.out, HSF.out]
                exact ⟨rfl, hS5.pull2.drop⟩
              | false =>
                have hokp := OkT_see hok HSPN.out.symm
                obtain ⟨k1, k5, _⟩ := hokp
                rw [hnx] at cn
                simp only [if_true, Bool.false_eq_true, if_false] at cn
                obtain ⟨st, fin⟩ := ph
                simp only at k1 k5 cn
                have HSL : Hid (setL L q ⟨st, fin⟩ (aft now (lastsF q.proto st)) = L.set k (upF x ⟨st, fin⟩ (aft now (lastsF q.proto st)))) := Lib.hid (by rw [← HXQ.out]; exact setL_at HN.out HX.out _ _)
                clear hnx hok
                go_wp2_with (refine wpList_load_run (t := 55) rfl rfl rfl hlb ?_)
                refine cn.mono ?_
                rintro e w3 ⟨rfl, hb3⟩
                have hX3 := hX2.below_ hb3
                have e1 : (st == 0) = false := by rw [beq_eq_false_iff_ne]; omega
                have e2 : ¬ st < 0 := by omega
                obtain ⟨w4, hr4, hS4⟩ := hX3.flw_st st
                obtain ⟨w5, hr5, hS5⟩ := hS4.flw_fin fin
                clear hX2 hX3 hS4 hlb cn hb3 dpr dxs dxf
                go_wp2_with (refine wpList_store_run (t := 3) rfl rfl rfl rfl hr4 (stop_ ?_))
                unfold Stop
                go_wp2_with (refine wpList_store_run (t := 3) rfl rfl rfl rfl hr5 (stop_ ?_))
                unfold Stop
                have hbd := lastsF_bd 6 st
                have dpr : w5.cell? ⟨xb, 34, none⟩ = some (.int .i64 q.proto) := cell_heap (hS5.to (by ac_rfl : _ = blk xb (.cells QE 37) • blk bf (.cells (withPh (withPh x ⟨st, x.fin⟩) ⟨st, fin⟩).enc.toArray 55) • blk b (.cells #[.int .i64 n, .slice (some ⟨g, 0, none⟩) L.length c] 28) • arr 55 40 (.slice (some ⟨g, 0, none⟩) L.length c) L.length (L.flatMap Flw.enc) • F)).heap HPR.out
                have dst : w5.cell? ⟨bf, 37, none⟩ = some (.int .i64 st) := (flw_cells (f := withPh (withPh x ⟨st, x.fin⟩) ⟨st, fin⟩) hS5.heap).1
                rw [HPQ.out] at dpr
                go_wp2_with fail
                refine (gLasts_any 6 st _ (by omega)).mono ?_
                rintro e wx ⟨rfl, rfl⟩
                go_wp2_with fail
                refine (gAfter_any now (lastsF 6 st) _ hn0 hn1 hbd.1 hbd.2).mono ?_
                rintro e wx ⟨rfl, rfl⟩
                obtain ⟨u, hu⟩ : ∃ u, u = aft now (lastsF 6 st) := ⟨_, rfl⟩
                rw [← hu]
                have HU := Lib.hid hu
                clear hu hbd dpr dst
                obtain ⟨w6, hr6, hS6⟩ := one_store (o := 39) (ty := 30) (u := .int .u64 u) hS5 (by kernel_rfl) (by simp [Flw.enc_length]) rfl rfl
                rw [flw_set39] at hS6
                have d6 : w6.cell? ⟨b, 1, none⟩ = some (.slice (some ⟨g, 0, none⟩) L.length c) := cell_heap hS6.pull2.heap rfl
                go_wp2_with (refine wpList_store_run (t := 30) rfl rfl rfl rfl hr6 (stop_ ?_))
                unfold Stop
                obtain ⟨v7, w7, hr7, hS7⟩ := (arr_nil (e := 55) (sz := 40) hS6).append (m := L.length) (news := L.flatMap Flw.enc) (t := 26) (ty := 26) (P := Tryz.prog) (x := .slice (some ⟨g, 0, none⟩) L.length c) Tryz.underlying26 hz1 hz3 (by decide) hS6.pull3.arr_reads (flat_flw _) (flat_flw_one _) (by unfold maxLen; omega) (by omega)
                rw [Nat.zero_add, List.nil_append] at hS7
                obtain ⟨A7, c7, rfl⟩ := hS7.arr_form
                obtain ⟨w8, hr8, hS8⟩ := one_store (o := 1) (ty := 26) (u := .slice A7 L.length c7) hS7.pull3 (by kernel_rfl) (by simp) rfl rfl
                have hS9 := (hS8.to (by ac_rfl : _ = arr 55 40 (.slice A7 L.length c7) L.length (L.flatMap Flw.enc) • blk bf (.cells (atDue (withPh (withPh x ⟨st, x.fin⟩) ⟨st, fin⟩) u).enc.toArray 55) • blk b (.cells (#[Value.int .i64 n, .slice (some ⟨g, 0, none⟩) L.length c].setIfInBounds 1 (.slice A7 L.length c7)) 28) • arr 55 40 (.slice (some ⟨g, 0, none⟩) L.length c) L.length (L.flatMap Flw.enc) • blk xb (.cells QE 37) • F)).drew
                obtain ⟨g9, c9, w9, hv9, hr9, hS10⟩ := hS9.arr_put (P := Tryz.prog) (ty := 55) Flw.enc_length Flw.enc_one (by kernel_rfl) (by decide) hkl (atDue (withPh (withPh x ⟨st, x.fin⟩) ⟨st, fin⟩) u)
                simp only [Value.slice.injEq] at hv9
                obtain ⟨rfl, _, rfl⟩ := hv9
                have hend : Sat B w0 w9 (gref b n (L.set k (atDue (withPh (withPh x ⟨st, x.fin⟩) ⟨st, fin⟩) u)) • F) := by
                  refine Sat.gref_shut (v := .slice (some ⟨g9, 0, none⟩) L.length c7) ?_
                  exact (hS10.to (by ac_rfl : _ = blk bf (.cells (atDue (withPh (withPh x ⟨st, x.fin⟩) ⟨st, fin⟩) u).enc.toArray 55) • arr 55 40 (.slice (some ⟨g, 0, none⟩) L.length c) L.length (L.flatMap Flw.enc) • blk xb (.cells QE 37) • blk b (.cells (#[Value.int .i64 n, .slice (some ⟨g, 0, none⟩) L.length c].setIfInBounds 1 (.slice (some ⟨g9, 0, none⟩) L.length c7)) 28) • arr 55 40 (.slice (some ⟨g9, 0, none⟩) L.length c7) (L.set k (atDue (withPh (withPh x ⟨st, x.fin⟩) ⟨st, fin⟩) u)).length ((L.set k (atDue (withPh (withPh x ⟨st, x.fin⟩) ⟨st, fin⟩) u)).flatMap Flw.enc) • F)).drop.drop.drop
                have HEND := Lib.hid hend
                have hbfl : ∀ W, W.heap[bf]? = some (.cells (atDue (withPh (withPh x ⟨st, x.fin⟩) ⟨st, fin⟩) u).enc.toArray 55) → (Instr.loadAt 55 (.pointer (some ⟨bf, 0, none⟩))).run Tryz.prog W = .ok (.agg (atDue (withPh (withPh x ⟨st, x.fin⟩) ⟨st, fin⟩) u).enc.toArray) W :=
                  fun W h => run_loadAt_row h Tryz.underlying55 rfl (by rw [Flw.enc_length]; kernel_rfl) (fun j u hu => by simpa using hu)
                have HBL := Lib.hid hbfl
                have hC20 : w8.drew.cell? ⟨b, 1, none⟩ = some (.slice (some ⟨g9, 0, none⟩) L.length c7) ∧ w8.drew.heap[bf]? = some (.cells (atDue (withPh (withPh x ⟨st, x.fin⟩) ⟨st, fin⟩) u).enc.toArray 55) := ⟨cell_heap hS9.pull3.heap rfl, hS9.pull2.heap⟩
                clear hend hbfl hS6 hS7 hS8 hS9 hS10
                generalize (atDue (withPh (withPh x ⟨st, x.fin⟩) ⟨st, fin⟩) u).enc.toArray = FU at *
                go_wp2_with (at_builtin; refine wpList_append_run rfl _ _ _ rfl rfl rfl hr7 (stop_ ?_))
                unfold Stop
                go_wp2_with (refine wpList_store_run (t := 26) rfl rfl rfl rfl hr8 (stop_ ?_))
                unfold Stop
                go_wp2_with fail
                try go_frame
                refine wp_region_ord [(0, .pure), (1, .pure), (2, .pure), (3, .quiet), (4, .pure), (5, .quiet), (6, .pure), (7, .seals)] (by kernel_rfl) (by kernel_rfl)
                  (fun w' => w'.cell? ⟨b, 1, none⟩ = some (.slice (some ⟨g9, 0, none⟩) L.length c7) ∧ w'.heap[bf]? = some (.cells FU 55)) hC20 ?_
                iterate 3 (refine ord_pure rfl rfl rfl (fun K' hK => ?_); go_big_quiet_op; refine hK _ ?_; clear hK K')
                refine ord_load (t := 26) rfl rfl rfl (p := .pointer (some ⟨b, 1, none⟩)) (v := .slice (some ⟨g9, 0, none⟩) L.length c7) rfl (fun w' hC => load_one Tryz.underlying26 rfl hC.1) (fun K' hK => ?_)
                go_simp
                refine hK _ ?_
                clear hK K'
                iterate 1 (refine ord_pure rfl rfl rfl (fun K' hK => ?_); go_big_quiet_op; refine hK _ ?_; clear hK K')
                refine ord_load (t := 55) rfl rfl rfl (p := .pointer (some ⟨bf, 0, none⟩)) (v := .agg FU) rfl (fun w' hC => HBL.out _ hC.2) (fun K' hK => ?_)
                go_simp
                refine hK _ ?_
                clear hK K'
                iterate 1 (refine ord_pure rfl rfl rfl (fun K' hK => ?_); go_big_quiet_op; refine hK _ ?_; clear hK K')
                refine ord_store rfl rfl rfl rfl (p := .pointer (some ⟨g9, k * 40, none⟩)) (v := .agg FU) rfl rfl hr9 (fun _ => True) trivial ?_
                go_simp
                refine ord_nil ?_
                go_wp2_with fail
                go_ret
                rw [HR.out, HSF.out]
                simp only [if_true, Bool.false_eq_true, if_false]
                rw [HSL.out, HPQ.out, ← HU.out]
                exact ⟨rfl, HEND.out⟩
          · by_cases h1s : x.st = 1
            · rw [h1s] at dxs
              cases h16 : (bits .and .i64 flags 16 == 0)
              · have hsf : seeF q.proto ⟨x.st, x.fin⟩ 1 flags = (true, true, ⟨x.st, x.fin⟩) := by
                  unfold seeF
                  rw [if_pos hp6, show hasF flags 4 = true from h4, if_pos rfl, if_pos (.inr (.inr (show hasF flags 16 = true by unfold hasF; rw [bne, h16]; rfl)))]
                have HSF := Lib.hid hsf
                clear hsf
                have hS4 := (Sat.gref_shut (n := n) (L := L) (v := .slice (some ⟨g, 0, none⟩) L.length c) hX2.drop)
                have hlx := HLQ.out Wf hS4.pull2.heap
                have c4 := gRemove_any hS4 hl HN.out q
                rw [HSOME.out, hQE] at c4
                go_wp2_with (refine wpList_load_run (t := 37) rfl rfl rfl hlx ?_)
                refine c4.mono ?_
                rintro e w5 ⟨rfl, hS5⟩
                go_wp2_with fail
                go_ret
                rw [HR.out, HSF.out]
                exact ⟨rfl, hS5.pull2.drop⟩
              · have hsf : seeF q.proto ⟨x.st, x.fin⟩ 1 flags = (false, false, ⟨x.st, x.fin⟩) := by
                  unfold seeF
                  rw [if_pos hp6, show hasF flags 4 = true from h4, if_pos rfl, if_neg]
                  rintro (h | h | h)
                  · exact h h1s
                  · exact absurd h (by decide)
                  · unfold hasF at h; rw [bne, h16] at h; cases h
                have HSF := Lib.hid hsf
                clear hsf
                have hS4 := (Sat.gref_shut (n := n) (L := L) (v := .slice (some ⟨g, 0, none⟩) L.length c) hX2.drop)
                go_wp2_with fail
                go_ret
                rw [HR.out, HSF.out]
                exact ⟨rfl, hS4.pull2.drop⟩
            · have h1b : (x.st == 1) = false := by simpa using h1s
              have hsf : seeF q.proto ⟨x.st, x.fin⟩ 1 flags = (true, true, ⟨x.st, x.fin⟩) := by
                unfold seeF
                rw [if_pos hp6, show hasF flags 4 = true from h4, if_pos rfl, if_pos (.inl h1s)]
              have HSF := Lib.hid hsf
              clear hsf
              have hS4 := (Sat.gref_shut (n := n) (L := L) (v := .slice (some ⟨g, 0, none⟩) L.length c) hX2.drop)
              have hlx := HLQ.out Wf hS4.pull2.heap
              have c4 := gRemove_any hS4 hl HN.out q
              rw [HSOME.out, hQE] at c4
              go_wp2_with (refine wpList_load_run (t := 37) rfl rfl rfl hlx ?_)
              refine c4.mono ?_
              rintro e w5 ⟨rfl, hS5⟩
              go_wp2_with fail
              go_ret
              rw [HR.out, HSF.out]
              exact ⟨rfl, hS5.pull2.drop⟩
        · have HPQ : Hid (q.proto = q.proto) := Lib.hid rfl
          have h6b : (q.proto == 6) = false := by simpa using hp6
          have hst67 : x.st = 6 ∨ x.st = 7 := by
            have := HOX.out
            unfold OkF at this
            rw [show x.tup.proto = q.proto from congrArg Tup.proto HXQ.out, if_neg hp6] at this
            exact this
          have HSF : Hid (seeF q.proto ⟨x.st, x.fin⟩ 1 flags = (true, false, ⟨7, x.fin⟩)) := Lib.hid (by unfold seeF; rw [if_neg hp6]; rfl)
          have HSL : Hid (setL L q ⟨7, x.fin⟩ (aft now (lastsF q.proto 7)) = L.set k (upF x ⟨7, x.fin⟩ (aft now (lastsF q.proto 7)))) := Lib.hid (by rw [← HXQ.out]; exact setL_at HN.out HX.out _ _)
          obtain ⟨w5, hr5, hS5⟩ := hX2.flw_st 7
          clear hX2 dxs dxf
          go_wp2_with (refine wpList_store_run (t := 3) rfl rfl rfl rfl hr5 (stop_ ?_))
          unfold Stop
          have hbd := lastsF_bd q.proto 7
          have dpr : w5.cell? ⟨xb, 34, none⟩ = some (.int .i64 q.proto) := cell_heap (hS5.to (by ac_rfl : _ = blk xb (.cells QE 37) • blk bf (.cells (withPh x ⟨7, x.fin⟩).enc.toArray 55) • blk b (.cells #[.int .i64 n, .slice (some ⟨g, 0, none⟩) L.length c] 28) • arr 55 40 (.slice (some ⟨g, 0, none⟩) L.length c) L.length (L.flatMap Flw.enc) • F)).heap HPR.out
          have dst : w5.cell? ⟨bf, 37, none⟩ = some (.int .i64 7) := (flw_cells (f := withPh x ⟨7, x.fin⟩) hS5.heap).1
          go_wp2_with fail
          refine (gLasts_any q.proto 7 _ (by omega)).mono ?_
          rintro e wx ⟨rfl, rfl⟩
          go_wp2_with fail
          refine (gAfter_any now (lastsF q.proto 7) _ hn0 hn1 hbd.1 hbd.2).mono ?_
          rintro e wx ⟨rfl, rfl⟩
          obtain ⟨u, hu⟩ : ∃ u, u = aft now (lastsF q.proto 7) := ⟨_, rfl⟩
          rw [← hu]
          have HU := Lib.hid hu
          clear hu hbd dpr dst
          obtain ⟨w6, hr6, hS6⟩ := one_store (o := 39) (ty := 30) (u := .int .u64 u) hS5 (by kernel_rfl) (by simp [Flw.enc_length]) rfl rfl
          rw [flw_set39] at hS6
          have d6 : w6.cell? ⟨b, 1, none⟩ = some (.slice (some ⟨g, 0, none⟩) L.length c) := cell_heap hS6.pull2.heap rfl
          go_wp2_with (refine wpList_store_run (t := 30) rfl rfl rfl rfl hr6 (stop_ ?_))
          unfold Stop
          obtain ⟨v7, w7, hr7, hS7⟩ := (arr_nil (e := 55) (sz := 40) hS6).append (m := L.length) (news := L.flatMap Flw.enc) (t := 26) (ty := 26) (P := Tryz.prog) (x := .slice (some ⟨g, 0, none⟩) L.length c) Tryz.underlying26 hz1 hz3 (by decide) hS6.pull3.arr_reads (flat_flw _) (flat_flw_one _) (by unfold maxLen; omega) (by omega)
          rw [Nat.zero_add, List.nil_append] at hS7
          obtain ⟨A7, c7, rfl⟩ := hS7.arr_form
          obtain ⟨w8, hr8, hS8⟩ := one_store (o := 1) (ty := 26) (u := .slice A7 L.length c7) hS7.pull3 (by kernel_rfl) (by simp) rfl rfl
          have hS9 := (hS8.to (by ac_rfl : _ = arr 55 40 (.slice A7 L.length c7) L.length (L.flatMap Flw.enc) • blk bf (.cells (atDue (withPh x ⟨7, x.fin⟩) u).enc.toArray 55) • blk b (.cells (#[Value.int .i64 n, .slice (some ⟨g, 0, none⟩) L.length c].setIfInBounds 1 (.slice A7 L.length c7)) 28) • arr 55 40 (.slice (some ⟨g, 0, none⟩) L.length c) L.length (L.flatMap Flw.enc) • blk xb (.cells QE 37) • F)).drew
          obtain ⟨g9, c9, w9, hv9, hr9, hS10⟩ := hS9.arr_put (P := Tryz.prog) (ty := 55) Flw.enc_length Flw.enc_one (by kernel_rfl) (by decide) hkl (atDue (withPh x ⟨7, x.fin⟩) u)
          simp only [Value.slice.injEq] at hv9
          obtain ⟨rfl, _, rfl⟩ := hv9
          have hend : Sat B w0 w9 (gref b n (L.set k (atDue (withPh x ⟨7, x.fin⟩) u)) • F) := by
            refine Sat.gref_shut (v := .slice (some ⟨g9, 0, none⟩) L.length c7) ?_
            exact (hS10.to (by ac_rfl : _ = blk bf (.cells (atDue (withPh x ⟨7, x.fin⟩) u).enc.toArray 55) • arr 55 40 (.slice (some ⟨g, 0, none⟩) L.length c) L.length (L.flatMap Flw.enc) • blk xb (.cells QE 37) • blk b (.cells (#[Value.int .i64 n, .slice (some ⟨g, 0, none⟩) L.length c].setIfInBounds 1 (.slice (some ⟨g9, 0, none⟩) L.length c7)) 28) • arr 55 40 (.slice (some ⟨g9, 0, none⟩) L.length c7) (L.set k (atDue (withPh x ⟨7, x.fin⟩) u)).length ((L.set k (atDue (withPh x ⟨7, x.fin⟩) u)).flatMap Flw.enc) • F)).drop.drop.drop
          have HEND := Lib.hid hend
          have hbfl : ∀ W, W.heap[bf]? = some (.cells (atDue (withPh x ⟨7, x.fin⟩) u).enc.toArray 55) → (Instr.loadAt 55 (.pointer (some ⟨bf, 0, none⟩))).run Tryz.prog W = .ok (.agg (atDue (withPh x ⟨7, x.fin⟩) u).enc.toArray) W :=
            fun W h => run_loadAt_row h Tryz.underlying55 rfl (by rw [Flw.enc_length]; kernel_rfl) (fun j u hu => by simpa using hu)
          have HBL := Lib.hid hbfl
          have hC20 : w8.drew.cell? ⟨b, 1, none⟩ = some (.slice (some ⟨g9, 0, none⟩) L.length c7) ∧ w8.drew.heap[bf]? = some (.cells (atDue (withPh x ⟨7, x.fin⟩) u).enc.toArray 55) := ⟨cell_heap hS9.pull3.heap rfl, hS9.pull2.heap⟩
          clear hend hbfl hS6 hS7 hS8 hS9 hS10
          generalize (atDue (withPh x ⟨7, x.fin⟩) u).enc.toArray = FU at *
          go_wp2_with (at_builtin; refine wpList_append_run rfl _ _ _ rfl rfl rfl hr7 (stop_ ?_))
          unfold Stop
          go_wp2_with (refine wpList_store_run (t := 26) rfl rfl rfl rfl hr8 (stop_ ?_))
          unfold Stop
          go_wp2_with fail
          try go_frame
          refine wp_region_ord [(0, .pure), (1, .pure), (2, .pure), (3, .quiet), (4, .pure), (5, .quiet), (6, .pure), (7, .seals)] (by kernel_rfl) (by kernel_rfl)
            (fun w' => w'.cell? ⟨b, 1, none⟩ = some (.slice (some ⟨g9, 0, none⟩) L.length c7) ∧ w'.heap[bf]? = some (.cells FU 55)) hC20 ?_
          iterate 3 (refine ord_pure rfl rfl rfl (fun K' hK => ?_); go_big_quiet_op; refine hK _ ?_; clear hK K')
          refine ord_load (t := 26) rfl rfl rfl (p := .pointer (some ⟨b, 1, none⟩)) (v := .slice (some ⟨g9, 0, none⟩) L.length c7) rfl (fun w' hC => load_one Tryz.underlying26 rfl hC.1) (fun K' hK => ?_)
          go_simp
          refine hK _ ?_
          clear hK K'
          iterate 1 (refine ord_pure rfl rfl rfl (fun K' hK => ?_); go_big_quiet_op; refine hK _ ?_; clear hK K')
          refine ord_load (t := 55) rfl rfl rfl (p := .pointer (some ⟨bf, 0, none⟩)) (v := .agg FU) rfl (fun w' hC => HBL.out _ hC.2) (fun K' hK => ?_)
          go_simp
          refine hK _ ?_
          clear hK K'
          iterate 1 (refine ord_pure rfl rfl rfl (fun K' hK => ?_); go_big_quiet_op; refine hK _ ?_; clear hK K')
          refine ord_store rfl rfl rfl rfl (p := .pointer (some ⟨g9, k * 40, none⟩)) (v := .agg FU) rfl rfl hr9 (fun _ => True) trivial ?_
          go_simp
          refine ord_nil ?_
          go_wp2_with fail
          go_ret
          rw [HR.out, HSF.out]
          simp only [if_true, Bool.false_eq_true, if_false]
          rw [HSL.out, ← HU.out]
          exact ⟨rfl, HEND.out⟩
    · have hr : seeL L q side flags now = (false, L) := by unfold seeL; rw [h3]; exact if_neg hsd
      rw [hr]
      have e0 : (side != 0) = true := by rw [bne_iff_ne]; omega
      have e1 : (side != 1) = true := by rw [bne_iff_ne]; omega
      clear hr h1 h3
      go_enter Tryz.func11, Tryz.ntmps11
      go_wp2_with (refine wpList_load_run (t := 37) rfl rfl rfl hl1 ?_)
      try rw [hxb]
      refine c1.mono ?_
      rintro e w1 ⟨rfl, hS1⟩
      go_wp2_with fail
      go_ret
      exact ⟨rfl, hS1.pull2.drop⟩
end
end Go.Proofs.YtepaanpdjadakaaGreatDoor

/-! The reference's flows: Begin. -/
namespace Go.Proofs.YtepaanpdjadakaaGreatDoor
open Go Go.RowKit

attribute [local irreducible] wpOrd wpTree
def begLC (room : Nat) (L : List Flw) (q : Tup) (flags : Int) : Int := if beginsF q.proto flags then (if (L.find? (isWL q)).isSome then 19 else if room ≤ L.length then 18 else 0) else 1
def begLL (room : Nat) (L : List Flw) (q : Tup) (flags now : Int) : List Flw := if begLC room L q flags = 0 then L ++ [⟨q, (begP q).st, 0, begU q now⟩] else L
section
variable {B : Nat} {w0 w w' : World} {F : HP} {b : Nat} {n : Int} {L : List Flw} {v : Value}
theorem begLL_not {room : Nat} {q : Tup} {flags now : Int} (h : begLC room L q flags ≠ 0) : begLL room L q flags now = L := by unfold begLL; rw [if_neg h]
set_option maxRecDepth 8000 in
set_option maxHeartbeats 32000000 in
theorem gBegin_any (h : Sat B w0 w (gref b n L • F)) (hl : L.length ≤ 1000) (q : Tup) (flags now : Int) (hn0 : 0 ≤ now) (hn1 : now ≤ 18446744073709551615) : Calls Tryz.prog 19 #[.pointer (some ⟨b, 0, none⟩), .agg q.enc.toArray, .int .i64 flags, .int .u64 now] w fun e w' =>
    e = .returned (failV (begLC (roomOf n) L q flags)) ∧ Sat B w0 w' (gref b n (begLL (roomOf n) L q flags now) • F) := by
  have hX := (h.alloc (.cells q.enc.toArray 37)).alloc (.cells #[.int .i64 0, .int .i64 0, .bool false] 52)
  rw [World.size_alloc] at hX
  have hX := hX.to (by ac_rfl : _ = gref b n L • blk w.heap.size (.cells q.enc.toArray 37) • blk (w.heap.size + 1) (.cells #[.int .i64 0, .int .i64 0, .bool false] 52) • F)
  have hlq : ∀ W, W.heap[w.heap.size]? = some (.cells q.enc.toArray 37) → (Instr.loadAt 37 (.pointer (some ⟨w.heap.size, 0, none⟩))).run Tryz.prog W = .ok (.agg q.enc.toArray) W :=
    fun W h => run_loadAt_row h Tryz.underlying37 rfl (by rw [Tup.enc_length]; kernel_rfl) (fun j u hu => by simpa using hu)
  have HLQ := Lib.hid hlq
  have hpr : q.enc.toArray[34]? = some (.int .i64 q.proto) := by rw [List.getElem?_toArray]; exact q.at34 0
  have dpr : ((w.alloc (.cells q.enc.toArray 37)).alloc (.cells #[.int .i64 0, .int .i64 0, .bool false] 52)).cell? ⟨w.heap.size, 34, none⟩ = some (.int .i64 q.proto) := cell_heap hX.pull2.heap hpr
  have HPR := Lib.hid hpr
  have cb := fun W => gBegins_any q.proto flags W
  have HFB := Lib.hid (flow_built q)
  clear h hpr hlq
  generalize hQE : q.enc.toArray = QE at *
  generalize hxb : w.heap.size = xb at *
  cases hb : beginsF q.proto flags with
  | false =>
    have hc : begLC (roomOf n) L q flags = 1 := by unfold begLC; rw [hb]; rfl
    have hr := begLL_not (now := now) (show begLC (roomOf n) L q flags ≠ 0 by rw [hc]; decide)
    rw [hr, hc]
    rw [hb] at cb
    clear hr hc hb
    go_enter Tryz.func19, Tryz.ntmps19
    go_wp2_with fail
    try rw [hxb]
    refine (cb _).mono ?_
    rintro e wx ⟨rfl, rfl⟩
    go_wp2_with fail
    refine (bare_any 1 _).mono ?_
    rintro e w8 ⟨rfl, hb8⟩
    obtain ⟨W9, hst, hS9⟩ := fail_store (c := 1) ((hX.below_ hb8).pull3) rfl
    have hld := fail_load hS9
    have HS9 := Lib.hid hS9
    clear hS9 hX dpr
    go_wp2_with (refine wpList_store_run (t := 52) rfl rfl rfl rfl hst ?_)
    refine ret_cell rfl rfl hld rfl ?_
    exact ⟨rfl, (HS9.out.drop.pull2.drop)⟩
  | true =>
    rw [hb] at cb
    have c1 := fun (W : World) (hW : Sat B w0 W (gref b n L • blk xb (.cells QE 37) • blk (xb + 1) (.cells #[.int .i64 0, .int .i64 0, .bool false] 52) • F)) => gPlace_any hW hl q
    rw [hQE] at c1
    rcases getL_cases L q with ⟨h1, _, h3⟩ | ⟨k, x, hx, hxq, h1, _, h3⟩
    · rw [h1] at c1
      go_enter Tryz.func19, Tryz.ntmps19
      go_wp2_with fail
      try rw [hxb]
      refine (cb _).mono ?_
      rintro e wx ⟨rfl, rfl⟩
      have hl1 := HLQ.out _ hX.pull2.heap
      go_wp2_with (refine wpList_load_run (t := 37) rfl rfl rfl hl1 ?_)
      refine (c1 _ hX).mono ?_
      rintro e w1 ⟨rfl, hS1⟩
      obtain ⟨A, c, hT⟩ := hS1.gref_open
      have d1 : w1.cell? ⟨b, 1, none⟩ = some (.slice A L.length c) := cell_heap hT.heap rfl
      have d0 : w1.cell? ⟨b, 0, none⟩ = some (.int .i64 n) := cell_heap hT.heap rfl
      have hD := hT.drew
      clear c1 hX hS1 hl1 dpr h1
      by_cases hf : roomOf n ≤ L.length
      · have hc : begLC (roomOf n) L q flags = 18 := by unfold begLC; rw [hb, h3]; simp [hf]
        have hr := begLL_not (now := now) (show begLC (roomOf n) L q flags ≠ 0 by rw [hc]; decide)
        have HRC := Lib.hid (And.intro hr hc)
        have hf1 : decide (roomOf n ≤ L.length) = true := decide_eq_true hf
        clear hr hc hf hT hb h3
        go_wp2_with fail
        try go_frame
        refine wp_region_ord [(0, .pure), (1, .pure), (2, .pure), (3, .quiet), (4, .pure), (5, .pure), (6, .pure), (7, .pure), (8, .quiet), (9, .acts), (10, .pure), (11, .pure)] (by kernel_rfl) (by kernel_rfl)
          (fun w' => ∀ p, w'.cell? p = w1.cell? p) (fun _ => rfl) ?_
        iterate 3 (refine ord_pure rfl rfl rfl (fun K' hK => ?_); go_big_quiet_op; refine hK _ ?_; clear hK K')
        refine ord_load (t := 26) rfl rfl rfl (p := .pointer (some ⟨b, 1, none⟩)) (v := .slice A L.length c) rfl (fun w' hC => load_one Tryz.underlying26 rfl (by rw [hC]; exact d1)) (fun K' hK => ?_)
        go_simp
        refine hK _ ?_
        clear hK K'
        iterate 4 (refine ord_pure rfl rfl rfl (fun K' hK => ?_); go_big_quiet_op; refine hK _ ?_; clear hK K')
        refine ord_load (t := 3) rfl rfl rfl (p := .pointer (some ⟨b, 0, none⟩)) (v := .int .i64 n) rfl (fun w' hC => load_one Tryz.underlying3 rfl (by rw [hC]; exact d0)) (fun K' hK => ?_)
        go_simp
        refine hK _ ?_
        clear hK K'
        refine ord_acts rfl rfl (fun K' hK => ?_)
        go_simp
        refine (held_any n _).mono ?_
        rintro e w2 ⟨rfl, rfl⟩
        refine hK _ _ (fun _ => rfl) ?_
        clear hK K'
        go_simp
        iterate 2 (refine ord_pure rfl rfl rfl (fun K' hK => ?_); go_big_quiet_op; refine hK _ ?_; clear hK K')
        refine ord_nil ?_
        go_wp2_with fail
        refine (bare_any 18 _).mono ?_
        rintro e w8 ⟨rfl, hb8⟩
        obtain ⟨W9, hst, hS9⟩ := fail_store (c := 18) ((hD.below_ hb8).pull4) rfl
        have hld := fail_load hS9
        have HS9 := Lib.hid hS9
        clear hS9 d1 d0 hD
        go_wp2_with (refine wpList_store_run (t := 52) rfl rfl rfl rfl hst ?_)
        refine ret_cell rfl rfl hld rfl ?_
        rw [HRC.out.1, HRC.out.2]
        exact ⟨rfl, Sat.gref_shut (HS9.out.drop.pull3.drop)⟩
      · have hc : begLC (roomOf n) L q flags = 0 := by unfold begLC; rw [hb, h3]; simp [hf]
        have hr : begLL (roomOf n) L q flags now = L ++ [⟨q, (begP q).st, 0, begU q now⟩] := by unfold begLL; rw [if_pos hc]
        have HRC := Lib.hid (And.intro hr hc)
        have hf1 : decide (roomOf n ≤ L.length) = false := decide_eq_false hf
        obtain ⟨z, hz1, hz2, hz3⟩ := flw_zero
        clear hr hc hf hT hb h3
        go_wp2_with fail
        try go_frame
        refine wp_region_ord [(0, .pure), (1, .pure), (2, .pure), (3, .quiet), (4, .pure), (5, .pure), (6, .pure), (7, .pure), (8, .quiet), (9, .acts), (10, .pure), (11, .pure)] (by kernel_rfl) (by kernel_rfl)
          (fun w' => ∀ p, w'.cell? p = w1.cell? p) (fun _ => rfl) ?_
        iterate 3 (refine ord_pure rfl rfl rfl (fun K' hK => ?_); go_big_quiet_op; refine hK _ ?_; clear hK K')
        refine ord_load (t := 26) rfl rfl rfl (p := .pointer (some ⟨b, 1, none⟩)) (v := .slice A L.length c) rfl (fun w' hC => load_one Tryz.underlying26 rfl (by rw [hC]; exact d1)) (fun K' hK => ?_)
        go_simp
        refine hK _ ?_
        clear hK K'
        iterate 4 (refine ord_pure rfl rfl rfl (fun K' hK => ?_); go_big_quiet_op; refine hK _ ?_; clear hK K')
        refine ord_load (t := 3) rfl rfl rfl (p := .pointer (some ⟨b, 0, none⟩)) (v := .int .i64 n) rfl (fun w' hC => load_one Tryz.underlying3 rfl (by rw [hC]; exact d0)) (fun K' hK => ?_)
        go_simp
        refine hK _ ?_
        clear hK K'
        refine ord_acts rfl rfl (fun K' hK => ?_)
        go_simp
        refine (held_any n _).mono ?_
        rintro e w2 ⟨rfl, rfl⟩
        refine hK _ _ (fun _ => rfl) ?_
        clear hK K'
        go_simp
        iterate 2 (refine ord_pure rfl rfl rfl (fun K' hK => ?_); go_big_quiet_op; refine hK _ ?_; clear hK K')
        refine ord_nil ?_
        generalize w1.drew = wd at *
        clear d1 d0
        have hl7 := HLQ.out _ hD.pull3.heap
        have hst7 : ∀ (W : World) (z : Array Value), z.size = 40 → (Instr.storeAt 55 (.pointer (some ⟨W.heap.size, 0, none⟩)) (.agg (Flw.enc ⟨q, 6, 0, 0⟩).toArray)).run Tryz.prog (W.alloc (.cells z 55)) = .ok () (W.alloc (.cells (Flw.enc ⟨q, 6, 0, 0⟩).toArray 55)) := fun W z hz => flw_storeN ⟨q, 6, 0, 0⟩ W z hz
        have hX7 := hD.alloc (.cells (Flw.enc ⟨q, 6, 0, 0⟩).toArray 55)
        generalize hbf : wd.heap.size = bf at *
        generalize hW7 : wd.alloc (.cells (Flw.enc ⟨q, 6, 0, 0⟩).toArray 55) = w7 at *
        have HBF := Lib.hid hbf
        have HW7 := Lib.hid hW7
        have dpr : w7.cell? ⟨xb, 34, none⟩ = some (.int .i64 q.proto) := cell_heap (hX7.to (by ac_rfl : _ = blk xb (.cells QE 37) • blk bf (.cells (Flw.enc ⟨q, 6, 0, 0⟩).toArray 55) • blk b (.cells #[.int .i64 n, .slice A L.length c] 28) • arr 55 40 (.slice A L.length c) L.length (L.flatMap Flw.enc) • blk (xb + 1) (.cells #[.int .i64 0, .int .i64 0, .bool false] 52) • F)).heap HPR.out
        obtain ⟨FE, hFE⟩ : ∃ FE, FE = (Flw.enc ⟨q, 6, 0, 0⟩).toArray := ⟨_, rfl⟩
        rw [← hFE] at hst7 HFB
        have HFE := Lib.hid hFE
        clear hbf hW7 hD hFE
        go_wp2_with (refine wpList_load_run (t := 37) rfl rfl rfl hl7 (stop_ ?_))
        unfold Stop
        go_simp
        refine wpList_build2_run rfl rfl rfl rfl HFB.out ?_
        go_wp2_with (refine wpList_store_run (t := 55) rfl rfl rfl rfl (hst7 _ _ rfl) (stop_ ?_))
        unfold Stop
        rw [HFE.out]
        try rw [HW7.out]
        try rw [HBF.out]
        clear hl7 hst7 HBF HW7 HFE
        by_cases hp6 : q.proto = 6
        · have HPQ := Lib.hid hp6
          have hu0 : begU q now = aft now (lastsF 6 1) ∧ (begP q).st = 1 := by unfold begU begP; rw [hp6]; exact ⟨rfl, rfl⟩
          have HU0 := Lib.hid hu0
          rw [hp6] at dpr
          obtain ⟨w5, hr5, hS5⟩ := hX7.flw_st 1
          clear hX7 hu0
          go_wp2_with (refine wpList_store_run (t := 3) rfl rfl rfl rfl hr5 (stop_ ?_))
          unfold Stop
          have hbd := lastsF_bd 6 1
          have dpr2 : w5.cell? ⟨xb, 34, none⟩ = some (.int .i64 6) := cell_heap (hS5.to (by ac_rfl : _ = blk xb (.cells QE 37) • blk bf (.cells (Flw.enc (withPh ⟨q, 6, 0, 0⟩ ⟨1, 0⟩)).toArray 55) • blk b (.cells #[.int .i64 n, .slice A L.length c] 28) • arr 55 40 (.slice A L.length c) L.length (L.flatMap Flw.enc) • blk (xb + 1) (.cells #[.int .i64 0, .int .i64 0, .bool false] 52) • F)).heap (by rw [← HPQ.out]; exact HPR.out)
          have dst : w5.cell? ⟨bf, 37, none⟩ = some (.int .i64 1) := (flw_cells (f := withPh ⟨q, 6, 0, 0⟩ ⟨1, 0⟩) hS5.heap).1
          clear dpr
          go_wp2_with fail
          refine (gLasts_any 6 1 _ (by decide)).mono ?_
          rintro e wx ⟨rfl, rfl⟩
          go_wp2_with fail
          refine (gAfter_any now (lastsF 6 1) _ hn0 hn1 hbd.1 hbd.2).mono ?_
          rintro e wx ⟨rfl, rfl⟩
          obtain ⟨u, hu⟩ : ∃ u, u = aft now (lastsF 6 1) := ⟨_, rfl⟩
          rw [← hu]
          have hbl : begLL (roomOf n) L q flags now = L ++ [⟨q, 1, 0, u⟩] := by rw [HRC.out.1, HU0.out.1, HU0.out.2, ← hu]
          clear hu hbd dpr2 dst
          obtain ⟨w6, hr6, hS6⟩ := one_store (o := 39) (ty := 30) (u := .int .u64 u) hS5 (by kernel_rfl) (by simp [Flw.enc_length]) rfl rfl
          rw [flw_set39, show atDue (withPh ⟨q, 6, 0, 0⟩ ⟨1, 0⟩) u = ⟨q, 1, 0, u⟩ from rfl] at hS6
          clear hS5
          go_wp2_with (refine wpList_store_run (t := 30) rfl rfl rfl rfl hr6 (stop_ ?_))
          unfold Stop
          have HFO : Hid ((∀ v ∈ Flw.enc ⟨q, 1, 0, u⟩, v.oneCell' = true) ∧ (Flw.enc ⟨q, 1, 0, u⟩).length = 40) := Lib.hid ⟨Flw.enc_one _, Flw.enc_length _⟩
          have HFM : Hid ((L ++ [(⟨q, 1, 0, u⟩ : Flw)]).length = L.length + 1 ∧ (L ++ [(⟨q, 1, 0, u⟩ : Flw)]).flatMap Flw.enc = L.flatMap Flw.enc ++ Flw.enc ⟨q, 1, 0, u⟩) := Lib.hid ⟨by simp, by rw [List.flatMap_append, List.flatMap_singleton]⟩
          have hlb : ∀ W, W.heap[bf]? = some (.cells (Flw.enc ⟨q, 1, 0, u⟩).toArray 55) → (Instr.loadAt 55 (.pointer (some ⟨bf, 0, none⟩))).run Tryz.prog W = .ok (.agg (Flw.enc ⟨q, 1, 0, u⟩).toArray) W :=
            fun W h => run_loadAt_row h Tryz.underlying55 rfl (by rw [Flw.enc_length]; kernel_rfl) (fun j u hu => by simpa using hu)
          have HLB := Lib.hid hlb
          clear hlb
          generalize L ++ [(⟨q, 1, 0, u⟩ : Flw)] = L2 at *
          have HBL := Lib.hid hbl
          clear hbl
          generalize Flw.enc ⟨q, 1, 0, u⟩ = GE at *
          have hD := hS6.to (by ac_rfl : _ = blk b (.cells #[.int .i64 n, .slice A L.length c] 28) • arr 55 40 (.slice A L.length c) L.length (L.flatMap Flw.enc) • blk bf (.cells GE.toArray 55) • blk (xb + 1) (.cells #[.int .i64 0, .int .i64 0, .bool false] 52) • blk xb (.cells QE 37) • F)
          have hC0 : w6.drew.cell? ⟨b, 1, none⟩ = some (.slice A L.length c) ∧ w6.drew.heap[bf]? = some (.cells GE.toArray 55) := ⟨cell_heap hD.heap rfl, hD.pull3.heap⟩
          have hDD := hD.drew
          clear hD hS6
          go_wp2_with fail
          try go_frame
          refine wp_region_tree (.two [(0, .pure), (1, .pure), (2, .pure), (3, .pure), (4, .quiet), (6, .quiet)] 5 (.leaf [(7, .acts), (8, .seals), (9, .pure), (10, .pure), (11, .seals)]) 7 (.leaf [(5, .acts), (8, .seals), (9, .pure), (10, .pure), (11, .seals)])) [8, 11] (by kernel_rfl) (by kernel_rfl) (fun w' => w'.cell? ⟨b, 1, none⟩ = some (.slice A L.length c) ∧ w'.heap[bf]? = some (.cells GE.toArray 55)) hC0 ?_
          generalize w6.drew = W0 at *
          refine tree_two ?_
          iterate 4 (refine ord_pure rfl rfl rfl (fun K' hK => ?_); go_big_quiet_op; refine hK _ ?_; clear hK K')
          refine ord_load (t := 26) rfl rfl rfl (p := .pointer (some ⟨b, 1, none⟩)) (v := .slice A L.length c) rfl (fun w' hC => load_one Tryz.underlying26 rfl hC.1) (fun K' hK => ?_)
          go_simp
          refine hK _ ?_
          clear hK K'
          refine ord_load (t := 55) rfl rfl rfl (p := .pointer (some ⟨bf, 0, none⟩)) (v := .agg GE.toArray) rfl (fun w' hC => HLB.out _ hC.2) (fun K' hK => ?_)
          go_simp
          refine hK _ ?_
          clear hK K'
          refine ord_nil ?_
          refine ⟨?_, ?_⟩
          · obtain ⟨v5, W5, hr5', hS5⟩ := (arr_nil (e := 55) (sz := 40) hDD).append (m := L.length) (news := L.flatMap Flw.enc) (t := 26) (ty := 26) (P := Tryz.prog) (x := .slice A L.length c) Tryz.underlying26 hz1 hz3 (by decide) hDD.pull2.arr_reads (flat_flw L) (flat_flw_one L) (by unfold maxLen; omega) (by omega)
            rw [Nat.zero_add, List.nil_append] at hS5
            obtain ⟨A5, c5, rfl⟩ := hS5.arr_form
            have hC5 : W5.cell? ⟨b, 1, none⟩ = some (.slice A L.length c) ∧ W5.heap[bf]? = some (.cells GE.toArray 55) := ⟨cell_heap hS5.pull2.heap rfl, hS5.pull4.heap⟩
            refine fork_act rfl rfl (fun K' hK => wp_append_run _ _ _ rfl rfl rfl hr5' (hK _ _ hC5 ?_))
            clear hK K' hC5
            go_simp
            refine tree_leaf ?_
            have hS6 := hS5.alloc_ (.cells GE.toArray 55)
            have hC6 : (W5.alloc (.cells GE.toArray 55)).cell? ⟨b, 1, none⟩ = some (.slice A L.length c) ∧ (W5.alloc (.cells GE.toArray 55)).heap[bf]? = some (.cells GE.toArray 55) := ⟨cell_heap hS6.pull2.heap rfl, hS6.pull4.heap⟩
            obtain ⟨v9, W9, hr9, hA9⟩ := hS6.append (sz := 40) (m := 1) (news := GE) (t := 26) (ty := 26) (P := Tryz.prog) (x := .slice (some ⟨W5.heap.size, 0, none⟩) 1 1) Tryz.underlying26 hz1 hz3 (by decide) reads_new (by rw [HFO.out.2]) HFO.out.1 (by unfold maxLen; omega) (by omega)
            obtain ⟨A9, c9, rfl⟩ := hA9.arr_form
            refine ord_acts rfl rfl (fun K' hK => wp_buildSlice_one (v := .agg GE.toArray) (sz := 40) rfl rfl Tryz.underlying26 hz2 (by simp [Value.cells, HFO.out.2]) (by decide) (by decide) (hK _ _ hC6 ?_))
            clear hK K' hC6
            go_simp
            refine ord_seals rfl rfl (fun K' hK => wp_append_run _ _ _ rfl rfl rfl hr9 (hK (fun _ => True) _ _ trivial ?_))
            clear hK K'
            go_simp
            iterate 2 (refine ord_pure rfl rfl rfl (fun K' hK => ?_); go_big_quiet_op; refine hK _ ?_; clear hK K')
            obtain ⟨W10, hr10, hA10⟩ := one_store (o := 1) (ty := 26) (u := .slice A9 (L.length + 1) c9) hA9.pull2 (by kernel_rfl) (by simp) rfl rfl
            have hE := hA10.to (by ac_rfl : _ = arr 55 40 (.slice A L.length c) L.length (L.flatMap Flw.enc) • blk bf (.cells GE.toArray 55) • blk xb (.cells QE 37) • blk b (.cells (#[Value.int .i64 n, .slice A L.length c].setIfInBounds 1 (.slice A9 (L.length + 1) c9)) 28) • arr 55 40 (.slice A9 (L.length + 1) c9) (L.length + 1) (L.flatMap Flw.enc ++ GE) • blk (xb + 1) (.cells #[.int .i64 0, .int .i64 0, .bool false] 52) • F)
            have hE2 := Sat.gref_shut (n := n) (L := L2) (v := .slice A9 (L.length + 1) c9) (by rw [HFM.out.1, HFM.out.2]; exact hE.drop.drop.drop)
            obtain ⟨W30, hst, hS9⟩ := fail_store (c := 0) hE2.pull2 rfl
            have hld := fail_load hS9
            have HS9 := Lib.hid hS9.drop
            clear hS9 hE2 hE hA10 hA9 hS6 hS5 hDD
            refine ord_store rfl rfl rfl rfl (p := .pointer (some ⟨b, 1, none⟩)) (v := .slice A9 (L.length + 1) c9) rfl rfl hr10 (fun _ => True) trivial ?_
            go_simp
            refine ord_nil ?_
            go_wp2_with (refine wpList_store_run (t := 52) rfl rfl rfl rfl hst ?_)
            refine ret_cell rfl rfl hld rfl ?_
            rw [HRC.out.2, HBL.out]
            exact ⟨rfl, HS9.out⟩
          · have hS6 := Sat.arr_shut (n := 1) (cap := 1) (sz := 40) (xs := GE) (by decide) (by decide) (by simp [Value.cells, HFO.out.2]) (by rw [Nat.one_mul]; exact List.take_of_length_le (Nat.le_of_eq HFO.out.2)) (hDD.alloc (.cells (Value.agg GE.toArray).cells 55))
            have hC6 : (W0.alloc (.cells (Value.agg GE.toArray).cells 55)).cell? ⟨b, 1, none⟩ = some (.slice A L.length c) ∧ (W0.alloc (.cells (Value.agg GE.toArray).cells 55)).heap[bf]? = some (.cells GE.toArray 55) := ⟨cell_heap hS6.pull2.heap rfl, hS6.pull4.heap⟩
            refine fork_act rfl rfl (fun K' hK => wp_buildSlice_one (v := .agg GE.toArray) (sz := 40) rfl rfl Tryz.underlying26 hz2 (by simp [Value.cells, HFO.out.2]) (by decide) (by decide) (hK _ _ hC6 ?_))
            clear hK K' hC6
            generalize W0.heap.size = g8 at *
            generalize hV8 : W0.alloc (.cells (Value.agg GE.toArray).cells 55) = V8 at *
            obtain ⟨v5, W5, hr5', hS5⟩ := (arr_nil (e := 55) (sz := 40) hS6).append (m := L.length) (news := L.flatMap Flw.enc) (t := 26) (ty := 26) (P := Tryz.prog) (x := .slice A L.length c) Tryz.underlying26 hz1 hz3 (by decide) hS6.pull3.arr_reads (flat_flw L) (flat_flw_one L) (by unfold maxLen; omega) (by omega)
            rw [Nat.zero_add, List.nil_append] at hS5
            obtain ⟨A5, c5, rfl⟩ := hS5.arr_form
            have hC5 : W5.cell? ⟨b, 1, none⟩ = some (.slice A L.length c) ∧ W5.heap[bf]? = some (.cells GE.toArray 55) := ⟨cell_heap hS5.pull3.heap rfl, (hS5.to (by ac_rfl : _ = blk bf (.cells GE.toArray 55) • arr 55 40 (.slice A5 L.length c5) L.length (L.flatMap Flw.enc) • arr 55 40 (.slice (some ⟨g8, 0, none⟩) 1 1) 1 GE • blk b (.cells #[.int .i64 n, .slice A L.length c] 28) • arr 55 40 (.slice A L.length c) L.length (L.flatMap Flw.enc) • blk (xb + 1) (.cells #[.int .i64 0, .int .i64 0, .bool false] 52) • blk xb (.cells QE 37) • F)).heap⟩
            obtain ⟨v9, W9, hr9, hA9⟩ := hS5.append (sz := 40) (m := 1) (news := GE) (t := 26) (ty := 26) (P := Tryz.prog) (x := .slice (some ⟨g8, 0, none⟩) 1 1) Tryz.underlying26 hz1 hz3 (by decide) hS5.pull2.arr_reads (by rw [HFO.out.2]) HFO.out.1 (by unfold maxLen; omega) (by omega)
            obtain ⟨A9, c9, rfl⟩ := hA9.arr_form
            clear hV8
            go_simp
            refine tree_leaf ?_
            refine ord_acts rfl rfl (fun K' hK => wp_append_run _ _ _ rfl rfl rfl hr5' (hK _ _ hC5 ?_))
            clear hK K' hC5
            go_simp
            refine ord_seals rfl rfl (fun K' hK => wp_append_run _ _ _ rfl rfl rfl hr9 (hK (fun _ => True) _ _ trivial ?_))
            clear hK K'
            go_simp
            iterate 2 (refine ord_pure rfl rfl rfl (fun K' hK => ?_); go_big_quiet_op; refine hK _ ?_; clear hK K')
            obtain ⟨W10, hr10, hA10⟩ := one_store (o := 1) (ty := 26) (u := .slice A9 (L.length + 1) c9) hA9.pull3 (by kernel_rfl) (by simp) rfl rfl
            have hE := hA10.to (by ac_rfl : _ = arr 55 40 (.slice A L.length c) L.length (L.flatMap Flw.enc) • blk bf (.cells GE.toArray 55) • blk xb (.cells QE 37) • arr 55 40 (.slice (some ⟨g8, 0, none⟩) 1 1) 1 GE • blk b (.cells (#[Value.int .i64 n, .slice A L.length c].setIfInBounds 1 (.slice A9 (L.length + 1) c9)) 28) • arr 55 40 (.slice A9 (L.length + 1) c9) (L.length + 1) (L.flatMap Flw.enc ++ GE) • blk (xb + 1) (.cells #[.int .i64 0, .int .i64 0, .bool false] 52) • F)
            have hE2 := Sat.gref_shut (n := n) (L := L2) (v := .slice A9 (L.length + 1) c9) (by rw [HFM.out.1, HFM.out.2]; exact hE.drop.drop.drop.drop)
            obtain ⟨W30, hst, hS9⟩ := fail_store (c := 0) hE2.pull2 rfl
            have hld := fail_load hS9
            have HS9 := Lib.hid hS9.drop
            clear hS9 hE2 hE hA10 hA9 hS6 hS5 hDD
            refine ord_store rfl rfl rfl rfl (p := .pointer (some ⟨b, 1, none⟩)) (v := .slice A9 (L.length + 1) c9) rfl rfl hr10 (fun _ => True) trivial ?_
            go_simp
            refine ord_nil ?_
            go_wp2_with (refine wpList_store_run (t := 52) rfl rfl rfl rfl hst ?_)
            refine ret_cell rfl rfl hld rfl ?_
            rw [HRC.out.2, HBL.out]
            exact ⟨rfl, HS9.out⟩
        · have h6b : (q.proto == 6) = false := by simpa using hp6
          have hu0 : begU q now = aft now (lastsF q.proto 6) ∧ (begP q).st = 6 := by unfold begU begP; simp only [if_neg hp6]; exact ⟨trivial, trivial⟩
          have HU0 := Lib.hid hu0
          clear hu0
          have hbd := lastsF_bd q.proto 6
          have dpr2 : w7.cell? ⟨xb, 34, none⟩ = some (.int .i64 q.proto) := cell_heap (hX7.to (by ac_rfl : _ = blk xb (.cells QE 37) • blk bf (.cells (Flw.enc (⟨q, 6, 0, 0⟩)).toArray 55) • blk b (.cells #[.int .i64 n, .slice A L.length c] 28) • arr 55 40 (.slice A L.length c) L.length (L.flatMap Flw.enc) • blk (xb + 1) (.cells #[.int .i64 0, .int .i64 0, .bool false] 52) • F)).heap HPR.out
          have dst : w7.cell? ⟨bf, 37, none⟩ = some (.int .i64 6) := (flw_cells (f := ⟨q, 6, 0, 0⟩) hX7.heap).1
          clear dpr
          go_wp2_with fail
          refine (gLasts_any q.proto 6 _ (by decide)).mono ?_
          rintro e wx ⟨rfl, rfl⟩
          go_wp2_with fail
          refine (gAfter_any now (lastsF q.proto 6) _ hn0 hn1 hbd.1 hbd.2).mono ?_
          rintro e wx ⟨rfl, rfl⟩
          obtain ⟨u, hu⟩ : ∃ u, u = aft now (lastsF q.proto 6) := ⟨_, rfl⟩
          rw [← hu]
          have hbl : begLL (roomOf n) L q flags now = L ++ [⟨q, 6, 0, u⟩] := by rw [HRC.out.1, HU0.out.1, HU0.out.2, ← hu]
          clear hu hbd dpr2 dst
          obtain ⟨w6, hr6, hS6⟩ := one_store (o := 39) (ty := 30) (u := .int .u64 u) hX7 (by kernel_rfl) (by simp [Flw.enc_length]) rfl rfl
          rw [flw_set39, show atDue (⟨q, 6, 0, 0⟩) u = ⟨q, 6, 0, u⟩ from rfl] at hS6
          clear hX7
          go_wp2_with (refine wpList_store_run (t := 30) rfl rfl rfl rfl hr6 (stop_ ?_))
          unfold Stop
          have HFO : Hid ((∀ v ∈ Flw.enc ⟨q, 6, 0, u⟩, v.oneCell' = true) ∧ (Flw.enc ⟨q, 6, 0, u⟩).length = 40) := Lib.hid ⟨Flw.enc_one _, Flw.enc_length _⟩
          have HFM : Hid ((L ++ [(⟨q, 6, 0, u⟩ : Flw)]).length = L.length + 1 ∧ (L ++ [(⟨q, 6, 0, u⟩ : Flw)]).flatMap Flw.enc = L.flatMap Flw.enc ++ Flw.enc ⟨q, 6, 0, u⟩) := Lib.hid ⟨by simp, by rw [List.flatMap_append, List.flatMap_singleton]⟩
          have hlb : ∀ W, W.heap[bf]? = some (.cells (Flw.enc ⟨q, 6, 0, u⟩).toArray 55) → (Instr.loadAt 55 (.pointer (some ⟨bf, 0, none⟩))).run Tryz.prog W = .ok (.agg (Flw.enc ⟨q, 6, 0, u⟩).toArray) W :=
            fun W h => run_loadAt_row h Tryz.underlying55 rfl (by rw [Flw.enc_length]; kernel_rfl) (fun j u hu => by simpa using hu)
          have HLB := Lib.hid hlb
          clear hlb
          generalize L ++ [(⟨q, 6, 0, u⟩ : Flw)] = L2 at *
          have HBL := Lib.hid hbl
          clear hbl
          generalize Flw.enc ⟨q, 6, 0, u⟩ = GE at *
          have hD := hS6.to (by ac_rfl : _ = blk b (.cells #[.int .i64 n, .slice A L.length c] 28) • arr 55 40 (.slice A L.length c) L.length (L.flatMap Flw.enc) • blk bf (.cells GE.toArray 55) • blk (xb + 1) (.cells #[.int .i64 0, .int .i64 0, .bool false] 52) • blk xb (.cells QE 37) • F)
          have hC0 : w6.drew.cell? ⟨b, 1, none⟩ = some (.slice A L.length c) ∧ w6.drew.heap[bf]? = some (.cells GE.toArray 55) := ⟨cell_heap hD.heap rfl, hD.pull3.heap⟩
          have hDD := hD.drew
          clear hD hS6
          go_wp2_with fail
          try go_frame
          refine wp_region_tree (.two [(0, .pure), (1, .pure), (2, .pure), (3, .pure), (4, .quiet), (6, .quiet)] 5 (.leaf [(7, .acts), (8, .seals), (9, .pure), (10, .pure), (11, .seals)]) 7 (.leaf [(5, .acts), (8, .seals), (9, .pure), (10, .pure), (11, .seals)])) [8, 11] (by kernel_rfl) (by kernel_rfl) (fun w' => w'.cell? ⟨b, 1, none⟩ = some (.slice A L.length c) ∧ w'.heap[bf]? = some (.cells GE.toArray 55)) hC0 ?_
          generalize w6.drew = W0 at *
          refine tree_two ?_
          iterate 4 (refine ord_pure rfl rfl rfl (fun K' hK => ?_); go_big_quiet_op; refine hK _ ?_; clear hK K')
          refine ord_load (t := 26) rfl rfl rfl (p := .pointer (some ⟨b, 1, none⟩)) (v := .slice A L.length c) rfl (fun w' hC => load_one Tryz.underlying26 rfl hC.1) (fun K' hK => ?_)
          go_simp
          refine hK _ ?_
          clear hK K'
          refine ord_load (t := 55) rfl rfl rfl (p := .pointer (some ⟨bf, 0, none⟩)) (v := .agg GE.toArray) rfl (fun w' hC => HLB.out _ hC.2) (fun K' hK => ?_)
          go_simp
          refine hK _ ?_
          clear hK K'
          refine ord_nil ?_
          refine ⟨?_, ?_⟩
          · obtain ⟨v5, W5, hr5', hS5⟩ := (arr_nil (e := 55) (sz := 40) hDD).append (m := L.length) (news := L.flatMap Flw.enc) (t := 26) (ty := 26) (P := Tryz.prog) (x := .slice A L.length c) Tryz.underlying26 hz1 hz3 (by decide) hDD.pull2.arr_reads (flat_flw L) (flat_flw_one L) (by unfold maxLen; omega) (by omega)
            rw [Nat.zero_add, List.nil_append] at hS5
            obtain ⟨A5, c5, rfl⟩ := hS5.arr_form
            have hC5 : W5.cell? ⟨b, 1, none⟩ = some (.slice A L.length c) ∧ W5.heap[bf]? = some (.cells GE.toArray 55) := ⟨cell_heap hS5.pull2.heap rfl, hS5.pull4.heap⟩
            refine fork_act rfl rfl (fun K' hK => wp_append_run _ _ _ rfl rfl rfl hr5' (hK _ _ hC5 ?_))
            clear hK K' hC5
            go_simp
            refine tree_leaf ?_
            have hS6 := hS5.alloc_ (.cells GE.toArray 55)
            have hC6 : (W5.alloc (.cells GE.toArray 55)).cell? ⟨b, 1, none⟩ = some (.slice A L.length c) ∧ (W5.alloc (.cells GE.toArray 55)).heap[bf]? = some (.cells GE.toArray 55) := ⟨cell_heap hS6.pull2.heap rfl, hS6.pull4.heap⟩
            obtain ⟨v9, W9, hr9, hA9⟩ := hS6.append (sz := 40) (m := 1) (news := GE) (t := 26) (ty := 26) (P := Tryz.prog) (x := .slice (some ⟨W5.heap.size, 0, none⟩) 1 1) Tryz.underlying26 hz1 hz3 (by decide) reads_new (by rw [HFO.out.2]) HFO.out.1 (by unfold maxLen; omega) (by omega)
            obtain ⟨A9, c9, rfl⟩ := hA9.arr_form
            refine ord_acts rfl rfl (fun K' hK => wp_buildSlice_one (v := .agg GE.toArray) (sz := 40) rfl rfl Tryz.underlying26 hz2 (by simp [Value.cells, HFO.out.2]) (by decide) (by decide) (hK _ _ hC6 ?_))
            clear hK K' hC6
            go_simp
            refine ord_seals rfl rfl (fun K' hK => wp_append_run _ _ _ rfl rfl rfl hr9 (hK (fun _ => True) _ _ trivial ?_))
            clear hK K'
            go_simp
            iterate 2 (refine ord_pure rfl rfl rfl (fun K' hK => ?_); go_big_quiet_op; refine hK _ ?_; clear hK K')
            obtain ⟨W10, hr10, hA10⟩ := one_store (o := 1) (ty := 26) (u := .slice A9 (L.length + 1) c9) hA9.pull2 (by kernel_rfl) (by simp) rfl rfl
            have hE := hA10.to (by ac_rfl : _ = arr 55 40 (.slice A L.length c) L.length (L.flatMap Flw.enc) • blk bf (.cells GE.toArray 55) • blk xb (.cells QE 37) • blk b (.cells (#[Value.int .i64 n, .slice A L.length c].setIfInBounds 1 (.slice A9 (L.length + 1) c9)) 28) • arr 55 40 (.slice A9 (L.length + 1) c9) (L.length + 1) (L.flatMap Flw.enc ++ GE) • blk (xb + 1) (.cells #[.int .i64 0, .int .i64 0, .bool false] 52) • F)
            have hE2 := Sat.gref_shut (n := n) (L := L2) (v := .slice A9 (L.length + 1) c9) (by rw [HFM.out.1, HFM.out.2]; exact hE.drop.drop.drop)
            obtain ⟨W30, hst, hS9⟩ := fail_store (c := 0) hE2.pull2 rfl
            have hld := fail_load hS9
            have HS9 := Lib.hid hS9.drop
            clear hS9 hE2 hE hA10 hA9 hS6 hS5 hDD
            refine ord_store rfl rfl rfl rfl (p := .pointer (some ⟨b, 1, none⟩)) (v := .slice A9 (L.length + 1) c9) rfl rfl hr10 (fun _ => True) trivial ?_
            go_simp
            refine ord_nil ?_
            go_wp2_with (refine wpList_store_run (t := 52) rfl rfl rfl rfl hst ?_)
            refine ret_cell rfl rfl hld rfl ?_
            rw [HRC.out.2, HBL.out]
            exact ⟨rfl, HS9.out⟩
          · have hS6 := Sat.arr_shut (n := 1) (cap := 1) (sz := 40) (xs := GE) (by decide) (by decide) (by simp [Value.cells, HFO.out.2]) (by rw [Nat.one_mul]; exact List.take_of_length_le (Nat.le_of_eq HFO.out.2)) (hDD.alloc (.cells (Value.agg GE.toArray).cells 55))
            have hC6 : (W0.alloc (.cells (Value.agg GE.toArray).cells 55)).cell? ⟨b, 1, none⟩ = some (.slice A L.length c) ∧ (W0.alloc (.cells (Value.agg GE.toArray).cells 55)).heap[bf]? = some (.cells GE.toArray 55) := ⟨cell_heap hS6.pull2.heap rfl, hS6.pull4.heap⟩
            refine fork_act rfl rfl (fun K' hK => wp_buildSlice_one (v := .agg GE.toArray) (sz := 40) rfl rfl Tryz.underlying26 hz2 (by simp [Value.cells, HFO.out.2]) (by decide) (by decide) (hK _ _ hC6 ?_))
            clear hK K' hC6
            generalize W0.heap.size = g8 at *
            generalize hV8 : W0.alloc (.cells (Value.agg GE.toArray).cells 55) = V8 at *
            obtain ⟨v5, W5, hr5', hS5⟩ := (arr_nil (e := 55) (sz := 40) hS6).append (m := L.length) (news := L.flatMap Flw.enc) (t := 26) (ty := 26) (P := Tryz.prog) (x := .slice A L.length c) Tryz.underlying26 hz1 hz3 (by decide) hS6.pull3.arr_reads (flat_flw L) (flat_flw_one L) (by unfold maxLen; omega) (by omega)
            rw [Nat.zero_add, List.nil_append] at hS5
            obtain ⟨A5, c5, rfl⟩ := hS5.arr_form
            have hC5 : W5.cell? ⟨b, 1, none⟩ = some (.slice A L.length c) ∧ W5.heap[bf]? = some (.cells GE.toArray 55) := ⟨cell_heap hS5.pull3.heap rfl, (hS5.to (by ac_rfl : _ = blk bf (.cells GE.toArray 55) • arr 55 40 (.slice A5 L.length c5) L.length (L.flatMap Flw.enc) • arr 55 40 (.slice (some ⟨g8, 0, none⟩) 1 1) 1 GE • blk b (.cells #[.int .i64 n, .slice A L.length c] 28) • arr 55 40 (.slice A L.length c) L.length (L.flatMap Flw.enc) • blk (xb + 1) (.cells #[.int .i64 0, .int .i64 0, .bool false] 52) • blk xb (.cells QE 37) • F)).heap⟩
            obtain ⟨v9, W9, hr9, hA9⟩ := hS5.append (sz := 40) (m := 1) (news := GE) (t := 26) (ty := 26) (P := Tryz.prog) (x := .slice (some ⟨g8, 0, none⟩) 1 1) Tryz.underlying26 hz1 hz3 (by decide) hS5.pull2.arr_reads (by rw [HFO.out.2]) HFO.out.1 (by unfold maxLen; omega) (by omega)
            obtain ⟨A9, c9, rfl⟩ := hA9.arr_form
            clear hV8
            go_simp
            refine tree_leaf ?_
            refine ord_acts rfl rfl (fun K' hK => wp_append_run _ _ _ rfl rfl rfl hr5' (hK _ _ hC5 ?_))
            clear hK K' hC5
            go_simp
            refine ord_seals rfl rfl (fun K' hK => wp_append_run _ _ _ rfl rfl rfl hr9 (hK (fun _ => True) _ _ trivial ?_))
            clear hK K'
            go_simp
            iterate 2 (refine ord_pure rfl rfl rfl (fun K' hK => ?_); go_big_quiet_op; refine hK _ ?_; clear hK K')
            obtain ⟨W10, hr10, hA10⟩ := one_store (o := 1) (ty := 26) (u := .slice A9 (L.length + 1) c9) hA9.pull3 (by kernel_rfl) (by simp) rfl rfl
            have hE := hA10.to (by ac_rfl : _ = arr 55 40 (.slice A L.length c) L.length (L.flatMap Flw.enc) • blk bf (.cells GE.toArray 55) • blk xb (.cells QE 37) • arr 55 40 (.slice (some ⟨g8, 0, none⟩) 1 1) 1 GE • blk b (.cells (#[Value.int .i64 n, .slice A L.length c].setIfInBounds 1 (.slice A9 (L.length + 1) c9)) 28) • arr 55 40 (.slice A9 (L.length + 1) c9) (L.length + 1) (L.flatMap Flw.enc ++ GE) • blk (xb + 1) (.cells #[.int .i64 0, .int .i64 0, .bool false] 52) • F)
            have hE2 := Sat.gref_shut (n := n) (L := L2) (v := .slice A9 (L.length + 1) c9) (by rw [HFM.out.1, HFM.out.2]; exact hE.drop.drop.drop.drop)
            obtain ⟨W30, hst, hS9⟩ := fail_store (c := 0) hE2.pull2 rfl
            have hld := fail_load hS9
            have HS9 := Lib.hid hS9.drop
            clear hS9 hE2 hE hA10 hA9 hS6 hS5 hDD
            refine ord_store rfl rfl rfl rfl (p := .pointer (some ⟨b, 1, none⟩)) (v := .slice A9 (L.length + 1) c9) rfl rfl hr10 (fun _ => True) trivial ?_
            go_simp
            refine ord_nil ?_
            go_wp2_with (refine wpList_store_run (t := 52) rfl rfl rfl rfl hst ?_)
            refine ret_cell rfl rfl hld rfl ?_
            rw [HRC.out.2, HBL.out]
            exact ⟨rfl, HS9.out⟩
    · have hc : begLC (roomOf n) L q flags = 19 := by unfold begLC; rw [hb, h3]; rfl
      have hr := begLL_not (now := now) (show begLC (roomOf n) L q flags ≠ 0 by rw [hc]; decide)
      rw [hr, hc]
      rw [h1] at c1
      have hkz : (0 : Int) ≤ k := by omega
      clear hr hc hb h3 h1
      go_enter Tryz.func19, Tryz.ntmps19
      go_wp2_with fail
      try rw [hxb]
      refine (cb _).mono ?_
      rintro e wx ⟨rfl, rfl⟩
      have hl1 := HLQ.out _ hX.pull2.heap
      go_wp2_with (refine wpList_load_run (t := 37) rfl rfl rfl hl1 ?_)
      refine (c1 _ hX).mono ?_
      rintro e w1 ⟨rfl, hS1⟩
      clear c1 hX hl1 dpr
      go_wp2_with fail
      refine (bare_any 19 _).mono ?_
      rintro e w8 ⟨rfl, hb8⟩
      obtain ⟨W9, hst, hS9⟩ := fail_store (c := 19) ((hS1.below_ hb8).pull3) rfl
      have hld := fail_load hS9
      have HS9 := Lib.hid hS9
      clear hS9 hS1
      go_wp2_with (refine wpList_store_run (t := 52) rfl rfl rfl rfl hst ?_)
      refine ret_cell rfl rfl hld rfl ?_
      exact ⟨rfl, (HS9.out.drop.pull2.drop)⟩
end
end Go.Proofs.YtepaanpdjadakaaGreatDoor

/-! The reference's flows: Expire, in plain words. -/
namespace Go.Proofs.YtepaanpdjadakaaGreatDoor
open Go Go.RowKit

def insL (S : List Flw) (x : Flw) : List Flw := (S.filter fun y => decide (y.due ≤ x.due)) ++ x :: S.filter fun y => decide (x.due < y.due)
def isrtL (l : List Flw) : List Flw := l.foldl insL []
def dueG (now : Int) (L : List Flw) : List Flw := isrtL (L.filter fun x => !decide (now < x.due))
def lateG (now : Int) (L : List Flw) : List Flw := L.filter fun x => decide (now < x.due)
theorem flws_ins (S : List FIt) (x : FIt) : flws (insR S x) = insL (flws S) (flwOf x) := by
  unfold insR insL flws
  rw [List.map_append, List.map_cons, List.filter_map, List.filter_map]
  rfl
theorem flws_fold : ∀ (l S : List FIt), flws (l.foldl insR S) = (flws l).foldl insL (flws S)
  | [], _ => rfl
  | x :: l, S => by
    rw [List.foldl_cons, flws_fold l, flws_ins]
    rfl
theorem flws_due (now : Int) (R : List FIt) : flws (dueF now R) = dueG now (flws R) := by
  unfold dueF isrt dueG isrtL
  rw [flws_fold]
  unfold flws
  rw [List.filter_map]
  rfl
theorem flws_late (now : Int) (R : List FIt) : flws (R.filter fun x => decide (now < x.due)) = lateG now (flws R) := by
  unfold lateG flws
  rw [List.filter_map]
  rfl
theorem mem_insL {S : List Flw} {x y : Flw} : y ∈ insL S x ↔ y ∈ S ∨ y = x := by
  unfold insL
  simp only [List.mem_append, List.mem_cons, List.mem_filter, decide_eq_true_eq]
  constructor
  · rintro (⟨h, _⟩ | rfl | ⟨h, _⟩)
    · exact .inl h
    · exact .inr rfl
    · exact .inl h
  · rintro (h | rfl)
    · by_cases e : y.due ≤ x.due
      · exact .inl ⟨h, e⟩
      · exact .inr (.inr ⟨h, by omega⟩)
    · exact .inr (.inl rfl)
theorem mem_foldL : ∀ {l S : List Flw} {y : Flw}, y ∈ l.foldl insL S ↔ y ∈ l ∨ y ∈ S
  | [], S, y => by simp
  | x :: l, S, y => by
    rw [List.foldl_cons, mem_foldL, mem_insL, List.mem_cons]
    constructor
    · rintro (h | h | h)
      · exact .inl (.inr h)
      · exact .inr h
      · exact .inl (.inl h)
    · rintro ((h | h) | h)
      · exact .inr (.inr h)
      · exact .inl h
      · exact .inr (.inl h)
theorem mem_isrtL {l : List Flw} {y : Flw} : y ∈ isrtL l ↔ y ∈ l := by unfold isrtL; rw [mem_foldL]; simp
theorem fold_front {m : Flw} : ∀ (C S : List Flw), (∀ c ∈ C, m.due ≤ c.due) → C.foldl insL (m :: S) = m :: C.foldl insL S
  | [], _, _ => rfl
  | c :: C, S, h => by
    rw [List.foldl_cons, List.foldl_cons]
    have hc := h c (List.mem_cons_self ..)
    have e : insL (m :: S) c = m :: insL S c := by
      unfold insL
      rw [List.filter_cons, List.filter_cons, if_pos (by simpa using hc), if_neg (by simpa using hc)]
      rfl
    rw [e]
    exact fold_front C _ fun x hx => h x (List.mem_cons_of_mem _ hx)
/-- The first of the least comes first. -/
theorem isrtL_first {A C : List Flw} {m : Flw} (hA : ∀ a ∈ A, m.due < a.due) (hC : ∀ c ∈ C, m.due ≤ c.due) : isrtL (A ++ m :: C) = m :: isrtL (A ++ C) := by
  unfold isrtL
  rw [List.foldl_append, List.foldl_cons, List.foldl_append]
  have e : insL (A.foldl insL []) m = m :: A.foldl insL [] := by
    have hm : ∀ y ∈ A.foldl insL [], m.due < y.due := fun y hy => hA y (mem_isrtL.1 hy)
    unfold insL
    rw [List.filter_eq_nil_iff.2 (fun y hy => by have := hm y hy; simp; omega), List.filter_eq_self.2 (fun y hy => by have := hm y hy; simpa using this)]
    rfl
  rw [e]
  exact fold_front C _ hC
/-- The best of the first ones. -/
def BestF (now : Int) (L : List Flw) (k : Nat) (v : Int) : Prop := (v = -1 ∧ ∀ j y, j < k → L[j]? = some y → now < y.due) ∨
  ∃ (m : Nat) (x : Flw), m < k ∧ v = m ∧ L[m]? = some x ∧ x.due ≤ now ∧ (∀ j y, j < m → L[j]? = some y → y.due ≤ now → x.due < y.due) ∧ ∀ j y, j < k → L[j]? = some y → y.due ≤ now → x.due ≤ y.due
theorem bestF_zero (now : Int) (L : List Flw) : BestF now L 0 (-1) := .inl ⟨rfl, fun _ _ h => absurd h (Nat.not_lt_zero _)⟩
section
variable {now : Int} {L : List Flw} {k m : Nat} {v : Int} {x y : Flw}
theorem BestF.late (h : BestF now L k v) (hy : L[k]? = some y) (hd : now < y.due) : BestF now L (k + 1) v := by
  rcases h with ⟨rfl, h⟩ | ⟨m, x, h1, h2, h3, h4, h5, h6⟩
  · refine .inl ⟨rfl, fun j z hj hz => ?_⟩
    by_cases e : j = k
    · subst e; rw [hy] at hz; cases hz; exact hd
    · exact h j z (by omega) hz
  · refine .inr ⟨m, x, by omega, h2, h3, h4, h5, fun j z hj hz hzn => ?_⟩
    by_cases e : j = k
    · subst e; rw [hy] at hz; cases hz; omega
    · exact h6 j z (by omega) hz hzn
theorem BestF.fresh (h : ∀ j y, j < k → L[j]? = some y → now < y.due) (hy : L[k]? = some y) (hd : y.due ≤ now) : BestF now L (k + 1) k := by
  refine .inr ⟨k, y, by omega, rfl, hy, hd, fun j z hj hz hzn => ?_, fun j z hj hz hzn => ?_⟩
  · have := h j z hj hz; omega
  · by_cases e : j = k
    · subst e; rw [hy] at hz; cases hz; omega
    · have := h j z (by omega) hz; omega
theorem BestF.better (h : ∀ j y, j < k → L[j]? = some y → y.due ≤ now → x.due ≤ y.due) (hy : L[k]? = some y) (hd : y.due ≤ now) (hlt : y.due < x.due) : BestF now L (k + 1) k := by
  refine .inr ⟨k, y, by omega, rfl, hy, hd, fun j z hj hz hzn => ?_, fun j z hj hz hzn => ?_⟩
  · have := h j z hj hz hzn; omega
  · by_cases e : j = k
    · subst e; rw [hy] at hz; cases hz; omega
    · have := h j z (by omega) hz hzn; omega
theorem BestF.worse (hm : m < k) (hx : L[m]? = some x) (hxn : x.due ≤ now) (h5 : ∀ j y, j < m → L[j]? = some y → y.due ≤ now → x.due < y.due) (h6 : ∀ j y, j < k → L[j]? = some y → y.due ≤ now → x.due ≤ y.due) (hy : L[k]? = some y) (hlt : ¬ y.due < x.due) : BestF now L (k + 1) m := by
  refine .inr ⟨m, x, by omega, rfl, hx, hxn, h5, fun j z hj hz hzn => ?_⟩
  by_cases e : j = k
  · subst e; rw [hy] at hz; cases hz; omega
  · exact h6 j z (by omega) hz hzn
theorem dueG_none (h : ∀ j y, j < L.length → L[j]? = some y → now < y.due) : dueG now L = [] ∧ lateG now L = L := by
  have hm : ∀ y ∈ L, now < y.due := fun y hy => by
    obtain ⟨j, hj⟩ := List.mem_iff_getElem?.1 hy
    exact h j y (List.getElem?_eq_some_iff.1 hj).1 hj
  constructor
  · unfold dueG
    rw [List.filter_eq_nil_iff.2 (fun y hy => by have := hm y hy; simp [this])]
    rfl
  · unfold lateG
    exact List.filter_eq_self.2 (fun y hy => by have := hm y hy; simpa using this)
/-- One is taken out. -/
theorem dueG_best (hn : KNL L) (hx : L[m]? = some x) (hxn : x.due ≤ now) (h5 : ∀ j y, j < m → L[j]? = some y → y.due ≤ now → x.due < y.due) (h6 : ∀ j y, j < L.length → L[j]? = some y → y.due ≤ now → x.due ≤ y.due) :
    dueG now L = x :: dueG now (delL L x.tup) ∧ lateG now (delL L x.tup) = lateG now L := by
  have hml := (List.getElem?_eq_some_iff.1 hx).1
  have hs : L = L.take m ++ x :: L.drop (m + 1) := by
    conv => lhs; rw [← List.take_append_drop m L, List.drop_eq_getElem_cons hml, (List.getElem?_eq_some_iff.1 hx).2]
  have hd := delL_at hn hx
  have hxl : (!decide (now < x.due)) = true := by simp; omega
  have e1 : L.filter (fun x => !decide (now < x.due)) = (L.take m).filter (fun x => !decide (now < x.due)) ++ x :: (L.drop (m + 1)).filter (fun x => !decide (now < x.due)) := by
    conv => lhs; rw [hs, List.filter_append, List.filter_cons, if_pos hxl]
  have e2 : (delL L x.tup).filter (fun x => !decide (now < x.due)) = (L.take m).filter (fun x => !decide (now < x.due)) ++ (L.drop (m + 1)).filter (fun x => !decide (now < x.due)) := by
    rw [← hd, List.filter_append]
  constructor
  · unfold dueG
    rw [e1, e2]
    refine isrtL_first ?_ ?_
    · intro a ha
      rw [List.mem_filter] at ha
      obtain ⟨j, hj⟩ := List.mem_iff_getElem?.1 ha.1
      have hjm : j < m := by have := (List.getElem?_eq_some_iff.1 hj).1; rw [List.length_take] at this; omega
      rw [List.getElem?_take_of_lt hjm] at hj
      exact h5 j a hjm hj (by have := ha.2; simp at this; omega)
    · intro a ha
      rw [List.mem_filter] at ha
      obtain ⟨j, hj⟩ := List.mem_iff_getElem?.1 ha.1
      rw [List.getElem?_drop] at hj
      exact h6 _ a (List.getElem?_eq_some_iff.1 hj).1 hj (by have := ha.2; simp at this; omega)
  · unfold lateG
    rw [← hd]
    conv => rhs; rw [hs]
    rw [List.filter_append, List.filter_append, List.filter_cons, if_neg (by simpa using hxn)]
end
end Go.Proofs.YtepaanpdjadakaaGreatDoor

/-! The reference's flows: Expire, the walk. -/
namespace Go.Proofs.YtepaanpdjadakaaGreatDoor
open Go Go.RowKit

attribute [local irreducible] wpOrd
theorem tup_zero : ∃ z, (Tryz.prog.info? 37).map (fun i => (i.zero, i.size, i.bytes)) = some (some z, 37, 64) ∧ (Tryz.prog.info? 37).map (fun i => (i.zero, i.size)) = some (some z, 37) ∧ z.cells.size = 37 := by
  obtain ⟨i, hi, hz⟩ := Option.map_eq_some_iff.1 (show (Tryz.prog.info? 37).map (fun i => (i.zero.map fun z => z.cells.size, i.size, i.bytes)) = some (some 37, 37, 64) by kernel_rfl)
  simp only [Prod.mk.injEq] at hz
  obtain ⟨z, hz1, hz2⟩ := Option.map_eq_some_iff.1 hz.1
  exact ⟨z, by simp [hi, hz1, hz.2], by simp [hi, hz1, hz.2], hz2⟩
section
variable {B : Nat} {w0 w w' : World} {F : HP} {b : Nat} {n : Int} {L : List Flw} {v : Value}
set_option maxRecDepth 8000 in
set_option maxHeartbeats 32000000 in
theorem gExpire_any (h : Sat B w0 w (gref b n L • F)) (hl : L.length ≤ 1000) (hn : KNL L) (now : Int) : Calls Tryz.prog 14 #[.pointer (some ⟨b, 0, none⟩), .int .u64 now] w fun e w' =>
    ∃ v, e = .returned v ∧ Sat B w0 w' (arr 37 37 v (dueG now L).length (((dueG now L).map (·.tup)).flatMap Tup.enc) • gref b n (lateG now L) • F) := by
  obtain ⟨R1, hR1⟩ : ∃ R1, R1 = dueG now L := ⟨_, rfl⟩
  obtain ⟨R2, hR2⟩ : ∃ R2, R2 = lateG now L := ⟨_, rfl⟩
  rw [← hR1, ← hR2]
  have hA := arr_nil (e := 37) (sz := 37) h
  have HI : Hid (([] : List Flw) ++ dueG now L = R1 ∧ lateG now L = R2 ∧ KNL L) := Lib.hid ⟨hR1.symm, hR2.symm, hn⟩
  clear h hn hR1 hR2
  go_enter Tryz.func14, Tryz.ntmps14
  go_wp2_with fail
  go_loopw [5] (fun v wr => ∃ (D Lc : List Flw), D.length + Lc.length ≤ 1000 ∧ Sat B w0 wr (arr 37 37 v D.length ((D.map (·.tup)).flatMap Tup.enc) • gref b n Lc • F) ∧ Hid (D ++ dueG now Lc = R1 ∧ lateG now Lc = R2 ∧ KNL Lc)) (fun v _ => 2000 - lenV v)
  case atStart => exact ⟨[], L, by simpa using hl, hA, HI⟩
  case round =>
    clear hA HI hl
    obtain ⟨D, Lc, hDl, hS, HK⟩ := hrel
    obtain ⟨A, c, hv⟩ := hS.arr_form
    subst hv
    obtain ⟨A2, c2, hG0⟩ := hS.pull2.gref_open
    have hG := hG0.to (by ac_rfl : _ = blk b (.cells #[.int .i64 n, .slice A2 Lc.length c2] 28) • arr 55 40 (.slice A2 Lc.length c2) Lc.length (Lc.flatMap Flw.enc) • arr 37 37 (.slice A D.length c) D.length ((D.map (·.tup)).flatMap Tup.enc) • F)
    clear hS hG0
    go_wp2_with fail
    go_loopw [6, 7] (fun bb ii wr => ∃ (k : Nat) (v : Int), k ≤ Lc.length ∧ ii = .int .i64 k ∧ bb = .int .i64 v ∧ Sat B w0 wr (blk b (.cells #[.int .i64 n, .slice A2 Lc.length c2] 28) • arr 55 40 (.slice A2 Lc.length c2) Lc.length (Lc.flatMap Flw.enc) • arr 37 37 (.slice A D.length c) D.length ((D.map (·.tup)).flatMap Tup.enc) • F) ∧ Hid (BestF now Lc k v)) (fun _ ii _ => Lc.length - (intOf ii).toNat)
    case atStart => exact ⟨0, -1, Nat.zero_le _, rfl, rfl, hG, Lib.hid (bestF_zero _ _)⟩
    case round =>
      clear hG
      obtain ⟨k, v, hk, rfl, rfl, hG, HB⟩ := hrel
      have d1 : wr.cell? ⟨b, 1, none⟩ = some (.slice A2 Lc.length c2) := cell_heap hG.heap rfl
      by_cases hlt : k < Lc.length
      · have hltz : (k : Int) < Lc.length := by omega
        obtain ⟨y, hyk⟩ : ∃ y, Lc[k]? = some y := ⟨_, List.getElem?_eq_getElem hlt⟩
        obtain ⟨g, rfl, _, _⟩ := hG.pull2.arr_at Flw.enc_length rfl hyk
        have dk := (row_flw hyk hG.pull2).2.2
        have HY := Lib.hid hyk
        have hD := hG.drew
        clear hyk
        by_cases hd : now < y.due
        · have hd' : decide (y.due ≤ now) = false := decide_eq_false (by omega)
          have HD' := Lib.hid hd
          clear hG hd
          go_wp2_with fail
          try go_frame
          refine wp_region_ord [(0, .pure), (1, .pure), (2, .pure), (3, .quiet), (4, .pure), (5, .pure), (6, .pure), (7, .quiet), (8, .pure), (9, .pure), (10, .pure), (11, .pure), (12, .pure), (13, .pure), (14, .pure), (15, .pure), (16, .pure), (17, .quiet), (18, .pure), (19, .pure), (20, .pure), (21, .quiet), (22, .pure), (23, .pure), (24, .pure), (25, .quiet), (26, .pure), (27, .pure), (28, .pure), (29, .quiet), (30, .pure), (31, .pure), (32, .pure)] (by kernel_rfl) (by kernel_rfl)
            (fun w' => ∀ p, w'.cell? p = wr.cell? p) (fun _ => rfl) ?_
          iterate 3 (refine ord_pure rfl rfl rfl (fun K' hK => ?_); go_big_quiet_op; refine hK _ ?_; clear hK K')
          refine ord_load (t := 26) rfl rfl rfl (p := .pointer (some ⟨b, 1, none⟩)) (v := .slice (some ⟨g, 0, none⟩) Lc.length c2) rfl (fun w' hC => load_one Tryz.underlying26 rfl (by rw [hC]; exact d1)) (fun K' hK => ?_)
          go_simp
          refine hK _ ?_
          clear hK K'
          iterate 3 (refine ord_pure rfl rfl rfl (fun K' hK => ?_); go_big_quiet_op; refine hK _ ?_; clear hK K')
          refine ord_load (t := 30) rfl rfl rfl (p := .pointer (some ⟨g, k * 40 + 39, none⟩)) (v := .int .u64 y.due) rfl (fun w' hC => load_one Tryz.underlying30 rfl (by rw [hC]; exact dk)) (fun K' hK => ?_)
          go_simp
          refine hK _ ?_
          clear hK K'
          iterate 3 (refine ord_pure rfl rfl rfl (fun K' hK => ?_); go_big_quiet_op; refine hK _ ?_; clear hK K')
          iterate 21 (refine ord_skip' rfl rfl (fun K' hK => ?_); go_simp; refine hK _ ?_; clear hK K')
          iterate 1 (refine ord_pure rfl rfl rfl (fun K' hK => ?_); go_big_quiet_op; refine hK _ ?_; clear hK K')
          refine ord_nil ?_
          go_wp2_with fail
          go_roundw
          case rel => exact ⟨k + 1, v, by omega, by go_num, rfl, hD, Lib.hid (HB.out.late HY.out HD'.out)⟩
          case measure => simp [intOf]; omega
        · have hd' : decide (y.due ≤ now) = true := decide_eq_true (by omega)
          have HD' : Hid (y.due ≤ now) := Lib.hid (by omega)
          clear hd
          rcases HB.out with ⟨rfl, hno⟩ | ⟨m, x, hm, rfl, hxm, hxn, h5, h6⟩
          · have HNO := Lib.hid hno
            clear hno HB hG
            go_wp2_with fail
            try go_frame
            refine wp_region_ord [(0, .pure), (1, .pure), (2, .pure), (3, .quiet), (4, .pure), (5, .pure), (6, .pure), (7, .quiet), (8, .pure), (9, .pure), (10, .pure), (11, .pure), (12, .pure), (13, .pure), (14, .pure), (15, .pure), (16, .pure), (17, .quiet), (18, .pure), (19, .pure), (20, .pure), (21, .quiet), (22, .pure), (23, .pure), (24, .pure), (25, .quiet), (26, .pure), (27, .pure), (28, .pure), (29, .quiet), (30, .pure), (31, .pure), (32, .pure)] (by kernel_rfl) (by kernel_rfl)
              (fun w' => ∀ p, w'.cell? p = wr.cell? p) (fun _ => rfl) ?_
            iterate 3 (refine ord_pure rfl rfl rfl (fun K' hK => ?_); go_big_quiet_op; refine hK _ ?_; clear hK K')
            refine ord_load (t := 26) rfl rfl rfl (p := .pointer (some ⟨b, 1, none⟩)) (v := .slice (some ⟨g, 0, none⟩) Lc.length c2) rfl (fun w' hC => load_one Tryz.underlying26 rfl (by rw [hC]; exact d1)) (fun K' hK => ?_)
            go_simp
            refine hK _ ?_
            clear hK K'
            iterate 3 (refine ord_pure rfl rfl rfl (fun K' hK => ?_); go_big_quiet_op; refine hK _ ?_; clear hK K')
            refine ord_load (t := 30) rfl rfl rfl (p := .pointer (some ⟨g, k * 40 + 39, none⟩)) (v := .int .u64 y.due) rfl (fun w' hC => load_one Tryz.underlying30 rfl (by rw [hC]; exact dk)) (fun K' hK => ?_)
            go_simp
            refine hK _ ?_
            clear hK K'
            iterate 6 (refine ord_pure rfl rfl rfl (fun K' hK => ?_); go_big_quiet_op; refine hK _ ?_; clear hK K')
            iterate 17 (refine ord_skip' rfl rfl (fun K' hK => ?_); go_simp; refine hK _ ?_; clear hK K')
            iterate 2 (refine ord_pure rfl rfl rfl (fun K' hK => ?_); go_big_quiet_op; refine hK _ ?_; clear hK K')
            refine ord_nil ?_
            go_wp2_with fail
            go_roundw
            case rel => exact ⟨k + 1, k, by omega, by go_num, rfl, hD, Lib.hid (BestF.fresh HNO.out HY.out HD'.out)⟩
            case measure => simp [intOf]; omega
          · have hml : m < Lc.length := by omega
            have hmz : (m : Int) < Lc.length := by omega
            have hm0 : decide ((m : Int) < 0) = false := decide_eq_false (by omega)
            have dm := (row_flw hxm hG.pull2).2.2
            have HX := Lib.hid hxm
            have H5 := Lib.hid h5
            have H6 := Lib.hid h6
            have HXN := Lib.hid hxn
            clear hxm h5 h6 hxn HB hG
            by_cases hlt2 : y.due < x.due
            · have hl2 : decide (y.due < x.due) = true := decide_eq_true hlt2
              have HL2 := Lib.hid hlt2
              go_wp2_with fail
              try go_frame
              refine wp_region_ord [(0, .pure), (1, .pure), (2, .pure), (3, .quiet), (4, .pure), (5, .pure), (6, .pure), (7, .quiet), (8, .pure), (9, .pure), (10, .pure), (11, .pure), (12, .pure), (13, .pure), (14, .pure), (15, .pure), (16, .pure), (17, .quiet), (18, .pure), (19, .pure), (20, .pure), (21, .quiet), (22, .pure), (23, .pure), (24, .pure), (25, .quiet), (26, .pure), (27, .pure), (28, .pure), (29, .quiet), (30, .pure), (31, .pure), (32, .pure)] (by kernel_rfl) (by kernel_rfl)
                (fun w' => ∀ p, w'.cell? p = wr.cell? p) (fun _ => rfl) ?_
              iterate 3 (refine ord_pure rfl rfl rfl (fun K' hK => ?_); go_big_quiet_op; refine hK _ ?_; clear hK K')
              refine ord_load (t := 26) rfl rfl rfl (p := .pointer (some ⟨b, 1, none⟩)) (v := .slice (some ⟨g, 0, none⟩) Lc.length c2) rfl (fun w' hC => load_one Tryz.underlying26 rfl (by rw [hC]; exact d1)) (fun K' hK => ?_)
              go_simp
              refine hK _ ?_
              clear hK K'
              iterate 3 (refine ord_pure rfl rfl rfl (fun K' hK => ?_); go_big_quiet_op; refine hK _ ?_; clear hK K')
              refine ord_load (t := 30) rfl rfl rfl (p := .pointer (some ⟨g, k * 40 + 39, none⟩)) (v := .int .u64 y.due) rfl (fun w' hC => load_one Tryz.underlying30 rfl (by rw [hC]; exact dk)) (fun K' hK => ?_)
              go_simp
              refine hK _ ?_
              clear hK K'
              iterate 9 (refine ord_pure rfl rfl rfl (fun K' hK => ?_); go_big_quiet_op; refine hK _ ?_; clear hK K')
              refine ord_load (t := 26) rfl rfl rfl (p := .pointer (some ⟨b, 1, none⟩)) (v := .slice (some ⟨g, 0, none⟩) Lc.length c2) rfl (fun w' hC => load_one Tryz.underlying26 rfl (by rw [hC]; exact d1)) (fun K' hK => ?_)
              go_simp
              refine hK _ ?_
              clear hK K'
              iterate 3 (refine ord_pure rfl rfl rfl (fun K' hK => ?_); go_big_quiet_op; refine hK _ ?_; clear hK K')
              refine ord_load (t := 30) rfl rfl rfl (p := .pointer (some ⟨g, k * 40 + 39, none⟩)) (v := .int .u64 y.due) rfl (fun w' hC => load_one Tryz.underlying30 rfl (by rw [hC]; exact dk)) (fun K' hK => ?_)
              go_simp
              refine hK _ ?_
              clear hK K'
              iterate 3 (refine ord_pure rfl rfl rfl (fun K' hK => ?_); go_big_quiet_op; refine hK _ ?_; clear hK K')
              refine ord_load (t := 26) rfl rfl rfl (p := .pointer (some ⟨b, 1, none⟩)) (v := .slice (some ⟨g, 0, none⟩) Lc.length c2) rfl (fun w' hC => load_one Tryz.underlying26 rfl (by rw [hC]; exact d1)) (fun K' hK => ?_)
              go_simp
              refine hK _ ?_
              clear hK K'
              iterate 3 (refine ord_pure rfl rfl rfl (fun K' hK => ?_); go_big_quiet_op; refine hK _ ?_; clear hK K')
              refine ord_load (t := 30) rfl rfl rfl (p := .pointer (some ⟨g, m * 40 + 39, none⟩)) (v := .int .u64 x.due) rfl (fun w' hC => load_one Tryz.underlying30 rfl (by rw [hC]; exact dm)) (fun K' hK => ?_)
              go_simp
              refine hK _ ?_
              clear hK K'
              iterate 3 (refine ord_pure rfl rfl rfl (fun K' hK => ?_); go_big_quiet_op; refine hK _ ?_; clear hK K')
              refine ord_nil ?_
              go_wp2_with fail
              go_roundw
              case rel => exact ⟨k + 1, k, by omega, by go_num, rfl, hD, Lib.hid (BestF.better (x := x) H6.out HY.out HD'.out HL2.out)⟩
              case measure => simp [intOf]; omega
            · have hl2 : decide (y.due < x.due) = false := decide_eq_false hlt2
              have HL2 := Lib.hid hlt2
              go_wp2_with fail
              try go_frame
              refine wp_region_ord [(0, .pure), (1, .pure), (2, .pure), (3, .quiet), (4, .pure), (5, .pure), (6, .pure), (7, .quiet), (8, .pure), (9, .pure), (10, .pure), (11, .pure), (12, .pure), (13, .pure), (14, .pure), (15, .pure), (16, .pure), (17, .quiet), (18, .pure), (19, .pure), (20, .pure), (21, .quiet), (22, .pure), (23, .pure), (24, .pure), (25, .quiet), (26, .pure), (27, .pure), (28, .pure), (29, .quiet), (30, .pure), (31, .pure), (32, .pure)] (by kernel_rfl) (by kernel_rfl)
                (fun w' => ∀ p, w'.cell? p = wr.cell? p) (fun _ => rfl) ?_
              iterate 3 (refine ord_pure rfl rfl rfl (fun K' hK => ?_); go_big_quiet_op; refine hK _ ?_; clear hK K')
              refine ord_load (t := 26) rfl rfl rfl (p := .pointer (some ⟨b, 1, none⟩)) (v := .slice (some ⟨g, 0, none⟩) Lc.length c2) rfl (fun w' hC => load_one Tryz.underlying26 rfl (by rw [hC]; exact d1)) (fun K' hK => ?_)
              go_simp
              refine hK _ ?_
              clear hK K'
              iterate 3 (refine ord_pure rfl rfl rfl (fun K' hK => ?_); go_big_quiet_op; refine hK _ ?_; clear hK K')
              refine ord_load (t := 30) rfl rfl rfl (p := .pointer (some ⟨g, k * 40 + 39, none⟩)) (v := .int .u64 y.due) rfl (fun w' hC => load_one Tryz.underlying30 rfl (by rw [hC]; exact dk)) (fun K' hK => ?_)
              go_simp
              refine hK _ ?_
              clear hK K'
              iterate 9 (refine ord_pure rfl rfl rfl (fun K' hK => ?_); go_big_quiet_op; refine hK _ ?_; clear hK K')
              refine ord_load (t := 26) rfl rfl rfl (p := .pointer (some ⟨b, 1, none⟩)) (v := .slice (some ⟨g, 0, none⟩) Lc.length c2) rfl (fun w' hC => load_one Tryz.underlying26 rfl (by rw [hC]; exact d1)) (fun K' hK => ?_)
              go_simp
              refine hK _ ?_
              clear hK K'
              iterate 3 (refine ord_pure rfl rfl rfl (fun K' hK => ?_); go_big_quiet_op; refine hK _ ?_; clear hK K')
              refine ord_load (t := 30) rfl rfl rfl (p := .pointer (some ⟨g, k * 40 + 39, none⟩)) (v := .int .u64 y.due) rfl (fun w' hC => load_one Tryz.underlying30 rfl (by rw [hC]; exact dk)) (fun K' hK => ?_)
              go_simp
              refine hK _ ?_
              clear hK K'
              iterate 3 (refine ord_pure rfl rfl rfl (fun K' hK => ?_); go_big_quiet_op; refine hK _ ?_; clear hK K')
              refine ord_load (t := 26) rfl rfl rfl (p := .pointer (some ⟨b, 1, none⟩)) (v := .slice (some ⟨g, 0, none⟩) Lc.length c2) rfl (fun w' hC => load_one Tryz.underlying26 rfl (by rw [hC]; exact d1)) (fun K' hK => ?_)
              go_simp
              refine hK _ ?_
              clear hK K'
              iterate 3 (refine ord_pure rfl rfl rfl (fun K' hK => ?_); go_big_quiet_op; refine hK _ ?_; clear hK K')
              refine ord_load (t := 30) rfl rfl rfl (p := .pointer (some ⟨g, m * 40 + 39, none⟩)) (v := .int .u64 x.due) rfl (fun w' hC => load_one Tryz.underlying30 rfl (by rw [hC]; exact dm)) (fun K' hK => ?_)
              go_simp
              refine hK _ ?_
              clear hK K'
              iterate 3 (refine ord_pure rfl rfl rfl (fun K' hK => ?_); go_big_quiet_op; refine hK _ ?_; clear hK K')
              refine ord_nil ?_
              go_wp2_with fail
              go_roundw
              case rel => exact ⟨k + 1, m, by omega, by go_num, rfl, hD, Lib.hid (BestF.worse hm HX.out HXN.out H5.out H6.out HY.out (by have := HL2.out; omega))⟩
              case measure => simp [intOf]; omega
      · obtain rfl : k = Lc.length := by omega
        have hltz : ¬ (Lc.length : Int) < Lc.length := by omega
        rcases HB.out with ⟨rfl, hno⟩ | ⟨m, x, hm, rfl, hxm, hxn, h5, h6⟩
        · obtain ⟨e1, e2⟩ := dueG_none hno
          have h7 := HK.out.1
          rw [e1, List.append_nil] at h7
          have h8 := HK.out.2.1
          rw [e2] at h8
          have hE : Sat B w0 wr (arr 37 37 (.slice A D.length c) R1.length ((R1.map (·.tup)).flatMap Tup.enc) • gref b n R2 • F) := by
            rw [← h7, ← h8]
            exact (Sat.gref_shut hG).pull2
          have HE := Lib.hid hE
          clear hG hE h7 h8 e1 e2 hno HB HK
          go_wp2_with fail
          go_ret
          exact ⟨_, rfl, HE.out⟩
        · have hmz : (m : Int) < Lc.length := by omega
          have hm0 : ¬ (m : Int) < 0 := by omega
          obtain ⟨g, rfl, _, _⟩ := hG.pull2.arr_at Flw.enc_length rfl hxm
          have hlt7 := (row_flw hxm hG.pull2).1
          obtain ⟨e1, e2⟩ := dueG_best HK.out.2.2 hxm hxn h5 h6
          have hlen : (delL Lc x.tup).length + 1 = Lc.length := by
            rw [← delL_at HK.out.2.2 hxm, List.length_append, List.length_take, List.length_drop]; omega
          have HE1 := Lib.hid (And.intro e1 e2)
          have HLEN := Lib.hid hlen
          have hst : ∀ (W : World) (z : Array Value), z.size = 37 → (Instr.storeAt 37 (.pointer (some ⟨W.heap.size, 0, none⟩)) (.agg x.tup.enc.toArray)).run Tryz.prog (W.alloc (.cells z 37)) = .ok () (W.alloc (.cells x.tup.enc.toArray 37)) :=
            fun W z hz => run_storeAt_new (v := .agg x.tup.enc.toArray) (by simp only [Value.cells, List.size_toArray, Tup.enc_length]; kernel_rfl) (by simp only [Value.cells, List.size_toArray, Tup.enc_length]; exact hz) (by simpa [Value.cells] using x.tup.enc_one)
          have hX7 := hG.alloc (.cells x.tup.enc.toArray 37)
          have hlx : ∀ W, W.heap[wr.heap.size]? = some (.cells x.tup.enc.toArray 37) → (Instr.loadAt 37 (.pointer (some ⟨wr.heap.size, 0, none⟩))).run Tryz.prog W = .ok (.agg x.tup.enc.toArray) W :=
            fun W h => run_loadAt_row h Tryz.underlying37 rfl (by rw [Tup.enc_length]; kernel_rfl) (fun j u hu => by simpa using hu)
          have HLX := Lib.hid hlx
          obtain ⟨z, hz1, hz2, hz3⟩ := tup_zero
          have HFL : Hid ((Value.agg x.tup.enc.toArray).cells.size = 37 ∧ x.tup.enc.length = 37 ∧ ∀ u ∈ x.tup.enc, u.oneCell' = true) := Lib.hid ⟨by simp [Value.cells, Tup.enc_length], Tup.enc_length _, x.tup.enc_one⟩
          have hcr := fun (W : World) (hW : Sat B w0 W (gref b n Lc • arr 37 37 (.slice A D.length c) D.length ((D.map (·.tup)).flatMap Tup.enc) • F)) => True
          have HREM := Lib.hid (fun (W : World) (G : HP) (hW : Sat B w0 W (gref b n Lc • G)) => gRemove_any hW (by omega) HK.out.2.2 x.tup)
          clear hcr hlx hG hxm hxn h5 h6 e1 e2 hlen HB
          generalize hbx : wr.heap.size = bx at *
          generalize hWx : wr.alloc (.cells x.tup.enc.toArray 37) = wx at *
          have HBX := Lib.hid hbx
          have HWX := Lib.hid hWx
          obtain ⟨XE, hXE⟩ : ∃ XE, XE = x.tup.enc.toArray := ⟨_, rfl⟩
          have hXL : x.tup.enc = XE.toList := by rw [hXE]
          rw [← hXE] at hlt7 hst hX7 HLX HFL HREM
          have HXE := Lib.hid hXE
          clear hbx hWx hXE
          go_wp2_with (refine wpList_load_run (t := 37) rfl rfl rfl hlt7 (stop_ ?_))
          unfold Stop
          go_wp2_with (refine wpList_store_run (t := 37) rfl rfl rfl rfl (hst _ _ rfl) (stop_ ?_))
          unfold Stop
          rw [HXE.out]
          try rw [HWX.out]
          try rw [HBX.out]
          rw [← HXE.out]
          clear hlt7 hst HBX HWX
          have hlx1 := HLX.out _ hX7.heap
          have hY := (hX7.to (by ac_rfl : _ = arr 37 37 (.slice A D.length c) D.length ((D.map (·.tup)).flatMap Tup.enc) • blk bx (.cells XE 37) • blk b (.cells #[.int .i64 n, .slice (some ⟨g, 0, none⟩) Lc.length c2] 28) • arr 55 40 (.slice (some ⟨g, 0, none⟩) Lc.length c2) Lc.length (Lc.flatMap Flw.enc) • F)).alloc_ (.cells XE 37)
          have hrn : Reads (wx.alloc (.cells XE 37)) (.slice (some ⟨wx.heap.size, 0, none⟩) 1 1) 1 x.tup.enc := by rw [HXE.out]; exact reads_new
          obtain ⟨v8, w8, hrun, hS8⟩ := hY.append (m := 1) (news := x.tup.enc) (t := 43) (ty := 43) (P := Tryz.prog) (x := .slice (some ⟨wx.heap.size, 0, none⟩) 1 1) Tryz.underlying43 hz1 hz3 (by decide) hrn (by rw [HFL.out.2.1]) HFL.out.2.2 (by unfold maxLen; omega) (by omega)
          have htk : (D.map (·.tup)).flatMap Tup.enc ++ x.tup.enc = ((D ++ [x]).map (·.tup)).flatMap Tup.enc := by rw [List.map_append, List.flatMap_append]; simp
          have hdl : (D ++ [x]).length = D.length + 1 := by simp
          rw [htk] at hS8
          obtain ⟨A8, c8, rfl⟩ := hS8.arr_form
          have hlx2 := HLX.out _ hS8.pull2.heap
          have hS9 : Sat B w0 w8 (gref b n Lc • (arr 37 37 (.slice A8 (D.length + 1) c8) (D.length + 1) (((D ++ [x]).map (·.tup)).flatMap Tup.enc) • blk bx (.cells XE 37) • F)) := Sat.gref_shut (hS8.to (by ac_rfl))
          have c9 := HREM.out _ _ hS9
          have HDL := Lib.hid hdl
          clear hS8 hS9 htk hX7 hY hrn hdl
          go_wp2_with (refine wpList_load_run (t := 37) rfl rfl rfl hlx1 (stop_ ?_))
          unfold Stop
          go_simp
          refine wpList_buildSlice_one (v := .agg XE) rfl rfl rfl Tryz.underlying43 hz2 HFL.out.1 (by decide) (by decide) ?_
          go_simp
          refine wpList_append_run rfl _ _ _ rfl rfl rfl hrun ?_
          go_wp2_with (refine wpList_load_run (t := 37) rfl rfl rfl hlx2 (stop_ ?_))
          unfold Stop
          go_wp2_with fail
          refine c9.mono ?_
          rintro e w9 ⟨rfl, hS10⟩
          have hS11 := hS10.to (by ac_rfl : _ = blk bx (.cells XE 37) • arr 37 37 (.slice A8 (D.length + 1) c8) (D.length + 1) (((D ++ [x]).map (·.tup)).flatMap Tup.enc) • gref b n (delL Lc x.tup) • F)
          have HS11 := Lib.hid hS11.drop
          clear c9 hS10 hS11
          go_wp2_with fail
          go_roundw
          case rel => exact ⟨D ++ [x], delL Lc x.tup, by rw [HDL.out]; have := HLEN.out; omega, by rw [HDL.out]; exact HS11.out, Lib.hid ⟨by rw [List.append_assoc, List.singleton_append, ← HE1.out.1]; exact HK.out.1, by rw [HE1.out.2]; exact HK.out.2.1, HK.out.2.2.del _⟩⟩
          case measure => simp [lenV]; omega
end
end Go.Proofs.YtepaanpdjadakaaGreatDoor
