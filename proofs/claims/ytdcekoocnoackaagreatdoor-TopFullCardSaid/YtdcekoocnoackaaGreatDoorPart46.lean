import Derived.Test.YtdcekoocnoackaaGreatDoorPart03
import Derived.Test.YtdcekoocnoackaaGreatDoorPart45

/-! A region that draws its order, where acts that are not bound to each other come in any order: each is walked. -/
namespace Go.Proofs.YtdcekoocnoackaaGreatDoor
open Go

inductive Tree
  | leaf (ord : List (Nat × How))
  | two (ord : List (Nat × How)) (i : Nat) (t : Tree) (j : Nat) (u : Tree)
  | three (ord : List (Nat × How)) (i : Nat) (t : Tree) (j : Nat) (u : Tree) (k : Nat) (v : Tree)
def Tree.len : Tree → Nat
  | .leaf ord => ord.length
  | .two ord _ t _ _ => ord.length + (t.len + 1)
  | .three ord _ t _ _ _ _ => ord.length + (t.len + 1)

section
variable {P : Program} {ops : Array Oper} {md : Region.Mode}

/-- The prefix: no seals. -/
def checkPre (md : Region.Mode) (ops : Array Oper) (seals : List Nat) : List (Nat × How) → Array Bool → Bool
  | [], _ => true
  | (i, k) :: rest, listed =>
    (match k with
     | .pure => (Region.ready md ops listed).contains i && Region.free md ops listed i && !seals.contains i
     | .quiet => (Region.ready md ops listed).contains i && Region.free md ops listed i && !seals.contains i && seals.all fun j => listed.getD j false || aheadB md ops i j
     | .acts => (Region.ready md ops listed == [i]) && !seals.contains i
     | .seals => false) &&
    checkPre md ops seals rest (listed.setIfInBounds i true)
def behind : List (Nat × How) → Array Bool → Array Bool
  | [], l => l
  | (i, _) :: rest, l => behind rest (l.setIfInBounds i true)
def checkTree (md : Region.Mode) (ops : Array Oper) (seals : List Nat) : Tree → Array Bool → Bool
  | .leaf ord, l => checkFrom md ops seals ord l
  | .two ord i t j u, l => checkPre md ops seals ord l && (Region.ready md ops (behind ord l) == [i, j]) && !seals.contains i && !seals.contains j && (t.len == u.len) &&
      checkTree md ops seals t ((behind ord l).setIfInBounds i true) && checkTree md ops seals u ((behind ord l).setIfInBounds j true)
  | .three ord i t j u k v, l => checkPre md ops seals ord l && (Region.ready md ops (behind ord l) == [i, j, k]) && !seals.contains i && !seals.contains j && !seals.contains k && (t.len == u.len) && (t.len == v.len) &&
      checkTree md ops seals t ((behind ord l).setIfInBounds i true) && checkTree md ops seals u ((behind ord l).setIfInBounds j true) && checkTree md ops seals v ((behind ord l).setIfInBounds k true)

def wpTree (P : Program) (ops : Array Oper) (K : Act → World → Prop) (C : World → Prop) : Tree → Act → World → Prop
  | .leaf ord, a, w => wpOrd P ops K C ord a w
  | .two ord i t j u, a, w => wpOrd P ops (fun a w => wpOp P ops NoQ i (fun a' w' => C w' ∧ wpTree P ops K C t a' w') a w ∧ wpOp P ops NoQ j (fun a' w' => C w' ∧ wpTree P ops K C u a' w') a w) C ord a w
  | .three ord i t j u k v, a, w => wpOrd P ops (fun a w => wpOp P ops NoQ i (fun a' w' => C w' ∧ wpTree P ops K C t a' w') a w ∧ wpOp P ops NoQ j (fun a' w' => C w' ∧ wpTree P ops K C u a' w') a w ∧ wpOp P ops NoQ k (fun a' w' => C w' ∧ wpTree P ops K C v a' w') a w) C ord a w

theorem wpAnyC_pre {K K' : Act → World → Prop} {seals : List Nat} {n : Nat} {C : World → Prop} (hsel : Region.noSelect ops = true) : ∀ (ord : List (Nat × How)) (listed : Array Bool) (a : Act) (w : World),
    Closed md ops listed → checkPre md ops seals ord listed = true → C w → wpOrd P ops K' C ord a w →
    (∀ a w, Closed md ops (behind ord listed) → C w → K' a w → wpAnyC P md ops K (seals.contains ·) n C (behind ord listed) a w) →
    wpAnyC P md ops K (seals.contains ·) (ord.length + n) C listed a w := by
  intro ord
  induction ord with
  | nil =>
    intro listed a w hcl _ hC h hend
    rw [List.length_nil, Nat.zero_add]
    exact hend a w hcl hC h
  | cons p rest ih =>
    intro listed a w hcl hch hC h hend
    obtain ⟨i, k⟩ := p
    simp only [checkPre, Bool.and_eq_true] at hch
    obtain ⟨hk, hrest⟩ := hch
    have hready : i ∈ Region.ready md ops listed := by
      cases k <;> simp only [Bool.and_eq_true, beq_iff_eq] at hk
      · simpa using hk.1.1
      · simpa using hk.1.1.1
      · rw [hk.1]; simp
      · cases hk
    obtain ⟨_, o, ho, _⟩ := mem_ready.1 hready
    simp only [wpOrd, ho] at h
    have hlen : (((i, k) :: rest).length + n) = (rest.length + n) + 1 := by simp; omega
    rw [hlen]
    have hfirst : ∀ v, YC P ops C o v a → k = .quiet → wpOrd P ops K' C rest (a.put o.dst v) w → wpAnyC P md ops K (seals.contains ·) (rest.length + n + 1) C listed a w := by
      intro v hy hq h'
      subst hq
      simp only [Bool.and_eq_true, Bool.not_eq_true', List.all_eq_true, Bool.or_eq_true] at hk
      refine wpAnyC_first ho (Region.noSelect_spec hsel) hk.1.2 listed (fun l2 j hj hun hs hc hjr => ?_) (rest.length + n) listed a w hcl (fun _ h => h) (Region.free_spec ho hk.1.1.2) hready hy (ih _ _ w (closed_set hcl hready) hrest hC h' hend)
      have hu2 : l2.getD i false = false := by
        rcases Nat.lt_or_ge i l2.size with h3 | h3
        · simp [h3] at hun ⊢; exact hun
        · simp [Array.getElem?_eq_none h3] at hun
      rcases hk.2 j (by simpa using hj) with h1 | h1
      · have h2 := hs j h1
        have h3 := (mem_ready.1 hjr).1
        rcases Nat.lt_or_ge j l2.size with h4 | h4
        · simp [h4] at h2 h3; rw [h2] at h3; cases h3
        · simp [Array.getElem?_eq_none h4] at h2
      · rw [ahead_of h1 l2 hc hjr] at hu2; cases hu2
    have hfirstP : ∀ v, YC P ops (fun _ => True) o v a → k = .pure → wpOrd P ops K' C rest (a.put o.dst v) w → wpAnyC P md ops K (seals.contains ·) (rest.length + n + 1) C listed a w := by
      intro v hy hq h'
      subst hq
      simp only [Bool.and_eq_true, Bool.not_eq_true'] at hk
      exact wpAnyC_firstP ho (Region.noSelect_spec hsel) hk.2 (rest.length + n) C listed a w (Region.free_spec ho hk.1.2) hready hy (ih _ _ w (closed_set hcl hready) hrest hC h' hend)
    by_cases hw : Region.wanted o (yielded ops a.tmps) = true
    · simp only [hw, if_true] at h
      cases k with
      | pure =>
        obtain ⟨v, hv, h'⟩ := h
        exact hfirstP v (.inl ⟨hw, fun w' _ => hv w'⟩) rfl h'
      | quiet =>
        obtain ⟨v, hv, h'⟩ := h
        exact hfirst v (.inl ⟨hw, hv⟩) rfl h'
      | acts =>
        simp only [Bool.and_eq_true, beq_iff_eq, Bool.not_eq_true'] at hk
        refine ⟨hC, fun h0 => absurd (h0 ▸ hk.1) (by simp), fun j hj => ?_⟩
        rw [hk.1] at hj
        obtain rfl : j = i := by simpa using hj
        unfold wpOp
        simp only [ho, hw, if_true]
        exact .inl (Oper.wp_mono (fun a' w' ⟨h1, h2⟩ => ⟨C, fun _ => rfl, ih _ a' w' (closed_set hcl hready) hrest h1 h2 hend⟩) h)
      | seals => cases hk
    · simp only [hw] at h
      have hw' : Region.wanted o (yielded ops a.tmps) = false := by simpa using hw
      cases k with
      | pure => exact hfirstP undef (.inr ⟨hw', rfl⟩) rfl h
      | quiet => exact hfirst undef (.inr ⟨hw', rfl⟩) rfl h
      | acts =>
        simp only [Bool.and_eq_true, beq_iff_eq] at hk
        refine ⟨hC, fun h0 => absurd (h0 ▸ hk.1) (by simp), fun j hj => ?_⟩
        rw [hk.1] at hj
        obtain rfl : j = i := by simpa using hj
        unfold wpOp
        simp only [ho, hw']
        exact ⟨C, fun _ => rfl, ih _ _ w (closed_set hcl hready) hrest hC h hend⟩
      | seals => cases hk

theorem wpAnyC_tree {K : Act → World → Prop} {seals : List Nat} {C : World → Prop} (hsel : Region.noSelect ops = true) : ∀ (t : Tree) (listed : Array Bool) (a : Act) (w : World),
    Closed md ops listed → checkTree md ops seals t listed = true → C w → wpTree P ops K C t a w → wpAnyC P md ops K (seals.contains ·) t.len C listed a w := by
  intro t
  induction t with
  | leaf ord =>
    intro listed a w hcl hch hC h
    exact wpAnyC_ord hsel ord C listed a w hcl hch hC h
  | two ord i t j u iht ihu =>
    intro listed a w hcl hch hC h
    simp only [checkTree, Bool.and_eq_true, Bool.not_eq_true', beq_iff_eq] at hch
    obtain ⟨⟨⟨⟨⟨⟨h1, h2⟩, h3⟩, h4⟩, h5⟩, h6⟩, h7⟩ := hch
    refine wpAnyC_pre hsel ord listed a w hcl h1 hC h fun a w hcl hC ⟨hi, hj⟩ => ?_
    refine ⟨hC, fun h0 => (by rw [h2] at h0; cases h0), fun m hm => ?_⟩
    have hm' := hm
    rw [h2] at hm
    simp only [List.mem_cons, List.not_mem_nil, or_false] at hm
    rcases hm with rfl | rfl
    · exact wpOp_mono (fun a' w' ⟨k1, k2⟩ => ⟨C, fun _ => rfl, iht _ a' w' (closed_set hcl hm') h6 k1 k2⟩) hi
    · exact wpOp_mono (fun a' w' ⟨k1, k2⟩ => ⟨C, fun _ => rfl, by rw [h5]; exact ihu _ a' w' (closed_set hcl hm') h7 k1 k2⟩) hj
  | three ord i t j u k v iht ihu ihv =>
    intro listed a w hcl hch hC h
    simp only [checkTree, Bool.and_eq_true, Bool.not_eq_true', beq_iff_eq] at hch
    obtain ⟨⟨⟨⟨⟨⟨⟨⟨⟨h1, h2⟩, h3⟩, h4⟩, h4'⟩, h5⟩, h5'⟩, h6⟩, h7⟩, h8⟩ := hch
    refine wpAnyC_pre hsel ord listed a w hcl h1 hC h fun a w hcl hC ⟨hi, hj, hk⟩ => ?_
    refine ⟨hC, fun h0 => (by rw [h2] at h0; cases h0), fun m hm => ?_⟩
    have hm' := hm
    rw [h2] at hm
    simp only [List.mem_cons, List.not_mem_nil, or_false] at hm
    rcases hm with rfl | rfl | rfl
    · exact wpOp_mono (fun a' w' ⟨k1, k2⟩ => ⟨C, fun _ => rfl, iht _ a' w' (closed_set hcl hm') h6 k1 k2⟩) hi
    · exact wpOp_mono (fun a' w' ⟨k1, k2⟩ => ⟨C, fun _ => rfl, by rw [h5]; exact ihu _ a' w' (closed_set hcl hm') h7 k1 k2⟩) hj
    · exact wpOp_mono (fun a' w' ⟨k1, k2⟩ => ⟨C, fun _ => rfl, by rw [h5']; exact ihv _ a' w' (closed_set hcl hm') h8 k1 k2⟩) hk

/-- The check of a tree. -/
def checkT (ops : Array Oper) (seals : List Nat) (t : Tree) : Bool := Region.noSelect ops && t.len == ops.size && checkTree .any ops seals t (Array.replicate ops.size false)
/-- A REGION THAT DRAWS ITS ORDER, walked in a tree of orders. -/
theorem wp_region_tree {id : Nat} {Q : Exit → Act → World → Prop} {a : Act} {w : World} {l : List Oper} (t : Tree) (seals : List Nat) (hm : P.follows .mixedOrders = true) (hB : checkT l.toArray seals t = true)
    (C : World → Prop) (hC : C w.drew) (h : wpTree P l.toArray (Q .normal) C t a w.drew) : (Code.region id l.toArray true).wp P Q a w := by
  simp only [checkT, Bool.and_eq_true, beq_iff_eq] at hB
  obtain ⟨⟨h1, h2⟩, h3⟩ := hB
  refine wp_region_any hm (wpAny_of_wpAnyC (K := Q .normal) (fl := fun i => seals.contains i) (fun _ _ h => h) _ C _ _ _ ?_)
  rw [← h2] at h3 ⊢
  exact wpAnyC_tree h1 t _ a w.drew (closed_none _) h3 hC h
variable {K : Act → World → Prop} {C : World → Prop} {a : Act} {w : World}
theorem tree_leaf {ord : List (Nat × How)} (h : wpOrd P ops K C ord a w) : wpTree P ops K C (.leaf ord) a w := h
theorem tree_two {ord : List (Nat × How)} {i j : Nat} {t u : Tree} (h : wpOrd P ops (fun a w => wpOp P ops NoQ i (fun a' w' => C w' ∧ wpTree P ops K C t a' w') a w ∧ wpOp P ops NoQ j (fun a' w' => C w' ∧ wpTree P ops K C u a' w') a w) C ord a w) : wpTree P ops K C (.two ord i t j u) a w := h
/-- An act at a fork. -/
theorem fork_act {l : List Oper} {i : Nat} {o : Oper} {T : Act → World → Prop} (hi : l[i]? = some o) (hw : Region.wanted o (yielded l.toArray a.tmps) = true)
    (h : ∀ K' : Act → World → Prop, (∀ a w, C w → T a w → K' a w) → o.wp P a w K' NoQ) : wpOp P l.toArray NoQ i (fun a' w' => C w' ∧ T a' w') a w := by
  unfold wpOp
  have : l.toArray[i]? = some o := by simpa using hi
  simp only [this, hw, if_true]
  exact .inl (h _ fun _ _ h1 h2 => ⟨h1, h2⟩)
end
end Go.Proofs.YtdcekoocnoackaaGreatDoor

/-! firewall.see, going. -/
namespace Go.Proofs.YtdcekoocnoackaaGreatDoor
open Go Go.RowKit

attribute [local irreducible] wpOrd
set_option maxRecDepth 8000 in
set_option maxHeartbeats 8000000 in
theorem fsee_any {B : Nat} {w0 w : World} {F : HP} {fw pol ck pd st fc fl room : Nat} {k next : Int} {R R' : List FIt} {f : Flw} (p : Int) (hs : seeR R (tuT p) 0 0 0 = (true, R')) (hg : getV R' (tuT p) = .tuple #[.agg f.enc.toArray, .bool true]) (hn : KNW R) (h : Sat B w0 w (blk fw (fwB pol ck pd st fc fl k) • blk ck (.cells #[.int .u64 0] 105) • policyH pol • fltab fl room R next • F)) :
    Calls Tryz.prog 97 #[.pointer (some ⟨fw, 0, none⟩), .agg (tuC p).toArray, .int .i64 0, .int .i64 0] w fun e w' => e = .returned (.bool true) ∧ Sat B w0 w' (blk fw (fwB pol ck pd st fc fl k) • blk ck (.cells #[.int .u64 0] 105) • policyH pol • fltab fl room R' next • F) := by
  have hS1 := h.alloc (.cells (tuC p).toArray 39)
  have hld : ∀ W : World, W.heap[w.heap.size]? = some (.cells (tuC p).toArray 39) → (Instr.loadAt 39 (.pointer (some ⟨w.heap.size, 0, none⟩))).run Tryz.prog W = .ok (.agg (tuC p).toArray) W := fun W hW =>
    run_loadAt_row (cs := tuC p) hW Tryz.underlying39 rfl (by rw [tuC_len]; kernel_rfl) (fun j u hu => by simpa using hu)
  have cs := fun (W : World) (G : HP) (hW : Sat B w0 W (fltab fl room R next • G)) => flSee_any hW hn (tuT p) 0 0 0 (by decide) (by decide)
  have cg := fun (W : World) (G : HP) (hW : Sat B w0 W (fltab fl room R' next • G)) => flGet_any hW (tuT p)
  rw [hs, tuT_enc] at cs
  rw [hg, tuT_enc] at cg
  have hz : (Tryz.prog.info? 149).map (·.zero) = some (some (.agg zFlw.enc.toArray)) := by kernel_rfl
  have hst := fun W : World => flw_storeN f W zFlw.enc.toArray rfl
  have hFZs : zFlw.enc.toArray.size = 40 := rfl
  have hFEs : f.enc.toArray.size = 40 := by rw [List.size_toArray, Flw.enc_length]
  have hFEo : ∀ u ∈ (Value.agg f.enc.toArray).cells.toList, u.oneCell' = true := by simpa [Value.cells] using f.enc_one
  unfold fwB at *
  generalize (tuC p).toArray = TU at *
  generalize zFlw.enc.toArray = FZ at *
  generalize f.enc.toArray = FE at *
  generalize hq : w.heap.size = tb at *
  clear h hs hg
  go_enter Tryz.func97, Tryz.ntmps97
  go_wp2_with fail
  try go_frame
  refine wp_region_ord [(0, .pure), (1, .pure), (2, .pure), (3, .quiet), (4, .quiet), (5, .pure), (6, .pure), (7, .pure), (8, .pure), (9, .pure), (10, .quiet), (11, .acts), (12, .acts), (13, .pure)] (by kernel_rfl) (by kernel_rfl)
    (fun w' => w'.heap[fw]? = some (.cells #[.pointer (some ⟨pol, 0, none⟩), .pointer (some ⟨ck, 0, none⟩), .pointer (some ⟨pd, 0, none⟩), .pointer (some ⟨st, 0, none⟩), .pointer (some ⟨fc, 0, none⟩), .pointer (some ⟨fl, 0, none⟩), .int .i64 1, .int .i64 1, .int .i64 1, .int .i64 k] 73) ∧ w'.heap[tb]? = some (.cells TU 39)) ⟨hS1.drew.pull2.heap, hS1.drew.heap⟩ ?_
  iterate 3 (refine ord_pure rfl rfl rfl (fun K' hK => ?_); go_big_quiet_op; refine hK _ ?_; clear hK K')
  refine ord_load (t := 70) rfl rfl rfl (p := .pointer (some ⟨fw, 5, none⟩)) (v := .pointer (some ⟨fl, 0, none⟩)) rfl (fun w' hC => run_loadAt_one hC.1 Tryz.underlying70 rfl rfl) (fun K' hK => ?_)
  go_simp
  refine hK _ ?_
  clear hK K'
  refine ord_load (t := 39) rfl rfl rfl (p := .pointer (some ⟨tb, 0, none⟩)) (v := .agg TU) rfl (fun w' hC => hld _ hC.2) (fun K' hK => ?_)
  go_simp
  refine hK _ ?_
  clear hK K'
  iterate 5 (refine ord_pure rfl rfl rfl (fun K' hK => ?_); go_big_quiet_op; refine hK _ ?_; clear hK K')
  refine ord_load (t := 62) rfl rfl rfl (p := .pointer (some ⟨fw, 1, none⟩)) (v := .pointer (some ⟨ck, 0, none⟩)) rfl (fun w' hC => run_loadAt_one hC.1 Tryz.underlying62 rfl rfl) (fun K' hK => ?_)
  go_simp
  refine hK _ ?_
  clear hK K'
  refine ord_acts rfl rfl (fun K' hK => ?_)
  go_simp
  refine (now_any ck _ (cell_heap hS1.drew.pull3.heap rfl)).mono ?_
  rintro e u1 ⟨rfl, rfl⟩
  refine hK _ _ (⟨hS1.drew.pull2.heap, hS1.drew.heap⟩) ?_
  clear hK K'
  go_simp
  refine ord_acts rfl rfl (fun K' hK => ?_)
  go_simp
  refine (cs _ _ (hS1.drew.to (by ac_rfl : _ = fltab fl room R next • (blk tb (.cells TU 39) • blk fw (.cells #[.pointer (some ⟨pol, 0, none⟩), .pointer (some ⟨ck, 0, none⟩), .pointer (some ⟨pd, 0, none⟩), .pointer (some ⟨st, 0, none⟩), .pointer (some ⟨fc, 0, none⟩), .pointer (some ⟨fl, 0, none⟩), .int .i64 1, .int .i64 1, .int .i64 1, .int .i64 k] 73) • blk ck (.cells #[.int .u64 0] 105) • policyH pol • F)))).mono ?_
  rintro e u2 ⟨rfl, hU2⟩
  refine hK _ _ (⟨hU2.pull3.heap, hU2.pull2.heap⟩) ?_
  clear hK K'
  go_simp
  iterate 1 (refine ord_pure rfl rfl rfl (fun K' hK => ?_); go_big_quiet_op; refine hK _ ?_; clear hK K')
  refine ord_nil ?_
  clear cs hS1
  go_wp2_with fail
  try go_frame
  refine wp_region_tree (.two [(0, .pure), (1, .pure), (2, .pure), (3, .quiet), (4, .quiet)] 5 (.leaf [(6, .pure), (7, .pure), (8, .pure), (9, .acts), (10, .seals), (11, .pure)]) 9 (.leaf [(5, .acts), (6, .pure), (7, .pure), (8, .pure), (10, .seals), (11, .pure)])) [10] (by kernel_rfl) (by kernel_rfl) (fun w' => w'.heap[fw]? = some (.cells #[.pointer (some ⟨pol, 0, none⟩), .pointer (some ⟨ck, 0, none⟩), .pointer (some ⟨pd, 0, none⟩), .pointer (some ⟨st, 0, none⟩), .pointer (some ⟨fc, 0, none⟩), .pointer (some ⟨fl, 0, none⟩), .int .i64 1, .int .i64 1, .int .i64 1, .int .i64 k] 73) ∧ w'.heap[tb]? = some (.cells TU 39)) ⟨hU2.drew.pull3.heap, hU2.drew.pull2.heap⟩ ?_
  have hU2d := hU2.drew
  generalize u2.drew = W0 at *
  clear hU2
  refine tree_two ?_
  iterate 3 (refine ord_pure rfl rfl rfl (fun K' hK => ?_); go_big_quiet_op; refine hK _ ?_; clear hK K')
  refine ord_load (t := 70) rfl rfl rfl (p := .pointer (some ⟨fw, 5, none⟩)) (v := .pointer (some ⟨fl, 0, none⟩)) rfl (fun w' hC => run_loadAt_one hC.1 Tryz.underlying70 rfl rfl) (fun K' hK => ?_)
  go_simp
  refine hK _ ?_
  clear hK K'
  refine ord_load (t := 39) rfl rfl rfl (p := .pointer (some ⟨tb, 0, none⟩)) (v := .agg TU) rfl (fun w' hC => hld _ hC.2) (fun K' hK => ?_)
  go_simp
  refine hK _ ?_
  clear hK K'
  refine ord_nil ?_
  refine ⟨?_, ?_⟩
  · refine fork_act rfl rfl (fun K' hK => ?_)
    go_simp
    refine (cg _ _ (hU2d)).mono ?_
    rintro e u3 ⟨rfl, hU3⟩
    refine hK _ _ ⟨hU3.pull3.heap, hU3.pull2.heap⟩ ?_
    clear hK K'
    go_simp
    refine tree_leaf ?_
    iterate 3 (refine ord_pure rfl rfl rfl (fun K' hK => ?_); go_big_quiet_op; refine hK _ ?_; clear hK K')
    refine ord_acts rfl rfl (fun K' hK => wp_alloc_run rfl hz (hK _ _ ⟨(hU3.alloc_ _).pull3.heap, (hU3.alloc_ _).pull2.heap⟩ ?_))
    clear hK K'
    go_simp
    refine ord_store rfl rfl rfl rfl (p := .pointer (some ⟨u3.heap.size, 0, none⟩)) (v := .agg FE) rfl rfl (hst u3) (fun _ => True) trivial ?_
    go_simp
    iterate 1 (refine ord_pure rfl rfl rfl (fun K' hK => ?_); go_big_quiet_op; refine hK _ ?_; clear hK K')
    refine ord_nil ?_
    have HF := Lib.hid (((hU3.to (by ac_rfl : _ = blk tb (.cells TU 39) • (blk fw (.cells #[.pointer (some ⟨pol, 0, none⟩), .pointer (some ⟨ck, 0, none⟩), .pointer (some ⟨pd, 0, none⟩), .pointer (some ⟨st, 0, none⟩), .pointer (some ⟨fc, 0, none⟩), .pointer (some ⟨fl, 0, none⟩), .int .i64 1, .int .i64 1, .int .i64 1, .int .i64 k] 73) • blk ck (.cells #[.int .u64 0] 105) • policyH pol • fltab fl room R' next • F))).drop).alloc_ (.cells FE 149))
    clear hU3 cg hz hst hU2d
    go_wp2_with fail
    go_ret
    exact ⟨rfl, HF.out⟩
  · have hA := (hU2d.alloc (.cells FZ 149)).to (by ac_rfl : _ = fltab fl room R' next • blk tb (.cells TU 39) • blk fw (.cells #[.pointer (some ⟨pol, 0, none⟩), .pointer (some ⟨ck, 0, none⟩), .pointer (some ⟨pd, 0, none⟩), .pointer (some ⟨st, 0, none⟩), .pointer (some ⟨fc, 0, none⟩), .pointer (some ⟨fl, 0, none⟩), .int .i64 1, .int .i64 1, .int .i64 1, .int .i64 k] 73) • (blk W0.heap.size (.cells FZ 149) • blk ck (.cells #[.int .u64 0] 105) • policyH pol • F))
    refine fork_act rfl rfl (fun K' hK => wp_alloc_run rfl hz (hK _ _ ⟨hA.pull3.heap, hA.pull2.heap⟩ ?_))
    clear hK K'
    go_simp
    refine tree_leaf ?_
    refine ord_acts rfl rfl (fun K' hK => ?_)
    go_simp
    refine (cg _ _ (hA)).mono ?_
    rintro e u3 ⟨rfl, hU3⟩
    refine hK _ _ ⟨hU3.pull3.heap, hU3.pull2.heap⟩ ?_
    clear hK K'
    go_simp
    iterate 3 (refine ord_pure rfl rfl rfl (fun K' hK => ?_); go_big_quiet_op; refine hK _ ?_; clear hK K')
    have hR := (hU3.to (by ac_rfl : _ = blk W0.heap.size (.cells FZ 149) • (blk tb (.cells TU 39) • (blk fw (.cells #[.pointer (some ⟨pol, 0, none⟩), .pointer (some ⟨ck, 0, none⟩), .pointer (some ⟨pd, 0, none⟩), .pointer (some ⟨st, 0, none⟩), .pointer (some ⟨fc, 0, none⟩), .pointer (some ⟨fl, 0, none⟩), .int .i64 1, .int .i64 1, .int .i64 1, .int .i64 k] 73) • blk ck (.cells #[.int .u64 0] 105) • policyH pol • fltab fl room R' next • F))))
    have hst2 := run_storeAt_row (P := Tryz.prog) (o := 0) (ty := 149) (v := .agg FE) hR.heap (by simp only [Value.cells]; rw [hFEs]; kernel_rfl) (by simp only [Value.cells]; omega) hFEo
    have hR2 := hR.setRow (cs := FE)
    simp only [Value.cells] at hst2
    rw [splice_full (by rw [Array.length_toList, hFEs, hFZs]), show FE.toList.toArray = FE by simp] at hst2
    refine ord_store rfl rfl rfl rfl (p := .pointer (some ⟨W0.heap.size, 0, none⟩)) (v := .agg FE) rfl rfl hst2 (fun _ => True) trivial ?_
    go_simp
    iterate 1 (refine ord_pure rfl rfl rfl (fun K' hK => ?_); go_big_quiet_op; refine hK _ ?_; clear hK K')
    refine ord_nil ?_
    have HF := Lib.hid hR2.drop.drop
    clear hU3 cg hz hst hst2 hR hR2 hA hU2d
    go_wp2_with fail
    go_ret
    exact ⟨rfl, HF.out⟩
set_option maxRecDepth 8000 in
set_option maxHeartbeats 8000000 in
theorem going_any {B : Nat} {w0 w : World} {F : HP} {fw pol ck pd st fc fl room : Nat} {k next : Int} {R R' : List FIt} {f : Flw} (p : Int) (A : Option Addr) (d : Nat) (hs : seeR R (tuT p) 0 0 0 = (true, R')) (hg : getV R' (tuT p) = .tuple #[.agg f.enc.toArray, .bool true]) (hn : KNW R) (h : Sat B w0 w (blk fw (fwB pol ck pd st fc fl k) • blk ck (.cells #[.int .u64 0] 105) • policyH pol • fltab fl room R next • F)) : Calls Tryz.prog 93 #[.pointer (some ⟨fw, 0, none⟩), .agg (pkP p A d).toArray, .agg #[.int .i64 0, .bool false, .int .i64 0, .int .i64 0, .int .i64 0, .slice none 0 0, .slice none 0 0, .slice none 0 0, .slice none 0 0], .bool false] w fun e w' => e = .returned (.agg #[.bool true, .int .i64 1]) ∧ Sat B w0 w' (blk fw (fwB pol ck pd st fc fl k) • blk ck (.cells #[.int .u64 0] 105) • policyH pol • fltab fl room R' next • F) := by
  have hS1 := (((h.alloc (.cells (pkP p A d).toArray 44)).alloc (.cells #[.int .i64 0, .bool false, .int .i64 0, .int .i64 0, .int .i64 0, .slice none 0 0, .slice none 0 0, .slice none 0 0, .slice none 0 0] 219)).alloc (.cells #[.bool false, .int .i64 0] 47)).alloc (.cells (tuC p).toArray 39)
  simp only [World.size_alloc] at hS1
  have hlp : (Instr.loadAt 39 (.pointer (some ⟨w.heap.size, 0, none⟩))).run Tryz.prog (((w.alloc (.cells (pkP p A d).toArray 44)).alloc (.cells #[.int .i64 0, .bool false, .int .i64 0, .int .i64 0, .int .i64 0, .slice none 0 0, .slice none 0 0, .slice none 0 0, .slice none 0 0] 219)).alloc (.cells #[.bool false, .int .i64 0] 47)) = .ok (.agg (tuC p).toArray) (((w.alloc (.cells (pkP p A d).toArray 44)).alloc (.cells #[.int .i64 0, .bool false, .int .i64 0, .int .i64 0, .int .i64 0, .slice none 0 0, .slice none 0 0, .slice none 0 0, .slice none 0 0] 219)).alloc (.cells #[.bool false, .int .i64 0] 47)) := by
    have hS0 := ((h.alloc (.cells (pkP p A d).toArray 44)).alloc (.cells #[.int .i64 0, .bool false, .int .i64 0, .int .i64 0, .int .i64 0, .slice none 0 0, .slice none 0 0, .slice none 0 0, .slice none 0 0] 219)).alloc (.cells #[.bool false, .int .i64 0] 47)
    exact run_loadAt_row (cs := tuC p) hS0.pull3.heap Tryz.underlying39 rfl (by rw [tuC_len]; kernel_rfl) (fun j u hu => by rw [Nat.zero_add]; exact pkP_tu p A d j u hu)
  have hst : ∀ W : World, ∀ z : Array Value, z.size = 37 → (Instr.storeAt 39 (.pointer (some ⟨W.heap.size, 0, none⟩)) (.agg (tuC p).toArray)).run Tryz.prog (W.alloc (.cells z 39)) = .ok () (W.alloc (.cells (tuC p).toArray 39)) :=
    fun W z hz => run_storeAt_new (v := .agg (tuC p).toArray) (by kernel_rfl) (by rw [hz]; rfl) (by simpa [Value.cells] using tuC_one p)
  have d1 : (((((w.alloc (.cells (pkP p A d).toArray 44)).alloc (.cells #[.int .i64 0, .bool false, .int .i64 0, .int .i64 0, .int .i64 0, .slice none 0 0, .slice none 0 0, .slice none 0 0, .slice none 0 0] 219)).alloc (.cells #[.bool false, .int .i64 0] 47)).alloc (.cells (tuC p).toArray 39))).heap.size = w.heap.size + 1 + 1 + 1 + 1 := by simp only [World.size_alloc]
  clear d1
  have hTU : ∀ (b : Nat) (V : World), V.heap[b]? = some (.cells (tuC p).toArray 39) → (Instr.loadAt 39 (.pointer (some ⟨b, 0, none⟩))).run Tryz.prog V = .ok (.agg (tuC p).toArray) V ∧ V.cell? ⟨b, 34, none⟩ = some (.int .i64 17) := fun b V hV =>
    ⟨run_loadAt_row (cs := tuC p) hV Tryz.underlying39 rfl (by rw [tuC_len]; kernel_rfl) (fun j u hu => by simpa using hu), cell_heap hV rfl⟩
  have dpk : (pkP p A d).toArray[37]? = some (.int .i64 0) := rfl
  have cs := server_no fw p
  have ce := fun (W : World) (G : HP) (hW : Sat B w0 W (blk fw (.cells #[.pointer (some ⟨pol, 0, none⟩), .pointer (some ⟨ck, 0, none⟩), .pointer (some ⟨pd, 0, none⟩), .pointer (some ⟨st, 0, none⟩), .pointer (some ⟨fc, 0, none⟩), .pointer (some ⟨fl, 0, none⟩), .int .i64 1, .int .i64 1, .int .i64 1, .int .i64 k] 73) • blk ck (.cells #[.int .u64 0] 105) • policyH pol • fltab fl room R next • G)) => fsee_any (fw := fw) (ck := ck) (pd := pd) (st := st) (fc := fc) (k := k) p hs hg hn hW
  have hst0 := hst (((w.alloc (.cells (pkP p A d).toArray 44)).alloc (.cells #[.int .i64 0, .bool false, .int .i64 0, .int .i64 0, .int .i64 0, .slice none 0 0, .slice none 0 0, .slice none 0 0, .slice none 0 0] 219)).alloc (.cells #[.bool false, .int .i64 0] 47))
  unfold fwB at *
  generalize (tuC p).toArray = TU at *
  generalize (pkP p A d).toArray = PK at *
  generalize hW : ((w.alloc (.cells PK 44)).alloc (.cells #[.int .i64 0, .bool false, .int .i64 0, .int .i64 0, .int .i64 0, .slice none 0 0, .slice none 0 0, .slice none 0 0, .slice none 0 0] 219)).alloc (.cells #[.bool false, .int .i64 0] 47) = W at *
  have hWs : W.heap.size = w.heap.size + 1 + 1 + 1 := by rw [← hW]; simp only [World.size_alloc]
  simp only [hWs] at hst0
  clear hst h hs hg
  go_enter Tryz.func93, Tryz.ntmps93
  go_wp2_with (first | (refine wpList_load_run (t := 39) rfl rfl rfl hlp ?_) | (refine wpList_store_run (t := 39) rfl rfl rfl rfl (hst0 _ rfl) (stop_ ?_)))
  unfold Stop
  clear hlp hst0
  have hS2 := hS1.to (by ac_rfl : _ = blk fw (.cells #[.pointer (some ⟨pol, 0, none⟩), .pointer (some ⟨ck, 0, none⟩), .pointer (some ⟨pd, 0, none⟩), .pointer (some ⟨st, 0, none⟩), .pointer (some ⟨fc, 0, none⟩), .pointer (some ⟨fl, 0, none⟩), .int .i64 1, .int .i64 1, .int .i64 1, .int .i64 k] 73) • blk ck (.cells #[.int .u64 0] 105) • policyH pol • fltab fl room R next • (blk (w.heap.size + 1 + 1 + 1) (.cells TU 39) • blk (w.heap.size + 1 + 1) (.cells #[.bool false, .int .i64 0] 47) • blk (w.heap.size + 1) (.cells #[.int .i64 0, .bool false, .int .i64 0, .int .i64 0, .int .i64 0, .slice none 0 0, .slice none 0 0, .slice none 0 0, .slice none 0 0] 219) • blk w.heap.size (.cells PK 44) • F))
  have c1 := ce _ _ hS2
  have hl1 := (hTU _ _ hS1.heap).1
  have d37 : (W.alloc (.cells TU 39)).cell? ⟨w.heap.size, 37, none⟩ = some (.int .i64 0) := cell_heap hS1.pull4.heap dpk
  clear ce hS1 hS2
  generalize hpb : w.heap.size = pb at *
  go_wp2_with (refine wpList_load_run (t := 39) rfl rfl rfl hl1 (stop_ ?_))
  unfold Stop
  clear hl1
  go_wp2_with fail
  refine c1.mono ?_
  rintro e u1 ⟨rfl, hU1⟩
  have hU2 := hU1.to (by ac_rfl : _ = blk (pb + 1 + 1 + 1) (.cells TU 39) • blk (pb + 1 + 1) (.cells #[.bool false, .int .i64 0] 47) • (blk pb (.cells PK 44) • blk (pb + 1) (.cells #[.int .i64 0, .bool false, .int .i64 0, .int .i64 0, .int .i64 0, .slice none 0 0, .slice none 0 0, .slice none 0 0, .slice none 0 0] 219) • (blk fw (.cells #[.pointer (some ⟨pol, 0, none⟩), .pointer (some ⟨ck, 0, none⟩), .pointer (some ⟨pd, 0, none⟩), .pointer (some ⟨st, 0, none⟩), .pointer (some ⟨fc, 0, none⟩), .pointer (some ⟨fl, 0, none⟩), .int .i64 1, .int .i64 1, .int .i64 1, .int .i64 k] 73) • blk ck (.cells #[.int .u64 0] 105) • policyH pol • fltab fl room R' next • F)))
  have hl6 := (hTU _ _ hU2.heap).1
  clear c1 hU1 d37
  go_wp2_with (refine wpList_load_run (t := 39) rfl rfl rfl hl6 (stop_ ?_))
  unfold Stop
  go_wp2_with fail
  refine (cs _).mono ?_
  rintro e u7 ⟨rfl, hb7⟩
  have hU7 := hU2.below_ hb7
  clear hU2 hb7 hl6
  go_wp2_with fail
  refine (accepted_any 1 _).mono ?_
  rintro e u8 ⟨rfl, hb8⟩
  have hU8 := (hU7.below_ hb8).pull2
  clear hU7 hb8
  have hst8 := run_storeAt_row (P := Tryz.prog) (o := 0) (ty := 47) (v := .agg #[.bool true, .int .i64 1]) hU8.heap (by kernel_rfl) (by simp [Value.cells]) (by simp [Value.cells, Value.oneCell'])
  have hR8 := hU8.setRow (cs := #[.bool true, .int .i64 1])
  simp only [Value.cells] at hst8
  rw [show splice (#[.bool false, .int .i64 0] : Array Value) 0 (#[.bool true, .int .i64 1] : Array Value).toList = #[.bool true, .int .i64 1] by rfl] at hst8
  have hl8 : (Instr.loadAt 47 (.pointer (some ⟨pb + 1 + 1, 0, none⟩))).run Tryz.prog (u8.setRow (pb + 1 + 1) #[.bool true, .int .i64 1]) = .ok (.agg #[.bool true, .int .i64 1]) (u8.setRow (pb + 1 + 1) #[.bool true, .int .i64 1]) :=
    run_loadAt_row (cs := [.bool true, .int .i64 1]) hR8.heap Tryz.underlying47 rfl (by kernel_rfl) (fun j u hu => by simpa using hu)
  have HF := Lib.hid hR8.drop.drop.drop.drop
  clear hU8 hR8
  go_wp2_with (refine wpList_store_run (t := 47) rfl rfl rfl rfl hst8 (stop_ ?_))
  unfold Stop
  go_wp2_with fail
  refine ret_cell rfl rfl hl8 rfl ⟨rfl, HF.out⟩
end Go.Proofs.YtdcekoocnoackaaGreatDoor
