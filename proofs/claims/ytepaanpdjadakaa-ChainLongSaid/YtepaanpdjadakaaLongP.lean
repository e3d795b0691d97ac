import Derived.Test.YtepaanpdjadakaaTells
/-! ChainLong, in plain words. -/
namespace Go.Proofs.Ytepaanpdjadakaa

def dgB (v : Nat) : ByteArray := if v < 10 then ⟨#[UInt8.ofNat (48 + v)]⟩ else ⟨#[49, UInt8.ofNat (48 + (v - 10))]⟩
def nmB (i : Nat) : ByteArray := ⟨#[110]⟩ ++ dgB i
theorem nm_fin : ∀ i j : Fin 20, ((nmB i.1).toList == (nmB j.1).toList) = decide (i.1 = j.1) := by decide +kernel
theorem nm_eq {i j : Nat} (hi : i < 20) (hj : j < 20) : ((nmB i).toList == (nmB j).toList) = decide (i = j) := nm_fin ⟨i, hi⟩ ⟨j, hj⟩
def nms (k : Nat) : List ByteArray := (List.range k).map nmB
theorem nms_has {i k : Nat} (hi : i < 20) (hk : k ≤ 20) : hasName (nms k) (nmB i) = decide (i < k) := by
  unfold hasName nms
  rw [List.any_map, Bool.eq_iff_iff, List.any_eq_true, decide_eq_true_eq]
  constructor
  · rintro ⟨j, hj, h⟩
    rw [List.mem_range] at hj
    rw [Function.comp, nm_eq (by omega) hi, decide_eq_true_eq] at h
    omega
  · intro h
    exact ⟨i, List.mem_range.2 h, by rw [Function.comp, nm_eq hi hi]; simp⟩
def cnR (t : Int) (i : Nat) : Rec := cnameOf (nmB i) (nmB (i + 1)) (t + i)
def recsL (t : Int) (k : Nat) : List Rec := (List.range k).map (cnR t)
def longL (n : Nat) (ttl t : Int) : List Rec := recsL t (n - 1) ++ [aOf (nmB (n - 1)) 7 ttl]
theorem recsL_length (t : Int) (k : Nat) : (recsL t k).length = k := by simp [recsL]
theorem longL_length (n : Nat) (ttl t : Int) (h : 1 ≤ n) : (longL n ttl t).length = n := by simp [longL, recsL]; omega
theorem recsL_succ (t : Int) (k : Nat) : recsL t (k + 1) = recsL t k ++ [cnR t k] := by simp [recsL, List.range_succ]
theorem cn_alias (t : Int) (i : Nat) : (cnR t i).isAlias = true := rfl
theorem cn_addr (t : Int) (i : Nat) : (cnR t i).isAddr = false := rfl
theorem a_alias (n : ByteArray) (d t : Int) : (aOf n d t).isAlias = false := rfl
theorem a_addr (n : ByteArray) (d t : Int) : (aOf n d t).isAddr = true := rfl
/-- What a list of records has, in whatever order. -/
structure LongM (n : Nat) (ttl t : Int) (L : List Rec) : Prop where
  n1 : 1 ≤ n
  n20 : n ≤ 20
  perm : L.Perm (longL n ttl t)
section
variable {n : Nat} {ttl t : Int} {L : List Rec}
theorem LongM.mem (h : LongM n ttl t L) {x : Rec} (hx : x ∈ L) : (∃ i, i + 1 < n ∧ x = cnR t i) ∨ x = aOf (nmB (n - 1)) 7 ttl := by
  have := h.perm.mem_iff.1 hx
  unfold longL recsL at this
  rw [List.mem_append, List.mem_map, List.mem_singleton] at this
  rcases this with ⟨i, hi, e⟩ | e
  · rw [List.mem_range] at hi
    exact .inl ⟨i, by omega, e.symm⟩
  · exact .inr e
theorem LongM.has (h : LongM n ttl t L) {i : Nat} (hi : i + 1 < n) : cnR t i ∈ L := by
  refine h.perm.mem_iff.2 ?_
  unfold longL recsL
  rw [List.mem_append, List.mem_map]
  exact .inl ⟨i, List.mem_range.2 (by omega), rfl⟩
theorem find_uniq {α : Type} {p : α → Bool} {l : List α} {r : α} (hr : r ∈ l) (hp : p r = true) (hu : ∀ x ∈ l, p x = true → x = r) : l.find? p = some r := by
  cases h : l.find? p with
  | none => rw [List.find?_eq_none] at h; exact absurd hp (h r hr)
  | some x => rw [hu x (List.mem_of_find?_eq_some h) (List.find?_some h)]
theorem LongM.next (h : LongM n ttl t L) {i : Nat} (hi : i + 1 < n) : nextOf L (nmB i) = some (cnR t i) := by
  have h20 := h.n20
  unfold nextOf
  refine find_uniq (h.has hi) ?_ ?_
  · show ((cnR t i).isAlias && ((nmB i).toList == (nmB i).toList)) = true
    rw [cn_alias, isrefl]; rfl
  · intro x hx hp
    rw [Bool.and_eq_true] at hp
    rcases h.mem hx with ⟨j, hj, rfl⟩ | rfl
    · have h2 : ((nmB j).toList == (nmB i).toList) = true := hp.2
      rw [nm_eq (by omega) (by omega), decide_eq_true_eq] at h2
      rw [h2]
    · rw [a_alias] at hp; cases hp.1
theorem LongM.last (h : LongM n ttl t L) : nextOf L (nmB (n - 1)) = none := by
  have h20 := h.n20
  have h1 := h.n1
  unfold nextOf
  rw [List.find?_eq_none]
  intro x hx hp
  rw [Bool.and_eq_true] at hp
  rcases h.mem hx with ⟨j, hj, rfl⟩ | rfl
  · have h2 : ((nmB j).toList == (nmB (n - 1)).toList) = true := hp.2
    rw [nm_eq (by omega) (by omega), decide_eq_true_eq] at h2
    omega
  · rw [a_alias] at hp; cases hp.1
theorem foldl_skip (name : ByteArray) (T : Int) : ∀ (l : List Rec) (out : List Fnd), l.foldl (addFound name T) out = (l.filter fun r => r.isAddr && (r.name.toList == name.toList)).foldl (addFound name T) out := by
  intro l
  induction l with
  | nil => intro out; rfl
  | cons r l ih =>
    intro out
    rw [List.foldl_cons, List.filter_cons]
    cases hp : r.isAddr && (r.name.toList == name.toList) with
    | true => simp only [if_true, List.foldl_cons]; exact ih _
    | false =>
      have : addFound name T out r = out := by unfold addFound; rw [hp]; simp
      simp only [Bool.false_eq_true, if_false]
      rw [this]; exact ih _
theorem LongM.found (h : LongM n ttl t L) (T : Int) : foundOf L (nmB (n - 1)) T = [⟨v4 8 8 8 7, if ttl < T then ttl else T⟩] := by
  have h20 := h.n20
  have h1 := h.n1
  have hf : (L.filter fun r => r.isAddr && (r.name.toList == (nmB (n - 1)).toList)) = [aOf (nmB (n - 1)) 7 ttl] := by
    have hp := h.perm.filter (fun r => r.isAddr && (r.name.toList == (nmB (n - 1)).toList))
    have : (longL n ttl t).filter (fun r => r.isAddr && (r.name.toList == (nmB (n - 1)).toList)) = [aOf (nmB (n - 1)) 7 ttl] := by
      unfold longL
      rw [List.filter_append]
      have e1 : (recsL t (n - 1)).filter (fun r => r.isAddr && (r.name.toList == (nmB (n - 1)).toList)) = [] := by
        rw [List.filter_eq_nil_iff]
        intro x hx
        unfold recsL at hx
        obtain ⟨i, _, rfl⟩ := List.mem_map.1 hx
        rw [cn_addr]; simp
      rw [e1, List.nil_append, List.filter_cons]
      have e2 : ((aOf (nmB (n - 1)) 7 ttl).isAddr && ((aOf (nmB (n - 1)) 7 ttl).name.toList == (nmB (n - 1)).toList)) = true := by
        rw [a_addr, Bool.true_and]; exact isrefl _
      rw [e2]; rfl
    rw [this] at hp
    exact List.perm_singleton.1 hp
  unfold foundOf
  rw [foldl_skip, hf]
  simp only [List.foldl_cons, List.foldl_nil]
  unfold addFound
  have e2 : ((aOf (nmB (n - 1)) 7 ttl).isAddr && ((aOf (nmB (n - 1)) 7 ttl).name.toList == (nmB (n - 1)).toList)) = true := by
    rw [a_addr, Bool.true_and]; exact isrefl _
  rw [e2]
  rfl
/-- The least time of the first steps. -/
def tlAt (t : Int) (i : Nat) : Int := if i = 0 then 4294967295 else t
theorem tlAt_succ (ht : 0 ≤ t ∧ t ≤ 2147483647) (i : Nat) : (if t + (i : Int) < tlAt t i then t + (i : Int) else tlAt t i) = tlAt t (i + 1) := by
  unfold tlAt
  rw [if_neg (by omega : ¬ i + 1 = 0)]
  by_cases e : i = 0
  · subst e; rw [if_pos rfl, if_pos (by omega)]; simp
  · rw [if_neg e, if_neg (by omega)]
theorem LongM.goes (h : LongM n ttl t L) (ht : 0 ≤ t ∧ t ≤ 2147483647) : ∀ (d i k : Nat), i + d + 1 = n → i + k = 16 → 1 ≤ k →
    followFrom L k (nms (i + 1)) (nmB i) (tlAt t i) = if n ≤ 16 then (foundOf L (nmB (n - 1)) (tlAt t (n - 1)), nms n) else ([], []) := by
  have h20 := h.n20
  intro d
  induction d with
  | zero =>
    intro i k hi hk h1
    obtain ⟨k', rfl⟩ : ∃ k', k = k' + 1 := ⟨k - 1, by omega⟩
    have e : i = n - 1 := by omega
    rw [if_pos (by omega), e, follow_none h.last, show n - 1 + 1 = n by omega]
  | succ d ih =>
    intro i k hi hk h1
    obtain ⟨k', rfl⟩ : ∃ k', k = k' + 1 := ⟨k - 1, by omega⟩
    have hn := h.next (show i + 1 < n by omega)
    have hlen : (nms (i + 1)).length = i + 1 := by simp [nms]
    by_cases h16 : i + 1 = 16
    · rw [follow_stop hn (.inr (by rw [hlen]; omega)), if_neg (by omega)]
    · have hno : hasName (nms (i + 1)) (cnR t i).tgt = false := by
        show hasName (nms (i + 1)) (nmB (i + 1)) = false
        rw [nms_has (by omega) (by omega)]; simp
      rw [follow_go hn hno (by rw [hlen]; omega)]
      have e1 : nms (i + 1) ++ [(cnR t i).tgt] = nms (i + 1 + 1) := by
        unfold nms; rw [List.range_succ (n := i + 1), List.map_append]; rfl
      have e2 : (if (cnR t i).ttl < tlAt t i then (cnR t i).ttl else tlAt t i) = tlAt t (i + 1) := tlAt_succ ht i
      rw [e1, e2]
      exact ih (i + 1) k' (by omega) (by omega) (by omega)
theorem LongM.follow (h : LongM n ttl t L) (ht : 0 ≤ t ∧ t ≤ 2147483647) (hl : 0 ≤ ttl ∧ ttl ≤ 4294967295) : followOf L (nmB 0) =
    if n ≤ 16 then ([⟨v4 8 8 8 7, if n = 1 then ttl else min ttl t⟩], nms n) else ([], []) := by
  have h1 := h.n1
  have := h.goes ht (n - 1) 0 16 (by omega) (by omega) (by omega)
  unfold followOf
  rw [show ([nmB 0] : List ByteArray) = nms (0 + 1) from rfl, show (4294967295 : Int) = tlAt t 0 from rfl, this, h.found]
  have e : (if ttl < tlAt t (n - 1) then ttl else tlAt t (n - 1)) = if n = 1 then ttl else min ttl t := by
    unfold tlAt
    by_cases e1 : n = 1
    · subst e1; simp; omega
    · rw [if_neg (by omega : ¬ n - 1 = 0), if_neg e1]; split <;> omega
  rw [e]
/-- Round nothing is found. -/
theorem LongM.round (h : LongM n ttl t L) (ht : 0 ≤ t ∧ t ≤ 2147483647) {r : Nat} (hr : r < n) (u : Int) : followOf (L ++ [cnameOf (nmB (n - 1)) (nmB r) u]) (nmB 0) = ([], []) := by
  have h20 := h.n20
  have h1 := h.n1
  have hnx : ∀ i, i + 1 < n → nextOf (L ++ [cnameOf (nmB (n - 1)) (nmB r) u]) (nmB i) = some (cnR t i) := by
    intro i hi
    have := h.next hi
    unfold nextOf at this ⊢
    rw [List.find?_append, this]; rfl
  have hlast : nextOf (L ++ [cnameOf (nmB (n - 1)) (nmB r) u]) (nmB (n - 1)) = some (cnameOf (nmB (n - 1)) (nmB r) u) := by
    have := h.last
    unfold nextOf at this ⊢
    rw [List.find?_append, this, List.find?_cons]
    have e2 : ((cnameOf (nmB (n - 1)) (nmB r) u).isAlias && ((cnameOf (nmB (n - 1)) (nmB r) u).name.toList == (nmB (n - 1)).toList)) = true := by
      show (true && ((nmB (n - 1)).toList == (nmB (n - 1)).toList)) = true
      rw [isrefl]; rfl
    rw [e2]; rfl
  generalize L ++ [cnameOf (nmB (n - 1)) (nmB r) u] = M at *
  have key : ∀ (d i k : Nat), i + d + 1 = n → i + k = 16 → 1 ≤ k → followFrom M k (nms (i + 1)) (nmB i) (tlAt t i) = ([], []) := by
    intro d
    induction d with
    | zero =>
      intro i k hi hk h1
      obtain ⟨k', rfl⟩ : ∃ k', k = k' + 1 := ⟨k - 1, by omega⟩
      have e : i = n - 1 := by omega
      rw [e, follow_stop hlast (.inl ?_)]
      show hasName (nms (n - 1 + 1)) (nmB r) = true
      rw [nms_has (by omega) (by omega)]; simp; omega
    | succ d ih =>
      intro i k hi hk h1
      obtain ⟨k', rfl⟩ : ∃ k', k = k' + 1 := ⟨k - 1, by omega⟩
      have hn := hnx i (by omega)
      have hlen : (nms (i + 1)).length = i + 1 := by simp [nms]
      by_cases h16 : i + 1 = 16
      · rw [follow_stop hn (.inr (by rw [hlen]; omega))]
      · have hno : hasName (nms (i + 1)) (cnR t i).tgt = false := by
          show hasName (nms (i + 1)) (nmB (i + 1)) = false
          rw [nms_has (by omega) (by omega)]; simp
        rw [follow_go hn hno (by rw [hlen]; omega)]
        have e1 : nms (i + 1) ++ [(cnR t i).tgt] = nms (i + 1 + 1) := by
          unfold nms; rw [List.range_succ (n := i + 1), List.map_append]; rfl
        have e2 : (if (cnR t i).ttl < tlAt t i then (cnR t i).ttl else tlAt t i) = tlAt t (i + 1) := tlAt_succ ht i
        rw [e1, e2]
        exact ih (i + 1) k' (by omega) (by omega) (by omega)
  have := key (n - 1) 0 16 (by omega) (by omega) (by omega)
  unfold followOf
  exact this
/-- Two change places. -/
theorem LongM.swap (h : LongM n ttl t L) {i k : Nat} {x y : Rec} (hi : L[i]? = some x) (hk : L[k]? = some y) : LongM n ttl t ((L.set i y).set k x) := by
  refine ⟨h.n1, h.n20, ?_⟩
  refine List.Perm.trans ?_ h.perm
  obtain ⟨h1, h2⟩ := List.getElem?_eq_some_iff.1 hi
  obtain ⟨h3, h4⟩ := List.getElem?_eq_some_iff.1 hk
  subst h2
  subst h4
  exact List.set_set_perm h1 h3
end
end Go.Proofs.Ytepaanpdjadakaa
