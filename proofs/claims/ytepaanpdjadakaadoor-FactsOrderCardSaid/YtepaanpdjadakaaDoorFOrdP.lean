import Derived.Test.YtepaanpdjadakaaDoorFacN
/-! FactsOrder, in plain words. -/
namespace Go.Proofs.YtepaanpdjadakaaDoor
open Go Go.RowKit

def adA : Adr := adr4 1 2 3 4
def adB : Adr := adr4 4 3 2 1
theorem adA_ne : ¬ adA = adB := by simp [adA, adB, adr4]
def two_ (s : ByteArray) : List Fk := [⟨s, adA⟩, ⟨s, adB⟩]
/-- Of each name both facts, in the order in which the names came. -/
structure OrdR (R : List (Itm Fk)) (W : List ByteArray) : Prop where
  keys : R.map (·.key) = W.flatMap two_
  due : ∀ x ∈ R, 10 ≤ x.due ∧ x.due ≤ 59
  nd : KNF R
theorem two_length (W : List ByteArray) : (W.flatMap two_).length = 2 * W.length := by
  induction W with
  | nil => rfl
  | cons s W ih => rw [List.flatMap_cons, List.length_append, ih, List.length_cons]; simp [two_]; omega
theorem OrdR.len {R : List (Itm Fk)} {W : List ByteArray} (h : OrdR R W) : R.length = 2 * W.length := by
  rw [← two_length, ← h.keys, List.length_map]
theorem mem_two {W : List ByteArray} {s : ByteArray} {a : Adr} (ha : a = adA ∨ a = adB) : (⟨s, a⟩ : Fk) ∈ W.flatMap two_ ↔ s ∈ W := by
  rw [List.mem_flatMap]
  constructor
  · rintro ⟨x, hx, h⟩
    simp only [two_, List.mem_cons, List.not_mem_nil, or_false, Fk.mk.injEq] at h
    rcases h with h | h
    · exact h.1 ▸ hx
    · exact h.1 ▸ hx
  · intro h
    refine ⟨s, h, ?_⟩
    rcases ha with rfl | rfl <;> simp [two_]
theorem inB_mem (W : List ByteArray) (s : ByteArray) : inB W s = true ↔ s ∈ W := by
  unfold inB
  rw [List.any_eq_true]
  constructor
  · rintro ⟨x, hx, h⟩; exact (of_decide_eq_true h) ▸ hx
  · intro h; exact ⟨s, h, by simp⟩
theorem upK_due_bd {R : List (Itm Fk)} {k : Fk} {u : Int} (h : ∀ x ∈ R, 10 ≤ x.due ∧ x.due ≤ 59) (hu : 10 ≤ u ∧ u ≤ 59) : ∀ x ∈ upK R k u, 10 ≤ x.due ∧ x.due ≤ 59 := by
  intro x hx
  unfold upK at hx
  obtain ⟨y, hy, rfl⟩ := List.mem_map.1 hx
  have := h y hy
  by_cases e : y.key = k
  · simp only [e, if_true]; omega
  · simp only [e, if_false]; exact this
def wantS (W : List ByteArray) (s : ByteArray) : List ByteArray := if inB W s then W else W ++ [s]
/-- Both facts of a name are learned. -/
theorem ord_step {R : List (Itm Fk)} {W : List ByteArray} {next u : Int} (h : OrdR R W) (s : ByteArray) (hu : 10 ≤ u ∧ u ≤ 59) (hl : W.length < 50) :
    lrnC 100 R ⟨s, adA⟩ = 0 ∧ KNF (lrnR 100 R next ⟨s, adA⟩ u) ∧ lrnC 100 (lrnR 100 R next ⟨s, adA⟩ u) ⟨s, adB⟩ = 0 ∧
    OrdR (lrnR 100 (lrnR 100 R next ⟨s, adA⟩ u) (lrnN 100 R next ⟨s, adA⟩) ⟨s, adB⟩ u) (wantS W s) := by
  have hlen := h.len
  have hkn1 := h.nd.add 100 next ⟨s, adA⟩ u
  have hkn2 := hkn1.add 100 (lrnN 100 R next ⟨s, adA⟩) ⟨s, adB⟩ u
  cases hb : inB W s with
  | true =>
    have hm := (inB_mem W s).1 hb
    have a1 : R.any (isK ⟨s, adA⟩) = true := by rw [any_keyF, h.keys, mem_two (.inl rfl)]; exact hm
    have r1 : lrnR 100 R next ⟨s, adA⟩ u = upK R ⟨s, adA⟩ u := by unfold lrnR; rw [a1]; rfl
    have a2 : (upK R ⟨s, adA⟩ u).any (isK ⟨s, adB⟩) = true := by rw [any_keyF, upK_keys, h.keys, mem_two (.inr rfl)]; exact hm
    have r2 : lrnR 100 (upK R ⟨s, adA⟩ u) (lrnN 100 R next ⟨s, adA⟩) ⟨s, adB⟩ u = upK (upK R ⟨s, adA⟩ u) ⟨s, adB⟩ u := by unfold lrnR; rw [a2]; rfl
    rw [r1] at hkn1 hkn2 ⊢
    rw [r2] at hkn2 ⊢
    refine ⟨by unfold lrnC; rw [a1]; rfl, hkn1, by unfold lrnC; rw [a2]; rfl, ⟨?_, upK_due_bd (upK_due_bd h.due hu) hu, hkn2⟩⟩
    rw [upK_keys, upK_keys, h.keys]
    unfold wantS
    rw [hb]
    rfl
  | false =>
    have hm : ¬ s ∈ W := fun hc => by rw [(inB_mem W s).2 hc] at hb; cases hb
    have a1 : R.any (isK ⟨s, adA⟩) = false := by
      cases hc : R.any (isK ⟨s, adA⟩) with
      | false => rfl
      | true => rw [any_keyF, h.keys, mem_two (.inl rfl)] at hc; exact absurd hc hm
    have r1 : lrnR 100 R next ⟨s, adA⟩ u = R ++ [⟨⟨s, adA⟩, next, u⟩] := by
      unfold lrnR; rw [a1, if_neg (by decide), if_neg (by omega)]
    have k1 : (R ++ [(⟨⟨s, adA⟩, next, u⟩ : Itm Fk)]).map (·.key) = W.flatMap two_ ++ [⟨s, adA⟩] := by rw [List.map_append, h.keys]; rfl
    have a2 : (R ++ [(⟨⟨s, adA⟩, next, u⟩ : Itm Fk)]).any (isK ⟨s, adB⟩) = false := by
      cases hc : (R ++ [(⟨⟨s, adA⟩, next, u⟩ : Itm Fk)]).any (isK ⟨s, adB⟩) with
      | false => rfl
      | true =>
        rw [any_keyF, k1, List.mem_append, mem_two (.inr rfl)] at hc
        rcases hc with hc | hc
        · exact absurd hc hm
        · simp only [List.mem_singleton, Fk.mk.injEq, true_and] at hc
          exact absurd hc.symm adA_ne
    have r2 : lrnR 100 (R ++ [⟨⟨s, adA⟩, next, u⟩]) (lrnN 100 R next ⟨s, adA⟩) ⟨s, adB⟩ u = R ++ [⟨⟨s, adA⟩, next, u⟩] ++ [⟨⟨s, adB⟩, lrnN 100 R next ⟨s, adA⟩, u⟩] := by
      unfold lrnR; rw [a2, if_neg (by decide), if_neg (by rw [List.length_append, List.length_singleton]; omega)]
    rw [r1] at hkn1 hkn2 ⊢
    rw [r2] at hkn2 ⊢
    refine ⟨by unfold lrnC; rw [a1, if_neg (by decide), if_neg (by omega)], hkn1, by unfold lrnC; rw [a2, if_neg (by decide), if_neg (by rw [List.length_append, List.length_singleton]; omega)], ⟨?_, ?_, hkn2⟩⟩
    · rw [List.map_append, k1]
      unfold wantS
      rw [hb]
      simp [two_]
    · intro x hx
      rw [List.mem_append, List.mem_append, List.mem_singleton, List.mem_singleton] at hx
      rcases hx with (hx | rfl) | rfl
      · exact h.due x hx
      · exact hu
      · exact hu
theorem wantS_le (W : List ByteArray) (s : ByteArray) : (wantS W s).length ≤ W.length + 1 := by
  unfold wantS
  split <;> simp
theorem OrdR.nil : OrdR [] [] := ⟨rfl, by simp, KNF.nil⟩
theorem names_keys (R : List (Itm Fk)) (a : Adr) : namesL (fcts R) a = ((R.map (·.key)).filter fun q => decide (q.adr = a)).map (·.name) := by
  unfold namesL fcts
  rw [List.filter_map, List.filter_map, List.map_map, List.map_map]
  rfl
theorem two_names (W : List ByteArray) (a : Adr) (ha : a = adA ∨ a = adB) : ((W.flatMap two_).filter fun q => decide (q.adr = a)).map (·.name) = W := by
  induction W with
  | nil => rfl
  | cons s W ih =>
    rw [List.flatMap_cons, List.filter_append, List.map_append, ih]
    rcases ha with rfl | rfl
    · have : ¬ adB = adA := fun e => adA_ne e.symm
      simp [two_, this]
    · simp [two_, adA_ne]
theorem OrdR.names {R : List (Itm Fk)} {W : List ByteArray} (h : OrdR R W) (a : Adr) (ha : a = adA ∨ a = adB) : namesL (fcts R) a = W := by
  rw [names_keys, h.keys, two_names W a ha]
def notB (g s : ByteArray) : Bool := !decide (s = g)
theorem two_filter (W : List ByteArray) (g : ByteArray) : (W.flatMap two_).filter (fun q => !decide (q.name = g)) = (W.filter (notB g)).flatMap two_ := by
  induction W with
  | nil => rfl
  | cons s W ih =>
    rw [List.flatMap_cons, List.filter_append, ih, List.filter_cons]
    by_cases e : s = g
    · simp [two_, notB, e]
    · simp [two_, notB, e]
theorem OrdR.drop {R : List (Itm Fk)} {W : List ByteArray} (h : OrdR R W) (g : ByteArray) : OrdR (R.filter fun x => !isN g x) (W.filter (notB g)) := by
  refine ⟨?_, fun x hx => h.due x ((List.mem_filter.1 hx).1), h.nd.filter _⟩
  rw [← two_filter, ← h.keys, List.filter_map]
  rfl
theorem OrdR.early {R : List (Itm Fk)} {W : List ByteArray} (h : OrdR R W) : R.filter (fun x => !lateF 9 x) = R := by
  rw [List.filter_eq_self]
  intro x hx
  have := h.due x hx
  simp [lateF]; omega
theorem OrdR.last {R : List (Itm Fk)} {W : List ByteArray} (h : OrdR R W) : R.filter (fun x => !lateF 1000 x) = [] := by
  rw [List.filter_eq_nil_iff]
  intro x hx
  have := h.due x hx
  simp [lateF]; omega
end Go.Proofs.YtepaanpdjadakaaDoor
