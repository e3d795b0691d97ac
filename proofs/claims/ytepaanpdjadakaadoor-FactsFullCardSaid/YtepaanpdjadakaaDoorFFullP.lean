import Derived.Test.YtepaanpdjadakaaDoorFacN
/-! FactsFull, in plain words. -/
namespace Go.Proofs.YtepaanpdjadakaaDoor
open Go Go.RowKit

def nameI (j : Nat) : ByteArray := ⟨#[110]⟩ ++ digN j
def keyI (i : Nat) : Fk := ⟨nameI (i % 7), adr4 1 1 1 i⟩
def keyE : Fk := ⟨⟨#[101, 108, 115, 101]⟩, zAdr⟩
def facR (k : Nat) : List (Itm Fk) := (List.range k).map fun (i : Nat) => ⟨keyI i, i, 5⟩
theorem keyI_inj {i j : Nat} : keyI i = keyI j ↔ i = j := by
  constructor
  · intro h
    have := congrArg Fk.adr h
    simp only [keyI, adr4, Adr.mk.injEq, List.cons.injEq] at this
    have h2 := this.2.2.2.2.1
    omega
  · rintro rfl; rfl
theorem facR_length (k : Nat) : (facR k).length = k := by simp [facR]
theorem facR_any (k j : Nat) : (facR k).any (isK (keyI j)) = decide (j < k) := by
  rw [Bool.eq_iff_iff, decide_eq_true_eq, any_keyF]
  unfold facR
  rw [List.map_map, List.mem_map]
  constructor
  · rintro ⟨i, hi, e⟩
    have := keyI_inj.1 e
    have := List.mem_range.1 hi
    omega
  · intro h
    exact ⟨j, List.mem_range.2 h, rfl⟩
theorem facR_else (k : Nat) : (facR k).any (isK keyE) = false := by
  cases h : (facR k).any (isK keyE) with
  | false => rfl
  | true =>
    rw [any_keyF] at h
    unfold facR at h
    rw [List.map_map, List.mem_map] at h
    obtain ⟨i, _, e⟩ := h
    have := congrArg Fk.adr e
    simp [keyI, keyE, adr4, zAdr] at this
theorem facR_succ (k : Nat) : facR (k + 1) = facR k ++ [⟨keyI k, k, 5⟩] := by simp [facR, List.range_succ]
theorem fac_add {n k : Nat} (h : k < n) : lrnC n (facR k) (keyI k) = 0 ∧ lrnR n (facR k) k (keyI k) 5 = facR (k + 1) ∧ lrnN n (facR k) k (keyI k) = (k + 1 : Nat) := by
  have ha : (facR k).any (isK (keyI k)) = false := by rw [facR_any]; simp
  unfold lrnC lrnR lrnN
  rw [ha, facR_length, facR_succ]
  simp only [Bool.false_eq_true, if_false]
  rw [if_neg (by omega), if_neg (by omega), if_neg (by omega)]
  exact ⟨rfl, rfl, by omega⟩
theorem fac_no (n : Nat) (u : Int) : lrnC n (facR n) keyE = 18 ∧ lrnR n (facR n) n keyE u = facR n ∧ lrnN n (facR n) n keyE = n := by
  unfold lrnC lrnR lrnN
  rw [facR_else, facR_length]
  simp
theorem name_zero : ∀ j, j < 7 → decide (nameI j = ⟨#[110, 48]⟩) = decide (j = 0) := by
  intro j h
  rcases j with _ | _ | _ | _ | _ | _ | _ | j
  all_goals first | omega | decide +kernel
theorem count_seven : ∀ n, n < 41 → ((List.range n).filter fun i => !decide (i % 7 = 0)).length + (n + 6) / 7 = n := by decide
theorem facR_keys (n : Nat) : (facR n).map (·.key) = (List.range n).map keyI := by
  unfold facR
  rw [List.map_map]
  rfl
theorem fac_again {n k : Nat} (hn : n < 41) (h : k < n) (u : Int) : lrnC n (facR n) (keyI k) = 0 ∧ lrnN n (facR n) n (keyI k) = n ∧ (lrnR n (facR n) n (keyI k) u).length = n ∧ ((lrnR n (facR n) n (keyI k) u).filter fun x => !isN ⟨#[110, 48]⟩ x).length + (n + 6) / 7 = n := by
  have ha : (facR n).any (isK (keyI k)) = true := by rw [facR_any]; simp; omega
  unfold lrnC lrnR lrnN
  rw [ha]
  refine ⟨rfl, rfl, by simp [upK, facR_length], ?_⟩
  simp only [if_true]
  have h1 : ∀ R : List (Itm Fk), (R.filter fun x => !isN ⟨#[110, 48]⟩ x).length = ((R.map (·.key)).filter fun q => !decide (q.name = ⟨#[110, 48]⟩)).length := by
    intro R
    rw [List.filter_map, List.length_map]
    rfl
  rw [h1, upK_keys, facR_keys, List.filter_map, List.length_map]
  have h2 : (List.range n).filter ((fun q : Fk => !decide (q.name = ⟨#[110, 48]⟩)) ∘ keyI) = (List.range n).filter fun i => !decide (i % 7 = 0) := by
    congr 1
    funext i
    exact congrArg not (name_zero (i % 7) (Nat.mod_lt _ (by decide)))
  rw [h2]
  exact count_seven n hn
theorem facR_KN (n : Nat) : KNF (facR n) := by
  unfold KNF
  rw [facR_keys]
  unfold List.Nodup
  rw [List.pairwise_map]
  exact List.Pairwise.imp (fun h e => h (keyI_inj.1 e)) List.nodup_range
end Go.Proofs.YtepaanpdjadakaaDoor
