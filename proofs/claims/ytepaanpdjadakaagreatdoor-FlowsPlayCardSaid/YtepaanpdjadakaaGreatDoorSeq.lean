import Derived.Test.YtepaanpdjadakaaGreatDoorBase
/-! A region in the order of its text, walked as one that draws. -/
namespace Go.Proofs.YtepaanpdjadakaaGreatDoor
open Go Go.RowKit

section
variable {P : Program} {Q : Exit → Act → World → Prop} {l : List Oper}
theorem wpList_of_ord : ∀ (suf : List Oper) (k : Nat) (ord : List (Nat × How)) (C : World → Prop) (a : Act) (w : World), (∀ j, suf[j]? = l[k + j]?) → ord.map (·.1) = List.range' k suf.length → C w →
    wpOrd P l.toArray (Q .normal) C ord a w → wpList P l.toArray Q suf a w := by
  intro suf
  induction suf with
  | nil =>
    intro k ord C a w _ ho _ h
    have : ord = [] := by simpa using ho
    subst this
    exact h
  | cons o suf ih =>
    intro k ord C a w hs ho hC h
    cases ord with
    | nil => simp at ho
    | cons x ord =>
      obtain ⟨i, how⟩ := x
      simp only [List.map_cons, List.length_cons, List.range'_succ, List.cons.injEq] at ho
      obtain ⟨hi, ho⟩ := ho
      subst hi
      have hk : l.toArray[i]? = some o := by have := hs 0; simpa using this.symm
      have ih' := ih (i + 1) ord
      have hs' : ∀ j, suf[j]? = l[i + 1 + j]? := fun j => by have := hs (j + 1); simpa [Nat.add_assoc, Nat.add_comm 1 j] using this
      have fin : wpOp P l.toArray Q i (wpList P l.toArray Q suf) a w → wpList P l.toArray Q (o :: suf) a w := by
        intro hw
        unfold wpOp at hw
        simp only [hk] at hw
        unfold wpList
        exact hw
      refine fin ?_
      simp only [wpOrd, hk] at h
      by_cases hw : Region.wanted o (yielded l.toArray a.tmps) = true
      · simp only [hw, if_true] at h
        cases how with
        | pure =>
          obtain ⟨v, h1, h2⟩ := h
          exact YC.wpOp (C := C) hk (.inl ⟨hw, fun w' _ => h1 w'⟩) hC (ih' C _ _ hs' ho hC h2)
        | quiet =>
          obtain ⟨v, h1, h2⟩ := h
          exact YC.wpOp (C := C) hk (.inl ⟨hw, h1⟩) hC (ih' C _ _ hs' ho hC h2)
        | acts =>
          refine wpOp_monoQ (K := fun a' w' => C w' ∧ wpOrd P l.toArray (Q .normal) C ord a' w') (fun a w ⟨h1, h2⟩ => ih' C _ _ hs' ho h1 h2) ?_
          unfold wpOp
          simp only [hk, hw, if_true]
          exact .inl h
        | seals =>
          refine wpOp_monoQ (K := fun a' w' => ∃ C' : World → Prop, C' w' ∧ wpOrd P l.toArray (Q .normal) C' ord a' w') (fun a w ⟨C', h1, h2⟩ => ih' C' _ _ hs' ho h1 h2) ?_
          unfold wpOp
          simp only [hk, hw, if_true]
          exact .inl h
      · have hw' : Region.wanted o (yielded l.toArray a.tmps) = false := by simpa using hw
        simp only [hw', Bool.false_eq_true, if_false] at h
        exact YC.wpOp (C := C) hk (.inr ⟨hw', rfl⟩) hC (ih' C _ _ hs' ho hC h)
theorem wp_region_seq {id : Nat} {a : Act} {w : World} (ord : List (Nat × How)) (ho : ord.map (·.1) = List.range' 0 l.length) (C : World → Prop) (hC : C w)
    (h : wpOrd P l.toArray (Q .normal) C ord a w) : (Code.region id l.toArray false).wp P Q a w :=
  wp_region_lit (wpList_of_ord l 0 ord C a w (fun j => by rw [Nat.zero_add]) ho hC h)
theorem wp_build1_run {w : World} {o : Oper} {a : Act} {K : Act → World → Prop} {ty : TypeId} {i : Nat} {x : Operand} {u : Value} {cells : Array Value} (ho : o.op = .build ty #[(i, x)]) (hx : a.eval x = u) (hb : P.built ty [(i, u)] = some cells) (h : K (a.put o.dst (.agg cells)) w) : o.wp P a w K Q :=
  wp_build_run ho (vs := [(i, u)]) (by simp [hx]) hb h
end
end Go.Proofs.YtepaanpdjadakaaGreatDoor
