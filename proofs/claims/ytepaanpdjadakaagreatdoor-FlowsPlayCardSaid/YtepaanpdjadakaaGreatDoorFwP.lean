import Derived.Test.YtepaanpdjadakaaGreatDoorGrfB
import Derived.Test.YtepaanpdjadakaaGreatDoorExpB
import Derived.Test.YtepaanpdjadakaaGreatDoorFlOne
import Derived.Test.YtepaanpdjadakaaGreatDoorRefuseP
import Derived.Test.YtepaanpdjadakaaGreatDoorSameW
import Derived.Test.YtepaanpdjadakaaGreatDoorSameT
/-! FlowsPlay: the table and the reference agree. -/
namespace Go.Proofs.YtepaanpdjadakaaGreatDoor
open Go Go.RowKit

theorem nodup_le {α : Type} [DecidableEq α] : ∀ (l m : List α), l.Nodup → (∀ x ∈ l, x ∈ m) → l.length ≤ m.length
  | [], _, _, _ => Nat.zero_le _
  | x :: l, m, hn, hs => by
    rw [List.nodup_cons] at hn
    have hx := hs x (List.mem_cons_self ..)
    have h1 := nodup_le l (m.erase x) hn.2 fun y hy => by
      have hne : y ≠ x := fun e => hn.1 (e ▸ hy)
      exact (List.mem_erase_of_ne hne).2 (hs y (List.mem_cons_of_mem _ hy))
    rw [List.length_erase_of_mem hx] at h1
    have h2 : 0 < m.length := List.length_pos_of_mem hx
    rw [List.length_cons]; omega
def allW : List Tup := [tupP 6 0, tupP 6 1, tupP 6 2, tupP 17 0, tupP 17 1, tupP 17 2, tupP 1 0, tupP 1 1, tupP 1 2, tupP 58 0, tupP 58 1, tupP 58 2]
theorem way_all (i : Int) (flags : Int) (h : beginsF (wayT i).proto flags = true) : wayT i ∈ allW := by
  unfold wayT at h ⊢
  have h3 : wayS i = 0 ∨ wayS i = 1 ∨ wayS i = 2 := by unfold wayS; omega
  have hp : wayP i = 6 ∨ wayP i = 17 ∨ wayP i = 1 ∨ wayP i = 58 ∨ wayP i = 99 := by
    unfold wayP
    repeat' split
    all_goals simp
  unfold allW
  rcases hp with e | e | e | e | e <;> rw [e] at h ⊢ <;> rcases h3 with e2 | e2 | e2 <;> rw [e2] at h ⊢
  all_goals first
    | (simp; done)
    | (exfalso; revert h; unfold beginsF tupP; simp)
section
variable {R : List FIt} {q : Tup} {next : Int}
theorem find_flws (R : List FIt) (q : Tup) : (flws R).find? (isWL q) = (R.find? (isW q)).map flwOf := by
  unfold flws
  rw [List.find?_map]
  rfl
theorem get_flws (R : List FIt) (q : Tup) : getVL (flws R) q = getV R q := by
  unfold getVL getV
  rw [find_flws]
  cases R.find? (isW q) <;> rfl
theorem some_flws (R : List FIt) (q : Tup) : ((flws R).find? (isWL q)).isSome = R.any (isW q) := by
  rw [find_flws]
  cases h : R.find? (isW q) with
  | none =>
    rw [List.find?_eq_none] at h
    rw [show R.any (isW q) = false from List.any_eq_false.2 h]; rfl
  | some x => rw [show R.any (isW q) = true from List.any_eq_true.2 ⟨x, List.mem_of_find?_eq_some h, List.find?_some h⟩]; rfl
theorem del_flws (R : List FIt) (q : Tup) : delL (flws R) q = flws (R.filter fun y => !isW q y) := by
  unfold delL flws
  rw [List.filter_map]
  rfl
theorem KN_flws (h : KNW R) : KNL (flws R) := by
  unfold KNL flws
  rw [List.map_map]
  exact h
theorem set_flws (hn : KNW R) (hg : Good R next) {x : FIt} (hx : x ∈ R) (hq : x.key.tup = q) (ph : Ph) (u : Int) : setL (flws R) q ph u = flws (noteR R x.id ph u) := by
  unfold setL flws noteR
  rw [List.map_map, List.map_map]
  apply List.map_congr_left
  intro y hy
  simp only [Function.comp]
  obtain ⟨i, hi⟩ := List.mem_iff_getElem?.1 hx
  obtain ⟨j, hj⟩ := List.mem_iff_getElem?.1 hy
  by_cases e : y.id = x.id
  · have h1 : (R.map (·.id))[i]? = (R.map (·.id))[j]? := by rw [List.getElem?_map, List.getElem?_map, hi, hj]; simp [e]
    have h2 := (List.getElem?_inj (by simpa using (List.getElem?_eq_some_iff.1 hi).1) hg.1).1 h1
    subst h2
    rw [hi] at hj
    cases hj
    rw [if_pos (show (flwOf x).tup = q from hq), if_pos rfl]
    rfl
  · have hne : ¬ (flwOf y).tup = q := fun h => by
      have h1 : (R.map (·.key.tup))[i]? = (R.map (·.key.tup))[j]? := by rw [List.getElem?_map, List.getElem?_map, hi, hj]; simp [hq, show y.key.tup = q from h]
      have h2 := (List.getElem?_inj (by simpa using (List.getElem?_eq_some_iff.1 hi).1) hn).1 h1
      subst h2
      rw [hi] at hj
      cases hj
      exact e rfl
    rw [if_neg hne, if_neg e]
theorem see_flws (hn : KNW R) (hg : Good R next) (q : Tup) (side flags now : Int) : seeL (flws R) q side flags now = ((seeR R q side flags now).1, flws (seeR R q side flags now).2) := by
  unfold seeL seeR
  rw [find_flws]
  cases h : R.find? (isW q) with
  | none => rfl
  | some x =>
    have hx := List.mem_of_find?_eq_some h
    have hq : x.key.tup = q := by simpa [isW] using List.find?_some h
    simp only [Option.map_some]
    rw [show (⟨(flwOf x).st, (flwOf x).fin⟩ : Ph) = x.key.ph from rfl]
    by_cases hs : side = 0 ∨ side = 1
    · rw [if_pos hs, if_pos hs]
      cases hm : (seeF q.proto x.key.ph side flags).1 with
      | false => simp
      | true =>
        simp only [if_true]
        cases he : (seeF q.proto x.key.ph side flags).2.1 with
        | true => simp only [if_true]; rw [del_flws]
        | false => simp only [Bool.false_eq_true, if_false]; rw [set_flws hn hg hx hq]
    · rw [if_neg hs, if_neg hs]
theorem begC_flws (room : Nat) (R : List FIt) (q : Tup) (flags : Int) : begLC room (flws R) q flags = begC room R q flags := by
  unfold begLC begC
  rw [some_flws, flws_length]
theorem beg_flws (room : Nat) (R : List FIt) (p : Nat) (q : Tup) (flags now : Int) : begLL room (flws R) q flags now = flws (begR room R next p q flags now) := by
  unfold begLL begR
  rw [begC_flws]
  split
  · unfold flws
    rw [List.map_append]
    have h0 : (begP q).fin = 0 := rfl
    show _ = _ ++ [flwOf _]
    unfold flwOf
    rw [h0]
  · rfl
/-- What the play keeps. -/
structure FI (R : List FIt) (k : Nat) (next : Int) : Prop where
  kn : KNW R
  ok : OkL (flws R)
  len : R.length ≤ k
  nx : 0 ≤ next ∧ next ≤ k
  all : ∀ x ∈ R, x.key.tup ∈ allW
theorem FI.small {k : Nat} (h : FI R k next) : R.length ≤ 12 := by
  have hkn := h.kn
  unfold KNW at hkn
  have := nodup_le (R.map fun x : FIt => x.key.tup) allW hkn fun y hy => by
    obtain ⟨x, hx, e⟩ := List.mem_map.1 hy
    exact e ▸ h.all x hx
  simpa [allW] using this
theorem FI.due {k : Nat} (h : FI R k next) (now : Int) : (dueF now R).length ≤ 19 := by
  unfold dueF
  rw [isrt_length]
  have := h.small
  have := List.length_filter_le (fun x : FIt => !decide (now < x.due)) R
  omega
theorem FI.nil : FI [] 0 0 := ⟨KNW.nil, (fun f hf => by cases hf), Nat.le_refl _, by omega, (fun x hx => by cases hx)⟩
theorem FI.keep {k : Nat} (h : FI R k next) (p : FIt → Bool) : FI (R.filter p) (k + 1) next := by
  refine ⟨h.kn.filter p, fun f hf => ?_, ?_, ?_, fun x hx => h.all x (List.mem_filter.1 hx).1⟩
  · unfold flws at hf
    obtain ⟨x, hx, rfl⟩ := List.mem_map.1 hf
    exact h.ok _ (List.mem_map.2 ⟨x, (List.mem_filter.1 hx).1, rfl⟩)
  · have := List.length_filter_le p R
    have := h.len
    omega
  · have := h.nx; omega
theorem FI.more {k : Nat} (h : FI R k next) : FI R (k + 1) next := ⟨h.kn, h.ok, by have := h.len; omega, by have := h.nx; omega, h.all⟩
theorem FI.begin {k : Nat} (h : FI R k next) (room p : Nat) (i flags now : Int) : FI (begR room R next p (wayT i) flags now) (k + 1) (begN room R next (wayT i) flags) := by
  unfold begR begN
  by_cases hc : begC room R (wayT i) flags = 0
  · rw [if_pos hc, if_pos hc]
    have hb : beginsF (wayT i).proto flags = true ∧ R.any (isW (wayT i)) = false := by
      unfold begC at hc
      split at hc
      · rename_i hb
        refine ⟨hb, ?_⟩
        split at hc
        · cases hc
        · rename_i ha; simpa using ha
      · cases hc
    refine ⟨h.kn.add hb.2 _ _ _ _, fun f hf => ?_, ?_, ?_, fun x hx => ?_⟩
    · unfold flws at hf
      obtain ⟨x, hx, rfl⟩ := List.mem_map.1 hf
      rw [List.mem_append, List.mem_singleton] at hx
      rcases hx with hx | rfl
      · exact h.ok _ (List.mem_map.2 ⟨x, hx, rfl⟩)
      · unfold OkF flwOf begP
        simp only
        by_cases h6 : (wayT i).proto = 6
        · rw [if_pos h6, if_pos h6]; exact okT_mk (by decide) (by decide) (.inr rfl)
        · rw [if_neg h6, if_neg h6]; exact .inl rfl
    · have := h.len; simp; omega
    · have := h.nx; omega
    · rw [List.mem_append, List.mem_singleton] at hx
      rcases hx with hx | rfl
      · exact h.all x hx
      · exact way_all i flags hb.1
  · rw [if_neg hc, if_neg hc]; exact h.more
theorem FI.see {k : Nat} (h : FI R k next) (hg : Good R next) (q : Tup) (side flags now : Int) : FI (seeR R q side flags now).2 (k + 1) next := by
  unfold seeR
  cases hf : R.find? (isW q) with
  | none => exact h.more
  | some x =>
    have hx := List.mem_of_find?_eq_some hf
    have hq : x.key.tup = q := by simpa [isW] using List.find?_some hf
    simp only
    by_cases hs : side = 0 ∨ side = 1
    · rw [if_pos hs]
      obtain ⟨sp, hsp⟩ : ∃ sp, sp = seeF q.proto x.key.ph side flags := ⟨_, rfl⟩
      rw [← hsp]
      obtain ⟨may, ends, ph⟩ := sp
      cases may with
      | false => exact h.more
      | true =>
        cases ends with
        | true => exact h.keep _
        | false =>
          simp only [if_true, Bool.false_eq_true, if_false]
          have hx2 := h.ok _ (List.mem_map.2 ⟨x, hx, rfl⟩)
          have hok : OkF ⟨q, ph.st, ph.fin, 0⟩ := by
            unfold OkF at hx2 ⊢
            rw [show (flwOf x).tup.proto = q.proto from congrArg Tup.proto hq, show (⟨(flwOf x).st, (flwOf x).fin⟩ : Ph) = x.key.ph from rfl, show (flwOf x).st = x.key.ph.st from rfl] at hx2
            simp only
            by_cases h6 : q.proto = 6
            · rw [if_pos h6] at hx2 ⊢
              have h4 : seeF q.proto x.key.ph side flags = seeN x.key.ph side flags := by
                unfold seeF at hsp ⊢
                rw [if_pos h6] at hsp ⊢
                unfold seeN
                cases h4 : hasF flags 4 with
                | false => rfl
                | true =>
                  rw [h4, if_pos rfl] at hsp
                  split at hsp <;> simp at hsp
              rw [h4] at hsp
              exact OkT_see hx2 hsp.symm
            · rw [if_neg h6] at hx2 ⊢
              unfold seeF at hsp
              rw [if_neg h6] at hsp
              split at hsp
              · simp only [Prod.mk.injEq, true_and] at hsp
                rw [hsp]; exact .inr rfl
              · simp only [Prod.mk.injEq, true_and] at hsp
                rw [hsp]; exact hx2
          refine ⟨h.kn.note _ _ _, fun f hf => ?_, by rw [noteR_length]; have := h.len; omega, by have := h.nx; omega, fun y hy => ?_⟩
          · unfold flws noteR at hf
            rw [List.map_map] at hf
            obtain ⟨y, hy, rfl⟩ := List.mem_map.1 hf
            simp only [Function.comp]
            split
            · rename_i e
              have hyx : y = x := by
                obtain ⟨i, hi⟩ := List.mem_iff_getElem?.1 hx
                obtain ⟨j, hj⟩ := List.mem_iff_getElem?.1 hy
                have h1 : (R.map (·.id))[i]? = (R.map (·.id))[j]? := by rw [List.getElem?_map, List.getElem?_map, hi, hj]; simp [e]
                have h2 := (List.getElem?_inj (by simpa using (List.getElem?_eq_some_iff.1 hi).1) hg.1).1 h1
                subst h2
                rw [hi] at hj
                cases hj; rfl
              subst hyx
              unfold OkF flwOf at *
              simp only at hok ⊢
              rw [hq]
              exact hok
            · exact h.ok _ (List.mem_map.2 ⟨y, hy, rfl⟩)
          · have : y.key.tup ∈ (noteR R x.id ph (aft now (lastsF q.proto ph.st))).map (·.key.tup) := List.mem_map.2 ⟨y, hy, rfl⟩
            rw [noteR_tups] at this
            obtain ⟨z, hz, e⟩ := List.mem_map.1 this
            rw [← e]; exact h.all z hz
    · rw [if_neg hs]; exact h.more
end
end Go.Proofs.YtepaanpdjadakaaGreatDoor
