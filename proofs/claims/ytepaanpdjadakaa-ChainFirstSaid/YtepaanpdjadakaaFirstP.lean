import Derived.Test.YtepaanpdjadakaaChain9
/-! ChainFirst: what is found, in plain words. -/
namespace Go.Proofs.Ytepaanpdjadakaa
open Go Go.RowKit

def mn (a b : Int) : Int := if b < a then b else a
def foreignOf (c : Int) : Rec := { name := sB, typ := 1, cls := c, ttl := 7, addr := v4 8 8 8 9, tgt := ⟨#[]⟩, data := .slice none 0 0, one := rfl }
def firstL (ttl other c : Int) : List Rec := [cnameOf sA sB 50, cnameOf sA sC 60, aOf sB 1 ttl, aOf sB 1 other, aOf sC 2 5, aOf sB 3 other, foreignOf c]
def firstF (ttl other c : Int) : List Fnd := [⟨v4 8 8 8 1, mn 50 ttl⟩, ⟨v4 8 8 8 3, mn 50 other⟩] ++ (if c == 1 then [⟨v4 8 8 8 9, 7⟩] else [])
theorem sAB : (sA.toList == sB.toList) = false := by decide +kernel
theorem sBA : (sB.toList == sA.toList) = false := by decide +kernel
theorem sCB : (sC.toList == sB.toList) = false := by decide +kernel
theorem sAA : (sA.toList == sA.toList) = true := isrefl _
theorem sBB : (sB.toList == sB.toList) = true := isrefl _
theorem next_a (ttl other c : Int) : nextOf (firstL ttl other c) sA = some (cnameOf sA sB 50) := by
  unfold nextOf firstL
  rw [List.find?_cons]
  simp only [Rec.isAlias, cnameOf, sAA]
  rfl
theorem next_b (ttl other c : Int) : nextOf (firstL ttl other c) sB = none := by
  unfold nextOf firstL
  simp only [List.find?_cons, Rec.isAlias, cnameOf, aOf, foreignOf, sAB, sBB, sCB, Bool.and_false, Bool.and_true, List.find?_nil]
  simp
theorem found_b (ttl other c : Int) : foundOf (firstL ttl other c) sB 50 = firstF ttl other c := by
  unfold foundOf firstL firstF mn
  have d13 : decide (v4 8 8 8 1 = v4 8 8 8 3) = false := by decide
  have d11 : decide (v4 8 8 8 1 = v4 8 8 8 1) = true := by decide
  have d19 : decide (v4 8 8 8 1 = v4 8 8 8 9) = false := by decide
  have d39 : decide (v4 8 8 8 3 = v4 8 8 8 9) = false := by decide
  generalize h1 : v4 8 8 8 1 = a1 at *
  generalize h3 : v4 8 8 8 3 = a3 at *
  generalize h9 : v4 8 8 8 9 = a9 at *
  have e1 : (aOf sB 1 ttl).addr = a1 := h1
  have e2 : (aOf sB 1 other).addr = a1 := h1
  have e3 : (aOf sB 3 other).addr = a3 := h3
  have e4 : (foreignOf c).addr = a9 := h9
  have f1 : addFound sB 50 [] (cnameOf sA sB 50) = [] := rfl
  have f2 : addFound sB 50 [] (cnameOf sA sC 60) = [] := rfl
  have f3 : addFound sB 50 [] (aOf sB 1 ttl) = [⟨a1, if ttl < 50 then ttl else 50⟩] := by
    unfold addFound; rw [e1, show (aOf sB 1 ttl).isAddr = true from rfl, show ((aOf sB 1 ttl).name.toList == sB.toList) = true from sBB]; rfl
  have f4 : ∀ x, addFound sB 50 [⟨a1, x⟩] (aOf sB 1 other) = [⟨a1, x⟩] := by
    intro x; unfold addFound; rw [e2]; simp
  have f5 : ∀ x, addFound sB 50 [⟨a1, x⟩] (aOf sC 2 5) = [⟨a1, x⟩] := by
    intro x; unfold addFound; rw [show ((aOf sC 2 5).name.toList == sB.toList) = false from sCB]; simp
  have f6 : ∀ x, addFound sB 50 [⟨a1, x⟩] (aOf sB 3 other) = [⟨a1, x⟩, ⟨a3, if other < 50 then other else 50⟩] := by
    intro x; unfold addFound; rw [e3, show (aOf sB 3 other).isAddr = true from rfl, show ((aOf sB 3 other).name.toList == sB.toList) = true from sBB]
    simp only [List.any_cons, List.any_nil, d13]; rfl
  have f7 : ∀ x y, addFound sB 50 [⟨a1, x⟩, ⟨a3, y⟩] (foreignOf c) = [⟨a1, x⟩, ⟨a3, y⟩] ++ (if c == 1 then [⟨a9, 7⟩] else []) := by
    intro x y; unfold addFound; rw [e4, show (foreignOf c).isAddr = (c == 1) by simp [Rec.isAddr, foreignOf], show ((foreignOf c).name.toList == sB.toList) = true from sBB]
    simp only [List.any_cons, List.any_nil, d19, d39]
    cases c == 1 <;> rfl
  simp only [List.foldl_cons, List.foldl_nil, f1, f2, f3, f4, f5, f6, f7]
theorem first_follow (ttl other c : Int) : followOf (firstL ttl other c) sA = (firstF ttl other c, [sA, sB]) := by
  unfold followOf
  rw [follow_go (next_a ttl other c) (show hasName [sA] sB = false by unfold hasName; simp only [List.any_cons, List.any_nil, sAB]; rfl) (by decide)]
  show followFrom (firstL ttl other c) (14 + 1) [sA, sB] sB 50 = _
  rw [follow_none (next_b ttl other c), found_b]
theorem none_follow : followOf [] sA = ([], [sA]) := rfl
end Go.Proofs.Ytepaanpdjadakaa
