/- For every input the law stockade/stockadelaw26.FlowsPlay of the given program returns true, and each argument reads afterwards as it read before. Conditions: the row's own cells; the listed package-level variable (errors.errorType) begins as the program's text lays it, to which the card ties it (by the translator's look over the pruned copy of the project). -/
import Derived.Test.YtepaanpdjadakaaGreatDoorRows
import Derived.Test.YtepaanpdjadakaaGreatDoorTie
import Derived.Test.YtepaanpdjadakaaGreatDoorCards
import Derived.Test.YtepaanpdjadakaaGreatDoorLaid
import Derived.Test.YtepaanpdjadakaaGreatDoorFwW
import Derived.Test.YtepaanpdjadakaaGreatDoorOpenF
import Derived.SevenTiedAt
import Derived.Handed
import Derived.ChangeOld
import Derived.Below
import Derived.WalkKit
import Derived.ProofKit
import Derived.OpenShut
import Derived.ShutString
namespace Go.Proofs.YtepaanpdjadakaaGreatDoor.flowsPlay
open Go.ChangeShapes Go.WideShapes Go.ChangeAt Go.RowKit
open Go.ChangeMaps (open_string shut_string)
set_option linter.unusedVariables false

theorem own : ownKnob Tryz.prog.godebug = none := by kernel_rfl
theorem laidOut : laidOutB Tryz.prog = true := by kernel_rfl

set_option maxRecDepth 100000 in
theorem lifted (os : Os) (started : os.Started) (H : Type) (enc : TypeId × Value → H) :
    ReturnsInHanded {} Tryz.checked os 3 .any (fun w args => (Rows.flowsPlaySpec.pre enc Tryz.prog Tryz.f3 Rows.flowsPlayRow.domain false w args ∧ laidMetH Tryz.prog laidL w) ∧ sizedMet enc Tryz.prog Tryz.f3 (OpenSpec.ofChange Rows.flowsPlaySpec) false w args) (Rows.flowsPlaySpec.post enc Tryz.prog Tryz.f3 false true false false) := by
  refine returnsInHanded_of_change_and (C := Tryz.checked) (X := fun w _ => laidMetH Tryz.prog laidL w) (fun _ _ _ hh h => h.of_heap hh) own started (by kernel_rfl) Tryz.func3
    (ChangeSpec.witness_at (enc := enc) (C := Tryz.checked) (os := os) (X := fun w _ => laidMetH Tryz.prog laidL w) false (laidWorld os) #[.int .i64 0, .slice none 0 0] 8 rfl (by kernel_rfl) (by kernel_rfl) (by kernel_rfl) (by kernel_rfl) (by kernel_rfl) (laidWorld_met os _)) ?_
  intro W base args ds gs before hval0 hW hcnd hsz hL _
  have hval : ∀ (j : Nat) t v, Tryz.f3.params[j]? = some t → args[j]? = some v → Value.okWide Tryz.prog W .any base t v := hval0
  have hW' := hW
  obtain ⟨p, q, hA0, hV, rfl, hfz, hnd⟩ := hW
  have hA : DataW.TrodAll enc Tryz.prog W 0 (fun _ => true) true Tryz.f3.params.toList args.toList ds p := hA0
  rw [Tryz.params3] at hA hval
  obtain ⟨v0, vs0, d0, ds0, p0, q0, hargs, rfl, rfl, h0, r0⟩ := trodAll_cons hA
  obtain ⟨v1, vs1, d1, ds1, p1, q1, rfl, rfl, rfl, h1, r1⟩ := trodAll_cons r0
  obtain ⟨rfl, rfl, rfl⟩ := trodAll_nil r1
  obtain rfl : args = #[v0, v1] := by cases args; simp_all
  obtain ⟨rfl, rfl⟩ := trodVars_none hV
  have k0 := h0
  have lt0 : ∀ x ∈ p0, x.block < W.heap.size := by obtain ⟨m, hm⟩ := k0; exact DataW.trod_lt m _ _ _ hm
  have k1 := h1
  have lt1 : ∀ x ∈ p1, x.block < W.heap.size := by obtain ⟨m, hm⟩ := k1; exact DataW.trod_lt m _ _ _ hm
  obtain ⟨a0, rfl, _, _, w0⟩ := open_int Tryz.underlying3 (hval 0 3 v0 rfl rfl) h0
  obtain ⟨a1, len1, cap1, rfl⟩ := okWide_slice Tryz.underlying22 (hval 1 22 v1 rfl rfl)
  obtain ⟨l1, w1, p1'⟩ : ∃ l : List WOp, RowsAt WOp.enc W (.slice a1 len1 cap1) l ∧ ∀ x ∈ l, gapOk x := by
    obtain ⟨fuel, hf⟩ := h1
    exact open_rows_p Tryz.underlying22 (sz := WOp.enc_sz) (by kernel_rfl) (by decide) WOp.enc_length open1_wopP (by simpa [Value.cells] using hf)
  clear hA0 hval0
  refine (fwplay_any a0 _ l1 W w1 p1' (et_of_laid hL)).mono fun e W' ⟨he, bel⟩ => ?_
  subst he
  exact ⟨_, rfl, _, _, _, [], _, [], hW', trodAll_mk1 (shut_bool Tryz.underlying4 _), (trodAll_cons_mk (Below.trod laidOut (by kernel_rfl) (of_decide_eq_true (by kernel_rfl)) k0 bel lt0) (trodAll_cons_mk (Below.trod laidOut (by kernel_rfl) (of_decide_eq_true (by kernel_rfl)) k1 bel lt1) trodAll_mk0)), rfl, bel.frame _, fun h => by cases h⟩

theorem and_mk {a b : Bool} (h : a = true) (k : b = true) : (a && b) = true := by rw [h, k]; rfl
set_option maxHeartbeats 8000000 in
theorem facts : joinedFacts Tryz.prog 3 Tryz.f3 Rows.flowsPlaySpec Rows.flowsPlayRow = true := by
  unfold joinedFacts
  repeat' (with_reducible refine and_mk ?_ ?_)
  all_goals (as_aux_lemma => kernel_rfl)

set_option maxHeartbeats 8000000 in
theorem over : Rows.flowsPlayRow.holds Tryz.pinned (OpenSpec.ofChange Rows.flowsPlaySpec) :=
  OpenClaim.holds_of_wide 3 Tryz.f3 rfl rfl rfl rfl rfl rfl rfl ⟨rfl, rfl, rfl, rfl, rfl⟩ rfl rfl rfl rfl rfl (by as_aux_lemma => kernel_rfl) Tryz.func3 facts
    (of_decide_eq_true (by as_aux_lemma => kernel_rfl)) (by unfold Func.isWrapper; first | (rw [if_pos (by as_aux_lemma => decide +kernel)]; as_aux_lemma => kernel_rfl) | (rw [if_neg (by as_aux_lemma => decide +kernel)]; exact ⟨rfl, rfl⟩))
    (fun os started H enc _ => lifted os started H enc)

set_option maxHeartbeats 8000000 in
/-- The statement: the tied card. -/
theorem proved : Rows.FlowsPlayCardSaid :=
  Claim7.holds_tied_plain_at .later [] [.handle] true (true, "28e7def0bdf83cfbfec2ada42a29bc40eec3afd22f69630c11f106815c509f1f") true over (fun _ h => by cases h) (by as_aux_lemma => kernel_rfl) (fun _ h => by cases h) flowsPlay_row_tie rfl ⟨rfl, rfl⟩ (by as_aux_lemma => kernel_rfl)
    rfl (fun f fn hf hfn => by
    obtain rfl : f = 3 := Option.some.inj ((show Tryz.prog.funcNamed "stockade/stockadelaw26.FlowsPlay" = some 3 by as_aux_lemma => kernel_rfl).symm.trans hf) |>.symm
    obtain rfl : fn = Tryz.f3 := (Option.some.inj (Tryz.func3.symm.trans hfn)).symm
    refine ⟨by as_aux_lemma => kernel_rfl, fun j t ht => ?_⟩
    rw [Tryz.params3] at ht
    rcases j with _ | j
    · obtain rfl := Option.some.inj ht; as_aux_lemma => kernel_rfl
    rcases j with _ | j
    · obtain rfl := Option.some.inj ht; as_aux_lemma => kernel_rfl
    · simp at ht) (by as_aux_lemma => kernel_rfl)
#print axioms proved
end Go.Proofs.YtepaanpdjadakaaGreatDoor.flowsPlay
