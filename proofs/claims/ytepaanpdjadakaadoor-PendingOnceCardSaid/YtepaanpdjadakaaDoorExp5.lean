import Derived.Test.YtepaanpdjadakaaDoorExp4
/-! container/heap over the pile: up. -/
namespace Go.Proofs.YtepaanpdjadakaaDoor
open Go Go.RowKit

theorem m_Len (a : Addr) (w : World) : (method 394 141 (.pointer (some a)) "Len").run Tryd.prog w = .ok (89, .pointer (some a)) w := by kernel_rfl
theorem m_Less (a : Addr) (w : World) : (method 394 141 (.pointer (some a)) "Less").run Tryd.prog w = .ok (183, .pointer (some a)) w := by kernel_rfl
theorem m_Swap (a : Addr) (w : World) : (method 394 141 (.pointer (some a)) "Swap").run Tryd.prog w = .ok (186, .pointer (some a)) w := by kernel_rfl
theorem m_Push (a : Addr) (w : World) : (method 394 141 (.pointer (some a)) "Push").run Tryd.prog w = .ok (185, .pointer (some a)) w := by kernel_rfl
theorem m_Pop (a : Addr) (w : World) : (method 394 141 (.pointer (some a)) "Pop").run Tryd.prog w = .ok (184, .pointer (some a)) w := by kernel_rfl

theorem up_fuel : ∀ (f g : Nat) (l : List Ent) (j : Nat), j ≤ f → j ≤ g → Hp.up f l j = Hp.up g l j := by
  intro f
  induction f with
  | zero =>
    intro g l j hf hg
    obtain rfl : j = 0 := by omega
    cases g <;> simp [Hp.up]
  | succ f ih =>
    intro g l j hf hg
    cases g with
    | zero =>
      obtain rfl : j = 0 := by omega
      simp [Hp.up]
    | succ g =>
      simp only [Hp.up]
      by_cases h0 : j = 0
      · rw [if_pos h0, if_pos h0]
      · rw [if_neg h0, if_neg h0, ih g _ _ (by unfold Hp.par; omega) (by unfold Hp.par; omega)]
/-- One more round of up. -/
theorem up_zero {f : Nat} {l : List Ent} : Hp.up f l 0 = l := by cases f <;> simp [Hp.up]
theorem up_stay {f : Nat} {l : List Ent} {m : Nat} (h : (Hp.g l (m + 1)).lt (Hp.g l (m / 2)) = false) : Hp.up f l (m + 1) = l := by
  cases f with
  | zero => rfl
  | succ f =>
    rw [Hp.up, if_neg (by omega)]
    have : Hp.par (m + 1) = m / 2 := rfl
    rw [this, h]; rfl
theorem up_go {l : List Ent} {m : Nat} (h : (Hp.g l (m + 1)).lt (Hp.g l (m / 2)) = true) (f : Nat) : Hp.up (f + 1) l (m + 1) = Hp.up f (Hp.swap l (m / 2) (m + 1)) (m / 2) := by
  rw [Hp.up, if_neg (by omega)]
  have : Hp.par (m + 1) = m / 2 := rfl
  rw [this, if_pos h]

section
variable {B : Nat} {w0 w w' : World} {F : HP} {p : Nat} {L : List Ent}
theorem Sat.pile_max (h : Sat B w0 w (pile p L ⋆ F)) : L.length ≤ 9223372036854775807 := by
  by_cases hl : 0 < L.length
  · obtain ⟨g, cap, cur, mb, f, hx, h1, h2, _⟩ := h.pile_row hl
    unfold maxLen at h2; omega
  · omega
set_option maxRecDepth 8000 in
set_option maxHeartbeats 2000000 in
theorem up_any (h : Sat B w0 w (pile p L ⋆ F)) {j : Nat} (hj : j < L.length) (f0 : Nat) (hf0 : j ≤ f0) : Calls Tryd.prog 132 #[.iface 141 (.pointer (some ⟨p, 0, none⟩)), .int .i64 j] w fun e w' =>
    e = .returned (.tuple #[]) ∧ Sat B w0 w' (pile p (Hp.up f0 L j) ⋆ F) := by
  have hR : ∀ f, j ≤ f → Hp.up f L j = Hp.up f0 L j := fun f hf => up_fuel f f0 L j hf hf0
  generalize Hp.up f0 L j = R at *
  have HR := Lib.hid hR
  have hmx := h.pile_max
  generalize hn : L.length = n at *
  have HN := Lib.hid hn
  clear hR hn hf0
  have mL := m_Less
  have mS := m_Swap
  go_enter Tryd.func132, Tryd.ntmps132
  go_wp2_with fail
  go_loopw [1] (fun t wr => ∃ (k : Nat) (M : List Ent), k < n ∧ t = .int .i64 k ∧ Sat B w0 wr (pile p M ⋆ F) ∧ Hid (M.length = n ∧ ∀ f, k ≤ f → Hp.up f M k = R)) (fun t _ => (intOf t).toNat)
  case atStart => exact ⟨j, L, hj, rfl, h, Lib.hid ⟨HN.out, HR.out⟩⟩
  case round =>
    clear h HR HN hj
    obtain ⟨k, M, hk, rfl, hS, HK⟩ := hrel
    rcases k with _ | m
    · go_wp2_with fail
      go_end0
      refine ⟨rfl, ?_⟩
      rw [← HK.out.2 0 (Nat.le_refl _), up_zero]
      exact hS
    · have hl1 : m + 1 < M.length := by have := HK.out.1; omega
      have hl2 : m / 2 < M.length := by have := HK.out.1; omega
      have c1 := pileLess_any hS hl1 hl2
      rw [show ((m + 1 : Nat) : Int) = (m : Int) + 1 by omega, show ((m / 2 : Nat) : Int) = (m : Int) / 2 by omega] at c1
      cases hlt : (Hp.g M (m + 1)).lt (Hp.g M (m / 2))
      · rw [hlt] at c1
        have HU := Lib.hid (fun f => up_stay (f := f) hlt)
        clear hlt hl1 hl2
        go_wp2_with fail
        refine c1.mono ?_
        rintro e w2 ⟨rfl, hb⟩
        have hS2 := hS.below_ hb
        clear hS hb c1
        go_wp2_with fail
        go_end0
        refine ⟨rfl, ?_⟩
        rw [← HK.out.2 _ (Nat.le_refl _), HU.out]
        exact hS2
      · rw [hlt] at c1
        have HU := Lib.hid (up_go hlt)
        have HL1 := Lib.hid hl1
        have HL2 := Lib.hid hl2
        clear hlt hl1 hl2
        go_wp2_with fail
        refine c1.mono ?_
        rintro e w2 ⟨rfl, hb⟩
        have c2 := pileSwap_any (hS.below_ hb) HL2.out HL1.out
        rw [show ((m + 1 : Nat) : Int) = (m : Int) + 1 by omega, show ((m / 2 : Nat) : Int) = (m : Int) / 2 by omega] at c2
        clear hS hb c1
        go_wp2_with fail
        refine c2.mono ?_
        rintro e w3 ⟨rfl, hS3⟩
        clear c2
        go_wp2_with fail
        go_roundw
        case rel =>
          refine ⟨m / 2, Hp.swap M (m / 2) (m + 1), by omega, by rw [show ((m / 2 : Nat) : Int) = (m : Int) / 2 by omega], hS3, Lib.hid ⟨by rw [Hp.swap_length]; exact HK.out.1, fun f hf => ?_⟩⟩
          rw [up_fuel f (f + m + 1) _ _ hf (by omega), ← HU.out]
          exact HK.out.2 _ (by omega)
        case measure => simp [intOf]; omega
end
end Go.Proofs.YtepaanpdjadakaaDoor
