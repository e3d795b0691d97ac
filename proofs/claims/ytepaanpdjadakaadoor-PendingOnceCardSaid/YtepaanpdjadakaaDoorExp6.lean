import Derived.Test.YtepaanpdjadakaaDoorExp5
/-! container/heap over the pile: down. -/
namespace Go.Proofs.YtepaanpdjadakaaDoor
open Go Go.RowKit

theorem down_done {f : Nat} {l : List Ent} {i n : Nat} (h : n ≤ 2 * i + 1) : Hp.down f l i n = (l, i) := by
  cases f with
  | zero => rfl
  | succ f => rw [Hp.down, if_pos h]
theorem down_stay {f : Nat} {l : List Ent} {i n : Nat} (h : (Hp.g l (Hp.child l i n)).lt (Hp.g l i) = false) : Hp.down f l i n = (l, i) := by
  cases f with
  | zero => rfl
  | succ f =>
    rw [Hp.down]
    by_cases hn : n ≤ 2 * i + 1
    · rw [if_pos hn]
    · rw [if_neg hn, h]; rfl
theorem down_go {f : Nat} {l : List Ent} {i n : Nat} (hn : 2 * i + 1 < n) (h : (Hp.g l (Hp.child l i n)).lt (Hp.g l i) = true) : Hp.down (f + 1) l i n = Hp.down f (Hp.swap l i (Hp.child l i n)) (Hp.child l i n) n := by
  rw [Hp.down, if_neg (by omega), if_pos h]
theorem down_fuel : ∀ (f g : Nat) (l : List Ent) (i n : Nat), n ≤ i + f → n ≤ i + g → Hp.down f l i n = Hp.down g l i n := by
  intro f
  induction f with
  | zero =>
    intro g l i n hf hg
    rw [down_done (by omega), down_done (by omega)]
  | succ f ih =>
    intro g l i n hf hg
    cases g with
    | zero => rw [down_done (by omega), down_done (by omega)]
    | succ g =>
      by_cases hn : n ≤ 2 * i + 1
      · rw [down_done hn, down_done hn]
      · cases h : (Hp.g l (Hp.child l i n)).lt (Hp.g l i)
        · rw [down_stay h, down_stay h]
        · rw [down_go (by omega) h, down_go (by omega) h]
          have := (Hp.child_cases l i n (by omega)).2.2.2
          exact ih g _ _ n (by omega) (by omega)
theorem child_two {l : List Ent} {i n : Nat} (h : 2 * i + 2 < n) (hl : (Hp.g l (2 * i + 2)).lt (Hp.g l (2 * i + 1)) = true) : Hp.child l i n = 2 * i + 2 := by
  unfold Hp.child; rw [if_pos ⟨h, hl⟩]
theorem child_one {l : List Ent} {i n : Nat} (h : 2 * i + 2 < n → (Hp.g l (2 * i + 2)).lt (Hp.g l (2 * i + 1)) = false) : Hp.child l i n = 2 * i + 1 := by
  unfold Hp.child; rw [if_neg (fun h' => by rw [h h'.1] at h'; exact absurd h'.2 (by simp))]

section
variable {B : Nat} {w0 w w' : World} {F : HP} {p : Nat} {L : List Ent}
set_option maxRecDepth 8000 in
set_option maxHeartbeats 2000000 in
theorem down_any (h : Sat B w0 w (pile p L ⋆ F)) {i0 n : Nat} (hn : n ≤ L.length) (hL : L.length ≤ 1000000) (hi : i0 ≤ 1000000) (f0 : Nat) (hf0 : n ≤ i0 + f0) :
    Calls Tryd.prog 133 #[.iface 141 (.pointer (some ⟨p, 0, none⟩)), .int .i64 i0, .int .i64 n] w fun e w' =>
    e = .returned (.bool (decide (i0 < (Hp.down f0 L i0 n).2))) ∧ Sat B w0 w' (pile p (Hp.down f0 L i0 n).1 ⋆ F) := by
  have hR : ∀ f, n ≤ i0 + f → Hp.down f L i0 n = Hp.down f0 L i0 n := fun f hf => down_fuel f f0 L i0 n hf hf0
  generalize Hp.down f0 L i0 n = R at *
  have HR := Lib.hid hR
  have hn1 : n ≤ 1000000 := by omega
  generalize hlen : L.length = len at *
  have HN := Lib.hid hlen
  have Hnl := Lib.hid hn
  clear hR hlen hf0 hn hL
  have mL := m_Less
  have mS := m_Swap
  go_enter Tryd.func133, Tryd.ntmps133
  go_wp2_with fail
  go_loopw [7] (fun t wr => ∃ (k : Nat) (M : List Ent), k ≤ 1000000 ∧ t = .int .i64 k ∧ Sat B w0 wr (pile p M ⋆ F) ∧ Hid (M.length = len ∧ ∀ f, n ≤ k + f → Hp.down f M k n = R)) (fun t _ => n - (intOf t).toNat)
  case atStart => exact ⟨i0, L, hi, rfl, h, Lib.hid ⟨HN.out, HR.out⟩⟩
  case round =>
    clear h HR HN
    obtain ⟨k, M, hk, rfl, hS, HK⟩ := hrel
    by_cases h1 : n ≤ 2 * k + 1
    · have HD := Lib.hid (fun f => down_done (f := f) (l := M) h1)
      go_wp2_with fail
      go_ret
      have HF := (HD.out n).symm.trans (HK.out.2 n (by omega))
      rw [← HF]
      exact ⟨rfl, hS⟩
    · have h1' : 2 * k + 1 < n := by omega
      by_cases h2 : 2 * k + 2 < n
      · have c1 := pileLess_any hS (i := 2 * k + 2) (k := 2 * k + 1) (by have := HK.out.1; have := Hnl.out; omega) (by have := HK.out.1; have := Hnl.out; omega)
        rw [show ((2 * k + 2 : Nat) : Int) = 2 * (k : Int) + 1 + 1 by omega, show ((2 * k + 1 : Nat) : Int) = 2 * (k : Int) + 1 by omega] at c1
        cases hb1 : (Hp.g M (2 * k + 2)).lt (Hp.g M (2 * k + 1))
        · rw [hb1] at c1
          have HB := Lib.hid hb1
          clear hb1
          go_wp2_with fail
          refine c1.mono ?_
          rintro e w2 ⟨rfl, hb⟩
          replace hS := hS.below_ hb
          clear hb c1
          go_wp2_with fail
          have hch : Hp.child M k n = 2 * k + 1 := child_one (fun _ => HB.out)
          have c2 := pileLess_any hS (i := 2 * k + 1) (k := k) (by have := HK.out.1; have := Hnl.out; omega) (by have := HK.out.1; have := Hnl.out; omega)
          rw [show ((2 * k + 1 : Nat) : Int) = 2 * (k : Int) + 1 by omega] at c2
          cases hlt : (Hp.g M (2 * k + 1)).lt (Hp.g M k)
          · rw [hlt] at c2
            have HU := Lib.hid (fun f => down_stay (f := f) (l := M) (i := k) (n := n) (by rw [hch]; exact hlt))
            clear hlt hch
            refine c2.mono ?_
            rintro e w3 ⟨rfl, hb3⟩
            have hS3 := hS.below_ hb3
            clear hS hb3 c2
            go_wp2_with fail
            go_ret
            have HF := (HU.out n).symm.trans (HK.out.2 n (by omega))
            rw [← HF]
            exact ⟨rfl, hS3⟩
          · rw [hlt] at c2
            have HU := Lib.hid (fun f => down_go (f := f) (l := M) (i := k) (n := n) h1' (by rw [hch]; exact hlt))
            have HC := Lib.hid hch
            clear hlt hch
            refine c2.mono ?_
            rintro e w3 ⟨rfl, hb3⟩
            have c3 := pileSwap_any (hS.below_ hb3) (i := k) (k := 2 * k + 1) (by have := HK.out.1; have := Hnl.out; omega) (by have := HK.out.1; have := Hnl.out; omega)
            rw [show ((2 * k + 1 : Nat) : Int) = 2 * (k : Int) + 1 by omega] at c3
            clear hS hb3 c2
            go_wp2_with fail
            refine c3.mono ?_
            rintro e w4 ⟨rfl, hS4⟩
            clear c3
            go_wp2_with fail
            go_roundw
            case rel =>
              refine ⟨2 * k + 1, Hp.swap M k (2 * k + 1), by omega, by rw [show ((2 * k + 1 : Nat) : Int) = 2 * (k : Int) + 1 by omega], hS4, Lib.hid ⟨by rw [Hp.swap_length]; exact HK.out.1, fun f hf => ?_⟩⟩
              have h9 := HU.out (f + n)
              rw [HC.out] at h9
              rw [down_fuel f (f + n) _ _ _ hf (by omega), ← h9]
              exact HK.out.2 _ (by omega)
            case measure => simp [intOf]; omega
        · rw [hb1] at c1
          have HB := Lib.hid hb1
          clear hb1
          go_wp2_with fail
          refine c1.mono ?_
          rintro e w2 ⟨rfl, hb⟩
          replace hS := hS.below_ hb
          clear hb c1
          go_wp2_with fail
          have hch : Hp.child M k n = 2 * k + 2 := child_two h2 HB.out
          have c2 := pileLess_any hS (i := 2 * k + 2) (k := k) (by have := HK.out.1; have := Hnl.out; omega) (by have := HK.out.1; have := Hnl.out; omega)
          rw [show ((2 * k + 2 : Nat) : Int) = 2 * (k : Int) + 1 + 1 by omega] at c2
          cases hlt : (Hp.g M (2 * k + 2)).lt (Hp.g M k)
          · rw [hlt] at c2
            have HU := Lib.hid (fun f => down_stay (f := f) (l := M) (i := k) (n := n) (by rw [hch]; exact hlt))
            clear hlt hch
            refine c2.mono ?_
            rintro e w3 ⟨rfl, hb3⟩
            have hS3 := hS.below_ hb3
            clear hS hb3 c2
            go_wp2_with fail
            go_ret
            have HF := (HU.out n).symm.trans (HK.out.2 n (by omega))
            rw [← HF]
            exact ⟨rfl, hS3⟩
          · rw [hlt] at c2
            have HU := Lib.hid (fun f => down_go (f := f) (l := M) (i := k) (n := n) h1' (by rw [hch]; exact hlt))
            have HC := Lib.hid hch
            clear hlt hch
            refine c2.mono ?_
            rintro e w3 ⟨rfl, hb3⟩
            have c3 := pileSwap_any (hS.below_ hb3) (i := k) (k := 2 * k + 2) (by have := HK.out.1; have := Hnl.out; omega) (by have := HK.out.1; have := Hnl.out; omega)
            rw [show ((2 * k + 2 : Nat) : Int) = 2 * (k : Int) + 1 + 1 by omega] at c3
            clear hS hb3 c2
            go_wp2_with fail
            refine c3.mono ?_
            rintro e w4 ⟨rfl, hS4⟩
            clear c3
            go_wp2_with fail
            go_roundw
            case rel =>
              refine ⟨2 * k + 2, Hp.swap M k (2 * k + 2), by omega, by rw [show ((2 * k + 2 : Nat) : Int) = 2 * (k : Int) + 1 + 1 by omega], hS4, Lib.hid ⟨by rw [Hp.swap_length]; exact HK.out.1, fun f hf => ?_⟩⟩
              have h9 := HU.out (f + n)
              rw [HC.out] at h9
              rw [down_fuel f (f + n) _ _ _ hf (by omega), ← h9]
              exact HK.out.2 _ (by omega)
            case measure => simp [intOf]; omega
      · go_wp2_with fail
        have hch : Hp.child M k n = 2 * k + 1 := child_one (fun h => absurd h h2)
        have c2 := pileLess_any hS (i := 2 * k + 1) (k := k) (by have := HK.out.1; have := Hnl.out; omega) (by have := HK.out.1; have := Hnl.out; omega)
        rw [show ((2 * k + 1 : Nat) : Int) = 2 * (k : Int) + 1 by omega] at c2
        cases hlt : (Hp.g M (2 * k + 1)).lt (Hp.g M k)
        · rw [hlt] at c2
          have HU := Lib.hid (fun f => down_stay (f := f) (l := M) (i := k) (n := n) (by rw [hch]; exact hlt))
          clear hlt hch
          refine c2.mono ?_
          rintro e w3 ⟨rfl, hb3⟩
          have hS3 := hS.below_ hb3
          clear hS hb3 c2
          go_wp2_with fail
          go_ret
          have HF := (HU.out n).symm.trans (HK.out.2 n (by omega))
          rw [← HF]
          exact ⟨rfl, hS3⟩
        · rw [hlt] at c2
          have HU := Lib.hid (fun f => down_go (f := f) (l := M) (i := k) (n := n) h1' (by rw [hch]; exact hlt))
          have HC := Lib.hid hch
          clear hlt hch
          refine c2.mono ?_
          rintro e w3 ⟨rfl, hb3⟩
          have c3 := pileSwap_any (hS.below_ hb3) (i := k) (k := 2 * k + 1) (by have := HK.out.1; have := Hnl.out; omega) (by have := HK.out.1; have := Hnl.out; omega)
          rw [show ((2 * k + 1 : Nat) : Int) = 2 * (k : Int) + 1 by omega] at c3
          clear hS hb3 c2
          go_wp2_with fail
          refine c3.mono ?_
          rintro e w4 ⟨rfl, hS4⟩
          clear c3
          go_wp2_with fail
          go_roundw
          case rel =>
            refine ⟨2 * k + 1, Hp.swap M k (2 * k + 1), by omega, by rw [show ((2 * k + 1 : Nat) : Int) = 2 * (k : Int) + 1 by omega], hS4, Lib.hid ⟨by rw [Hp.swap_length]; exact HK.out.1, fun f hf => ?_⟩⟩
            have h9 := HU.out (f + n)
            rw [HC.out] at h9
            rw [down_fuel f (f + n) _ _ _ hf (by omega), ← h9]
            exact HK.out.2 _ (by omega)
          case measure => simp [intOf]; omega
end
end Go.Proofs.YtepaanpdjadakaaDoor
