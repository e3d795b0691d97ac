import Derived.Test.YtdcekoocnoackaaGreatDoorPart09
import Derived.Test.YtdcekoocnoackaaGreatDoorProg
import Derived.KernelRfl
import Derived.Test.YtdcekoocnoackaaGreatDoorPart04
import Derived.WalkKit
import Derived.LaidEql
import Derived.Stop.Asserts
import Derived.RowKitTokens
import Derived.Lib.Hide

/-! container/heap over the pile: down. -/
namespace Go.Proofs.YtdcekoocnoackaaGreatDoor
open Go Go.RowKit

theorem down_done {f : Nat} {l : List Ent} {i n : Nat} (h : n ≤ 2 * i + 1) : Hp.down f l i n = (l, i) := by
  cases f with
  | zero => rfl
  | succ f => rw [Hp.down, if_pos h]
theorem down_stay {f : Nat} {l : List Ent} {i n : Nat} (h : (Hp.g l (Hp.child l i n)).lt (Hp.g l i) = false) : Hp.down f l i n = (l, i) := by
  cases f with
  | zero => rfl
  | succ f =>
    rw [Hp.down]
    by_cases hn : n ≤ 2 * i + 1
    · rw [if_pos hn]
    · rw [if_neg hn, h]; rfl
theorem down_go {f : Nat} {l : List Ent} {i n : Nat} (hn : 2 * i + 1 < n) (h : (Hp.g l (Hp.child l i n)).lt (Hp.g l i) = true) : Hp.down (f + 1) l i n = Hp.down f (Hp.swap l i (Hp.child l i n)) (Hp.child l i n) n := by
  rw [Hp.down, if_neg (by omega), if_pos h]
theorem down_fuel : ∀ (f g : Nat) (l : List Ent) (i n : Nat), n ≤ i + f → n ≤ i + g → Hp.down f l i n = Hp.down g l i n := by
  intro f
  induction f with
  | zero =>
    intro g l i n hf hg
    rw [down_done (by omega), down_done (by omega)]
  | succ f ih =>
    intro g l i n hf hg
    cases g with
    | zero => rw [down_done (by omega), down_done (by omega)]
    | succ g =>
      by_cases hn : n ≤ 2 * i + 1
      · rw [down_done hn, down_done hn]
      · cases h : (Hp.g l (Hp.child l i n)).lt (Hp.g l i)
        · rw [down_stay h, down_stay h]
        · rw [down_go (by omega) h, down_go (by omega) h]
          have := (Hp.child_cases l i n (by omega)).2.2.2
          exact ih g _ _ n (by omega) (by omega)
theorem child_two {l : List Ent} {i n : Nat} (h : 2 * i + 2 < n) (hl : (Hp.g l (2 * i + 2)).lt (Hp.g l (2 * i + 1)) = true) : Hp.child l i n = 2 * i + 2 := by
  unfold Hp.child; rw [if_pos ⟨h, hl⟩]
theorem child_one {l : List Ent} {i n : Nat} (h : 2 * i + 2 < n → (Hp.g l (2 * i + 2)).lt (Hp.g l (2 * i + 1)) = false) : Hp.child l i n = 2 * i + 1 := by
  unfold Hp.child; rw [if_neg (fun h' => by rw [h h'.1] at h'; exact absurd h'.2 (by simp))]

section
variable {B : Nat} {w0 w w' : World} {F : HP} {p : Nat} {L : List Ent}
set_option maxRecDepth 8000 in
set_option maxHeartbeats 2000000 in
theorem down_any (h : Sat B w0 w (pile p L • F)) {i0 n : Nat} (hn : n ≤ L.length) (hL : L.length ≤ 1000000) (hi : i0 ≤ 1000000) (f0 : Nat) (hf0 : n ≤ i0 + f0) :
    Calls Tryz.prog 281 #[.iface 194 (.pointer (some ⟨p, 0, none⟩)), .int .i64 i0, .int .i64 n] w fun e w' =>
    e = .returned (.bool (decide (i0 < (Hp.down f0 L i0 n).2))) ∧ Sat B w0 w' (pile p (Hp.down f0 L i0 n).1 • F) := by
  have hR : ∀ f, n ≤ i0 + f → Hp.down f L i0 n = Hp.down f0 L i0 n := fun f hf => down_fuel f f0 L i0 n hf hf0
  generalize Hp.down f0 L i0 n = R at *
  have HR := Lib.hid hR
  have hn1 : n ≤ 1000000 := by omega
  generalize hlen : L.length = len at *
  have HN := Lib.hid hlen
  have Hnl := Lib.hid hn
  clear hR hlen hf0 hn hL
  have mL := m_Less
  have mS := m_Swap
  go_enter Tryz.func281, Tryz.ntmps281
  go_wp2_with fail
  go_loopw [7] (fun t wr => ∃ (k : Nat) (M : List Ent), k ≤ 1000000 ∧ t = .int .i64 k ∧ Sat B w0 wr (pile p M • F) ∧ Hid (M.length = len ∧ ∀ f, n ≤ k + f → Hp.down f M k n = R)) (fun t _ => n - (intOf t).toNat)
  case atStart => exact ⟨i0, L, hi, rfl, h, Lib.hid ⟨HN.out, HR.out⟩⟩
  case round =>
    clear h HR HN
    obtain ⟨k, M, hk, rfl, hS, HK⟩ := hrel
    by_cases h1 : n ≤ 2 * k + 1
    · have HD := Lib.hid (fun f => down_done (f := f) (l := M) h1)
      go_wp2_with fail
      go_ret
      have HF := (HD.out n).symm.trans (HK.out.2 n (by omega))
      rw [← HF]
      exact ⟨rfl, hS⟩
    · have h1' : 2 * k + 1 < n := by omega
      by_cases h2 : 2 * k + 2 < n
      · have c1 := pileLess_any hS (i := 2 * k + 2) (k := 2 * k + 1) (by have := HK.out.1; have := Hnl.out; omega) (by have := HK.out.1; have := Hnl.out; omega)
        rw [show ((2 * k + 2 : Nat) : Int) = 2 * (k : Int) + 1 + 1 by omega, show ((2 * k + 1 : Nat) : Int) = 2 * (k : Int) + 1 by omega] at c1
        cases hb1 : (Hp.g M (2 * k + 2)).lt (Hp.g M (2 * k + 1))
        · rw [hb1] at c1
          have HB := Lib.hid hb1
          clear hb1
          go_wp2_with fail
          refine c1.mono ?_
          rintro e w2 ⟨rfl, hb⟩
          replace hS := hS.below_ hb
          clear hb c1
          go_wp2_with fail
          have hch : Hp.child M k n = 2 * k + 1 := child_one (fun _ => HB.out)
          have c2 := pileLess_any hS (i := 2 * k + 1) (k := k) (by have := HK.out.1; have := Hnl.out; omega) (by have := HK.out.1; have := Hnl.out; omega)
          rw [show ((2 * k + 1 : Nat) : Int) = 2 * (k : Int) + 1 by omega] at c2
          cases hlt : (Hp.g M (2 * k + 1)).lt (Hp.g M k)
          · rw [hlt] at c2
            have HU := Lib.hid (fun f => down_stay (f := f) (l := M) (i := k) (n := n) (by rw [hch]; exact hlt))
            clear hlt hch
            refine c2.mono ?_
            rintro e w3 ⟨rfl, hb3⟩
            have hS3 := hS.below_ hb3
            clear hS hb3 c2
            go_wp2_with fail
            go_ret
            have HF := (HU.out n).symm.trans (HK.out.2 n (by omega))
            rw [← HF]
            exact ⟨rfl, hS3⟩
          · rw [hlt] at c2
            have HU := Lib.hid (fun f => down_go (f := f) (l := M) (i := k) (n := n) h1' (by rw [hch]; exact hlt))
            have HC := Lib.hid hch
            clear hlt hch
            refine c2.mono ?_
            rintro e w3 ⟨rfl, hb3⟩
            have c3 := pileSwap_any (hS.below_ hb3) (i := k) (k := 2 * k + 1) (by have := HK.out.1; have := Hnl.out; omega) (by have := HK.out.1; have := Hnl.out; omega)
            rw [show ((2 * k + 1 : Nat) : Int) = 2 * (k : Int) + 1 by omega] at c3
            clear hS hb3 c2
            go_wp2_with fail
            refine c3.mono ?_
            rintro e w4 ⟨rfl, hS4⟩
            clear c3
            go_wp2_with fail
            go_roundw
            case rel =>
              refine ⟨2 * k + 1, Hp.swap M k (2 * k + 1), by omega, by rw [show ((2 * k + 1 : Nat) : Int) = 2 * (k : Int) + 1 by omega], hS4, Lib.hid ⟨by rw [Hp.swap_length]; exact HK.out.1, fun f hf => ?_⟩⟩
              have h9 := HU.out (f + n)
              rw [HC.out] at h9
              rw [down_fuel f (f + n) _ _ _ hf (by omega), ← h9]
              exact HK.out.2 _ (by omega)
            case measure => simp [intOf]; omega
        · rw [hb1] at c1
          have HB := Lib.hid hb1
          clear hb1
          go_wp2_with fail
          refine c1.mono ?_
          rintro e w2 ⟨rfl, hb⟩
          replace hS := hS.below_ hb
          clear hb c1
          go_wp2_with fail
          have hch : Hp.child M k n = 2 * k + 2 := child_two h2 HB.out
          have c2 := pileLess_any hS (i := 2 * k + 2) (k := k) (by have := HK.out.1; have := Hnl.out; omega) (by have := HK.out.1; have := Hnl.out; omega)
          rw [show ((2 * k + 2 : Nat) : Int) = 2 * (k : Int) + 1 + 1 by omega] at c2
          cases hlt : (Hp.g M (2 * k + 2)).lt (Hp.g M k)
          · rw [hlt] at c2
            have HU := Lib.hid (fun f => down_stay (f := f) (l := M) (i := k) (n := n) (by rw [hch]; exact hlt))
            clear hlt hch
            refine c2.mono ?_
            rintro e w3 ⟨rfl, hb3⟩
            have hS3 := hS.below_ hb3
            clear hS hb3 c2
            go_wp2_with fail
            go_ret
            have HF := (HU.out n).symm.trans (HK.out.2 n (by omega))
            rw [← HF]
            exact ⟨rfl, hS3⟩
          · rw [hlt] at c2
            have HU := Lib.hid (fun f => down_go (f := f) (l := M) (i := k) (n := n) h1' (by rw [hch]; exact hlt))
            have HC := Lib.hid hch
            clear hlt hch
            refine c2.mono ?_
            rintro e w3 ⟨rfl, hb3⟩
            have c3 := pileSwap_any (hS.below_ hb3) (i := k) (k := 2 * k + 2) (by have := HK.out.1; have := Hnl.out; omega) (by have := HK.out.1; have := Hnl.out; omega)
            rw [show ((2 * k + 2 : Nat) : Int) = 2 * (k : Int) + 1 + 1 by omega] at c3
            clear hS hb3 c2
            go_wp2_with fail
            refine c3.mono ?_
            rintro e w4 ⟨rfl, hS4⟩
            clear c3
            go_wp2_with fail
            go_roundw
            case rel =>
              refine ⟨2 * k + 2, Hp.swap M k (2 * k + 2), by omega, by rw [show ((2 * k + 2 : Nat) : Int) = 2 * (k : Int) + 1 + 1 by omega], hS4, Lib.hid ⟨by rw [Hp.swap_length]; exact HK.out.1, fun f hf => ?_⟩⟩
              have h9 := HU.out (f + n)
              rw [HC.out] at h9
              rw [down_fuel f (f + n) _ _ _ hf (by omega), ← h9]
              exact HK.out.2 _ (by omega)
            case measure => simp [intOf]; omega
      · go_wp2_with fail
        have hch : Hp.child M k n = 2 * k + 1 := child_one (fun h => absurd h h2)
        have c2 := pileLess_any hS (i := 2 * k + 1) (k := k) (by have := HK.out.1; have := Hnl.out; omega) (by have := HK.out.1; have := Hnl.out; omega)
        rw [show ((2 * k + 1 : Nat) : Int) = 2 * (k : Int) + 1 by omega] at c2
        cases hlt : (Hp.g M (2 * k + 1)).lt (Hp.g M k)
        · rw [hlt] at c2
          have HU := Lib.hid (fun f => down_stay (f := f) (l := M) (i := k) (n := n) (by rw [hch]; exact hlt))
          clear hlt hch
          refine c2.mono ?_
          rintro e w3 ⟨rfl, hb3⟩
          have hS3 := hS.below_ hb3
          clear hS hb3 c2
          go_wp2_with fail
          go_ret
          have HF := (HU.out n).symm.trans (HK.out.2 n (by omega))
          rw [← HF]
          exact ⟨rfl, hS3⟩
        · rw [hlt] at c2
          have HU := Lib.hid (fun f => down_go (f := f) (l := M) (i := k) (n := n) h1' (by rw [hch]; exact hlt))
          have HC := Lib.hid hch
          clear hlt hch
          refine c2.mono ?_
          rintro e w3 ⟨rfl, hb3⟩
          have c3 := pileSwap_any (hS.below_ hb3) (i := k) (k := 2 * k + 1) (by have := HK.out.1; have := Hnl.out; omega) (by have := HK.out.1; have := Hnl.out; omega)
          rw [show ((2 * k + 1 : Nat) : Int) = 2 * (k : Int) + 1 by omega] at c3
          clear hS hb3 c2
          go_wp2_with fail
          refine c3.mono ?_
          rintro e w4 ⟨rfl, hS4⟩
          clear c3
          go_wp2_with fail
          go_roundw
          case rel =>
            refine ⟨2 * k + 1, Hp.swap M k (2 * k + 1), by omega, by rw [show ((2 * k + 1 : Nat) : Int) = 2 * (k : Int) + 1 by omega], hS4, Lib.hid ⟨by rw [Hp.swap_length]; exact HK.out.1, fun f hf => ?_⟩⟩
            have h9 := HU.out (f + n)
            rw [HC.out] at h9
            rw [down_fuel f (f + n) _ _ _ hf (by omega), ← h9]
            exact HK.out.2 _ (by omega)
          case measure => simp [intOf]; omega
end
end Go.Proofs.YtdcekoocnoackaaGreatDoor

/-! container/heap over the pile: Push, Pop, Remove, Fix. -/
namespace Go.Proofs.YtdcekoocnoackaaGreatDoor
open Go Go.RowKit

section
variable {B : Nat} {w0 w w' : World} {F : HP} {p : Nat} {L : List Ent}
set_option maxRecDepth 8000 in
set_option maxHeartbeats 1000000 in
theorem hPush_any (h : Sat B w0 w (pile p L • F)) (x : Ent) (hl : L.length ≤ 4096) (hn : ∀ i, i < L.length → (Hp.g L i).id ≠ x.id) :
    Calls Tryz.prog 270 #[.iface 194 (.pointer (some ⟨p, 0, none⟩)), .iface 332 (.agg x.enc.toArray)] w fun e w' =>
    e = .returned (.tuple #[]) ∧ Sat B w0 w' (pile p (Hp.up L.length (L ++ [x]) L.length) • F) := by
  have c1 := pilePush_any h x hl hn
  have mP := m_Push
  have mL := m_Len
  have HN := Lib.hid hn
  clear h hn
  go_enter Tryz.func270, Tryz.ntmps270
  go_wp2_with fail
  refine c1.mono ?_
  rintro e w1 ⟨rfl, hS⟩
  have c2 := pileLen_any hS
  rw [List.length_append, List.length_singleton] at c2
  have c3 := up_any hS (j := L.length) (by simp) L.length (Nat.le_refl _)
  clear c1 hS
  go_wp2_with fail
  refine c2.mono ?_
  rintro e w2 ⟨rfl, rfl⟩
  go_wp2_with fail
  refine c3.mono ?_
  rintro e w3 ⟨rfl, hS3⟩
  go_wp2_with fail
  go_end0
  exact ⟨rfl, hS3⟩
theorem down_length : ∀ (f : Nat) (l : List Ent) (i n : Nat), (Hp.down f l i n).1.length = l.length := by
  intro f
  induction f with
  | zero => intro l i n; rfl
  | succ f ih =>
    intro l i n
    rw [Hp.down]
    split
    · rfl
    · split
      · rw [ih, Hp.swap_length]
      · rfl
theorem up_length : ∀ (f : Nat) (l : List Ent) (j : Nat), (Hp.up f l j).length = l.length := by
  intro f
  induction f with
  | zero => intro l j; rfl
  | succ f ih =>
    intro l j
    rw [Hp.up]
    split
    · rfl
    · split
      · rw [ih, Hp.swap_length]
      · rfl
theorem fix_length (l : List Ent) (i n : Nat) : (Hp.fix l i n).length = l.length := by
  unfold Hp.fix
  split
  · exact down_length _ _ _ _
  · rw [up_length, down_length]
set_option maxRecDepth 8000 in
set_option maxHeartbeats 1000000 in
theorem hFix_any (h : Sat B w0 w (pile p L • F)) {i : Nat} (hi : i < L.length) (hl : L.length ≤ 4096) :
    Calls Tryz.prog 274 #[.iface 194 (.pointer (some ⟨p, 0, none⟩)), .int .i64 i] w fun e w' =>
    e = .returned (.tuple #[]) ∧ Sat B w0 w' (pile p (Hp.fix L i L.length) • F) := by
  have c1 := pileLen_any h
  have c2 := down_any h (i0 := i) (n := L.length) (Nat.le_refl _) (by omega) (by omega) L.length (by omega)
  have mL := m_Len
  have hfx : ∀ b, decide (i < (Hp.down L.length L i L.length).2) = b → Hp.fix L i L.length = if b then (Hp.down L.length L i L.length).1 else Hp.up L.length (Hp.down L.length L i L.length).1 i := by
    intro b hb
    unfold Hp.fix
    cases b
    · rw [if_neg (by simpa using hb)]; rfl
    · rw [if_pos (by simpa using hb)]; rfl
  have hdl := down_length L.length L i L.length
  cases hd : decide (i < (Hp.down L.length L i L.length).2)
  · rw [hd] at c2
    rw [hfx _ hd]
    have HDL := Lib.hid hdl
    have HI := Lib.hid hi
    clear hfx hdl hd h hi
    go_enter Tryz.func274, Tryz.ntmps274
    go_wp2_with fail
    refine c1.mono ?_
    rintro e w1 ⟨rfl, rfl⟩
    go_wp2_with fail
    refine c2.mono ?_
    rintro e w2 ⟨rfl, hS2⟩
    have c3 := up_any hS2 (j := i) (by rw [HDL.out]; exact HI.out) L.length (by have := HI.out; omega)
    clear c1 c2 hS2
    go_wp2_with fail
    refine c3.mono ?_
    rintro e w3 ⟨rfl, hS3⟩
    go_wp2_with fail
    go_end0
    exact ⟨rfl, hS3⟩
  · rw [hd] at c2
    rw [hfx _ hd]
    clear hfx hdl hd h hi
    go_enter Tryz.func274, Tryz.ntmps274
    go_wp2_with fail
    refine c1.mono ?_
    rintro e w1 ⟨rfl, rfl⟩
    go_wp2_with fail
    refine c2.mono ?_
    rintro e w2 ⟨rfl, hS2⟩
    clear c1 c2
    go_wp2_with fail
    go_end0
    exact ⟨rfl, hS2⟩
set_option maxRecDepth 8000 in
set_option maxHeartbeats 2000000 in
theorem hRemove_any (h : Sat B w0 w (pile p L • F)) {i : Nat} (hi : i < L.length) (hl : L.length ≤ 4096) :
    Calls Tryz.prog 238 #[.iface 194 (.pointer (some ⟨p, 0, none⟩)), .int .i64 i] w fun e w' =>
    (∃ x : Ent, e = .returned (.iface 332 (.agg x.enc.toArray))) ∧ Sat B w0 w' (pile p (Hp.remove L i) • F) := by
  obtain ⟨m, hm⟩ : ∃ m, L.length = m + 1 := ⟨L.length - 1, by omega⟩
  have c1 := pileLen_any h
  rw [hm] at c1
  have mL := m_Len
  have mS := m_Swap
  have mP := m_Pop
  have hm4 : m ≤ 4096 := by omega
  by_cases e : m = i
  · subst e
    have hP : Hp.remove L m = L.dropLast := by unfold Hp.remove; rw [hm, if_pos (by omega)]
    rw [hP]
    have c2 := pilePop_any h hm
    clear h hm hi hl hP
    go_enter Tryz.func238, Tryz.ntmps238
    go_wp2_with fail
    refine c1.mono ?_
    rintro e w1 ⟨rfl, rfl⟩
    go_wp2_with fail
    refine c2.mono ?_
    rintro e w2 ⟨rfl, hS2⟩
    go_wp2_with fail
    go_ret
    exact ⟨⟨_, rfl⟩, hS2⟩
  · have hne : ((m : Int) != (i : Int)) = true := by rw [bne_iff_ne]; omega
    have him : i < m := by omega
    have c2 := pileSwap_any h (i := i) (k := m) hi (by omega)
    have hsl : (Hp.swap L i m).length = m + 1 := by rw [Hp.swap_length, hm]
    have hP : ∀ b, decide (i < (Hp.down m (Hp.swap L i m) i m).2) = b → Hp.remove L i = (if b then (Hp.down m (Hp.swap L i m) i m).1 else Hp.up m (Hp.down m (Hp.swap L i m) i m).1 i).dropLast := by
      intro b hb
      unfold Hp.remove
      rw [hm, Nat.add_sub_cancel, if_neg e]
      unfold Hp.fix
      cases b
      · rw [if_neg (by simpa using hb)]; rfl
      · rw [if_pos (by simpa using hb)]; rfl
    generalize Hp.swap L i m = M at *
    have hdl := down_length m M i m
    rw [hsl] at hdl
    have HSL := Lib.hid hsl
    have HDL := Lib.hid hdl
    cases hd : decide (i < (Hp.down m M i m).2)
    · rw [hP _ hd]
      have HD := Lib.hid hd
      clear hP h hm hi hl hsl hdl hd e
      go_enter Tryz.func238, Tryz.ntmps238
      go_wp2_with fail
      refine c1.mono ?_
      rintro e w1 ⟨rfl, rfl⟩
      go_wp2_with fail
      refine c2.mono ?_
      rintro e w2 ⟨rfl, hS2⟩
      have c3 := down_any hS2 (i0 := i) (n := m) (by rw [HSL.out]; omega) (by rw [HSL.out]; omega) (by omega) m (by omega)
      rw [HD.out] at c3
      clear c1 c2 hS2
      go_wp2_with fail
      refine c3.mono ?_
      rintro e w3 ⟨rfl, hS3⟩
      have c4 := up_any hS3 (j := i) (by rw [HDL.out]; omega) m (by omega)
      clear c3 hS3
      go_wp2_with fail
      refine c4.mono ?_
      rintro e w4 ⟨rfl, hS4⟩
      have c5 := pilePop_any hS4 (m := m) (by rw [up_length, HDL.out])
      clear c4 hS4
      go_wp2_with fail
      refine c5.mono ?_
      rintro e w5 ⟨rfl, hS5⟩
      go_wp2_with fail
      go_ret
      exact ⟨⟨_, rfl⟩, hS5⟩
    · rw [hP _ hd]
      have HD := Lib.hid hd
      clear hP h hm hi hl hsl hdl hd e
      go_enter Tryz.func238, Tryz.ntmps238
      go_wp2_with fail
      refine c1.mono ?_
      rintro e w1 ⟨rfl, rfl⟩
      go_wp2_with fail
      refine c2.mono ?_
      rintro e w2 ⟨rfl, hS2⟩
      have c3 := down_any hS2 (i0 := i) (n := m) (by rw [HSL.out]; omega) (by rw [HSL.out]; omega) (by omega) m (by omega)
      rw [HD.out] at c3
      clear c1 c2 hS2
      go_wp2_with fail
      refine c3.mono ?_
      rintro e w3 ⟨rfl, hS3⟩
      have c5 := pilePop_any hS3 (m := m) HDL.out
      clear c3 hS3
      go_wp2_with fail
      refine c5.mono ?_
      rintro e w5 ⟨rfl, hS5⟩
      go_wp2_with fail
      go_ret
      exact ⟨⟨_, rfl⟩, hS5⟩
end
end Go.Proofs.YtdcekoocnoackaaGreatDoor

/-! errors.Is and errors.As at errors that are numbers. -/
namespace Go.Proofs.YtdcekoocnoackaaGreatDoor
open Go Go.RowKit Go.Extern.Stop Go.Stop Go.Extern

/-- What the library's variable holds. -/
def Et (w : World) : Prop := w.cell? ⟨0, 0, none⟩ = some (.iface 181 (.agg #[.pointer (some ⟨9, 25, none⟩)]))
theorem Et.below {w w' : World} (h : Et w) (hb : Below w.heap.size w w') : Et w' := by
  unfold Et at *
  rw [hb.cell (World.block_lt_of_cell? _ _ h)]; exact h
theorem Et.pos {w : World} (h : Et w) : 0 < w.heap.size := World.block_lt_of_cell? _ _ h
theorem Sat.et {B : Nat} {w0 w : World} {A : HP} (h : Sat B w0 w A) (hB : 0 < B) (hE : Et w0) : Et w := by
  unfold Et World.cell? at *
  rw [h.below.block 0 hB]; exact hE

theorem e_typeOf (v : Value) (w : World) : (ReflectliteType.typeOf #[.iface 58 v]).run Tryz.prog w = .ok (.iface 181 (.agg #[.pointer (some ⟨9, 58, none⟩)])) w := by kernel_rfl
theorem e_comparable (w : World) : ((ReflectliteType.method fun t => do Rtype.noPackHeld "Comparable" t; (fun a => Value.bool a.comparable) <$> typeInfo t) #[.agg #[.pointer (some ⟨9, 58, none⟩)]]).run Tryz.prog w = .ok (.bool true) w := by kernel_rfl
theorem e_mComparable (v : Value) (w : World) : (Go.method 664 181 (.agg #[v]) "Comparable").run Tryz.prog w = .ok (407, .agg #[v]) w := by kernel_rfl
theorem e_noIs (v : Value) (w : World) : (Instr.typeAssert (.iface 58 v) 25 363 true).run Tryz.prog w = .ok (.tuple #[.nilIface, .bool false]) w := run_typeAssert_lacksB Tryz.underlying363 (by kernel_rfl) (by kernel_rfl) v 25 w
theorem e_noUnwrap (v : Value) (w : World) : (Instr.typeAssert (.iface 58 v) 25 189 true).run Tryz.prog w = .ok (.tuple #[.nilIface, .bool false]) w := run_typeAssert_lacksB Tryz.underlying189 (by kernel_rfl) (by kernel_rfl) v 25 w
theorem e_noUnwraps (v : Value) (w : World) : (Instr.typeAssert (.iface 58 v) 25 191 true).run Tryz.prog w = .ok (.tuple #[.nilIface, .bool false]) w := run_typeAssert_lacksB Tryz.underlying191 (by kernel_rfl) (by kernel_rfl) v 25 w
theorem equalIn_errno (w : World) (d : Nat) (a b : Int) : (Op.equalIn (d + 2) 25 (.iface 58 (.int .i64 a)) (.iface 58 (.int .i64 b))).run Tryz.prog w = .ok (a == b) w := by
  obtain ⟨i, hi, hc⟩ := Option.map_eq_some_iff.1 (show (Tryz.prog.info? 58).map (·.comparable) = some true by kernel_rfl)
  obtain ⟨ms, hms⟩ : ∃ ms, Tryz.prog.underlying 25 = some (.interface ms) := ⟨_, Tryz.underlying25⟩
  obtain ⟨q, hq⟩ : ∃ q, Tryz.prog.underlying 58 = some (.int q) := ⟨_, Tryz.underlying58⟩
  simp [Op.equalIn, run_underlying hms, run_underlying hq, typeInfo, hi, hc]
theorem eql_errno (a b : Int) (w : World) : (binOp .eql 25 (.iface 58 (.int .i64 a)) (.iface 58 (.int .i64 b))).run Tryz.prog w = .ok (.bool (a == b)) w := by
  simp only [binOp]
  simp [Op.equal, Op.maxDepth, equalIn_errno w 9998 a b]

set_option maxRecDepth 8000 in
set_option maxHeartbeats 1000000 in
/-- errors.Is(nil, c). -/
theorem is_nil (c : Int) (w : World) : Calls Tryz.prog 71 #[.nilIface, .iface 58 (.int .i64 c)] w fun e w' => e = .returned (.bool false) ∧ w' = w := by
  have he := fun (w : World) (v : Value) => run_eql_iface_nil_left (w := w) 58 v Tryz.underlying25
  go_enter Tryz.func71, Tryz.ntmps71
  go_wp2
  go_ret
  exact ⟨rfl, rfl⟩
set_option maxRecDepth 8000 in
set_option maxHeartbeats 1000000 in
theorem iss_errno (n c : Int) (w : World) : Calls Tryz.prog 140 #[.iface 58 (.int .i64 n), .iface 58 (.int .i64 c), .bool true] w fun e w' => e = .returned (.bool (n == c)) ∧ w' = w := by
  have he := eql_errno n c
  have n1 := e_noIs
  have n2 := e_noUnwrap
  have n3 := e_noUnwraps
  cases hq : n == c
  · rw [hq] at he
    go_enter Tryz.func140, Tryz.ntmps140
    go_wp2
    refine wp_loop_rounds 1 ?_
    rw [rounds_succ]
    go_wp2
    go_ret
    exact ⟨rfl, rfl⟩
  · rw [hq] at he
    go_enter Tryz.func140, Tryz.ntmps140
    go_wp2
    refine wp_loop_rounds 1 ?_
    rw [rounds_succ]
    go_wp2
    go_ret
    exact ⟨rfl, rfl⟩
set_option maxRecDepth 8000 in
set_option maxHeartbeats 1000000 in
/-- errors.Is(n, c). -/
theorem is_errno (n c : Int) (w : World) : Calls Tryz.prog 71 #[.iface 58 (.int .i64 n), .iface 58 (.int .i64 c)] w fun e w' => e = .returned (.bool (n == c)) ∧ w' = w := by
  have h1 := @run_callFunc_extern Tryz.prog 72 _ ReflectliteType.typeOf Tryz.func72 (by kernel_rfl) (by kernel_rfl) (by kernel_rfl) (by kernel_rfl)
  have h2 := @run_callFunc_extern Tryz.prog 407 _ (ReflectliteType.method fun t => do Rtype.noPackHeld "Comparable" t; pure (.bool (← typeInfo t).comparable)) Tryz.func407 (by kernel_rfl) (by kernel_rfl) (by kernel_rfl) (by kernel_rfl)
  have t1 := e_typeOf
  have t2 := e_mComparable
  have t3 := e_comparable
  go_enter Tryz.func71, Tryz.ntmps71
  go_wp2_with fail
  refine (iss_errno n c _).mono ?_
  rintro e w1 ⟨rfl, rfl⟩
  go_wp2_with fail
  go_ret
  exact ⟨rfl, rfl⟩
end Go.Proofs.YtdcekoocnoackaaGreatDoor
