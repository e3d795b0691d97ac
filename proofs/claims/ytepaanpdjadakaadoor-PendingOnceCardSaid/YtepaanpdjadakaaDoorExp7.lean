import Derived.Test.YtepaanpdjadakaaDoorExp6
/-! container/heap over the pile: Push, Pop, Remove, Fix. -/
namespace Go.Proofs.YtepaanpdjadakaaDoor
open Go Go.RowKit

section
variable {B : Nat} {w0 w w' : World} {F : HP} {p : Nat} {L : List Ent}
set_option maxRecDepth 8000 in
set_option maxHeartbeats 1000000 in
theorem hPush_any (h : Sat B w0 w (pile p L ⋆ F)) (x : Ent) (hl : L.length ≤ 4096) (hn : ∀ i, i < L.length → (Hp.g L i).id ≠ x.id) :
    Calls Tryd.prog 87 #[.iface 141 (.pointer (some ⟨p, 0, none⟩)), .iface 34 (.agg x.enc.toArray)] w fun e w' =>
    e = .returned (.tuple #[]) ∧ Sat B w0 w' (pile p (Hp.up L.length (L ++ [x]) L.length) ⋆ F) := by
  have c1 := pilePush_any h x hl hn
  have mP := m_Push
  have mL := m_Len
  have HN := Lib.hid hn
  clear h hn
  go_enter Tryd.func87, Tryd.ntmps87
  go_wp2_with fail
  refine c1.mono ?_
  rintro e w1 ⟨rfl, hS⟩
  have c2 := pileLen_any hS
  rw [List.length_append, List.length_singleton] at c2
  have c3 := up_any hS (j := L.length) (by simp) L.length (Nat.le_refl _)
  clear c1 hS
  go_wp2_with fail
  refine c2.mono ?_
  rintro e w2 ⟨rfl, rfl⟩
  go_wp2_with fail
  refine c3.mono ?_
  rintro e w3 ⟨rfl, hS3⟩
  go_wp2_with fail
  go_end0
  exact ⟨rfl, hS3⟩
set_option maxRecDepth 8000 in
set_option maxHeartbeats 1000000 in
theorem hPop_any (h : Sat B w0 w (pile p L ⋆ F)) {m : Nat} (hm : L.length = m + 1) (hl : L.length ≤ 4096) :
    Calls Tryd.prog 88 #[.iface 141 (.pointer (some ⟨p, 0, none⟩))] w fun e w' =>
    (∃ x : Ent, e = .returned (.iface 34 (.agg x.enc.toArray))) ∧ Sat B w0 w' (pile p (Hp.pop L) ⋆ F) := by
  have hP : Hp.pop L = (Hp.down m (Hp.swap L 0 m) 0 m).1.dropLast := by unfold Hp.pop; rw [hm, Nat.add_sub_cancel]
  rw [hP]
  have c1 := pileLen_any h
  rw [hm] at c1
  have c2 := pileSwap_any h (i := 0) (k := m) (by omega) (by omega)
  have hsl : (Hp.swap L 0 m).length = m + 1 := by rw [Hp.swap_length, hm]
  have mL := m_Len
  have mS := m_Swap
  have mP := m_Pop
  have hm4 : m ≤ 4096 := by omega
  have HSL := Lib.hid hsl
  generalize Hp.swap L 0 m = M at *
  clear hP h hm hsl hl
  go_enter Tryd.func88, Tryd.ntmps88
  go_wp2_with fail
  refine c1.mono ?_
  rintro e w1 ⟨rfl, rfl⟩
  go_wp2_with fail
  refine c2.mono ?_
  rintro e w2 ⟨rfl, hS2⟩
  have c3 := down_any hS2 (i0 := 0) (n := m) (by rw [HSL.out]; omega) (by rw [HSL.out]; omega) (by omega) m (by omega)
  have hdl : (Hp.down m M 0 m).1.length = m + 1 := by
    have : ∀ (f : Nat) (l : List Ent) (i n : Nat), (Hp.down f l i n).1.length = l.length := by
      intro f
      induction f with
      | zero => intro l i n; rfl
      | succ f ih =>
        intro l i n
        rw [Hp.down]
        split
        · rfl
        · split
          · rw [ih, Hp.swap_length]
          · rfl
    rw [this, HSL.out]
  have HDL := Lib.hid hdl
  clear c1 c2 hS2 hdl
  generalize hdd : decide (0 < (Hp.down m M 0 m).2) = dd at c3
  generalize hRR : (Hp.down m M 0 m).1 = R at c3 HDL
  have HRR := Lib.hid hRR
  clear hdd hRR
  go_wp2_with fail
  refine c3.mono ?_
  rintro e w3 ⟨rfl, hS3⟩
  have c4 := pilePop_any hS3 HDL.out
  clear c3 hS3
  go_wp2_with fail
  refine c4.mono ?_
  rintro e w4 ⟨rfl, hS4⟩
  go_wp2_with fail
  go_ret
  rw [HRR.out]
  exact ⟨⟨_, rfl⟩, hS4⟩
theorem down_length : ∀ (f : Nat) (l : List Ent) (i n : Nat), (Hp.down f l i n).1.length = l.length := by
  intro f
  induction f with
  | zero => intro l i n; rfl
  | succ f ih =>
    intro l i n
    rw [Hp.down]
    split
    · rfl
    · split
      · rw [ih, Hp.swap_length]
      · rfl
theorem up_length : ∀ (f : Nat) (l : List Ent) (j : Nat), (Hp.up f l j).length = l.length := by
  intro f
  induction f with
  | zero => intro l j; rfl
  | succ f ih =>
    intro l j
    rw [Hp.up]
    split
    · rfl
    · split
      · rw [ih, Hp.swap_length]
      · rfl
theorem fix_length (l : List Ent) (i n : Nat) : (Hp.fix l i n).length = l.length := by
  unfold Hp.fix
  split
  · exact down_length _ _ _ _
  · rw [up_length, down_length]
set_option maxRecDepth 8000 in
set_option maxHeartbeats 1000000 in
theorem hFix_any (h : Sat B w0 w (pile p L ⋆ F)) {i : Nat} (hi : i < L.length) (hl : L.length ≤ 4096) :
    Calls Tryd.prog 91 #[.iface 141 (.pointer (some ⟨p, 0, none⟩)), .int .i64 i] w fun e w' =>
    e = .returned (.tuple #[]) ∧ Sat B w0 w' (pile p (Hp.fix L i L.length) ⋆ F) := by
  have c1 := pileLen_any h
  have c2 := down_any h (i0 := i) (n := L.length) (Nat.le_refl _) (by omega) (by omega) L.length (by omega)
  have mL := m_Len
  have hfx : ∀ b, decide (i < (Hp.down L.length L i L.length).2) = b → Hp.fix L i L.length = if b then (Hp.down L.length L i L.length).1 else Hp.up L.length (Hp.down L.length L i L.length).1 i := by
    intro b hb
    unfold Hp.fix
    cases b
    · rw [if_neg (by simpa using hb)]; rfl
    · rw [if_pos (by simpa using hb)]; rfl
  have hdl := down_length L.length L i L.length
  cases hd : decide (i < (Hp.down L.length L i L.length).2)
  · rw [hd] at c2
    rw [hfx _ hd]
    have HDL := Lib.hid hdl
    have HI := Lib.hid hi
    clear hfx hdl hd h hi
    go_enter Tryd.func91, Tryd.ntmps91
    go_wp2_with fail
    refine c1.mono ?_
    rintro e w1 ⟨rfl, rfl⟩
    go_wp2_with fail
    refine c2.mono ?_
    rintro e w2 ⟨rfl, hS2⟩
    have c3 := up_any hS2 (j := i) (by rw [HDL.out]; exact HI.out) L.length (by have := HI.out; omega)
    clear c1 c2 hS2
    go_wp2_with fail
    refine c3.mono ?_
    rintro e w3 ⟨rfl, hS3⟩
    go_wp2_with fail
    go_end0
    exact ⟨rfl, hS3⟩
  · rw [hd] at c2
    rw [hfx _ hd]
    clear hfx hdl hd h hi
    go_enter Tryd.func91, Tryd.ntmps91
    go_wp2_with fail
    refine c1.mono ?_
    rintro e w1 ⟨rfl, rfl⟩
    go_wp2_with fail
    refine c2.mono ?_
    rintro e w2 ⟨rfl, hS2⟩
    clear c1 c2
    go_wp2_with fail
    go_end0
    exact ⟨rfl, hS2⟩
set_option maxRecDepth 8000 in
set_option maxHeartbeats 2000000 in
theorem hRemove_any (h : Sat B w0 w (pile p L ⋆ F)) {i : Nat} (hi : i < L.length) (hl : L.length ≤ 4096) :
    Calls Tryd.prog 90 #[.iface 141 (.pointer (some ⟨p, 0, none⟩)), .int .i64 i] w fun e w' =>
    (∃ x : Ent, e = .returned (.iface 34 (.agg x.enc.toArray))) ∧ Sat B w0 w' (pile p (Hp.remove L i) ⋆ F) := by
  obtain ⟨m, hm⟩ : ∃ m, L.length = m + 1 := ⟨L.length - 1, by omega⟩
  have c1 := pileLen_any h
  rw [hm] at c1
  have mL := m_Len
  have mS := m_Swap
  have mP := m_Pop
  have hm4 : m ≤ 4096 := by omega
  by_cases e : m = i
  · subst e
    have hP : Hp.remove L m = L.dropLast := by unfold Hp.remove; rw [hm, if_pos (by omega)]
    rw [hP]
    have c2 := pilePop_any h hm
    clear h hm hi hl hP
    go_enter Tryd.func90, Tryd.ntmps90
    go_wp2_with fail
    refine c1.mono ?_
    rintro e w1 ⟨rfl, rfl⟩
    go_wp2_with fail
    refine c2.mono ?_
    rintro e w2 ⟨rfl, hS2⟩
    go_wp2_with fail
    go_ret
    exact ⟨⟨_, rfl⟩, hS2⟩
  · have hne : ((m : Int) != (i : Int)) = true := by rw [bne_iff_ne]; omega
    have him : i < m := by omega
    have c2 := pileSwap_any h (i := i) (k := m) hi (by omega)
    have hsl : (Hp.swap L i m).length = m + 1 := by rw [Hp.swap_length, hm]
    have hP : ∀ b, decide (i < (Hp.down m (Hp.swap L i m) i m).2) = b → Hp.remove L i = (if b then (Hp.down m (Hp.swap L i m) i m).1 else Hp.up m (Hp.down m (Hp.swap L i m) i m).1 i).dropLast := by
      intro b hb
      unfold Hp.remove
      rw [hm, Nat.add_sub_cancel, if_neg e]
      unfold Hp.fix
      cases b
      · rw [if_neg (by simpa using hb)]; rfl
      · rw [if_pos (by simpa using hb)]; rfl
    generalize Hp.swap L i m = M at *
    have hdl := down_length m M i m
    rw [hsl] at hdl
    have HSL := Lib.hid hsl
    have HDL := Lib.hid hdl
    cases hd : decide (i < (Hp.down m M i m).2)
    · rw [hP _ hd]
      have HD := Lib.hid hd
      clear hP h hm hi hl hsl hdl hd e
      go_enter Tryd.func90, Tryd.ntmps90
      go_wp2_with fail
      refine c1.mono ?_
      rintro e w1 ⟨rfl, rfl⟩
      go_wp2_with fail
      refine c2.mono ?_
      rintro e w2 ⟨rfl, hS2⟩
      have c3 := down_any hS2 (i0 := i) (n := m) (by rw [HSL.out]; omega) (by rw [HSL.out]; omega) (by omega) m (by omega)
      rw [HD.out] at c3
      clear c1 c2 hS2
      go_wp2_with fail
      refine c3.mono ?_
      rintro e w3 ⟨rfl, hS3⟩
      have c4 := up_any hS3 (j := i) (by rw [HDL.out]; omega) m (by omega)
      clear c3 hS3
      go_wp2_with fail
      refine c4.mono ?_
      rintro e w4 ⟨rfl, hS4⟩
      have c5 := pilePop_any hS4 (m := m) (by rw [up_length, HDL.out])
      clear c4 hS4
      go_wp2_with fail
      refine c5.mono ?_
      rintro e w5 ⟨rfl, hS5⟩
      go_wp2_with fail
      go_ret
      exact ⟨⟨_, rfl⟩, hS5⟩
    · rw [hP _ hd]
      have HD := Lib.hid hd
      clear hP h hm hi hl hsl hdl hd e
      go_enter Tryd.func90, Tryd.ntmps90
      go_wp2_with fail
      refine c1.mono ?_
      rintro e w1 ⟨rfl, rfl⟩
      go_wp2_with fail
      refine c2.mono ?_
      rintro e w2 ⟨rfl, hS2⟩
      have c3 := down_any hS2 (i0 := i) (n := m) (by rw [HSL.out]; omega) (by rw [HSL.out]; omega) (by omega) m (by omega)
      rw [HD.out] at c3
      clear c1 c2 hS2
      go_wp2_with fail
      refine c3.mono ?_
      rintro e w3 ⟨rfl, hS3⟩
      have c5 := pilePop_any hS3 (m := m) HDL.out
      clear c3 hS3
      go_wp2_with fail
      refine c5.mono ?_
      rintro e w5 ⟨rfl, hS5⟩
      go_wp2_with fail
      go_ret
      exact ⟨⟨_, rfl⟩, hS5⟩
end
end Go.Proofs.YtepaanpdjadakaaDoor
