import Derived.Test.YtdcekoocnoackaaGreatDoorPart24

/-! rule.rule at the three lines; rule.Parse. -/
namespace Go.Proofs.YtdcekoocnoackaaGreatDoor
open Go Go.RowKit

set_option maxRecDepth 8000 in
set_option maxHeartbeats 2000000 in
theorem rul1_any {B : Nat} {w0 w : World} {F : HP} {b g c fin r n : Nat} {sv rv : Value} {rs : List Value} (hB : 1 < B) (hM : Mx w0) (hE : Et w0)
    (h : Sat B w0 w (lnAt b g c line2 1 fin • blk r (.cells #[sv, rv] 88) • arr 170 24 rv n rs • F)) (hn : n ≤ 200) (hc : line2.length ≤ c) :
    Calls Tryz.prog 130 #[.pointer (some ⟨r, 0, none⟩), .pointer (some ⟨b, 0, none⟩), .bool true] w fun e w' => e = .returned .nilIface ∧ ∃ rv', Sat B w0 w' (blk r (.cells #[sv, rv'] 88) • arr 170 24 rv' (n + 1) (rs ++ pol1) • F) := by
  have := hE
  refine (rule_any (T := line2) (s1 := ⟨#[110, 97, 109, 101]⟩) (s2 := ⟨#[42, 46, 97]⟩) (s3 := ⟨#[117, 100, 112]⟩) (s4 := ⟨#[49, 45, 57]⟩) (net := false) (c2 := ((ruleB.setIfInBounds 1 (.string ⟨#[97]⟩)).setIfInBounds 2 (.bool true))) (c3 := (((ruleB.setIfInBounds 1 (.string ⟨#[97]⟩)).setIfInBounds 2 (.bool true)).setIfInBounds 21 (.int .i64 17))) (c4 := (((((ruleB.setIfInBounds 1 (.string ⟨#[97]⟩)).setIfInBounds 2 (.bool true)).setIfInBounds 21 (.int .i64 17)).setIfInBounds 22 (.int .i64 1)).setIfInBounds 23 (.int .i64 9))) h hn (by kernel_rfl) ?_ (by kernel_rfl) hc ?_ ?_ ?_ ?_).mono ?_
  · intro u hu
    have : u ∈ pol1 := hu
    simp only [pol1, List.mem_cons, List.not_mem_nil, or_false] at this
    rcases this with rfl | rfl | rfl | rfl | rfl | rfl | rfl | rfl | rfl | rfl | rfl | rfl | rfl | rfl | rfl | rfl | rfl | rfl | rfl | rfl | rfl | rfl | rfl | rfl <;> rfl
  · intro nb W G hG
    exact cl1_name hG
  · intro nb rb W G hG
    exact cl2_name hG (by kernel_rfl) (pattern_a W (hG.mx hB hM))
  · intro rb W G hG
    exact cl3_any hG (by kernel_rfl) (proto_udp W)
  · intro rb W G hG
    exact cl4_any hG (by kernel_rfl) (span_19 W (hG.mx hB hM))
  · rintro e w' ⟨rfl, rv', hS⟩
    exact ⟨rfl, rv', hS⟩
set_option maxRecDepth 8000 in
set_option maxHeartbeats 2000000 in
theorem rul2_any {B : Nat} {w0 w : World} {F : HP} {b g c fin r n : Nat} {sv rv : Value} {rs : List Value} (hB : 1 < B) (hM : Mx w0) (hE : Et w0)
    (h : Sat B w0 w (lnAt b g c line3 1 fin • blk r (.cells #[sv, rv] 88) • arr 170 24 rv n rs • F)) (hn : n ≤ 200) (hc : line3.length ≤ c) :
    Calls Tryz.prog 130 #[.pointer (some ⟨r, 0, none⟩), .pointer (some ⟨b, 0, none⟩), .bool true] w fun e w' => e = .returned .nilIface ∧ ∃ rv', Sat B w0 w' (blk r (.cells #[sv, rv'] 88) • arr 170 24 rv' (n + 1) (rs ++ pol2) • F) := by
  have := hE
  refine (rule_any (T := line3) (s1 := ⟨#[110, 97, 109, 101]⟩) (s2 := ⟨#[98, 46, 97]⟩) (s3 := ⟨#[116, 99, 112]⟩) (s4 := ⟨#[42]⟩) (net := false) (c2 := ((ruleB.setIfInBounds 1 (.string ⟨#[98, 46, 97]⟩)).setIfInBounds 2 (.bool false))) (c3 := (((ruleB.setIfInBounds 1 (.string ⟨#[98, 46, 97]⟩)).setIfInBounds 2 (.bool false)).setIfInBounds 21 (.int .i64 6))) (c4 := (((((ruleB.setIfInBounds 1 (.string ⟨#[98, 46, 97]⟩)).setIfInBounds 2 (.bool false)).setIfInBounds 21 (.int .i64 6)).setIfInBounds 22 (.int .i64 0)).setIfInBounds 23 (.int .i64 65535))) h hn (by kernel_rfl) ?_ (by kernel_rfl) hc ?_ ?_ ?_ ?_).mono ?_
  · intro u hu
    have : u ∈ pol2 := hu
    simp only [pol2, List.mem_cons, List.not_mem_nil, or_false] at this
    rcases this with rfl | rfl | rfl | rfl | rfl | rfl | rfl | rfl | rfl | rfl | rfl | rfl | rfl | rfl | rfl | rfl | rfl | rfl | rfl | rfl | rfl | rfl | rfl | rfl <;> rfl
  · intro nb W G hG
    exact cl1_name hG
  · intro nb rb W G hG
    exact cl2_name hG (by kernel_rfl) (pattern_ba W (hG.mx hB hM))
  · intro rb W G hG
    exact cl3_any hG (by kernel_rfl) (proto_tcp W)
  · intro rb W G hG
    exact cl4_any hG (by kernel_rfl) ((span_star W).mono (by rintro e w' ⟨rfl, rfl⟩; exact ⟨rfl, Below.refl _ _⟩))
  · rintro e w' ⟨rfl, rv', hS⟩
    exact ⟨rfl, rv', hS⟩
set_option maxRecDepth 8000 in
set_option maxHeartbeats 2000000 in
theorem rul3_any {B : Nat} {w0 w : World} {F : HP} {b g c fin r n : Nat} {sv rv : Value} {rs : List Value} (hB : 1 < B) (hM : Mx w0) (hE : Et w0)
    (h : Sat B w0 w (lnAt b g c line4 1 fin • blk r (.cells #[sv, rv] 88) • arr 170 24 rv n rs • F)) (hn : n ≤ 200) (hc : line4.length ≤ c) :
    Calls Tryz.prog 130 #[.pointer (some ⟨r, 0, none⟩), .pointer (some ⟨b, 0, none⟩), .bool true] w fun e w' => e = .returned .nilIface ∧ ∃ rv', Sat B w0 w' (blk r (.cells #[sv, rv'] 88) • arr 170 24 rv' (n + 1) (rs ++ pol3) • F) := by
  have := hE
  refine (rule_any (T := line4) (s1 := ⟨#[110, 101, 116]⟩) (s2 := ⟨#[49, 48, 46, 48, 46, 48, 46, 48, 47, 56]⟩) (s3 := ⟨#[97, 110, 121]⟩) (s4 := ⟨#[42]⟩) (net := true) (c2 := (splice ruleB 3 [.bool false, .int .u8 10, .int .u8 0, .int .u8 0, .int .u8 0, .int .u8 0, .int .u8 0, .int .u8 0, .int .u8 0, .int .u8 0, .int .u8 0, .int .u8 0, .int .u8 0, .int .u8 0, .int .u8 0, .int .u8 0, .int .u8 0, .int .i64 8])) (c3 := ((splice ruleB 3 [.bool false, .int .u8 10, .int .u8 0, .int .u8 0, .int .u8 0, .int .u8 0, .int .u8 0, .int .u8 0, .int .u8 0, .int .u8 0, .int .u8 0, .int .u8 0, .int .u8 0, .int .u8 0, .int .u8 0, .int .u8 0, .int .u8 0, .int .i64 8]).setIfInBounds 21 (.int .i64 256))) (c4 := ((((splice ruleB 3 [.bool false, .int .u8 10, .int .u8 0, .int .u8 0, .int .u8 0, .int .u8 0, .int .u8 0, .int .u8 0, .int .u8 0, .int .u8 0, .int .u8 0, .int .u8 0, .int .u8 0, .int .u8 0, .int .u8 0, .int .u8 0, .int .u8 0, .int .i64 8]).setIfInBounds 21 (.int .i64 256)).setIfInBounds 22 (.int .i64 0)).setIfInBounds 23 (.int .i64 65535))) h hn (by kernel_rfl) ?_ (by kernel_rfl) hc ?_ ?_ ?_ ?_).mono ?_
  · intro u hu
    have : u ∈ pol3 := hu
    simp only [pol3, List.mem_cons, List.not_mem_nil, or_false] at this
    rcases this with rfl | rfl | rfl | rfl | rfl | rfl | rfl | rfl | rfl | rfl | rfl | rfl | rfl | rfl | rfl | rfl | rfl | rfl | rfl | rfl | rfl | rfl | rfl | rfl <;> rfl
  · intro nb W G hG
    exact cl1_net hG
  · intro nb rb W G hG
    exact cl2_net hG (by kernel_rfl) (hG.mx hB hM) (hG.et (by omega) hE)
  · intro rb W G hG
    exact cl3_any hG (by kernel_rfl) (proto_any W)
  · intro rb W G hG
    exact cl4_any hG (by kernel_rfl) ((span_star W).mono (by rintro e w' ⟨rfl, rfl⟩; exact ⟨rfl, Below.refl _ _⟩))
  · rintro e w' ⟨rfl, rv', hS⟩
    exact ⟨rfl, rv', hS⟩
theorem map4 {α β : Type} {f : α → β} {R : List α} {a b c d : β} (h : R.map f = [a, b, c, d]) : ∃ x1 x2 x3 x4, R = [x1, x2, x3, x4] ∧ f x1 = a ∧ f x2 = b ∧ f x3 = c ∧ f x4 = d := by
  rcases R with _ | ⟨x1, _ | ⟨x2, _ | ⟨x3, _ | ⟨x4, _ | ⟨x5, R⟩⟩⟩⟩⟩ <;> simp at h
  exact ⟨x1, x2, x3, x4, rfl, h⟩
attribute [local irreducible] wpOrd
set_option maxRecDepth 8000 in
set_option maxHeartbeats 8000000 in
theorem rparse_any {B : Nat} {w0 w : World} {F : HP} {v : Value} (hB : 1 < B) (hM : Mx w0) (hE : Et w0) (h : Sat B w0 w (arr 157 4 v plainT.length (plainT.flatMap Tok.enc) • F)) :
    Calls Tryz.prog 27 #[v] w fun e w' => ∃ sv rv : Value, e = .returned (.tuple #[.agg #[sv, rv], .nilIface]) ∧ Sat B w0 w' (arr 170 24 rv 3 (pol1 ++ pol2 ++ pol3) • arr 36 17 sv 1 srvA • F) := by
  have hS0 := (h.alloc (.cells #[.slice none 0 0, .slice none 0 0] 88)).alloc (.cells #[.slice none 0 0, .slice none 0 0] 88)
  simp only [World.size_alloc] at hS0
  have hl := lines_any hS0.pull3 (by decide) plain_kinds
  clear hS0 h
  generalize hq : w.heap.size = q at *
  go_enter Tryz.func27, Tryz.ntmps27
  go_wp2_with fail
  refine hl.mono ?_
  rintro e v0 ⟨vl, R, rfl, hR, hS⟩
  rw [plain_lines] at hR
  obtain ⟨x1, x2, x3, x4, rfl, e1, e2, e3, e4⟩ := map4 hR
  obtain ⟨a1, c1, t1, f1⟩ := x1
  obtain ⟨a2, c2, t2, f2⟩ := x2
  obtain ⟨a3, c3, t3, f3⟩ := x3
  obtain ⟨a4, c4, t4, f4⟩ := x4
  simp only [Ln.plain, Prod.mk.injEq] at e1 e2 e3 e4
  obtain ⟨rfl, rfl⟩ := e1
  obtain ⟨rfl, rfl⟩ := e2
  obtain ⟨rfl, rfl⟩ := e3
  obtain ⟨rfl, rfl⟩ := e4
  obtain ⟨Al, cl, hvl⟩ := hS.arr_form
  subst hvl
  have hH : ∃ ga, Al = some ⟨ga, 0, none⟩ := by
    obtain ⟨ga, hga, _⟩ := hS.arr_at (x := (⟨a1, c1, line1, 16⟩ : Ln)) Ln.enc_length rfl (k := 0) rfl
    exact ⟨ga, hga⟩
  obtain ⟨ga, rfl⟩ := hH
  generalize hLL : arr 161 2 (.slice (some ⟨ga, 0, none⟩) [(⟨a1, c1, line1, 16⟩ : Ln), (⟨a2, c2, line2, 39⟩ : Ln), (⟨a3, c3, line3, 60⟩ : Ln), (⟨a4, c4, line4, 87⟩ : Ln)].length cl) [(⟨a1, c1, line1, 16⟩ : Ln), (⟨a2, c2, line2, 39⟩ : Ln), (⟨a3, c3, line3, 60⟩ : Ln), (⟨a4, c4, line4, 87⟩ : Ln)].length ([(⟨a1, c1, line1, 16⟩ : Ln), (⟨a2, c2, line2, 39⟩ : Ln), (⟨a3, c3, line3, 60⟩ : Ln), (⟨a4, c4, line4, 87⟩ : Ln)].flatMap Ln.enc) = LL at *
  have Hat : ∀ (W : World) (G : HP), Sat B w0 W (LL • G) → ∀ (k : Nat) (x : Ln), [(⟨a1, c1, line1, 16⟩ : Ln), (⟨a2, c2, line2, 39⟩ : Ln), (⟨a3, c3, line3, 60⟩ : Ln), (⟨a4, c4, line4, 87⟩ : Ln)][k]? = some x → W.cell? ⟨ga, k * 2, none⟩ = some (.slice x.a x.toks.length x.c) ∧ W.cell? ⟨ga, k * 2 + 1, none⟩ = some (.int .i64 x.fin) := by
    intro W G hG k x hx
    rw [← hLL] at hG
    obtain ⟨g', hg', _, hcc⟩ := hG.arr_at Ln.enc_length rfl hx
    cases hg'
    exact ⟨hcc 0 _ rfl, hcc 1 _ rfl⟩
  simp only [lns] at hS
  generalize hQ : arr 157 4 v plainT.length (plainT.flatMap Tok.enc) • blk q (.cells #[.slice none 0 0, .slice none 0 0] 88) = Q at *
  have hS1 := hS.to (by rw [← hQ]; ac_rfl : _ = LL • lnb (⟨a1, c1, line1, 16⟩ : Ln) • lnb (⟨a2, c2, line2, 39⟩ : Ln) • lnb (⟨a3, c3, line3, 60⟩ : Ln) • lnb (⟨a4, c4, line4, 87⟩ : Ln) • Q • blk (q + 1) (.cells #[.slice none 0 0, .slice none 0 0] 88) • F)
  clear hS hl hR
  go_wp2_with fail
  refine wp_loop_rounds 5 ?_
  rw [rounds_succ]
  have hat := Hat v0 _ hS1 0 (⟨a1, c1, line1, 16⟩ : Ln) rfl
  have d0 := hat.1
  have d1 := hat.2
  clear hat
  have hcall := take_res (T := line1) (A1 := none) (n := 0) (c1 := 0) (fin := 16) (A' := hex fun sv' : Value => blk (q + 1) (.cells #[sv', .slice none 0 0] 88) • arr 36 17 sv' 1 srvA • (blk v0.heap.size (.cells #[.slice a1 line1.length c1, .int .i64 16] 161) • LL • lnb (⟨a2, c2, line2, 39⟩ : Ln) • lnb (⟨a3, c3, line3, 60⟩ : Ln) • lnb (⟨a4, c4, line4, 87⟩ : Ln) • Q • F))
    ((hS1.alloc (.cells #[.slice a1 line1.length c1, .int .i64 16] 161)).to (by simp only [lnb, Ln.v]; ac_rfl : _ = arr 157 4 (.slice a1 line1.length c1) line1.length (line1.flatMap Tok.enc) • blk (q + 1) (.cells #[.slice none 0 0, .slice none 0 0] 88) • (blk v0.heap.size (.cells #[.slice a1 line1.length c1, .int .i64 16] 161) • LL • lnb (⟨a2, c2, line2, 39⟩ : Ln) • lnb (⟨a3, c3, line3, 60⟩ : Ln) • lnb (⟨a4, c4, line4, 87⟩ : Ln) • Q • F))) rfl rfl (by decide) (fun b g c W hc hW => (server_any hB hM hE hW rfl hc).mono (by
      rintro e w' ⟨rfl, sv', hS'⟩
      exact ⟨rfl, Sat.ex_mk sv' hS'⟩))
  go_wp2_with fail
  refine hcall.mono ?_
  rintro e v1 ⟨rfl, hX⟩
  obtain ⟨sv, hX2⟩ := hX.ex
  have hS2 := arr_nil (e := 170) (sz := 24) hX2
  have hS2 := (hS2.to (by ac_rfl : _ = blk v0.heap.size (.cells #[.slice a1 line1.length c1, .int .i64 16] 161) • (LL • lnb (⟨a2, c2, line2, 39⟩ : Ln) • lnb (⟨a3, c3, line3, 60⟩ : Ln) • lnb (⟨a4, c4, line4, 87⟩ : Ln) • Q • blk (q + 1) (.cells #[sv, .slice none 0 0] 88) • arr 170 24 (.slice none 0 0) 0 [] • arr 36 17 sv 1 srvA • F))).drop
  clear hX hX2 hS1
  clear hcall d0 d1
  go_wp2_with fail
  rw [rounds_succ]
  have hat := Hat v1 _ hS2 1 (⟨a2, c2, line2, 39⟩ : Ln) rfl
  have d0 := hat.1
  have d1 := hat.2
  clear hat
  have hcall := take_allow (T := line2) (A1 := none) (n := 0) (c1 := 0) (fin := 39) (A' := hex fun rv' : Value => blk (q + 1) (.cells #[sv, rv'] 88) • arr 170 24 rv' (0 + 1) ([] ++ pol1) • (blk v1.heap.size (.cells #[.slice a2 line2.length c2, .int .i64 39] 161) • LL • lnb (⟨a3, c3, line3, 60⟩ : Ln) • lnb (⟨a4, c4, line4, 87⟩ : Ln) • Q • arr 36 17 sv 1 srvA • F))
    ((hS2.alloc (.cells #[.slice a2 line2.length c2, .int .i64 39] 161)).to (by simp only [lnb, Ln.v]; ac_rfl : _ = arr 157 4 (.slice a2 line2.length c2) line2.length (line2.flatMap Tok.enc) • blk (q + 1) (.cells #[sv, .slice none 0 0] 88) • (arr 170 24 (.slice none 0 0) 0 [] • (blk v1.heap.size (.cells #[.slice a2 line2.length c2, .int .i64 39] 161) • LL • lnb (⟨a3, c3, line3, 60⟩ : Ln) • lnb (⟨a4, c4, line4, 87⟩ : Ln) • Q • arr 36 17 sv 1 srvA • F)))) rfl rfl (by decide) (fun b g c W hc hW => (rul1_any hB hM hE hW (by decide) hc).mono (by
      rintro e w' ⟨rfl, rv', hS'⟩
      exact ⟨rfl, Sat.ex_mk rv' hS'⟩))
  go_wp2_with fail
  refine hcall.mono ?_
  rintro e v2 ⟨rfl, hX⟩
  obtain ⟨rv, hX2⟩ := hX.ex
  obtain ⟨r3A, r3c, rfl⟩ := hX2.drop.arr_form
  have hS3 := (hX2.to (by ac_rfl : _ = blk v1.heap.size (.cells #[.slice a2 line2.length c2, .int .i64 39] 161) • (LL • lnb (⟨a3, c3, line3, 60⟩ : Ln) • lnb (⟨a4, c4, line4, 87⟩ : Ln) • Q • blk (q + 1) (.cells #[sv, .slice r3A (0 + 1) r3c] 88) • arr 170 24 (.slice r3A (0 + 1) r3c) (0 + 1) ([] ++ pol1) • arr 36 17 sv 1 srvA • F))).drop
  clear hX hX2 hS2
  clear hcall d0 d1
  go_wp2_with fail
  rw [rounds_succ]
  have hat := Hat v2 _ hS3 2 (⟨a3, c3, line3, 60⟩ : Ln) rfl
  have d0 := hat.1
  have d1 := hat.2
  clear hat
  have hcall := take_allow (T := line3) (A1 := r3A) (n := 1) (c1 := r3c) (fin := 60) (A' := hex fun rv' : Value => blk (q + 1) (.cells #[sv, rv'] 88) • arr 170 24 rv' (1 + 1) (([] ++ pol1) ++ pol2) • (blk v2.heap.size (.cells #[.slice a3 line3.length c3, .int .i64 60] 161) • LL • lnb (⟨a4, c4, line4, 87⟩ : Ln) • Q • arr 36 17 sv 1 srvA • F))
    ((hS3.alloc (.cells #[.slice a3 line3.length c3, .int .i64 60] 161)).to (by simp only [lnb, Ln.v]; ac_rfl : _ = arr 157 4 (.slice a3 line3.length c3) line3.length (line3.flatMap Tok.enc) • blk (q + 1) (.cells #[sv, .slice r3A 1 r3c] 88) • (arr 170 24 (.slice r3A 1 r3c) 1 ([] ++ pol1) • (blk v2.heap.size (.cells #[.slice a3 line3.length c3, .int .i64 60] 161) • LL • lnb (⟨a4, c4, line4, 87⟩ : Ln) • Q • arr 36 17 sv 1 srvA • F)))) rfl rfl (by decide) (fun b g c W hc hW => (rul2_any hB hM hE hW (by decide) hc).mono (by
      rintro e w' ⟨rfl, rv', hS'⟩
      exact ⟨rfl, Sat.ex_mk rv' hS'⟩))
  go_wp2_with fail
  refine hcall.mono ?_
  rintro e v3 ⟨rfl, hX⟩
  obtain ⟨rv, hX2⟩ := hX.ex
  obtain ⟨r4A, r4c, rfl⟩ := hX2.drop.arr_form
  have hS4 := (hX2.to (by ac_rfl : _ = blk v2.heap.size (.cells #[.slice a3 line3.length c3, .int .i64 60] 161) • (LL • lnb (⟨a4, c4, line4, 87⟩ : Ln) • Q • blk (q + 1) (.cells #[sv, .slice r4A (1 + 1) r4c] 88) • arr 170 24 (.slice r4A (1 + 1) r4c) (1 + 1) (([] ++ pol1) ++ pol2) • arr 36 17 sv 1 srvA • F))).drop
  clear hX hX2 hS3
  clear hcall d0 d1
  go_wp2_with fail
  rw [rounds_succ]
  have hat := Hat v3 _ hS4 3 (⟨a4, c4, line4, 87⟩ : Ln) rfl
  have d0 := hat.1
  have d1 := hat.2
  clear hat
  have hcall := take_allow (T := line4) (A1 := r4A) (n := 2) (c1 := r4c) (fin := 87) (A' := hex fun rv' : Value => blk (q + 1) (.cells #[sv, rv'] 88) • arr 170 24 rv' (2 + 1) ((([] ++ pol1) ++ pol2) ++ pol3) • (blk v3.heap.size (.cells #[.slice a4 line4.length c4, .int .i64 87] 161) • LL • Q • arr 36 17 sv 1 srvA • F))
    ((hS4.alloc (.cells #[.slice a4 line4.length c4, .int .i64 87] 161)).to (by simp only [lnb, Ln.v]; ac_rfl : _ = arr 157 4 (.slice a4 line4.length c4) line4.length (line4.flatMap Tok.enc) • blk (q + 1) (.cells #[sv, .slice r4A 2 r4c] 88) • (arr 170 24 (.slice r4A 2 r4c) 2 (([] ++ pol1) ++ pol2) • (blk v3.heap.size (.cells #[.slice a4 line4.length c4, .int .i64 87] 161) • LL • Q • arr 36 17 sv 1 srvA • F)))) rfl rfl (by decide) (fun b g c W hc hW => (rul3_any hB hM hE hW (by decide) hc).mono (by
      rintro e w' ⟨rfl, rv', hS'⟩
      exact ⟨rfl, Sat.ex_mk rv' hS'⟩))
  go_wp2_with fail
  refine hcall.mono ?_
  rintro e v4 ⟨rfl, hX⟩
  obtain ⟨rv, hX2⟩ := hX.ex
  obtain ⟨r5A, r5c, rfl⟩ := hX2.drop.arr_form
  have hS5 := (hX2.to (by ac_rfl : _ = blk v3.heap.size (.cells #[.slice a4 line4.length c4, .int .i64 87] 161) • (LL • Q • blk (q + 1) (.cells #[sv, .slice r5A (2 + 1) r5c] 88) • arr 170 24 (.slice r5A (2 + 1) r5c) (2 + 1) ((([] ++ pol1) ++ pol2) ++ pol3) • arr 36 17 sv 1 srvA • F))).drop
  clear hX hX2 hS4
  clear hcall d0 d1
  go_wp2_with fail
  rw [rounds_succ]
  have hS6 := (hS5.to (by rw [← hQ]; ac_rfl : _ = blk q (.cells #[.slice none 0 0, .slice none 0 0] 88) • (blk (q + 1) (.cells #[sv, .slice r5A (2 + 1) r5c] 88) • LL • arr 157 4 v plainT.length (plainT.flatMap Tok.enc) • (arr 170 24 (.slice r5A (2 + 1) r5c) (2 + 1) ((([] ++ pol1) ++ pol2) ++ pol3) • arr 36 17 sv 1 srvA • F))))
  have hl7 : (Instr.loadAt 88 (.pointer (some ⟨q + 1, 0, none⟩))).run Tryz.prog v4 = .ok (.agg #[sv, .slice r5A 3 r5c]) v4 :=
    run_loadAt_row (cs := [sv, .slice r5A 3 r5c]) hS6.pull2.heap Tryz.underlying88 rfl (by kernel_rfl) (fun j u hu => by simpa using hu)
  obtain ⟨As, cs, rfl⟩ := hS5.drop.drop.drop.drop.arr_form
  have hst := run_storeAt_row (P := Tryz.prog) (o := 0) (ty := 88) (v := .agg #[.slice As 1 cs, .slice r5A 3 r5c]) hS6.heap (by kernel_rfl) (by simp [Value.cells]) (by simp [Value.cells, Value.oneCell'])
  have hS9 := hS6.setRow (cs := #[.slice As 1 cs, .slice r5A 3 r5c])
  simp only [Value.cells] at hst
  rw [show splice (#[.slice none 0 0, .slice none 0 0] : Array Value) 0 (#[.slice As 1 cs, .slice r5A 3 r5c] : Array Value).toList = #[.slice As 1 cs, .slice r5A 3 r5c] by rfl] at hst
  have hl9 : (Instr.loadAt 88 (.pointer (some ⟨q, 0, none⟩))).run Tryz.prog (v4.setRow q #[.slice As 1 cs, .slice r5A 3 r5c]) = .ok (.agg #[.slice As 1 cs, .slice r5A 3 r5c]) (v4.setRow q #[.slice As 1 cs, .slice r5A 3 r5c]) :=
    run_loadAt_row (cs := [.slice As 1 cs, .slice r5A 3 r5c]) hS9.heap Tryz.underlying88 rfl (by kernel_rfl) (fun j u hu => by simpa using hu)
  have HF := Lib.hid hS9.drop.drop.drop.drop
  clear hS5 hS6 hS9
  go_wp2_with (refine wpList_load_run (t := 88) rfl rfl rfl hl7 (stop_ ?_))
  unfold Stop
  clear hl7
  go_wp2_with (refine wpList_store_run (t := 88) rfl rfl rfl rfl hst (stop_ ?_))
  unfold Stop
  go_wp2_with fail
  refine ret_cell_tmp rfl rfl rfl hl9 rfl ⟨_, _, rfl, HF.out⟩
end Go.Proofs.YtdcekoocnoackaaGreatDoor
