import Derived.Test.YtepaanpdjadakaaDoorBaseQ
import Derived.Test.YtepaanpdjadakaaDoorIdxP
import Derived.Test.YtepaanpdjadakaaDoorRow
/-! More on slices of one's own; entries that a reference has. -/
namespace Go.Proofs.YtepaanpdjadakaaDoor
open Go Go.RowKit

theorem load_one {P : Program} {w : World} {p : Addr} {ty : TypeId} {v : Value} {d : TypeDesc} (hu : P.underlying ty = some d) (hd : isRowD d = false) (h : w.cell? p = some v) : (Instr.loadAt ty (.pointer (some p))).run P w = .ok v w := by
  have hagg : (isAgg ty).run P w = .ok false w := by rw [run_isAgg hu, hd]
  simp only [Instr.loadAt, Instr.sureAddr, Sem.run_bind, Sem.run_pure, Result.andThen_ok, loadVar, hagg]
  simp [load, Sem.run, h]
theorem cell_heap {w : World} {g o : Nat} {cur : Array Value} {t : TypeId} {fr : Nat × Nat} {v : Value} (h : w.heap[g]? = some (.cells cur t fr)) (hv : cur[o]? = some v) : w.cell? ⟨g, o, none⟩ = some v := by
  simp only [World.cell?, h]; exact hv
section
variable {B : Nat} {w0 w w' : World} {F : HP} {α : Type} {enc : α → List Value} {sz c n : Nat} {l : List α} {A : Option Addr} {e : TypeId} {k : Nat} {x : α}
/-- The cells of an element. -/
theorem Sat.arr_at (hsz : ∀ x, (enc x).length = sz) (h : Sat B w0 w (arr e sz (.slice A n c) n (l.flatMap enc) • F)) (hn : l.length = n) (hk : l[k]? = some x) :
    ∃ g, A = some ⟨g, 0, none⟩ ∧ B ≤ g ∧ ∀ j u, (enc x)[j]? = some u → w.cell? ⟨g, k * sz + j, none⟩ = some u := by
  rcases h.arr_open with ⟨_, h0, _, _⟩ | ⟨g, cap, cur, hv, q1, q2, q3, q4, hSb⟩
  · have := (List.getElem?_eq_some_iff.1 hk).1; omega
  simp only [Value.slice.injEq] at hv
  obtain ⟨rfl, _, rfl⟩ := hv
  exact ⟨g, rfl, hSb.ge, fun j u hu => cell_heap hSb.heap (cur_at hsz q4 hk j u hu)⟩
end
theorem set_of_due {S : List Ent} {i : Nat} {id a : Int} {x : Ent} (hn : Nd S) (h : S[i]? = some x) (hx : x.id = id) : S.set i ⟨id, a⟩ = withDue S id a := by
  apply List.ext_getElem?
  intro j
  unfold withDue
  rw [List.getElem?_set, List.getElem?_map]
  obtain ⟨h1, h2⟩ := List.getElem?_eq_some_iff.1 h
  by_cases e : i = j
  · subst e
    rw [if_pos rfl, if_pos h1, h]
    simp [hx]
  · rw [if_neg e]
    by_cases hj : j < S.length
    · rw [List.getElem?_eq_getElem hj]
      simp only [Option.map_some, Option.some.injEq]
      rw [if_neg]
      intro e2
      unfold Nd at hn
      have := (List.getElem_inj (xs := S.map (·.id)) (i := i) (j := j) (h₀ := by simpa using h1) (h₁ := by simpa using hj) hn).1 (by simp only [List.getElem_map]; rw [h2, e2, hx])
      exact e this
    · rw [List.getElem?_eq_none (by omega)]; rfl
theorem cut_without {S : List Ent} {i : Nat} {id : Int} {x : Ent} (hn : Nd S) (h : S[i]? = some x) (hx : x.id = id) : S.take i ++ S.drop (i + 1) = without S id := by
  rw [cut_filter (key := Ent.id) hn h]
  unfold without
  congr 1
  funext y
  rw [hx]
  by_cases e : y.id = id <;> simp [e]
/-- The place of an id. -/
def eplc (S : List Ent) (id : Int) : Int := plc (fun x => x.id == id) S
theorem eplc_cases (S : List Ent) (id : Int) : (eplc S id = -1 ∧ hasId S id = false) ∨ ∃ (k : Nat) (x : Ent), S[k]? = some x ∧ x.id = id ∧ eplc S id = k ∧ hasId S id = true := by
  rcases plc_cases (fun x : Ent => x.id == id) S with ⟨h1, h2⟩ | ⟨k, x, h1, h2, h3, _⟩
  · refine .inl ⟨h1, ?_⟩
    unfold hasId
    rw [List.any_eq_false]
    intro x hx
    simpa using h2 x hx
  · refine .inr ⟨k, x, h1, by simpa using h2, h3, ?_⟩
    unfold hasId
    rw [List.any_eq_true]
    exact ⟨x, List.mem_of_getElem? h1, h2⟩
/-- The best of the first ones; -1: there are none. -/
def BestIs (S : List Ent) (k : Nat) (v : Int) : Prop := (k = 0 ∧ v = -1) ∨ ∃ m : Nat, m < k ∧ v = m ∧ ∀ j, j < k → (Hp.g S j).lt (Hp.g S m) = false
theorem best_first {S : List Ent} : BestIs S 1 0 := by
  refine .inr ⟨0, by omega, rfl, fun j hj => ?_⟩
  have e : j = 0 := by omega
  rw [e]
  exact Ent.lt_irrefl _
theorem best_new {S : List Ent} {k m : Nat} (h : ∀ j, j < k → (Hp.g S j).lt (Hp.g S m) = false) (hlt : (Hp.g S k).lt (Hp.g S m) = true) : BestIs S (k + 1) k := by
  refine .inr ⟨k, by omega, rfl, fun j hj => ?_⟩
  by_cases e : j = k
  · subst e; exact Ent.lt_irrefl _
  · exact Ent.le_trans (Ent.le_of_lt hlt) (h j (by omega))
theorem best_old {S : List Ent} {k m : Nat} (hm : m < k) (h : ∀ j, j < k → (Hp.g S j).lt (Hp.g S m) = false) (hlt : (Hp.g S k).lt (Hp.g S m) = false) : BestIs S (k + 1) m := by
  refine .inr ⟨m, by omega, rfl, fun j hj => ?_⟩
  by_cases e : j = k
  · subst e; exact hlt
  · exact h j (by omega)
theorem best_min {S : List Ent} {m : Nat} (hm : m < S.length) (h : ∀ j, j < S.length → (Hp.g S j).lt (Hp.g S m) = false) : minE S = some (Hp.g S m) :=
  minE_of (g_mem hm) fun x hx => by
    obtain ⟨i, hi, rfl⟩ := mem_g hx
    exact h i hi
theorem dueL_nd {S : List Ent} (h : Nd S) (id : Int) : Nd (without S id) := h.without id
/-- The entries that a reference has. -/
def ends (b : Nat) (n : Int) (S : List Ent) : HP := hex fun (v : Value) => blk b (.cells #[.int .i64 n, v] 52) • arr 34 2 v S.length (S.flatMap Ent.enc)
section
variable {B : Nat} {w0 w w' : World} {F : HP} {b : Nat} {n : Int} {S : List Ent} {v : Value}
theorem Sat.ends_open (h : Sat B w0 w (ends b n S • F)) : ∃ A c, Sat B w0 w (blk b (.cells #[.int .i64 n, .slice A S.length c] 52) • arr 34 2 (.slice A S.length c) S.length (S.flatMap Ent.enc) • F) := by
  unfold ends at h
  rw [hex_star] at h
  obtain ⟨v, h⟩ := h.ex
  rw [star_assoc] at h
  obtain ⟨A, c, rfl⟩ := h.pull2.arr_form
  exact ⟨A, c, h⟩
theorem Sat.ends_shut (h : Sat B w0 w (blk b (.cells #[.int .i64 n, v] 52) • arr 34 2 v S.length (S.flatMap Ent.enc) • F)) : Sat B w0 w (ends b n S • F) := by
  unfold ends
  rw [hex_star]
  refine Sat.ex_mk v ?_
  rw [star_assoc]
  exact h
theorem held_any (n : Int) (w : World) : Calls Tryd.prog 96 #[.int .i64 n] w fun e w' => e = .returned (.int .i64 (roomOf n)) ∧ w' = w := by
  have hr : max 0 (min n 1000) = (roomOf n : Int) := by unfold roomOf; omega
  have HR := Lib.hid hr
  clear hr
  go_enter Tryd.func96, Tryd.ntmps96
  go_wp2_with fail
  go_ret
  rw [HR.out]
  exact ⟨rfl, rfl⟩
set_option maxRecDepth 8000 in
set_option maxHeartbeats 1000000 in
theorem ePlace_any (h : Sat B w0 w (ends b n S • F)) (hl : S.length ≤ 1000) (id : Int) : Calls Tryd.prog 93 #[.pointer (some ⟨b, 0, none⟩), .int .i64 id] w fun e w' => e = .returned (.int .i64 (eplc S id)) ∧ w' = w := by
  obtain ⟨A, c, hS⟩ := h.ends_open
  have d1 : w.cell? ⟨b, 1, none⟩ = some (.slice A S.length c) := by simp [World.cell?, hS.heap]
  have hat := fun k x (hk : S[k]? = some x) => hS.pull2.arr_at Ent.enc_length rfl hk
  generalize hR : eplc S id = R
  have HR := Lib.hid hR
  clear hR hS h
  go_enter Tryd.func93, Tryd.ntmps93
  go_wp2_with fail
  go_loopw [5] (fun i wr => ∃ k : Nat, k ≤ S.length ∧ i = .int .i64 k ∧ wr = w ∧ Hid (∀ j y, j < k → S[j]? = some y → (y.id == id) = false)) (fun i _ => S.length - (intOf i).toNat)
  case atStart => exact ⟨0, Nat.zero_le _, rfl, rfl, Lib.hid fun j y hj => absurd hj (Nat.not_lt_zero _)⟩
  case round =>
    obtain ⟨k, hk, rfl, rfl, HK⟩ := hrel
    by_cases hlt : k < S.length
    · obtain ⟨x, hxk⟩ : ∃ x, S[k]? = some x := ⟨_, List.getElem?_eq_getElem hlt⟩
      obtain ⟨g, rfl, _, hc⟩ := hat k x hxk
      have d2 := hc 0 _ rfl
      rw [Nat.add_zero] at d2
      have HX := Lib.hid hxk
      clear hat hc hxk
      by_cases hid : x.id = id
      · have hid' : (x.id == id) = true := by simpa using hid
        have HI := Lib.hid hid'
        clear hid
        go_wp2_with fail
        go_ret
        refine ⟨?_, rfl⟩
        rw [← HR.out]
        unfold eplc
        rw [plc_hit (f := fun x : Ent => x.id == id) HX.out HI.out HK.out]
        rfl
      · have hid' : (x.id == id) = false := by simpa using hid
        have HI := Lib.hid hid'
        clear hid
        go_wp2_with fail
        go_roundw
        case rel => exact ⟨k + 1, by omega, by go_num, trivial, Lib.hid (plc_next (f := fun x : Ent => x.id == id) HK.out HX.out HI.out)⟩
        case measure => simp [intOf]; omega
    · obtain rfl : k = S.length := by omega
      clear hat
      go_wp2_with fail
      go_ret
      refine ⟨?_, rfl⟩
      rw [← HR.out]
      unfold eplc
      rw [plc_done (f := fun x : Ent => x.id == id) HK.out (Nat.le_refl _)]
      rfl
end
end Go.Proofs.YtepaanpdjadakaaDoor
