import Derived.Test.YtepaanpdjadakaaDoorFlOne
import Derived.Test.YtepaanpdjadakaaDoorRow
import Derived.Test.YtepaanpdjadakaaDoorTail
/-! FlowsBegin, in plain words; a nil table. -/
namespace Go.Proofs.YtepaanpdjadakaaDoor
open Go Go.RowKit

theorem flExpire_nil (now : Int) (w : World) : Calls Tryd.prog 80 #[.pointer none, .int .u64 now] w fun e w' => e = .returned (.slice none 0 0) ∧ Below w.heap.size w w' := by
  have hX := (Sat.start w).alloc_ (.cells #[.int .u64 now] 23)
  go_enter Tryd.func80, Tryd.ntmps80
  go_wp2_with fail
  go_ret
  exact ⟨rfl, hX.below⟩
theorem rowsF_of_arr {B : Nat} {w0 w : World} {F : HP} {e : TypeId} {α : Type} {enc : α → List Value} {sz : Nat} {l : List α} {v : Value} (hl : l.length ≤ maxLen) (h : Sat B w0 w (arr e sz v l.length (l.flatMap enc) • F)) : RowsAt enc w v l := ⟨h.arr_reads, hl⟩
structure BI (R : List FIt) (k : Nat) (next : Int) : Prop where
  len : R.length = k
  nx : 0 ≤ next ∧ next ≤ k
  tups : ∀ x ∈ R, x.key.tup = tupP 6 0 ∨ ∃ i : Nat, i < k ∧ x.key.tup = tupP 17 i
section
variable {room : Nat} {R : List FIt} {next : Int} {p : Nat} {q : Tup} {fl now : Int}
theorem beg_not (h : ¬ begC room R q fl = 0) : begR room R next p q fl now = R ∧ begN room R next q fl = next := by
  unfold begR begN
  rw [if_neg h, if_neg h]
  exact ⟨rfl, rfl⟩
theorem beg_bad (hb : beginsF q.proto fl = false) : begC room R q fl = 1 ∧ begR room R next p q fl now = R ∧ begN room R next q fl = next := by
  have hc : begC room R q fl = 1 := by unfold begC; rw [hb]; rfl
  have := beg_not (next := next) (p := p) (now := now) (show ¬ begC room R q fl = 0 by rw [hc]; decide)
  exact ⟨hc, this⟩
theorem beg_ok (hb : beginsF q.proto fl = true) (ha : R.any (isW q) = false) (hr : R.length < room) : begC room R q fl = 0 ∧ begR room R next p q fl now = R ++ [⟨⟨p, q, begP q⟩, next, begU q now⟩] ∧ begN room R next q fl = next + 1 := by
  have hc : begC room R q fl = 0 := by
    unfold begC
    rw [hb, ha]
    simp only [Bool.false_eq_true, if_false, if_true]
    rw [if_neg (by omega)]
  unfold begR begN
  rw [if_pos hc, if_pos hc]
  exact ⟨hc, rfl, rfl⟩
theorem BI.no {k : Nat} (h : BI R k next) {s : Nat} (hs : k ≤ s) : R.any (isW (tupP 17 s)) = false := by
  rw [Bool.eq_false_iff]
  intro ha
  obtain ⟨x, hx, e⟩ := List.any_eq_true.1 ha
  have e : x.key.tup = tupP 17 s := by simpa [isW] using e
  rcases h.tups x hx with h1 | ⟨i, hi, h1⟩
  · rw [e] at h1
    have := congrArg Tup.proto h1
    simp [tupP] at this
  · rw [e] at h1
    have := congrArg Tup.sp h1
    simp only [tupP] at this
    omega
theorem begins17 (s fl : Int) : beginsF (tupP 17 s).proto fl = true := rfl
theorem bi_first (hr : 0 < room) (hb : beginsF 6 fl = true) : begC room [] (tupP 6 0) fl = 0 ∧ BI (begR room [] 0 p (tupP 6 0) fl now) 1 (begN room [] 0 (tupP 6 0) fl) := by
  obtain ⟨h1, h2, h3⟩ := begR_nil room p (tupP 6 0) fl now hr hb
  refine ⟨h1, ?_⟩
  rw [h2, h3]
  refine ⟨rfl, by omega, fun x hx => ?_⟩
  simp only [oneR, List.mem_singleton] at hx
  subst hx
  exact .inl rfl
theorem bi_none (hb : beginsF 6 fl = false) : begC room [] (tupP 6 0) fl = 1 ∧ BI (begR room [] 0 p (tupP 6 0) fl now) 0 (begN room [] 0 (tupP 6 0) fl) := by
  obtain ⟨h1, h2, h3⟩ := beg_bad (room := room) (R := []) (next := 0) (p := p) (now := now) (q := tupP 6 0) hb
  refine ⟨h1, ?_⟩
  rw [h2, h3]
  exact ⟨rfl, by omega, fun x hx => by cases hx⟩
theorem BI.more {k : Nat} (h : BI R k next) (hk : k < room) : begC room R (tupP 17 k) fl = 0 ∧ BI (begR room R next p (tupP 17 k) fl now) (k + 1) (begN room R next (tupP 17 k) fl) := by
  obtain ⟨h1, h2, h3⟩ := beg_ok (next := next) (p := p) (now := now) (begins17 k fl) (h.no (Nat.le_refl k)) (by rw [h.len]; exact hk)
  refine ⟨h1, ?_⟩
  rw [h2, h3]
  have hx := h.nx
  refine ⟨by simp [h.len], by omega, fun x hx => ?_⟩
  rcases List.mem_append.1 hx with h4 | h4
  · rcases h.tups x h4 with h5 | ⟨i, hi, h5⟩
    · exact .inl h5
    · exact .inr ⟨i, by omega, h5⟩
  · simp only [List.mem_singleton] at h4
    subst h4
    exact .inr ⟨k, by omega, rfl⟩
theorem BI.full {k : Nat} (h : BI R k next) (hk : k ≤ 30) : begC k R (tupP 17 99) fl = 18 ∧ begR k R next p (tupP 17 99) fl now = R ∧ begN k R next (tupP 17 99) fl = next := by
  have hc : begC k R (tupP 17 99) fl = 18 := by
    have hn := h.no (s := 99) (by omega)
    unfold begC
    rw [begins17, show R.any (isW (tupP 17 99)) = false from hn]
    simp only [Bool.false_eq_true, if_false, if_true]
    rw [if_pos (by rw [h.len]; exact Nat.le_refl _)]
  exact ⟨hc, beg_not (by rw [hc]; decide)⟩
theorem BI.there {k : Nat} (h : BI R k next) {x : FIt} (hx : x ∈ R) : begC room R x.key.tup 2 = 19 ∧ begR room R next p x.key.tup 2 now = R ∧ begN room R next x.key.tup 2 = next := by
  have hb : beginsF x.key.tup.proto 2 = true := by
    rcases h.tups x hx with h1 | ⟨i, _, h1⟩
    · rw [h1]; decide
    · rw [h1]; rfl
  have hc : begC room R x.key.tup 2 = 19 := by
    unfold begC
    rw [hb, show R.any (isW x.key.tup) = true from any_tup.2 (List.mem_map.2 ⟨x, hx, rfl⟩)]
    rfl
  exact ⟨hc, beg_not (by rw [hc]; decide)⟩
end
end Go.Proofs.YtepaanpdjadakaaDoor
