import Derived.Test.YtepaanpdjadakaaGreatDoorFlOne
import Derived.Test.YtepaanpdjadakaaGreatDoorRow
import Derived.Deep.Cut
/-! FlowsRefuse, in plain words; operations on flows. -/
namespace Go.Proofs.YtepaanpdjadakaaGreatDoor
open Go Go.RowKit

structure WOp where
  kind : Int
  way : Int
  side : Int
  flags : Int
  gap : Int
instance : Inhabited WOp := ⟨⟨0, 0, 0, 0, 0⟩⟩
def WOp.enc (o : WOp) : List Value := [.int .i64 o.kind, .int .i64 o.way, .int .i64 o.side, .int .i64 o.flags, .int .u64 o.gap]
abbrev WOp.enc_sz : Nat := 5
theorem WOp.enc_length (o : WOp) : o.enc.length = 5 := rfl
section
variable {H : Type} {enc : TypeId × Value → H} {w : World} {base : Nat} {spare : Nat → Bool} {held : Bool} {fuel : Nat} {cs : List Value} {x : DataW H × List MemPlace}
theorem under_wop : ∃ fs : Array Field, Tryz.prog.underlying 32 = some (.struct fs) ∧ (fs[0]?.map fun f => (f.type, f.offset)) = some (3, 0) ∧ (fs[1]?.map fun f => (f.type, f.offset)) = some (3, 1) ∧ (fs[2]?.map fun f => (f.type, f.offset)) = some (3, 2) ∧ (fs[3]?.map fun f => (f.type, f.offset)) = some (3, 3) ∧ (fs[4]?.map fun f => (f.type, f.offset)) = some (30, 4) :=
  ⟨_, Tryz.underlying32, rfl, rfl, rfl, rfl, rfl⟩
theorem open1_wop (h : DataW.trod enc Tryz.prog w base spare held fuel 32 cs = some x) : ∃ o : WOp, cs = o.enc := by
  obtain ⟨fs, hu, h0, h1, h2, h3, h4⟩ := under_wop
  obtain ⟨xs, n, rfl, rfl, hlen, hxl, hx⟩ := DataW.trod_struct hu h
  rw [show Tryz.prog.cellsOf 32 = 5 by kernel_rfl] at hlen
  obtain ⟨y0, e0⟩ := open_fld hx hxl h0
  obtain ⟨y1, e1⟩ := open_fld hx hxl h1
  obtain ⟨y2, e2⟩ := open_fld hx hxl h2
  obtain ⟨y3, e3⟩ := open_fld hx hxl h3
  obtain ⟨y4, e4⟩ := open_fld hx hxl h4
  rw [show Tryz.prog.cellsOf 3 = 1 by kernel_rfl] at e0 e1 e2 e3
  rw [show Tryz.prog.cellsOf 30 = 1 by kernel_rfl] at e4
  obtain ⟨a, ha, _, _⟩ := DataW.trod_int Tryz.underlying3 e0
  obtain ⟨b, hb, _, _⟩ := DataW.trod_int Tryz.underlying3 e1
  obtain ⟨c, hc, _, _⟩ := DataW.trod_int Tryz.underlying3 e2
  obtain ⟨d, hd, _, _⟩ := DataW.trod_int Tryz.underlying3 e3
  obtain ⟨g, hg, _, _⟩ := DataW.trod_int Tryz.underlying30 e4
  refine ⟨⟨a, b, c, d, g⟩, ?_⟩
  have c0 := cut_at' cs 0 1
  have c1 := cut_at' cs 1 1
  have c2 := cut_at' cs 2 1
  have c3 := cut_at' cs 3 1
  have c4 := cut_at' cs 4 1
  simp only [Nat.zero_add, Nat.reduceAdd] at c0 c1 c2 c3 c4
  rw [ha, List.drop_zero] at c0
  rw [hb] at c1
  rw [hc] at c2
  rw [hd] at c3
  rw [hg, List.drop_of_length_le (by omega : cs.length ≤ 5)] at c4
  rw [c0, c1, c2, c3, c4]
  rfl
end
def okPh (p : Ph) : Prop := 1 ≤ p.st ∧ p.st ≤ 5
theorem okPh_mk {s f : Int} (h1 : 1 ≤ s) (h2 : s ≤ 5) : okPh ⟨s, f⟩ := ⟨h1, h2⟩
theorem okPh_closes {p : Ph} (h : okPh p) (side fl : Int) : okPh (closesF p side fl) := by
  unfold closesF
  split
  · exact okPh_mk (by decide) (by decide)
  · exact h
theorem okPh_see {p q : Ph} (h : okPh p) {side fl : Int} (hs : seeF 6 p side fl = (true, false, q)) : okPh q := by
  have h2 : okPh ⟨2, p.fin⟩ := okPh_mk (by decide) (by decide)
  have h3 : okPh ⟨3, p.fin⟩ := okPh_mk (by decide) (by decide)
  have h5 : okPh ⟨5, p.fin⟩ := okPh_mk (by decide) (by decide)
  have hc3 := okPh_closes h3 side fl
  have hcp := okPh_closes h side fl
  unfold seeF openingF openF at hs
  simp only [if_true] at hs
  repeat' split at hs
  all_goals first
    | (simp only [Prod.mk.injEq, Bool.true_eq_false, Bool.false_eq_true, false_and, and_false] at hs; done)
    | (simp only [Prod.mk.injEq, true_and] at hs; subst hs; assumption)
    | (simp only [Prod.mk.injEq, true_and] at hs; obtain ⟨_, rfl⟩ := hs; assumption)
theorem lasts_ok {p : Ph} (h : okPh p) : 30 ≤ lastsF 6 p.st ∧ lastsF 6 p.st ≤ 3600 := by
  unfold lastsF
  obtain ⟨h1, h2⟩ := h
  repeat' split
  all_goals omega
def RefI (R : List FIt) (q : Tup) : Prop := R = [] ∨ ∃ p ph u, R = oneR p q ph u ∧ okPh ph
/-- What a round of FlowsRefuse meets. -/
theorem refuse_cases {R : List FIt} {q : Tup} (hq : q.proto = 6) (h : RefI R q) (side fl now : Int) (hn : 0 ≤ now ∧ now < 1000) : ∃ (f1 f2 : Flw) (th ok st : Bool) (R' : List FIt),
    getV R q = .tuple #[.agg f1.enc.toArray, .bool th] ∧ seeR R q side fl now = (ok, R') ∧ getV R' q = .tuple #[.agg f2.enc.toArray, .bool st] ∧ RefI R' q ∧ KNW R ∧
    ((th = false ∧ ok = false ∧ st = false ∧ f1 = f2) ∨ (th = true ∧ ok = false ∧ st = true ∧ f1 = f2) ∨ (th = true ∧ ok = true ∧ st = false ∧ (side = 0 ∨ side = 1)) ∨ (th = true ∧ ok = true ∧ st = true ∧ (side = 0 ∨ side = 1) ∧ now < f2.due ∧ 1 ≤ f2.st ∧ f2.st ≤ 5 ∧ f2.tup = q)) := by
  rcases h with rfl | ⟨p, ph, u, rfl, hok⟩
  · exact ⟨zFlw, zFlw, false, false, false, [], rfl, rfl, rfl, .inl rfl, KNW.nil, .inl ⟨rfl, rfl, rfl, rfl⟩⟩
  · by_cases hs : side = 0 ∨ side = 1
    · have h1 := seeR_one p q ph u side fl now hs
      rw [hq] at h1
      obtain ⟨may, ends, ph', hsf⟩ : ∃ a b c, seeF 6 ph side fl = (a, b, c) := ⟨_, _, _, rfl⟩
      rw [hsf] at h1
      cases may with
      | false => exact ⟨_, _, true, false, true, oneR p q ph u, getV_one p q ph u, h1, getV_one p q ph u, .inr ⟨p, ph, u, rfl, hok⟩, oneR_KN _ _ _ _, .inr (.inl ⟨rfl, rfl, rfl, rfl⟩)⟩
      | true =>
        cases ends with
        | true => exact ⟨_, zFlw, true, true, false, [], getV_one p q ph u, h1, rfl, .inl rfl, oneR_KN _ _ _ _, .inr (.inr (.inl ⟨rfl, rfl, rfl, hs⟩))⟩
        | false =>
          have hok' := okPh_see hok hsf
          obtain ⟨l1, l2⟩ := lasts_ok hok'
          refine ⟨_, _, true, true, true, oneR p q ph' (aft now (lastsF 6 ph'.st)), getV_one p q ph u, h1, getV_one p q ph' _, .inr ⟨p, ph', _, rfl, hok'⟩, oneR_KN _ _ _ _, .inr (.inr (.inr ⟨rfl, rfl, rfl, hs, ?_, hok'.1, hok'.2, rfl⟩))⟩
          simp only
          rw [aft_no (by omega)]
          omega
    · have h1 : seeR (oneR p q ph u) q side fl now = (false, oneR p q ph u) := by
        have hf : (oneR p q ph u).find? (isW q) = some ⟨⟨p, q, ph⟩, 0, u⟩ := by simp [oneR, isW]
        unfold seeR
        rw [hf]
        exact if_neg hs
      exact ⟨_, _, true, false, true, oneR p q ph u, getV_one p q ph u, h1, getV_one p q ph u, .inr ⟨p, ph, u, rfl, hok⟩, oneR_KN _ _ _ _, .inr (.inl ⟨rfl, rfl, rfl, rfl⟩)⟩
theorem wpList_neq_want {P : Program} {w : World} {ops : Array Oper} {rest : List Oper} {o : Oper} {a : Act} {Q : Exit → Act → World → Prop} (hw : Region.wanted o (yielded ops a.tmps) = true) {t t' : TypeId} {x y : Operand} (ho : o.op = .binOp .neq t x y t') {xs ys : Array Value} {r : Bool} (hx : a.eval x = .agg xs) (hy : a.eval y = .agg ys)
    (hg : P.eqGuardType P.depth t = false) (hr : EqV P w 10000 t (.agg xs) (.agg ys) r) (h : wpList P ops Q rest (a.put o.dst (.bool (!r))) w) : wpList P ops Q (o :: rest) a w := by
  refine BigFrame.wpList_want hw fun _ hK => ?_
  unfold Oper.wp execOp
  simp only [ho, hx, hy, Sem.run_bind, run_eqGuard_agg w _ _ _ _ _ _ hg, Result.andThen_ok, run_neq_struct]
  rw [show (Op.equalIn 10000 t (.agg xs) (.agg ys)).run P w = .ok r w from hr]
  simp only [Result.andThen_ok, Sem.run_pure, Oper.upon]
  exact hK _ _ h
theorem ord_neq_agg {P : Program} {w : World} {K : Act → World → Prop} {C : World → Prop} {a : Act} {i : Nat} {rest : List (Nat × How)} {o : Oper} {l : List Oper} (hi : l[i]? = some o) (hw : Region.wanted o (yielded l.toArray a.tmps) = true) {t t' : TypeId} {x y : Operand} (ho : o.op = .binOp .neq t x y t') {xs ys : Array Value} {r : Bool} (hx : a.eval x = .agg xs) (hy : a.eval y = .agg ys)
    (hg : P.eqGuardType P.depth t = false) (hr : ∀ w', EqV P w' 10000 t (.agg xs) (.agg ys) r) (h : ∀ K' : Act → Prop, (∀ a, wpOrd P l.toArray K C rest a w → K' a) → K' (a.put o.dst (.bool (!r)))) : wpOrd P l.toArray K C ((i, .pure) :: rest) a w := by
  have hi' : l.toArray[i]? = some o := by simpa using hi
  simp only [wpOrd, hi', hw, if_true]
  refine ⟨.bool (!r), fun w' => ?_, h _ fun _ h => h⟩
  unfold execOp
  simp only [ho, hx, hy, Sem.run_bind, run_eqGuard_agg w' _ _ _ _ _ _ hg, Result.andThen_ok, run_neq_struct]
  rw [show (Op.equalIn 10000 t (.agg xs) (.agg ys)).run P w' = .ok r w' from hr w']
  simp only [Result.andThen_ok, Sem.run_pure]
end Go.Proofs.YtepaanpdjadakaaGreatDoor
