import Derived.Test.YtepaanpdjadakaaSep
import Derived.Maps.AppendAt
import Derived.OwnWalk
import Derived.Laws.OwnMore
namespace Go.Proofs.Ytepaanpdjadakaa
open Go Go.RowKit

/-- A slice of one's own: nil, or at the head of a block of one's own. -/
def arr (e : TypeId) (sz : Nat) (v : Value) (n : Nat) (xs : List Value) : HP := fun h =>
  xs.length = n * sz ∧ ((v = .slice none 0 0 ∧ n = 0) ∨
    ∃ g cap cur, v = .slice (some ⟨g, 0, none⟩) n cap ∧ n ≤ cap ∧ cap ≤ maxLen ∧ cur.size = cap * sz ∧ cur.toList.take (n * sz) = xs ∧ h g = some (.cells cur e (0, 0)))

section
variable {B : Nat} {w0 w w' : World} {F : HP} {e : TypeId} {sz n : Nat} {v : Value} {xs : List Value}
theorem star_true {A : HP} (h : ∀ p, A p) (hF : Sat B w0 w F) : Sat B w0 w (A • F) := by
  obtain ⟨p, a, x⟩ := hF.part
  refine ⟨hF.below, hF.le, p, a, fun _ => none, p, fun _ => .inl rfl, ?_, h _, x⟩
  funext b; rfl
theorem arr_nil (hF : Sat B w0 w F) : Sat B w0 w (arr e sz (.slice none 0 0) 0 [] • F) :=
  star_true (fun _ => ⟨by simp, .inl ⟨rfl, rfl⟩⟩) hF
theorem Sat.arr_len (h : Sat B w0 w (arr e sz v n xs • F)) : xs.length = n * sz := by
  obtain ⟨p, _, x⟩ := h.left.part
  exact x.1
/-- Nil, or a block. -/
theorem Sat.arr_open (h : Sat B w0 w (arr e sz v n xs • F)) : (v = .slice none 0 0 ∧ n = 0 ∧ xs = [] ∧ Sat B w0 w F) ∨
    ∃ g cap cur, v = .slice (some ⟨g, 0, none⟩) n cap ∧ n ≤ cap ∧ cap ≤ maxLen ∧ cur.size = cap * sz ∧ cur.toList.take (n * sz) = xs ∧ Sat B w0 w (blk g (.cells cur e (0, 0)) • F) := by
  obtain ⟨p, a, g, k, ha, hj, ⟨hl, hv⟩, y⟩ := h.part
  rcases hv with ⟨rfl, rfl⟩ | ⟨b, cap, cur, rfl, h1, h2, h3, h4, h5⟩
  · exact .inl ⟨rfl, rfl, List.eq_nil_of_length_eq_zero (by simpa using hl), h.drop⟩
  · exact .inr ⟨b, cap, cur, rfl, h1, h2, h3, h4, h.below, h.le, p, a, g, k, ha, hj, h5, y⟩
theorem Sat.arr_shut {g cap : Nat} {cur : Array Value} (hn : n ≤ cap) (hm : cap ≤ maxLen) (hs : cur.size = cap * sz) (ht : cur.toList.take (n * sz) = xs) (h : Sat B w0 w (blk g (.cells cur e (0, 0)) • F)) :
    Sat B w0 w (arr e sz (.slice (some ⟨g, 0, none⟩) n cap) n xs • F) :=
  h.imp_left fun p hp => ⟨by
    rw [← ht, List.length_take, Array.length_toList, hs]
    exact Nat.min_eq_left (Nat.mul_le_mul_right _ hn), .inr ⟨g, cap, cur, rfl, hn, hm, hs, ht, hp⟩⟩
theorem Sat.owns (h : Sat B w0 w (arr e sz v n xs • F)) : w.ownsRow B e sz v n xs := by
  refine ⟨h.arr_len, ?_⟩
  rcases h.arr_open with ⟨rfl, rfl, _, _⟩ | ⟨g, cap, cur, rfl, h1, h2, h3, h4, h5⟩
  · exact .inl ⟨rfl, rfl⟩
  · exact .inr ⟨g, cap, cur, rfl, h5.ge, h5.heap, h1, h2, h3, h4⟩
theorem below_of_grown {row : Option Nat} (hg : w.grownBy w' row) (h : ∀ k, row = some k → w.heap.size ≤ k) : Below w.heap.size w w' :=
  ⟨hg.os, hg.tape, hg.output, hg.size, fun k hk => hg.block k hk (fun e => by have := h k e.symm; omega)⟩
theorem Sat.of_owns {v' : Value} {n' : Nat} {xs' : List Value} (h : Sat B w0 w (arr e sz v n xs • F)) (hg : w.grownBy w' v.ownBlock) (ho : w'.ownsRow B e sz v' n' xs')
    (hat : v'.ownBlock = v.ownBlock ∨ ∃ b, v'.ownBlock = some b ∧ w.heap.size ≤ b) : Sat B w0 w' (arr e sz v' n' xs' • F) := by
  obtain ⟨hl', hv'⟩ := ho
  rcases h.arr_open with ⟨rfl, rfl, _, hF⟩ | ⟨g, cap, cur, rfl, h1, h2, h3, h4, h5⟩
  · have hb : Below w.heap.size w w' := below_of_grown hg (fun k hk => by simp [Value.ownBlock] at hk)
    rcases hv' with ⟨rfl, rfl⟩ | ⟨g', cap', cur', rfl, hB', hh, h1', h2', h3', h4'⟩
    · obtain rfl : xs' = [] := List.eq_nil_of_length_eq_zero (by simpa using hl')
      exact arr_nil (hF.below_ hb)
    · rcases hat with hat | ⟨b, hat, hbs⟩
      · simp [Value.ownBlock] at hat
      · obtain rfl : g' = b := by simpa [Value.ownBlock] using hat
        exact Sat.arr_shut h1' h2' h3' h4' (hF.claim hb hbs hh)
  · have hlt := h5.lt
    obtain ⟨o', ho'⟩ : ∃ o', w'.heap[g]? = some o' := ⟨_, Array.getElem?_eq_getElem (Nat.lt_of_lt_of_le hlt hg.size)⟩
    have h6 := h5.put (by simpa [Value.ownBlock] using hg) ho'
    rcases hv' with ⟨rfl, rfl⟩ | ⟨g', cap', cur', rfl, hB', hh, h1', h2', h3', h4'⟩
    · obtain rfl : xs' = [] := List.eq_nil_of_length_eq_zero (by simpa using hl')
      exact arr_nil h6.drop
    · rcases hat with hat | ⟨b, hat, hbs⟩
      · obtain rfl : g' = g := by simpa [Value.ownBlock] using hat
        rw [ho'] at hh
        cases hh
        exact Sat.arr_shut h1' h2' h3' h4' h6
      · obtain rfl : g' = b := by simpa [Value.ownBlock] using hat
        have hF := h5.drop
        obtain ⟨p, a, x⟩ := h6.drop.part
        -- the new block lies in no old part
        obtain ⟨q, qa, qg, qk, qap, qe, qx, qy⟩ := h5.part
        refine Sat.arr_shut h1' h2' h3' h4' ⟨h6.below, h6.le, Part.join (fun c => if c = g' then some (.cells cur' e (0, 0)) else none) qk, fun c o hc => ?_, _, qk, fun c => ?_, rfl, ?_, qy⟩
        · unfold Part.join at hc
          by_cases ec : c = g'
          · subst ec; simp at hc; subst hc; exact ⟨hB', hh⟩
          · simp [ec] at hc
            have hq : q c = some o := by
              rw [qe]; unfold Part.join
              rcases qap c with h7 | h7
              · rw [h7]; exact hc
              · rw [h7] at hc; cases hc
            obtain ⟨h8, h9⟩ := qa c o hq
            have hcg : c ≠ g := by
              rintro rfl
              have qx' : qg c = some _ := qx
              rcases qap c with h7 | h7
              · rw [h7] at qx'; cases qx'
              · rw [h7] at hc; cases hc
            refine ⟨h8, (hg.block c (Array.getElem?_eq_some_iff.1 h9).1 ?_).trans h9⟩
            simp [Value.ownBlock]; exact hcg
        · by_cases ec : c = g'
          · subst ec
            right
            cases hk : qk c with
            | none => rfl
            | some o =>
              have hq : q c = some o := by
                rw [qe]; unfold Part.join
                rcases qap c with h7 | h7
                · rw [h7]; exact hk
                · rw [h7] at hk; cases hk
              have := (Array.getElem?_eq_some_iff.1 (qa c o hq).2).1
              omega
          · exact .inl (by simp [ec])
        · simp [blk]

theorem Sat.arr_form (h : Sat B w0 w (arr e sz v n xs • F)) : ∃ A c, v = .slice A n c := by
  rcases h.arr_open with ⟨rfl, rfl, _, _⟩ | ⟨g, cap, cur, rfl, _⟩
  · exact ⟨none, 0, rfl⟩
  · exact ⟨_, cap, rfl⟩

/-- What a slice that is read holds: nil, or cells at an address. -/
def Reads (w : World) (v : Value) (m : Nat) (news : List Value) : Prop :=
  (∃ c, v = .slice none 0 c ∧ m = 0 ∧ news = []) ∨ ∃ a c, v = .slice (some a) m c ∧ ∀ j u, news[j]? = some u → w.cell? (a.add j) = some u

theorem Sat.arr_reads (h : Sat B w0 w (arr e sz v n xs • F)) : Reads w v n xs := by
  rcases h.arr_open with ⟨rfl, rfl, rfl, _⟩ | ⟨g, cap, cur, rfl, h1, h2, h3, h4, h5⟩
  · exact .inl ⟨0, rfl, rfl, rfl⟩
  · exact .inr ⟨_, cap, rfl, fun j u hu => h.owns.cells (g := g) rfl j u hu⟩

/-- append onto a slice of one's own. -/
theorem Sat.append {P : Program} {t ty : TypeId} {z : Value} {bytes m : Nat} {news : List Value} {x : Value}
    (h : Sat B w0 w (arr e sz v n xs • F)) (ht : P.underlying t = some (.slice e)) (hi : (P.info? e).map (fun i => (i.zero, i.size, i.bytes)) = some (some z, sz, bytes)) (hzs : z.cells.size = sz) (hsz : 0 < sz)
    (hx : Reads w x m news) (hl : news.length = m * sz) (h1 : ∀ u ∈ news, u.oneCell' = true) (h63 : n + m ≤ maxLen) (hbytes : (n + m) * bytes ≤ 140737488355328) :
    ∃ v' w', (Builtin.append_ #[t, t] ty #[v, x]).run P w = .ok v' w' ∧ Sat B w0 w' (arr e sz v' (n + m) (xs ++ news) • F) := by
  obtain ⟨i0, hi0, hzz⟩ := Option.map_eq_some_iff.1 hi
  simp only [Prod.mk.injEq] at hzz
  obtain ⟨hz0, hz1, hz2⟩ := hzz
  rcases hx with ⟨c, rfl, rfl, rfl⟩ | ⟨a, c, rfl, hc⟩
  · refine ⟨v, w, ?_, by simpa using h⟩
    rcases h.arr_open with ⟨rfl, rfl, _, _⟩ | ⟨g, cap, cur, rfl, h2, _, _, _, _⟩
    · simp [Builtin.append_, run_underlying ht, sizeOf, typeInfo, hi0, Builtin.lenOf, Builtin.firstCells]
    · simp [Builtin.append_, run_underlying ht, sizeOf, typeInfo, hi0, Builtin.lenOf, Builtin.firstCells, h2, storeCells]
  · obtain ⟨v', w', hr, ho, hg, _, hat⟩ := run_append_own_at (P := P) w B t ty e i0 z sz bytes ht hi0 hz0 hz1 hz2 hzs hsz v n xs h.owns a m c news hl hc h1 h63 hbytes h.le
    refine ⟨v', w', hr, h.of_owns hg ho ?_⟩
    rcases hat with hat | hat
    · exact .inl hat
    · exact .inr ⟨_, hat, Nat.le_refl _⟩

/-- append, at the operation. -/
theorem wpList_append_run {P : Program} {ops : Array Oper} {rest : List Oper} {o : Oper} {a : Act} {Q : Exit → Act → World → Prop} (hgd : o.guard = none) (s x : Operand) (t : TypeId)
    (ho : o.op = .call { callee := .builtin .append, args := #[s, x], argTypes := #[t, t] }) {vs vx v' : Value} (hs : a.eval s = vs) (hx : a.eval x = vx)
    (hr : (Builtin.append_ #[t, t] o.type #[vs, vx]).run P w = .ok v' w') (h : wpList P ops Q rest (a.put o.dst v') w') : wpList P ops Q (o :: rest) a w := by
  refine wpList_plain hgd fun K hK => ?_
  unfold Oper.wp execOp
  simp only [ho, resolve, invoke, builtin, Sem.run_bind, Sem.run_pure, Result.andThen_ok, List.map_toArray, List.map_cons, List.map_nil, hs, hx, hr]
  exact hK _ _ h
theorem wp_append_run {P : Program} {o : Oper} {a : Act} {K : Act → World → Prop} {Q : Exit → Act → World → Prop} (s x : Operand) (t : TypeId)
    (ho : o.op = .call { callee := .builtin .append, args := #[s, x], argTypes := #[t, t] }) {vs vx v' : Value} (hs : a.eval s = vs) (hx : a.eval x = vx)
    (hr : (Builtin.append_ #[t, t] o.type #[vs, vx]).run P w = .ok v' w') (h : K (a.put o.dst v') w') : o.wp P a w K Q := by
  unfold Oper.wp execOp
  simp only [ho, resolve, invoke, builtin, Sem.run_bind, Sem.run_pure, Result.andThen_ok, List.map_toArray, List.map_cons, List.map_nil, hs, hx, hr]
  exact h
end
end Go.Proofs.Ytepaanpdjadakaa
