import Derived.Test.YtepaanpdjadakaaDoorDropP
import Derived.Test.YtepaanpdjadakaaDoorQry
import Derived.Test.YtepaanpdjadakaaDoorPend3
import Derived.Test.YtepaanpdjadakaaDoorPend4
import Derived.Test.YtepaanpdjadakaaDoorPend5
/-! awake of layer 23. -/
namespace Go.Proofs.YtepaanpdjadakaaDoor
open Go Go.RowKit

def zAdr : Adr := ⟨false, List.replicate 16 0, rfl⟩
/-- A query of which there is but the number. -/
def qid (i : Int) : Qry := ⟨zAdr, zAdr, 0, i, false, ⟨⟨#[]⟩, 0, 0⟩⟩
theorem qid_inj {i j : Int} : qid i = qid j ↔ i = j := by simp [qid]
theorem qid_built (i : Int) : Tryd.prog.built 67 [(3, .int .i64 i)] = some (qid i).enc.toArray := by
  rw [built_struct (places := [(0, 17), (17, 17), (34, 1), (35, 1), (36, 1), (37, 3)]) (z := .agg (qid 0).enc.toArray) Tryd.underlying67 (by kernel_rfl) (by kernel_rfl)]
  rw [fill_one (off := 35) (by simp [Value.cells]) (by simp [Value.cells, Qry.enc_length])]
  simp only [Instr.fill, Value.cells]
  rfl
theorem KN.nil : KN [] := by simp [KN]
theorem KN.filter {R : List (Itm Qry)} (h : KN R) (p : Itm Qry → Bool) : KN (R.filter p) := (List.filter_sublist.map _).nodup h
theorem setKey_keys {R : List (Itm Qry)} {q : Qry} {u : Int} : (setKey R q u).map (·.key) = R.map (·.key) := by
  unfold setKey
  rw [List.map_map]
  apply List.map_congr_left
  intro x _
  simp only [Function.comp]
  split <;> rfl
theorem any_key {R : List (Itm Qry)} {q : Qry} : R.any (isQ q) = true ↔ q ∈ R.map (·.key) := by
  rw [List.any_eq_true, List.mem_map]
  constructor
  · rintro ⟨x, hx, h⟩; exact ⟨x, hx, by simpa [isQ] using h⟩
  · rintro ⟨x, hx, h⟩; exact ⟨x, hx, by simpa [isQ] using h⟩
theorem KN.add {R : List (Itm Qry)} (h : KN R) (room : Nat) (next : Int) (q : Qry) (u : Int) : KN (addR room R next q u) := by
  unfold addR
  cases ha : R.any (isQ q)
  · simp only [Bool.false_eq_true, if_false]
    split
    · exact h
    · unfold KN at *
      rw [List.map_append, List.nodup_append]
      refine ⟨h, by simp, ?_⟩
      intro a ha' b hb
      simp only [List.map_cons, List.map_nil, List.mem_singleton] at hb
      subst hb
      rintro rfl
      rw [any_key.2 ha'] at ha
      cases ha
  · simp only [if_true]
    unfold KN at *
    rw [setKey_keys]; exact h
theorem wpList_load_want {P : Program} {w : World} {ops : Array Oper} {rest : List Oper} {o : Oper} {a : Act} {Q : Exit → Act → World → Prop} (hw : Region.wanted o (yielded ops a.tmps) = true) {t : TypeId} {x : Operand} (ho : o.op = .load t x) {p v : Value} (hx : a.eval x = p)
    (hr : (Instr.loadAt t p).run P w = .ok v w) (h : wpList P ops Q rest (a.put o.dst v) w) : wpList P ops Q (o :: rest) a w :=
  BigFrame.wpList_want hw fun _ hK => wp_load_run ho hx hr (hK _ _ h)
theorem wpList_build_want {P : Program} {w : World} {ops : Array Oper} {rest : List Oper} {o : Oper} {a : Act} {Q : Exit → Act → World → Prop} (hw : Region.wanted o (yielded ops a.tmps) = true) {t : TypeId} {parts : Array (Nat × Operand)} (ho : o.op = .build t parts) {vs : List (Nat × Value)} {cells : Array Value}
    (hv : (parts.map fun (i, x) => (i, a.eval x)).toList = vs) (hb : P.built t vs = some cells) (h : wpList P ops Q rest (a.put o.dst (.agg cells)) w) : wpList P ops Q (o :: rest) a w :=
  BigFrame.wpList_want hw fun _ hK => wp_build_run ho hv hb (hK _ _ h)
section
variable {B : Nat} {w0 w w' : World} {F X : HP} {R : List (Itm Qry)} {t room : Nat} {next : Int}
theorem pAdd_nil (q : Qry) (u : Int) (w : World) : Calls Tryd.prog 39 #[.pointer none, .agg q.enc.toArray, .int .u64 u] w fun e w' => e = .returned (errV 2) ∧ Below w.heap.size w w' := by
  have hB := ((Sat.start w).alloc_ (.cells q.enc.toArray 67)).below
  generalize q.enc.toArray = Q at *
  go_enter Tryd.func39, Tryd.ntmps39
  go_wp2_with fail
  go_ret
  exact ⟨rfl, hB⟩
theorem qry_store (q : Qry) (W : World) (z : Array Value) (hz : z.size = 40) : (Instr.storeAt 67 (.pointer (some ⟨W.heap.size, 0, none⟩)) (.agg q.enc.toArray)).run Tryd.prog (W.alloc (.cells z 67)) = .ok () (W.alloc (.cells q.enc.toArray 67)) :=
  run_storeAt_new (v := .agg q.enc.toArray) (by simp only [Value.cells, List.size_toArray, Qry.enc_length]; kernel_rfl) (by simp only [Value.cells, List.size_toArray, Qry.enc_length]; exact hz) (by simpa [Value.cells] using q.enc_one)
theorem qry_load {q : Qry} {b : Nat} (hS : Sat B w0 w (blk b (.cells q.enc.toArray 67) • F)) : (Instr.loadAt 67 (.pointer (some ⟨b, 0, none⟩))).run Tryd.prog w = .ok (.agg q.enc.toArray) w :=
  run_loadAt_row hS.heap Tryd.underlying67 rfl (by rw [Qry.enc_length]; kernel_rfl) (fun j u hu => by simpa using hu)
set_option maxRecDepth 8000 in
set_option maxHeartbeats 4000000 in
theorem awake23_any (w : World) (hE : Et w) : Calls Tryd.prog 38 #[] w fun e w' => e = .returned (.bool true) ∧ Below w.heap.size w w' := by
  have e0 : errV 0 = .nilIface := rfl
  have hbt := qid_built 7
  have hst := qry_store (qid 7)
  have c1 := pNew_any 3 (Sat.start w)
  rw [show roomOf 3 = 3 by decide] at c1
  go_enter Tryd.func38, Tryd.ntmps38
  go_wp2_with fail
  refine c1.mono ?_
  rintro e w1 ⟨t, rfl, hS1⟩
  have hX := hS1.alloc (.cells (qid 7).enc.toArray 67)
  have c2 := pAdd_any hX.pull2 hE.pos hE KN.nil (by omega) (qid 7) 5
  rw [show addC 3 [] (qid 7) = 0 from rfl, show addR 3 [] 0 (qid 7) 5 = [⟨qid 7, 0, 5⟩] from rfl, show addN 3 [] 0 (qid 7) = 1 from rfl, e0] at c2
  have hl1 := qry_load hX
  clear c1 hS1
  go_wp2_with (first | (refine wpList_build_run (vs := [(3, .int .i64 7)]) rfl rfl rfl hbt ?_) | (refine wpList_store_run (t := 67) rfl rfl rfl rfl (hst _ _ rfl) ?_) | (refine wpList_load_want (t := 67) rfl rfl rfl hl1 ?_))
  refine c2.mono ?_
  rintro e w2 ⟨rfl, hS2⟩
  have hl2 := qry_load hS2.pull2
  have c3 := pHas_any hS2 (qid 7)
  rw [show ([⟨qid 7, 0, 5⟩] : List (Itm Qry)).any (isQ (qid 7)) = true by simp [isQ]] at c3
  clear c2 hX hl1
  go_wp2_with (refine wpList_load_want (t := 67) rfl rfl rfl hl2 ?_)
  refine c3.mono ?_
  rintro e w3 ⟨rfl, hS3⟩
  have hl3 := qry_load hS3.pull2
  have c4 := pLen_any hS3
  rw [show (([⟨qid 7, 0, 5⟩] : List (Itm Qry)).length : Int) = 1 from rfl] at c4
  have c5 := pTake_any hS3 (qid 7)
  rw [show ([⟨qid 7, 0, 5⟩] : List (Itm Qry)).any (isQ (qid 7)) = true by simp [isQ], show ([⟨qid 7, 0, 5⟩] : List (Itm Qry)).filter (fun x => !isQ (qid 7) x) = [] by simp [isQ]] at c5
  clear c3 hS2 hl2
  go_wp2_with fail
  refine c4.mono ?_
  rintro e wx ⟨rfl, rfl⟩
  go_wp2_with (refine wpList_load_want (t := 67) rfl rfl rfl hl3 ?_)
  refine c5.mono ?_
  rintro e w4 ⟨rfl, hS4⟩
  have hl4 := qry_load hS4.pull2
  have c6 := pTake_any hS4 (qid 7)
  rw [show ([] : List (Itm Qry)).any (isQ (qid 7)) = false from rfl] at c6
  clear c4 c5 hS3 hl3
  go_wp2_with (refine wpList_load_want (t := 67) rfl rfl rfl hl4 ?_)
  refine c6.mono ?_
  rintro e w5 ⟨rfl, hS5⟩
  go_wp2_with fail
  go_ret
  exact ⟨rfl, hS5.below⟩
end
end Go.Proofs.YtepaanpdjadakaaDoor
