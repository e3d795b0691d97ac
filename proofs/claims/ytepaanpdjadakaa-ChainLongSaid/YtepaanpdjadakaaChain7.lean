import Derived.Test.YtepaanpdjadakaaChain5
import Derived.Test.YtepaanpdjadakaaBuild
/-! Records that are made; two lists held against each other. -/
namespace Go.Proofs.Ytepaanpdjadakaa
open Go Go.RowKit

def v4 (a b c d : Int) : Adr := ⟨false, [a, b, c, d, 0, 0, 0, 0, 0, 0, 0, 0, 0, 0, 0, 0], rfl⟩
def cnameOf (from_ to_ : ByteArray) (ttl : Int) : Rec := { name := from_, typ := 5, cls := 1, ttl := ttl, addr := zeroRec.addr, tgt := to_, data := .slice none 0 0, one := rfl }
def aOf (name : ByteArray) (d ttl : Int) : Rec := { name := name, typ := 1, cls := 1, ttl := ttl, addr := v4 8 8 8 d, tgt := ⟨#[]⟩, data := .slice none 0 0, one := rfl }

set_option maxHeartbeats 1000000 in
theorem v4_any (a b c d : Int) (w : World) :
    Calls Try.prog 25 #[.int .u8 a, .int .u8 b, .int .u8 c, .int .u8 d] w fun e w' => e = .returned (.agg (v4 a b c d).enc.toArray) ∧ Below w.heap.size w w' := by
  go_enter Try.func25, Try.ntmps25
  have hst : ∀ (W : World) (z : Array Value), z.size = 17 → (Instr.storeAt 46 (.pointer (some ⟨W.heap.size, 0, none⟩)) (.agg (v4 a b c d).enc.toArray)).run Try.prog (W.alloc (.cells z 46)) = .ok () (W.alloc (.cells (v4 a b c d).enc.toArray 46)) :=
    fun W z hz => run_storeAt_new (v := .agg (v4 a b c d).enc.toArray) (by simp only [Value.cells, List.size_toArray, Adr.enc_length]; kernel_rfl) (by simp only [Value.cells, List.size_toArray, Adr.enc_length]; exact hz) (by simpa [Value.cells] using (v4 a b c d).enc_one)
  go_wp2_with (refine wpList_store_run (t := 46) rfl rfl rfl rfl (hst _ _ rfl) ?_)
  refine ret_cell rfl rfl (run_loadAt_row (heap_alloc_new _ _) Try.underlying46 rfl (by rw [Adr.enc_length]; kernel_rfl) (fun j u hu => by simpa using hu)) rfl ⟨rfl, (Below.refl _ _).alloc (Nat.le_refl _) _⟩
set_option maxHeartbeats 1000000 in
theorem cname_any (f t : ByteArray) (ttl : Int) (w : World) :
    Calls Try.prog 23 #[.string f, .string t, .int .u32 ttl] w fun e w' => e = .returned (.agg (cnameOf f t ttl).enc.toArray) ∧ Below w.heap.size w w' := by
  go_enter Try.func23, Try.ntmps23
  have hst : ∀ (r : Rec) (W : World) (z : Array Value), z.size = 23 → (Instr.storeAt 54 (.pointer (some ⟨W.heap.size, 0, none⟩)) (.agg r.enc.toArray)).run Try.prog (W.alloc (.cells z 54)) = .ok () (W.alloc (.cells r.enc.toArray 54)) :=
    fun r W z hz => run_storeAt_new (v := .agg r.enc.toArray) (by simp only [Value.cells, List.size_toArray, r.enc_length]; kernel_rfl) (by simp only [Value.cells, List.size_toArray, r.enc_length]; exact hz) (by simpa [Value.cells] using r.enc_one)
  go_wp2_with (refine wpList_store_run (t := 54) rfl rfl rfl rfl (hst (cnameOf f t ttl) _ _ rfl) ?_)
  refine ret_cell rfl rfl (run_loadAt_row (heap_alloc_new _ _) Try.underlying54 rfl (by rw [Rec.enc_length]; kernel_rfl) (fun j u hu => by simpa using hu)) rfl ⟨rfl, (Below.refl _ _).alloc (Nat.le_refl _) _⟩
theorem a_built (n : ByteArray) (ty c ttl : Int) (a : Adr) : Try.prog.built 54 [(0, .string n), (1, .int .i64 ty), (2, .int .i64 c), (3, .int .u32 ttl), (4, .agg a.enc.toArray)] = some (Rec.enc { name := n, typ := ty, cls := c, ttl := ttl, addr := a, tgt := ⟨#[]⟩, data := .slice none 0 0, one := rfl }).toArray := by
  rw [built_struct (places := [(0, 1), (1, 1), (2, 1), (3, 1), (4, 17), (21, 1), (22, 1)]) (z := .agg zeroRec.enc.toArray) Try.underlying54 (by kernel_rfl) (by kernel_rfl)]
  have hl := a.enc_length
  rw [fill_one (off := 0) (by simp [Value.cells]) (by simp [Value.cells, Rec.enc_length])]
  rw [fill_one (off := 1) (by simp [Value.cells]) (by simp [Value.cells, Rec.enc_length, splice])]
  rw [fill_one (off := 2) (by simp [Value.cells]) (by simp [Value.cells, Rec.enc_length, splice])]
  rw [fill_one (off := 3) (by simp [Value.cells]) (by simp [Value.cells, Rec.enc_length, splice])]
  rw [fill_one (off := 4) (by simp [Value.cells, hl]) (by simp [Value.cells, Rec.enc_length, splice, hl])]
  have hz : zeroRec.enc = [.string ⟨#[]⟩, .int .i64 0, .int .i64 0, .int .u32 0] ++ zeroRec.addr.enc ++ [.string ⟨#[]⟩, .slice none 0 0] := rfl
  simp [Instr.fill, splice, Value.cells, Rec.enc, hl]
  simp [zeroRec]
  exact List.drop_left' (Adr.enc_length _)
set_option maxHeartbeats 1000000 in
theorem a_any (name : ByteArray) (d ttl : Int) (w : World) :
    Calls Try.prog 24 #[.string name, .int .u8 d, .int .u32 ttl] w fun e w' => e = .returned (.agg (aOf name d ttl).enc.toArray) ∧ Below w.heap.size w w' := by
  have hb : Try.prog.built 54 [(0, .string name), (1, .int .i64 1), (2, .int .i64 1), (3, .int .u32 ttl), (4, .agg (v4 8 8 8 d).enc.toArray)] = some (aOf name d ttl).enc.toArray := a_built name 1 1 ttl (v4 8 8 8 d)
  have hv := v4_any 8 8 8 d
  generalize aOf name d ttl = R at *
  generalize v4 8 8 8 d = q at *
  go_enter Try.func24, Try.ntmps24
  have hS := (Sat.start w).alloc (.cells zeroRec.enc.toArray 54)
  go_wp2_with fail
  refine (hv _).mono ?_
  rintro e w2 ⟨rfl, hb2⟩
  have hS2 := hS.below_ hb2
  have hsz := run_storeAt_row (P := Try.prog) (o := 0) (ty := 54) (v := .agg R.enc.toArray) hS2.heap (by simp only [Value.cells, List.size_toArray, Rec.enc_length]; kernel_rfl) (by simp [Value.cells, Rec.enc_length]) (by simpa [Value.cells] using R.enc_one)
  have hSz := hS2.setRow (cs := splice zeroRec.enc.toArray 0 (Value.agg R.enc.toArray).cells.toList)
  rw [splice_all (by simp [Value.cells, Rec.enc_length])] at hSz hsz
  have hlz : (Instr.loadAt 54 (.pointer (some ⟨w.heap.size, 0, none⟩))).run Try.prog _ = .ok (.agg R.enc.toArray) _ :=
    run_loadAt_row hSz.heap Try.underlying54 rfl (by rw [Rec.enc_length]; kernel_rfl) (fun j u hu => by simpa [Value.cells] using hu)
  go_wp2_with (first | (refine wpList_build5_run (t := 54) rfl rfl rfl rfl rfl rfl rfl hb ?_) | (refine wpList_store_run (t := 54) rfl rfl rfl rfl hsz (stop_ ?_)))
  unfold Stop
  go_wp2_with fail
  refine ret_cell rfl rfl hlz rfl ⟨rfl, hSz.below⟩
end Go.Proofs.Ytepaanpdjadakaa
