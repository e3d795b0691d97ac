import Derived.Test.YtepaanpdjadakaaChain6
import Derived.Test.YtepaanpdjadakaaChain8
/-! awake. -/
namespace Go.Proofs.Ytepaanpdjadakaa
open Go Go.RowKit

def sA : ByteArray := ⟨#[97]⟩
def sB : ByteArray := ⟨#[98]⟩
def sC : ByteArray := ⟨#[99]⟩
theorem record_zero : (Try.prog.info? 54).map (fun i => (i.zero, i.size)) = some (some (.agg zeroRec.enc.toArray), 23) := by kernel_rfl
/-- A slice of records that was just made. -/
theorem recs_new (l : List Rec) (w : World) (c : Nat) (h : l.length ≤ 4096) : RecsAt (w.alloc (.cells (l.flatMap Rec.enc).toArray 54)) (.slice (some ⟨w.heap.size, 0, none⟩) l.length c) l := ⟨reads_new, by omega⟩
theorem names_new (l : List ByteArray) (w : World) (c : Nat) (h : l.length ≤ 4096) : NamesAt (w.alloc (.cells (l.map Value.string).toArray 9)) (.slice (some ⟨w.heap.size, 0, none⟩) l.length c) l := ⟨reads_new, by omega⟩
theorem awake_follow : followOf [cnameOf sA sB 5, aOf sB 1 9] sA = ([⟨v4 8 8 8 1, 5⟩], [sA, sB]) := by decide +kernel

set_option maxHeartbeats 2000000 in
theorem awake_any (w : World) : Calls Try.prog 16 #[] w fun e w' => e = .returned (.bool true) ∧ Below w.heap.size w w' := by
  have hfo := awake_follow
  have hc := cname_any sA sB 5
  have ha := a_any sB 1 9
  generalize cnameOf sA sB 5 = R1 at *
  generalize aOf sB 1 9 = R2 at *
  unfold sA sB at *
  go_enter Try.func16, Try.ntmps16
  go_wp2_with fail
  refine (hc _).mono ?_
  rintro e w1 ⟨rfl, hb1⟩
  go_wp2_with fail
  refine (ha _).mono ?_
  rintro e w2 ⟨rfl, hb2⟩
  have hS2 := ((Sat.start w).below_ hb1).below_ hb2
  have hbs : [Value.agg R1.enc.toArray, .agg R2.enc.toArray].flatMap (fun v => v.cells.toList) = [R1, R2].flatMap Rec.enc := by simp [Value.cells]
  have hra : RecsAt (w2.alloc (.cells (R1.enc ++ R2.enc).toArray 54)) (.slice (some ⟨w2.heap.size, 0, none⟩) 2 2) [R1, R2] := by simpa using recs_new [R1, R2] w2 2 (by simp)
  have hS3 := hS2.alloc_ (.cells (R1.enc ++ R2.enc).toArray 54)
  go_wp2_with (refine wpList_buildSlice_row (t := 36) rfl rfl [.agg R1.enc.toArray, .agg R2.enc.toArray] rfl (by simp [Act.eval]) Try.underlying36 record_zero (by simp [Value.cells, Rec.enc_length]) (by decide) (by decide) ?_)
  refine (follow_any ⟨_, _, _, _, _, _, _, _, _⟩ [R1, R2] _ _ hra (by simp)).mono ?_
  rintro e w4 ⟨v1, v2, rfl, hS4⟩
  rw [hfo] at hS4
  have hS5 := hS3.and hS4
  clear hS4 hra hS3 hS2 hb1 hb2
  rw [star_assoc, star_assoc] at hS5
  generalize v4 8 8 8 1 = q at *
  rcases hS5.arr_open with ⟨_, h0, _, _⟩ | ⟨g, cap, cur, rfl, hn1, hn2, hn3, hn4, hSb⟩
  · simp at h0
  have hq := Adr.enc_length q
  have h17 : cur[17]? = some (.int .u32 5) := by
    have h1 : (cur.toList.take (1 * 18))[17]? = (Fnd.enc ⟨q, 5⟩)[17]? := by
      have := congrArg (fun l => l[17]?) hn4
      simpa using this
    rw [Fnd.at17, List.getElem?_take, if_pos (by decide)] at h1
    simpa using h1
  have hcl : w4.cell? ⟨g, 17, none⟩ = some (.int .u32 5) := by simp [World.cell?, hSb.heap, h17]
  have hS6 := hS5.alloc (.cells ([⟨#[97]⟩, ⟨#[98]⟩].map Value.string).toArray 9)
  have hn : NamesAt _ v2 [⟨#[97]⟩, ⟨#[98]⟩] := ⟨by simpa using hS6.pull3.arr_reads, by simp⟩
  have hn2 := names_new [⟨#[97]⟩, ⟨#[98]⟩] w4 2 (by simp)
  go_wp2_with fail
  refine (plainS_any [⟨#[97]⟩, ⟨#[98]⟩] [⟨#[97]⟩, ⟨#[98]⟩] v2 _ _ hn hn2).mono ?_
  rintro e w5 ⟨rfl, hb5⟩
  rw [sameOf_refl (fun x => by simp [eqS])]
  have hS7 := hS6.below_ hb5
  go_wp2_with fail
  go_ret
  exact ⟨rfl, hS7.below⟩
end Go.Proofs.Ytepaanpdjadakaa
