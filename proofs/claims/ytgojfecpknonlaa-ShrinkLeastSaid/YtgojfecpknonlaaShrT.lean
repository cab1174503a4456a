/- The known script: wakes of the shrinker's laws answers true. -/
import Derived.Test.YtgojfecpknonlaaShrS
namespace Go.Proofs.Ytgojfecpknonlaa.Shr
open Go.RowKit Go.Proofs.YtgojfecpknonlaaW.PrintWords Go.Proofs.YtgojfecpknonlaaW.PrintLast Go.Proofs.YtgojfecpknonlaaW.PrintMore
open Go.Proofs.Ytgojfecpknonlaa.Own Go.Proofs.Ytgojfecpknonlaa.PShrinkLeast
set_option linter.unusedVariables false
set_option linter.unusedSimpArgs false

def p36 (xs : List S111) : Bool := rf [[3], [6]] 0 false (xs.map num) 8
theorem scr36 : ∃ a : Int, 4 < a ∧ scrF p36 60 100 200 ((List.range 8).map ent) = some ([ent 3, ent 6], a, 0) := ⟨14, by decide, by kernel_rfl⟩
theorem num36 : [ent 3, ent 6].map num = [3, 6] := by decide +kernel
theorem scrNone : scrF (fun _ => false) 60 100 1 ((List.range 8).map ent) = some ([], 1, 5) := by kernel_rfl

theorem run_equalIn_nil_nil (d : Nat) (w : World) : (Op.equalIn (d + 1) 39 .nilFunc .nilFunc).run Try.prog w = .ok true w := by
  simp [Op.equalIn, run_underlying Try.underlying39]
theorem run_equal_nil_nil (w : World) : (Op.equal 39 .nilFunc .nilFunc).run Try.prog w = .ok true w := run_equalIn_nil_nil 9999 w
theorem run_eql_nil_nil (w : World) : (binOp .eql 39 .nilFunc .nilFunc).run Try.prog w = .ok (.bool true) w := by
  simp only [binOp]
  simp [run_equal_nil_nil]

set_option maxHeartbeats 4000000 in
set_option maxRecDepth 100000 in
theorem script_nil (w : World) : Calls Try.prog 17 #[.slice none 0 0, .nilFunc, .int .i64 1] w fun e w' => e = .returned (.tuple #[.slice none 0 0, .int .i64 0, .int .i64 1]) ∧ Below w.heap.size w w' := by
  have qf := run_eql_nil_nil
  go_enter Try.func17, Try.ntmps17
  go_wp2_with fail
  go_step3
  go_wp2
  rw [Exit.noGoto_ret]
  go_ret3
  exact ⟨rfl, below_alloc (Below.refl _ _) _⟩

/-- The memory of the known rule. -/
abbrev w36 (w : World) : World := ((((w.alloc (Obj.cells #[Value.int IntKind.u8 3] 5)).alloc (Obj.cells #[Value.int IntKind.u8 6] 5)).alloc (Obj.cells #[Value.slice (some { block := w.heap.size, off := 0 }) 1 1, Value.slice (some { block := w.heap.size + 1, off := 0 }) 1 1] 94)).alloc (Obj.cells #[Value.slice (some { block := w.heap.size + 1 + 1, off := 0 }) 2 2, Value.int IntKind.u8 0, Value.bool false] 33))

theorem heap_w36 (w : World) : (w36 w).heap.size = w.heap.size + 4 := by simp
theorem w36_facts (w : World) : (w36 w).heap[w.heap.size + 1 + 1 + 1]? = some (.cells #[.slice (some ⟨w.heap.size + 1 + 1, 0, none⟩) 2 2, .int .u8 0, .bool false] 33 (0, 0)) ∧ Kd.C (Kd.slice 5 (Kd.int .u8)) (w36 w) (some ⟨w.heap.size + 1 + 1, 0, none⟩) 2 [[3], [6]] ∧ Below w.heap.size w (w36 w) := by
  have b0 : (w36 w).heap[w.heap.size]? = some (.cells #[.int .u8 3] 5 (0, 0)) := blk_alloc (blk_alloc (blk_alloc (blk_new w _) _) _) _
  have b1 : (w36 w).heap[w.heap.size + 1]? = some (.cells #[.int .u8 6] 5 (0, 0)) := by
    have h := blk_new (w.alloc (Obj.cells #[Value.int IntKind.u8 3] 5)) (Obj.cells #[Value.int IntKind.u8 6] 5)
    rw [show (w.alloc (Obj.cells #[Value.int IntKind.u8 3] 5)).heap.size = w.heap.size + 1 by simp] at h
    exact blk_alloc (blk_alloc h _) _
  have b2 : (w36 w).heap[w.heap.size + 1 + 1]? = some (.cells #[Value.slice (some { block := w.heap.size, off := 0 }) 1 1, Value.slice (some { block := w.heap.size + 1, off := 0 }) 1 1] 94 (0, 0)) := by
    have h := blk_new ((w.alloc (Obj.cells #[Value.int IntKind.u8 3] 5)).alloc (Obj.cells #[Value.int IntKind.u8 6] 5)) (Obj.cells #[Value.slice (some { block := w.heap.size, off := 0 }) 1 1, Value.slice (some { block := w.heap.size + 1, off := 0 }) 1 1] 94)
    rw [show ((w.alloc (Obj.cells #[Value.int IntKind.u8 3] 5)).alloc (Obj.cells #[Value.int IntKind.u8 6] 5)).heap.size = w.heap.size + 1 + 1 by simp] at h
    exact blk_alloc h _
  have b3 : (w36 w).heap[w.heap.size + 1 + 1 + 1]? = some (.cells #[.slice (some ⟨w.heap.size + 1 + 1, 0, none⟩) 2 2, .int .u8 0, .bool false] 33 (0, 0)) := by
    have h := blk_new (((w.alloc (Obj.cells #[Value.int IntKind.u8 3] 5)).alloc (Obj.cells #[Value.int IntKind.u8 6] 5)).alloc (Obj.cells #[Value.slice (some { block := w.heap.size, off := 0 }) 1 1, Value.slice (some { block := w.heap.size + 1, off := 0 }) 1 1] 94)) (Obj.cells #[.slice (some ⟨w.heap.size + 1 + 1, 0, none⟩) 2 2, .int .u8 0, .bool false] 33)
    rw [show (((w.alloc (Obj.cells #[Value.int IntKind.u8 3] 5)).alloc (Obj.cells #[Value.int IntKind.u8 6] 5)).alloc (Obj.cells #[Value.slice (some { block := w.heap.size, off := 0 }) 1 1, Value.slice (some { block := w.heap.size + 1, off := 0 }) 1 1] 94)).heap.size = w.heap.size + 1 + 1 + 1 by simp] at h
    exact h
  refine ⟨b3, ?_, below_alloc (below_alloc (below_alloc (below_alloc (Below.refl _ _) _) _) _) _⟩
  have c0 : Kd.C (Kd.int .u8) (w36 w) (some ⟨w.heap.size, 0, none⟩) 1 [3] := C_block (Kd.int .u8) b0 (Reps.one rfl (Reps.none _ _)) (by simp)
  have c1 : Kd.C (Kd.int .u8) (w36 w) (some ⟨w.heap.size + 1, 0, none⟩) 1 [6] := C_block (Kd.int .u8) b1 (Reps.one rfl (Reps.none _ _)) (by simp)
  exact C_block (Kd.slice 5 (Kd.int .u8)) b2 (Reps.one ⟨_, 1, rfl, by simp, c0⟩ (Reps.one ⟨_, 1, rfl, by simp, c1⟩ (Reps.none _ _))) (by simp)

set_option maxHeartbeats 4000000 in
set_option maxRecDepth 100000 in
theorem wakes_calls (w : World) : Calls Try.prog 11 #[] w fun e w' => e = .returned (.bool true) ∧ Below w.heap.size w w' := by
  obtain ⟨k0, hk0⟩ := (numbered_ev 8 (by omega)).rounds
  have HK0 := Aside0.mk hk0
  obtain ⟨a6, ha6, hs6⟩ := scr36
  have HS6 := Aside0.mk hs6
  obtain ⟨k1, hk1⟩ := (numbers_ev [ent 3, ent 6] (by simp)).rounds
  rw [num36] at hk1
  have HK1 := Aside0.mk hk1
  obtain ⟨k2, hk2⟩ := (row_ev [3, 6] [3, 6] (by simp)).rounds
  rw [decide_eq_true rfl] at hk2
  have HK2 := Aside0.mk hk2
  have ha6b : decide (4 < a6) = true := decide_eq_true ha6
  clear hk0 hs6 hk1 hk2
  go_enter Try.func11, Try.ntmps11
  go_wp2_with fail
  refine (demesnelaw40_numbered.calls k0 8 _ _ HK0.out).mono ?_
  rintro e w1 ⟨v1, rfl, hv1, hb1⟩
  obtain ⟨A1, c1, rfl, hc1, hC1⟩ := Kd.R_reads hv1
  have HF := w36_facts w
  have h1 := blk_below HF.1 hb1
  have hG := Kd.C_below HF.2.1 hb1
  have HB1 := Aside0.mk (below_then HF.2.2 (by rw [heap_w36]; omega) hb1)
  have HA := Aside0.mk (ans53 w1 (w.heap.size + 1 + 1 + 1) _ 2 [[3], [6]] 0 false 60 (by omega) h1 hG (by simp) (by simp) (by intro q h; have : q = 0 ∨ q = 1 := by simp at h; omega
                                                                                                                              rcases this with rfl | rfl <;> simp))
  have HC1 := Aside0.mk hC1
  have hsz1 : w.heap.size ≤ w1.heap.size := HB1.out.size
  clear HF h1 hG hb1 hv1 hC1
  go_wp2_with fail
  have SC := script_calls 53 _ p36 60 (by omega) w1 HA.out A1 c1 _ 100 (by omega) HC1.out hc1 (by simp) 200 _ _ _ HS6.out
  rw [List.length_map, List.length_range] at SC
  refine SC.mono ?_
  clear SC
  rintro e w2 ⟨v2, rfl, hv2, hb2⟩
  obtain ⟨A2, c2, rfl, hc2, hC2⟩ := Kd.R_reads hv2
  have HB2 := Aside0.mk (below_then HB1.out hsz1 hb2)
  have hsz2 : w.heap.size ≤ w2.heap.size := HB2.out.size
  have HC2 := Aside0.mk hC2
  clear hv2 hC2 hb2 HA HC1 HB1 hsz1
  go_wp2_with fail
  refine (demesnelaw40_numbered.calls k0 8 _ _ HK0.out).mono ?_
  rintro e w3 ⟨v3, rfl, hv3, hb3⟩
  obtain ⟨A3, c3, rfl, hc3, hC3⟩ := Kd.R_reads hv3
  have HB3 := Aside0.mk (below_then HB2.out hsz2 hb3)
  have hsz3 : w.heap.size ≤ w3.heap.size := HB3.out.size
  have HC3 := Aside0.mk hC3
  have HC2' := Aside0.mk (Kd.C_below HC2.out hb3)
  clear hv3 hC3 hb3 HB2 hsz2 HC2
  go_wp2_with fail
  have SC := script_calls 54 #[] (fun _ => false) 60 (by omega) w3 (ans54 w3 60) A3 c3 _ 100 (by omega) HC3.out hc3 (by simp) 1 _ _ _ scrNone
  rw [List.length_map, List.length_range] at SC
  refine SC.mono ?_
  clear SC
  rintro e w4 ⟨v4, rfl, hv4, hb4⟩
  have HB4 := Aside0.mk (below_then HB3.out hsz3 hb4)
  have hsz4 : w.heap.size ≤ w4.heap.size := HB4.out.size
  have HC4 := Aside0.mk (Kd.C_below HC2'.out hb4)
  clear hv4 hb4 HB3 hsz3 HC2' HC3
  go_wp2_with fail
  refine (script_nil _).mono ?_
  rintro e w5 ⟨rfl, hb5⟩
  have HB5 := Aside0.mk (below_then HB4.out hsz4 hb5)
  have hsz5 : w.heap.size ≤ w5.heap.size := HB5.out.size
  have HC5 := Aside0.mk (Kd.C_below HC4.out hb5)
  clear hb5 HB4 hsz4 HC4
  go_wp2_with fail
  refine (demesnelaw40_numbers.calls k1 A2 c2 _ _ _ HC5.out hc2 HK1.out).mono ?_
  rintro e w6 ⟨v6, rfl, hv6, hb6⟩
  obtain ⟨A6, c6, rfl, hc6, hC6⟩ := Kd.R_reads hv6
  have HB6 := Aside0.mk (below_then HB5.out hsz5 hb6)
  have hsz6 : w.heap.size ≤ w6.heap.size := HB6.out.size
  have HC6 := Aside0.mk hC6
  clear hv6 hC6 hb6 HB5 hsz5 HC5
  go_wp2_with fail
  refine (demesnelaw40_row.calls k2 A6 c6 [3, 6] (some ⟨w6.heap.size, 0, none⟩) 2 [3, 6] true _ ?_ hc6 ?_ (by simp) HK2.out).mono ?_
  · exact Kd.C_alloc HC6.out _
  · exact C_block (Kd.int .i64) (blk_new w6 _) (Reps.one rfl (Reps.one rfl (Reps.none _ _))) (by simp)
  rintro e w7 ⟨rfl, ⟨nd, rfl⟩⟩
  go_wp2
  go_ret
  exact ⟨rfl, pw_below_drewN (below_then HB6.out hsz6 (below_alloc (Below.refl _ _) _)) _⟩
end Go.Proofs.Ytgojfecpknonlaa.Shr
