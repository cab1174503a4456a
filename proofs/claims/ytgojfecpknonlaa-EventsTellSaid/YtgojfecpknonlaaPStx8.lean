-- Written by the kit's print.py for this claim.
import Derived.Test.YtgojfecpknonlaaPStx0
import Derived.Test.YtgojfecpknonlaaPStx6
import Derived.Test.YtgojfecpknonlaaPStx7
namespace Go.Proofs.Ytgojfecpknonlaa.PSt
open Go.RowKit Go.Proofs.YtgojfecpknonlaaW.PrintWords Go.Proofs.YtgojfecpknonlaaW.PrintLast Go.Proofs.YtgojfecpknonlaaW.PrintMore
attribute [local go_sem] max2_int min2_int max_two min_two max_three min_three max_four min_four   -- for this text's walks alone
set_option linter.unusedVariables false
set_option linter.unusedSimpArgs false

/-! ### events_May: function 44 -/
mutual
def events_May.j0 : Nat → Bool → Int → Int → Int → Int → Int → Int → Int → Int → Int → Int → Int → Option (Bool)
  | 0, _, _, _, _, _, _, _, _, _, _, _, _ => none
  | k + 1, x3, x153000, x153001, x153002, x153003, x153004, x153005, x153006, x153007, x153008, x153009, x153010 => (script_Args.f k x153001).bind fun t153 => (if t153 < 3 then (if x153004 = 0 then (if t153 < 2 then (if x153003 = 0 then (if t153 < 1 then (events_May.j1 k x3 (x153002 != 0) x153000 x153001 x153002 x153003 x153004 x153005 x153006 x153007 x153008 x153009 x153010) else (events_May.j1 k x3 false x153000 x153001 x153002 x153003 x153004 x153005 x153006 x153007 x153008 x153009 x153010)) else (events_May.j1 k x3 true x153000 x153001 x153002 x153003 x153004 x153005 x153006 x153007 x153008 x153009 x153010)) else (if t153 < 1 then (events_May.j1 k x3 (x153002 != 0) x153000 x153001 x153002 x153003 x153004 x153005 x153006 x153007 x153008 x153009 x153010) else (events_May.j1 k x3 false x153000 x153001 x153002 x153003 x153004 x153005 x153006 x153007 x153008 x153009 x153010))) else (events_May.j1 k x3 true x153000 x153001 x153002 x153003 x153004 x153005 x153006 x153007 x153008 x153009 x153010)) else (if t153 < 2 then (if x153003 = 0 then (if t153 < 1 then (events_May.j1 k x3 (x153002 != 0) x153000 x153001 x153002 x153003 x153004 x153005 x153006 x153007 x153008 x153009 x153010) else (events_May.j1 k x3 false x153000 x153001 x153002 x153003 x153004 x153005 x153006 x153007 x153008 x153009 x153010)) else (events_May.j1 k x3 true x153000 x153001 x153002 x153003 x153004 x153005 x153006 x153007 x153008 x153009 x153010)) else (if t153 < 1 then (events_May.j1 k x3 (x153002 != 0) x153000 x153001 x153002 x153003 x153004 x153005 x153006 x153007 x153008 x153009 x153010) else (events_May.j1 k x3 false x153000 x153001 x153002 x153003 x153004 x153005 x153006 x153007 x153008 x153009 x153010))))
def events_May.j1 : Nat → Bool → Bool → Int → Int → Int → Int → Int → Int → Int → Int → Int → Int → Int → Option (Bool)
  | 0, _, _, _, _, _, _, _, _, _, _, _, _, _ => none
  | k + 1, x3, x5, x153000, x153001, x153002, x153003, x153004, x153005, x153006, x153007, x153008, x153009, x153010 => (events_in.f x153008 2147483647).bind fun t154 => (if t154 = true then ((events_in.f x153009 2147483647).bind fun t155 => (if t155 = true then ((events_in.f x153010 2147483647).bind fun t156 => (if x3 = true then (if x153001 ≤ 13 then (if x5 = true then (some false) else ((events_in.f x153005 8).bind fun t157 => (if t157 = true then ((events_in.f x153006 65535).bind fun t158 => (if t158 = true then (some t156) else (some false))) else (some false)))) else (some false)) else (some false))) else (if x3 = true then (if x153001 ≤ 13 then (if x5 = true then (some false) else ((events_in.f x153005 8).bind fun t159 => (if t159 = true then ((events_in.f x153006 65535).bind fun t160 => (if t160 = true then (some false) else (some false))) else (some false)))) else (some false)) else (some false)))) else (if x3 = true then (if x153001 ≤ 13 then (if x5 = true then (some false) else ((events_in.f x153005 8).bind fun t161 => (if t161 = true then ((events_in.f x153006 65535).bind fun t162 => (if t162 = true then (some false) else (some false))) else (some false)))) else (some false)) else (some false)))
end
def events_May.f (k : Nat) (a0_0 : Int) (a0_1 : Int) (a0_2 : Int) (a0_3 : Int) (a0_4 : Int) (a0_5 : Int) (a0_6 : Int) (a0_7 : Int) (a0_8 : Int) (a0_9 : Int) (a0_10 : Int) : Option (Bool) := if a0_0 = 255 then (events_May.j0 k true a0_0 a0_1 a0_2 a0_3 a0_4 a0_5 a0_6 a0_7 a0_8 a0_9 a0_10) else (events_May.j0 k (decide (a0_0 < 64)) a0_0 a0_1 a0_2 a0_3 a0_4 a0_5 a0_6 a0_7 a0_8 a0_9 a0_10)
theorem events_May.mono_l : ∀ k, (∀ y0 y1 y2 y3 y4 y5 y6 y7 y8 y9 y10 y11, LeO (events_May.j0 k y0 y1 y2 y3 y4 y5 y6 y7 y8 y9 y10 y11) (events_May.j0 (k + 1) y0 y1 y2 y3 y4 y5 y6 y7 y8 y9 y10 y11)) ∧ (∀ y0 y1 y2 y3 y4 y5 y6 y7 y8 y9 y10 y11 y12, LeO (events_May.j1 k y0 y1 y2 y3 y4 y5 y6 y7 y8 y9 y10 y11 y12) (events_May.j1 (k + 1) y0 y1 y2 y3 y4 y5 y6 y7 y8 y9 y10 y11 y12))
  | 0 => ⟨fun _ _ _ _ _ _ _ _ _ _ _ _ r h => by simp [events_May.j0] at h, fun _ _ _ _ _ _ _ _ _ _ _ _ _ r h => by simp [events_May.j1] at h⟩
  | k + 1 => by
    obtain ⟨ih0, ih1⟩ := events_May.mono_l k
    refine ⟨?_, ?_⟩
    · intro y0 y1 y2 y3 y4 y5 y6 y7 y8 y9 y10 y11
      unfold events_May.j0
      repeat' first
      | (with_reducible exact ih0 _ _ _ _ _ _ _ _ _ _ _ _)
      | (with_reducible exact ih1 _ _ _ _ _ _ _ _ _ _ _ _ _)
      | (with_reducible exact script_Args.mono _ _)
      | (with_reducible exact LeO.refl _)
      | (with_reducible exact LeO.none _)
      | (with_reducible refine LeO.ite ?_ ?_)
      | (with_reducible refine LeO.bind ?_ (fun _ => ?_))
      | exact ih0 _ _ _ _ _ _ _ _ _ _ _ _
      | exact ih1 _ _ _ _ _ _ _ _ _ _ _ _ _
      | exact script_Args.mono _ _
      | exact LeO.none _
      | refine LeO.ite ?_ ?_
      | refine LeO.bind ?_ (fun _ => ?_)
    · intro y0 y1 y2 y3 y4 y5 y6 y7 y8 y9 y10 y11 y12
      unfold events_May.j1
      repeat' first
      | (with_reducible exact ih0 _ _ _ _ _ _ _ _ _ _ _ _)
      | (with_reducible exact ih1 _ _ _ _ _ _ _ _ _ _ _ _ _)
      | (with_reducible exact script_Args.mono _ _)
      | (with_reducible exact LeO.refl _)
      | (with_reducible exact LeO.none _)
      | (with_reducible refine LeO.ite ?_ ?_)
      | (with_reducible refine LeO.bind ?_ (fun _ => ?_))
      | exact ih0 _ _ _ _ _ _ _ _ _ _ _ _
      | exact ih1 _ _ _ _ _ _ _ _ _ _ _ _ _
      | exact script_Args.mono _ _
      | exact LeO.none _
      | refine LeO.ite ?_ ?_
      | refine LeO.bind ?_ (fun _ => ?_)
theorem events_May.mono : ∀ a0 a1 a2 a3 a4 a5 a6 a7 a8 a9 a10 k, LeO (events_May.f k a0 a1 a2 a3 a4 a5 a6 a7 a8 a9 a10) (events_May.f (k + 1) a0 a1 a2 a3 a4 a5 a6 a7 a8 a9 a10) := by
  intro a0 a1 a2 a3 a4 a5 a6 a7 a8 a9 a10 k
  obtain ⟨ih0, ih1⟩ := events_May.mono_l k
  unfold events_May.f
  repeat' first
      | (with_reducible exact ih0 _ _ _ _ _ _ _ _ _ _ _ _)
      | (with_reducible exact ih1 _ _ _ _ _ _ _ _ _ _ _ _ _)
      | (with_reducible exact script_Args.mono _ _)
      | (with_reducible exact LeO.refl _)
      | (with_reducible exact LeO.none _)
      | (with_reducible refine LeO.ite ?_ ?_)
      | (with_reducible refine LeO.bind ?_ (fun _ => ?_))
      | exact ih0 _ _ _ _ _ _ _ _ _ _ _ _
      | exact ih1 _ _ _ _ _ _ _ _ _ _ _ _ _
      | exact script_Args.mono _ _
      | exact LeO.none _
      | refine LeO.ite ?_ ?_
      | refine LeO.bind ?_ (fun _ => ?_)
set_option maxHeartbeats 8000000 in
set_option maxRecDepth 100000 in
theorem events_May.calls (k : Nat) (a0_0 : Int) (a0_1 : Int) (a0_2 : Int) (a0_3 : Int) (a0_4 : Int) (a0_5 : Int) (a0_6 : Int) (a0_7 : Int) (a0_8 : Int) (a0_9 : Int) (a0_10 : Int) (r : Bool) (w : World) (h : events_May.f k a0_0 a0_1 a0_2 a0_3 a0_4 a0_5 a0_6 a0_7 a0_8 a0_9 a0_10 = some r) :
    Calls Try.prog 44 #[.agg #[.int .u8 a0_0, .int .u8 a0_1, .int .u8 a0_2, .int .u8 a0_3, .int .u8 a0_4, .int .i64 a0_5, .int .i64 a0_6, .int .u64 a0_7, .int .i64 a0_8, .int .i64 a0_9, .int .i64 a0_10]] w fun e w' => e = .returned (.bool r) ∧ Below w.heap.size w w' := by
  have hu72 := Try.underlying72
  have HB := Aside0.mk (Below.refl w.heap.size w)
  have H : (if a0_0 = 255 then (events_May.j0 k true a0_0 a0_1 a0_2 a0_3 a0_4 a0_5 a0_6 a0_7 a0_8 a0_9 a0_10) else (events_May.j0 k (decide (a0_0 < 64)) a0_0 a0_1 a0_2 a0_3 a0_4 a0_5 a0_6 a0_7 a0_8 a0_9 a0_10)) = some r := h
  clear h
  have HC2 := Aside0.mk H
  clear H
  go_enter Try.func44, Try.ntmps44
  go_upto_region 1 with (first | ((with_reducible refine gate_dst (N := 1) rfl ?_); refine box_event ?hg (N := 1) ?hd (cs := #[.int .u8 a0_0, .int .u8 a0_1, .int .u8 a0_2, .int .u8 a0_3, .int .u8 a0_4, .int .i64 a0_5, .int .i64 a0_6, .int .u64 a0_7, .int .i64 a0_8, .int .i64 a0_9, .int .i64 a0_10]) (t := 72) ?hr ?_; (case hd => rfl); (case hg => rfl); (case hr => first | (go_simp; done) | (go_simp; rfl)); intro gb152 hg w3 hbox hb; have n0_ := Aside0.mk (below_step (by repeat (first | (with_reducible first | exact HB.out | apply below_alloc | apply pw_below_drewN | apply below_drew1) | exact HB.out)) hb); have n1_ := Aside0.mk (hbox); have n2_ := Aside0.mk ((by rw [hg]; exact (below_size (by repeat (first | (with_reducible first | exact HB.out | apply below_alloc | apply pw_below_drewN | apply below_drew1) | exact HB.out))) : w.heap.size ≤ gb152)); have n3_ := Aside0.mk ((by rw [hg]; exact (below_size (by repeat (first | (with_reducible first | exact HB.out | apply below_alloc | apply pw_below_drewN | apply below_drew1) | exact HB.out))) : w.heap.size ≤ gb152)); clear HB; have HB := n0_; have BK152 := n1_; have GW152 := n2_; have GE152 := n3_; clear n0_ n1_ n2_ n3_; clear hb hbox hg))
  (try simp only [Act.put, List.setIfInBounds_toArray, List.set_cons_zero, List.set_cons_succ])
  go_cut [3] (fun v3 wc => ∃ (kq : Nat) (x3_1 : Bool), v3 = .bool x3_1 ∧ Aside0 (events_May.j0 kq x3_1 a0_0 a0_1 a0_2 a0_3 a0_4 a0_5 a0_6 a0_7 a0_8 a0_9 a0_10 = some r) ∧ Aside0 (kq ≤ k) ∧ Aside0 (wc.heap[gb152]? = some (.cells #[.int .u8 a0_0, .int .u8 a0_1, .int .u8 a0_2, .int .u8 a0_3, .int .u8 a0_4, .int .i64 a0_5, .int .i64 a0_6, .int .u64 a0_7, .int .i64 a0_8, .int .i64 a0_9, .int .i64 a0_10] 72 (0, 0))) ∧ Aside0 (Below w.heap.size w wc))
  case first =>
    have H := HC2.out
    clear HC2
    by_cases c4 : a0_0 = 255
    · rw [if_pos c4] at H
      have c4b0 : (a0_0 == 255) = true := beq_iff_eq.mpr c4
      have c4b1 : (a0_0 != 255) = false := bne_eq_false_iff_eq.mpr c4
      clear c4
      (first | rw [c4b0] | (simp only [i64_w, i32_w]; rw [c4b0]) | skip)
      have H' := Aside0.mk H
      clear H
      have hcz5_0 : w3.cell? ⟨gb152, 0, none⟩ = some (.int .u8 a0_0) := (blk_cell BK152.out 0).trans rfl
      have hcz5_1 : w3.cell? ⟨gb152, 1, none⟩ = some (.int .u8 a0_1) := (blk_cell BK152.out 1).trans rfl
      have hcz5_2 : w3.cell? ⟨gb152, 2, none⟩ = some (.int .u8 a0_2) := (blk_cell BK152.out 2).trans rfl
      have hcz5_3 : w3.cell? ⟨gb152, 3, none⟩ = some (.int .u8 a0_3) := (blk_cell BK152.out 3).trans rfl
      have hcz5_4 : w3.cell? ⟨gb152, 4, none⟩ = some (.int .u8 a0_4) := (blk_cell BK152.out 4).trans rfl
      have hcz5_5 : w3.cell? ⟨gb152, 5, none⟩ = some (.int .i64 a0_5) := (blk_cell BK152.out 5).trans rfl
      have hcz5_6 : w3.cell? ⟨gb152, 6, none⟩ = some (.int .i64 a0_6) := (blk_cell BK152.out 6).trans rfl
      have hcz5_7 : w3.cell? ⟨gb152, 7, none⟩ = some (.int .u64 a0_7) := (blk_cell BK152.out 7).trans rfl
      have hcz5_8 : w3.cell? ⟨gb152, 8, none⟩ = some (.int .i64 a0_8) := (blk_cell BK152.out 8).trans rfl
      have hcz5_9 : w3.cell? ⟨gb152, 9, none⟩ = some (.int .i64 a0_9) := (blk_cell BK152.out 9).trans rfl
      have hcz5_10 : w3.cell? ⟨gb152, 10, none⟩ = some (.int .i64 a0_10) := (blk_cell BK152.out 10).trans rfl
      have hfz5_0 := blk_frozen BK152.out 0
      have hfz5_1 := blk_frozen BK152.out 1
      have hfz5_2 := blk_frozen BK152.out 2
      have hfz5_3 := blk_frozen BK152.out 3
      have hfz5_4 := blk_frozen BK152.out 4
      have hfz5_5 := blk_frozen BK152.out 5
      have hfz5_6 := blk_frozen BK152.out 6
      have hfz5_7 := blk_frozen BK152.out 7
      have hfz5_8 := blk_frozen BK152.out 8
      have hfz5_9 := blk_frozen BK152.out 9
      have hfz5_10 := blk_frozen BK152.out 10
      go_wp2
      go_meet
      case rel => exact ⟨_, (true), (by first | rfl | (simp; done) | (simp [*]; done)), H', ⟨by first | omega | exact Nat.le_refl _⟩, ⟨by (with_reducible repeat (first | refine blk_drewN ?_ _ | refine blk_drew ?_ | refine blk_alloc ?_ _)); exact BK152.out⟩, ⟨by repeat (first | (with_reducible first | exact HB.out | apply below_alloc | apply pw_below_drewN | apply below_drew1 | refine below_set ?_ GE152.out) | exact HB.out)⟩⟩
    · rw [if_neg c4] at H
      have c4b0 : (a0_0 == 255) = false := beq_eq_false_iff_ne.mpr c4
      have c4b1 : (a0_0 != 255) = true := bne_iff_ne.mpr c4
      (first | rw [c4b0] | (simp only [i64_w, i32_w]; rw [c4b0]) | skip)
      have H' := Aside0.mk H
      clear H
      have hcz6_0 : w3.cell? ⟨gb152, 0, none⟩ = some (.int .u8 a0_0) := (blk_cell BK152.out 0).trans rfl
      have hcz6_1 : w3.cell? ⟨gb152, 1, none⟩ = some (.int .u8 a0_1) := (blk_cell BK152.out 1).trans rfl
      have hcz6_2 : w3.cell? ⟨gb152, 2, none⟩ = some (.int .u8 a0_2) := (blk_cell BK152.out 2).trans rfl
      have hcz6_3 : w3.cell? ⟨gb152, 3, none⟩ = some (.int .u8 a0_3) := (blk_cell BK152.out 3).trans rfl
      have hcz6_4 : w3.cell? ⟨gb152, 4, none⟩ = some (.int .u8 a0_4) := (blk_cell BK152.out 4).trans rfl
      have hcz6_5 : w3.cell? ⟨gb152, 5, none⟩ = some (.int .i64 a0_5) := (blk_cell BK152.out 5).trans rfl
      have hcz6_6 : w3.cell? ⟨gb152, 6, none⟩ = some (.int .i64 a0_6) := (blk_cell BK152.out 6).trans rfl
      have hcz6_7 : w3.cell? ⟨gb152, 7, none⟩ = some (.int .u64 a0_7) := (blk_cell BK152.out 7).trans rfl
      have hcz6_8 : w3.cell? ⟨gb152, 8, none⟩ = some (.int .i64 a0_8) := (blk_cell BK152.out 8).trans rfl
      have hcz6_9 : w3.cell? ⟨gb152, 9, none⟩ = some (.int .i64 a0_9) := (blk_cell BK152.out 9).trans rfl
      have hcz6_10 : w3.cell? ⟨gb152, 10, none⟩ = some (.int .i64 a0_10) := (blk_cell BK152.out 10).trans rfl
      have hfz6_0 := blk_frozen BK152.out 0
      have hfz6_1 := blk_frozen BK152.out 1
      have hfz6_2 := blk_frozen BK152.out 2
      have hfz6_3 := blk_frozen BK152.out 3
      have hfz6_4 := blk_frozen BK152.out 4
      have hfz6_5 := blk_frozen BK152.out 5
      have hfz6_6 := blk_frozen BK152.out 6
      have hfz6_7 := blk_frozen BK152.out 7
      have hfz6_8 := blk_frozen BK152.out 8
      have hfz6_9 := blk_frozen BK152.out 9
      have hfz6_10 := blk_frozen BK152.out 10
      go_wp2
      go_meet
      case rel => exact ⟨_, (decide (a0_0 < 64)), (by first | rfl | (simp; done) | (simp [*]; done)), H', ⟨by first | omega | exact Nat.le_refl _⟩, ⟨by (with_reducible repeat (first | refine blk_drewN ?_ _ | refine blk_drew ?_ | refine blk_alloc ?_ _)); exact BK152.out⟩, ⟨by repeat (first | (with_reducible first | exact HB.out | apply below_alloc | apply pw_below_drewN | apply below_drew1 | refine below_set ?_ GE152.out) | exact HB.out)⟩⟩
  case rest =>
    clear HC2
    try clear p2
    try clear c4
    try clear c4b0
    try clear c4b1
    try clear hcz5_0
    try clear hcz5_1
    try clear hcz5_10
    try clear hcz5_2
    try clear hcz5_3
    try clear hcz5_4
    try clear hcz5_5
    try clear hcz5_6
    try clear hcz5_7
    try clear hcz5_8
    try clear hcz5_9
    try clear hcz6_0
    try clear hcz6_1
    try clear hcz6_10
    try clear hcz6_2
    try clear hcz6_3
    try clear hcz6_4
    try clear hcz6_5
    try clear hcz6_6
    try clear hcz6_7
    try clear hcz6_8
    try clear hcz6_9
    try clear hfz5_0
    try clear hfz5_1
    try clear hfz5_10
    try clear hfz5_2
    try clear hfz5_3
    try clear hfz5_4
    try clear hfz5_5
    try clear hfz5_6
    try clear hfz5_7
    try clear hfz5_8
    try clear hfz5_9
    try clear hfz6_0
    try clear hfz6_1
    try clear hfz6_10
    try clear hfz6_2
    try clear hfz6_3
    try clear hfz6_4
    try clear hfz6_5
    try clear hfz6_6
    try clear hfz6_7
    try clear hfz6_8
    try clear hfz6_9
    obtain ⟨kq, x3_1, rfl, HA, HJ1, BK152, HB⟩ := hcut
    cases kq with
    | zero => exact absurd HA.out (by simp [events_May.j0])
    | succ kj1 =>
      have H := HA.out
      clear HA
      simp only [events_May.j0] at H
      replace H := Option.bind_eq_some_iff.mp H
      obtain ⟨t153, A70, H⟩ := H
      replace H : (if t153 < 3 then (if a0_4 = 0 then (if t153 < 2 then (if a0_3 = 0 then (if t153 < 1 then (events_May.j1 kj1 x3_1 (a0_2 != 0) a0_0 a0_1 a0_2 a0_3 a0_4 a0_5 a0_6 a0_7 a0_8 a0_9 a0_10) else (events_May.j1 kj1 x3_1 false a0_0 a0_1 a0_2 a0_3 a0_4 a0_5 a0_6 a0_7 a0_8 a0_9 a0_10)) else (events_May.j1 kj1 x3_1 true a0_0 a0_1 a0_2 a0_3 a0_4 a0_5 a0_6 a0_7 a0_8 a0_9 a0_10)) else (if t153 < 1 then (events_May.j1 kj1 x3_1 (a0_2 != 0) a0_0 a0_1 a0_2 a0_3 a0_4 a0_5 a0_6 a0_7 a0_8 a0_9 a0_10) else (events_May.j1 kj1 x3_1 false a0_0 a0_1 a0_2 a0_3 a0_4 a0_5 a0_6 a0_7 a0_8 a0_9 a0_10))) else (events_May.j1 kj1 x3_1 true a0_0 a0_1 a0_2 a0_3 a0_4 a0_5 a0_6 a0_7 a0_8 a0_9 a0_10)) else (if t153 < 2 then (if a0_3 = 0 then (if t153 < 1 then (events_May.j1 kj1 x3_1 (a0_2 != 0) a0_0 a0_1 a0_2 a0_3 a0_4 a0_5 a0_6 a0_7 a0_8 a0_9 a0_10) else (events_May.j1 kj1 x3_1 false a0_0 a0_1 a0_2 a0_3 a0_4 a0_5 a0_6 a0_7 a0_8 a0_9 a0_10)) else (events_May.j1 kj1 x3_1 true a0_0 a0_1 a0_2 a0_3 a0_4 a0_5 a0_6 a0_7 a0_8 a0_9 a0_10)) else (if t153 < 1 then (events_May.j1 kj1 x3_1 (a0_2 != 0) a0_0 a0_1 a0_2 a0_3 a0_4 a0_5 a0_6 a0_7 a0_8 a0_9 a0_10) else (events_May.j1 kj1 x3_1 false a0_0 a0_1 a0_2 a0_3 a0_4 a0_5 a0_6 a0_7 a0_8 a0_9 a0_10)))) = some r := H
      have A7 := Aside0.mk A70
      clear A70
      have HC8 := Aside0.mk H
      clear H
      have hcz9_0 : wc.cell? ⟨gb152, 0, none⟩ = some (.int .u8 a0_0) := (blk_cell BK152.out 0).trans rfl
      have hcz9_1 : wc.cell? ⟨gb152, 1, none⟩ = some (.int .u8 a0_1) := (blk_cell BK152.out 1).trans rfl
      have hcz9_2 : wc.cell? ⟨gb152, 2, none⟩ = some (.int .u8 a0_2) := (blk_cell BK152.out 2).trans rfl
      have hcz9_3 : wc.cell? ⟨gb152, 3, none⟩ = some (.int .u8 a0_3) := (blk_cell BK152.out 3).trans rfl
      have hcz9_4 : wc.cell? ⟨gb152, 4, none⟩ = some (.int .u8 a0_4) := (blk_cell BK152.out 4).trans rfl
      have hcz9_5 : wc.cell? ⟨gb152, 5, none⟩ = some (.int .i64 a0_5) := (blk_cell BK152.out 5).trans rfl
      have hcz9_6 : wc.cell? ⟨gb152, 6, none⟩ = some (.int .i64 a0_6) := (blk_cell BK152.out 6).trans rfl
      have hcz9_7 : wc.cell? ⟨gb152, 7, none⟩ = some (.int .u64 a0_7) := (blk_cell BK152.out 7).trans rfl
      have hcz9_8 : wc.cell? ⟨gb152, 8, none⟩ = some (.int .i64 a0_8) := (blk_cell BK152.out 8).trans rfl
      have hcz9_9 : wc.cell? ⟨gb152, 9, none⟩ = some (.int .i64 a0_9) := (blk_cell BK152.out 9).trans rfl
      have hcz9_10 : wc.cell? ⟨gb152, 10, none⟩ = some (.int .i64 a0_10) := (blk_cell BK152.out 10).trans rfl
      have hfz9_0 := blk_frozen BK152.out 0
      have hfz9_1 := blk_frozen BK152.out 1
      have hfz9_2 := blk_frozen BK152.out 2
      have hfz9_3 := blk_frozen BK152.out 3
      have hfz9_4 := blk_frozen BK152.out 4
      have hfz9_5 := blk_frozen BK152.out 5
      have hfz9_6 := blk_frozen BK152.out 6
      have hfz9_7 := blk_frozen BK152.out 7
      have hfz9_8 := blk_frozen BK152.out 8
      have hfz9_9 := blk_frozen BK152.out 9
      have hfz9_10 := blk_frozen BK152.out 10
      go_upto_region 3 with (first | ((with_reducible refine gate_callee (f := 82) rfl ?_); refine goesL_ (some 18) rfl rfl Try.func82 (by kernel_rfl) rfl #[.int .u8 a0_1] rfl (by (try simp only [List.map_toArray, List.map_cons, List.map_nil]); first | done | rfl | (simp only [List.length_drop, List.length_take]; rfl)) ?_; (with_reducible refine (script_Args.calls kj1 a0_1 t153 _ A7.out).mono ?_); rintro e w' ⟨rfl, ⟨nd, rfl⟩⟩; refine ⟨_, rfl, ?_⟩))
      (try simp only [Act.put, List.setIfInBounds_toArray, List.set_cons_zero, List.set_cons_succ])
      go_cut [5] (fun v5 wc => ∃ (kq : Nat) (x5_7 : Bool), v5 = .bool x5_7 ∧ Aside0 (events_May.j1 kq x3_1 x5_7 a0_0 a0_1 a0_2 a0_3 a0_4 a0_5 a0_6 a0_7 a0_8 a0_9 a0_10 = some r) ∧ Aside0 (kq ≤ kj1) ∧ Aside0 (wc.heap[gb152]? = some (.cells #[.int .u8 a0_0, .int .u8 a0_1, .int .u8 a0_2, .int .u8 a0_3, .int .u8 a0_4, .int .i64 a0_5, .int .i64 a0_6, .int .u64 a0_7, .int .i64 a0_8, .int .i64 a0_9, .int .i64 a0_10] 72 (0, 0))) ∧ Aside0 (Below w.heap.size w wc))
      case first =>
        have H := HC8.out
        clear HC8
        by_cases c10 : t153 < 3
        · rw [if_pos c10] at H
          have c10b0 : decide (t153 < 3) = true := decide_eq_true c10
          clear c10
          (first | rw [c10b0] | (simp only [i64_w, i32_w]; rw [c10b0]) | skip)
          by_cases c11 : a0_4 = 0
          · rw [if_pos c11] at H
            have c11b0 : (a0_4 == 0) = true := beq_iff_eq.mpr c11
            have c11b1 : (a0_4 != 0) = false := bne_eq_false_iff_eq.mpr c11
            clear c11
            by_cases c12 : t153 < 2
            · rw [if_pos c12] at H
              have c12b0 : decide (t153 < 2) = true := decide_eq_true c12
              clear c12
              by_cases c13 : a0_3 = 0
              · rw [if_pos c13] at H
                have c13b0 : (a0_3 == 0) = true := beq_iff_eq.mpr c13
                have c13b1 : (a0_3 != 0) = false := bne_eq_false_iff_eq.mpr c13
                clear c13
                by_cases c14 : t153 < 1
                · rw [if_pos c14] at H
                  have c14b0 : decide (t153 < 1) = true := decide_eq_true c14
                  clear c14
                  have H' := Aside0.mk H
                  clear H
                  have hcz15_0 : wc.cell? ⟨gb152, 0, none⟩ = some (.int .u8 a0_0) := (blk_cell BK152.out 0).trans rfl
                  have hcz15_1 : wc.cell? ⟨gb152, 1, none⟩ = some (.int .u8 a0_1) := (blk_cell BK152.out 1).trans rfl
                  have hcz15_2 : wc.cell? ⟨gb152, 2, none⟩ = some (.int .u8 a0_2) := (blk_cell BK152.out 2).trans rfl
                  have hcz15_3 : wc.cell? ⟨gb152, 3, none⟩ = some (.int .u8 a0_3) := (blk_cell BK152.out 3).trans rfl
                  have hcz15_4 : wc.cell? ⟨gb152, 4, none⟩ = some (.int .u8 a0_4) := (blk_cell BK152.out 4).trans rfl
                  have hcz15_5 : wc.cell? ⟨gb152, 5, none⟩ = some (.int .i64 a0_5) := (blk_cell BK152.out 5).trans rfl
                  have hcz15_6 : wc.cell? ⟨gb152, 6, none⟩ = some (.int .i64 a0_6) := (blk_cell BK152.out 6).trans rfl
                  have hcz15_7 : wc.cell? ⟨gb152, 7, none⟩ = some (.int .u64 a0_7) := (blk_cell BK152.out 7).trans rfl
                  have hcz15_8 : wc.cell? ⟨gb152, 8, none⟩ = some (.int .i64 a0_8) := (blk_cell BK152.out 8).trans rfl
                  have hcz15_9 : wc.cell? ⟨gb152, 9, none⟩ = some (.int .i64 a0_9) := (blk_cell BK152.out 9).trans rfl
                  have hcz15_10 : wc.cell? ⟨gb152, 10, none⟩ = some (.int .i64 a0_10) := (blk_cell BK152.out 10).trans rfl
                  have hfz15_0 := blk_frozen BK152.out 0
                  have hfz15_1 := blk_frozen BK152.out 1
                  have hfz15_2 := blk_frozen BK152.out 2
                  have hfz15_3 := blk_frozen BK152.out 3
                  have hfz15_4 := blk_frozen BK152.out 4
                  have hfz15_5 := blk_frozen BK152.out 5
                  have hfz15_6 := blk_frozen BK152.out 6
                  have hfz15_7 := blk_frozen BK152.out 7
                  have hfz15_8 := blk_frozen BK152.out 8
                  have hfz15_9 := blk_frozen BK152.out 9
                  have hfz15_10 := blk_frozen BK152.out 10
                  go_wp2
                  go_meet
                  case rel => exact ⟨_, ((a0_2 != 0)), (by first | rfl | (simp; done) | (simp [*]; done)), H', ⟨by have := HJ1.out; first | omega | exact Nat.le_refl _⟩, ⟨by (with_reducible repeat (first | refine blk_drewN ?_ _ | refine blk_drew ?_ | refine blk_alloc ?_ _)); exact BK152.out⟩, ⟨by repeat (first | (with_reducible first | exact HB.out | apply below_alloc | apply pw_below_drewN | apply below_drew1 | refine below_set ?_ GE152.out) | exact HB.out)⟩⟩
                · rw [if_neg c14] at H
                  have c14b0 : decide (t153 < 1) = false := decide_eq_false c14
                  clear c14
                  have H' := Aside0.mk H
                  clear H
                  have hcz16_0 : wc.cell? ⟨gb152, 0, none⟩ = some (.int .u8 a0_0) := (blk_cell BK152.out 0).trans rfl
                  have hcz16_1 : wc.cell? ⟨gb152, 1, none⟩ = some (.int .u8 a0_1) := (blk_cell BK152.out 1).trans rfl
                  have hcz16_2 : wc.cell? ⟨gb152, 2, none⟩ = some (.int .u8 a0_2) := (blk_cell BK152.out 2).trans rfl
                  have hcz16_3 : wc.cell? ⟨gb152, 3, none⟩ = some (.int .u8 a0_3) := (blk_cell BK152.out 3).trans rfl
                  have hcz16_4 : wc.cell? ⟨gb152, 4, none⟩ = some (.int .u8 a0_4) := (blk_cell BK152.out 4).trans rfl
                  have hcz16_5 : wc.cell? ⟨gb152, 5, none⟩ = some (.int .i64 a0_5) := (blk_cell BK152.out 5).trans rfl
                  have hcz16_6 : wc.cell? ⟨gb152, 6, none⟩ = some (.int .i64 a0_6) := (blk_cell BK152.out 6).trans rfl
                  have hcz16_7 : wc.cell? ⟨gb152, 7, none⟩ = some (.int .u64 a0_7) := (blk_cell BK152.out 7).trans rfl
                  have hcz16_8 : wc.cell? ⟨gb152, 8, none⟩ = some (.int .i64 a0_8) := (blk_cell BK152.out 8).trans rfl
                  have hcz16_9 : wc.cell? ⟨gb152, 9, none⟩ = some (.int .i64 a0_9) := (blk_cell BK152.out 9).trans rfl
                  have hcz16_10 : wc.cell? ⟨gb152, 10, none⟩ = some (.int .i64 a0_10) := (blk_cell BK152.out 10).trans rfl
                  have hfz16_0 := blk_frozen BK152.out 0
                  have hfz16_1 := blk_frozen BK152.out 1
                  have hfz16_2 := blk_frozen BK152.out 2
                  have hfz16_3 := blk_frozen BK152.out 3
                  have hfz16_4 := blk_frozen BK152.out 4
                  have hfz16_5 := blk_frozen BK152.out 5
                  have hfz16_6 := blk_frozen BK152.out 6
                  have hfz16_7 := blk_frozen BK152.out 7
                  have hfz16_8 := blk_frozen BK152.out 8
                  have hfz16_9 := blk_frozen BK152.out 9
                  have hfz16_10 := blk_frozen BK152.out 10
                  go_wp2
                  go_meet
                  case rel => exact ⟨_, (false), (by first | rfl | (simp; done) | (simp [*]; done)), H', ⟨by have := HJ1.out; first | omega | exact Nat.le_refl _⟩, ⟨by (with_reducible repeat (first | refine blk_drewN ?_ _ | refine blk_drew ?_ | refine blk_alloc ?_ _)); exact BK152.out⟩, ⟨by repeat (first | (with_reducible first | exact HB.out | apply below_alloc | apply pw_below_drewN | apply below_drew1 | refine below_set ?_ GE152.out) | exact HB.out)⟩⟩
              · rw [if_neg c13] at H
                have c13b0 : (a0_3 == 0) = false := beq_eq_false_iff_ne.mpr c13
                have c13b1 : (a0_3 != 0) = true := bne_iff_ne.mpr c13
                have H' := Aside0.mk H
                clear H
                have hcz17_0 : wc.cell? ⟨gb152, 0, none⟩ = some (.int .u8 a0_0) := (blk_cell BK152.out 0).trans rfl
                have hcz17_1 : wc.cell? ⟨gb152, 1, none⟩ = some (.int .u8 a0_1) := (blk_cell BK152.out 1).trans rfl
                have hcz17_2 : wc.cell? ⟨gb152, 2, none⟩ = some (.int .u8 a0_2) := (blk_cell BK152.out 2).trans rfl
                have hcz17_3 : wc.cell? ⟨gb152, 3, none⟩ = some (.int .u8 a0_3) := (blk_cell BK152.out 3).trans rfl
                have hcz17_4 : wc.cell? ⟨gb152, 4, none⟩ = some (.int .u8 a0_4) := (blk_cell BK152.out 4).trans rfl
                have hcz17_5 : wc.cell? ⟨gb152, 5, none⟩ = some (.int .i64 a0_5) := (blk_cell BK152.out 5).trans rfl
                have hcz17_6 : wc.cell? ⟨gb152, 6, none⟩ = some (.int .i64 a0_6) := (blk_cell BK152.out 6).trans rfl
                have hcz17_7 : wc.cell? ⟨gb152, 7, none⟩ = some (.int .u64 a0_7) := (blk_cell BK152.out 7).trans rfl
                have hcz17_8 : wc.cell? ⟨gb152, 8, none⟩ = some (.int .i64 a0_8) := (blk_cell BK152.out 8).trans rfl
                have hcz17_9 : wc.cell? ⟨gb152, 9, none⟩ = some (.int .i64 a0_9) := (blk_cell BK152.out 9).trans rfl
                have hcz17_10 : wc.cell? ⟨gb152, 10, none⟩ = some (.int .i64 a0_10) := (blk_cell BK152.out 10).trans rfl
                have hfz17_0 := blk_frozen BK152.out 0
                have hfz17_1 := blk_frozen BK152.out 1
                have hfz17_2 := blk_frozen BK152.out 2
                have hfz17_3 := blk_frozen BK152.out 3
                have hfz17_4 := blk_frozen BK152.out 4
                have hfz17_5 := blk_frozen BK152.out 5
                have hfz17_6 := blk_frozen BK152.out 6
                have hfz17_7 := blk_frozen BK152.out 7
                have hfz17_8 := blk_frozen BK152.out 8
                have hfz17_9 := blk_frozen BK152.out 9
                have hfz17_10 := blk_frozen BK152.out 10
                go_wp2
                go_meet
                case rel => exact ⟨_, (true), (by first | rfl | (simp; done) | (simp [*]; done)), H', ⟨by have := HJ1.out; first | omega | exact Nat.le_refl _⟩, ⟨by (with_reducible repeat (first | refine blk_drewN ?_ _ | refine blk_drew ?_ | refine blk_alloc ?_ _)); exact BK152.out⟩, ⟨by repeat (first | (with_reducible first | exact HB.out | apply below_alloc | apply pw_below_drewN | apply below_drew1 | refine below_set ?_ GE152.out) | exact HB.out)⟩⟩
            · rw [if_neg c12] at H
              have c12b0 : decide (t153 < 2) = false := decide_eq_false c12
              clear c12
              by_cases c18 : t153 < 1
              · rw [if_pos c18] at H
                have c18b0 : decide (t153 < 1) = true := decide_eq_true c18
                clear c18
                have H' := Aside0.mk H
                clear H
                have hcz19_0 : wc.cell? ⟨gb152, 0, none⟩ = some (.int .u8 a0_0) := (blk_cell BK152.out 0).trans rfl
                have hcz19_1 : wc.cell? ⟨gb152, 1, none⟩ = some (.int .u8 a0_1) := (blk_cell BK152.out 1).trans rfl
                have hcz19_2 : wc.cell? ⟨gb152, 2, none⟩ = some (.int .u8 a0_2) := (blk_cell BK152.out 2).trans rfl
                have hcz19_3 : wc.cell? ⟨gb152, 3, none⟩ = some (.int .u8 a0_3) := (blk_cell BK152.out 3).trans rfl
                have hcz19_4 : wc.cell? ⟨gb152, 4, none⟩ = some (.int .u8 a0_4) := (blk_cell BK152.out 4).trans rfl
                have hcz19_5 : wc.cell? ⟨gb152, 5, none⟩ = some (.int .i64 a0_5) := (blk_cell BK152.out 5).trans rfl
                have hcz19_6 : wc.cell? ⟨gb152, 6, none⟩ = some (.int .i64 a0_6) := (blk_cell BK152.out 6).trans rfl
                have hcz19_7 : wc.cell? ⟨gb152, 7, none⟩ = some (.int .u64 a0_7) := (blk_cell BK152.out 7).trans rfl
                have hcz19_8 : wc.cell? ⟨gb152, 8, none⟩ = some (.int .i64 a0_8) := (blk_cell BK152.out 8).trans rfl
                have hcz19_9 : wc.cell? ⟨gb152, 9, none⟩ = some (.int .i64 a0_9) := (blk_cell BK152.out 9).trans rfl
                have hcz19_10 : wc.cell? ⟨gb152, 10, none⟩ = some (.int .i64 a0_10) := (blk_cell BK152.out 10).trans rfl
                have hfz19_0 := blk_frozen BK152.out 0
                have hfz19_1 := blk_frozen BK152.out 1
                have hfz19_2 := blk_frozen BK152.out 2
                have hfz19_3 := blk_frozen BK152.out 3
                have hfz19_4 := blk_frozen BK152.out 4
                have hfz19_5 := blk_frozen BK152.out 5
                have hfz19_6 := blk_frozen BK152.out 6
                have hfz19_7 := blk_frozen BK152.out 7
                have hfz19_8 := blk_frozen BK152.out 8
                have hfz19_9 := blk_frozen BK152.out 9
                have hfz19_10 := blk_frozen BK152.out 10
                go_wp2
                go_meet
                case rel => exact ⟨_, ((a0_2 != 0)), (by first | rfl | (simp; done) | (simp [*]; done)), H', ⟨by have := HJ1.out; first | omega | exact Nat.le_refl _⟩, ⟨by (with_reducible repeat (first | refine blk_drewN ?_ _ | refine blk_drew ?_ | refine blk_alloc ?_ _)); exact BK152.out⟩, ⟨by repeat (first | (with_reducible first | exact HB.out | apply below_alloc | apply pw_below_drewN | apply below_drew1 | refine below_set ?_ GE152.out) | exact HB.out)⟩⟩
              · rw [if_neg c18] at H
                have c18b0 : decide (t153 < 1) = false := decide_eq_false c18
                clear c18
                have H' := Aside0.mk H
                clear H
                have hcz20_0 : wc.cell? ⟨gb152, 0, none⟩ = some (.int .u8 a0_0) := (blk_cell BK152.out 0).trans rfl
                have hcz20_1 : wc.cell? ⟨gb152, 1, none⟩ = some (.int .u8 a0_1) := (blk_cell BK152.out 1).trans rfl
                have hcz20_2 : wc.cell? ⟨gb152, 2, none⟩ = some (.int .u8 a0_2) := (blk_cell BK152.out 2).trans rfl
                have hcz20_3 : wc.cell? ⟨gb152, 3, none⟩ = some (.int .u8 a0_3) := (blk_cell BK152.out 3).trans rfl
                have hcz20_4 : wc.cell? ⟨gb152, 4, none⟩ = some (.int .u8 a0_4) := (blk_cell BK152.out 4).trans rfl
                have hcz20_5 : wc.cell? ⟨gb152, 5, none⟩ = some (.int .i64 a0_5) := (blk_cell BK152.out 5).trans rfl
                have hcz20_6 : wc.cell? ⟨gb152, 6, none⟩ = some (.int .i64 a0_6) := (blk_cell BK152.out 6).trans rfl
                have hcz20_7 : wc.cell? ⟨gb152, 7, none⟩ = some (.int .u64 a0_7) := (blk_cell BK152.out 7).trans rfl
                have hcz20_8 : wc.cell? ⟨gb152, 8, none⟩ = some (.int .i64 a0_8) := (blk_cell BK152.out 8).trans rfl
                have hcz20_9 : wc.cell? ⟨gb152, 9, none⟩ = some (.int .i64 a0_9) := (blk_cell BK152.out 9).trans rfl
                have hcz20_10 : wc.cell? ⟨gb152, 10, none⟩ = some (.int .i64 a0_10) := (blk_cell BK152.out 10).trans rfl
                have hfz20_0 := blk_frozen BK152.out 0
                have hfz20_1 := blk_frozen BK152.out 1
                have hfz20_2 := blk_frozen BK152.out 2
                have hfz20_3 := blk_frozen BK152.out 3
                have hfz20_4 := blk_frozen BK152.out 4
                have hfz20_5 := blk_frozen BK152.out 5
                have hfz20_6 := blk_frozen BK152.out 6
                have hfz20_7 := blk_frozen BK152.out 7
                have hfz20_8 := blk_frozen BK152.out 8
                have hfz20_9 := blk_frozen BK152.out 9
                have hfz20_10 := blk_frozen BK152.out 10
                go_wp2
                go_meet
                case rel => exact ⟨_, (false), (by first | rfl | (simp; done) | (simp [*]; done)), H', ⟨by have := HJ1.out; first | omega | exact Nat.le_refl _⟩, ⟨by (with_reducible repeat (first | refine blk_drewN ?_ _ | refine blk_drew ?_ | refine blk_alloc ?_ _)); exact BK152.out⟩, ⟨by repeat (first | (with_reducible first | exact HB.out | apply below_alloc | apply pw_below_drewN | apply below_drew1 | refine below_set ?_ GE152.out) | exact HB.out)⟩⟩
          · rw [if_neg c11] at H
            have c11b0 : (a0_4 == 0) = false := beq_eq_false_iff_ne.mpr c11
            have c11b1 : (a0_4 != 0) = true := bne_iff_ne.mpr c11
            have H' := Aside0.mk H
            clear H
            have hcz21_0 : wc.cell? ⟨gb152, 0, none⟩ = some (.int .u8 a0_0) := (blk_cell BK152.out 0).trans rfl
            have hcz21_1 : wc.cell? ⟨gb152, 1, none⟩ = some (.int .u8 a0_1) := (blk_cell BK152.out 1).trans rfl
            have hcz21_2 : wc.cell? ⟨gb152, 2, none⟩ = some (.int .u8 a0_2) := (blk_cell BK152.out 2).trans rfl
            have hcz21_3 : wc.cell? ⟨gb152, 3, none⟩ = some (.int .u8 a0_3) := (blk_cell BK152.out 3).trans rfl
            have hcz21_4 : wc.cell? ⟨gb152, 4, none⟩ = some (.int .u8 a0_4) := (blk_cell BK152.out 4).trans rfl
            have hcz21_5 : wc.cell? ⟨gb152, 5, none⟩ = some (.int .i64 a0_5) := (blk_cell BK152.out 5).trans rfl
            have hcz21_6 : wc.cell? ⟨gb152, 6, none⟩ = some (.int .i64 a0_6) := (blk_cell BK152.out 6).trans rfl
            have hcz21_7 : wc.cell? ⟨gb152, 7, none⟩ = some (.int .u64 a0_7) := (blk_cell BK152.out 7).trans rfl
            have hcz21_8 : wc.cell? ⟨gb152, 8, none⟩ = some (.int .i64 a0_8) := (blk_cell BK152.out 8).trans rfl
            have hcz21_9 : wc.cell? ⟨gb152, 9, none⟩ = some (.int .i64 a0_9) := (blk_cell BK152.out 9).trans rfl
            have hcz21_10 : wc.cell? ⟨gb152, 10, none⟩ = some (.int .i64 a0_10) := (blk_cell BK152.out 10).trans rfl
            have hfz21_0 := blk_frozen BK152.out 0
            have hfz21_1 := blk_frozen BK152.out 1
            have hfz21_2 := blk_frozen BK152.out 2
            have hfz21_3 := blk_frozen BK152.out 3
            have hfz21_4 := blk_frozen BK152.out 4
            have hfz21_5 := blk_frozen BK152.out 5
            have hfz21_6 := blk_frozen BK152.out 6
            have hfz21_7 := blk_frozen BK152.out 7
            have hfz21_8 := blk_frozen BK152.out 8
            have hfz21_9 := blk_frozen BK152.out 9
            have hfz21_10 := blk_frozen BK152.out 10
            go_wp2
            go_meet
            case rel => exact ⟨_, (true), (by first | rfl | (simp; done) | (simp [*]; done)), H', ⟨by have := HJ1.out; first | omega | exact Nat.le_refl _⟩, ⟨by (with_reducible repeat (first | refine blk_drewN ?_ _ | refine blk_drew ?_ | refine blk_alloc ?_ _)); exact BK152.out⟩, ⟨by repeat (first | (with_reducible first | exact HB.out | apply below_alloc | apply pw_below_drewN | apply below_drew1 | refine below_set ?_ GE152.out) | exact HB.out)⟩⟩
        · rw [if_neg c10] at H
          have c10b0 : decide (t153 < 3) = false := decide_eq_false c10
          clear c10
          (first | rw [c10b0] | (simp only [i64_w, i32_w]; rw [c10b0]) | skip)
          by_cases c22 : t153 < 2
          · rw [if_pos c22] at H
            have c22b0 : decide (t153 < 2) = true := decide_eq_true c22
            clear c22
            by_cases c23 : a0_3 = 0
            · rw [if_pos c23] at H
              have c23b0 : (a0_3 == 0) = true := beq_iff_eq.mpr c23
              have c23b1 : (a0_3 != 0) = false := bne_eq_false_iff_eq.mpr c23
              clear c23
              by_cases c24 : t153 < 1
              · rw [if_pos c24] at H
                have c24b0 : decide (t153 < 1) = true := decide_eq_true c24
                clear c24
                have H' := Aside0.mk H
                clear H
                have hcz25_0 : wc.cell? ⟨gb152, 0, none⟩ = some (.int .u8 a0_0) := (blk_cell BK152.out 0).trans rfl
                have hcz25_1 : wc.cell? ⟨gb152, 1, none⟩ = some (.int .u8 a0_1) := (blk_cell BK152.out 1).trans rfl
                have hcz25_2 : wc.cell? ⟨gb152, 2, none⟩ = some (.int .u8 a0_2) := (blk_cell BK152.out 2).trans rfl
                have hcz25_3 : wc.cell? ⟨gb152, 3, none⟩ = some (.int .u8 a0_3) := (blk_cell BK152.out 3).trans rfl
                have hcz25_4 : wc.cell? ⟨gb152, 4, none⟩ = some (.int .u8 a0_4) := (blk_cell BK152.out 4).trans rfl
                have hcz25_5 : wc.cell? ⟨gb152, 5, none⟩ = some (.int .i64 a0_5) := (blk_cell BK152.out 5).trans rfl
                have hcz25_6 : wc.cell? ⟨gb152, 6, none⟩ = some (.int .i64 a0_6) := (blk_cell BK152.out 6).trans rfl
                have hcz25_7 : wc.cell? ⟨gb152, 7, none⟩ = some (.int .u64 a0_7) := (blk_cell BK152.out 7).trans rfl
                have hcz25_8 : wc.cell? ⟨gb152, 8, none⟩ = some (.int .i64 a0_8) := (blk_cell BK152.out 8).trans rfl
                have hcz25_9 : wc.cell? ⟨gb152, 9, none⟩ = some (.int .i64 a0_9) := (blk_cell BK152.out 9).trans rfl
                have hcz25_10 : wc.cell? ⟨gb152, 10, none⟩ = some (.int .i64 a0_10) := (blk_cell BK152.out 10).trans rfl
                have hfz25_0 := blk_frozen BK152.out 0
                have hfz25_1 := blk_frozen BK152.out 1
                have hfz25_2 := blk_frozen BK152.out 2
                have hfz25_3 := blk_frozen BK152.out 3
                have hfz25_4 := blk_frozen BK152.out 4
                have hfz25_5 := blk_frozen BK152.out 5
                have hfz25_6 := blk_frozen BK152.out 6
                have hfz25_7 := blk_frozen BK152.out 7
                have hfz25_8 := blk_frozen BK152.out 8
                have hfz25_9 := blk_frozen BK152.out 9
                have hfz25_10 := blk_frozen BK152.out 10
                go_wp2
                go_meet
                case rel => exact ⟨_, ((a0_2 != 0)), (by first | rfl | (simp; done) | (simp [*]; done)), H', ⟨by have := HJ1.out; first | omega | exact Nat.le_refl _⟩, ⟨by (with_reducible repeat (first | refine blk_drewN ?_ _ | refine blk_drew ?_ | refine blk_alloc ?_ _)); exact BK152.out⟩, ⟨by repeat (first | (with_reducible first | exact HB.out | apply below_alloc | apply pw_below_drewN | apply below_drew1 | refine below_set ?_ GE152.out) | exact HB.out)⟩⟩
              · rw [if_neg c24] at H
                have c24b0 : decide (t153 < 1) = false := decide_eq_false c24
                clear c24
                have H' := Aside0.mk H
                clear H
                have hcz26_0 : wc.cell? ⟨gb152, 0, none⟩ = some (.int .u8 a0_0) := (blk_cell BK152.out 0).trans rfl
                have hcz26_1 : wc.cell? ⟨gb152, 1, none⟩ = some (.int .u8 a0_1) := (blk_cell BK152.out 1).trans rfl
                have hcz26_2 : wc.cell? ⟨gb152, 2, none⟩ = some (.int .u8 a0_2) := (blk_cell BK152.out 2).trans rfl
                have hcz26_3 : wc.cell? ⟨gb152, 3, none⟩ = some (.int .u8 a0_3) := (blk_cell BK152.out 3).trans rfl
                have hcz26_4 : wc.cell? ⟨gb152, 4, none⟩ = some (.int .u8 a0_4) := (blk_cell BK152.out 4).trans rfl
                have hcz26_5 : wc.cell? ⟨gb152, 5, none⟩ = some (.int .i64 a0_5) := (blk_cell BK152.out 5).trans rfl
                have hcz26_6 : wc.cell? ⟨gb152, 6, none⟩ = some (.int .i64 a0_6) := (blk_cell BK152.out 6).trans rfl
                have hcz26_7 : wc.cell? ⟨gb152, 7, none⟩ = some (.int .u64 a0_7) := (blk_cell BK152.out 7).trans rfl
                have hcz26_8 : wc.cell? ⟨gb152, 8, none⟩ = some (.int .i64 a0_8) := (blk_cell BK152.out 8).trans rfl
                have hcz26_9 : wc.cell? ⟨gb152, 9, none⟩ = some (.int .i64 a0_9) := (blk_cell BK152.out 9).trans rfl
                have hcz26_10 : wc.cell? ⟨gb152, 10, none⟩ = some (.int .i64 a0_10) := (blk_cell BK152.out 10).trans rfl
                have hfz26_0 := blk_frozen BK152.out 0
                have hfz26_1 := blk_frozen BK152.out 1
                have hfz26_2 := blk_frozen BK152.out 2
                have hfz26_3 := blk_frozen BK152.out 3
                have hfz26_4 := blk_frozen BK152.out 4
                have hfz26_5 := blk_frozen BK152.out 5
                have hfz26_6 := blk_frozen BK152.out 6
                have hfz26_7 := blk_frozen BK152.out 7
                have hfz26_8 := blk_frozen BK152.out 8
                have hfz26_9 := blk_frozen BK152.out 9
                have hfz26_10 := blk_frozen BK152.out 10
                go_wp2
                go_meet
                case rel => exact ⟨_, (false), (by first | rfl | (simp; done) | (simp [*]; done)), H', ⟨by have := HJ1.out; first | omega | exact Nat.le_refl _⟩, ⟨by (with_reducible repeat (first | refine blk_drewN ?_ _ | refine blk_drew ?_ | refine blk_alloc ?_ _)); exact BK152.out⟩, ⟨by repeat (first | (with_reducible first | exact HB.out | apply below_alloc | apply pw_below_drewN | apply below_drew1 | refine below_set ?_ GE152.out) | exact HB.out)⟩⟩
            · rw [if_neg c23] at H
              have c23b0 : (a0_3 == 0) = false := beq_eq_false_iff_ne.mpr c23
              have c23b1 : (a0_3 != 0) = true := bne_iff_ne.mpr c23
              have H' := Aside0.mk H
              clear H
              have hcz27_0 : wc.cell? ⟨gb152, 0, none⟩ = some (.int .u8 a0_0) := (blk_cell BK152.out 0).trans rfl
              have hcz27_1 : wc.cell? ⟨gb152, 1, none⟩ = some (.int .u8 a0_1) := (blk_cell BK152.out 1).trans rfl
              have hcz27_2 : wc.cell? ⟨gb152, 2, none⟩ = some (.int .u8 a0_2) := (blk_cell BK152.out 2).trans rfl
              have hcz27_3 : wc.cell? ⟨gb152, 3, none⟩ = some (.int .u8 a0_3) := (blk_cell BK152.out 3).trans rfl
              have hcz27_4 : wc.cell? ⟨gb152, 4, none⟩ = some (.int .u8 a0_4) := (blk_cell BK152.out 4).trans rfl
              have hcz27_5 : wc.cell? ⟨gb152, 5, none⟩ = some (.int .i64 a0_5) := (blk_cell BK152.out 5).trans rfl
              have hcz27_6 : wc.cell? ⟨gb152, 6, none⟩ = some (.int .i64 a0_6) := (blk_cell BK152.out 6).trans rfl
              have hcz27_7 : wc.cell? ⟨gb152, 7, none⟩ = some (.int .u64 a0_7) := (blk_cell BK152.out 7).trans rfl
              have hcz27_8 : wc.cell? ⟨gb152, 8, none⟩ = some (.int .i64 a0_8) := (blk_cell BK152.out 8).trans rfl
              have hcz27_9 : wc.cell? ⟨gb152, 9, none⟩ = some (.int .i64 a0_9) := (blk_cell BK152.out 9).trans rfl
              have hcz27_10 : wc.cell? ⟨gb152, 10, none⟩ = some (.int .i64 a0_10) := (blk_cell BK152.out 10).trans rfl
              have hfz27_0 := blk_frozen BK152.out 0
              have hfz27_1 := blk_frozen BK152.out 1
              have hfz27_2 := blk_frozen BK152.out 2
              have hfz27_3 := blk_frozen BK152.out 3
              have hfz27_4 := blk_frozen BK152.out 4
              have hfz27_5 := blk_frozen BK152.out 5
              have hfz27_6 := blk_frozen BK152.out 6
              have hfz27_7 := blk_frozen BK152.out 7
              have hfz27_8 := blk_frozen BK152.out 8
              have hfz27_9 := blk_frozen BK152.out 9
              have hfz27_10 := blk_frozen BK152.out 10
              go_wp2
              go_meet
              case rel => exact ⟨_, (true), (by first | rfl | (simp; done) | (simp [*]; done)), H', ⟨by have := HJ1.out; first | omega | exact Nat.le_refl _⟩, ⟨by (with_reducible repeat (first | refine blk_drewN ?_ _ | refine blk_drew ?_ | refine blk_alloc ?_ _)); exact BK152.out⟩, ⟨by repeat (first | (with_reducible first | exact HB.out | apply below_alloc | apply pw_below_drewN | apply below_drew1 | refine below_set ?_ GE152.out) | exact HB.out)⟩⟩
          · rw [if_neg c22] at H
            have c22b0 : decide (t153 < 2) = false := decide_eq_false c22
            clear c22
            by_cases c28 : t153 < 1
            · rw [if_pos c28] at H
              have c28b0 : decide (t153 < 1) = true := decide_eq_true c28
              clear c28
              have H' := Aside0.mk H
              clear H
              have hcz29_0 : wc.cell? ⟨gb152, 0, none⟩ = some (.int .u8 a0_0) := (blk_cell BK152.out 0).trans rfl
              have hcz29_1 : wc.cell? ⟨gb152, 1, none⟩ = some (.int .u8 a0_1) := (blk_cell BK152.out 1).trans rfl
              have hcz29_2 : wc.cell? ⟨gb152, 2, none⟩ = some (.int .u8 a0_2) := (blk_cell BK152.out 2).trans rfl
              have hcz29_3 : wc.cell? ⟨gb152, 3, none⟩ = some (.int .u8 a0_3) := (blk_cell BK152.out 3).trans rfl
              have hcz29_4 : wc.cell? ⟨gb152, 4, none⟩ = some (.int .u8 a0_4) := (blk_cell BK152.out 4).trans rfl
              have hcz29_5 : wc.cell? ⟨gb152, 5, none⟩ = some (.int .i64 a0_5) := (blk_cell BK152.out 5).trans rfl
              have hcz29_6 : wc.cell? ⟨gb152, 6, none⟩ = some (.int .i64 a0_6) := (blk_cell BK152.out 6).trans rfl
              have hcz29_7 : wc.cell? ⟨gb152, 7, none⟩ = some (.int .u64 a0_7) := (blk_cell BK152.out 7).trans rfl
              have hcz29_8 : wc.cell? ⟨gb152, 8, none⟩ = some (.int .i64 a0_8) := (blk_cell BK152.out 8).trans rfl
              have hcz29_9 : wc.cell? ⟨gb152, 9, none⟩ = some (.int .i64 a0_9) := (blk_cell BK152.out 9).trans rfl
              have hcz29_10 : wc.cell? ⟨gb152, 10, none⟩ = some (.int .i64 a0_10) := (blk_cell BK152.out 10).trans rfl
              have hfz29_0 := blk_frozen BK152.out 0
              have hfz29_1 := blk_frozen BK152.out 1
              have hfz29_2 := blk_frozen BK152.out 2
              have hfz29_3 := blk_frozen BK152.out 3
              have hfz29_4 := blk_frozen BK152.out 4
              have hfz29_5 := blk_frozen BK152.out 5
              have hfz29_6 := blk_frozen BK152.out 6
              have hfz29_7 := blk_frozen BK152.out 7
              have hfz29_8 := blk_frozen BK152.out 8
              have hfz29_9 := blk_frozen BK152.out 9
              have hfz29_10 := blk_frozen BK152.out 10
              go_wp2
              go_meet
              case rel => exact ⟨_, ((a0_2 != 0)), (by first | rfl | (simp; done) | (simp [*]; done)), H', ⟨by have := HJ1.out; first | omega | exact Nat.le_refl _⟩, ⟨by (with_reducible repeat (first | refine blk_drewN ?_ _ | refine blk_drew ?_ | refine blk_alloc ?_ _)); exact BK152.out⟩, ⟨by repeat (first | (with_reducible first | exact HB.out | apply below_alloc | apply pw_below_drewN | apply below_drew1 | refine below_set ?_ GE152.out) | exact HB.out)⟩⟩
            · rw [if_neg c28] at H
              have c28b0 : decide (t153 < 1) = false := decide_eq_false c28
              clear c28
              have H' := Aside0.mk H
              clear H
              go_wp2
              go_meet
              case rel => exact ⟨_, (false), (by first | rfl | (simp; done) | (simp [*]; done)), H', ⟨by have := HJ1.out; first | omega | exact Nat.le_refl _⟩, ⟨by (with_reducible repeat (first | refine blk_drewN ?_ _ | refine blk_drew ?_ | refine blk_alloc ?_ _)); exact BK152.out⟩, ⟨by repeat (first | (with_reducible first | exact HB.out | apply below_alloc | apply pw_below_drewN | apply below_drew1 | refine below_set ?_ GE152.out) | exact HB.out)⟩⟩
      case rest =>
        clear HC8
        try clear c1
        try clear c2
        try clear p2
        try clear c4
        try clear c4b0
        try clear c4b1
        try clear c8
        try clear c10
        try clear c10b0
        try clear c11
        try clear c11b0
        try clear c11b1
        try clear c12
        try clear c12b0
        try clear c13
        try clear c13b0
        try clear c13b1
        try clear c14
        try clear c14b0
        try clear c18
        try clear c18b0
        try clear c22
        try clear c22b0
        try clear c23
        try clear c23b0
        try clear c23b1
        try clear c24
        try clear c24b0
        try clear c28
        try clear c28b0
        try clear hcz15_0
        try clear hcz15_1
        try clear hcz15_10
        try clear hcz15_2
        try clear hcz15_3
        try clear hcz15_4
        try clear hcz15_5
        try clear hcz15_6
        try clear hcz15_7
        try clear hcz15_8
        try clear hcz15_9
        try clear hcz16_0
        try clear hcz16_1
        try clear hcz16_10
        try clear hcz16_2
        try clear hcz16_3
        try clear hcz16_4
        try clear hcz16_5
        try clear hcz16_6
        try clear hcz16_7
        try clear hcz16_8
        try clear hcz16_9
        try clear hcz17_0
        try clear hcz17_1
        try clear hcz17_10
        try clear hcz17_2
        try clear hcz17_3
        try clear hcz17_4
        try clear hcz17_5
        try clear hcz17_6
        try clear hcz17_7
        try clear hcz17_8
        try clear hcz17_9
        try clear hcz19_0
        try clear hcz19_1
        try clear hcz19_10
        try clear hcz19_2
        try clear hcz19_3
        try clear hcz19_4
        try clear hcz19_5
        try clear hcz19_6
        try clear hcz19_7
        try clear hcz19_8
        try clear hcz19_9
        try clear hcz20_0
        try clear hcz20_1
        try clear hcz20_10
        try clear hcz20_2
        try clear hcz20_3
        try clear hcz20_4
        try clear hcz20_5
        try clear hcz20_6
        try clear hcz20_7
        try clear hcz20_8
        try clear hcz20_9
        try clear hcz21_0
        try clear hcz21_1
        try clear hcz21_10
        try clear hcz21_2
        try clear hcz21_3
        try clear hcz21_4
        try clear hcz21_5
        try clear hcz21_6
        try clear hcz21_7
        try clear hcz21_8
        try clear hcz21_9
        try clear hcz25_0
        try clear hcz25_1
        try clear hcz25_10
        try clear hcz25_2
        try clear hcz25_3
        try clear hcz25_4
        try clear hcz25_5
        try clear hcz25_6
        try clear hcz25_7
        try clear hcz25_8
        try clear hcz25_9
        try clear hcz26_0
        try clear hcz26_1
        try clear hcz26_10
        try clear hcz26_2
        try clear hcz26_3
        try clear hcz26_4
        try clear hcz26_5
        try clear hcz26_6
        try clear hcz26_7
        try clear hcz26_8
        try clear hcz26_9
        try clear hcz27_0
        try clear hcz27_1
        try clear hcz27_10
        try clear hcz27_2
        try clear hcz27_3
        try clear hcz27_4
        try clear hcz27_5
        try clear hcz27_6
        try clear hcz27_7
        try clear hcz27_8
        try clear hcz27_9
        try clear hcz29_0
        try clear hcz29_1
        try clear hcz29_10
        try clear hcz29_2
        try clear hcz29_3
        try clear hcz29_4
        try clear hcz29_5
        try clear hcz29_6
        try clear hcz29_7
        try clear hcz29_8
        try clear hcz29_9
        try clear hcz5_0
        try clear hcz5_1
        try clear hcz5_10
        try clear hcz5_2
        try clear hcz5_3
        try clear hcz5_4
        try clear hcz5_5
        try clear hcz5_6
        try clear hcz5_7
        try clear hcz5_8
        try clear hcz5_9
        try clear hcz6_0
        try clear hcz6_1
        try clear hcz6_10
        try clear hcz6_2
        try clear hcz6_3
        try clear hcz6_4
        try clear hcz6_5
        try clear hcz6_6
        try clear hcz6_7
        try clear hcz6_8
        try clear hcz6_9
        try clear hcz9_0
        try clear hcz9_1
        try clear hcz9_10
        try clear hcz9_2
        try clear hcz9_3
        try clear hcz9_4
        try clear hcz9_5
        try clear hcz9_6
        try clear hcz9_7
        try clear hcz9_8
        try clear hcz9_9
        try clear hfz15_0
        try clear hfz15_1
        try clear hfz15_10
        try clear hfz15_2
        try clear hfz15_3
        try clear hfz15_4
        try clear hfz15_5
        try clear hfz15_6
        try clear hfz15_7
        try clear hfz15_8
        try clear hfz15_9
        try clear hfz16_0
        try clear hfz16_1
        try clear hfz16_10
        try clear hfz16_2
        try clear hfz16_3
        try clear hfz16_4
        try clear hfz16_5
        try clear hfz16_6
        try clear hfz16_7
        try clear hfz16_8
        try clear hfz16_9
        try clear hfz17_0
        try clear hfz17_1
        try clear hfz17_10
        try clear hfz17_2
        try clear hfz17_3
        try clear hfz17_4
        try clear hfz17_5
        try clear hfz17_6
        try clear hfz17_7
        try clear hfz17_8
        try clear hfz17_9
        try clear hfz19_0
        try clear hfz19_1
        try clear hfz19_10
        try clear hfz19_2
        try clear hfz19_3
        try clear hfz19_4
        try clear hfz19_5
        try clear hfz19_6
        try clear hfz19_7
        try clear hfz19_8
        try clear hfz19_9
        try clear hfz20_0
        try clear hfz20_1
        try clear hfz20_10
        try clear hfz20_2
        try clear hfz20_3
        try clear hfz20_4
        try clear hfz20_5
        try clear hfz20_6
        try clear hfz20_7
        try clear hfz20_8
        try clear hfz20_9
        try clear hfz21_0
        try clear hfz21_1
        try clear hfz21_10
        try clear hfz21_2
        try clear hfz21_3
        try clear hfz21_4
        try clear hfz21_5
        try clear hfz21_6
        try clear hfz21_7
        try clear hfz21_8
        try clear hfz21_9
        try clear hfz25_0
        try clear hfz25_1
        try clear hfz25_10
        try clear hfz25_2
        try clear hfz25_3
        try clear hfz25_4
        try clear hfz25_5
        try clear hfz25_6
        try clear hfz25_7
        try clear hfz25_8
        try clear hfz25_9
        try clear hfz26_0
        try clear hfz26_1
        try clear hfz26_10
        try clear hfz26_2
        try clear hfz26_3
        try clear hfz26_4
        try clear hfz26_5
        try clear hfz26_6
        try clear hfz26_7
        try clear hfz26_8
        try clear hfz26_9
        try clear hfz27_0
        try clear hfz27_1
        try clear hfz27_10
        try clear hfz27_2
        try clear hfz27_3
        try clear hfz27_4
        try clear hfz27_5
        try clear hfz27_6
        try clear hfz27_7
        try clear hfz27_8
        try clear hfz27_9
        try clear hfz29_0
        try clear hfz29_1
        try clear hfz29_10
        try clear hfz29_2
        try clear hfz29_3
        try clear hfz29_4
        try clear hfz29_5
        try clear hfz29_6
        try clear hfz29_7
        try clear hfz29_8
        try clear hfz29_9
        try clear hfz5_0
        try clear hfz5_1
        try clear hfz5_10
        try clear hfz5_2
        try clear hfz5_3
        try clear hfz5_4
        try clear hfz5_5
        try clear hfz5_6
        try clear hfz5_7
        try clear hfz5_8
        try clear hfz5_9
        try clear hfz6_0
        try clear hfz6_1
        try clear hfz6_10
        try clear hfz6_2
        try clear hfz6_3
        try clear hfz6_4
        try clear hfz6_5
        try clear hfz6_6
        try clear hfz6_7
        try clear hfz6_8
        try clear hfz6_9
        try clear hfz9_0
        try clear hfz9_1
        try clear hfz9_10
        try clear hfz9_2
        try clear hfz9_3
        try clear hfz9_4
        try clear hfz9_5
        try clear hfz9_6
        try clear hfz9_7
        try clear hfz9_8
        try clear hfz9_9
        try clear p2
        obtain ⟨kq, x5_7, rfl, HA, HJ7, BK152, HB⟩ := hcut
        cases kq with
        | zero => exact absurd HA.out (by simp [events_May.j1])
        | succ kj7 =>
          have H := HA.out
          clear HA
          simp only [events_May.j1] at H
          replace H := Option.bind_eq_some_iff.mp H
          obtain ⟨t154, A300, H⟩ := H
          replace H : (if t154 = true then ((events_in.f a0_9 2147483647).bind fun t155 => (if t155 = true then ((events_in.f a0_10 2147483647).bind fun t156 => (if x3_1 = true then (if a0_1 ≤ 13 then (if x5_7 = true then (some false) else ((events_in.f a0_5 8).bind fun t157 => (if t157 = true then ((events_in.f a0_6 65535).bind fun t158 => (if t158 = true then (some t156) else (some false))) else (some false)))) else (some false)) else (some false))) else (if x3_1 = true then (if a0_1 ≤ 13 then (if x5_7 = true then (some false) else ((events_in.f a0_5 8).bind fun t159 => (if t159 = true then ((events_in.f a0_6 65535).bind fun t160 => (if t160 = true then (some false) else (some false))) else (some false)))) else (some false)) else (some false)))) else (if x3_1 = true then (if a0_1 ≤ 13 then (if x5_7 = true then (some false) else ((events_in.f a0_5 8).bind fun t161 => (if t161 = true then ((events_in.f a0_6 65535).bind fun t162 => (if t162 = true then (some false) else (some false))) else (some false)))) else (some false)) else (some false))) = some r := H
          have A30 := Aside0.mk A300
          clear A300
          by_cases c31 : t154 = true
          · subst c31
            have H1 : ((events_in.f a0_9 2147483647).bind fun t155 => (if t155 = true then ((events_in.f a0_10 2147483647).bind fun t156 => (if x3_1 = true then (if a0_1 ≤ 13 then (if x5_7 = true then (some false) else ((events_in.f a0_5 8).bind fun t157 => (if t157 = true then ((events_in.f a0_6 65535).bind fun t158 => (if t158 = true then (some t156) else (some false))) else (some false)))) else (some false)) else (some false))) else (if x3_1 = true then (if a0_1 ≤ 13 then (if x5_7 = true then (some false) else ((events_in.f a0_5 8).bind fun t159 => (if t159 = true then ((events_in.f a0_6 65535).bind fun t160 => (if t160 = true then (some false) else (some false))) else (some false)))) else (some false)) else (some false)))) = some r := by rw [if_pos rfl] at H; exact H
            clear H
            have H := H1
            clear H1
            replace H := Option.bind_eq_some_iff.mp H
            obtain ⟨t155, A320, H⟩ := H
            replace H : (if t155 = true then ((events_in.f a0_10 2147483647).bind fun t156 => (if x3_1 = true then (if a0_1 ≤ 13 then (if x5_7 = true then (some false) else ((events_in.f a0_5 8).bind fun t157 => (if t157 = true then ((events_in.f a0_6 65535).bind fun t158 => (if t158 = true then (some t156) else (some false))) else (some false)))) else (some false)) else (some false))) else (if x3_1 = true then (if a0_1 ≤ 13 then (if x5_7 = true then (some false) else ((events_in.f a0_5 8).bind fun t159 => (if t159 = true then ((events_in.f a0_6 65535).bind fun t160 => (if t160 = true then (some false) else (some false))) else (some false)))) else (some false)) else (some false))) = some r := H
            have A32 := Aside0.mk A320
            clear A320
            by_cases c33 : t155 = true
            · subst c33
              have H1 : ((events_in.f a0_10 2147483647).bind fun t156 => (if x3_1 = true then (if a0_1 ≤ 13 then (if x5_7 = true then (some false) else ((events_in.f a0_5 8).bind fun t157 => (if t157 = true then ((events_in.f a0_6 65535).bind fun t158 => (if t158 = true then (some t156) else (some false))) else (some false)))) else (some false)) else (some false))) = some r := by rw [if_pos rfl] at H; exact H
              clear H
              have H := H1
              clear H1
              replace H := Option.bind_eq_some_iff.mp H
              obtain ⟨t156, A340, H⟩ := H
              replace H : (if x3_1 = true then (if a0_1 ≤ 13 then (if x5_7 = true then (some false) else ((events_in.f a0_5 8).bind fun t157 => (if t157 = true then ((events_in.f a0_6 65535).bind fun t158 => (if t158 = true then (some t156) else (some false))) else (some false)))) else (some false)) else (some false)) = some r := H
              have A34 := Aside0.mk A340
              clear A340
              by_cases c35 : x3_1 = true
              · subst c35
                have H1 : (if a0_1 ≤ 13 then (if x5_7 = true then (some false) else ((events_in.f a0_5 8).bind fun t157 => (if t157 = true then ((events_in.f a0_6 65535).bind fun t158 => (if t158 = true then (some t156) else (some false))) else (some false)))) else (some false)) = some r := by rw [if_pos rfl] at H; exact H
                clear H
                have H := H1
                clear H1
                by_cases c36 : a0_1 ≤ 13
                · rw [if_pos c36] at H
                  have c36b0 : decide (a0_1 ≤ 13) = true := decide_eq_true c36
                  clear c36
                  by_cases c37 : x5_7 = true
                  · subst c37
                    have H1 : (some false) = some r := by rw [if_pos rfl] at H; exact H
                    clear H
                    have H := H1
                    clear H1
                    obtain rfl := Option.some.inj H
                    have hcz38_0 : wc.cell? ⟨gb152, 0, none⟩ = some (.int .u8 a0_0) := (blk_cell BK152.out 0).trans rfl
                    have hcz38_1 : wc.cell? ⟨gb152, 1, none⟩ = some (.int .u8 a0_1) := (blk_cell BK152.out 1).trans rfl
                    have hcz38_2 : wc.cell? ⟨gb152, 2, none⟩ = some (.int .u8 a0_2) := (blk_cell BK152.out 2).trans rfl
                    have hcz38_3 : wc.cell? ⟨gb152, 3, none⟩ = some (.int .u8 a0_3) := (blk_cell BK152.out 3).trans rfl
                    have hcz38_4 : wc.cell? ⟨gb152, 4, none⟩ = some (.int .u8 a0_4) := (blk_cell BK152.out 4).trans rfl
                    have hcz38_5 : wc.cell? ⟨gb152, 5, none⟩ = some (.int .i64 a0_5) := (blk_cell BK152.out 5).trans rfl
                    have hcz38_6 : wc.cell? ⟨gb152, 6, none⟩ = some (.int .i64 a0_6) := (blk_cell BK152.out 6).trans rfl
                    have hcz38_7 : wc.cell? ⟨gb152, 7, none⟩ = some (.int .u64 a0_7) := (blk_cell BK152.out 7).trans rfl
                    have hcz38_8 : wc.cell? ⟨gb152, 8, none⟩ = some (.int .i64 a0_8) := (blk_cell BK152.out 8).trans rfl
                    have hcz38_9 : wc.cell? ⟨gb152, 9, none⟩ = some (.int .i64 a0_9) := (blk_cell BK152.out 9).trans rfl
                    have hcz38_10 : wc.cell? ⟨gb152, 10, none⟩ = some (.int .i64 a0_10) := (blk_cell BK152.out 10).trans rfl
                    have hfz38_0 := blk_frozen BK152.out 0
                    have hfz38_1 := blk_frozen BK152.out 1
                    have hfz38_2 := blk_frozen BK152.out 2
                    have hfz38_3 := blk_frozen BK152.out 3
                    have hfz38_4 := blk_frozen BK152.out 4
                    have hfz38_5 := blk_frozen BK152.out 5
                    have hfz38_6 := blk_frozen BK152.out 6
                    have hfz38_7 := blk_frozen BK152.out 7
                    have hfz38_8 := blk_frozen BK152.out 8
                    have hfz38_9 := blk_frozen BK152.out 9
                    have hfz38_10 := blk_frozen BK152.out 10
                    go_wp2_with (first | ((with_reducible refine gate_callee (f := 83) rfl ?_); refine goesL_ (some 49) rfl rfl Try.func83 (by kernel_rfl) rfl #[.int .i64 a0_8, .int .i64 2147483647] rfl (by (try simp only [List.map_toArray, List.map_cons, List.map_nil]); first | done | rfl | (simp only [List.length_drop, List.length_take]; rfl)) ?_; (with_reducible refine (events_in.calls a0_8 2147483647 true _ A30.out).mono ?_); rintro e w' ⟨rfl, ⟨nd, rfl⟩⟩; refine ⟨_, rfl, ?_⟩) | (go_at_call 83; (with_reducible refine (events_in.calls a0_9 2147483647 true _ A32.out).mono ?_); rintro e w' ⟨rfl, ⟨nd, rfl⟩⟩) | (go_at_call 83; (with_reducible refine (events_in.calls a0_10 2147483647 t156 _ A34.out).mono ?_); rintro e w' ⟨rfl, ⟨nd, rfl⟩⟩))
                    go_ret
                    exact ⟨by first | rfl | (simp [errW_none, errW_some] <;> rfl) | (simp [*, errW_none, errW_some] <;> rfl), by repeat (first | (with_reducible first | exact HB.out | apply below_alloc | apply pw_below_drewN | apply below_drew1 | refine below_set ?_ GE152.out) | exact HB.out)⟩
                  · replace c37 := Bool.eq_false_iff.mpr c37
                    subst c37
                    have H1 : ((events_in.f a0_5 8).bind fun t157 => (if t157 = true then ((events_in.f a0_6 65535).bind fun t158 => (if t158 = true then (some t156) else (some false))) else (some false))) = some r := by rw [if_neg (show ¬ (false = true) by decide)] at H; exact H
                    clear H
                    have H := H1
                    clear H1
                    replace H := Option.bind_eq_some_iff.mp H
                    obtain ⟨t157, A390, H⟩ := H
                    replace H : (if t157 = true then ((events_in.f a0_6 65535).bind fun t158 => (if t158 = true then (some t156) else (some false))) else (some false)) = some r := H
                    have A39 := Aside0.mk A390
                    clear A390
                    by_cases c40 : t157 = true
                    · subst c40
                      have H1 : ((events_in.f a0_6 65535).bind fun t158 => (if t158 = true then (some t156) else (some false))) = some r := by rw [if_pos rfl] at H; exact H
                      clear H
                      have H := H1
                      clear H1
                      replace H := Option.bind_eq_some_iff.mp H
                      obtain ⟨t158, A410, H⟩ := H
                      replace H : (if t158 = true then (some t156) else (some false)) = some r := H
                      have A41 := Aside0.mk A410
                      clear A410
                      by_cases c42 : t158 = true
                      · subst c42
                        have H1 : (some t156) = some r := by rw [if_pos rfl] at H; exact H
                        clear H
                        have H := H1
                        clear H1
                        obtain rfl := Option.some.inj H
                        have hcz43_0 : wc.cell? ⟨gb152, 0, none⟩ = some (.int .u8 a0_0) := (blk_cell BK152.out 0).trans rfl
                        have hcz43_1 : wc.cell? ⟨gb152, 1, none⟩ = some (.int .u8 a0_1) := (blk_cell BK152.out 1).trans rfl
                        have hcz43_2 : wc.cell? ⟨gb152, 2, none⟩ = some (.int .u8 a0_2) := (blk_cell BK152.out 2).trans rfl
                        have hcz43_3 : wc.cell? ⟨gb152, 3, none⟩ = some (.int .u8 a0_3) := (blk_cell BK152.out 3).trans rfl
                        have hcz43_4 : wc.cell? ⟨gb152, 4, none⟩ = some (.int .u8 a0_4) := (blk_cell BK152.out 4).trans rfl
                        have hcz43_5 : wc.cell? ⟨gb152, 5, none⟩ = some (.int .i64 a0_5) := (blk_cell BK152.out 5).trans rfl
                        have hcz43_6 : wc.cell? ⟨gb152, 6, none⟩ = some (.int .i64 a0_6) := (blk_cell BK152.out 6).trans rfl
                        have hcz43_7 : wc.cell? ⟨gb152, 7, none⟩ = some (.int .u64 a0_7) := (blk_cell BK152.out 7).trans rfl
                        have hcz43_8 : wc.cell? ⟨gb152, 8, none⟩ = some (.int .i64 a0_8) := (blk_cell BK152.out 8).trans rfl
                        have hcz43_9 : wc.cell? ⟨gb152, 9, none⟩ = some (.int .i64 a0_9) := (blk_cell BK152.out 9).trans rfl
                        have hcz43_10 : wc.cell? ⟨gb152, 10, none⟩ = some (.int .i64 a0_10) := (blk_cell BK152.out 10).trans rfl
                        have hfz43_0 := blk_frozen BK152.out 0
                        have hfz43_1 := blk_frozen BK152.out 1
                        have hfz43_2 := blk_frozen BK152.out 2
                        have hfz43_3 := blk_frozen BK152.out 3
                        have hfz43_4 := blk_frozen BK152.out 4
                        have hfz43_5 := blk_frozen BK152.out 5
                        have hfz43_6 := blk_frozen BK152.out 6
                        have hfz43_7 := blk_frozen BK152.out 7
                        have hfz43_8 := blk_frozen BK152.out 8
                        have hfz43_9 := blk_frozen BK152.out 9
                        have hfz43_10 := blk_frozen BK152.out 10
                        go_wp2_with (first | ((with_reducible refine gate_callee (f := 83) rfl ?_); refine goesL_ (some 49) rfl rfl Try.func83 (by kernel_rfl) rfl #[.int .i64 a0_8, .int .i64 2147483647] rfl (by (try simp only [List.map_toArray, List.map_cons, List.map_nil]); first | done | rfl | (simp only [List.length_drop, List.length_take]; rfl)) ?_; (with_reducible refine (events_in.calls a0_8 2147483647 true _ A30.out).mono ?_); rintro e w' ⟨rfl, ⟨nd, rfl⟩⟩; refine ⟨_, rfl, ?_⟩) | (go_at_call 83; (with_reducible refine (events_in.calls a0_9 2147483647 true _ A32.out).mono ?_); rintro e w' ⟨rfl, ⟨nd, rfl⟩⟩) | (go_at_call 83; (with_reducible refine (events_in.calls a0_10 2147483647 t156 _ A34.out).mono ?_); rintro e w' ⟨rfl, ⟨nd, rfl⟩⟩) | (go_at_call 83; (with_reducible refine (events_in.calls a0_5 8 true _ A39.out).mono ?_); rintro e w' ⟨rfl, ⟨nd, rfl⟩⟩) | (go_at_call 83; (with_reducible refine (events_in.calls a0_6 65535 true _ A41.out).mono ?_); rintro e w' ⟨rfl, ⟨nd, rfl⟩⟩))
                        go_ret
                        exact ⟨by first | rfl | (simp [errW_none, errW_some] <;> rfl) | (simp [*, errW_none, errW_some] <;> rfl), by repeat (first | (with_reducible first | exact HB.out | apply below_alloc | apply pw_below_drewN | apply below_drew1 | refine below_set ?_ GE152.out) | exact HB.out)⟩
                      · replace c42 := Bool.eq_false_iff.mpr c42
                        subst c42
                        have H1 : (some false) = some r := by rw [if_neg (show ¬ (false = true) by decide)] at H; exact H
                        clear H
                        have H := H1
                        clear H1
                        obtain rfl := Option.some.inj H
                        have hcz44_0 : wc.cell? ⟨gb152, 0, none⟩ = some (.int .u8 a0_0) := (blk_cell BK152.out 0).trans rfl
                        have hcz44_1 : wc.cell? ⟨gb152, 1, none⟩ = some (.int .u8 a0_1) := (blk_cell BK152.out 1).trans rfl
                        have hcz44_2 : wc.cell? ⟨gb152, 2, none⟩ = some (.int .u8 a0_2) := (blk_cell BK152.out 2).trans rfl
                        have hcz44_3 : wc.cell? ⟨gb152, 3, none⟩ = some (.int .u8 a0_3) := (blk_cell BK152.out 3).trans rfl
                        have hcz44_4 : wc.cell? ⟨gb152, 4, none⟩ = some (.int .u8 a0_4) := (blk_cell BK152.out 4).trans rfl
                        have hcz44_5 : wc.cell? ⟨gb152, 5, none⟩ = some (.int .i64 a0_5) := (blk_cell BK152.out 5).trans rfl
                        have hcz44_6 : wc.cell? ⟨gb152, 6, none⟩ = some (.int .i64 a0_6) := (blk_cell BK152.out 6).trans rfl
                        have hcz44_7 : wc.cell? ⟨gb152, 7, none⟩ = some (.int .u64 a0_7) := (blk_cell BK152.out 7).trans rfl
                        have hcz44_8 : wc.cell? ⟨gb152, 8, none⟩ = some (.int .i64 a0_8) := (blk_cell BK152.out 8).trans rfl
                        have hcz44_9 : wc.cell? ⟨gb152, 9, none⟩ = some (.int .i64 a0_9) := (blk_cell BK152.out 9).trans rfl
                        have hcz44_10 : wc.cell? ⟨gb152, 10, none⟩ = some (.int .i64 a0_10) := (blk_cell BK152.out 10).trans rfl
                        have hfz44_0 := blk_frozen BK152.out 0
                        have hfz44_1 := blk_frozen BK152.out 1
                        have hfz44_2 := blk_frozen BK152.out 2
                        have hfz44_3 := blk_frozen BK152.out 3
                        have hfz44_4 := blk_frozen BK152.out 4
                        have hfz44_5 := blk_frozen BK152.out 5
                        have hfz44_6 := blk_frozen BK152.out 6
                        have hfz44_7 := blk_frozen BK152.out 7
                        have hfz44_8 := blk_frozen BK152.out 8
                        have hfz44_9 := blk_frozen BK152.out 9
                        have hfz44_10 := blk_frozen BK152.out 10
                        go_wp2_with (first | ((with_reducible refine gate_callee (f := 83) rfl ?_); refine goesL_ (some 49) rfl rfl Try.func83 (by kernel_rfl) rfl #[.int .i64 a0_8, .int .i64 2147483647] rfl (by (try simp only [List.map_toArray, List.map_cons, List.map_nil]); first | done | rfl | (simp only [List.length_drop, List.length_take]; rfl)) ?_; (with_reducible refine (events_in.calls a0_8 2147483647 true _ A30.out).mono ?_); rintro e w' ⟨rfl, ⟨nd, rfl⟩⟩; refine ⟨_, rfl, ?_⟩) | (go_at_call 83; (with_reducible refine (events_in.calls a0_9 2147483647 true _ A32.out).mono ?_); rintro e w' ⟨rfl, ⟨nd, rfl⟩⟩) | (go_at_call 83; (with_reducible refine (events_in.calls a0_10 2147483647 t156 _ A34.out).mono ?_); rintro e w' ⟨rfl, ⟨nd, rfl⟩⟩) | (go_at_call 83; (with_reducible refine (events_in.calls a0_5 8 true _ A39.out).mono ?_); rintro e w' ⟨rfl, ⟨nd, rfl⟩⟩) | (go_at_call 83; (with_reducible refine (events_in.calls a0_6 65535 false _ A41.out).mono ?_); rintro e w' ⟨rfl, ⟨nd, rfl⟩⟩))
                        go_ret
                        exact ⟨by first | rfl | (simp [errW_none, errW_some] <;> rfl) | (simp [*, errW_none, errW_some] <;> rfl), by repeat (first | (with_reducible first | exact HB.out | apply below_alloc | apply pw_below_drewN | apply below_drew1 | refine below_set ?_ GE152.out) | exact HB.out)⟩
                    · replace c40 := Bool.eq_false_iff.mpr c40
                      subst c40
                      have H1 : (some false) = some r := by rw [if_neg (show ¬ (false = true) by decide)] at H; exact H
                      clear H
                      have H := H1
                      clear H1
                      obtain rfl := Option.some.inj H
                      have hcz45_0 : wc.cell? ⟨gb152, 0, none⟩ = some (.int .u8 a0_0) := (blk_cell BK152.out 0).trans rfl
                      have hcz45_1 : wc.cell? ⟨gb152, 1, none⟩ = some (.int .u8 a0_1) := (blk_cell BK152.out 1).trans rfl
                      have hcz45_2 : wc.cell? ⟨gb152, 2, none⟩ = some (.int .u8 a0_2) := (blk_cell BK152.out 2).trans rfl
                      have hcz45_3 : wc.cell? ⟨gb152, 3, none⟩ = some (.int .u8 a0_3) := (blk_cell BK152.out 3).trans rfl
                      have hcz45_4 : wc.cell? ⟨gb152, 4, none⟩ = some (.int .u8 a0_4) := (blk_cell BK152.out 4).trans rfl
                      have hcz45_5 : wc.cell? ⟨gb152, 5, none⟩ = some (.int .i64 a0_5) := (blk_cell BK152.out 5).trans rfl
                      have hcz45_6 : wc.cell? ⟨gb152, 6, none⟩ = some (.int .i64 a0_6) := (blk_cell BK152.out 6).trans rfl
                      have hcz45_7 : wc.cell? ⟨gb152, 7, none⟩ = some (.int .u64 a0_7) := (blk_cell BK152.out 7).trans rfl
                      have hcz45_8 : wc.cell? ⟨gb152, 8, none⟩ = some (.int .i64 a0_8) := (blk_cell BK152.out 8).trans rfl
                      have hcz45_9 : wc.cell? ⟨gb152, 9, none⟩ = some (.int .i64 a0_9) := (blk_cell BK152.out 9).trans rfl
                      have hcz45_10 : wc.cell? ⟨gb152, 10, none⟩ = some (.int .i64 a0_10) := (blk_cell BK152.out 10).trans rfl
                      have hfz45_0 := blk_frozen BK152.out 0
                      have hfz45_1 := blk_frozen BK152.out 1
                      have hfz45_2 := blk_frozen BK152.out 2
                      have hfz45_3 := blk_frozen BK152.out 3
                      have hfz45_4 := blk_frozen BK152.out 4
                      have hfz45_5 := blk_frozen BK152.out 5
                      have hfz45_6 := blk_frozen BK152.out 6
                      have hfz45_7 := blk_frozen BK152.out 7
                      have hfz45_8 := blk_frozen BK152.out 8
                      have hfz45_9 := blk_frozen BK152.out 9
                      have hfz45_10 := blk_frozen BK152.out 10
                      go_wp2_with (first | ((with_reducible refine gate_callee (f := 83) rfl ?_); refine goesL_ (some 49) rfl rfl Try.func83 (by kernel_rfl) rfl #[.int .i64 a0_8, .int .i64 2147483647] rfl (by (try simp only [List.map_toArray, List.map_cons, List.map_nil]); first | done | rfl | (simp only [List.length_drop, List.length_take]; rfl)) ?_; (with_reducible refine (events_in.calls a0_8 2147483647 true _ A30.out).mono ?_); rintro e w' ⟨rfl, ⟨nd, rfl⟩⟩; refine ⟨_, rfl, ?_⟩) | (go_at_call 83; (with_reducible refine (events_in.calls a0_9 2147483647 true _ A32.out).mono ?_); rintro e w' ⟨rfl, ⟨nd, rfl⟩⟩) | (go_at_call 83; (with_reducible refine (events_in.calls a0_10 2147483647 t156 _ A34.out).mono ?_); rintro e w' ⟨rfl, ⟨nd, rfl⟩⟩) | (go_at_call 83; (with_reducible refine (events_in.calls a0_5 8 false _ A39.out).mono ?_); rintro e w' ⟨rfl, ⟨nd, rfl⟩⟩))
                      go_ret
                      exact ⟨by first | rfl | (simp [errW_none, errW_some] <;> rfl) | (simp [*, errW_none, errW_some] <;> rfl), by repeat (first | (with_reducible first | exact HB.out | apply below_alloc | apply pw_below_drewN | apply below_drew1 | refine below_set ?_ GE152.out) | exact HB.out)⟩
                · rw [if_neg c36] at H
                  have c36b0 : decide (a0_1 ≤ 13) = false := decide_eq_false c36
                  clear c36
                  obtain rfl := Option.some.inj H
                  have hcz46_0 : wc.cell? ⟨gb152, 0, none⟩ = some (.int .u8 a0_0) := (blk_cell BK152.out 0).trans rfl
                  have hcz46_1 : wc.cell? ⟨gb152, 1, none⟩ = some (.int .u8 a0_1) := (blk_cell BK152.out 1).trans rfl
                  have hcz46_2 : wc.cell? ⟨gb152, 2, none⟩ = some (.int .u8 a0_2) := (blk_cell BK152.out 2).trans rfl
                  have hcz46_3 : wc.cell? ⟨gb152, 3, none⟩ = some (.int .u8 a0_3) := (blk_cell BK152.out 3).trans rfl
                  have hcz46_4 : wc.cell? ⟨gb152, 4, none⟩ = some (.int .u8 a0_4) := (blk_cell BK152.out 4).trans rfl
                  have hcz46_5 : wc.cell? ⟨gb152, 5, none⟩ = some (.int .i64 a0_5) := (blk_cell BK152.out 5).trans rfl
                  have hcz46_6 : wc.cell? ⟨gb152, 6, none⟩ = some (.int .i64 a0_6) := (blk_cell BK152.out 6).trans rfl
                  have hcz46_7 : wc.cell? ⟨gb152, 7, none⟩ = some (.int .u64 a0_7) := (blk_cell BK152.out 7).trans rfl
                  have hcz46_8 : wc.cell? ⟨gb152, 8, none⟩ = some (.int .i64 a0_8) := (blk_cell BK152.out 8).trans rfl
                  have hcz46_9 : wc.cell? ⟨gb152, 9, none⟩ = some (.int .i64 a0_9) := (blk_cell BK152.out 9).trans rfl
                  have hcz46_10 : wc.cell? ⟨gb152, 10, none⟩ = some (.int .i64 a0_10) := (blk_cell BK152.out 10).trans rfl
                  have hfz46_0 := blk_frozen BK152.out 0
                  have hfz46_1 := blk_frozen BK152.out 1
                  have hfz46_2 := blk_frozen BK152.out 2
                  have hfz46_3 := blk_frozen BK152.out 3
                  have hfz46_4 := blk_frozen BK152.out 4
                  have hfz46_5 := blk_frozen BK152.out 5
                  have hfz46_6 := blk_frozen BK152.out 6
                  have hfz46_7 := blk_frozen BK152.out 7
                  have hfz46_8 := blk_frozen BK152.out 8
                  have hfz46_9 := blk_frozen BK152.out 9
                  have hfz46_10 := blk_frozen BK152.out 10
                  go_wp2_with (first | ((with_reducible refine gate_callee (f := 83) rfl ?_); refine goesL_ (some 49) rfl rfl Try.func83 (by kernel_rfl) rfl #[.int .i64 a0_8, .int .i64 2147483647] rfl (by (try simp only [List.map_toArray, List.map_cons, List.map_nil]); first | done | rfl | (simp only [List.length_drop, List.length_take]; rfl)) ?_; (with_reducible refine (events_in.calls a0_8 2147483647 true _ A30.out).mono ?_); rintro e w' ⟨rfl, ⟨nd, rfl⟩⟩; refine ⟨_, rfl, ?_⟩) | (go_at_call 83; (with_reducible refine (events_in.calls a0_9 2147483647 true _ A32.out).mono ?_); rintro e w' ⟨rfl, ⟨nd, rfl⟩⟩) | (go_at_call 83; (with_reducible refine (events_in.calls a0_10 2147483647 t156 _ A34.out).mono ?_); rintro e w' ⟨rfl, ⟨nd, rfl⟩⟩))
                  go_ret
                  exact ⟨by first | rfl | (simp [errW_none, errW_some] <;> rfl) | (simp [*, errW_none, errW_some] <;> rfl), by repeat (first | (with_reducible first | exact HB.out | apply below_alloc | apply pw_below_drewN | apply below_drew1 | refine below_set ?_ GE152.out) | exact HB.out)⟩
              · replace c35 := Bool.eq_false_iff.mpr c35
                subst c35
                have H1 : (some false) = some r := by rw [if_neg (show ¬ (false = true) by decide)] at H; exact H
                clear H
                have H := H1
                clear H1
                obtain rfl := Option.some.inj H
                have hcz47_0 : wc.cell? ⟨gb152, 0, none⟩ = some (.int .u8 a0_0) := (blk_cell BK152.out 0).trans rfl
                have hcz47_1 : wc.cell? ⟨gb152, 1, none⟩ = some (.int .u8 a0_1) := (blk_cell BK152.out 1).trans rfl
                have hcz47_2 : wc.cell? ⟨gb152, 2, none⟩ = some (.int .u8 a0_2) := (blk_cell BK152.out 2).trans rfl
                have hcz47_3 : wc.cell? ⟨gb152, 3, none⟩ = some (.int .u8 a0_3) := (blk_cell BK152.out 3).trans rfl
                have hcz47_4 : wc.cell? ⟨gb152, 4, none⟩ = some (.int .u8 a0_4) := (blk_cell BK152.out 4).trans rfl
                have hcz47_5 : wc.cell? ⟨gb152, 5, none⟩ = some (.int .i64 a0_5) := (blk_cell BK152.out 5).trans rfl
                have hcz47_6 : wc.cell? ⟨gb152, 6, none⟩ = some (.int .i64 a0_6) := (blk_cell BK152.out 6).trans rfl
                have hcz47_7 : wc.cell? ⟨gb152, 7, none⟩ = some (.int .u64 a0_7) := (blk_cell BK152.out 7).trans rfl
                have hcz47_8 : wc.cell? ⟨gb152, 8, none⟩ = some (.int .i64 a0_8) := (blk_cell BK152.out 8).trans rfl
                have hcz47_9 : wc.cell? ⟨gb152, 9, none⟩ = some (.int .i64 a0_9) := (blk_cell BK152.out 9).trans rfl
                have hcz47_10 : wc.cell? ⟨gb152, 10, none⟩ = some (.int .i64 a0_10) := (blk_cell BK152.out 10).trans rfl
                have hfz47_0 := blk_frozen BK152.out 0
                have hfz47_1 := blk_frozen BK152.out 1
                have hfz47_2 := blk_frozen BK152.out 2
                have hfz47_3 := blk_frozen BK152.out 3
                have hfz47_4 := blk_frozen BK152.out 4
                have hfz47_5 := blk_frozen BK152.out 5
                have hfz47_6 := blk_frozen BK152.out 6
                have hfz47_7 := blk_frozen BK152.out 7
                have hfz47_8 := blk_frozen BK152.out 8
                have hfz47_9 := blk_frozen BK152.out 9
                have hfz47_10 := blk_frozen BK152.out 10
                go_wp2_with (first | ((with_reducible refine gate_callee (f := 83) rfl ?_); refine goesL_ (some 49) rfl rfl Try.func83 (by kernel_rfl) rfl #[.int .i64 a0_8, .int .i64 2147483647] rfl (by (try simp only [List.map_toArray, List.map_cons, List.map_nil]); first | done | rfl | (simp only [List.length_drop, List.length_take]; rfl)) ?_; (with_reducible refine (events_in.calls a0_8 2147483647 true _ A30.out).mono ?_); rintro e w' ⟨rfl, ⟨nd, rfl⟩⟩; refine ⟨_, rfl, ?_⟩) | (go_at_call 83; (with_reducible refine (events_in.calls a0_9 2147483647 true _ A32.out).mono ?_); rintro e w' ⟨rfl, ⟨nd, rfl⟩⟩) | (go_at_call 83; (with_reducible refine (events_in.calls a0_10 2147483647 t156 _ A34.out).mono ?_); rintro e w' ⟨rfl, ⟨nd, rfl⟩⟩))
                go_ret
                exact ⟨by first | rfl | (simp [errW_none, errW_some] <;> rfl) | (simp [*, errW_none, errW_some] <;> rfl), by repeat (first | (with_reducible first | exact HB.out | apply below_alloc | apply pw_below_drewN | apply below_drew1 | refine below_set ?_ GE152.out) | exact HB.out)⟩
            · replace c33 := Bool.eq_false_iff.mpr c33
              subst c33
              have H1 : (if x3_1 = true then (if a0_1 ≤ 13 then (if x5_7 = true then (some false) else ((events_in.f a0_5 8).bind fun t159 => (if t159 = true then ((events_in.f a0_6 65535).bind fun t160 => (if t160 = true then (some false) else (some false))) else (some false)))) else (some false)) else (some false)) = some r := by rw [if_neg (show ¬ (false = true) by decide)] at H; exact H
              clear H
              have H := H1
              clear H1
              by_cases c48 : x3_1 = true
              · subst c48
                have H1 : (if a0_1 ≤ 13 then (if x5_7 = true then (some false) else ((events_in.f a0_5 8).bind fun t159 => (if t159 = true then ((events_in.f a0_6 65535).bind fun t160 => (if t160 = true then (some false) else (some false))) else (some false)))) else (some false)) = some r := by rw [if_pos rfl] at H; exact H
                clear H
                have H := H1
                clear H1
                by_cases c49 : a0_1 ≤ 13
                · rw [if_pos c49] at H
                  have c49b0 : decide (a0_1 ≤ 13) = true := decide_eq_true c49
                  clear c49
                  by_cases c50 : x5_7 = true
                  · subst c50
                    have H1 : (some false) = some r := by rw [if_pos rfl] at H; exact H
                    clear H
                    have H := H1
                    clear H1
                    obtain rfl := Option.some.inj H
                    have hcz51_0 : wc.cell? ⟨gb152, 0, none⟩ = some (.int .u8 a0_0) := (blk_cell BK152.out 0).trans rfl
                    have hcz51_1 : wc.cell? ⟨gb152, 1, none⟩ = some (.int .u8 a0_1) := (blk_cell BK152.out 1).trans rfl
                    have hcz51_2 : wc.cell? ⟨gb152, 2, none⟩ = some (.int .u8 a0_2) := (blk_cell BK152.out 2).trans rfl
                    have hcz51_3 : wc.cell? ⟨gb152, 3, none⟩ = some (.int .u8 a0_3) := (blk_cell BK152.out 3).trans rfl
                    have hcz51_4 : wc.cell? ⟨gb152, 4, none⟩ = some (.int .u8 a0_4) := (blk_cell BK152.out 4).trans rfl
                    have hcz51_5 : wc.cell? ⟨gb152, 5, none⟩ = some (.int .i64 a0_5) := (blk_cell BK152.out 5).trans rfl
                    have hcz51_6 : wc.cell? ⟨gb152, 6, none⟩ = some (.int .i64 a0_6) := (blk_cell BK152.out 6).trans rfl
                    have hcz51_7 : wc.cell? ⟨gb152, 7, none⟩ = some (.int .u64 a0_7) := (blk_cell BK152.out 7).trans rfl
                    have hcz51_8 : wc.cell? ⟨gb152, 8, none⟩ = some (.int .i64 a0_8) := (blk_cell BK152.out 8).trans rfl
                    have hcz51_9 : wc.cell? ⟨gb152, 9, none⟩ = some (.int .i64 a0_9) := (blk_cell BK152.out 9).trans rfl
                    have hcz51_10 : wc.cell? ⟨gb152, 10, none⟩ = some (.int .i64 a0_10) := (blk_cell BK152.out 10).trans rfl
                    have hfz51_0 := blk_frozen BK152.out 0
                    have hfz51_1 := blk_frozen BK152.out 1
                    have hfz51_2 := blk_frozen BK152.out 2
                    have hfz51_3 := blk_frozen BK152.out 3
                    have hfz51_4 := blk_frozen BK152.out 4
                    have hfz51_5 := blk_frozen BK152.out 5
                    have hfz51_6 := blk_frozen BK152.out 6
                    have hfz51_7 := blk_frozen BK152.out 7
                    have hfz51_8 := blk_frozen BK152.out 8
                    have hfz51_9 := blk_frozen BK152.out 9
                    have hfz51_10 := blk_frozen BK152.out 10
                    go_wp2_with (first | ((with_reducible refine gate_callee (f := 83) rfl ?_); refine goesL_ (some 49) rfl rfl Try.func83 (by kernel_rfl) rfl #[.int .i64 a0_8, .int .i64 2147483647] rfl (by (try simp only [List.map_toArray, List.map_cons, List.map_nil]); first | done | rfl | (simp only [List.length_drop, List.length_take]; rfl)) ?_; (with_reducible refine (events_in.calls a0_8 2147483647 true _ A30.out).mono ?_); rintro e w' ⟨rfl, ⟨nd, rfl⟩⟩; refine ⟨_, rfl, ?_⟩) | (go_at_call 83; (with_reducible refine (events_in.calls a0_9 2147483647 false _ A32.out).mono ?_); rintro e w' ⟨rfl, ⟨nd, rfl⟩⟩))
                    go_ret
                    exact ⟨by first | rfl | (simp [errW_none, errW_some] <;> rfl) | (simp [*, errW_none, errW_some] <;> rfl), by repeat (first | (with_reducible first | exact HB.out | apply below_alloc | apply pw_below_drewN | apply below_drew1 | refine below_set ?_ GE152.out) | exact HB.out)⟩
                  · replace c50 := Bool.eq_false_iff.mpr c50
                    subst c50
                    have H1 : ((events_in.f a0_5 8).bind fun t159 => (if t159 = true then ((events_in.f a0_6 65535).bind fun t160 => (if t160 = true then (some false) else (some false))) else (some false))) = some r := by rw [if_neg (show ¬ (false = true) by decide)] at H; exact H
                    clear H
                    have H := H1
                    clear H1
                    replace H := Option.bind_eq_some_iff.mp H
                    obtain ⟨t159, A520, H⟩ := H
                    replace H : (if t159 = true then ((events_in.f a0_6 65535).bind fun t160 => (if t160 = true then (some false) else (some false))) else (some false)) = some r := H
                    have A52 := Aside0.mk A520
                    clear A520
                    by_cases c53 : t159 = true
                    · subst c53
                      have H1 : ((events_in.f a0_6 65535).bind fun t160 => (if t160 = true then (some false) else (some false))) = some r := by rw [if_pos rfl] at H; exact H
                      clear H
                      have H := H1
                      clear H1
                      replace H := Option.bind_eq_some_iff.mp H
                      obtain ⟨t160, A540, H⟩ := H
                      replace H : (if t160 = true then (some false) else (some false)) = some r := H
                      have A54 := Aside0.mk A540
                      clear A540
                      by_cases c55 : t160 = true
                      · subst c55
                        have H1 : (some false) = some r := by rw [if_pos rfl] at H; exact H
                        clear H
                        have H := H1
                        clear H1
                        obtain rfl := Option.some.inj H
                        have hcz56_0 : wc.cell? ⟨gb152, 0, none⟩ = some (.int .u8 a0_0) := (blk_cell BK152.out 0).trans rfl
                        have hcz56_1 : wc.cell? ⟨gb152, 1, none⟩ = some (.int .u8 a0_1) := (blk_cell BK152.out 1).trans rfl
                        have hcz56_2 : wc.cell? ⟨gb152, 2, none⟩ = some (.int .u8 a0_2) := (blk_cell BK152.out 2).trans rfl
                        have hcz56_3 : wc.cell? ⟨gb152, 3, none⟩ = some (.int .u8 a0_3) := (blk_cell BK152.out 3).trans rfl
                        have hcz56_4 : wc.cell? ⟨gb152, 4, none⟩ = some (.int .u8 a0_4) := (blk_cell BK152.out 4).trans rfl
                        have hcz56_5 : wc.cell? ⟨gb152, 5, none⟩ = some (.int .i64 a0_5) := (blk_cell BK152.out 5).trans rfl
                        have hcz56_6 : wc.cell? ⟨gb152, 6, none⟩ = some (.int .i64 a0_6) := (blk_cell BK152.out 6).trans rfl
                        have hcz56_7 : wc.cell? ⟨gb152, 7, none⟩ = some (.int .u64 a0_7) := (blk_cell BK152.out 7).trans rfl
                        have hcz56_8 : wc.cell? ⟨gb152, 8, none⟩ = some (.int .i64 a0_8) := (blk_cell BK152.out 8).trans rfl
                        have hcz56_9 : wc.cell? ⟨gb152, 9, none⟩ = some (.int .i64 a0_9) := (blk_cell BK152.out 9).trans rfl
                        have hcz56_10 : wc.cell? ⟨gb152, 10, none⟩ = some (.int .i64 a0_10) := (blk_cell BK152.out 10).trans rfl
                        have hfz56_0 := blk_frozen BK152.out 0
                        have hfz56_1 := blk_frozen BK152.out 1
                        have hfz56_2 := blk_frozen BK152.out 2
                        have hfz56_3 := blk_frozen BK152.out 3
                        have hfz56_4 := blk_frozen BK152.out 4
                        have hfz56_5 := blk_frozen BK152.out 5
                        have hfz56_6 := blk_frozen BK152.out 6
                        have hfz56_7 := blk_frozen BK152.out 7
                        have hfz56_8 := blk_frozen BK152.out 8
                        have hfz56_9 := blk_frozen BK152.out 9
                        have hfz56_10 := blk_frozen BK152.out 10
                        go_wp2_with (first | ((with_reducible refine gate_callee (f := 83) rfl ?_); refine goesL_ (some 49) rfl rfl Try.func83 (by kernel_rfl) rfl #[.int .i64 a0_8, .int .i64 2147483647] rfl (by (try simp only [List.map_toArray, List.map_cons, List.map_nil]); first | done | rfl | (simp only [List.length_drop, List.length_take]; rfl)) ?_; (with_reducible refine (events_in.calls a0_8 2147483647 true _ A30.out).mono ?_); rintro e w' ⟨rfl, ⟨nd, rfl⟩⟩; refine ⟨_, rfl, ?_⟩) | (go_at_call 83; (with_reducible refine (events_in.calls a0_9 2147483647 false _ A32.out).mono ?_); rintro e w' ⟨rfl, ⟨nd, rfl⟩⟩) | (go_at_call 83; (with_reducible refine (events_in.calls a0_5 8 true _ A52.out).mono ?_); rintro e w' ⟨rfl, ⟨nd, rfl⟩⟩) | (go_at_call 83; (with_reducible refine (events_in.calls a0_6 65535 true _ A54.out).mono ?_); rintro e w' ⟨rfl, ⟨nd, rfl⟩⟩))
                        go_ret
                        exact ⟨by first | rfl | (simp [errW_none, errW_some] <;> rfl) | (simp [*, errW_none, errW_some] <;> rfl), by repeat (first | (with_reducible first | exact HB.out | apply below_alloc | apply pw_below_drewN | apply below_drew1 | refine below_set ?_ GE152.out) | exact HB.out)⟩
                      · replace c55 := Bool.eq_false_iff.mpr c55
                        subst c55
                        have H1 : (some false) = some r := by rw [if_neg (show ¬ (false = true) by decide)] at H; exact H
                        clear H
                        have H := H1
                        clear H1
                        obtain rfl := Option.some.inj H
                        have hcz57_0 : wc.cell? ⟨gb152, 0, none⟩ = some (.int .u8 a0_0) := (blk_cell BK152.out 0).trans rfl
                        have hcz57_1 : wc.cell? ⟨gb152, 1, none⟩ = some (.int .u8 a0_1) := (blk_cell BK152.out 1).trans rfl
                        have hcz57_2 : wc.cell? ⟨gb152, 2, none⟩ = some (.int .u8 a0_2) := (blk_cell BK152.out 2).trans rfl
                        have hcz57_3 : wc.cell? ⟨gb152, 3, none⟩ = some (.int .u8 a0_3) := (blk_cell BK152.out 3).trans rfl
                        have hcz57_4 : wc.cell? ⟨gb152, 4, none⟩ = some (.int .u8 a0_4) := (blk_cell BK152.out 4).trans rfl
                        have hcz57_5 : wc.cell? ⟨gb152, 5, none⟩ = some (.int .i64 a0_5) := (blk_cell BK152.out 5).trans rfl
                        have hcz57_6 : wc.cell? ⟨gb152, 6, none⟩ = some (.int .i64 a0_6) := (blk_cell BK152.out 6).trans rfl
                        have hcz57_7 : wc.cell? ⟨gb152, 7, none⟩ = some (.int .u64 a0_7) := (blk_cell BK152.out 7).trans rfl
                        have hcz57_8 : wc.cell? ⟨gb152, 8, none⟩ = some (.int .i64 a0_8) := (blk_cell BK152.out 8).trans rfl
                        have hcz57_9 : wc.cell? ⟨gb152, 9, none⟩ = some (.int .i64 a0_9) := (blk_cell BK152.out 9).trans rfl
                        have hcz57_10 : wc.cell? ⟨gb152, 10, none⟩ = some (.int .i64 a0_10) := (blk_cell BK152.out 10).trans rfl
                        have hfz57_0 := blk_frozen BK152.out 0
                        have hfz57_1 := blk_frozen BK152.out 1
                        have hfz57_2 := blk_frozen BK152.out 2
                        have hfz57_3 := blk_frozen BK152.out 3
                        have hfz57_4 := blk_frozen BK152.out 4
                        have hfz57_5 := blk_frozen BK152.out 5
                        have hfz57_6 := blk_frozen BK152.out 6
                        have hfz57_7 := blk_frozen BK152.out 7
                        have hfz57_8 := blk_frozen BK152.out 8
                        have hfz57_9 := blk_frozen BK152.out 9
                        have hfz57_10 := blk_frozen BK152.out 10
                        go_wp2_with (first | ((with_reducible refine gate_callee (f := 83) rfl ?_); refine goesL_ (some 49) rfl rfl Try.func83 (by kernel_rfl) rfl #[.int .i64 a0_8, .int .i64 2147483647] rfl (by (try simp only [List.map_toArray, List.map_cons, List.map_nil]); first | done | rfl | (simp only [List.length_drop, List.length_take]; rfl)) ?_; (with_reducible refine (events_in.calls a0_8 2147483647 true _ A30.out).mono ?_); rintro e w' ⟨rfl, ⟨nd, rfl⟩⟩; refine ⟨_, rfl, ?_⟩) | (go_at_call 83; (with_reducible refine (events_in.calls a0_9 2147483647 false _ A32.out).mono ?_); rintro e w' ⟨rfl, ⟨nd, rfl⟩⟩) | (go_at_call 83; (with_reducible refine (events_in.calls a0_5 8 true _ A52.out).mono ?_); rintro e w' ⟨rfl, ⟨nd, rfl⟩⟩) | (go_at_call 83; (with_reducible refine (events_in.calls a0_6 65535 false _ A54.out).mono ?_); rintro e w' ⟨rfl, ⟨nd, rfl⟩⟩))
                        go_ret
                        exact ⟨by first | rfl | (simp [errW_none, errW_some] <;> rfl) | (simp [*, errW_none, errW_some] <;> rfl), by repeat (first | (with_reducible first | exact HB.out | apply below_alloc | apply pw_below_drewN | apply below_drew1 | refine below_set ?_ GE152.out) | exact HB.out)⟩
                    · replace c53 := Bool.eq_false_iff.mpr c53
                      subst c53
                      have H1 : (some false) = some r := by rw [if_neg (show ¬ (false = true) by decide)] at H; exact H
                      clear H
                      have H := H1
                      clear H1
                      obtain rfl := Option.some.inj H
                      have hcz58_0 : wc.cell? ⟨gb152, 0, none⟩ = some (.int .u8 a0_0) := (blk_cell BK152.out 0).trans rfl
                      have hcz58_1 : wc.cell? ⟨gb152, 1, none⟩ = some (.int .u8 a0_1) := (blk_cell BK152.out 1).trans rfl
                      have hcz58_2 : wc.cell? ⟨gb152, 2, none⟩ = some (.int .u8 a0_2) := (blk_cell BK152.out 2).trans rfl
                      have hcz58_3 : wc.cell? ⟨gb152, 3, none⟩ = some (.int .u8 a0_3) := (blk_cell BK152.out 3).trans rfl
                      have hcz58_4 : wc.cell? ⟨gb152, 4, none⟩ = some (.int .u8 a0_4) := (blk_cell BK152.out 4).trans rfl
                      have hcz58_5 : wc.cell? ⟨gb152, 5, none⟩ = some (.int .i64 a0_5) := (blk_cell BK152.out 5).trans rfl
                      have hcz58_6 : wc.cell? ⟨gb152, 6, none⟩ = some (.int .i64 a0_6) := (blk_cell BK152.out 6).trans rfl
                      have hcz58_7 : wc.cell? ⟨gb152, 7, none⟩ = some (.int .u64 a0_7) := (blk_cell BK152.out 7).trans rfl
                      have hcz58_8 : wc.cell? ⟨gb152, 8, none⟩ = some (.int .i64 a0_8) := (blk_cell BK152.out 8).trans rfl
                      have hcz58_9 : wc.cell? ⟨gb152, 9, none⟩ = some (.int .i64 a0_9) := (blk_cell BK152.out 9).trans rfl
                      have hcz58_10 : wc.cell? ⟨gb152, 10, none⟩ = some (.int .i64 a0_10) := (blk_cell BK152.out 10).trans rfl
                      have hfz58_0 := blk_frozen BK152.out 0
                      have hfz58_1 := blk_frozen BK152.out 1
                      have hfz58_2 := blk_frozen BK152.out 2
                      have hfz58_3 := blk_frozen BK152.out 3
                      have hfz58_4 := blk_frozen BK152.out 4
                      have hfz58_5 := blk_frozen BK152.out 5
                      have hfz58_6 := blk_frozen BK152.out 6
                      have hfz58_7 := blk_frozen BK152.out 7
                      have hfz58_8 := blk_frozen BK152.out 8
                      have hfz58_9 := blk_frozen BK152.out 9
                      have hfz58_10 := blk_frozen BK152.out 10
                      go_wp2_with (first | ((with_reducible refine gate_callee (f := 83) rfl ?_); refine goesL_ (some 49) rfl rfl Try.func83 (by kernel_rfl) rfl #[.int .i64 a0_8, .int .i64 2147483647] rfl (by (try simp only [List.map_toArray, List.map_cons, List.map_nil]); first | done | rfl | (simp only [List.length_drop, List.length_take]; rfl)) ?_; (with_reducible refine (events_in.calls a0_8 2147483647 true _ A30.out).mono ?_); rintro e w' ⟨rfl, ⟨nd, rfl⟩⟩; refine ⟨_, rfl, ?_⟩) | (go_at_call 83; (with_reducible refine (events_in.calls a0_9 2147483647 false _ A32.out).mono ?_); rintro e w' ⟨rfl, ⟨nd, rfl⟩⟩) | (go_at_call 83; (with_reducible refine (events_in.calls a0_5 8 false _ A52.out).mono ?_); rintro e w' ⟨rfl, ⟨nd, rfl⟩⟩))
                      go_ret
                      exact ⟨by first | rfl | (simp [errW_none, errW_some] <;> rfl) | (simp [*, errW_none, errW_some] <;> rfl), by repeat (first | (with_reducible first | exact HB.out | apply below_alloc | apply pw_below_drewN | apply below_drew1 | refine below_set ?_ GE152.out) | exact HB.out)⟩
                · rw [if_neg c49] at H
                  have c49b0 : decide (a0_1 ≤ 13) = false := decide_eq_false c49
                  clear c49
                  obtain rfl := Option.some.inj H
                  have hcz59_0 : wc.cell? ⟨gb152, 0, none⟩ = some (.int .u8 a0_0) := (blk_cell BK152.out 0).trans rfl
                  have hcz59_1 : wc.cell? ⟨gb152, 1, none⟩ = some (.int .u8 a0_1) := (blk_cell BK152.out 1).trans rfl
                  have hcz59_2 : wc.cell? ⟨gb152, 2, none⟩ = some (.int .u8 a0_2) := (blk_cell BK152.out 2).trans rfl
                  have hcz59_3 : wc.cell? ⟨gb152, 3, none⟩ = some (.int .u8 a0_3) := (blk_cell BK152.out 3).trans rfl
                  have hcz59_4 : wc.cell? ⟨gb152, 4, none⟩ = some (.int .u8 a0_4) := (blk_cell BK152.out 4).trans rfl
                  have hcz59_5 : wc.cell? ⟨gb152, 5, none⟩ = some (.int .i64 a0_5) := (blk_cell BK152.out 5).trans rfl
                  have hcz59_6 : wc.cell? ⟨gb152, 6, none⟩ = some (.int .i64 a0_6) := (blk_cell BK152.out 6).trans rfl
                  have hcz59_7 : wc.cell? ⟨gb152, 7, none⟩ = some (.int .u64 a0_7) := (blk_cell BK152.out 7).trans rfl
                  have hcz59_8 : wc.cell? ⟨gb152, 8, none⟩ = some (.int .i64 a0_8) := (blk_cell BK152.out 8).trans rfl
                  have hcz59_9 : wc.cell? ⟨gb152, 9, none⟩ = some (.int .i64 a0_9) := (blk_cell BK152.out 9).trans rfl
                  have hcz59_10 : wc.cell? ⟨gb152, 10, none⟩ = some (.int .i64 a0_10) := (blk_cell BK152.out 10).trans rfl
                  have hfz59_0 := blk_frozen BK152.out 0
                  have hfz59_1 := blk_frozen BK152.out 1
                  have hfz59_2 := blk_frozen BK152.out 2
                  have hfz59_3 := blk_frozen BK152.out 3
                  have hfz59_4 := blk_frozen BK152.out 4
                  have hfz59_5 := blk_frozen BK152.out 5
                  have hfz59_6 := blk_frozen BK152.out 6
                  have hfz59_7 := blk_frozen BK152.out 7
                  have hfz59_8 := blk_frozen BK152.out 8
                  have hfz59_9 := blk_frozen BK152.out 9
                  have hfz59_10 := blk_frozen BK152.out 10
                  go_wp2_with (first | ((with_reducible refine gate_callee (f := 83) rfl ?_); refine goesL_ (some 49) rfl rfl Try.func83 (by kernel_rfl) rfl #[.int .i64 a0_8, .int .i64 2147483647] rfl (by (try simp only [List.map_toArray, List.map_cons, List.map_nil]); first | done | rfl | (simp only [List.length_drop, List.length_take]; rfl)) ?_; (with_reducible refine (events_in.calls a0_8 2147483647 true _ A30.out).mono ?_); rintro e w' ⟨rfl, ⟨nd, rfl⟩⟩; refine ⟨_, rfl, ?_⟩) | (go_at_call 83; (with_reducible refine (events_in.calls a0_9 2147483647 false _ A32.out).mono ?_); rintro e w' ⟨rfl, ⟨nd, rfl⟩⟩))
                  go_ret
                  exact ⟨by first | rfl | (simp [errW_none, errW_some] <;> rfl) | (simp [*, errW_none, errW_some] <;> rfl), by repeat (first | (with_reducible first | exact HB.out | apply below_alloc | apply pw_below_drewN | apply below_drew1 | refine below_set ?_ GE152.out) | exact HB.out)⟩
              · replace c48 := Bool.eq_false_iff.mpr c48
                subst c48
                have H1 : (some false) = some r := by rw [if_neg (show ¬ (false = true) by decide)] at H; exact H
                clear H
                have H := H1
                clear H1
                obtain rfl := Option.some.inj H
                have hcz60_0 : wc.cell? ⟨gb152, 0, none⟩ = some (.int .u8 a0_0) := (blk_cell BK152.out 0).trans rfl
                have hcz60_1 : wc.cell? ⟨gb152, 1, none⟩ = some (.int .u8 a0_1) := (blk_cell BK152.out 1).trans rfl
                have hcz60_2 : wc.cell? ⟨gb152, 2, none⟩ = some (.int .u8 a0_2) := (blk_cell BK152.out 2).trans rfl
                have hcz60_3 : wc.cell? ⟨gb152, 3, none⟩ = some (.int .u8 a0_3) := (blk_cell BK152.out 3).trans rfl
                have hcz60_4 : wc.cell? ⟨gb152, 4, none⟩ = some (.int .u8 a0_4) := (blk_cell BK152.out 4).trans rfl
                have hcz60_5 : wc.cell? ⟨gb152, 5, none⟩ = some (.int .i64 a0_5) := (blk_cell BK152.out 5).trans rfl
                have hcz60_6 : wc.cell? ⟨gb152, 6, none⟩ = some (.int .i64 a0_6) := (blk_cell BK152.out 6).trans rfl
                have hcz60_7 : wc.cell? ⟨gb152, 7, none⟩ = some (.int .u64 a0_7) := (blk_cell BK152.out 7).trans rfl
                have hcz60_8 : wc.cell? ⟨gb152, 8, none⟩ = some (.int .i64 a0_8) := (blk_cell BK152.out 8).trans rfl
                have hcz60_9 : wc.cell? ⟨gb152, 9, none⟩ = some (.int .i64 a0_9) := (blk_cell BK152.out 9).trans rfl
                have hcz60_10 : wc.cell? ⟨gb152, 10, none⟩ = some (.int .i64 a0_10) := (blk_cell BK152.out 10).trans rfl
                have hfz60_0 := blk_frozen BK152.out 0
                have hfz60_1 := blk_frozen BK152.out 1
                have hfz60_2 := blk_frozen BK152.out 2
                have hfz60_3 := blk_frozen BK152.out 3
                have hfz60_4 := blk_frozen BK152.out 4
                have hfz60_5 := blk_frozen BK152.out 5
                have hfz60_6 := blk_frozen BK152.out 6
                have hfz60_7 := blk_frozen BK152.out 7
                have hfz60_8 := blk_frozen BK152.out 8
                have hfz60_9 := blk_frozen BK152.out 9
                have hfz60_10 := blk_frozen BK152.out 10
                go_wp2_with (first | ((with_reducible refine gate_callee (f := 83) rfl ?_); refine goesL_ (some 49) rfl rfl Try.func83 (by kernel_rfl) rfl #[.int .i64 a0_8, .int .i64 2147483647] rfl (by (try simp only [List.map_toArray, List.map_cons, List.map_nil]); first | done | rfl | (simp only [List.length_drop, List.length_take]; rfl)) ?_; (with_reducible refine (events_in.calls a0_8 2147483647 true _ A30.out).mono ?_); rintro e w' ⟨rfl, ⟨nd, rfl⟩⟩; refine ⟨_, rfl, ?_⟩) | (go_at_call 83; (with_reducible refine (events_in.calls a0_9 2147483647 false _ A32.out).mono ?_); rintro e w' ⟨rfl, ⟨nd, rfl⟩⟩))
                go_ret
                exact ⟨by first | rfl | (simp [errW_none, errW_some] <;> rfl) | (simp [*, errW_none, errW_some] <;> rfl), by repeat (first | (with_reducible first | exact HB.out | apply below_alloc | apply pw_below_drewN | apply below_drew1 | refine below_set ?_ GE152.out) | exact HB.out)⟩
          · replace c31 := Bool.eq_false_iff.mpr c31
            subst c31
            have H1 : (if x3_1 = true then (if a0_1 ≤ 13 then (if x5_7 = true then (some false) else ((events_in.f a0_5 8).bind fun t161 => (if t161 = true then ((events_in.f a0_6 65535).bind fun t162 => (if t162 = true then (some false) else (some false))) else (some false)))) else (some false)) else (some false)) = some r := by rw [if_neg (show ¬ (false = true) by decide)] at H; exact H
            clear H
            have H := H1
            clear H1
            by_cases c61 : x3_1 = true
            · subst c61
              have H1 : (if a0_1 ≤ 13 then (if x5_7 = true then (some false) else ((events_in.f a0_5 8).bind fun t161 => (if t161 = true then ((events_in.f a0_6 65535).bind fun t162 => (if t162 = true then (some false) else (some false))) else (some false)))) else (some false)) = some r := by rw [if_pos rfl] at H; exact H
              clear H
              have H := H1
              clear H1
              by_cases c62 : a0_1 ≤ 13
              · rw [if_pos c62] at H
                have c62b0 : decide (a0_1 ≤ 13) = true := decide_eq_true c62
                clear c62
                by_cases c63 : x5_7 = true
                · subst c63
                  have H1 : (some false) = some r := by rw [if_pos rfl] at H; exact H
                  clear H
                  have H := H1
                  clear H1
                  obtain rfl := Option.some.inj H
                  have hcz64_0 : wc.cell? ⟨gb152, 0, none⟩ = some (.int .u8 a0_0) := (blk_cell BK152.out 0).trans rfl
                  have hcz64_1 : wc.cell? ⟨gb152, 1, none⟩ = some (.int .u8 a0_1) := (blk_cell BK152.out 1).trans rfl
                  have hcz64_2 : wc.cell? ⟨gb152, 2, none⟩ = some (.int .u8 a0_2) := (blk_cell BK152.out 2).trans rfl
                  have hcz64_3 : wc.cell? ⟨gb152, 3, none⟩ = some (.int .u8 a0_3) := (blk_cell BK152.out 3).trans rfl
                  have hcz64_4 : wc.cell? ⟨gb152, 4, none⟩ = some (.int .u8 a0_4) := (blk_cell BK152.out 4).trans rfl
                  have hcz64_5 : wc.cell? ⟨gb152, 5, none⟩ = some (.int .i64 a0_5) := (blk_cell BK152.out 5).trans rfl
                  have hcz64_6 : wc.cell? ⟨gb152, 6, none⟩ = some (.int .i64 a0_6) := (blk_cell BK152.out 6).trans rfl
                  have hcz64_7 : wc.cell? ⟨gb152, 7, none⟩ = some (.int .u64 a0_7) := (blk_cell BK152.out 7).trans rfl
                  have hcz64_8 : wc.cell? ⟨gb152, 8, none⟩ = some (.int .i64 a0_8) := (blk_cell BK152.out 8).trans rfl
                  have hcz64_9 : wc.cell? ⟨gb152, 9, none⟩ = some (.int .i64 a0_9) := (blk_cell BK152.out 9).trans rfl
                  have hcz64_10 : wc.cell? ⟨gb152, 10, none⟩ = some (.int .i64 a0_10) := (blk_cell BK152.out 10).trans rfl
                  have hfz64_0 := blk_frozen BK152.out 0
                  have hfz64_1 := blk_frozen BK152.out 1
                  have hfz64_2 := blk_frozen BK152.out 2
                  have hfz64_3 := blk_frozen BK152.out 3
                  have hfz64_4 := blk_frozen BK152.out 4
                  have hfz64_5 := blk_frozen BK152.out 5
                  have hfz64_6 := blk_frozen BK152.out 6
                  have hfz64_7 := blk_frozen BK152.out 7
                  have hfz64_8 := blk_frozen BK152.out 8
                  have hfz64_9 := blk_frozen BK152.out 9
                  have hfz64_10 := blk_frozen BK152.out 10
                  go_wp2_with (first | ((with_reducible refine gate_callee (f := 83) rfl ?_); refine goesL_ (some 49) rfl rfl Try.func83 (by kernel_rfl) rfl #[.int .i64 a0_8, .int .i64 2147483647] rfl (by (try simp only [List.map_toArray, List.map_cons, List.map_nil]); first | done | rfl | (simp only [List.length_drop, List.length_take]; rfl)) ?_; (with_reducible refine (events_in.calls a0_8 2147483647 false _ A30.out).mono ?_); rintro e w' ⟨rfl, ⟨nd, rfl⟩⟩; refine ⟨_, rfl, ?_⟩))
                  go_ret
                  exact ⟨by first | rfl | (simp [errW_none, errW_some] <;> rfl) | (simp [*, errW_none, errW_some] <;> rfl), by repeat (first | (with_reducible first | exact HB.out | apply below_alloc | apply pw_below_drewN | apply below_drew1 | refine below_set ?_ GE152.out) | exact HB.out)⟩
                · replace c63 := Bool.eq_false_iff.mpr c63
                  subst c63
                  have H1 : ((events_in.f a0_5 8).bind fun t161 => (if t161 = true then ((events_in.f a0_6 65535).bind fun t162 => (if t162 = true then (some false) else (some false))) else (some false))) = some r := by rw [if_neg (show ¬ (false = true) by decide)] at H; exact H
                  clear H
                  have H := H1
                  clear H1
                  replace H := Option.bind_eq_some_iff.mp H
                  obtain ⟨t161, A650, H⟩ := H
                  replace H : (if t161 = true then ((events_in.f a0_6 65535).bind fun t162 => (if t162 = true then (some false) else (some false))) else (some false)) = some r := H
                  have A65 := Aside0.mk A650
                  clear A650
                  by_cases c66 : t161 = true
                  · subst c66
                    have H1 : ((events_in.f a0_6 65535).bind fun t162 => (if t162 = true then (some false) else (some false))) = some r := by rw [if_pos rfl] at H; exact H
                    clear H
                    have H := H1
                    clear H1
                    replace H := Option.bind_eq_some_iff.mp H
                    obtain ⟨t162, A670, H⟩ := H
                    replace H : (if t162 = true then (some false) else (some false)) = some r := H
                    have A67 := Aside0.mk A670
                    clear A670
                    by_cases c68 : t162 = true
                    · subst c68
                      have H1 : (some false) = some r := by rw [if_pos rfl] at H; exact H
                      clear H
                      have H := H1
                      clear H1
                      obtain rfl := Option.some.inj H
                      have hcz69_0 : wc.cell? ⟨gb152, 0, none⟩ = some (.int .u8 a0_0) := (blk_cell BK152.out 0).trans rfl
                      have hcz69_1 : wc.cell? ⟨gb152, 1, none⟩ = some (.int .u8 a0_1) := (blk_cell BK152.out 1).trans rfl
                      have hcz69_2 : wc.cell? ⟨gb152, 2, none⟩ = some (.int .u8 a0_2) := (blk_cell BK152.out 2).trans rfl
                      have hcz69_3 : wc.cell? ⟨gb152, 3, none⟩ = some (.int .u8 a0_3) := (blk_cell BK152.out 3).trans rfl
                      have hcz69_4 : wc.cell? ⟨gb152, 4, none⟩ = some (.int .u8 a0_4) := (blk_cell BK152.out 4).trans rfl
                      have hcz69_5 : wc.cell? ⟨gb152, 5, none⟩ = some (.int .i64 a0_5) := (blk_cell BK152.out 5).trans rfl
                      have hcz69_6 : wc.cell? ⟨gb152, 6, none⟩ = some (.int .i64 a0_6) := (blk_cell BK152.out 6).trans rfl
                      have hcz69_7 : wc.cell? ⟨gb152, 7, none⟩ = some (.int .u64 a0_7) := (blk_cell BK152.out 7).trans rfl
                      have hcz69_8 : wc.cell? ⟨gb152, 8, none⟩ = some (.int .i64 a0_8) := (blk_cell BK152.out 8).trans rfl
                      have hcz69_9 : wc.cell? ⟨gb152, 9, none⟩ = some (.int .i64 a0_9) := (blk_cell BK152.out 9).trans rfl
                      have hcz69_10 : wc.cell? ⟨gb152, 10, none⟩ = some (.int .i64 a0_10) := (blk_cell BK152.out 10).trans rfl
                      have hfz69_0 := blk_frozen BK152.out 0
                      have hfz69_1 := blk_frozen BK152.out 1
                      have hfz69_2 := blk_frozen BK152.out 2
                      have hfz69_3 := blk_frozen BK152.out 3
                      have hfz69_4 := blk_frozen BK152.out 4
                      have hfz69_5 := blk_frozen BK152.out 5
                      have hfz69_6 := blk_frozen BK152.out 6
                      have hfz69_7 := blk_frozen BK152.out 7
                      have hfz69_8 := blk_frozen BK152.out 8
                      have hfz69_9 := blk_frozen BK152.out 9
                      have hfz69_10 := blk_frozen BK152.out 10
                      go_wp2_with (first | ((with_reducible refine gate_callee (f := 83) rfl ?_); refine goesL_ (some 49) rfl rfl Try.func83 (by kernel_rfl) rfl #[.int .i64 a0_8, .int .i64 2147483647] rfl (by (try simp only [List.map_toArray, List.map_cons, List.map_nil]); first | done | rfl | (simp only [List.length_drop, List.length_take]; rfl)) ?_; (with_reducible refine (events_in.calls a0_8 2147483647 false _ A30.out).mono ?_); rintro e w' ⟨rfl, ⟨nd, rfl⟩⟩; refine ⟨_, rfl, ?_⟩) | (go_at_call 83; (with_reducible refine (events_in.calls a0_5 8 true _ A65.out).mono ?_); rintro e w' ⟨rfl, ⟨nd, rfl⟩⟩) | (go_at_call 83; (with_reducible refine (events_in.calls a0_6 65535 true _ A67.out).mono ?_); rintro e w' ⟨rfl, ⟨nd, rfl⟩⟩))
                      go_ret
                      exact ⟨by first | rfl | (simp [errW_none, errW_some] <;> rfl) | (simp [*, errW_none, errW_some] <;> rfl), by repeat (first | (with_reducible first | exact HB.out | apply below_alloc | apply pw_below_drewN | apply below_drew1 | refine below_set ?_ GE152.out) | exact HB.out)⟩
                    · replace c68 := Bool.eq_false_iff.mpr c68
                      subst c68
                      have H1 : (some false) = some r := by rw [if_neg (show ¬ (false = true) by decide)] at H; exact H
                      clear H
                      have H := H1
                      clear H1
                      obtain rfl := Option.some.inj H
                      have hcz70_0 : wc.cell? ⟨gb152, 0, none⟩ = some (.int .u8 a0_0) := (blk_cell BK152.out 0).trans rfl
                      have hcz70_1 : wc.cell? ⟨gb152, 1, none⟩ = some (.int .u8 a0_1) := (blk_cell BK152.out 1).trans rfl
                      have hcz70_2 : wc.cell? ⟨gb152, 2, none⟩ = some (.int .u8 a0_2) := (blk_cell BK152.out 2).trans rfl
                      have hcz70_3 : wc.cell? ⟨gb152, 3, none⟩ = some (.int .u8 a0_3) := (blk_cell BK152.out 3).trans rfl
                      have hcz70_4 : wc.cell? ⟨gb152, 4, none⟩ = some (.int .u8 a0_4) := (blk_cell BK152.out 4).trans rfl
                      have hcz70_5 : wc.cell? ⟨gb152, 5, none⟩ = some (.int .i64 a0_5) := (blk_cell BK152.out 5).trans rfl
                      have hcz70_6 : wc.cell? ⟨gb152, 6, none⟩ = some (.int .i64 a0_6) := (blk_cell BK152.out 6).trans rfl
                      have hcz70_7 : wc.cell? ⟨gb152, 7, none⟩ = some (.int .u64 a0_7) := (blk_cell BK152.out 7).trans rfl
                      have hcz70_8 : wc.cell? ⟨gb152, 8, none⟩ = some (.int .i64 a0_8) := (blk_cell BK152.out 8).trans rfl
                      have hcz70_9 : wc.cell? ⟨gb152, 9, none⟩ = some (.int .i64 a0_9) := (blk_cell BK152.out 9).trans rfl
                      have hcz70_10 : wc.cell? ⟨gb152, 10, none⟩ = some (.int .i64 a0_10) := (blk_cell BK152.out 10).trans rfl
                      have hfz70_0 := blk_frozen BK152.out 0
                      have hfz70_1 := blk_frozen BK152.out 1
                      have hfz70_2 := blk_frozen BK152.out 2
                      have hfz70_3 := blk_frozen BK152.out 3
                      have hfz70_4 := blk_frozen BK152.out 4
                      have hfz70_5 := blk_frozen BK152.out 5
                      have hfz70_6 := blk_frozen BK152.out 6
                      have hfz70_7 := blk_frozen BK152.out 7
                      have hfz70_8 := blk_frozen BK152.out 8
                      have hfz70_9 := blk_frozen BK152.out 9
                      have hfz70_10 := blk_frozen BK152.out 10
                      go_wp2_with (first | ((with_reducible refine gate_callee (f := 83) rfl ?_); refine goesL_ (some 49) rfl rfl Try.func83 (by kernel_rfl) rfl #[.int .i64 a0_8, .int .i64 2147483647] rfl (by (try simp only [List.map_toArray, List.map_cons, List.map_nil]); first | done | rfl | (simp only [List.length_drop, List.length_take]; rfl)) ?_; (with_reducible refine (events_in.calls a0_8 2147483647 false _ A30.out).mono ?_); rintro e w' ⟨rfl, ⟨nd, rfl⟩⟩; refine ⟨_, rfl, ?_⟩) | (go_at_call 83; (with_reducible refine (events_in.calls a0_5 8 true _ A65.out).mono ?_); rintro e w' ⟨rfl, ⟨nd, rfl⟩⟩) | (go_at_call 83; (with_reducible refine (events_in.calls a0_6 65535 false _ A67.out).mono ?_); rintro e w' ⟨rfl, ⟨nd, rfl⟩⟩))
                      go_ret
                      exact ⟨by first | rfl | (simp [errW_none, errW_some] <;> rfl) | (simp [*, errW_none, errW_some] <;> rfl), by repeat (first | (with_reducible first | exact HB.out | apply below_alloc | apply pw_below_drewN | apply below_drew1 | refine below_set ?_ GE152.out) | exact HB.out)⟩
                  · replace c66 := Bool.eq_false_iff.mpr c66
                    subst c66
                    have H1 : (some false) = some r := by rw [if_neg (show ¬ (false = true) by decide)] at H; exact H
                    clear H
                    have H := H1
                    clear H1
                    obtain rfl := Option.some.inj H
                    have hcz71_0 : wc.cell? ⟨gb152, 0, none⟩ = some (.int .u8 a0_0) := (blk_cell BK152.out 0).trans rfl
                    have hcz71_1 : wc.cell? ⟨gb152, 1, none⟩ = some (.int .u8 a0_1) := (blk_cell BK152.out 1).trans rfl
                    have hcz71_2 : wc.cell? ⟨gb152, 2, none⟩ = some (.int .u8 a0_2) := (blk_cell BK152.out 2).trans rfl
                    have hcz71_3 : wc.cell? ⟨gb152, 3, none⟩ = some (.int .u8 a0_3) := (blk_cell BK152.out 3).trans rfl
                    have hcz71_4 : wc.cell? ⟨gb152, 4, none⟩ = some (.int .u8 a0_4) := (blk_cell BK152.out 4).trans rfl
                    have hcz71_5 : wc.cell? ⟨gb152, 5, none⟩ = some (.int .i64 a0_5) := (blk_cell BK152.out 5).trans rfl
                    have hcz71_6 : wc.cell? ⟨gb152, 6, none⟩ = some (.int .i64 a0_6) := (blk_cell BK152.out 6).trans rfl
                    have hcz71_7 : wc.cell? ⟨gb152, 7, none⟩ = some (.int .u64 a0_7) := (blk_cell BK152.out 7).trans rfl
                    have hcz71_8 : wc.cell? ⟨gb152, 8, none⟩ = some (.int .i64 a0_8) := (blk_cell BK152.out 8).trans rfl
                    have hcz71_9 : wc.cell? ⟨gb152, 9, none⟩ = some (.int .i64 a0_9) := (blk_cell BK152.out 9).trans rfl
                    have hcz71_10 : wc.cell? ⟨gb152, 10, none⟩ = some (.int .i64 a0_10) := (blk_cell BK152.out 10).trans rfl
                    have hfz71_0 := blk_frozen BK152.out 0
                    have hfz71_1 := blk_frozen BK152.out 1
                    have hfz71_2 := blk_frozen BK152.out 2
                    have hfz71_3 := blk_frozen BK152.out 3
                    have hfz71_4 := blk_frozen BK152.out 4
                    have hfz71_5 := blk_frozen BK152.out 5
                    have hfz71_6 := blk_frozen BK152.out 6
                    have hfz71_7 := blk_frozen BK152.out 7
                    have hfz71_8 := blk_frozen BK152.out 8
                    have hfz71_9 := blk_frozen BK152.out 9
                    have hfz71_10 := blk_frozen BK152.out 10
                    go_wp2_with (first | ((with_reducible refine gate_callee (f := 83) rfl ?_); refine goesL_ (some 49) rfl rfl Try.func83 (by kernel_rfl) rfl #[.int .i64 a0_8, .int .i64 2147483647] rfl (by (try simp only [List.map_toArray, List.map_cons, List.map_nil]); first | done | rfl | (simp only [List.length_drop, List.length_take]; rfl)) ?_; (with_reducible refine (events_in.calls a0_8 2147483647 false _ A30.out).mono ?_); rintro e w' ⟨rfl, ⟨nd, rfl⟩⟩; refine ⟨_, rfl, ?_⟩) | (go_at_call 83; (with_reducible refine (events_in.calls a0_5 8 false _ A65.out).mono ?_); rintro e w' ⟨rfl, ⟨nd, rfl⟩⟩))
                    go_ret
                    exact ⟨by first | rfl | (simp [errW_none, errW_some] <;> rfl) | (simp [*, errW_none, errW_some] <;> rfl), by repeat (first | (with_reducible first | exact HB.out | apply below_alloc | apply pw_below_drewN | apply below_drew1 | refine below_set ?_ GE152.out) | exact HB.out)⟩
              · rw [if_neg c62] at H
                have c62b0 : decide (a0_1 ≤ 13) = false := decide_eq_false c62
                clear c62
                obtain rfl := Option.some.inj H
                have hcz72_0 : wc.cell? ⟨gb152, 0, none⟩ = some (.int .u8 a0_0) := (blk_cell BK152.out 0).trans rfl
                have hcz72_1 : wc.cell? ⟨gb152, 1, none⟩ = some (.int .u8 a0_1) := (blk_cell BK152.out 1).trans rfl
                have hcz72_2 : wc.cell? ⟨gb152, 2, none⟩ = some (.int .u8 a0_2) := (blk_cell BK152.out 2).trans rfl
                have hcz72_3 : wc.cell? ⟨gb152, 3, none⟩ = some (.int .u8 a0_3) := (blk_cell BK152.out 3).trans rfl
                have hcz72_4 : wc.cell? ⟨gb152, 4, none⟩ = some (.int .u8 a0_4) := (blk_cell BK152.out 4).trans rfl
                have hcz72_5 : wc.cell? ⟨gb152, 5, none⟩ = some (.int .i64 a0_5) := (blk_cell BK152.out 5).trans rfl
                have hcz72_6 : wc.cell? ⟨gb152, 6, none⟩ = some (.int .i64 a0_6) := (blk_cell BK152.out 6).trans rfl
                have hcz72_7 : wc.cell? ⟨gb152, 7, none⟩ = some (.int .u64 a0_7) := (blk_cell BK152.out 7).trans rfl
                have hcz72_8 : wc.cell? ⟨gb152, 8, none⟩ = some (.int .i64 a0_8) := (blk_cell BK152.out 8).trans rfl
                have hcz72_9 : wc.cell? ⟨gb152, 9, none⟩ = some (.int .i64 a0_9) := (blk_cell BK152.out 9).trans rfl
                have hcz72_10 : wc.cell? ⟨gb152, 10, none⟩ = some (.int .i64 a0_10) := (blk_cell BK152.out 10).trans rfl
                have hfz72_0 := blk_frozen BK152.out 0
                have hfz72_1 := blk_frozen BK152.out 1
                have hfz72_2 := blk_frozen BK152.out 2
                have hfz72_3 := blk_frozen BK152.out 3
                have hfz72_4 := blk_frozen BK152.out 4
                have hfz72_5 := blk_frozen BK152.out 5
                have hfz72_6 := blk_frozen BK152.out 6
                have hfz72_7 := blk_frozen BK152.out 7
                have hfz72_8 := blk_frozen BK152.out 8
                have hfz72_9 := blk_frozen BK152.out 9
                have hfz72_10 := blk_frozen BK152.out 10
                go_wp2_with (first | ((with_reducible refine gate_callee (f := 83) rfl ?_); refine goesL_ (some 49) rfl rfl Try.func83 (by kernel_rfl) rfl #[.int .i64 a0_8, .int .i64 2147483647] rfl (by (try simp only [List.map_toArray, List.map_cons, List.map_nil]); first | done | rfl | (simp only [List.length_drop, List.length_take]; rfl)) ?_; (with_reducible refine (events_in.calls a0_8 2147483647 false _ A30.out).mono ?_); rintro e w' ⟨rfl, ⟨nd, rfl⟩⟩; refine ⟨_, rfl, ?_⟩))
                go_ret
                exact ⟨by first | rfl | (simp [errW_none, errW_some] <;> rfl) | (simp [*, errW_none, errW_some] <;> rfl), by repeat (first | (with_reducible first | exact HB.out | apply below_alloc | apply pw_below_drewN | apply below_drew1 | refine below_set ?_ GE152.out) | exact HB.out)⟩
            · replace c61 := Bool.eq_false_iff.mpr c61
              subst c61
              have H1 : (some false) = some r := by rw [if_neg (show ¬ (false = true) by decide)] at H; exact H
              clear H
              have H := H1
              clear H1
              obtain rfl := Option.some.inj H
              have hcz73_0 : wc.cell? ⟨gb152, 0, none⟩ = some (.int .u8 a0_0) := (blk_cell BK152.out 0).trans rfl
              have hcz73_1 : wc.cell? ⟨gb152, 1, none⟩ = some (.int .u8 a0_1) := (blk_cell BK152.out 1).trans rfl
              have hcz73_2 : wc.cell? ⟨gb152, 2, none⟩ = some (.int .u8 a0_2) := (blk_cell BK152.out 2).trans rfl
              have hcz73_3 : wc.cell? ⟨gb152, 3, none⟩ = some (.int .u8 a0_3) := (blk_cell BK152.out 3).trans rfl
              have hcz73_4 : wc.cell? ⟨gb152, 4, none⟩ = some (.int .u8 a0_4) := (blk_cell BK152.out 4).trans rfl
              have hcz73_5 : wc.cell? ⟨gb152, 5, none⟩ = some (.int .i64 a0_5) := (blk_cell BK152.out 5).trans rfl
              have hcz73_6 : wc.cell? ⟨gb152, 6, none⟩ = some (.int .i64 a0_6) := (blk_cell BK152.out 6).trans rfl
              have hcz73_7 : wc.cell? ⟨gb152, 7, none⟩ = some (.int .u64 a0_7) := (blk_cell BK152.out 7).trans rfl
              have hcz73_8 : wc.cell? ⟨gb152, 8, none⟩ = some (.int .i64 a0_8) := (blk_cell BK152.out 8).trans rfl
              have hcz73_9 : wc.cell? ⟨gb152, 9, none⟩ = some (.int .i64 a0_9) := (blk_cell BK152.out 9).trans rfl
              have hcz73_10 : wc.cell? ⟨gb152, 10, none⟩ = some (.int .i64 a0_10) := (blk_cell BK152.out 10).trans rfl
              have hfz73_0 := blk_frozen BK152.out 0
              have hfz73_1 := blk_frozen BK152.out 1
              have hfz73_2 := blk_frozen BK152.out 2
              have hfz73_3 := blk_frozen BK152.out 3
              have hfz73_4 := blk_frozen BK152.out 4
              have hfz73_5 := blk_frozen BK152.out 5
              have hfz73_6 := blk_frozen BK152.out 6
              have hfz73_7 := blk_frozen BK152.out 7
              have hfz73_8 := blk_frozen BK152.out 8
              have hfz73_9 := blk_frozen BK152.out 9
              have hfz73_10 := blk_frozen BK152.out 10
              go_wp2_with (first | ((with_reducible refine gate_callee (f := 83) rfl ?_); refine goesL_ (some 49) rfl rfl Try.func83 (by kernel_rfl) rfl #[.int .i64 a0_8, .int .i64 2147483647] rfl (by (try simp only [List.map_toArray, List.map_cons, List.map_nil]); first | done | rfl | (simp only [List.length_drop, List.length_take]; rfl)) ?_; (with_reducible refine (events_in.calls a0_8 2147483647 false _ A30.out).mono ?_); rintro e w' ⟨rfl, ⟨nd, rfl⟩⟩; refine ⟨_, rfl, ?_⟩))
              go_ret
              exact ⟨by first | rfl | (simp [errW_none, errW_some] <;> rfl) | (simp [*, errW_none, errW_some] <;> rfl), by repeat (first | (with_reducible first | exact HB.out | apply below_alloc | apply pw_below_drewN | apply below_drew1 | refine below_set ?_ GE152.out) | exact HB.out)⟩

end Go.Proofs.Ytgojfecpknonlaa.PSt

