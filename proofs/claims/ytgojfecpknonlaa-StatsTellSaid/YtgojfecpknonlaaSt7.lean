/- The known events: function 20 answers true. -/
import Derived.Test.YtgojfecpknonlaaSt6
namespace Go.Proofs.Ytgojfecpknonlaa.St
open Go.RowKit Go.Proofs.YtgojfecpknonlaaW.PrintWords Go.Proofs.YtgojfecpknonlaaW.PrintLast Go.Proofs.YtgojfecpknonlaaW.PrintMore
open Go.Proofs.Ytgojfecpknonlaa.Own Go.Proofs.Ytgojfecpknonlaa.PSt
set_option linter.unusedVariables false
set_option linter.unusedSimpArgs false

def w1e : S58 := ⟨0, 1, 0, 0, 0, 0, 0, 0, 1, 0, 4⟩
def w2e : S58 := ⟨1, 9, 0, 0, 0, 5, 0, 0, 4, 0, 4⟩
def w3e : S58 := ⟨255, 13, 0, 0, 0, 0, 0, 0, 3, 0, 2⟩
def re58 (d : S58) : S72 := ⟨d.f0, ⟨d.f1, d.f2, d.f3, d.f4⟩, ⟨d.f5, d.f6, d.f7⟩, d.f8, d.f9, d.f10⟩
def wl : List S72 := [re58 w1e, re58 w2e, re58 w3e]
def wx : List S72 := [⟨64, ⟨0, 0, 0, 0⟩, ⟨0, 0, 0⟩, 0, 0, 0⟩]
theorem of36_w : demesnelaw36_Of.f 10 [w1e, w2e, w3e] = some wl := by kernel_rfl
theorem peak_w : stats_peak.f 10 wl = some 2 := by kernel_rfl
theorem under_w : stats_Under.f 10 wl 4 = some 2 := by kernel_rfl
theorem bad_w : wl.any bad = false := by decide +kernel
theorem bad_x : wx.any bad = true := by decide +kernel
theorem wf_w : ∀ d ∈ wl, Wf (un72 d) := by
  intro d hd
  simp only [wl, List.mem_cons, List.not_mem_nil, or_false] at hd
  rcases hd with rfl | rfl | rfl <;> constructor <;> decide
theorem wf_x : ∀ d ∈ wx, Wf (un72 d) := by
  intro d hd
  simp only [wx, List.mem_cons, List.not_mem_nil, or_false] at hd
  subst hd
  constructor <;> decide
theorem cell_w0 : (scells (tsOf wl) (bsOf wl) 2)[0]? = some (.int .i64 3) := by kernel_rfl
theorem cell_w1 : (scells (tsOf wl) (bsOf wl) 2)[1]? = some (.int .i64 1) := by kernel_rfl
theorem cell_w2 : (scells (tsOf wl) (bsOf wl) 2)[2]? = some (.int .i64 5) := by kernel_rfl
theorem cell_w3 : (scells (tsOf wl) (bsOf wl) 2)[3]? = some (.int .i64 4) := by kernel_rfl
theorem cell_w316 : (scells (tsOf wl) (bsOf wl) 2)[316]? = some (.int .i64 1) := by kernel_rfl
theorem cell_w317 : (scells (tsOf wl) (bsOf wl) 2)[317]? = some (.int .i64 0) := by kernel_rfl
theorem cell_w318 : (scells (tsOf wl) (bsOf wl) 2)[318]? = some (.int .i64 0) := by kernel_rfl
theorem cell_w319 : (scells (tsOf wl) (bsOf wl) 2)[319]? = some (.int .i64 0) := by kernel_rfl
theorem cell_w11 : (scells (tsOf wl) (bsOf wl) 2)[11]? = some (.int .i64 4) := by kernel_rfl
theorem cell_w320 : (scells (tsOf wl) (bsOf wl) 2)[320]? = some (.int .i64 1) := by kernel_rfl
theorem cell_w321 : (scells (tsOf wl) (bsOf wl) 2)[321]? = some (.int .i64 1) := by kernel_rfl
theorem cell_w323 : (scells (tsOf wl) (bsOf wl) 2)[323]? = some (.int .i64 1) := by kernel_rfl
theorem cell_w337 : (scells (tsOf wl) (bsOf wl) 2)[337]? = some (.int .i64 2) := by kernel_rfl
theorem buck_w : ((min 16 (Lib.bitLen (70000 : Int).toNat) : Nat) : Int) = 16 := by decide +kernel

theorem Reps_single {α : Type} {r : α → List Value → Prop} {n : Nat} {x : α} {cs : List Value} (hl : cs.length = n) (h : r x cs) : Reps r n [x] cs := by
  refine ⟨by simp [hl], fun j p hj => ?_⟩
  cases j with
  | zero =>
    simp at hj
    subst hj
    rw [Nat.zero_mul, List.drop_zero, ← hl, List.take_length]
    exact h
  | succ j => simp at hj
theorem Reps_more {α : Type} {r : α → List Value → Prop} {n : Nat} {x : α} {xs : List α} {cs ds : List Value} (hl : cs.length = n) (h : r x cs) (ht : Reps r n xs ds) : Reps r n (x :: xs) (cs ++ ds) := by
  have := Reps_append (Reps_single hl h) ht
  simpa using this
theorem c58w (w : World) : Kd.C k58 (w.alloc (Obj.cells #[Value.int IntKind.u8 0, Value.int IntKind.u8 1, Value.int IntKind.u8 0, Value.int IntKind.u8 0, Value.int IntKind.u8 0, Value.int IntKind.i64 0, Value.int IntKind.i64 0, Value.int IntKind.u64 0, Value.int IntKind.i64 1, Value.int IntKind.i64 0, Value.int IntKind.i64 4, Value.int IntKind.u8 1, Value.int IntKind.u8 9, Value.int IntKind.u8 0, Value.int IntKind.u8 0, Value.int IntKind.u8 0, Value.int IntKind.i64 5, Value.int IntKind.i64 0, Value.int IntKind.u64 0, Value.int IntKind.i64 4, Value.int IntKind.i64 0, Value.int IntKind.i64 4, Value.int IntKind.u8 255, Value.int IntKind.u8 13, Value.int IntKind.u8 0, Value.int IntKind.u8 0, Value.int IntKind.u8 0, Value.int IntKind.i64 0, Value.int IntKind.i64 0, Value.int IntKind.u64 0, Value.int IntKind.i64 3, Value.int IntKind.i64 0, Value.int IntKind.i64 2] 58)) (some ⟨w.heap.size, 0, none⟩) [w1e, w2e, w3e].length [w1e, w2e, w3e] :=
  C_block k58 (blk_new w _) (Reps_more rfl (k58_mk _ w1e) (Reps_more rfl (k58_mk _ w2e) (Reps_single rfl (k58_mk _ w3e)))) (by decide)
theorem c72x (w : World) : Kd.C k72 (w.alloc (Obj.cells #[Value.int IntKind.u8 64, Value.int IntKind.u8 0, Value.int IntKind.u8 0, Value.int IntKind.u8 0, Value.int IntKind.u8 0, Value.int IntKind.i64 0, Value.int IntKind.i64 0, Value.int IntKind.u64 0, Value.int IntKind.i64 0, Value.int IntKind.i64 0, Value.int IntKind.i64 0] 72)) (some ⟨w.heap.size, 0, none⟩) wx.length wx :=
  C_block k72 (blk_new w _) (Reps_single rfl (k72_mk _ ⟨64, ⟨0, 0, 0, 0⟩, ⟨0, 0, 0⟩, 0, 0, 0⟩)) (by decide)
theorem sizeA {cs : List Value} (h : cs.length = 338) : (Try.prog.info? 48).map (·.size) = some cs.toArray.size := by
  rw [List.size_toArray, h]; exact size48
theorem fitA {cs : List Value} (h : cs.length = 338) : 0 + cs.toArray.size ≤ (Value.agg zero48.toArray).cells.toList.length := by
  rw [List.size_toArray, h]; exact Nat.le_of_eq len48.symm
theorem wholeA {cs : List Value} (h : cs.length = 338) : splice (Value.agg zero48.toArray).cells.toList 0 cs.toArray.toList = cs :=
  splice_whole _ _ (by rw [h]; exact len48.symm)
theorem len_w : (scells (tsOf wl) (bsOf wl) 2).length = 338 := by rw [scells_length, tsOf_length, bsOf_length]

set_option maxHeartbeats 8000000 in
set_option maxRecDepth 100000 in
theorem wakes_calls (w : World) : Calls Try.prog 20 #[] w fun e w' => e = .returned (.bool true) ∧ Below w.heap.size w w' := by
  go_enter Try.func20, Try.ntmps20
  go_wp2_with (first
    | (go_at_call 22; refine (demesnelaw36_Of.calls 10 _ 3 _ _ _ (c58w w) (by decide) of36_w).mono ?_; rintro e w1 ⟨v1, rfl, hv1, hb1⟩; obtain ⟨A1, c1, rfl, hc1, hC1⟩ := Kd.R_reads hv1; have HC1 := Aside0.mk hC1; have HB1 := Aside0.mk (below_then (below_alloc (Below.refl w.heap.size w) _) (by simp) hb1); clear hv1 hC1 hb1; refine Aside0.out ?_))
  refine ⟨?_⟩
  go_wp2_with (first
    | (go_at_call 21; refine (of_good wl wf_w A1 c1 _ HC1.out hc1 (by decide) bad_w 10 2 peak_w).mono ?_; rintro e w2 ⟨rfl, hb2⟩; have HC2 := Aside0.mk (Kd.C_below HC1.out hb2); have HB2 := Aside0.mk (below_then HB1.out HB1.out.size hb2); clear hb2)
    | ((with_reducible refine gate_dst (N := 2) rfl ?_); refine alloc_event rfl (t := 48) rfl info48 ?_; intro g2 hg2 w3 hh3 hb3; have HG2 := Aside0.mk hg2; have HH3 := Aside0.mk hh3; have HX3 := Aside0.mk hb3; have HB3 := Aside0.mk (below_then HB2.out HB2.out.size hb3); clear hg2 hh3 hb3)
    | ((with_reducible refine gate_store (t := 48) (p := 2) rfl ?_); (refine store_agg_event rfl (ty := 48) rfl rfl (g := g2) (off := 0) (vs := (scells (tsOf wl) (bsOf wl) 2).toArray) rfl rfl HH3.out (fitA len_w) (sizeA len_w) (oneS _ _ _) ?_); intro w4 hh4 hs4; rw [wholeA len_w] at hh4; have HH4 := Aside0.mk hh4; have HC4 := Aside0.mk (Kd.C_below HC2.out (hs4.below HX3.out (Nat.le_of_eq HG2.out.symm))); have HB4 := Aside0.mk (hs4.below HB3.out (by rw [HG2.out]; exact HB2.out.size)); clear hh4 hs4; refine Aside0.out ?_))
  refine ⟨?_⟩
  clear HC1 HB1 HC2 HB2 HB3 HX3 HH3 HG2
  go_wp2_with (first
    | (go_at_call 21; (refine (of_bad wx wf_x _ 1 _ (c72x w4) (by decide) (by decide) bad_x).mono ?_); rintro e w5 ⟨rfl, hb5⟩; have hb5' := below_then (below_alloc (Below.refl w4.heap.size w4) _) (by simp) hb5; have HH5 := Aside0.mk (HH4.out.below hb5'); have HC5 := Aside0.mk (Kd.C_below HC4.out hb5'); have HB5 := Aside0.mk (below_then HB4.out HB4.out.size hb5'); clear hb5 hb5')
    | ((with_reducible refine gate_dst (N := 4) rfl ?_); refine alloc_event rfl (t := 48) rfl info48 ?_; intro g4 hg4 w6 hh6 hb6; have HG4 := Aside0.mk hg4; have HZ6 := Aside0.mk hh6; have HX6 := Aside0.mk hb6; clear hg4 hh6 hb6)
    | ((with_reducible refine gate_store (t := 48) (p := 4) rfl ?_); (refine store_agg_event rfl (ty := 48) rfl rfl (g := g4) (off := 0) (vs := zero48.toArray) rfl rfl HZ6.out (fitA len48) (sizeA len48) one48 ?_); intro w7 hh7 hs7; have hbb := hs7.below HX6.out (Nat.le_of_eq HG4.out.symm); have HH7 := Aside0.mk (HH5.out.below hbb); have HC7 := Aside0.mk (Kd.C_below HC5.out hbb); have HB7 := Aside0.mk (below_then HB5.out HB5.out.size hbb); clear hh7 hs7 hbb; refine Aside0.out ?_))
  refine ⟨?_⟩
  clear HH4 HC4 HB4 HH5 HC5 HB5 HZ6 HX6 HG4
  have hx0 : w7.cell? ⟨g2, 0, none⟩ = some (.int .i64 3) := (HH7.out.cell 0).trans cell_w0
  have hx1 : w7.cell? ⟨g2, 1, none⟩ = some (.int .i64 1) := (HH7.out.cell 1).trans cell_w1
  have hx2 : w7.cell? ⟨g2, 2, none⟩ = some (.int .i64 5) := (HH7.out.cell 2).trans cell_w2
  have hx3 : w7.cell? ⟨g2, 3, none⟩ = some (.int .i64 4) := (HH7.out.cell 3).trans cell_w3
  have hx11 : w7.cell? ⟨g2, 11, none⟩ = some (.int .i64 4) := (HH7.out.cell 11).trans cell_w11
  have hy0 : w7.cell? ⟨g2, 316, none⟩ = some (.int .i64 1) := (HH7.out.cell 316).trans cell_w316
  have hy1 : w7.cell? ⟨g2, 317, none⟩ = some (.int .i64 0) := (HH7.out.cell 317).trans cell_w317
  have hy2 : w7.cell? ⟨g2, 318, none⟩ = some (.int .i64 0) := (HH7.out.cell 318).trans cell_w318
  have hy3 : w7.cell? ⟨g2, 319, none⟩ = some (.int .i64 0) := (HH7.out.cell 319).trans cell_w319
  have hz0 : w7.cell? ⟨g2, 320, none⟩ = some (.int .i64 1) := (HH7.out.cell 320).trans cell_w320
  have hz1 : w7.cell? ⟨g2, 321, none⟩ = some (.int .i64 1) := (HH7.out.cell 321).trans cell_w321
  have hz3 : w7.cell? ⟨g2, 323, none⟩ = some (.int .i64 1) := (HH7.out.cell 323).trans cell_w323
  have hp : w7.cell? ⟨g2, 337, none⟩ = some (.int .i64 2) := (HH7.out.cell 337).trans cell_w337
  go_wp2_with (first
    | (go_at_call 31; refine (bucket_calls 70000 _ (by decide) (by decide)).mono ?_; rintro e we ⟨rfl, rfl⟩; rw [buck_w])
    | (go_at_call 32; refine (stats_Under.calls 10 A1 c1 wl 4 2 _ HC7.out hc1 under_w).mono ?_; rintro e w9 ⟨rfl, hb9⟩))
  go_ret
  exact ⟨rfl, below_then HB7.out HB7.out.size hb9⟩
end Go.Proofs.Ytgojfecpknonlaa.St
