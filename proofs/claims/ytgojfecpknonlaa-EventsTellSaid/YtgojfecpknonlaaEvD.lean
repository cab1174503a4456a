/- Events that are picked: the closures of events.Of, Between, Points, and those. -/
import Derived.Test.YtgojfecpknonlaaEvC
namespace Go.Proofs.Ytgojfecpknonlaa.Ev
open Go.RowKit Go.Proofs.YtgojfecpknonlaaW.PrintWords Go.Proofs.YtgojfecpknonlaaW.PrintLast Go.Proofs.YtgojfecpknonlaaW.PrintMore
open Go.Proofs.Ytgojfecpknonlaa.Own Go.Proofs.Ytgojfecpknonlaa.PSt
set_option linter.unusedVariables false
set_option linter.unusedSimpArgs false

def isAg (a : Int) (d : S72) : Bool := d.f0 == a
def isPt (d : S72) : Bool := decide (0 < d.f4)
def isBt (x y : Int) (d : S72) : Bool := decide (x ≤ d.f5) && decide (d.f3 < y)

set_option maxHeartbeats 2000000 in
set_option maxRecDepth 100000 in
theorem ag_calls (a : Int) (d : S72) (g : Nat) (w : World) (hg : w.heap[g]? = some (.cells #[.int .u8 a] 5 (0, 0))) :
    Calls Try.prog 88 #[ev d, .pointer (some ⟨g, 0, none⟩)] w fun e w' => e = .returned (.bool (isAg a d)) ∧ Below w.heap.size w w' := by
  have hx : w.cell? ⟨g, 0, none⟩ = some (.int .u8 a) := (blk_cell hg 0).trans rfl
  have HB := Aside0.mk (below_alloc (Below.refl w.heap.size w) (Obj.cells #[.int .u8 d.f0, .int .u8 d.f1.f0, .int .u8 d.f1.f1, .int .u8 d.f1.f2, .int .u8 d.f1.f3, .int .i64 d.f2.f0, .int .i64 d.f2.f1, .int .u64 d.f2.f2, .int .i64 d.f3, .int .i64 d.f4, .int .i64 d.f5] 72))
  have hx1 : (w.alloc (Obj.cells #[.int .u8 d.f0, .int .u8 d.f1.f0, .int .u8 d.f1.f1, .int .u8 d.f1.f2, .int .u8 d.f1.f3, .int .i64 d.f2.f0, .int .i64 d.f2.f1, .int .u64 d.f2.f2, .int .i64 d.f3, .int .i64 d.f4, .int .i64 d.f5] 72)).cell? ⟨g, 0, none⟩ = some (.int .u8 a) := pw_cell_below HB.out hx
  clear hg
  go_enter Try.func88, Try.ntmps88
  go_wp2
  go_ret
  exact ⟨rfl, HB.out⟩
set_option maxHeartbeats 2000000 in
set_option maxRecDepth 100000 in
theorem pt_calls (d : S72) (w : World) :
    Calls Try.prog 90 #[ev d] w fun e w' => e = .returned (.bool (isPt d)) ∧ Below w.heap.size w w' := by
  have HB := Aside0.mk (below_alloc (Below.refl w.heap.size w) (Obj.cells #[.int .u8 d.f0, .int .u8 d.f1.f0, .int .u8 d.f1.f1, .int .u8 d.f1.f2, .int .u8 d.f1.f3, .int .i64 d.f2.f0, .int .i64 d.f2.f1, .int .u64 d.f2.f2, .int .i64 d.f3, .int .i64 d.f4, .int .i64 d.f5] 72))
  go_enter Try.func90, Try.ntmps90
  go_wp2
  go_ret
  exact ⟨rfl, HB.out⟩
set_option maxHeartbeats 2000000 in
set_option maxRecDepth 100000 in
theorem bt_calls (x y : Int) (d : S72) (g g' : Nat) (w : World) (hg : w.heap[g]? = some (.cells #[.int .i64 x] 3 (0, 0))) (hg' : w.heap[g']? = some (.cells #[.int .i64 y] 3 (0, 0))) :
    Calls Try.prog 89 #[ev d, .pointer (some ⟨g, 0, none⟩), .pointer (some ⟨g', 0, none⟩)] w fun e w' => e = .returned (.bool (isBt x y d)) ∧ Below w.heap.size w w' := by
  have HB := Aside0.mk (below_alloc (Below.refl w.heap.size w) (Obj.cells #[.int .u8 d.f0, .int .u8 d.f1.f0, .int .u8 d.f1.f1, .int .u8 d.f1.f2, .int .u8 d.f1.f3, .int .i64 d.f2.f0, .int .i64 d.f2.f1, .int .u64 d.f2.f2, .int .i64 d.f3, .int .i64 d.f4, .int .i64 d.f5] 72))
  have hx1 : (w.alloc (Obj.cells #[.int .u8 d.f0, .int .u8 d.f1.f0, .int .u8 d.f1.f1, .int .u8 d.f1.f2, .int .u8 d.f1.f3, .int .i64 d.f2.f0, .int .i64 d.f2.f1, .int .u64 d.f2.f2, .int .i64 d.f3, .int .i64 d.f4, .int .i64 d.f5] 72)).cell? ⟨g, 0, none⟩ = some (.int .i64 x) := pw_cell_below HB.out ((blk_cell hg 0).trans rfl)
  have hx2 : (w.alloc (Obj.cells #[.int .u8 d.f0, .int .u8 d.f1.f0, .int .u8 d.f1.f1, .int .u8 d.f1.f2, .int .u8 d.f1.f3, .int .i64 d.f2.f0, .int .i64 d.f2.f1, .int .u64 d.f2.f2, .int .i64 d.f3, .int .i64 d.f4, .int .i64 d.f5] 72)).cell? ⟨g', 0, none⟩ = some (.int .i64 y) := pw_cell_below HB.out ((blk_cell hg' 0).trans rfl)
  clear hg hg'
  by_cases h1 : x ≤ d.f5
  · have c1 := decide_eq_true h1
    have E : Aside0 (isBt x y d = decide (d.f3 < y)) := ⟨by unfold isBt; rw [c1, Bool.true_and]⟩
    clear h1
    go_enter Try.func89, Try.ntmps89
    go_wp2
    go_ret
    exact ⟨by rw [E.out]; rfl, HB.out⟩
  · have c1 := decide_eq_false h1
    have E : Aside0 (isBt x y d = false) := ⟨by unfold isBt; rw [c1, Bool.false_and]⟩
    clear h1
    go_enter Try.func89, Try.ntmps89
    go_wp2
    go_ret
    exact ⟨by rw [E.out]; rfl, HB.out⟩

theorem ag_pred (a : Int) (g : Nat) (w : World) (hg : w.heap[g]? = some (.cells #[.int .u8 a] 5 (0, 0))) : Pred 88 #[.pointer (some ⟨g, 0, none⟩)] w.heap.size w (isAg a) :=
  ⟨fun args W => enters_ Try.func88 (by kernel_rfl) rfl args W, fun W d hb _ => ag_calls a d g W (blk_below hg hb)⟩
theorem pt_pred (w : World) : Pred 90 #[] w.heap.size w isPt :=
  ⟨fun args W => enters_ Try.func90 (by kernel_rfl) rfl args W, fun W d hb _ => pt_calls d W⟩
theorem bt_pred (x y : Int) (g g' : Nat) (w : World) (hg : w.heap[g]? = some (.cells #[.int .i64 x] 3 (0, 0))) (hg' : w.heap[g']? = some (.cells #[.int .i64 y] 3 (0, 0))) : Pred 89 #[.pointer (some ⟨g, 0, none⟩), .pointer (some ⟨g', 0, none⟩)] w.heap.size w (isBt x y) :=
  ⟨fun args W => enters_ Try.func89 (by kernel_rfl) rfl args W, fun W d hb _ => bt_calls x y d g g' W (blk_below hg hb) (blk_below hg' hb)⟩

set_option maxHeartbeats 2000000 in
set_option maxRecDepth 100000 in
theorem not_calls (f : FuncId) (lb : Array Value) (B : Nat) (W0 : World) (p : S72 → Bool) (hP : Pred f lb B W0 p) (d : S72) (g : Nat) (w : World) (hb0 : Below B W0 w) (hB : B ≤ w.heap.size) (hg : w.heap[g]? = some (.cells #[.func (.func f) #[] lb] 97 (0, 0))) :
    Calls Try.prog 109 #[ev d, .pointer (some ⟨g, 0, none⟩)] w fun e w' => e = .returned (.bool (!p d)) ∧ Below w.heap.size w w' := by
  have HB := Aside0.mk (below_alloc (Below.refl w.heap.size w) (Obj.cells #[.int .u8 d.f0, .int .u8 d.f1.f0, .int .u8 d.f1.f1, .int .u8 d.f1.f2, .int .u8 d.f1.f3, .int .i64 d.f2.f0, .int .i64 d.f2.f1, .int .u64 d.f2.f2, .int .i64 d.f3, .int .i64 d.f4, .int .i64 d.f5] 72))
  have hx1 : (w.alloc (Obj.cells #[.int .u8 d.f0, .int .u8 d.f1.f0, .int .u8 d.f1.f1, .int .u8 d.f1.f2, .int .u8 d.f1.f3, .int .i64 d.f2.f0, .int .i64 d.f2.f1, .int .u64 d.f2.f2, .int .i64 d.f3, .int .i64 d.f4, .int .i64 d.f5] 72)).cell? ⟨g, 0, none⟩ = some (.func (.func f) #[] lb) := pw_cell_below HB.out ((blk_cell hg 0).trans rfl)
  have HB0 := Aside0.mk (hb0.trans (HB.out.mono hB))
  have HBS := Aside0.mk (Nat.le_trans hB HB.out.size)
  have HCL := Aside0.mk hP.calls
  have en := hP.enters
  clear hg hb0 hB hP
  go_enter Try.func109, Try.ntmps109
  go_wp2_with ((refine (HCL.out _ d HB0.out HBS.out).mono ?_); rintro e w2 ⟨rfl, hb2⟩)
  go_ret
  exact ⟨rfl, below_then HB.out HB.out.size hb2⟩
theorem not_pred (f : FuncId) (lb : Array Value) (B : Nat) (W0 : World) (p : S72 → Bool) (hP : Pred f lb B W0 p) (w : World) (hb0 : Below B W0 w) (hB : B ≤ w.heap.size) (g : Nat) (hg : w.heap[g]? = some (.cells #[.func (.func f) #[] lb] 97 (0, 0))) :
    Pred 109 #[.pointer (some ⟨g, 0, none⟩)] w.heap.size w (fun d => !p d) :=
  ⟨fun args W => enters_ Try.func109 (by kernel_rfl) rfl args W, fun W d hb hs => not_calls f lb B W0 p hP d g W (hb0.trans (hb.mono hB)) (Nat.le_trans hB hs) (blk_below hg hb)⟩

/-- Events that are picked. -/
def Those (w : World) (ys : List S72) (e : Ending) (w' : World) : Prop :=
  ∃ (A : Option Addr) (c : Nat), e = .returned (.slice A ys.length c) ∧ ys.length ≤ c ∧ Kd.C k72 w' A ys.length ys ∧ Below w.heap.size w w' ∧ (0 < ys.length → ∃ g, A = some ⟨g, 0, none⟩ ∧ w.heap.size ≤ g ∧ Row w' g ys)
theorem filter_nn (p : S72 → Bool) (l : List S72) : l.filter (fun d => !(!p d)) = l.filter p := by simp

set_option maxHeartbeats 4000000 in
set_option maxRecDepth 100000 in
theorem those_calls (f : FuncId) (lb : Array Value) (B : Nat) (W0 : World) (p : S72 → Bool) (hP : Pred f lb B W0 p) (l : List S72) (A : Option Addr) (c : Nat) (w : World) (hb0 : Below B W0 w) (hB : B ≤ w.heap.size) (hr : Kd.C k72 w A l.length l) (hc : l.length ≤ c) (hl : l.length * 56 ≤ 140737488355328) :
    Calls Try.prog 87 #[.slice A l.length c, .func (.func f) #[] lb] w (Those w (l.filter p)) := by
  have HB := Aside0.mk (below_alloc (Below.refl w.heap.size w) (Obj.cells #[.func (.func f) #[] lb] 97))
  have HP := Aside0.mk (not_pred f lb B W0 p hP (w.alloc (Obj.cells #[.func (.func f) #[] lb] 97)) (hb0.trans (HB.out.mono hB)) (Nat.le_trans hB HB.out.size) w.heap.size (blk_new _ _))
  have HC := Aside0.mk (clone_calls A c l (w.alloc (Obj.cells #[.func (.func f) #[] lb] 97)) (Kd.C_below hr HB.out) hc hl)
  have HL := Aside0.mk hl
  have HW := Aside0.mk (show (w.alloc (Obj.cells #[.func (.func f) #[] lb] 97)).heap.size = w.heap.size + 1 by simp)
  clear hP hb0 hB hr hc hl
  cases hn : l.any (fun d => !p d) with
  | false =>
    have HN := Aside0.mk hn
    have HF : Aside0 (l.filter p = l) := ⟨by
      rw [List.any_eq_false] at hn
      refine List.filter_eq_self.2 (fun d hd => ?_)
      have := hn d hd
      simpa using this⟩
    clear hn
    go_enter Try.func87, Try.ntmps87
    go_wp2_with (first
      | (go_at_call 108; refine HC.out.mono ?_; rintro e w1 ⟨v1, rfl, hv1, hb1⟩; have HV := Aside0.mk hv1; obtain ⟨A1, c1, rfl, hc1, hC1⟩ := Kd.R_reads hv1; have HC1 := Aside0.mk hC1; have HCC := Aside0.mk hc1; have HB1 := Aside0.mk hb1; clear hv1 hc1 hC1 hb1)
      | (go_at_call 107; refine (delete_none 109 _ _ _ _ HP.out l A1 c1 _ HB1.out HB1.out.size HC1.out HCC.out (by have := HL.out; omega) HN.out).mono ?_; rintro e w2 ⟨rfl, hb2⟩))
    go_ret
    have HX := below_then HB1.out HB1.out.size hb2
    rw [HF.out]
    refine ⟨A1, c1, rfl, HCC.out, Kd.C_below HC1.out hb2, below_then HB.out HB.out.size HX, fun h0 => ?_⟩
    obtain ⟨g, c, he, _, hgb, hrow⟩ := row_of HV.out h0
    injection he with he1 he2 he3
    exact ⟨g, he1, by rw [HW.out] at hgb; omega, hrow.below hb2⟩
  | true =>
    have HN := Aside0.mk hn
    have HP0 : Aside0 (0 < l.length) := ⟨by
      rcases l with _ | ⟨x, l⟩
      · simp at hn
      · simp⟩
    clear hn
    go_enter Try.func87, Try.ntmps87
    go_wp2_with (first
      | (go_at_call 108; refine HC.out.mono ?_; rintro e w1 ⟨v1, rfl, hv1, hb1⟩; obtain ⟨g, c1, rfl, hc1, hgb, hrow⟩ := row_of hv1 HP0.out; have HG := Aside0.mk hgb; have HR := Aside0.mk hrow; have HCC := Aside0.mk hc1; have HB1 := Aside0.mk hb1; clear hv1 hc1 hgb hrow hb1)
      | (go_at_call 107; refine (delete_some 109 _ _ _ _ HP.out l g c1 _ HB1.out HG.out HR.out HCC.out (by have := HL.out; omega) HN.out).mono ?_; rintro e w2 ⟨rfl, hr2, hg2⟩; have HR2 := Aside0.mk hr2; have HG2 := Aside0.mk hg2; clear hr2 hg2))
    go_ret
    have hr2 := HR2.out
    have hlen : (l.filter p).length ≤ l.length := List.length_filter_le _ _
    have hl := HL.out
    rw [filter_nn] at hr2
    refine ⟨some ⟨g, 0, none⟩, c1, ?_, by have := HCC.out; omega, hr2.C (by omega), below_then HB.out HB.out.size (below_grown HB1.out HG2.out HG.out HB1.out.size), fun _ => ⟨g, rfl, by have := HG.out; rw [HW.out] at this; omega, hr2⟩⟩
    rfl

set_option maxHeartbeats 4000000 in
set_option maxRecDepth 100000 in
theorem of_calls (a : Int) (l : List S72) (A : Option Addr) (c : Nat) (w : World) (hr : Kd.C k72 w A l.length l) (hc : l.length ≤ c) (hl : l.length * 56 ≤ 140737488355328) :
    Calls Try.prog 49 #[.slice A l.length c, .int .u8 a] w (Those w (l.filter (isAg a))) := by
  have HB := Aside0.mk (below_alloc (Below.refl w.heap.size w) (Obj.cells #[.int .u8 a] 5))
  have HC := Aside0.mk (those_calls 88 _ _ _ _ (ag_pred a w.heap.size (w.alloc (Obj.cells #[.int .u8 a] 5)) (blk_new _ _)) l A c _ (Below.refl _ _) (Nat.le_refl _) (Kd.C_below hr HB.out) hc hl)
  have HW := Aside0.mk (show (w.alloc (Obj.cells #[.int .u8 a] 5)).heap.size = w.heap.size + 1 by simp)
  clear hr hc hl
  go_enter Try.func49, Try.ntmps49
  go_wp2_with (go_at_call 87; refine HC.out.mono ?_; rintro e w1 ⟨A1, c1, rfl, hc1, hC1, hb1, hg1⟩; have HX := Aside0.mk (And.intro hc1 (And.intro hC1 (And.intro hb1 hg1))); clear hc1 hC1 hb1 hg1)
  go_ret
  obtain ⟨hc1, hC1, hb1, hg1⟩ := HX.out
  refine ⟨A1, c1, rfl, hc1, hC1, below_then HB.out HB.out.size hb1, fun h0 => ?_⟩
  obtain ⟨g, h1, h2, h3⟩ := hg1 h0
  exact ⟨g, h1, by rw [HW.out] at h2; omega, h3⟩
set_option maxHeartbeats 4000000 in
set_option maxRecDepth 100000 in
theorem between_calls (x y : Int) (l : List S72) (A : Option Addr) (c : Nat) (w : World) (hr : Kd.C k72 w A l.length l) (hc : l.length ≤ c) (hl : l.length * 56 ≤ 140737488355328) :
    Calls Try.prog 50 #[.slice A l.length c, .int .i64 x, .int .i64 y] w (Those w (l.filter (isBt x y))) := by
  have HB := Aside0.mk (below_alloc (below_alloc (Below.refl w.heap.size w) (Obj.cells #[.int .i64 x] 3)) (Obj.cells #[.int .i64 y] 3))
  have HC := Aside0.mk (those_calls 89 _ _ _ _ (bt_pred x y w.heap.size (w.heap.size + 1) ((w.alloc (Obj.cells #[.int .i64 x] 3)).alloc (Obj.cells #[.int .i64 y] 3)) (blk_below (blk_new _ _) (below_alloc (Below.refl _ _) _)) (by have h := blk_new (w.alloc (Obj.cells #[.int .i64 x] 3)) (Obj.cells #[.int .i64 y] 3); simpa using h)) l A c _ (Below.refl _ _) (Nat.le_refl _) (Kd.C_below hr HB.out) hc hl)
  have HW := Aside0.mk (show ((w.alloc (Obj.cells #[.int .i64 x] 3)).alloc (Obj.cells #[.int .i64 y] 3)).heap.size = w.heap.size + 1 + 1 by simp)
  clear hr hc hl
  go_enter Try.func50, Try.ntmps50
  go_wp2_with (go_at_call 87; refine HC.out.mono ?_; rintro e w1 ⟨A1, c1, rfl, hc1, hC1, hb1, hg1⟩; have HX := Aside0.mk (And.intro hc1 (And.intro hC1 (And.intro hb1 hg1))); clear hc1 hC1 hb1 hg1)
  go_ret
  obtain ⟨hc1, hC1, hb1, hg1⟩ := HX.out
  refine ⟨A1, c1, rfl, hc1, hC1, below_then HB.out HB.out.size hb1, fun h0 => ?_⟩
  obtain ⟨g, h1, h2, h3⟩ := hg1 h0
  exact ⟨g, h1, by rw [HW.out] at h2; omega, h3⟩
end Go.Proofs.Ytgojfecpknonlaa.Ev

