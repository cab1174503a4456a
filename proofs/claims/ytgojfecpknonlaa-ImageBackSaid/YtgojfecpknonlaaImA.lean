/- Shapes: what they hold, and whether two are alike: functions 76, 75, 79, 78, 41. -/
import Derived.Test.YtgojfecpknonlaaPImx1
import Derived.Test.YtgojfecpknonlaaKit
import Derived.Test.YtgojfecpknonlaaAgg
namespace Go.Proofs.Ytgojfecpknonlaa.Im
open Go.RowKit Go.Proofs.YtgojfecpknonlaaW.PrintWords Go.Proofs.YtgojfecpknonlaaW.PrintLast Go.Proofs.YtgojfecpknonlaaW.PrintMore
open Go.Proofs.Ytgojfecpknonlaa.Own Go.Proofs.Ytgojfecpknonlaa.PIm
set_option linter.unusedVariables false
set_option linter.unusedSimpArgs false

theorem wrap_in {i : Int} (h0 : -9223372036854775808 ≤ i) (h1 : i ≤ 9223372036854775807) : wrap64 i = i := by unfold wrap64; omega
theorem rd_at {l : List Int} {i : Nat} (h : i < l.length) : rd l (i : Int) = l[i] := by
  unfold rd
  rw [Int.toNat_natCast, List.getD_eq_getElem?_getD, List.getElem?_eq_getElem h]
  rfl
theorem equal_l (l m : List Int) (hlm : l.length = m.length) (hl : l.length ≤ 1000000) : ∀ (q i : Nat), i + q = l.length → l.take i = m.take i → slices_Equal_int_int.l0 (q + 1) l m (l.length : Int) (i : Int) = some (decide (l = m))
  | 0, i, h, ht => by
    unfold slices_Equal_int_int.l0
    have : l = m := by
      rw [show i = l.length by omega, List.take_length, hlm, List.take_length] at ht
      exact ht
    rw [if_neg (by omega), decide_eq_true this]
  | q + 1, i, h, ht => by
    have h1 : i < l.length := by omega
    have h2 : i < m.length := by omega
    unfold slices_Equal_int_int.l0
    rw [if_pos (by omega)]
    simp only [rd_at h1, rd_at h2]
    repeat rw [if_pos (by omega)]
    by_cases he : l[i] = m[i]
    · have ih := equal_l l m hlm hl q (i + 1) (by omega) (by rw [List.take_succ_eq_append_getElem h1, List.take_succ_eq_append_getElem h2, ht, he])
      rw [Int.natCast_add, Int.natCast_one] at ih
      simp only [he, if_true, wrap_in (i := (i : Int) + 1) (by omega) (by omega)]
      exact ih
    · have hne : l ≠ m := fun e => he (by subst e; rfl)
      simp only [he, if_false, decide_eq_false hne]
theorem equal_is (l m : List Int) (hl : l.length ≤ 1000000) : slices_Equal_int_int.f (l.length + 1) l m = some (decide (l = m)) := by
  unfold slices_Equal_int_int.f
  by_cases h : l.length = m.length
  · rw [if_pos (by omega)]
    exact equal_l l m h hl l.length 0 (by omega) rfl
  · rw [if_neg (by omega), decide_eq_false (fun e => h (by rw [e]))]
theorem equal_same : ∀ (k : Nat) (l m : List Int) (n i : Int), slices_Equal_uint64_uint64.l0 k l m n i = slices_Equal_int_int.l0 k l m n i
  | 0, _, _, _, _ => rfl
  | k + 1, l, m, n, i => by
    unfold slices_Equal_uint64_uint64.l0 slices_Equal_int_int.l0
    rw [equal_same k]
theorem equal64_is (l m : List Int) (hl : l.length ≤ 1000000) : slices_Equal_uint64_uint64.f (l.length + 1) l m = some (decide (l = m)) := by
  have h := equal_is l m hl
  unfold slices_Equal_int_int.f at h
  unfold slices_Equal_uint64_uint64.f
  rw [equal_same]
  exact h
theorem drawn_below {w w' : World} (h : Drawn0 w w') : Below w.heap.size w w' := by
  obtain ⟨nd, rfl⟩ := h
  exact pw_below_drewN (Below.refl _ _) nd
/-- A slice of ints, or of words, that reads so. -/
def IV (k : IntKind) (w : World) (v : Value) (xs : List Int) : Prop := ∃ A c, v = .slice A xs.length c ∧ xs.length ≤ c ∧ Kd.C (Kd.int k) w A xs.length xs
theorem IV.below {k : IntKind} {w w' : World} {v : Value} {xs : List Int} (h : IV k w v xs) (hb : Below w.heap.size w w') : IV k w' v xs := by
  obtain ⟨A, c, e, hc, h⟩ := h
  exact ⟨A, c, e, hc, Kd.C_below h hb⟩
theorem eq77_calls (x y : Value) (l m : List Int) (w : World) (hl : l.length ≤ 1000000) (hx : IV .i64 w x l) (hy : IV .i64 w y m) : Calls Try.prog 77 #[x, y] w fun e w' => e = .returned (.bool (decide (l = m))) ∧ Below w.heap.size w w' := by
  obtain ⟨A, c, rfl, hc, h⟩ := hx
  obtain ⟨A', c', rfl, hc', h'⟩ := hy
  refine (slices_Equal_int_int.calls (l.length + 1) A c l A' c' m _ w h hc h' hc' (equal_is l m hl)).mono ?_
  rintro e w1 ⟨rfl, hd⟩
  exact ⟨rfl, drawn_below hd⟩
theorem eq80_calls (x y : Value) (l m : List Int) (w : World) (hl : l.length ≤ 1000000) (hx : IV .u64 w x l) (hy : IV .u64 w y m) : Calls Try.prog 80 #[x, y] w fun e w' => e = .returned (.bool (decide (l = m))) ∧ Below w.heap.size w w' := by
  obtain ⟨A, c, rfl, hc, h⟩ := hx
  obtain ⟨A', c', rfl, hc', h'⟩ := hy
  refine (slices_Equal_uint64_uint64.calls (l.length + 1) A c l A' c' m _ w h hc h' hc' (equal64_is l m hl)).mono ?_
  rintro e w1 ⟨rfl, hd⟩
  exact ⟨rfl, drawn_below hd⟩
def eqT (t u : S124) : Bool := decide (t.f0 = u.f0) && decide (t.f1 = u.f1)
def eqN (t u : S127) : Bool := decide (t.f0 = u.f0) && decide (t.f1 = u.f1)
set_option maxHeartbeats 1000000 in
set_option maxRecDepth 100000 in
theorem c76 (t u : S124) (p0 p1 q0 q1 : Value) (w : World) (h0 : t.f0.length ≤ 1000000) (h1 : t.f1.length ≤ 1000000) (hp0 : IV .i64 w p0 t.f0) (hp1 : IV .i64 w p1 t.f1) (hq0 : IV .i64 w q0 u.f0) (hq1 : IV .i64 w q1 u.f1) :
    Calls Try.prog 76 #[.agg #[p0, p1], .agg #[q0, q1]] w fun e w' => e = .returned (.bool (eqT t u)) ∧ Below w.heap.size w w' := by
  have HP0 := Aside0.mk hp0
  have HP1 := Aside0.mk hp1
  have HQ0 := Aside0.mk hq0
  have HQ1 := Aside0.mk hq1
  obtain ⟨A0, c0, rfl, _, _⟩ := hp0
  obtain ⟨A1, c1, rfl, _, _⟩ := hp1
  obtain ⟨B0, d0, rfl, _, _⟩ := hq0
  obtain ⟨B1, d1, rfl, _, _⟩ := hq1
  have HW := Aside0.mk (show Below w.heap.size w ((w.alloc (.cells #[.slice A0 t.f0.length c0, .slice A1 t.f1.length c1] 128)).alloc (.cells #[.slice B0 u.f0.length d0, .slice B1 u.f1.length d1] 128)) from below_alloc (below_alloc (Below.refl _ _) _) _)
  have HA : Aside0 (Holds ((w.alloc (.cells #[.slice A0 t.f0.length c0, .slice A1 t.f1.length c1] 128)).alloc (.cells #[.slice B0 u.f0.length d0, .slice B1 u.f1.length d1] 128)) w.heap.size 128 [.slice A0 t.f0.length c0, .slice A1 t.f1.length c1]) := ⟨Holds.below (blk_new _ _) (below_alloc (Below.refl _ _) _)⟩
  have HU : Aside0 (Holds ((w.alloc (.cells #[.slice A0 t.f0.length c0, .slice A1 t.f1.length c1] 128)).alloc (.cells #[.slice B0 u.f0.length d0, .slice B1 u.f1.length d1] 128)) (w.heap.size + 1) 128 [.slice B0 u.f0.length d0, .slice B1 u.f1.length d1]) := ⟨by have h := blk_new (w.alloc (.cells #[.slice A0 t.f0.length c0, .slice A1 t.f1.length c1] 128)) (.cells #[.slice B0 u.f0.length d0, .slice B1 u.f1.length d1] 128); rw [World.size_alloc] at h; exact h⟩
  unfold eqT
  go_enter Try.func76, Try.ntmps76
  go_wp2_with fail
  refine (eq77_calls _ _ t.f0 u.f0 _ h0 (HP0.out.below HW.out) (HQ0.out.below HW.out)).mono ?_
  rintro e w2 ⟨rfl, hb2⟩
  have HX := Aside0.mk (below_then HW.out HW.out.size hb2)
  have x1 : w2.cell? ⟨w.heap.size, 1, none⟩ = some (.slice A1 t.f1.length c1) := ((HA.out.below hb2).cell 1).trans rfl
  have y1 : w2.cell? ⟨w.heap.size + 1, 1, none⟩ = some (.slice B1 u.f1.length d1) := ((HU.out.below hb2).cell 1).trans rfl
  clear hb2
  by_cases he : t.f0 = u.f0
  · have d1 : decide (t.f0 = u.f0) = true := decide_eq_true he
    rw [d1]
    clear he
    go_wp2_with (go_at_call 77; refine (eq77_calls _ _ t.f1 u.f1 _ h1 (HP1.out.below HX.out) (HQ1.out.below HX.out)).mono ?_; rintro e w3 ⟨rfl, hb3⟩; have HY := Aside0.mk (below_then HX.out HX.out.size hb3); clear hb3)
    go_ret
    exact ⟨by rw [d1]; rfl, HY.out⟩
  · have d1 : decide (t.f0 = u.f0) = false := decide_eq_false he
    rw [d1]
    clear he
    go_wp2_with fail
    go_ret
    exact ⟨by rw [d1]; rfl, HX.out⟩
set_option maxHeartbeats 1000000 in
set_option maxRecDepth 100000 in
theorem c79 (t u : S127) (p0 p1 q0 q1 : Value) (w : World) (h0 : t.f0.length ≤ 1000000) (h1 : t.f1.length ≤ 1000000) (hp0 : IV .i64 w p0 t.f0) (hp1 : IV .u64 w p1 t.f1) (hq0 : IV .i64 w q0 u.f0) (hq1 : IV .u64 w q1 u.f1) :
    Calls Try.prog 79 #[.agg #[p0, p1], .agg #[q0, q1]] w fun e w' => e = .returned (.bool (eqN t u)) ∧ Below w.heap.size w w' := by
  have HP0 := Aside0.mk hp0
  have HP1 := Aside0.mk hp1
  have HQ0 := Aside0.mk hq0
  have HQ1 := Aside0.mk hq1
  obtain ⟨A0, c0, rfl, _, _⟩ := hp0
  obtain ⟨A1, c1, rfl, _, _⟩ := hp1
  obtain ⟨B0, d0, rfl, _, _⟩ := hq0
  obtain ⟨B1, d1, rfl, _, _⟩ := hq1
  have HW := Aside0.mk (show Below w.heap.size w ((w.alloc (.cells #[.slice A0 t.f0.length c0, .slice A1 t.f1.length c1] 131)).alloc (.cells #[.slice B0 u.f0.length d0, .slice B1 u.f1.length d1] 131)) from below_alloc (below_alloc (Below.refl _ _) _) _)
  have HA : Aside0 (Holds ((w.alloc (.cells #[.slice A0 t.f0.length c0, .slice A1 t.f1.length c1] 131)).alloc (.cells #[.slice B0 u.f0.length d0, .slice B1 u.f1.length d1] 131)) w.heap.size 131 [.slice A0 t.f0.length c0, .slice A1 t.f1.length c1]) := ⟨Holds.below (blk_new _ _) (below_alloc (Below.refl _ _) _)⟩
  have HU : Aside0 (Holds ((w.alloc (.cells #[.slice A0 t.f0.length c0, .slice A1 t.f1.length c1] 131)).alloc (.cells #[.slice B0 u.f0.length d0, .slice B1 u.f1.length d1] 131)) (w.heap.size + 1) 131 [.slice B0 u.f0.length d0, .slice B1 u.f1.length d1]) := ⟨by have h := blk_new (w.alloc (.cells #[.slice A0 t.f0.length c0, .slice A1 t.f1.length c1] 131)) (.cells #[.slice B0 u.f0.length d0, .slice B1 u.f1.length d1] 131); rw [World.size_alloc] at h; exact h⟩
  unfold eqN
  go_enter Try.func79, Try.ntmps79
  go_wp2_with fail
  refine (eq77_calls _ _ t.f0 u.f0 _ h0 (HP0.out.below HW.out) (HQ0.out.below HW.out)).mono ?_
  rintro e w2 ⟨rfl, hb2⟩
  have HX := Aside0.mk (below_then HW.out HW.out.size hb2)
  have x1 : w2.cell? ⟨w.heap.size, 1, none⟩ = some (.slice A1 t.f1.length c1) := ((HA.out.below hb2).cell 1).trans rfl
  have y1 : w2.cell? ⟨w.heap.size + 1, 1, none⟩ = some (.slice B1 u.f1.length d1) := ((HU.out.below hb2).cell 1).trans rfl
  clear hb2
  by_cases he : t.f0 = u.f0
  · have d1 : decide (t.f0 = u.f0) = true := decide_eq_true he
    rw [d1]
    clear he
    go_wp2_with (go_at_call 80; refine (eq80_calls _ _ t.f1 u.f1 _ h1 (HP1.out.below HX.out) (HQ1.out.below HX.out)).mono ?_; rintro e w3 ⟨rfl, hb3⟩; have HY := Aside0.mk (below_then HX.out HX.out.size hb3); clear hb3)
    go_ret
    exact ⟨by rw [d1]; rfl, HY.out⟩
  · have d1 : decide (t.f0 = u.f0) = false := decide_eq_false he
    rw [d1]
    clear he
    go_wp2_with fail
    go_ret
    exact ⟨by rw [d1]; rfl, HX.out⟩
end Go.Proofs.Ytgojfecpknonlaa.Im

