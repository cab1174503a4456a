-- Written by the kit's print.py for this claim.
import Derived.Test.YtgojfecpknonlaaPStx0
import Derived.Test.YtgojfecpknonlaaPStx8
namespace Go.Proofs.Ytgojfecpknonlaa.PSt
open Go.RowKit Go.Proofs.YtgojfecpknonlaaW.PrintWords Go.Proofs.YtgojfecpknonlaaW.PrintLast Go.Proofs.YtgojfecpknonlaaW.PrintMore
attribute [local go_sem] max2_int min2_int max_two min_two max_three min_three max_four min_four   -- for this text's walks alone
set_option linter.unusedVariables false
set_option linter.unusedSimpArgs false

/-! ### events_put: function 81 -/
mutual
def events_put.l0 : Nat → List Int → Int → List Int → Int → Int → Option (List Int)
  | 0, _, _, _, _, _ => none
  | k + 1, x0, x1, x10, x11, x12 => if x12 < x11 then (if 0 ≤ x12 then (if x12 < (x10.length : Int) then (events_put.l1 k x0 x1 (rd x10 x12) (wrap64 (x1 - 1)) x10 x11 x12) else (none)) else (none)) else (some x0)
def events_put.l1 : Nat → List Int → Int → Int → Int → List Int → Int → Int → Option (List Int)
  | 0, _, _, _, _, _, _, _ => none
  | k + 1, x0, x1, x8, x9, x10, x11, x12 => if x9 ≥ 0 then (if 0 ≤ (wrap64 (8 * x9)) then (if x0.length < 140737488355328 then (events_put.l1 k (x0 ++ [(shr .u64 x8 (wrap64 (8 * x9))) % 256]) x1 x8 (wrap64 (x9 - 1)) x10 x11 x12) else (none)) else (none)) else (events_put.l0 k x0 x1 x10 x11 (wrap64 (x12 + 1)))
end
def events_put.f (k : Nat) (l0 : List Int) (a1 : Int) (l2 : List Int) : Option (List Int) := events_put.l0 k l0 a1 l2 (l2.length : Int) 0
theorem events_put.mono_l : ∀ k, (∀ y0 y1 y2 y3 y4, LeO (events_put.l0 k y0 y1 y2 y3 y4) (events_put.l0 (k + 1) y0 y1 y2 y3 y4)) ∧ (∀ y0 y1 y2 y3 y4 y5 y6, LeO (events_put.l1 k y0 y1 y2 y3 y4 y5 y6) (events_put.l1 (k + 1) y0 y1 y2 y3 y4 y5 y6))
  | 0 => ⟨fun _ _ _ _ _ r h => by simp [events_put.l0] at h, fun _ _ _ _ _ _ _ r h => by simp [events_put.l1] at h⟩
  | k + 1 => by
    obtain ⟨ih0, ih1⟩ := events_put.mono_l k
    refine ⟨?_, ?_⟩
    · intro y0 y1 y2 y3 y4
      unfold events_put.l0
      repeat' first
      | (with_reducible exact ih0 _ _ _ _ _)
      | (with_reducible exact ih1 _ _ _ _ _ _ _)
      | (with_reducible exact LeO.refl _)
      | (with_reducible exact LeO.none _)
      | (with_reducible refine LeO.ite ?_ ?_)
      | (with_reducible refine LeO.bind ?_ (fun _ => ?_))
      | exact ih0 _ _ _ _ _
      | exact ih1 _ _ _ _ _ _ _
      | exact LeO.none _
      | refine LeO.ite ?_ ?_
      | refine LeO.bind ?_ (fun _ => ?_)
    · intro y0 y1 y2 y3 y4 y5 y6
      unfold events_put.l1
      repeat' first
      | (with_reducible exact ih0 _ _ _ _ _)
      | (with_reducible exact ih1 _ _ _ _ _ _ _)
      | (with_reducible exact LeO.refl _)
      | (with_reducible exact LeO.none _)
      | (with_reducible refine LeO.ite ?_ ?_)
      | (with_reducible refine LeO.bind ?_ (fun _ => ?_))
      | exact ih0 _ _ _ _ _
      | exact ih1 _ _ _ _ _ _ _
      | exact LeO.none _
      | refine LeO.ite ?_ ?_
      | refine LeO.bind ?_ (fun _ => ?_)
theorem events_put.mono : ∀ a0 a1 a2 k, LeO (events_put.f k a0 a1 a2) (events_put.f (k + 1) a0 a1 a2) := by
  intro a0 a1 a2 k
  obtain ⟨ih0, ih1⟩ := events_put.mono_l k
  unfold events_put.f
  repeat' first
      | (with_reducible exact ih0 _ _ _ _ _)
      | (with_reducible exact ih1 _ _ _ _ _ _ _)
      | (with_reducible exact LeO.refl _)
      | (with_reducible exact LeO.none _)
      | (with_reducible refine LeO.ite ?_ ?_)
      | (with_reducible refine LeO.bind ?_ (fun _ => ?_))
      | exact ih0 _ _ _ _ _
      | exact ih1 _ _ _ _ _ _ _
      | exact LeO.none _
      | refine LeO.ite ?_ ?_
      | refine LeO.bind ?_ (fun _ => ?_)
set_option maxHeartbeats 8000000 in
set_option maxRecDepth 100000 in
theorem events_put.calls (k : Nat) (P0_ : Nat → Prop) (u9000_ : Value) (l0 : List Int) (a1 : Int) (A2 : Option Addr) (c2 : Nat) (l2 : List Int) (r : List Int) (w0 w : World) (hB : Below w0.heap.size w0 w) (ho0 : Kd.R (Kd.int .u8) 5 w w0.heap.size P0_ u9000_ l0) (hr2 : ∀ W_, Kept w W_ (fun k_ => P0_ k_) → Kd.C (Kd.int .u64) W_ A2 l2.length l2) (hc2 : l2.length ≤ c2) (h : events_put.f k l0 a1 l2 = some r) :
    Calls Try.prog 81 #[u9000_, .int .i64 a1, .slice A2 l2.length c2] w fun e w' => ∃ v0_ : Value, e = .returned (v0_) ∧ Kd.R (Kd.int .u8) 5 w' w0.heap.size (fun k_ => (P0_ k_ ∨ w.heap.size ≤ k_)) v0_ r ∧ Below w0.heap.size w0 w' ∧ Kept w w' (fun k_ => P0_ k_) := by
  have HO0 := Aside0.mk (show Kd.R (Kd.int .u8) 5 w w0.heap.size (fun k_ => (P0_ k_ ∨ w.heap.size ≤ k_)) u9000_ l0 from Kd.R_mono ho0 (fun k_ hk => (.inl hk)))
  have HR2 := Aside0.mk hr2
  have HC2 := Aside0.mk hc2
  clear hr2 hc2
  have HK := Aside0.mk (Kept.refl w (fun k_ => P0_ k_))
  have HW0 := Aside0.mk hB.size
  have HB := Aside0.mk hB
  clear hB
  have H : (events_put.l0 k l0 a1 l2 (l2.length : Int) 0) = some r := h
  clear h
  have H' := Aside0.mk H
  clear H
  go_enter Try.func81, Try.ntmps81
  go_wp2
  go_loopg [0, 12] k (fun kq v0 v12 w' => ∃ (x0_1 : List Int) (x12_1 : Int), v12 = .int .i64 x12_1 ∧ Aside0 (events_put.l0 kq x0_1 a1 l2 (l2.length : Int) x12_1 = some r) ∧ Aside0 (kq ≤ k) ∧ Aside0 (Kd.R (Kd.int .u8) 5 w' w0.heap.size (fun k_ => (P0_ k_ ∨ w.heap.size ≤ k_)) v0 x0_1) ∧ Aside0 (Kept w w' (fun k_ => P0_ k_)) ∧ Aside0 (Below w0.heap.size w0 w'))
  case atStart => exact ⟨(l0), (0), (by first | rfl | (simp; done) | (simp [*]; done)), H', ⟨Nat.le_refl _⟩, ⟨by (with_reducible repeat (first | apply Kd.R_alloc | apply Kd.R_drewN | apply Kd.R_drew)); exact HO0.out⟩, ⟨by repeat (first | (with_reducible first | exact HK.out | apply Kept.alloc | apply Kept.drewN | apply Kept.drew) | exact HK.out)⟩, ⟨by repeat (first | (with_reducible first | exact HB.out | apply below_alloc | apply pw_below_drewN | apply below_drew1) | exact HB.out)⟩⟩
  case round =>
    clear H'
    try clear c2
    try clear p2
    obtain ⟨x0_1, x12_1, rfl, HA, HK1, HO_0, HK, HB⟩ := hrel
    cases gk with
    | zero => exact absurd HA.out (by simp [events_put.l0])
    | succ k1 =>
      have H := HA.out
      clear HA
      simp only [events_put.l0] at H
      by_cases c4 : x12_1 < (l2.length : Int)
      · rw [if_pos c4] at H
        have c4b0 : decide (x12_1 < (l2.length : Int)) = true := decide_eq_true c4
        clear c4
        by_cases c5 : 0 ≤ x12_1
        · rw [if_pos c5] at H
          have c5b0 : decide (0 ≤ x12_1) = true := decide_eq_true c5
          clear c5
          by_cases c6 : x12_1 < (l2.length : Int)
          · rw [if_pos c6] at H
            have c6b0 : decide (x12_1 < (l2.length : Int)) = true := decide_eq_true c6
            clear c6
            have H' := Aside0.mk H
            clear H
            have p163 : 0 ≤ (x12_1 : Int) := of_decide_eq_true (by first | (with_reducible assumption) | assumption)
            have q163 : x12_1 < (l2.length : Int) := of_decide_eq_true (by first | (with_reducible assumption) | assumption)
            obtain ⟨ad163, e163, hx163_0⟩ := Kd.at_int (Kd.C_kept_now HR2.out HK.out) x12_1 p163 q163
            cases e163
            replace p163 := eq_true p163
            replace q163 := eq_true q163
            go_wp2
            go_loopg [0, 9] k1 (fun kq v0 v9 w' => ∃ (x0_2 : List Int) (x9_2 : Int), v9 = .int .i64 x9_2 ∧ Aside0 (events_put.l1 kq x0_2 a1 (rd l2 x12_1) x9_2 l2 (l2.length : Int) x12_1 = some r) ∧ Aside0 (kq ≤ k1) ∧ Aside0 (Kd.R (Kd.int .u8) 5 w' w0.heap.size (fun k_ => (P0_ k_ ∨ w.heap.size ≤ k_)) v0 x0_2) ∧ Aside0 (Kept w w' (fun k_ => P0_ k_)) ∧ Aside0 (Below w0.heap.size w0 w'))
            case atStart => exact ⟨(x0_1), (wrap64 (a1 - 1)), (by first | rfl | (simp; done) | (simp [*]; done)), H', ⟨Nat.le_refl _⟩, ⟨by (with_reducible repeat (first | apply Kd.R_alloc | apply Kd.R_drewN | apply Kd.R_drew)); exact HO_0.out⟩, ⟨by repeat (first | (with_reducible first | exact HK.out | apply Kept.alloc | apply Kept.drewN | apply Kept.drew) | exact HK.out)⟩, ⟨by repeat (first | (with_reducible first | exact HB.out | apply below_alloc | apply pw_below_drewN | apply below_drew1) | exact HB.out)⟩⟩
            case round =>
              clear H'
              try clear p1
              try clear q1
              try clear hx1
              try clear c2
              try clear p2
              try clear c4
              try clear c4b0
              try clear c5
              try clear c5b0
              try clear c6
              try clear c6b0
              try clear p6
              try clear hx163_0
              try clear p163
              try clear p2
              try clear q163
              obtain ⟨x0_2, x9_2, rfl, HA, HK2, HO_0, HK, HB⟩ := hrel
              cases gk with
              | zero => exact absurd HA.out (by simp [events_put.l1])
              | succ k2 =>
                have H := HA.out
                clear HA
                simp only [events_put.l1] at H
                by_cases c7 : x9_2 ≥ 0
                · rw [if_pos c7] at H
                  have c7b0 : decide (0 ≤ x9_2) = true := decide_eq_true c7
                  clear c7
                  obtain ⟨ji8, hji8⟩ : ∃ j_ : Int, (wrap64 (8 * x9_2)) = j_ := ⟨_, rfl⟩
                  replace H : (if 0 ≤ (ji8) then (if x0_2.length < 140737488355328 then (events_put.l1 k2 (x0_2 ++ [(shr .u64 (rd l2 x12_1) (ji8)) % 256]) a1 (rd l2 x12_1) (wrap64 (x9_2 - 1)) l2 (l2.length : Int) x12_1) else (none)) else (none)) = some r := by first | (rw [hji8] at H; exact H) | (simp only [hji8] at H ⊢; exact H)
                  have hji8w : (IntKind.i64.wrap (8 * x9_2)) = ji8 := (i64_w _).trans hji8
                  by_cases c9 : 0 ≤ (ji8)
                  · rw [if_pos c9] at H
                    have c9b0 := eq_true c9
                    have c9b1 : decide (0 ≤ (ji8)) = true := decide_eq_true c9
                    clear c9
                    obtain ⟨ji10, hji10⟩ : ∃ j_ : Int, (shr .u64 (rd l2 x12_1) (ji8)) = j_ := ⟨_, rfl⟩
                    replace H : (if x0_2.length < 140737488355328 then (events_put.l1 k2 (x0_2 ++ [(ji10) % 256]) a1 (rd l2 x12_1) (wrap64 (x9_2 - 1)) l2 (l2.length : Int) x12_1) else (none)) = some r := by first | (rw [hji10] at H; exact H) | (simp only [hji10] at H ⊢; exact H)
                    have hji10_ : ((rd l2 x12_1) / 2 ^ min (ji8).toNat 64) = ji10 := hji10
                    have hji10z : (ji8) ≤ 64 → ((rd l2 x12_1) / 2 ^ (ji8).toNat) = ji10 := shr_small hji10
                    by_cases c11 : x0_2.length < 140737488355328
                    · rw [if_pos c11] at H
                      have LMc11 := Aside0.mk c11
                      clear c11
                      obtain ⟨y164, hy164⟩ : ∃ y_ : List Int, y_ = (x0_2 ++ [(ji10) % 256]) := ⟨_, rfl⟩
                      replace H : (events_put.l1 k2 y164 a1 (rd l2 x12_1) (wrap64 (x9_2 - 1)) l2 (l2.length : Int) x12_1) = some r := by first | (rw [hy164]; with_reducible exact H) | (have H2_ := (Option.bind_some _ _).symm.trans H; rw [hy164]; with_reducible exact H2_) | (have H2_ := (Option.bind_some _ _).symm.trans H; with_reducible exact H2_) | with_reducible exact H | (rw [hy164]; exact H) | exact H
                      have Ny164 := Aside0.mk hy164
                      clear hy164
                      have H' := Aside0.mk H
                      clear H
                      go_wp2_with (first | ((with_reducible refine gate_builtin (b := .append) (xs := #[.tmp 22, .tmp 28]) rfl ?_); at_builtin; refine Kd.R_append (Kd.int .u8) (w0 := w0) w0.heap.size rfl (.tmp 22) (.tmp 28) 94 5 (.int .u8 0) 1 rfl Try.underlying94 info5 rfl (by decide) (by omega) u0 x0_2 ((ji10) % 256) [.int .u8 ((ji10) % 256)] (fun k_ => (P0_ k_ ∨ w.heap.size ≤ k_)) (fun _ => False) rfl rfl ?aP (fun _ hk => hk.elim) ?aF ?aO ?aB ?aS ?aL ?_; (case aP => exact rfl); (case aB => exact (by repeat (first | (with_reducible first | exact HB.out | apply below_alloc | apply pw_below_drewN | apply below_drew1) | exact HB.out))); (case aF => exact (fun k_ hk => (.inr (Nat.le_trans (by first | exact HK.out.1 | exact (show Kept w _ (fun k_ => P0_ k_) from by repeat (first | (with_reducible first | exact HK.out | apply Kept.alloc | apply Kept.drewN | apply Kept.drew) | exact HK.out)).1) hk)))); (case aO => exact (by (with_reducible repeat (first | apply Kd.R_alloc | apply Kd.R_drewN | apply Kd.R_drew)); exact HO_0.out)); (case aS => exact (below_size (by repeat (first | (with_reducible first | exact HB.out | apply below_alloc | apply pw_below_drewN | apply below_drew1) | exact HB.out)))); (case aL => have := LMc11.out; omega); intro v165 w12 ho hb hg hat; rw [← Ny164.out] at ho; have n0_ := Aside0.mk (hb); have n1_ := Aside0.mk (Kept.of_grown (S := (fun k_ => P0_ k_)) hg (by repeat (first | (with_reducible first | exact HK.out | apply Kept.alloc | apply Kept.drewN | apply Kept.drew) | exact HK.out)) (fun k_ e_ => (HO_0.out.1 k_ e_))); have n2_ := Aside0.mk (ho); clear HB; clear HK; clear HO_0; have HB := n0_; have HK := n1_; have HO166 := n2_; clear n0_ n1_ n2_; clear ho hb hg hat))
                      go_roundg k2
                      case measure => have := HK1.out; have := HK2.out; omega
                      case rel => exact ⟨(y164), (wrap64 (x9_2 - 1)), (by first | rfl | (simp; done) | (simp [*]; done)), H', ⟨by have := HK1.out; have := HK2.out; omega⟩, ⟨by (with_reducible repeat (first | apply Kd.R_alloc | apply Kd.R_drewN | apply Kd.R_drew)); exact HO166.out⟩, ⟨by repeat (first | (with_reducible first | exact HK.out | apply Kept.alloc | apply Kept.drewN | apply Kept.drew) | exact HK.out)⟩, ⟨by repeat (first | (with_reducible first | exact HB.out | apply below_alloc | apply pw_below_drewN | apply below_drew1) | exact HB.out)⟩⟩
                    · rw [if_neg c11] at H
                      exact absurd H (by simp)
                  · rw [if_neg c9] at H
                    exact absurd H (by simp)
                · rw [if_neg c7] at H
                  have c7b0 : decide (0 ≤ x9_2) = false := decide_eq_false c7
                  clear c7
                  have H' := Aside0.mk H
                  clear H
                  go_wp2
                  go_roundg k2
                  case measure => have := HK1.out; have := HK2.out; omega
                  case rel => exact ⟨(x0_2), (wrap64 (x12_1 + 1)), (by first | rfl | (simp; done) | (simp [*]; done)), H', ⟨by have := HK1.out; have := HK2.out; omega⟩, ⟨by (with_reducible repeat (first | apply Kd.R_alloc | apply Kd.R_drewN | apply Kd.R_drew)); exact HO_0.out⟩, ⟨by repeat (first | (with_reducible first | exact HK.out | apply Kept.alloc | apply Kept.drewN | apply Kept.drew) | exact HK.out)⟩, ⟨by repeat (first | (with_reducible first | exact HB.out | apply below_alloc | apply pw_below_drewN | apply below_drew1) | exact HB.out)⟩⟩
          · rw [if_neg c6] at H
            exact absurd H (by simp)
        · rw [if_neg c5] at H
          exact absurd H (by simp)
      · rw [if_neg c4] at H
        have c4b0 : decide (x12_1 < (l2.length : Int)) = false := decide_eq_false c4
        clear c4
        obtain rfl := Option.some.inj H
        go_wp2
        go_ret
        exact ⟨_, by first | rfl | (simp [errW_none, errW_some] <;> rfl) | (simp [*, errW_none, errW_some] <;> rfl), by (with_reducible repeat (first | apply Kd.R_alloc | apply Kd.R_drewN | apply Kd.R_drew)); exact HO_0.out, by repeat (first | (with_reducible first | exact HB.out | apply below_alloc | apply pw_below_drewN | apply below_drew1) | exact HB.out), by repeat (first | (with_reducible first | exact HK.out | apply Kept.alloc | apply Kept.drewN | apply Kept.drew) | exact HK.out)⟩

/-! ### events_Put: function 43 -/
def events_Put.l0 : Nat → List Int → List (S72) → Int → Int → Option (ByteArray × Int)
  | 0, _, _, _, _ => none
  | k + 1, x4, x7, x8, x9 => if x9 < x8 then (if 0 ≤ x9 then (if x9 < (x7.length : Int) then ((events_May.f k ((rd_T72 x7 x9).f0) ((rd_T72 x7 x9).f1.f0) ((rd_T72 x7 x9).f1.f1) ((rd_T72 x7 x9).f1.f2) ((rd_T72 x7 x9).f1.f3) ((rd_T72 x7 x9).f2.f0) ((rd_T72 x7 x9).f2.f1) ((rd_T72 x7 x9).f2.f2) ((rd_T72 x7 x9).f3) ((rd_T72 x7 x9).f4) ((rd_T72 x7 x9).f5)).bind fun t169 => (if t169 = true then ((some (([(rd_T72 x7 x9).f0, (rd_T72 x7 x9).f1.f0, (rd_T72 x7 x9).f1.f1, (rd_T72 x7 x9).f1.f2, (rd_T72 x7 x9).f1.f3, ((rd_T72 x7 x9).f2.f0) % 256] : List Int) : List Int)).bind fun y170 => (if x4.length + y170.length < 140737488355328 then ((events_put.f k (x4 ++ y170) 2 (([IntKind.u64.wrap ((rd_T72 x7 x9).f2.f1)] : List Int))).bind fun t179 => ((events_put.f k t179 8 (([(rd_T72 x7 x9).f2.f2] : List Int))).bind fun t185 => ((events_put.f k t185 4 (([IntKind.u64.wrap ((rd_T72 x7 x9).f3), IntKind.u64.wrap ((rd_T72 x7 x9).f4), IntKind.u64.wrap ((rd_T72 x7 x9).f5)] : List Int))).bind fun t191 => (events_Put.l0 k t191 x7 x8 (wrap64 (x9 + 1)))))) else (none))) else (some ((⟨#[]⟩ : ByteArray), 2)))) else (none)) else (none)) else (some (strOfNums x4, 0))
def events_Put.f (k : Nat) (l0 : List (S72)) : Option (ByteArray × Int) := events_Put.l0 k ([] : List Int) l0 (l0.length : Int) 0
theorem events_Put.mono_l : ∀ k, (∀ y0 y1 y2 y3, LeO (events_Put.l0 k y0 y1 y2 y3) (events_Put.l0 (k + 1) y0 y1 y2 y3))
  | 0 => fun _ _ _ _ r h => by simp [events_Put.l0] at h
  | k + 1 => by
    have ih0 := events_Put.mono_l k
    · intro y0 y1 y2 y3
      unfold events_Put.l0
      repeat' first
      | (with_reducible exact ih0 _ _ _ _)
      | (with_reducible exact events_May.mono _ _ _ _ _ _ _ _ _ _ _ _)
      | (with_reducible exact events_put.mono _ _ _ _)
      | (with_reducible exact LeO.refl _)
      | (with_reducible exact LeO.none _)
      | (with_reducible refine LeO.ite ?_ ?_)
      | (with_reducible refine LeO.bind ?_ (fun _ => ?_))
      | exact ih0 _ _ _ _
      | exact events_May.mono _ _ _ _ _ _ _ _ _ _ _ _
      | exact events_put.mono _ _ _ _
      | exact LeO.none _
      | refine LeO.ite ?_ ?_
      | refine LeO.bind ?_ (fun _ => ?_)
theorem events_Put.mono : ∀ a0 k, LeO (events_Put.f k a0) (events_Put.f (k + 1) a0) := by
  intro a0 k
  have ih0 := events_Put.mono_l k
  unfold events_Put.f
  repeat' first
      | (with_reducible exact ih0 _ _ _ _)
      | (with_reducible exact events_May.mono _ _ _ _ _ _ _ _ _ _ _ _)
      | (with_reducible exact events_put.mono _ _ _ _)
      | (with_reducible exact LeO.refl _)
      | (with_reducible exact LeO.none _)
      | (with_reducible refine LeO.ite ?_ ?_)
      | (with_reducible refine LeO.bind ?_ (fun _ => ?_))
      | exact ih0 _ _ _ _
      | exact events_May.mono _ _ _ _ _ _ _ _ _ _ _ _
      | exact events_put.mono _ _ _ _
      | exact LeO.none _
      | refine LeO.ite ?_ ?_
      | refine LeO.bind ?_ (fun _ => ?_)
set_option maxHeartbeats 8000000 in
set_option maxRecDepth 100000 in
theorem events_Put.calls (k : Nat) (A0 : Option Addr) (c0 : Nat) (l0 : List (S72)) (r1 : ByteArray) (r2 : Int) (w : World) (hr0 : Kd.C k72 w A0 l0.length l0) (hc0 : l0.length ≤ c0) (h : events_Put.f k l0 = some (r1, r2)) :
    Calls Try.prog 43 #[.slice A0 l0.length c0] w fun e w' => e = .returned (.tuple #[.string r1, .int .i64 r2]) ∧ Below w.heap.size w w' := by
  have hu72 := Try.underlying72
  have HR0 := Aside0.mk hr0
  have HC0 := Aside0.mk hc0
  clear hr0 hc0
  have HB := Aside0.mk (Below.refl w.heap.size w)
  have H : (events_Put.l0 k ([] : List Int) l0 (l0.length : Int) 0) = some (r1, r2) := h
  clear h
  have H' := Aside0.mk H
  clear H
  go_enter Try.func43, Try.ntmps43
  go_wp2
  go_loopg [4, 9] k (fun kq v4 v9 w' => ∃ (x4_1 : List Int) (x9_1 : Int), v9 = .int .i64 x9_1 ∧ Aside0 (events_Put.l0 kq x4_1 l0 (l0.length : Int) x9_1 = some (r1, r2)) ∧ Aside0 (kq ≤ k) ∧ Aside0 (Kd.R (Kd.int .u8) 5 w' w.heap.size (fun _ => True) v4 x4_1) ∧ Aside0 (Below w.heap.size w w'))
  case atStart => exact ⟨(([] : List Int)), (0), (by first | rfl | (simp; done) | (simp [*]; done)), H', ⟨Nat.le_refl _⟩, ⟨by first | exact Kd.R_nil _ _ _ _ _ | exact Kd.N_nil _ _ _ _ _ | exact Kd.V_nil _ _ _ _ _ | exact Kd.Q_nil _ _ _ _ _ | exact Kd.S_nil _ _ _ _ _⟩, ⟨by repeat (first | (with_reducible first | exact HB.out | apply below_alloc | apply pw_below_drewN | apply below_drew1) | exact HB.out)⟩⟩
  case round =>
    clear H'
    obtain ⟨x4_1, x9_1, rfl, HA, HK1, HO_4, HB⟩ := hrel
    cases gk with
    | zero => exact absurd HA.out (by simp [events_Put.l0])
    | succ k1 =>
      have H := HA.out
      clear HA
      simp only [events_Put.l0] at H
      by_cases c2 : x9_1 < (l0.length : Int)
      · rw [if_pos c2] at H
        have c2b0 : decide (x9_1 < (l0.length : Int)) = true := decide_eq_true c2
        clear c2
        by_cases c3 : 0 ≤ x9_1
        · rw [if_pos c3] at H
          have c3b0 : decide (0 ≤ x9_1) = true := decide_eq_true c3
          clear c3
          by_cases c4 : x9_1 < (l0.length : Int)
          · rw [if_pos c4] at H
            have c4b0 : decide (x9_1 < (l0.length : Int)) = true := decide_eq_true c4
            clear c4
            replace H := Option.bind_eq_some_iff.mp H
            obtain ⟨t169, A50, H⟩ := H
            replace H : (if t169 = true then ((some (([(rd_T72 l0 x9_1).f0, (rd_T72 l0 x9_1).f1.f0, (rd_T72 l0 x9_1).f1.f1, (rd_T72 l0 x9_1).f1.f2, (rd_T72 l0 x9_1).f1.f3, ((rd_T72 l0 x9_1).f2.f0) % 256] : List Int) : List Int)).bind fun y170 => (if x4_1.length + y170.length < 140737488355328 then ((events_put.f k1 (x4_1 ++ y170) 2 (([IntKind.u64.wrap ((rd_T72 l0 x9_1).f2.f1)] : List Int))).bind fun t179 => ((events_put.f k1 t179 8 (([(rd_T72 l0 x9_1).f2.f2] : List Int))).bind fun t185 => ((events_put.f k1 t185 4 (([IntKind.u64.wrap ((rd_T72 l0 x9_1).f3), IntKind.u64.wrap ((rd_T72 l0 x9_1).f4), IntKind.u64.wrap ((rd_T72 l0 x9_1).f5)] : List Int))).bind fun t191 => (events_Put.l0 k1 t191 l0 (l0.length : Int) (wrap64 (x9_1 + 1)))))) else (none))) else (some ((⟨#[]⟩ : ByteArray), 2))) = some (r1, r2) := H
            have A5 := Aside0.mk A50
            clear A50
            by_cases c6 : t169 = true
            · subst c6
              have H1 : ((some (([(rd_T72 l0 x9_1).f0, (rd_T72 l0 x9_1).f1.f0, (rd_T72 l0 x9_1).f1.f1, (rd_T72 l0 x9_1).f1.f2, (rd_T72 l0 x9_1).f1.f3, ((rd_T72 l0 x9_1).f2.f0) % 256] : List Int) : List Int)).bind fun y170 => (if x4_1.length + y170.length < 140737488355328 then ((events_put.f k1 (x4_1 ++ y170) 2 (([IntKind.u64.wrap ((rd_T72 l0 x9_1).f2.f1)] : List Int))).bind fun t179 => ((events_put.f k1 t179 8 (([(rd_T72 l0 x9_1).f2.f2] : List Int))).bind fun t185 => ((events_put.f k1 t185 4 (([IntKind.u64.wrap ((rd_T72 l0 x9_1).f3), IntKind.u64.wrap ((rd_T72 l0 x9_1).f4), IntKind.u64.wrap ((rd_T72 l0 x9_1).f5)] : List Int))).bind fun t191 => (events_Put.l0 k1 t191 l0 (l0.length : Int) (wrap64 (x9_1 + 1)))))) else (none))) = some (r1, r2) := by rw [if_pos rfl] at H; exact H
              clear H
              have H := H1
              clear H1
              obtain ⟨y170, hy170⟩ : ∃ y_ : List Int, y_ = (([(rd_T72 l0 x9_1).f0, (rd_T72 l0 x9_1).f1.f0, (rd_T72 l0 x9_1).f1.f1, (rd_T72 l0 x9_1).f1.f2, (rd_T72 l0 x9_1).f1.f3, ((rd_T72 l0 x9_1).f2.f0) % 256] : List Int)) := ⟨_, rfl⟩
              replace H : (if x4_1.length + y170.length < 140737488355328 then ((events_put.f k1 (x4_1 ++ y170) 2 (([IntKind.u64.wrap ((rd_T72 l0 x9_1).f2.f1)] : List Int))).bind fun t179 => ((events_put.f k1 t179 8 (([(rd_T72 l0 x9_1).f2.f2] : List Int))).bind fun t185 => ((events_put.f k1 t185 4 (([IntKind.u64.wrap ((rd_T72 l0 x9_1).f3), IntKind.u64.wrap ((rd_T72 l0 x9_1).f4), IntKind.u64.wrap ((rd_T72 l0 x9_1).f5)] : List Int))).bind fun t191 => (events_Put.l0 k1 t191 l0 (l0.length : Int) (wrap64 (x9_1 + 1)))))) else (none)) = some (r1, r2) := by first | (rw [hy170]; with_reducible exact H) | (have H2_ := (Option.bind_some _ _).symm.trans H; rw [hy170]; with_reducible exact H2_) | (have H2_ := (Option.bind_some _ _).symm.trans H; with_reducible exact H2_) | with_reducible exact H | (rw [hy170]; exact H) | exact H
              have Ny170 := Aside0.mk hy170
              clear hy170
              by_cases c7 : x4_1.length + y170.length < 140737488355328
              · rw [if_pos c7] at H
                have LMc7 := Aside0.mk c7
                clear c7
                obtain ⟨y173, hy173⟩ : ∃ y_ : List Int, y_ = (x4_1 ++ y170) := ⟨_, rfl⟩
                replace H : ((events_put.f k1 y173 2 (([IntKind.u64.wrap ((rd_T72 l0 x9_1).f2.f1)] : List Int))).bind fun t179 => ((events_put.f k1 t179 8 (([(rd_T72 l0 x9_1).f2.f2] : List Int))).bind fun t185 => ((events_put.f k1 t185 4 (([IntKind.u64.wrap ((rd_T72 l0 x9_1).f3), IntKind.u64.wrap ((rd_T72 l0 x9_1).f4), IntKind.u64.wrap ((rd_T72 l0 x9_1).f5)] : List Int))).bind fun t191 => (events_Put.l0 k1 t191 l0 (l0.length : Int) (wrap64 (x9_1 + 1)))))) = some (r1, r2) := by first | (rw [hy173]; with_reducible exact H) | (have H2_ := (Option.bind_some _ _).symm.trans H; rw [hy173]; with_reducible exact H2_) | (have H2_ := (Option.bind_some _ _).symm.trans H; with_reducible exact H2_) | with_reducible exact H | (rw [hy173]; exact H) | exact H
                have Ny173 := Aside0.mk hy173
                clear hy173
                obtain ⟨y176, hy176⟩ : ∃ y_ : List Int, y_ = (([IntKind.u64.wrap ((rd_T72 l0 x9_1).f2.f1)] : List Int)) := ⟨_, rfl⟩
                replace H : ((events_put.f k1 y173 2 y176).bind fun t179 => ((events_put.f k1 t179 8 (([(rd_T72 l0 x9_1).f2.f2] : List Int))).bind fun t185 => ((events_put.f k1 t185 4 (([IntKind.u64.wrap ((rd_T72 l0 x9_1).f3), IntKind.u64.wrap ((rd_T72 l0 x9_1).f4), IntKind.u64.wrap ((rd_T72 l0 x9_1).f5)] : List Int))).bind fun t191 => (events_Put.l0 k1 t191 l0 (l0.length : Int) (wrap64 (x9_1 + 1)))))) = some (r1, r2) := by first | (rw [hy176]; with_reducible exact H) | (have H2_ := (Option.bind_some _ _).symm.trans H; rw [hy176]; with_reducible exact H2_) | (have H2_ := (Option.bind_some _ _).symm.trans H; with_reducible exact H2_) | with_reducible exact H | (rw [hy176]; exact H) | exact H
                have Ny176 := Aside0.mk hy176
                clear hy176
                replace H := Option.bind_eq_some_iff.mp H
                obtain ⟨t179, A80, H⟩ := H
                replace H : ((events_put.f k1 t179 8 (([(rd_T72 l0 x9_1).f2.f2] : List Int))).bind fun t185 => ((events_put.f k1 t185 4 (([IntKind.u64.wrap ((rd_T72 l0 x9_1).f3), IntKind.u64.wrap ((rd_T72 l0 x9_1).f4), IntKind.u64.wrap ((rd_T72 l0 x9_1).f5)] : List Int))).bind fun t191 => (events_Put.l0 k1 t191 l0 (l0.length : Int) (wrap64 (x9_1 + 1))))) = some (r1, r2) := H
                have A8 := Aside0.mk A80
                clear A80
                obtain ⟨y182, hy182⟩ : ∃ y_ : List Int, y_ = (([(rd_T72 l0 x9_1).f2.f2] : List Int)) := ⟨_, rfl⟩
                replace H : ((events_put.f k1 t179 8 y182).bind fun t185 => ((events_put.f k1 t185 4 (([IntKind.u64.wrap ((rd_T72 l0 x9_1).f3), IntKind.u64.wrap ((rd_T72 l0 x9_1).f4), IntKind.u64.wrap ((rd_T72 l0 x9_1).f5)] : List Int))).bind fun t191 => (events_Put.l0 k1 t191 l0 (l0.length : Int) (wrap64 (x9_1 + 1))))) = some (r1, r2) := by first | (rw [hy182]; with_reducible exact H) | (have H2_ := (Option.bind_some _ _).symm.trans H; rw [hy182]; with_reducible exact H2_) | (have H2_ := (Option.bind_some _ _).symm.trans H; with_reducible exact H2_) | with_reducible exact H | (rw [hy182]; exact H) | exact H
                have Ny182 := Aside0.mk hy182
                clear hy182
                replace H := Option.bind_eq_some_iff.mp H
                obtain ⟨t185, A90, H⟩ := H
                replace H : ((events_put.f k1 t185 4 (([IntKind.u64.wrap ((rd_T72 l0 x9_1).f3), IntKind.u64.wrap ((rd_T72 l0 x9_1).f4), IntKind.u64.wrap ((rd_T72 l0 x9_1).f5)] : List Int))).bind fun t191 => (events_Put.l0 k1 t191 l0 (l0.length : Int) (wrap64 (x9_1 + 1)))) = some (r1, r2) := H
                have A9 := Aside0.mk A90
                clear A90
                obtain ⟨y188, hy188⟩ : ∃ y_ : List Int, y_ = (([IntKind.u64.wrap ((rd_T72 l0 x9_1).f3), IntKind.u64.wrap ((rd_T72 l0 x9_1).f4), IntKind.u64.wrap ((rd_T72 l0 x9_1).f5)] : List Int)) := ⟨_, rfl⟩
                replace H : ((events_put.f k1 t185 4 y188).bind fun t191 => (events_Put.l0 k1 t191 l0 (l0.length : Int) (wrap64 (x9_1 + 1)))) = some (r1, r2) := by first | (rw [hy188]; with_reducible exact H) | (have H2_ := (Option.bind_some _ _).symm.trans H; rw [hy188]; with_reducible exact H2_) | (have H2_ := (Option.bind_some _ _).symm.trans H; with_reducible exact H2_) | with_reducible exact H | (rw [hy188]; exact H) | exact H
                have Ny188 := Aside0.mk hy188
                clear hy188
                replace H := Option.bind_eq_some_iff.mp H
                obtain ⟨t191, A100, H⟩ := H
                replace H : (events_Put.l0 k1 t191 l0 (l0.length : Int) (wrap64 (x9_1 + 1))) = some (r1, r2) := H
                have A10 := Aside0.mk A100
                clear A100
                have H' := Aside0.mk H
                clear H
                have p167 : 0 ≤ (x9_1 : Int) := of_decide_eq_true (by first | (with_reducible assumption) | assumption)
                have q167 : x9_1 < (l0.length : Int) := of_decide_eq_true (by first | (with_reducible assumption) | assumption)
                obtain ⟨ad167, e167, hx167_0, hx167_1, hx167_2, hx167_3, hx167_4, hx167_5, hx167_6, hx167_7, hx167_8, hx167_9, hx167_10⟩ := at_T72 HR0.out x9_1 p167 q167
                cases e167
                replace hx167_0 := (HB.out.cell (World.block_lt_of_cell? w _ hx167_0)).trans hx167_0
                replace hx167_1 := (HB.out.cell (World.block_lt_of_cell? w _ hx167_1)).trans hx167_1
                replace hx167_2 := (HB.out.cell (World.block_lt_of_cell? w _ hx167_2)).trans hx167_2
                replace hx167_3 := (HB.out.cell (World.block_lt_of_cell? w _ hx167_3)).trans hx167_3
                replace hx167_4 := (HB.out.cell (World.block_lt_of_cell? w _ hx167_4)).trans hx167_4
                replace hx167_5 := (HB.out.cell (World.block_lt_of_cell? w _ hx167_5)).trans hx167_5
                replace hx167_6 := (HB.out.cell (World.block_lt_of_cell? w _ hx167_6)).trans hx167_6
                replace hx167_7 := (HB.out.cell (World.block_lt_of_cell? w _ hx167_7)).trans hx167_7
                replace hx167_8 := (HB.out.cell (World.block_lt_of_cell? w _ hx167_8)).trans hx167_8
                replace hx167_9 := (HB.out.cell (World.block_lt_of_cell? w _ hx167_9)).trans hx167_9
                replace hx167_10 := (HB.out.cell (World.block_lt_of_cell? w _ hx167_10)).trans hx167_10
                replace p167 := eq_true p167
                replace q167 := eq_true q167
                go_wp2_with (first | ((with_reducible refine gate_dst (N := 6) rfl ?_); refine box_event ?hg (N := 6) ?hd (cs := #[.int .u8 0, .int .u8 0, .int .u8 0, .int .u8 0, .int .u8 0, .int .i64 0, .int .i64 0, .int .u64 0, .int .i64 0, .int .i64 0, .int .i64 0]) (t := 72) ?hr ?_; (case hd => rfl); (case hg => rfl); (case hr => first | (go_simp; done) | (go_simp; rfl)); intro gb168 hg w11 hbox hb; have n0_ := Aside0.mk (Kd.R_below (by (with_reducible repeat (first | apply Kd.R_alloc | apply Kd.R_drewN | apply Kd.R_drew)); exact HO_4.out) hb); have n1_ := Aside0.mk (below_step (by repeat (first | (with_reducible first | exact HB.out | apply below_alloc | apply pw_below_drewN | apply below_drew1) | exact HB.out)) hb); have n2_ := Aside0.mk (hbox); have n3_ := Aside0.mk ((by rw [hg]; exact (below_size (by repeat (first | (with_reducible first | exact HB.out | apply below_alloc | apply pw_below_drewN | apply below_drew1) | exact HB.out))) : w.heap.size ≤ gb168)); have n4_ := Aside0.mk ((by rw [hg]; exact (below_size (by repeat (first | (with_reducible first | exact HB.out | apply below_alloc | apply pw_below_drewN | apply below_drew1) | exact HB.out))) : w.heap.size ≤ gb168)); clear HO_4; clear HB; have HO_4 := n0_; have HB := n1_; have BK168 := n2_; have GW168 := n3_; have GE168 := n4_; clear n0_ n1_ n2_ n3_ n4_; clear hb hbox hg; have hcz12_0 : w11.cell? ⟨gb168, 0, none⟩ = some (.int .u8 0) := (blk_cell BK168.out 0).trans rfl; have hcz12_1 : w11.cell? ⟨gb168, 1, none⟩ = some (.int .u8 0) := (blk_cell BK168.out 1).trans rfl; have hcz12_2 : w11.cell? ⟨gb168, 2, none⟩ = some (.int .u8 0) := (blk_cell BK168.out 2).trans rfl; have hcz12_3 : w11.cell? ⟨gb168, 3, none⟩ = some (.int .u8 0) := (blk_cell BK168.out 3).trans rfl; have hcz12_4 : w11.cell? ⟨gb168, 4, none⟩ = some (.int .u8 0) := (blk_cell BK168.out 4).trans rfl; have hcz12_5 : w11.cell? ⟨gb168, 5, none⟩ = some (.int .i64 0) := (blk_cell BK168.out 5).trans rfl; have hcz12_6 : w11.cell? ⟨gb168, 6, none⟩ = some (.int .i64 0) := (blk_cell BK168.out 6).trans rfl; have hcz12_7 : w11.cell? ⟨gb168, 7, none⟩ = some (.int .u64 0) := (blk_cell BK168.out 7).trans rfl; have hcz12_8 : w11.cell? ⟨gb168, 8, none⟩ = some (.int .i64 0) := (blk_cell BK168.out 8).trans rfl; have hcz12_9 : w11.cell? ⟨gb168, 9, none⟩ = some (.int .i64 0) := (blk_cell BK168.out 9).trans rfl; have hcz12_10 : w11.cell? ⟨gb168, 10, none⟩ = some (.int .i64 0) := (blk_cell BK168.out 10).trans rfl; have hfz12_0 := blk_frozen BK168.out 0; have hfz12_1 := blk_frozen BK168.out 1; have hfz12_2 := blk_frozen BK168.out 2; have hfz12_3 := blk_frozen BK168.out 3; have hfz12_4 := blk_frozen BK168.out 4; have hfz12_5 := blk_frozen BK168.out 5; have hfz12_6 := blk_frozen BK168.out 6; have hfz12_7 := blk_frozen BK168.out 7; have hfz12_8 := blk_frozen BK168.out 8; have hfz12_9 := blk_frozen BK168.out 9; have hfz12_10 := blk_frozen BK168.out 10) | ((with_reducible refine gate_callee (f := 44) rfl ?_); refine goesL_ (some 14) rfl rfl Try.func44 (by kernel_rfl) rfl #[.agg #[.int .u8 ((rd_T72 l0 x9_1).f0), .int .u8 ((rd_T72 l0 x9_1).f1.f0), .int .u8 ((rd_T72 l0 x9_1).f1.f1), .int .u8 ((rd_T72 l0 x9_1).f1.f2), .int .u8 ((rd_T72 l0 x9_1).f1.f3), .int .i64 ((rd_T72 l0 x9_1).f2.f0), .int .i64 ((rd_T72 l0 x9_1).f2.f1), .int .u64 ((rd_T72 l0 x9_1).f2.f2), .int .i64 ((rd_T72 l0 x9_1).f3), .int .i64 ((rd_T72 l0 x9_1).f4), .int .i64 ((rd_T72 l0 x9_1).f5)]] rfl (by (try simp only [List.map_toArray, List.map_cons, List.map_nil]); first | done | rfl | (simp only [List.length_drop, List.length_take]; rfl)) ?_; (with_reducible refine (events_May.calls k1 ((rd_T72 l0 x9_1).f0) ((rd_T72 l0 x9_1).f1.f0) ((rd_T72 l0 x9_1).f1.f1) ((rd_T72 l0 x9_1).f1.f2) ((rd_T72 l0 x9_1).f1.f3) ((rd_T72 l0 x9_1).f2.f0) ((rd_T72 l0 x9_1).f2.f1) ((rd_T72 l0 x9_1).f2.f2) ((rd_T72 l0 x9_1).f3) ((rd_T72 l0 x9_1).f4) ((rd_T72 l0 x9_1).f5) true _ A5.out).mono ?_); rintro e w13 ⟨rfl, hb⟩; refine ⟨_, rfl, ?_⟩; have n0_ := Aside0.mk (Kd.R_below (by (with_reducible repeat (first | apply Kd.R_alloc | apply Kd.R_drewN | apply Kd.R_drew)); exact (Kd.R_mono (Kd.R_far (p := ⟨gb168, 10, none⟩) (Kd.R_far (p := ⟨gb168, 9, none⟩) (Kd.R_far (p := ⟨gb168, 8, none⟩) (Kd.R_far (p := ⟨gb168, 7, none⟩) (Kd.R_far (p := ⟨gb168, 6, none⟩) (Kd.R_far (p := ⟨gb168, 5, none⟩) (Kd.R_far (p := ⟨gb168, 4, none⟩) (Kd.R_far (p := ⟨gb168, 3, none⟩) (Kd.R_far (p := ⟨gb168, 2, none⟩) (Kd.R_far (p := ⟨gb168, 1, none⟩) (Kd.R_far (p := ⟨gb168, 0, none⟩) (Kd.R_types HO_4.out BK168.out (by decide)) (fun _ hk => hk.2) (.int .u8 ((rd_T72 l0 x9_1).f0))) (fun _ hk => hk.2) (.int .u8 ((rd_T72 l0 x9_1).f1.f0))) (fun _ hk => hk.2) (.int .u8 ((rd_T72 l0 x9_1).f1.f1))) (fun _ hk => hk.2) (.int .u8 ((rd_T72 l0 x9_1).f1.f2))) (fun _ hk => hk.2) (.int .u8 ((rd_T72 l0 x9_1).f1.f3))) (fun _ hk => hk.2) (.int .i64 ((rd_T72 l0 x9_1).f2.f0))) (fun _ hk => hk.2) (.int .i64 ((rd_T72 l0 x9_1).f2.f1))) (fun _ hk => hk.2) (.int .u64 ((rd_T72 l0 x9_1).f2.f2))) (fun _ hk => hk.2) (.int .i64 ((rd_T72 l0 x9_1).f3))) (fun _ hk => hk.2) (.int .i64 ((rd_T72 l0 x9_1).f4))) (fun _ hk => hk.2) (.int .i64 ((rd_T72 l0 x9_1).f5))) (fun _ h_ => h_.1))) hb); have n1_ := Aside0.mk (blk_below (g := gb168) (o := .cells #[.int .u8 ((rd_T72 l0 x9_1).f0), .int .u8 ((rd_T72 l0 x9_1).f1.f0), .int .u8 ((rd_T72 l0 x9_1).f1.f1), .int .u8 ((rd_T72 l0 x9_1).f1.f2), .int .u8 ((rd_T72 l0 x9_1).f1.f3), .int .i64 ((rd_T72 l0 x9_1).f2.f0), .int .i64 ((rd_T72 l0 x9_1).f2.f1), .int .u64 ((rd_T72 l0 x9_1).f2.f2), .int .i64 ((rd_T72 l0 x9_1).f3), .int .i64 ((rd_T72 l0 x9_1).f4), .int .i64 ((rd_T72 l0 x9_1).f5)] 72 (0, 0)) (by (with_reducible repeat (first | refine blk_drewN ?_ _ | refine blk_drew ?_ | refine blk_alloc ?_ _)); refine blk_put (cs := #[.int .u8 ((rd_T72 l0 x9_1).f0), .int .u8 ((rd_T72 l0 x9_1).f1.f0), .int .u8 ((rd_T72 l0 x9_1).f1.f1), .int .u8 ((rd_T72 l0 x9_1).f1.f2), .int .u8 ((rd_T72 l0 x9_1).f1.f3), .int .i64 ((rd_T72 l0 x9_1).f2.f0), .int .i64 ((rd_T72 l0 x9_1).f2.f1), .int .u64 ((rd_T72 l0 x9_1).f2.f2), .int .i64 ((rd_T72 l0 x9_1).f3), .int .i64 ((rd_T72 l0 x9_1).f4), .int .i64 0]) ?_ 10 _ rfl; (with_reducible repeat (first | refine blk_drewN ?_ _ | refine blk_drew ?_ | refine blk_alloc ?_ _)); refine blk_put (cs := #[.int .u8 ((rd_T72 l0 x9_1).f0), .int .u8 ((rd_T72 l0 x9_1).f1.f0), .int .u8 ((rd_T72 l0 x9_1).f1.f1), .int .u8 ((rd_T72 l0 x9_1).f1.f2), .int .u8 ((rd_T72 l0 x9_1).f1.f3), .int .i64 ((rd_T72 l0 x9_1).f2.f0), .int .i64 ((rd_T72 l0 x9_1).f2.f1), .int .u64 ((rd_T72 l0 x9_1).f2.f2), .int .i64 ((rd_T72 l0 x9_1).f3), .int .i64 0, .int .i64 0]) ?_ 9 _ rfl; (with_reducible repeat (first | refine blk_drewN ?_ _ | refine blk_drew ?_ | refine blk_alloc ?_ _)); refine blk_put (cs := #[.int .u8 ((rd_T72 l0 x9_1).f0), .int .u8 ((rd_T72 l0 x9_1).f1.f0), .int .u8 ((rd_T72 l0 x9_1).f1.f1), .int .u8 ((rd_T72 l0 x9_1).f1.f2), .int .u8 ((rd_T72 l0 x9_1).f1.f3), .int .i64 ((rd_T72 l0 x9_1).f2.f0), .int .i64 ((rd_T72 l0 x9_1).f2.f1), .int .u64 ((rd_T72 l0 x9_1).f2.f2), .int .i64 0, .int .i64 0, .int .i64 0]) ?_ 8 _ rfl; (with_reducible repeat (first | refine blk_drewN ?_ _ | refine blk_drew ?_ | refine blk_alloc ?_ _)); refine blk_put (cs := #[.int .u8 ((rd_T72 l0 x9_1).f0), .int .u8 ((rd_T72 l0 x9_1).f1.f0), .int .u8 ((rd_T72 l0 x9_1).f1.f1), .int .u8 ((rd_T72 l0 x9_1).f1.f2), .int .u8 ((rd_T72 l0 x9_1).f1.f3), .int .i64 ((rd_T72 l0 x9_1).f2.f0), .int .i64 ((rd_T72 l0 x9_1).f2.f1), .int .u64 0, .int .i64 0, .int .i64 0, .int .i64 0]) ?_ 7 _ rfl; (with_reducible repeat (first | refine blk_drewN ?_ _ | refine blk_drew ?_ | refine blk_alloc ?_ _)); refine blk_put (cs := #[.int .u8 ((rd_T72 l0 x9_1).f0), .int .u8 ((rd_T72 l0 x9_1).f1.f0), .int .u8 ((rd_T72 l0 x9_1).f1.f1), .int .u8 ((rd_T72 l0 x9_1).f1.f2), .int .u8 ((rd_T72 l0 x9_1).f1.f3), .int .i64 ((rd_T72 l0 x9_1).f2.f0), .int .i64 0, .int .u64 0, .int .i64 0, .int .i64 0, .int .i64 0]) ?_ 6 _ rfl; (with_reducible repeat (first | refine blk_drewN ?_ _ | refine blk_drew ?_ | refine blk_alloc ?_ _)); refine blk_put (cs := #[.int .u8 ((rd_T72 l0 x9_1).f0), .int .u8 ((rd_T72 l0 x9_1).f1.f0), .int .u8 ((rd_T72 l0 x9_1).f1.f1), .int .u8 ((rd_T72 l0 x9_1).f1.f2), .int .u8 ((rd_T72 l0 x9_1).f1.f3), .int .i64 0, .int .i64 0, .int .u64 0, .int .i64 0, .int .i64 0, .int .i64 0]) ?_ 5 _ rfl; (with_reducible repeat (first | refine blk_drewN ?_ _ | refine blk_drew ?_ | refine blk_alloc ?_ _)); refine blk_put (cs := #[.int .u8 ((rd_T72 l0 x9_1).f0), .int .u8 ((rd_T72 l0 x9_1).f1.f0), .int .u8 ((rd_T72 l0 x9_1).f1.f1), .int .u8 ((rd_T72 l0 x9_1).f1.f2), .int .u8 0, .int .i64 0, .int .i64 0, .int .u64 0, .int .i64 0, .int .i64 0, .int .i64 0]) ?_ 4 _ rfl; (with_reducible repeat (first | refine blk_drewN ?_ _ | refine blk_drew ?_ | refine blk_alloc ?_ _)); refine blk_put (cs := #[.int .u8 ((rd_T72 l0 x9_1).f0), .int .u8 ((rd_T72 l0 x9_1).f1.f0), .int .u8 ((rd_T72 l0 x9_1).f1.f1), .int .u8 0, .int .u8 0, .int .i64 0, .int .i64 0, .int .u64 0, .int .i64 0, .int .i64 0, .int .i64 0]) ?_ 3 _ rfl; (with_reducible repeat (first | refine blk_drewN ?_ _ | refine blk_drew ?_ | refine blk_alloc ?_ _)); refine blk_put (cs := #[.int .u8 ((rd_T72 l0 x9_1).f0), .int .u8 ((rd_T72 l0 x9_1).f1.f0), .int .u8 0, .int .u8 0, .int .u8 0, .int .i64 0, .int .i64 0, .int .u64 0, .int .i64 0, .int .i64 0, .int .i64 0]) ?_ 2 _ rfl; (with_reducible repeat (first | refine blk_drewN ?_ _ | refine blk_drew ?_ | refine blk_alloc ?_ _)); refine blk_put (cs := #[.int .u8 ((rd_T72 l0 x9_1).f0), .int .u8 0, .int .u8 0, .int .u8 0, .int .u8 0, .int .i64 0, .int .i64 0, .int .u64 0, .int .i64 0, .int .i64 0, .int .i64 0]) ?_ 1 _ rfl; (with_reducible repeat (first | refine blk_drewN ?_ _ | refine blk_drew ?_ | refine blk_alloc ?_ _)); refine blk_put (cs := #[.int .u8 0, .int .u8 0, .int .u8 0, .int .u8 0, .int .u8 0, .int .i64 0, .int .i64 0, .int .u64 0, .int .i64 0, .int .i64 0, .int .i64 0]) ?_ 0 _ rfl; (with_reducible repeat (first | refine blk_drewN ?_ _ | refine blk_drew ?_ | refine blk_alloc ?_ _)); exact BK168.out) hb); have n2_ := Aside0.mk (below_step (by repeat (first | (with_reducible first | exact HB.out | apply below_alloc | apply pw_below_drewN | apply below_drew1 | refine below_set ?_ GE168.out) | exact HB.out)) hb); clear HO_4; clear BK168; clear HB; have HO_4 := n0_; have BK168 := n1_; have HB := n2_; clear n0_ n1_ n2_; (try clear hb); (try clear hb2); (try clear hk); (try clear hi); have hcz14_0 : w13.cell? ⟨gb168, 0, none⟩ = some (.int .u8 ((rd_T72 l0 x9_1).f0)) := (blk_cell BK168.out 0).trans rfl; have hcz14_1 : w13.cell? ⟨gb168, 1, none⟩ = some (.int .u8 ((rd_T72 l0 x9_1).f1.f0)) := (blk_cell BK168.out 1).trans rfl; have hcz14_2 : w13.cell? ⟨gb168, 2, none⟩ = some (.int .u8 ((rd_T72 l0 x9_1).f1.f1)) := (blk_cell BK168.out 2).trans rfl; have hcz14_3 : w13.cell? ⟨gb168, 3, none⟩ = some (.int .u8 ((rd_T72 l0 x9_1).f1.f2)) := (blk_cell BK168.out 3).trans rfl; have hcz14_4 : w13.cell? ⟨gb168, 4, none⟩ = some (.int .u8 ((rd_T72 l0 x9_1).f1.f3)) := (blk_cell BK168.out 4).trans rfl; have hcz14_5 : w13.cell? ⟨gb168, 5, none⟩ = some (.int .i64 ((rd_T72 l0 x9_1).f2.f0)) := (blk_cell BK168.out 5).trans rfl; have hcz14_6 : w13.cell? ⟨gb168, 6, none⟩ = some (.int .i64 ((rd_T72 l0 x9_1).f2.f1)) := (blk_cell BK168.out 6).trans rfl; have hcz14_7 : w13.cell? ⟨gb168, 7, none⟩ = some (.int .u64 ((rd_T72 l0 x9_1).f2.f2)) := (blk_cell BK168.out 7).trans rfl; have hcz14_8 : w13.cell? ⟨gb168, 8, none⟩ = some (.int .i64 ((rd_T72 l0 x9_1).f3)) := (blk_cell BK168.out 8).trans rfl; have hcz14_9 : w13.cell? ⟨gb168, 9, none⟩ = some (.int .i64 ((rd_T72 l0 x9_1).f4)) := (blk_cell BK168.out 9).trans rfl; have hcz14_10 : w13.cell? ⟨gb168, 10, none⟩ = some (.int .i64 ((rd_T72 l0 x9_1).f5)) := (blk_cell BK168.out 10).trans rfl; have hfz14_0 := blk_frozen BK168.out 0; have hfz14_1 := blk_frozen BK168.out 1; have hfz14_2 := blk_frozen BK168.out 2; have hfz14_3 := blk_frozen BK168.out 3; have hfz14_4 := blk_frozen BK168.out 4; have hfz14_5 := blk_frozen BK168.out 5; have hfz14_6 := blk_frozen BK168.out 6; have hfz14_7 := blk_frozen BK168.out 7; have hfz14_8 := blk_frozen BK168.out 8; have hfz14_9 := blk_frozen BK168.out 9; have hfz14_10 := blk_frozen BK168.out 10) | ((with_reducible refine gate_dst (N := 35) rfl ?_); refine Kd.R_lit (Kd.int .u8) _ 5 ?hg (N := 35) ?hd (xs := ([(rd_T72 l0 x9_1).f0, (rd_T72 l0 x9_1).f1.f0, (rd_T72 l0 x9_1).f1.f1, (rd_T72 l0 x9_1).f1.f2, (rd_T72 l0 x9_1).f1.f3, ((rd_T72 l0 x9_1).f2.f0) % 256] : List Int)) (inner := [.int .u8 ((rd_T72 l0 x9_1).f0), .int .u8 ((rd_T72 l0 x9_1).f1.f0), .int .u8 ((rd_T72 l0 x9_1).f1.f1), .int .u8 ((rd_T72 l0 x9_1).f1.f2), .int .u8 ((rd_T72 l0 x9_1).f1.f3), .int .u8 (((rd_T72 l0 x9_1).f2.f0) % 256)]) (ok := fun _ => True) (okp := fun _ => True) ?hr ?hp (fun _ hk => hk) trivial (Below.refl _ _) (Nat.le_refl _) (by simp) ?_; (case hd => rfl); (case hg => rfl); (case hr => first | (go_simp; done) | (go_simp; rfl)); (case hp => exact (Reps.one (show Kd.M (Kd.int .u8) _ _ _ ((rd_T72 l0 x9_1).f0) [.int .u8 ((rd_T72 l0 x9_1).f0)] from rfl) (Reps.one (show Kd.M (Kd.int .u8) _ _ _ ((rd_T72 l0 x9_1).f1.f0) [.int .u8 ((rd_T72 l0 x9_1).f1.f0)] from rfl) (Reps.one (show Kd.M (Kd.int .u8) _ _ _ ((rd_T72 l0 x9_1).f1.f1) [.int .u8 ((rd_T72 l0 x9_1).f1.f1)] from rfl) (Reps.one (show Kd.M (Kd.int .u8) _ _ _ ((rd_T72 l0 x9_1).f1.f2) [.int .u8 ((rd_T72 l0 x9_1).f1.f2)] from rfl) (Reps.one (show Kd.M (Kd.int .u8) _ _ _ ((rd_T72 l0 x9_1).f1.f3) [.int .u8 ((rd_T72 l0 x9_1).f1.f3)] from rfl) (Reps.one (show Kd.M (Kd.int .u8) _ _ _ (((rd_T72 l0 x9_1).f2.f0) % 256) [.int .u8 (((rd_T72 l0 x9_1).f2.f0) % 256)] from rfl) (Reps.none _ _)))))))); intro v171 w15 ho16 hb hg_ hnew_; clear hg_ hnew_; (first | rw [← Ny170.out] at ho16 | (simp only [Int.reduceToNat] at ho16; rw [← Ny170.out] at ho16)); have n0_ := Aside0.mk (Kd.R_elder' (by (with_reducible repeat (first | apply Kd.R_alloc | apply Kd.R_drewN | apply Kd.R_drew)); exact HO_4.out) (Kd.R_base ho16) hb); have n1_ := Aside0.mk (Kd.R_lower (Kd.R_new' ho16 (Kd.R_lt (by (with_reducible repeat (first | apply Kd.R_alloc | apply Kd.R_drewN | apply Kd.R_drew)); exact HO_4.out))) (below_size (by repeat (first | (with_reducible first | exact HB.out | apply below_alloc | apply pw_below_drewN | apply below_drew1 | refine below_set ?_ GE168.out) | exact HB.out)))); have n2_ := Aside0.mk (blk_below (g := gb168) (o := .cells #[.int .u8 ((rd_T72 l0 x9_1).f0), .int .u8 ((rd_T72 l0 x9_1).f1.f0), .int .u8 ((rd_T72 l0 x9_1).f1.f1), .int .u8 ((rd_T72 l0 x9_1).f1.f2), .int .u8 ((rd_T72 l0 x9_1).f1.f3), .int .i64 ((rd_T72 l0 x9_1).f2.f0), .int .i64 ((rd_T72 l0 x9_1).f2.f1), .int .u64 ((rd_T72 l0 x9_1).f2.f2), .int .i64 ((rd_T72 l0 x9_1).f3), .int .i64 ((rd_T72 l0 x9_1).f4), .int .i64 ((rd_T72 l0 x9_1).f5)] 72 (0, 0)) (by (with_reducible repeat (first | refine blk_drewN ?_ _ | refine blk_drew ?_ | refine blk_alloc ?_ _)); exact BK168.out) hb); have n3_ := Aside0.mk (below_step (by repeat (first | (with_reducible first | exact HB.out | apply below_alloc | apply pw_below_drewN | apply below_drew1 | refine below_set ?_ GE168.out) | exact HB.out)) hb); clear HO_4; clear BK168; clear HB; have HO_4 := n0_; have HO172 := n1_; have BK168 := n2_; have HB := n3_; clear n0_ n1_ n2_ n3_; clear hb ho16; obtain ⟨Ao18, co18, eo18⟩ := Kd.R_slice HO172.out; subst eo18) | ((with_reducible refine gate_builtin (b := .append) (xs := #[.tmp 16, .tmp 35]) rfl ?_); at_builtin; refine Kd.R_append_rows (Kd.int .u8) (w0 := w) w.heap.size rfl (.tmp 16) (.tmp 35) 94 5 (.int .u8 0) 1 rfl Try.underlying94 info5 rfl (by decide) (by omega) u4 x4_1 y170 _ _ _ (fun k_ => some k_ ≠ (.slice Ao18 y170.length co18 : Value).ownBlock) (fun _ => False) rfl rfl ?aO ?aR (fun _ _ h => h) (fun _ h => h.elim) ?aF ?aB ?aS ?aL ?_; (case aR => repeat (first | exact (Kd.R_reads' HO172.out).2.2 | (with_reducible refine Kd.C_alloc ?_ _) | (with_reducible refine Kd.C_drewN ?_ _) | (with_reducible refine Kd.C_drew ?_))); (case aB => exact (by repeat (first | (with_reducible first | exact HB.out | apply below_alloc | apply pw_below_drewN | apply below_drew1 | refine below_set ?_ GE168.out) | exact HB.out))); (case aF => exact (fun k_ hk => Kd.fresh' (Kd.R_lt (by (with_reducible repeat (first | apply Kd.R_alloc | apply Kd.R_drewN | apply Kd.R_drew)); exact HO172.out)) k_ hk)); (case aO => exact (by (with_reducible repeat (first | apply Kd.R_alloc | apply Kd.R_drewN | apply Kd.R_drew)); exact Kd.R_mono HO_4.out (fun _ hk => hk.2))); (case aS => exact (below_size (by repeat (first | (with_reducible first | exact HB.out | apply below_alloc | apply pw_below_drewN | apply below_drew1 | refine below_set ?_ GE168.out) | exact HB.out)))); (case aL => have := LMc7.out; omega); intro v174 w17 ho hb hg hat; rw [← Ny173.out] at ho; have n0_ := Aside0.mk (blk_grown (g := gb168) (o := .cells #[.int .u8 ((rd_T72 l0 x9_1).f0), .int .u8 ((rd_T72 l0 x9_1).f1.f0), .int .u8 ((rd_T72 l0 x9_1).f1.f1), .int .u8 ((rd_T72 l0 x9_1).f1.f2), .int .u8 ((rd_T72 l0 x9_1).f1.f3), .int .i64 ((rd_T72 l0 x9_1).f2.f0), .int .i64 ((rd_T72 l0 x9_1).f2.f1), .int .u64 ((rd_T72 l0 x9_1).f2.f2), .int .i64 ((rd_T72 l0 x9_1).f3), .int .i64 ((rd_T72 l0 x9_1).f4), .int .i64 ((rd_T72 l0 x9_1).f5)] 72 (0, 0)) (by (with_reducible repeat (first | refine blk_drewN ?_ _ | refine blk_drew ?_ | refine blk_alloc ?_ _)); exact BK168.out) hg (Kd.R_ne HO_4.out BK168.out (by decide))); have n1_ := Aside0.mk (Kd.R_after (ok := (fun _ => True)) (by (with_reducible repeat (first | apply Kd.R_alloc | apply Kd.R_drewN | apply Kd.R_drew)); exact HO172.out) hg hat); have n2_ := Aside0.mk (hb); have n3_ := Aside0.mk (ho); clear BK168; clear HO172; clear HB; clear HO_4; have BK168 := n0_; have HO172 := n1_; have HB := n2_; have HO175 := n3_; clear n0_ n1_ n2_ n3_; clear ho hb hg hat; have hcz19_0 : w17.cell? ⟨gb168, 0, none⟩ = some (.int .u8 ((rd_T72 l0 x9_1).f0)) := (blk_cell BK168.out 0).trans rfl; have hcz19_1 : w17.cell? ⟨gb168, 1, none⟩ = some (.int .u8 ((rd_T72 l0 x9_1).f1.f0)) := (blk_cell BK168.out 1).trans rfl; have hcz19_2 : w17.cell? ⟨gb168, 2, none⟩ = some (.int .u8 ((rd_T72 l0 x9_1).f1.f1)) := (blk_cell BK168.out 2).trans rfl; have hcz19_3 : w17.cell? ⟨gb168, 3, none⟩ = some (.int .u8 ((rd_T72 l0 x9_1).f1.f2)) := (blk_cell BK168.out 3).trans rfl; have hcz19_4 : w17.cell? ⟨gb168, 4, none⟩ = some (.int .u8 ((rd_T72 l0 x9_1).f1.f3)) := (blk_cell BK168.out 4).trans rfl; have hcz19_5 : w17.cell? ⟨gb168, 5, none⟩ = some (.int .i64 ((rd_T72 l0 x9_1).f2.f0)) := (blk_cell BK168.out 5).trans rfl; have hcz19_6 : w17.cell? ⟨gb168, 6, none⟩ = some (.int .i64 ((rd_T72 l0 x9_1).f2.f1)) := (blk_cell BK168.out 6).trans rfl; have hcz19_7 : w17.cell? ⟨gb168, 7, none⟩ = some (.int .u64 ((rd_T72 l0 x9_1).f2.f2)) := (blk_cell BK168.out 7).trans rfl; have hcz19_8 : w17.cell? ⟨gb168, 8, none⟩ = some (.int .i64 ((rd_T72 l0 x9_1).f3)) := (blk_cell BK168.out 8).trans rfl; have hcz19_9 : w17.cell? ⟨gb168, 9, none⟩ = some (.int .i64 ((rd_T72 l0 x9_1).f4)) := (blk_cell BK168.out 9).trans rfl; have hcz19_10 : w17.cell? ⟨gb168, 10, none⟩ = some (.int .i64 ((rd_T72 l0 x9_1).f5)) := (blk_cell BK168.out 10).trans rfl; have hfz19_0 := blk_frozen BK168.out 0; have hfz19_1 := blk_frozen BK168.out 1; have hfz19_2 := blk_frozen BK168.out 2; have hfz19_3 := blk_frozen BK168.out 3; have hfz19_4 := blk_frozen BK168.out 4; have hfz19_5 := blk_frozen BK168.out 5; have hfz19_6 := blk_frozen BK168.out 6; have hfz19_7 := blk_frozen BK168.out 7; have hfz19_8 := blk_frozen BK168.out 8; have hfz19_9 := blk_frozen BK168.out 9; have hfz19_10 := blk_frozen BK168.out 10) | ((with_reducible refine gate_dst (N := 42) rfl ?_); refine Kd.R_lit (Kd.int .u64) _ 56 ?hg (N := 42) ?hd (xs := ([IntKind.u64.wrap ((rd_T72 l0 x9_1).f2.f1)] : List Int)) (inner := [.int .u64 (IntKind.u64.wrap ((rd_T72 l0 x9_1).f2.f1))]) (ok := fun _ => True) (okp := fun _ => True) ?hr ?hp (fun _ hk => hk) trivial (Below.refl _ _) (Nat.le_refl _) (by simp) ?_; (case hd => rfl); (case hg => rfl); (case hr => first | (go_simp; done) | (go_simp; rfl)); (case hp => exact (Reps.one (show Kd.M (Kd.int .u64) _ _ _ (IntKind.u64.wrap ((rd_T72 l0 x9_1).f2.f1)) [.int .u64 (IntKind.u64.wrap ((rd_T72 l0 x9_1).f2.f1))] from rfl) (Reps.none _ _))); intro v177 w20 ho21 hb hg_ hnew_; clear hg_ hnew_; (first | rw [← Ny176.out] at ho21 | (simp only [Int.reduceToNat] at ho21; rw [← Ny176.out] at ho21)); have n0_ := Aside0.mk (Kd.R_below (by (with_reducible repeat (first | apply Kd.R_alloc | apply Kd.R_drewN | apply Kd.R_drew)); exact HO172.out) hb); have n1_ := Aside0.mk (Kd.R_below (by (with_reducible repeat (first | apply Kd.R_alloc | apply Kd.R_drewN | apply Kd.R_drew)); exact HO175.out) hb); have n2_ := Aside0.mk (Kd.R_lower ho21 (below_size (by repeat (first | (with_reducible first | exact HB.out | apply below_alloc | apply pw_below_drewN | apply below_drew1 | refine below_set ?_ GE168.out) | exact HB.out)))); have n3_ := Aside0.mk (blk_below (g := gb168) (o := .cells #[.int .u8 ((rd_T72 l0 x9_1).f0), .int .u8 ((rd_T72 l0 x9_1).f1.f0), .int .u8 ((rd_T72 l0 x9_1).f1.f1), .int .u8 ((rd_T72 l0 x9_1).f1.f2), .int .u8 ((rd_T72 l0 x9_1).f1.f3), .int .i64 ((rd_T72 l0 x9_1).f2.f0), .int .i64 ((rd_T72 l0 x9_1).f2.f1), .int .u64 ((rd_T72 l0 x9_1).f2.f2), .int .i64 ((rd_T72 l0 x9_1).f3), .int .i64 ((rd_T72 l0 x9_1).f4), .int .i64 ((rd_T72 l0 x9_1).f5)] 72 (0, 0)) (by (with_reducible repeat (first | refine blk_drewN ?_ _ | refine blk_drew ?_ | refine blk_alloc ?_ _)); exact BK168.out) hb); have n4_ := Aside0.mk (below_step (by repeat (first | (with_reducible first | exact HB.out | apply below_alloc | apply pw_below_drewN | apply below_drew1 | refine below_set ?_ GE168.out) | exact HB.out)) hb); clear HO172; clear HO175; clear BK168; clear HB; have HO172 := n0_; have HO175 := n1_; have HO178 := n2_; have BK168 := n3_; have HB := n4_; clear n0_ n1_ n2_ n3_ n4_; clear hb ho21; obtain ⟨Ao22, co22, eo22⟩ := Kd.R_slice HO175.out; subst eo22; obtain ⟨Ao23, co23, eo23⟩ := Kd.R_slice HO178.out; subst eo23) | ((with_reducible refine gate_callee (f := 81) rfl ?_); refine goesL_ (some 43) rfl rfl Try.func81 (by kernel_rfl) rfl #[.slice Ao22 y173.length co22, .int .i64 2, .slice Ao23 y176.length co23] rfl (by (try simp only [List.map_toArray, List.map_cons, List.map_nil]); first | done | rfl | (simp only [List.length_drop, List.length_take]; rfl)) ?_; (with_reducible refine (events_put.calls k1 (fun k_ => some k_ = (.slice Ao22 y173.length co22 : Value).ownBlock) (.slice Ao22 y173.length co22) y173 2 _ _ y176 t179 w _ ?side1 ?side2 ?side3 ?side4 A8.out).mono ?_); (case side1 => repeat (first | (with_reducible first | exact HB.out | apply below_alloc | apply pw_below_drewN | apply below_drew1 | refine below_set ?_ GE168.out) | exact HB.out)); (case side2 => exact Kd.R_tight rfl HO175.out); (case side3 => exact Kd.C_kept_own ((Kd.R_apart' HO178.out (Kd.R_typed HO175.out) (by decide))) (fun k_ hk_ hs_ => (hk_.2) hs_)); (case side4 => exact (Kd.R_reads' HO178.out).2.1); rintro e w24 ⟨v180, rfl, ho0, hb, hkp⟩; refine ⟨_, rfl, ?_⟩; have n0_ := Aside0.mk (blk_kept (by (with_reducible repeat (first | refine blk_drewN ?_ _ | refine blk_drew ?_ | refine blk_alloc ?_ _)); exact BK168.out) hkp (fun hs_ => (fun e_ => (Kd.R_ne HO175.out BK168.out (by decide)) e_) hs_)); have n1_ := Aside0.mk (Kd.R_mono (ok' := fun k_ => some k_ ≠ (v180 : Value).ownBlock) (Kd.R_keptB (HO172.out) hkp (fun k_ hk_ hs_ => (hk_.2) hs_)) (fun k_ hk_ => fun e_ => Or.elim (ho0.1 k_ e_.symm) (fun hs_ => hk_.2.1 hs_) (fun hn_ => Nat.not_le.2 hk_.2.2 hn_))); have n2_ := Aside0.mk (Kd.R_mono (ok' := fun k_ => True) (Kd.R_keptB ((Kd.R_apart' HO178.out (Kd.R_typed HO175.out) (by decide))) hkp (fun k_ hk_ hs_ => (hk_.2) hs_)) (fun k_ hk_ => trivial)); have n3_ := Aside0.mk (Kd.R_mono (ok' := fun k_ => some k_ ≠ (.slice Ao18 y170.length co18 : Value).ownBlock) ho0 (fun k_ hk_ => Or.elim hk_ (fun hs_ => fun e_ => (((HO172.out).1 k_ e_.symm).2) hs_) (fun hn_ => (Kd.fresh' (Kd.R_lt (by (with_reducible repeat (first | apply Kd.R_alloc | apply Kd.R_drewN | apply Kd.R_drew)); exact HO172.out)) k_ hn_)))); have n4_ := Aside0.mk (hb); clear BK168; clear HO172; clear HO178; clear HB; clear HO175; have BK168 := n0_; have HO172 := n1_; have HO178 := n2_; have HO181 := n3_; have HB := n4_; clear n0_ n1_ n2_ n3_ n4_; (try clear hb); (try clear hkp); (try clear ho0); have hcz25_0 : w24.cell? ⟨gb168, 0, none⟩ = some (.int .u8 ((rd_T72 l0 x9_1).f0)) := (blk_cell BK168.out 0).trans rfl; have hcz25_1 : w24.cell? ⟨gb168, 1, none⟩ = some (.int .u8 ((rd_T72 l0 x9_1).f1.f0)) := (blk_cell BK168.out 1).trans rfl; have hcz25_2 : w24.cell? ⟨gb168, 2, none⟩ = some (.int .u8 ((rd_T72 l0 x9_1).f1.f1)) := (blk_cell BK168.out 2).trans rfl; have hcz25_3 : w24.cell? ⟨gb168, 3, none⟩ = some (.int .u8 ((rd_T72 l0 x9_1).f1.f2)) := (blk_cell BK168.out 3).trans rfl; have hcz25_4 : w24.cell? ⟨gb168, 4, none⟩ = some (.int .u8 ((rd_T72 l0 x9_1).f1.f3)) := (blk_cell BK168.out 4).trans rfl; have hcz25_5 : w24.cell? ⟨gb168, 5, none⟩ = some (.int .i64 ((rd_T72 l0 x9_1).f2.f0)) := (blk_cell BK168.out 5).trans rfl; have hcz25_6 : w24.cell? ⟨gb168, 6, none⟩ = some (.int .i64 ((rd_T72 l0 x9_1).f2.f1)) := (blk_cell BK168.out 6).trans rfl; have hcz25_7 : w24.cell? ⟨gb168, 7, none⟩ = some (.int .u64 ((rd_T72 l0 x9_1).f2.f2)) := (blk_cell BK168.out 7).trans rfl; have hcz25_8 : w24.cell? ⟨gb168, 8, none⟩ = some (.int .i64 ((rd_T72 l0 x9_1).f3)) := (blk_cell BK168.out 8).trans rfl; have hcz25_9 : w24.cell? ⟨gb168, 9, none⟩ = some (.int .i64 ((rd_T72 l0 x9_1).f4)) := (blk_cell BK168.out 9).trans rfl; have hcz25_10 : w24.cell? ⟨gb168, 10, none⟩ = some (.int .i64 ((rd_T72 l0 x9_1).f5)) := (blk_cell BK168.out 10).trans rfl; have hfz25_0 := blk_frozen BK168.out 0; have hfz25_1 := blk_frozen BK168.out 1; have hfz25_2 := blk_frozen BK168.out 2; have hfz25_3 := blk_frozen BK168.out 3; have hfz25_4 := blk_frozen BK168.out 4; have hfz25_5 := blk_frozen BK168.out 5; have hfz25_6 := blk_frozen BK168.out 6; have hfz25_7 := blk_frozen BK168.out 7; have hfz25_8 := blk_frozen BK168.out 8; have hfz25_9 := blk_frozen BK168.out 9; have hfz25_10 := blk_frozen BK168.out 10) | ((with_reducible refine gate_dst (N := 48) rfl ?_); refine Kd.R_lit (Kd.int .u64) _ 56 ?hg (N := 48) ?hd (xs := ([(rd_T72 l0 x9_1).f2.f2] : List Int)) (inner := [.int .u64 ((rd_T72 l0 x9_1).f2.f2)]) (ok := fun _ => True) (okp := fun _ => True) ?hr ?hp (fun _ hk => hk) trivial (Below.refl _ _) (Nat.le_refl _) (by simp) ?_; (case hd => rfl); (case hg => rfl); (case hr => first | (go_simp; done) | (go_simp; rfl)); (case hp => exact (Reps.one (show Kd.M (Kd.int .u64) _ _ _ ((rd_T72 l0 x9_1).f2.f2) [.int .u64 ((rd_T72 l0 x9_1).f2.f2)] from rfl) (Reps.none _ _))); intro v183 w26 ho27 hb hg_ hnew_; clear hg_ hnew_; (first | rw [← Ny182.out] at ho27 | (simp only [Int.reduceToNat] at ho27; rw [← Ny182.out] at ho27)); have n0_ := Aside0.mk (Kd.R_below (by (with_reducible repeat (first | apply Kd.R_alloc | apply Kd.R_drewN | apply Kd.R_drew)); exact HO172.out) hb); have n1_ := Aside0.mk (Kd.R_elder' (by (with_reducible repeat (first | apply Kd.R_alloc | apply Kd.R_drewN | apply Kd.R_drew)); exact HO178.out) (Kd.R_base ho27) hb); have n2_ := Aside0.mk (Kd.R_below (by (with_reducible repeat (first | apply Kd.R_alloc | apply Kd.R_drewN | apply Kd.R_drew)); exact HO181.out) hb); have n3_ := Aside0.mk (Kd.R_lower (Kd.R_new' ho27 (Kd.R_lt (by (with_reducible repeat (first | apply Kd.R_alloc | apply Kd.R_drewN | apply Kd.R_drew)); exact HO178.out))) (below_size (by repeat (first | (with_reducible first | exact HB.out | apply below_alloc | apply pw_below_drewN | apply below_drew1 | refine below_set ?_ GE168.out) | exact HB.out)))); have n4_ := Aside0.mk (blk_below (g := gb168) (o := .cells #[.int .u8 ((rd_T72 l0 x9_1).f0), .int .u8 ((rd_T72 l0 x9_1).f1.f0), .int .u8 ((rd_T72 l0 x9_1).f1.f1), .int .u8 ((rd_T72 l0 x9_1).f1.f2), .int .u8 ((rd_T72 l0 x9_1).f1.f3), .int .i64 ((rd_T72 l0 x9_1).f2.f0), .int .i64 ((rd_T72 l0 x9_1).f2.f1), .int .u64 ((rd_T72 l0 x9_1).f2.f2), .int .i64 ((rd_T72 l0 x9_1).f3), .int .i64 ((rd_T72 l0 x9_1).f4), .int .i64 ((rd_T72 l0 x9_1).f5)] 72 (0, 0)) (by (with_reducible repeat (first | refine blk_drewN ?_ _ | refine blk_drew ?_ | refine blk_alloc ?_ _)); exact BK168.out) hb); have n5_ := Aside0.mk (below_step (by repeat (first | (with_reducible first | exact HB.out | apply below_alloc | apply pw_below_drewN | apply below_drew1 | refine below_set ?_ GE168.out) | exact HB.out)) hb); clear HO172; clear HO178; clear HO181; clear BK168; clear HB; have HO172 := n0_; have HO178 := n1_; have HO181 := n2_; have HO184 := n3_; have BK168 := n4_; have HB := n5_; clear n0_ n1_ n2_ n3_ n4_ n5_; clear hb ho27; obtain ⟨Ao28, co28, eo28⟩ := Kd.R_slice HO181.out; subst eo28; obtain ⟨Ao29, co29, eo29⟩ := Kd.R_slice HO184.out; subst eo29) | ((with_reducible refine gate_callee (f := 81) rfl ?_); refine goesL_ (some 49) rfl rfl Try.func81 (by kernel_rfl) rfl #[.slice Ao28 t179.length co28, .int .i64 8, .slice Ao29 y182.length co29] rfl (by (try simp only [List.map_toArray, List.map_cons, List.map_nil]); first | done | rfl | (simp only [List.length_drop, List.length_take]; rfl)) ?_; (with_reducible refine (events_put.calls k1 (fun k_ => some k_ = (.slice Ao28 t179.length co28 : Value).ownBlock) (.slice Ao28 t179.length co28) t179 8 _ _ y182 t185 w _ ?side1 ?side2 ?side3 ?side4 A9.out).mono ?_); (case side1 => repeat (first | (with_reducible first | exact HB.out | apply below_alloc | apply pw_below_drewN | apply below_drew1 | refine below_set ?_ GE168.out) | exact HB.out)); (case side2 => exact Kd.R_tight rfl HO181.out); (case side3 => exact Kd.C_kept_own ((Kd.R_apart' HO184.out (Kd.R_typed HO181.out) (by decide))) (fun k_ hk_ hs_ => (hk_.2) hs_)); (case side4 => exact (Kd.R_reads' HO184.out).2.1); rintro e w30 ⟨v186, rfl, ho0, hb, hkp⟩; refine ⟨_, rfl, ?_⟩; have n0_ := Aside0.mk (blk_kept (by (with_reducible repeat (first | refine blk_drewN ?_ _ | refine blk_drew ?_ | refine blk_alloc ?_ _)); exact BK168.out) hkp (fun hs_ => (fun e_ => (Kd.R_ne HO181.out BK168.out (by decide)) e_) hs_)); have n1_ := Aside0.mk (Kd.R_mono (ok' := fun k_ => some k_ ≠ (v186 : Value).ownBlock) (Kd.R_keptB (HO172.out) hkp (fun k_ hk_ hs_ => (hk_) hs_)) (fun k_ hk_ => fun e_ => Or.elim (ho0.1 k_ e_.symm) (fun hs_ => hk_.2.1 hs_) (fun hn_ => Nat.not_le.2 hk_.2.2 hn_))); have n2_ := Aside0.mk (Kd.R_mono (ok' := fun k_ => some k_ ≠ (.slice Ao29 y182.length co29 : Value).ownBlock) (Kd.R_keptB ((Kd.R_apart' HO178.out (Kd.R_typed HO181.out) (by decide))) hkp (fun k_ hk_ hs_ => (hk_.2) hs_)) (fun k_ hk_ => hk_.1.1.2)); have n3_ := Aside0.mk (Kd.R_mono (ok' := fun k_ => some k_ ≠ (.slice Ao23 y176.length co23 : Value).ownBlock) (Kd.R_keptB ((Kd.R_apart' HO184.out (Kd.R_typed HO181.out) (by decide))) hkp (fun k_ hk_ hs_ => (hk_.2) hs_)) (fun k_ hk_ => hk_.1.1.2)); have n4_ := Aside0.mk (Kd.R_mono (ok' := fun k_ => some k_ ≠ (.slice Ao18 y170.length co18 : Value).ownBlock) ho0 (fun k_ hk_ => Or.elim hk_ (fun hs_ => fun e_ => (((HO172.out).1 k_ e_.symm)) hs_) (fun hn_ => (Kd.fresh' (Kd.R_lt (by (with_reducible repeat (first | apply Kd.R_alloc | apply Kd.R_drewN | apply Kd.R_drew)); exact HO172.out)) k_ hn_)))); have n5_ := Aside0.mk (hb); clear BK168; clear HO172; clear HO178; clear HO184; clear HB; clear HO181; have BK168 := n0_; have HO172 := n1_; have HO178 := n2_; have HO184 := n3_; have HO187 := n4_; have HB := n5_; clear n0_ n1_ n2_ n3_ n4_ n5_; (try clear hb); (try clear hkp); (try clear ho0); have hcz31_0 : w30.cell? ⟨gb168, 0, none⟩ = some (.int .u8 ((rd_T72 l0 x9_1).f0)) := (blk_cell BK168.out 0).trans rfl; have hcz31_1 : w30.cell? ⟨gb168, 1, none⟩ = some (.int .u8 ((rd_T72 l0 x9_1).f1.f0)) := (blk_cell BK168.out 1).trans rfl; have hcz31_2 : w30.cell? ⟨gb168, 2, none⟩ = some (.int .u8 ((rd_T72 l0 x9_1).f1.f1)) := (blk_cell BK168.out 2).trans rfl; have hcz31_3 : w30.cell? ⟨gb168, 3, none⟩ = some (.int .u8 ((rd_T72 l0 x9_1).f1.f2)) := (blk_cell BK168.out 3).trans rfl; have hcz31_4 : w30.cell? ⟨gb168, 4, none⟩ = some (.int .u8 ((rd_T72 l0 x9_1).f1.f3)) := (blk_cell BK168.out 4).trans rfl; have hcz31_5 : w30.cell? ⟨gb168, 5, none⟩ = some (.int .i64 ((rd_T72 l0 x9_1).f2.f0)) := (blk_cell BK168.out 5).trans rfl; have hcz31_6 : w30.cell? ⟨gb168, 6, none⟩ = some (.int .i64 ((rd_T72 l0 x9_1).f2.f1)) := (blk_cell BK168.out 6).trans rfl; have hcz31_7 : w30.cell? ⟨gb168, 7, none⟩ = some (.int .u64 ((rd_T72 l0 x9_1).f2.f2)) := (blk_cell BK168.out 7).trans rfl; have hcz31_8 : w30.cell? ⟨gb168, 8, none⟩ = some (.int .i64 ((rd_T72 l0 x9_1).f3)) := (blk_cell BK168.out 8).trans rfl; have hcz31_9 : w30.cell? ⟨gb168, 9, none⟩ = some (.int .i64 ((rd_T72 l0 x9_1).f4)) := (blk_cell BK168.out 9).trans rfl; have hcz31_10 : w30.cell? ⟨gb168, 10, none⟩ = some (.int .i64 ((rd_T72 l0 x9_1).f5)) := (blk_cell BK168.out 10).trans rfl; have hfz31_0 := blk_frozen BK168.out 0; have hfz31_1 := blk_frozen BK168.out 1; have hfz31_2 := blk_frozen BK168.out 2; have hfz31_3 := blk_frozen BK168.out 3; have hfz31_4 := blk_frozen BK168.out 4; have hfz31_5 := blk_frozen BK168.out 5; have hfz31_6 := blk_frozen BK168.out 6; have hfz31_7 := blk_frozen BK168.out 7; have hfz31_8 := blk_frozen BK168.out 8; have hfz31_9 := blk_frozen BK168.out 9; have hfz31_10 := blk_frozen BK168.out 10) | ((with_reducible refine gate_dst (N := 60) rfl ?_); refine Kd.R_lit (Kd.int .u64) _ 56 ?hg (N := 60) ?hd (xs := ([IntKind.u64.wrap ((rd_T72 l0 x9_1).f3), IntKind.u64.wrap ((rd_T72 l0 x9_1).f4), IntKind.u64.wrap ((rd_T72 l0 x9_1).f5)] : List Int)) (inner := [.int .u64 (IntKind.u64.wrap ((rd_T72 l0 x9_1).f3)), .int .u64 (IntKind.u64.wrap ((rd_T72 l0 x9_1).f4)), .int .u64 (IntKind.u64.wrap ((rd_T72 l0 x9_1).f5))]) (ok := fun _ => True) (okp := fun _ => True) ?hr ?hp (fun _ hk => hk) trivial (Below.refl _ _) (Nat.le_refl _) (by simp) ?_; (case hd => rfl); (case hg => rfl); (case hr => first | (go_simp; done) | (go_simp; rfl)); (case hp => exact (Reps.one (show Kd.M (Kd.int .u64) _ _ _ (IntKind.u64.wrap ((rd_T72 l0 x9_1).f3)) [.int .u64 (IntKind.u64.wrap ((rd_T72 l0 x9_1).f3))] from rfl) (Reps.one (show Kd.M (Kd.int .u64) _ _ _ (IntKind.u64.wrap ((rd_T72 l0 x9_1).f4)) [.int .u64 (IntKind.u64.wrap ((rd_T72 l0 x9_1).f4))] from rfl) (Reps.one (show Kd.M (Kd.int .u64) _ _ _ (IntKind.u64.wrap ((rd_T72 l0 x9_1).f5)) [.int .u64 (IntKind.u64.wrap ((rd_T72 l0 x9_1).f5))] from rfl) (Reps.none _ _))))); intro v189 w32 ho33 hb hg_ hnew_; clear hg_ hnew_; (first | rw [← Ny188.out] at ho33 | (simp only [Int.reduceToNat] at ho33; rw [← Ny188.out] at ho33)); have n0_ := Aside0.mk (Kd.R_below (by (with_reducible repeat (first | apply Kd.R_alloc | apply Kd.R_drewN | apply Kd.R_drew)); exact HO172.out) hb); have n1_ := Aside0.mk (Kd.R_elder' (by (with_reducible repeat (first | apply Kd.R_alloc | apply Kd.R_drewN | apply Kd.R_drew)); exact HO178.out) (Kd.R_base ho33) hb); have n2_ := Aside0.mk (Kd.R_elder' (by (with_reducible repeat (first | apply Kd.R_alloc | apply Kd.R_drewN | apply Kd.R_drew)); exact HO184.out) (Kd.R_base ho33) hb); have n3_ := Aside0.mk (Kd.R_below (by (with_reducible repeat (first | apply Kd.R_alloc | apply Kd.R_drewN | apply Kd.R_drew)); exact HO187.out) hb); have n4_ := Aside0.mk (Kd.R_lower (Kd.R_new' (Kd.R_new' ho33 (Kd.R_lt (by (with_reducible repeat (first | apply Kd.R_alloc | apply Kd.R_drewN | apply Kd.R_drew)); exact HO178.out))) (Kd.R_lt (by (with_reducible repeat (first | apply Kd.R_alloc | apply Kd.R_drewN | apply Kd.R_drew)); exact HO184.out))) (below_size (by repeat (first | (with_reducible first | exact HB.out | apply below_alloc | apply pw_below_drewN | apply below_drew1 | refine below_set ?_ GE168.out) | exact HB.out)))); have n5_ := Aside0.mk (blk_below (g := gb168) (o := .cells #[.int .u8 ((rd_T72 l0 x9_1).f0), .int .u8 ((rd_T72 l0 x9_1).f1.f0), .int .u8 ((rd_T72 l0 x9_1).f1.f1), .int .u8 ((rd_T72 l0 x9_1).f1.f2), .int .u8 ((rd_T72 l0 x9_1).f1.f3), .int .i64 ((rd_T72 l0 x9_1).f2.f0), .int .i64 ((rd_T72 l0 x9_1).f2.f1), .int .u64 ((rd_T72 l0 x9_1).f2.f2), .int .i64 ((rd_T72 l0 x9_1).f3), .int .i64 ((rd_T72 l0 x9_1).f4), .int .i64 ((rd_T72 l0 x9_1).f5)] 72 (0, 0)) (by (with_reducible repeat (first | refine blk_drewN ?_ _ | refine blk_drew ?_ | refine blk_alloc ?_ _)); exact BK168.out) hb); have n6_ := Aside0.mk (below_step (by repeat (first | (with_reducible first | exact HB.out | apply below_alloc | apply pw_below_drewN | apply below_drew1 | refine below_set ?_ GE168.out) | exact HB.out)) hb); clear HO172; clear HO178; clear HO184; clear HO187; clear BK168; clear HB; have HO172 := n0_; have HO178 := n1_; have HO184 := n2_; have HO187 := n3_; have HO190 := n4_; have BK168 := n5_; have HB := n6_; clear n0_ n1_ n2_ n3_ n4_ n5_ n6_; clear hb ho33; obtain ⟨Ao34, co34, eo34⟩ := Kd.R_slice HO187.out; subst eo34; obtain ⟨Ao35, co35, eo35⟩ := Kd.R_slice HO190.out; subst eo35) | ((with_reducible refine gate_callee (f := 81) rfl ?_); refine goesL_ (some 61) rfl rfl Try.func81 (by kernel_rfl) rfl #[.slice Ao34 t185.length co34, .int .i64 4, .slice Ao35 y188.length co35] rfl (by (try simp only [List.map_toArray, List.map_cons, List.map_nil]); first | done | rfl | (simp only [List.length_drop, List.length_take]; rfl)) ?_; (with_reducible refine (events_put.calls k1 (fun k_ => some k_ = (.slice Ao34 t185.length co34 : Value).ownBlock) (.slice Ao34 t185.length co34) t185 4 _ _ y188 t191 w _ ?side1 ?side2 ?side3 ?side4 A10.out).mono ?_); (case side1 => repeat (first | (with_reducible first | exact HB.out | apply below_alloc | apply pw_below_drewN | apply below_drew1 | refine below_set ?_ GE168.out) | exact HB.out)); (case side2 => exact Kd.R_tight rfl HO187.out); (case side3 => exact Kd.C_kept_own ((Kd.R_apart' HO190.out (Kd.R_typed HO187.out) (by decide))) (fun k_ hk_ hs_ => (hk_.2) hs_)); (case side4 => exact (Kd.R_reads' HO190.out).2.1); rintro e w36 ⟨v192, rfl, ho0, hb, hkp⟩; refine ⟨_, rfl, ?_⟩; have n0_ := Aside0.mk (blk_kept (by (with_reducible repeat (first | refine blk_drewN ?_ _ | refine blk_drew ?_ | refine blk_alloc ?_ _)); exact BK168.out) hkp (fun hs_ => (fun e_ => (Kd.R_ne HO187.out BK168.out (by decide)) e_) hs_)); have n1_ := Aside0.mk (Kd.R_mono (ok' := fun k_ => some k_ ≠ (v192 : Value).ownBlock) (Kd.R_keptB (HO172.out) hkp (fun k_ hk_ hs_ => (hk_) hs_)) (fun k_ hk_ => fun e_ => Or.elim (ho0.1 k_ e_.symm) (fun hs_ => hk_.2.1 hs_) (fun hn_ => Nat.not_le.2 hk_.2.2 hn_))); have n2_ := Aside0.mk (Kd.R_mono (ok' := fun k_ => some k_ ≠ (.slice Ao29 y182.length co29 : Value).ownBlock ∧ some k_ ≠ (.slice Ao35 y188.length co35 : Value).ownBlock) (Kd.R_keptB ((Kd.R_apart' HO178.out (Kd.R_typed HO187.out) (by decide))) hkp (fun k_ hk_ hs_ => (hk_.2) hs_)) (fun k_ hk_ => ⟨hk_.1.1.1, hk_.1.1.2⟩)); have n3_ := Aside0.mk (Kd.R_mono (ok' := fun k_ => some k_ ≠ (.slice Ao23 y176.length co23 : Value).ownBlock ∧ some k_ ≠ (.slice Ao35 y188.length co35 : Value).ownBlock) (Kd.R_keptB ((Kd.R_apart' HO184.out (Kd.R_typed HO187.out) (by decide))) hkp (fun k_ hk_ hs_ => (hk_.2) hs_)) (fun k_ hk_ => ⟨hk_.1.1.1, hk_.1.1.2⟩)); have n4_ := Aside0.mk (Kd.R_mono (ok' := fun k_ => some k_ ≠ (.slice Ao23 y176.length co23 : Value).ownBlock ∧ some k_ ≠ (.slice Ao29 y182.length co29 : Value).ownBlock) (Kd.R_keptB ((Kd.R_apart' HO190.out (Kd.R_typed HO187.out) (by decide))) hkp (fun k_ hk_ hs_ => (hk_.2) hs_)) (fun k_ hk_ => ⟨hk_.1.1.1.2, hk_.1.1.2⟩)); have n5_ := Aside0.mk (Kd.R_mono (ok' := fun k_ => some k_ ≠ (.slice Ao18 y170.length co18 : Value).ownBlock) ho0 (fun k_ hk_ => Or.elim hk_ (fun hs_ => fun e_ => (((HO172.out).1 k_ e_.symm)) hs_) (fun hn_ => (Kd.fresh' (Kd.R_lt (by (with_reducible repeat (first | apply Kd.R_alloc | apply Kd.R_drewN | apply Kd.R_drew)); exact HO172.out)) k_ hn_)))); have n6_ := Aside0.mk (hb); clear BK168; clear HO172; clear HO178; clear HO184; clear HO190; clear HB; clear HO187; have BK168 := n0_; have HO172 := n1_; have HO178 := n2_; have HO184 := n3_; have HO190 := n4_; have HO193 := n5_; have HB := n6_; clear n0_ n1_ n2_ n3_ n4_ n5_ n6_; (try clear hb); (try clear hkp); (try clear ho0)))
                go_roundg k1
                case measure => have := HK1.out; omega
                case rel => exact ⟨(t191), (wrap64 (x9_1 + 1)), (by first | rfl | (simp; done) | (simp [*]; done)), H', ⟨by have := HK1.out; omega⟩, ⟨by (with_reducible repeat (first | apply Kd.R_alloc | apply Kd.R_drewN | apply Kd.R_drew)); exact Kd.R_mono HO193.out (fun _ hk => trivial)⟩, ⟨by repeat (first | (with_reducible first | exact HB.out | apply below_alloc | apply pw_below_drewN | apply below_drew1 | refine below_set ?_ GE168.out) | exact HB.out)⟩⟩
              · rw [if_neg c7] at H
                exact absurd H (by simp)
            · replace c6 := Bool.eq_false_iff.mpr c6
              subst c6
              have H1 : (some ((⟨#[]⟩ : ByteArray), 2)) = some (r1, r2) := by rw [if_neg (show ¬ (false = true) by decide)] at H; exact H
              clear H
              have H := H1
              clear H1
              simp only [Option.some.injEq, Prod.mk.injEq] at H
              obtain ⟨rfl, rfl⟩ := H
              have p167 : 0 ≤ (x9_1 : Int) := of_decide_eq_true (by first | (with_reducible assumption) | assumption)
              have q167 : x9_1 < (l0.length : Int) := of_decide_eq_true (by first | (with_reducible assumption) | assumption)
              obtain ⟨ad167, e167, hx167_0, hx167_1, hx167_2, hx167_3, hx167_4, hx167_5, hx167_6, hx167_7, hx167_8, hx167_9, hx167_10⟩ := at_T72 HR0.out x9_1 p167 q167
              cases e167
              replace hx167_0 := (HB.out.cell (World.block_lt_of_cell? w _ hx167_0)).trans hx167_0
              replace hx167_1 := (HB.out.cell (World.block_lt_of_cell? w _ hx167_1)).trans hx167_1
              replace hx167_2 := (HB.out.cell (World.block_lt_of_cell? w _ hx167_2)).trans hx167_2
              replace hx167_3 := (HB.out.cell (World.block_lt_of_cell? w _ hx167_3)).trans hx167_3
              replace hx167_4 := (HB.out.cell (World.block_lt_of_cell? w _ hx167_4)).trans hx167_4
              replace hx167_5 := (HB.out.cell (World.block_lt_of_cell? w _ hx167_5)).trans hx167_5
              replace hx167_6 := (HB.out.cell (World.block_lt_of_cell? w _ hx167_6)).trans hx167_6
              replace hx167_7 := (HB.out.cell (World.block_lt_of_cell? w _ hx167_7)).trans hx167_7
              replace hx167_8 := (HB.out.cell (World.block_lt_of_cell? w _ hx167_8)).trans hx167_8
              replace hx167_9 := (HB.out.cell (World.block_lt_of_cell? w _ hx167_9)).trans hx167_9
              replace hx167_10 := (HB.out.cell (World.block_lt_of_cell? w _ hx167_10)).trans hx167_10
              replace p167 := eq_true p167
              replace q167 := eq_true q167
              go_wp2_with (first | ((with_reducible refine gate_dst (N := 6) rfl ?_); refine box_event ?hg (N := 6) ?hd (cs := #[.int .u8 0, .int .u8 0, .int .u8 0, .int .u8 0, .int .u8 0, .int .i64 0, .int .i64 0, .int .u64 0, .int .i64 0, .int .i64 0, .int .i64 0]) (t := 72) ?hr ?_; (case hd => rfl); (case hg => rfl); (case hr => first | (go_simp; done) | (go_simp; rfl)); intro gb168 hg w37 hbox hb; have n0_ := Aside0.mk (Kd.R_below (by (with_reducible repeat (first | apply Kd.R_alloc | apply Kd.R_drewN | apply Kd.R_drew)); exact HO_4.out) hb); have n1_ := Aside0.mk (below_step (by repeat (first | (with_reducible first | exact HB.out | apply below_alloc | apply pw_below_drewN | apply below_drew1) | exact HB.out)) hb); have n2_ := Aside0.mk (hbox); have n3_ := Aside0.mk ((by rw [hg]; exact (below_size (by repeat (first | (with_reducible first | exact HB.out | apply below_alloc | apply pw_below_drewN | apply below_drew1) | exact HB.out))) : w.heap.size ≤ gb168)); have n4_ := Aside0.mk ((by rw [hg]; exact (below_size (by repeat (first | (with_reducible first | exact HB.out | apply below_alloc | apply pw_below_drewN | apply below_drew1) | exact HB.out))) : w.heap.size ≤ gb168)); clear HO_4; clear HB; have HO_4 := n0_; have HB := n1_; have BK168 := n2_; have GW168 := n3_; have GE168 := n4_; clear n0_ n1_ n2_ n3_ n4_; clear hb hbox hg; have hcz38_0 : w37.cell? ⟨gb168, 0, none⟩ = some (.int .u8 0) := (blk_cell BK168.out 0).trans rfl; have hcz38_1 : w37.cell? ⟨gb168, 1, none⟩ = some (.int .u8 0) := (blk_cell BK168.out 1).trans rfl; have hcz38_2 : w37.cell? ⟨gb168, 2, none⟩ = some (.int .u8 0) := (blk_cell BK168.out 2).trans rfl; have hcz38_3 : w37.cell? ⟨gb168, 3, none⟩ = some (.int .u8 0) := (blk_cell BK168.out 3).trans rfl; have hcz38_4 : w37.cell? ⟨gb168, 4, none⟩ = some (.int .u8 0) := (blk_cell BK168.out 4).trans rfl; have hcz38_5 : w37.cell? ⟨gb168, 5, none⟩ = some (.int .i64 0) := (blk_cell BK168.out 5).trans rfl; have hcz38_6 : w37.cell? ⟨gb168, 6, none⟩ = some (.int .i64 0) := (blk_cell BK168.out 6).trans rfl; have hcz38_7 : w37.cell? ⟨gb168, 7, none⟩ = some (.int .u64 0) := (blk_cell BK168.out 7).trans rfl; have hcz38_8 : w37.cell? ⟨gb168, 8, none⟩ = some (.int .i64 0) := (blk_cell BK168.out 8).trans rfl; have hcz38_9 : w37.cell? ⟨gb168, 9, none⟩ = some (.int .i64 0) := (blk_cell BK168.out 9).trans rfl; have hcz38_10 : w37.cell? ⟨gb168, 10, none⟩ = some (.int .i64 0) := (blk_cell BK168.out 10).trans rfl; have hfz38_0 := blk_frozen BK168.out 0; have hfz38_1 := blk_frozen BK168.out 1; have hfz38_2 := blk_frozen BK168.out 2; have hfz38_3 := blk_frozen BK168.out 3; have hfz38_4 := blk_frozen BK168.out 4; have hfz38_5 := blk_frozen BK168.out 5; have hfz38_6 := blk_frozen BK168.out 6; have hfz38_7 := blk_frozen BK168.out 7; have hfz38_8 := blk_frozen BK168.out 8; have hfz38_9 := blk_frozen BK168.out 9; have hfz38_10 := blk_frozen BK168.out 10) | ((with_reducible refine gate_callee (f := 44) rfl ?_); refine goesL_ (some 14) rfl rfl Try.func44 (by kernel_rfl) rfl #[.agg #[.int .u8 ((rd_T72 l0 x9_1).f0), .int .u8 ((rd_T72 l0 x9_1).f1.f0), .int .u8 ((rd_T72 l0 x9_1).f1.f1), .int .u8 ((rd_T72 l0 x9_1).f1.f2), .int .u8 ((rd_T72 l0 x9_1).f1.f3), .int .i64 ((rd_T72 l0 x9_1).f2.f0), .int .i64 ((rd_T72 l0 x9_1).f2.f1), .int .u64 ((rd_T72 l0 x9_1).f2.f2), .int .i64 ((rd_T72 l0 x9_1).f3), .int .i64 ((rd_T72 l0 x9_1).f4), .int .i64 ((rd_T72 l0 x9_1).f5)]] rfl (by (try simp only [List.map_toArray, List.map_cons, List.map_nil]); first | done | rfl | (simp only [List.length_drop, List.length_take]; rfl)) ?_; (with_reducible refine (events_May.calls k1 ((rd_T72 l0 x9_1).f0) ((rd_T72 l0 x9_1).f1.f0) ((rd_T72 l0 x9_1).f1.f1) ((rd_T72 l0 x9_1).f1.f2) ((rd_T72 l0 x9_1).f1.f3) ((rd_T72 l0 x9_1).f2.f0) ((rd_T72 l0 x9_1).f2.f1) ((rd_T72 l0 x9_1).f2.f2) ((rd_T72 l0 x9_1).f3) ((rd_T72 l0 x9_1).f4) ((rd_T72 l0 x9_1).f5) false _ A5.out).mono ?_); rintro e w39 ⟨rfl, hb⟩; refine ⟨_, rfl, ?_⟩; have n0_ := Aside0.mk (Kd.R_below (by (with_reducible repeat (first | apply Kd.R_alloc | apply Kd.R_drewN | apply Kd.R_drew)); exact (Kd.R_mono (Kd.R_far (p := ⟨gb168, 10, none⟩) (Kd.R_far (p := ⟨gb168, 9, none⟩) (Kd.R_far (p := ⟨gb168, 8, none⟩) (Kd.R_far (p := ⟨gb168, 7, none⟩) (Kd.R_far (p := ⟨gb168, 6, none⟩) (Kd.R_far (p := ⟨gb168, 5, none⟩) (Kd.R_far (p := ⟨gb168, 4, none⟩) (Kd.R_far (p := ⟨gb168, 3, none⟩) (Kd.R_far (p := ⟨gb168, 2, none⟩) (Kd.R_far (p := ⟨gb168, 1, none⟩) (Kd.R_far (p := ⟨gb168, 0, none⟩) (Kd.R_types HO_4.out BK168.out (by decide)) (fun _ hk => hk.2) (.int .u8 ((rd_T72 l0 x9_1).f0))) (fun _ hk => hk.2) (.int .u8 ((rd_T72 l0 x9_1).f1.f0))) (fun _ hk => hk.2) (.int .u8 ((rd_T72 l0 x9_1).f1.f1))) (fun _ hk => hk.2) (.int .u8 ((rd_T72 l0 x9_1).f1.f2))) (fun _ hk => hk.2) (.int .u8 ((rd_T72 l0 x9_1).f1.f3))) (fun _ hk => hk.2) (.int .i64 ((rd_T72 l0 x9_1).f2.f0))) (fun _ hk => hk.2) (.int .i64 ((rd_T72 l0 x9_1).f2.f1))) (fun _ hk => hk.2) (.int .u64 ((rd_T72 l0 x9_1).f2.f2))) (fun _ hk => hk.2) (.int .i64 ((rd_T72 l0 x9_1).f3))) (fun _ hk => hk.2) (.int .i64 ((rd_T72 l0 x9_1).f4))) (fun _ hk => hk.2) (.int .i64 ((rd_T72 l0 x9_1).f5))) (fun _ h_ => h_.1))) hb); have n1_ := Aside0.mk (blk_below (g := gb168) (o := .cells #[.int .u8 ((rd_T72 l0 x9_1).f0), .int .u8 ((rd_T72 l0 x9_1).f1.f0), .int .u8 ((rd_T72 l0 x9_1).f1.f1), .int .u8 ((rd_T72 l0 x9_1).f1.f2), .int .u8 ((rd_T72 l0 x9_1).f1.f3), .int .i64 ((rd_T72 l0 x9_1).f2.f0), .int .i64 ((rd_T72 l0 x9_1).f2.f1), .int .u64 ((rd_T72 l0 x9_1).f2.f2), .int .i64 ((rd_T72 l0 x9_1).f3), .int .i64 ((rd_T72 l0 x9_1).f4), .int .i64 ((rd_T72 l0 x9_1).f5)] 72 (0, 0)) (by (with_reducible repeat (first | refine blk_drewN ?_ _ | refine blk_drew ?_ | refine blk_alloc ?_ _)); refine blk_put (cs := #[.int .u8 ((rd_T72 l0 x9_1).f0), .int .u8 ((rd_T72 l0 x9_1).f1.f0), .int .u8 ((rd_T72 l0 x9_1).f1.f1), .int .u8 ((rd_T72 l0 x9_1).f1.f2), .int .u8 ((rd_T72 l0 x9_1).f1.f3), .int .i64 ((rd_T72 l0 x9_1).f2.f0), .int .i64 ((rd_T72 l0 x9_1).f2.f1), .int .u64 ((rd_T72 l0 x9_1).f2.f2), .int .i64 ((rd_T72 l0 x9_1).f3), .int .i64 ((rd_T72 l0 x9_1).f4), .int .i64 0]) ?_ 10 _ rfl; (with_reducible repeat (first | refine blk_drewN ?_ _ | refine blk_drew ?_ | refine blk_alloc ?_ _)); refine blk_put (cs := #[.int .u8 ((rd_T72 l0 x9_1).f0), .int .u8 ((rd_T72 l0 x9_1).f1.f0), .int .u8 ((rd_T72 l0 x9_1).f1.f1), .int .u8 ((rd_T72 l0 x9_1).f1.f2), .int .u8 ((rd_T72 l0 x9_1).f1.f3), .int .i64 ((rd_T72 l0 x9_1).f2.f0), .int .i64 ((rd_T72 l0 x9_1).f2.f1), .int .u64 ((rd_T72 l0 x9_1).f2.f2), .int .i64 ((rd_T72 l0 x9_1).f3), .int .i64 0, .int .i64 0]) ?_ 9 _ rfl; (with_reducible repeat (first | refine blk_drewN ?_ _ | refine blk_drew ?_ | refine blk_alloc ?_ _)); refine blk_put (cs := #[.int .u8 ((rd_T72 l0 x9_1).f0), .int .u8 ((rd_T72 l0 x9_1).f1.f0), .int .u8 ((rd_T72 l0 x9_1).f1.f1), .int .u8 ((rd_T72 l0 x9_1).f1.f2), .int .u8 ((rd_T72 l0 x9_1).f1.f3), .int .i64 ((rd_T72 l0 x9_1).f2.f0), .int .i64 ((rd_T72 l0 x9_1).f2.f1), .int .u64 ((rd_T72 l0 x9_1).f2.f2), .int .i64 0, .int .i64 0, .int .i64 0]) ?_ 8 _ rfl; (with_reducible repeat (first | refine blk_drewN ?_ _ | refine blk_drew ?_ | refine blk_alloc ?_ _)); refine blk_put (cs := #[.int .u8 ((rd_T72 l0 x9_1).f0), .int .u8 ((rd_T72 l0 x9_1).f1.f0), .int .u8 ((rd_T72 l0 x9_1).f1.f1), .int .u8 ((rd_T72 l0 x9_1).f1.f2), .int .u8 ((rd_T72 l0 x9_1).f1.f3), .int .i64 ((rd_T72 l0 x9_1).f2.f0), .int .i64 ((rd_T72 l0 x9_1).f2.f1), .int .u64 0, .int .i64 0, .int .i64 0, .int .i64 0]) ?_ 7 _ rfl; (with_reducible repeat (first | refine blk_drewN ?_ _ | refine blk_drew ?_ | refine blk_alloc ?_ _)); refine blk_put (cs := #[.int .u8 ((rd_T72 l0 x9_1).f0), .int .u8 ((rd_T72 l0 x9_1).f1.f0), .int .u8 ((rd_T72 l0 x9_1).f1.f1), .int .u8 ((rd_T72 l0 x9_1).f1.f2), .int .u8 ((rd_T72 l0 x9_1).f1.f3), .int .i64 ((rd_T72 l0 x9_1).f2.f0), .int .i64 0, .int .u64 0, .int .i64 0, .int .i64 0, .int .i64 0]) ?_ 6 _ rfl; (with_reducible repeat (first | refine blk_drewN ?_ _ | refine blk_drew ?_ | refine blk_alloc ?_ _)); refine blk_put (cs := #[.int .u8 ((rd_T72 l0 x9_1).f0), .int .u8 ((rd_T72 l0 x9_1).f1.f0), .int .u8 ((rd_T72 l0 x9_1).f1.f1), .int .u8 ((rd_T72 l0 x9_1).f1.f2), .int .u8 ((rd_T72 l0 x9_1).f1.f3), .int .i64 0, .int .i64 0, .int .u64 0, .int .i64 0, .int .i64 0, .int .i64 0]) ?_ 5 _ rfl; (with_reducible repeat (first | refine blk_drewN ?_ _ | refine blk_drew ?_ | refine blk_alloc ?_ _)); refine blk_put (cs := #[.int .u8 ((rd_T72 l0 x9_1).f0), .int .u8 ((rd_T72 l0 x9_1).f1.f0), .int .u8 ((rd_T72 l0 x9_1).f1.f1), .int .u8 ((rd_T72 l0 x9_1).f1.f2), .int .u8 0, .int .i64 0, .int .i64 0, .int .u64 0, .int .i64 0, .int .i64 0, .int .i64 0]) ?_ 4 _ rfl; (with_reducible repeat (first | refine blk_drewN ?_ _ | refine blk_drew ?_ | refine blk_alloc ?_ _)); refine blk_put (cs := #[.int .u8 ((rd_T72 l0 x9_1).f0), .int .u8 ((rd_T72 l0 x9_1).f1.f0), .int .u8 ((rd_T72 l0 x9_1).f1.f1), .int .u8 0, .int .u8 0, .int .i64 0, .int .i64 0, .int .u64 0, .int .i64 0, .int .i64 0, .int .i64 0]) ?_ 3 _ rfl; (with_reducible repeat (first | refine blk_drewN ?_ _ | refine blk_drew ?_ | refine blk_alloc ?_ _)); refine blk_put (cs := #[.int .u8 ((rd_T72 l0 x9_1).f0), .int .u8 ((rd_T72 l0 x9_1).f1.f0), .int .u8 0, .int .u8 0, .int .u8 0, .int .i64 0, .int .i64 0, .int .u64 0, .int .i64 0, .int .i64 0, .int .i64 0]) ?_ 2 _ rfl; (with_reducible repeat (first | refine blk_drewN ?_ _ | refine blk_drew ?_ | refine blk_alloc ?_ _)); refine blk_put (cs := #[.int .u8 ((rd_T72 l0 x9_1).f0), .int .u8 0, .int .u8 0, .int .u8 0, .int .u8 0, .int .i64 0, .int .i64 0, .int .u64 0, .int .i64 0, .int .i64 0, .int .i64 0]) ?_ 1 _ rfl; (with_reducible repeat (first | refine blk_drewN ?_ _ | refine blk_drew ?_ | refine blk_alloc ?_ _)); refine blk_put (cs := #[.int .u8 0, .int .u8 0, .int .u8 0, .int .u8 0, .int .u8 0, .int .i64 0, .int .i64 0, .int .u64 0, .int .i64 0, .int .i64 0, .int .i64 0]) ?_ 0 _ rfl; (with_reducible repeat (first | refine blk_drewN ?_ _ | refine blk_drew ?_ | refine blk_alloc ?_ _)); exact BK168.out) hb); have n2_ := Aside0.mk (below_step (by repeat (first | (with_reducible first | exact HB.out | apply below_alloc | apply pw_below_drewN | apply below_drew1 | refine below_set ?_ GE168.out) | exact HB.out)) hb); clear HO_4; clear BK168; clear HB; have HO_4 := n0_; have BK168 := n1_; have HB := n2_; clear n0_ n1_ n2_; (try clear hb); (try clear hb2); (try clear hk); (try clear hi)))
              go_ret2
              exact ⟨by first | rfl | (simp [errW_none, errW_some] <;> rfl) | (simp [*, errW_none, errW_some] <;> rfl), by repeat (first | (with_reducible first | exact HB.out | apply below_alloc | apply pw_below_drewN | apply below_drew1 | refine below_set ?_ GE168.out) | exact HB.out)⟩
          · rw [if_neg c4] at H
            exact absurd H (by simp)
        · rw [if_neg c3] at H
          exact absurd H (by simp)
      · rw [if_neg c2] at H
        have c2b0 : decide (x9_1 < (l0.length : Int)) = false := decide_eq_false c2
        clear c2
        simp only [Option.some.injEq, Prod.mk.injEq] at H
        obtain ⟨rfl, rfl⟩ := H
        have hcv40 := own_string (P := Try.prog) Try.underlying94 Try.underlying5 Try.underlying9 (Kd.own_of_R HO_4.out)
        go_wp2
        go_ret2
        exact ⟨by first | rfl | (simp [errW_none, errW_some] <;> rfl) | (simp [*, errW_none, errW_some] <;> rfl), by repeat (first | (with_reducible first | exact HB.out | apply below_alloc | apply pw_below_drewN | apply below_drew1) | exact HB.out)⟩

/-! ### events_number: function 85 -/
def events_number.l0 : Nat → ByteArray → Int → Int → Int → Option (Int)
  | 0, _, _, _, _ => none
  | k + 1, x0, x3, x6, x7 => if x7 < x6 then (if 0 ≤ x7 then (if x7 < (x0.size : Int) then (events_number.l0 k x0 (Go.bits .or .u64 (IntKind.u64.wrap (x3 * 256)) (IntKind.u64.wrap (bt x0 x7))) x6 (wrap64 (x7 + 1))) else (none)) else (none)) else (some x3)
def events_number.f (k : Nat) (a0 : ByteArray) : Option (Int) := events_number.l0 k a0 0 (a0.size : Int) 0
theorem events_number.mono_l : ∀ k, (∀ y0 y1 y2 y3, LeO (events_number.l0 k y0 y1 y2 y3) (events_number.l0 (k + 1) y0 y1 y2 y3))
  | 0 => fun _ _ _ _ r h => by simp [events_number.l0] at h
  | k + 1 => by
    have ih0 := events_number.mono_l k
    · intro y0 y1 y2 y3
      unfold events_number.l0
      repeat' first
      | (with_reducible exact ih0 _ _ _ _)
      | (with_reducible exact LeO.refl _)
      | (with_reducible exact LeO.none _)
      | (with_reducible refine LeO.ite ?_ ?_)
      | (with_reducible refine LeO.bind ?_ (fun _ => ?_))
      | exact ih0 _ _ _ _
      | exact LeO.none _
      | refine LeO.ite ?_ ?_
      | refine LeO.bind ?_ (fun _ => ?_)
theorem events_number.mono : ∀ a0 k, LeO (events_number.f k a0) (events_number.f (k + 1) a0) := by
  intro a0 k
  have ih0 := events_number.mono_l k
  unfold events_number.f
  repeat' first
      | (with_reducible exact ih0 _ _ _ _)
      | (with_reducible exact LeO.refl _)
      | (with_reducible exact LeO.none _)
      | (with_reducible refine LeO.ite ?_ ?_)
      | (with_reducible refine LeO.bind ?_ (fun _ => ?_))
      | exact ih0 _ _ _ _
      | exact LeO.none _
      | refine LeO.ite ?_ ?_
      | refine LeO.bind ?_ (fun _ => ?_)
set_option maxHeartbeats 8000000 in
set_option maxRecDepth 100000 in
theorem events_number.calls (k : Nat) (a0 : ByteArray) (r : Int) (w : World) (h : events_number.f k a0 = some r) :
    Calls Try.prog 85 #[.string a0] w fun e w' => e = .returned (.int .u64 r) ∧ Drawn0 w w' := by
  have H : (events_number.l0 k a0 0 (a0.size : Int) 0) = some r := h
  clear h
  have H' := Aside0.mk H
  clear H
  go_enter Try.func85, Try.ntmps85
  go_wp2
  go_loopg [3, 7] k (fun kq v3 v7 w' => ∃ (x3_1 : Int) (x7_1 : Int), v3 = .int .u64 x3_1 ∧ v7 = .int .i64 x7_1 ∧ Aside0 (events_number.l0 kq a0 x3_1 (a0.size : Int) x7_1 = some r) ∧ Aside0 (kq ≤ k) ∧ Drawn0 w w')
  case atStart => exact ⟨(0), (0), (by first | rfl | (simp; done) | (simp [*]; done)), (by first | rfl | (simp; done) | (simp [*]; done)), H', ⟨Nat.le_refl _⟩, by repeat (first | exact Drawn0.refl _ | apply Drawn0.step)⟩
  case round =>
    clear H'
    obtain ⟨x3_1, x7_1, rfl, rfl, HA, HK1, ⟨m1, rfl⟩⟩ := hrel
    cases gk with
    | zero => exact absurd HA.out (by simp [events_number.l0])
    | succ k1 =>
      have H := HA.out
      clear HA
      simp only [events_number.l0] at H
      by_cases c2 : x7_1 < (a0.size : Int)
      · rw [if_pos c2] at H
        have c2b0 : decide (x7_1 < (a0.size : Int)) = true := decide_eq_true c2
        clear c2
        by_cases c3 : 0 ≤ x7_1
        · rw [if_pos c3] at H
          have c3b0 : decide (0 ≤ x7_1) = true := decide_eq_true c3
          clear c3
          by_cases c4 : x7_1 < (a0.size : Int)
          · rw [if_pos c4] at H
            have c4b0 : decide (x7_1 < (a0.size : Int)) = true := decide_eq_true c4
            clear c4
            have H' := Aside0.mk H
            clear H
            have p5 : 0 ≤ (x7_1 : Int) := of_decide_eq_true (by first | (with_reducible assumption) | assumption)
            have q5 : x7_1 < (a0.size : Int) := of_decide_eq_true (by first | (with_reducible assumption) | assumption)
            have hx5 := bt_at a0 x7_1
            replace p5 := eq_true p5
            replace q5 := eq_true q5
            go_wp2
            go_roundg k1
            case measure => have := HK1.out; omega
            case rel => exact ⟨(Go.bits .or .u64 (IntKind.u64.wrap (x3_1 * 256)) (IntKind.u64.wrap (bt a0 x7_1))), (wrap64 (x7_1 + 1)), (by first | rfl | (simp; done) | (simp [*]; done)), (by first | rfl | (simp; done) | (simp [*]; done)), H', ⟨by have := HK1.out; omega⟩, by repeat (first | exact Drawn0.refl _ | apply Drawn0.step)⟩
          · rw [if_neg c4] at H
            exact absurd H (by simp)
        · rw [if_neg c3] at H
          exact absurd H (by simp)
      · rw [if_neg c2] at H
        have c2b0 : decide (x7_1 < (a0.size : Int)) = false := decide_eq_false c2
        clear c2
        obtain rfl := Option.some.inj H
        go_wp2
        go_ret
        exact ⟨by first | rfl | (simp; done) | (simp [*]; done), by repeat (first | exact Drawn0.refl _ | apply Drawn0.step)⟩

end Go.Proofs.Ytgojfecpknonlaa.PSt

