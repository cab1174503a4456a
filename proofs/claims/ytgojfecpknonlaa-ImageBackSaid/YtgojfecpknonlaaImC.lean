/- Whether two shapes are alike: function 41. -/
import Derived.Test.YtgojfecpknonlaaImB
namespace Go.Proofs.Ytgojfecpknonlaa.Im
open Go.RowKit Go.Proofs.YtgojfecpknonlaaW.PrintWords Go.Proofs.YtgojfecpknonlaaW.PrintLast Go.Proofs.YtgojfecpknonlaaW.PrintMore
open Go.Proofs.Ytgojfecpknonlaa.Own Go.Proofs.Ytgojfecpknonlaa.PIm
set_option linter.unusedVariables false
set_option linter.unusedSimpArgs false

structure Sh where
  T : List S124
  G : List Int
  N : List S127
/-- A value that is this shape. -/
def IsSh (w : World) (v : Value) (S : Sh) : Prop := ∃ A0 c0 A1 c1 A2 c2, v = .agg #[.slice A0 S.T.length c0, .slice A1 S.G.length c1, .slice A2 S.N.length c2] ∧ S.T.length ≤ c0 ∧ Kd.C k124 w A0 S.T.length S.T ∧ S.G.length ≤ c1 ∧ Kd.C (Kd.int .i64) w A1 S.G.length S.G ∧ S.N.length ≤ c2 ∧ Kd.C k127 w A2 S.N.length S.N
theorem IsSh.below {w w' : World} {v : Value} {S : Sh} (h : IsSh w v S) (hb : Below w.heap.size w w') : IsSh w' v S := by
  obtain ⟨A0, c0, A1, c1, A2, c2, e, l0, h0, l1, h1, l2, h2⟩ := h
  exact ⟨A0, c0, A1, c1, A2, c2, e, l0, Kd.C_below h0 hb, l1, Kd.C_below h1 hb, l2, Kd.C_below h2 hb⟩
structure Small (S : Sh) : Prop where
  T : S.T.length ≤ 1000000
  G : S.G.length ≤ 1000000
  N : S.N.length ≤ 1000000
  t : ∀ t ∈ S.T, SmallT t
  n : ∀ t ∈ S.N, SmallN t
def sameB (S U : Sh) : Bool := eqR eqT S.T U.T && eqR eqN S.N U.N && decide (S.G = U.G)
theorem eqR_refl {α : Type} {eq : α → α → Bool} (h : ∀ x, eq x x = true) (l : List α) : eqR eq l l = true := by
  unfold eqR
  rw [decide_eq_true rfl, Bool.true_and, List.all_eq_true]
  intro p hp
  obtain ⟨i, hi⟩ := List.mem_iff_getElem?.1 hp
  rw [List.getElem?_zip_eq_some] at hi
  have := Option.some.inj (hi.1.symm.trans hi.2)
  rw [this]
  exact h _
theorem eqR_eq {α : Type} {eq : α → α → Bool} (h : ∀ x y, eq x y = true → x = y) : ∀ {l m : List α}, eqR eq l m = true → l = m
  | [], [], _ => rfl
  | [], y :: m, h1 => by simp [eqR] at h1
  | x :: l, [], h1 => by simp [eqR] at h1
  | x :: l, y :: m, h1 => by
    unfold eqR at h1
    simp only [List.length_cons, List.zip_cons_cons, List.all_cons, Bool.and_eq_true, decide_eq_true_eq] at h1
    rw [h x y h1.2.1, eqR_eq h (l := l) (m := m) (by unfold eqR; rw [decide_eq_true (by omega), Bool.true_and]; exact h1.2.2)]
theorem eqT_eq (t u : S124) (h : eqT t u = true) : t = u := by
  cases t; cases u
  unfold eqT at h
  simp only [Bool.and_eq_true, decide_eq_true_eq] at h
  rw [h.1, h.2]
theorem eqN_eq (t u : S127) (h : eqN t u = true) : t = u := by
  cases t; cases u
  unfold eqN at h
  simp only [Bool.and_eq_true, decide_eq_true_eq] at h
  rw [h.1, h.2]
theorem sameB_eq {S U : Sh} (h : sameB S U = true) : S = U := by
  cases S; cases U
  unfold sameB at h
  simp only [Bool.and_eq_true, decide_eq_true_eq] at h
  rw [eqR_eq eqT_eq h.1.1, eqR_eq eqN_eq h.1.2, h.2]
theorem sameB_refl (S : Sh) : sameB S S = true := by
  unfold sameB
  rw [eqR_refl (fun x => by unfold eqT; simp), eqR_refl (fun x => by unfold eqN; simp), decide_eq_true rfl]
  rfl
set_option maxHeartbeats 1000000 in
set_option maxRecDepth 100000 in
theorem same_calls (S U : Sh) (v u : Value) (w : World) (hS : Small S) (hv : IsSh w v S) (hu : IsSh w u U) : Calls Try.prog 41 #[v, u] w fun e w' => e = .returned (.bool (sameB S U)) ∧ Below w.heap.size w w' := by
  have HS := Aside0.mk hS
  have hu89 := Try.underlying89
  obtain ⟨A0, c0, A1, c1, A2, c2, rfl, l0, h0, l1, h1, l2, h2⟩ := hv
  obtain ⟨B0, d0, B1, d1, B2, d2, rfl, m0, k0, m1, k1, m2, k2⟩ := hu
  have H0 := Aside0.mk h0
  have H1 := Aside0.mk h1
  have H2 := Aside0.mk h2
  have K0 := Aside0.mk k0
  have K1 := Aside0.mk k1
  have K2 := Aside0.mk k2
  clear h0 h1 h2 k0 k1 k2
  have HW := Aside0.mk (show Below w.heap.size w ((w.alloc (.cells #[.slice A0 S.T.length c0, .slice A1 S.G.length c1, .slice A2 S.N.length c2] 89)).alloc (.cells #[.slice B0 U.T.length d0, .slice B1 U.G.length d1, .slice B2 U.N.length d2] 89)) from below_alloc (below_alloc (Below.refl _ _) _) _)
  have HA : Aside0 (Holds ((w.alloc (.cells #[.slice A0 S.T.length c0, .slice A1 S.G.length c1, .slice A2 S.N.length c2] 89)).alloc (.cells #[.slice B0 U.T.length d0, .slice B1 U.G.length d1, .slice B2 U.N.length d2] 89)) w.heap.size 89 [.slice A0 S.T.length c0, .slice A1 S.G.length c1, .slice A2 S.N.length c2]) := ⟨Holds.below (blk_new _ _) (below_alloc (Below.refl _ _) _)⟩
  have HU : Aside0 (Holds ((w.alloc (.cells #[.slice A0 S.T.length c0, .slice A1 S.G.length c1, .slice A2 S.N.length c2] 89)).alloc (.cells #[.slice B0 U.T.length d0, .slice B1 U.G.length d1, .slice B2 U.N.length d2] 89)) (w.heap.size + 1) 89 [.slice B0 U.T.length d0, .slice B1 U.G.length d1, .slice B2 U.N.length d2]) := ⟨by have h := blk_new (w.alloc (.cells #[.slice A0 S.T.length c0, .slice A1 S.G.length c1, .slice A2 S.N.length c2] 89)) (.cells #[.slice B0 U.T.length d0, .slice B1 U.G.length d1, .slice B2 U.N.length d2] 89); rw [World.size_alloc] at h; exact h⟩
  unfold sameB
  go_enter Try.func41, Try.ntmps41
  go_upto_region 2 with (go_at_call 75; refine (c75 S.T U.T A0 B0 c0 d0 _ HS.out.T HS.out.t (Kd.C_below H0.out HW.out) l0 (Kd.C_below K0.out HW.out) m0).mono ?_; rintro e w2 ⟨rfl, hb2⟩; have HX := Aside0.mk (below_then HW.out HW.out.size hb2); have HA2 := Aside0.mk (HA.out.below hb2); have HU2 := Aside0.mk (HU.out.below hb2); clear hb2)
  have x2 := (HA2.out.cell 2).trans rfl
  have y2 := (HU2.out.cell 2).trans rfl
  go_upto_region 3 with (go_at_call 78; refine (c78 S.N U.N A2 B2 c2 d2 _ HS.out.N HS.out.n (Kd.C_below H2.out HX.out) l2 (Kd.C_below K2.out HX.out) m2).mono ?_; rintro e w3 ⟨rfl, hb3⟩; have HY := Aside0.mk (below_then HX.out HX.out.size hb3); have HA3 := Aside0.mk (HA2.out.below hb3); have HU3 := Aside0.mk (HU2.out.below hb3); clear hb3)
  have x1 := (HA3.out.cell 1).trans rfl
  have y1 := (HU3.out.cell 1).trans rfl
  obtain ⟨E1, hE1⟩ : ∃ E1, E1 = eqR eqT S.T U.T := ⟨_, rfl⟩
  obtain ⟨E2, hE2⟩ : ∃ E2, E2 = eqR eqN S.N U.N := ⟨_, rfl⟩
  have HE1 := Aside0.mk hE1
  have HE2 := Aside0.mk hE2
  rw [← hE1, ← hE2]
  clear hE1 hE2
  cases E1 with
  | false =>
    go_wp2_with fail
    go_ret
    exact ⟨by rw [← HE1.out]; rfl, HY.out⟩
  | true =>
    cases E2 with
    | false =>
      go_wp2_with fail
      go_ret
      exact ⟨by rw [← HE1.out, ← HE2.out]; rfl, HY.out⟩
    | true =>
      go_wp2_with (go_at_call 77; refine (eq77_calls _ _ S.G U.G _ HS.out.G ⟨A1, c1, rfl, l1, Kd.C_below H1.out HY.out⟩ ⟨B1, d1, rfl, m1, Kd.C_below K1.out HY.out⟩).mono ?_; rintro e w4 ⟨rfl, hb4⟩; have HZ := Aside0.mk (below_then HY.out HY.out.size hb4); clear hb4)
      go_ret
      exact ⟨by rw [← HE1.out, ← HE2.out]; rfl, HZ.out⟩
end Go.Proofs.Ytgojfecpknonlaa.Im

