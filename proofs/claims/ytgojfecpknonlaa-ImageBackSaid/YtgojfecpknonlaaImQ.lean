/- Whether a shape may be: function 39. -/
import Derived.Test.YtgojfecpknonlaaImP
import Derived.BigQuiet
import Derived.Deep.RegionHeld3
namespace Go.Proofs.Ytgojfecpknonlaa.Im
open Go.RowKit Go.Proofs.YtgojfecpknonlaaW.PrintWords Go.Proofs.YtgojfecpknonlaaW.PrintLast Go.Proofs.YtgojfecpknonlaaW.PrintMore
open Go.Proofs.Ytgojfecpknonlaa.Own Go.Proofs.Ytgojfecpknonlaa.PIm Go.Proofs.Ytgojfecpknonlaa.Wv
set_option linter.unusedVariables false
set_option linter.unusedSimpArgs false

theorem below_dN {B : Nat} {w w1 : World} (h : Below B w w1) (n : Nat) : Below B w (w1.drewN n) := ⟨h.os, h.tape, h.output, h.size, h.block⟩
def slotsF (S : Sh) : Nat := (S.T.getD 0 ⟨[], []⟩).f0.length
def mayF (S : Sh) : Bool := decide (1 ≤ S.T.length ∧ S.T.length ≤ 64 ∧ S.G.length ≤ 8) && sameB S (canonF S) && decide (1 ≤ slotsF S ∧ slotsF S ≤ 8) && !(S.T.any (badB (slotsF S))) && !(S.N.any greatB)
set_option maxHeartbeats 4000000 in
set_option maxRecDepth 100000 in
theorem may_calls (S : Sh) (hS : Mid S) (v : Value) (w : World) (hv : IsSh w v S) : Calls Try.prog 39 #[v] w fun e w' => e = .returned (.bool (mayF S)) ∧ Below w.heap.size w w' := by
  have hu89 := Try.underlying89
  have HS := Aside0.mk hS
  have HV := Aside0.mk hv
  obtain ⟨A0, c0, A1, c1, A2, c2, rfl, l0, h0, l1, h1, l2, h2⟩ := hv
  have H0 := Aside0.mk h0
  have H2 := Aside0.mk h2
  obtain ⟨W1, hW1⟩ : ∃ W1, W1 = w.alloc (.cells #[.slice A0 S.T.length c0, .slice A1 S.G.length c1, .slice A2 S.N.length c2] 89) := ⟨_, rfl⟩
  have HB := Aside0.mk (show Below w.heap.size w W1 by rw [hW1]; exact below_alloc (Below.refl _ _) _)
  have HH := Aside0.mk (show Holds W1 w.heap.size 89 [.slice A0 S.T.length c0, .slice A1 S.G.length c1, .slice A2 S.N.length c2] by rw [hW1]; exact hold_alloc rfl)
  have x0 := (HH.out.cell 0).trans rfl
  have x1 := (HH.out.cell 1).trans rfl
  have hTl := hS.T
  have hGl := hS.G
  clear h0 h1 h2 l0 l1 l2 hS
  by_cases ha : S.T.length < 1
  · have HF : Aside0 (mayF S = false) := ⟨by unfold mayF; rw [decide_eq_false (by omega)]; rfl⟩
    have q1 : decide ((S.T.length : Int) < 1) = true := decide_eq_true (by omega)
    have q1' : decide (S.T.length < 1) = true := decide_eq_true (by omega)
    clear ha
    go_enter Try.func39, Try.ntmps39
    go_upto_region 1 with (fail)
    rw [← hW1]
    clear hW1
    go_wp2_with fail
    go_quiet (fail)
    go_wp2_with fail
    go_ret
    exact ⟨by rw [HF.out]; rfl, below_dN HB.out _⟩
  by_cases hb : 64 < S.T.length
  · have HF : Aside0 (mayF S = false) := ⟨by unfold mayF; rw [decide_eq_false (by omega)]; rfl⟩
    have q1 : decide ((S.T.length : Int) < 1) = false := decide_eq_false (by omega)
    have q1' : decide (S.T.length < 1) = false := decide_eq_false (by omega)
    have q2 : decide ((64 : Int) < (S.T.length : Int)) = true := decide_eq_true (by omega)
    have q2' : decide (64 < S.T.length) = true := decide_eq_true (by omega)
    clear ha hb
    go_enter Try.func39, Try.ntmps39
    go_upto_region 1 with (fail)
    rw [← hW1]
    clear hW1
    go_wp2_with fail
    go_quiet (fail)
    go_wp2_with fail
    go_ret
    exact ⟨by rw [HF.out]; rfl, below_dN HB.out _⟩
  by_cases hg : 8 < S.G.length
  · have HF : Aside0 (mayF S = false) := ⟨by unfold mayF; rw [decide_eq_false (by omega)]; rfl⟩
    have q1 : decide ((S.T.length : Int) < 1) = false := decide_eq_false (by omega)
    have q1' : decide (S.T.length < 1) = false := decide_eq_false (by omega)
    have q2 : decide ((64 : Int) < (S.T.length : Int)) = false := decide_eq_false (by omega)
    have q2' : decide (64 < S.T.length) = false := decide_eq_false (by omega)
    have q3 : decide ((8 : Int) < (S.G.length : Int)) = true := decide_eq_true (by omega)
    have q3' : decide (8 < S.G.length) = true := decide_eq_true (by omega)
    clear ha hb hg
    go_enter Try.func39, Try.ntmps39
    go_upto_region 1 with (fail)
    rw [← hW1]
    clear hW1
    go_wp2_with fail
    go_quiet (fail)
    go_wp2_with fail
    go_ret
    exact ⟨by rw [HF.out]; rfl, below_dN HB.out _⟩
  have hAll : Aside0 (1 ≤ S.T.length ∧ S.T.length ≤ 64 ∧ S.G.length ≤ 8) := ⟨by omega⟩
  have q1 : decide ((S.T.length : Int) < 1) = false := decide_eq_false (by omega)
  have q1' : decide (S.T.length < 1) = false := decide_eq_false (by omega)
  have q2 : decide ((64 : Int) < (S.T.length : Int)) = false := decide_eq_false (by omega)
  have q2' : decide (64 < S.T.length) = false := decide_eq_false (by omega)
  have q3 : decide ((8 : Int) < (S.G.length : Int)) = false := decide_eq_false (by omega)
  have q3' : decide (8 < S.G.length) = false := decide_eq_false (by omega)
  clear ha hb hg
  have x2 := (HH.out.cell 2).trans rfl
  have HC := Aside0.mk (canon_calls S HS.out _ W1.drew (HV.out.below (below_drew HB.out)))
  go_enter Try.func39, Try.ntmps39
  go_upto_region 1 with (fail)
  rw [← hW1]
  clear hW1
  go_wp2_with fail
  obtain ⟨bs, hbs⟩ : ∃ bs, bs = sameB S (canonF S) := ⟨_, rfl⟩
  go_region_held3 (fun w' => w'.cell? ⟨w.heap.size, 0, none⟩ = some (.slice A0 S.T.length c0) ∧ w'.cell? ⟨w.heap.size, 1, none⟩ = some (.slice A1 S.G.length c1) ∧ w'.cell? ⟨w.heap.size, 2, none⟩ = some (.slice A2 S.N.length c2)) (go_keep)
    (first | (go_at_call 69; refine HC.out.mono ?_; rintro e w2 ⟨v0, rfl, hv0, hb2⟩; have y0 := pw_cell_below hb2 x0; have y1 := pw_cell_below hb2 x1; have y2 := pw_cell_below hb2 x2; have HB2 := Aside0.mk hb2; have HV2 := Aside0.mk hv0) | (go_at_call 41; refine (same_calls S (canonF S) _ _ _ HS.out.small (HV.out.below (below_then (below_drew HB.out) HB.out.size HB2.out)) HV2.out).mono ?_; rintro e w3 ⟨rfl, hb3⟩; have z0 := pw_cell_below hb3 y0; have z1 := pw_cell_below hb3 y1; have z2 := pw_cell_below hb3 y2; have HB3 := Aside0.mk hb3))
  rename_i hHeld
  have HB4 := Aside0.mk (below_then (below_then (below_drew HB.out) HB.out.size HB2.out) (Nat.le_trans HB.out.size HB2.out.size) HB3.out)
  rw [← hbs]
  have HBS := Aside0.mk hbs
  clear hbs x0 x1 x2 y0 y1 y2 hb2 hb3 hv0 hHeld HC z2
  have HH3 := Aside0.mk ((show Holds W1.drew w.heap.size 89 _ from HH.out).below HB2.out |>.below HB3.out)
  cases bs with
  | false =>
    have HF : Aside0 (mayF S = false) := ⟨by unfold mayF; rw [← HBS.out]; simp⟩
    go_wp2_with fail
    go_ret
    exact ⟨by rw [HF.out]; rfl, HB4.out⟩
  | true =>
    obtain ⟨ad, X0, X1, rfl, hx, hv0, hv1⟩ := atT H0.out 0 (by have := hAll.out; omega)
    obtain ⟨hx0, hx1⟩ := hx w3 HB4.out
    have HSL := Aside0.mk (show slotsF S = (S.T[0]'(by have := hAll.out; omega)).f0.length by
      unfold slotsF
      rw [List.getD_eq_getElem?_getD, List.getElem?_eq_getElem (by have := hAll.out; omega)]
      rfl)
    have HSM := Aside0.mk (HS.out.t _ (List.getElem_mem (show 0 < S.T.length by have := hAll.out; omega)))
    obtain ⟨t0, ht0⟩ : ∃ t0, t0 = (S.T[0]'(by have := hAll.out; omega)) := ⟨_, rfl⟩
    rw [← ht0] at HSL HSM hv0 hv1
    obtain ⟨Ax, cx, rfl, _, _⟩ := hv0
    rw [Nat.zero_mul] at hx0 hx1
    have hx0' : w3.cell? ad = some (.slice Ax t0.f0.length cx) := hx0
    have q5 : (0 : Int) < (S.T.length : Int) := by have := hAll.out; omega
    have q6 : 0 < S.T.length := by have := hAll.out; omega
    have hsl : t0.f0.length ≤ 1000000 := by have := HSM.out.1; omega
    clear hx ht0
    have hmf : ∀ (fn : Fn) (first cap : Array Value) (w : World), (Instr.makeFunc fn first cap).run Try.prog w = .ok (.func fn first cap) w := fun _ _ _ _ => rfl
    go_upto_region 5 with (fail)
    obtain ⟨W6, hW6⟩ : ∃ W6, W6 = w3.alloc (.cells #[.int .i64 (t0.f0.length : Int)] 3) := ⟨_, rfl⟩
    have HB6 := Aside0.mk (show Below w3.heap.size w3 W6 by rw [hW6]; exact below_alloc (Below.refl _ _) _)
    have HC6 := Aside0.mk (show W6.cell? ⟨w3.heap.size, 0, none⟩ = some (.int .i64 (t0.f0.length : Int)) from ((show Holds W6 w3.heap.size 3 [.int .i64 (t0.f0.length : Int)] by rw [hW6]; exact hold_alloc rfl).cell 0).trans rfl)
    rw [← hW6]
    clear hW6 hx0 hx1 hx0' z0 z1
    have HH6 := Aside0.mk (HH3.out.below HB6.out)
    have HW6 := Aside0.mk (below_then HB4.out HB4.out.size HB6.out)
    have x4 := HC6.out
    have y0 := (HH6.out.cell 0).trans rfl
    have HTC := Aside0.mk (Kd.C_below H0.out HW6.out)
    have HM : Aside0 (mayF S = (decide (1 ≤ t0.f0.length ∧ t0.f0.length ≤ 8) && !(S.T.any (badB t0.f0.length)) && !(S.N.any greatB))) := ⟨by unfold mayF; rw [HSL.out, ← HBS.out, decide_eq_true hAll.out, Bool.true_and, Bool.true_and]⟩
    have HC72 := Aside0.mk (c72 S.T (some ad) c0 W6 w3.heap.size t0.f0.length hsl HC6.out HS.out.small.T HS.out.small.t HTC.out)
    clear HSL HSM HBS hAll HV HH HH3
    by_cases s1 : t0.f0.length < 1
    · have r1 : decide ((1 : Int) ≤ (t0.f0.length : Int)) = false := decide_eq_false (by omega)
      have r1' : decide (1 ≤ t0.f0.length) = false := decide_eq_false (by omega)
      have HF := Aside0.mk (show mayF S = false by rw [HM.out, decide_eq_false (by omega)]; rfl)
      clear s1
      go_wp2_with fail
      go_ret
      exact ⟨by rw [HF.out]; rfl, HW6.out⟩
    by_cases s2 : 8 < t0.f0.length
    · have r1 : decide ((1 : Int) ≤ (t0.f0.length : Int)) = true := decide_eq_true (by omega)
      have r1' : decide (1 ≤ t0.f0.length) = true := decide_eq_true (by omega)
      have r2 : decide ((t0.f0.length : Int) ≤ 8) = false := decide_eq_false (by omega)
      have r2' : decide (t0.f0.length ≤ 8) = false := decide_eq_false (by omega)
      have HF := Aside0.mk (show mayF S = false by rw [HM.out, decide_eq_false (by omega)]; rfl)
      clear s1 s2
      go_wp2_with fail
      go_ret
      exact ⟨by rw [HF.out]; rfl, HW6.out⟩
    have r1 : decide ((1 : Int) ≤ (t0.f0.length : Int)) = true := decide_eq_true (by omega)
    have r1' : decide (1 ≤ t0.f0.length) = true := decide_eq_true (by omega)
    have r2 : decide ((t0.f0.length : Int) ≤ 8) = true := decide_eq_true (by omega)
    have r2' : decide (t0.f0.length ≤ 8) = true := decide_eq_true (by omega)
    have HM2 := Aside0.mk (show mayF S = (!(S.T.any (badB t0.f0.length)) && !(S.N.any greatB)) by rw [HM.out, decide_eq_true (by omega), Bool.true_and])
    obtain ⟨bT, hbT⟩ : ∃ bT, bT = S.T.any (badB t0.f0.length) := ⟨_, rfl⟩
    rw [← hbT] at HC72 HM2
    clear s1 s2 hbT HM
    cases bT with
    | true =>
      go_wp2_with (go_at_call 72; refine HC72.out.mono ?_; rintro e w7 ⟨rfl, hb7⟩; have HB7 := Aside0.mk hb7; clear hb7)
      go_ret
      exact ⟨by rw [HM2.out]; rfl, below_then HW6.out HW6.out.size HB7.out⟩
    | false =>
      go_wp2_with (first
        | (go_at_call 72; refine HC72.out.mono ?_; rintro e w7 ⟨rfl, hb7⟩; have HB7 := Aside0.mk hb7; have y2 := ((HH6.out.below hb7).cell 2).trans rfl; clear hb7)
        | (go_at_call 73; refine (c73 S.N A2 c2 _ HS.out.small.N HS.out.small.n (Kd.C_below H2.out (below_then HW6.out HW6.out.size HB7.out))).mono ?_; rintro e w8 ⟨rfl, hb8⟩; have HB8 := Aside0.mk hb8; clear hb8))
      go_ret
      exact ⟨by rw [HM2.out]; rfl, below_then (below_then HW6.out HW6.out.size HB7.out) (Nat.le_trans HW6.out.size HB7.out.size) HB8.out⟩
end Go.Proofs.Ytgojfecpknonlaa.Im

