/- Threads and nodes that are too great: functions 70, 71, 102, 103, 72, 73. -/
import Derived.Test.YtgojfecpknonlaaImO
namespace Go.Proofs.Ytgojfecpknonlaa.Im
open Go.RowKit Go.Proofs.YtgojfecpknonlaaW.PrintWords Go.Proofs.YtgojfecpknonlaaW.PrintLast Go.Proofs.YtgojfecpknonlaaW.PrintMore
open Go.Proofs.Ytgojfecpknonlaa.Own Go.Proofs.Ytgojfecpknonlaa.PIm Go.Proofs.Ytgojfecpknonlaa.Wv
set_option linter.unusedVariables false
set_option linter.unusedSimpArgs false

def badB (slots : Nat) (t : S124) : Bool := decide (t.f0.length ≠ slots) || decide (16 < t.f1.length)
def greatB (t : S127) : Bool := decide (95 < t.f0.length + t.f1.length)
set_option maxHeartbeats 1000000 in
theorem c70 (t : S124) (A0 A1 : Option Addr) (c0 c1 g4 slots : Nat) (w : World) (h0 : t.f0.length ≤ 1000000) (h1 : t.f1.length ≤ 1000000) (hs : slots ≤ 1000000) (hc : w.cell? ⟨g4, 0, none⟩ = some (.int .i64 (slots : Int))) :
    Calls Try.prog 70 #[.agg #[.slice A0 t.f0.length c0, .slice A1 t.f1.length c1], .pointer (some ⟨g4, 0, none⟩)] w fun e w' => e = .returned (.bool (badB slots t)) ∧ Below w.heap.size w w' := by
  unfold badB
  have hc1 : (w.alloc (.cells #[.slice A0 t.f0.length c0, .slice A1 t.f1.length c1] 128)).cell? ⟨g4, 0, none⟩ = some (.int .i64 (slots : Int)) := cell_stays (below_alloc (Below.refl _ _) _) hc
  by_cases q : t.f0.length = slots
  · have q1 : decide (t.f0.length ≠ slots) = false := by simp [q]
    have q2 : ((t.f0.length : Int) != (slots : Int)) = false := by simp [q]
    have q3 : decide ((16 : Int) < (t.f1.length : Int)) = decide (16 < t.f1.length) := by congr 1; exact propext (by omega)
    have Q := Aside0.mk q
    have Q1 := Aside0.mk q1
    clear q q1
    go_enter Try.func70, Try.ntmps70
    go_wp2_with fail
    go_ret
    exact ⟨by rw [Q1.out]; simp [q3], below_alloc (Below.refl _ _) _⟩
  · have Q1 := Aside0.mk (show decide (t.f0.length ≠ slots) = true by simp [q])
    have q2 : ((t.f0.length : Int) != (slots : Int)) = true := by simp; omega
    clear q
    go_enter Try.func70, Try.ntmps70
    go_wp2_with fail
    go_ret
    exact ⟨by rw [Q1.out]; simp, below_alloc (Below.refl _ _) _⟩
set_option maxHeartbeats 1000000 in
theorem c71 (t : S127) (A0 A1 : Option Addr) (c0 c1 : Nat) (w : World) (h0 : t.f0.length ≤ 1000000) (h1 : t.f1.length ≤ 1000000) :
    Calls Try.prog 71 #[.agg #[.slice A0 t.f0.length c0, .slice A1 t.f1.length c1]] w fun e w' => e = .returned (.bool (greatB t)) ∧ Below w.heap.size w w' := by
  unfold greatB
  have q3 : decide ((95 : Int) < (t.f0.length : Int) + (t.f1.length : Int)) = decide (95 < t.f0.length + t.f1.length) := by congr 1; exact propext (by omega)
  have hw : wrap64 ((t.f0.length : Int) + (t.f1.length : Int)) = (t.f0.length : Int) + (t.f1.length : Int) := wrap_in (by omega) (by omega)
  go_enter Try.func71, Try.ntmps71
  go_wp2_with fail
  go_ret
  exact ⟨rfl, below_alloc (Below.refl _ _) _⟩
theorem any_step {α : Type} (f : α → Bool) (l : List α) (i : Nat) (h : i < l.length) (hp : (l.take i).any f = false) : (l.take (i + 1)).any f = f l[i] := by
  rw [List.take_succ_eq_append_getElem h, List.any_append, hp]
  simp
theorem any_found {α : Type} (f : α → Bool) (l : List α) (i : Nat) (h : i < l.length) (hp : f l[i] = true) : l.any f = true := List.any_eq_true.2 ⟨_, List.getElem_mem h, hp⟩
set_option maxHeartbeats 2000000 in
set_option maxRecDepth 100000 in
theorem c102 (l : List S124) (A : Option Addr) (c : Nat) (w : World) (g4 slots : Nat) (hs0 : slots ≤ 1000000) (hc : w.cell? ⟨g4, 0, none⟩ = some (.int .i64 (slots : Int))) (hl : l.length ≤ 1000000) (hs : ∀ t ∈ l, SmallT t) (hA : Kd.C k124 w A l.length l) :
    Calls Try.prog 102 #[.slice A l.length c, .func (.func 70) #[] #[.pointer (some ⟨g4, 0, none⟩)]] w fun e w' => ∃ r : Int, e = .returned (.int .i64 r) ∧ ((decide ((0 : Int) ≤ r)) = l.any (badB slots)) ∧ Below w.heap.size w w' := by
  have HA := Aside0.mk hA
  have HS := Aside0.mk hs
  have HLL := Aside0.mk hl
  have HC := Aside0.mk hc
  clear hc
  clear hA hs
  go_enter Try.func102, Try.ntmps102
  go_wp2_with fail
  go_loopg [8] l.length (fun kq v8 w' => ∃ i : Nat, v8 = .int .i64 (i : Int) ∧ i + kq = l.length ∧ Aside0 ((l.take i).any (badB slots) = false) ∧ Aside0 (Below w.heap.size w w'))
  case atStart => exact ⟨0, rfl, by omega, ⟨rfl⟩, ⟨Below.refl _ _⟩⟩
  case round =>
    obtain ⟨i, rfl, hi, HN, HB⟩ := hrel
    obtain ⟨W0, rfl⟩ : ∃ W0, W0 = wr := ⟨wr, rfl⟩
    cases gk with
    | zero =>
      have q1 : decide ((i : Int) < (l.length : Int)) = false := decide_eq_false (by omega)
      have q2 : decide (i < l.length) = false := decide_eq_false (by omega)
      go_wp2_with fail
      go_ret
      refine ⟨-1, rfl, ?_, HB.out⟩
      have h := HN.out
      rw [List.take_of_length_le (by omega)] at h
      rw [h]
      rfl
    | succ k1 =>
      have hil : i < l.length := by omega
      have q1 : decide ((i : Int) < (l.length : Int)) = true := decide_eq_true (by omega)
      have q2 : decide (i < l.length) = true := decide_eq_true (by omega)
      have q3 : (0 : Int) ≤ (i : Int) := by omega
      have q4 : (i : Int) < (l.length : Int) := by omega
      have hin : i < 1000000000 := by omega
      obtain ⟨ad, x0, x1, rfl, hx, hv0, hv1⟩ := atT HA.out i hil
      obtain ⟨hx0, hx1⟩ := hx W0 HB.out
      have hsm := HS.out l[i] (List.getElem_mem hil)
      have HST := Aside0.mk (any_step (badB slots) l i hil HN.out)
      have HFD := Aside0.mk (any_found (badB slots) l i hil)
      obtain ⟨t, ht⟩ : ∃ t, t = l[i] := ⟨_, rfl⟩
      rw [← ht] at HST HFD hv0 hv1 hsm
      obtain ⟨Ax, cx, rfl, _, _⟩ := hv0
      obtain ⟨Ay, cy, rfl, _, _⟩ := hv1
      have HSM := Aside0.mk hsm
      clear ht hx hsm
      have HCALL := Aside0.mk (c70 t Ax Ay cx cy g4 slots W0 HSM.out.1 HSM.out.2 hs0 (cell_stays HB.out HC.out))
      obtain ⟨b, hb⟩ : ∃ b, b = badB slots t := ⟨_, rfl⟩
      rw [← hb] at HCALL HST HFD
      have HI := Aside0.mk hi
      clear hb hi
      cases b with
      | true =>
        go_wp2_with (go_at_call 70; refine HCALL.out.mono ?_; rintro e w2 ⟨rfl, hb2⟩; have HB2 := Aside0.mk hb2; clear hb2)
        go_ret
        refine ⟨(i : Int), rfl, ?_, below_then HB.out HB.out.size HB2.out⟩
        rw [HFD.out (by trivial)]
        exact decide_eq_true q3
      | false =>
        go_wp2_with (go_at_call 70; refine HCALL.out.mono ?_; rintro e w2 ⟨rfl, hb2⟩; have HB2 := Aside0.mk hb2; clear hb2)
        go_roundg k1
        case measure => have := HI.out; omega
        case rel => exact ⟨i + 1, rfl, by have := HI.out; omega, HST, ⟨below_then HB.out HB.out.size HB2.out⟩⟩
set_option maxHeartbeats 2000000 in
set_option maxRecDepth 100000 in
theorem c72 (l : List S124) (A : Option Addr) (c : Nat) (w : World) (g4 slots : Nat) (hs0 : slots ≤ 1000000) (hc : w.cell? ⟨g4, 0, none⟩ = some (.int .i64 (slots : Int))) (hl : l.length ≤ 1000000) (hs : ∀ t ∈ l, SmallT t) (hA : Kd.C k124 w A l.length l) :
    Calls Try.prog 72 #[.slice A l.length c, .func (.func 70) #[] #[.pointer (some ⟨g4, 0, none⟩)]] w fun e w' => e = .returned (.bool (l.any (badB slots))) ∧ Below w.heap.size w w' := by
  go_enter Try.func72, Try.ntmps72
  go_wp2_with (go_at_call 102; refine (c102 l A c w g4 slots hs0 hc hl hs hA).mono ?_; rintro e w2 ⟨r, rfl, hr, hb2⟩)
  go_ret
  exact ⟨by rw [← hr]; rfl, hb2⟩
set_option maxHeartbeats 2000000 in
set_option maxRecDepth 100000 in
theorem c103 (l : List S127) (A : Option Addr) (c : Nat) (w : World) (hl : l.length ≤ 1000000) (hs : ∀ t ∈ l, SmallN t) (hA : Kd.C k127 w A l.length l) :
    Calls Try.prog 103 #[.slice A l.length c, .func (.func 71) #[] #[]] w fun e w' => ∃ r : Int, e = .returned (.int .i64 r) ∧ ((decide ((0 : Int) ≤ r)) = l.any (greatB)) ∧ Below w.heap.size w w' := by
  have HA := Aside0.mk hA
  have HS := Aside0.mk hs
  have HLL := Aside0.mk hl
  skip
  clear hA hs
  go_enter Try.func103, Try.ntmps103
  go_wp2_with fail
  go_loopg [8] l.length (fun kq v8 w' => ∃ i : Nat, v8 = .int .i64 (i : Int) ∧ i + kq = l.length ∧ Aside0 ((l.take i).any (greatB) = false) ∧ Aside0 (Below w.heap.size w w'))
  case atStart => exact ⟨0, rfl, by omega, ⟨rfl⟩, ⟨Below.refl _ _⟩⟩
  case round =>
    obtain ⟨i, rfl, hi, HN, HB⟩ := hrel
    obtain ⟨W0, rfl⟩ : ∃ W0, W0 = wr := ⟨wr, rfl⟩
    cases gk with
    | zero =>
      have q1 : decide ((i : Int) < (l.length : Int)) = false := decide_eq_false (by omega)
      have q2 : decide (i < l.length) = false := decide_eq_false (by omega)
      go_wp2_with fail
      go_ret
      refine ⟨-1, rfl, ?_, HB.out⟩
      have h := HN.out
      rw [List.take_of_length_le (by omega)] at h
      rw [h]
      rfl
    | succ k1 =>
      have hil : i < l.length := by omega
      have q1 : decide ((i : Int) < (l.length : Int)) = true := decide_eq_true (by omega)
      have q2 : decide (i < l.length) = true := decide_eq_true (by omega)
      have q3 : (0 : Int) ≤ (i : Int) := by omega
      have q4 : (i : Int) < (l.length : Int) := by omega
      have hin : i < 1000000000 := by omega
      obtain ⟨ad, x0, x1, rfl, hx, hv0, hv1⟩ := atN HA.out i hil
      obtain ⟨hx0, hx1⟩ := hx W0 HB.out
      have hsm := HS.out l[i] (List.getElem_mem hil)
      have HST := Aside0.mk (any_step (greatB) l i hil HN.out)
      have HFD := Aside0.mk (any_found (greatB) l i hil)
      obtain ⟨t, ht⟩ : ∃ t, t = l[i] := ⟨_, rfl⟩
      rw [← ht] at HST HFD hv0 hv1 hsm
      obtain ⟨Ax, cx, rfl, _, _⟩ := hv0
      obtain ⟨Ay, cy, rfl, _, _⟩ := hv1
      have HSM := Aside0.mk hsm
      clear ht hx hsm
      have HCALL := Aside0.mk (c71 t Ax Ay cx cy W0 HSM.out.1 HSM.out.2)
      obtain ⟨b, hb⟩ : ∃ b, b = greatB t := ⟨_, rfl⟩
      rw [← hb] at HCALL HST HFD
      have HI := Aside0.mk hi
      clear hb hi
      cases b with
      | true =>
        go_wp2_with (go_at_call 71; refine HCALL.out.mono ?_; rintro e w2 ⟨rfl, hb2⟩; have HB2 := Aside0.mk hb2; clear hb2)
        go_ret
        refine ⟨(i : Int), rfl, ?_, below_then HB.out HB.out.size HB2.out⟩
        rw [HFD.out (by trivial)]
        exact decide_eq_true q3
      | false =>
        go_wp2_with (go_at_call 71; refine HCALL.out.mono ?_; rintro e w2 ⟨rfl, hb2⟩; have HB2 := Aside0.mk hb2; clear hb2)
        go_roundg k1
        case measure => have := HI.out; omega
        case rel => exact ⟨i + 1, rfl, by have := HI.out; omega, HST, ⟨below_then HB.out HB.out.size HB2.out⟩⟩
set_option maxHeartbeats 2000000 in
set_option maxRecDepth 100000 in
theorem c73 (l : List S127) (A : Option Addr) (c : Nat) (w : World) (hl : l.length ≤ 1000000) (hs : ∀ t ∈ l, SmallN t) (hA : Kd.C k127 w A l.length l) :
    Calls Try.prog 73 #[.slice A l.length c, .func (.func 71) #[] #[]] w fun e w' => e = .returned (.bool (l.any (greatB))) ∧ Below w.heap.size w w' := by
  go_enter Try.func73, Try.ntmps73
  go_wp2_with (go_at_call 103; refine (c103 l A c w  hl hs hA).mono ?_; rintro e w2 ⟨r, rfl, hr, hb2⟩)
  go_ret
  exact ⟨by rw [← hr]; rfl, hb2⟩
end Go.Proofs.Ytgojfecpknonlaa.Im

