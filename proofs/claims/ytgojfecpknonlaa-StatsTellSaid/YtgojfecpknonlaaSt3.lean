/- The stats' first question: is there an event that may not be: functions 60, 94, 59. -/
import Derived.Test.YtgojfecpknonlaaSt2
import Derived.Test.YtgojfecpknonlaaAgg
import Derived.Deep.Light
namespace Go.Proofs.Ytgojfecpknonlaa.St
open Go.RowKit Go.Proofs.YtgojfecpknonlaaW.PrintWords Go.Proofs.YtgojfecpknonlaaW.PrintLast Go.Proofs.YtgojfecpknonlaaW.PrintMore
open Go.Proofs.Ytgojfecpknonlaa.Own Go.Proofs.Ytgojfecpknonlaa.PSt
set_option linter.unusedVariables false
set_option linter.unusedSimpArgs false

/-- The program's event as the document has it. -/
abbrev un72 (d : S72) : S58 := ⟨d.f0, d.f1.f0, d.f1.f1, d.f1.f2, d.f1.f3, d.f2.f0, d.f2.f1, d.f2.f2, d.f3, d.f4, d.f5⟩
abbrev ev72 (d : S72) : Value := .agg #[.int .u8 d.f0, .int .u8 d.f1.f0, .int .u8 d.f1.f1, .int .u8 d.f1.f2, .int .u8 d.f1.f3, .int .i64 d.f2.f0, .int .i64 d.f2.f1, .int .u64 d.f2.f2, .int .i64 d.f3, .int .i64 d.f4, .int .i64 d.f5]
def bad (d : S72) : Bool := !may (un72 d)

set_option maxHeartbeats 4000000 in
set_option maxRecDepth 100000 in
theorem c60 (d : S72) (hd : Wf (un72 d)) (w : World) : Calls Try.prog 60 #[ev72 d] w fun e w' => e = .returned (.bool (bad d)) ∧ Below w.heap.size w w' := by
  obtain ⟨a0, ⟨a1, a2, a3, a4⟩, ⟨a5, a6, a7⟩, a8, a9, a10⟩ := d
  have hm := may_is _ hd 0
  simp only at hm
  have HM := Aside0.mk hm
  clear hm hd
  unfold bad
  generalize may _ = b at *
  go_enter Try.func60, Try.ntmps60
  go_wp2_with fail
  have HB := Aside0.mk (below_alloc (Below.refl w.heap.size w) (Obj.cells #[.int .u8 a0, .int .u8 a1, .int .u8 a2, .int .u8 a3, .int .u8 a4, .int .i64 a5, .int .i64 a6, .int .u64 a7, .int .i64 a8, .int .i64 a9, .int .i64 a10] 72))
  refine (events_May.calls 3 _ _ _ _ _ _ _ _ _ _ _ _ _ HM.out).mono ?_
  rintro e w1 ⟨rfl, hb1⟩
  go_wp2
  go_ret
  exact ⟨rfl, below_then (below_alloc (Below.refl w.heap.size w) _) (by simp) hb1⟩

/-- An element's cells, in a later memory. -/
theorem elem72 {w W : World} {A : Option Addr} {l : List S72} (h : Kd.C k72 w A l.length l) (hb : Below w.heap.size w W) (i : Nat) (hi : i < l.length) : ∃ ad, A = some ad ∧ ∃ d, l[i]? = some d ∧ W.cell? (ad.add (i * 11)) = some (.int .u8 d.f0) ∧ W.cell? ⟨(ad.add (i * 11)).block, (ad.add (i * 11)).off + 1, none⟩ = some (.int .u8 d.f1.f0) ∧ W.cell? ⟨(ad.add (i * 11)).block, (ad.add (i * 11)).off + 2, none⟩ = some (.int .u8 d.f1.f1) ∧ W.cell? ⟨(ad.add (i * 11)).block, (ad.add (i * 11)).off + 3, none⟩ = some (.int .u8 d.f1.f2) ∧ W.cell? ⟨(ad.add (i * 11)).block, (ad.add (i * 11)).off + 4, none⟩ = some (.int .u8 d.f1.f3) ∧ W.cell? ⟨(ad.add (i * 11)).block, (ad.add (i * 11)).off + 5, none⟩ = some (.int .i64 d.f2.f0) ∧ W.cell? ⟨(ad.add (i * 11)).block, (ad.add (i * 11)).off + 6, none⟩ = some (.int .i64 d.f2.f1) ∧ W.cell? ⟨(ad.add (i * 11)).block, (ad.add (i * 11)).off + 7, none⟩ = some (.int .u64 d.f2.f2) ∧ W.cell? ⟨(ad.add (i * 11)).block, (ad.add (i * 11)).off + 8, none⟩ = some (.int .i64 d.f3) ∧ W.cell? ⟨(ad.add (i * 11)).block, (ad.add (i * 11)).off + 9, none⟩ = some (.int .i64 d.f4) ∧ W.cell? ⟨(ad.add (i * 11)).block, (ad.add (i * 11)).off + 10, none⟩ = some (.int .i64 d.f5) := by
  obtain ⟨ad, he, hx0, hx1, hx2, hx3, hx4, hx5, hx6, hx7, hx8, hx9, hx10⟩ := at_T72 (Kd.C_below h hb) i (by omega) (by omega)
  refine ⟨ad, he, l[i], List.getElem?_eq_getElem hi, ?_⟩
  have e : rd_T72 l i = l[i] := by
    unfold rd_T72
    rw [Int.toNat_natCast, List.getD_eq_getElem?_getD, List.getElem?_eq_getElem hi]
    rfl
  simp only [Int.toNat_natCast] at hx0 hx1 hx2 hx3 hx4 hx5 hx6 hx7 hx8 hx9 hx10
  rw [e] at hx0 hx1 hx2 hx3 hx4 hx5 hx6 hx7 hx8 hx9 hx10
  exact ⟨hx0, hx1, hx2, hx3, hx4, hx5, hx6, hx7, hx8, hx9, hx10⟩

set_option maxHeartbeats 4000000 in
set_option maxRecDepth 100000 in
theorem c94 (l : List S72) (hl : ∀ d ∈ l, Wf (un72 d)) (A0 : Option Addr) (c0 : Nat) (w : World) (hr0 : Kd.C k72 w A0 l.length l) (hc0 : l.length ≤ c0) (hll : l.length < 4611686018427387904) :
    Calls Try.prog 94 #[.slice A0 l.length c0, .func (.func 60) #[] #[]] w fun e w' => (∃ r : Int, e = .returned (.int .i64 r) ∧ decide (0 ≤ r) = l.any bad) ∧ Below w.heap.size w w' := by
  have HR0 := Aside0.mk hr0
  have HL := Aside0.mk hl
  have HC0 := Aside0.mk hc0
  have hu72 := Try.underlying72
  clear hr0 hc0 hl
  go_enter Try.func94, Try.ntmps94
  go_wp2
  go_loopg [5, 8] l.length (fun kq v5 v8 w' => ∃ i : Nat, v8 = .int .i64 i ∧ i + kq = l.length ∧ Aside0 ((l.take i).any bad = false) ∧ Aside0 (Below w.heap.size w w'))
  case atStart => exact ⟨0, rfl, by omega, ⟨rfl⟩, ⟨Below.refl _ _⟩⟩
  case round =>
    obtain ⟨i, rfl, hi, HN, HB⟩ := hrel
    cases gk with
    | zero =>
      obtain rfl : i = l.length := by omega
      clear hi
      have c1 : decide (((l.length : Nat) : Int) < (l.length : Int)) = false := decide_eq_false (by omega)
      go_wp2
      go_ret
      refine ⟨⟨-1, rfl, ?_⟩, HB.out⟩
      have h := HN.out
      rw [List.take_length] at h
      rw [h]
      rfl
    | succ k1 =>
      have c1 : decide ((i : Int) < (l.length : Int)) = true := decide_eq_true (by omega)
      have hil : i < l.length := by omega
      obtain ⟨ad, he, d, hd, hx0, hx1, hx2, hx3, hx4, hx5, hx6, hx7, hx8, hx9, hx10⟩ := elem72 HR0.out HB.out i hil
      cases he
      have HD := Aside0.mk hd
      have HI := Aside0.mk hi
      have hwf : Wf (un72 d) := HL.out d (List.mem_of_getElem? hd)
      have HW := Aside0.mk hwf
      have p1 := eq_true (show 0 ≤ ((i : Nat) : Int) by omega)
      have q1 := eq_true (show ((i : Nat) : Int) < (l.length : Int) by omega)
      have q2 := eq_true hil
      clear hd hi hwf hil
      cases hbad : bad d with
      | true =>
        go_wp2_with (go_at_call 60; refine (c60 d HW.out _).mono ?_; rintro e w2 ⟨rfl, hb2⟩; rw [hbad])
        have HB2 := Aside0.mk (below_then HB.out HB.out.size hb2)
        clear hb2
        go_ret
        refine ⟨⟨i, rfl, ?_⟩, HB2.out⟩
        rw [decide_eq_true (show (0 : Int) ≤ i by omega)]
        exact (List.any_eq_true.2 ⟨d, List.mem_of_getElem? HD.out, hbad⟩).symm
      | false =>
        go_wp2_with (go_at_call 60; refine (c60 d HW.out _).mono ?_; rintro e w2 ⟨rfl, hb2⟩; rw [hbad]; have HB2 := Aside0.mk (below_then HB.out HB.out.size hb2); clear hb2)
        go_roundg k1
        case measure => omega
        case rel =>
          refine ⟨i + 1, by have := HI.out; rw [wrap_in (by omega) (by omega)]; rfl, by have := HI.out; omega, ⟨?_⟩, HB2⟩
          have h : l.take (i + 1) = l.take i ++ [d] := by
            rw [List.take_add_one, HD.out]
            rfl
          rw [h, List.any_append, HN.out]
          simp [hbad]

set_option maxHeartbeats 4000000 in
set_option maxRecDepth 100000 in
theorem c59 (l : List S72) (hl : ∀ d ∈ l, Wf (un72 d)) (A0 : Option Addr) (c0 : Nat) (w : World) (hr0 : Kd.C k72 w A0 l.length l) (hc0 : l.length ≤ c0) (hll : l.length < 4611686018427387904) :
    Calls Try.prog 59 #[.slice A0 l.length c0, .func (.func 60) #[] #[]] w fun e w' => e = .returned (.bool (l.any bad)) ∧ Below w.heap.size w w' := by
  have HC := Aside0.mk (c94 l hl A0 c0 w hr0 hc0 hll)
  clear hl hr0 hc0 hll
  go_enter Try.func59, Try.ntmps59
  go_wp2_with (go_at_call 94; refine HC.out.mono ?_; rintro e w2 ⟨⟨r, rfl, hr⟩, hb2⟩)
  cases hb : l.any bad with
  | true =>
    rw [hb] at hr
    go_wp2
    go_ret
    exact ⟨rfl, hb2⟩
  | false =>
    rw [hb] at hr
    go_wp2
    go_ret
    exact ⟨rfl, hb2⟩
end Go.Proofs.Ytgojfecpknonlaa.St
