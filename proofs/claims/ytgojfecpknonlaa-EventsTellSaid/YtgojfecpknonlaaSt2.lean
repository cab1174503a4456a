/- Whether an event may be: both texts say the same. -/
import Derived.Test.YtgojfecpknonlaaSt1
import Derived.Test.YtgojfecpknonlaaPStx8
namespace Go.Proofs.Ytgojfecpknonlaa.St
open Go.RowKit Go.Proofs.YtgojfecpknonlaaW.PrintWords Go.Proofs.YtgojfecpknonlaaW.PrintLast Go.Proofs.YtgojfecpknonlaaW.PrintMore
open Go.Proofs.Ytgojfecpknonlaa.Own Go.Proofs.Ytgojfecpknonlaa.PSt
set_option linter.unusedVariables false
set_option linter.unusedSimpArgs false

/-- An event's numbers are of their kinds. -/
structure Wf (d : S58) : Prop where
  u0 : 0 ≤ d.f0 ∧ d.f0 ≤ 255
  u1 : 0 ≤ d.f1 ∧ d.f1 ≤ 255
  u2 : 0 ≤ d.f2 ∧ d.f2 ≤ 255
  u3 : 0 ≤ d.f3 ∧ d.f3 ≤ 255
  u4 : 0 ≤ d.f4 ∧ d.f4 ≤ 255
  i5 : -9223372036854775808 ≤ d.f5 ∧ d.f5 ≤ 9223372036854775807
  i6 : -9223372036854775808 ≤ d.f6 ∧ d.f6 ≤ 9223372036854775807
  u7 : 0 ≤ d.f7 ∧ d.f7 ≤ 18446744073709551615
  i8 : -9223372036854775808 ≤ d.f8 ∧ d.f8 ≤ 9223372036854775807
  i9 : -9223372036854775808 ≤ d.f9 ∧ d.f9 ≤ 9223372036854775807
  i10 : -9223372036854775808 ≤ d.f10 ∧ d.f10 ≤ 9223372036854775807

def may (d : S58) : Bool := !t1 d && !t2 (argsOf d.f1) d && t3 d

theorem wrap_in {i : Int} (h0 : -9223372036854775808 ≤ i) (h1 : i ≤ 9223372036854775807) : wrap64 i = i := by
  unfold wrap64; omega

theorem refArgs_is (a : Int) (h : 0 ≤ a ∧ a ≤ 255) : demesneref11_Args.f a = some (argsOf a) := by
  unfold demesneref11_Args.f
  simp only [Option.bind_some]
  rw [wrap_in (by omega) (by omega)]
  by_cases h14 : a < 14
  · have hc : a = 0 ∨ a = 1 ∨ a = 2 ∨ a = 3 ∨ a = 4 ∨ a = 5 ∨ a = 6 ∨ a = 7 ∨ a = 8 ∨ a = 9 ∨ a = 10 ∨ a = 11 ∨ a = 12 ∨ a = 13 := by omega
    rcases hc with rfl | rfl | rfl | rfl | rfl | rfl | rfl | rfl | rfl | rfl | rfl | rfl | rfl | rfl <;> rfl
  · rw [if_neg (by simpa using h14)]
    unfold argsOf
    rw [if_neg (by omega), if_neg (by omega), if_neg (by omega)]

theorem tot_ite {α : Type} {c : Prop} [Decidable c] {a b : Option α} (h : ∃ r, a = some r) (k : ∃ r, b = some r) : ∃ r, (if c then a else b) = some r := by
  split
  · exact h
  · exact k
theorem args_is (k : Nat) (a : Int) : script_Args.f (k + 2) a = some (argsOf a) := by
  have tot : ∃ r, script_Args.f (k + 2) a = some r := by
    unfold script_Args.f
    simp only [script_Args.j0, script_Args.j1]
    repeat' (with_reducible refine tot_ite ?_ ?_)
    all_goals exact ⟨_, rfl⟩
  obtain ⟨r, hr⟩ := tot
  rw [hr, script_Args.is _ _ _ hr]

def inB (a b : Int) : Bool := decide (0 ≤ a) && decide (a ≤ b)
theorem in_is (a b : Int) : events_in.f a b = some (inB a b) := by
  unfold events_in.f inB
  by_cases h : 0 ≤ a
  · rw [if_pos h, decide_eq_true h, Bool.true_and]
  · rw [if_neg h, decide_eq_false h, Bool.false_and]

theorem j1_is (k : Nat) (x3 x5 : Bool) (a0 a1 a2 a3 a4 a5 a6 a7 a8 a9 a10 : Int) : events_May.j1 (k + 1) x3 x5 a0 a1 a2 a3 a4 a5 a6 a7 a8 a9 a10 =
    some (x3 && decide (a1 ≤ 13) && !x5 && inB a5 8 && inB a6 65535 && (inB a8 2147483647 && inB a9 2147483647 && inB a10 2147483647)) := by
  simp only [events_May.j1, in_is, Option.bind_some]
  generalize inB a5 8 = b5
  generalize inB a6 65535 = b6
  generalize inB a8 2147483647 = b8
  generalize inB a9 2147483647 = b9
  generalize inB a10 2147483647 = b10
  by_cases h : a1 ≤ 13
  · simp only [if_pos h, decide_eq_true h]
    cases x3 <;> cases x5 <;> cases b5 <;> cases b6 <;> cases b8 <;> cases b9 <;> cases b10 <;> rfl
  · simp only [if_neg h, decide_eq_false h]
    cases x3 <;> cases b8 <;> cases b9 <;> cases b10 <;> rfl

def spareB (t a2 a3 a4 : Int) : Bool := (decide (t < 3) && a4 != 0) || (decide (t < 2) && a3 != 0) || (decide (t < 1) && a2 != 0)
theorem j0_is (k : Nat) (x3 : Bool) (a0 a1 a2 a3 a4 a5 a6 a7 a8 a9 a10 : Int) : events_May.j0 (k + 3) x3 a0 a1 a2 a3 a4 a5 a6 a7 a8 a9 a10 =
    some (x3 && decide (a1 ≤ 13) && !(spareB (argsOf a1) a2 a3 a4) && inB a5 8 && inB a6 65535 && (inB a8 2147483647 && inB a9 2147483647 && inB a10 2147483647)) := by
  simp only [events_May.j0]
  rw [args_is]
  simp only [Option.bind_some]
  generalize argsOf a1 = t
  unfold spareB
  simp only [j1_is]
  by_cases h3 : t < 3 <;> by_cases h2 : t < 2 <;> by_cases h1 : t < 1 <;> by_cases g4 : a4 = 0 <;> by_cases g3 : a3 = 0 <;> simp [h3, h2, h1, g4, g3]

theorem may_is (d : S58) (h : Wf d) (k : Nat) : events_May.f (k + 3) d.f0 d.f1 d.f2 d.f3 d.f4 d.f5 d.f6 d.f7 d.f8 d.f9 d.f10 = some (may d) := by
  have e : events_May.f (k + 3) d.f0 d.f1 d.f2 d.f3 d.f4 d.f5 d.f6 d.f7 d.f8 d.f9 d.f10 = events_May.j0 (k + 3) (decide (d.f0 = 255) || decide (d.f0 < 64)) d.f0 d.f1 d.f2 d.f3 d.f4 d.f5 d.f6 d.f7 d.f8 d.f9 d.f10 := by
    unfold events_May.f
    by_cases h0 : d.f0 = 255
    · rw [if_pos h0, decide_eq_true h0, Bool.true_or]
    · rw [if_neg h0, decide_eq_false h0, Bool.false_or]
  rw [e, j0_is]
  congr 1
  have u0 := h.u0; have u2 := h.u2; have u3 := h.u3; have u4 := h.u4
  unfold may t1 t2 t3 spareB inB
  generalize argsOf d.f1 = t
  rw [Bool.eq_iff_iff]
  simp only [Bool.and_eq_true, Bool.or_eq_true, Bool.not_eq_true', decide_eq_true_eq, Bool.or_eq_false_iff, Bool.and_eq_false_iff, decide_eq_false_iff_not, bne_eq_false_iff_eq]
  omega
end Go.Proofs.Ytgojfecpknonlaa.St

