/- At every input the law ShrinkLeast answers true, and its arguments read as they did; no condition. -/
import Derived.Test.YtgojfecpknonlaaRows
import Derived.Test.YtgojfecpknonlaaShrW
import Derived.Test.YtgojfecpknonlaaOpen
import Derived.Lib.SmallJoins
import Derived.WalkKit
import Derived.ProofKit
import Derived.OpenShut
namespace Go.Proofs.Ytgojfecpknonlaa.shrinkLeast
open Go.ChangeShapes Go.WideShapes Go.ChangeAt Go.RowKit
open Go.Proofs.YtgojfecpknonlaaW.PrintWords Go.Proofs.Ytgojfecpknonlaa.Own
set_option linter.unusedVariables false

theorem own : ownKnob Try.prog.godebug = none := by kernel_rfl
theorem laidOut : laidOutB Try.prog = true := by kernel_rfl
theorem cells33 : Try.prog.cellsOf 33 = 3 := by kernel_rfl
theorem cells31 : Try.prog.cellsOf 31 = 1 := by kernel_rfl

set_option maxRecDepth 100000 in
theorem lifted (os : Os) (started : os.Started) (H : Type) (enc : TypeId × Value → H) :
    ReturnsInHanded {} Try.checked os 4 .any (Rows.shrinkLeastSpec.pre6 enc Try.prog Try.f4 Rows.shrinkLeastRow.domain false) (Rows.shrinkLeastSpec.post enc Try.prog Try.f4 false true false false) := by
  refine returnsInHanded_of_change (C := Try.checked) own started (by kernel_rfl) Try.func4
    (ChangeSpec.witness6 (enc := enc) (C := Try.checked) false ⟨#[], #[.int .u8 0, .agg #[.slice none 0 0, .int .u8 0, .bool false]], []⟩ 8 (by kernel_rfl) (by kernel_rfl) (by kernel_rfl) (by kernel_rfl)) ?_
  intro W base args ds gs before hval0 hW hcnd _
  have hval : ∀ (j : Nat) t v, Try.f4.params[j]? = some t → args[j]? = some v → Value.okWide Try.prog W .any base t v := hval0
  have hW' := hW
  obtain ⟨p, q, hA0, hV, rfl, hfz, hnd⟩ := hW
  have hA : DataW.TrodAll enc Try.prog W 0 (fun _ => true) true Try.f4.params.toList args.toList ds p := hA0
  rw [Try.params4] at hA hval
  obtain ⟨v0, vs0, d0, ds0, p0, q0, hargs, rfl, rfl, h0, r0⟩ := trodAll_cons hA
  obtain ⟨v1, vs1, d1, ds1, p1, q1, rfl, rfl, rfl, h1, r1⟩ := trodAll_cons r0
  obtain ⟨rfl, rfl, rfl⟩ := trodAll_nil r1
  obtain rfl : args = #[v0, v1] := by cases args; simp_all
  obtain ⟨rfl, rfl⟩ := trodVars_none hV
  obtain ⟨a0, rfl, rfl, rfl, w0⟩ := open_int Try.underlying5 (hval 0 5 v0 rfl rfl) h0
  have k1 := h1
  have lt1 : ∀ x ∈ p1, x.block < W.heap.size := by obtain ⟨m, hm⟩ := k1; exact DataW.trod_lt m _ _ _ hm
  obtain ⟨c, A0, c0, G, a, b, rfl, hc0, hG⟩ : ∃ (v : Unit) (A0 : Option Addr) (c0 : Nat) (G : List (List Int)) (a : Int) (b : Bool), v1 = .agg #[.slice A0 G.length c0, .int .u8 a, .bool b] ∧ G.length ≤ c0 ∧ Kd.C (Kd.slice 5 (Kd.int .u8)) W A0 G.length G := by
    obtain ⟨cs, rfl, hsz⟩ := okWide_struct Try.underlying33 (hval 1 33 v1 rfl rfl)
    obtain ⟨fuel, hf⟩ := h1
    obtain ⟨hlen, hfs⟩ := fields_of Try.underlying33 hf
    rw [cells33] at hlen
    obtain ⟨x0, x1, x2, hcs⟩ : ∃ x0 x1 x2, cs.toList = [x0, x1, x2] := by
      match h : cs.toList, hlen with
      | [x0, x1, x2], _ => exact ⟨x0, x1, x2, rfl⟩
    have hcl : (Value.agg cs).cells.toList = [x0, x1, x2] := by rw [← hcs]; rfl
    rw [hcl] at hfs
    obtain ⟨n0, y0, t0⟩ := hfs 0 _ rfl
    obtain ⟨n1, y1, t1⟩ := hfs 1 _ rfl
    obtain ⟨n2, y2, t2⟩ := hfs 2 _ rfl
    obtain ⟨G, ⟨A0, c0, e0, hc0, hG⟩, _⟩ := opens_slice Try.underlying31 (by kernel_rfl) (opens_slice Try.underlying94 (by kernel_rfl) (opens_int Try.underlying5)) t0
    obtain ⟨a, e1, _⟩ := opens_int Try.underlying5 t1
    obtain ⟨b, e2, _⟩ := opens_bool Try.underlying4 t2
    have f0 : List.take (Try.prog.cellsOf 31) (List.drop 0 [x0, x1, x2]) = [.slice A0 G.length c0] := e0
    have f1 : List.take (Try.prog.cellsOf 5) (List.drop 1 [x0, x1, x2]) = [.int .u8 a] := e1
    have f2 : List.take (Try.prog.cellsOf 4) (List.drop 2 [x0, x1, x2]) = [.bool b] := e2
    rw [show Try.prog.cellsOf 31 = 1 by kernel_rfl] at f0
    rw [show Try.prog.cellsOf 5 = 1 by kernel_rfl] at f1
    rw [show Try.prog.cellsOf 4 = 1 by kernel_rfl] at f2
    simp only [List.drop_zero, List.drop_succ_cons, List.take_succ_cons, List.take_zero, List.cons.injEq, and_true] at f0 f1 f2
    clear e0 e1 e2
    subst f0 f1 f2
    refine ⟨(), A0, c0, G, a, b, ?_, hc0, hG⟩
    have : cs = #[.slice A0 G.length c0, .int .u8 a, .bool b] := by
      apply Array.toList_inj.1
      rw [hcs]
    rw [this]
  clear hA0 hval0
  refine (Shr.least_walk a0 w0 A0 c0 G a b W hG hc0).mono fun e W' ⟨he, bel⟩ => ?_
  subst he
  exact ⟨_, rfl, _, _, _, [], _, [], hW', trodAll_mk1 (shut_bool Try.underlying4 _), (trodAll_cons_mk (shut_int Try.underlying5 w0) (trodAll_cons_mk (Below.trod laidOut (by kernel_rfl) (of_decide_eq_true (by kernel_rfl)) k1 bel lt1) trodAll_mk0)), rfl, bel.frame _, fun h => by cases h⟩

theorem over : Rows.shrinkLeastRow.holds Try.pinned (OpenSpec.ofChange Rows.shrinkLeastSpec) :=
  OpenClaim.holds_of_wide 4 Try.f4 rfl rfl rfl rfl rfl rfl rfl ⟨rfl, rfl, rfl, rfl, rfl⟩ rfl rfl rfl rfl rfl (by kernel_rfl) Try.func4 (by kernel_rfl)
    (of_decide_eq_true (by kernel_rfl)) (by unfold Func.isWrapper; first | (rw [if_pos (by decide +kernel)]; kernel_rfl) | (rw [if_neg (by decide +kernel)]; exact ⟨rfl, rfl⟩))
    (fun os started H enc _ => lifted os started H enc)
end Go.Proofs.Ytgojfecpknonlaa.shrinkLeast
namespace Go.Proofs.Ytgojfecpknonlaa
/-- The statement. -/
theorem shrinkLeast_holds : Rows.ShrinkLeastSaid := shrinkLeast.over
#print axioms shrinkLeast_holds
end Go.Proofs.Ytgojfecpknonlaa
