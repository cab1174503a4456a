/- Rows of events that are read as data. -/
import Derived.Test.YtgojfecpknonlaaSt2
import Derived.Test.YtgojfecpknonlaaOpen
import Derived.RowKit
import Derived.OpenShut
import Derived.Lib.SmallJoins
import Derived.WalkKit
namespace Go.Proofs.Ytgojfecpknonlaa.St
open Go.RowKit Go.Proofs.YtgojfecpknonlaaW.PrintWords Go.Proofs.YtgojfecpknonlaaW.PrintLast Go.Proofs.YtgojfecpknonlaaW.PrintMore
open Go.Proofs.Ytgojfecpknonlaa.Own Go.Proofs.Ytgojfecpknonlaa.PSt
set_option linter.unusedVariables false
set_option linter.unusedSimpArgs false

theorem cells58 : Try.prog.cellsOf 58 = 11 := by kernel_rfl
theorem cells5 : Try.prog.cellsOf 5 = 1 := by kernel_rfl
theorem cells3 : Try.prog.cellsOf 3 = 1 := by kernel_rfl
theorem cells56 : Try.prog.cellsOf 56 = 1 := by kernel_rfl
set_option maxRecDepth 100000 in
theorem opens58 {H : Type} {enc : TypeId × Value → H} {W : World} : Opens enc Try.prog W k58 58 Wf := by
  intro base spare held fuel cs x h
  obtain ⟨hlen, hfs⟩ := fields_of Try.underlying58 h
  rw [cells58] at hlen
  obtain ⟨x0, x1, x2, x3, x4, x5, x6, x7, x8, x9, x10, rfl⟩ : ∃ x0 x1 x2 x3 x4 x5 x6 x7 x8 x9 x10, cs = [x0, x1, x2, x3, x4, x5, x6, x7, x8, x9, x10] := by
    match cs, hlen with
    | [x0, x1, x2, x3, x4, x5, x6, x7, x8, x9, x10], _ => exact ⟨x0, x1, x2, x3, x4, x5, x6, x7, x8, x9, x10, rfl⟩
  obtain ⟨_, _, t0⟩ := hfs 0 _ rfl
  obtain ⟨_, _, t1⟩ := hfs 1 _ rfl
  obtain ⟨_, _, t2⟩ := hfs 2 _ rfl
  obtain ⟨_, _, t3⟩ := hfs 3 _ rfl
  obtain ⟨_, _, t4⟩ := hfs 4 _ rfl
  obtain ⟨_, _, t5⟩ := hfs 5 _ rfl
  obtain ⟨_, _, t6⟩ := hfs 6 _ rfl
  obtain ⟨_, _, t7⟩ := hfs 7 _ rfl
  obtain ⟨_, _, t8⟩ := hfs 8 _ rfl
  obtain ⟨_, _, t9⟩ := hfs 9 _ rfl
  obtain ⟨_, _, t10⟩ := hfs 10 _ rfl
  obtain ⟨n0, e0, b0⟩ := opens_int Try.underlying5 t0
  obtain ⟨n1, e1, b1⟩ := opens_int Try.underlying5 t1
  obtain ⟨n2, e2, b2⟩ := opens_int Try.underlying5 t2
  obtain ⟨n3, e3, b3⟩ := opens_int Try.underlying5 t3
  obtain ⟨n4, e4, b4⟩ := opens_int Try.underlying5 t4
  obtain ⟨n5, e5, b5⟩ := opens_int Try.underlying3 t5
  obtain ⟨n6, e6, b6⟩ := opens_int Try.underlying3 t6
  obtain ⟨n7, e7, b7⟩ := opens_int Try.underlying56 t7
  obtain ⟨n8, e8, b8⟩ := opens_int Try.underlying3 t8
  obtain ⟨n9, e9, b9⟩ := opens_int Try.underlying3 t9
  obtain ⟨n10, e10, b10⟩ := opens_int Try.underlying3 t10
  have f0 : List.take (Try.prog.cellsOf 5) (List.drop 0 [x0, x1, x2, x3, x4, x5, x6, x7, x8, x9, x10]) = [.int .u8 n0] := e0
  have f1 : List.take (Try.prog.cellsOf 5) (List.drop 1 [x0, x1, x2, x3, x4, x5, x6, x7, x8, x9, x10]) = [.int .u8 n1] := e1
  have f2 : List.take (Try.prog.cellsOf 5) (List.drop 2 [x0, x1, x2, x3, x4, x5, x6, x7, x8, x9, x10]) = [.int .u8 n2] := e2
  have f3 : List.take (Try.prog.cellsOf 5) (List.drop 3 [x0, x1, x2, x3, x4, x5, x6, x7, x8, x9, x10]) = [.int .u8 n3] := e3
  have f4 : List.take (Try.prog.cellsOf 5) (List.drop 4 [x0, x1, x2, x3, x4, x5, x6, x7, x8, x9, x10]) = [.int .u8 n4] := e4
  have f5 : List.take (Try.prog.cellsOf 3) (List.drop 5 [x0, x1, x2, x3, x4, x5, x6, x7, x8, x9, x10]) = [.int .i64 n5] := e5
  have f6 : List.take (Try.prog.cellsOf 3) (List.drop 6 [x0, x1, x2, x3, x4, x5, x6, x7, x8, x9, x10]) = [.int .i64 n6] := e6
  have f7 : List.take (Try.prog.cellsOf 56) (List.drop 7 [x0, x1, x2, x3, x4, x5, x6, x7, x8, x9, x10]) = [.int .u64 n7] := e7
  have f8 : List.take (Try.prog.cellsOf 3) (List.drop 8 [x0, x1, x2, x3, x4, x5, x6, x7, x8, x9, x10]) = [.int .i64 n8] := e8
  have f9 : List.take (Try.prog.cellsOf 3) (List.drop 9 [x0, x1, x2, x3, x4, x5, x6, x7, x8, x9, x10]) = [.int .i64 n9] := e9
  have f10 : List.take (Try.prog.cellsOf 3) (List.drop 10 [x0, x1, x2, x3, x4, x5, x6, x7, x8, x9, x10]) = [.int .i64 n10] := e10
  rw [cells5] at f0 f1 f2 f3 f4
  rw [cells3] at f5 f6 f8 f9 f10
  rw [cells56] at f7
  simp only [List.drop_zero, List.drop_succ_cons, List.take_succ_cons, List.take_zero, List.cons.injEq, and_true] at f0 f1 f2 f3 f4 f5 f6 f7 f8 f9 f10
  clear e0 e1 e2 e3 e4 e5 e6 e7 e8 e9 e10 t0 t1 t2 t3 t4 t5 t6 t7 t8 t9 t10 hfs h
  subst f0 f1 f2 f3 f4 f5 f6 f7 f8 f9 f10
  exact ⟨⟨n0, n1, n2, n3, n4, n5, n6, n7, n8, n9, n10⟩, k58_mk W _, ⟨bounds_u8 b0, bounds_u8 b1, bounds_u8 b2, bounds_u8 b3, bounds_u8 b4, bounds_i64 b5, bounds_i64 b6, bounds_u64 b7, bounds_i64 b8, bounds_i64 b9, bounds_i64 b10⟩⟩
end Go.Proofs.Ytgojfecpknonlaa.St

