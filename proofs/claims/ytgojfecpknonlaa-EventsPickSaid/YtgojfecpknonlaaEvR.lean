/- At every input the law EventsPick answers true, and its arguments read as they did; no condition. -/
import Derived.Test.YtgojfecpknonlaaRows
import Derived.Test.YtgojfecpknonlaaEvQ
import Derived.Test.YtgojfecpknonlaaOpen
import Derived.RowKit
import Derived.Lib.SmallJoins
import Derived.WalkKit
import Derived.ProofKit
import Derived.OpenShut
namespace Go.Proofs.Ytgojfecpknonlaa.eventsPick
open Go.ChangeShapes Go.WideShapes Go.ChangeAt Go.RowKit
open Go.Proofs.YtgojfecpknonlaaW.PrintWords Go.Proofs.YtgojfecpknonlaaW.PrintLast Go.Proofs.YtgojfecpknonlaaW.PrintMore Go.Proofs.Ytgojfecpknonlaa.Own Go.Proofs.Ytgojfecpknonlaa.PSt Go.Proofs.Ytgojfecpknonlaa.Ev
set_option linter.unusedVariables false
set_option linter.unusedSimpArgs false

theorem cells58 : Try.prog.cellsOf 58 = 11 := by kernel_rfl
theorem cells5 : Try.prog.cellsOf 5 = 1 := by kernel_rfl
theorem cells3 : Try.prog.cellsOf 3 = 1 := by kernel_rfl
theorem cells56 : Try.prog.cellsOf 56 = 1 := by kernel_rfl
set_option maxRecDepth 100000 in
theorem opens58 {H : Type} {enc : TypeId × Value → H} {W : World} : Opens enc Try.prog W k58 58 (fun _ => True) := by
  intro base spare held fuel cs x h
  obtain ⟨hlen, hfs⟩ := fields_of Try.underlying58 h
  rw [cells58] at hlen
  obtain ⟨x0, x1, x2, x3, x4, x5, x6, x7, x8, x9, x10, rfl⟩ : ∃ x0 x1 x2 x3 x4 x5 x6 x7 x8 x9 x10, cs = [x0, x1, x2, x3, x4, x5, x6, x7, x8, x9, x10] := by
    match cs, hlen with
    | [x0, x1, x2, x3, x4, x5, x6, x7, x8, x9, x10], _ => exact ⟨x0, x1, x2, x3, x4, x5, x6, x7, x8, x9, x10, rfl⟩
  obtain ⟨_, _, t0⟩ := hfs 0 _ rfl
  obtain ⟨_, _, t1⟩ := hfs 1 _ rfl
  obtain ⟨_, _, t2⟩ := hfs 2 _ rfl
  obtain ⟨_, _, t3⟩ := hfs 3 _ rfl
  obtain ⟨_, _, t4⟩ := hfs 4 _ rfl
  obtain ⟨_, _, t5⟩ := hfs 5 _ rfl
  obtain ⟨_, _, t6⟩ := hfs 6 _ rfl
  obtain ⟨_, _, t7⟩ := hfs 7 _ rfl
  obtain ⟨_, _, t8⟩ := hfs 8 _ rfl
  obtain ⟨_, _, t9⟩ := hfs 9 _ rfl
  obtain ⟨_, _, t10⟩ := hfs 10 _ rfl
  obtain ⟨n0, e0, b0⟩ := opens_int Try.underlying5 t0
  obtain ⟨n1, e1, b1⟩ := opens_int Try.underlying5 t1
  obtain ⟨n2, e2, b2⟩ := opens_int Try.underlying5 t2
  obtain ⟨n3, e3, b3⟩ := opens_int Try.underlying5 t3
  obtain ⟨n4, e4, b4⟩ := opens_int Try.underlying5 t4
  obtain ⟨n5, e5, b5⟩ := opens_int Try.underlying3 t5
  obtain ⟨n6, e6, b6⟩ := opens_int Try.underlying3 t6
  obtain ⟨n7, e7, b7⟩ := opens_int Try.underlying56 t7
  obtain ⟨n8, e8, b8⟩ := opens_int Try.underlying3 t8
  obtain ⟨n9, e9, b9⟩ := opens_int Try.underlying3 t9
  obtain ⟨n10, e10, b10⟩ := opens_int Try.underlying3 t10
  have f0 : List.take (Try.prog.cellsOf 5) (List.drop 0 [x0, x1, x2, x3, x4, x5, x6, x7, x8, x9, x10]) = [.int .u8 n0] := e0
  have f1 : List.take (Try.prog.cellsOf 5) (List.drop 1 [x0, x1, x2, x3, x4, x5, x6, x7, x8, x9, x10]) = [.int .u8 n1] := e1
  have f2 : List.take (Try.prog.cellsOf 5) (List.drop 2 [x0, x1, x2, x3, x4, x5, x6, x7, x8, x9, x10]) = [.int .u8 n2] := e2
  have f3 : List.take (Try.prog.cellsOf 5) (List.drop 3 [x0, x1, x2, x3, x4, x5, x6, x7, x8, x9, x10]) = [.int .u8 n3] := e3
  have f4 : List.take (Try.prog.cellsOf 5) (List.drop 4 [x0, x1, x2, x3, x4, x5, x6, x7, x8, x9, x10]) = [.int .u8 n4] := e4
  have f5 : List.take (Try.prog.cellsOf 3) (List.drop 5 [x0, x1, x2, x3, x4, x5, x6, x7, x8, x9, x10]) = [.int .i64 n5] := e5
  have f6 : List.take (Try.prog.cellsOf 3) (List.drop 6 [x0, x1, x2, x3, x4, x5, x6, x7, x8, x9, x10]) = [.int .i64 n6] := e6
  have f7 : List.take (Try.prog.cellsOf 56) (List.drop 7 [x0, x1, x2, x3, x4, x5, x6, x7, x8, x9, x10]) = [.int .u64 n7] := e7
  have f8 : List.take (Try.prog.cellsOf 3) (List.drop 8 [x0, x1, x2, x3, x4, x5, x6, x7, x8, x9, x10]) = [.int .i64 n8] := e8
  have f9 : List.take (Try.prog.cellsOf 3) (List.drop 9 [x0, x1, x2, x3, x4, x5, x6, x7, x8, x9, x10]) = [.int .i64 n9] := e9
  have f10 : List.take (Try.prog.cellsOf 3) (List.drop 10 [x0, x1, x2, x3, x4, x5, x6, x7, x8, x9, x10]) = [.int .i64 n10] := e10
  rw [cells5] at f0 f1 f2 f3 f4
  rw [cells3] at f5 f6 f8 f9 f10
  rw [cells56] at f7
  simp only [List.drop_zero, List.drop_succ_cons, List.take_succ_cons, List.take_zero, List.cons.injEq, and_true] at f0 f1 f2 f3 f4 f5 f6 f7 f8 f9 f10
  clear e0 e1 e2 e3 e4 e5 e6 e7 e8 e9 e10 t0 t1 t2 t3 t4 t5 t6 t7 t8 t9 t10 hfs h
  subst f0 f1 f2 f3 f4 f5 f6 f7 f8 f9 f10
  exact ⟨⟨n0, n1, n2, n3, n4, n5, n6, n7, n8, n9, n10⟩, k58_mk W _, trivial⟩

theorem pick_walk (l : List S58) (A : Option Addr) (c : Nat) (ag x y : Int) (w : World) (hr : Kd.C k58 w A l.length l) (hc : l.length ≤ c) :
    Calls Try.prog 10 #[.slice A l.length c, .int .u8 ag, .int .i64 x, .int .i64 y] w (fun e w' => e = .returned (.bool true) ∧ Below w.heap.size w w') := by
  rcases Nat.lt_or_ge 60 l.length with h | h
  · exact pick_long A c l.length ag x y w h (Kd.C_max hr)
  · exact pick_calls l A c ag x y w hr hc h
theorem own : ownKnob Try.prog.godebug = none := by kernel_rfl
theorem laidOut : laidOutB Try.prog = true := by kernel_rfl

set_option maxRecDepth 100000 in
theorem lifted (os : Os) (started : os.Started) (H : Type) (enc : TypeId × Value → H) :
    ReturnsInHanded {} Try.checked os 10 .any (Rows.eventsPickSpec.pre6 enc Try.prog Try.f10 Rows.eventsPickRow.domain false) (Rows.eventsPickSpec.post enc Try.prog Try.f10 false true false false) := by
  refine returnsInHanded_of_change (C := Try.checked) own started (by kernel_rfl) Try.func10
    (ChangeSpec.witness6 (enc := enc) (C := Try.checked) false ⟨#[], #[.slice none 0 0, .int .u8 0, .int .i64 0, .int .i64 0], []⟩ 8 (by kernel_rfl) (by kernel_rfl) (by kernel_rfl) (by kernel_rfl)) ?_
  intro W base args ds gs before hval0 hW hcnd _
  have hval : ∀ (j : Nat) t v, Try.f10.params[j]? = some t → args[j]? = some v → Value.okWide Try.prog W .any base t v := hval0
  have hW' := hW
  obtain ⟨p, q, hA0, hV, rfl, hfz, hnd⟩ := hW
  have hA : DataW.TrodAll enc Try.prog W 0 (fun _ => true) true Try.f10.params.toList args.toList ds p := hA0
  rw [Try.params10] at hA hval
  obtain ⟨v0, vs0, d0, ds0, p0, q0, hargs, rfl, rfl, h0, r0⟩ := trodAll_cons hA
  obtain ⟨v1, vs1, d1, ds1, p1, q1, rfl, rfl, rfl, h1, r1⟩ := trodAll_cons r0
  obtain ⟨v2, vs2, d2, ds2, p2, q2, rfl, rfl, rfl, h2, r2⟩ := trodAll_cons r1
  obtain ⟨v3, vs3, d3, ds3, p3, q3, rfl, rfl, rfl, h3, r3⟩ := trodAll_cons r2
  obtain ⟨rfl, rfl, rfl⟩ := trodAll_nil r3
  obtain rfl : args = #[v0, v1, v2, v3] := by cases args; simp_all
  obtain ⟨rfl, rfl⟩ := trodVars_none hV
  obtain ⟨a1, rfl, rfl, rfl, w1⟩ := open_int Try.underlying5 (hval 1 5 v1 rfl rfl) h1
  obtain ⟨a2, rfl, rfl, rfl, w2⟩ := open_int Try.underlying3 (hval 2 3 v2 rfl rfl) h2
  obtain ⟨a3, rfl, rfl, rfl, w3⟩ := open_int Try.underlying3 (hval 3 3 v3 rfl rfl) h3
  have k0 := h0
  have lt0 : ∀ x ∈ p0, x.block < W.heap.size := by obtain ⟨m, hm⟩ := k0; exact DataW.trod_lt m _ _ _ hm
  obtain ⟨l, A0, c0, rfl, hc0, hC, hwf⟩ : ∃ (l : List S58) (A0 : Option Addr) (c0 : Nat), v0 = .slice A0 l.length c0 ∧ l.length ≤ c0 ∧ Kd.C k58 W A0 l.length l ∧ ∀ d ∈ l, True := by
    obtain ⟨a, len, cap, rfl⟩ := okWide_slice Try.underlying41 (hval 0 41 v0 rfl rfl)
    obtain ⟨fuel, hf⟩ := h0
    obtain ⟨l, ⟨A0, c0, e0, hc0, hG⟩, hok⟩ := opens_slice Try.underlying41 (by kernel_rfl) opens58 hf
    refine ⟨l, A0, c0, ?_, hc0, hG, hok⟩
    have e1 : [Value.slice a len cap] = [.slice A0 l.length c0] := e0
    simpa using e1
  clear hA0 hval0
  refine (pick_walk l A0 c0 a1 a2 a3 W hC hc0).mono fun e W' ⟨he, bel⟩ => ?_
  subst he
  exact ⟨_, rfl, _, _, _, [], _, [], hW', trodAll_mk1 (shut_bool Try.underlying4 _), (trodAll_cons_mk (Below.trod laidOut (by kernel_rfl) (of_decide_eq_true (by kernel_rfl)) k0 bel lt0) (trodAll_cons_mk (shut_int Try.underlying5 w1) (trodAll_cons_mk (shut_int Try.underlying3 w2) (trodAll_cons_mk (shut_int Try.underlying3 w3) trodAll_mk0)))), rfl, bel.frame _, fun h => by cases h⟩

theorem over : Rows.eventsPickRow.holds Try.pinned (OpenSpec.ofChange Rows.eventsPickSpec) :=
  OpenClaim.holds_of_wide 10 Try.f10 rfl rfl rfl rfl rfl rfl rfl ⟨rfl, rfl, rfl, rfl, rfl⟩ rfl rfl rfl rfl rfl (by kernel_rfl) Try.func10 (by kernel_rfl)
    (of_decide_eq_true (by kernel_rfl)) (by unfold Func.isWrapper; first | (rw [if_pos (by decide +kernel)]; kernel_rfl) | (rw [if_neg (by decide +kernel)]; exact ⟨rfl, rfl⟩))
    (fun os started H enc _ => lifted os started H enc)
end Go.Proofs.Ytgojfecpknonlaa.eventsPick
namespace Go.Proofs.Ytgojfecpknonlaa
/-- The statement. -/
theorem eventsPick_holds : Rows.EventsPickSaid := eventsPick.over
#print axioms eventsPick_holds
end Go.Proofs.Ytgojfecpknonlaa

