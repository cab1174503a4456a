/- At every input the law ImageBack answers true, and its arguments read as they did; no condition. -/
import Derived.Test.YtgojfecpknonlaaRows
import Derived.Test.YtgojfecpknonlaaImAi
import Derived.Test.YtgojfecpknonlaaOpen
import Derived.RowKit
import Derived.Lib.SmallJoins
import Derived.WalkKit
import Derived.ProofKit
import Derived.OpenShut
import Derived.ChangeMaps5
namespace Go.Proofs.Ytgojfecpknonlaa.imageBack
open Go.ChangeMaps Go.ChangeShapes Go.WideShapes Go.ChangeAt Go.RowKit
open Go.Proofs.YtgojfecpknonlaaW.PrintWords Go.Proofs.YtgojfecpknonlaaW.PrintLast Go.Proofs.YtgojfecpknonlaaW.PrintMore Go.Proofs.Ytgojfecpknonlaa.Own Go.Proofs.Ytgojfecpknonlaa.PIm Go.Proofs.Ytgojfecpknonlaa.Im
set_option linter.unusedVariables false
set_option linter.unusedSimpArgs false

theorem cells26 : Try.prog.cellsOf 26 = 1 := by kernel_rfl
theorem cells125 : Try.prog.cellsOf 125 = 1 := by kernel_rfl
theorem cells79 : Try.prog.cellsOf 79 = 1 := by kernel_rfl
theorem cells80 : Try.prog.cellsOf 80 = 1 := by kernel_rfl
theorem cells124 : Try.prog.cellsOf 124 = 2 := by kernel_rfl
theorem cells127 : Try.prog.cellsOf 127 = 2 := by kernel_rfl
theorem cells82 : Try.prog.cellsOf 82 = 3 := by kernel_rfl
section
variable {H : Type} {enc : TypeId × Value → H} {W : World}
theorem opens26 : Opens enc Try.prog W (Kd.slice 3 (Kd.int .i64)) 26 (fun _ => True) := by
  intro base spare held fuel cs x h
  obtain ⟨l, hK, _⟩ := opens_slice Try.underlying26 (by kernel_rfl) (opens_int Try.underlying3) h
  exact ⟨l, hK, trivial⟩
theorem opens125 : Opens enc Try.prog W (Kd.slice 56 (Kd.int .u64)) 125 (fun l => ∀ x ∈ l, 0 ≤ x ∧ x < 256 ^ 8) := by
  intro base spare held fuel cs x h
  obtain ⟨l, hK, hl⟩ := opens_slice Try.underlying125 (by kernel_rfl) (opens_int Try.underlying56) h
  exact ⟨l, hK, fun x hx => by
    have h1 := bounds_u64 (hl x hx)
    have h2 : (256 : Int) ^ 8 = 18446744073709551616 := rfl
    omega⟩
set_option maxRecDepth 100000 in
theorem opens124 : Opens enc Try.prog W k124 124 (fun _ => True) := by
  intro base spare held fuel cs x h
  obtain ⟨hlen, hfs⟩ := fields_of Try.underlying124 h
  rw [cells124] at hlen
  obtain ⟨x0, x1, rfl⟩ : ∃ x0 x1, cs = [x0, x1] := by
    match cs, hlen with
    | [x0, x1], _ => exact ⟨x0, x1, rfl⟩
  obtain ⟨_, _, t0⟩ := hfs 0 _ rfl
  obtain ⟨_, _, t1⟩ := hfs 1 _ rfl
  obtain ⟨l0, ⟨A0, c0, e0, hc0, hC0⟩, _⟩ := opens26 t0
  obtain ⟨l1, ⟨A1, c1, e1, hc1, hC1⟩, _⟩ := opens26 t1
  have f0 : List.take (Try.prog.cellsOf 26) (List.drop 0 [x0, x1]) = [.slice A0 l0.length c0] := e0
  have f1 : List.take (Try.prog.cellsOf 26) (List.drop 1 [x0, x1]) = [.slice A1 l1.length c1] := e1
  rw [cells26] at f0 f1
  simp only [List.drop_zero, List.drop_succ_cons, List.take_succ_cons, List.take_zero, List.cons.injEq, and_true] at f0 f1
  clear e0 e1 t0 t1 hfs h
  subst f0 f1
  exact ⟨⟨l0, l1⟩, k124_mk W _ hc0 hC0 hc1 hC1, trivial⟩
set_option maxRecDepth 100000 in
theorem opens127 : Opens enc Try.prog W k127 127 (fun t => ∀ x ∈ t.f1, 0 ≤ x ∧ x < 256 ^ 8) := by
  intro base spare held fuel cs x h
  obtain ⟨hlen, hfs⟩ := fields_of Try.underlying127 h
  rw [cells127] at hlen
  obtain ⟨x0, x1, rfl⟩ : ∃ x0 x1, cs = [x0, x1] := by
    match cs, hlen with
    | [x0, x1], _ => exact ⟨x0, x1, rfl⟩
  obtain ⟨_, _, t0⟩ := hfs 0 _ rfl
  obtain ⟨_, _, t1⟩ := hfs 1 _ rfl
  obtain ⟨l0, ⟨A0, c0, e0, hc0, hC0⟩, _⟩ := opens26 t0
  obtain ⟨l1, ⟨A1, c1, e1, hc1, hC1⟩, hl1⟩ := opens125 t1
  have f0 : List.take (Try.prog.cellsOf 26) (List.drop 0 [x0, x1]) = [.slice A0 l0.length c0] := e0
  have f1 : List.take (Try.prog.cellsOf 125) (List.drop 1 [x0, x1]) = [.slice A1 l1.length c1] := e1
  rw [cells26] at f0
  rw [cells125] at f1
  simp only [List.drop_zero, List.drop_succ_cons, List.take_succ_cons, List.take_zero, List.cons.injEq, and_true] at f0 f1
  clear e0 e1 t0 t1 hfs h
  subst f0 f1
  exact ⟨⟨l0, l1⟩, k127_mk W _ hc0 hC0 hc1 hC1, hl1⟩
set_option maxRecDepth 100000 in
theorem opens82 {base : Nat} {spare : Nat → Bool} {held : Bool} {fuel : Nat} {cs : List Value} {x : DataW H × List MemPlace} (h : DataW.trod enc Try.prog W base spare held fuel 82 cs = some x) : ∃ S v, cs = v ∧ (∃ A0 c0 A1 c1 A2 c2, v = [.slice A0 S.T.length c0, .slice A1 S.G.length c1, .slice A2 S.N.length c2]) ∧ IsSh W (.agg v.toArray) S ∧ ∀ t ∈ S.N, ∀ x ∈ t.f1, 0 ≤ x ∧ x < 256 ^ 8 := by
  obtain ⟨hlen, hfs⟩ := fields_of Try.underlying82 h
  rw [cells82] at hlen
  obtain ⟨x0, x1, x2, rfl⟩ : ∃ x0 x1 x2, cs = [x0, x1, x2] := by
    match cs, hlen with
    | [x0, x1, x2], _ => exact ⟨x0, x1, x2, rfl⟩
  obtain ⟨_, _, t0⟩ := hfs 0 _ rfl
  obtain ⟨_, _, t1⟩ := hfs 1 _ rfl
  obtain ⟨_, _, t2⟩ := hfs 2 _ rfl
  obtain ⟨l0, ⟨A0, c0, e0, hc0, hC0⟩, _⟩ := opens_slice Try.underlying79 (by kernel_rfl) opens124 t0
  obtain ⟨l1, ⟨A1, c1, e1, hc1, hC1⟩, _⟩ := opens26 t1
  obtain ⟨l2, ⟨A2, c2, e2, hc2, hC2⟩, hl2⟩ := opens_slice Try.underlying80 (by kernel_rfl) opens127 t2
  have f0 : List.take (Try.prog.cellsOf 79) (List.drop 0 [x0, x1, x2]) = [.slice A0 l0.length c0] := e0
  have f1 : List.take (Try.prog.cellsOf 26) (List.drop 1 [x0, x1, x2]) = [.slice A1 l1.length c1] := e1
  have f2 : List.take (Try.prog.cellsOf 80) (List.drop 2 [x0, x1, x2]) = [.slice A2 l2.length c2] := e2
  rw [cells79] at f0
  rw [cells26] at f1
  rw [cells80] at f2
  simp only [List.drop_zero, List.drop_succ_cons, List.take_succ_cons, List.take_zero, List.cons.injEq, and_true] at f0 f1 f2
  clear e0 e1 e2 t0 t1 t2 hfs h
  subst f0 f1 f2
  exact ⟨⟨l0, l1, l2⟩, _, rfl, ⟨A0, c0, A1, c1, A2, c2, rfl⟩, ⟨A0, c0, A1, c1, A2, c2, rfl, hc0, hC0, hc1, hC1, hc2, hC2⟩, hl2⟩
end
theorem own : ownKnob Try.prog.godebug = none := by kernel_rfl
theorem laidOut : laidOutB Try.prog = true := by kernel_rfl

set_option maxRecDepth 100000 in
theorem lifted (os : Os) (started : os.Started) (H : Type) (enc : TypeId × Value → H) :
    ReturnsInHanded {} Try.checked os 8 .any (Rows.imageBackSpec.pre6 enc Try.prog Try.f8 Rows.imageBackRow.domain false) (Rows.imageBackSpec.post enc Try.prog Try.f8 false true false false) := by
  refine returnsInHanded_of_change (C := Try.checked) own started (by kernel_rfl) Try.func8
    (ChangeSpec.witness6 (enc := enc) (C := Try.checked) false ⟨#[], #[.agg #[.slice none 0 0, .slice none 0 0, .slice none 0 0], .string ⟨#[]⟩, .int .u16 0, .int .u8 0], []⟩ 8 (by kernel_rfl) (by kernel_rfl) (by kernel_rfl) (by kernel_rfl)) ?_
  intro W base args ds gs before hval0 hW hcnd _
  have hval : ∀ (j : Nat) t v, Try.f8.params[j]? = some t → args[j]? = some v → Value.okWide Try.prog W .any base t v := hval0
  have hW' := hW
  obtain ⟨p, q, hA0, hV, rfl, hfz, hnd⟩ := hW
  have hA : DataW.TrodAll enc Try.prog W 0 (fun _ => true) true Try.f8.params.toList args.toList ds p := hA0
  rw [Try.params8] at hA hval
  obtain ⟨v0, vs0, d0, ds0, p0, q0, hargs, rfl, rfl, h0, r0⟩ := trodAll_cons hA
  obtain ⟨v1, vs1, d1, ds1, p1, q1, rfl, rfl, rfl, h1, r1⟩ := trodAll_cons r0
  obtain ⟨v2, vs2, d2, ds2, p2, q2, rfl, rfl, rfl, h2, r2⟩ := trodAll_cons r1
  obtain ⟨v3, vs3, d3, ds3, p3, q3, rfl, rfl, rfl, h3, r3⟩ := trodAll_cons r2
  obtain ⟨rfl, rfl, rfl⟩ := trodAll_nil r3
  obtain rfl : args = #[v0, v1, v2, v3] := by cases args; simp_all
  obtain ⟨rfl, rfl⟩ := trodVars_none hV
  obtain ⟨b, rfl, rfl, rfl, w1⟩ := open_string Try.underlying9 (hval 1 9 v1 rfl rfl) h1
  obtain ⟨a2, rfl, rfl, rfl, w2⟩ := open_int Try.underlying22 (hval 2 22 v2 rfl rfl) h2
  obtain ⟨a3, rfl, rfl, rfl, w3⟩ := open_int Try.underlying5 (hval 3 5 v3 rfl rfl) h3
  have k0 := h0
  have lt0 : ∀ x ∈ p0, x.block < W.heap.size := by obtain ⟨m, hm⟩ := k0; exact DataW.trod_lt m _ _ _ hm
  obtain ⟨S, hS, hd⟩ : ∃ S, IsSh W v0 S ∧ ∀ t ∈ S.N, ∀ x ∈ t.f1, 0 ≤ x ∧ x < 256 ^ 8 := by
    obtain ⟨cs, rfl, _⟩ := okWide_struct Try.underlying82 (hval 0 82 v0 rfl rfl)
    obtain ⟨fuel, hf⟩ := h0
    obtain ⟨S, v, rfl, _, hS, hd⟩ := opens82 hf
    refine ⟨S, ?_, hd⟩
    have e : (Value.agg cs).cells.toList.toArray = cs := by
      show cs.toList.toArray = cs
      simp
    rw [e] at hS
    exact hS
  clear hA0 hval0
  refine (law8_calls S hd b a2 a3 (bounds_u16 w2) (bounds_u8 w3) v0 W hS).mono fun e W' ⟨he, bel⟩ => ?_
  subst he
  exact ⟨_, rfl, _, _, _, [], _, [], hW', trodAll_mk1 (shut_bool Try.underlying4 _), (trodAll_cons_mk (Below.trod laidOut (by kernel_rfl) (of_decide_eq_true (by kernel_rfl)) k0 bel lt0) (trodAll_cons_mk (shut_string Try.underlying9 w1) (trodAll_cons_mk (shut_int Try.underlying22 w2) (trodAll_cons_mk (shut_int Try.underlying5 w3) trodAll_mk0)))), rfl, bel.frame _, fun h => by cases h⟩

theorem over : Rows.imageBackRow.holds Try.pinned (OpenSpec.ofChange Rows.imageBackSpec) :=
  OpenClaim.holds_of_wide 8 Try.f8 rfl rfl rfl rfl rfl rfl rfl ⟨rfl, rfl, rfl, rfl, rfl⟩ rfl rfl rfl rfl rfl (by kernel_rfl) Try.func8 (by kernel_rfl)
    (of_decide_eq_true (by kernel_rfl)) (by unfold Func.isWrapper; first | (rw [if_pos (by decide +kernel)]; kernel_rfl) | (rw [if_neg (by decide +kernel)]; exact ⟨rfl, rfl⟩))
    (fun os started H enc _ => lifted os started H enc)
end Go.Proofs.Ytgojfecpknonlaa.imageBack
namespace Go.Proofs.Ytgojfecpknonlaa
/-- The statement. -/
theorem imageBack_holds : Rows.ImageBackSaid := imageBack.over
#print axioms imageBack_holds
end Go.Proofs.Ytgojfecpknonlaa

