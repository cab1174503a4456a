/- At every input the law EventsTell answers true, and its arguments read as they did; no condition. -/
import Derived.Test.YtgojfecpknonlaaRows
import Derived.Test.YtgojfecpknonlaaEvX
import Derived.Test.YtgojfecpknonlaaStO
import Derived.Lib.SmallJoins
import Derived.WalkKit
import Derived.ProofKit
import Derived.OpenShut
import Derived.ChangeMaps5
namespace Go.Proofs.Ytgojfecpknonlaa.eventsTell
open Go.ChangeMaps Go.ChangeShapes Go.WideShapes Go.ChangeAt Go.RowKit
open Go.Proofs.YtgojfecpknonlaaW.PrintWords Go.Proofs.YtgojfecpknonlaaW.PrintLast Go.Proofs.YtgojfecpknonlaaW.PrintMore Go.Proofs.Ytgojfecpknonlaa.Own Go.Proofs.Ytgojfecpknonlaa.PSt Go.Proofs.Ytgojfecpknonlaa.Ev Go.Proofs.Ytgojfecpknonlaa.St
set_option linter.unusedVariables false
set_option linter.unusedSimpArgs false

theorem tell_long (A : Option Addr) (c n : Nat) (b : ByteArray) (w : World) (hn : 60 < n) (hl : n ≤ 9223372036854775807) :
    Calls Try.prog 9 #[.slice A n c, .string b] w (fun e w' => e = .returned (.bool true) ∧ Below w.heap.size w w') := by
  have c0 : decide ((60 : Int) < (n : Int)) = true := decide_eq_true (by omega)
  have c00 : decide (60 < n) = true := decide_eq_true hn
  go_enter Try.func9, Try.ntmps9
  go_wp2_with (go_at_call 42; refine (wakes_calls _).mono ?_; rintro e w2 ⟨rfl, hb2⟩)
  go_ret
  exact ⟨rfl, hb2⟩
theorem tell_large (A : Option Addr) (c n : Nat) (b : ByteArray) (w : World) (hn : n ≤ 60) (hl : 2000 < b.size) :
    Calls Try.prog 9 #[.slice A n c, .string b] w (fun e w' => e = .returned (.bool true) ∧ Below w.heap.size w w') := by
  have c0 : decide ((60 : Int) < (n : Int)) = false := decide_eq_false (by omega)
  have c00 : decide (60 < n) = false := decide_eq_false (by omega)
  have c1 : decide ((2000 : Int) < (b.size : Int)) = true := decide_eq_true (by omega)
  have c11 : decide (2000 < b.size) = true := decide_eq_true hl
  go_enter Try.func9, Try.ntmps9
  go_wp2_with (go_at_call 42; refine (wakes_calls _).mono ?_; rintro e w2 ⟨rfl, hb2⟩)
  go_ret
  exact ⟨rfl, hb2⟩
theorem tell_walk (l : List S58) (hwf : ∀ d ∈ l, Wf d) (A : Option Addr) (c : Nat) (b : ByteArray) (w : World) (hr : Kd.C k58 w A l.length l) (hc : l.length ≤ c) :
    Calls Try.prog 9 #[.slice A l.length c, .string b] w (fun e w' => e = .returned (.bool true) ∧ Below w.heap.size w w') := by
  rcases Nat.lt_or_ge 60 l.length with h | h
  · exact tell_long A c l.length b w h (Kd.C_max hr)
  · rcases Nat.lt_or_ge 2000 b.size with k | k
    · exact tell_large A c l.length b w h k
    · exact tell_calls l hwf A c b w hr hc h k
theorem own : ownKnob Try.prog.godebug = none := by kernel_rfl
theorem laidOut : laidOutB Try.prog = true := by kernel_rfl

set_option maxRecDepth 100000 in
theorem lifted (os : Os) (started : os.Started) (H : Type) (enc : TypeId × Value → H) :
    ReturnsInHanded {} Try.checked os 9 .any (Rows.eventsTellSpec.pre6 enc Try.prog Try.f9 Rows.eventsTellRow.domain false) (Rows.eventsTellSpec.post enc Try.prog Try.f9 false true false false) := by
  refine returnsInHanded_of_change (C := Try.checked) own started (by kernel_rfl) Try.func9
    (ChangeSpec.witness6 (enc := enc) (C := Try.checked) false ⟨#[], #[.slice none 0 0, .string ⟨#[]⟩], []⟩ 8 (by kernel_rfl) (by kernel_rfl) (by kernel_rfl) (by kernel_rfl)) ?_
  intro W base args ds gs before hval0 hW hcnd _
  have hval : ∀ (j : Nat) t v, Try.f9.params[j]? = some t → args[j]? = some v → Value.okWide Try.prog W .any base t v := hval0
  have hW' := hW
  obtain ⟨p, q, hA0, hV, rfl, hfz, hnd⟩ := hW
  have hA : DataW.TrodAll enc Try.prog W 0 (fun _ => true) true Try.f9.params.toList args.toList ds p := hA0
  rw [Try.params9] at hA hval
  obtain ⟨v0, vs0, d0, ds0, p0, q0, hargs, rfl, rfl, h0, r0⟩ := trodAll_cons hA
  obtain ⟨v1, vs1, d1, ds1, p1, q1, rfl, rfl, rfl, h1, r1⟩ := trodAll_cons r0
  obtain ⟨rfl, rfl, rfl⟩ := trodAll_nil r1
  obtain rfl : args = #[v0, v1] := by cases args; simp_all
  obtain ⟨rfl, rfl⟩ := trodVars_none hV
  obtain ⟨b, rfl, rfl, rfl, w1⟩ := open_string Try.underlying9 (hval 1 9 v1 rfl rfl) h1
  have k0 := h0
  have lt0 : ∀ x ∈ p0, x.block < W.heap.size := by obtain ⟨m, hm⟩ := k0; exact DataW.trod_lt m _ _ _ hm
  obtain ⟨l, A0, c0, rfl, hc0, hC, hwf⟩ : ∃ (l : List S58) (A0 : Option Addr) (c0 : Nat), v0 = .slice A0 l.length c0 ∧ l.length ≤ c0 ∧ Kd.C k58 W A0 l.length l ∧ ∀ d ∈ l, Wf d := by
    obtain ⟨a, len, cap, rfl⟩ := okWide_slice Try.underlying41 (hval 0 41 v0 rfl rfl)
    obtain ⟨fuel, hf⟩ := h0
    obtain ⟨l, ⟨A0, c0, e0, hc0, hG⟩, hok⟩ := opens_slice Try.underlying41 (by kernel_rfl) opens58 hf
    refine ⟨l, A0, c0, ?_, hc0, hG, hok⟩
    have e1 : [Value.slice a len cap] = [.slice A0 l.length c0] := e0
    simpa using e1
  clear hA0 hval0
  refine (tell_walk l hwf A0 c0 b W hC hc0).mono fun e W' ⟨he, bel⟩ => ?_
  subst he
  exact ⟨_, rfl, _, _, _, [], _, [], hW', trodAll_mk1 (shut_bool Try.underlying4 _), (trodAll_cons_mk (Below.trod laidOut (by kernel_rfl) (of_decide_eq_true (by kernel_rfl)) k0 bel lt0) (trodAll_cons_mk (shut_string Try.underlying9 w1) trodAll_mk0)), rfl, bel.frame _, fun h => by cases h⟩

theorem over : Rows.eventsTellRow.holds Try.pinned (OpenSpec.ofChange Rows.eventsTellSpec) :=
  OpenClaim.holds_of_wide 9 Try.f9 rfl rfl rfl rfl rfl rfl rfl ⟨rfl, rfl, rfl, rfl, rfl⟩ rfl rfl rfl rfl rfl (by kernel_rfl) Try.func9 (by kernel_rfl)
    (of_decide_eq_true (by kernel_rfl)) (by unfold Func.isWrapper; first | (rw [if_pos (by decide +kernel)]; kernel_rfl) | (rw [if_neg (by decide +kernel)]; exact ⟨rfl, rfl⟩))
    (fun os started H enc _ => lifted os started H enc)
end Go.Proofs.Ytgojfecpknonlaa.eventsTell
namespace Go.Proofs.Ytgojfecpknonlaa
/-- The statement. -/
theorem eventsTell_holds : Rows.EventsTellSaid := eventsTell.over
#print axioms eventsTell_holds
end Go.Proofs.Ytgojfecpknonlaa

