/- What is thrown is caught: function 104. -/
import Derived.Test.YtgojfecpknonlaaImY
import Derived.Defers
import Derived.Recover
namespace Go.Proofs.Ytgojfecpknonlaa.Im
open Go.RowKit Go.Proofs.YtgojfecpknonlaaW.PrintWords Go.Proofs.YtgojfecpknonlaaW.PrintLast Go.Proofs.YtgojfecpknonlaaW.PrintMore
open Go.Proofs.Ytgojfecpknonlaa.Own Go.Proofs.Ytgojfecpknonlaa.PIm Go.Proofs.Ytgojfecpknonlaa.Wv
set_option linter.unusedVariables false
set_option linter.unusedSimpArgs false

set_option maxHeartbeats 2000000 in
set_option maxRecDepth 100000 in
theorem catch_idle (g2 g3 : Nat) (w : World) :
    CallsD Try.prog 104 #[.pointer (some ⟨g2, 0, none⟩), .pointer (some ⟨g3, 0, none⟩)] .returning w fun e u' w' => e = .returned (.tuple #[]) ∧ u' = .returning ∧ Below w.heap.size w w' := by
  refine callsD_of_wpS Try.func104 rfl fun c₀ cs hu => ?_
  apply wpS_seq
  apply wpS_region
  simp [wpOpsS, go_sem, recoverD, hu, Try.ntmps104, Exit.thenS]
  refine wpS_of_wp ?_
  have hta : ∀ (w : World), (Instr.typeAssert .nilIface 20 162 true).run Try.prog w = .ok (.tuple #[.agg #[], .bool false]) w := fun _ => by kernel_rfl
  have hne : ∀ (w : World), (binOp .neq 20 .nilIface .nilIface).run Try.prog w = .ok (.bool false) w := fun _ => by kernel_rfl
  rw [show (#[Value.pointer (some ⟨g2, 0, none⟩), Value.pointer (some ⟨g3, 0, none⟩)] ++ (((Array.replicate 19 undef).setIfInBounds 3 Value.nilIface).setIfInBounds 0 Value.nilIface)) = #[Value.pointer (some ⟨g2, 0, none⟩), Value.pointer (some ⟨g3, 0, none⟩), .nilIface, undef, undef, .nilIface, undef, undef, undef, undef, undef, undef, undef, undef, undef, undef, undef, undef, undef, undef, undef] by kernel_rfl]
  go_wp2
  have hb : Below w.heap.size w (w.alloc (Obj.cells #[] 162)) := below_alloc (Below.refl _ _) _
  simp [bodyPostS, results, Try.results104, hb]
  cases c₀
  cases hu
  rfl
set_option maxHeartbeats 2000000 in
set_option maxRecDepth 100000 in
theorem catch_panicking (g2 g3 : Nat) (w : World) (vs : List Value) (b : Bool) (h2 : Holds w g2 89 vs) (hl : vs.length = 3) (h3 : Holds w g3 4 [.bool b]) :
    CallsD Try.prog 104 #[.pointer (some ⟨g2, 0, none⟩), .pointer (some ⟨g3, 0, none⟩)] (.panicking brkP) w fun e u' w' => e = .returned (.tuple #[]) ∧ u' = .panicking [{ v := brkV, recovered := true }] ∧ Kp (fun q => q = g2 ∨ q = g3) w w' ∧ Holds w' g2 89 z89 ∧ Holds w' g3 4 [.bool false] := by
  refine callsD_of_wpS Try.func104 rfl fun c₀ cs hu => ?_
  apply wpS_seq
  apply wpS_region
  simp [wpOpsS, go_sem, recoverD, hu, Try.ntmps104, Exit.thenS, brkP]
  refine wpS_of_wp ?_
  have hta : ∀ (w : World), (Instr.typeAssert (.iface 162 (.agg #[])) 20 162 true).run Try.prog w = .ok (.tuple #[.agg #[], .bool true]) w := fun _ => by kernel_rfl
  have hne : ∀ (w : World), (binOp .neq 20 (.iface 162 (.agg #[])) .nilIface).run Try.prog w = .ok (.bool true) w := fun _ => by kernel_rfl
  rw [show (#[Value.pointer (some ⟨g2, 0, none⟩), Value.pointer (some ⟨g3, 0, none⟩)] ++ (((Array.replicate 19 undef).setIfInBounds 3 brkV).setIfInBounds 0 brkV)) = #[Value.pointer (some ⟨g2, 0, none⟩), Value.pointer (some ⟨g3, 0, none⟩), .iface 162 (.agg #[]), undef, undef, .iface 162 (.agg #[]), undef, undef, undef, undef, undef, undef, undef, undef, undef, undef, undef, undef, undef, undef, undef] by kernel_rfl]
  go_upto_region 5 with (fail)
  have HB1 := Aside0.mk (show Below w.heap.size w (w.alloc (Obj.cells #[] 162)) from below_alloc (Below.refl _ _) _)
  generalize w.alloc (Obj.cells #[] 162) = W1 at HB1 ⊢
  have H2 := Aside0.mk (h2.below HB1.out)
  have H3 := Aside0.mk (h3.below HB1.out)
  have HNE : Aside0 (g3 ≠ g2) := ⟨fun e => by subst e; have := h3.symm.trans h2; injection this with this; injection this with _ this; cases this⟩
  have hl' : vs.length = 3 := hl
  clear h2 h3
  go_wp2_with (first
    | ((with_reducible refine gate_store (t := 89) (p := 0) rfl ?_); refine store_agg_event rfl (ty := 89) rfl rfl (g := g2) (off := 0) (vs := #[.slice none 0 0, .slice none 0 0, .slice none 0 0]) rfl rfl H2.out (by show 0 + 3 ≤ vs.length; omega) size89 (by simp [Value.oneCell']) ?_; intro w5 hh5 hs5; have HH5 := Aside0.mk hh5; have HS5 := Aside0.mk hs5; have H35 := Aside0.mk (hs5.holds H3.out HNE.out); have z3 := (H35.out.cell 0).trans rfl; have z4 := blk_frozen H35.out 0; clear hh5 hs5))
  have hk1 : Kp (fun q => q = g2 ∨ q = g3) w w5 := Kp.trans (S := fun q => q = g2 ∨ q = g3) (S' := fun q => q = g2) ⟨HB1.out.os, HB1.out.tape, HB1.out.output, HB1.out.size, fun k hk _ => HB1.out.block k hk⟩ ⟨HS5.out.os, HS5.out.tape, HS5.out.output, Nat.le_of_eq HS5.out.size.symm, fun k _ hk => HS5.out.block k hk⟩ (fun _ _ h => .inl h)
  have hk2 := hk1.trans (kp_setCell w5 g3 0 (.bool false)) (fun _ _ h => .inr h)
  have h5 : Holds w5 g2 89 z89 := by
    have h := HH5.out
    rw [show splice vs 0 [Value.slice none 0 0, Value.slice none 0 0, Value.slice none 0 0] = z89 by unfold splice; rw [List.drop_of_length_le (by simp; omega)]; rfl] at h
    exact h
  have h6 : Holds (w5.setCell ⟨g3, 0, none⟩ (.bool false)) g2 89 z89 := (kp_setCell w5 g3 0 (.bool false)).holds h5 (fun e => HNE.out e.symm)
  have h7 : Holds (w5.setCell ⟨g3, 0, none⟩ (.bool false)) g3 4 [.bool false] := holds_cells (vs := [.bool false]) H35.out (by show 0 + 1 ≤ 1; decide)
  simp [bodyPostS, results, Try.results104]
  exact ⟨hk2, h6, h7⟩
end Go.Proofs.Ytgojfecpknonlaa.Im

