/- The order of events by their points: the comparison, and single steps of a sort in place. -/
import Derived.Test.YtgojfecpknonlaaEvD
import Derived.Test.YtgojfecpknonlaaPStx13
namespace Go.Proofs.Ytgojfecpknonlaa.Ev
open Go.RowKit Go.Proofs.YtgojfecpknonlaaW.PrintWords Go.Proofs.YtgojfecpknonlaaW.PrintLast Go.Proofs.YtgojfecpknonlaaW.PrintMore
open Go.Proofs.Ytgojfecpknonlaa.Own Go.Proofs.Ytgojfecpknonlaa.PSt
set_option linter.unusedVariables false
set_option linter.unusedSimpArgs false

def cmpI (x y : S72) : Int := if x.f4 < y.f4 then -1 else if x.f4 > y.f4 then 1 else 0
theorem cmp_is (a b : Int) : cmp_Compare_int.f a b = some (if a < b then -1 else if a > b then 1 else 0) := by
  unfold cmp_Compare_int.f cmp_isNaN_int.f
  simp only [Option.bind_some, bne_self_eq_false, Bool.false_eq_true, if_false]
  by_cases h1 : a < b
  · rw [if_pos h1, if_pos h1]
  · rw [if_neg h1, if_neg h1]
    by_cases h2 : a > b
    · rw [if_pos h2, if_pos h2]
    · rw [if_neg h2, if_neg h2]
theorem cmpI_lt (x y : S72) : decide (cmpI x y < 0) = decide (x.f4 < y.f4) := by
  unfold cmpI
  split
  · rename_i h; rw [decide_eq_true h]; rfl
  · rename_i h; rw [decide_eq_false h]; split <;> rfl

set_option maxHeartbeats 2000000 in
set_option maxRecDepth 100000 in
theorem less_calls (x y : S72) (w : World) :
    Calls Try.prog 92 #[ev x, ev y] w fun e w' => e = .returned (.int .i64 (cmpI x y)) ∧ Below w.heap.size w w' := by
  have HB := Aside0.mk (below_alloc (below_alloc (Below.refl w.heap.size w) (Obj.cells #[.int .u8 x.f0, .int .u8 x.f1.f0, .int .u8 x.f1.f1, .int .u8 x.f1.f2, .int .u8 x.f1.f3, .int .i64 x.f2.f0, .int .i64 x.f2.f1, .int .u64 x.f2.f2, .int .i64 x.f3, .int .i64 x.f4, .int .i64 x.f5] 72)) (Obj.cells #[.int .u8 y.f0, .int .u8 y.f1.f0, .int .u8 y.f1.f1, .int .u8 y.f1.f2, .int .u8 y.f1.f3, .int .i64 y.f2.f0, .int .i64 y.f2.f1, .int .u64 y.f2.f2, .int .i64 y.f3, .int .i64 y.f4, .int .i64 y.f5] 72))
  have HK := Aside0.mk (show cmp_Compare_int.f x.f4 y.f4 = some (cmpI x y) from cmp_is x.f4 y.f4)
  generalize cmpI x y = r at *
  go_enter Try.func92, Try.ntmps92
  go_wp2_with (go_at_call 93; refine (cmp_Compare_int.calls x.f4 y.f4 _ _ HK.out).mono ?_; rintro e w2 ⟨rfl, ⟨nd, rfl⟩⟩)
  go_ret
  exact ⟨rfl, pw_below_drewN HB.out nd⟩

/-- Single steps. -/
theorem idx_exec {o : Oper} {a : Act} {W : World} {x y : Operand} {g n c k : Nat} (ho : o.op = .indexAddr 51 x y) (hx : a.eval x = .slice (some ⟨g, 0, none⟩) n c) (hy : a.eval y = .int .i64 (k : Int)) (hk : k < n) : (execOp a.eval o).run Try.prog W = .ok (.value (.pointer (some ⟨g, k * 11, none⟩))) W := by
  unfold execOp
  have h1 : (0 : Int) ≤ (k : Int) := by omega
  have h2 : (k : Int) < (n : Int) := by omega
  simp only [ho, hx, hy]
  go_simp
theorem sub_exec {o : Oper} {a : Act} {W : World} {x y : Operand} {p q r : Int} (ho : o.op = .binOp .sub 3 x y 3) (hx : a.eval x = .int .i64 p) (hy : a.eval y = .int .i64 q) (hr : wrap64 (p - q) = r) : (execOp a.eval o).run Try.prog W = .ok (.value (.int .i64 r)) W := by
  unfold execOp
  subst hr
  simp only [ho, hx, hy]
  go_simp
  rw [i64_w]
theorem add_exec {o : Oper} {a : Act} {W : World} {x y : Operand} {p q r : Int} (ho : o.op = .binOp .add 3 x y 3) (hx : a.eval x = .int .i64 p) (hy : a.eval y = .int .i64 q) (hr : wrap64 (p + q) = r) : (execOp a.eval o).run Try.prog W = .ok (.value (.int .i64 r)) W := by
  unfold execOp
  subst hr
  simp only [ho, hx, hy]
  go_simp
  rw [i64_w]
section
variable {P : Program} {ops : Array Oper} {Q : Exit → Act → World → Prop}
/-- A call of a function value that lies in a slot. -/
theorem goes_tmp {oi : Oper} {N : Option Tmp} {a : Act} {w : World} {K : Act → World → Prop} {f : FuncId} {fn : Func} {t : Tmp} {xs : Array Operand} {ts : Array TypeId} (hf : P.funcs[f]? = some fn) (hname : (fn.name == "runtime.NumGoroutine") = false) (hb : fn.body.isSome = true) (args : Array Value)
    (hw : Region.wanted oi (yielded ops a.tmps) = true) (hN : oi.dst = N) (hop : oi.op = .call { callee := .value (.tmp t), args := xs, argTypes := ts }) (ht : a.eval (.tmp t) = .func (.func f) #[] #[]) (hargs : xs.map a.eval = args)
    (h : Calls P f args w fun e w' => ∃ v, e = .returned v ∧ K (a.put N v) w') : if Region.wanted oi (yielded ops a.tmps) = true then Oper.wp P oi a w K Q else K (a.put N undef) w := by
  refine call_ f args hw hN ?_ h
  have he := enters_ hf hname hb args w
  unfold execOp
  simp [hop, resolve, Deferred.ofValue, invoke, ht, hargs, he]
end
end Go.Proofs.Ytgojfecpknonlaa.Ev

