/- One operation's run: loads, addresses, builds of the shapes' types. -/
import Derived.Test.YtgojfecpknonlaaImE
namespace Go.Proofs.Ytgojfecpknonlaa.Im
open Go.RowKit Go.Proofs.YtgojfecpknonlaaW.PrintWords Go.Proofs.YtgojfecpknonlaaW.PrintLast Go.Proofs.YtgojfecpknonlaaW.PrintMore
open Go.Proofs.Ytgojfecpknonlaa.Own Go.Proofs.Ytgojfecpknonlaa.PIm Go.Proofs.Ytgojfecpknonlaa.Wv
set_option linter.unusedVariables false
set_option linter.unusedSimpArgs false

section
variable {o : Oper} {a : Act} {W : World}
theorem move_exec {x : Operand} {v : Value} (ho : o.op = .move x) (hx : a.eval x = v) : (execOp a.eval o).run Try.prog W = .ok (.value v) W := by
  unfold execOp
  simp only [ho, hx]
  go_simp
theorem assign_exec {x : Operand} {v : Value} (ho : o.op = .assign x) (hx : a.eval x = v) : (execOp a.eval o).run Try.prog W = .ok (.value v) W := by
  unfold execOp
  simp only [ho, hx]
  go_simp
theorem load26_exec {x : Operand} {p : Addr} {v : Value} (ho : o.op = .load 26 x) (hx : a.eval x = .pointer (some p)) (hc : W.cell? p = some v) : (execOp a.eval o).run Try.prog W = .ok (.value v) W := by
  unfold execOp
  simp only [ho, hx]
  go_simp
theorem load86_exec {x : Operand} {p : Addr} {v : Value} (ho : o.op = .load 86 x) (hx : a.eval x = .pointer (some p)) (hc : W.cell? p = some v) : (execOp a.eval o).run Try.prog W = .ok (.value v) W := by
  unfold execOp
  simp only [ho, hx]
  go_simp
theorem load87_exec {x : Operand} {p : Addr} {v : Value} (ho : o.op = .load 87 x) (hx : a.eval x = .pointer (some p)) (hc : W.cell? p = some v) : (execOp a.eval o).run Try.prog W = .ok (.value v) W := by
  unfold execOp
  simp only [ho, hx]
  go_simp
theorem load125_exec {x : Operand} {p : Addr} {v : Value} (ho : o.op = .load 125 x) (hx : a.eval x = .pointer (some p)) (hc : W.cell? p = some v) : (execOp a.eval o).run Try.prog W = .ok (.value v) W := by
  unfold execOp
  simp only [ho, hx]
  go_simp
theorem load5_exec {x : Operand} {p : Addr} {v : Value} (ho : o.op = .load 5 x) (hx : a.eval x = .pointer (some p)) (hc : W.cell? p = some v) : (execOp a.eval o).run Try.prog W = .ok (.value v) W := by
  unfold execOp
  simp only [ho, hx]
  go_simp
theorem load156_exec {x : Operand} {p : Addr} {v : Value} (ho : o.op = .load 156 x) (hx : a.eval x = .pointer (some p)) (hc : W.cell? p = some v) : (execOp a.eval o).run Try.prog W = .ok (.value v) W := by
  unfold execOp
  simp only [ho, hx]
  go_simp
theorem load164_exec {x : Operand} {p : Addr} {v : Value} (ho : o.op = .load 164 x) (hx : a.eval x = .pointer (some p)) (hc : W.cell? p = some v) : (execOp a.eval o).run Try.prog W = .ok (.value v) W := by
  unfold execOp
  simp only [ho, hx]
  go_simp
theorem fa89_exec {x : Operand} {g i : Nat} (hi : i < 3) (ho : o.op = .fieldAddr 89 x i) (hx : a.eval x = .pointer (some ⟨g, 0, none⟩)) : (execOp a.eval o).run Try.prog W = .ok (.value (.pointer (some ⟨g, i, none⟩))) W := by
  have hu := Try.underlying89
  match i, hi with
  | 0, _ | 1, _ | 2, _ =>
    unfold execOp
    simp only [ho, hx]
    go_simp
theorem fa128_exec {x : Operand} {g i : Nat} (hi : i < 2) (ho : o.op = .fieldAddr 128 x i) (hx : a.eval x = .pointer (some ⟨g, 0, none⟩)) : (execOp a.eval o).run Try.prog W = .ok (.value (.pointer (some ⟨g, i, none⟩))) W := by
  have hu := Try.underlying128
  match i, hi with
  | 0, _ | 1, _ =>
    unfold execOp
    simp only [ho, hx]
    go_simp
theorem fa131_exec {x : Operand} {g i : Nat} (hi : i < 2) (ho : o.op = .fieldAddr 131 x i) (hx : a.eval x = .pointer (some ⟨g, 0, none⟩)) : (execOp a.eval o).run Try.prog W = .ok (.value (.pointer (some ⟨g, i, none⟩))) W := by
  have hu := Try.underlying131
  match i, hi with
  | 0, _ | 1, _ =>
    unfold execOp
    simp only [ho, hx]
    go_simp
theorem build128_exec {x y : Operand} {A0 A1 : Option Addr} {n0 c0 n1 c1 : Nat} (ho : o.op = .build 128 #[(0, x), (1, y)]) (hx : a.eval x = .slice A0 n0 c0) (hy : a.eval y = .slice A1 n1 c1) : (execOp a.eval o).run Try.prog W = .ok (.value (.agg #[.slice A0 n0 c0, .slice A1 n1 c1])) W := by
  have hu := Try.underlying128
  generalize a.eval = E at hx hy ⊢
  unfold execOp
  simp only [ho]
  go_simp
theorem lit86_exec {x : Operand} {A0 A1 : Option Addr} {n0 c0 n1 c1 : Nat} (ho : o.op = .buildSlice 86 1 #[(0, x)]) (hx : a.eval x = .agg #[.slice A0 n0 c0, .slice A1 n1 c1]) :
    (execOp a.eval o).run Try.prog W = .ok (.value (.slice (some ⟨W.heap.size, 0, none⟩) 1 1)) (W.alloc (.cells #[.slice A0 n0 c0, .slice A1 n1 c1] 128)) := by
  generalize a.eval = E at hx ⊢
  unfold execOp
  simp only [ho]
  go_simp
theorem info128r : (Try.prog.info? 128).map (fun i => (i.zero, i.size, i.bytes)) = some (some (.agg #[.slice none 0 0, .slice none 0 0]), kraw.sz, 48) := by kernel_rfl
theorem build131_exec {x y : Operand} {A0 A1 : Option Addr} {n0 c0 n1 c1 : Nat} (ho : o.op = .build 131 #[(0, x), (1, y)]) (hx : a.eval x = .slice A0 n0 c0) (hy : a.eval y = .slice A1 n1 c1) : (execOp a.eval o).run Try.prog W = .ok (.value (.agg #[.slice A0 n0 c0, .slice A1 n1 c1])) W := by
  have hu := Try.underlying131
  generalize a.eval = E at hx hy ⊢
  unfold execOp
  simp only [ho]
  go_simp
theorem lit87_exec {x : Operand} {A0 A1 : Option Addr} {n0 c0 n1 c1 : Nat} (ho : o.op = .buildSlice 87 1 #[(0, x)]) (hx : a.eval x = .agg #[.slice A0 n0 c0, .slice A1 n1 c1]) :
    (execOp a.eval o).run Try.prog W = .ok (.value (.slice (some ⟨W.heap.size, 0, none⟩) 1 1)) (W.alloc (.cells #[.slice A0 n0 c0, .slice A1 n1 c1] 131)) := by
  generalize a.eval = E at hx ⊢
  unfold execOp
  simp only [ho]
  go_simp
theorem info131r : (Try.prog.info? 131).map (fun i => (i.zero, i.size, i.bytes)) = some (some (.agg #[.slice none 0 0, .slice none 0 0]), kraw.sz, 48) := by kernel_rfl
theorem build89_exec {x y : Operand} {A0 A1 : Option Addr} {n0 c0 n1 c1 : Nat} (ho : o.op = .build 89 #[(1, x), (2, y)]) (hx : a.eval x = .slice A0 n0 c0) (hy : a.eval y = .slice A1 n1 c1) : (execOp a.eval o).run Try.prog W = .ok (.value (.agg #[.slice none 0 0, .slice A0 n0 c0, .slice A1 n1 c1])) W := by
  have hu := Try.underlying89
  generalize a.eval = E at hx hy ⊢
  unfold execOp
  simp only [ho]
  go_simp
def z89 : List Value := [.slice none 0 0, .slice none 0 0, .slice none 0 0]
theorem alloc89_exec (ho : o.op = .alloc 89) : (execOp a.eval o).run Try.prog W = .ok (.value (.pointer (some ⟨W.heap.size, 0, none⟩))) (W.alloc (.cells z89.toArray 89)) := by
  unfold execOp
  simp only [ho]
  go_simp
  rfl
theorem size89 : (Try.prog.info? 89).map (·.size) = some 3 := by kernel_rfl
theorem size128 : (Try.prog.info? 128).map (·.size) = some 2 := by kernel_rfl
theorem size131 : (Try.prog.info? 131).map (·.size) = some 2 := by kernel_rfl
end
end Go.Proofs.Ytgojfecpknonlaa.Im

