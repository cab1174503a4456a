/- Variables of many cells (structs with arrays): what is made, loaded, stored; as events of a walk. -/
import Derived.Test.YtgojfecpknonlaaKit
import Derived.Deep.MidRow
import Derived.Laws.Tables
namespace Go.Proofs.Ytgojfecpknonlaa.Own
open Go.RowKit Go.Proofs.YtgojfecpknonlaaW.PrintWords Go.Proofs.YtgojfecpknonlaaW.PrintLast Go.Proofs.YtgojfecpknonlaaW.PrintMore

/-- Block g holds just these cells. -/
def Holds (W : World) (g t : Nat) (cs : List Value) : Prop := W.heap[g]? = some (.cells cs.toArray t (0, 0))

theorem Holds.lt {W : World} {g t : Nat} {cs : List Value} (h : Holds W g t cs) : g < W.heap.size := blk_lt h
theorem Holds.below {W W1 : World} {g t : Nat} {cs : List Value} (h : Holds W g t cs) (hb : Below W.heap.size W W1) : Holds W1 g t cs := blk_below h hb
theorem Holds.drewN {W : World} {g t : Nat} {cs : List Value} (h : Holds W g t cs) (n : Nat) : Holds (W.drewN n) g t cs := h
theorem Holds.cell {W : World} {g t : Nat} {cs : List Value} (h : Holds W g t cs) (i : Nat) : W.cell? ⟨g, i, none⟩ = cs[i]? := by
  rw [blk_cell h i]; simp
theorem Holds.far {W : World} {g t : Nat} {cs : List Value} (h : Holds W g t cs) {p : Addr} (hp : g ≠ p.block) (u : Value) : Holds (W.setCell p u) g t cs := blk_far h hp u

/-- Cells with some of them others. -/
def splice (cs : List Value) (o : Nat) (vs : List Value) : List Value := cs.take o ++ vs ++ cs.drop (o + vs.length)
/-- The world behind a store: one block has turned. -/
structure Stored (W W1 : World) (g : Nat) : Prop where
  os : W1.os = W.os
  tape : W1.tape = W.tape
  output : W1.output = W.output
  size : W1.heap.size = W.heap.size
  block : ∀ k, k ≠ g → W1.heap[k]? = W.heap[k]?
theorem Stored.grown {W W1 : World} {g : Nat} (h : Stored W W1 g) : W.grownBy W1 (some g) :=
  ⟨h.os, h.tape, h.output, Nat.le_of_eq h.size.symm, fun k _ hk => h.block k (fun e => hk (by rw [e]))⟩
theorem Stored.keep {W W1 : World} {g : Nat} (h : Stored W W1 g) : KeepBut W W1 g none := ⟨Nat.le_of_eq h.size.symm, fun k _ hk _ => h.block k hk⟩
theorem Stored.below {B : Nat} {w W W1 : World} {g : Nat} (h : Stored W W1 g) (hb : Below B w W) (hg : B ≤ g) : Below B w W1 :=
  hb.trans ⟨h.os, h.tape, h.output, Nat.le_of_eq h.size.symm, fun k hk => h.block k (by omega)⟩
theorem Stored.holds {W W1 : World} {g g' t : Nat} {cs : List Value} (h : Stored W W1 g) (hh : Holds W g' t cs) (hne : g' ≠ g) : Holds W1 g' t cs := (h.block g' hne).trans hh

theorem stored_cells (W : World) (g o : Nat) (vs : List Value) : Stored W (W.setCells g o vs) g := by
  obtain ⟨h1, h2, h3, h4⟩ := setCells_same g vs o W
  exact ⟨h1, h2, h3, h4, fun k hk => setCells_far vs o k hk⟩
theorem holds_cells {W : World} {g t o : Nat} {cs vs : List Value} (h : Holds W g t cs) (hl : o + vs.length ≤ cs.length) : Holds (W.setCells g o vs) g t (splice cs o vs) := by
  obtain ⟨cur', h1, h2, h3⟩ := setCells_row (e := t) vs o W cs.toArray h (by simpa using hl)
  unfold Holds
  rw [h1]
  congr 2
  apply Array.toList_inj.1
  rw [h3]
  simp [splice]

section
variable {P : Program} {ops : Array Oper} {rest : List Oper} {o : Oper} {a : Act} {Q : Exit → Act → World → Prop} {K : Act → World → Prop}
theorem run_load_agg {W : World} {g off t ty : Nat} {cs seg : List Value} {d : TypeDesc} (hg : Holds W g t cs) (hseg : (cs.drop off).take seg.length = seg)
    (hu : P.underlying ty = some d) (hd : d.isRow = true) (hi : (P.info? ty).map (·.size) = some seg.length) :
    (Instr.loadAt ty (.pointer (some ⟨g, off, none⟩))).run P W = .ok (.agg seg.toArray) W := by
  have h := run_loadVar_mid (P := P) W g off ty seg d (fun j v hv => by
    rw [hg.cell]
    rw [← hseg] at hv
    rw [List.getElem?_take] at hv
    split at hv
    · rw [List.getElem?_drop] at hv
      exact hv
    · cases hv) hu hd hi
  simp only [Instr.loadAt, Instr.sureAddr, Sem.run_bind, Sem.run_pure, Result.andThen_ok, h]
theorem run_store_agg {W : World} {g off t ty : Nat} {cs : List Value} {vs : Array Value} (hg : Holds W g t cs) (hl : off + vs.size ≤ cs.length)
    (hi : (P.info? ty).map (·.size) = some vs.size) (h1 : vs.all (·.oneCell') = true) :
    (Instr.storeAt ty (.pointer (some ⟨g, off, none⟩)) (.agg vs)).run P W = .ok () (W.setCells g off vs.toList) := by
  refine run_storeAt_mid (P := P) W g off ty vs (fun j hj => ⟨?_, ?_⟩) hi h1
  · rw [hg.cell, List.getElem?_eq_getElem (by omega)]; rfl
  · exact blk_frozen hg _

theorem load_event {W : World} (hgd : o.guard = none) {ty : TypeId} {x : Operand} (ho : o.op = .load ty x) {g off t : Nat} {cs seg : List Value} {d : TypeDesc} (hx : a.eval x = .pointer (some ⟨g, off, none⟩)) (hg : Holds W g t cs)
    (hseg : (cs.drop off).take seg.length = seg) (hu : P.underlying ty = some d) (hd : d.isRow = true) (hi : (P.info? ty).map (·.size) = some seg.length)
    (h : wpList P ops Q rest (a.put o.dst (.agg seg.toArray)) W) : wpList P ops Q (o :: rest) a W := by
  refine Kd.event_run hgd ?_ h
  unfold execOp
  simp only [ho, hx, run_load_agg hg hseg hu hd hi, Sem.run_bind, Sem.run_pure, Result.andThen_ok]
theorem store_agg_event {W : World} (hgd : o.guard = none) {ty : TypeId} {x y : Operand} (ho : o.op = .store ty x y) (hN : o.dst = none) {g off t : Nat} {cs : List Value} {vs : Array Value} (hx : a.eval x = .pointer (some ⟨g, off, none⟩)) (hy : a.eval y = .agg vs) (hg : Holds W g t cs)
    (hl : off + vs.size ≤ cs.length) (hi : (P.info? ty).map (·.size) = some vs.size) (h1 : vs.all (·.oneCell') = true)
    (h : ∀ w1, Holds w1 g t (splice cs off vs.toList) → Stored W w1 g → wpList P ops Q rest a w1) : wpList P ops Q (o :: rest) a W := by
  refine wpList_plain hgd fun K hK => ?_
  unfold Oper.wp execOp
  simp only [ho, hx, hy, run_store_agg hg hl hi h1, Sem.run_bind, Sem.run_pure, Result.andThen_ok]
  show K (a.put o.dst undef) _
  rw [hN]
  exact hK _ _ (h _ (holds_cells hg (by simpa using hl)) (stored_cells _ _ _ _))
theorem store_skip {W : World} {ty : TypeId} {x y : Operand} (ho : o.op = .store ty x y) {g off t : Nat} {cs : List Value} {vs : Array Value} (hx : a.eval x = .pointer (some ⟨g, off, none⟩)) (hy : a.eval y = .agg vs) (hg : Holds W g t cs)
    (hl : off + vs.size ≤ cs.length) (hi : (P.info? ty).map (·.size) = some vs.size) (h1 : vs.all (·.oneCell') = true) : (execOp a.eval o).run P W = .ok .skip (W.setCells g off vs.toList) := by
  unfold execOp
  simp only [ho, hx, hy, run_store_agg hg hl hi h1, Sem.run_bind, Sem.run_pure, Result.andThen_ok]
end
end Go.Proofs.Ytgojfecpknonlaa.Own

