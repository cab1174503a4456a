/- Bytes put one after the other: function 66. -/
import Derived.Test.YtgojfecpknonlaaImR
import Derived.Laws.Bits64b
namespace Go.Proofs.Ytgojfecpknonlaa.Im
open Go.RowKit Go.Proofs.YtgojfecpknonlaaW.PrintWords Go.Proofs.YtgojfecpknonlaaW.PrintLast Go.Proofs.YtgojfecpknonlaaW.PrintMore
open Go.Proofs.Ytgojfecpknonlaa.Own Go.Proofs.Ytgojfecpknonlaa.PIm Go.Proofs.Ytgojfecpknonlaa.Wv
set_option linter.unusedVariables false
set_option linter.unusedSimpArgs false

/-- A number's bytes, the greatest first. -/
def be : Nat → Int → List Int
  | 0, _ => []
  | n + 1, v => be n (v / 256) ++ [v % 256]
def pd : Nat → Int → List Int
  | 0, _ => []
  | n + 1, v => (v / 256 ^ n % 256) :: pd n v
theorem pd_last : ∀ (n : Nat) (v : Int), pd (n + 1) v = pd n (v / 256) ++ [v % 256]
  | 0, v => by simp [pd]
  | n + 1, v => by
    have h := pd_last n v
    have e : v / 256 / 256 ^ n = v / 256 ^ (n + 1) := by rw [Int.ediv_ediv_of_nonneg (by decide), Int.pow_succ, Int.mul_comm]
    rw [show pd (n + 2) v = (v / 256 ^ (n + 1) % 256) :: pd (n + 1) v from rfl, h, show pd (n + 1) (v / 256) = (v / 256 / 256 ^ n % 256) :: pd n (v / 256) from rfl, e]
    rfl
theorem be_pd : ∀ (n : Nat) (v : Int), be n v = pd n v
  | 0, v => rfl
  | n + 1, v => by rw [pd_last, ← be_pd n]; rfl
theorem be_length : ∀ (n : Nat) (v : Int), (be n v).length = n
  | 0, v => rfl
  | n + 1, v => by simp [be, be_length n]
theorem shr_byte (v : Int) (n : Nat) (h : n ≤ 7) : shr .u64 v (8 * (n : Int)) = v / 256 ^ n := by
  unfold shr
  rw [show (8 * (n : Int)).toNat = 8 * n by omega, Nat.min_eq_left (show 8 * n ≤ IntKind.u64.bits by show 8 * n ≤ 64; omega), Int.pow_mul]
  rfl
theorem reps1i {k : IntKind} {w : World} {x : Int} : Reps ((Kd.int k).K w) (Kd.int k).sz [x] [.int k x] := by
  refine ⟨rfl, fun j q hq => ?_⟩
  cases j with
  | zero =>
    obtain rfl : x = q := by simpa using hq
    rfl
  | succ j => simp at hq
theorem info5c : (Try.prog.info? 5).map (fun i => (i.zero, i.size, i.bytes)) = some (some (.int .u8 0), (Kd.int .u8).sz, 1) := by kernel_rfl
section
variable {o : Oper} {a : Act} {W : World}
theorem load94_exec {x : Operand} {p : Addr} {v : Value} (ho : o.op = .load 94 x) (hx : a.eval x = .pointer (some p)) (hc : W.cell? p = some v) : (execOp a.eval o).run Try.prog W = .ok (.value v) W := by
  unfold execOp
  simp only [ho, hx]
  go_simp
theorem mul8_exec {x : Operand} {i : Nat} (hi : i < 1000000) (ho : o.op = .binOp .mul 3 (.const (.int .i64 8)) x 3) (hx : a.eval x = .int .i64 (i : Int)) : (execOp a.eval o).run Try.prog W = .ok (.value (.int .i64 (8 * (i : Int)))) W := by
  have h1 : wrap64 (8 * (i : Int)) = 8 * (i : Int) := wrap_in (by omega) (by omega)
  generalize hE : a.eval = E at hx ⊢
  have hc : E (.const (.int .i64 8)) = .int .i64 8 := by rw [← hE]; rfl
  unfold execOp
  simp only [ho, hx, hc]
  go_simp
  first | done | (rw [i64_w]; exact h1) | exact h1
theorem shr_exec {x y : Operand} {v : Int} {i : Nat} (hi : i ≤ 7) (ho : o.op = .binOp .shr 56 x y 3) (hx : a.eval x = .int .u64 v) (hy : a.eval y = .int .i64 (8 * (i : Int))) : (execOp a.eval o).run Try.prog W = .ok (.value (.int .u64 (v / 256 ^ i))) W := by
  have h1 : (0 : Int) ≤ 8 * (i : Int) := by omega
  have h2 := shr_byte v i hi
  generalize hE : a.eval = E at hx hy ⊢
  unfold execOp
  simp only [ho, hx, hy]
  go_simp
  rw [show (8 * (i : Int)).toNat = 8 * i by omega, Int.pow_mul]
  rfl
theorem conv5_exec {x : Operand} {v : Int} (ho : o.op = .convert 56 5 x) (hx : a.eval x = .int .u64 v) : (execOp a.eval o).run Try.prog W = .ok (.value (.int .u8 (v % 256))) W := by
  generalize hE : a.eval = E at hx ⊢
  unfold execOp
  simp only [ho, hx]
  go_simp
  rw [IntKind.wrap_u8]
theorem lit94_exec {x : Operand} {v : Int} (ho : o.op = .buildSlice 94 1 #[(0, x)]) (hx : a.eval x = .int .u8 v) :
    (execOp a.eval o).run Try.prog W = .ok (.value (.slice (some ⟨W.heap.size, 0, none⟩) 1 1)) (W.alloc (.cells #[.int .u8 v] 5)) := by
  generalize hE : a.eval = E at hx ⊢
  unfold execOp
  simp only [ho, hx]
  go_simp
end
/-- A row of bytes that is the call's own, or a constant's own (marked behind its end, and full). -/
def BR (w : World) (B : Nat) (vb : Value) (xs : List Int) : Prop := Kd.R (Kd.int .u8) 5 w B (fun _ => True) vb xs ∨ ∃ g fr, vb = .slice (some ⟨g, 0, none⟩) xs.length xs.length ∧ B ≤ g ∧ 0 < xs.length ∧ xs.length ≤ 1000000 ∧ w.heap[g]? = some (.cells (xs.map (Value.int .u8)).toArray 5 fr)
section
variable {B : Nat} {w w1 : World} {xs : List Int} {vb : Value}
theorem BR.typed (h : BR w B vb xs) : ∀ k, vb.ownBlock = some k → ∃ cells fr, w.heap[k]? = some (.cells cells 5 fr) := by
  intro k hk
  rcases h with h | ⟨g, fr, rfl, _, _, _, hg⟩
  · obtain ⟨inner, hw⟩ := Kd.R_own h
    obtain ⟨cells, hc⟩ := own_typed hw k hk
    exact ⟨cells, _, hc⟩
  · obtain rfl : g = k := by simpa [Value.ownBlock] using hk
    exact ⟨_, _, hg⟩
theorem BR.lt (h : BR w B vb xs) : ∀ k, vb.ownBlock = some k → k < w.heap.size := fun k hk => by
  obtain ⟨_, _, hc⟩ := h.typed k hk
  exact (Array.getElem?_eq_some_iff.1 hc).1
theorem BR.base (h : BR w B vb xs) : ∀ k, vb.ownBlock = some k → B ≤ k := fun k hk => by
  rcases h with h | ⟨g, fr, rfl, hb, _, _, hg⟩
  · exact Kd.R_base h k hk
  · obtain rfl : g = k := by simpa [Value.ownBlock] using hk
    exact hb
theorem BR.ne (h : BR w B vb xs) {g t : Nat} {cs : List Value} (hh : Holds w g t cs) (ht : 5 ≠ t) : some g ≠ vb.ownBlock := fun e => by
  obtain ⟨_, _, hc⟩ := h.typed g e.symm
  rw [show w.heap[g]? = _ from hh] at hc
  injection hc with hc
  injection hc with _ hc
  exact ht hc.symm
theorem BR.below (h : BR w B vb xs) (hb : Below w.heap.size w w1) : BR w1 B vb xs := by
  rcases h with h | ⟨g, fr, h1, h2, h0, h0', hg⟩
  · exact .inl (Kd.R_below h hb)
  · exact .inr ⟨g, fr, h1, h2, h0, h0', (hb.block g (Array.getElem?_eq_some_iff.1 hg).1).trans hg⟩
theorem BR.slice (h : BR w B vb xs) : ∃ A c, vb = .slice A xs.length c := by
  rcases h with h | ⟨g, fr, h1, _⟩
  · exact Kd.R_slice h
  · exact ⟨_, _, h1⟩
theorem BR.cells {g : Nat} {fr : Nat × Nat} (hg : w.heap[g]? = some (.cells (xs.map (Value.int .u8)).toArray 5 fr)) : ∀ j u, (xs.map (Value.int .u8))[j]? = some u → w.cell? ((⟨g, 0, none⟩ : Addr).add j) = some u := by
  intro j u hu
  rw [add0, cell_of_row w g j _ 5 fr hg]
  simpa using hu
theorem BR.reads (h : BR w B vb xs) : IV .u8 w vb xs := by
  rcases h with h | ⟨g, fr, rfl, _, h0, hl, hg⟩
  · exact R_iv h
  · refine ⟨_, _, rfl, Nat.le_refl _, rfl, by omega, fun h0 => ⟨⟨g, 0, none⟩, rfl, fun j p hp => ⟨[.int .u8 p], rfl, rfl, fun i u hu => ?_⟩⟩⟩
    have hi : i = 0 := by
      rcases Nat.eq_zero_or_pos i with h2 | h2
      · exact h2
      · rw [List.getElem?_eq_none (by simp; omega)] at hu
        cases hu
    subst hi
    obtain rfl : Value.int .u8 p = u := by simpa using hu
    have := BR.cells hg j (.int .u8 p) (by rw [List.getElem?_map, hp]; rfl)
    show w.cell? ((⟨g, 0, none⟩ : Addr).add (j * 1 + 0)) = _
    rw [Nat.mul_one]
    exact this
theorem BR.append {w0 : World} {A : Option Addr} {x : Int} {ty : TypeId} (h : BR w B vb xs) (hC : Kd.C (Kd.int .u8) w A 1 [x]) (HB : Below B w0 w) (hbase : B ≤ w.heap.size) (hl : xs.length ≤ 100000000000) :
    ∃ v1 w1, (Builtin.append_ #[94, 94] ty #[vb, .slice A 1 1]).run Try.prog w = .ok v1 w1 ∧ Kd.R (Kd.int .u8) 5 w1 B (fun _ => True) v1 (xs ++ [x]) ∧ w.grownBy w1 vb.ownBlock := by
  rcases h with h | ⟨g, fr, rfl, hb, h0, hxl, hg⟩
  · obtain ⟨v1, w1, hr, ho1, hb1, hg1, hat1⟩ := run_append_row (P := Try.prog) (Kd.int .u8) (w0 := w0) B 94 ty 5 (.int .u8 0) 1 Try.underlying94 info5c rfl (by decide) (by decide) vb xs [x] A 1 1 (fun _ => True) (fun _ _ _ _ h => h) (fun _ _ => trivial) h hC HB hbase (by omega)
    exact ⟨v1, w1, hr, ho1, hg1⟩
  · obtain ⟨i0, hi, hz⟩ := Option.map_eq_some_iff.1 info5c
    simp only [Prod.mk.injEq] at hz
    obtain ⟨ad, rfl, hrd⟩ := hC.2.2 (by omega)
    obtain ⟨cs, _, hK, hcell⟩ := hrd 0 x rfl
    obtain rfl := (show cs = [.int .u8 x] from hK)
    have hnews : ∀ j u, [Value.int .u8 x][j]? = some u → w.cell? (ad.add j) = some u := fun j u hu => by
      have := hcell j u hu
      have e : 0 * (Kd.int .u8).sz + j = j := by rw [Nat.zero_mul, Nat.zero_add]
      rwa [e] at this
    obtain ⟨v1, w1, hr, ho, hg1⟩ := run_append_arg_grows (P := Try.prog) w 94 ty 5 i0 (.int .u8 0) 1 1 Try.underlying94 hi hz.1 hz.2.1 hz.2.2 rfl (by decide) ⟨g, 0, none⟩ xs.length xs.length (xs.map (Value.int .u8)) (by simp) (BR.cells hg) ad 1 1 [.int .u8 x] rfl hnews (by omega) (by show xs.length + 1 ≤ 9223372036854775807; omega) (by omega)
    refine ⟨v1, w1, hr, ?_, ⟨hg1.os, hg1.tape, hg1.output, hg1.size, fun k hk _ => hg1.block k hk (by simp)⟩⟩
    have ho2 : w1.ownsRow B 5 1 v1 (xs.length + 1) (xs.map (Value.int .u8) ++ [.int .u8 x]) := by
      refine ⟨ho.1, ?_⟩
      rcases ho.2 with h1 | ⟨g, cap, cur, h1, h2, h3⟩
      · exact .inl h1
      · exact .inr ⟨g, cap, cur, h1, Nat.le_trans hbase h2, h3⟩
    exact Kd.R_of_own (by rw [List.length_append, List.length_singleton, show encs (Value.int .u8) (xs ++ [x]) = xs.map (Value.int .u8) ++ [.int .u8 x] by simp [encs]]; exact ho2) (fun _ _ => trivial)
end
/-- Bytes under way in a variable of the call's own; whatever else must lie, lies. -/
structure PB (B g4 : Nat) (HL : List (Nat × Nat × List Value)) (w00 : World) (xs : List Int) (vb : Value) (W : World) : Prop where
  cell : Holds W g4 94 [vb]
  row : BR W B vb xs
  hs : ∀ x ∈ HL, Holds W x.1 x.2.1 x.2.2
  below : Below B w00 W
  size : B ≤ W.heap.size
section
variable {B g4 : Nat} {HL : List (Nat × Nat × List Value)} {w00 W W' : World} {xs ys : List Int} {vb vb' : Value}
theorem PB.flow (h : PB B g4 HL w00 xs vb W) (hb : Below W.heap.size W W') : PB B g4 HL w00 xs vb W' :=
  ⟨h.cell.below hb, h.row.below hb, fun x hx => (h.hs x hx).below hb, below_then h.below h.size hb, Nat.le_trans h.size hb.size⟩
theorem PB.put (h : PB B g4 HL w00 xs vb W) (hHL : ∀ x ∈ HL, x.2.1 ≠ 5 ∧ x.1 ≠ g4) (hB : B ≤ g4) (hg : W.grownBy W' vb.ownBlock) (hr : Kd.R (Kd.int .u8) 5 W' B (fun _ => True) vb' ys) : PB B g4 HL w00 ys vb' (W'.setCells g4 0 [vb']) := by
  have hn : ∀ (k : Nat) (cs : Array Value) (t : TypeId) (fr : Nat × Nat), W.heap[k]? = some (.cells cs t fr) → t ≠ 5 → ¬ (some k = vb.ownBlock) := fun k cs t fr ho ht e => by
    obtain ⟨cells, _, hc⟩ := h.row.typed k e.symm
    rw [ho] at hc
    injection hc with hc
    injection hc with _ hc
    exact ht hc
  have hk := Kp.of_grown hg
  have h3 := hk.holds h.cell (hn _ _ _ _ h.cell (by decide))
  have hs := stored_cells W' g4 0 [vb']
  exact ⟨holds_cells (vs := [vb']) h3 (by show 0 + 1 ≤ 1; decide), (.inl (R_other hr h3 (fun q hq => by rcases List.mem_cons.1 hq with rfl | hq; decide; cases hq) hs)), fun x hx => hs.holds (hk.holds (h.hs x hx) (hn _ _ _ _ (h.hs x hx) (hHL x hx).1)) (hHL x hx).2, hs.below (h.below.grown hg h.size h.row.base) hB, by rw [hs.size]; exact Nat.le_trans h.size hg.size⟩
end
def A66 (b : Int) (vb v : Value) (w : World) : Prop := ∃ A, v = .slice (some ⟨A, 0, none⟩) 1 1 ∧ Holds w A 5 [.int .u8 b] ∧ some A ≠ vb.ownBlock
def V66 (B i : Nat) (v : Int) (xs : List Int) (vb : Value) : Nat → Value → World → Prop
  | 0, u, _ => u = vb
  | 1, u, _ => u = .int .u64 v
  | 2, u, _ => u = .int .i64 (i : Int)
  | 3, u, _ => u = .int .i64 (8 * (i : Int))
  | 4, u, _ => u = .int .u64 (v / 256 ^ i)
  | 5, u, _ => u = .int .u8 (v / 256 ^ i % 256)
  | 6, u, w => A66 (v / 256 ^ i % 256) vb u w
  | 7, u, w => Kd.R (Kd.int .u8) 5 w B (fun _ => True) u (xs ++ [v / 256 ^ i % 256])
  | _, _, _ => True
theorem V66_stays (B i : Nat) (x : Int) (xs : List Int) (vb : Value) (k j : Nat) (v : Value) (w w' : World) (hij : k ≠ j) (h : V66 B i x xs vb j v w) (hb : GA 7 vb.ownBlock k w w') : V66 B i x xs vb j v w' := by
  by_cases hj : j = 7
  · subst hj
    exact (show Kd.R (Kd.int .u8) 5 w' B (fun _ => True) v (xs ++ [x / 256 ^ i % 256]) from Kd.R_below h (hb.other hij))
  · have hg := hb.grown
    unfold V66 at h ⊢
    split at h <;> first | exact h | (obtain ⟨A, h1, h2, h3⟩ := h; exact ⟨A, h1, holds_grown h2 hg h3, h3⟩) | exact absurd rfl hj | trivial
theorem append94 {o : Oper} {a : Act} {W W' : World} {s x : Operand} {vs vx v1 : Value} (ho : o.op = .call { callee := .builtin .append, args := #[s, x], argTypes := #[94, 94] }) (hs : a.eval s = vs) (hx : a.eval x = vx) (hr : (Builtin.append_ #[94, 94] o.type #[vs, vx]).run Try.prog W = .ok v1 W') : (execOp a.eval o).run Try.prog W = .ok (.value v1) W' := by
  unfold execOp
  simp only [ho, resolve, invoke, builtin, Sem.run_bind, Sem.run_pure, Result.andThen_ok, List.map_toArray, List.map_cons, List.map_nil, hs, hx, hr]
theorem store94 {o : Oper} {a : Act} {W : World} {x y : Operand} {g i t : Nat} {cs : List Value} {A : Option Addr} {n c : Nat} (ho : o.op = .store 94 x y) (hx : a.eval x = .pointer (some ⟨g, i, none⟩)) (hy : a.eval y = .slice A n c) (hh : Holds W g t cs) (hi : i < cs.length) :
    (execOp a.eval o).run Try.prog W = .ok .skip (W.setCells g i [.slice A n c]) := by
  have hc : W.cell? ⟨g, i, none⟩ = some cs[i] := (hh.cell i).trans (List.getElem?_eq_getElem hi)
  have hf : W.frozen? ⟨g, i, none⟩ = false := blk_frozen hh i
  show (execOp a.eval o).run Try.prog W = .ok .skip (W.setCell ⟨g, i, none⟩ (.slice A n c))
  generalize a.eval = E at hx hy ⊢
  unfold execOp
  simp only [ho, hx, hy]
  go_simp
set_option maxHeartbeats 2000000 in
set_option maxRecDepth 100000 in
theorem put_calls (width : Nat) (hw : width ≤ 8) (v : Int) (B g4 : Nat) (HL : List (Nat × Nat × List Value)) (hHL : ∀ x ∈ HL, x.2.1 ≠ 5 ∧ x.1 ≠ g4) (hB4 : B ≤ g4) (w00 w : World) (xs : List Int) (vb0 : Value) (hPB : PB B g4 HL w00 xs vb0 w) (hxl : xs.length ≤ 1000000000) :
    Calls Try.prog 66 #[.int .i64 (width : Int), .int .u64 v, .pointer (some ⟨g4, 0, none⟩)] w fun e w' => e = .returned (.tuple #[]) ∧ ∃ vb, PB B g4 HL w00 (xs ++ be width v) vb w' := by
  have HPB := Aside0.mk hPB
  have HX := Aside0.mk hxl
  have hwr : wrap64 ((width : Int) - 1) = (width : Int) - 1 := wrap_in (by omega) (by omega)
  clear hPB hxl
  go_enter Try.func66, Try.ntmps66
  go_wp2_with fail
  go_loopg [5] width (fun kq v5 w' => ∃ (ys : List Int) (vb : Value), v5 = .int .i64 ((kq : Int) - 1) ∧ Aside0 (ys ++ pd kq v = xs ++ pd width v) ∧ Aside0 (kq ≤ width) ∧ Aside0 (PB B g4 HL w00 ys vb w'))
  case atStart => exact ⟨xs, vb0, rfl, ⟨rfl⟩, ⟨Nat.le_refl _⟩, HPB⟩
  case round =>
    clear HPB
    obtain ⟨ys, vb, rfl, HE, HKW, HPB⟩ := hrel
    obtain ⟨W0, rfl⟩ : ∃ W0, W0 = wr := ⟨wr, rfl⟩
    cases gk with
    | zero =>
      go_wp2_with fail
      go_end0
      have h := HE.out
      rw [show pd 0 v = [] from rfl, List.append_nil] at h
      exact ⟨rfl, vb, by rw [be_pd, ← h]; exact HPB.out⟩
    | succ i =>
      have e1 : (((i + 1 : Nat) : Int) - 1) = (i : Int) := by omega
      rw [e1]
      have q1 : decide ((0 : Int) ≤ (i : Int)) = true := decide_eq_true (by omega)
      have hi7 : i ≤ 7 := by have := HKW.out; omega
      have hw2 : wrap64 ((i : Int) - 1) = (i : Int) - 1 := wrap_in (by omega) (by omega)
      have HYL : Aside0 (ys.length ≤ 1000000008) := ⟨by
        have h := congrArg List.length HE.out
        rw [List.length_append, List.length_append, ← be_pd, ← be_pd, be_length, be_length] at h
        have := HX.out
        omega⟩
      clear e1
      go_upto_region 3 with (fail)
      have hlt6 : ∀ k, vb.ownBlock = some k → k < W0.heap.size := HPB.out.row.lt
      have hne6 : ∀ (g' t' : Nat) (cs : List Value), Holds W0 g' t' cs → 5 ≠ t' → some g' ≠ vb.ownBlock := fun g' t' cs h h1 => HPB.out.row.ne h h1
      have hg4 : ∀ w1, W0.grownBy w1 vb.ownBlock → Holds w1 g4 94 [vb] := fun w1 hg => holds_grown HPB.out.cell hg (hne6 _ 94 _ HPB.out.cell (by decide))
      have hbw : ∀ w1, W0.grownBy w1 vb.ownBlock → Below B w00 w1 := fun w1 hg => HPB.out.below.grown hg HPB.out.size HPB.out.row.base
      refine weaveG 8 20 (V66 B i v ys vb) (fun L w1 => W0.grownBy w1 vb.ownBlock ∧ (L.getD 7 false = false → BR w1 B vb ys)) (GA 7 vb.ownBlock) (by kernel_rfl) (by rfl) (by kernel_rfl) ?j0 ?jj ?vv ?st ?en
      case j0 => exact ⟨grown_of_below (below_drew (Below.refl _ _)) _, fun _ => HPB.out.row.below (below_drew (Below.refl _ _))⟩
      case jj =>
        intro k L w1 w2' hk hL hk0 hJ hG
        refine ⟨hJ.1.trans hG.grown, fun h10 => ?_⟩
        by_cases he : k = 7
        · subst he
          rw [Array.getD_eq_getD_getElem?, Array.getElem?_setIfInBounds_self_of_lt (by rw [hL]; decide)] at h10
          cases h10
        · rw [getD_set_ne false he] at h10
          exact (hJ.2 h10).below (hG.other he)
      case vv => exact fun k j v w1 w2' _ hkj _ h hG => V66_stays _ _ _ _ _ _ _ _ _ _ hkj h hG
      case st =>
        refine StepsG.cons (fun a w1 L fr hL hj hdf hd K hK => ?_) ?_
        · exact wp_val (load94_exec rfl ((fr 2 (by kernel_rfl)).trans rfl) (((hg4 w1 hj.1).cell 0).trans rfl)) (hK _ _ (show GA 7 _ _ _ _ from Below.refl _ _) rfl)
        refine StepsG.cons (fun a w1 L fr hL hj hdf hd K hK => ?_) ?_
        · exact wp_val (move_exec rfl ((fr 1 (by kernel_rfl)).trans rfl)) (hK _ _ (show GA 7 _ _ _ _ from Below.refl _ _) rfl)
        refine StepsG.cons (fun a w1 L fr hL hj hdf hd K hK => ?_) ?_
        · exact wp_val (move_exec rfl ((fr 5 (by kernel_rfl)).trans rfl)) (hK _ _ (show GA 7 _ _ _ _ from Below.refl _ _) rfl)
        refine StepsG.cons (fun a w1 L fr hL hj hdf hd K hK => ?_) ?_
        · exact wp_val (mul8_exec (by omega) rfl (hd 2 14 (by kernel_rfl))) (hK _ _ (show GA 7 _ _ _ _ from Below.refl _ _) rfl)
        refine StepsG.cons (fun a w1 L fr hL hj hdf hd K hK => ?_) ?_
        · exact wp_val (shr_exec (by omega) rfl (hd 1 13 (by kernel_rfl)) (hd 3 15 (by kernel_rfl))) (hK _ _ (show GA 7 _ _ _ _ from Below.refl _ _) rfl)
        refine StepsG.cons (fun a w1 L fr hL hj hdf hd K hK => ?_) ?_
        · exact wp_val (conv5_exec rfl (hd 4 16 (by kernel_rfl))) (hK _ _ (show GA 7 _ _ _ _ from Below.refl _ _) rfl)
        refine StepsG.cons (fun a w1 L fr hL hj hdf hd K hK => ?_) ?_
        · have e5 : a.eval (.tmp 17) = .int .u8 (v / 256 ^ i % 256) := (hd 5 17 (by kernel_rfl))
          exact wp_val (lit94_exec rfl e5) (hK _ _ (show GA 7 _ _ _ _ from below_alloc (Below.refl _ _) _) (show A66 _ _ _ _ from ⟨w1.heap.size, rfl, blk_new _ _, fun e => by (have h1 := hlt6 _ e.symm; have h2 := hj.1.size; omega)⟩))
        refine StepsG.cons (fun a w1 L fr hL hj hdf hd K hK => ?_) ?_
        · obtain ⟨Ap, e8, hh9, hne9⟩ : A66 (v / 256 ^ i % 256) vb (a.eval (.tmp 18)) w1 := (hd 6 18 (by kernel_rfl))
          have e1 : a.eval (.tmp 12) = vb := (hd 0 12 (by kernel_rfl))
          have hrow := hj.2 hL
          have hc9 : Kd.C (Kd.int .u8) w1 (some ⟨Ap, 0, none⟩) 1 [v / 256 ^ i % 256] := C_block (Kd.int .u8) hh9 reps1i (by simp)
          obtain ⟨v1, w2', hr, hr1, hg1⟩ := BR.append (w0 := w00) (ty := _) hrow hc9 (hbw w1 hj.1) (by have := hj.1.size; have := HPB.out.size; omega) (by have := HYL.out; omega)
          refine Wv.wp_val (append94 rfl e1 e8 hr) ?_
          exact hK _ _ (show GA 7 _ _ _ _ from GA.same hg1) (show Kd.R (Kd.int .u8) 5 _ _ _ _ _ from hr1)
        exact StepsG.nil
      case en =>
        intro vs w' L hJ hl hv
        have hr : Kd.R (Kd.int .u8) 5 w' B (fun _ => True) (vs 7) (ys ++ [v / 256 ^ i % 256]) := hv 7 19 (by decide) (by kernel_rfl)
        obtain ⟨AZ, cZ, eZ⟩ := Kd.R_slice hr
        have hle : (ys ++ [v / 256 ^ i % 256]).length = ys.length + 1 := by simp
        rw [hle] at eZ
        rw [eZ] at hr
        have hh := hg4 w' hJ.1
        have hst := HPB.out.put hHL hB4 hJ.1 hr
        refine upto_some rfl ?_
        simp only [List.take_succ_cons, List.take_zero, putsOf, Act.put, List.setIfInBounds_toArray, List.set_cons_zero, List.set_cons_succ, eZ]
        refine Wv.wp_skip (w' := w'.setCells g4 0 [.slice AZ (ys.length + 1) cZ]) rfl ?hr ?_
        case hr => exact store94 rfl (by rfl) (by rfl) hh (by show 0 < 1; decide)
        have HST := Aside0.mk hst
        clear hst hr eZ
        go_wp2_with fail
        go_roundg i
        case measure => omega
        case rel =>
          have h := HE.out
          rw [show pd (i + 1) v = (v / 256 ^ i % 256) :: pd i v from rfl] at h
          exact ⟨ys ++ [v / 256 ^ i % 256], _, rfl, ⟨by rw [List.append_assoc]; exact h⟩, ⟨by have := HKW.out; omega⟩, HST⟩
end Go.Proofs.Ytgojfecpknonlaa.Im

