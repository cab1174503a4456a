/- Rows of events that are picked: slices.Clone, slices.IndexFunc, slices.DeleteFunc, events.those. -/
import Derived.Test.YtgojfecpknonlaaEvA
import Derived.WalkSpells
import Derived.WalkLawsBesides
namespace Go.Proofs.Ytgojfecpknonlaa.Ev
open Go.RowKit Go.Proofs.YtgojfecpknonlaaW.PrintWords Go.Proofs.YtgojfecpknonlaaW.PrintLast Go.Proofs.YtgojfecpknonlaaW.PrintMore
open Go.Proofs.Ytgojfecpknonlaa.Own Go.Proofs.Ytgojfecpknonlaa.PSt
set_option linter.unusedVariables false
set_option linter.unusedSimpArgs false

theorem wrap_ok {i : Int} (h0 : -9223372036854775808 ≤ i) (h1 : i ≤ 9223372036854775807) : wrap64 i = i := by
  unfold wrap64; omega
theorem k72_flat {W : World} (base : Nat) (W1 : World) (ok' : Nat → Prop) (q : S72) (cs : List Value) (h : k72.K W q cs) : k72.M W1 base ok' q cs := by
  obtain rfl := k72_open h
  exact k72_mkM _ _ _ _
/-- An element's cells, in a later memory. -/
theorem el72 {w W : World} {A : Option Addr} {l : List S72} (h : Kd.C k72 w A l.length l) (hb : Below w.heap.size w W) (i : Nat) (hi : i < l.length) : ∃ ad, A = some ad ∧ ∃ d, l[i]? = some d ∧ W.cell? (ad.add (i * 11)) = some (.int .u8 d.f0) ∧ W.cell? ⟨(ad.add (i * 11)).block, (ad.add (i * 11)).off + 1, none⟩ = some (.int .u8 d.f1.f0) ∧ W.cell? ⟨(ad.add (i * 11)).block, (ad.add (i * 11)).off + 2, none⟩ = some (.int .u8 d.f1.f1) ∧ W.cell? ⟨(ad.add (i * 11)).block, (ad.add (i * 11)).off + 3, none⟩ = some (.int .u8 d.f1.f2) ∧ W.cell? ⟨(ad.add (i * 11)).block, (ad.add (i * 11)).off + 4, none⟩ = some (.int .u8 d.f1.f3) ∧ W.cell? ⟨(ad.add (i * 11)).block, (ad.add (i * 11)).off + 5, none⟩ = some (.int .i64 d.f2.f0) ∧ W.cell? ⟨(ad.add (i * 11)).block, (ad.add (i * 11)).off + 6, none⟩ = some (.int .i64 d.f2.f1) ∧ W.cell? ⟨(ad.add (i * 11)).block, (ad.add (i * 11)).off + 7, none⟩ = some (.int .u64 d.f2.f2) ∧ W.cell? ⟨(ad.add (i * 11)).block, (ad.add (i * 11)).off + 8, none⟩ = some (.int .i64 d.f3) ∧ W.cell? ⟨(ad.add (i * 11)).block, (ad.add (i * 11)).off + 9, none⟩ = some (.int .i64 d.f4) ∧ W.cell? ⟨(ad.add (i * 11)).block, (ad.add (i * 11)).off + 10, none⟩ = some (.int .i64 d.f5) := by
  obtain ⟨ad, he, hx0, hx1, hx2, hx3, hx4, hx5, hx6, hx7, hx8, hx9, hx10⟩ := at_T72 (Kd.C_below h hb) i (by omega) (by omega)
  refine ⟨ad, he, l[i], List.getElem?_eq_getElem hi, ?_⟩
  have e : rd_T72 l i = l[i] := by
    unfold rd_T72
    rw [Int.toNat_natCast, List.getD_eq_getElem?_getD, List.getElem?_eq_getElem hi]
    rfl
  simp only [Int.toNat_natCast] at hx0 hx1 hx2 hx3 hx4 hx5 hx6 hx7 hx8 hx9 hx10
  rw [e] at hx0 hx1 hx2 hx3 hx4 hx5 hx6 hx7 hx8 hx9 hx10
  exact ⟨hx0, hx1, hx2, hx3, hx4, hx5, hx6, hx7, hx8, hx9, hx10⟩

set_option maxHeartbeats 2000000 in
set_option maxRecDepth 100000 in
theorem clone_calls (A : Option Addr) (c : Nat) (l : List S72) (w : World) (hr : Kd.C k72 w A l.length l) (hc : l.length ≤ c) (hl : l.length * 56 ≤ 140737488355328) :
    Calls Try.prog 108 #[.slice A l.length c] w fun e w' => ∃ v0_ : Value, e = .returned v0_ ∧ Kd.R k72 72 w' w.heap.size (fun _ => True) v0_ l ∧ Below w.heap.size w w' := by
  have q51 : ∀ (w : World) (a : Option Addr) (n c n' c' : Nat), (binOp .eql 51 (.slice a n c) (.slice none n' c')).run Try.prog w = .ok (.bool a.isNone) w := fun w a n c n' c' => Lib.run_eql_slice_nil w _ _ a n c n' c' Try.underlying51
  rcases A with _ | ad
  · have hl0 : l = [] := by
      rcases l with _ | ⟨x, l⟩
      · rfl
      · obtain ⟨ad, h, _⟩ := hr.2.2 (by simp)
        cases h
    subst hl0
    clear hr hc hl
    go_enter Try.func108, Try.ntmps108
    go_wp2
    go_ret
    exact ⟨_, rfl, Kd.R_nil _ _ _ _ _, Below.refl _ _⟩
  · have HR := Aside0.mk hr
    clear hr hc
    go_enter Try.func108, Try.ntmps108
    go_wp2_with (at_builtin; refine R_append_row k72 (w0 := w) w.heap.size rfl (.tmp 5) (.tmp 6) 51 72 (.agg #[.int .u8 0, .int .u8 0, .int .u8 0, .int .u8 0, .int .u8 0, .int .i64 0, .int .i64 0, .int .u64 0, .int .i64 0, .int .i64 0, .int .i64 0]) 56 rfl Try.underlying51 info72b rfl (by decide) (by omega) (.slice (some ⟨w.heap.size, 0, none⟩) 0 0) [] l (some ad) l.length c (fun _ => True) rfl rfl (k72_flat _) (fun _ _ => trivial) ?aO ?aR ?aB ?aS ?aL ?_)
    case aO => exact R_lit0 _ _ _ _ _ (Nat.le_refl _) trivial
    case aR => exact Kd.C_alloc HR.out _
    case aB => exact (Below.refl _ w).alloc (Nat.le_refl _) _
    case aS => simp
    case aL => simpa using hl
    intro v1 w1 ho hb hg hat
    go_wp2
    go_ret
    exact ⟨_, rfl, by simpa using ho, hb⟩

/-- What a function value of an event answers: true where p holds; it turns nothing that lay. -/
structure Pred (g : FuncId) (lb : Array Value) (B : Nat) (W0 : World) (p : S72 → Bool) : Prop where
  enters : ∀ args w, (callFunc g args).run Try.prog w = .ok (.enter g args) w
  calls : ∀ (W : World) (d : S72), Below B W0 W → B ≤ W.heap.size → Calls Try.prog g (#[ev d] ++ lb) W fun e W' => e = .returned (.bool (p d)) ∧ Below W.heap.size W W'

/-- The first of which p holds. -/
def firstI (p : S72 → Bool) (l : List S72) : Int := if l.findIdx p < l.length then (l.findIdx p : Int) else -1

set_option maxHeartbeats 4000000 in
set_option maxRecDepth 100000 in
theorem index_calls (g : FuncId) (lb : Array Value) (B : Nat) (W0 : World) (p : S72 → Bool) (hP : Pred g lb B W0 p) (l : List S72) (A0 : Option Addr) (c0 : Nat) (w : World) (hb0 : Below B W0 w) (hB : B ≤ w.heap.size) (hr0 : Kd.C k72 w A0 l.length l) (hc0 : l.length ≤ c0) (hll : l.length < 4611686018427387904) :
    Calls Try.prog 94 #[.slice A0 l.length c0, .func (.func g) #[] lb] w fun e w' => e = .returned (.int .i64 (firstI p l)) ∧ Below w.heap.size w w' := by
  have HR0 := Aside0.mk hr0
  have HC0 := Aside0.mk hc0
  have HB0 := Aside0.mk hb0
  have HBS := Aside0.mk hB
  have HCL := Aside0.mk hP.calls
  have en := hP.enters
  have hu72 := Try.underlying72
  clear hr0 hc0 hb0 hB hP
  go_enter Try.func94, Try.ntmps94
  go_wp2
  go_loopg [5, 8] l.length (fun kq v5 v8 w' => ∃ i : Nat, v8 = .int .i64 i ∧ i + kq = l.length ∧ Aside0 ((l.take i).any p = false) ∧ Aside0 (Below w.heap.size w w'))
  case atStart => exact ⟨0, rfl, by omega, ⟨rfl⟩, ⟨Below.refl _ _⟩⟩
  case round =>
    obtain ⟨i, rfl, hi, HN, HB⟩ := hrel
    cases gk with
    | zero =>
      obtain rfl : i = l.length := by omega
      clear hi
      have c1 : decide (((l.length : Nat) : Int) < (l.length : Int)) = false := decide_eq_false (by omega)
      have HF : Aside0 (firstI p l = -1) := ⟨by
        have h := HN.out
        rw [List.take_length, List.any_eq_false] at h
        unfold firstI
        rw [if_neg]
        intro hh
        have := List.findIdx_getElem (w := hh)
        exact h _ (List.getElem_mem _) this⟩
      clear en
      go_wp2
      go_ret
      exact ⟨by rw [HF.out]; rfl, HB.out⟩
    | succ k1 =>
      have c1 : decide ((i : Int) < (l.length : Int)) = true := decide_eq_true (by omega)
      have hil : i < l.length := by omega
      obtain ⟨ad, he, d, hd, hx0, hx1, hx2, hx3, hx4, hx5, hx6, hx7, hx8, hx9, hx10⟩ := el72 HR0.out HB.out i hil
      cases he
      have HD := Aside0.mk hd
      have HI := Aside0.mk hi
      have HBB := Aside0.mk (below_then HB0.out HBS.out (HB.out.mono (Nat.le_refl _)))
      have HBZ := Aside0.mk (Nat.le_trans HBS.out HB.out.size)
      have p1 := eq_true (show 0 ≤ ((i : Nat) : Int) by omega)
      have q1 := eq_true (show ((i : Nat) : Int) < (l.length : Int) by omega)
      have q2 := eq_true hil
      clear hd hi hil
      cases hbad : p d with
      | true =>
        have HF : Aside0 (firstI p l = (i : Int)) := ⟨by
          have hil := of_eq_true q2
          have e : l.findIdx p = i := by
            rw [List.findIdx_eq hil]
            refine ⟨?_, fun j hj => ?_⟩
            · have h := HD.out
              rw [List.getElem?_eq_getElem hil] at h
              injection h with h
              rw [h]
              exact hbad
            · have h := HN.out
              rw [List.any_eq_false] at h
              have hm : l[j] ∈ l.take i := by
                rw [List.mem_take_iff_getElem]
                exact ⟨j, by omega, rfl⟩
              simpa using h _ hm
          unfold firstI
          rw [e, if_pos hil]⟩
        go_wp2_with ((refine (HCL.out _ d HBB.out HBZ.out).mono ?_); rintro e w2 ⟨rfl, hb2⟩; rw [hbad])
        have HB2 := Aside0.mk (below_then HB.out HB.out.size hb2)
        clear hb2
        go_ret
        exact ⟨by rw [HF.out]; rfl, HB2.out⟩
      | false =>
        go_wp2_with ((refine (HCL.out _ d HBB.out HBZ.out).mono ?_); rintro e w2 ⟨rfl, hb2⟩; rw [hbad]; have HB2 := Aside0.mk (below_then HB.out HB.out.size hb2); clear hb2)
        go_roundg k1
        case measure => omega
        case rel =>
          refine ⟨i + 1, by have := HI.out; rw [wrap_ok (by omega) (by omega)]; rfl, by have := HI.out; omega, ⟨?_⟩, HB2⟩
          have h : l.take (i + 1) = l.take i ++ [d] := by
            rw [List.take_add_one, HD.out]
            rfl
          rw [h, List.any_append, HN.out]
          simp [hbad]

theorem firstI_none {p : S72 → Bool} {l : List S72} (h : l.any p = false) : firstI p l = -1 := by
  unfold firstI
  rw [if_neg]
  intro hh
  rw [List.any_eq_false] at h
  exact h _ (List.getElem_mem _) (List.findIdx_getElem (w := hh))
theorem firstI_some {p : S72 → Bool} {l : List S72} (h : l.any p = true) : ∃ i : Nat, firstI p l = (i : Int) ∧ i < l.length ∧ (l.take (i + 1)).filter (fun d => !p d) = l.take i := by
  rw [List.any_eq_true] at h
  obtain ⟨d, hd, hp⟩ := h
  have hh : l.findIdx p < l.length := List.findIdx_lt_length_of_exists ⟨d, hd, hp⟩
  refine ⟨l.findIdx p, by unfold firstI; rw [if_pos hh], hh, ?_⟩
  have h1 : ∀ x ∈ l.take (l.findIdx p), (!p x) = true := by
    intro x hx
    rw [List.mem_take_iff_getElem] at hx
    obtain ⟨j, hj, rfl⟩ := hx
    have h2 := List.not_of_lt_findIdx (p := p) (xs := l) (i := j) (by omega)
    simpa using h2
  rw [List.take_add_one, List.getElem?_eq_getElem hh, List.filter_append, List.filter_eq_self.2 h1]
  have h3 : p l[l.findIdx p] = true := List.findIdx_getElem (w := hh)
  simp [h3]

/-- slices.DeleteFunc, where there is none to delete. -/
theorem delete_none (f : FuncId) (lb : Array Value) (B : Nat) (W0 : World) (p : S72 → Bool) (hP : Pred f lb B W0 p) (l : List S72) (A : Option Addr) (c : Nat) (w : World) (hb0 : Below B W0 w) (hB : B ≤ w.heap.size) (hr : Kd.C k72 w A l.length l) (hc : l.length ≤ c) (hll : l.length < 4611686018427387904) (hn : l.any p = false) :
    Calls Try.prog 107 #[.slice A l.length c, .func (.func f) #[] lb] w fun e w' => e = .returned (.slice A l.length c) ∧ Below w.heap.size w w' := by
  have HC := Aside0.mk (index_calls f lb B W0 p hP l A c w hb0 hB hr hc hll)
  have HN := Aside0.mk (firstI_none hn)
  clear hP hb0 hB hr hc hn
  go_enter Try.func107, Try.ntmps107
  go_wp2_with (go_at_call 94; refine HC.out.mono ?_; rintro e w1 ⟨rfl, hb1⟩; rw [HN.out])
  go_ret
  exact ⟨rfl, hb1⟩
def z11 : Array Value := #[.int .u8 0, .int .u8 0, .int .u8 0, .int .u8 0, .int .u8 0, .int .i64 0, .int .i64 0, .int .u64 0, .int .i64 0, .int .i64 0, .int .i64 0]
theorem z11_one : ∀ k, k < 11 → (z11[k]!).oneCell' = true := by
  intro k hk
  have : k = 0 ∨ k = 1 ∨ k = 2 ∨ k = 3 ∨ k = 4 ∨ k = 5 ∨ k = 6 ∨ k = 7 ∨ k = 8 ∨ k = 9 ∨ k = 10 := by omega
  rcases this with rfl | rfl | rfl | rfl | rfl | rfl | rfl | rfl | rfl | rfl | rfl <;> rfl
theorem zeros_length (m : Nat) : (Builtin.zeroCells z11 m).toList.length = m * 11 := by
  unfold Builtin.zeroCells
  simp [z11]
theorem zeros_one (m : Nat) : ∀ v ∈ (Builtin.zeroCells z11 m).toList, v.oneCell' = true := by
  intro v hv
  unfold Builtin.zeroCells at hv
  simp only [Array.toList_map, Array.toList_range, List.mem_map] at hv
  obtain ⟨k, _, rfl⟩ := hv
  exact z11_one _ (Nat.mod_lt _ (by decide))
theorem zero72 (W : World) : (zeroValue 72).run Try.prog W = .ok (.agg z11) W := by kernel_rfl
theorem clear_run {W : World} {g i m c : Nat} {xs : List S72} (h : Row W g xs) (him : i + m = xs.length) (hm : 0 < m) (ty : TypeId) :
    ∃ w1, (Builtin.clear_ #[51] ty #[.slice (some ⟨g, i * 11, none⟩) m c]).run Try.prog W = .ok (.tuple #[]) w1 ∧ Row w1 g (xs.take i) ∧ Stored W w1 g := by
  obtain ⟨r, h⟩ := h
  have hl : ∀ j, j < m * 11 → i * 11 + j < (rc xs ++ r).length := fun j hj => by rw [List.length_append, rc_length]; omega
  have h1 := run_storeCells_cells (P := Try.prog) g (i * 11) (Builtin.zeroCells z11 m).toList 0 W (fun k hk => by
      rw [zeros_length] at hk
      show (W.cell? ⟨g, i * 11 + 0 + k, none⟩).isSome = true
      rw [Nat.add_zero, h.cell, List.getElem?_eq_getElem (hl k hk)]
      rfl) (fun k hk => blk_frozen h _) (zeros_one m)
  rw [Nat.add_zero] at h1
  refine ⟨_, ?_, ⟨(Builtin.zeroCells z11 m).toList ++ r, ?_⟩, stored_cells W g (i * 11) (Builtin.zeroCells z11 m).toList⟩
  · unfold Builtin.clear_
    obtain ⟨m', rfl⟩ : ∃ k, m = k + 1 := ⟨m - 1, by omega⟩
    simp only [z11] at h1
    simp [run_underlying Try.underlying51, zero72, Value.cells, z11, h1]
  · have h2 := holds_cells (vs := (Builtin.zeroCells z11 m).toList) h (o := i * 11) (by rw [zeros_length, List.length_append, rc_length]; omega)
    have e : splice (rc xs ++ r) (i * 11) (Builtin.zeroCells z11 m).toList = rc (xs.take i) ++ ((Builtin.zeroCells z11 m).toList ++ r) := by
      unfold splice
      rw [zeros_length]
      have h3 : i * 11 = (rc (xs.take i)).length := by rw [rc_length, List.length_take]; omega
      have h4 : i * 11 + m * 11 = (rc xs).length := by rw [rc_length]; omega
      rw [h4, List.drop_left, h3, show rc xs ++ r = rc (xs.take i) ++ (rc (xs.drop i) ++ r) by rw [← List.append_assoc, ← rc_take], List.take_left, List.append_assoc]
    rw [e] at h2
    exact h2
theorem clear_exec {o : Oper} {a : Act} {W : World} {g i m c : Nat} {xs : List S72} {x : Operand} (ho : o.op = .call { callee := .builtin .clear, args := #[x], argTypes := #[51] }) (hx : a.eval x = .slice (some ⟨g, i * 11, none⟩) m c) (h : Row W g xs) (him : i + m = xs.length) (hm : 0 < m) :
    ∃ w1, (execOp a.eval o).run Try.prog W = .ok (.value (.tuple #[])) w1 ∧ Row w1 g (xs.take i) ∧ Stored W w1 g := by
  obtain ⟨w1, hr, h1, h2⟩ := clear_run (c := c) h him hm o.type
  refine ⟨w1, ?_, h1, h2⟩
  unfold execOp
  simp only [ho, resolve, invoke, builtin, Sem.run_bind, Sem.run_pure, Result.andThen_ok, List.map_toArray, List.map_cons, List.map_nil, hx, hr]
theorem gate_clear {ops : Array Oper} {rest : List Oper} {o : Oper} {a : Act} {Q : Exit → Act → World → Prop} {W : World} {x : Tmp} (_ho : o.op = .call { callee := .builtin .clear, args := #[.tmp x], argTypes := #[51] }) (h : wpList Try.prog ops Q (o :: rest) a W) : wpList Try.prog ops Q (o :: rest) a W := h
theorem clear_event {ops : Array Oper} {rest : List Oper} {o : Oper} {a : Act} {Q : Exit → Act → World → Prop} {W : World} {g i m c : Nat} {xs : List S72} {x : Operand} (hgd : o.guard = none) (ho : o.op = .call { callee := .builtin .clear, args := #[x], argTypes := #[51] }) (hx : a.eval x = .slice (some ⟨g, i * 11, none⟩) m c) (h : Row W g xs) (him : i + m = xs.length) (hm : 0 < m)
    (hk : ∀ w1, Row w1 g (xs.take i) → Stored W w1 g → wpList Try.prog ops Q rest (a.put o.dst (.tuple #[])) w1) : wpList Try.prog ops Q (o :: rest) a W := by
  obtain ⟨w1, hr, h1, h2⟩ := clear_exec ho hx h him hm
  exact Kd.event_run hgd hr (hk w1 h1 h2)

/-- slices.DeleteFunc over a row of the call's own. -/
def Del (w : World) (g : Nat) (zs : List S72) (c : Nat) (e : Ending) (w' : World) : Prop := e = .returned (.slice (some ⟨g, 0, none⟩) zs.length c) ∧ Row w' g zs ∧ w.grownBy w' (some g)
theorem grown_of {w W W1 : World} {g : Nat} (h : w.grownBy W (some g)) (hb : Below W.heap.size W W1) : w.grownBy W1 (some g) :=
  ⟨hb.os.trans h.os, hb.tape.trans h.tape, hb.output.trans h.output, Nat.le_trans h.size hb.size, fun k hk hne => (hb.block k (Nat.lt_of_lt_of_le hk h.size)).trans (h.block k hk hne)⟩
theorem grown_stored {w W W1 : World} {g : Nat} (h : w.grownBy W (some g)) (hs : Stored W W1 g) : w.grownBy W1 (some g) :=
  ⟨hs.os.trans h.os, hs.tape.trans h.tape, hs.output.trans h.output, by rw [hs.size]; exact h.size, fun k hk hne => (hs.block k (fun e => hne (by rw [e]))).trans (h.block k hk hne)⟩
theorem below_grown {B : Nat} {W0 w W : World} {g : Nat} (hb : Below B W0 w) (h : w.grownBy W (some g)) (hB : B ≤ g) (hs : B ≤ w.heap.size) : Below B W0 W :=
  hb.trans ⟨h.os, h.tape, h.output, h.size, fun k hk => h.block k (by omega) (fun e => by injection e with e; omega)⟩
end Go.Proofs.Ytgojfecpknonlaa.Ev

