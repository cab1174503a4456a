/- Rows of events in a block of their own, read and written in place. -/
import Derived.Test.YtgojfecpknonlaaPStx0
import Derived.Test.YtgojfecpknonlaaAgg
namespace Go.Proofs.Ytgojfecpknonlaa.Ev
open Go.RowKit Go.Proofs.YtgojfecpknonlaaW.PrintWords Go.Proofs.YtgojfecpknonlaaW.PrintLast Go.Proofs.YtgojfecpknonlaaW.PrintMore
open Go.Proofs.Ytgojfecpknonlaa.Own Go.Proofs.Ytgojfecpknonlaa.PSt
set_option linter.unusedVariables false
set_option linter.unusedSimpArgs false

/-- An event's cells. -/
abbrev ec (d : S72) : List Value := [.int .u8 d.f0, .int .u8 d.f1.f0, .int .u8 d.f1.f1, .int .u8 d.f1.f2, .int .u8 d.f1.f3, .int .i64 d.f2.f0, .int .i64 d.f2.f1, .int .u64 d.f2.f2, .int .i64 d.f3, .int .i64 d.f4, .int .i64 d.f5]
abbrev ev (d : S72) : Value := .agg #[.int .u8 d.f0, .int .u8 d.f1.f0, .int .u8 d.f1.f1, .int .u8 d.f1.f2, .int .u8 d.f1.f3, .int .i64 d.f2.f0, .int .i64 d.f2.f1, .int .u64 d.f2.f2, .int .i64 d.f3, .int .i64 d.f4, .int .i64 d.f5]
theorem sz72 : k72.sz = 11 := rfl
theorem info72 : (Try.prog.info? 72).map (·.zero) = some (some (.agg #[.int .u8 0, .int .u8 0, .int .u8 0, .int .u8 0, .int .u8 0, .int .i64 0, .int .i64 0, .int .u64 0, .int .i64 0, .int .i64 0, .int .i64 0])) := by kernel_rfl
theorem info72b : (Try.prog.info? 72).map (fun i => (i.zero, i.size, i.bytes)) = some (some (.agg #[.int .u8 0, .int .u8 0, .int .u8 0, .int .u8 0, .int .u8 0, .int .i64 0, .int .i64 0, .int .u64 0, .int .i64 0, .int .i64 0, .int .i64 0]), k72.sz, 56) := by kernel_rfl
theorem size72 : (Try.prog.info? 72).map (·.size) = some 11 := by kernel_rfl
theorem one11 (d : S72) : (ec d).toArray.all (·.oneCell') = true := by
  rw [List.all_toArray]
  rfl
def rc (xs : List S72) : List Value := xs.flatMap ec
theorem rc_cons (d : S72) (xs : List S72) : rc (d :: xs) = ec d ++ rc xs := rfl
theorem rc_append (xs ys : List S72) : rc (xs ++ ys) = rc xs ++ rc ys := List.flatMap_append
theorem rc_length : ∀ xs : List S72, (rc xs).length = 11 * xs.length
  | [] => rfl
  | d :: xs => by
    rw [rc_cons, List.length_append, rc_length xs]
    show 11 + 11 * xs.length = 11 * (xs.length + 1)
    omega
theorem rc_at : ∀ (xs : List S72) (i : Nat) (d : S72) (r : List Value), xs[i]? = some d → ((rc xs ++ r).drop (i * 11)).take 11 = ec d
  | [], i, d, r, h => by simp at h
  | x :: xs, 0, d, r, h => by
    simp at h
    subst h
    rfl
  | x :: xs, i + 1, d, r, h => by
    have ih := rc_at xs i d r (by simpa using h)
    rw [← ih, rc_cons, List.append_assoc, show (i + 1) * 11 = (ec x).length + i * 11 by simp [ec]; omega, List.drop_length_add_append]
theorem rc_set : ∀ (xs : List S72) (i : Nat) (d : S72) (r : List Value), i < xs.length → splice (rc xs ++ r) (i * 11) (ec d) = rc (xs.set i d) ++ r
  | [], i, d, r, h => by simp at h
  | x :: xs, 0, d, r, h => rfl
  | x :: xs, i + 1, d, r, h => by
    have ih := rc_set xs i d r (by simpa using h)
    show splice (ec x ++ rc xs ++ r) ((i + 1) * 11) (ec d) = ec x ++ rc (xs.set i d) ++ r
    rw [List.append_assoc, List.append_assoc, ← ih]
    unfold splice
    rw [show (i + 1) * 11 = (ec x).length + i * 11 by simp [ec]; omega, List.take_length_add_append, show (ec x).length + i * 11 + (ec d).length = (ec x).length + (i * 11 + (ec d).length) by omega, List.drop_length_add_append]
    simp only [List.append_assoc]
theorem rc_take (xs : List S72) (i : Nat) : rc xs = rc (xs.take i) ++ rc (xs.drop i) := by rw [← rc_append, List.take_append_drop]
theorem reps_rc {W : World} : ∀ {xs : List S72} {inner : List Value}, Reps (k72.K W) k72.sz xs inner → inner = rc xs
  | [], inner, h => List.eq_nil_of_length_eq_zero (by rw [h.1]; simp)
  | x :: xs, inner, h => by
    have hl := h.1
    rw [sz72, List.length_cons] at hl
    have h0 := k72_open (h.2 0 x rfl)
    rw [sz72, Nat.zero_mul, List.drop_zero] at h0
    have ht : Reps (k72.K W) k72.sz xs (inner.drop 11) := by
      refine ⟨by rw [List.length_drop, hl, sz72]; omega, fun j p hj => ?_⟩
      have h2 := h.2 (j + 1) p (by simpa using hj)
      rw [sz72] at h2 ⊢
      rw [List.drop_drop, show 11 + j * 11 = (j + 1) * 11 by omega]
      exact h2
    rw [rc_cons, ← reps_rc ht]
    have := List.take_append_drop 11 inner
    rw [h0] at this
    exact this.symm

/-- Block g begins with this row. -/
def Row (W : World) (g : Nat) (xs : List S72) : Prop := ∃ rest, Holds W g 72 (rc xs ++ rest)
theorem Row.lt {W : World} {g : Nat} {xs : List S72} (h : Row W g xs) : g < W.heap.size := by
  obtain ⟨r, h⟩ := h
  exact h.lt
theorem Row.below {W W1 : World} {g : Nat} {xs : List S72} (h : Row W g xs) (hb : Below W.heap.size W W1) : Row W1 g xs := by
  obtain ⟨r, h⟩ := h
  exact ⟨r, h.below hb⟩
theorem Row.drew {W : World} {g : Nat} {xs : List S72} (h : Row W g xs) : Row W.drew g xs := h
theorem Row.take {W : World} {g : Nat} {xs : List S72} (h : Row W g xs) (i : Nat) : Row W g (xs.take i) := by
  obtain ⟨r, h⟩ := h
  refine ⟨rc (xs.drop i) ++ r, ?_⟩
  rw [← List.append_assoc, ← rc_append, List.take_append_drop]
  exact h
theorem Row.C {W : World} {g : Nat} {xs : List S72} (h : Row W g xs) (hl : xs.length ≤ 9223372036854775807) : Kd.C k72 W (some ⟨g, 0, none⟩) xs.length xs := by
  obtain ⟨r, h⟩ := h
  refine ⟨rfl, hl, fun _ => ⟨_, rfl, fun j p hj => ⟨ec p, rfl, k72_mk W p, fun i u hu => ?_⟩⟩⟩
  have hi : i < 11 := by
    have := (List.getElem?_eq_some_iff.1 hu).1
    simpa [ec] using this
  rw [add_plain, sz72, h.cell]
  have h1 := rc_at xs j p r hj
  rw [← h1, List.getElem?_take, if_pos hi, List.getElem?_drop] at hu
  exact hu
/-- A row of the call's own lies in a block of its own. -/
theorem row_of {W : World} {base : Nat} {ok : Nat → Prop} {v : Value} {xs : List S72} (h : Kd.R k72 72 W base ok v xs) (hp : 0 < xs.length) : ∃ g c, v = .slice (some ⟨g, 0, none⟩) xs.length c ∧ xs.length ≤ c ∧ base ≤ g ∧ Row W g xs := by
  obtain ⟨_, inner, ho, hr⟩ := h
  obtain rfl := reps_rc (hr.imp_ (fun _ _ hq => k72.K_of_M hq))
  rcases ho.2 with ⟨rfl, hn⟩ | ⟨g, cap, cur, rfl, hg, hh, hcap, hm, hcs, hcur⟩
  · rw [hn] at hp
    exact absurd hp (Nat.lt_irrefl 0)
  · refine ⟨g, cap, rfl, hcap, hg, cur.toList.drop (rc xs).length, ?_⟩
    unfold Holds
    have e : rc xs ++ cur.toList.drop (rc xs).length = cur.toList := by
      have hl : (rc xs).length = xs.length * k72.sz := by rw [rc_length, sz72, Nat.mul_comm]
      rw [hl, ← hcur, List.take_append_drop]
    rw [e]
    exact hh
/-- A read. -/
theorem row_load {ops : Array Oper} {rest : List Oper} {o : Oper} {a : Act} {Q : Exit → Act → World → Prop} {W : World} {g : Nat} {xs : List S72} {i : Nat} {d : S72} (h : Row W g xs) (hi : xs[i]? = some d) (hgd : o.guard = none) {x : Operand} (ho : o.op = .load 72 x) (hx : a.eval x = .pointer (some ⟨g, i * 11, none⟩))
    (hk : wpList Try.prog ops Q rest (a.put o.dst (ev d)) W) : wpList Try.prog ops Q (o :: rest) a W := by
  obtain ⟨r, h⟩ := h
  exact load_event hgd ho hx h (seg := ec d) (rc_at xs i d r hi) Try.underlying72 rfl size72 hk
/-- A store. -/
theorem row_set {W : World} {g : Nat} {xs : List S72} {i : Nat} (h : Row W g xs) (hi : i < xs.length) (d : S72) : Row (W.setCells g (i * 11) (ec d)) g (xs.set i d) := by
  obtain ⟨r, h⟩ := h
  refine ⟨r, ?_⟩
  have h1 := holds_cells (vs := ec d) h (o := i * 11) (by rw [List.length_append, rc_length]; show i * 11 + 11 ≤ _; omega)
  rw [rc_set xs i d r hi] at h1
  exact h1
theorem row_store {ops : Array Oper} {rest : List Oper} {o : Oper} {a : Act} {Q : Exit → Act → World → Prop} {W : World} {g : Nat} {xs : List S72} {i : Nat} {d : S72} (h : Row W g xs) (hi : i < xs.length) (hgd : o.guard = none) {x y : Operand} (ho : o.op = .store 72 x y) (hN : o.dst = none) (hx : a.eval x = .pointer (some ⟨g, i * 11, none⟩)) (hy : a.eval y = ev d)
    (hk : ∀ w1, Row w1 g (xs.set i d) → Stored W w1 g → wpList Try.prog ops Q rest a w1) : wpList Try.prog ops Q (o :: rest) a W := by
  have h2 := row_set h hi d
  obtain ⟨r, h⟩ := h
  refine wpList_plain hgd fun K hK => ?_
  unfold Oper.wp execOp
  have hrun := run_store_agg (P := Try.prog) (off := i * 11) (vs := (ec d).toArray) h (by rw [List.length_append, rc_length]; show i * 11 + 11 ≤ _; omega) size72 (one11 d)
  simp only [ho, hx, hy, hrun, Sem.run_bind, Sem.run_pure, Result.andThen_ok]
  show K (a.put o.dst undef) _
  rw [hN]
  exact hK _ _ (hk _ h2 (stored_cells _ _ _ _))
theorem row_store_skip {o : Oper} {a : Act} {W : World} {g : Nat} {xs : List S72} {i : Nat} {d : S72} (h : Row W g xs) (hi : i < xs.length) {x y : Operand} (ho : o.op = .store 72 x y) (hx : a.eval x = .pointer (some ⟨g, i * 11, none⟩)) (hy : a.eval y = ev d) : (execOp a.eval o).run Try.prog W = .ok .skip (W.setCells g (i * 11) (ec d)) := by
  obtain ⟨r, h⟩ := h
  exact store_skip ho hx hy h (vs := (ec d).toArray) (by rw [List.length_append, rc_length]; show i * 11 + 11 ≤ _; omega) size72 (one11 d)
theorem row_load_exec {o : Oper} {a : Act} {W : World} {g : Nat} {xs : List S72} {i : Nat} {d : S72} (h : Row W g xs) (hi : xs[i]? = some d) {x : Operand} (ho : o.op = .load 72 x) (hx : a.eval x = .pointer (some ⟨g, i * 11, none⟩)) : (execOp a.eval o).run Try.prog W = .ok (.value (ev d)) W := by
  obtain ⟨r, h⟩ := h
  have h1 := run_load_agg (P := Try.prog) (seg := ec d) h (rc_at xs i d r hi) Try.underlying72 rfl size72
  unfold execOp
  simp only [ho, hx, h1, Sem.run_bind, Sem.run_pure, Result.andThen_ok]
end Go.Proofs.Ytgojfecpknonlaa.Ev

