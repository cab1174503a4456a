/- Rows of pairs of slices, as they lie; what hangs on them. -/
import Derived.Test.YtgojfecpknonlaaImD
import Derived.Test.YtgojfecpknonlaaWeave
namespace Go.Proofs.Ytgojfecpknonlaa.Im
open Go.RowKit Go.Proofs.YtgojfecpknonlaaW.PrintWords Go.Proofs.YtgojfecpknonlaaW.PrintLast Go.Proofs.YtgojfecpknonlaaW.PrintMore
open Go.Proofs.Ytgojfecpknonlaa.Own Go.Proofs.Ytgojfecpknonlaa.PIm Go.Proofs.Ytgojfecpknonlaa.Wv
set_option linter.unusedVariables false
set_option linter.unusedSimpArgs false

/-- A pair of values, as they lie. -/
def kraw : Kd (Value × Value) where
  sz := 2
  E := []
  K := fun _ p cs => cs = [p.1, p.2] ∧ p.1.oneCell' = true ∧ p.2.oneCell' = true
  M := fun _ _ _ p cs => cs = [p.1, p.2] ∧ p.1.oneCell' = true ∧ p.2.oneCell' = true
  K_len := fun h => by rw [h.1]; rfl
  K_one := fun h u hu => by
    rw [h.1] at hu
    rcases List.mem_cons.1 hu with rfl | hu
    · exact h.2.1
    · rcases List.mem_cons.1 hu with rfl | hu
      · exact h.2.2
      · cases hu
  K_below := fun _ h => h
  K_of_M := fun h => h
  M_mono := fun _ h => h
  M_bound := fun h => h
  M_move := fun _ h => h
  M_lower := fun _ h => h
theorem kraw_mk (w : World) (p : Value × Value) (h1 : p.1.oneCell' = true) (h2 : p.2.oneCell' = true) : kraw.K w p [p.1, p.2] := ⟨rfl, h1, h2⟩
/-- Rows of ints of the call's own, apart from what v owns. -/
abbrev OI (k : IntKind) (e : Nat) (w : World) (B : Nat) (v u : Value) (xs : List Int) : Prop := Kd.R (Kd.int k) e w B (fun q => True ∧ some q ≠ v.ownBlock) u xs
theorem R_iv {k : IntKind} {e : Nat} {w : World} {B : Nat} {ok : Nat → Prop} {u : Value} {xs : List Int} (h : Kd.R (Kd.int k) e w B ok u xs) : IV k w u xs := Kd.R_reads h
theorem IV.one {k : IntKind} {w : World} {u : Value} {xs : List Int} (h : IV k w u xs) : u.oneCell' = true := by
  obtain ⟨A, c, rfl, _, _⟩ := h
  rfl
/-- What hangs on a row of pairs: for each its two slices, rows of the call's own. -/
def Els {α : Type} (f0 f1 : α → List Int) (k : IntKind) (e : Nat) (w : World) (B : Nat) (v : Value) (ps : List (Value × Value)) (T : List α) : Prop :=
  ps.length = T.length ∧ ∀ (i : Nat) (p : Value × Value) (t : α), ps[i]? = some p → T[i]? = some t → OI .i64 3 w B v p.1 (f0 t) ∧ OI k e w B v p.2 (f1 t)
section
variable {α : Type} {f0 f1 : α → List Int} {k : IntKind} {e : Nat} {w w1 : World} {B : Nat} {v v1 : Value} {ps : List (Value × Value)} {T : List α}
theorem Els.nil : Els f0 f1 k e w B v [] [] := ⟨rfl, fun i p t h => by simp at h⟩
theorem Els.grown (h : Els f0 f1 k e w B v ps T) (hg : w.grownBy w1 v.ownBlock) : Els f0 f1 k e w1 B v ps T :=
  ⟨h.1, fun i p t hp ht => ⟨Kd.R_grown (h.2 i p t hp ht).1 hg (fun q hq => hq.2), Kd.R_grown (h.2 i p t hp ht).2 hg (fun q hq => hq.2)⟩⟩
theorem Els.after (h : Els f0 f1 k e w B v ps T) (hg : w.grownBy w1 v.ownBlock) (hat : v1.ownBlock = v.ownBlock ∨ ∃ b, v1.ownBlock = some b ∧ w.heap.size ≤ b) : Els f0 f1 k e w1 B v1 ps T :=
  ⟨h.1, fun i p t hp ht => ⟨Kd.R_after (h.2 i p t hp ht).1 hg hat, Kd.R_after (h.2 i p t hp ht).2 hg hat⟩⟩
theorem Els.push {p : Value × Value} {t : α} (h : Els f0 f1 k e w B v ps T) (h0 : OI .i64 3 w B v p.1 (f0 t)) (h1 : OI k e w B v p.2 (f1 t)) : Els f0 f1 k e w B v (ps ++ [p]) (T ++ [t]) := by
  refine ⟨by simp [h.1], fun i q u hq hu => ?_⟩
  rcases Nat.lt_or_ge i ps.length with hi | hi
  · rw [List.getElem?_append_left hi] at hq
    rw [List.getElem?_append_left (by rw [← h.1]; exact hi)] at hu
    exact h.2 i q u hq hu
  · have hl := h.1
    rw [List.getElem?_append_right hi] at hq
    rw [List.getElem?_append_right (by omega)] at hu
    rw [← hl] at hu
    have hz : i - ps.length = 0 := by
      rcases Nat.eq_zero_or_pos (i - ps.length) with h2 | h2
      · exact h2
      · rw [List.getElem?_eq_none (by simp; omega)] at hq
        cases hq
    rw [hz] at hq hu
    obtain rfl : p = q := by simpa using hq
    obtain rfl : t = u := by simpa using hu
    exact ⟨h0, h1⟩
theorem Els.below (h : Els f0 f1 k e w B v ps T) (hb : Below w.heap.size w w1) : Els f0 f1 k e w1 B v ps T := h.grown (grown_of_below hb _)
end
/-- A row of pairs whose pairs read so, read. -/
theorem C_zip {α : Type} {d : Kd α} (hsz : d.sz = 2) {w : World} {A : Option Addr} {ps : List (Value × Value)} {T : List α} (hl : ps.length = T.length) (hC : Kd.C kraw w A ps.length ps)
    (h : ∀ (i : Nat) (p : Value × Value) (t : α), ps[i]? = some p → T[i]? = some t → d.K w t [p.1, p.2]) : Kd.C d w A T.length T := by
  have hm := Kd.C_max hC
  refine ⟨rfl, by omega, fun h0 => ?_⟩
  obtain ⟨ad, e1, h2⟩ := hC.2.2 (by omega)
  refine ⟨ad, e1, fun j t ht => ?_⟩
  have hj : j < ps.length := by rw [hl]; exact (List.getElem?_eq_some_iff.1 ht).1
  obtain ⟨c, hc, hk, hcell⟩ := h2 j _ (List.getElem?_eq_getElem hj)
  rw [hk.1] at hc hcell
  refine ⟨_, hc.trans hsz.symm, h j _ t (List.getElem?_eq_getElem hj) ht, fun i u hu => ?_⟩
  rw [hsz]
  exact hcell i u hu
theorem k124_iv {w : World} {t : S124} {p : Value × Value} (h0 : IV .i64 w p.1 t.f0) (h1 : IV .i64 w p.2 t.f1) : k124.K w t [p.1, p.2] := by
  obtain ⟨p0, p1⟩ := p
  obtain ⟨A0, c0, e0, l0, g0⟩ := h0
  obtain ⟨A1, c1, e1, l1, g1⟩ := h1
  simp only at e0 e1
  subst e0 e1
  exact k124_mk w t l0 g0 l1 g1
theorem k127_iv {w : World} {t : S127} {p : Value × Value} (h0 : IV .i64 w p.1 t.f0) (h1 : IV .u64 w p.2 t.f1) : k127.K w t [p.1, p.2] := by
  obtain ⟨p0, p1⟩ := p
  obtain ⟨A0, c0, e0, l0, g0⟩ := h0
  obtain ⟨A1, c1, e1, l1, g1⟩ := h1
  simp only at e0 e1
  subst e0 e1
  exact k127_mk w t l0 g0 l1 g1
section
variable {o : Oper} {a : Act} {W : World}
theorem append_exec {α : Type} (d : Kd α) {w0 : World} (base : Nat) {s x : Operand} (t e : TypeId) (z : Value) (bytes : Nat)
    (ho : o.op = .call { callee := .builtin .append, args := #[s, x], argTypes := #[t, t] })
    (ht : Try.prog.underlying t = some (.slice e)) (hinfo : (Try.prog.info? e).map (fun i => (i.zero, i.size, i.bytes)) = some (some z, d.sz, bytes)) (hz : z.cells.size = d.sz) (hs0 : 0 < d.sz) (hb0 : 0 < bytes)
    (v : Value) (xs ys : List α) (A : Option Addr) (m c : Nat) (ok : Nat → Prop) (hs : a.eval s = v) (hx : a.eval x = .slice A m c)
    (hflat : ∀ (W1 : World) (ok' : Nat → Prop) (q : α) (cs : List Value), d.K W q cs → d.M W1 base ok' q cs)
    (hfresh : ∀ k, W.heap.size ≤ k → ok k)
    (HO : d.R e W base ok v xs) (HR : d.C W A m ys) (HB : Below base w0 W) (hbase : base ≤ W.heap.size) (hl : (xs.length + m) * bytes ≤ 140737488355328) :
    ∃ v1 w1, (execOp a.eval o).run Try.prog W = .ok (.value v1) w1 ∧ d.R e w1 base ok v1 (xs ++ ys) ∧ Below base w0 w1 ∧ W.grownBy w1 v.ownBlock ∧ (v1.ownBlock = v.ownBlock ∨ ∃ b, v1.ownBlock = some b ∧ W.heap.size ≤ b) := by
  obtain ⟨v1, w1, hr, ho1, hb1, hg1, hat1⟩ := run_append_row (P := Try.prog) d (w0 := w0) base t o.type e z bytes ht hinfo hz hs0 hb0 v xs ys A m c ok hflat hfresh HO HR HB hbase hl
  refine ⟨v1, w1, ?_, ho1, hb1, hg1, hat1⟩
  unfold execOp
  simp only [ho, resolve, invoke, builtin, Sem.run_bind, Sem.run_pure, Result.andThen_ok, List.map_toArray, List.map_cons, List.map_nil, hs, hx, hr]
theorem append_wp {α : Type} {Q : Exit → Act → World → Prop} {K : Act → World → Prop} (d : Kd α) {w0 : World} (base : Nat) {s x : Operand} (t e : TypeId) (z : Value) (bytes : Nat)
    (ho : o.op = .call { callee := .builtin .append, args := #[s, x], argTypes := #[t, t] })
    (ht : Try.prog.underlying t = some (.slice e)) (hinfo : (Try.prog.info? e).map (fun i => (i.zero, i.size, i.bytes)) = some (some z, d.sz, bytes)) (hz : z.cells.size = d.sz) (hs0 : 0 < d.sz) (hb0 : 0 < bytes)
    (v : Value) (xs ys : List α) (A : Option Addr) (m c : Nat) (ok : Nat → Prop) (hs : a.eval s = v) (hx : a.eval x = .slice A m c)
    (hflat : ∀ (W1 : World) (ok' : Nat → Prop) (q : α) (cs : List Value), d.K W q cs → d.M W1 base ok' q cs)
    (hfresh : ∀ k, W.heap.size ≤ k → ok k)
    (HO : d.R e W base ok v xs) (HR : d.C W A m ys) (HB : Below base w0 W) (hbase : base ≤ W.heap.size) (hl : (xs.length + m) * bytes ≤ 140737488355328)
    (h : ∀ v1 w1, d.R e w1 base ok v1 (xs ++ ys) → Below base w0 w1 → W.grownBy w1 v.ownBlock → (v1.ownBlock = v.ownBlock ∨ ∃ b, v1.ownBlock = some b ∧ W.heap.size ≤ b) → K (a.put o.dst v1) w1) : Oper.wp Try.prog o a W K Q := by
  obtain ⟨v1, w1, hr, h1, h2, h3, h4⟩ := append_exec d base t e z bytes ho ht hinfo hz hs0 hb0 v xs ys A m c ok hs hx hflat hfresh HO HR HB hbase hl
  exact wp_val hr (h v1 w1 h1 h2 h3 h4)
end
end Go.Proofs.Ytgojfecpknonlaa.Im

