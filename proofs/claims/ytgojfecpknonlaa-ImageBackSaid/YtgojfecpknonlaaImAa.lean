/- A shape taken off bytes (function 74): what is taken, and what lies under way. -/
import Derived.Test.YtgojfecpknonlaaImZ
import Derived.Test.YtgojfecpknonlaaWeaveC
namespace Go.Proofs.Ytgojfecpknonlaa.Im
open Go.RowKit Go.Proofs.YtgojfecpknonlaaW.PrintWords Go.Proofs.YtgojfecpknonlaaW.PrintLast Go.Proofs.YtgojfecpknonlaaW.PrintMore
open Go.Proofs.Ytgojfecpknonlaa.Own Go.Proofs.Ytgojfecpknonlaa.PIm Go.Proofs.Ytgojfecpknonlaa.Wv
set_option linter.unusedVariables false
set_option linter.unusedSimpArgs false

/-- A number of n bytes; n references; n data: taken off a row of bytes. -/
def tk (n : Nat) (L : List Int) : Option (Int × List Int) := if L.length < n then none else some (ub (L.take n), L.drop n)
def rf (n : Nat) (L : List Int) : Option (List Int × List Int) := if L.length < 2 * n then none else some (refsL n L, L.drop (2 * n))
def dataL (n : Nat) (L : List Int) : List Int := (List.range n).map (fun i => ub ((L.drop (8 * i)).take 8))
def dl (n : Nat) (L : List Int) : Option (List Int × List Int) := if L.length < 8 * n then none else some (dataL n L, L.drop (8 * n))
def itN {α : Type} (f : List Int → Option (α × List Int)) : Nat → List Int → Option (List α × List Int)
  | 0, L => some ([], L)
  | n + 1, L => (itN f n L).bind fun p => (f p.2).map fun q => (p.1 ++ [q.1], q.2)
def dT (s : Nat) (L : List Int) : Option (S124 × List Int) := (rf s L).bind fun p => (tk 1 p.2).bind fun q => (rf q.1.toNat q.2).map fun r => (⟨p.1, r.1⟩, r.2)
def dN (L : List Int) : Option (S127 × List Int) := (tk 1 L).bind fun p => (tk 1 p.2).bind fun q => (rf p.1.toNat q.2).bind fun r => (dl q.1.toNat r.2).map fun s => (⟨r.1, s.1⟩, s.2)
def dEnd (T : List S124) (G : List Int) (N : List S127) (L : List Int) : Option Sh := if L = [] ∧ N.length ≤ 1000 then some ⟨T, G, N⟩ else none
def dNs (T : List S124) (G : List Int) (n : Nat) (L : List Int) : Option Sh := (itN dN n L).bind fun p => dEnd T G p.1 p.2
def dG (T : List S124) (L : List Int) : Option Sh := (tk 1 L).bind fun p => (rf p.1.toNat p.2).bind fun q => (tk 2 q.2).bind fun r => dNs T q.1 r.1.toNat r.2
def dTs (s t : Nat) (L : List Int) : Option Sh := (itN (dT s) t L).bind fun p => dG p.1 p.2
def dHd (L : List Int) : Option Sh := (tk 1 L).bind fun p => (tk 1 p.2).bind fun q => dTs q.1.toNat p.1.toNat q.2
/-- The shape that bytes are, or none. -/
def decF (L : List Int) : Option Sh := if L.take 4 = magicB then dHd (L.drop 4) else none
theorem tk_lt {n : Nat} {L : List Int} (h : L.length < n) : tk n L = none := if_pos h
theorem tk_ge {n : Nat} {L : List Int} (h : n ≤ L.length) : tk n L = some (ub (L.take n), L.drop n) := if_neg (by omega)
theorem rf_lt {n : Nat} {L : List Int} (h : L.length < 2 * n) : rf n L = none := if_pos h
theorem rf_ge {n : Nat} {L : List Int} (h : 2 * n ≤ L.length) : rf n L = some (refsL n L, L.drop (2 * n)) := if_neg (by omega)
theorem dl_lt {n : Nat} {L : List Int} (h : L.length < 8 * n) : dl n L = none := if_pos h
theorem dl_ge {n : Nat} {L : List Int} (h : 8 * n ≤ L.length) : dl n L = some (dataL n L, L.drop (8 * n)) := if_neg (by omega)
theorem dataL_succ (n : Nat) (L : List Int) : dataL (n + 1) L = dataL n L ++ [ub ((L.drop (8 * n)).take 8)] := by
  unfold dataL
  rw [List.range_succ, List.map_append]
  rfl
theorem dataL_length (n : Nat) (L : List Int) : (dataL n L).length = n := by simp [dataL]
theorem itN_none {α : Type} {f : List Int → Option (α × List Int)} {L : List Int} {m n : Nat} (h : itN f m L = none) (hmn : m ≤ n) : itN f n L = none := by
  induction n with
  | zero =>
    obtain rfl : m = 0 := by omega
    cases h
  | succ n ih =>
    by_cases e : m = n + 1
    · rw [← e]; exact h
    · unfold itN
      rw [ih (by omega)]
      rfl
theorem itN_some {α : Type} {f : List Int → Option (α × List Int)} {L M M' : List Int} {n : Nat} {xs : List α} {x : α} (h : itN f n L = some (xs, M)) (hx : f M = some (x, M')) : itN f (n + 1) L = some (xs ++ [x], M') := by
  unfold itN
  rw [h]
  show (f M).map _ = _
  rw [hx]
  rfl
theorem itN_stop {α : Type} {f : List Int → Option (α × List Int)} {L M : List Int} {n : Nat} {xs : List α} (h : itN f n L = some (xs, M)) (hx : f M = none) : itN f (n + 1) L = none := by
  unfold itN
  rw [h]
  show (f M).map _ = _
  rw [hx]
  rfl
theorem itN_length {α : Type} {f : List Int → Option (α × List Int)} : ∀ {n : Nat} {L : List Int} {p : List α × List Int}, itN f n L = some p → p.1.length = n
  | 0, L, p, h => by
    obtain rfl := Option.some.inj h
    rfl
  | n + 1, L, p, h => by
    unfold itN at h
    cases hi : itN f n L with
    | none => rw [hi] at h; cases h
    | some q =>
      rw [hi] at h
      change (f q.2).map _ = _ at h
      cases hf : f q.2 with
      | none => rw [hf] at h; cases h
      | some r =>
        rw [hf] at h
        obtain rfl := Option.some.inj h
        show (q.1 ++ [r.1]).length = n + 1
        rw [List.length_append, itN_length hi]
        rfl
/-! What lies under way. -/
abbrev Rw (k : IntKind) (e : Nat) (W : World) (B : Nat) (u : Value) (xs : List Int) : Prop := Kd.R (Kd.int k) e W B (fun _ => True) u xs
def Els2 {α : Type} (f0 f1 : α → List Int) (k : IntKind) (e : Nat) (W : World) (B : Nat) (ps : List (Value × Value)) (T : List α) : Prop :=
  ps.length = T.length ∧ ∀ (i : Nat) (p : Value × Value) (t : α), ps[i]? = some p → T[i]? = some t → Rw .i64 3 W B p.1 (f0 t) ∧ Rw k e W B p.2 (f1 t)
theorem R_typed {α : Type} {d : Kd α} {e B : Nat} {ok : Nat → Prop} {w : World} {v : Value} {xs : List α} (h : d.R e w B ok v xs) : ∀ q, v.ownBlock = some q → ∃ cells, w.heap[q]? = some (.cells cells e (0, 0)) := fun q hq => by
  obtain ⟨inner, ho⟩ := Kd.R_own h
  exact own_typed ho q hq
def Off (S : Nat → Prop) (e : Nat) (W : World) : Prop := ∀ k cells fr, W.heap[k]? = some (.cells cells e fr) → ¬ S k
theorem off_cell {W : World} {g t e : Nat} {cs : List Value} (h : Holds W g t cs) (ht : t ≠ e) : Off (fun q => q = g) e W := fun k cells fr hc hq => by
  subst hq
  have := hc.symm.trans h
  injection this with this
  injection this with _ this
  exact ht this.symm
theorem off_row {α : Type} {d : Kd α} {t e B : Nat} {ok : Nat → Prop} {W : World} {v : Value} {xs : List α} (h : d.R t W B ok v xs) (ht : t ≠ e) : Off (fun q => some q = v.ownBlock) e W := fun k cells fr hc hq => by
  obtain ⟨cs, hcs⟩ := R_typed h k hq.symm
  have := hc.symm.trans hcs
  injection this with this
  injection this with _ this
  exact ht this.symm
section
variable {S : Nat → Prop} {W W' : World} {B : Nat}
theorem Kp.rw {k : IntKind} {e : Nat} {u : Value} {xs : List Int} (hk : Kp S W W') (h : Rw k e W B u xs) (hS : Off S e W) : Rw k e W' B u xs :=
  hk.RI h (fun q hq => by obtain ⟨cs, hc⟩ := R_typed h q hq; exact hS q cs _ hc)
theorem Kp.hold {g t : Nat} {cs : List Value} (hk : Kp S W W') (h : Holds W g t cs) (hS : Off S t W) : Holds W' g t cs := hk.holds h (hS g _ _ h)
theorem Els2.kp {α : Type} {f0 f1 : α → List Int} {k : IntKind} {e : Nat} {ps : List (Value × Value)} {T : List α} (hk : Kp S W W') (h : Els2 f0 f1 k e W B ps T) (h3 : Off S 3 W) (he : Off S e W) : Els2 f0 f1 k e W' B ps T :=
  ⟨h.1, fun i p t hp ht => ⟨hk.rw (h.2 i p t hp ht).1 h3, hk.rw (h.2 i p t hp ht).2 he⟩⟩
theorem Els2.push {α : Type} {f0 f1 : α → List Int} {k : IntKind} {e : Nat} {ps : List (Value × Value)} {T : List α} {p : Value × Value} {t : α} (h : Els2 f0 f1 k e W B ps T) (h0 : Rw .i64 3 W B p.1 (f0 t)) (h1 : Rw k e W B p.2 (f1 t)) : Els2 f0 f1 k e W B (ps ++ [p]) (T ++ [t]) := by
  refine ⟨by rw [List.length_append, List.length_append, h.1]; rfl, fun i q u hq hu => ?_⟩
  by_cases hi : i < ps.length
  · rw [List.getElem?_append_left hi] at hq
    rw [List.getElem?_append_left (by rw [← h.1]; exact hi)] at hu
    exact h.2 i q u hq hu
  · rw [List.getElem?_append_right (by omega)] at hq
    rw [List.getElem?_append_right (by rw [← h.1]; omega)] at hu
    have h2 : i - ps.length = 0 := by
      rcases Nat.eq_zero_or_pos (i - ps.length) with h | h
      · exact h
      · rw [List.getElem?_eq_none (by simp; omega)] at hq
        cases hq
    rw [h2] at hq
    rw [← h.1, h2] at hu
    obtain rfl := Option.some.inj hq
    obtain rfl := Option.some.inj hu
    exact ⟨h0, h1⟩
theorem kp_below (S : Nat → Prop) (h : Below W.heap.size W W') : Kp S W W' := ⟨h.os, h.tape, h.output, h.size, fun k hk _ => h.block k hk⟩
theorem kp_stored {g : Nat} (h : Stored W W' g) : Kp (fun q => q = g) W W' := ⟨h.os, h.tape, h.output, Nat.le_of_eq h.size.symm, fun k _ hk => h.block k hk⟩
end
structure SI (B gb g2 g3 g4 : Nat) (w00 : World) (vT vG vN : Value) (ps qs : List (Value × Value)) (T : List S124) (G : List Int) (N : List S127) (L : List Int) (W : World) : Prop where
  cb : Holds W gb 9 [.string (strOfNums L)]
  cs : Holds W g2 89 [vT, vG, vN]
  cg : Holds W g3 4 [.bool false]
  cf : Holds W g4 164 [f105V gb]
  rT : Kd.R kraw 128 W B (fun _ => True) vT ps
  eT : Els2 S124.f0 S124.f1 .i64 3 W B ps T
  rG : Rw .i64 3 W B vG G
  rN : Kd.R kraw 131 W B (fun _ => True) vN qs
  eN : Els2 S127.f0 S127.f1 .u64 56 W B qs N
  below : Below B w00 W
  size : B ≤ W.heap.size
section
variable {B gb g2 g3 g4 : Nat} {w00 : World} {vT vG vN : Value} {ps qs : List (Value × Value)} {T : List S124} {G : List Int} {N : List S127} {L L' : List Int} {W W' : World}
theorem SI.kp (h : SI B gb g2 g3 g4 w00 vT vG vN ps qs T G N L W) (hB : B ≤ gb) (hk : Kp (fun q => q = gb) W W') (hb : Holds W' gb 9 [.string (strOfNums L')]) : SI B gb g2 g3 g4 w00 vT vG vN ps qs T G N L' W' :=
  have o := fun (e : Nat) (he : 9 ≠ e) => off_cell (e := e) h.cb he
  ⟨hb, hk.hold h.cs (o 89 (by decide)), hk.hold h.cg (o 4 (by decide)), hk.hold h.cf (o 164 (by decide)), raw_step hk h.rT (o 128 (by decide)), Els2.kp hk h.eT (o 3 (by decide)) (o 3 (by decide)), hk.rw h.rG (o 3 (by decide)), raw_step hk h.rN (o 131 (by decide)), Els2.kp hk h.eN (o 3 (by decide)) (o 56 (by decide)), hk.below h.below h.size (fun k hk => by subst hk; exact hB), Nat.le_trans h.size hk.size⟩
theorem SI.flow (h : SI B gb g2 g3 g4 w00 vT vG vN ps qs T G N L W) (hB : B ≤ gb) (hb : Below W.heap.size W W') : SI B gb g2 g3 g4 w00 vT vG vN ps qs T G N L W' := h.kp hB (kp_below _ hb) (h.cb.below hb)
theorem SI.setG {vG' : Value} {G' : List Int} (h : SI B gb g2 g3 g4 w00 vT vG vN ps qs T G N L W) (hB : B ≤ g2) (hr : Rw .i64 3 W B vG' G') : SI B gb g2 g3 g4 w00 vT vG' vN ps qs T G' N L (W.setCells g2 1 [vG']) :=
  have hk := kp_stored (stored_cells W g2 1 [vG'])
  have o := fun (e : Nat) (he : 89 ≠ e) => off_cell (e := e) h.cs he
  ⟨hk.hold h.cb (o 9 (by decide)), holds_cells (vs := [vG']) h.cs (by show 1 + 1 ≤ 3; decide), hk.hold h.cg (o 4 (by decide)), hk.hold h.cf (o 164 (by decide)), raw_step hk h.rT (o 128 (by decide)), Els2.kp hk h.eT (o 3 (by decide)) (o 3 (by decide)), hk.rw hr (o 3 (by decide)), raw_step hk h.rN (o 131 (by decide)), Els2.kp hk h.eN (o 3 (by decide)) (o 56 (by decide)), hk.below h.below h.size (fun k hk => by subst hk; exact hB), Nat.le_trans h.size hk.size⟩
theorem SI.pushT {vT' : Value} {p : Value × Value} {t : S124} (h : SI B gb g2 g3 g4 w00 vT vG vN ps qs T G N L W) (hB : B ≤ g2) (h0 : Rw .i64 3 W B p.1 t.f0) (h1 : Rw .i64 3 W B p.2 t.f1) (hg : W.grownBy W' vT.ownBlock) (hr : Kd.R kraw 128 W' B (fun _ => True) vT' (ps ++ [p])) : SI B gb g2 g3 g4 w00 vT' vG vN (ps ++ [p]) qs (T ++ [t]) G N L (W'.setCells g2 0 [vT']) :=
  have hk1 := Kp.of_grown hg
  have o1 := fun (e : Nat) (he : 128 ≠ e) => off_row (e := e) h.rT he
  have hcs : Holds W' g2 89 [vT, vG, vN] := hk1.hold h.cs (o1 89 (by decide))
  have hk := kp_stored (stored_cells W' g2 0 [vT'])
  have o := fun (e : Nat) (he : 89 ≠ e) => off_cell (e := e) hcs he
  ⟨hk.hold (hk1.hold h.cb (o1 9 (by decide))) (o 9 (by decide)), holds_cells (vs := [vT']) hcs (by show 0 + 1 ≤ 3; decide), hk.hold (hk1.hold h.cg (o1 4 (by decide))) (o 4 (by decide)), hk.hold (hk1.hold h.cf (o1 164 (by decide))) (o 164 (by decide)), raw_step hk hr (o 128 (by decide)), Els2.kp hk (Els2.kp hk1 (h.eT.push h0 h1) (o1 3 (by decide)) (o1 3 (by decide))) (o 3 (by decide)) (o 3 (by decide)), hk.rw (hk1.rw h.rG (o1 3 (by decide))) (o 3 (by decide)), raw_step hk (raw_step hk1 h.rN (o1 131 (by decide))) (o 131 (by decide)), Els2.kp hk (Els2.kp hk1 h.eN (o1 3 (by decide)) (o1 56 (by decide))) (o 3 (by decide)) (o 56 (by decide)), hk.below (h.below.grown hg h.size (Kd.R_base h.rT)) (Nat.le_trans h.size hg.size) (fun k hk => by subst hk; exact hB), Nat.le_trans (Nat.le_trans h.size hg.size) hk.size⟩
theorem SI.pushN {vN' : Value} {p : Value × Value} {t : S127} (h : SI B gb g2 g3 g4 w00 vT vG vN ps qs T G N L W) (hB : B ≤ g2) (h0 : Rw .i64 3 W B p.1 t.f0) (h1 : Rw .u64 56 W B p.2 t.f1) (hg : W.grownBy W' vN.ownBlock) (hr : Kd.R kraw 131 W' B (fun _ => True) vN' (qs ++ [p])) : SI B gb g2 g3 g4 w00 vT vG vN' ps (qs ++ [p]) T G (N ++ [t]) L (W'.setCells g2 2 [vN']) :=
  have hk1 := Kp.of_grown hg
  have o1 := fun (e : Nat) (he : 131 ≠ e) => off_row (e := e) h.rN he
  have hcs : Holds W' g2 89 [vT, vG, vN] := hk1.hold h.cs (o1 89 (by decide))
  have hk := kp_stored (stored_cells W' g2 2 [vN'])
  have o := fun (e : Nat) (he : 89 ≠ e) => off_cell (e := e) hcs he
  ⟨hk.hold (hk1.hold h.cb (o1 9 (by decide))) (o 9 (by decide)), holds_cells (vs := [vN']) hcs (by show 2 + 1 ≤ 3; decide), hk.hold (hk1.hold h.cg (o1 4 (by decide))) (o 4 (by decide)), hk.hold (hk1.hold h.cf (o1 164 (by decide))) (o 164 (by decide)), raw_step hk (raw_step hk1 h.rT (o1 128 (by decide))) (o 128 (by decide)), Els2.kp hk (Els2.kp hk1 h.eT (o1 3 (by decide)) (o1 3 (by decide))) (o 3 (by decide)) (o 3 (by decide)), hk.rw (hk1.rw h.rG (o1 3 (by decide))) (o 3 (by decide)), raw_step hk hr (o 131 (by decide)), Els2.kp hk (Els2.kp hk1 (h.eN.push h0 h1) (o1 3 (by decide)) (o1 56 (by decide))) (o 3 (by decide)) (o 56 (by decide)), hk.below (h.below.grown hg h.size (Kd.R_base h.rN)) (Nat.le_trans h.size hg.size) (fun k hk => by subst hk; exact hB), Nat.le_trans (Nat.le_trans h.size hg.size) hk.size⟩
theorem SI.shape (h : SI B gb g2 g3 g4 w00 vT vG vN ps qs T G N L W) : IsSh W (.agg #[vT, vG, vN]) ⟨T, G, N⟩ := by
  obtain ⟨AT, cT, rfl⟩ := Kd.R_slice h.rT
  obtain ⟨AG, cG, rfl⟩ := Kd.R_slice h.rG
  obtain ⟨AN, cN, rfl⟩ := Kd.R_slice h.rN
  have hT := h.rT
  have hN := h.rN
  have hG := R_iv h.rG
  obtain ⟨AG', cG', e, hg1, hg2⟩ := hG
  injection e with e1 e2 e3
  subst e1 e3
  rw [h.eT.1] at hT
  rw [h.eN.1] at hN
  obtain ⟨lT, kT⟩ := els_T (vT := undef) hT h.eT.1 (fun i p t hp ht => ⟨R_iv (h.eT.2 i p t hp ht).1, R_iv (h.eT.2 i p t hp ht).2⟩)
  obtain ⟨lN, kN⟩ := els_N (vT := undef) hN h.eN.1 (fun i p t hp ht => ⟨R_iv (h.eN.2 i p t hp ht).1, R_iv (h.eN.2 i p t hp ht).2⟩)
  exact ⟨AT, cT, AG, cG, AN, cN, by rw [h.eT.1, h.eN.1], lT, kT, hg1, hg2, lN, kN⟩
end
end Go.Proofs.Ytgojfecpknonlaa.Im

