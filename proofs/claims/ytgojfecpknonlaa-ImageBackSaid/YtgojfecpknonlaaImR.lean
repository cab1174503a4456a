/- A shape as the program has it: function 38. -/
import Derived.Test.YtgojfecpknonlaaImQ
namespace Go.Proofs.Ytgojfecpknonlaa.Im
open Go.RowKit Go.Proofs.YtgojfecpknonlaaW.PrintWords Go.Proofs.YtgojfecpknonlaaW.PrintLast Go.Proofs.YtgojfecpknonlaaW.PrintMore
open Go.Proofs.Ytgojfecpknonlaa.Own Go.Proofs.Ytgojfecpknonlaa.PIm Go.Proofs.Ytgojfecpknonlaa.Wv
set_option linter.unusedVariables false
set_option linter.unusedSimpArgs false

section
variable {o : Oper} {a : Act} {W : World}
theorem load79_exec {x : Operand} {p : Addr} {v : Value} (ho : o.op = .load 79 x) (hx : a.eval x = .pointer (some p)) (hc : W.cell? p = some v) : (execOp a.eval o).run Try.prog W = .ok (.value v) W := by
  unfold execOp
  simp only [ho, hx]
  go_simp
theorem idx79_exec {x y : Operand} {ad : Addr} {n c k : Nat} (ho : o.op = .indexAddr 79 x y) (hx : a.eval x = .slice (some ad) n c) (hy : a.eval y = .int .i64 (k : Int)) (hk : k < n) : (execOp a.eval o).run Try.prog W = .ok (.value (.pointer (some (ad.add (k * 2))))) W := by
  unfold execOp
  have h1 : (0 : Int) ≤ (k : Int) := by omega
  have h2 : (k : Int) < (n : Int) := by omega
  simp only [ho, hx, hy]
  go_simp
theorem load80_exec {x : Operand} {p : Addr} {v : Value} (ho : o.op = .load 80 x) (hx : a.eval x = .pointer (some p)) (hc : W.cell? p = some v) : (execOp a.eval o).run Try.prog W = .ok (.value v) W := by
  unfold execOp
  simp only [ho, hx]
  go_simp
theorem idx80_exec {x y : Operand} {ad : Addr} {n c k : Nat} (ho : o.op = .indexAddr 80 x y) (hx : a.eval x = .slice (some ad) n c) (hy : a.eval y = .int .i64 (k : Int)) (hk : k < n) : (execOp a.eval o).run Try.prog W = .ok (.value (.pointer (some (ad.add (k * 2))))) W := by
  unfold execOp
  have h1 : (0 : Int) ≤ (k : Int) := by omega
  have h2 : (k : Int) < (n : Int) := by omega
  simp only [ho, hx, hy]
  go_simp
theorem fa82_exec {x : Operand} {g i : Nat} (hi : i < 3) (ho : o.op = .fieldAddr 82 x i) (hx : a.eval x = .pointer (some ⟨g, 0, none⟩)) : (execOp a.eval o).run Try.prog W = .ok (.value (.pointer (some ⟨g, i, none⟩))) W := by
  have hu := Try.underlying82
  match i, hi with
  | 0, _ | 1, _ | 2, _ =>
    unfold execOp
    simp only [ho, hx]
    go_simp
theorem fa124r0_exec {x : Operand} {ad : Addr} {m : Nat} (ho : o.op = .fieldAddr 124 x 0) (hx : a.eval x = .pointer (some (ad.add m))) : (execOp a.eval o).run Try.prog W = .ok (.value (.pointer (some (ad.add m)))) W := by
  have hu := Try.underlying124
  unfold execOp
  simp only [ho, hx]
  go_simp
theorem fa124r1_exec {x : Operand} {ad : Addr} {m : Nat} (ho : o.op = .fieldAddr 124 x 1) (hx : a.eval x = .pointer (some (ad.add m))) : (execOp a.eval o).run Try.prog W = .ok (.value (.pointer (some ⟨(ad.add m).block, (ad.add m).off + 1, none⟩))) W := by
  have hu := Try.underlying124
  unfold execOp
  simp only [ho, hx]
  go_simp
theorem fa127r0_exec {x : Operand} {ad : Addr} {m : Nat} (ho : o.op = .fieldAddr 127 x 0) (hx : a.eval x = .pointer (some (ad.add m))) : (execOp a.eval o).run Try.prog W = .ok (.value (.pointer (some (ad.add m)))) W := by
  have hu := Try.underlying127
  unfold execOp
  simp only [ho, hx]
  go_simp
theorem fa127r1_exec {x : Operand} {ad : Addr} {m : Nat} (ho : o.op = .fieldAddr 127 x 1) (hx : a.eval x = .pointer (some (ad.add m))) : (execOp a.eval o).run Try.prog W = .ok (.value (.pointer (some ⟨(ad.add m).block, (ad.add m).off + 1, none⟩))) W := by
  have hu := Try.underlying127
  unfold execOp
  simp only [ho, hx]
  go_simp
end
def A38 (e : Nat) (vT x0 x1 v : Value) (w : World) : Prop := ∃ A, v = .slice (some ⟨A, 0, none⟩) 1 1 ∧ Holds w A e [x0, x1] ∧ some A ≠ vT.ownBlock
def V38 (e f B g3 g1 i n c : Nat) (ad : Addr) (ps : List (Value × Value)) (vT x0 x1 : Value) : Nat → Value → World → Prop
  | 0, v, _ => v = .pointer (some ⟨g3, f, none⟩)
  | 1, v, _ => v = vT
  | 2, v, _ => v = .pointer (some ⟨g1, f, none⟩)
  | 3, v, _ => v = .slice (some ad) n c
  | 4, v, _ => v = .int .i64 (i : Int)
  | 5, v, _ => v = .pointer (some (ad.add (i * 2)))
  | 6, v, _ => v = .pointer (some (ad.add (i * 2)))
  | 7, v, _ => v = x0
  | 8, v, _ => v = .pointer (some ⟨g1, f, none⟩)
  | 9, v, _ => v = .slice (some ad) n c
  | 10, v, _ => v = .int .i64 (i : Int)
  | 11, v, _ => v = .pointer (some (ad.add (i * 2)))
  | 12, v, _ => v = .pointer (some ⟨(ad.add (i * 2)).block, (ad.add (i * 2)).off + 1, none⟩)
  | 13, v, _ => v = x1
  | 14, v, _ => v = .agg #[x0, x1]
  | 15, v, w => A38 e vT x0 x1 v w
  | 16, v, w => Kd.R kraw e w B (fun _ => True) v (ps ++ [(x0, x1)])
  | 17, v, _ => v = .pointer (some ⟨g3, f, none⟩)
  | _, _, _ => True
theorem V38_stays (e f B g3 g1 i n c : Nat) (ad : Addr) (ps : List (Value × Value)) (vT x0 x1 : Value) (k j : Nat) (v : Value) (w w' : World) (hij : k ≠ j) (h : V38 e f B g3 g1 i n c ad ps vT x0 x1 j v w) (hb : GA 16 vT.ownBlock k w w') : V38 e f B g3 g1 i n c ad ps vT x0 x1 j v w' := by
  by_cases hj : j = 16
  · subst hj
    exact (show Kd.R kraw e w' B (fun _ => True) v (ps ++ [(x0, x1)]) from Kd.R_below h (hb.other hij))
  · have hg := hb.grown
    unfold V38 at h ⊢
    split at h <;> first | exact h | (obtain ⟨A, h1, h2, h3⟩ := h; exact ⟨A, h1, holds_grown h2 hg h3, h3⟩) | exact absurd rfl hj | trivial
structure OfI (B g1 g2 g3 : Nat) (sh : List Value) (vT vG vX : Value) (ps qs : List (Value × Value)) (w0 W : World) : Prop where
  h1 : Holds W g1 82 sh
  h2 : Holds W g2 89 z89
  h3 : Holds W g3 89 [vT, vG, vX]
  rT : Kd.R kraw 128 W B (fun _ => True) vT ps
  rX : Kd.R kraw 131 W B (fun _ => True) vX qs
  below : Below B w0 W
  size : B ≤ W.heap.size
section
variable {B g1 g2 g3 : Nat} {sh : List Value} {vT vG vX vT' : Value} {ps qs ps' : List (Value × Value)} {w0 W W' : World}
theorem OfI.pushT (h : OfI B g1 g2 g3 sh vT vG vX ps qs w0 W) (hB : B ≤ g3) (h13 : g1 ≠ g3) (h23 : g2 ≠ g3) (hg : W.grownBy W' vT.ownBlock) (hr : Kd.R kraw 128 W' B (fun _ => True) vT' ps') : OfI B g1 g2 g3 sh vT' vG vX ps' qs w0 (W'.setCells g3 0 [vT']) := by
  have hn : ∀ (k : Nat) (cs : Array Value) (t : TypeId) (fr : Nat × Nat), W.heap[k]? = some (.cells cs t fr) → t ≠ 128 → ¬ (some k = vT.ownBlock) := fun k cs t fr ho ht e => by
    obtain ⟨inner, hw⟩ := Kd.R_own h.rT
    obtain ⟨cells, hc⟩ := own_typed hw k e.symm
    rw [ho] at hc
    injection hc with hc
    injection hc with _ hc
    exact ht hc
  have hk := Kp.of_grown hg
  have h3 := hk.holds h.h3 (hn _ _ _ _ h.h3 (by decide))
  have hs := stored_cells W' g3 0 [vT']
  have hraw : ∀ {e : Nat} {v : Value} {l : List (Value × Value)}, e ≠ 89 → Kd.R kraw e W' B (fun _ => True) v l → Kd.R kraw e (W'.setCells g3 0 [vT']) B (fun _ => True) v l := fun he hu => R_other hu h3 (fun q hq => by rcases List.mem_cons.1 hq with rfl | hq; exact he; cases hq) hs
  have ho := raw_step hk h.rX (fun k cs fr hc => hn k cs _ fr hc (by decide))
  exact ⟨hs.holds (hk.holds h.h1 (hn _ _ _ _ h.h1 (by decide))) h13, hs.holds (hk.holds h.h2 (hn _ _ _ _ h.h2 (by decide))) h23, holds_cells (vs := [vT']) h3 (by show 0 + 1 ≤ 3; decide), hraw (by decide) hr, hraw (by decide) ho, hs.below (h.below.grown hg h.size (fun k hk1 => Kd.R_base h.rT k hk1)) hB, by rw [hs.size]; exact Nat.le_trans h.size hg.size⟩
theorem OfI.pushX (h : OfI B g1 g2 g3 sh vT vG vX ps qs w0 W) (hB : B ≤ g3) (h13 : g1 ≠ g3) (h23 : g2 ≠ g3) (hg : W.grownBy W' vX.ownBlock) (hr : Kd.R kraw 131 W' B (fun _ => True) vT' ps') : OfI B g1 g2 g3 sh vT vG vT' ps ps' w0 (W'.setCells g3 2 [vT']) := by
  have hn : ∀ (k : Nat) (cs : Array Value) (t : TypeId) (fr : Nat × Nat), W.heap[k]? = some (.cells cs t fr) → t ≠ 131 → ¬ (some k = vX.ownBlock) := fun k cs t fr ho ht e => by
    obtain ⟨inner, hw⟩ := Kd.R_own h.rX
    obtain ⟨cells, hc⟩ := own_typed hw k e.symm
    rw [ho] at hc
    injection hc with hc
    injection hc with _ hc
    exact ht hc
  have hk := Kp.of_grown hg
  have h3 := hk.holds h.h3 (hn _ _ _ _ h.h3 (by decide))
  have hs := stored_cells W' g3 2 [vT']
  have hraw : ∀ {e : Nat} {v : Value} {l : List (Value × Value)}, e ≠ 89 → Kd.R kraw e W' B (fun _ => True) v l → Kd.R kraw e (W'.setCells g3 2 [vT']) B (fun _ => True) v l := fun he hu => R_other hu h3 (fun q hq => by rcases List.mem_cons.1 hq with rfl | hq; exact he; cases hq) hs
  have ho := raw_step hk h.rT (fun k cs fr hc => hn k cs _ fr hc (by decide))
  exact ⟨hs.holds (hk.holds h.h1 (hn _ _ _ _ h.h1 (by decide))) h13, hs.holds (hk.holds h.h2 (hn _ _ _ _ h.h2 (by decide))) h23, holds_cells (vs := [vT']) h3 (by show 2 + 1 ≤ 3; decide), hraw (by decide) ho, hraw (by decide) hr, hs.below (h.below.grown hg h.size (fun k hk1 => Kd.R_base h.rX k hk1)) hB, by rw [hs.size]; exact Nat.le_trans h.size hg.size⟩
end
/-- What is read along a row of pairs. -/
def Rd {α : Type} (f0 f1 : α → List Int) (k : IntKind) (w : World) (ps : List (Value × Value)) (T : List α) : Prop := ps.length = T.length ∧ ∀ (i : Nat) (p : Value × Value) (t : α), ps[i]? = some p → T[i]? = some t → IV .i64 w p.1 (f0 t) ∧ IV k w p.2 (f1 t)
theorem Rd.nil {α : Type} {f0 f1 : α → List Int} {k : IntKind} {w : World} : Rd f0 f1 k w [] [] := ⟨rfl, fun i p t h => by simp at h⟩
theorem Rd.push {α : Type} {f0 f1 : α → List Int} {k : IntKind} {w : World} {ps : List (Value × Value)} {T : List α} {p : Value × Value} {t : α} (h : Rd f0 f1 k w ps T) (h0 : IV .i64 w p.1 (f0 t)) (h1 : IV k w p.2 (f1 t)) : Rd f0 f1 k w (ps ++ [p]) (T ++ [t]) := by
  refine ⟨by simp [h.1], fun i q u hq hu => ?_⟩
  rcases Nat.lt_or_ge i ps.length with hi | hi
  · rw [List.getElem?_append_left hi] at hq
    rw [List.getElem?_append_left (by rw [← h.1]; exact hi)] at hu
    exact h.2 i q u hq hu
  · have hl := h.1
    rw [List.getElem?_append_right hi] at hq
    rw [List.getElem?_append_right (by omega)] at hu
    rw [← hl] at hu
    have hz : i - ps.length = 0 := by
      rcases Nat.eq_zero_or_pos (i - ps.length) with h2 | h2
      · exact h2
      · rw [List.getElem?_eq_none (by simp; omega)] at hq
        cases hq
    rw [hz] at hq hu
    obtain rfl : p = q := by simpa using hq
    obtain rfl : t = u := by simpa using hu
    exact ⟨h0, h1⟩
set_option maxHeartbeats 4000000 in
set_option maxRecDepth 100000 in
theorem of38_calls (S : Sh) (hS : Mid S) (v : Value) (w : World) (hv : IsSh w v S) : Calls Try.prog 38 #[v] w fun e w' => ∃ v', e = .returned v' ∧ IsSh w' v' S ∧ Below w.heap.size w w' := by
  have hu89 := Try.underlying89
  have hu82 := Try.underlying82
  have HS := Aside0.mk hS
  have HTl := Aside0.mk hS.T
  have HNl := Aside0.mk hS.N
  obtain ⟨A0, c0, A1, c1, A2, c2, rfl, l0, h0, l1, h1, l2, h2⟩ := hv
  have H0 := Aside0.mk h0
  have H1 := Aside0.mk h1
  have H2 := Aside0.mk h2
  have HL1 := Aside0.mk l1
  clear h0 h1 h2 l0 l1 l2 hS
  go_enter Try.func38, Try.ntmps38
  go_upto_region 2 with (fail)
  obtain ⟨W1, hW1⟩ : ∃ W1, W1 = (((w.alloc (.cells #[.slice A0 S.T.length c0, .slice A1 S.G.length c1, .slice A2 S.N.length c2] 82)).alloc (.cells #[.slice none 0 0, .slice none 0 0, .slice none 0 0] 89)).alloc (.cells #[.slice none 0 0, .slice A1 S.G.length c1, .slice none 0 0] 89)) := ⟨_, rfl⟩
  rw [← hW1]
  have HSTART1 : Aside0 (OfI w.heap.size w.heap.size (w.heap.size + 1) (w.heap.size + 1 + 1) [.slice A0 S.T.length c0, .slice A1 S.G.length c1, .slice A2 S.N.length c2] (.slice none 0 0) (.slice A1 S.G.length c1) (.slice none 0 0) [] [] w W1) := ⟨⟨by rw [hW1]; exact holds_alloc (holds_alloc (hold_alloc (by simp)) _) _, by rw [hW1]; exact holds_alloc (hold_alloc (by simp)) _, by rw [hW1]; exact hold_alloc (by simp), Kd.R_nil _ _ _ _ _, Kd.R_nil _ _ _ _ _, by rw [hW1]; exact below_alloc (below_alloc (below_alloc (Below.refl _ _) _) _) _, by rw [hW1]; simp; omega⟩⟩
  clear hW1
  go_wp2_with fail
  go_loopg [4] S.T.length (fun kq v4 w' => ∃ (i : Nat) (vT : Value) (ps : List (Value × Value)), v4 = .int .i64 (i : Int) ∧ i + kq = S.T.length ∧ Aside0 (Rd S124.f0 S124.f1 .i64 w ps (S.T.take i)) ∧ Aside0 (OfI w.heap.size w.heap.size (w.heap.size + 1) (w.heap.size + 1 + 1) [.slice A0 S.T.length c0, .slice A1 S.G.length c1, .slice A2 S.N.length c2] vT (.slice A1 S.G.length c1) (.slice none 0 0) ps [] w w'))
  case atStart => exact ⟨0, .slice none 0 0, [], rfl, by omega, ⟨Rd.nil⟩, HSTART1⟩
  case round =>
    clear HSTART1
    obtain ⟨i, vT, ps, rfl, hi, HRD, HOI⟩ := hrel
    obtain ⟨W0, rfl⟩ : ∃ W0, W0 = wr := ⟨wr, rfl⟩
    have x0 := (HOI.out.h1.cell 0).trans rfl
    cases gk with
    | zero =>
      have q1 : decide ((i : Int) < (S.T.length : Int)) = false := decide_eq_false (by omega)
      have q2 : decide (i < S.T.length) = false := decide_eq_false (by omega)
      have HI := Aside0.mk hi
      clear hi
      have HRT := Aside0.mk (show Rd S124.f0 S124.f1 .i64 w ps S.T by have h1 := HRD.out; rw [List.take_of_length_le (by have := HI.out; omega)] at h1; exact h1)
      clear HRD HI
      have HSTART2 := HOI
      clear HOI
      go_wp2_with fail
      clear x0
      go_loopg [5] S.N.length (fun kq v5 w' => ∃ (i : Nat) (vX : Value) (qs : List (Value × Value)), v5 = .int .i64 (i : Int) ∧ i + kq = S.N.length ∧ Aside0 (Rd S127.f0 S127.f1 .u64 w qs (S.N.take i)) ∧ Aside0 (OfI w.heap.size w.heap.size (w.heap.size + 1) (w.heap.size + 1 + 1) [.slice A0 S.T.length c0, .slice A1 S.G.length c1, .slice A2 S.N.length c2] vT (.slice A1 S.G.length c1) vX ps qs w w'))
      case atStart => exact ⟨0, .slice none 0 0, [], rfl, by omega, ⟨Rd.nil⟩, HSTART2⟩
      case round =>
        clear HSTART2
        obtain ⟨i, vX, qs, rfl, hi, HRD, HOI⟩ := hrel
        obtain ⟨W0, rfl⟩ : ∃ W0, W0 = wr := ⟨wr, rfl⟩
        have x0 := (HOI.out.h1.cell 2).trans rfl
        cases gk with
        | zero =>
          have q1 : decide ((i : Int) < (S.N.length : Int)) = false := decide_eq_false (by omega)
          have q2 : decide (i < S.N.length) = false := decide_eq_false (by omega)
          have HI := Aside0.mk hi
          clear hi
          have hqn : qs.length = S.N.length := by have h1 := HRD.out.1; rw [List.take_of_length_le (by have := HI.out; omega)] at h1; exact h1
          have HRN := Aside0.mk (show Rd S127.f0 S127.f1 .u64 w qs S.N by have h1 := HRD.out; rw [List.take_of_length_le (by have := HI.out; omega)] at h1; exact h1)
          obtain ⟨AX, cX, hvX⟩ := Kd.R_slice HOI.out.rX
          obtain ⟨AT, cT, hvT⟩ := Kd.R_slice HOI.out.rT
          rw [show ps.length = S.T.length from HRT.out.1] at hvT
          rw [hqn] at hvX
          subst hvX hvT
          clear hqn HRD
          go_wp2_with (first
            | ((with_reducible refine gate_dst (N := 59) rfl ?_); refine load_event (g := w.heap.size + 1 + 1) (off := 0) (t := 89) (cs := [.slice AT S.T.length cT, .slice A1 S.G.length c1, .slice AX S.N.length cX]) (seg := [.slice AT S.T.length cT, .slice A1 S.G.length c1, .slice AX S.N.length cX]) rfl rfl (by rfl) HOI.out.h3 (by rfl) Try.underlying89 rfl size89 ?_)
            | ((with_reducible refine gate_store (t := 89) (p := 2) rfl ?_); refine store_agg_event rfl (ty := 89) rfl rfl (g := w.heap.size + 1) (off := 0) (vs := #[.slice AT S.T.length cT, .slice A1 S.G.length c1, .slice AX S.N.length cX]) rfl rfl HOI.out.h2 (by show 3 ≤ 3; decide) size89 (by simp [Value.oneCell']) ?_; intro w10 hh5 hs5; have HH5 := Aside0.mk hh5; have HS5 := Aside0.mk hs5; clear hh5 hs5))
          refine bodyPost_ret (results_cell_row rfl _ _ (w.heap.size + 1) 89 #[.slice AT S.T.length cT, .slice A1 S.G.length c1, .slice AX S.N.length cX] (0, 0) _ rfl HH5.out Try.underlying89 rfl size89) rfl ?_
          have hbe := HS5.out.below HOI.out.below (Nat.le_succ _)
          have ht3 : ∀ e : Nat, e ≠ 89 → ∀ q, q ∈ e :: kraw.E → q ≠ 89 := fun e he q hq => by rcases List.mem_cons.1 hq with rfl | hq; exact he; cases hq
          have k1 := Kd.R_reads' (R_other HOI.out.rT HOI.out.h2 (ht3 128 (by decide)) HS5.out)
          have k2 := Kd.R_reads' (R_other HOI.out.rX HOI.out.h2 (ht3 131 (by decide)) HS5.out)
          exact ⟨_, rfl, ⟨AT, cT, A1, c1, AX, cX, rfl, k1.2.1, C_zip rfl HRT.out.1 k1.2.2 (fun i p t hp ht => k124_iv ((HRT.out.2 i p t hp ht).1.below hbe) ((HRT.out.2 i p t hp ht).2.below hbe)), HL1.out, Kd.C_below H1.out hbe, k2.2.1, C_zip rfl HRN.out.1 k2.2.2 (fun i p t hp ht => k127_iv ((HRN.out.2 i p t hp ht).1.below hbe) ((HRN.out.2 i p t hp ht).2.below hbe))⟩, hbe⟩
        | succ k1 =>
          have hil : i < S.N.length := by omega
          have q1 : decide ((i : Int) < (S.N.length : Int)) = true := decide_eq_true (by omega)
          have q2 : decide (i < S.N.length) = true := decide_eq_true (by omega)
          have q3 : (0 : Int) ≤ (i : Int) := by omega
          have q4 : (i : Int) < (S.N.length : Int) := by omega
          have hin : i < 1000000000 := by have := HTl.out; have := HNl.out; omega
          have HTT := Aside0.mk (show S.N.take (i + 1) = S.N.take i ++ [S.N[i]] from List.take_succ_eq_append_getElem hil)
          obtain ⟨ad, X0, X1, rfl, hx, hv0, hv1⟩ := atN H2.out i hil
          obtain ⟨t, ht⟩ : ∃ t, t = S.N[i] := ⟨_, rfl⟩
          rw [← ht] at HTT hv0 hv1
          have HV0 := Aside0.mk hv0
          have HV1 := Aside0.mk hv1
          obtain ⟨Ax, cx, rfl, _, _⟩ := hv0
          obtain ⟨Ay, cy, rfl, _, _⟩ := hv1
          have HI := Aside0.mk hi
          clear ht hi
          have HPL := Aside0.mk (show qs.length ≤ S.N.length by have := HRD.out.1; rw [List.length_take] at this; omega)
          go_upto_region 9 with (fail)
          have hlt6 : ∀ k, vX.ownBlock = some k → k < W0.heap.size := Kd.R_lt HOI.out.rX
          have hown6 : ∀ k, vX.ownBlock = some k → w.heap.size ≤ k := Kd.R_base HOI.out.rX
          have hne6 : ∀ (g' t' : Nat) (cs : List Value), Holds W0 g' t' cs → 131 ≠ t' → some g' ≠ vX.ownBlock := fun g' t' cs h h1 => Kd.R_ne HOI.out.rX h h1
          have hg3 : ∀ w1, W0.grownBy w1 vX.ownBlock → Holds w1 (w.heap.size + 1 + 1) 89 [vT, .slice A1 S.G.length c1, vX] := fun w1 hg => holds_grown HOI.out.h3 hg (hne6 _ 89 _ HOI.out.h3 (by decide))
          have hg1 : ∀ w1, W0.grownBy w1 vX.ownBlock → Holds w1 w.heap.size 82 _ := fun w1 hg => holds_grown HOI.out.h1 hg (hne6 _ 82 _ HOI.out.h1 (by decide))
          have hbw : ∀ w1, W0.grownBy w1 vX.ownBlock → Below w.heap.size w w1 := fun w1 hg => HOI.out.below.grown hg HOI.out.size hown6
          refine weaveG 18 60 (V38 131 2 w.heap.size (w.heap.size + 1 + 1) w.heap.size i S.N.length c2 ad qs vX (.slice Ax t.f0.length cx) (.slice Ay t.f1.length cy)) (fun L w1 => W0.grownBy w1 vX.ownBlock ∧ (L.getD 16 false = false → Kd.R kraw 131 w1 w.heap.size (fun _ => True) vX qs)) (GA 16 vX.ownBlock) (by kernel_rfl) (by rfl) (by kernel_rfl) ?j0 ?jj ?vv ?st ?en
          case j0 => exact ⟨grown_of_below (below_drew (Below.refl _ _)) _, fun _ => Kd.R_drew HOI.out.rX⟩
          case jj =>
            intro k L w1 w2' hk hL hk0 hJ hG
            refine ⟨hJ.1.trans hG.grown, fun h10 => ?_⟩
            by_cases he : k = 16
            · subst he
              rw [Array.getD_eq_getD_getElem?, Array.getElem?_setIfInBounds_self_of_lt (by rw [hL]; decide)] at h10
              cases h10
            · rw [getD_set_ne false he] at h10
              exact Kd.R_below (hJ.2 h10) (hG.other he)
          case vv => exact fun k j v w1 w2' _ hkj _ h hG => V38_stays _ _ _ _ _ _ _ _ _ _ _ _ _ _ _ _ _ _ hkj h hG
          case st =>
            refine StepsG.cons (fun a w1 L fr hL hj hdf hd K hK => ?_) ?_
            · exact wp_val (fa89_exec (i := 2) (by decide) rfl ((fr 3 (by kernel_rfl)).trans rfl)) (hK _ _ (show GA 16 _ _ _ _ from Below.refl _ _) rfl)
            refine StepsG.cons (fun a w1 L fr hL hj hdf hd K hK => ?_) ?_
            · exact wp_val (load87_exec rfl (hd 0 41 (by kernel_rfl)) (((hg3 w1 hj.1).cell 2).trans rfl)) (hK _ _ (show GA 16 _ _ _ _ from Below.refl _ _) rfl)
            refine StepsG.cons (fun a w1 L fr hL hj hdf hd K hK => ?_) ?_
            · exact wp_val (fa82_exec (i := 2) (by decide) rfl ((fr 1 (by kernel_rfl)).trans rfl)) (hK _ _ (show GA 16 _ _ _ _ from Below.refl _ _) rfl)
            refine StepsG.cons (fun a w1 L fr hL hj hdf hd K hK => ?_) ?_
            · exact wp_val (load80_exec rfl (hd 2 43 (by kernel_rfl)) (((hg1 w1 hj.1).cell 2).trans rfl)) (hK _ _ (show GA 16 _ _ _ _ from Below.refl _ _) rfl)
            refine StepsG.cons (fun a w1 L fr hL hj hdf hd K hK => ?_) ?_
            · exact wp_val (move_exec rfl ((fr 5 (by kernel_rfl)).trans rfl)) (hK _ _ (show GA 16 _ _ _ _ from Below.refl _ _) rfl)
            refine StepsG.cons (fun a w1 L fr hL hj hdf hd K hK => ?_) ?_
            · exact wp_val (idx80_exec rfl (hd 3 44 (by kernel_rfl)) (hd 4 45 (by kernel_rfl)) hil) (hK _ _ (show GA 16 _ _ _ _ from Below.refl _ _) rfl)
            refine StepsG.cons (fun a w1 L fr hL hj hdf hd K hK => ?_) ?_
            · exact wp_val (fa127r0_exec rfl (hd 5 46 (by kernel_rfl))) (hK _ _ (show GA 16 _ _ _ _ from Below.refl _ _) rfl)
            refine StepsG.cons (fun a w1 L fr hL hj hdf hd K hK => ?_) ?_
            · exact wp_val (load26_exec rfl (hd 6 47 (by kernel_rfl)) (hx w1 (hbw w1 hj.1)).1) (hK _ _ (show GA 16 _ _ _ _ from Below.refl _ _) rfl)
            refine StepsG.cons (fun a w1 L fr hL hj hdf hd K hK => ?_) ?_
            · exact wp_val (fa82_exec (i := 2) (by decide) rfl ((fr 1 (by kernel_rfl)).trans rfl)) (hK _ _ (show GA 16 _ _ _ _ from Below.refl _ _) rfl)
            refine StepsG.cons (fun a w1 L fr hL hj hdf hd K hK => ?_) ?_
            · exact wp_val (load80_exec rfl (hd 8 49 (by kernel_rfl)) (((hg1 w1 hj.1).cell 2).trans rfl)) (hK _ _ (show GA 16 _ _ _ _ from Below.refl _ _) rfl)
            refine StepsG.cons (fun a w1 L fr hL hj hdf hd K hK => ?_) ?_
            · exact wp_val (move_exec rfl ((fr 5 (by kernel_rfl)).trans rfl)) (hK _ _ (show GA 16 _ _ _ _ from Below.refl _ _) rfl)
            refine StepsG.cons (fun a w1 L fr hL hj hdf hd K hK => ?_) ?_
            · exact wp_val (idx80_exec rfl (hd 9 50 (by kernel_rfl)) (hd 10 51 (by kernel_rfl)) hil) (hK _ _ (show GA 16 _ _ _ _ from Below.refl _ _) rfl)
            refine StepsG.cons (fun a w1 L fr hL hj hdf hd K hK => ?_) ?_
            · exact wp_val (fa127r1_exec rfl (hd 11 52 (by kernel_rfl))) (hK _ _ (show GA 16 _ _ _ _ from Below.refl _ _) rfl)
            refine StepsG.cons (fun a w1 L fr hL hj hdf hd K hK => ?_) ?_
            · exact wp_val (load125_exec rfl (hd 12 53 (by kernel_rfl)) (hx w1 (hbw w1 hj.1)).2) (hK _ _ (show GA 16 _ _ _ _ from Below.refl _ _) rfl)
            refine StepsG.cons (fun a w1 L fr hL hj hdf hd K hK => ?_) ?_
            · exact wp_val (build131_exec rfl (hd 7 48 (by kernel_rfl)) (hd 13 54 (by kernel_rfl))) (hK _ _ (show GA 16 _ _ _ _ from Below.refl _ _) rfl)
            refine StepsG.cons (fun a w1 L fr hL hj hdf hd K hK => ?_) ?_
            · have e7 : a.eval (.tmp 55) = .agg #[.slice Ax t.f0.length cx, .slice Ay t.f1.length cy] := (hd 14 55 (by kernel_rfl))
              exact wp_val (lit87_exec rfl e7) (hK _ _ (show GA 16 _ _ _ _ from below_alloc (Below.refl _ _) _) (show A38 _ _ _ _ _ _ from ⟨w1.heap.size, rfl, blk_new _ _, fun e => by (have h1 := hlt6 _ e.symm; have h2 := hj.1.size; omega)⟩))
            refine StepsG.cons (fun a w1 L fr hL hj hdf hd K hK => ?_) ?_
            · obtain ⟨Ap, e8, hh9, hne9⟩ : A38 131 vX (.slice Ax t.f0.length cx) (.slice Ay t.f1.length cy) (a.eval (.tmp 56)) w1 := (hd 15 56 (by kernel_rfl))
              have e1 : a.eval (.tmp 42) = vX := (hd 1 42 (by kernel_rfl))
              have hrow := hj.2 hL
              have hc9 : Kd.C kraw w1 (some ⟨Ap, 0, none⟩) 1 [((.slice Ax t.f0.length cx), (.slice Ay t.f1.length cy))] := C_block kraw hh9 (reps1 (kraw_mk w1 ((.slice Ax t.f0.length cx), (.slice Ay t.f1.length cy)) rfl rfl)) (by simp)
              refine append_wp kraw (w0 := w) w.heap.size 87 131 (.agg #[.slice none 0 0, .slice none 0 0]) 48 rfl Try.underlying87 info131r rfl (by decide) (by decide) vX qs [((.slice Ax t.f0.length cx), (.slice Ay t.f1.length cy))] (some ⟨Ap, 0, none⟩) 1 1 (fun _ => True) e1 e8 (fun _ _ _ _ h => h) (fun _ _ => trivial) hrow hc9 (hbw w1 hj.1) (by have := hj.1.size; have := HOI.out.size; omega) (by have := HPL.out; have := HNl.out; omega) ?_
              intro v1 w2' hr1 hb1 hg1 hat
              exact hK _ _ (show GA 16 _ _ _ _ from GA.same hg1) (show Kd.R kraw 131 _ _ _ _ _ from hr1)
            refine StepsG.cons (fun a w1 L fr hL hj hdf hd K hK => ?_) ?_
            · exact wp_val (fa89_exec (i := 2) (by decide) rfl ((fr 3 (by kernel_rfl)).trans rfl)) (hK _ _ (show GA 16 _ _ _ _ from Below.refl _ _) rfl)
            exact StepsG.nil
          case en =>
            intro vs w' L hJ hl hv
            have hr : Kd.R kraw 131 w' w.heap.size (fun _ => True) (vs 16) (qs ++ [(.slice Ax t.f0.length cx, .slice Ay t.f1.length cy)]) := hv 16 57 (by decide) (by kernel_rfl)
            have h17 : vs 17 = .pointer (some ⟨w.heap.size + 1 + 1, 2, none⟩) := hv 17 58 (by decide) (by kernel_rfl)
            obtain ⟨AZ, cZ, eZ⟩ := Kd.R_slice hr
            rw [eZ] at hr
            have hle : (qs ++ [((Value.slice Ax t.f0.length cx), (Value.slice Ay t.f1.length cy))]).length = qs.length + 1 := by simp
            rw [hle] at eZ hr
            have hh := hg3 w' hJ.1
            refine upto_some rfl ?_
            simp only [List.take_succ_cons, List.take_zero, putsOf, Act.put, List.setIfInBounds_toArray, List.set_cons_zero, List.set_cons_succ, h17, eZ]
            refine Wv.wp_skip (w' := w'.setCells (w.heap.size + 1 + 1) 2 [.slice AZ (qs.length + 1) cZ]) rfl ?hr ?_
            case hr => exact store_scalar (.inr (.inl rfl)) rfl (by rfl) (by rfl) hh (by show 2 < 3; decide)
            have hst := HOI.out.pushX (Nat.le_add_right _ 2) (by omega) (by omega) hJ.1 hr
            go_wp2_with fail
            go_roundg k1
            case measure => have := HI.out; omega
            case rel => exact ⟨i + 1, _, _, rfl, by have := HI.out; omega, ⟨by rw [HTT.out]; exact HRD.out.push HV0.out HV1.out⟩, ⟨hst⟩⟩

    | succ k1 =>
      have hil : i < S.T.length := by omega
      have q1 : decide ((i : Int) < (S.T.length : Int)) = true := decide_eq_true (by omega)
      have q2 : decide (i < S.T.length) = true := decide_eq_true (by omega)
      have q3 : (0 : Int) ≤ (i : Int) := by omega
      have q4 : (i : Int) < (S.T.length : Int) := by omega
      have hin : i < 1000000000 := by have := HTl.out; have := HNl.out; omega
      have HTT := Aside0.mk (show S.T.take (i + 1) = S.T.take i ++ [S.T[i]] from List.take_succ_eq_append_getElem hil)
      obtain ⟨ad, X0, X1, rfl, hx, hv0, hv1⟩ := atT H0.out i hil
      obtain ⟨t, ht⟩ : ∃ t, t = S.T[i] := ⟨_, rfl⟩
      rw [← ht] at HTT hv0 hv1
      have HV0 := Aside0.mk hv0
      have HV1 := Aside0.mk hv1
      obtain ⟨Ax, cx, rfl, _, _⟩ := hv0
      obtain ⟨Ay, cy, rfl, _, _⟩ := hv1
      have HI := Aside0.mk hi
      clear ht hi
      have HPL := Aside0.mk (show ps.length ≤ S.T.length by have := HRD.out.1; rw [List.length_take] at this; omega)
      go_upto_region 5 with (fail)
      have hlt6 : ∀ k, vT.ownBlock = some k → k < W0.heap.size := Kd.R_lt HOI.out.rT
      have hown6 : ∀ k, vT.ownBlock = some k → w.heap.size ≤ k := Kd.R_base HOI.out.rT
      have hne6 : ∀ (g' t' : Nat) (cs : List Value), Holds W0 g' t' cs → 128 ≠ t' → some g' ≠ vT.ownBlock := fun g' t' cs h h1 => Kd.R_ne HOI.out.rT h h1
      have hg3 : ∀ w1, W0.grownBy w1 vT.ownBlock → Holds w1 (w.heap.size + 1 + 1) 89 [vT, .slice A1 S.G.length c1, .slice none 0 0] := fun w1 hg => holds_grown HOI.out.h3 hg (hne6 _ 89 _ HOI.out.h3 (by decide))
      have hg1 : ∀ w1, W0.grownBy w1 vT.ownBlock → Holds w1 w.heap.size 82 _ := fun w1 hg => holds_grown HOI.out.h1 hg (hne6 _ 82 _ HOI.out.h1 (by decide))
      have hbw : ∀ w1, W0.grownBy w1 vT.ownBlock → Below w.heap.size w w1 := fun w1 hg => HOI.out.below.grown hg HOI.out.size hown6
      refine weaveG 18 60 (V38 128 0 w.heap.size (w.heap.size + 1 + 1) w.heap.size i S.T.length c0 ad ps vT (.slice Ax t.f0.length cx) (.slice Ay t.f1.length cy)) (fun L w1 => W0.grownBy w1 vT.ownBlock ∧ (L.getD 16 false = false → Kd.R kraw 128 w1 w.heap.size (fun _ => True) vT ps)) (GA 16 vT.ownBlock) (by kernel_rfl) (by rfl) (by kernel_rfl) ?j0 ?jj ?vv ?st ?en
      case j0 => exact ⟨grown_of_below (below_drew (Below.refl _ _)) _, fun _ => Kd.R_drew HOI.out.rT⟩
      case jj =>
        intro k L w1 w2' hk hL hk0 hJ hG
        refine ⟨hJ.1.trans hG.grown, fun h10 => ?_⟩
        by_cases he : k = 16
        · subst he
          rw [Array.getD_eq_getD_getElem?, Array.getElem?_setIfInBounds_self_of_lt (by rw [hL]; decide)] at h10
          cases h10
        · rw [getD_set_ne false he] at h10
          exact Kd.R_below (hJ.2 h10) (hG.other he)
      case vv => exact fun k j v w1 w2' _ hkj _ h hG => V38_stays _ _ _ _ _ _ _ _ _ _ _ _ _ _ _ _ _ _ hkj h hG
      case st =>
        refine StepsG.cons (fun a w1 L fr hL hj hdf hd K hK => ?_) ?_
        · exact wp_val (fa89_exec (i := 0) (by decide) rfl ((fr 3 (by kernel_rfl)).trans rfl)) (hK _ _ (show GA 16 _ _ _ _ from Below.refl _ _) rfl)
        refine StepsG.cons (fun a w1 L fr hL hj hdf hd K hK => ?_) ?_
        · exact wp_val (load86_exec rfl (hd 0 16 (by kernel_rfl)) (((hg3 w1 hj.1).cell 0).trans rfl)) (hK _ _ (show GA 16 _ _ _ _ from Below.refl _ _) rfl)
        refine StepsG.cons (fun a w1 L fr hL hj hdf hd K hK => ?_) ?_
        · exact wp_val (fa82_exec (i := 0) (by decide) rfl ((fr 1 (by kernel_rfl)).trans rfl)) (hK _ _ (show GA 16 _ _ _ _ from Below.refl _ _) rfl)
        refine StepsG.cons (fun a w1 L fr hL hj hdf hd K hK => ?_) ?_
        · exact wp_val (load79_exec rfl (hd 2 18 (by kernel_rfl)) (((hg1 w1 hj.1).cell 0).trans rfl)) (hK _ _ (show GA 16 _ _ _ _ from Below.refl _ _) rfl)
        refine StepsG.cons (fun a w1 L fr hL hj hdf hd K hK => ?_) ?_
        · exact wp_val (move_exec rfl ((fr 4 (by kernel_rfl)).trans rfl)) (hK _ _ (show GA 16 _ _ _ _ from Below.refl _ _) rfl)
        refine StepsG.cons (fun a w1 L fr hL hj hdf hd K hK => ?_) ?_
        · exact wp_val (idx79_exec rfl (hd 3 19 (by kernel_rfl)) (hd 4 20 (by kernel_rfl)) hil) (hK _ _ (show GA 16 _ _ _ _ from Below.refl _ _) rfl)
        refine StepsG.cons (fun a w1 L fr hL hj hdf hd K hK => ?_) ?_
        · exact wp_val (fa124r0_exec rfl (hd 5 21 (by kernel_rfl))) (hK _ _ (show GA 16 _ _ _ _ from Below.refl _ _) rfl)
        refine StepsG.cons (fun a w1 L fr hL hj hdf hd K hK => ?_) ?_
        · exact wp_val (load26_exec rfl (hd 6 22 (by kernel_rfl)) (hx w1 (hbw w1 hj.1)).1) (hK _ _ (show GA 16 _ _ _ _ from Below.refl _ _) rfl)
        refine StepsG.cons (fun a w1 L fr hL hj hdf hd K hK => ?_) ?_
        · exact wp_val (fa82_exec (i := 0) (by decide) rfl ((fr 1 (by kernel_rfl)).trans rfl)) (hK _ _ (show GA 16 _ _ _ _ from Below.refl _ _) rfl)
        refine StepsG.cons (fun a w1 L fr hL hj hdf hd K hK => ?_) ?_
        · exact wp_val (load79_exec rfl (hd 8 24 (by kernel_rfl)) (((hg1 w1 hj.1).cell 0).trans rfl)) (hK _ _ (show GA 16 _ _ _ _ from Below.refl _ _) rfl)
        refine StepsG.cons (fun a w1 L fr hL hj hdf hd K hK => ?_) ?_
        · exact wp_val (move_exec rfl ((fr 4 (by kernel_rfl)).trans rfl)) (hK _ _ (show GA 16 _ _ _ _ from Below.refl _ _) rfl)
        refine StepsG.cons (fun a w1 L fr hL hj hdf hd K hK => ?_) ?_
        · exact wp_val (idx79_exec rfl (hd 9 25 (by kernel_rfl)) (hd 10 26 (by kernel_rfl)) hil) (hK _ _ (show GA 16 _ _ _ _ from Below.refl _ _) rfl)
        refine StepsG.cons (fun a w1 L fr hL hj hdf hd K hK => ?_) ?_
        · exact wp_val (fa124r1_exec rfl (hd 11 27 (by kernel_rfl))) (hK _ _ (show GA 16 _ _ _ _ from Below.refl _ _) rfl)
        refine StepsG.cons (fun a w1 L fr hL hj hdf hd K hK => ?_) ?_
        · exact wp_val (load26_exec rfl (hd 12 28 (by kernel_rfl)) (hx w1 (hbw w1 hj.1)).2) (hK _ _ (show GA 16 _ _ _ _ from Below.refl _ _) rfl)
        refine StepsG.cons (fun a w1 L fr hL hj hdf hd K hK => ?_) ?_
        · exact wp_val (build128_exec rfl (hd 7 23 (by kernel_rfl)) (hd 13 29 (by kernel_rfl))) (hK _ _ (show GA 16 _ _ _ _ from Below.refl _ _) rfl)
        refine StepsG.cons (fun a w1 L fr hL hj hdf hd K hK => ?_) ?_
        · have e7 : a.eval (.tmp 30) = .agg #[.slice Ax t.f0.length cx, .slice Ay t.f1.length cy] := (hd 14 30 (by kernel_rfl))
          exact wp_val (lit86_exec rfl e7) (hK _ _ (show GA 16 _ _ _ _ from below_alloc (Below.refl _ _) _) (show A38 _ _ _ _ _ _ from ⟨w1.heap.size, rfl, blk_new _ _, fun e => by (have h1 := hlt6 _ e.symm; have h2 := hj.1.size; omega)⟩))
        refine StepsG.cons (fun a w1 L fr hL hj hdf hd K hK => ?_) ?_
        · obtain ⟨Ap, e8, hh9, hne9⟩ : A38 128 vT (.slice Ax t.f0.length cx) (.slice Ay t.f1.length cy) (a.eval (.tmp 31)) w1 := (hd 15 31 (by kernel_rfl))
          have e1 : a.eval (.tmp 17) = vT := (hd 1 17 (by kernel_rfl))
          have hrow := hj.2 hL
          have hc9 : Kd.C kraw w1 (some ⟨Ap, 0, none⟩) 1 [((.slice Ax t.f0.length cx), (.slice Ay t.f1.length cy))] := C_block kraw hh9 (reps1 (kraw_mk w1 ((.slice Ax t.f0.length cx), (.slice Ay t.f1.length cy)) rfl rfl)) (by simp)
          refine append_wp kraw (w0 := w) w.heap.size 86 128 (.agg #[.slice none 0 0, .slice none 0 0]) 48 rfl Try.underlying86 info128r rfl (by decide) (by decide) vT ps [((.slice Ax t.f0.length cx), (.slice Ay t.f1.length cy))] (some ⟨Ap, 0, none⟩) 1 1 (fun _ => True) e1 e8 (fun _ _ _ _ h => h) (fun _ _ => trivial) hrow hc9 (hbw w1 hj.1) (by have := hj.1.size; have := HOI.out.size; omega) (by have := HPL.out; have := HTl.out; omega) ?_
          intro v1 w2' hr1 hb1 hg1 hat
          exact hK _ _ (show GA 16 _ _ _ _ from GA.same hg1) (show Kd.R kraw 128 _ _ _ _ _ from hr1)
        refine StepsG.cons (fun a w1 L fr hL hj hdf hd K hK => ?_) ?_
        · exact wp_val (fa89_exec (i := 0) (by decide) rfl ((fr 3 (by kernel_rfl)).trans rfl)) (hK _ _ (show GA 16 _ _ _ _ from Below.refl _ _) rfl)
        exact StepsG.nil
      case en =>
        intro vs w' L hJ hl hv
        have hr : Kd.R kraw 128 w' w.heap.size (fun _ => True) (vs 16) (ps ++ [(.slice Ax t.f0.length cx, .slice Ay t.f1.length cy)]) := hv 16 32 (by decide) (by kernel_rfl)
        have h17 : vs 17 = .pointer (some ⟨w.heap.size + 1 + 1, 0, none⟩) := hv 17 33 (by decide) (by kernel_rfl)
        obtain ⟨AZ, cZ, eZ⟩ := Kd.R_slice hr
        rw [eZ] at hr
        have hle : (ps ++ [((Value.slice Ax t.f0.length cx), (Value.slice Ay t.f1.length cy))]).length = ps.length + 1 := by simp
        rw [hle] at eZ hr
        have hh := hg3 w' hJ.1
        refine upto_some rfl ?_
        simp only [List.take_succ_cons, List.take_zero, putsOf, Act.put, List.setIfInBounds_toArray, List.set_cons_zero, List.set_cons_succ, h17, eZ]
        refine Wv.wp_skip (w' := w'.setCells (w.heap.size + 1 + 1) 0 [.slice AZ (ps.length + 1) cZ]) rfl ?hr ?_
        case hr => exact store_scalar (.inl rfl) rfl (by rfl) (by rfl) hh (by show 0 < 3; decide)
        have hst := HOI.out.pushT (Nat.le_add_right _ 2) (by omega) (by omega) hJ.1 hr
        go_wp2_with fail
        go_roundg k1
        case measure => have := HI.out; omega
        case rel => exact ⟨i + 1, _, _, rfl, by have := HI.out; omega, ⟨by rw [HTT.out]; exact HRD.out.push HV0.out HV1.out⟩, ⟨hst⟩⟩

end Go.Proofs.Ytgojfecpknonlaa.Im

