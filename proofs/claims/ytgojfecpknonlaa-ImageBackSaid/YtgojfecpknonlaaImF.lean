/- A shape's references that are no node's, cloned: function 99. -/
import Derived.Test.YtgojfecpknonlaaImX
namespace Go.Proofs.Ytgojfecpknonlaa.Im
open Go.RowKit Go.Proofs.YtgojfecpknonlaaW.PrintWords Go.Proofs.YtgojfecpknonlaaW.PrintLast Go.Proofs.YtgojfecpknonlaaW.PrintMore
open Go.Proofs.Ytgojfecpknonlaa.Own Go.Proofs.Ytgojfecpknonlaa.PIm Go.Proofs.Ytgojfecpknonlaa.Wv
set_option linter.unusedVariables false
set_option linter.unusedSimpArgs false

theorem R_other {α : Type} {d : Kd α} {e g t B : Nat} {w w1 : World} {ok : Nat → Prop} {u : Value} {xs : List α} {cs : List Value} (h : d.R e w B ok u xs) (hh : Holds w g t cs) (ht : ∀ q, q ∈ e :: d.E → q ≠ t) (hs : Stored w w1 g) : d.R e w1 B ok u xs :=
  Kd.R_mono (Kd.R_keep (Kd.R_types h hh ht) hs.keep (fun k hk => hk.2)) (fun k hk => hk.1)
theorem OI.other {k : IntKind} {e g t B : Nat} {w w1 : World} {v u : Value} {xs : List Int} {cs : List Value} (h : OI k e w B v u xs) (hh : Holds w g t cs) (ht : e ≠ t) (hs : Stored w w1 g) : OI k e w1 B v u xs :=
  R_other h hh (fun q hq => by rcases List.mem_cons.1 hq with rfl | hq; exact ht; cases hq) hs
theorem Els.other {α : Type} {f0 f1 : α → List Int} {k : IntKind} {e g t B : Nat} {w w1 : World} {v : Value} {ps : List (Value × Value)} {T : List α} {cs : List Value} (h : Els f0 f1 k e w B v ps T) (hh : Holds w g t cs) (h3 : 3 ≠ t) (ht : e ≠ t) (hs : Stored w w1 g) : Els f0 f1 k e w1 B v ps T :=
  ⟨h.1, fun i p t' hp ht' => ⟨(h.2 i p t' hp ht').1.other hh h3 hs, (h.2 i p t' hp ht').2.other hh ht hs⟩⟩
def A5a (B : Nat) (s2 : Value) (G : List Int) (v : Value) (w : World) : Prop := ∃ u, v = .agg #[.slice none 0 0, u, s2] ∧ OI .i64 3 w B (.slice none 0 0) u G
def A6a (B : Nat) (v : Value) (w : World) : Prop := ∃ g, v = .pointer (some ⟨g, 0, none⟩) ∧ B ≤ g ∧ Holds w g 89 z89
def V99a (S : Sh) (b B B1 : Nat) (s1 s2 : Value) : Nat → Value → World → Prop
  | 0, v, _ => v = .pointer (some ⟨b, 1, none⟩)
  | 1, v, _ => v = s1
  | 2, v, w => OI .i64 3 w B (.slice none 0 0) v S.G
  | 3, v, _ => v = .pointer (some ⟨b, 2, none⟩)
  | 4, v, _ => v = s2
  | 5, v, w => A5a B s2 S.G v w
  | 6, v, w => A6a B1 v w
  | _, _, _ => True
theorem V99a_stays (S : Sh) (b B B1 : Nat) (s1 s2 : Value) (j : Nat) (v : Value) (w w' : World) (h : V99a S b B B1 s1 s2 j v w) (hb : Below w.heap.size w w') : V99a S b B B1 s1 s2 j v w' := by
  unfold V99a at h ⊢
  split at h <;> first | exact h | exact Kd.R_below h hb | (obtain ⟨u, h1, h2⟩ := h; exact ⟨u, h1, Kd.R_below h2 hb⟩) | (obtain ⟨g, h1, h2, h3⟩ := h; exact ⟨g, h1, h2, h3.below hb⟩) | trivial
theorem reps1 {w : World} {p : Value × Value} {cs : List Value} (h : kraw.K w p cs) : Reps (kraw.K w) kraw.sz [p] cs := by
  refine ⟨by rw [kraw.K_len h]; rfl, fun j q hq => ?_⟩
  cases j with
  | zero =>
    obtain rfl : p = q := by simpa using hq
    rw [Nat.zero_mul, List.drop_zero, List.take_of_length_le (by rw [kraw.K_len h]; exact Nat.le_refl _)]
    exact h
  | succ j => simp at hq
theorem store_scalar {o : Oper} {a : Act} {W : World} {ty : TypeId} {x y : Operand} {g i t : Nat} {cs : List Value} {A : Option Addr} {n c : Nat} (hty : ty = 86 ∨ ty = 87 ∨ ty = 26 ∨ ty = 125) (ho : o.op = .store ty x y) (hx : a.eval x = .pointer (some ⟨g, i, none⟩)) (hy : a.eval y = .slice A n c) (hh : Holds W g t cs) (hi : i < cs.length) :
    (execOp a.eval o).run Try.prog W = .ok .skip (W.setCells g i [.slice A n c]) := by
  have hc : W.cell? ⟨g, i, none⟩ = some cs[i] := (hh.cell i).trans (List.getElem?_eq_getElem hi)
  have hf : W.frozen? ⟨g, i, none⟩ = false := blk_frozen hh i
  show (execOp a.eval o).run Try.prog W = .ok .skip (W.setCell ⟨g, i, none⟩ (.slice A n c))
  generalize a.eval = E at hx hy ⊢
  rcases hty with rfl | rfl | rfl | rfl <;>
    (unfold execOp
     simp only [ho, hx, hy]
     go_simp)
def A8b (t : S124) (B : Nat) (vT v : Value) (w : World) : Prop := ∃ a b, v = .agg #[a, b] ∧ OI .i64 3 w B vT a t.f0 ∧ OI .i64 3 w B vT b t.f1
def A9b (t : S124) (B : Nat) (vT v : Value) (w : World) : Prop := ∃ a b A, v = .slice (some ⟨A, 0, none⟩) 1 1 ∧ Holds w A 128 [a, b] ∧ some A ≠ vT.ownBlock ∧ OI .i64 3 w B vT a t.f0 ∧ OI .i64 3 w B vT b t.f1
def A10b (T : List S124) (t : S124) (G : List Int) (B : Nat) (ps : List (Value × Value)) (u v : Value) (w : World) : Prop := ∃ p, Kd.R kraw 128 w B (fun _ => True) v (ps ++ [p]) ∧ Els S124.f0 S124.f1 .i64 3 w B v (ps ++ [p]) (T ++ [t]) ∧ OI .i64 3 w B v u G
def G99 (own : Option Nat) (k : Nat) (w w' : World) : Prop := if k = 10 then w.grownBy w' own else Below w.heap.size w w'
theorem G99.grown {own : Option Nat} {k : Nat} {w w' : World} (h : G99 own k w w') : w.grownBy w' own := by
  unfold G99 at h
  split at h
  · exact h
  · exact grown_of_below h own
theorem G99.other {own : Option Nat} {k : Nat} {w w' : World} (h : G99 own k w w') (hk : k ≠ 10) : Below w.heap.size w w' := by
  unfold G99 at h
  rwa [if_neg hk] at h
theorem holds_grown {w w1 : World} {g t : Nat} {cs : List Value} {row : Option Nat} (h : Holds w g t cs) (hg : w.grownBy w1 row) (hne : some g ≠ row) : Holds w1 g t cs := (hg.block g h.lt hne).trans h
def V99b (T : List S124) (t : S124) (G : List Int) (B g g5 : Nat) (ps : List (Value × Value)) (vT u x0 x1 : Value) : Nat → Value → World → Prop
  | 0, v, _ => v = .pointer (some ⟨g, 0, none⟩)
  | 1, v, _ => v = vT
  | 2, v, _ => v = .pointer (some ⟨g5, 0, none⟩)
  | 3, v, _ => v = x0
  | 4, v, w => OI .i64 3 w B vT v t.f0
  | 5, v, _ => v = .pointer (some ⟨g5, 1, none⟩)
  | 6, v, _ => v = x1
  | 7, v, w => OI .i64 3 w B vT v t.f1
  | 8, v, w => A8b t B vT v w
  | 9, v, w => A9b t B vT v w
  | 10, v, w => A10b T t G B ps u v w
  | 11, v, _ => v = .pointer (some ⟨g, 0, none⟩)
  | _, _, _ => True
theorem V99b_stays (T : List S124) (t : S124) (G : List Int) (B g g5 : Nat) (ps : List (Value × Value)) (vT u x0 x1 : Value) (i j : Nat) (v : Value) (w w' : World) (hij : i ≠ j) (h : V99b T t G B g g5 ps vT u x0 x1 j v w) (hb : G99 vT.ownBlock i w w') : V99b T t G B g g5 ps vT u x0 x1 j v w' := by
  by_cases hj : j = 10
  · subst hj
    have hb := hb.other hij
    obtain ⟨p, h1, h2, h3⟩ := (show A10b T t G B ps u v w from h)
    exact (show A10b T t G B ps u v w' from ⟨p, Kd.R_below h1 hb, h2.below hb, Kd.R_below h3 hb⟩)
  · have hg := hb.grown
    unfold V99b at h ⊢
    split at h <;> first | exact h | exact Kd.R_grown h hg (fun q hq => hq.2) | (obtain ⟨a, b, h1, h2, h3⟩ := h; exact ⟨a, b, h1, Kd.R_grown h2 hg (fun q hq => hq.2), Kd.R_grown h3 hg (fun q hq => hq.2)⟩) | (obtain ⟨a, b, A, h1, h2, h3, h4, h5⟩ := h; exact ⟨a, b, A, h1, holds_grown h2 hg h3, h3, Kd.R_grown h4 hg (fun q hq => hq.2), Kd.R_grown h5 hg (fun q hq => hq.2)⟩) | exact absurd rfl hj | trivial
set_option maxHeartbeats 4000000 in
set_option maxRecDepth 100000 in
theorem clone_calls (S : Sh) (hS : Small S) (A0 : Option Addr) (c0 : Nat) (A1 : Option Addr) (c1 : Nat) (A2 : Option Addr) (c2 : Nat) (w : World) (l0 : S.T.length ≤ c0) (h0 : Kd.C k124 w A0 S.T.length S.T) (l1 : S.G.length ≤ c1) (h1 : Kd.C (Kd.int .i64) w A1 S.G.length S.G) :
    Calls Try.prog 99 #[.agg #[.slice A0 S.T.length c0, .slice A1 S.G.length c1, .slice A2 S.N.length c2]] w fun e w' => ∃ vT vG ps, e = .returned (.agg #[vT, vG, .slice A2 S.N.length c2]) ∧ Kd.R kraw 128 w' w.heap.size (fun _ => True) vT ps ∧ Els S124.f0 S124.f1 .i64 3 w' w.heap.size vT ps S.T ∧ OI .i64 3 w' w.heap.size vT vG S.G ∧ Below w.heap.size w w' := by
  have HS := Aside0.mk hS
  have H0 := Aside0.mk h0
  have H1 := Aside0.mk h1
  have HL1 := Aside0.mk l1
  have HL0 := Aside0.mk l0
  have hu89 := Try.underlying89
  clear hS h0 h1 l1 l0
  have HW := Aside0.mk (show Below w.heap.size w ((w.alloc (.cells #[.slice A0 S.T.length c0, .slice A1 S.G.length c1, .slice A2 S.N.length c2] 89)).alloc (.cells #[.slice none 0 0, .slice none 0 0, .slice none 0 0] 89)) from below_alloc (below_alloc (Below.refl _ _) _) _)
  have HA : Aside0 (Holds ((w.alloc (.cells #[.slice A0 S.T.length c0, .slice A1 S.G.length c1, .slice A2 S.N.length c2] 89)).alloc (.cells #[.slice none 0 0, .slice none 0 0, .slice none 0 0] 89)) w.heap.size 89 [.slice A0 S.T.length c0, .slice A1 S.G.length c1, .slice A2 S.N.length c2]) := ⟨Holds.below (blk_new _ _) (below_alloc (Below.refl _ _) _)⟩
  have HR : Aside0 (Holds ((w.alloc (.cells #[.slice A0 S.T.length c0, .slice A1 S.G.length c1, .slice A2 S.N.length c2] 89)).alloc (.cells #[.slice none 0 0, .slice none 0 0, .slice none 0 0] 89)) (w.heap.size + 1) 89 z89) := ⟨by have h := blk_new (w.alloc (.cells #[.slice A0 S.T.length c0, .slice A1 S.G.length c1, .slice A2 S.N.length c2] 89)) (.cells #[.slice none 0 0, .slice none 0 0, .slice none 0 0] 89); rw [World.size_alloc] at h; exact h⟩
  go_enter Try.func99, Try.ntmps99
  go_upto_region 1 with (fail)
  obtain ⟨W1, hW1⟩ : ∃ W1, W1 = ((w.alloc (.cells #[.slice A0 S.T.length c0, .slice A1 S.G.length c1, .slice A2 S.N.length c2] 89)).alloc (.cells #[.slice none 0 0, .slice none 0 0, .slice none 0 0] 89)) := ⟨_, rfl⟩
  have hsz : W1.heap.size = w.heap.size + 2 := by rw [hW1]; simp
  rw [← hW1] at HW HA HR ⊢
  clear hW1
  go_cut [3] (fun v3 wc => ∃ g u, v3 = .pointer (some ⟨g, 0, none⟩) ∧ Aside0 (W1.heap.size ≤ g) ∧ Aside0 (Holds wc g 89 [.slice none 0 0, u, .slice A2 S.N.length c2]) ∧ Aside0 (OI .i64 3 wc w.heap.size (.slice none 0 0) u S.G) ∧ Aside0 (Below W1.heap.size W1 wc))
  case first =>
    refine weave 7 33 (V99a S w.heap.size w.heap.size W1.heap.size (.slice A1 S.G.length c1) (.slice A2 S.N.length c2)) (by kernel_rfl) (by rfl) (by kernel_rfl) (V99a_stays _ _ _ _ _ _) ?st ?en
    case st =>
      refine Steps.cons (fun a w1 fr hb hd K hK => ?_) ?_
      · exact wp_val (fa89_exec (i := 1) (by decide) rfl ((fr 1 (by kernel_rfl)).trans rfl)) (hK _ _ (Below.refl _ _) rfl)
      refine Steps.cons (fun a w1 fr hb hd K hK => ?_) ?_
      · exact wp_val (load26_exec rfl (hd 0 6 (by kernel_rfl)) (((HA.out.below hb).cell 1).trans rfl)) (hK _ _ (Below.refl _ _) rfl)
      refine Steps.cons (fun a w1 fr hb hd K hK => ?_) ?_
      · have e1 : a.eval (.tmp 7) = .slice A1 S.G.length c1 := (hd 1 7 (by kernel_rfl))
        refine wp_call Try.func98 (by kernel_rfl) rfl #[.slice A1 S.G.length c1] rfl (by simp only [List.map_toArray, List.map_cons, List.map_nil, e1]) ?_
        refine (c98 _ S.G _ ⟨A1, c1, rfl, HL1.out, Kd.C_below H1.out (below_then HW.out HW.out.size hb)⟩ (by have := HS.out.G; omega)).mono ?_
        rintro e w2 ⟨v0, rfl, hr, hb2⟩
        exact ⟨_, rfl, hK _ _ hb2 (show OI .i64 3 _ _ _ _ _ from Kd.R_lower (Kd.R_mono hr (fun q _ => ⟨trivial, by simp [Value.ownBlock]⟩)) (Nat.le_trans HW.out.size hb.size))⟩
      refine Steps.cons (fun a w1 fr hb hd K hK => ?_) ?_
      · exact wp_val (fa89_exec (i := 2) (by decide) rfl ((fr 1 (by kernel_rfl)).trans rfl)) (hK _ _ (Below.refl _ _) rfl)
      refine Steps.cons (fun a w1 fr hb hd K hK => ?_) ?_
      · exact wp_val (load87_exec rfl (hd 3 9 (by kernel_rfl)) (((HA.out.below hb).cell 2).trans rfl)) (hK _ _ (Below.refl _ _) rfl)
      refine Steps.cons (fun a w1 fr hb hd K hK => ?_) ?_
      · have h2 : OI .i64 3 w1 w.heap.size (.slice none 0 0) (a.eval (.tmp 8)) S.G := (hd 2 8 (by kernel_rfl))
        obtain ⟨Ag, cg, eg⟩ := Kd.R_slice h2
        exact wp_val (build89_exec rfl eg (hd 4 10 (by kernel_rfl))) (hK _ _ (Below.refl _ _) (show A5a _ _ _ _ _ from ⟨_, rfl, by rw [← eg]; exact h2⟩))
      refine Steps.cons (fun a w1 fr hb hd K hK => ?_) ?_
      · exact wp_val (alloc89_exec rfl) (hK _ _ (below_alloc (Below.refl _ _) _) (show A6a _ _ _ from ⟨w1.heap.size, rfl, hb.size, blk_new _ _⟩))
      exact Steps.nil
    case en =>
      intro vs w' hb hv
      have h5 : A5a w.heap.size (.slice A2 S.N.length c2) S.G (vs 5) w' := hv 5 11 (by decide) (by kernel_rfl)
      have h6 : A6a W1.heap.size (vs 6) w' := hv 6 3 (by decide) (by kernel_rfl)
      obtain ⟨u, e5, hu⟩ := h5
      obtain ⟨Au, cu, rfl⟩ := Kd.R_slice hu
      obtain ⟨g, e6, hg, hh⟩ := h6
      refine upto_some rfl ?_
      simp only [List.take_succ_cons, List.take_zero, putsOf, Act.put, List.setIfInBounds_toArray, List.set_cons_zero, List.set_cons_succ, e5, e6]
      refine Wv.wp_skip (w' := w'.setCells g 0 [.slice none 0 0, .slice Au S.G.length cu, .slice A2 S.N.length c2]) rfl ?hr ?_
      case hr => exact store_skip (g := g) (off := 0) (t := 89) (cs := z89) (vs := #[.slice none 0 0, .slice Au S.G.length cu, .slice A2 S.N.length c2]) rfl (by rfl) (by rfl) hh (by show 3 ≤ 3; decide) size89 (by simp [Value.oneCell'])
      have hs := stored_cells w' g 0 [.slice none 0 0, .slice Au S.G.length cu, .slice A2 S.N.length c2]
      go_wp2
      go_meet
      case rel => exact ⟨g, _, rfl, ⟨hg⟩, ⟨holds_cells hh (by show 0 + 3 ≤ 3; decide)⟩, ⟨hu.other hh (by decide) hs⟩, ⟨hs.below hb hg⟩⟩
  case rest =>
    obtain ⟨g, u, rfl, HG, HH, HU, HBW⟩ := hcut
    have x0 : wc.cell? ⟨w.heap.size, 0, none⟩ = some (.slice A0 S.T.length c0) := ((HA.out.below HBW.out).cell 0).trans rfl
    have HA2 := Aside0.mk (HA.out.below HBW.out)
    have HR2 := Aside0.mk (HR.out.below HBW.out)
    have HB2 := Aside0.mk (below_then HW.out HW.out.size HBW.out)
    have HGE := Aside0.mk (show w.heap.size ≤ g by have := HG.out; omega)
    have HN1 := Aside0.mk (show g ≠ w.heap.size by have := HG.out; omega)
    have HN2 := Aside0.mk (show g ≠ w.heap.size + 1 by have := HG.out; omega)
    obtain ⟨Au, cu, rfl⟩ := Kd.R_slice HU.out
    clear HA HR HBW HW
    go_wp2_with fail
    go_loopg [15] S.T.length (fun kq v15 w' => ∃ (i : Nat) (vT : Value) (ps : List (Value × Value)), v15 = .int .i64 (i : Int) ∧ i + kq = S.T.length ∧ Aside0 (Holds w' g 89 [vT, .slice Au S.G.length cu, .slice A2 S.N.length c2]) ∧ Aside0 (Holds w' w.heap.size 89 [.slice A0 S.T.length c0, .slice A1 S.G.length c1, .slice A2 S.N.length c2]) ∧ Aside0 (Holds w' (w.heap.size + 1) 89 z89) ∧ Aside0 (Kd.R kraw 128 w' w.heap.size (fun _ => True) vT ps) ∧ Aside0 (Els S124.f0 S124.f1 .i64 3 w' w.heap.size vT ps (S.T.take i)) ∧ Aside0 (OI .i64 3 w' w.heap.size vT (.slice Au S.G.length cu) S.G) ∧ Aside0 (Below w.heap.size w w'))
    case atStart => exact ⟨0, .slice none 0 0, [], rfl, by omega, HH, HA2, HR2, ⟨Kd.R_nil _ _ _ _ _⟩, ⟨Els.nil⟩, HU, HB2⟩
    case round =>
      clear HH HA2 HR2 HU HB2 x0
      obtain ⟨i, vT, ps, rfl, hi, HH, HA, HR, HT, HE, HU, HB⟩ := hrel
      obtain ⟨W0, rfl⟩ : ∃ W0, W0 = wr := ⟨wr, rfl⟩
      cases gk with
      | zero =>
        have q1 : decide ((i : Int) < (S.T.length : Int)) = false := decide_eq_false (by omega)
        have q2 : decide (i < S.T.length) = false := decide_eq_false (by omega)
        obtain ⟨AT, cT, hTe, hcT, _⟩ := Kd.R_reads HT.out
        have hps : ps.length = S.T.length := by rw [HE.out.1, List.length_take]; omega
        subst hTe
        go_wp2_with (first
          | ((with_reducible refine gate_dst (N := 32) rfl ?_); refine load_event (g := g) (off := 0) (t := 89) (cs := [.slice AT ps.length cT, .slice Au S.G.length cu, .slice A2 S.N.length c2]) (seg := [.slice AT ps.length cT, .slice Au S.G.length cu, .slice A2 S.N.length c2]) rfl rfl (by rfl) HH.out (by rfl) Try.underlying89 rfl size89 ?_)
          | ((with_reducible refine gate_store (t := 89) (p := 2) rfl ?_); refine store_agg_event rfl (ty := 89) rfl rfl (g := w.heap.size + 1) (off := 0) (vs := #[.slice AT ps.length cT, .slice Au S.G.length cu, .slice A2 S.N.length c2]) rfl rfl HR.out (by show 3 ≤ 3; decide) size89 (by simp [Value.oneCell']) ?_; intro w5 hh5 hs5; have HH5 := Aside0.mk hh5; have HS5 := Aside0.mk hs5; clear hh5 hs5))
        refine bodyPost_ret (results_cell_row rfl _ _ (w.heap.size + 1) 89 #[.slice AT ps.length cT, .slice Au S.G.length cu, .slice A2 S.N.length c2] (0, 0) _ rfl HH5.out Try.underlying89 rfl size89) rfl ?_
        have hE := HE.out
        rw [List.take_of_length_le (by omega)] at hE
        exact ⟨_, _, rfl, ps, R_other HT.out HR.out (fun q hq => by rcases List.mem_cons.1 hq with rfl | hq; decide; cases hq) HS5.out, hE.other HR.out (by decide) (by decide) HS5.out, HU.out.other HR.out (by decide) HS5.out, HS5.out.below HB.out (by omega)⟩
      | succ k1 =>
        have hil : i < S.T.length := by omega
        have q1 : decide ((i : Int) < (S.T.length : Int)) = true := decide_eq_true (by omega)
        have q2 : decide (i < S.T.length) = true := decide_eq_true (by omega)
        have q3 : (0 : Int) ≤ (i : Int) := by omega
        have q4 : (i : Int) < (S.T.length : Int) := by omega
        have hin : i < 1000000000 := by have := HS.out.T; omega
        obtain ⟨ad, x0, x1, rfl, hx, hv0, hv1⟩ := atT H0.out i hil
        have HV0 := Aside0.mk hv0
        have HV1 := Aside0.mk hv1
        obtain ⟨t, ht⟩ : ∃ t, t = S.T[i] := ⟨_, rfl⟩
        rw [← ht] at HV0 HV1 hv0 hv1
        have HTT := Aside0.mk (show S.T.take (i + 1) = S.T.take i ++ [t] by rw [List.take_succ_eq_append_getElem hil, ht])
        have HSM := Aside0.mk (show SmallT t by rw [ht]; exact HS.out.t _ (List.getElem_mem hil))
        obtain ⟨Ax, cx, rfl, _, _⟩ := hv0
        obtain ⟨Ay, cy, rfl, _, _⟩ := hv1
        obtain ⟨hx0, hx1⟩ := hx W0 HB.out
        have HI := Aside0.mk hi
        clear ht hi hx
        go_upto_region 5 with (fail)
        obtain ⟨W5, hW5⟩ : ∃ W5, W5 = (W0.alloc (.cells #[.slice Ax t.f0.length cx, .slice Ay t.f1.length cy] 128)) := ⟨_, rfl⟩
        have hb5 : Below W0.heap.size W0 W5 := by rw [hW5]; exact below_alloc (Below.refl _ _) _
        have hg5' : Holds W5 W0.heap.size 128 [.slice Ax t.f0.length cx, .slice Ay t.f1.length cy] := by rw [hW5]; exact blk_new _ _
        rw [← hW5]
        clear hW5
        have hbs : w.heap.size ≤ W5.heap.size := Nat.le_trans HB.out.size hb5.size
        have HT5 := Aside0.mk (Kd.R_below HT.out hb5)
        have hlt : ∀ k, vT.ownBlock = some k → k < W5.heap.size := Kd.R_lt HT5.out
        have hown : ∀ k, vT.ownBlock = some k → w.heap.size ≤ k := Kd.R_base HT5.out
        have hne : ∀ (g' t' : Nat) (cs : List Value), Holds W5 g' t' cs → 128 ≠ t' → some g' ≠ vT.ownBlock := fun g' t' cs h h1 => Kd.R_ne HT5.out h h1
        have hgg : ∀ w1, W5.grownBy w1 vT.ownBlock → Holds w1 g 89 [vT, .slice Au S.G.length cu, .slice A2 S.N.length c2] := fun w1 hg => holds_grown (HH.out.below hb5) hg (hne g 89 _ (HH.out.below hb5) (by decide))
        have hg5 : ∀ w1, W5.grownBy w1 vT.ownBlock → Holds w1 W0.heap.size 128 [.slice Ax t.f0.length cx, .slice Ay t.f1.length cy] := fun w1 hg => holds_grown hg5' hg (fun e => by have h1 := Kd.R_lt HT.out _ e.symm; omega)
        have hbw : ∀ w1, W5.grownBy w1 vT.ownBlock → Below w.heap.size w w1 := fun w1 hg => (below_then HB.out HB.out.size hb5).grown hg hbs hown
        have hels : ∀ w1, W5.grownBy w1 vT.ownBlock → Els S124.f0 S124.f1 .i64 3 w1 w.heap.size vT ps (S.T.take i) := fun w1 hg => (HE.out.below hb5).grown hg
        have hou : ∀ w1, W5.grownBy w1 vT.ownBlock → OI .i64 3 w1 w.heap.size vT (.slice Au S.G.length cu) S.G := fun w1 hg => Kd.R_grown (Kd.R_below HU.out hb5) hg (fun q hq => hq.2)
        have hps : ps.length ≤ S.T.length := by rw [HE.out.1, List.length_take]; omega
        refine weaveG 12 33 (V99b (S.T.take i) t S.G w.heap.size g W0.heap.size ps vT (.slice Au S.G.length cu) (.slice Ax t.f0.length cx) (.slice Ay t.f1.length cy)) (fun L w1 => W5.grownBy w1 vT.ownBlock ∧ (L.getD 10 false = false → Kd.R kraw 128 w1 w.heap.size (fun _ => True) vT ps)) (G99 vT.ownBlock) (by kernel_rfl) (by rfl) (by kernel_rfl) ?j0 ?jj ?vv ?st ?en
        case j0 => exact ⟨grown_of_below (below_drew (Below.refl _ _)) _, fun _ => Kd.R_drew HT5.out⟩
        case jj =>
          intro k L w1 w2 hk hL hk0 hJ hG
          refine ⟨hJ.1.trans hG.grown, fun h10 => ?_⟩
          by_cases he : k = 10
          · subst he
            rw [Array.getD_eq_getD_getElem?, Array.getElem?_setIfInBounds_self_of_lt (by rw [hL]; decide)] at h10
            cases h10
          · rw [getD_set_ne false he] at h10
            exact Kd.R_below (hJ.2 h10) (hG.other he)
        case vv => exact fun k j v w1 w2 _ hkj _ h hG => V99b_stays _ _ _ _ _ _ _ _ _ _ _ k j v w1 w2 hkj h hG
        case st =>
          refine StepsG.cons (fun a w1 L fr hL hj hdf hd K hK => ?_) ?_
          · exact wp_val (fa89_exec (i := 0) (by decide) rfl ((fr 3 (by kernel_rfl)).trans rfl)) (hK _ _ (show G99 _ _ _ _ from Below.refl _ _) rfl)
          refine StepsG.cons (fun a w1 L fr hL hj hdf hd K hK => ?_) ?_
          · exact wp_val (load86_exec rfl (hd 0 19 (by kernel_rfl)) (((hgg w1 hj.1).cell 0).trans rfl)) (hK _ _ (show G99 _ _ _ _ from Below.refl _ _) rfl)
          refine StepsG.cons (fun a w1 L fr hL hj hdf hd K hK => ?_) ?_
          · exact wp_val (fa128_exec (i := 0) (by decide) rfl ((fr 5 (by kernel_rfl)).trans rfl)) (hK _ _ (show G99 _ _ _ _ from Below.refl _ _) rfl)
          refine StepsG.cons (fun a w1 L fr hL hj hdf hd K hK => ?_) ?_
          · exact wp_val (load26_exec rfl (hd 2 21 (by kernel_rfl)) (((hg5 w1 hj.1).cell 0).trans rfl)) (hK _ _ (show G99 _ _ _ _ from Below.refl _ _) rfl)
          refine StepsG.cons (fun a w1 L fr hL hj hdf hd K hK => ?_) ?_
          · have e1 : a.eval (.tmp 22) = (.slice Ax t.f0.length cx) := (hd 3 22 (by kernel_rfl))
            refine wp_call Try.func98 (by kernel_rfl) rfl #[(.slice Ax t.f0.length cx)] rfl (by simp only [List.map_toArray, List.map_cons, List.map_nil, e1]) ?_
            refine (c98 _ t.f0 _ (HV0.out.below (hbw w1 hj.1)) (by have := HSM.out.1; omega)).mono ?_
            rintro e w2 ⟨v0, rfl, hr, hb2⟩
            exact ⟨_, rfl, hK _ _ (show G99 _ _ _ _ from hb2) (show OI .i64 3 _ _ _ _ _ from Kd.R_lower (Kd.R_mono (Kd.R_bound hr) (fun q hq => ⟨trivial, fun e => by have h1 := hlt q e.symm; have h2 := hj.1.size; have h3 := hq.2.1; omega⟩)) (by have := hj.1.size; have := hbs; omega))⟩
          refine StepsG.cons (fun a w1 L fr hL hj hdf hd K hK => ?_) ?_
          · exact wp_val (fa128_exec (i := 1) (by decide) rfl ((fr 5 (by kernel_rfl)).trans rfl)) (hK _ _ (show G99 _ _ _ _ from Below.refl _ _) rfl)
          refine StepsG.cons (fun a w1 L fr hL hj hdf hd K hK => ?_) ?_
          · exact wp_val (load26_exec rfl (hd 5 24 (by kernel_rfl)) (((hg5 w1 hj.1).cell 1).trans rfl)) (hK _ _ (show G99 _ _ _ _ from Below.refl _ _) rfl)
          refine StepsG.cons (fun a w1 L fr hL hj hdf hd K hK => ?_) ?_
          · have e1 : a.eval (.tmp 25) = (.slice Ay t.f1.length cy) := (hd 6 25 (by kernel_rfl))
            refine wp_call Try.func98 (by kernel_rfl) rfl #[(.slice Ay t.f1.length cy)] rfl (by simp only [List.map_toArray, List.map_cons, List.map_nil, e1]) ?_
            refine (c98 _ t.f1 _ (HV1.out.below (hbw w1 hj.1)) (by have := HSM.out.2; omega)).mono ?_
            rintro e w2 ⟨v0, rfl, hr, hb2⟩
            exact ⟨_, rfl, hK _ _ (show G99 _ _ _ _ from hb2) (show OI .i64 3 _ _ _ _ _ from Kd.R_lower (Kd.R_mono (Kd.R_bound hr) (fun q hq => ⟨trivial, fun e => by have h1 := hlt q e.symm; have h2 := hj.1.size; have h3 := hq.2.1; omega⟩)) (by have := hj.1.size; have := hbs; omega))⟩
          refine StepsG.cons (fun a w1 L fr hL hj hdf hd K hK => ?_) ?_
          · have h4 : OI .i64 3 w1 w.heap.size vT (a.eval (.tmp 23)) t.f0 := (hd 4 23 (by kernel_rfl))
            have h7 : OI .i64 3 w1 w.heap.size vT (a.eval (.tmp 26)) t.f1 := (hd 7 26 (by kernel_rfl))
            obtain ⟨Aa, ca, ea⟩ := Kd.R_slice h4
            obtain ⟨Ab, cb, eb⟩ := Kd.R_slice h7
            rw [ea] at h4
            rw [eb] at h7
            exact wp_val (build128_exec rfl ea eb) (hK _ _ (show G99 _ _ _ _ from Below.refl _ _) (show A8b _ _ _ _ _ from ⟨_, _, rfl, h4, h7⟩))
          refine StepsG.cons (fun a w1 L fr hL hj hdf hd K hK => ?_) ?_
          · obtain ⟨va, vb, e8, h4, h7⟩ : A8b t w.heap.size vT (a.eval (.tmp 27)) w1 := (hd 8 27 (by kernel_rfl))
            obtain ⟨Aa, ca, rfl⟩ := Kd.R_slice h4
            obtain ⟨Ab, cb, rfl⟩ := Kd.R_slice h7
            exact wp_val (lit86_exec rfl e8) (hK _ _ (show G99 _ _ _ _ from below_alloc (Below.refl _ _) _) (show A9b _ _ _ _ _ from ⟨_, _, w1.heap.size, rfl, blk_new _ _, fun e => by (have h1 := hlt _ e.symm; have h2 := hj.1.size; omega), Kd.R_alloc h4 _, Kd.R_alloc h7 _⟩))
          refine StepsG.cons (fun a w1 L fr hL hj hdf hd K hK => ?_) ?_
          · obtain ⟨va, vb, Ap, e9, hh9, hne9, h4, h7⟩ : A9b t w.heap.size vT (a.eval (.tmp 28)) w1 := (hd 9 28 (by kernel_rfl))
            have e1 : a.eval (.tmp 20) = vT := (hd 1 20 (by kernel_rfl))
            have hrow := hj.2 hL
            have hc9 : Kd.C kraw w1 (some ⟨Ap, 0, none⟩) 1 [(va, vb)] := C_block kraw hh9 (reps1 (kraw_mk w1 (va, vb) (R_iv h4).one (R_iv h7).one)) (by simp)
            refine append_wp kraw (w0 := w) w.heap.size 86 128 (.agg #[.slice none 0 0, .slice none 0 0]) 48 rfl Try.underlying86 info128r rfl (by decide) (by decide) vT ps [(va, vb)] (some ⟨Ap, 0, none⟩) 1 1 (fun _ => True) e1 e9 (fun _ _ _ _ h => h) (fun _ _ => trivial) hrow hc9 (hbw w1 hj.1) (hbw w1 hj.1).size (by have := hps; have := HS.out.T; omega) ?_
            intro v1 w2 hr1 hb1 hg1 hat
            exact hK _ _ (show G99 _ _ _ _ from hg1) (show A10b _ _ _ _ _ _ _ _ from ⟨_, hr1, (((hels w1 hj.1).after hg1 hat).push (Kd.R_after h4 hg1 hat) (Kd.R_after h7 hg1 hat)), Kd.R_after (hou w1 hj.1) hg1 hat⟩)
          refine StepsG.cons (fun a w1 L fr hL hj hdf hd K hK => ?_) ?_
          · exact wp_val (fa89_exec (i := 0) (by decide) rfl ((fr 3 (by kernel_rfl)).trans rfl)) (hK _ _ (show G99 _ _ _ _ from Below.refl _ _) rfl)
          exact StepsG.nil
        case en =>
          intro vs w' L hJ hl hv
          have h10 : A10b (S.T.take i) t S.G w.heap.size ps (.slice Au S.G.length cu) (vs 10) w' := hv 10 29 (by decide) (by kernel_rfl)
          have h11 : vs 11 = .pointer (some ⟨g, 0, none⟩) := hv 11 30 (by decide) (by kernel_rfl)
          obtain ⟨p, hr, he, hu⟩ := h10
          obtain ⟨AN, cN, eN⟩ := Kd.R_slice hr
          rw [eN] at hr he hu
          have hle : (ps ++ [p]).length = ps.length + 1 := by simp
          rw [hle] at eN hr he hu
          have hh := hgg w' hJ.1
          have hA' := holds_grown (HA.out.below hb5) hJ.1 (hne _ 89 _ (HA.out.below hb5) (by decide))
          have hR' := holds_grown (HR.out.below hb5) hJ.1 (hne _ 89 _ (HR.out.below hb5) (by decide))
          refine upto_some rfl ?_
          simp only [List.take_succ_cons, List.take_zero, putsOf, Act.put, List.setIfInBounds_toArray, List.set_cons_zero, List.set_cons_succ, h11, eN]
          have hs := stored_cells w' g 0 [.slice AN (ps.length + 1) cN]
          refine Wv.wp_skip (w' := w'.setCells g 0 [.slice AN (ps.length + 1) cN]) rfl ?hr ?_
          case hr => exact store_scalar (.inl rfl) rfl (by rfl) (by rfl) hh (by show 0 < 3; decide)
          go_wp2_with fail
          go_roundg k1
          case measure => have := HI.out; omega
          case rel =>
            refine ⟨i + 1, _, ps ++ [p], rfl, by have := HI.out; omega, ⟨holds_cells hh (by show 0 + 1 ≤ 3; decide)⟩, ⟨hs.holds hA' HN1.out.symm⟩, ⟨hs.holds hR' HN2.out.symm⟩, ⟨R_other hr hh (fun q hq => by rcases List.mem_cons.1 hq with rfl | hq; decide; cases hq) hs⟩, ⟨by rw [HTT.out]; exact he.other hh (by decide) (by decide) hs⟩, ⟨hu.other hh (by decide) hs⟩, ⟨hs.below (hbw w' hJ.1) HGE.out⟩⟩
end Go.Proofs.Ytgojfecpknonlaa.Im

