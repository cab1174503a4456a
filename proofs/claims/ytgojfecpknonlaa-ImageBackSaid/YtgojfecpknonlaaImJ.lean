/- Rows numbered one after the other: what the names and the rows are then. -/
import Derived.Test.YtgojfecpknonlaaImI
namespace Go.Proofs.Ytgojfecpknonlaa.Im
open Go.RowKit Go.Shelf Go.Proofs.YtgojfecpknonlaaW.PrintWords Go.Proofs.YtgojfecpknonlaaW.PrintLast Go.Proofs.YtgojfecpknonlaaW.PrintMore
open Go.Proofs.Ytgojfecpknonlaa.Own Go.Proofs.Ytgojfecpknonlaa.PIm Go.Proofs.Ytgojfecpknonlaa.Wv
set_option linter.unusedVariables false
set_option linter.unusedSimpArgs false

theorem num1_in (nm : List Int) (x : Int) : 0 ≤ (num1 nm x).2 ∧ (num1 nm x).2 ≤ (num1 nm x).1.length := by
  unfold num1
  split
  · exact ⟨Int.le_refl _, by simp⟩
  · split
    · rename_i h1 h2
      have := List.idxOf_lt_length_of_mem h2
      constructor <;> simp only <;> omega
    · constructor
      · simp only; omega
      · simp
theorem numL_in : ∀ (l nm : List Int), ∀ x ∈ (numL nm l).2, 0 ≤ x ∧ x ≤ (numL nm l).1.length
  | [], _, x, hx => by cases hx
  | y :: l, nm, x, hx => by
    have h1 := num1_in nm y
    have h2 := (numL_len l (num1 nm y).1).1
    rcases List.mem_cons.1 (show x ∈ (num1 nm y).2 :: (numL (num1 nm y).1 l).2 from hx) with rfl | hx
    · refine ⟨h1.1, ?_⟩
      show _ ≤ (((numL (num1 nm y).1 l).1.length : Nat) : Int)
      omega
    · exact numL_in l _ x hx
/-- One row numbered. -/
def stStep (s : List Int × (Nat → List Int)) (j : Nat) : List Int × (Nat → List Int) := ((numL s.1 (s.2 j)).1, fun k => if k = j then (numL s.1 (s.2 j)).2 else s.2 k)
def stR (c : Nat → List Int) (pre : List Nat) : List Int × (Nat → List Int) := pre.foldl stStep ([], c)
theorem stR_snoc (c : Nat → List Int) (pre : List Nat) (j : Nat) : stR c (pre ++ [j]) = stStep (stR c pre) j := by
  unfold stR
  rw [List.foldl_append]
  rfl
structure StOk (s : List Int × (Nat → List Int)) (m R : Nat) : Prop where
  nm : s.1.length ≤ m * R
  len : ∀ j, (s.2 j).length ≤ R
  val : ∀ j, ∀ x ∈ s.2 j, 0 ≤ x ∧ x ≤ 1000000
theorem stOk_step {s : List Int × (Nat → List Int)} {m R : Nat} (h : StOk s m R) (hm : (m + 1) * R ≤ 1000000) (j : Nat) : StOk (stStep s j) (m + 1) R := by
  have h1 := (numL_len (s.2 j) s.1).2
  have h2 := h.len j
  have h3 := h.nm
  have e : (m + 1) * R = m * R + R := Nat.succ_mul m R
  refine ⟨?_, fun k => ?_, fun k x hx => ?_⟩
  · show (numL s.1 (s.2 j)).1.length ≤ _
    omega
  · show (if k = j then (numL s.1 (s.2 j)).2 else s.2 k).length ≤ R
    split
    · rw [numL_length]; exact h2
    · exact h.len k
  · by_cases hk : k = j
    · have hx' : x ∈ (numL s.1 (s.2 j)).2 := by
        have h4 : x ∈ (if k = j then (numL s.1 (s.2 j)).2 else s.2 k) := hx
        rwa [if_pos hk] at h4
      have h4 := numL_in (s.2 j) s.1 x hx'
      exact ⟨h4.1, by omega⟩
    · have hx' : x ∈ s.2 k := by
        have h4 : x ∈ (if k = j then (numL s.1 (s.2 j)).2 else s.2 k) := hx
        rwa [if_neg hk] at h4
      exact h.val k x hx'
theorem stOk_R {c : Nat → List Int} {R M : Nat} (hc : ∀ j, (c j).length ≤ R) (hv : ∀ j, ∀ x ∈ c j, 0 ≤ x ∧ x ≤ 1000000) (hM : M * R ≤ 1000000) : ∀ (q : Nat) (pre : List Nat), pre.length = q → q ≤ M → StOk (stR c pre) q R := by
  intro q
  induction q with
  | zero =>
    intro pre hp hq
    obtain rfl := List.length_eq_zero_iff.1 hp
    exact ⟨by simp [stR], hc, hv⟩
  | succ q ih =>
    intro pre hp hq
    obtain ⟨pre', j, rfl⟩ : ∃ pre' j, pre = pre' ++ [j] := by
      rcases List.eq_nil_or_concat pre with h | ⟨L, b, h⟩
      · subst h; simp at hp
      · exact ⟨L, b, by rw [h, List.concat_eq_append]⟩
    rw [List.length_append, List.length_singleton] at hp
    rw [stR_snoc]
    exact stOk_step (ih pre' (by omega) (by omega)) (Nat.le_trans (Nat.mul_le_mul_right R hq) hM) j
/-- What lies ready between two rounds. -/
structure RI (c : Nat → List Int) (rows : List Value) (B m1 m2 b : Nat) (HL : List (Nat × Nat × List Value)) (vT : Value) (ps : List (Value × Value)) (w00 : World) (pre : List Nat) (W : World) : Prop where
  ns : ∃ vN, NS W B m1 m2 b vN (stR c pre).1 ∧ ∀ j, OI .i64 3 W B vN (rows.getD j (.slice none 0 0)) ((stR c pre).2 j)
  hs : ∀ x ∈ HL, Holds W x.1 x.2.1 x.2.2
  raw : Kd.R kraw 128 W B (fun _ => True) vT ps
  below : Below B w00 W
  size : B ≤ W.heap.size
theorem OI.turn {k : IntKind} {e B : Nat} {W W' : World} {vN vM u : Value} {xs : List Int} (h : OI k e W' B vN u xs) (hlt : ∀ q, u.ownBlock = some q → q < W.heap.size) (hat : vM.ownBlock = vN.ownBlock ∨ ∃ q, vM.ownBlock = some q ∧ W.heap.size ≤ q) : OI k e W' B vM u xs := by
  refine ⟨fun q hq => ⟨trivial, fun e1 => ?_⟩, h.2.imp_ (fun _ _ hp => hp)⟩
  rcases hat with h1 | ⟨q2, h1, h2⟩
  · exact (h.1 q hq).2 (by rw [e1, h1])
  · rw [h1] at e1
    injection e1 with e1
    have := hlt q hq
    omega
theorem grown_RI {k : IntKind} {e B : Nat} {ok : Nat → Prop} {W W' : World} {v : Value} {xs : List Int} {row : Option Nat} (hr : Kd.R (Kd.int k) e W B ok v xs) (hg : W.grownBy W' row) (hn : ∀ q, row = some q → ∃ o : Obj, W.heap[q]? = some o ∧ o.isCells = false) : Kd.R (Kd.int k) e W' B ok v xs := by
  refine (Kp.of_grown hg).RI hr (fun q hq e1 => ?_)
  obtain ⟨o, ho, hc⟩ := hn q e1.symm
  obtain ⟨inner, hw⟩ := Kd.R_own hr
  obtain ⟨cells, hcell⟩ := own_typed hw q hq
  rw [hcell] at ho
  injection ho with ho
  subst ho
  cases hc
theorem grown_holds {W W' : World} {g t : Nat} {cs : List Value} {row : Option Nat} (hh : Holds W g t cs) (hg : W.grownBy W' row) (hn : ∀ q, row = some q → ∃ o : Obj, W.heap[q]? = some o ∧ o.isCells = false) : Holds W' g t cs := by
  refine holds_grown hh hg (fun e1 => ?_)
  obtain ⟨o, ho, hc⟩ := hn g e1.symm
  rw [show W.heap[g]? = _ from hh] at ho
  injection ho with ho
  subst ho
  cases hc
theorem grown_raw {B : Nat} {W W' : World} {v : Value} {ps : List (Value × Value)} {row : Option Nat} (hr : Kd.R kraw 128 W B (fun _ => True) v ps) (hg : W.grownBy W' row) (hn : ∀ q, row = some q → ∃ o : Obj, W.heap[q]? = some o ∧ o.isCells = false) : Kd.R kraw 128 W' B (fun _ => True) v ps := by
  refine Kd.R_mono (Kd.R_grown (Kd.R_bound hr) hg (fun k hk e1 => ?_)) (fun k hk => hk.1)
  obtain ⟨o, ho, hc⟩ := hn k e1.symm
  obtain ⟨_, _, _, q, _, cells, hcell⟩ := hk
  rw [hcell] at ho
  injection ho with ho
  subst ho
  cases hc
theorem RI.own {c : Nat → List Int} {rows : List Value} {B m1 m2 b : Nat} {HL : List (Nat × Nat × List Value)} {vT : Value} {ps : List (Value × Value)} {w00 : World} {W0 : World} (hb : b < W0.heap.size) (hB : B ≤ W0.heap.size) : OwnFrom W0.heap.size (RI c rows B m1 m2 b HL vT ps w00) := by
  intro pre W W' row h hg hn
  have hn' : ∀ q, row = some q → ∃ o : Obj, W.heap[q]? = some o ∧ o.isCells = false := fun q hq => (hn q hq).2
  obtain ⟨vN, hns, ho⟩ := h.ns
  obtain ⟨D, hD, hN⟩ := hns.map
  refine ⟨⟨vN, ⟨grown_holds hns.c1 hg hn', grown_holds hns.c2 hg hn', ⟨D, hD.kept hg (fun e => by have := (hn b e.symm).1; omega), hN⟩, grown_RI hns.row hg hn'⟩, fun j => grown_RI (ho j) hg hn'⟩, fun x hx => grown_holds (h.hs x hx) hg hn', grown_raw h.raw hg hn', h.below.grown hg h.size (fun q hq => by have := (hn q hq).1; omega), Nat.le_trans h.size hg.size⟩
/-- A round: row j numbered. -/
theorem RI.round {c : Nat → List Int} {rows : List Value} {B m1 m2 b : Nat} {HL : List (Nat × Nat × List Value)} {vT : Value} {ps : List (Value × Value)} {w00 W W' : World} {pre : List Nat} {j : Nat} {vN vN' : Value} (h : RI c rows B m1 m2 b HL vT ps w00 pre W) (ht : ∀ x ∈ HL, x.2.1 ≠ 3 ∧ x.2.1 ≠ 26) (hb : B ≤ b) (hm : B ≤ m2)
    (hns : NS W B m1 m2 b vN (stR c pre).1) (ho : ∀ k, OI .i64 3 W B vN (rows.getD k (.slice none 0 0)) ((stR c pre).2 k))
    (hap : ∀ k q, k ≠ j → (rows.getD k (.slice none 0 0)).ownBlock = some q → (rows.getD j (.slice none 0 0)).ownBlock ≠ some q)
    (hns' : NS W' B m1 m2 b vN' (numL (stR c pre).1 ((stR c pre).2 j)).1) (ho' : OI .i64 3 W' B vN' (rows.getD j (.slice none 0 0)) (numL (stR c pre).1 ((stR c pre).2 j)).2) (hat : vN'.ownBlock = vN.ownBlock ∨ ∃ q, vN'.ownBlock = some q ∧ W.heap.size ≤ q)
    (hk : Kp (Sn b m2 vN (rows.getD j (.slice none 0 0))) W W') : RI c rows B m1 m2 b HL vT ps w00 (pre ++ [j]) W' ∧ KT W W' := by
  obtain ⟨D, hD, _⟩ := hns.map
  have hkt : KT W W' := by
    refine ⟨hk.size, fun k cs t fr hk1 h3 h26 => (hk.block k (Array.getElem?_eq_some_iff.1 hk1).1 (fun hs => ?_)).trans hk1⟩
    rcases hs with e | e | e | e
    · subst e
      obtain ⟨es, clock, hb, _⟩ := hD
      rw [hk1] at hb
      injection hb with hb
      cases hb
    · subst e
      have h1 := (show _ = _ from hns.c2).symm.trans hk1
      injection h1 with h1
      injection h1 with _ h1
      exact h26 h1.symm
    · obtain ⟨inner, hw⟩ := Kd.R_own hns.row
      obtain ⟨cells, hc⟩ := own_typed hw k e.symm
      rw [hc] at hk1
      injection hk1 with hk1
      injection hk1 with _ hk1
      exact h3 hk1.symm
    · obtain ⟨inner, hw⟩ := Kd.R_own (ho j)
      obtain ⟨cells, hc⟩ := own_typed hw k e.symm
      rw [hc] at hk1
      injection hk1 with hk1
      injection hk1 with _ hk1
      exact h3 hk1.symm
  refine ⟨⟨⟨vN', ?_, fun k => ?_⟩, fun x hx => hkt.holds (h.hs x hx) (ht x hx).1 (ht x hx).2, hkt.raw h.raw, hk.below h.below h.size (fun k hs => ?_), Nat.le_trans h.size hk.size⟩, hkt⟩
  · rw [stR_snoc]
    exact hns'
  · rw [stR_snoc]
    by_cases hkj : k = j
    · subst hkj
      show OI .i64 3 W' B vN' _ (if k = k then _ else _)
      rw [if_pos rfl]
      exact ho'
    · show OI .i64 3 W' B vN' _ (if k = j then _ else _)
      rw [if_neg hkj]
      refine OI.turn (W := W) (vN := vN) (hk.RI (ho k) (fun q hq hs => ?_)) (fun q hq => Kd.R_lt (ho k) q hq) hat
      rcases hs with e | e | e | e
      · exact own_ne_map (ho k) hD q hq e
      · exact Kd.R_ne (ho k) hns.c2 (by decide) (by rw [hq, e])
      · exact ((ho k).1 q hq).2 e
      · exact hap k q hkj hq e.symm
  · rcases hs with e | e | e | e
    · omega
    · omega
    · exact Kd.R_base hns.row k e.symm
    · exact Kd.R_base (ho j) k e.symm
end Go.Proofs.Ytgojfecpknonlaa.Im

