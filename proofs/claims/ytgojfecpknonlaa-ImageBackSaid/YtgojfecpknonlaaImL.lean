/- Numbering nodes: plain parts. -/
import Derived.Test.YtgojfecpknonlaaImJ
namespace Go.Proofs.Ytgojfecpknonlaa.Im
open Go.RowKit Go.Proofs.YtgojfecpknonlaaW.PrintWords Go.Proofs.YtgojfecpknonlaaW.PrintLast Go.Proofs.YtgojfecpknonlaaW.PrintMore
open Go.Proofs.Ytgojfecpknonlaa.Own Go.Proofs.Ytgojfecpknonlaa.PIm Go.Proofs.Ytgojfecpknonlaa.Wv
set_option linter.unusedVariables false
set_option linter.unusedSimpArgs false

theorem nodup_le : ∀ (n : Nat) (l : List Int), l.Nodup → (∀ x ∈ l, 1 ≤ x ∧ x ≤ n) → l.length ≤ n
  | 0, l, hn, h => by
    rcases l with _ | ⟨x, l⟩
    · exact Nat.le_refl _
    · have := h x List.mem_cons_self
      omega
  | n + 1, l, hn, h => by
    have ih := nodup_le n (l.erase ((n : Int) + 1)) (hn.erase _) (fun x hx => by
      have h1 := (hn.mem_erase_iff).1 hx
      have h2 := h x h1.2
      have h3 := h1.1
      omega)
    rw [List.length_erase] at ih
    split at ih <;> omega
structure NmOk (n : Nat) (nm : List Int) : Prop where
  nodup : nm.Nodup
  val : ∀ x ∈ nm, 1 ≤ x ∧ x ≤ n
theorem NmOk.len {n : Nat} {nm : List Int} (h : NmOk n nm) : nm.length ≤ n := nodup_le n nm h.nodup h.val
theorem num1_ok {n : Nat} {nm : List Int} (h : NmOk n nm) {x : Int} (hx : 0 ≤ x ∧ x ≤ n) : NmOk n (num1 nm x).1 := by
  unfold num1
  split
  · exact h
  · split
    · exact h
    · rename_i h0 hm
      refine ⟨?_, fun y hy => ?_⟩
      · rw [List.nodup_append]
        exact ⟨h.nodup, by simp, fun a ha b hb e => hm (by rw [List.mem_singleton] at hb; rw [← hb, ← e]; exact ha)⟩
      · rcases List.mem_append.1 hy with hy | hy
        · exact h.val y hy
        · obtain rfl := List.mem_singleton.1 hy
          omega
theorem numL_ok {n : Nat} : ∀ {l nm : List Int}, NmOk n nm → (∀ x ∈ l, 0 ≤ x ∧ x ≤ n) → NmOk n (numL nm l).1
  | [], _, h, _ => h
  | x :: l, nm, h, hx => by
    show NmOk n (numL (num1 nm x).1 l).1
    exact numL_ok (l := l) (nm := (num1 nm x).1) (num1_ok h (hx x List.mem_cons_self)) (fun y hy => hx y (List.mem_cons_of_mem _ hy))
theorem stR_ok {n : Nat} {c : Nat → List Int} (hc : ∀ j, ∀ x ∈ c j, 0 ≤ x ∧ x ≤ n) : ∀ (q : Nat) (pre : List Nat), pre.length = q → NmOk n (stR c pre).1 ∧ ∀ j, ∀ x ∈ (stR c pre).2 j, 0 ≤ x ∧ x ≤ n := by
  intro q
  induction q with
  | zero =>
    intro pre hp
    obtain rfl := List.length_eq_zero_iff.1 hp
    exact ⟨⟨List.nodup_nil, fun x hx => by cases hx⟩, hc⟩
  | succ q ih =>
    intro pre hp
    obtain ⟨pre', j, rfl⟩ : ∃ pre' j, pre = pre' ++ [j] := by
      rcases List.eq_nil_or_concat pre with h | ⟨L, b, h⟩
      · subst h; simp at hp
      · exact ⟨L, b, by rw [h, List.concat_eq_append]⟩
    rw [List.length_append, List.length_singleton] at hp
    obtain ⟨h1, h2⟩ := ih pre' (by omega)
    rw [stR_snoc]
    have h3 := numL_ok h1 (h2 j)
    refine ⟨h3, fun k x hx => ?_⟩
    by_cases hk : k = j
    · have hx' : x ∈ (numL (stR c pre').1 ((stR c pre').2 j)).2 := by
        have h4 : x ∈ (if k = j then (numL (stR c pre').1 ((stR c pre').2 j)).2 else (stR c pre').2 k) := hx
        rwa [if_pos hk] at h4
      have h4 := numL_in _ _ x hx'
      have h5 := h3.len
      omega
    · have hx' : x ∈ (stR c pre').2 k := by
        have h4 : x ∈ (if k = j then (numL (stR c pre').1 ((stR c pre').2 j)).2 else (stR c pre').2 k) := hx
        rwa [if_neg hk] at h4
      exact h2 k x hx'
theorem inF_val (n : Nat) (l : List Int) : ∀ x ∈ inF n l, 0 ≤ x ∧ x ≤ n := by
  intro x hx
  unfold inF at hx
  obtain ⟨y, _, rfl⟩ := List.mem_map.1 hx
  split <;> omega
def z127' : S127 := ⟨[], []⟩
/-- The nodes, in the order in which they are met. -/
def nodesF (N : List S127) : Nat → Nat → List Int → List S127 → List Int × List S127
  | 0, _, nm, acc => (nm, acc)
  | f + 1, i, nm, acc => if i < nm.length then nodesF N f (i + 1) (numL nm (inF N.length (N.getD ((nm.getD i 0).toNat - 1) z127').f0)).1 (acc ++ [⟨(numL nm (inF N.length (N.getD ((nm.getD i 0).toNat - 1) z127').f0)).2, (N.getD ((nm.getD i 0).toNat - 1) z127').f1⟩]) else (nm, acc)
theorem nodesF_done (N : List S127) (f i : Nat) (nm : List Int) (acc : List S127) (h : nm.length ≤ i) : nodesF N f i nm acc = (nm, acc) := by
  cases f with
  | zero => rfl
  | succ f =>
    unfold nodesF
    rw [if_neg (by omega)]
/-- A shape's canon. -/
def rowsC (S : Sh) : List (List Int) := S.T.flatMap (fun t => [inF S.N.length t.f0, inF S.N.length t.f1]) ++ [inF S.N.length S.G]
def contC (S : Sh) (j : Nat) : List Int := (rowsC S).getD j []
def stC (S : Sh) : List Int × (Nat → List Int) := stR (contC S) (List.range (2 * S.T.length + 1))
def canonF (S : Sh) : Sh := ⟨(List.range S.T.length).map (fun i => ⟨(stC S).2 (2 * i), (stC S).2 (2 * i + 1)⟩), (stC S).2 (2 * S.T.length), (nodesF S.N S.N.length 0 (stC S).1 []).2⟩
theorem contC_val (S : Sh) (j : Nat) : ∀ x ∈ contC S j, 0 ≤ x ∧ x ≤ S.N.length := by
  intro x hx
  unfold contC at hx
  rw [List.getD_eq_getElem?_getD] at hx
  cases h : (rowsC S)[j]? with
  | none => rw [h] at hx; cases hx
  | some l =>
    rw [h] at hx
    have hl := List.mem_of_getElem? h
    unfold rowsC at hl
    rcases List.mem_append.1 hl with hl | hl
    · obtain ⟨t, _, ht⟩ := List.mem_flatMap.1 hl
      rcases List.mem_cons.1 ht with rfl | ht
      · exact inF_val _ _ x hx
      · rcases List.mem_cons.1 ht with rfl | ht
        · exact inF_val _ _ x hx
        · cases ht
    · obtain rfl := List.mem_singleton.1 hl
      exact inF_val _ _ x hx
end Go.Proofs.Ytgojfecpknonlaa.Im

