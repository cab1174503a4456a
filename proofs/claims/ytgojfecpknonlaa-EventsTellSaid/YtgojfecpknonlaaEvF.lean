/- Plain lists: rows in order of their points, and rows that are alike point by point. -/
import Derived.Test.YtgojfecpknonlaaPStx0
namespace Go.Proofs.Ytgojfecpknonlaa.Ev
open Go.Proofs.Ytgojfecpknonlaa.PSt
set_option linter.unusedVariables false
set_option linter.unusedSimpArgs false

def Srt (xs : List S72) : Prop := xs.Pairwise (fun x y => x.f4 ≤ y.f4)
/-- The same events at each point, in the same order. -/
def Same (xs ys : List S72) : Prop := ∀ k : Int, ys.filter (fun d => d.f4 == k) = xs.filter (fun d => d.f4 == k)
theorem Same.refl (xs : List S72) : Same xs xs := fun _ => rfl
theorem Same.trans {xs ys zs : List S72} (h : Same xs ys) (k : Same ys zs) : Same xs zs := fun q => (k q).trans (h q)
theorem Same.append {xs ys xs' ys' : List S72} (h : Same xs ys) (k : Same xs' ys') : Same (xs ++ xs') (ys ++ ys') := fun q => by
  rw [List.filter_append, List.filter_append, h q, k q]
theorem Same.cons {xs ys : List S72} (d : S72) (h : Same xs ys) : Same (d :: xs) (d :: ys) := fun q => by
  rw [List.filter_cons, List.filter_cons, h q]
theorem same_mem {xs ys : List S72} (h : Same xs ys) (d : S72) : d ∈ ys ↔ d ∈ xs := by
  have h1 := h d.f4
  have e : ∀ zs : List S72, d ∈ zs ↔ d ∈ zs.filter (fun x => x.f4 == d.f4) := fun zs => by simp
  rw [e ys, h1, ← e xs]
/-- Two rows change places, whose events have no point in common. -/
theorem same_swap {us vs : List S72} (h : ∀ u ∈ us, ∀ v ∈ vs, u.f4 ≠ v.f4) : Same (us ++ vs) (vs ++ us) := fun q => by
  rw [List.filter_append, List.filter_append]
  by_cases hu : us.filter (fun d => d.f4 == q) = []
  · rw [hu, List.nil_append, List.append_nil]
  · have hv : vs.filter (fun d => d.f4 == q) = [] := by
      rw [List.filter_eq_nil_iff]
      intro v hv he
      obtain ⟨u, hu⟩ := List.exists_mem_of_ne_nil _ hu
      rw [List.mem_filter] at hu
      exact h u hu.1 v hv (by rw [beq_iff_eq] at he; have := hu.2; rw [beq_iff_eq] at this; omega)
    rw [hv, List.nil_append, List.append_nil]
theorem same_swap2 {x y : S72} {us vs : List S72} (h : x.f4 ≠ y.f4) : Same (us ++ x :: y :: vs) (us ++ y :: x :: vs) := by
  refine (Same.refl us).append ?_
  have := (same_swap (us := [x]) (vs := [y]) (by simpa using h)).append (Same.refl vs)
  exact this
theorem srt_append {us vs : List S72} : Srt (us ++ vs) ↔ Srt us ∧ Srt vs ∧ ∀ u ∈ us, ∀ v ∈ vs, u.f4 ≤ v.f4 := List.pairwise_append
theorem srt_cons {d : S72} {vs : List S72} : Srt (d :: vs) ↔ (∀ v ∈ vs, d.f4 ≤ v.f4) ∧ Srt vs := List.pairwise_cons

/-- Ahead of i = a + t the insertion sort has put in order. -/
def OutI (P S Q : List S72) (t : Nat) (zs : List S72) : Prop := ∃ S1 : List S72, zs = P ++ (S1 ++ (S.drop t ++ Q)) ∧ Srt S1 ∧ Same (S.take t) S1 ∧ S1.length = t
/-- It takes one down, to j. -/
def InnI (P S Q : List S72) (t j : Nat) (zs : List S72) : Prop := ∃ (U : List S72) (d : S72) (V : List S72), zs = P ++ (U ++ d :: (V ++ (S.drop (t + 1) ++ Q))) ∧ j = P.length + U.length ∧ Srt (U ++ V) ∧ (∀ v ∈ V, d.f4 < v.f4) ∧ Same (S.take (t + 1)) (U ++ d :: V) ∧ U.length + V.length = t
theorem out_start (P S Q : List S72) (h : 0 < S.length) : OutI P S Q 1 (P ++ (S ++ Q)) := by
  obtain ⟨d, S, rfl⟩ : ∃ d T, S = d :: T := by
    cases S with
    | nil => simp at h
    | cons d T => exact ⟨d, T, rfl⟩
  exact ⟨[d], by simp, by unfold Srt; simp, by simpa using Same.refl [d], rfl⟩
theorem out_start' (P S Q : List S72) : OutI P S Q (min 1 S.length) (P ++ (S ++ Q)) := by
  rcases Nat.eq_zero_or_pos S.length with h | h
  · have hS : S = [] := List.eq_nil_of_length_eq_zero h
    subst hS
    exact ⟨[], by simp, List.Pairwise.nil, Same.refl _, rfl⟩
  · rw [show min 1 S.length = 1 by omega]
    exact out_start P S Q h
theorem out_end {P S Q zs : List S72} (h : OutI P S Q S.length zs) : ∃ S1, zs = P ++ (S1 ++ Q) ∧ Srt S1 ∧ Same S S1 ∧ S1.length = S.length := by
  obtain ⟨S1, h1, h2, h3, h4⟩ := h
  rw [List.drop_length, List.nil_append] at h1
  rw [List.take_length] at h3
  exact ⟨S1, h1, h2, h3, h4⟩
theorem ins_open {P S Q zs : List S72} {t : Nat} (h : OutI P S Q t zs) (ht : t < S.length) : InnI P S Q t (P.length + t) zs := by
  obtain ⟨S1, h1, h2, h3, h4⟩ := h
  refine ⟨S1, S[t], [], ?_, by rw [h4], by simpa using h2, fun v hv => by simp at hv, ?_, by simpa using h4⟩
  · rw [h1, List.drop_eq_getElem_cons ht]
    rfl
  · rw [List.take_succ_eq_append_getElem ht]
    exact h3.append (Same.refl _)
theorem ins_left {P S Q zs : List S72} {t : Nat} (h : InnI P S Q t P.length zs) : OutI P S Q (t + 1) zs := by
  obtain ⟨U, d, V, h1, h2, h3, h4, h5, h6⟩ := h
  have hU : U = [] := List.eq_nil_of_length_eq_zero (by omega)
  subst hU
  refine ⟨d :: V, by rw [h1]; simp, ?_, by simpa using h5, by simp at h6 ⊢; omega⟩
  rw [srt_cons]
  exact ⟨fun v hv => Int.le_of_lt (h4 v hv), by simpa using h3⟩
theorem ins_at {P S Q zs : List S72} {t m : Nat} (h : InnI P S Q t (m + 1) zs) (hm : P.length ≤ m) :
    ∃ x y : S72, zs[m + 1]? = some x ∧ zs[m]? = some y ∧ (x.f4 < y.f4 → InnI P S Q t m ((zs.set (m + 1) y).set m x)) ∧ (¬ x.f4 < y.f4 → OutI P S Q (t + 1) zs) := by
  obtain ⟨U, d, V, h1, h2, h3, h4, h5, h6⟩ := h
  obtain ⟨U, u, rfl⟩ : ∃ U' u, U = U' ++ [u] := by
    rcases List.eq_nil_or_concat U with rfl | ⟨U', u, rfl⟩
    · simp at h2; omega
    · exact ⟨U', u, by simp⟩
  have hj : m = P.length + U.length := by simp at h2; omega
  have e : zs = (P ++ U) ++ (u :: d :: (V ++ (S.drop (t + 1) ++ Q))) := by rw [h1]; simp
  have hl : (P ++ U).length = m := by rw [List.length_append]; omega
  refine ⟨d, u, ?_, ?_, fun hlt => ?_, fun hge => ?_⟩
  · rw [e, List.getElem?_append_right (by omega), hl, Nat.add_sub_cancel_left]
    rfl
  · rw [e, List.getElem?_append_right (by omega), hl, Nat.sub_self]
    rfl
  · refine ⟨U, d, u :: V, ?_, hj, by simpa using h3, ?_, ?_, by simp at h6 ⊢; omega⟩
    · rw [e, List.set_append_right _ _ (by omega), hl, Nat.add_sub_cancel_left, List.set_append_right _ _ (by omega), hl, Nat.sub_self]
      simp
    · intro v hv
      rcases List.mem_cons.1 hv with rfl | hv
      · exact hlt
      · exact h4 v hv
    · refine h5.trans ?_
      have h7 := same_swap2 (x := u) (y := d) (us := U) (vs := V) (by omega)
      simpa using h7
  · refine ⟨(U ++ [u]) ++ d :: V, by rw [h1]; simp, ?_, h5, by simp at h6 ⊢; omega⟩
    have h7 := srt_append.1 h3
    have h8 := srt_append.1 h7.1
    rw [srt_append, srt_cons]
    refine ⟨h7.1, ⟨fun v hv => Int.le_of_lt (h4 v hv), h7.2.1⟩, fun x hx v hv => ?_⟩
    rcases List.mem_cons.1 hv with rfl | hv
    · rcases List.mem_append.1 hx with hx | hx
      · have := h8.2.2 x hx u (by simp)
        omega
      · have : x = u := by simpa using hx
        subst this
        omega
    · exact h7.2.2 x hx v hv
theorem inn_len {P S Q zs : List S72} {t j : Nat} (h : InnI P S Q t j zs) (ht : t < S.length) : zs.length = P.length + (S.length + Q.length) ∧ P.length ≤ j ∧ j ≤ P.length + t := by
  obtain ⟨U, d, V, h1, h2, h3, h4, h5, h6⟩ := h
  refine ⟨?_, by omega, by omega⟩
  rw [h1]
  simp only [List.length_append, List.length_cons, List.length_drop]
  omega
end Go.Proofs.Ytgojfecpknonlaa.Ev

