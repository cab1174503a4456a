/- Plain lists: what a symmetric merge does. -/
import Derived.Test.YtgojfecpknonlaaEvF
namespace Go.Proofs.Ytgojfecpknonlaa.Ev
open Go.Proofs.Ytgojfecpknonlaa.PSt
set_option linter.unusedVariables false
set_option linter.unusedSimpArgs false

theorem srt_get {V : List S72} (h : Srt V) {i j : Nat} {x y : S72} (hx : V[i]? = some x) (hy : V[j]? = some y) (hij : i ≤ j) : x.f4 ≤ y.f4 := by
  rcases Nat.lt_or_eq_of_le hij with hlt | rfl
  · obtain ⟨hi, rfl⟩ := List.getElem?_eq_some_iff.1 hx
    obtain ⟨hj, rfl⟩ := List.getElem?_eq_some_iff.1 hy
    exact List.pairwise_iff_getElem.1 h i j hi hj hlt
  · rw [hx] at hy
    injection hy with hy
    subst hy
    exact Int.le_refl _
theorem srt_take {V : List S72} (h : Srt V) (i : Nat) : Srt (V.take i) := List.Pairwise.sublist (List.take_sublist i V) h
theorem srt_drop {V : List S72} (h : Srt V) (i : Nat) : Srt (V.drop i) := List.Pairwise.sublist (List.drop_sublist i V) h

/-- A search by halves: below s it does not hold, from r on it holds. -/
structure Half (Pd : Nat → Prop) (lo hi s r : Nat) : Prop where
  le1 : lo ≤ s
  le2 : s ≤ r
  le3 : r ≤ hi
  no : ∀ c, lo ≤ c → c < s → ¬ Pd c
  yes : ∀ c, r ≤ c → c < hi → Pd c
theorem half_start (Pd : Nat → Prop) (lo hi : Nat) (h : lo ≤ hi) : Half Pd lo hi lo hi := ⟨Nat.le_refl _, h, Nat.le_refl _, fun c h1 h2 => by omega, fun c h1 h2 => by omega⟩
theorem half_no {Pd : Nat → Prop} {lo hi s r c : Nat} (h : Half Pd lo hi s r) (hs : s ≤ c) (hr : c < r) (mono : ∀ x y, lo ≤ x → x ≤ y → y < hi → Pd x → Pd y) (hc : ¬ Pd c) : Half Pd lo hi (c + 1) r := by
  have := h.le1; have := h.le2; have := h.le3
  refine ⟨by omega, by omega, h.le3, fun x h1 h2 hx => hc (mono x c h1 (by omega) (by omega) hx), h.yes⟩
theorem half_yes {Pd : Nat → Prop} {lo hi s r c : Nat} (h : Half Pd lo hi s r) (hs : s ≤ c) (hr : c < r) (mono : ∀ x y, lo ≤ x → x ≤ y → y < hi → Pd x → Pd y) (hc : Pd c) : Half Pd lo hi s c := by
  have := h.le1; have := h.le2; have := h.le3
  exact ⟨h.le1, hs, by omega, h.no, fun x h1 h2 => mono c x (by omega) h1 h2 hc⟩

/-- Keys by index. -/
def ky (zs : List S72) (i : Nat) : Int := (zs.getD i z72).f4
theorem ky_of {zs : List S72} {i : Nat} {d : S72} (h : zs[i]? = some d) : ky zs i = d.f4 := by
  unfold ky
  rw [List.getD_eq_getElem?_getD, h]
  rfl
theorem ky_mid {P V Q : List S72} {i : Nat} (hi : i < V.length) : ky (P ++ (V ++ Q)) (P.length + i) = ky V i := by
  unfold ky
  rw [List.getD_eq_getElem?_getD, List.getElem?_append_right (by omega), Nat.add_sub_cancel_left, List.getElem?_append_left hi, List.getD_eq_getElem?_getD]
theorem ky_le {V : List S72} (h : Srt V) {i j : Nat} (hij : i ≤ j) (hj : j < V.length) : ky V i ≤ ky V j :=
  by rw [ky_of (List.getElem?_eq_getElem (show i < V.length by omega)), ky_of (List.getElem?_eq_getElem hj)]; exact srt_get h (List.getElem?_eq_getElem _) (List.getElem?_eq_getElem _) hij
theorem ky_take {V : List S72} {i : Nat} {x : S72} (hx : x ∈ V.take i) : ∃ j, j < i ∧ j < V.length ∧ ky V j = x.f4 := by
  rw [List.mem_take_iff_getElem] at hx
  obtain ⟨j, hj, rfl⟩ := hx
  exact ⟨j, by omega, by omega, ky_of (List.getElem?_eq_getElem _)⟩
theorem ky_drop {V : List S72} {i : Nat} {x : S72} (hx : x ∈ V.drop i) : ∃ j, i ≤ j ∧ j < V.length ∧ ky V j = x.f4 := by
  rw [List.mem_drop_iff_getElem] at hx
  obtain ⟨j, hj, rfl⟩ := hx
  exact ⟨i + j, by omega, by omega, ky_of (List.getElem?_eq_getElem _)⟩

/-- One event is taken to its place among those behind it. -/
theorem left_one {d : S72} {V : List S72} {t : Nat} (hV : Srt V) (hl : ∀ j, j < t → j < V.length → ky V j < d.f4) (hr : ∀ j, t ≤ j → j < V.length → ¬ ky V j < d.f4) : Srt (V.take t ++ d :: V.drop t) ∧ Same (d :: V) (V.take t ++ d :: V.drop t) := by
  have h1 : ∀ x ∈ V.take t, x.f4 < d.f4 := fun x hx => by
    obtain ⟨j, a, b, e⟩ := ky_take hx
    rw [← e]
    exact hl j a b
  have h2 : ∀ x ∈ V.drop t, d.f4 ≤ x.f4 := fun x hx => by
    obtain ⟨j, a, b, e⟩ := ky_drop hx
    have := hr j a b
    omega
  refine ⟨?_, ?_⟩
  · rw [srt_append, srt_cons]
    refine ⟨srt_take hV t, ⟨h2, srt_drop hV t⟩, fun x hx y hy => ?_⟩
    have := h1 x hx
    rcases List.mem_cons.1 hy with rfl | hy
    · omega
    · have := h2 y hy
      omega
  · have h3 := (same_swap (us := [d]) (vs := V.take t) (fun u hu v hv => by
      have : u = d := by simpa using hu
      subst this
      have := h1 v hv
      omega)).append (Same.refl (V.drop t))
    rw [List.append_assoc, List.append_assoc, List.take_append_drop] at h3
    exact h3
theorem right_one {d : S72} {U : List S72} {t : Nat} (hU : Srt U) (hl : ∀ j, j < t → j < U.length → ¬ d.f4 < ky U j) (hr : ∀ j, t ≤ j → j < U.length → d.f4 < ky U j) : Srt (U.take t ++ d :: U.drop t) ∧ Same (U ++ [d]) (U.take t ++ d :: U.drop t) := by
  have h1 : ∀ x ∈ U.take t, x.f4 ≤ d.f4 := fun x hx => by
    obtain ⟨j, a, b, e⟩ := ky_take hx
    have := hl j a b
    omega
  have h2 : ∀ x ∈ U.drop t, d.f4 < x.f4 := fun x hx => by
    obtain ⟨j, a, b, e⟩ := ky_drop hx
    rw [← e]
    exact hr j a b
  refine ⟨?_, ?_⟩
  · rw [srt_append, srt_cons]
    refine ⟨srt_take hU t, ⟨fun x hx => Int.le_of_lt (h2 x hx), srt_drop hU t⟩, fun x hx y hy => ?_⟩
    have := h1 x hx
    rcases List.mem_cons.1 hy with rfl | hy
    · exact this
    · have := h2 y hy
      omega
  · have h3 := (Same.refl (U.take t)).append (same_swap (us := U.drop t) (vs := [d]) (fun u hu v hv => by
      have : v = d := by simpa using hv
      subst this
      have := h2 u hu
      omega))
    rw [← List.append_assoc, List.take_append_drop] at h3
    exact h3
/-- Parts in order, put behind each other in order. -/
theorem srt_join {A B : List S72} (hA : Srt A) (hB : Srt B) (h : ∀ x ∈ A, ∀ y ∈ B, x.f4 ≤ y.f4) : Srt (A ++ B) := srt_append.2 ⟨hA, hB, h⟩

/-- The question of a symmetric merge: of a row U ++ V, at c. -/
def SymPd (U V : List S72) (c : Nat) : Prop := ky V ((U.length + V.length) / 2 - 1 - c) < ky U c
def symLo (U V : List S72) : Nat := if (U.length + V.length) / 2 < U.length then (U.length + V.length) / 2 - V.length else 0
def symHi (U V : List S72) : Nat := if (U.length + V.length) / 2 < U.length then (U.length + V.length) / 2 else U.length
theorem sym_bounds (U V : List S72) : symLo U V ≤ symHi U V ∧ symHi U V ≤ U.length ∧ symHi U V ≤ (U.length + V.length) / 2 ∧ (U.length + V.length) / 2 - symLo U V ≤ V.length := by
  unfold symLo symHi
  split <;> omega
theorem sym_mono {U V : List S72} (hU : Srt U) (hV : Srt V) : ∀ x y, symLo U V ≤ x → x ≤ y → y < symHi U V → SymPd U V x → SymPd U V y := by
  intro x y h1 h2 h3 h
  have hb := sym_bounds U V
  unfold SymPd at h ⊢
  have e1 := ky_le hU h2 (by omega)
  have e2 := ky_le hV (i := (U.length + V.length) / 2 - 1 - y) (j := (U.length + V.length) / 2 - 1 - x) (by omega) (by omega)
  omega
structure SymSplit (U V : List S72) (s : Nat) : Prop where
  le1 : s ≤ U.length
  le2 : s ≤ (U.length + V.length) / 2
  le3 : (U.length + V.length) / 2 - s ≤ V.length
  cross : ∀ x ∈ V.take ((U.length + V.length) / 2 - s), ∀ y ∈ U.drop s, x.f4 < y.f4
  keep : ∀ x ∈ U.take s, ∀ y ∈ V.drop ((U.length + V.length) / 2 - s), x.f4 ≤ y.f4
theorem sym_split {U V : List S72} (hU : Srt U) (hV : Srt V) {s : Nat} (h : Half (SymPd U V) (symLo U V) (symHi U V) s s) : SymSplit U V s := by
  have hb := sym_bounds U V
  have h1 := h.le1
  have h3 := h.le3
  refine ⟨by omega, by omega, by omega, fun x hx y hy => ?_, fun x hx y hy => ?_⟩
  · obtain ⟨j, a1, a2, e1⟩ := ky_take hx
    obtain ⟨i, b1, b2, e2⟩ := ky_drop hy
    have hs : s < symHi U V := by
      unfold symHi
      split <;> omega
    have hp := h.yes s (Nat.le_refl _) hs
    unfold SymPd at hp
    have e3 := ky_le hV (i := j) (j := (U.length + V.length) / 2 - 1 - s) (by omega) (by omega)
    have e4 := ky_le hU b1 b2
    omega
  · obtain ⟨i, a1, a2, e1⟩ := ky_take hx
    obtain ⟨j, b1, b2, e2⟩ := ky_drop hy
    have hs : symLo U V < s := by
      unfold symLo at h1 ⊢
      split <;> split at h1 <;> omega
    have hp := h.no (s - 1) (by omega) (by omega)
    unfold SymPd at hp
    rw [show (U.length + V.length) / 2 - 1 - (s - 1) = (U.length + V.length) / 2 - s by omega] at hp
    have e3 := ky_le hV (i := (U.length + V.length) / 2 - s) (j := j) (by omega) (by omega)
    have e4 := ky_le hU (i := i) (j := s - 1) (by omega) (by omega)
    omega
/-- Behind the rotation both halves are rows to merge, the left one's events not behind the right one's. -/
theorem sym_same {U V : List S72} {s : Nat} (h : SymSplit U V s) : Same (U ++ V) ((U.take s ++ V.take ((U.length + V.length) / 2 - s)) ++ (U.drop s ++ V.drop ((U.length + V.length) / 2 - s))) := by
  have h1 := (Same.refl (U.take s)).append ((same_swap (us := U.drop s) (vs := V.take ((U.length + V.length) / 2 - s)) (fun u hu v hv => by
    have := h.cross v hv u hu
    omega)).append (Same.refl (V.drop ((U.length + V.length) / 2 - s))))
  rw [List.append_assoc, List.take_append_drop, ← List.append_assoc (U.take s), List.take_append_drop] at h1
  simpa only [List.append_assoc] using h1
theorem sym_done {U V L R : List S72} {s : Nat} (hU : Srt U) (hV : Srt V) (h : SymSplit U V s) (hL : Srt L) (hR : Srt R) (sL : Same (U.take s ++ V.take ((U.length + V.length) / 2 - s)) L) (sR : Same (U.drop s ++ V.drop ((U.length + V.length) / 2 - s)) R) : Srt (L ++ R) ∧ Same (U ++ V) (L ++ R) := by
  refine ⟨srt_join hL hR (fun x hx y hy => ?_), (sym_same h).trans (sL.append sR)⟩
  rw [same_mem sL] at hx
  rw [same_mem sR] at hy
  rcases List.mem_append.1 hx with hx | hx <;> rcases List.mem_append.1 hy with hy | hy
  · have := (srt_append.1 (show Srt (U.take s ++ U.drop s) by rw [List.take_append_drop]; exact hU)).2.2 x hx y hy
    exact this
  · exact h.keep x hx y hy
  · exact Int.le_of_lt (h.cross x hx y hy)
  · exact (srt_append.1 (show Srt (V.take ((U.length + V.length) / 2 - s) ++ V.drop ((U.length + V.length) / 2 - s)) by rw [List.take_append_drop]; exact hV)).2.2 x hx y hy
end Go.Proofs.Ytgojfecpknonlaa.Ev

