/- Plain laws of the stats: the peak. -/
import Derived.Test.YtgojfecpknonlaaStM
namespace Go.Proofs.Ytgojfecpknonlaa.St
open Go.RowKit Go.Proofs.YtgojfecpknonlaaW.PrintWords Go.Proofs.YtgojfecpknonlaaW.PrintLast Go.Proofs.YtgojfecpknonlaaW.PrintMore
open Go.Proofs.Ytgojfecpknonlaa.Own Go.Proofs.Ytgojfecpknonlaa.PSt
set_option linter.unusedVariables false
set_option linter.unusedSimpArgs false

def cnt (l : List S72) (a : Int) : Nat := l.countP (inAt72 a)
theorem cnt_le (l : List S72) (a : Int) : cnt l a ≤ l.length := List.countP_le_length
theorem cnt_append (l m : List S72) (a : Int) : cnt (l ++ m) a = cnt l a + cnt m a := List.countP_append
def pkStep (l : List S72) (acc : Nat) (d : S72) : Nat := if d.f5 ≥ d.f3 then max acc (cnt l d.f3) else acc
def pk (l : List S72) : Nat := l.foldl (pkStep l) 0
theorem pkf_acc (l : List S72) : ∀ (r : List S72) (acc : Nat), acc ≤ r.foldl (pkStep l) acc
  | [], acc => Nat.le_refl _
  | d :: r, acc => by
    rw [List.foldl_cons]
    have := pkf_acc l r (pkStep l acc d)
    unfold pkStep at this ⊢
    split at this <;> split <;> omega
theorem pkf_ge (l : List S72) : ∀ (r : List S72) (acc : Nat) (d : S72), d ∈ r → d.f5 ≥ d.f3 → cnt l d.f3 ≤ r.foldl (pkStep l) acc
  | [], acc, d, h, _ => by cases h
  | x :: r, acc, d, h, hd => by
    rw [List.foldl_cons]
    rcases List.mem_cons.1 h with rfl | h
    · have := pkf_acc l r (pkStep l acc d)
      have e : cnt l d.f3 ≤ pkStep l acc d := by unfold pkStep; rw [if_pos hd]; omega
      omega
    · exact pkf_ge l r _ d h hd
theorem pkf_le (l : List S72) (B : Nat) : ∀ (r : List S72) (acc : Nat), acc ≤ B → (∀ d ∈ r, d.f5 ≥ d.f3 → cnt l d.f3 ≤ B) → r.foldl (pkStep l) acc ≤ B
  | [], acc, h, _ => h
  | d :: r, acc, h, hr => by
    rw [List.foldl_cons]
    refine pkf_le l B r _ ?_ (fun x hx => hr x (List.mem_cons_of_mem _ hx))
    unfold pkStep
    split
    · rename_i hd
      have := hr d (List.mem_cons_self ..) hd
      omega
    · exact h
theorem pk_ge (l : List S72) (d : S72) (h : d ∈ l) (hd : d.f5 ≥ d.f3) : cnt l d.f3 ≤ pk l := pkf_ge l l 0 d h hd
theorem pk_le (l : List S72) (B : Nat) (h : ∀ d ∈ l, d.f5 ≥ d.f3 → cnt l d.f3 ≤ B) : pk l ≤ B := pkf_le l B l 0 (Nat.zero_le _) h

theorem latest (a : Int) : ∀ (r : List S72), (∃ d ∈ r, inAt72 a d = true) → ∃ d ∈ r, inAt72 a d = true ∧ ∀ x ∈ r, inAt72 a x = true → x.f3 ≤ d.f3
  | [], h => by obtain ⟨d, h, _⟩ := h; cases h
  | y :: r, h => by
    by_cases hr : ∃ d ∈ r, inAt72 a d = true
    · obtain ⟨d, hd, hda, hmax⟩ := latest a r hr
      by_cases hy : inAt72 a y = true ∧ d.f3 < y.f3
      · refine ⟨y, List.mem_cons_self .., hy.1, fun x hx hxa => ?_⟩
        rcases List.mem_cons.1 hx with rfl | hx
        · exact Int.le_refl _
        · have := hmax x hx hxa
          omega
      · refine ⟨d, List.mem_cons_of_mem _ hd, hda, fun x hx hxa => ?_⟩
        rcases List.mem_cons.1 hx with rfl | hx
        · by_cases h1 : d.f3 < x.f3
          · exact absurd ⟨hxa, h1⟩ hy
          · omega
        · exact hmax x hx hxa
    · obtain ⟨d, hd, hda⟩ := h
      rcases List.mem_cons.1 hd with rfl | hd
      · refine ⟨d, List.mem_cons_self .., hda, fun x hx hxa => ?_⟩
        rcases List.mem_cons.1 hx with rfl | hx
        · exact Int.le_refl _
        · exact absurd ⟨x, hx, hxa⟩ hr
      · exact absurd ⟨d, hd, hda⟩ hr
/-- At no moment are more under way than at the peak. -/
theorem cnt_le_pk (l : List S72) (a : Int) : cnt l a ≤ pk l := by
  by_cases h : ∃ d ∈ l, inAt72 a d = true
  · obtain ⟨d, hd, hda, hmax⟩ := latest a l h
    have hda' := hda
    unfold inAt72 at hda'
    simp only [Bool.and_eq_true, decide_eq_true_eq] at hda'
    refine Nat.le_trans ?_ (pk_ge l d hd (by omega))
    unfold cnt
    refine List.countP_mono_left fun x hx hxa => ?_
    have h1 := hmax x hx hxa
    unfold inAt72 at hxa ⊢
    simp only [Bool.and_eq_true, decide_eq_true_eq] at hxa ⊢
    omega
  · have : cnt l a = 0 := by
      unfold cnt
      rw [List.countP_eq_zero]
      intro x hx hxa
      exact h ⟨x, hx, hxa⟩
    omega
theorem pk_append_le (l m : List S72) : pk (l ++ m) ≤ pk l + pk m := by
  refine pk_le _ _ fun d hd hd2 => ?_
  rw [cnt_append]
  have := cnt_le_pk l d.f3
  have := cnt_le_pk m d.f3
  omega
theorem pk_append_ge (l m : List S72) : max (pk l) (pk m) ≤ pk (l ++ m) := by
  have h1 : pk l ≤ pk (l ++ m) := by
    refine pk_le _ _ fun d hd hd2 => ?_
    have := pk_ge (l ++ m) d (List.mem_append_left _ hd) hd2
    rw [cnt_append] at this
    omega
  have h2 : pk m ≤ pk (l ++ m) := by
    refine pk_le _ _ fun d hd hd2 => ?_
    have := pk_ge (l ++ m) d (List.mem_append_right _ hd) hd2
    rw [cnt_append] at this
    omega
  omega
theorem pk_len (l : List S72) : pk l ≤ l.length := pk_le _ _ fun d _ _ => cnt_le l d.f3

theorem leO_add {α : Type} {f : Nat → Option α} (h : ∀ k, LeO (f k) (f (k + 1))) (r : α) : ∀ (j k : Nat), f k = some r → f (k + j) = some r
  | 0, k, e => e
  | j + 1, k, e => h (k + j) r (leO_add h r j k e)
theorem under72_ge (l : List S72) (a : Int) (hl : l.length ≤ 100000) (k : Nat) (hk : l.length + 1 ≤ k) : stats_Under.f k l a = some ((cnt l a : Nat) : Int) := by
  have h := leO_add (f := fun k => stats_Under.f k l a) (fun k => stats_Under.mono l a k) _ (k - (l.length + 1)) (l.length + 1) (under72 l a hl)
  rw [show l.length + 1 + (k - (l.length + 1)) = k by omega] at h
  exact h
theorem under58_ge (l : List S58) (a : Int) (hl : l.length ≤ 100000) (k : Nat) (hk : l.length + 1 ≤ k) : demesneref41_Under.f k l a = some ((cnt (l.map re58) a : Nat) : Int) := by
  have h := leO_add (f := fun k => demesneref41_Under.f k l a) (fun k => demesneref41_Under.mono l a k) _ (k - (l.length + 1)) (l.length + 1) (under58 l a hl)
  rw [show l.length + 1 + (k - (l.length + 1)) = k by omega] at h
  rw [show cnt (l.map re58) a = l.countP (inAt58 a) from under_map l a]
  exact h

theorem peak_l (l : List S72) (hl : l.length ≤ 10000) : ∀ (m i acc : Nat), i + m = l.length → acc ≤ 100000 →
    stats_peak.l0 (m + 1 + (l.length + 1)) l acc l (l.length : Int) i = some (((l.drop i).foldl (pkStep l) acc : Nat) : Int)
  | 0, i, acc, h, ha => by
    have : i = l.length := by omega
    subst this
    rw [show 0 + 1 + (l.length + 1) = (l.length + 1) + 1 by omega]
    unfold stats_peak.l0
    rw [if_neg (by omega), List.drop_length]
    rfl
  | m + 1, i, acc, h, ha => by
    have hi : i < l.length := by omega
    rw [show m + 1 + 1 + (l.length + 1) = (m + 1 + (l.length + 1)) + 1 by omega]
    unfold stats_peak.l0
    rw [if_pos (by omega), if_pos (by omega), if_pos (by omega), rd72 l i hi, List.drop_eq_getElem_cons hi, List.foldl_cons]
    rw [wrap_in (i := (i : Int) + 1) (by omega) (by omega)]
    have hc := cnt_le l (l[i]).f3
    by_cases h1 : (l[i]).f5 ≥ (l[i]).f3
    · rw [if_pos h1, under72_ge l _ (by omega) _ (by omega), Option.bind_some]
      have ih := peak_l l hl m (i + 1) (max acc (cnt l (l[i]).f3)) (by omega) (by omega)
      have e : mx (acc : Int) ((cnt l (l[i]).f3 : Nat) : Int) = ((max acc (cnt l (l[i]).f3) : Nat) : Int) := by
        unfold mx
        split <;> omega
      rw [e]
      simp only [Int.natCast_add, Int.natCast_one] at ih
      rw [ih]
      have e2 : pkStep l acc l[i] = max acc (cnt l (l[i]).f3) := by unfold pkStep; rw [if_pos h1]
      rw [e2]
    · rw [if_neg h1]
      have ih := peak_l l hl m (i + 1) acc (by omega) ha
      simp only [Int.natCast_add, Int.natCast_one] at ih
      rw [ih]
      have e2 : pkStep l acc l[i] = acc := by unfold pkStep; rw [if_neg h1]
      rw [e2]
theorem peak_is (l : List S72) (hl : l.length ≤ 10000) : ∃ k, stats_peak.f k l = some ((pk l : Nat) : Int) := by
  refine ⟨l.length + 1 + (l.length + 1), ?_⟩
  have h := peak_l l hl l.length 0 0 (by omega) (by omega)
  simp only [List.drop_zero] at h
  exact h

def rpStep (l : List S72) (acc : Nat) (d : S72) : Nat := max (max acc (cnt l d.f3)) (cnt l d.f5)
theorem rpf_acc (l : List S72) : ∀ (r : List S72) (acc : Nat), acc ≤ r.foldl (rpStep l) acc
  | [], acc => Nat.le_refl _
  | d :: r, acc => by
    rw [List.foldl_cons]
    have := rpf_acc l r (rpStep l acc d)
    unfold rpStep at this ⊢
    omega
theorem rpf_ge (l : List S72) : ∀ (r : List S72) (acc : Nat) (d : S72), d ∈ r → cnt l d.f3 ≤ r.foldl (rpStep l) acc
  | [], acc, d, h => by cases h
  | x :: r, acc, d, h => by
    rw [List.foldl_cons]
    rcases List.mem_cons.1 h with rfl | h
    · have := rpf_acc l r (rpStep l acc d)
      have e : cnt l d.f3 ≤ rpStep l acc d := by unfold rpStep; omega
      omega
    · exact rpf_ge l r _ d h
theorem rpf_le (l : List S72) : ∀ (r : List S72) (acc : Nat), acc ≤ pk l → r.foldl (rpStep l) acc ≤ pk l
  | [], acc, h => h
  | d :: r, acc, h => by
    rw [List.foldl_cons]
    refine rpf_le l r _ ?_
    have h1 := cnt_le_pk l d.f3
    have h2 := cnt_le_pk l d.f5
    unfold rpStep
    omega
theorem rp_is (l : List S72) : l.foldl (rpStep l) 0 = pk l := by
  have h1 := rpf_le l l 0 (Nat.zero_le _)
  have h2 : pk l ≤ l.foldl (rpStep l) 0 := pk_le l _ fun d hd _ => rpf_ge l l 0 d hd
  omega

theorem refPeak_l (l : List S58) (hl : l.length ≤ 10000) : ∀ (m i acc : Nat), i + m = l.length → acc ≤ 100000 →
    demesneref41_Peak.l0 (m + 1 + (l.length + 1)) l acc i = some ((((l.map re58).drop i).foldl (rpStep (l.map re58)) acc : Nat) : Int)
  | 0, i, acc, h, ha => by
    have : i = l.length := by omega
    subst this
    rw [show 0 + 1 + (l.length + 1) = (l.length + 1) + 1 by omega]
    unfold demesneref41_Peak.l0
    rw [if_neg (by omega)]
    have : (l.map re58).drop l.length = [] := by rw [List.drop_eq_nil_iff]; simp
    rw [this]
    rfl
  | m + 1, i, acc, h, ha => by
    have hi : i < l.length := by omega
    have hi2 : i < (l.map re58).length := by rw [List.length_map]; exact hi
    rw [show m + 1 + 1 + (l.length + 1) = (m + 1 + (l.length + 1)) + 1 by omega]
    unfold demesneref41_Peak.l0
    rw [if_pos (by omega), if_pos (by omega), rd58 l i hi, List.drop_eq_getElem_cons hi2, List.foldl_cons]
    rw [wrap_in (i := (i : Int) + 1) (by omega) (by omega)]
    have hc1 := cnt_le (l.map re58) (l[i]).f8
    have hc2 := cnt_le (l.map re58) (l[i]).f10
    rw [List.length_map] at hc1 hc2
    rw [under58_ge l _ (by omega) _ (by omega), Option.bind_some, under58_ge l _ (by omega) _ (by omega), Option.bind_some]
    have e2 : rpStep (l.map re58) acc (l.map re58)[i] = max (max acc (cnt (l.map re58) (l[i]).f8)) (cnt (l.map re58) (l[i]).f10) := by
      unfold rpStep
      rw [List.getElem_map]
      rfl
    rw [e2]
    generalize cnt (l.map re58) (l[i]).f8 = a at *
    generalize cnt (l.map re58) (l[i]).f10 = b at *
    have ih := refPeak_l l hl m (i + 1) (max (max acc a) b) (by omega) (by omega)
    simp only [Int.natCast_add, Int.natCast_one] at ih
    rw [← ih]
    split
    · split
      · rw [show max (max acc a) b = b by omega]
      · rw [show max (max acc a) b = a by omega]
    · split
      · rw [show max (max acc a) b = b by omega]
      · rw [show max (max acc a) b = acc by omega]
theorem refPeak_is (l : List S58) (hl : l.length ≤ 10000) : ∃ k, demesneref41_Peak.f k l = some ((pk (l.map re58) : Nat) : Int) := by
  refine ⟨l.length + 1 + (l.length + 1), ?_⟩
  have h := refPeak_l l hl l.length 0 0 (by omega) (by omega)
  simp only [List.drop_zero] at h
  rw [rp_is] at h
  exact h
end Go.Proofs.Ytgojfecpknonlaa.St
