/- The rounds of the shrinker come to an end, and what comes out is least. -/
import Derived.Test.YtgojfecpknonlaaShrQ
import Derived.Test.YtgojfecpknonlaaShr2
namespace Go.Proofs.Ytgojfecpknonlaa.Shr
open Go.RowKit Go.Proofs.YtgojfecpknonlaaW.PrintWords Go.Proofs.YtgojfecpknonlaaW.PrintLast Go.Proofs.YtgojfecpknonlaaW.PrintMore
open Go.Proofs.Ytgojfecpknonlaa.PShrinkLeast
set_option linter.unusedVariables false
set_option linter.unusedSimpArgs false

/-- How often is asked at most, of fewer entries than m. -/
def T : Nat → Nat
  | 0 => 0
  | m + 1 => T m + m * m + m
theorem T_mono {a b : Nat} (h : a ≤ b) : T a ≤ T b := by
  induction h with
  | refl => exact Nat.le_refl _
  | step _ ih => exact Nat.le_trans ih (by simp only [T]; omega)

/-- What comes out. -/
def Least (p : List S111 → Bool) (l : List S111) (r : List S111 × Int × Int) : Prop :=
  ∃ xs a, r = (xs, a, 0) ∧ p xs = true ∧ xs.Sublist l ∧ ∀ j, j < xs.length → p (xs.take j ++ xs.drop (j + 1)) = false

theorem pieces_eq (m n : Nat) (hm : m < 4611686018427387904) (hn : 0 < n) (hn2 : n < 4611686018427387904) : shrink_pieces.f m n = some (((m + n - 1) / n : Nat) : Int) := by
  unfold shrink_pieces.f
  rw [if_neg (by omega)]
  have e1 : wrap64 ((m : Int) + n) = (m : Int) + n := wrap_in (by omega) (by omega)
  have e2 : wrap64 (wrap64 ((m : Int) + n) - 1) = ((m + n - 1 : Nat) : Int) := by rw [e1, wrap_in (by omega) (by omega)]; omega
  rw [e2, Int.tdiv_eq_ediv_of_nonneg (by omega)]
  have e3 : ((m + n - 1 : Nat) : Int) / (n : Int) = (((m + n - 1) / n : Nat) : Int) := by omega
  have := Nat.div_le_self (m + n - 1) n
  rw [e3]
  generalize (m + n - 1) / n = z at *
  rw [wrap_in (by omega) (by omega)]

theorem rounds_ev (p : List S111 → Bool) (N : Nat) (hN : N ≤ 1000000) (asks : Int) (ha : asks ≤ 4611686018427387904) (l : List S111) (K : Nat) :
    (∀ (xs : List S111) (n : Nat) (a : Int), 3 * (xs.length + (xs.length - n) * xs.length + T xs.length) + 1 ≤ K → 2 ≤ n → n ≤ 1000000 → 0 ≤ a → a + ((xs.length + (xs.length - n) * xs.length + T xs.length : Nat) : Int) ≤ asks → xs.length ≤ N → p xs = true → xs.Sublist l →
      ∃ r, Least p l r ∧ Ev (fun k => scr p N asks k xs n a none) r) ∧
    (∀ (xs : List S111) (n s i : Nat) (a : Int), 3 * ((xs.length - i) + (xs.length - n) * xs.length + T xs.length) + (if i < xs.length then 0 else 2) ≤ K → 2 ≤ n → n ≤ 1000000 → 0 < s → s ≤ 1000000 → i ≤ 2000000 → 0 ≤ a → a + (((xs.length - i) + (xs.length - n) * xs.length + T xs.length : Nat) : Int) ≤ asks → 0 < xs.length → xs.length ≤ N → p xs = true → xs.Sublist l →
      (xs.length ≤ n → s = 1) → (s = 1 → ∀ j, j < i → j < xs.length → p (xs.take j ++ xs.drop (j + 1)) = false) →
      ∃ r, Least p l r ∧ Ev (fun k => scr p N asks k xs n a (some (s, i))) r) := by
  induction K using Nat.strongRecOn with
  | _ K ih =>
    constructor
    · intro xs n a hK hn hn2 ha0 haq hxN hp hsub
      by_cases h0 : xs.length = 0
      · refine ⟨(xs, a, 0), ⟨xs, a, rfl, hp, hsub, fun j hj => by omega⟩, Ev.step (fun k => ?_) (Ev.now _)⟩
        simp only [scr]
        rw [if_neg (by omega)]
      · have hpc := pieces_eq xs.length n (by omega) (by omega) (by omega)
        have hs0 : 0 < (xs.length + n - 1) / n := Nat.div_pos (by omega) (by omega)
        have hs1 : (xs.length + n - 1) / n ≤ xs.length := by
          rw [Nat.div_le_iff_le_mul_add_pred (by omega)]
          have h1 : 1 ≤ xs.length := by omega
          have h2 : xs.length ≤ n * xs.length := Nat.le_mul_of_pos_left _ (by omega)
          omega
        obtain ⟨r, hr, hev⟩ := (ih (K - 1) (by omega)).2 xs n ((xs.length + n - 1) / n) 0 a (by rw [if_pos (by omega)]; simp only [Nat.sub_zero]; omega) hn hn2 hs0 (by omega) (by omega) ha0 (by simpa using haq) (by omega) hxN hp hsub
          (fun hle => by
            have : (xs.length + n - 1) / n < 2 := (Nat.div_lt_iff_lt_mul (by omega)).2 (by omega)
            omega)
          (fun _ j hj => by omega)
        refine ⟨r, hr, Ev.step (fun k => ?_) hev⟩
        simp only [scr]
        rw [if_pos (by omega), hpc]
        rfl
    · intro xs n s i a hK hn hn2 hs hs2 hi ha0 haq h0 hxN hp hsub hone hdone
      by_cases hlt : i < xs.length
      · rw [if_pos hlt] at hK
        have hA : a < asks := by omega
        have hwo : Ev (fun k => shrink_Without.f k xs i s) (xs.take i ++ xs.drop (i + s)) := by
          have h := without_ev xs i s (by omega) (by omega) (by omega)
          rw [if_neg (by omega), wo_nat i s hs] at h
          simpa using h
        have hless : (xs.take i ++ xs.drop (i + s)).length < xs.length := by
          rw [List.length_append, List.length_take, List.length_drop]; omega
        have hsub2 : (xs.take i ++ xs.drop (i + s)).Sublist l := by
          refine List.Sublist.trans ?_ hsub
          have h1 : (xs.take i ++ xs.drop (i + s)).Sublist (xs.take i ++ xs.drop i) :=
            List.Sublist.append (List.Sublist.refl _) (by rw [← List.drop_drop]; exact List.drop_sublist _ _)
          rwa [List.take_append_drop] at h1
        have step : ∀ (r : List S111 × Int × Int), Ev (fun k => if p (xs.take i ++ xs.drop (i + s)) = true then scr p N asks k (xs.take i ++ xs.drop (i + s)) (mx 2 (wrap64 ((n : Int) - 1))) (a + 1) none else scr p N asks k xs n (a + 1) (some ((s : Int), wrap64 ((i : Int) + s)))) r →
            Ev (fun k => scr p N asks k xs n a (some (s, i))) r := by
          intro r h
          refine Ev.step (f := fun k => (shrink_Without.f k xs i s).bind fun less => if less.length ≤ N then (if p less = true then scr p N asks k less (mx 2 (wrap64 ((n : Int) - 1))) (a + 1) none else scr p N asks k xs n (a + 1) (some ((s : Int), wrap64 ((i : Int) + s)))) else none) (fun k => ?_) (Ev.bind hwo ?_)
          · simp only [scr]
            rw [if_pos (by omega), if_neg (by omega), if_pos (by omega)]
          · refine Ev.congr (fun k => ?_) h
            rw [if_pos (by omega)]
        cases hc : p (xs.take i ++ xs.drop (i + s)) with
        | true =>
          have hT : T ((xs.take i ++ xs.drop (i + s)).length + 1) ≤ T xs.length := T_mono hless
          simp only [T] at hT
          have hmul : ((xs.take i ++ xs.drop (i + s)).length - (max 2 (n - 1))) * (xs.take i ++ xs.drop (i + s)).length ≤ (xs.take i ++ xs.drop (i + s)).length * (xs.take i ++ xs.drop (i + s)).length := Nat.mul_le_mul_right _ (Nat.sub_le _ _)
          obtain ⟨r, hr, hev⟩ := (ih (K - 1) (by omega)).1 (xs.take i ++ xs.drop (i + s)) (max 2 (n - 1)) (a + 1) (by omega) (by omega) (by omega) (by omega) (by omega) (by omega) hc hsub2
          refine ⟨r, hr, step r ?_⟩
          rw [hc]
          have e : mx 2 (wrap64 ((n : Int) - 1)) = ((max 2 (n - 1) : Nat) : Int) := by
            rw [wrap_in (by omega) (by omega)]; unfold mx; split <;> omega
          rw [e]
          simpa using hev
        | false =>
          obtain ⟨r, hr, hev⟩ := (ih (K - 1) (by omega)).2 xs n s (i + s) (a + 1) (by split <;> omega) hn hn2 hs hs2 (by omega) (by omega) (by omega) h0 hxN hp hsub hone (fun h1 j hj hj2 => by
            by_cases hji : j < i
            · exact hdone h1 j hji hj2
            · have : j = i := by omega
              subst this
              rw [h1] at hc
              exact hc)
          refine ⟨r, hr, step r ?_⟩
          rw [hc]
          have e : wrap64 ((i : Int) + s) = ((i + s : Nat) : Int) := by rw [wrap_in (by omega) (by omega)]; rfl
          rw [e]
          simpa using hev
      · rw [if_neg hlt] at hK
        by_cases hle : xs.length ≤ n
        · refine ⟨(xs, a, 0), ⟨xs, a, rfl, hp, hsub, fun j hj => hdone (hone hle) j (by omega) hj⟩, Ev.step (fun k => ?_) (Ev.now _)⟩
          simp only [scr]
          rw [if_neg (by omega), if_pos (by omega)]
        · have hmul : (xs.length - (min (2 * n) xs.length)) * xs.length + xs.length ≤ (xs.length - n) * xs.length := by
            rw [← Nat.succ_mul]
            exact Nat.mul_le_mul_right _ (by omega)
          obtain ⟨r, hr, hev⟩ := (ih (K - 1) (by omega)).1 xs (min (2 * n) xs.length) a (by omega) (by omega) (by omega) ha0 (by omega) hxN hp hsub
          refine ⟨r, hr, Ev.step (fun k => ?_) hev⟩
          simp only [scr]
          rw [if_neg (by omega), if_neg (by omega)]
          have e : mn (wrap64 (2 * (n : Int))) (xs.length : Int) = ((min (2 * n) xs.length : Nat) : Int) := by
            rw [wrap_in (by omega) (by omega)]; unfold mn; split <;> omega
          rw [e]

/-- Of at most 60 entries 100,000 asks are enough. -/
theorem script_least (p : List S111 → Bool) (l : List S111) (hl : l.length ≤ 60) (hp : p l = true) :
    ∃ r, Least p l r ∧ Ev (fun k => scrF p 60 100000 k l) r := by
  have hT : T l.length ≤ T 60 := T_mono hl
  have h60 : T 60 = 71980 := by decide
  have hm : (l.length - 2) * l.length ≤ 58 * 60 := Nat.mul_le_mul (by omega) hl
  obtain ⟨r, hr, hev⟩ := (rounds_ev p 60 (by omega) 100000 (by omega) l 1000000).1 l 2 1 (by omega) (by omega) (by omega) (by omega) (by omega) hl hp (List.Sublist.refl _)
  exact ⟨r, hr, Ev.congr (fun k => by unfold scrF; rw [if_pos hp]; rfl) hev⟩
end Go.Proofs.Ytgojfecpknonlaa.Shr
