/- What the printed functions of the shrinker compute, in plain words. -/
import Derived.Test.YtgojfecpknonlaaShrP
namespace Go.Proofs.Ytgojfecpknonlaa.Shr
open Go.RowKit Go.Proofs.YtgojfecpknonlaaW.PrintWords Go.Proofs.YtgojfecpknonlaaW.PrintLast Go.Proofs.YtgojfecpknonlaaW.PrintMore
open Go.Proofs.Ytgojfecpknonlaa.PShrinkLeast
set_option linter.unusedVariables false
set_option linter.unusedSimpArgs false

/-- Entry number i. -/
def ent (i : Nat) : S111 := ⟨0, ⟨2, (i : Int) % 256, (i : Int) / 256 % 256, 0⟩⟩
def num (e : S111) : Int := wrap64 (wrap64 e.f1.f1 + wrap64 (256 * wrap64 e.f1.f2))

theorem num_ent (i : Nat) (h : i < 65536) : num (ent i) = i := by
  unfold num ent
  simp only
  unfold wrap64
  omega

theorem rdT_at (l : List S111) (i : Nat) (h : i < l.length) : rd_T111 l (i : Int) = l[i] := by
  simp [rd_T111, List.getD_eq_getElem?_getD, h]

theorem numbered_ev (m : Nat) (hm : m < 65536) : Ev (fun k => demesnelaw40_numbered.f k m) ((List.range m).map ent) := by
  have go : ∀ (d i : Nat), i + d = m → Ev (fun k => demesnelaw40_numbered.l0 k m ((List.range i).map ent) i) ((List.range m).map ent) := by
    intro d
    induction d with
    | zero =>
      intro i hi
      obtain rfl : i = m := by omega
      refine Ev.step (fun k => ?_) (Ev.now _)
      simp only [demesnelaw40_numbered.l0]
      rw [if_neg (by omega)]
    | succ d ih =>
      intro i hi
      refine Ev.step (f := fun k => demesnelaw40_numbered.l0 k m ((List.range (i + 1)).map ent) (i + 1 : Nat)) (fun k => ?_) (ih (i + 1) (by omega))
      simp only [demesnelaw40_numbered.l0]
      rw [if_pos (by omega), if_pos (by simp; omega)]
      have e1 : wrap64 (Int.tdiv (i : Int) 256) = (i : Int) / 256 := by
        rw [Int.tdiv_eq_ediv_of_nonneg (by omega), wrap_in (by omega) (by omega)]
      have e2 : wrap64 ((i : Int) + 1) = ((i + 1 : Nat) : Int) := by rw [wrap_in (by omega) (by omega)]; rfl
      rw [e1, e2, List.range_succ, List.map_append]
      rfl
  refine Ev.congr (fun k => rfl) (go m 0 (by omega))

theorem numbers_ev (l : List S111) (hl : l.length < 17592186044416) : Ev (fun k => demesnelaw40_numbers.f k l) (l.map num) := by
  have go : ∀ (d i : Nat), i + d = l.length → Ev (fun k => demesnelaw40_numbers.l0 k l ((l.take i).map num) i) (l.map num) := by
    intro d
    induction d with
    | zero =>
      intro i hi
      refine Ev.step (fun k => ?_) (Ev.now _)
      simp only [demesnelaw40_numbers.l0]
      rw [if_neg (by omega), List.take_of_length_le (by omega)]
    | succ d ih =>
      intro i hi
      have hlt : i < l.length := by omega
      refine Ev.step (f := fun k => demesnelaw40_numbers.l0 k l ((l.take (i + 1)).map num) (i + 1 : Nat)) (fun k => ?_) (ih (i + 1) (by omega))
      simp only [demesnelaw40_numbers.l0]
      rw [if_pos (by omega), if_pos (by omega)]
      have e2 : wrap64 ((i : Int) + 1) = ((i + 1 : Nat) : Int) := by rw [wrap_in (by omega) (by omega)]; rfl
      simp only [demesnelaw40_number.f, Option.bind_some]
      rw [if_pos (by simp; omega), e2, rdT_at l i hlt, List.take_succ_eq_append_getElem hlt, List.map_append]
      rfl
  refine Ev.congr (f := fun k => demesnelaw40_numbers.l0 k l [] 0) (fun k => rfl) (by simpa using go l.length 0 (by omega))

theorem row_ev (a b : List Int) (ha : a.length < 4611686018427387904) : Ev (fun k => demesnelaw40_row.f k a b) (decide (a = b)) := by
  by_cases hl : a.length = b.length
  · have go : ∀ (d i : Nat), i + d = a.length → a.take i = b.take i → Ev (fun k => demesnelaw40_row.l0 k a b i) (decide (a = b)) := by
      intro d
      induction d with
      | zero =>
        intro i hi ht
        have e : a = b := by
          rw [List.take_of_length_le (by omega), List.take_of_length_le (by omega)] at ht
          exact ht
        rw [decide_eq_true e]
        refine Ev.step (fun k => ?_) (Ev.now _)
        simp only [demesnelaw40_row.l0]
        rw [if_neg (by omega)]
      | succ d ih =>
        intro i hi ht
        have h1 : i < a.length := by omega
        have h2 : i < b.length := by omega
        have e2 : wrap64 ((i : Int) + 1) = ((i + 1 : Nat) : Int) := by rw [wrap_in (by omega) (by omega)]; rfl
        by_cases hab : a[i] = b[i]
        · refine Ev.step (f := fun k => demesnelaw40_row.l0 k a b (i + 1 : Nat)) (fun k => ?_) (ih (i + 1) (by omega) ?_)
          · simp only [demesnelaw40_row.l0]
            rw [if_pos (by omega), if_pos (by omega), if_pos (by omega), rd_at a i h1, rd_at b i h2, if_pos hab, e2]
          · rw [List.take_succ_eq_append_getElem h1, List.take_succ_eq_append_getElem h2, ht, hab]
        · rw [decide_eq_false (fun e => hab (by subst e; rfl))]
          refine Ev.step (fun k => ?_) (Ev.now _)
          simp only [demesnelaw40_row.l0]
          rw [if_pos (by omega), if_pos (by omega), if_pos (by omega), rd_at a i h1, rd_at b i h2, if_neg hab]
    refine Ev.congr (f := fun k => demesnelaw40_row.l0 k a b (0 : Nat)) (fun k => ?_) (go a.length 0 (by omega) (by simp))
    simp only [demesnelaw40_row.f]
    rw [if_pos (by omega)]
    rfl
  · rw [decide_eq_false (fun e => hl (by rw [e]))]
    refine Ev.congr (fun k => ?_) (Ev.now _)
    simp only [demesnelaw40_row.f]
    rw [if_neg (by omega)]

theorem great_ev (G : List (List Int)) (a : Int) (b : Bool) : Ev (fun k => demesnelaw40_great.f k G a b) (decide (10 < G.length) || G.any (fun g => decide (10 < g.length))) := by
  by_cases h : 10 < G.length
  · refine Ev.congr (fun k => ?_) (Ev.now _)
    simp only [demesnelaw40_great.f]
    rw [if_pos (by omega), decide_eq_true h, Bool.true_or]
  · rw [decide_eq_false h, Bool.false_or]
    have go : ∀ (d i : Nat), i + d = G.length → Ev (fun k => demesnelaw40_great.l0 k i G a b) ((G.drop i).any (fun g => decide (10 < g.length))) := by
      intro d
      induction d with
      | zero =>
        intro i hi
        rw [List.drop_eq_nil_of_le (by omega)]
        refine Ev.step (fun k => ?_) (Ev.now _)
        simp only [demesnelaw40_great.l0]
        rw [if_neg (by omega)]
        rfl
      | succ d ih =>
        intro i hi
        have hlt : i < G.length := by omega
        have e2 : wrap64 ((i : Int) + 1) = ((i + 1 : Nat) : Int) := by rw [wrap_in (by omega) (by omega)]; rfl
        rw [List.drop_eq_getElem_cons hlt, List.any_cons]
        by_cases hg : 10 < (G[i]).length
        · rw [decide_eq_true hg, Bool.true_or]
          refine Ev.step (fun k => ?_) (Ev.now _)
          simp only [demesnelaw40_great.l0]
          rw [if_pos (by omega), if_pos (by omega), rdL_at G i hlt, if_pos (by omega)]
        · rw [decide_eq_false hg, Bool.false_or]
          refine Ev.step (f := fun k => demesnelaw40_great.l0 k (i + 1 : Nat) G a b) (fun k => ?_) (ih (i + 1) (by omega))
          simp only [demesnelaw40_great.l0]
          rw [if_pos (by omega), if_pos (by omega), rdL_at G i hlt, if_neg (by omega), e2]
    refine Ev.congr (f := fun k => demesnelaw40_great.l0 k (0 : Nat) G a b) (fun k => ?_) (by simpa using go G.length 0 (by omega))
    simp only [demesnelaw40_great.f]
    rw [if_neg (by omega)]
    rfl

/-- Entries, but those from a place on. -/
def wo {α : Type} (f n : Int) : List α → Nat → List α
  | [], _ => []
  | x :: xs, i => if (i : Int) < f ∨ n ≤ 0 ∨ (i : Int) - f ≥ n then x :: wo f n xs (i + 1) else wo f n xs (i + 1)

theorem wo_append {α : Type} (f n : Int) : ∀ (xs ys : List α) (i : Nat), wo f n (xs ++ ys) i = wo f n xs i ++ wo f n ys (i + xs.length) := by
  intro xs
  induction xs with
  | nil => intro ys i; simp [wo]
  | cons x xs ih =>
    intro ys i
    simp only [List.cons_append, wo, ih, List.length_cons]
    rw [show i + 1 + xs.length = i + (xs.length + 1) by omega]
    split <;> rfl

theorem wo_len {α : Type} (f n : Int) : ∀ (xs : List α) (i : Nat), (wo f n xs i).length ≤ xs.length := by
  intro xs
  induction xs with
  | nil => intro i; simp [wo]
  | cons x xs ih =>
    intro i
    simp only [wo]
    have := ih (i + 1)
    split <;> simp only [List.length_cons] <;> omega

theorem wo_map {α β : Type} (g : α → β) (f n : Int) : ∀ (xs : List α) (i : Nat), (wo f n xs i).map g = wo f n (xs.map g) i := by
  intro xs
  induction xs with
  | nil => intro i; simp [wo]
  | cons x xs ih =>
    intro i
    simp only [wo, List.map_cons]
    split <;> simp [ih]

theorem wo_sub {α : Type} (f n : Int) : ∀ (xs : List α) (i : Nat), (wo f n xs i).Sublist xs := by
  intro xs
  induction xs with
  | nil => intro i; simp [wo]
  | cons x xs ih =>
    intro i
    simp only [wo]
    split
    · exact (ih _).cons_cons x
    · exact (ih _).cons x

theorem without_ev (l : List S111) (f n : Int) (hl : l.length < 28147497671065) (hf : -1000000000000 ≤ f ∧ f ≤ 1000000000000) (hn : -1000000000000 ≤ n ∧ n ≤ 1000000000000) :
    Ev (fun k => shrink_Without.f k l f n) (if f < 0 ∧ n > 0 then wo 0 (n + f) l 0 else wo f n l 0) := by
  have go : ∀ (f n : Int), -1000000000000 ≤ f ∧ f ≤ 1000000000000 → ∀ (d i : Nat), i + d = l.length → Ev (fun k => shrink_Without.l0 k f n (wo f n (l.take i) 0) l l.length i) (wo f n l 0) := by
    intro f n hf d
    induction d with
    | zero =>
      intro i hi
      refine Ev.step (fun k => ?_) (Ev.now _)
      simp only [shrink_Without.l0]
      rw [if_neg (by omega), List.take_of_length_le (by omega)]
    | succ d ih =>
      intro i hi
      have hlt : i < l.length := by omega
      have e2 : wrap64 ((i : Int) + 1) = ((i + 1 : Nat) : Int) := by rw [wrap_in (by omega) (by omega)]; rfl
      have e3 : wrap64 ((i : Int) - f) = (i : Int) - f := wrap_in (by omega) (by omega)
      have hlen : (wo f n (l.take i) 0).length < 28147497671065 := by
        have := wo_len f n (l.take i) 0
        have h2 : (l.take i).length ≤ l.length := List.length_take_le' ..
        omega
      have et : ∀ t, wo f n (l.take (i + 1)) 0 = t ↔ wo f n (l.take i) 0 ++ (if (i : Int) < f ∨ n ≤ 0 ∨ (i : Int) - f ≥ n then [l[i]] else []) = t := by
        intro t
        rw [List.take_succ_eq_append_getElem hlt, wo_append]
        simp only [wo, List.length_take, Nat.min_eq_left (Nat.le_of_lt hlt), Nat.zero_add]
      refine Ev.step (f := fun k => shrink_Without.l0 k f n (wo f n (l.take (i + 1)) 0) l l.length (i + 1 : Nat)) (fun k => ?_) (ih (i + 1) (by omega))
      rw [(et _).2 rfl]
      simp only [shrink_Without.l0]
      rw [if_pos (by omega), if_pos (by omega), if_pos (by omega), e2, e3, rdT_at l i hlt]
      by_cases h1 : (i : Int) < f
      · rw [if_pos h1, if_pos hlen, if_pos (.inl h1)]
      · rw [if_neg h1]
        by_cases h2 : n ≤ 0
        · rw [if_pos h2, if_pos hlen, if_pos (.inr (.inl h2))]
        · rw [if_neg h2]
          by_cases h3 : (i : Int) - f ≥ n
          · rw [if_pos h3, if_pos hlen, if_pos (.inr (.inr h3))]
          · rw [if_neg h3, if_neg (by omega), List.append_nil]
  have j1 : ∀ (f n : Int), -1000000000000 ≤ f ∧ f ≤ 1000000000000 → Ev (fun k => shrink_Without.j1 k l f n) (wo f n l 0) := by
    intro f n hf
    refine Ev.step (f := fun k => shrink_Without.l0 k f n [] l l.length 0) (fun k => by simp only [shrink_Without.j1]) ?_
    simpa [wo] using go f n hf l.length 0 (by omega)
  by_cases h : f < 0
  · by_cases h2 : n > 0
    · rw [if_pos ⟨h, h2⟩]
      refine Ev.congr (f := fun k => shrink_Without.j0 k l f n true) (fun k => ?_) (Ev.step (fun k => ?_) (j1 0 (n + f) (by omega)))
      · simp only [shrink_Without.f]; rw [if_pos h, decide_eq_true h2]
      · simp only [shrink_Without.j0, if_true]; rw [wrap_in (by omega) (by omega)]
    · rw [if_neg (by omega)]
      refine Ev.congr (f := fun k => shrink_Without.j0 k l f n false) (fun k => ?_) (Ev.step (fun k => ?_) (j1 f n hf))
      · simp only [shrink_Without.f]; rw [if_pos h, decide_eq_false h2]
      · simp only [shrink_Without.j0]; simp
  · rw [if_neg (by omega)]
    refine Ev.congr (f := fun k => shrink_Without.j0 k l f n false) (fun k => ?_) (Ev.step (fun k => ?_) (j1 f n hf))
    · simp only [shrink_Without.f]; rw [if_neg h]
    · simp only [shrink_Without.j0]; simp

theorem wo_nat {α : Type} (i s : Nat) (hs : 0 < s) : ∀ (xs : List α) (j : Nat), wo (i : Int) (s : Int) xs j = xs.take (i - j) ++ xs.drop (i + s - j) := by
  intro xs
  induction xs with
  | nil => intro j; simp [wo]
  | cons x xs ih =>
    intro j
    simp only [wo, ih]
    by_cases h1 : j < i
    · rw [if_pos (.inl (by omega)), show i - j = (i - (j + 1)) + 1 by omega, show i + s - j = (i + s - (j + 1)) + 1 by omega]
      simp
    · by_cases h2 : j < i + s
      · rw [if_neg (by omega), show i - j = 0 by omega, show i - (j + 1) = 0 by omega, show i + s - j = (i + s - (j + 1)) + 1 by omega]
        simp
      · rw [if_pos (.inr (.inr (by omega))), show i - j = 0 by omega, show i - (j + 1) = 0 by omega, show i + s - j = 0 by omega, show i + s - (j + 1) = 0 by omega]
        simp
end Go.Proofs.Ytgojfecpknonlaa.Shr
