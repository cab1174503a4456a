/- Plain laws of the stats: what the small functions compute. -/
import Derived.Test.YtgojfecpknonlaaSt7
import Derived.Test.YtgojfecpknonlaaPStx5
import Derived.Test.YtgojfecpknonlaaPStx6
namespace Go.Proofs.Ytgojfecpknonlaa.St
open Go.RowKit Go.Proofs.YtgojfecpknonlaaW.PrintWords Go.Proofs.YtgojfecpknonlaaW.PrintLast Go.Proofs.YtgojfecpknonlaaW.PrintMore
open Go.Proofs.Ytgojfecpknonlaa.Own Go.Proofs.Ytgojfecpknonlaa.PSt
set_option linter.unusedVariables false
set_option linter.unusedSimpArgs false

theorem rd58 (l : List S58) (i : Nat) (h : i < l.length) : rd_T58 l (i : Int) = l[i] := by
  unfold rd_T58
  rw [Int.toNat_natCast, List.getD_eq_getElem?_getD, List.getElem?_eq_getElem h]
  rfl
theorem rd72 (l : List S72) (i : Nat) (h : i < l.length) : rd_T72 l (i : Int) = l[i] := by
  unfold rd_T72
  rw [Int.toNat_natCast, List.getD_eq_getElem?_getD, List.getElem?_eq_getElem h]
  rfl
def inAt72 (a : Int) (d : S72) : Bool := decide (d.f3 ≤ a) && decide (a ≤ d.f5)
def inAt58 (a : Int) (d : S58) : Bool := decide (d.f8 ≤ a) && decide (d.f10 ≥ a)

theorem under72_l (l : List S72) (a : Int) : ∀ (m i c : Nat), i + m = l.length → c + m ≤ 1000000 → l.length ≤ 1000000 →
    stats_Under.l0 (m + 1) a c l (l.length : Int) i = some (((c + (l.drop i).countP (inAt72 a) : Nat)) : Int)
  | 0, i, c, h, hc, hl => by
    have : i = l.length := by omega
    subst this
    unfold stats_Under.l0
    rw [if_neg (by omega), List.drop_length]
    simp
  | m + 1, i, c, h, hc, hl => by
    have hi : i < l.length := by omega
    unfold stats_Under.l0
    rw [if_pos (by omega), if_pos (by omega), if_pos (by omega), rd72 l i hi, List.drop_eq_getElem_cons hi, List.countP_cons]
    rw [wrap_in (i := (i : Int) + 1) (by omega) (by omega), wrap_in (i := (c : Int) + 1) (by omega) (by omega)]
    have ih1 := under72_l l a m (i + 1) (c + 1) (by omega) (by omega) hl
    have ih0 := under72_l l a m (i + 1) c (by omega) (by omega) hl
    simp only [Int.natCast_add, Int.natCast_one] at ih1 ih0 ⊢
    by_cases h1 : (l[i]).f3 ≤ a
    · by_cases h2 : a ≤ (l[i]).f5
      · have e : inAt72 a l[i] = true := by simp [inAt72, h1, h2]
        rw [if_pos h1, if_pos h2, ih1, e]
        congr 1
        simp
        omega
      · have e : inAt72 a l[i] = false := by simp [inAt72, h1, h2]
        rw [if_pos h1, if_neg h2, ih0, e]
        simp
    · have e : inAt72 a l[i] = false := by simp [inAt72, h1]
      rw [if_neg h1, ih0, e]
      simp
theorem under72 (l : List S72) (a : Int) (hl : l.length ≤ 100000) : stats_Under.f (l.length + 1) l a = some ((l.countP (inAt72 a) : Nat) : Int) := by
  have h := under72_l l a l.length 0 0 (by omega) (by omega) (by omega)
  simp at h
  unfold stats_Under.f
  exact h

theorem under58_l (l : List S58) (a : Int) : ∀ (m i c : Nat), i + m = l.length → c + m ≤ 1000000 → l.length ≤ 1000000 →
    demesneref41_Under.l0 (m + 1) l a c i = some (((c + (l.drop i).countP (inAt58 a) : Nat)) : Int)
  | 0, i, c, h, hc, hl => by
    have : i = l.length := by omega
    subst this
    unfold demesneref41_Under.l0
    rw [if_neg (by omega), List.drop_length]
    simp
  | m + 1, i, c, h, hc, hl => by
    have hi : i < l.length := by omega
    unfold demesneref41_Under.l0
    rw [if_pos (by omega), if_pos (by omega), rd58 l i hi, List.drop_eq_getElem_cons hi, List.countP_cons]
    rw [wrap_in (i := (i : Int) + 1) (by omega) (by omega), wrap_in (i := (c : Int) + 1) (by omega) (by omega)]
    have ih1 := under58_l l a m (i + 1) (c + 1) (by omega) (by omega) hl
    have ih0 := under58_l l a m (i + 1) c (by omega) (by omega) hl
    simp only [Int.natCast_add, Int.natCast_one] at ih1 ih0 ⊢
    by_cases h1 : (l[i]).f8 ≤ a
    · by_cases h2 : (l[i]).f10 ≥ a
      · have e : inAt58 a l[i] = true := by simp [inAt58, h1, h2]
        rw [if_pos h1, if_pos h2, ih1, e]
        congr 1
        simp
        omega
      · have e : inAt58 a l[i] = false := by simp [inAt58, h1]; omega
        rw [if_pos h1, if_neg h2, ih0, e]
        simp
    · have e : inAt58 a l[i] = false := by simp [inAt58, h1]
      rw [if_neg h1, ih0, e]
      simp
theorem under58 (l : List S58) (a : Int) (hl : l.length ≤ 100000) : demesneref41_Under.f (l.length + 1) l a = some ((l.countP (inAt58 a) : Nat) : Int) := by
  have h := under58_l l a l.length 0 0 (by omega) (by omega) (by omega)
  simp at h
  unfold demesneref41_Under.f
  exact h
theorem under_map (l : List S58) (a : Int) : (l.map re58).countP (inAt72 a) = l.countP (inAt58 a) := by
  rw [List.countP_map]
  rfl

/-- An event of the document, as a tally takes it. -/
def len58 (d : S58) : Int := if d.f10 < d.f8 then 0 else wrap64 (wrap64 (d.f10 - d.f8) + 1)
def add58 (t : Tl) (d : S58) : Tl := ⟨wrap64 (t.c + 1), if d.f5 = 0 then t.e else wrap64 (t.e + 1), wrap64 (t.m + len58 d), if len58 d > t.l then len58 d else t.l⟩
theorem len58_is (d : S58) (h0 : 0 ≤ d.f8 ∧ d.f8 ≤ 2147483647) (h1 : 0 ≤ d.f10 ∧ d.f10 ≤ 2147483647) : len72 (re58 d) = len58 d := by
  show mx 0 (wrap64 (wrap64 (d.f10 - d.f8) + 1)) = len58 d
  unfold len58 mx
  rw [wrap_in (i := d.f10 - d.f8) (by omega) (by omega), wrap_in (by omega) (by omega)]
  split <;> split <;> omega
theorem add58_is (t : Tl) (d : S58) (h0 : 0 ≤ d.f8 ∧ d.f8 ≤ 2147483647) (h1 : 0 ≤ d.f10 ∧ d.f10 ≤ 2147483647) : addT t (re58 d) = add58 t d := by
  unfold addT add58
  rw [len58_is d h0 h1]
  have e : mx t.l (len58 d) = if len58 d > t.l then len58 d else t.l := by
    unfold mx
    split <;> rfl
  rw [e]
  rfl
theorem may_span {d : S58} (h : may d = true) : (0 ≤ d.f8 ∧ d.f8 ≤ 2147483647) ∧ (0 ≤ d.f10 ∧ d.f10 ≤ 2147483647) := by
  unfold may t3 at h
  simp only [Bool.and_eq_true, decide_eq_true_eq] at h
  omega

theorem refOf_l (l : List S58) : ∀ (m i : Nat) (t : Tl), i + m = l.length → l.length ≤ 1000000 →
    demesneref41_Of.l0 (m + 1) l i t.c t.e t.m t.l = some (((l.drop i).foldl add58 t).c, ((l.drop i).foldl add58 t).e, ((l.drop i).foldl add58 t).m, ((l.drop i).foldl add58 t).l)
  | 0, i, t, h, hl => by
    have : i = l.length := by omega
    subst this
    unfold demesneref41_Of.l0
    rw [if_neg (by omega), List.drop_length]
    rfl
  | m + 1, i, t, h, hl => by
    have hi : i < l.length := by omega
    unfold demesneref41_Of.l0
    rw [if_pos (by omega), if_pos (by omega), rd58 l i hi, List.drop_eq_getElem_cons hi, List.foldl_cons]
    rw [wrap_in (i := (i : Int) + 1) (by omega) (by omega)]
    have hL : demesneref41_Length.f (l[i]).f0 (l[i]).f1 (l[i]).f2 (l[i]).f3 (l[i]).f4 (l[i]).f5 (l[i]).f6 (l[i]).f7 (l[i]).f8 (l[i]).f9 (l[i]).f10 = some (len58 l[i]) := by
      unfold demesneref41_Length.f len58
      split <;> rfl
    rw [hL, Option.bind_some]
    have ih := refOf_l l m (i + 1) (add58 t l[i]) (by omega) hl
    simp only [Int.natCast_add, Int.natCast_one] at ih
    rw [← ih]
    unfold add58
    split <;> split <;> rfl
theorem refOf_is (l : List S58) (hl : l.length ≤ 100000) : demesneref41_Of.f (l.length + 1) l = some ((l.foldl add58 tl0).c, (l.foldl add58 tl0).e, (l.foldl add58 tl0).m, (l.foldl add58 tl0).l) := by
  have h := refOf_l l l.length 0 tl0 (by omega) (by omega)
  simp only [List.drop_zero] at h
  exact h

theorem of36_l (l : List S58) : ∀ (m i : Nat) (xs : List S72), i + m = l.length → l.length ≤ 1000000 → xs.length = i →
    demesnelaw36_Of.l0 (m + 1) l xs i = some (xs ++ (l.drop i).map re58)
  | 0, i, xs, h, hl, hx => by
    have : i = l.length := by omega
    subst this
    unfold demesnelaw36_Of.l0
    rw [if_neg (by omega), List.drop_length]
    simp
  | m + 1, i, xs, h, hl, hx => by
    have hi : i < l.length := by omega
    unfold demesnelaw36_Of.l0
    rw [if_pos (by omega), if_pos (by omega), rd58 l i hi, List.drop_eq_getElem_cons hi, List.map_cons]
    rw [wrap_in (i := (i : Int) + 1) (by omega) (by omega)]
    unfold demesnelaw36_One.f
    rw [Option.bind_some, if_pos (by omega)]
    have ih := of36_l l m (i + 1) (xs ++ [re58 l[i]]) (by omega) hl (by simp [hx])
    simp only [Int.natCast_add, Int.natCast_one, List.append_assoc, List.singleton_append] at ih
    exact ih
theorem of36_is (l : List S58) (hl : l.length ≤ 100000) : demesnelaw36_Of.f (l.length + 1) l = some (l.map re58) := by
  have h := of36_l l l.length 0 [] (by omega) (by omega) rfl
  simp only [List.drop_zero, List.nil_append] at h
  exact h

theorem bucket_l : ∀ (k : Nat) (n : Nat) (b : Nat), b ≤ 16 → 17 ≤ b + k → n < 9223372036854775808 → demesneref41_Bucket.l0 k n b = some (((min 16 (b + Lib.bitLen n) : Nat)) : Int)
  | 0, n, b, hb, hk, hn => by omega
  | k + 1, n, b, hb, hk, hn => by
    unfold demesneref41_Bucket.l0
    by_cases h0 : n = 0
    · subst h0
      rw [if_neg (by omega)]
      have : Lib.bitLen 0 = 0 := by decide
      rw [this]
      congr 1
      omega
    · rw [if_pos (by omega)]
      have hh := Lib.bitLen_half n h0 (by omega)
      by_cases h1 : b < 16
      · rw [if_pos (by omega)]
        have e : wrap64 ((n : Int).tdiv 2) = ((n / 2 : Nat) : Int) := by
          rw [Int.tdiv_eq_ediv_of_nonneg (by omega), wrap_in (by omega) (by omega)]
          rfl
        have e2 : wrap64 ((b : Int) + 1) = ((b + 1 : Nat) : Int) := by rw [wrap_in (by omega) (by omega)]; rfl
        rw [e, e2, bucket_l k (n / 2) (b + 1) (by omega) (by omega) (by omega), hh]
        congr 2
        omega
      · rw [if_neg (by omega)]
        congr 1
        omega
theorem bucket_is (n : Int) (h : n ≤ 9223372036854775807) : demesneref41_Bucket.f 20 n = some (((min 16 (Lib.bitLen n.toNat) : Nat)) : Int) := by
  unfold demesneref41_Bucket.f
  by_cases h0 : 0 ≤ n
  · have h1 := bucket_l 20 n.toNat 0 (by omega) (by omega) (by omega)
    rw [Int.toNat_of_nonneg h0, Nat.zero_add] at h1
    exact h1
  · unfold demesneref41_Bucket.l0
    rw [if_neg (by omega)]
    have e : n.toNat = 0 := by omega
    rw [e]
    decide
end Go.Proofs.Ytgojfecpknonlaa.St
