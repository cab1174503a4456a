/- Events out of bytes: plain parts. -/
import Derived.Test.YtgojfecpknonlaaEvS
namespace Go.Proofs.Ytgojfecpknonlaa.Ev
open Go.RowKit Go.Proofs.YtgojfecpknonlaaW.PrintWords Go.Proofs.YtgojfecpknonlaaW.PrintLast Go.Proofs.YtgojfecpknonlaaW.PrintMore
open Go.Proofs.Ytgojfecpknonlaa.Own Go.Proofs.Ytgojfecpknonlaa.PSt Go.Proofs.Ytgojfecpknonlaa.St
set_option linter.unusedVariables false
set_option linter.unusedSimpArgs false

theorem str_append (xs ys : List Int) : strOfNums xs ++ strOfNums ys = strOfNums (xs ++ ys) := by
  unfold strOfNums
  apply ByteArray.ext
  rw [ByteArray.data_append]
  simp
theorem num_l (w : Nat) (hw : w ≤ 8) (v : Int) (h0 : 0 ≤ v) (h1 : v ≤ 18446744073709551615) (k : Nat) : ∀ (m i : Nat), i + m = w →
    demesneref36_num.l0 (k + m + 1) w (v / 256 ^ i) (strOfNums (pd i v)) i = some (strOfNums (pd w v))
  | 0, i, h => by
    have : i = w := by omega
    subst this
    unfold demesneref36_num.l0
    rw [if_neg (by omega)]
  | m + 1, i, h => by
    have hp : 0 ≤ v / 256 ^ i := Int.ediv_nonneg h0 (Int.pow_nonneg (by decide))
    have hq : v / 256 ^ i ≤ v := Int.ediv_le_self _ h0
    have hpl : ∀ n, (pd n v).length = n := fun n => by rw [← be_pd, be_length]
    rw [show k + (m + 1) + 1 = (k + m + 1) + 1 by omega]
    unfold demesneref36_num.l0
    rw [if_pos (by omega), Option.bind_some, if_pos (by rw [strOfNums_size, strOfNums_size, hpl]; simp; omega), Int.tmod_eq_emod_of_nonneg hp, Int.tdiv_eq_ediv_of_nonneg hp, str_append,
      wrapu (Int.ediv_nonneg hp (by decide)) (Int.le_trans (Int.ediv_le_self _ hp) (Int.le_trans hq h1)), wrap_in' (i := (i : Int) + 1) (by omega) (by omega), Int.ediv_ediv_of_nonneg (Int.pow_nonneg (by decide)), ← Int.pow_succ]
    have ih := num_l w hw v h0 h1 k m (i + 1) (by omega)
    have e : [v / 256 ^ i % 256 % 256] ++ pd i v = pd (i + 1) v := by rw [Int.emod_emod_of_dvd _ (Int.dvd_refl _)]; rfl
    rw [e]
    rw [Int.natCast_add, Int.natCast_one] at ih
    exact ih
theorem num_is (w : Nat) (hw : w ≤ 8) (v : Int) (h0 : 0 ≤ v) (h1 : v ≤ 18446744073709551615) : demesneref36_num.f (w + 1) w v = some (strOfNums (be w v)) := by
  have h := num_l w hw v h0 h1 0 w 0 (by omega)
  rw [Int.pow_zero, Int.ediv_one, show 0 + w + 1 = w + 1 by omega] at h
  rw [be_pd]
  exact h
/-- The number of the first n bytes. -/
def vl (s : ByteArray) : Nat → Int
  | 0 => 0
  | n + 1 => 256 * vl s n + bt s n
theorem bt_in (s : ByteArray) (i : Int) : 0 ≤ bt s i ∧ bt s i ≤ 255 := by
  unfold bt
  split
  · rename_i h
    have := (s[i.toNat]'h).toNat_lt
    omega
  · omega
theorem vl_in (s : ByteArray) : ∀ n, 0 ≤ vl s n ∧ vl s n < 256 ^ n
  | 0 => by simp [vl]
  | n + 1 => by
    have ih := vl_in s n
    have hb := bt_in s n
    have e : (256 : Int) ^ (n + 1) = 256 ^ n * 256 := Int.pow_succ _ _
    unfold vl
    omega
theorem pow_le {n : Nat} (h : n ≤ 8) : (256 : Int) ^ n ≤ 18446744073709551616 := by
  have hc : n = 0 ∨ n = 1 ∨ n = 2 ∨ n = 3 ∨ n = 4 ∨ n = 5 ∨ n = 6 ∨ n = 7 ∨ n = 8 := by omega
  rcases hc with rfl | rfl | rfl | rfl | rfl | rfl | rfl | rfl | rfl <;> decide
theorem bits_byte {v b : Int} (h0 : 0 ≤ v) (h1 : v * 256 + 255 < 18446744073709551616) (hb : 0 ≤ b ∧ b ≤ 255) : Go.bits .or .u64 (v * 256) b = 256 * v + b := by
  obtain ⟨n, rfl⟩ := Int.eq_ofNat_of_zero_le h0
  obtain ⟨m, rfl⟩ := Int.eq_ofNat_of_zero_le hb.1
  have h := bits_or_u64_nat (n * 256) m (by omega) (by omega)
  have e : ((n * 256 : Nat) : Int) = (n : Int) * 256 := by omega
  rw [e] at h
  rw [h]
  have h2 : 256 * n + m = 256 * n ||| m := Nat.two_pow_add_eq_or_of_lt (i := 8) (by omega) n
  rw [Nat.mul_comm n 256, ← h2]
  omega
theorem number_l (s : ByteArray) (hs : s.size ≤ 8) (k : Nat) : ∀ (m i : Nat), i + m = s.size → events_number.l0 (k + m + 1) s (vl s i) (s.size : Int) i = some (vl s s.size)
  | 0, i, h => by
    have : i = s.size := by omega
    subst this
    unfold events_number.l0
    rw [if_neg (by omega)]
  | m + 1, i, h => by
    have hi := vl_in s i
    have hb := bt_in s i
    have hp := pow_le (show i + 1 ≤ 8 by omega)
    have e : (256 : Int) ^ (i + 1) = 256 ^ i * 256 := Int.pow_succ _ _
    rw [show k + (m + 1) + 1 = (k + m + 1) + 1 by omega]
    unfold events_number.l0
    rw [if_pos (by omega), if_pos (by omega), if_pos (by omega), wrapu (by omega) (by omega), wrapu (by omega) (by omega), bits_byte hi.1 (by omega) hb, wrap_in' (i := (i : Int) + 1) (by omega) (by omega)]
    have ih := number_l s hs k m (i + 1) (by omega)
    rw [Int.natCast_add, Int.natCast_one] at ih
    exact ih
theorem number_is (s : ByteArray) (hs : s.size ≤ 8) (k : Nat) : events_number.f (k + 9) s = some (vl s s.size) := by
  have h := number_l s hs (k + 8 - s.size) s.size 0 (by omega)
  rw [show k + 8 - s.size + s.size + 1 = k + 9 by omega] at h
  exact h
theorem value_l (s : ByteArray) (hs : s.size ≤ 8) (k : Nat) : ∀ (m i : Nat), i + m = s.size → PRv.demesneref36_value.l0 (k + m + 1) s (vl s i) i = some (vl s s.size)
  | 0, i, h => by
    have : i = s.size := by omega
    subst this
    unfold PRv.demesneref36_value.l0
    rw [if_neg (by omega)]
  | m + 1, i, h => by
    have hi := vl_in s i
    have hb := bt_in s i
    have hp := pow_le (show i + 1 ≤ 8 by omega)
    have e : (256 : Int) ^ (i + 1) = 256 ^ i * 256 := Int.pow_succ _ _
    rw [show k + (m + 1) + 1 = (k + m + 1) + 1 by omega]
    unfold PRv.demesneref36_value.l0
    rw [if_pos (by omega), if_pos (by omega), wrapu (v := 256 * vl s i) (by omega) (by omega), wrapu (v := bt s i) (by omega) (by omega), wrapu (by omega) (by omega), wrap_in' (i := (i : Int) + 1) (by omega) (by omega)]
    have ih := value_l s hs k m (i + 1) (by omega)
    rw [Int.natCast_add, Int.natCast_one] at ih
    exact ih
theorem value_is (s : ByteArray) (hs : s.size ≤ 8) : PRv.demesneref36_value.f 9 s = some (vl s s.size) := by
  have h := value_l s hs (8 - s.size) s.size 0 (by omega)
  rw [show 8 - s.size + s.size + 1 = 9 by omega] at h
  exact h
def va (s : ByteArray) (i j : Nat) : Int := vl (s.extract i j) (s.extract i j).size
theorem ext_size (s : ByteArray) {i j : Nat} (hi : i ≤ j) (hj : j ≤ s.size) : (s.extract i j).size = j - i := by
  rw [ByteArray.size_extract]
  omega
theorem va_in (s : ByteArray) {i j : Nat} (hi : i ≤ j) (hj : j ≤ s.size) : 0 ≤ va s i j ∧ va s i j < 256 ^ (j - i) := by
  have := vl_in (s.extract i j) (s.extract i j).size
  unfold va
  rw [ext_size s hi hj] at this ⊢
  exact this
/-- The event at the head of bytes. -/
def dec (s : ByteArray) : S58 := ⟨bt s 0, bt s 1, bt s 2, bt s 3, bt s 4, bt s 5, va s 6 8, va s 8 16, va s 16 20, va s 20 24, va s 24 28⟩
structure Dec (s : ByteArray) : Prop where
  w6 : 0 ≤ va s 6 8 ∧ va s 6 8 ≤ 65535
  w7 : 0 ≤ va s 8 16 ∧ va s 8 16 ≤ 18446744073709551615
  w8 : 0 ≤ va s 16 20 ∧ va s 16 20 ≤ 4294967295
  w9 : 0 ≤ va s 20 24 ∧ va s 20 24 ≤ 4294967295
  w10 : 0 ≤ va s 24 28 ∧ va s 24 28 ≤ 4294967295
theorem dec_in (s : ByteArray) (h : 28 ≤ s.size) : Dec s := by
  have h6 := va_in s (show 6 ≤ 8 by omega) (by omega)
  have h7 := va_in s (show 8 ≤ 16 by omega) (by omega)
  have h8 := va_in s (show 16 ≤ 20 by omega) (by omega)
  have h9 := va_in s (show 20 ≤ 24 by omega) (by omega)
  have h10 := va_in s (show 24 ≤ 28 by omega) (by omega)
  have p2 : (256 : Int) ^ (8 - 6) = 65536 := by decide
  have p8 : (256 : Int) ^ (16 - 8) = 18446744073709551616 := by decide
  have p4 : (256 : Int) ^ (20 - 16) = 4294967296 := by decide
  have p5 : (256 : Int) ^ (24 - 20) = 4294967296 := by decide
  have p6 : (256 : Int) ^ (28 - 24) = 4294967296 := by decide
  rw [p2] at h6; rw [p8] at h7; rw [p4] at h8; rw [p5] at h9; rw [p6] at h10
  constructor <;> omega
theorem dec_wf (s : ByteArray) (h : 28 ≤ s.size) : Wf (dec s) := by
  have d := dec_in s h
  have h6 := d.w6; have h7 := d.w7; have h8 := d.w8; have h9 := d.w9; have h10 := d.w10
  have b0 := bt_in s 0; have b1 := bt_in s 1; have b2 := bt_in s 2; have b3 := bt_in s 3; have b4 := bt_in s 4; have b5 := bt_in s 5
  constructor <;> (unfold dec; simp only) <;> omega
/-- The row of bytes, and whether they are one. -/
def rt : Nat → ByteArray → List S58 → List S58 × Bool
  | 0, _, _ => ([], false)
  | k + 1, s, o => if 28 ≤ s.size then (if may (dec s) = true then rt k (s.extract 28 s.size) (o ++ [dec s]) else ([], false)) else if s.size = 0 then (o, true) else ([], false)
theorem rt_bad : ∀ (k : Nat) (s : ByteArray) (o : List S58), s.size % 28 ≠ 0 → rt k s o = ([], false)
  | 0, _, _, _ => rfl
  | k + 1, s, o, h => by
    unfold rt
    by_cases h28 : 28 ≤ s.size
    · rw [if_pos h28]
      by_cases hm : may (dec s) = true
      · rw [if_pos hm]
        exact rt_bad k _ _ (by rw [ext_size s h28 (Nat.le_refl _)]; omega)
      · rw [if_neg hm]
    · rw [if_neg h28, if_neg (by omega)]
set_option maxHeartbeats 2000000 in
theorem take_l : ∀ (m : Nat) (s : ByteArray) (o : List S58), s.size = 28 * m → o.length + m ≤ 1000 →
    events_Take.l0 (m + 15) s (o.map on58) = some ((rt (m + 1) s o).1.map on58, if (rt (m + 1) s o).2 = true then 0 else 3)
  | 0, s, o, h, ho => by
    unfold events_Take.l0 rt
    rw [if_neg (by omega), if_neg (by omega), if_pos (by omega)]
    rfl
  | m + 1, s, o, h, ho => by
    have h28 : 28 ≤ s.size := by omega
    have d := dec_in s h28
    have h6 := d.w6; have h7 := d.w7; have h8 := d.w8; have h9 := d.w9; have h10 := d.w10
    have b5 := bt_in s 5
    have n1 : events_number.f (m + 1 + 14) (s.extract 6 8) = some (va s 6 8) := number_is _ (by rw [ext_size s (by omega) (by omega)]; omega) (m + 6)
    have n2 : events_number.f (m + 1 + 14) (s.extract 8 16) = some (va s 8 16) := number_is _ (by rw [ext_size s (by omega) (by omega)]; omega) (m + 6)
    have n3 : events_number.f (m + 1 + 14) (s.extract 16 20) = some (va s 16 20) := number_is _ (by rw [ext_size s (by omega) (by omega)]; omega) (m + 6)
    have n4 : events_number.f (m + 1 + 14) (s.extract 20 24) = some (va s 20 24) := number_is _ (by rw [ext_size s (by omega) (by omega)]; omega) (m + 6)
    have n5 : events_number.f (m + 1 + 14) (s.extract 24 28) = some (va s 24 28) := number_is _ (by rw [ext_size s (by omega) (by omega)]; omega) (m + 6)
    have hmay : events_May.f (m + 1 + 14) (bt s 0) (bt s 1) (bt s 2) (bt s 3) (bt s 4) (bt s 5) (va s 6 8) (va s 8 16) (va s 16 20) (va s 20 24) (va s 24 28) = some (may (dec s)) := may_is (dec s) (dec_wf s h28) (m + 12)
    rw [show m + 1 + 15 = (m + 1 + 14) + 1 by omega]
    unfold events_Take.l0
    rw [if_pos (by omega), if_pos (by omega), if_pos (by omega), if_pos (by omega), if_pos (by omega), if_pos (by omega), if_pos (by omega), if_pos (by omega), if_pos (by omega), n1, Option.bind_some, if_pos (by omega), if_pos (by omega), n2, Option.bind_some,
      if_pos (by omega), if_pos (by omega), n3, Option.bind_some, if_pos (by omega), if_pos (by omega), n4, Option.bind_some, if_pos (by omega), if_pos (by omega), n5, Option.bind_some,
      wrap_in' (i := bt s 5) (by omega) (by omega), wrap_in' (i := va s 6 8) (by omega) (by omega), wrap_in' (i := va s 16 20) (by omega) (by omega), wrap_in' (i := va s 20 24) (by omega) (by omega), wrap_in' (i := va s 24 28) (by omega) (by omega), hmay, Option.bind_some]
    have hrt : rt (m + 1 + 1) s o = if may (dec s) = true then rt (m + 1) (s.extract 28 s.size) (o ++ [dec s]) else ([], false) := by
      conv => lhs; unfold rt
      rw [if_pos h28]
    rw [hrt]
    by_cases hy : may (dec s) = true
    · rw [if_pos hy, if_pos hy, if_pos (by rw [List.length_map]; omega)]
      have ih := take_l m (s.extract 28 s.size) (o ++ [dec s]) (by rw [ext_size s h28 (Nat.le_refl _)]; omega) (by simp; omega)
      rw [List.map_append, List.map_singleton] at ih
      rw [show m + 1 + 14 = m + 15 by omega]
      exact ih
    · rw [if_neg hy, if_neg hy]
      rfl
theorem take_is (b : ByteArray) (hb : b.size ≤ 2000) : events_Take.f (b.size / 28 + 15) b = some ((rt (b.size / 28 + 1) b []).1.map on58, if (rt (b.size / 28 + 1) b []).2 = true then 0 else 3) := by
  unfold events_Take.f
  by_cases h : b.size % 28 = 0
  · rw [if_pos (by omega)]
    exact take_l (b.size / 28) b [] (by omega) (by simp; omega)
  · rw [if_neg (by omega), rt_bad _ _ _ h]
    rfl
end Go.Proofs.Ytgojfecpknonlaa.Ev

