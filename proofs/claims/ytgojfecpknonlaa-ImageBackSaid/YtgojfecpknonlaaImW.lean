/- Numbers taken off bytes: function 105. -/
import Derived.Test.YtgojfecpknonlaaImU
import Derived.Laws.Bits64b
import Derived.Deep.DeepMust
namespace Go.Proofs.Ytgojfecpknonlaa.Im
open Go.RowKit Go.Proofs.YtgojfecpknonlaaW.PrintWords Go.Proofs.YtgojfecpknonlaaW.PrintLast Go.Proofs.YtgojfecpknonlaaW.PrintMore
open Go.Proofs.Ytgojfecpknonlaa.Own Go.Proofs.Ytgojfecpknonlaa.PIm Go.Proofs.Ytgojfecpknonlaa.Wv
set_option linter.unusedVariables false
set_option linter.unusedSimpArgs false

def vl (s : ByteArray) : Nat → Int
  | 0 => 0
  | n + 1 => 256 * vl s n + bt s n
theorem bt_in (s : ByteArray) (i : Int) : 0 ≤ bt s i ∧ bt s i ≤ 255 := by
  unfold bt
  split
  · rename_i h
    have := (s[i.toNat]'h).toNat_lt
    omega
  · omega
theorem vl_in (s : ByteArray) : ∀ n, 0 ≤ vl s n ∧ vl s n < 256 ^ n
  | 0 => by simp [vl]
  | n + 1 => by
    have ih := vl_in s n
    have hb := bt_in s n
    have e : (256 : Int) ^ (n + 1) = 256 ^ n * 256 := Int.pow_succ _ _
    unfold vl
    omega
theorem pow_le {n : Nat} (h : n ≤ 8) : (256 : Int) ^ n ≤ 18446744073709551616 := by
  have hc : n = 0 ∨ n = 1 ∨ n = 2 ∨ n = 3 ∨ n = 4 ∨ n = 5 ∨ n = 6 ∨ n = 7 ∨ n = 8 := by omega
  rcases hc with rfl | rfl | rfl | rfl | rfl | rfl | rfl | rfl | rfl <;> decide
theorem bits_byte {v b : Int} (h0 : 0 ≤ v) (h1 : v * 256 + 255 < 18446744073709551616) (hb : 0 ≤ b ∧ b ≤ 255) : Go.bits .or .u64 (v * 256) b = 256 * v + b := by
  obtain ⟨n, rfl⟩ := Int.eq_ofNat_of_zero_le h0
  obtain ⟨m, rfl⟩ := Int.eq_ofNat_of_zero_le hb.1
  have h := bits_or_u64_nat (n * 256) m (by omega) (by omega)
  have e : ((n * 256 : Nat) : Int) = (n : Int) * 256 := by omega
  rw [e] at h
  rw [h]
  have h2 : 256 * n + m = 256 * n ||| m := Nat.two_pow_add_eq_or_of_lt (i := 8) (by omega) n
  rw [Nat.mul_comm n 256, ← h2]
  omega
/-- What is thrown where bytes are lacking. -/
def brkV : Value := .iface 162 (.agg #[])
def brkP : List PanicEntry := [{ v := brkV, recovered := false }]
set_option maxHeartbeats 2000000 in
set_option maxRecDepth 100000 in
theorem take_calls (width : Nat) (hw : width ≤ 8) (s : ByteArray) (hs : s.size ≤ 1000000) (gb : Nat) (w : World) (hh : Holds w gb 9 [.string s]) :
    Calls Try.prog 105 #[.int .i64 (width : Int), .pointer (some ⟨gb, 0, none⟩)] w fun e w' => Kp (fun q => q = gb) w w' ∧ ((s.size < width ∧ e = .panicked brkP) ∨ (width ≤ s.size ∧ e = .returned (.int .u64 (vl s width)) ∧ Holds w' gb 9 [.string (s.extract width s.size)])) := by
  have HH := Aside0.mk hh
  have x0 := (hh.cell 0).trans rfl
  by_cases hlt : s.size < width
  · have q1 : decide ((s.size : Int) < (width : Int)) = true := decide_eq_true (by omega)
    have q2 : decide (s.size < width) = true := decide_eq_true (by omega)
    have HLT := Aside0.mk hlt
    have hpn : ∀ (w : World), (Instr.panic (.iface 162 (.agg #[]))).run Try.prog w = .halt (.panic (.iface 162 (.agg #[]))) w := fun _ => rfl
    clear hlt hh
    go_enter Try.func105, Try.ntmps105
    go_wp2_with fail
    exact ⟨rfl, Kp.refl _ _, .inl ⟨HLT.out, rfl⟩⟩
  · have q1 : decide ((s.size : Int) < (width : Int)) = false := decide_eq_false (by omega)
    have q2 : decide (s.size < width) = false := decide_eq_false (by omega)
    have HGE := Aside0.mk (show width ≤ s.size by omega)
    clear hlt hh
    go_enter Try.func105, Try.ntmps105
    go_wp2_with fail
    go_loopg [4, 13] width (fun kq v4 v13 w' => ∃ (i : Nat), v13 = .int .i64 (i : Int) ∧ v4 = .int .u64 (vl s i) ∧ i + kq = width ∧ Aside0 (Kp (fun q => q = gb) w w') ∧ Aside0 (Holds w' gb 9 [.string s]))
    case atStart => exact ⟨0, rfl, rfl, by omega, ⟨Kp.refl _ _⟩, HH⟩
    case round =>
      clear x0
      obtain ⟨i, rfl, rfl, hi, HK, HH2⟩ := hrel
      obtain ⟨W0, rfl⟩ : ∃ W0, W0 = wr := ⟨wr, rfl⟩
      have x0 := (HH2.out.cell 0).trans rfl
      cases gk with
      | zero =>
        have r1 : decide ((i : Int) < (width : Int)) = false := decide_eq_false (by omega)
        have r2 : decide (i < width) = false := decide_eq_false (by omega)
        have hwi : i = width := by omega
        have r3 : (0 : Int) ≤ (width : Int) := by omega
        have r4 : (width : Int) ≤ (s.size : Int) := by have := HGE.out; omega
        have r5 : width ≤ s.size := HGE.out
        subst hwi
        have x1 := blk_frozen HH2.out 0
        clear hi
        go_wp2_with fail
        refine bodyPost_ret (results_tmp rfl _ _ _) rfl ?_
        exact ⟨HK.out.trans (kp_setCell _ _ _ _) (fun _ _ h => h), .inr ⟨HGE.out, rfl, holds_cells (vs := [.string (s.extract i s.size)]) HH2.out (by show 0 + 1 ≤ 1; decide)⟩⟩
      | succ k1 =>
        have hil : i < width := by omega
        have r1 : decide ((i : Int) < (width : Int)) = true := decide_eq_true (by omega)
        have r2 : decide (i < width) = true := decide_eq_true (by omega)
        have p5 := eq_true (show (0 : Int) ≤ (i : Int) by omega)
        have q5 := eq_true (show (i : Int) < (s.size : Int) by have := HGE.out; omega)
        have hx5 := bt_at s (i : Int)
        have hin : i < 1000000000 := by omega
        have HI := Aside0.mk hi
        have HIL := Aside0.mk hil
        clear hi hil
        go_wp2_with fail
        go_roundg k1
        case measure => have := HI.out; omega
        case rel =>
          refine ⟨i + 1, rfl, ?_, by have := HI.out; omega, HK, HH2⟩
          have hv := vl_in s i
          have hb := bt_in s i
          have hp := pow_le (show i + 1 ≤ 8 by have := HIL.out; omega)
          have e : (256 : Int) ^ (i + 1) = 256 ^ i * 256 := Int.pow_succ _ _
          have hlt : i < s.size := by have := HIL.out; have := HGE.out; omega
          have hb2 : ((s[i]'hlt).toNat : Int) = bt s (i : Int) := bt_at s (i : Int) hlt
          have hw1 : IntKind.u64.wrap (vl s i * 256) = vl s i * 256 := by rw [IntKind.wrap_u64]; omega
          have hw2 : IntKind.u64.wrap (bt s (i : Int)) = bt s (i : Int) := by rw [IntKind.wrap_u64]; omega
          rw [hb2, hw1, hw2, bits_byte hv.1 (by omega) hb]
          rfl
end Go.Proofs.Ytgojfecpknonlaa.Im

