/- Sums of bytes; rows of references put (function 67). -/
import Derived.Test.YtgojfecpknonlaaImS
import Derived.Laws.Bits128
namespace Go.Proofs.Ytgojfecpknonlaa.Im
open Go.RowKit Go.Proofs.YtgojfecpknonlaaW.PrintWords Go.Proofs.YtgojfecpknonlaaW.PrintLast Go.Proofs.YtgojfecpknonlaaW.PrintMore
open Go.Proofs.Ytgojfecpknonlaa.Own Go.Proofs.Ytgojfecpknonlaa.PIm Go.Proofs.Ytgojfecpknonlaa.Wv
set_option linter.unusedVariables false
set_option linter.unusedSimpArgs false

def Byt (xs : List Int) : Prop := ∀ x ∈ xs, 0 ≤ x ∧ x ≤ 255
theorem bt_str {xs : List Int} (h : Byt xs) (i : Nat) (hi : i < xs.length) : bt (strOfNums xs) (i : Int) = xs[i] := by
  have hb := h _ (List.getElem_mem hi)
  have hsz : i < (strOfNums xs).size := by rw [strOfNums_size]; exact hi
  have e : (strOfNums xs)[i]'hsz = UInt8.ofNat (xs[i]).toNat := by
    show (strOfNums xs).data[i]'hsz = _
    simp [strOfNums]
  refine (bt_at (strOfNums xs) (i : Int) hsz).symm.trans ?_
  show (((strOfNums xs)[i]'hsz).toNat : Int) = _
  rw [e, UInt8.toNat_ofNat']
  omega
theorem i64_and65535 (n : Int) : Go.bits .and .i64 n 65535 = n % 65536 := by
  have h127 : (BitVec.ofInt 64 65535).toNat = 2 ^ 16 - 1 := by decide
  have key : (BitVec.ofInt 64 n &&& BitVec.ofInt 64 65535).toNat = (n % ((2 ^ 64 : Nat) : Int)).toNat % 2 ^ 16 := by
    rw [BitVec.toNat_and, BitVec.toNat_ofInt, h127, Nat.and_two_pow_sub_one_eq_mod]
  show IntKind.i64.wrap ((BitVec.ofInt 64 n &&& BitVec.ofInt 64 65535).toNat : Nat) = n % 65536
  rw [key, IntKind.wrap_i64]
  omega
theorem sum_in {xs : List Int} (h : Byt xs) : 0 ≤ xs.sum ∧ xs.sum ≤ 255 * xs.length := by
  induction xs with
  | nil => simp
  | cons x xs ih =>
    have h1 := h x List.mem_cons_self
    have h2 := ih (fun y hy => h y (List.mem_cons_of_mem _ hy))
    rw [List.sum_cons, List.length_cons]
    omega
theorem byt_take {xs : List Int} (h : Byt xs) (n : Nat) : Byt (xs.take n) := fun x hx => h x (List.mem_of_mem_take hx)
theorem byt_append {xs ys : List Int} (h : Byt xs) (k : Byt ys) : Byt (xs ++ ys) := fun x hx => (List.mem_append.1 hx).elim (h x) (k x)
theorem sum_l {xs : List Int} (h : Byt xs) (hl : xs.length ≤ 1000000) : ∀ (m i : Nat), i + m = xs.length → image_sum.l0 (m + 1) (strOfNums xs) (xs.take i).sum (xs.length : Int) (i : Int) = some (xs.sum % 65536)
  | 0, i, hi => by
    unfold image_sum.l0
    rw [if_neg (by omega), List.take_of_length_le (by omega), i64_and65535]
  | m + 1, i, hi => by
    have hil : i < xs.length := by omega
    have hb := h _ (List.getElem_mem hil)
    have hs := sum_in (byt_take h i)
    have hs2 : ((xs.take i).length : Int) = i := by rw [List.length_take]; omega
    rw [hs2] at hs
    have ih := sum_l h hl m (i + 1) (by omega)
    unfold image_sum.l0
    rw [if_pos (by omega), if_pos (by omega), if_pos (by rw [strOfNums_size]; omega), bt_str h i hil, wrap_in (i := xs[i]) (by omega) (by omega), wrap_in (i := (xs.take i).sum + xs[i]) (by omega) (by omega), wrap_in (i := (i : Int) + 1) (by omega) (by omega)]
    rw [List.take_succ_eq_append_getElem hil, List.sum_append] at ih
    simp only [List.sum_cons, List.sum_nil, Int.add_zero] at ih
    rw [Int.natCast_add, Int.natCast_one] at ih
    exact ih
theorem sum_is {xs : List Int} (h : Byt xs) (hl : xs.length ≤ 1000000) : image_sum.f (xs.length + 1) (strOfNums xs) = some (xs.sum % 65536) := by
  have := sum_l h hl xs.length 0 (by omega)
  unfold image_sum.f
  rw [strOfNums_size]
  exact this
def rb (l : List Int) : List Int := l.flatMap (be 2)
theorem rb_snoc (l : List Int) (x : Int) : rb (l ++ [x]) = rb l ++ be 2 x := by
  unfold rb
  rw [List.flatMap_append]
  simp
theorem rb_length (l : List Int) : (rb l).length = 2 * l.length := by
  induction l with
  | nil => rfl
  | cons x l ih =>
    unfold rb at ih ⊢
    rw [List.flatMap_cons, List.length_append, ih, be_length, List.length_cons]
    omega
theorem iv_cell {k : IntKind} {w : World} {l : List Int} {A : Option Addr} {n c : Nat} (h : IV k w (.slice A n c) l) (i : Nat) (hi : i < l.length) : ∃ ad, A = some ad ∧ w.cell? (ad.add i) = some (.int k l[i]) := by
  obtain ⟨A', c', e, hc, hC⟩ := h
  injection e with e1 e2 e3
  subst e1 e2 e3
  obtain ⟨ad, cs, e, _, hK, hcell⟩ := Kd.C_get hC (0 : Int) (i : Int) (by omega) (by omega)
  have hgd : l.getD (i : Int).toNat 0 = l[i] := by
    rw [Int.toNat_natCast, List.getD_eq_getElem?_getD, List.getElem?_eq_getElem hi]
    rfl
  rw [hgd] at hK
  obtain rfl := (show cs = [.int k l[i]] from hK)
  refine ⟨ad, e, ?_⟩
  have h : w.cell? (ad.add ((i : Int).toNat * 1 + 0)) = _ := hcell 0 _ rfl
  rw [Int.toNat_natCast, Nat.mul_one, Nat.add_zero] at h
  exact h
set_option maxHeartbeats 2000000 in
set_option maxRecDepth 100000 in
theorem refs_calls (l : List Int) (hl : l.length ≤ 100000) (hx : ∀ x ∈ l, 0 ≤ x ∧ x ≤ 1000000) (B g4 g5 : Nat) (HL : List (Nat × Nat × List Value)) (hg5 : (g5, 129, [Value.func (.func 66) #[] #[.pointer (some ⟨g4, 0, none⟩)]]) ∈ HL) (hHL : ∀ x ∈ HL, x.2.1 ≠ 5 ∧ x.1 ≠ g4) (hB4 : B ≤ g4) (w00 w : World) (hBe : B = w00.heap.size) (xs : List Int) (vb0 : Value) (hPB : PB B g4 HL w00 xs vb0 w) (hxl : xs.length ≤ 1000000) (v : Value) (hv : IV .i64 w00 v l) :
    Calls Try.prog 67 #[v, .pointer (some ⟨g5, 0, none⟩)] w fun e w' => e = .returned (.tuple #[]) ∧ ∃ vb, PB B g4 HL w00 (xs ++ rb l) vb w' := by
  have HPB := Aside0.mk hPB
  have HX := Aside0.mk hxl
  have HV := Aside0.mk hv
  have HXX := Aside0.mk hx
  have HBE := Aside0.mk hBe
  obtain ⟨A, c, rfl, _, _⟩ := hv
  clear hPB hxl hx hBe
  go_enter Try.func67, Try.ntmps67
  go_wp2_with fail
  go_loopg [7] l.length (fun kq v7 w' => ∃ (i : Nat) (vb : Value), v7 = .int .i64 (i : Int) ∧ i + kq = l.length ∧ Aside0 (PB B g4 HL w00 (xs ++ rb (l.take i)) vb w'))
  case atStart => exact ⟨0, vb0, rfl, by omega, ⟨by simpa [rb] using HPB.out⟩⟩
  case round =>
    clear HPB
    obtain ⟨i, vb, rfl, hi, HPB⟩ := hrel
    obtain ⟨W0, rfl⟩ : ∃ W0, W0 = wr := ⟨wr, rfl⟩
    cases gk with
    | zero =>
      have q1 : decide ((i : Int) < (l.length : Int)) = false := decide_eq_false (by omega)
      have q2 : decide (i < l.length) = false := decide_eq_false (by omega)
      go_wp2_with fail
      go_end0
      have h := HPB.out
      rw [List.take_of_length_le (by omega)] at h
      exact ⟨rfl, vb, h⟩
    | succ k1 =>
      have hil : i < l.length := by omega
      have q1 : decide ((i : Int) < (l.length : Int)) = true := decide_eq_true (by omega)
      have q2 : decide (i < l.length) = true := decide_eq_true (by omega)
      have q3 : (0 : Int) ≤ (i : Int) := by omega
      have q4 : (i : Int) < (l.length : Int) := by omega
      have hin : i < 1000000000 := by omega
      obtain ⟨ad, rfl, hc⟩ := iv_cell (HV.out.below (by rw [← HBE.out]; exact HPB.out.below)) i hil
      have hxi := HXX.out _ (List.getElem_mem hil)
      have HTT := Aside0.mk (show l.take (i + 1) = l.take i ++ [l[i]] from List.take_succ_eq_append_getElem hil)
      obtain ⟨x, hxe⟩ : ∃ x, x = l[i] := ⟨_, rfl⟩
      rw [← hxe] at hc hxi HTT
      have hw : IntKind.u64.wrap x = x := by rw [IntKind.wrap_u64]; omega
      have x5 := ((HPB.out.hs _ hg5).cell 0).trans rfl
      have HXL := Aside0.mk (show (xs ++ rb (l.take i)).length ≤ 1000000000 by rw [List.length_append, rb_length, List.length_take]; have := HX.out; omega)
      have HI := Aside0.mk hi
      clear hxe hi hxi
      go_wp2_with (go_at_call 66; refine (put_calls 2 (by decide) x B g4 HL hHL hB4 w00 _ _ _ HPB.out HXL.out).mono ?_; rintro e w3 ⟨rfl, vb3, hp3⟩; have HP3 := Aside0.mk hp3; clear hp3)
      go_roundg k1
      case measure => have := HI.out; omega
      case rel => exact ⟨i + 1, vb3, rfl, by have := HI.out; omega, ⟨by rw [HTT.out, rb_snoc, ← List.append_assoc]; exact HP3.out⟩⟩
end Go.Proofs.Ytgojfecpknonlaa.Im

