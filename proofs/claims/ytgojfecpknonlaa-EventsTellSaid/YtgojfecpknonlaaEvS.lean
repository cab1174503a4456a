/- Events as bytes: plain parts. -/
import Derived.Test.YtgojfecpknonlaaPStx9
import Derived.Test.YtgojfecpknonlaaPStx10
import Derived.Test.YtgojfecpknonlaaPStx11
import Derived.Test.YtgojfecpknonlaaPRvx1
import Derived.Test.YtgojfecpknonlaaEvP
import Derived.Test.YtgojfecpknonlaaSt2
import Derived.Laws.Bits64b
namespace Go.Proofs.Ytgojfecpknonlaa.Ev
open Go.RowKit Go.Proofs.YtgojfecpknonlaaW.PrintWords Go.Proofs.YtgojfecpknonlaaW.PrintLast Go.Proofs.YtgojfecpknonlaaW.PrintMore
open Go.Proofs.Ytgojfecpknonlaa.Own Go.Proofs.Ytgojfecpknonlaa.PSt Go.Proofs.Ytgojfecpknonlaa.St
set_option linter.unusedVariables false
set_option linter.unusedSimpArgs false

/-- A number's bytes, the greatest first. -/
def be : Nat → Int → List Int
  | 0, _ => []
  | n + 1, v => be n (v / 256) ++ [v % 256]
def pd : Nat → Int → List Int
  | 0, _ => []
  | n + 1, v => (v / 256 ^ n % 256) :: pd n v
theorem pd_last : ∀ (n : Nat) (v : Int), pd (n + 1) v = pd n (v / 256) ++ [v % 256]
  | 0, v => by simp [pd]
  | n + 1, v => by
    have h := pd_last n v
    have e : v / 256 / 256 ^ n = v / 256 ^ (n + 1) := by rw [Int.ediv_ediv_of_nonneg (by decide), Int.pow_succ, Int.mul_comm]
    rw [show pd (n + 2) v = (v / 256 ^ (n + 1) % 256) :: pd (n + 1) v from rfl, h, show pd (n + 1) (v / 256) = (v / 256 / 256 ^ n % 256) :: pd n (v / 256) from rfl, e]
    rfl
theorem be_pd : ∀ (n : Nat) (v : Int), be n v = pd n v
  | 0, v => rfl
  | n + 1, v => by rw [pd_last, ← be_pd n]; rfl
theorem be_length : ∀ (n : Nat) (v : Int), (be n v).length = n
  | 0, v => rfl
  | n + 1, v => by simp [be, be_length n]
theorem shr_byte (v : Int) (n : Nat) (h : n ≤ 7) : shr .u64 v (8 * (n : Int)) = v / 256 ^ n := by
  unfold shr
  rw [show (8 * (n : Int)).toNat = 8 * n by omega, Nat.min_eq_left (show 8 * n ≤ IntKind.u64.bits by show 8 * n ≤ 64; omega), Int.pow_mul]
  rfl
theorem put_l1 (w v : Int) (L : List Int) (n j : Int) : ∀ (m k : Nat) (xs : List Int), m ≤ 8 → xs.length + m < 140737488355328 →
    events_put.l1 (k + m + 1) xs w v ((m : Int) - 1) L n j = events_put.l0 k (xs ++ pd m v) w L n (wrap64 (j + 1))
  | 0, k, xs, hm, hx => by
    unfold events_put.l1
    rw [if_neg (by omega)]
    simp [pd]
  | m + 1, k, xs, hm, hx => by
    have hw : wrap64 (8 * (m : Int)) = 8 * (m : Int) := wrap_in' (by omega) (by omega)
    have e : (((m + 1 : Nat) : Int) - 1) = (m : Int) := by omega
    rw [e, show k + (m + 1) + 1 = (k + m + 1) + 1 by omega]
    unfold events_put.l1
    rw [if_pos (by omega), hw, if_pos (by omega), if_pos (by omega), shr_byte v m (by omega), wrap_in' (i := (m : Int) - 1) (by omega) (by omega)]
    have ih := put_l1 w v L n j m k (xs ++ [v / 256 ^ m % 256]) (by omega) (by simp; omega)
    rw [ih]
    simp [pd]
theorem put_one (w : Nat) (hw : w ≤ 8) (k : Nat) (xs L : List Int) (j : Nat) (hj : j < L.length) (hL : L.length ≤ 100) (hx : xs.length + 8 < 140737488355328) :
    events_put.l0 (k + w + 2) xs w L (L.length : Int) (j : Int) = events_put.l0 k (xs ++ be w L[j]) w L (L.length : Int) ((j + 1 : Nat) : Int) := by
  rw [show k + w + 2 = (k + w + 1) + 1 by omega]
  conv => lhs; unfold events_put.l0
  rw [if_pos (by omega), if_pos (by omega), if_pos (by omega), wrap_in' (i := (w : Int) - 1) (by omega) (by omega), put_l1 _ _ _ _ _ w k xs (by omega) (by omega), wrap_in' (i := (j : Int) + 1) (by omega) (by omega), be_pd]
  congr 3
  unfold rd
  rw [Int.toNat_natCast, List.getD_eq_getElem?_getD, List.getElem?_eq_getElem hj]
  rfl
theorem put_end (w : Int) (k : Nat) (xs L : List Int) : events_put.l0 (k + 1) xs w L (L.length : Int) (L.length : Int) = some xs := by
  unfold events_put.l0
  rw [if_neg (by omega)]
theorem put1 (w : Nat) (hw : w ≤ 8) (k : Nat) (xs : List Int) (v : Int) (hx : xs.length + 8 < 140737488355328) : events_put.f (k + 20) xs w [v] = some (xs ++ be w v) := by
  unfold events_put.f
  have h := put_one w hw (k + 20 - w - 2) xs [v] 0 (by simp) (by simp) hx
  rw [show k + 20 - w - 2 + w + 2 = k + 20 by omega] at h
  refine h.trans ?_
  rw [show k + 20 - w - 2 = (k + 20 - w - 3) + 1 by omega]
  exact put_end _ _ _ _
theorem put3 (k : Nat) (xs : List Int) (u v x : Int) (hx : xs.length + 20 < 140737488355328) : events_put.f (k + 20) xs 4 [u, v, x] = some (xs ++ be 4 u ++ be 4 v ++ be 4 x) := by
  unfold events_put.f
  have h0 := put_one 4 (by omega) (k + 14) xs [u, v, x] 0 (by simp) (by simp) (by omega)
  have h1 := put_one 4 (by omega) (k + 8) (xs ++ be 4 u) [u, v, x] 1 (by simp) (by simp) (by rw [List.length_append, be_length]; omega)
  have h2 := put_one 4 (by omega) (k + 2) (xs ++ be 4 u ++ be 4 v) [u, v, x] 2 (by simp) (by simp) (by rw [List.length_append, List.length_append, be_length, be_length]; omega)
  refine h0.trans (h1.trans (h2.trans ?_))
  exact put_end _ (k + 1) _ _
/-- An event's bytes. -/
def evb (d : S58) : List Int := [d.f0, d.f1, d.f2, d.f3, d.f4, d.f5] ++ (be 2 d.f6 ++ (be 8 d.f7 ++ (be 4 d.f8 ++ (be 4 d.f9 ++ be 4 d.f10))))
theorem evb_length (d : S58) : (evb d).length = 28 := by simp [evb, be_length]
structure Fits (d : S58) : Prop where
  h5 : 0 ≤ d.f5 ∧ d.f5 ≤ 8
  h6 : 0 ≤ d.f6 ∧ d.f6 ≤ 65535
  h8 : 0 ≤ d.f8 ∧ d.f8 ≤ 2147483647
  h9 : 0 ≤ d.f9 ∧ d.f9 ≤ 2147483647
  h10 : 0 ≤ d.f10 ∧ d.f10 ≤ 2147483647
theorem fits {d : S58} (h : may d = true) : Fits d := by
  unfold may t1 t3 at h
  simp only [Bool.and_eq_true, Bool.or_eq_true, Bool.not_eq_true', decide_eq_true_eq, Bool.or_eq_false_iff, Bool.and_eq_false_iff, decide_eq_false_iff_not] at h
  constructor <;> omega
theorem wrapu {v : Int} (h0 : 0 ≤ v) (h1 : v ≤ 18446744073709551615) : IntKind.u64.wrap v = v := by rw [IntKind.wrap_u64]; omega
theorem put_l (l : List S58) (hl : ∀ d ∈ l, Wf d) (hn : l.length ≤ 60) : ∀ (m i : Nat) (xs : List Int), i + m = l.length → xs.length ≤ 28 * i → events_Put.l0 (m + 24) xs (l.map on58) (l.length : Int) (i : Int) =
    if (l.drop i).all may = true then some (strOfNums (xs ++ (l.drop i).flatMap evb), 0) else some (⟨#[]⟩, 2)
  | 0, i, xs, h, hx => by
    have : i = l.length := by omega
    subst this
    unfold events_Put.l0
    rw [if_neg (by omega), List.drop_length]
    simp
  | m + 1, i, xs, h, hx => by
    have hi : i < l.length := by omega
    have hm : i < (l.map on58).length := by rw [List.length_map]; exact hi
    have e : rd_T72 (l.map on58) (i : Int) = on58 l[i] := by
      unfold rd_T72
      rw [Int.toNat_natCast, List.getD_eq_getElem?_getD, List.getElem?_eq_getElem hm, List.getElem_map]
      rfl
    have hw := hl l[i] (List.getElem_mem hi)
    unfold events_Put.l0
    rw [if_pos (by omega), if_pos (by omega), if_pos (by rw [List.length_map]; omega), e, List.drop_eq_getElem_cons hi]
    have hmay : events_May.f (m + 24) (on58 l[i]).f0 (on58 l[i]).f1.f0 (on58 l[i]).f1.f1 (on58 l[i]).f1.f2 (on58 l[i]).f1.f3 (on58 l[i]).f2.f0 (on58 l[i]).f2.f1 (on58 l[i]).f2.f2 (on58 l[i]).f3 (on58 l[i]).f4 (on58 l[i]).f5 = some (may l[i]) := may_is l[i] hw (m + 21)
    rw [hmay, Option.bind_some, List.all_cons, List.flatMap_cons]
    cases hy : may l[i] with
    | false => rfl
    | true =>
      have hf := fits hy
      have h5 := hf.h5; have h6 := hf.h6; have h8 := hf.h8; have h9 := hf.h9; have h10 := hf.h10
      simp only [if_true, Bool.true_and, Option.bind_some]
      show (if xs.length + 6 < 140737488355328 then _ else none) = _
      rw [if_pos (by omega)]
      show (events_put.f (m + 24) (xs ++ [l[i].f0, l[i].f1, l[i].f2, l[i].f3, l[i].f4, l[i].f5 % 256]) ((2 : Nat) : Int) [IntKind.u64.wrap l[i].f6]).bind _ = _
      rw [put1 2 (by omega) (m + 4) _ _ (by simp; omega), Option.bind_some]
      show (events_put.f (m + 24) _ ((8 : Nat) : Int) [l[i].f7]).bind _ = _
      rw [put1 8 (by omega) (m + 4) _ _ (by simp [be_length]; omega), Option.bind_some]
      show (events_put.f (m + 24) _ 4 [IntKind.u64.wrap l[i].f8, IntKind.u64.wrap l[i].f9, IntKind.u64.wrap l[i].f10]).bind _ = _
      rw [put3 (m + 4) _ _ _ _ (by simp [be_length]; omega), Option.bind_some]
      rw [wrapu (by omega) (by omega), wrapu (by omega) (by omega), wrapu (by omega) (by omega), wrapu (by omega) (by omega), Int.emod_eq_of_lt (by omega) (by omega : l[i].f5 < 256), wrap_in' (i := (i : Int) + 1) (by omega) (by omega)]
      have ih := put_l l hl hn m (i + 1) (xs ++ evb l[i]) (by omega) (by rw [List.length_append, evb_length]; omega)
      rw [Int.natCast_add, Int.natCast_one, List.append_assoc] at ih
      refine Eq.trans ?_ ih
      congr 1
      simp only [evb, List.append_assoc]
theorem put_is (l : List S58) (hl : ∀ d ∈ l, Wf d) (hn : l.length ≤ 60) : events_Put.f (l.length + 24) (l.map on58) = if l.all may = true then some (strOfNums (l.flatMap evb), 0) else some (⟨#[]⟩, 2) := by
  have h := put_l l hl hn l.length 0 [] (by omega) (by simp)
  rw [List.drop_zero, List.nil_append] at h
  unfold events_Put.f
  rw [List.length_map]
  exact h
end Go.Proofs.Ytgojfecpknonlaa.Ev

