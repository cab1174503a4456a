/- Great shapes (function 35), bytes of a string that are written: plain parts of the law. -/
import Derived.Test.YtgojfecpknonlaaImAg
import Derived.Test.YtgojfecpknonlaaPImx2
import Derived.Laws.IdiomStrings
namespace Go.Proofs.Ytgojfecpknonlaa.Im
open Go.RowKit Go.Proofs.YtgojfecpknonlaaW.PrintWords Go.Proofs.YtgojfecpknonlaaW.PrintLast Go.Proofs.YtgojfecpknonlaaW.PrintMore
open Go.Proofs.Ytgojfecpknonlaa.Own Go.Proofs.Ytgojfecpknonlaa.PIm Go.Proofs.Ytgojfecpknonlaa.Wv
set_option linter.unusedVariables false
set_option linter.unusedSimpArgs false

def gT (t : S124) : Bool := decide (20 < t.f0.length) || decide (30 < t.f1.length)
def gN (t : S127) : Bool := decide (100 < t.f0.length) || decide (100 < t.f1.length)
def greatS (S : Sh) : Bool := decide (70 < S.T.length) || decide (20 < S.G.length) || decide (60 < S.N.length) || S.T.any gT || S.N.any gN
theorem great_l1 (T : List S124) (G : List Int) (N : List S127) (hN : N.length ≤ 60) (k : Nat) : ∀ (m i : Nat), i + m = N.length → (N.take i).any gN = false → demesnelaw28_Great.l1 (k + m + 1) (i : Int) T G N = some (N.any gN)
  | 0, i, hi, h => by
    unfold demesnelaw28_Great.l1
    rw [if_neg (by omega)]
    rw [List.take_of_length_le (by omega)] at h
    rw [h]
  | m + 1, i, hi, h => by
    have hil : i < N.length := by omega
    rw [show k + (m + 1) + 1 = (k + m + 1) + 1 by omega]
    unfold demesnelaw28_Great.l1
    rw [if_pos (by omega), if_pos (by omega), rdN N i hil]
    have hs := any_step gN N i hil h
    by_cases h1 : (N[i].f0.length : Int) > 100
    · rw [if_pos h1, any_found gN N i hil (by unfold gN; rw [decide_eq_true (by omega)]; rfl)]
    · rw [if_neg h1]
      by_cases h2 : (N[i].f1.length : Int) > 100
      · rw [if_pos h2, any_found gN N i hil (by unfold gN; rw [decide_eq_true (show 100 < N[i].f1.length by omega), Bool.or_true])]
      · rw [if_neg h2, wrap_in (i := (i : Int) + 1) (by omega) (by omega)]
        have ih := great_l1 T G N hN k m (i + 1) (by omega) (by rw [hs]; unfold gN; rw [decide_eq_false (by omega), decide_eq_false (by omega)]; rfl)
        rw [Int.natCast_add, Int.natCast_one] at ih
        exact ih
theorem great_l0 (T : List S124) (G : List Int) (N : List S127) (hT : T.length ≤ 70) (hN : N.length ≤ 60) (k : Nat) : ∀ (m i : Nat), i + m = T.length → (T.take i).any gT = false → demesnelaw28_Great.l0 (k + N.length + 1 + m + 1) (i : Int) T G N = some (T.any gT || N.any gN)
  | 0, i, hi, h => by
    unfold demesnelaw28_Great.l0
    rw [if_neg (by omega)]
    rw [List.take_of_length_le (by omega)] at h
    rw [h, Bool.false_or]
    exact great_l1 T G N hN k N.length 0 (by omega) rfl
  | m + 1, i, hi, h => by
    have hil : i < T.length := by omega
    rw [show k + N.length + 1 + (m + 1) + 1 = (k + N.length + 1 + m + 1) + 1 by omega]
    unfold demesnelaw28_Great.l0
    rw [if_pos (by omega), if_pos (by omega), rdT T i hil]
    have hs := any_step gT T i hil h
    by_cases h1 : (T[i].f0.length : Int) > 20
    · rw [if_pos h1, any_found gT T i hil (by unfold gT; rw [decide_eq_true (by omega)]; rfl), Bool.true_or]
    · rw [if_neg h1]
      by_cases h2 : (T[i].f1.length : Int) > 30
      · rw [if_pos h2, any_found gT T i hil (by unfold gT; rw [decide_eq_true (show 30 < T[i].f1.length by omega), Bool.or_true]), Bool.true_or]
      · rw [if_neg h2, wrap_in (i := (i : Int) + 1) (by omega) (by omega)]
        have ih := great_l0 T G N hT hN k m (i + 1) (by omega) (by rw [hs]; unfold gT; rw [decide_eq_false (by omega), decide_eq_false (by omega)]; rfl)
        rw [Int.natCast_add, Int.natCast_one] at ih
        exact ih
theorem great_is (S : Sh) : ∃ k, demesnelaw28_Great.f k S.T S.G S.N = some (greatS S) := by
  by_cases h1 : 70 < S.T.length
  · refine ⟨1, ?_⟩
    unfold demesnelaw28_Great.f greatS
    rw [if_pos (by omega), decide_eq_true h1]
    simp [demesnelaw28_Great.j0]
  · by_cases h2 : 20 < S.G.length
    · refine ⟨1, ?_⟩
      unfold demesnelaw28_Great.f greatS
      rw [if_neg (by omega), if_pos (by omega), decide_eq_true h2]
      simp [demesnelaw28_Great.j0]
    · by_cases h3 : 60 < S.N.length
      · refine ⟨1, ?_⟩
        unfold demesnelaw28_Great.f greatS
        rw [if_neg (by omega), if_neg (by omega), decide_eq_true (by omega), decide_eq_true h3]
        simp [demesnelaw28_Great.j0]
      · refine ⟨S.N.length + 1 + S.T.length + 1 + 1, ?_⟩
        unfold demesnelaw28_Great.f greatS
        rw [if_neg (by omega), if_neg (by omega), decide_eq_false (by omega), decide_eq_false h1, decide_eq_false h2, decide_eq_false h3]
        rw [demesnelaw28_Great.j0, if_neg (by decide)]
        have h := great_l0 S.T S.G S.N (by omega) (by omega) 0 S.T.length 0 (by omega) rfl
        rw [Nat.zero_add] at h
        simp only [Bool.false_or]
        exact h
theorem great_calls (S : Sh) (v : Value) (w : World) (hv : IsSh w v S) : Calls Try.prog 35 #[v] w fun e w' => e = .returned (.bool (greatS S)) ∧ Below w.heap.size w w' := by
  obtain ⟨A0, c0, A1, c1, A2, c2, rfl, l0, h0, l1, h1, l2, h2⟩ := hv
  obtain ⟨k, hk⟩ := great_is S
  exact demesnelaw28_Great.calls k A0 c0 S.T A1 c1 S.G A2 c2 S.N (greatS S) w h0 l0 h1 l1 h2 l2 hk
theorem great_mid {S : Sh} (h : greatS S = false) : Mid S ∧ S.N.length ≤ 60 := by
  unfold greatS at h
  simp only [Bool.or_eq_false_iff, decide_eq_false_iff_not, List.any_eq_false] at h
  obtain ⟨⟨⟨⟨h1, h2⟩, h3⟩, h4⟩, h5⟩ := h
  refine ⟨⟨by omega, fun t ht => ?_, by omega, by omega, fun t ht => ?_⟩, by omega⟩
  · have := h4 t ht
    unfold gT at this
    simp only [Bool.or_eq_true, decide_eq_true_eq] at this
    omega
  · have := h5 t ht
    unfold gN at this
    simp only [Bool.or_eq_true, decide_eq_true_eq] at this
    omega
/-! Bytes that are written. -/
theorem bits_xor_u8 (a b : Nat) (ha : a < 256) (hb : b < 256) : Go.bits .xor .u8 (a : Int) (b : Int) = ((a ^^^ b : Nat) : Int) := by
  have hx : a ^^^ b < 2 ^ 8 := Nat.xor_lt_two_pow (by omega) (by omega)
  have h1 : (BitVec.ofInt 8 (a : Int)).toNat = a := by
    rw [BitVec.ofInt_natCast, BitVec.toNat_ofNat]; exact Nat.mod_eq_of_lt (by omega)
  have h2 : (BitVec.ofInt 8 (b : Int)).toNat = b := by
    rw [BitVec.ofInt_natCast, BitVec.toNat_ofNat]; exact Nat.mod_eq_of_lt (by omega)
  show IntKind.u8.wrap ((BitVec.ofInt 8 (a : Int) ^^^ BitVec.ofInt 8 (b : Int)).toNat : Int) = _
  rw [BitVec.toNat_xor, h1, h2, IntKind.wrap_u8]
  omega
theorem xor_byte {x c : Int} (hx : 0 ≤ x ∧ x ≤ 255) (hc : 0 ≤ c ∧ c ≤ 255) : ∃ v, Go.bits .xor .u8 x c = v ∧ 0 ≤ v ∧ v ≤ 255 ∧ (v = x ↔ c = 0) := by
  obtain ⟨n, rfl⟩ := Int.eq_ofNat_of_zero_le hx.1
  obtain ⟨m, rfl⟩ := Int.eq_ofNat_of_zero_le hc.1
  have hl : n ^^^ m < 2 ^ 8 := Nat.xor_lt_two_pow (by omega) (by omega)
  refine ⟨_, bits_xor_u8 n m (by omega) (by omega), by omega, by omega, ⟨fun h => ?_, fun h => ?_⟩⟩
  · have h1 : n ^^^ m = n := by omega
    have h2 : n ^^^ (n ^^^ m) = n ^^^ n := by rw [h1]
    rw [← Nat.xor_assoc, Nat.xor_self, Nat.zero_xor] at h2
    omega
  · have h1 : m = 0 := by omega
    subst h1
    rw [Nat.xor_zero]
theorem c_of_cells {w : World} {g : Nat} {xs : List Int} (h0 : 0 < xs.length) (hl : xs.length ≤ 1000000) (h : ∀ i x, xs[i]? = some x → w.cell? ⟨g, i, none⟩ = some (.int .u8 x)) : Kd.C (Kd.int .u8) w (some ⟨g, 0, none⟩) xs.length xs := by
  refine ⟨rfl, by omega, fun _ => ⟨⟨g, 0, none⟩, rfl, fun j p hp => ⟨[.int .u8 p], rfl, rfl, fun i u hu => ?_⟩⟩⟩
  have hi : i = 0 := by
    rcases Nat.eq_zero_or_pos i with h2 | h2
    · exact h2
    · rw [List.getElem?_eq_none (by simp; omega)] at hu
      cases hu
  subst hi
  obtain rfl : Value.int .u8 p = u := by simpa using hu
  show w.cell? ((⟨g, 0, none⟩ : Addr).add (j * 1 + 0)) = _
  rw [Nat.mul_one, Nat.add_zero, add0]
  exact h j p hp
/-- Any bytes are a row of numbers. -/
theorem bytes_are (b : ByteArray) : ∃ L, Byt L ∧ b = strOfNums L ∧ L.length = b.size := by
  refine ⟨b.data.toList.map (fun x => (x.toNat : Int)), fun x hx => ?_, ?_, by rw [List.length_map, Array.length_toList]; rfl⟩
  · obtain ⟨y, _, rfl⟩ := List.mem_map.1 hx
    have := y.toNat_lt
    omega
  · apply ByteArray.ext
    apply Array.ext'
    rw [strOfNums_data, List.map_map]
    have : ((fun n : Int => UInt8.ofNat n.toNat) ∘ fun x : UInt8 => (x.toNat : Int)) = id := by
      funext x
      simp
    rw [this, List.map_id]
end Go.Proofs.Ytgojfecpknonlaa.Im

