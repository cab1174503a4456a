/- The law EventsPick: plain parts, and two rows apart. -/
import Derived.Test.YtgojfecpknonlaaEvO
namespace Go.Proofs.Ytgojfecpknonlaa.Ev
open Go.RowKit Go.Proofs.YtgojfecpknonlaaW.PrintWords Go.Proofs.YtgojfecpknonlaaW.PrintLast Go.Proofs.YtgojfecpknonlaaW.PrintMore
open Go.Proofs.Ytgojfecpknonlaa.Own Go.Proofs.Ytgojfecpknonlaa.PSt
set_option linter.unusedVariables false
set_option linter.unusedSimpArgs false

theorem wrap_in' {i : Int} (h0 : -9223372036854775808 ≤ i) (h1 : i ≤ 9223372036854775807) : wrap64 i = i := wrap_ok (by omega) (by omega)
theorem rdd58 (l : List S58) (i : Nat) (h : i < l.length) : rd_T58 l (i : Int) = l[i] := by
  unfold rd_T58
  rw [Int.toNat_natCast, List.getD_eq_getElem?_getD, List.getElem?_eq_getElem h]
  rfl
theorem ofOn_l (l : List S58) : ∀ (m i : Nat) (xs : List S72), i + m = l.length → l.length ≤ 1000000 → xs.length = i →
    demesnelaw36_Of.l0 (m + 1) l xs i = some (xs ++ (l.drop i).map on58)
  | 0, i, xs, h, hl, hx => by
    have : i = l.length := by omega
    subst this
    unfold demesnelaw36_Of.l0
    rw [if_neg (by omega), List.drop_length]
    simp
  | m + 1, i, xs, h, hl, hx => by
    have hi : i < l.length := by omega
    unfold demesnelaw36_Of.l0
    rw [if_pos (by omega), if_pos (by omega), rdd58 l i hi, List.drop_eq_getElem_cons hi, List.map_cons]
    rw [wrap_in' (i := (i : Int) + 1) (by omega) (by omega)]
    unfold demesnelaw36_One.f
    rw [Option.bind_some, if_pos (by omega)]
    have ih := ofOn_l l m (i + 1) (xs ++ [on58 l[i]]) (by omega) hl (by simp [hx])
    simp only [Int.natCast_add, Int.natCast_one, List.append_assoc, List.singleton_append] at ih
    exact ih
theorem ofOn_is (l : List S58) (hl : l.length ≤ 100000) : demesnelaw36_Of.f (l.length + 1) l = some (l.map on58) := by
  have h := ofOn_l l l.length 0 [] (by omega) (by omega) rfl
  simp only [List.drop_zero, List.nil_append] at h
  exact h
theorem row_l (l : List S72) (hl : l.length ≤ 1000000) : ∀ (m i : Nat), i + m = l.length → demesnelaw36_Row.l0 (m + 1) l l i = some true
  | 0, i, h => by
    unfold demesnelaw36_Row.l0
    rw [if_neg (by omega)]
  | m + 1, i, h => by
    unfold demesnelaw36_Row.l0
    rw [if_pos (by omega), if_pos (by omega), if_pos (by omega)]
    simp only [beq_self_eq_true, Bool.not_true, Bool.or_self, Bool.false_eq_true, if_false]
    rw [wrap_in' (i := (i : Int) + 1) (by omega) (by omega)]
    have ih := row_l l hl m (i + 1) (by omega)
    rw [Int.natCast_add] at ih
    exact ih
theorem row_is (l : List S72) (hl : l.length ≤ 1000000) : demesnelaw36_Row.f (l.length + 1) l l = some true := by
  unfold demesnelaw36_Row.f
  rw [if_pos rfl]
  exact row_l l hl l.length 0 (by omega)
/-- Two rows that are alike, compared. -/
theorem alike_calls (l : List S72) (A0 : Option Addr) (c0 : Nat) (A1 : Option Addr) (c1 : Nat) (w : World) (hl : l.length ≤ 1000000) (hr0 : Kd.C k72 w A0 l.length l) (hc0 : l.length ≤ c0) (hr1 : Kd.C k72 w A1 l.length l) (hc1 : l.length ≤ c1) :
    Calls Try.prog 48 #[.slice A0 l.length c0, .slice A1 l.length c1] w fun e w' => e = .returned (.bool true) ∧ Below w.heap.size w w' := by
  refine (demesnelaw36_Row.calls (l.length + 1) A0 c0 l A1 c1 l true w hr0 hc0 hr1 hc1 (row_is l hl)).mono ?_
  rintro e w1 ⟨rfl, ⟨nd, rfl⟩⟩
  exact ⟨rfl, pw_below_drewN (Below.refl _ _) nd⟩

/-- Rows that may hang on any blocks but their own. -/
theorem r72_any {W : World} {base : Nat} {ok ok' : Nat → Prop} {v : Value} {xs : List S72} (h : Kd.R k72 72 W base ok v xs) (hk : ∀ k, v.ownBlock = some k → ok' k) : Kd.R k72 72 W base ok' v xs := by
  obtain ⟨h0, inner, hown, hr⟩ := h
  refine ⟨hk, inner, hown, hr.imp_ (fun q cs hq => ?_)⟩
  obtain rfl := k72_open (k72.K_of_M hq)
  exact k72_mkM _ _ _ _
structure Two (w W : World) (v9 v10 : Value) (o9 o10 : List S72) : Prop where
  r9 : Kd.R k72 72 W w.heap.size (fun _ => True) v9 o9
  r10 : Kd.R k72 72 W w.heap.size (fun _ => True) v10 o10
  ne : ∀ k, v9.ownBlock = some k → v10.ownBlock ≠ some k
  below : Below w.heap.size w W
theorem Two.symm {w W : World} {v9 v10 : Value} {o9 o10 : List S72} (h : Two w W v9 v10 o9 o10) : Two w W v10 v9 o10 o9 := ⟨h.r10, h.r9, fun k h1 h2 => h.ne k h2 h1, h.below⟩
theorem Two.put {w W W1 : World} {v9 v10 v1 : Value} {o9 o10 o1 : List S72} (h : Two w W v9 v10 o9 o10) (hr : Kd.R k72 72 W1 w.heap.size (fun _ => True) v1 o1) (hb : Below w.heap.size w W1) (hg : W.grownBy W1 v9.ownBlock) (hat : v1.ownBlock = v9.ownBlock ∨ ∃ b, v1.ownBlock = some b ∧ W.heap.size ≤ b) : Two w W1 v1 v10 o1 o10 := by
  refine ⟨hr, ?_, fun k hk hk2 => ?_, hb⟩
  · have h1 := r72_any (ok' := fun k => some k ≠ v9.ownBlock) h.r10 (fun k hk he => h.ne k he.symm hk)
    exact r72_any (Kd.R_grown h1 hg (fun k hk => hk)) (fun _ _ => trivial)
  · rcases hat with h1 | ⟨b, h1, h2⟩
    · exact h.ne k (h1 ▸ hk) hk2
    · rw [h1] at hk
      injection hk with hk
      have := Kd.R_lt h.r10 k hk2
      omega
end Go.Proofs.Ytgojfecpknonlaa.Ev

