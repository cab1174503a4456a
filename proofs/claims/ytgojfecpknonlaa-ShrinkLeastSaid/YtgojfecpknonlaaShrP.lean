/- What the printed rule computes, in plain words. -/
import Derived.Test.YtgojfecpknonlaaPShrinkLeastx
namespace Go.Proofs.Ytgojfecpknonlaa.Shr
open Go.RowKit Go.Proofs.YtgojfecpknonlaaW.PrintWords Go.Proofs.YtgojfecpknonlaaW.PrintLast Go.Proofs.YtgojfecpknonlaaW.PrintMore
open Go.Proofs.Ytgojfecpknonlaa.PShrinkLeast
set_option linter.unusedVariables false
set_option linter.unusedSimpArgs false

theorem wrap_in {i : Int} (h0 : -9223372036854775808 ≤ i) (h1 : i ≤ 9223372036854775807) : wrap64 i = i := by
  unfold wrap64; omega

theorem rd_at (l : List Int) (i : Nat) (h : i < l.length) : rd l (i : Int) = l[i] := by
  simp [rd, List.getD_eq_getElem?_getD, h]
theorem rdL_at (l : List (List Int)) (i : Nat) (h : i < l.length) : rd_L4 l (i : Int) = l[i] := by
  simp [rd_L4, List.getD_eq_getElem?_getD, h]

def hit (n : Int) (l : List Int) (x : Int) : Bool := l.any (fun y => y == Int.tmod (wrap64 x) n)
def grp (n : Int) (l : List Int) (g : List Int) : Bool := g.isEmpty || n == 0 || g.any (hit n l)
def rf (G : List (List Int)) (least : Int) (odd : Bool) (l : List Int) (n : Int) : Bool :=
  if (l.length : Int) < wrap64 least then false else if odd && (Int.tmod (l.foldl (fun s x => wrap64 (s + x)) 0) 2 == 0) then false else G.all (grp n l)

section
variable (l : List Int) (n : Int) (G : List (List Int)) (a : Int) (b : Bool)

theorem l3_ev (hl : l.length < 4611686018427387904) (q j : Nat) (hq : q < G.length) (hj : j < (G[q]).length) (hn : n ≠ 0) (r : Bool) (d : Nat) : ∀ (i : Nat) (found : Bool), i + d = l.length →
    Ev (fun k => demesnelaw40_Rule_fails.l2 k l n q (found || (l.drop i).any (fun y => y == Int.tmod (wrap64 (G[q])[j]) n)) (wrap64 (j + 1)) G a b) r → Ev (fun k => demesnelaw40_Rule_fails.l3 k l n q found j i G a b) r := by
  induction d with
  | zero =>
    intro i found hi h
    have e : l.drop i = [] := List.drop_eq_nil_of_le (by omega)
    rw [e] at h
    simp only [List.any_nil, Bool.or_false] at h
    refine Ev.step (fun k => ?_) h
    simp only [demesnelaw40_Rule_fails.l3]
    rw [if_neg (by omega)]
  | succ d ih =>
    intro i found hi h
    have hw : wrap64 ((i : Int) + 1) = ((i + 1 : Nat) : Int) := by rw [wrap_in (by omega) (by omega)]; rfl
    have hlt : i < l.length := by omega
    have e : l.drop i = l[i] :: l.drop (i + 1) := List.drop_eq_getElem_cons hlt
    rw [e] at h
    simp only [List.any_cons] at h
    cases found with
    | true =>
      refine Ev.step (f := fun k => demesnelaw40_Rule_fails.l3 k l n q true j (i + 1 : Nat) G a b) (fun k => ?_) (ih (i + 1) true (by omega) (by simpa using h))
      simp only [demesnelaw40_Rule_fails.l3]
      rw [if_pos (by omega)]
      simp only [if_true]
      rw [hw]
    | false =>
      refine Ev.step (f := fun k => demesnelaw40_Rule_fails.l3 k l n q (rd l i == Int.tmod (wrap64 (rd (rd_L4 G q) j)) n) j (i + 1 : Nat) G a b) (fun k => ?_) (ih (i + 1) _ (by omega) (by
        rw [rdL_at G q hq, rd_at l i hlt, rd_at _ j hj]
        simpa using h))
      simp only [demesnelaw40_Rule_fails.l3]
      rw [if_pos (by omega)]
      simp only [Bool.false_eq_true, if_false]
      rw [if_pos (by omega), if_pos (by omega), if_pos (by omega), if_pos (by omega), if_pos (by rw [rdL_at G q hq]; omega), if_neg hn, hw]

theorem l2_ev (hl : l.length < 4611686018427387904) (q : Nat) (hq : q < G.length) (hg : (G[q]).length < 4611686018427387904) (r : Bool) (d : Nat) : ∀ (j : Nat) (found : Bool), j + d = (G[q]).length → (found = false → n ≠ 0) →
    Ev (fun k => if (found || ((G[q]).drop j).any (hit n l)) = true then demesnelaw40_Rule_fails.l1 k l n (wrap64 (q + 1)) G a b else some false) r → Ev (fun k => demesnelaw40_Rule_fails.l2 k l n q found j G a b) r := by
  induction d with
  | zero =>
    intro j found hj hn h
    have e : (G[q]).drop j = [] := List.drop_eq_nil_of_le (by omega)
    rw [e] at h
    simp only [List.any_nil, Bool.or_false] at h
    refine Ev.step (f := fun k => demesnelaw40_Rule_fails.j5 k l n q found j false G a b) (fun k => ?_) (Ev.step (fun k => ?_) h)
    · simp only [demesnelaw40_Rule_fails.l2]
      rw [if_pos (by omega), if_pos (by omega), if_neg (by rw [rdL_at G q hq]; omega)]
    · simp only [demesnelaw40_Rule_fails.j5]
      simp
  | succ d ih =>
    intro j found hj hn h
    have hw : wrap64 ((j : Int) + 1) = ((j + 1 : Nat) : Int) := by rw [wrap_in (by omega) (by omega)]; rfl
    have hlt : j < (G[q]).length := by omega
    have e : (G[q]).drop j = (G[q])[j] :: (G[q]).drop (j + 1) := List.drop_eq_getElem_cons hlt
    rw [e] at h
    simp only [List.any_cons] at h
    refine Ev.step (f := fun k => demesnelaw40_Rule_fails.j5 k l n q found j (!found) G a b) (fun k => ?_) ?_
    · simp only [demesnelaw40_Rule_fails.l2]
      rw [if_pos (by omega), if_pos (by omega), if_pos (by rw [rdL_at G q hq]; omega)]
    cases found with
    | true =>
      refine Ev.step (fun k => ?_) h
      simp only [demesnelaw40_Rule_fails.j5]
      simp
    | false =>
      refine Ev.step (f := fun k => demesnelaw40_Rule_fails.l3 k l n q false j 0 G a b) (fun k => ?_) ?_
      · simp only [demesnelaw40_Rule_fails.j5]
        simp
      · refine l3_ev l n G a b hl q j hq hlt (hn rfl) r l.length 0 false (by omega) ?_
        rw [hw]
        refine ih (j + 1) _ (by omega) ?_ ?_
        · intro _; exact hn rfl
        · simpa [hit, List.drop_zero, Bool.or_assoc] using h

theorem l1_ev (hl : l.length < 4611686018427387904) (hG : G.length < 4611686018427387904) (hg : ∀ q (h : q < G.length), (G[q]).length < 4611686018427387904) (d : Nat) : ∀ (q : Nat), q + d = G.length →
    Ev (fun k => demesnelaw40_Rule_fails.l1 k l n q G a b) ((G.drop q).all (grp n l)) := by
  induction d with
  | zero =>
    intro q hq
    have e : G.drop q = [] := List.drop_eq_nil_of_le (by omega)
    rw [e]
    refine Ev.step (fun k => ?_) (Ev.now _)
    simp only [demesnelaw40_Rule_fails.l1]
    rw [if_neg (by omega)]
    rfl
  | succ d ih =>
    intro q hq
    have hlt : q < G.length := by omega
    have hw : wrap64 ((q : Int) + 1) = ((q + 1 : Nat) : Int) := by rw [wrap_in (by omega) (by omega)]; rfl
    have e : G.drop q = G[q] :: G.drop (q + 1) := List.drop_eq_getElem_cons hlt
    rw [e, List.all_cons]
    refine Ev.step (f := fun k => demesnelaw40_Rule_fails.j3 k l n q ((G[q]).isEmpty || n == 0) G a b) (fun k => ?_) ?_
    · simp only [demesnelaw40_Rule_fails.l1]
      rw [if_pos (by omega), if_pos (by omega), rdL_at G q hlt]
      by_cases h0 : (((G[q]).length : Nat) : Int) = 0
      · have h1 : G[q] = [] := List.eq_nil_of_length_eq_zero (by omega)
        rw [if_pos h0, h1]; rfl
      · have h1 : (G[q]).isEmpty = false := by
          rw [List.isEmpty_eq_false_iff]
          intro h; rw [h] at h0; exact h0 rfl
        rw [if_neg h0, h1, Bool.false_or]
    · refine Ev.step (f := fun k => demesnelaw40_Rule_fails.l2 k l n q ((G[q]).isEmpty || n == 0) 0 G a b) (fun k => by simp only [demesnelaw40_Rule_fails.j3]) ?_
      refine l2_ev l n G a b hl q hlt (hg q hlt) _ (G[q]).length 0 _ (by omega) ?_ ?_
      · intro h
        simp only [Bool.or_eq_false_iff, beq_eq_false_iff_ne] at h
        exact h.2
      · rw [List.drop_zero, hw]
        have eg : ((G[q]).isEmpty || n == 0 || (G[q]).any (hit n l)) = grp n l G[q] := rfl
        rw [eg]
        cases hc : grp n l G[q] with
        | true => simpa using ih (q + 1) (by omega)
        | false => simpa using Ev.now false

theorem l0_ev (hl : l.length < 4611686018427387904) (r : Bool) (d : Nat) : ∀ (i : Nat) (s : Int), i + d = l.length →
    Ev (fun k => demesnelaw40_Rule_fails.j1 k l n (b && (Int.tmod ((l.drop i).foldl (fun s x => wrap64 (s + x)) s) 2 == 0)) G a b) r → Ev (fun k => demesnelaw40_Rule_fails.l0 k l n s i G a b) r := by
  induction d with
  | zero =>
    intro i s hi h
    have e : l.drop i = [] := List.drop_eq_nil_of_le (by omega)
    rw [e] at h
    refine Ev.step (fun k => ?_) h
    simp only [demesnelaw40_Rule_fails.l0]
    rw [if_neg (by omega)]
    cases b <;> simp
  | succ d ih =>
    intro i s hi h
    have hlt : i < l.length := by omega
    have hw : wrap64 ((i : Int) + 1) = ((i + 1 : Nat) : Int) := by rw [wrap_in (by omega) (by omega)]; rfl
    have e : l.drop i = l[i] :: l.drop (i + 1) := List.drop_eq_getElem_cons hlt
    rw [e, List.foldl_cons] at h
    refine Ev.step (f := fun k => demesnelaw40_Rule_fails.l0 k l n (wrap64 (s + l[i])) (i + 1 : Nat) G a b) (fun k => ?_) (ih (i + 1) _ (by omega) h)
    simp only [demesnelaw40_Rule_fails.l0]
    rw [if_pos (by omega), if_pos (by omega), rd_at l i hlt, hw]

theorem fails_ev (hl : l.length < 4611686018427387904) (hG : G.length < 4611686018427387904) (hg : ∀ q (h : q < G.length), (G[q]).length < 4611686018427387904) :
    Ev (fun k => demesnelaw40_Rule_fails.f k G a b l n) (rf G a b l n) := by
  unfold rf
  by_cases h : (l.length : Int) < wrap64 a
  · rw [if_pos h]
    refine Ev.congr (fun k => ?_) (Ev.now false)
    simp only [demesnelaw40_Rule_fails.f]
    rw [if_pos h]
  · rw [if_neg h]
    refine Ev.congr (f := fun k => demesnelaw40_Rule_fails.l0 k l n 0 (0 : Nat) G a b) (fun k => ?_) ?_
    · simp only [demesnelaw40_Rule_fails.f]
      rw [if_neg h]
      rfl
    · refine l0_ev l n G a b hl _ l.length 0 0 (by omega) ?_
      rw [List.drop_zero]
      cases hc : (b && (Int.tmod (l.foldl (fun s x => wrap64 (s + x)) 0) 2 == 0)) with
      | true =>
        refine Ev.step (fun k => ?_) (Ev.now _)
        simp only [demesnelaw40_Rule_fails.j1]
        simp
      | false =>
        refine Ev.step (f := fun k => demesnelaw40_Rule_fails.l1 k l n (0 : Nat) G a b) (fun k => ?_) ?_
        · simp only [demesnelaw40_Rule_fails.j1]
          simp
        · simpa using l1_ev l n G a b hl hG hg G.length 0 (by omega)
end
end Go.Proofs.Ytgojfecpknonlaa.Shr
