/- The rows of references of a shape, one by one: functions 113, 117. -/
import Derived.Test.YtgojfecpknonlaaImH
import Derived.RangeFuncNested
import Derived.RangeFuncBound
import Derived.RangeFuncCalls
import Derived.RangeFuncLeaves
import Derived.RangeFuncBox
import Derived.Shelf.Abstract
import Derived.Shelf.RegionOpen
import Derived.WalkKit
import Derived.OwnWalkIn
import Derived.TacticsInMore
import Derived.LoopNIn
import Derived.LoopIn
namespace Go.Proofs.Ytgojfecpknonlaa.Im
open Go.RowKit Go.Shelf Go.Proofs.YtgojfecpknonlaaW.PrintWords Go.Proofs.YtgojfecpknonlaaW.PrintLast Go.Proofs.YtgojfecpknonlaaW.PrintMore
open Go.Proofs.Ytgojfecpknonlaa.Own Go.Proofs.Ytgojfecpknonlaa.PIm Go.Proofs.Ytgojfecpknonlaa.Wv
set_option linter.unusedVariables false
set_option linter.unusedSimpArgs false
attribute [local go_sem] Oper.semAt_some

/-- Cells of other types than 3 and 26 lie as they lay. -/
structure KT (W W' : World) : Prop where
  size : W.heap.size ≤ W'.heap.size
  same : ∀ (k : Nat) (cs : Array Value) (t : TypeId) (fr : Nat × Nat), W.heap[k]? = some (.cells cs t fr) → t ≠ 3 → t ≠ 26 → W'.heap[k]? = some (.cells cs t fr)
theorem KT.trans {A B C : World} (h : KT A B) (k : KT B C) : KT A C := ⟨Nat.le_trans h.size k.size, fun i cs t fr hi h3 h26 => k.same i cs t fr (h.same i cs t fr hi h3 h26) h3 h26⟩
theorem KT.below {W W' : World} (h : Below W.heap.size W W') : KT W W' := ⟨h.size, fun k cs t fr hk _ _ => (h.block k (Array.getElem?_eq_some_iff.1 hk).1).trans hk⟩
theorem KT.putObj (W : World) (l : Nat) (o o' : Obj) (h : W.heap[l]? = some o) (hc : o.isCells = false) : KT W (W.putObj l o') :=
  ⟨by simp, fun k cs t fr hk _ _ => by
    have hne : k ≠ l := fun e => by
      subst e
      rw [h] at hk
      injection hk with hk
      subst hk
      cases hc
    exact (World.putObj_heap_other hne).trans hk⟩
theorem KT.holds {W W' : World} {g t : Nat} {cs : List Value} (h : KT W W') (hh : Holds W g t cs) (h3 : t ≠ 3) (h26 : t ≠ 26) : Holds W' g t cs := h.same _ _ _ _ hh h3 h26
theorem KT.raw {W W' : World} {B : Nat} {ok : Nat → Prop} {v : Value} {ps : List (Value × Value)} (h : KT W W') (hr : Kd.R kraw 128 W B ok v ps) : Kd.R kraw 128 W' B ok v ps := by
  refine Kd.R_mono (Kd.R_move (Kd.R_bound hr) (fun k hk => ?_)) (fun k hk => hk.1)
  obtain ⟨_, _, _, q, hq, cells, hc⟩ := hk
  rcases List.mem_cons.1 hq with rfl | hq
  · exact (h.same _ _ _ _ hc (by decide) (by decide)).trans hc.symm
  · cases hq
def rowsV (ps : List (Value × Value)) (vG : Value) : List Value := ps.flatMap (fun p => [p.1, p.2]) ++ [vG]
theorem rowsV_length (ps : List (Value × Value)) (vG : Value) : (rowsV ps vG).length = 2 * ps.length + 1 := by
  have h : ∀ ps : List (Value × Value), (ps.flatMap (fun p => [p.1, p.2])).length = 2 * ps.length := fun ps => by
    induction ps with
    | nil => rfl
    | cons p ps ih => rw [List.flatMap_cons, List.length_append, ih]; simp; omega
  unfold rowsV
  rw [List.length_append, h]
  rfl
theorem flat_at : ∀ (ps : List (Value × Value)) (r : List Value) (i : Nat) (p : Value × Value), ps[i]? = some p → (ps.flatMap (fun p => [p.1, p.2]) ++ r)[2 * i]? = some p.1 ∧ (ps.flatMap (fun p => [p.1, p.2]) ++ r)[2 * i + 1]? = some p.2
  | [], r, i, p, h => by simp at h
  | q :: ps, r, 0, p, h => by
    obtain rfl : q = p := by simpa using h
    exact ⟨rfl, rfl⟩
  | q :: ps, r, i + 1, p, h => by
    have ih := flat_at ps r i p (by simpa using h)
    rw [List.flatMap_cons, List.append_assoc]
    exact ⟨ih.1, ih.2⟩
def encR (rows : List Value) (j : Nat) : Array Value := #[rows.getD j (.slice none 0 0)]
theorem encR_at {rows : List Value} {j : Nat} {v : Value} (h : rows[j]? = some v) : encR rows j = #[v] := by
  unfold encR
  rw [List.getD_eq_getElem?_getD, h]
  rfl

set_option maxRecDepth 100000 in
set_option maxHeartbeats 2000000 in
theorem rows1_in (F : Fence) (n : Nat) (h117 : F.fn 117) (hro : F.round = none) (hn : 1 ≤ n) (l bS g2 B : Nat) (ps : List (Value × Value)) (AT : Option Addr) (cT : Nat) (AG : Option Addr) (nG cG : Nat) (vN : Value) (hps : ps.length ≤ 100000) (J Jx : List Nat → World → Prop)
    (hsl : ∀ p ∈ ps, ∃ A0 n0 c0 A1 n1 c1, p = (.slice A0 n0 c0, .slice A1 n1 c1))
    (hJ : ∀ pre W W', J pre W → Below W.heap.size W W' → J pre W')
    (hY : ∀ pre x W, J pre W → pre.length < 2 * ps.length + 1 → YieldAt F (n - 1) Try.prog l (encR (rowsV ps (.slice AG nG cG)) x) W fun e W' =>
      (e = .returned (.bool true) ∧ J (pre ++ [x]) W' ∧ KT W W') ∨ (e = .returned (.bool false) ∧ Jx (pre ++ [x]) W'))
    (W : World) (hb : Holds W bS 177 [.pointer (some ⟨g2, 0, none⟩)]) (h2 : Holds W g2 89 [.slice AT ps.length cT, .slice AG nG cG, vN]) (hr : Kd.R kraw 128 W B (fun _ => True) (.slice AT ps.length cT) ps) (h0 : J [] W) :
    CallsIn F n Try.prog 117 #[.func (.yield l) #[] #[], .pointer (some ⟨bS, 0, none⟩)] W fun e W' => (∃ v, e = .returned v) ∧
      ((∃ ys, ys = List.range (2 * ps.length + 1) ∧ J ys W') ∨ (∃ pre, Jx pre W')) := by
  refine callsIn_of_wp Try.func117 rfl h117 ?_ hro
  simp only [Try.ntmps117, List.size_toArray, List.length_cons, List.length_nil, Nat.reduceAdd, Nat.reduceSub, Array.replicate_succ, Array.replicate_zero, List.push_toArray, List.append_toArray, List.nil_append, List.cons_append]
  have hu89 := Try.underlying89
  have x0 := (hb.cell 0).trans rfl
  have x1 := (h2.cell 0).trans rfl
  gi_wp2
  gi_loopw [10] (fun i wr => ∃ k : Nat, k ≤ ps.length ∧ i = .int .i64 k ∧ J (List.range (2 * k)) wr ∧ KT W wr)
    (fun i _ => ps.length - (intOf i).toNat)
  case atStart => exact ⟨0, Nat.zero_le _, rfl, h0, ⟨Nat.le_refl _, fun _ _ _ _ h _ _ => h⟩⟩
  case round =>
    obtain ⟨k, hk, rfl, hJs, hnx⟩ := hrel
    have hrw := hnx.raw hr
    by_cases hlt : k < ps.length
    · obtain ⟨ad, c', e', _, hK, hcell⟩ := Kd.C_get (Kd.R_reads' hrw).2.2 ((.slice none 0 0, .slice none 0 0) : Value × Value) (k : Int) (by omega) (by omega)
      subst e'
      have hpk : ps[k]? = some (ps.getD (k : Int).toNat (.slice none 0 0, .slice none 0 0)) := by
        rw [Int.toNat_natCast, List.getD_eq_getElem?_getD, List.getElem?_eq_getElem hlt]
        rfl
      obtain ⟨p, hp⟩ : ∃ p, p = ps.getD (k : Int).toNat (.slice none 0 0, .slice none 0 0) := ⟨_, rfl⟩
      rw [← hp] at hK hpk
      obtain ⟨rfl, _, _⟩ := hK
      obtain ⟨A0, n0, c0, A1, n1, c1, rfl⟩ := hsl p (List.mem_of_getElem? hpk)
      have hx0 : wr.cell? (ad.add (k * 2)) = some (.slice A0 n0 c0) := by
        have h : wr.cell? (ad.add ((k : Int).toNat * 2 + 0)) = _ := hcell 0 _ rfl
        rw [Int.toNat_natCast, Nat.add_zero] at h
        exact h
      have hx1 : wr.cell? ⟨(ad.add (k * 2)).block, (ad.add (k * 2)).off + 1, none⟩ = some (.slice A1 n1 c1) := by
        have h : wr.cell? (ad.add ((k : Int).toNat * 2 + 1)) = _ := hcell 1 _ rfl
        rw [Int.toNat_natCast] at h
        rw [← add_field _ _ 1 (by omega)]
        exact h
      have hro := flat_at ps [.slice AG nG cG] k _ hpk
      have q1 : decide ((k : Int) < (ps.length : Int)) = true := decide_eq_true (by omega)
      have q2 : decide (k < ps.length) = true := decide_eq_true hlt
      have q3 : (0 : Int) ≤ (k : Int) := by omega
      have q4 : (k : Int) < (ps.length : Int) := by omega
      have hin : k < 1000000000 := by omega
      obtain ⟨W4, hW4⟩ : ∃ W4, W4 = wr.alloc (.cells #[.slice A0 n0 c0, .slice A1 n1 c1] 128) := ⟨_, rfl⟩
      have hb4 : Below wr.heap.size wr W4 := by rw [hW4]; exact below_alloc (Below.refl _ _) _
      have h4 : Holds W4 wr.heap.size 128 [.slice A0 n0 c0, .slice A1 n1 c1] := by rw [hW4]; exact blk_new _ _
      have hY1 := hY (List.range (2 * k)) (2 * k) W4 (hJ _ _ _ hJs hb4) (by rw [List.length_range]; omega)
      rw [show encR (rowsV ps (.slice AG nG cG)) (2 * k) = #[.slice A0 n0 c0] from encR_at hro.1] at hY1
      obtain ⟨fn, tmps, assign, body, hy, hR⟩ := hY1
      rw [hW4] at hy hR
      gi_wp2
      refine hR.mono ?_
      rw [← hW4]
      rintro e W5 (⟨rfl, hJ5, hk5⟩ | ⟨rfl, hJx5⟩)
      · have hz1 : W5.cell? ⟨wr.heap.size, 1, none⟩ = some (.slice A1 n1 c1) := ((hk5.holds h4 (by decide) (by decide)).cell 1).trans rfl
        have hY2 := hY (List.range (2 * k) ++ [2 * k]) (2 * k + 1) W5 hJ5 (by rw [List.length_append, List.length_range, List.length_singleton]; omega)
        rw [show encR (rowsV ps (.slice AG nG cG)) (2 * k + 1) = #[.slice A1 n1 c1] from encR_at hro.2] at hY2
        clear hy hR
        obtain ⟨fn, tmps, assign, body, hy, hR⟩ := hY2
        gi_wp2
        refine hR.mono ?_
        rintro e W6 (⟨rfl, hJ6, hk6⟩ | ⟨rfl, hJx6⟩)
        · gi_wp2
          go_roundw
          case rel =>
            refine ⟨k + 1, by omega, by simp, ?_, ((hnx.trans (KT.below hb4)).trans hk5).trans hk6⟩
            rw [show 2 * (k + 1) = 2 * k + 1 + 1 by omega, List.range_succ, List.range_succ]
            exact hJ6
          case measure => simp [intOf]; omega
        · gi_wp2
          refine bodyPost_ret (results_none rfl _ _ _) rfl ?_
          exact ⟨⟨_, rfl⟩, .inr ⟨_, hJx6⟩⟩
      · gi_wp2
        refine ⟨fun _ h => (by cases h), ?_⟩
        gi_wp2
        refine bodyPost_ret (results_none rfl _ _ _) rfl ?_
        exact ⟨⟨_, rfl⟩, .inr ⟨_, hJx5⟩⟩
    · obtain rfl : k = ps.length := by omega
      have q1 : decide ((ps.length : Int) < (ps.length : Int)) = false := decide_eq_false (by omega)
      have x2 : wr.cell? ⟨bS, 0, none⟩ = some (.pointer (some ⟨g2, 0, none⟩)) := ((hnx.holds hb (by decide) (by decide)).cell 0).trans rfl
      have x3 : wr.cell? ⟨g2, 1, none⟩ = some (.slice AG nG cG) := ((hnx.holds h2 (by decide) (by decide)).cell 1).trans rfl
      have hY1 := hY (List.range (2 * ps.length)) (2 * ps.length) wr hJs (by rw [List.length_range]; omega)
      rw [show encR (rowsV ps (.slice AG nG cG)) (2 * ps.length) = #[.slice AG nG cG] from encR_at (by
        have h := rowsV_length ps (.slice AG nG cG)
        unfold rowsV at h ⊢
        rw [List.length_append, List.length_singleton] at h
        rw [List.getElem?_append_right (by omega), show 2 * ps.length - (ps.flatMap fun p => [p.1, p.2]).length = 0 by omega]
        rfl)] at hY1
      obtain ⟨fn, tmps, assign, body, hy, hR⟩ := hY1
      gi_wp2
      refine hR.mono ?_
      rintro e W6 (⟨rfl, hJ6, hk6⟩ | ⟨rfl, hJx6⟩)
      · gi_wp2
        go_end0
        exact ⟨⟨_, rfl⟩, .inl ⟨_, rfl, by rw [List.range_succ]; exact hJ6⟩⟩
      · gi_wp2
        go_end0
        exact ⟨⟨_, rfl⟩, .inr ⟨_, hJx6⟩⟩
theorem rows_stops (F : Fence) (n : Nat) (h117 : F.fn 117) (hro : F.round = none) (hn : 1 ≤ n) (bS g2 B : Nat) (ps : List (Value × Value)) (AT : Option Addr) (cT : Nat) (AG : Option Addr) (nG cG : Nat) (vN : Value) (hps : ps.length ≤ 100000)
    (hsl : ∀ p ∈ ps, ∃ A0 n0 c0 A1 n1 c1, p = (.slice A0 n0 c0, .slice A1 n1 c1)) (w : World)
    (hb : Holds w bS 177 [.pointer (some ⟨g2, 0, none⟩)]) (h2 : Holds w g2 89 [.slice AT ps.length cT, .slice AG nG cG, vN]) (hr : Kd.R kraw 128 w B (fun _ => True) (.slice AT ps.length cT) ps) :
    SeqStopsK F n Try.prog 117 #[.pointer (some ⟨bS, 0, none⟩)] (encR (rowsV ps (.slice AG nG cG))) KT (fun ys => ys = List.range (2 * ps.length + 1)) (fun _ => True) (2 * ps.length + 1) w := fun l J Jx W hW hJ hJx hY h0 => by
  refine (rows1_in F n h117 hro hn l bS g2 B ps AT cT AG nG cG vN hps J Jx hsl (fun pre W1 W2 h k => hJ pre W1 W2 none h (grown_of_below k none) (fun r e => by cases e)) hY W (hb.below hW) (h2.below hW) (Kd.R_below hr hW) h0).mono ?_
  rintro e W' ⟨he, ⟨ys, rfl, hj⟩ | ⟨pre, hj⟩⟩
  · exact ⟨he, .inl ⟨_, rfl, hj⟩⟩
  · exact ⟨he, .inr ⟨_, trivial, hj⟩⟩
set_option maxHeartbeats 1000000 in
theorem rows_in (F : Fence) (n : Nat) (h113 : F.fn 113) (hro : F.round = none) (g2 : Nat) (w : World) :
    CallsIn F n Try.prog 113 #[.pointer (some ⟨g2, 0, none⟩)] w fun e w' => e = .returned (.func (.func 117) #[] #[.pointer (some ⟨w.heap.size, 0, none⟩)]) ∧ w' = w.alloc (.cells #[.pointer (some ⟨g2, 0, none⟩)] 177) := by
  refine callsIn_of_wp Try.func113 rfl h113 ?_ hro
  simp only [Try.ntmps113, List.size_toArray, List.length_cons, List.length_nil, Nat.reduceAdd, Nat.reduceSub, Array.replicate_succ, Array.replicate_zero, List.push_toArray, List.append_toArray, List.nil_append, List.cons_append]
  gi_wp2
  go_ret
  exact ⟨rfl, rfl⟩
end Go.Proofs.Ytgojfecpknonlaa.Im

