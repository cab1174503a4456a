/- The reference's Points (function 52) walked. (Printed by wip/tools/evg.py.) -/
import Derived.Test.YtgojfecpknonlaaEvN
import Derived.Test.YtgojfecpknonlaaPStx4
import Derived.Test.YtgojfecpknonlaaKit
namespace Go.Proofs.Ytgojfecpknonlaa.Ev
open Go.RowKit Go.Proofs.YtgojfecpknonlaaW.PrintWords Go.Proofs.YtgojfecpknonlaaW.PrintLast Go.Proofs.YtgojfecpknonlaaW.PrintMore
open Go.Proofs.Ytgojfecpknonlaa.Own Go.Proofs.Ytgojfecpknonlaa.PSt
set_option linter.unusedVariables false
set_option linter.unusedSimpArgs false

def on58 (d : S58) : S72 := ⟨d.f0, ⟨d.f1, d.f2, d.f3, d.f4⟩, ⟨d.f5, d.f6, d.f7⟩, d.f8, d.f9, d.f10⟩
abbrev ec58 (d : S58) : List Value := [.int .u8 d.f0, .int .u8 d.f1, .int .u8 d.f2, .int .u8 d.f3, .int .u8 d.f4, .int .i64 d.f5, .int .i64 d.f6, .int .u64 d.f7, .int .i64 d.f8, .int .i64 d.f9, .int .i64 d.f10]
theorem k58_flat {W : World} (W1 : World) (ok' : Nat → Prop) (base : Nat) (q : S58) (cs : List Value) (h : k58.K W q cs) : k58.M W1 base ok' q cs := by
  obtain rfl := k58_open h
  exact k58_mkM _ _ _ _
theorem info58e : (Try.prog.info? 58).map (fun i => (i.zero, i.size, i.bytes)) = some (some (.agg #[.int .u8 0, .int .u8 0, .int .u8 0, .int .u8 0, .int .u8 0, .int .i64 0, .int .i64 0, .int .u64 0, .int .i64 0, .int .i64 0, .int .i64 0]), k58.sz, 56) := by kernel_rfl
/-- An element's cells, in a later memory. -/
theorem el58 {w W : World} {A : Option Addr} {l : List S58} (h : Kd.C k58 w A l.length l) (hb : Below w.heap.size w W) (i : Nat) (hi : i < l.length) : ∃ ad, A = some ad ∧ ∃ d, l[i]? = some d ∧ W.cell? (ad.add (i * 11)) = some (.int .u8 d.f0) ∧ W.cell? ⟨(ad.add (i * 11)).block, (ad.add (i * 11)).off + 1, none⟩ = some (.int .u8 d.f1) ∧ W.cell? ⟨(ad.add (i * 11)).block, (ad.add (i * 11)).off + 2, none⟩ = some (.int .u8 d.f2) ∧ W.cell? ⟨(ad.add (i * 11)).block, (ad.add (i * 11)).off + 3, none⟩ = some (.int .u8 d.f3) ∧ W.cell? ⟨(ad.add (i * 11)).block, (ad.add (i * 11)).off + 4, none⟩ = some (.int .u8 d.f4) ∧ W.cell? ⟨(ad.add (i * 11)).block, (ad.add (i * 11)).off + 5, none⟩ = some (.int .i64 d.f5) ∧ W.cell? ⟨(ad.add (i * 11)).block, (ad.add (i * 11)).off + 6, none⟩ = some (.int .i64 d.f6) ∧ W.cell? ⟨(ad.add (i * 11)).block, (ad.add (i * 11)).off + 7, none⟩ = some (.int .u64 d.f7) ∧ W.cell? ⟨(ad.add (i * 11)).block, (ad.add (i * 11)).off + 8, none⟩ = some (.int .i64 d.f8) ∧ W.cell? ⟨(ad.add (i * 11)).block, (ad.add (i * 11)).off + 9, none⟩ = some (.int .i64 d.f9) ∧ W.cell? ⟨(ad.add (i * 11)).block, (ad.add (i * 11)).off + 10, none⟩ = some (.int .i64 d.f10) := by
  obtain ⟨ad, he, hx0, hx1, hx2, hx3, hx4, hx5, hx6, hx7, hx8, hx9, hx10⟩ := at_T58 (Kd.C_below h hb) i (by omega) (by omega)
  refine ⟨ad, he, l[i], List.getElem?_eq_getElem hi, ?_⟩
  have e : rd_T58 l i = l[i] := by
    unfold rd_T58
    rw [Int.toNat_natCast, List.getD_eq_getElem?_getD, List.getElem?_eq_getElem hi]
    rfl
  simp only [Int.toNat_natCast] at hx0 hx1 hx2 hx3 hx4 hx5 hx6 hx7 hx8 hx9 hx10
  rw [e] at hx0 hx1 hx2 hx3 hx4 hx5 hx6 hx7 hx8 hx9 hx10
  exact ⟨hx0, hx1, hx2, hx3, hx4, hx5, hx6, hx7, hx8, hx9, hx10⟩
theorem head41 (A : Option Addr) (c : Nat) (ys : List S58) (i : Nat) (hi : i ≤ ys.length) (hc : ys.length ≤ c) : ∀ W : World, (Instr.slice 41 (.slice A ys.length c) none (some (.int .i64 (i : Int))) none).run Try.prog W = .ok (.slice A i c) W := by
  obtain ⟨i0, hi0, hzz⟩ := Option.map_eq_some_iff.1 info58e
  have h := cut_to (P := Try.prog) 41 58 .i64 Try.underlying41 hi0 A ys.length c (i : Int) (by omega) (by omega) hc
  simpa using h
theorem tail41 (A : Option Addr) (c : Nat) (ys : List S58) (i : Nat) (hi : i ≤ ys.length) (hc : ys.length ≤ c) : ∃ A5, (∀ W : World, (Instr.slice 41 (.slice A ys.length c) (some (.int .i64 (i : Int))) none none).run Try.prog W = .ok (.slice A5 (ys.length - i) (c - i)) W) ∧ (∀ W, Kd.C k58 W A ys.length ys → Kd.C k58 W A5 (ys.length - i) (ys.drop i)) := by
  obtain ⟨i0, hi0, hzz⟩ := Option.map_eq_some_iff.1 info58e
  simp only [Prod.mk.injEq] at hzz
  have h := cut_from (P := Try.prog) 41 58 .i64 Try.underlying41 hi0 k58.sz hzz.2.1 A ys.length c (i : Int) (by omega) (by omega)
  refine ⟨if c = i then A else A.map (·.add (i * k58.sz)), fun W => ?_, fun W hW => ?_⟩
  · rw [h]; rfl
  · have h2 := Kd.C_drop (c := c) hW (m := i) hi hc
    rw [List.length_drop] at h2
    exact h2

/-- A reference's event goes to its place. -/
theorem stab_put {l : List S72} {o : List S58} {d : S58} {t : Nat} (h : Stab l (o.map on58)) (hl : t = 0 ∨ ∃ y, o[t - 1]? = some y ∧ y.f9 ≤ d.f9) (ht : t ≤ o.length) (hr : ∀ j y, t ≤ j → o[j]? = some y → d.f9 < y.f9) : Stab (l ++ [on58 d]) ((o.take t ++ d :: o.drop t).map on58) := by
  have e : (o.take t ++ d :: o.drop t).map on58 = (o.map on58).take t ++ on58 d :: (o.map on58).drop t := by
    rw [List.map_append, List.map_cons, List.map_take, List.map_drop]
  have hk : ∀ j, (hj : j < o.length) → ky (o.map on58) j = o[j].f9 := fun j hj => by
    rw [ky_of (d := on58 o[j]) (by rw [List.getElem?_map, List.getElem?_eq_getElem hj]; rfl)]
    rfl
  have h1 := right_one (d := on58 d) (U := o.map on58) (t := t) h.1 (fun j hj hjl => by
      rw [List.length_map] at hjl
      rcases hl with h0 | ⟨y, hy, hyd⟩
      · omega
      · have h2 := ky_le h.1 (i := j) (j := t - 1) (by omega) (by rw [List.length_map]; omega)
        rw [hk (t - 1) (by omega)] at h2
        rw [List.getElem?_eq_getElem (by omega)] at hy
        injection hy with hy
        rw [hy] at h2
        show ¬ d.f9 < _
        omega) (fun j hj hjl => by
      rw [List.length_map] at hjl
      rw [hk j hjl]
      exact hr j _ hj (List.getElem?_eq_getElem hjl))
  rw [e]
  refine ⟨h1.1, (h.2.1.append (Same.refl [on58 d])).trans h1.2, ?_⟩
  have hlen := h.2.2
  simp only [List.length_append, List.length_cons, List.length_take, List.length_drop, List.length_map, List.length_nil] at hlen ⊢
  omega
theorem pts_take {l : List S58} {i : Nat} {d : S58} (hd : l[i]? = some d) : ((l.take (i + 1)).map on58).filter isPt = ((l.take i).map on58).filter isPt ++ (if 0 < d.f9 then [on58 d] else []) := by
  obtain ⟨hi, rfl⟩ := List.getElem?_eq_some_iff.1 hd
  rw [List.take_succ_eq_append_getElem hi, List.map_append, List.filter_append]
  congr 1
  by_cases h : 0 < l[i].f9
  · rw [if_pos h, List.map_singleton, List.filter_cons_of_pos (p := isPt) (by unfold isPt; exact decide_eq_true h)]
    rfl
  · rw [if_neg h, List.map_singleton, List.filter_cons_of_neg (p := isPt) (by unfold isPt; rw [decide_eq_true_eq]; exact h)]
    rfl
section
variable {o : Oper} {a : Act}
theorem idx58_exec {W : World} {x y : Operand} {ad : Addr} {n c k : Nat} (ho : o.op = .indexAddr 41 x y) (hx : a.eval x = .slice (some ad) n c) (hy : a.eval y = .int .i64 (k : Int)) (hk : k < n) : (execOp a.eval o).run Try.prog W = .ok (.value (.pointer (some (ad.add (k * 11))))) W := by
  unfold execOp
  have h1 : (0 : Int) ≤ (k : Int) := by omega
  have h2 : (k : Int) < (n : Int) := by omega
  simp only [ho, hx, hy]
  go_simp
end
theorem below_none {W W1 : World} (h : W.grownBy W1 none) : Below W.heap.size W W1 := ⟨h.os, h.tape, h.output, h.size, fun k hk => h.block k hk (by simp)⟩
theorem own_ge {v : Value} {B S : Nat} (h : v.ownBlock = (Value.slice none 0 0).ownBlock ∨ ∃ b, v.ownBlock = some b ∧ S ≤ b) (hs : B ≤ S) : ∀ k, v.ownBlock = some k → B ≤ k := fun k hk => by
  rcases h with h | ⟨b, h, hb⟩
  · rw [h] at hk
    cases hk
  · rw [h] at hk
    injection hk with hk
    omega
theorem c58_take {W : World} {A : Option Addr} {o : List S58} {t : Nat} (h : Kd.C k58 W A o.length o) (ht : t ≤ o.length) : Kd.C k58 W A t (o.take t) := by
  have h1 := Kd.C_take h ht
  rw [List.length_take, Nat.min_eq_left ht] at h1
  exact h1

set_option maxHeartbeats 1500000 in
set_option maxRecDepth 100000 in
theorem points36_calls (l : List S58) (A : Option Addr) (c : Nat) (w : World) (hr : Kd.C k58 w A l.length l) (hc : l.length ≤ c) (hl : l.length ≤ 100000) :
    Calls Try.prog 52 #[.slice A l.length c] w (fun e w' => ∃ v o, e = .returned v ∧ Kd.R k58 58 w' w.heap.size (fun _ => True) v o ∧ Below w.heap.size w w' ∧ Stab ((l.map on58).filter isPt) (o.map on58)) := by
  have HC := Aside0.mk hr
  have HCC := Aside0.mk hc
  have HL := Aside0.mk hl
  obtain ⟨n, hn⟩ : ∃ n, n = l.length := ⟨_, rfl⟩
  have HN := Aside0.mk hn
  rw [← hn]
  have hnl : n < 1000000000 := by omega
  clear hr hc hl hn
  go_enter Try.func52, Try.ntmps52
  go_wp2_with fail
  go_loopg [3, 4] n (fun kq v3 v4 w' => ∃ (i : Nat) (o : List S58), v4 = .int .i64 (i : Int) ∧ i + kq = n ∧ Aside0 (o.length ≤ i) ∧ Aside0 (Kd.R k58 58 w' w.heap.size (fun _ => True) v3 o) ∧ Aside0 (Below w.heap.size w w') ∧ Aside0 (Stab (((l.take i).map on58).filter isPt) (o.map on58)))
  case atStart => exact ⟨0, [], rfl, by omega, ⟨Nat.le_refl _⟩, ⟨Kd.R_nil _ _ _ _ _⟩, ⟨Below.refl _ _⟩, ⟨⟨List.Pairwise.nil, Same.refl _, rfl⟩⟩⟩
  case round =>
    obtain ⟨i, o, rfl, hi, HO, HR, HB, HST⟩ := hrel
    cases gk with
    | zero =>
      have c1 : decide ((i : Int) < (n : Int)) = false := decide_eq_false (by omega)
      have c2 : decide (i < n) = false := decide_eq_false (by omega)
      have HI := Aside0.mk (show i = l.length by have := HN.out; omega)
      clear hi
      go_wp2_with fail
      go_ret
      have h := HST.out
      rw [HI.out, List.take_length] at h
      exact ⟨_, o, rfl, HR.out, HB.out, h⟩
    | succ k1 =>
      have hil : i < l.length := by have := HN.out; omega
      have c1 : decide ((i : Int) < (n : Int)) = true := decide_eq_true (by omega)
      have c2 : decide (i < n) = true := decide_eq_true (by omega)
      obtain ⟨ad, rfl, d, hd, hx0, hx1, hx2, hx3, hx4, hx5, hx6, hx7, hx8, hx9, hx10⟩ := el58 HC.out HB.out i hil
      have HD := Aside0.mk hd
      have HI := Aside0.mk hi
      have hin : i < 1000000000 := by omega
      have HIN := Aside0.mk (show i < n by omega)
      have q1 : (0 : Int) ≤ (i : Int) := by omega
      have q2 : (i : Int) < (n : Int) := by omega
      have hpt := pts_take hd
      clear hi hd
      by_cases hp : d.f9 ≤ 0
      · have d1 : decide (d.f9 ≤ 0) = true := decide_eq_true hp
        rw [if_neg (by omega), List.append_nil] at hpt
        have HST1 : Aside0 (Stab (((l.take (i + 1)).map on58).filter isPt) (o.map on58)) := ⟨by rw [hpt]; exact HST.out⟩
        clear hpt hp
        go_wp2_with fail
        go_roundg k1
        case measure => have := HI.out; omega
        case rel => exact ⟨i + 1, o, rfl, by have := HI.out; omega, ⟨by have := HO.out; omega⟩, HR, HB, HST1⟩
      · have d1 : decide (d.f9 ≤ 0) = false := decide_eq_false hp
        rw [if_pos (by omega)] at hpt
        have HPT := Aside0.mk hpt
        clear hpt hp
        obtain ⟨A3, c3, hv3, hc3, hC3⟩ := Kd.R_reads HR.out
        subst hv3
        have HC3 := Aside0.mk hC3
        have HCC3 := Aside0.mk hc3
        have hon : o.length < 1000000000 := by have := HO.out; omega
        clear hc3 hC3
        obtain ⟨W0, rfl⟩ : ∃ W0, W0 = wr := ⟨wr, rfl⟩
        have hx9' := Aside0.mk hx9
        clear hx0 hx1 hx2 hx3 hx4 hx5 hx6 hx7 hx8 hx10
        go_upto_block 2 with fail
        clear hx9
        go_wp2_with fail
        go_loopg [5] o.length (fun kq v5 w' => ∃ t : Nat, v5 = .int .i64 (t : Int) ∧ t ≤ kq ∧ t ≤ o.length ∧ Aside0 (∀ j y, t ≤ j → o[j]? = some y → d.f9 < y.f9) ∧ Aside0 (Below W0.heap.size W0 w'))
        case atStart => exact ⟨o.length, rfl, Nat.le_refl _, Nat.le_refl _, ⟨fun j y hj hy => by rw [List.getElem?_eq_none hj] at hy; cases hy⟩, ⟨Below.refl _ _⟩⟩
        case round =>
          obtain ⟨t, rfl, htk, hto, HGT, HBI⟩ := hrel
          have HTO := Aside0.mk hto
          have htl : t < 1000000000 := by omega
          by_cases h0 : t = 0
          · have e1 : decide ((0 : Int) < (t : Int)) = false := decide_eq_false (by omega)
            have e2 : decide (0 < t) = false := decide_eq_false (by omega)
            have HLE : Aside0 (t = 0 ∨ ∃ y, o[t - 1]? = some y ∧ y.f9 ≤ d.f9) := ⟨.inl h0⟩
            clear htk hto h0
            go_upto_region 7 with (fail)
            refine start_ (n := 16) (S := fun w' => True) (ds := []) #[false, false, false, false, false, false, false, false, false, false, false, false, false, false, false, false] (by kernel_rfl) rfl rfl trivial (fun hHeld => ?_)
            refine pure_ (i := 0) (N := some 21) (v := ?_) (a' := ?_) #[true, false, false, false, false, false, false, false, false, false, false, false, false, false, false, false] rfl rfl (by kernel_rfl) (fun _ _ _ h => h) (Or.inl ⟨by rfl, ?_⟩) ?_ ?_
            rotate_left
            · intro w'
              go_simp
              with_reducible rfl
            rotate_left
            · simp only [Act.put, List.setIfInBounds_toArray, List.set_cons_zero, List.set_cons_succ, i64_w, i32_w]
              rfl
            refine pure_ (i := 1) (N := some 22) (v := ?_) (a' := ?_) #[true, true, false, false, false, false, false, false, false, false, false, false, false, false, false, false] rfl rfl (by kernel_rfl) (fun _ _ _ h => h) (Or.inl ⟨by rfl, ?_⟩) ?_ ?_
            rotate_left
            · intro w'
              go_simp
              with_reducible rfl
            rotate_left
            · simp only [Act.put, List.setIfInBounds_toArray, List.set_cons_zero, List.set_cons_succ, i64_w, i32_w]
              rfl
            refine pure_ (i := 2) (N := some 23) (v := ?_) (a' := ?_) #[true, true, true, false, false, false, false, false, false, false, false, false, false, false, false, false] rfl rfl (by kernel_rfl) (fun _ _ _ h => h) (Or.inl ⟨by rfl, ?_⟩) ?_ ?_
            rotate_left
            · intro w'
              go_simp
              with_reducible rfl
            rotate_left
            · simp only [Act.put, List.setIfInBounds_toArray, List.set_cons_zero, List.set_cons_succ, i64_w, i32_w]
              rfl
            refine pure_ (i := 3) (N := some 24) (v := undef) (a' := ?_) #[true, true, true, true, false, false, false, false, false, false, false, false, false, false, false, false] rfl rfl (by kernel_rfl) (fun _ _ _ h => h) (Or.inr ⟨by rfl, rfl⟩) ?_ ?_
            rotate_left
            · simp only [Act.put, List.setIfInBounds_toArray, List.set_cons_zero, List.set_cons_succ, i64_w, i32_w]
              rfl
            refine pure_ (i := 4) (N := some 25) (v := undef) (a' := ?_) #[true, true, true, true, true, false, false, false, false, false, false, false, false, false, false, false] rfl rfl (by kernel_rfl) (fun _ _ _ h => h) (Or.inr ⟨by rfl, rfl⟩) ?_ ?_
            rotate_left
            · simp only [Act.put, List.setIfInBounds_toArray, List.set_cons_zero, List.set_cons_succ, i64_w, i32_w]
              rfl
            refine pure_ (i := 5) (N := some 26) (v := undef) (a' := ?_) #[true, true, true, true, true, true, false, false, false, false, false, false, false, false, false, false] rfl rfl (by kernel_rfl) (fun _ _ _ h => h) (Or.inr ⟨by rfl, rfl⟩) ?_ ?_
            rotate_left
            · simp only [Act.put, List.setIfInBounds_toArray, List.set_cons_zero, List.set_cons_succ, i64_w, i32_w]
              rfl
            refine pure_ (i := 6) (N := some 27) (v := undef) (a' := ?_) #[true, true, true, true, true, true, true, false, false, false, false, false, false, false, false, false] rfl rfl (by kernel_rfl) (fun _ _ _ h => h) (Or.inr ⟨by rfl, rfl⟩) ?_ ?_
            rotate_left
            · simp only [Act.put, List.setIfInBounds_toArray, List.set_cons_zero, List.set_cons_succ, i64_w, i32_w]
              rfl
            refine pure_ (i := 7) (N := some 28) (v := undef) (a' := ?_) #[true, true, true, true, true, true, true, true, false, false, false, false, false, false, false, false] rfl rfl (by kernel_rfl) (fun _ _ _ h => h) (Or.inr ⟨by rfl, rfl⟩) ?_ ?_
            rotate_left
            · simp only [Act.put, List.setIfInBounds_toArray, List.set_cons_zero, List.set_cons_succ, i64_w, i32_w]
              rfl
            refine pure_ (i := 8) (N := some 29) (v := undef) (a' := ?_) #[true, true, true, true, true, true, true, true, true, false, false, false, false, false, false, false] rfl rfl (by kernel_rfl) (fun _ _ _ h => h) (Or.inr ⟨by rfl, rfl⟩) ?_ ?_
            rotate_left
            · simp only [Act.put, List.setIfInBounds_toArray, List.set_cons_zero, List.set_cons_succ, i64_w, i32_w]
              rfl
            refine pure_ (i := 9) (N := some 30) (v := undef) (a' := ?_) #[true, true, true, true, true, true, true, true, true, true, false, false, false, false, false, false] rfl rfl (by kernel_rfl) (fun _ _ _ h => h) (Or.inr ⟨by rfl, rfl⟩) ?_ ?_
            rotate_left
            · simp only [Act.put, List.setIfInBounds_toArray, List.set_cons_zero, List.set_cons_succ, i64_w, i32_w]
              rfl
            refine pure_ (i := 10) (N := some 31) (v := undef) (a' := ?_) #[true, true, true, true, true, true, true, true, true, true, true, false, false, false, false, false] rfl rfl (by kernel_rfl) (fun _ _ _ h => h) (Or.inr ⟨by rfl, rfl⟩) ?_ ?_
            rotate_left
            · simp only [Act.put, List.setIfInBounds_toArray, List.set_cons_zero, List.set_cons_succ, i64_w, i32_w]
              rfl
            refine pure_ (i := 11) (N := some 32) (v := undef) (a' := ?_) #[true, true, true, true, true, true, true, true, true, true, true, true, false, false, false, false] rfl rfl (by kernel_rfl) (fun _ _ _ h => h) (Or.inr ⟨by rfl, rfl⟩) ?_ ?_
            rotate_left
            · simp only [Act.put, List.setIfInBounds_toArray, List.set_cons_zero, List.set_cons_succ, i64_w, i32_w]
              rfl
            refine pure_ (i := 12) (N := some 33) (v := undef) (a' := ?_) #[true, true, true, true, true, true, true, true, true, true, true, true, true, false, false, false] rfl rfl (by kernel_rfl) (fun _ _ _ h => h) (Or.inr ⟨by rfl, rfl⟩) ?_ ?_
            rotate_left
            · simp only [Act.put, List.setIfInBounds_toArray, List.set_cons_zero, List.set_cons_succ, i64_w, i32_w]
              rfl
            refine pure_ (i := 13) (N := some 34) (v := undef) (a' := ?_) #[true, true, true, true, true, true, true, true, true, true, true, true, true, true, false, false] rfl rfl (by kernel_rfl) (fun _ _ _ h => h) (Or.inr ⟨by rfl, rfl⟩) ?_ ?_
            rotate_left
            · simp only [Act.put, List.setIfInBounds_toArray, List.set_cons_zero, List.set_cons_succ, i64_w, i32_w]
              rfl
            refine pure_ (i := 14) (N := some 35) (v := undef) (a' := ?_) #[true, true, true, true, true, true, true, true, true, true, true, true, true, true, true, false] rfl rfl (by kernel_rfl) (fun _ _ _ h => h) (Or.inr ⟨by rfl, rfl⟩) ?_ ?_
            rotate_left
            · simp only [Act.put, List.setIfInBounds_toArray, List.set_cons_zero, List.set_cons_succ, i64_w, i32_w]
              rfl
            refine pure_ (i := 15) (N := some 36) (v := ?_) (a' := ?_) #[true, true, true, true, true, true, true, true, true, true, true, true, true, true, true, true] rfl rfl (by kernel_rfl) (fun _ _ _ h => h) (Or.inl ⟨by rfl, ?_⟩) ?_ ?_
            rotate_left
            · intro w'
              go_simp
              with_reducible rfl
            rotate_left
            · simp only [Act.put, List.setIfInBounds_toArray, List.set_cons_zero, List.set_cons_succ, i64_w, i32_w]
              rfl
            refine done_ (by kernel_rfl) ?_
            have HBW := Aside0.mk (show Below w.heap.size w wr.drew from below_drew (below_then HB.out HB.out.size HBI.out))
            have HBI1 := Aside0.mk (show Below W0.heap.size W0 wr.drew from below_drew HBI.out)
            have HT3 := Aside0.mk (Kd.C_below (c58_take HC3.out HTO.out) HBI1.out)
            have HLN := Aside0.mk (show (o.length + 1) * 56 ≤ 140737488355328 by omega)
            have hcut1 := head41 A3 c3 o t HTO.out HCC3.out
            obtain ⟨A5, hcut2, hC5⟩ := tail41 A3 c3 o t HTO.out HCC3.out
            have HC5 := Aside0.mk hC5
            clear hC5
            go_upto_region 10 with (at_builtin; refine R_append_row k58 (w0 := w) w.heap.size rfl (.const (.slice none 0 0)) (.tmp 41) 41 58 (.agg #[.int .u8 0, .int .u8 0, .int .u8 0, .int .u8 0, .int .u8 0, .int .i64 0, .int .i64 0, .int .u64 0, .int .i64 0, .int .i64 0, .int .i64 0]) 56 rfl Try.underlying41 info58e rfl (by decide) (by omega) (.slice none 0 0) [] (o.take t) A3 t c3 (fun _ => True) rfl rfl (fun W1 ok' q cs h => k58_flat W1 ok' _ q cs h) (fun _ _ => trivial) (Kd.R_nil _ _ _ _ _) HT3.out HBW.out HBW.out.size (by have := HLN.out; have := HTO.out; simp only [List.length_nil]; omega) ?_; intro v1 w1 ho1 hb1 hg1 hat1; rw [List.nil_append] at ho1; have HO1 := Aside0.mk ho1; have HB1 := Aside0.mk hb1; have HBn := Aside0.mk (below_none hg1); have HAT := Aside0.mk hat1; clear ho1 hb1 hg1 hat1)
            have HB2 := Aside0.mk (below_then HBI1.out HBI1.out.size HBn.out)
            obtain ⟨ad', he', d', hd', hy0, hy1, hy2, hy3, hy4, hy5, hy6, hy7, hy8, hy9, hy10⟩ := el58 HC.out HB1.out i hil
            cases he'
            obtain rfl : d = d' := Option.some.inj (HD.out.symm.trans hd')
            clear hd'
            go_upto_region 11 with (at_builtin; refine Kd.R_append k58 (w0 := w) w.heap.size rfl (.tmp 43) (.tmp 48) 41 58 (.agg #[.int .u8 0, .int .u8 0, .int .u8 0, .int .u8 0, .int .u8 0, .int .i64 0, .int .i64 0, .int .u64 0, .int .i64 0, .int .i64 0, .int .i64 0]) 56 rfl Try.underlying41 info58e rfl (by decide) (by omega) v1 (o.take t) d (ec58 d) (fun _ => True) (fun _ => False) rfl rfl (k58_mkM _ _ _ _) (fun _ hk => hk.elim) (fun _ _ => trivial) HO1.out HB1.out HB1.out.size (by have := HLN.out; have := HTO.out; rw [List.length_take]; omega) ?_; intro v2 w2 ho2 hb2 hg2 hat2; have HO2 := Aside0.mk ho2; have HB3 := Aside0.mk hb2; have HB4 := Aside0.mk (HB2.out.grown hg2 HB2.out.size (own_ge HAT.out HBI1.out.size)); clear ho2 hb2 hg2 hat2)
            clear hy0 hy1 hy2 hy3 hy4 hy5 hy6 hy7 hy8 hy9 hy10
            have HC6 := Aside0.mk (HC5.out w2 (Kd.C_below HC3.out HB4.out))
            clear hcut1 HC5
            go_wp2_with (at_builtin; refine R_append_row k58 (w0 := w) w.heap.size rfl (.tmp 50) (.tmp 53) 41 58 (.agg #[.int .u8 0, .int .u8 0, .int .u8 0, .int .u8 0, .int .u8 0, .int .i64 0, .int .i64 0, .int .u64 0, .int .i64 0, .int .i64 0, .int .i64 0]) 56 rfl Try.underlying41 info58e rfl (by decide) (by omega) v2 (o.take t ++ [d]) (o.drop t) A5 (o.length - t) (c3 - t) (fun _ => True) rfl rfl (fun W1 ok' q cs h => k58_flat W1 ok' _ q cs h) (fun _ _ => trivial) HO2.out HC6.out HB3.out HB3.out.size (by have := HLN.out; have := HTO.out; rw [List.length_append, List.length_take, List.length_singleton]; omega) ?_; intro v3 w3 ho3 hb3 hg3 hat3; have HO3 := Aside0.mk ho3; have HB5 := Aside0.mk hb3; clear ho3 hb3 hg3 hat3)
            go_roundg k1
            case measure => have := HI.out; omega
            case rel =>
              refine ⟨i + 1, o.take t ++ d :: o.drop t, rfl, by have := HI.out; omega, ⟨by simp only [List.length_append, List.length_cons, List.length_take, List.length_drop]; have := HO.out; have := HTO.out; omega⟩, ⟨by have h := HO3.out; rw [List.append_assoc] at h; exact h⟩, HB5, ⟨?_⟩⟩
              rw [HPT.out]
              exact stab_put HST.out HLE.out HTO.out HGT.out
          · cases gk with
            | zero => omega
            | succ kk =>
              have e1 : decide ((0 : Int) < (t : Int)) = true := decide_eq_true (by omega)
              have e2 : decide (0 < t) = true := decide_eq_true (by omega)
              obtain ⟨m, hm⟩ : ∃ m, m = t - 1 := ⟨_, rfl⟩
              have HM := Aside0.mk hm
              have HMO := Aside0.mk (show m < o.length by omega)
              have HS := Aside0.mk (show wrap64 ((t : Int) - 1) = (m : Int) by rw [wrap_ok (by omega) (by omega)]; omega)
              have HTK := Aside0.mk htk
              have HT0 := Aside0.mk h0
              obtain ⟨ad3, hA3, y, hy, _, _, _, _, _, _, _, _, _, hz9, _⟩ := el58 HC3.out HBI.out m HMO.out
              subst hA3
              have HY := Aside0.mk hy
              have HX9 := Aside0.mk (pw_cell_below HBI.out hx9'.out)
              have HZ9 := Aside0.mk hz9
              clear hm htk hto h0 hy hz9
              by_cases hlt : d.f9 < y.f9
              · have e3 : decide (d.f9 < y.f9) = true := decide_eq_true hlt
                have HGT1 : Aside0 (∀ j z, m ≤ j → o[j]? = some z → d.f9 < z.f9) := ⟨fun j z hj hz => by
                  rcases Nat.lt_or_ge m j with h | h
                  · exact HGT.out j z (by have := HM.out; omega) hz
                  · obtain rfl : j = m := by omega
                    rw [HY.out] at hz
                    injection hz with hz
                    rw [← hz]
                    exact hlt⟩
                clear hlt
                go_upto_region 7 with (fail)
                refine start_ (n := 16) (S := fun w' => w'.cell? ⟨(ad3.add (m * 11)).block, (ad3.add (m * 11)).off + 9, none⟩ = some (.int .i64 y.f9) ∧ w'.cell? ⟨(ad.add (i * 11)).block, (ad.add (i * 11)).off + 9, none⟩ = some (.int .i64 d.f9)) (ds := []) #[false, false, false, false, false, false, false, false, false, false, false, false, false, false, false, false] (by kernel_rfl) rfl rfl ⟨HZ9.out, HX9.out⟩ (fun hHeld => ?_)
                refine pure_ (i := 0) (N := some 21) (v := ?_) (a' := ?_) #[true, false, false, false, false, false, false, false, false, false, false, false, false, false, false, false] rfl rfl (by kernel_rfl) (fun _ _ _ h => h) (Or.inl ⟨by rfl, ?_⟩) ?_ ?_
                rotate_left
                · intro w'
                  go_simp
                  with_reducible rfl
                rotate_left
                · simp only [Act.put, List.setIfInBounds_toArray, List.set_cons_zero, List.set_cons_succ, i64_w, i32_w]
                  rfl
                refine pure_ (i := 1) (N := some 22) (v := ?_) (a' := ?_) #[true, true, false, false, false, false, false, false, false, false, false, false, false, false, false, false] rfl rfl (by kernel_rfl) (fun _ _ _ h => h) (Or.inl ⟨by rfl, ?_⟩) ?_ ?_
                rotate_left
                · intro w'
                  go_simp
                  with_reducible rfl
                rotate_left
                · simp only [Act.put, List.setIfInBounds_toArray, List.set_cons_zero, List.set_cons_succ, i64_w, i32_w]
                  rfl
                refine pure_ (i := 2) (N := some 23) (v := ?_) (a' := ?_) #[true, true, true, false, false, false, false, false, false, false, false, false, false, false, false, false] rfl rfl (by kernel_rfl) (fun _ _ _ h => h) (Or.inl ⟨by rfl, ?_⟩) ?_ ?_
                rotate_left
                · intro w'
                  go_simp
                  with_reducible rfl
                rotate_left
                · simp only [Act.put, List.setIfInBounds_toArray, List.set_cons_zero, List.set_cons_succ, i64_w, i32_w]
                  rfl
                refine pure_ (i := 3) (N := some 24) (v := ?_) (a' := ?_) #[true, true, true, true, false, false, false, false, false, false, false, false, false, false, false, false] rfl rfl (by kernel_rfl) (fun _ _ _ h => h) (Or.inl ⟨by rfl, ?_⟩) ?_ ?_
                rotate_left
                · intro w'
                  go_simp
                  with_reducible rfl
                rotate_left
                · simp only [Act.put, List.setIfInBounds_toArray, List.set_cons_zero, List.set_cons_succ, i64_w, i32_w]
                  rfl
                refine pure_ (i := 4) (N := some 25) (v := ?_) (a' := ?_) #[true, true, true, true, true, false, false, false, false, false, false, false, false, false, false, false] rfl rfl (by kernel_rfl) (fun _ _ _ h => h) (Or.inl ⟨by rfl, ?_⟩) ?_ ?_
                rotate_left
                · intro w'
                  go_simp
                  with_reducible rfl
                rotate_left
                · simp only [Act.put, List.setIfInBounds_toArray, List.set_cons_zero, List.set_cons_succ, i64_w, i32_w]
                  rfl
                refine pure_ (i := 5) (N := some 26) (v := .int .i64 (m : Int)) (a' := ?_) #[true, true, true, true, true, true, false, false, false, false, false, false, false, false, false, false] rfl rfl (by kernel_rfl) (fun _ _ _ h => h) (Or.inl ⟨by rfl, ?_⟩) ?_ ?_
                · intro w'
                  exact sub_exec (by rfl) (by rfl) (by rfl) HS.out
                rotate_left
                · simp only [Act.put, List.setIfInBounds_toArray, List.set_cons_zero, List.set_cons_succ, i64_w, i32_w]
                  rfl
                refine pure_ (i := 6) (N := some 27) (v := .pointer (some (ad3.add (m * 11)))) (a' := ?_) #[true, true, true, true, true, true, true, false, false, false, false, false, false, false, false, false] rfl rfl (by kernel_rfl) (fun _ _ _ h => h) (Or.inl ⟨by rfl, ?_⟩) ?_ ?_
                · intro w'
                  exact idx58_exec (by rfl) (by rfl) (by rfl) HMO.out
                rotate_left
                · simp only [Act.put, List.setIfInBounds_toArray, List.set_cons_zero, List.set_cons_succ, i64_w, i32_w]
                  rfl
                refine pure_ (i := 7) (N := some 28) (v := ?_) (a' := ?_) #[true, true, true, true, true, true, true, true, false, false, false, false, false, false, false, false] rfl rfl (by kernel_rfl) (fun _ _ _ h => h) (Or.inl ⟨by rfl, ?_⟩) ?_ ?_
                rotate_left
                · intro w'
                  go_simp
                  with_reducible rfl
                rotate_left
                · simp only [Act.put, List.setIfInBounds_toArray, List.set_cons_zero, List.set_cons_succ, i64_w, i32_w]
                  rfl
                refine pure_ (i := 9) (N := some 30) (v := ?_) (a' := ?_) #[true, true, true, true, true, true, true, true, false, true, false, false, false, false, false, false] rfl rfl (by kernel_rfl) (fun _ _ _ h => h) (Or.inl ⟨by rfl, ?_⟩) ?_ ?_
                rotate_left
                · intro w'
                  go_simp
                  with_reducible rfl
                rotate_left
                · simp only [Act.put, List.setIfInBounds_toArray, List.set_cons_zero, List.set_cons_succ, i64_w, i32_w]
                  rfl
                refine pure_ (i := 10) (N := some 31) (v := ?_) (a' := ?_) #[true, true, true, true, true, true, true, true, false, true, true, false, false, false, false, false] rfl rfl (by kernel_rfl) (fun _ _ _ h => h) (Or.inl ⟨by rfl, ?_⟩) ?_ ?_
                rotate_left
                · intro w'
                  go_simp
                  with_reducible rfl
                rotate_left
                · simp only [Act.put, List.setIfInBounds_toArray, List.set_cons_zero, List.set_cons_succ, i64_w, i32_w]
                  rfl
                refine pure_ (i := 11) (N := some 32) (v := .pointer (some (ad.add (i * 11)))) (a' := ?_) #[true, true, true, true, true, true, true, true, false, true, true, true, false, false, false, false] rfl rfl (by kernel_rfl) (fun _ _ _ h => h) (Or.inl ⟨by rfl, ?_⟩) ?_ ?_
                · intro w'
                  exact idx58_exec (by rfl) (by rfl) (by rfl) HIN.out
                rotate_left
                · simp only [Act.put, List.setIfInBounds_toArray, List.set_cons_zero, List.set_cons_succ, i64_w, i32_w]
                  rfl
                refine pure_ (i := 12) (N := some 33) (v := ?_) (a' := ?_) #[true, true, true, true, true, true, true, true, false, true, true, true, true, false, false, false] rfl rfl (by kernel_rfl) (fun _ _ _ h => h) (Or.inl ⟨by rfl, ?_⟩) ?_ ?_
                rotate_left
                · intro w'
                  go_simp
                  with_reducible rfl
                rotate_left
                · simp only [Act.put, List.setIfInBounds_toArray, List.set_cons_zero, List.set_cons_succ, i64_w, i32_w]
                  rfl
                refine take_ (i := 8) (N := some 29) (v := ?_) (a' := ?_) #[true, true, true, true, true, true, true, true, true, true, true, true, true, false, false, false] rfl rfl (by kernel_rfl) (fun _ _ _ h => h) (Or.inl ⟨by rfl, ?_⟩) hHeld ?_ ?_
                rotate_left
                · rintro w' ⟨s0, s1⟩
                  go_simp
                  with_reducible rfl
                rotate_left
                · simp only [Act.put, List.setIfInBounds_toArray, List.set_cons_zero, List.set_cons_succ, i64_w, i32_w]
                  rfl
                refine take_ (i := 13) (N := some 34) (v := ?_) (a' := ?_) #[true, true, true, true, true, true, true, true, true, true, true, true, true, true, false, false] rfl rfl (by kernel_rfl) (fun _ _ _ h => h) (Or.inl ⟨by rfl, ?_⟩) hHeld ?_ ?_
                rotate_left
                · rintro w' ⟨s0, s1⟩
                  go_simp
                  with_reducible rfl
                rotate_left
                · simp only [Act.put, List.setIfInBounds_toArray, List.set_cons_zero, List.set_cons_succ, i64_w, i32_w]
                  rfl
                refine pure_ (i := 14) (N := some 35) (v := ?_) (a' := ?_) #[true, true, true, true, true, true, true, true, true, true, true, true, true, true, true, false] rfl rfl (by kernel_rfl) (fun _ _ _ h => h) (Or.inl ⟨by rfl, ?_⟩) ?_ ?_
                rotate_left
                · intro w'
                  go_simp
                  with_reducible rfl
                rotate_left
                · simp only [Act.put, List.setIfInBounds_toArray, List.set_cons_zero, List.set_cons_succ, i64_w, i32_w]
                  rfl
                refine pure_ (i := 15) (N := some 36) (v := ?_) (a' := ?_) #[true, true, true, true, true, true, true, true, true, true, true, true, true, true, true, true] rfl rfl (by kernel_rfl) (fun _ _ _ h => h) (Or.inl ⟨by rfl, ?_⟩) ?_ ?_
                rotate_left
                · intro w'
                  go_simp
                  with_reducible rfl
                rotate_left
                · simp only [Act.put, List.setIfInBounds_toArray, List.set_cons_zero, List.set_cons_succ, i64_w, i32_w]
                  rfl
                refine done_ (by kernel_rfl) ?_
                go_wp2_with fail
                go_roundg kk
                case measure => have := HTK.out; have := HT0.out; omega
                case rel => exact ⟨m, by have := HM.out; have := HT0.out; rw [show (m : Int) = (t : Int) - 1 by omega], by have := HM.out; have := HTK.out; omega, by have := HMO.out; omega, HGT1, ⟨below_then HBI.out HBI.out.size (below_drew (Below.refl _ _))⟩⟩
              · have e3 : decide (d.f9 < y.f9) = false := decide_eq_false hlt
                have HLE : Aside0 (t = 0 ∨ ∃ y, o[t - 1]? = some y ∧ y.f9 ≤ d.f9) := ⟨.inr ⟨y, by rw [← HM.out]; exact HY.out, by omega⟩⟩
                clear hlt
                go_upto_region 7 with (fail)
                refine start_ (n := 16) (S := fun w' => w'.cell? ⟨(ad3.add (m * 11)).block, (ad3.add (m * 11)).off + 9, none⟩ = some (.int .i64 y.f9) ∧ w'.cell? ⟨(ad.add (i * 11)).block, (ad.add (i * 11)).off + 9, none⟩ = some (.int .i64 d.f9)) (ds := []) #[false, false, false, false, false, false, false, false, false, false, false, false, false, false, false, false] (by kernel_rfl) rfl rfl ⟨HZ9.out, HX9.out⟩ (fun hHeld => ?_)
                refine pure_ (i := 0) (N := some 21) (v := ?_) (a' := ?_) #[true, false, false, false, false, false, false, false, false, false, false, false, false, false, false, false] rfl rfl (by kernel_rfl) (fun _ _ _ h => h) (Or.inl ⟨by rfl, ?_⟩) ?_ ?_
                rotate_left
                · intro w'
                  go_simp
                  with_reducible rfl
                rotate_left
                · simp only [Act.put, List.setIfInBounds_toArray, List.set_cons_zero, List.set_cons_succ, i64_w, i32_w]
                  rfl
                refine pure_ (i := 1) (N := some 22) (v := ?_) (a' := ?_) #[true, true, false, false, false, false, false, false, false, false, false, false, false, false, false, false] rfl rfl (by kernel_rfl) (fun _ _ _ h => h) (Or.inl ⟨by rfl, ?_⟩) ?_ ?_
                rotate_left
                · intro w'
                  go_simp
                  with_reducible rfl
                rotate_left
                · simp only [Act.put, List.setIfInBounds_toArray, List.set_cons_zero, List.set_cons_succ, i64_w, i32_w]
                  rfl
                refine pure_ (i := 2) (N := some 23) (v := ?_) (a' := ?_) #[true, true, true, false, false, false, false, false, false, false, false, false, false, false, false, false] rfl rfl (by kernel_rfl) (fun _ _ _ h => h) (Or.inl ⟨by rfl, ?_⟩) ?_ ?_
                rotate_left
                · intro w'
                  go_simp
                  with_reducible rfl
                rotate_left
                · simp only [Act.put, List.setIfInBounds_toArray, List.set_cons_zero, List.set_cons_succ, i64_w, i32_w]
                  rfl
                refine pure_ (i := 3) (N := some 24) (v := ?_) (a' := ?_) #[true, true, true, true, false, false, false, false, false, false, false, false, false, false, false, false] rfl rfl (by kernel_rfl) (fun _ _ _ h => h) (Or.inl ⟨by rfl, ?_⟩) ?_ ?_
                rotate_left
                · intro w'
                  go_simp
                  with_reducible rfl
                rotate_left
                · simp only [Act.put, List.setIfInBounds_toArray, List.set_cons_zero, List.set_cons_succ, i64_w, i32_w]
                  rfl
                refine pure_ (i := 4) (N := some 25) (v := ?_) (a' := ?_) #[true, true, true, true, true, false, false, false, false, false, false, false, false, false, false, false] rfl rfl (by kernel_rfl) (fun _ _ _ h => h) (Or.inl ⟨by rfl, ?_⟩) ?_ ?_
                rotate_left
                · intro w'
                  go_simp
                  with_reducible rfl
                rotate_left
                · simp only [Act.put, List.setIfInBounds_toArray, List.set_cons_zero, List.set_cons_succ, i64_w, i32_w]
                  rfl
                refine pure_ (i := 5) (N := some 26) (v := .int .i64 (m : Int)) (a' := ?_) #[true, true, true, true, true, true, false, false, false, false, false, false, false, false, false, false] rfl rfl (by kernel_rfl) (fun _ _ _ h => h) (Or.inl ⟨by rfl, ?_⟩) ?_ ?_
                · intro w'
                  exact sub_exec (by rfl) (by rfl) (by rfl) HS.out
                rotate_left
                · simp only [Act.put, List.setIfInBounds_toArray, List.set_cons_zero, List.set_cons_succ, i64_w, i32_w]
                  rfl
                refine pure_ (i := 6) (N := some 27) (v := .pointer (some (ad3.add (m * 11)))) (a' := ?_) #[true, true, true, true, true, true, true, false, false, false, false, false, false, false, false, false] rfl rfl (by kernel_rfl) (fun _ _ _ h => h) (Or.inl ⟨by rfl, ?_⟩) ?_ ?_
                · intro w'
                  exact idx58_exec (by rfl) (by rfl) (by rfl) HMO.out
                rotate_left
                · simp only [Act.put, List.setIfInBounds_toArray, List.set_cons_zero, List.set_cons_succ, i64_w, i32_w]
                  rfl
                refine pure_ (i := 7) (N := some 28) (v := ?_) (a' := ?_) #[true, true, true, true, true, true, true, true, false, false, false, false, false, false, false, false] rfl rfl (by kernel_rfl) (fun _ _ _ h => h) (Or.inl ⟨by rfl, ?_⟩) ?_ ?_
                rotate_left
                · intro w'
                  go_simp
                  with_reducible rfl
                rotate_left
                · simp only [Act.put, List.setIfInBounds_toArray, List.set_cons_zero, List.set_cons_succ, i64_w, i32_w]
                  rfl
                refine pure_ (i := 9) (N := some 30) (v := ?_) (a' := ?_) #[true, true, true, true, true, true, true, true, false, true, false, false, false, false, false, false] rfl rfl (by kernel_rfl) (fun _ _ _ h => h) (Or.inl ⟨by rfl, ?_⟩) ?_ ?_
                rotate_left
                · intro w'
                  go_simp
                  with_reducible rfl
                rotate_left
                · simp only [Act.put, List.setIfInBounds_toArray, List.set_cons_zero, List.set_cons_succ, i64_w, i32_w]
                  rfl
                refine pure_ (i := 10) (N := some 31) (v := ?_) (a' := ?_) #[true, true, true, true, true, true, true, true, false, true, true, false, false, false, false, false] rfl rfl (by kernel_rfl) (fun _ _ _ h => h) (Or.inl ⟨by rfl, ?_⟩) ?_ ?_
                rotate_left
                · intro w'
                  go_simp
                  with_reducible rfl
                rotate_left
                · simp only [Act.put, List.setIfInBounds_toArray, List.set_cons_zero, List.set_cons_succ, i64_w, i32_w]
                  rfl
                refine pure_ (i := 11) (N := some 32) (v := .pointer (some (ad.add (i * 11)))) (a' := ?_) #[true, true, true, true, true, true, true, true, false, true, true, true, false, false, false, false] rfl rfl (by kernel_rfl) (fun _ _ _ h => h) (Or.inl ⟨by rfl, ?_⟩) ?_ ?_
                · intro w'
                  exact idx58_exec (by rfl) (by rfl) (by rfl) HIN.out
                rotate_left
                · simp only [Act.put, List.setIfInBounds_toArray, List.set_cons_zero, List.set_cons_succ, i64_w, i32_w]
                  rfl
                refine pure_ (i := 12) (N := some 33) (v := ?_) (a' := ?_) #[true, true, true, true, true, true, true, true, false, true, true, true, true, false, false, false] rfl rfl (by kernel_rfl) (fun _ _ _ h => h) (Or.inl ⟨by rfl, ?_⟩) ?_ ?_
                rotate_left
                · intro w'
                  go_simp
                  with_reducible rfl
                rotate_left
                · simp only [Act.put, List.setIfInBounds_toArray, List.set_cons_zero, List.set_cons_succ, i64_w, i32_w]
                  rfl
                refine take_ (i := 8) (N := some 29) (v := ?_) (a' := ?_) #[true, true, true, true, true, true, true, true, true, true, true, true, true, false, false, false] rfl rfl (by kernel_rfl) (fun _ _ _ h => h) (Or.inl ⟨by rfl, ?_⟩) hHeld ?_ ?_
                rotate_left
                · rintro w' ⟨s0, s1⟩
                  go_simp
                  with_reducible rfl
                rotate_left
                · simp only [Act.put, List.setIfInBounds_toArray, List.set_cons_zero, List.set_cons_succ, i64_w, i32_w]
                  rfl
                refine take_ (i := 13) (N := some 34) (v := ?_) (a' := ?_) #[true, true, true, true, true, true, true, true, true, true, true, true, true, true, false, false] rfl rfl (by kernel_rfl) (fun _ _ _ h => h) (Or.inl ⟨by rfl, ?_⟩) hHeld ?_ ?_
                rotate_left
                · rintro w' ⟨s0, s1⟩
                  go_simp
                  with_reducible rfl
                rotate_left
                · simp only [Act.put, List.setIfInBounds_toArray, List.set_cons_zero, List.set_cons_succ, i64_w, i32_w]
                  rfl
                refine pure_ (i := 14) (N := some 35) (v := ?_) (a' := ?_) #[true, true, true, true, true, true, true, true, true, true, true, true, true, true, true, false] rfl rfl (by kernel_rfl) (fun _ _ _ h => h) (Or.inl ⟨by rfl, ?_⟩) ?_ ?_
                rotate_left
                · intro w'
                  go_simp
                  with_reducible rfl
                rotate_left
                · simp only [Act.put, List.setIfInBounds_toArray, List.set_cons_zero, List.set_cons_succ, i64_w, i32_w]
                  rfl
                refine pure_ (i := 15) (N := some 36) (v := ?_) (a' := ?_) #[true, true, true, true, true, true, true, true, true, true, true, true, true, true, true, true] rfl rfl (by kernel_rfl) (fun _ _ _ h => h) (Or.inl ⟨by rfl, ?_⟩) ?_ ?_
                rotate_left
                · intro w'
                  go_simp
                  with_reducible rfl
                rotate_left
                · simp only [Act.put, List.setIfInBounds_toArray, List.set_cons_zero, List.set_cons_succ, i64_w, i32_w]
                  rfl
                refine done_ (by kernel_rfl) ?_
                have HBW := Aside0.mk (show Below w.heap.size w wr.drew from below_drew (below_then HB.out HB.out.size HBI.out))
                have HBI1 := Aside0.mk (show Below W0.heap.size W0 wr.drew from below_drew HBI.out)
                have HT3 := Aside0.mk (Kd.C_below (c58_take HC3.out HTO.out) HBI1.out)
                have HLN := Aside0.mk (show (o.length + 1) * 56 ≤ 140737488355328 by omega)
                have hcut1 := head41 (some ad3) c3 o t HTO.out HCC3.out
                obtain ⟨A5, hcut2, hC5⟩ := tail41 (some ad3) c3 o t HTO.out HCC3.out
                have HC5 := Aside0.mk hC5
                clear hC5
                go_upto_region 10 with (at_builtin; refine R_append_row k58 (w0 := w) w.heap.size rfl (.const (.slice none 0 0)) (.tmp 41) 41 58 (.agg #[.int .u8 0, .int .u8 0, .int .u8 0, .int .u8 0, .int .u8 0, .int .i64 0, .int .i64 0, .int .u64 0, .int .i64 0, .int .i64 0, .int .i64 0]) 56 rfl Try.underlying41 info58e rfl (by decide) (by omega) (.slice none 0 0) [] (o.take t) (some ad3) t c3 (fun _ => True) rfl rfl (fun W1 ok' q cs h => k58_flat W1 ok' _ q cs h) (fun _ _ => trivial) (Kd.R_nil _ _ _ _ _) HT3.out HBW.out HBW.out.size (by have := HLN.out; have := HTO.out; simp only [List.length_nil]; omega) ?_; intro v1 w1 ho1 hb1 hg1 hat1; rw [List.nil_append] at ho1; have HO1 := Aside0.mk ho1; have HB1 := Aside0.mk hb1; have HBn := Aside0.mk (below_none hg1); have HAT := Aside0.mk hat1; clear ho1 hb1 hg1 hat1)
                have HB2 := Aside0.mk (below_then HBI1.out HBI1.out.size HBn.out)
                obtain ⟨ad', he', d', hd', hy0, hy1, hy2, hy3, hy4, hy5, hy6, hy7, hy8, hy9, hy10⟩ := el58 HC.out HB1.out i hil
                cases he'
                obtain rfl : d = d' := Option.some.inj (HD.out.symm.trans hd')
                clear hd'
                go_upto_region 11 with (at_builtin; refine Kd.R_append k58 (w0 := w) w.heap.size rfl (.tmp 43) (.tmp 48) 41 58 (.agg #[.int .u8 0, .int .u8 0, .int .u8 0, .int .u8 0, .int .u8 0, .int .i64 0, .int .i64 0, .int .u64 0, .int .i64 0, .int .i64 0, .int .i64 0]) 56 rfl Try.underlying41 info58e rfl (by decide) (by omega) v1 (o.take t) d (ec58 d) (fun _ => True) (fun _ => False) rfl rfl (k58_mkM _ _ _ _) (fun _ hk => hk.elim) (fun _ _ => trivial) HO1.out HB1.out HB1.out.size (by have := HLN.out; have := HTO.out; rw [List.length_take]; omega) ?_; intro v2 w2 ho2 hb2 hg2 hat2; have HO2 := Aside0.mk ho2; have HB3 := Aside0.mk hb2; have HB4 := Aside0.mk (HB2.out.grown hg2 HB2.out.size (own_ge HAT.out HBI1.out.size)); clear ho2 hb2 hg2 hat2)
                clear hy0 hy1 hy2 hy3 hy4 hy5 hy6 hy7 hy8 hy9 hy10
                have HC6 := Aside0.mk (HC5.out w2 (Kd.C_below HC3.out HB4.out))
                clear hcut1 HC5
                go_wp2_with (at_builtin; refine R_append_row k58 (w0 := w) w.heap.size rfl (.tmp 50) (.tmp 53) 41 58 (.agg #[.int .u8 0, .int .u8 0, .int .u8 0, .int .u8 0, .int .u8 0, .int .i64 0, .int .i64 0, .int .u64 0, .int .i64 0, .int .i64 0, .int .i64 0]) 56 rfl Try.underlying41 info58e rfl (by decide) (by omega) v2 (o.take t ++ [d]) (o.drop t) A5 (o.length - t) (c3 - t) (fun _ => True) rfl rfl (fun W1 ok' q cs h => k58_flat W1 ok' _ q cs h) (fun _ _ => trivial) HO2.out HC6.out HB3.out HB3.out.size (by have := HLN.out; have := HTO.out; rw [List.length_append, List.length_take, List.length_singleton]; omega) ?_; intro v3 w3 ho3 hb3 hg3 hat3; have HO3 := Aside0.mk ho3; have HB5 := Aside0.mk hb3; clear ho3 hb3 hg3 hat3)
                go_roundg k1
                case measure => have := HI.out; omega
                case rel =>
                  refine ⟨i + 1, o.take t ++ d :: o.drop t, rfl, by have := HI.out; omega, ⟨by simp only [List.length_append, List.length_cons, List.length_take, List.length_drop]; have := HO.out; have := HTO.out; omega⟩, ⟨by have h := HO3.out; rw [List.append_assoc] at h; exact h⟩, HB5, ⟨?_⟩⟩
                  rw [HPT.out]
                  exact stab_put HST.out HLE.out HTO.out HGT.out
end Go.Proofs.Ytgojfecpknonlaa.Ev

