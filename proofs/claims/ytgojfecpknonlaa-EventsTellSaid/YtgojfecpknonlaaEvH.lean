/- slices' swapRange and rotate over events, in place. (Printed by wip/tools/evg.py.) -/
import Derived.Test.YtgojfecpknonlaaEvG
namespace Go.Proofs.Ytgojfecpknonlaa.Ev
open Go.RowKit Go.Proofs.YtgojfecpknonlaaW.PrintWords Go.Proofs.YtgojfecpknonlaaW.PrintLast Go.Proofs.YtgojfecpknonlaaW.PrintMore
open Go.Proofs.Ytgojfecpknonlaa.Own Go.Proofs.Ytgojfecpknonlaa.PSt
set_option linter.unusedVariables false
set_option linter.unusedSimpArgs false

/-- Where the exchange of two parts stands. -/
def SwpI (P U M V Q : List S72) (i : Nat) (zs : List S72) : Prop := zs = P ++ ((V.take i ++ U.drop i) ++ (M ++ ((U.take i ++ V.drop i) ++ Q)))
theorem swp_start (P U M V Q : List S72) : SwpI P U M V Q 0 (P ++ (U ++ (M ++ (V ++ Q)))) := by simp [SwpI]
theorem swp_end {P U M V Q zs : List S72} (h : SwpI P U M V Q U.length zs) (hl : V.length = U.length) : zs = P ++ (V ++ (M ++ (U ++ Q))) := by
  unfold SwpI at h
  rw [h, List.drop_length, List.take_length, ← hl, List.drop_length, List.take_length]
  simp
theorem swp_len {P U M V Q zs : List S72} {i : Nat} (h : SwpI P U M V Q i zs) (hl : V.length = U.length) (hi : i ≤ U.length) : zs.length = P.length + (U.length + (M.length + (V.length + Q.length))) := by
  unfold SwpI at h
  rw [h]
  simp only [List.length_append, List.length_take, List.length_drop]
  omega
theorem two_at {X Y Z : List S72} {u v : S72} : (X ++ u :: (Y ++ v :: Z))[X.length]? = some u ∧ (X ++ u :: (Y ++ v :: Z))[X.length + 1 + Y.length]? = some v := by
  refine ⟨?_, ?_⟩
  · rw [List.getElem?_append_right (Nat.le_refl _), Nat.sub_self]
    rfl
  · rw [List.getElem?_append_right (by omega), show X.length + 1 + Y.length - X.length = Y.length + 1 by omega, List.getElem?_cons_succ, List.getElem?_append_right (Nat.le_refl _), Nat.sub_self]
    rfl
theorem two_set {X Y Z : List S72} {u v a b : S72} : ((X ++ u :: (Y ++ v :: Z)).set X.length b).set (X.length + 1 + Y.length) a = X ++ b :: (Y ++ a :: Z) := by
  rw [List.set_append_right _ _ (Nat.le_refl _), Nat.sub_self, List.set_cons_zero, List.set_append_right _ _ (by omega), show X.length + 1 + Y.length - X.length = Y.length + 1 by omega, List.set_cons_succ, List.set_append_right _ _ (Nat.le_refl _), Nat.sub_self, List.set_cons_zero]
theorem swp_at {P U M V Q zs : List S72} {i : Nat} (h : SwpI P U M V Q i zs) (hl : V.length = U.length) (hi : i < U.length) :
    ∃ x y : S72, zs[P.length + i]? = some x ∧ zs[P.length + U.length + M.length + i]? = some y ∧ SwpI P U M V Q (i + 1) ((zs.set (P.length + i) y).set (P.length + U.length + M.length + i) x) := by
  unfold SwpI at h ⊢
  have hv : i < V.length := by omega
  have e : zs = (P ++ V.take i) ++ U[i] :: ((U.drop (i + 1) ++ (M ++ U.take i)) ++ V[i] :: (V.drop (i + 1) ++ Q)) := by
    rw [h, List.drop_eq_getElem_cons hi, List.drop_eq_getElem_cons hv]
    simp only [List.append_assoc, List.cons_append]
  have e1 : P.length + i = (P ++ V.take i).length := by rw [List.length_append, List.length_take]; omega
  have e2 : P.length + U.length + M.length + i = (P ++ V.take i).length + 1 + (U.drop (i + 1) ++ (M ++ U.take i)).length := by simp only [List.length_append, List.length_take, List.length_drop]; omega
  rw [e1, e2, e]
  refine ⟨U[i], V[i], two_at.1, two_at.2, ?_⟩
  rw [two_set, List.take_succ_eq_append_getElem hv, List.take_succ_eq_append_getElem hi]
  simp only [List.append_assoc, List.singleton_append, List.cons_append, List.nil_append]

/-- A call that has turned a row into another one. -/
def Turned (w : World) (g : Nat) (ys : List S72) (e : Ending) (w' : World) : Prop := e = .returned (.tuple #[]) ∧ Row w' g ys ∧ w.grownBy w' (some g)

set_option maxHeartbeats 8000000 in
set_option maxRecDepth 100000 in
theorem swapRange_calls (P U M V Q : List S72) (a b m g n c : Nat) (w : World) (hl : V.length = U.length) (ha : a = P.length) (hb : b = P.length + U.length + M.length) (hm : m = U.length) (hr : Row w g (P ++ (U ++ (M ++ (V ++ Q))))) (hn : n = P.length + (U.length + (M.length + (V.length + Q.length)))) (hs : n < 1000000000) (fv : Value) :
    Calls Try.prog 119 #[.slice (some ⟨g, 0, none⟩) n c, .int .i64 (a : Int), .int .i64 (b : Int), .int .i64 (m : Int), fv] w (Turned w g (P ++ (V ++ (M ++ (U ++ Q))))) := by
  have HR := Aside0.mk hr
  have HN := Aside0.mk hn
  have HL := Aside0.mk hl
  have HA := Aside0.mk ha
  have HB := Aside0.mk hb
  have HM := Aside0.mk hm
  have HSZ := Aside0.mk hs
  have hal : a < 1000000000 := by omega
  have hbl : b < 1000000000 := by omega
  have hml : m < 1000000000 := by omega
  clear hr hn hl ha hb hm hs
  go_enter Try.func119, Try.ntmps119
  go_wp2_with fail
  go_loopg [10] m (fun kq v10 w' => ∃ (i : Nat) (zs : List S72), v10 = .int .i64 (i : Int) ∧ i + kq = m ∧ Aside0 (SwpI P U M V Q i zs) ∧ Aside0 (Row w' g zs) ∧ Aside0 (w.grownBy w' (some g)))
  case atStart => exact ⟨0, _, rfl, by omega, ⟨swp_start P U M V Q⟩, HR, ⟨grown_refl _ _⟩⟩
  case round =>
    obtain ⟨i, zs, rfl, hi, HI, HZ, HG⟩ := hrel
    cases gk with
    | zero =>
      obtain rfl : i = m := by omega
      have c1 : decide ((i : Int) < (i : Int)) = false := decide_eq_false (by omega)
      have c2 : decide (i < i) = false := decide_eq_false (by omega)
      clear hi
      go_wp2_with fail
      go_end0
      have h := HI.out
      rw [HM.out] at h
      have h2 := swp_end h HL.out
      exact ⟨rfl, by rw [← h2]; exact HZ.out, HG.out⟩
    | succ k1 =>
      have c1 : decide ((i : Int) < (m : Int)) = true := decide_eq_true (by omega)
      have c2 : decide (i < m) = true := decide_eq_true (by omega)
      obtain ⟨x, y, hx, hy, hsw⟩ := swp_at HI.out HL.out (by have := HM.out; omega)
      have hlen := swp_len HI.out HL.out (by have := HM.out; omega)
      obtain ⟨p, hp⟩ : ∃ p, p = P.length + i := ⟨_, rfl⟩
      obtain ⟨q, hq⟩ : ∃ q, q = P.length + U.length + M.length + i := ⟨_, rfl⟩
      rw [← hp] at hx hsw
      rw [← hq] at hy hsw
      have HX := Aside0.mk hx
      have HY := Aside0.mk hy
      have HSW := Aside0.mk hsw
      have HI2 := Aside0.mk hi
      have HP := Aside0.mk (show wrap64 ((a : Int) + (i : Int)) = (p : Int) by have := HA.out; rw [wrap_ok (by omega) (by omega)]; omega)
      have HQ := Aside0.mk (show wrap64 ((b : Int) + (i : Int)) = (q : Int) by have := HB.out; rw [wrap_ok (by omega) (by omega)]; omega)
      have HPN := Aside0.mk (show p < n by have := HN.out; have := HM.out; omega)
      have HQN := Aside0.mk (show q < n by have := HN.out; have := HM.out; have := HL.out; omega)
      have HPL := Aside0.mk (show p < zs.length by rw [hlen]; have := HM.out; omega)
      have HQL := Aside0.mk (show q < (zs.set p y).length by rw [List.length_set, hlen]; have := HM.out; have := HL.out; omega)
      have hil : i < 1000000000 := by omega
      clear hx hy hsw hlen hp hq hi
      go_wp2_with fail
      refine start_ (n := 24) (S := fun w' => Row w' g zs) (ds := [21, 23]) #[false, false, false, false, false, false, false, false, false, false, false, false, false, false, false, false, false, false, false, false, false, false, false, false] (by kernel_rfl) rfl rfl ((Row.drew HZ.out)) (fun hHeld => ?_)
      refine pure_ (i := 0) (N := some 16) (v := ?_) (a' := ?_) #[true, false, false, false, false, false, false, false, false, false, false, false, false, false, false, false, false, false, false, false, false, false, false, false] rfl rfl (by kernel_rfl) (fun _ _ _ h => h) (Or.inl ⟨by rfl, ?_⟩) ?_ ?_
      rotate_left
      · intro w'
        go_simp
        with_reducible rfl
      rotate_left
      · simp only [Act.put, List.setIfInBounds_toArray, List.set_cons_zero, List.set_cons_succ, i64_w, i32_w]
        rfl
      refine pure_ (i := 1) (N := some 17) (v := ?_) (a' := ?_) #[true, true, false, false, false, false, false, false, false, false, false, false, false, false, false, false, false, false, false, false, false, false, false, false] rfl rfl (by kernel_rfl) (fun _ _ _ h => h) (Or.inl ⟨by rfl, ?_⟩) ?_ ?_
      rotate_left
      · intro w'
        go_simp
        with_reducible rfl
      rotate_left
      · simp only [Act.put, List.setIfInBounds_toArray, List.set_cons_zero, List.set_cons_succ, i64_w, i32_w]
        rfl
      refine pure_ (i := 2) (N := some 18) (v := ?_) (a' := ?_) #[true, true, true, false, false, false, false, false, false, false, false, false, false, false, false, false, false, false, false, false, false, false, false, false] rfl rfl (by kernel_rfl) (fun _ _ _ h => h) (Or.inl ⟨by rfl, ?_⟩) ?_ ?_
      rotate_left
      · intro w'
        go_simp
        with_reducible rfl
      rotate_left
      · simp only [Act.put, List.setIfInBounds_toArray, List.set_cons_zero, List.set_cons_succ, i64_w, i32_w]
        rfl
      refine pure_ (i := 3) (N := some 19) (v := .int .i64 (p : Int)) (a' := ?_) #[true, true, true, true, false, false, false, false, false, false, false, false, false, false, false, false, false, false, false, false, false, false, false, false] rfl rfl (by kernel_rfl) (fun _ _ _ h => h) (Or.inl ⟨by rfl, ?_⟩) ?_ ?_
      · intro w'
        exact add_exec (by rfl) (by rfl) (by rfl) HP.out
      rotate_left
      · simp only [Act.put, List.setIfInBounds_toArray, List.set_cons_zero, List.set_cons_succ, i64_w, i32_w]
        rfl
      refine pure_ (i := 4) (N := some 20) (v := ?_) (a' := ?_) #[true, true, true, true, true, false, false, false, false, false, false, false, false, false, false, false, false, false, false, false, false, false, false, false] rfl rfl (by kernel_rfl) (fun _ _ _ h => h) (Or.inl ⟨by rfl, ?_⟩) ?_ ?_
      rotate_left
      · intro w'
        go_simp
        with_reducible rfl
      rotate_left
      · simp only [Act.put, List.setIfInBounds_toArray, List.set_cons_zero, List.set_cons_succ, i64_w, i32_w]
        rfl
      refine pure_ (i := 5) (N := some 21) (v := ?_) (a' := ?_) #[true, true, true, true, true, true, false, false, false, false, false, false, false, false, false, false, false, false, false, false, false, false, false, false] rfl rfl (by kernel_rfl) (fun _ _ _ h => h) (Or.inl ⟨by rfl, ?_⟩) ?_ ?_
      rotate_left
      · intro w'
        go_simp
        with_reducible rfl
      rotate_left
      · simp only [Act.put, List.setIfInBounds_toArray, List.set_cons_zero, List.set_cons_succ, i64_w, i32_w]
        rfl
      refine pure_ (i := 6) (N := some 22) (v := ?_) (a' := ?_) #[true, true, true, true, true, true, true, false, false, false, false, false, false, false, false, false, false, false, false, false, false, false, false, false] rfl rfl (by kernel_rfl) (fun _ _ _ h => h) (Or.inl ⟨by rfl, ?_⟩) ?_ ?_
      rotate_left
      · intro w'
        go_simp
        with_reducible rfl
      rotate_left
      · simp only [Act.put, List.setIfInBounds_toArray, List.set_cons_zero, List.set_cons_succ, i64_w, i32_w]
        rfl
      refine pure_ (i := 7) (N := some 23) (v := .int .i64 (q : Int)) (a' := ?_) #[true, true, true, true, true, true, true, true, false, false, false, false, false, false, false, false, false, false, false, false, false, false, false, false] rfl rfl (by kernel_rfl) (fun _ _ _ h => h) (Or.inl ⟨by rfl, ?_⟩) ?_ ?_
      · intro w'
        exact add_exec (by rfl) (by rfl) (by rfl) HQ.out
      rotate_left
      · simp only [Act.put, List.setIfInBounds_toArray, List.set_cons_zero, List.set_cons_succ, i64_w, i32_w]
        rfl
      refine pure_ (i := 8) (N := some 24) (v := ?_) (a' := ?_) #[true, true, true, true, true, true, true, true, true, false, false, false, false, false, false, false, false, false, false, false, false, false, false, false] rfl rfl (by kernel_rfl) (fun _ _ _ h => h) (Or.inl ⟨by rfl, ?_⟩) ?_ ?_
      rotate_left
      · intro w'
        go_simp
        with_reducible rfl
      rotate_left
      · simp only [Act.put, List.setIfInBounds_toArray, List.set_cons_zero, List.set_cons_succ, i64_w, i32_w]
        rfl
      refine pure_ (i := 9) (N := some 25) (v := ?_) (a' := ?_) #[true, true, true, true, true, true, true, true, true, true, false, false, false, false, false, false, false, false, false, false, false, false, false, false] rfl rfl (by kernel_rfl) (fun _ _ _ h => h) (Or.inl ⟨by rfl, ?_⟩) ?_ ?_
      rotate_left
      · intro w'
        go_simp
        with_reducible rfl
      rotate_left
      · simp only [Act.put, List.setIfInBounds_toArray, List.set_cons_zero, List.set_cons_succ, i64_w, i32_w]
        rfl
      refine pure_ (i := 10) (N := some 26) (v := ?_) (a' := ?_) #[true, true, true, true, true, true, true, true, true, true, true, false, false, false, false, false, false, false, false, false, false, false, false, false] rfl rfl (by kernel_rfl) (fun _ _ _ h => h) (Or.inl ⟨by rfl, ?_⟩) ?_ ?_
      rotate_left
      · intro w'
        go_simp
        with_reducible rfl
      rotate_left
      · simp only [Act.put, List.setIfInBounds_toArray, List.set_cons_zero, List.set_cons_succ, i64_w, i32_w]
        rfl
      refine pure_ (i := 11) (N := some 27) (v := .int .i64 (q : Int)) (a' := ?_) #[true, true, true, true, true, true, true, true, true, true, true, true, false, false, false, false, false, false, false, false, false, false, false, false] rfl rfl (by kernel_rfl) (fun _ _ _ h => h) (Or.inl ⟨by rfl, ?_⟩) ?_ ?_
      · intro w'
        exact add_exec (by rfl) (by rfl) (by rfl) HQ.out
      rotate_left
      · simp only [Act.put, List.setIfInBounds_toArray, List.set_cons_zero, List.set_cons_succ, i64_w, i32_w]
        rfl
      refine pure_ (i := 12) (N := some 28) (v := .pointer (some ⟨g, q * 11, none⟩)) (a' := ?_) #[true, true, true, true, true, true, true, true, true, true, true, true, true, false, false, false, false, false, false, false, false, false, false, false] rfl rfl (by kernel_rfl) (fun _ _ _ h => h) (Or.inl ⟨by rfl, ?_⟩) ?_ ?_
      · intro w'
        exact idx_exec (by rfl) (by rfl) (by rfl) HQN.out
      rotate_left
      · simp only [Act.put, List.setIfInBounds_toArray, List.set_cons_zero, List.set_cons_succ, i64_w, i32_w]
        rfl
      refine pure_ (i := 14) (N := some 30) (v := ?_) (a' := ?_) #[true, true, true, true, true, true, true, true, true, true, true, true, true, false, true, false, false, false, false, false, false, false, false, false] rfl rfl (by kernel_rfl) (fun _ _ _ h => h) (Or.inl ⟨by rfl, ?_⟩) ?_ ?_
      rotate_left
      · intro w'
        go_simp
        with_reducible rfl
      rotate_left
      · simp only [Act.put, List.setIfInBounds_toArray, List.set_cons_zero, List.set_cons_succ, i64_w, i32_w]
        rfl
      refine pure_ (i := 15) (N := some 31) (v := ?_) (a' := ?_) #[true, true, true, true, true, true, true, true, true, true, true, true, true, false, true, true, false, false, false, false, false, false, false, false] rfl rfl (by kernel_rfl) (fun _ _ _ h => h) (Or.inl ⟨by rfl, ?_⟩) ?_ ?_
      rotate_left
      · intro w'
        go_simp
        with_reducible rfl
      rotate_left
      · simp only [Act.put, List.setIfInBounds_toArray, List.set_cons_zero, List.set_cons_succ, i64_w, i32_w]
        rfl
      refine pure_ (i := 16) (N := some 32) (v := ?_) (a' := ?_) #[true, true, true, true, true, true, true, true, true, true, true, true, true, false, true, true, true, false, false, false, false, false, false, false] rfl rfl (by kernel_rfl) (fun _ _ _ h => h) (Or.inl ⟨by rfl, ?_⟩) ?_ ?_
      rotate_left
      · intro w'
        go_simp
        with_reducible rfl
      rotate_left
      · simp only [Act.put, List.setIfInBounds_toArray, List.set_cons_zero, List.set_cons_succ, i64_w, i32_w]
        rfl
      refine pure_ (i := 17) (N := some 33) (v := .int .i64 (p : Int)) (a' := ?_) #[true, true, true, true, true, true, true, true, true, true, true, true, true, false, true, true, true, true, false, false, false, false, false, false] rfl rfl (by kernel_rfl) (fun _ _ _ h => h) (Or.inl ⟨by rfl, ?_⟩) ?_ ?_
      · intro w'
        exact add_exec (by rfl) (by rfl) (by rfl) HP.out
      rotate_left
      · simp only [Act.put, List.setIfInBounds_toArray, List.set_cons_zero, List.set_cons_succ, i64_w, i32_w]
        rfl
      refine pure_ (i := 18) (N := some 34) (v := .pointer (some ⟨g, p * 11, none⟩)) (a' := ?_) #[true, true, true, true, true, true, true, true, true, true, true, true, true, false, true, true, true, true, true, false, false, false, false, false] rfl rfl (by kernel_rfl) (fun _ _ _ h => h) (Or.inl ⟨by rfl, ?_⟩) ?_ ?_
      · intro w'
        exact idx_exec (by rfl) (by rfl) (by rfl) HPN.out
      rotate_left
      · simp only [Act.put, List.setIfInBounds_toArray, List.set_cons_zero, List.set_cons_succ, i64_w, i32_w]
        rfl
      refine take_ (i := 13) (N := some 29) (v := ev y) (a' := ?_) #[true, true, true, true, true, true, true, true, true, true, true, true, true, true, true, true, true, true, true, false, false, false, false, false] rfl rfl (by kernel_rfl) (fun _ _ _ h => h) (Or.inl ⟨by rfl, ?_⟩) hHeld ?_ ?_
      · intro w' s0
        exact row_load_exec s0 HY.out (by rfl) (by rfl)
      rotate_left
      · simp only [Act.put, List.setIfInBounds_toArray, List.set_cons_zero, List.set_cons_succ, i64_w, i32_w]
        rfl
      refine take_ (i := 19) (N := some 35) (v := ev x) (a' := ?_) #[true, true, true, true, true, true, true, true, true, true, true, true, true, true, true, true, true, true, true, true, false, false, false, false] rfl rfl (by kernel_rfl) (fun _ _ _ h => h) (Or.inl ⟨by rfl, ?_⟩) hHeld ?_ ?_
      · intro w' s0
        exact row_load_exec s0 HX.out (by rfl) (by rfl)
      rotate_left
      · simp only [Act.put, List.setIfInBounds_toArray, List.set_cons_zero, List.set_cons_succ, i64_w, i32_w]
        rfl
      refine pure_ (i := 20) (N := some 36) (v := .pointer (some ⟨g, p * 11, none⟩)) (a' := ?_) #[true, true, true, true, true, true, true, true, true, true, true, true, true, true, true, true, true, true, true, true, true, false, false, false] rfl rfl (by kernel_rfl) (fun _ _ _ h => h) (Or.inl ⟨by rfl, ?_⟩) ?_ ?_
      · intro w'
        exact idx_exec (by rfl) (by rfl) (by rfl) HPN.out
      rotate_left
      · simp only [Act.put, List.setIfInBounds_toArray, List.set_cons_zero, List.set_cons_succ, i64_w, i32_w]
        rfl
      refine last_ (i := 21) (N := none) #[true, true, true, true, true, true, true, true, true, true, true, true, true, true, true, true, true, true, true, true, true, true, false, false] rfl rfl (by kernel_rfl) (by decide) (fun K hK => ?_)
      refine skip_ (w1 := wr.drew.setCells g (p * 11) (ec y)) ?hw ?hN ?_ ?_
      case hw => rfl
      case hN => rfl
      · refine row_store_skip (W := wr.drew) (g := g) (i := p) (xs := zs) (d := y) (x := .tmp 36) (y := .tmp 29) (Row.drew HZ.out) HPL.out ?_ ?_ ?_
        · rfl
        · rfl
        · rfl
      refine hK.out _ _ ?_
      clear hK K
      refine pure_ (i := 22) (N := some 37) (v := .pointer (some ⟨g, q * 11, none⟩)) (a' := ?_) #[true, true, true, true, true, true, true, true, true, true, true, true, true, true, true, true, true, true, true, true, true, true, true, false] rfl rfl (by kernel_rfl) (fun _ _ _ h => h) (Or.inl ⟨by rfl, ?_⟩) ?_ ?_
      · intro w'
        exact idx_exec (by rfl) (by rfl) (by rfl) HQN.out
      rotate_left
      · simp only [Act.put, List.setIfInBounds_toArray, List.set_cons_zero, List.set_cons_succ, i64_w, i32_w]
        rfl
      refine last_ (i := 23) (N := none) #[true, true, true, true, true, true, true, true, true, true, true, true, true, true, true, true, true, true, true, true, true, true, true, true] rfl rfl (by kernel_rfl) (by decide) (fun K hK => ?_)
      have HRx := Aside0.mk (row_set (Row.drew HZ.out) HPL.out y)
      refine skip_ (w1 := (wr.drew.setCells g (p * 11) (ec y)).setCells g (q * 11) (ec x)) ?hw ?hN ?_ ?_
      case hw => rfl
      case hN => rfl
      · refine row_store_skip (W := wr.drew.setCells g (p * 11) (ec y)) (g := g) (i := q) (xs := zs.set p y) (d := x) (x := .tmp 37) (y := .tmp 35) HRx.out HQL.out ?_ ?_ ?_
        · rfl
        · rfl
        · rfl
      refine hK.out _ _ ?_
      clear hK K
      refine done_ (by kernel_rfl) ?_
      have HR6 := Aside0.mk (row_set HRx.out HQL.out x)
      have HG6 := Aside0.mk (grown_stored (grown_stored (grown_of HG.out (below_drew (Below.refl _ _))) (stored_cells wr.drew g (p * 11) (ec y))) (stored_cells _ g (q * 11) (ec x)))
      clear hHeld HRx
      go_wp2_with fail
      go_roundg k1
      case measure => have := HI2.out; omega
      case rel => exact ⟨i + 1, _, rfl, by have := HI2.out; omega, HSW, HR6, HG6⟩

/-- Where the rotation stands: what is left to do turns A ++ B, about m. -/
structure RotI (P U V Q : List S72) (m i j : Nat) (zs : List S72) : Prop where
  ex : ∃ L A B R : List S72, zs = P ++ (L ++ (A ++ (B ++ (R ++ Q)))) ∧ A.length = i ∧ B.length = j ∧ P.length + L.length + i = m ∧ L ++ (B ++ (A ++ R)) = V ++ U
theorem rot_start (P U V Q : List S72) : RotI P U V Q (P.length + U.length) U.length V.length (P ++ (U ++ (V ++ Q))) := ⟨⟨[], U, V, [], by simp, rfl, rfl, by simp, by simp⟩⟩
theorem rot_len {P U V Q zs : List S72} {m i j : Nat} (h : RotI P U V Q m i j zs) : i ≤ m ∧ zs.length = P.length + (V.length + U.length) + Q.length ∧ m + j ≤ zs.length := by
  obtain ⟨L, A, B, R, h1, h2, h3, h4, h5⟩ := h.ex
  have h6 := congrArg List.length h5
  simp only [List.length_append] at h6
  have h7 := congrArg List.length h1
  simp only [List.length_append] at h7
  omega

theorem rot_same {P U V Q zs : List S72} {m i : Nat} (h : RotI P U V Q m i i zs) : ∃ P' U' V' Q' : List S72, V'.length = U'.length ∧ m - i = P'.length ∧ m = P'.length + U'.length + ([] : List S72).length ∧ i = U'.length ∧ zs = P' ++ (U' ++ ([] ++ (V' ++ Q'))) ∧ zs.length = P'.length + (U'.length + (([] : List S72).length + (V'.length + Q'.length))) ∧ P' ++ (V' ++ ([] ++ (U' ++ Q'))) = P ++ (V ++ (U ++ Q)) := by
  obtain ⟨L, A, B, R, h1, h2, h3, h4, h5⟩ := h.ex
  refine ⟨P ++ L, A, B, R ++ Q, by omega, by rw [List.length_append]; omega, by rw [List.length_append, List.length_nil]; omega, h2.symm, by rw [h1]; simp, by rw [h1]; simp only [List.length_append, List.length_nil]; omega, ?_⟩
  have h6 : V ++ (U ++ Q) = (V ++ U) ++ Q := by rw [List.append_assoc]
  rw [h6, ← h5]
  simp only [List.append_assoc, List.nil_append]
theorem rot_gt {P U V Q zs : List S72} {m i j : Nat} (h : RotI P U V Q m i j zs) (hlt : j < i) : ∃ P' U' M' V' Q' : List S72, V'.length = U'.length ∧ m - i = P'.length ∧ m = P'.length + U'.length + M'.length ∧ j = U'.length ∧ zs = P' ++ (U' ++ (M' ++ (V' ++ Q'))) ∧ zs.length = P'.length + (U'.length + (M'.length + (V'.length + Q'.length))) ∧ RotI P U V Q m (i - j) j (P' ++ (V' ++ (M' ++ (U' ++ Q')))) := by
  obtain ⟨L, A, B, R, h1, h2, h3, h4, h5⟩ := h.ex
  refine ⟨P ++ L, A.take j, A.drop j, B, R ++ Q, by rw [List.length_take]; omega, by rw [List.length_append]; omega, by rw [List.length_append, List.length_take, List.length_drop]; omega, by rw [List.length_take]; omega, ?_, ?_, ⟨L ++ B, A.drop j, A.take j, R, by simp only [List.append_assoc], by rw [List.length_drop]; omega, by rw [List.length_take]; omega, by rw [List.length_append]; omega, ?_⟩⟩
  · rw [h1, ← List.append_assoc (A.take j), List.take_append_drop]
    simp only [List.append_assoc]
  · rw [h1]
    simp only [List.length_append, List.length_take, List.length_drop]
    omega
  · rw [← h5, ← List.append_assoc (A.take j), List.take_append_drop]
    simp only [List.append_assoc]
theorem rot_lt {P U V Q zs : List S72} {m i j : Nat} (h : RotI P U V Q m i j zs) (hlt : i < j) : ∃ P' U' M' V' Q' : List S72, V'.length = U'.length ∧ m - i = P'.length ∧ m + j - i = P'.length + U'.length + M'.length ∧ i = U'.length ∧ zs = P' ++ (U' ++ (M' ++ (V' ++ Q'))) ∧ zs.length = P'.length + (U'.length + (M'.length + (V'.length + Q'.length))) ∧ RotI P U V Q m i (j - i) (P' ++ (V' ++ (M' ++ (U' ++ Q')))) := by
  obtain ⟨L, A, B, R, h1, h2, h3, h4, h5⟩ := h.ex
  refine ⟨P ++ L, A, B.take (j - i), B.drop (j - i), R ++ Q, by rw [List.length_drop]; omega, by rw [List.length_append]; omega, by rw [List.length_append, List.length_take]; omega, h2.symm, ?_, ?_, ⟨L, B.drop (j - i), B.take (j - i), A ++ R, by simp only [List.append_assoc], by rw [List.length_drop]; omega, by rw [List.length_take]; omega, by omega, ?_⟩⟩
  · rw [h1, ← List.append_assoc (B.take (j - i)), List.take_append_drop]
    simp only [List.append_assoc]
  · rw [h1]
    simp only [List.length_append, List.length_take, List.length_drop]
    omega
  · rw [← h5, ← List.append_assoc (B.take (j - i)), List.take_append_drop]

set_option maxHeartbeats 8000000 in
set_option maxRecDepth 100000 in
theorem rotate_calls (P U V Q : List S72) (a m b g n c : Nat) (w : World) (ha : a = P.length) (hm : m = P.length + U.length) (hb : b = P.length + U.length + V.length) (hu : 0 < U.length) (hv : 0 < V.length) (hr : Row w g (P ++ (U ++ (V ++ Q)))) (hn : n = P.length + (U.length + (V.length + Q.length))) (hs : n < 1000000000) (fv : Value) :
    Calls Try.prog 118 #[.slice (some ⟨g, 0, none⟩) n c, .int .i64 (a : Int), .int .i64 (m : Int), .int .i64 (b : Int), fv] w (Turned w g (P ++ (V ++ (U ++ Q)))) := by
  have HR := Aside0.mk hr
  have HN := Aside0.mk hn
  have HSZ := Aside0.mk hs
  have hal : a < 1000000000 := by omega
  have hbl : b < 1000000000 := by omega
  have hml : m < 1000000000 := by omega
  have ham : a ≤ m := by omega
  have hmb : m ≤ b := by omega
  have HA := Aside0.mk ha
  have HB := Aside0.mk hb
  have HM := Aside0.mk hm
  have HU := Aside0.mk hu
  have HV := Aside0.mk hv
  clear hr hn hs ha hb hm hu hv
  go_enter Try.func118, Try.ntmps118
  go_wp2_with fail
  go_loopg [10, 11] (m - a + (b - m)) (fun kq v10 v11 w' => ∃ (i j : Nat) (zs : List S72), v10 = .int .i64 (i : Int) ∧ v11 = .int .i64 (j : Int) ∧ i + j ≤ kq ∧ 0 < i ∧ 0 < j ∧ Aside0 (RotI P U V Q m i j zs) ∧ Aside0 (Row w' g zs) ∧ Aside0 (w.grownBy w' (some g)))
  case atStart =>
    refine ⟨U.length, V.length, _, ?_, ?_, by have := HA.out; have := HB.out; have := HM.out; omega, HU.out, HV.out, ⟨by rw [HM.out]; exact rot_start P U V Q⟩, HR, ⟨grown_refl _ _⟩⟩
    · rw [show (U.length : Int) = (m : Int) - (a : Int) by have := HA.out; have := HM.out; omega]
    · rw [show (V.length : Int) = (b : Int) - (m : Int) by have := HB.out; have := HM.out; omega]
  case round =>
    obtain ⟨i, j, zs, rfl, rfl, hij, hi, hj, HI, HZ, HG⟩ := hrel
    obtain ⟨him, hlen, hmj⟩ := rot_len HI.out
    have hnl : n = zs.length := by rw [hlen]; have := HN.out; omega
    have HNL := Aside0.mk hnl
    have hjl : j < 1000000000 := by have := HSZ.out; omega
    have hil : i < 1000000000 := by omega
    cases gk with
    | zero => omega
    | succ k1 =>
      have HK := Aside0.mk hij
      have HI0 := Aside0.mk hi
      have HJ0 := Aside0.mk hj
      have HIM := Aside0.mk him
      by_cases he : i = j
      · obtain rfl := he
        have c1 : ((i : Int) != (i : Int)) = false := by simp
        have c2 : (i != i) = false := by simp
        obtain ⟨P', U', V', Q', e1, e2, e3, e4, e5, e6, e7⟩ := rot_same HI.out
        have HC := Aside0.mk (swapRange_calls P' U' [] V' Q' (m - i) m i g n c wr e1 e2 e3 e4 (by rw [← e5]; exact HZ.out) (by rw [hnl]; exact e6) HSZ.out fv)
        rw [e7] at HC
        have HD := Aside0.mk (show ((m : Int) - (i : Int)) = ((m - i : Nat) : Int) by omega)
        clear hij hi hj him hlen hmj hnl e1 e2 e3 e4 e5 e6 e7
        go_wp2_with (go_at_call 119; rw [HD.out]; refine HC.out.mono ?_; rintro e w1 ⟨rfl, hr1, hg1⟩; have HR1 := Aside0.mk hr1; have HG1 := Aside0.mk hg1; clear hr1 hg1)
        go_end0
        exact ⟨rfl, HR1.out, grown_trans HG.out HG1.out⟩
      · have c1 : ((i : Int) != (j : Int)) = true := by rw [bne_iff_ne]; omega
        have c2 : (i != j) = true := by rw [bne_iff_ne]; exact he
        have HE := Aside0.mk he
        clear he
        by_cases hlt : j < i
        · have c3 : decide ((j : Int) < (i : Int)) = true := decide_eq_true (by omega)
          have c4 : decide (j < i) = true := decide_eq_true hlt
          obtain ⟨P', U', M', V', Q', e1, e2, e3, e4, e5, e6, e7⟩ := rot_gt HI.out hlt
          have HC := Aside0.mk (swapRange_calls P' U' M' V' Q' (m - i) m j g n c wr e1 e2 e3 e4 (by rw [← e5]; exact HZ.out) (by rw [hnl]; exact e6) HSZ.out fv)
          have HX := Aside0.mk e7
          have HD := Aside0.mk (show ((m : Int) - (i : Int)) = ((m - i : Nat) : Int) by omega)
          have HLT := Aside0.mk hlt
          have q1 : (0 : Int) ≤ (i : Int) - (j : Int) := by omega
          clear hij hi hj him hlen hmj hnl e1 e2 e3 e4 e5 e6 e7 hlt
          go_wp2_with (go_at_call 119; rw [HD.out]; refine HC.out.mono ?_; rintro e w1 ⟨rfl, hr1, hg1⟩; have HR1 := Aside0.mk hr1; have HG1 := Aside0.mk hg1; clear hr1 hg1)
          go_roundg k1
          case measure => have := HK.out; have := HJ0.out; omega
          case rel => exact ⟨i - j, j, _, by have := HLT.out; rw [show ((i - j : Nat) : Int) = (i : Int) - (j : Int) by omega], rfl, by have := HK.out; have := HJ0.out; have := HLT.out; omega, by have := HLT.out; omega, HJ0.out, HX, HR1, ⟨grown_trans HG.out HG1.out⟩⟩
        · have c3 : decide ((j : Int) < (i : Int)) = false := decide_eq_false (by omega)
          have c4 : decide (j < i) = false := decide_eq_false hlt
          have hlt2 : i < j := by have := HE.out; omega
          obtain ⟨P', U', M', V', Q', e1, e2, e3, e4, e5, e6, e7⟩ := rot_lt HI.out hlt2
          have HC := Aside0.mk (swapRange_calls P' U' M' V' Q' (m - i) (m + j - i) i g n c wr e1 e2 e3 e4 (by rw [← e5]; exact HZ.out) (by rw [hnl]; exact e6) HSZ.out fv)
          have HX := Aside0.mk e7
          have HD := Aside0.mk (show ((m : Int) - (i : Int)) = ((m - i : Nat) : Int) by omega)
          have HD2 := Aside0.mk (show ((m : Int) + (j : Int) - (i : Int)) = ((m + j - i : Nat) : Int) by omega)
          have HLT := Aside0.mk hlt2
          have q1 : (0 : Int) ≤ (j : Int) - (i : Int) := by omega
          clear hij hi hj him hlen hmj hnl e1 e2 e3 e4 e5 e6 e7 hlt hlt2
          go_wp2_with (go_at_call 119; rw [HD.out, HD2.out]; refine HC.out.mono ?_; rintro e w1 ⟨rfl, hr1, hg1⟩; have HR1 := Aside0.mk hr1; have HG1 := Aside0.mk hg1; clear hr1 hg1)
          go_roundg k1
          case measure => have := HK.out; have := HI0.out; omega
          case rel => exact ⟨i, j - i, _, rfl, by have := HLT.out; rw [show ((j - i : Nat) : Int) = (j : Int) - (i : Int) by omega], by have := HK.out; have := HI0.out; have := HLT.out; omega, HI0.out, by have := HLT.out; omega, HX, HR1, ⟨grown_trans HG.out HG1.out⟩⟩
end Go.Proofs.Ytgojfecpknonlaa.Ev

