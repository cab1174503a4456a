/- slices' symMerge over events, in place: one event against a row. (Printed by wip/tools/evg.py.) -/
import Derived.Test.YtgojfecpknonlaaEvH
import Derived.Test.YtgojfecpknonlaaEvI
namespace Go.Proofs.Ytgojfecpknonlaa.Ev
open Go.RowKit Go.Proofs.YtgojfecpknonlaaW.PrintWords Go.Proofs.YtgojfecpknonlaaW.PrintLast Go.Proofs.YtgojfecpknonlaaW.PrintMore
open Go.Proofs.Ytgojfecpknonlaa.Own Go.Proofs.Ytgojfecpknonlaa.PSt
set_option linter.unusedVariables false
set_option linter.unusedSimpArgs false

/-- An event on its way through the row behind it. -/
def BubI (P : List S72) (d : S72) (V Q : List S72) (t : Nat) (zs : List S72) : Prop := zs = P ++ ((V.take t ++ d :: V.drop t) ++ Q)
theorem bub_len {P : List S72} {d : S72} {V Q : List S72} {t : Nat} {zs : List S72} (h : BubI P d V Q t zs) : zs.length = P.length + (1 + V.length) + Q.length := by
  unfold BubI at h
  rw [h]
  simp only [List.length_append, List.length_cons, List.length_take, List.length_drop]
  omega
theorem bub_up {P : List S72} {d : S72} {V Q : List S72} {t : Nat} {zs : List S72} (h : BubI P d V Q t zs) (ht : t < V.length) : ∃ y : S72, zs[P.length + t]? = some d ∧ zs[P.length + t + 1]? = some y ∧ BubI P d V Q (t + 1) ((zs.set (P.length + t) y).set (P.length + t + 1) d) := by
  unfold BubI at h ⊢
  have e : zs = (P ++ V.take t) ++ d :: ([] ++ V[t] :: (V.drop (t + 1) ++ Q)) := by
    rw [h, List.drop_eq_getElem_cons ht]
    simp only [List.append_assoc, List.cons_append, List.nil_append]
  have e1 : P.length + t = (P ++ V.take t).length := by rw [List.length_append, List.length_take]; omega
  have e2 : P.length + t + 1 = (P ++ V.take t).length + 1 + ([] : List S72).length := by rw [List.length_nil, List.length_append, List.length_take]; omega
  refine ⟨V[t], ?_, ?_, ?_⟩
  · rw [e1, e]; exact two_at.1
  · rw [e2, e]; exact two_at.2
  · rw [e2, e1, e, two_set, List.take_succ_eq_append_getElem ht]
    simp only [List.append_assoc, List.singleton_append, List.cons_append, List.nil_append]
theorem bub_down {P : List S72} {d : S72} {V Q : List S72} {t : Nat} {zs : List S72} (h : BubI P d V Q (t + 1) zs) (ht : t < V.length) : ∃ y : S72, zs[P.length + (t + 1)]? = some d ∧ zs[P.length + t]? = some y ∧ BubI P d V Q t ((zs.set (P.length + (t + 1)) y).set (P.length + t) d) := by
  unfold BubI at h ⊢
  have e : zs = (P ++ V.take t) ++ V[t] :: ([] ++ d :: (V.drop (t + 1) ++ Q)) := by
    rw [h, List.take_succ_eq_append_getElem ht]
    simp only [List.append_assoc, List.cons_append, List.nil_append]
  have e1 : P.length + t = (P ++ V.take t).length := by rw [List.length_append, List.length_take]; omega
  have e2 : P.length + (t + 1) = (P ++ V.take t).length + 1 + ([] : List S72).length := by rw [List.length_nil, List.length_append, List.length_take]; omega
  refine ⟨V[t], ?_, ?_, ?_⟩
  · rw [e2, e]; exact two_at.2
  · rw [e1, e]; exact two_at.1
  · rw [e2, e1, e, List.set_comm _ _ (by omega), two_set, List.drop_eq_getElem_cons ht]
    simp only [List.append_assoc, List.singleton_append, List.cons_append, List.nil_append]

theorem bub_left0 (P : List S72) (d : S72) (V Q : List S72) : BubI P d V Q 0 (P ++ (([d] ++ V) ++ Q)) := by simp [BubI]
theorem bub_right0 (P : List S72) (d : S72) (U Q : List S72) : BubI P d U Q U.length (P ++ ((U ++ [d]) ++ Q)) := by simp [BubI]
def PdL (Z : List S72) (d : S72) (t : Nat) : Prop := ¬ ky Z t < d.f4
def PdR (Z : List S72) (d : S72) (t : Nat) : Prop := d.f4 < ky Z t
theorem get_mid {P V Q : List S72} {i : Nat} (hi : i < V.length) : (P ++ (V ++ Q))[P.length + i]? = V[i]? := by
  rw [List.getElem?_append_right (by omega), Nat.add_sub_cancel_left, List.getElem?_append_left hi]

set_option maxHeartbeats 1500000 in
set_option maxRecDepth 100000 in
theorem sym_left (P : List S72) (d : S72) (V Q : List S72) (a m b g n c : Nat) (w : World) (hV : Srt V) (ha : a = P.length) (hm : m = a + 1) (hb : b = m + V.length) (hr : Row w g (P ++ (([d] ++ V) ++ Q))) (hn : n = P.length + (([d] ++ V).length + Q.length)) (hs : n < 1000000000) :
    Calls Try.prog 116 #[.slice (some ⟨g, 0, none⟩) n c, .int .i64 (a : Int), .int .i64 (m : Int), .int .i64 (b : Int), .func (.func 92) #[] #[]] w (Sorted w g P ([d] ++ V) Q) := by
  have hnn : n = P.length + (1 + V.length) + Q.length := by rw [hn]; simp only [List.length_append, List.length_singleton]; omega
  have HN := Aside0.mk hnn
  have HS := Aside0.mk hs
  have HVS := Aside0.mk hV
  have HA := Aside0.mk ha
  have HM := Aside0.mk hm
  have HB := Aside0.mk hb
  have hal : a < 1000000000 := by omega
  have hml : m < 1000000000 := by omega
  have hbl : b < 1000000000 := by omega
  have c0 : ((m : Int) - (a : Int) == 1) = true := by rw [beq_iff_eq]; omega
  have q0 : (0 : Int) ≤ (m : Int) - (a : Int) := by omega
  obtain ⟨Z, hZ⟩ : ∃ Z, Z = P ++ (([d] ++ V) ++ Q) := ⟨_, rfl⟩
  have HZE := Aside0.mk hZ
  have hZl : Z.length = n := by rw [hZ, hnn]; simp only [List.length_append, List.length_singleton]; omega
  have HZL := Aside0.mk hZl
  have HD : Aside0 (Z[a]? = some d) := ⟨by
    have h := get_mid (P := P) (V := [d] ++ V) (Q := Q) (i := 0) (by simp)
    rw [hZ, ha]
    exact h⟩
  have HKY : Aside0 (∀ i, i < V.length → ky Z (m + i) = ky V i) := ⟨fun i hi => by
    have h := ky_mid (P := P ++ [d]) (V := V) (Q := Q) hi
    rw [hZ, hm, ha]
    simpa using h⟩
  rw [← hZ] at hr
  have HR := Aside0.mk hr
  clear hr hn hs hV ha hm hb hnn hZ hZl
  go_enter Try.func116, Try.ntmps116
  go_wp2_with fail
  go_loopg [10, 11] (b - m) (fun kq v10 v11 w' => ∃ i j : Nat, v10 = .int .i64 (i : Int) ∧ v11 = .int .i64 (j : Int) ∧ j - i ≤ kq ∧ Aside0 (Half (PdL Z d) m b i j) ∧ Aside0 (Row w' g Z) ∧ Aside0 (w.grownBy w' (some g)))
  case atStart => exact ⟨m, b, rfl, rfl, by omega, ⟨half_start _ _ _ (by have := HB.out; omega)⟩, HR, ⟨grown_refl _ _⟩⟩
  case round =>
    obtain ⟨i, j, rfl, rfl, hij, HH, HZ, HG⟩ := hrel
    have hmi := HH.out.le1
    have hle := HH.out.le2
    have hjb := HH.out.le3
    by_cases hlt : i < j
    · cases gk with
      | zero => omega
      | succ k1 =>
        have c1 : decide ((i : Int) < (j : Int)) = true := decide_eq_true (by omega)
        have c2 : decide (i < j) = true := decide_eq_true hlt
        have hil : i < 1000000000 := by omega
        have hjl : j < 1000000000 := by omega
        obtain ⟨h, hh⟩ : ∃ h, h = (i + j) / 2 := ⟨_, rfl⟩
        have hhl : h < n := by have := HB.out; have := HN.out; have := HM.out; have := HA.out; omega
        have HHN := Aside0.mk hhl
        have HAN := Aside0.mk (show a < n by have := HN.out; have := HA.out; omega)
        obtain ⟨y, hy⟩ : ∃ y, Z[h]? = some y := ⟨_, List.getElem?_eq_getElem (by rw [HZL.out]; exact hhl)⟩
        have HY := Aside0.mk hy
        have HHE := Aside0.mk (show ((i : Int) + (j : Int)) / 2 = (h : Int) by omega)
        have hhl2 : h < 1000000000 := by have := HS.out; omega
        have HIJ := Aside0.mk (show i ≤ h ∧ h < j by omega)
        have HK := Aside0.mk hij
        have HMO : Aside0 (∀ x y, m ≤ x → x ≤ y → y < b → PdL Z d x → PdL Z d y) := ⟨fun x y h1 h2 h3 h4 => by
          unfold PdL at h4 ⊢
          have e := ky_le HVS.out (i := x - m) (j := y - m) (by omega) (by have := HB.out; omega)
          rw [← HKY.out (x - m) (by have := HB.out; omega), ← HKY.out (y - m) (by have := HB.out; omega), show m + (x - m) = x by omega, show m + (y - m) = y by omega] at e
          omega⟩
        clear hmi hle hjb hlt hij hh hhl hy
        by_cases hc : y.f4 < d.f4
        · have ct : decide (cmpI y d < 0) = true := by rw [cmpI_lt]; exact decide_eq_true hc
          have HX : Aside0 (¬ PdL Z d h) := ⟨by show ¬ ¬ ky Z h < d.f4; rw [ky_of HY.out]; omega⟩
          clear hc
          go_upto_region 5 with (fail)
          rw [HHE.out]
          refine start_ (n := 11) (S := fun w' => Row w' g Z) (ds := []) #[false, false, false, false, false, false, false, false, false, false, false] (by kernel_rfl) rfl rfl ((Row.drew HZ.out)) (fun hHeld => ?_)
          refine pure_ (i := 0) (N := some 40) (v := ?_) (a' := ?_) #[true, false, false, false, false, false, false, false, false, false, false] rfl rfl (by kernel_rfl) (fun _ _ _ h => h) (Or.inl ⟨by rfl, ?_⟩) ?_ ?_
          rotate_left
          · intro w'
            go_simp
            with_reducible rfl
          rotate_left
          · simp only [Act.put, List.setIfInBounds_toArray, List.set_cons_zero, List.set_cons_succ, i64_w, i32_w]
            rfl
          refine pure_ (i := 1) (N := some 41) (v := ?_) (a' := ?_) #[true, true, false, false, false, false, false, false, false, false, false] rfl rfl (by kernel_rfl) (fun _ _ _ h => h) (Or.inl ⟨by rfl, ?_⟩) ?_ ?_
          rotate_left
          · intro w'
            go_simp
            with_reducible rfl
          rotate_left
          · simp only [Act.put, List.setIfInBounds_toArray, List.set_cons_zero, List.set_cons_succ, i64_w, i32_w]
            rfl
          refine pure_ (i := 2) (N := some 42) (v := ?_) (a' := ?_) #[true, true, true, false, false, false, false, false, false, false, false] rfl rfl (by kernel_rfl) (fun _ _ _ h => h) (Or.inl ⟨by rfl, ?_⟩) ?_ ?_
          rotate_left
          · intro w'
            go_simp
            with_reducible rfl
          rotate_left
          · simp only [Act.put, List.setIfInBounds_toArray, List.set_cons_zero, List.set_cons_succ, i64_w, i32_w]
            rfl
          refine pure_ (i := 3) (N := some 43) (v := .pointer (some ⟨g, h * 11, none⟩)) (a' := ?_) #[true, true, true, true, false, false, false, false, false, false, false] rfl rfl (by kernel_rfl) (fun _ _ _ h => h) (Or.inl ⟨by rfl, ?_⟩) ?_ ?_
          · intro w'
            exact idx_exec (by rfl) (by rfl) (by rfl) HHN.out
          rotate_left
          · simp only [Act.put, List.setIfInBounds_toArray, List.set_cons_zero, List.set_cons_succ, i64_w, i32_w]
            rfl
          refine pure_ (i := 5) (N := some 45) (v := ?_) (a' := ?_) #[true, true, true, true, false, true, false, false, false, false, false] rfl rfl (by kernel_rfl) (fun _ _ _ h => h) (Or.inl ⟨by rfl, ?_⟩) ?_ ?_
          rotate_left
          · intro w'
            go_simp
            with_reducible rfl
          rotate_left
          · simp only [Act.put, List.setIfInBounds_toArray, List.set_cons_zero, List.set_cons_succ, i64_w, i32_w]
            rfl
          refine pure_ (i := 6) (N := some 46) (v := ?_) (a' := ?_) #[true, true, true, true, false, true, true, false, false, false, false] rfl rfl (by kernel_rfl) (fun _ _ _ h => h) (Or.inl ⟨by rfl, ?_⟩) ?_ ?_
          rotate_left
          · intro w'
            go_simp
            with_reducible rfl
          rotate_left
          · simp only [Act.put, List.setIfInBounds_toArray, List.set_cons_zero, List.set_cons_succ, i64_w, i32_w]
            rfl
          refine pure_ (i := 7) (N := some 47) (v := .pointer (some ⟨g, a * 11, none⟩)) (a' := ?_) #[true, true, true, true, false, true, true, true, false, false, false] rfl rfl (by kernel_rfl) (fun _ _ _ h => h) (Or.inl ⟨by rfl, ?_⟩) ?_ ?_
          · intro w'
            exact idx_exec (by rfl) (by rfl) (by rfl) HAN.out
          rotate_left
          · simp only [Act.put, List.setIfInBounds_toArray, List.set_cons_zero, List.set_cons_succ, i64_w, i32_w]
            rfl
          refine take_ (i := 4) (N := some 44) (v := ev y) (a' := ?_) #[true, true, true, true, true, true, true, true, false, false, false] rfl rfl (by kernel_rfl) (fun _ _ _ h => h) (Or.inl ⟨by rfl, ?_⟩) hHeld ?_ ?_
          · intro w' s0
            exact row_load_exec s0 HY.out (by rfl) (by rfl)
          rotate_left
          · simp only [Act.put, List.setIfInBounds_toArray, List.set_cons_zero, List.set_cons_succ, i64_w, i32_w]
            rfl
          refine take_ (i := 8) (N := some 48) (v := ev d) (a' := ?_) #[true, true, true, true, true, true, true, true, true, false, false] rfl rfl (by kernel_rfl) (fun _ _ _ h => h) (Or.inl ⟨by rfl, ?_⟩) hHeld ?_ ?_
          · intro w' s0
            exact row_load_exec s0 HD.out (by rfl) (by rfl)
          rotate_left
          · simp only [Act.put, List.setIfInBounds_toArray, List.set_cons_zero, List.set_cons_succ, i64_w, i32_w]
            rfl
          refine one_ (i := 9) (N := some 49) #[true, true, true, true, true, true, true, true, true, true, false] rfl rfl (by kernel_rfl) (by decide) (fun K hK => ?_)
          refine goes_tmp Try.func92 (by kernel_rfl) rfl #[ev y, ev d] (by rfl) rfl rfl (by rfl) (by simp only [List.map_toArray, List.map_cons, List.map_nil]; rfl) ?_
          with_reducible refine (less_calls y d _).mono ?_
          rintro e w5 ⟨rfl, hb5⟩
          refine ⟨_, rfl, ?_⟩
          have HB5 := Aside0.mk (show Below wr.heap.size wr w5 from below_then (below_drew (Below.refl _ _)) (Nat.le_refl _) hb5)
          clear hb5
          refine hK.out _ _ ((Row.below HZ.out HB5.out)) (fun hHeld => ?_)
          clear hK K
          refine norm_ (a' := ?_) ?_ ?_
          rotate_left
          · show Act.put _ (some 49) _ = _
            simp only [Act.put, List.setIfInBounds_toArray, List.set_cons_zero, List.set_cons_succ, i64_w, i32_w]
            rfl
          refine pure_ (i := 10) (N := some 50) (v := ?_) (a' := ?_) #[true, true, true, true, true, true, true, true, true, true, true] rfl rfl (by kernel_rfl) (fun _ _ _ h => h) (Or.inl ⟨by rfl, ?_⟩) ?_ ?_
          rotate_left
          · intro w'
            go_simp
            with_reducible rfl
          rotate_left
          · simp only [Act.put, List.setIfInBounds_toArray, List.set_cons_zero, List.set_cons_succ, i64_w, i32_w]
            rfl
          refine done_ (by kernel_rfl) ?_
          go_wp2_with fail
          go_roundg k1
          case measure => have := HK.out; have := HIJ.out; omega
          case rel => exact ⟨h + 1, j, rfl, rfl, by have := HK.out; have := HIJ.out; omega, ⟨half_no HH.out HIJ.out.1 HIJ.out.2 HMO.out HX.out⟩, ⟨HZ.out.below HB5.out⟩, ⟨grown_of HG.out HB5.out⟩⟩
        · have ct : decide (cmpI y d < 0) = false := by rw [cmpI_lt]; exact decide_eq_false hc
          have HX : Aside0 (PdL Z d h) := ⟨by show ¬ ky Z h < d.f4; rw [ky_of HY.out]; exact hc⟩
          clear hc
          go_upto_region 5 with (fail)
          rw [HHE.out]
          refine start_ (n := 11) (S := fun w' => Row w' g Z) (ds := []) #[false, false, false, false, false, false, false, false, false, false, false] (by kernel_rfl) rfl rfl ((Row.drew HZ.out)) (fun hHeld => ?_)
          refine pure_ (i := 0) (N := some 40) (v := ?_) (a' := ?_) #[true, false, false, false, false, false, false, false, false, false, false] rfl rfl (by kernel_rfl) (fun _ _ _ h => h) (Or.inl ⟨by rfl, ?_⟩) ?_ ?_
          rotate_left
          · intro w'
            go_simp
            with_reducible rfl
          rotate_left
          · simp only [Act.put, List.setIfInBounds_toArray, List.set_cons_zero, List.set_cons_succ, i64_w, i32_w]
            rfl
          refine pure_ (i := 1) (N := some 41) (v := ?_) (a' := ?_) #[true, true, false, false, false, false, false, false, false, false, false] rfl rfl (by kernel_rfl) (fun _ _ _ h => h) (Or.inl ⟨by rfl, ?_⟩) ?_ ?_
          rotate_left
          · intro w'
            go_simp
            with_reducible rfl
          rotate_left
          · simp only [Act.put, List.setIfInBounds_toArray, List.set_cons_zero, List.set_cons_succ, i64_w, i32_w]
            rfl
          refine pure_ (i := 2) (N := some 42) (v := ?_) (a' := ?_) #[true, true, true, false, false, false, false, false, false, false, false] rfl rfl (by kernel_rfl) (fun _ _ _ h => h) (Or.inl ⟨by rfl, ?_⟩) ?_ ?_
          rotate_left
          · intro w'
            go_simp
            with_reducible rfl
          rotate_left
          · simp only [Act.put, List.setIfInBounds_toArray, List.set_cons_zero, List.set_cons_succ, i64_w, i32_w]
            rfl
          refine pure_ (i := 3) (N := some 43) (v := .pointer (some ⟨g, h * 11, none⟩)) (a' := ?_) #[true, true, true, true, false, false, false, false, false, false, false] rfl rfl (by kernel_rfl) (fun _ _ _ h => h) (Or.inl ⟨by rfl, ?_⟩) ?_ ?_
          · intro w'
            exact idx_exec (by rfl) (by rfl) (by rfl) HHN.out
          rotate_left
          · simp only [Act.put, List.setIfInBounds_toArray, List.set_cons_zero, List.set_cons_succ, i64_w, i32_w]
            rfl
          refine pure_ (i := 5) (N := some 45) (v := ?_) (a' := ?_) #[true, true, true, true, false, true, false, false, false, false, false] rfl rfl (by kernel_rfl) (fun _ _ _ h => h) (Or.inl ⟨by rfl, ?_⟩) ?_ ?_
          rotate_left
          · intro w'
            go_simp
            with_reducible rfl
          rotate_left
          · simp only [Act.put, List.setIfInBounds_toArray, List.set_cons_zero, List.set_cons_succ, i64_w, i32_w]
            rfl
          refine pure_ (i := 6) (N := some 46) (v := ?_) (a' := ?_) #[true, true, true, true, false, true, true, false, false, false, false] rfl rfl (by kernel_rfl) (fun _ _ _ h => h) (Or.inl ⟨by rfl, ?_⟩) ?_ ?_
          rotate_left
          · intro w'
            go_simp
            with_reducible rfl
          rotate_left
          · simp only [Act.put, List.setIfInBounds_toArray, List.set_cons_zero, List.set_cons_succ, i64_w, i32_w]
            rfl
          refine pure_ (i := 7) (N := some 47) (v := .pointer (some ⟨g, a * 11, none⟩)) (a' := ?_) #[true, true, true, true, false, true, true, true, false, false, false] rfl rfl (by kernel_rfl) (fun _ _ _ h => h) (Or.inl ⟨by rfl, ?_⟩) ?_ ?_
          · intro w'
            exact idx_exec (by rfl) (by rfl) (by rfl) HAN.out
          rotate_left
          · simp only [Act.put, List.setIfInBounds_toArray, List.set_cons_zero, List.set_cons_succ, i64_w, i32_w]
            rfl
          refine take_ (i := 4) (N := some 44) (v := ev y) (a' := ?_) #[true, true, true, true, true, true, true, true, false, false, false] rfl rfl (by kernel_rfl) (fun _ _ _ h => h) (Or.inl ⟨by rfl, ?_⟩) hHeld ?_ ?_
          · intro w' s0
            exact row_load_exec s0 HY.out (by rfl) (by rfl)
          rotate_left
          · simp only [Act.put, List.setIfInBounds_toArray, List.set_cons_zero, List.set_cons_succ, i64_w, i32_w]
            rfl
          refine take_ (i := 8) (N := some 48) (v := ev d) (a' := ?_) #[true, true, true, true, true, true, true, true, true, false, false] rfl rfl (by kernel_rfl) (fun _ _ _ h => h) (Or.inl ⟨by rfl, ?_⟩) hHeld ?_ ?_
          · intro w' s0
            exact row_load_exec s0 HD.out (by rfl) (by rfl)
          rotate_left
          · simp only [Act.put, List.setIfInBounds_toArray, List.set_cons_zero, List.set_cons_succ, i64_w, i32_w]
            rfl
          refine one_ (i := 9) (N := some 49) #[true, true, true, true, true, true, true, true, true, true, false] rfl rfl (by kernel_rfl) (by decide) (fun K hK => ?_)
          refine goes_tmp Try.func92 (by kernel_rfl) rfl #[ev y, ev d] (by rfl) rfl rfl (by rfl) (by simp only [List.map_toArray, List.map_cons, List.map_nil]; rfl) ?_
          with_reducible refine (less_calls y d _).mono ?_
          rintro e w5 ⟨rfl, hb5⟩
          refine ⟨_, rfl, ?_⟩
          have HB5 := Aside0.mk (show Below wr.heap.size wr w5 from below_then (below_drew (Below.refl _ _)) (Nat.le_refl _) hb5)
          clear hb5
          refine hK.out _ _ ((Row.below HZ.out HB5.out)) (fun hHeld => ?_)
          clear hK K
          refine norm_ (a' := ?_) ?_ ?_
          rotate_left
          · show Act.put _ (some 49) _ = _
            simp only [Act.put, List.setIfInBounds_toArray, List.set_cons_zero, List.set_cons_succ, i64_w, i32_w]
            rfl
          refine pure_ (i := 10) (N := some 50) (v := ?_) (a' := ?_) #[true, true, true, true, true, true, true, true, true, true, true] rfl rfl (by kernel_rfl) (fun _ _ _ h => h) (Or.inl ⟨by rfl, ?_⟩) ?_ ?_
          rotate_left
          · intro w'
            go_simp
            with_reducible rfl
          rotate_left
          · simp only [Act.put, List.setIfInBounds_toArray, List.set_cons_zero, List.set_cons_succ, i64_w, i32_w]
            rfl
          refine done_ (by kernel_rfl) ?_
          go_wp2_with fail
          go_roundg k1
          case measure => have := HK.out; have := HIJ.out; omega
          case rel => exact ⟨i, h, rfl, rfl, by have := HK.out; have := HIJ.out; omega, ⟨half_yes HH.out HIJ.out.1 HIJ.out.2 HMO.out HX.out⟩, ⟨HZ.out.below HB5.out⟩, ⟨grown_of HG.out HB5.out⟩⟩
    · have c1 : decide ((i : Int) < (j : Int)) = false := decide_eq_false (by omega)
      have c2 : decide (i < j) = false := decide_eq_false hlt
      obtain rfl : i = j := by omega
      have hil : i < 1000000000 := by omega
      have q1 : (0 : Int) ≤ (i : Int) - 1 := by have := HM.out; omega
      have q2 : (1 : Int) ≤ (i : Int) := by omega
      have HI := Aside0.mk (And.intro hmi hjb)
      clear hmi hle hjb hlt hij
      go_wp2_with fail
      go_loopg [13] (i - m) (fun kq v13 w' => ∃ (t : Nat) (zs : List S72), v13 = .int .i64 ((a + t : Nat) : Int) ∧ t + kq = i - m ∧ Aside0 (BubI P d V Q t zs) ∧ Aside0 (Row w' g zs) ∧ Aside0 (w.grownBy w' (some g)))
      case atStart => exact ⟨0, Z, rfl, by omega, ⟨by rw [HZE.out]; exact bub_left0 P d V Q⟩, HZ, HG⟩
      case round =>
        clear HZ HG
        obtain ⟨t, zs, rfl, ht, HBI, HZ, HG⟩ := hrel
        obtain ⟨k, hk⟩ : ∃ k, k = a + t := ⟨_, rfl⟩
        rw [← hk]
        have HKE := Aside0.mk hk
        have hi1 := HI.out
        have hm1 := HM.out
        have hb1 := HB.out
        cases gk with
        | zero =>
          have d1 : decide ((k : Int) < (i : Int) - 1) = false := decide_eq_false (by omega)
          have HT := Aside0.mk (show t = i - m by omega)
          clear hk ht hi1 hm1 hb1
          go_wp2_with fail
          go_end0
          have h1 := left_one (d := d) (V := V) (t := t) HVS.out (fun j hj hjv => by
            have h := HH.out.no (m + j) (by omega) (by have := HT.out; omega)
            unfold PdL at h
            rw [HKY.out j hjv] at h
            omega) (fun j hj hjv => by
            have h := HH.out.yes (m + j) (by have := HT.out; have := HI.out; omega) (by have := HB.out; omega)
            unfold PdL at h
            rw [HKY.out j hjv] at h
            exact h)
          have h2 := HBI.out
          unfold BubI at h2
          exact ⟨rfl, V.take t ++ d :: V.drop t, by rw [← h2]; exact HZ.out, h1.1, h1.2, by simp only [List.length_append, List.length_cons, List.length_take, List.length_drop, List.length_nil]; omega, HG.out⟩
        | succ k1 =>
          have d1 : decide ((k : Int) < (i : Int) - 1) = true := decide_eq_true (by omega)
          obtain ⟨y, hx, hy, hsw⟩ := bub_up HBI.out (by omega)
          rw [← HA.out, ← hk] at hx hy hsw
          obtain ⟨q, hq⟩ : ∃ q, q = k + 1 := ⟨_, rfl⟩
          rw [← hq] at hy hsw
          have HX := Aside0.mk hx
          have HY := Aside0.mk hy
          have HSW := Aside0.mk hsw
          have hlen := bub_len HBI.out
          have HQ := Aside0.mk (show wrap64 ((k : Int) + 1) = (q : Int) by rw [wrap_ok (by omega) (by omega)]; omega)
          have HKN := Aside0.mk (show k < n by have := HN.out; have := HA.out; omega)
          have HQN := Aside0.mk (show q < n by have := HN.out; have := HA.out; omega)
          have HKL := Aside0.mk (show k < zs.length by rw [hlen]; have := HA.out; omega)
          have HQL := Aside0.mk (show q < (zs.set k y).length by rw [List.length_set, hlen]; have := HA.out; omega)
          have hkl : k < 1000000000 := by omega
          have HT := Aside0.mk ht
          clear hk ht hi1 hm1 hb1 hx hy hsw hlen hq
          go_wp2_with fail
          refine start_ (n := 18) (S := fun w' => Row w' g zs) (ds := [15, 17]) #[false, false, false, false, false, false, false, false, false, false, false, false, false, false, false, false, false, false] (by kernel_rfl) rfl rfl ((Row.drew HZ.out)) (fun hHeld => ?_)
          refine pure_ (i := 0) (N := some 61) (v := ?_) (a' := ?_) #[true, false, false, false, false, false, false, false, false, false, false, false, false, false, false, false, false, false] rfl rfl (by kernel_rfl) (fun _ _ _ h => h) (Or.inl ⟨by rfl, ?_⟩) ?_ ?_
          rotate_left
          · intro w'
            go_simp
            with_reducible rfl
          rotate_left
          · simp only [Act.put, List.setIfInBounds_toArray, List.set_cons_zero, List.set_cons_succ, i64_w, i32_w]
            rfl
          refine pure_ (i := 1) (N := some 62) (v := ?_) (a' := ?_) #[true, true, false, false, false, false, false, false, false, false, false, false, false, false, false, false, false, false] rfl rfl (by kernel_rfl) (fun _ _ _ h => h) (Or.inl ⟨by rfl, ?_⟩) ?_ ?_
          rotate_left
          · intro w'
            go_simp
            with_reducible rfl
          rotate_left
          · simp only [Act.put, List.setIfInBounds_toArray, List.set_cons_zero, List.set_cons_succ, i64_w, i32_w]
            rfl
          refine pure_ (i := 2) (N := some 63) (v := ?_) (a' := ?_) #[true, true, true, false, false, false, false, false, false, false, false, false, false, false, false, false, false, false] rfl rfl (by kernel_rfl) (fun _ _ _ h => h) (Or.inl ⟨by rfl, ?_⟩) ?_ ?_
          rotate_left
          · intro w'
            go_simp
            with_reducible rfl
          rotate_left
          · simp only [Act.put, List.setIfInBounds_toArray, List.set_cons_zero, List.set_cons_succ, i64_w, i32_w]
            rfl
          refine pure_ (i := 3) (N := some 64) (v := ?_) (a' := ?_) #[true, true, true, true, false, false, false, false, false, false, false, false, false, false, false, false, false, false] rfl rfl (by kernel_rfl) (fun _ _ _ h => h) (Or.inl ⟨by rfl, ?_⟩) ?_ ?_
          rotate_left
          · intro w'
            go_simp
            with_reducible rfl
          rotate_left
          · simp only [Act.put, List.setIfInBounds_toArray, List.set_cons_zero, List.set_cons_succ, i64_w, i32_w]
            rfl
          refine pure_ (i := 4) (N := some 65) (v := .int .i64 (q : Int)) (a' := ?_) #[true, true, true, true, true, false, false, false, false, false, false, false, false, false, false, false, false, false] rfl rfl (by kernel_rfl) (fun _ _ _ h => h) (Or.inl ⟨by rfl, ?_⟩) ?_ ?_
          · intro w'
            exact add_exec (by rfl) (by rfl) (by rfl) HQ.out
          rotate_left
          · simp only [Act.put, List.setIfInBounds_toArray, List.set_cons_zero, List.set_cons_succ, i64_w, i32_w]
            rfl
          refine pure_ (i := 5) (N := some 66) (v := ?_) (a' := ?_) #[true, true, true, true, true, true, false, false, false, false, false, false, false, false, false, false, false, false] rfl rfl (by kernel_rfl) (fun _ _ _ h => h) (Or.inl ⟨by rfl, ?_⟩) ?_ ?_
          rotate_left
          · intro w'
            go_simp
            with_reducible rfl
          rotate_left
          · simp only [Act.put, List.setIfInBounds_toArray, List.set_cons_zero, List.set_cons_succ, i64_w, i32_w]
            rfl
          refine pure_ (i := 6) (N := some 67) (v := ?_) (a' := ?_) #[true, true, true, true, true, true, true, false, false, false, false, false, false, false, false, false, false, false] rfl rfl (by kernel_rfl) (fun _ _ _ h => h) (Or.inl ⟨by rfl, ?_⟩) ?_ ?_
          rotate_left
          · intro w'
            go_simp
            with_reducible rfl
          rotate_left
          · simp only [Act.put, List.setIfInBounds_toArray, List.set_cons_zero, List.set_cons_succ, i64_w, i32_w]
            rfl
          refine pure_ (i := 7) (N := some 68) (v := .int .i64 (q : Int)) (a' := ?_) #[true, true, true, true, true, true, true, true, false, false, false, false, false, false, false, false, false, false] rfl rfl (by kernel_rfl) (fun _ _ _ h => h) (Or.inl ⟨by rfl, ?_⟩) ?_ ?_
          · intro w'
            exact add_exec (by rfl) (by rfl) (by rfl) HQ.out
          rotate_left
          · simp only [Act.put, List.setIfInBounds_toArray, List.set_cons_zero, List.set_cons_succ, i64_w, i32_w]
            rfl
          refine pure_ (i := 8) (N := some 69) (v := .pointer (some ⟨g, q * 11, none⟩)) (a' := ?_) #[true, true, true, true, true, true, true, true, true, false, false, false, false, false, false, false, false, false] rfl rfl (by kernel_rfl) (fun _ _ _ h => h) (Or.inl ⟨by rfl, ?_⟩) ?_ ?_
          · intro w'
            exact idx_exec (by rfl) (by rfl) (by rfl) HQN.out
          rotate_left
          · simp only [Act.put, List.setIfInBounds_toArray, List.set_cons_zero, List.set_cons_succ, i64_w, i32_w]
            rfl
          refine pure_ (i := 10) (N := some 71) (v := ?_) (a' := ?_) #[true, true, true, true, true, true, true, true, true, false, true, false, false, false, false, false, false, false] rfl rfl (by kernel_rfl) (fun _ _ _ h => h) (Or.inl ⟨by rfl, ?_⟩) ?_ ?_
          rotate_left
          · intro w'
            go_simp
            with_reducible rfl
          rotate_left
          · simp only [Act.put, List.setIfInBounds_toArray, List.set_cons_zero, List.set_cons_succ, i64_w, i32_w]
            rfl
          refine pure_ (i := 11) (N := some 72) (v := ?_) (a' := ?_) #[true, true, true, true, true, true, true, true, true, false, true, true, false, false, false, false, false, false] rfl rfl (by kernel_rfl) (fun _ _ _ h => h) (Or.inl ⟨by rfl, ?_⟩) ?_ ?_
          rotate_left
          · intro w'
            go_simp
            with_reducible rfl
          rotate_left
          · simp only [Act.put, List.setIfInBounds_toArray, List.set_cons_zero, List.set_cons_succ, i64_w, i32_w]
            rfl
          refine pure_ (i := 12) (N := some 73) (v := .pointer (some ⟨g, k * 11, none⟩)) (a' := ?_) #[true, true, true, true, true, true, true, true, true, false, true, true, true, false, false, false, false, false] rfl rfl (by kernel_rfl) (fun _ _ _ h => h) (Or.inl ⟨by rfl, ?_⟩) ?_ ?_
          · intro w'
            exact idx_exec (by rfl) (by rfl) (by rfl) HKN.out
          rotate_left
          · simp only [Act.put, List.setIfInBounds_toArray, List.set_cons_zero, List.set_cons_succ, i64_w, i32_w]
            rfl
          refine take_ (i := 9) (N := some 70) (v := ev y) (a' := ?_) #[true, true, true, true, true, true, true, true, true, true, true, true, true, false, false, false, false, false] rfl rfl (by kernel_rfl) (fun _ _ _ h => h) (Or.inl ⟨by rfl, ?_⟩) hHeld ?_ ?_
          · intro w' s0
            exact row_load_exec s0 HY.out (by rfl) (by rfl)
          rotate_left
          · simp only [Act.put, List.setIfInBounds_toArray, List.set_cons_zero, List.set_cons_succ, i64_w, i32_w]
            rfl
          refine take_ (i := 13) (N := some 74) (v := ev d) (a' := ?_) #[true, true, true, true, true, true, true, true, true, true, true, true, true, true, false, false, false, false] rfl rfl (by kernel_rfl) (fun _ _ _ h => h) (Or.inl ⟨by rfl, ?_⟩) hHeld ?_ ?_
          · intro w' s0
            exact row_load_exec s0 HX.out (by rfl) (by rfl)
          rotate_left
          · simp only [Act.put, List.setIfInBounds_toArray, List.set_cons_zero, List.set_cons_succ, i64_w, i32_w]
            rfl
          refine pure_ (i := 14) (N := some 75) (v := .pointer (some ⟨g, k * 11, none⟩)) (a' := ?_) #[true, true, true, true, true, true, true, true, true, true, true, true, true, true, true, false, false, false] rfl rfl (by kernel_rfl) (fun _ _ _ h => h) (Or.inl ⟨by rfl, ?_⟩) ?_ ?_
          · intro w'
            exact idx_exec (by rfl) (by rfl) (by rfl) HKN.out
          rotate_left
          · simp only [Act.put, List.setIfInBounds_toArray, List.set_cons_zero, List.set_cons_succ, i64_w, i32_w]
            rfl
          refine last_ (i := 15) (N := none) #[true, true, true, true, true, true, true, true, true, true, true, true, true, true, true, true, false, false] rfl rfl (by kernel_rfl) (by decide) (fun K hK => ?_)
          refine skip_ (w1 := wr.drew.setCells g (k * 11) (ec y)) ?hw ?hN ?_ ?_
          case hw => rfl
          case hN => rfl
          · refine row_store_skip (W := wr.drew) (g := g) (i := k) (xs := zs) (d := y) (x := .tmp 75) (y := .tmp 70) (Row.drew HZ.out) HKL.out ?_ ?_ ?_
            · rfl
            · rfl
            · rfl
          refine hK.out _ _ ?_
          clear hK K
          refine pure_ (i := 16) (N := some 76) (v := .pointer (some ⟨g, q * 11, none⟩)) (a' := ?_) #[true, true, true, true, true, true, true, true, true, true, true, true, true, true, true, true, true, false] rfl rfl (by kernel_rfl) (fun _ _ _ h => h) (Or.inl ⟨by rfl, ?_⟩) ?_ ?_
          · intro w'
            exact idx_exec (by rfl) (by rfl) (by rfl) HQN.out
          rotate_left
          · simp only [Act.put, List.setIfInBounds_toArray, List.set_cons_zero, List.set_cons_succ, i64_w, i32_w]
            rfl
          refine last_ (i := 17) (N := none) #[true, true, true, true, true, true, true, true, true, true, true, true, true, true, true, true, true, true] rfl rfl (by kernel_rfl) (by decide) (fun K hK => ?_)
          have HRx := Aside0.mk (row_set (Row.drew HZ.out) HKL.out y)
          refine skip_ (w1 := (wr.drew.setCells g (k * 11) (ec y)).setCells g (q * 11) (ec d)) ?hw ?hN ?_ ?_
          case hw => rfl
          case hN => rfl
          · refine row_store_skip (W := wr.drew.setCells g (k * 11) (ec y)) (g := g) (i := q) (xs := zs.set k y) (d := d) (x := .tmp 76) (y := .tmp 74) HRx.out HQL.out ?_ ?_ ?_
            · rfl
            · rfl
            · rfl
          refine hK.out _ _ ?_
          clear hK K
          refine done_ (by kernel_rfl) ?_
          have HR6 := Aside0.mk (row_set HRx.out HQL.out d)
          have HG6 := Aside0.mk (grown_stored (grown_stored (grown_of HG.out (below_drew (Below.refl _ _))) (stored_cells wr.drew g (k * 11) (ec y))) (stored_cells _ g (q * 11) (ec d)))
          clear hHeld HRx
          go_wp2_with fail
          go_roundg k1
          case measure => have := HT.out; omega
          case rel => exact ⟨t + 1, _, by have := HKE.out; rw [show ((a + (t + 1) : Nat) : Int) = (k : Int) + 1 by omega], by have := HT.out; omega, HSW, HR6, HG6⟩

set_option maxHeartbeats 1500000 in
set_option maxRecDepth 100000 in
theorem sym_right (P : List S72) (d : S72) (U Q : List S72) (a m b g n c : Nat) (w : World) (hU : Srt U) (hu : 2 ≤ U.length) (ha : a = P.length) (hm : m = a + U.length) (hb : b = m + 1) (hr : Row w g (P ++ ((U ++ [d]) ++ Q))) (hn : n = P.length + ((U ++ [d]).length + Q.length)) (hs : n < 1000000000) :
    Calls Try.prog 116 #[.slice (some ⟨g, 0, none⟩) n c, .int .i64 (a : Int), .int .i64 (m : Int), .int .i64 (b : Int), .func (.func 92) #[] #[]] w (Sorted w g P (U ++ [d]) Q) := by
  have hnn : n = P.length + (U.length + 1) + Q.length := by rw [hn]; simp only [List.length_append, List.length_singleton]; omega
  have HN := Aside0.mk hnn
  have HS := Aside0.mk hs
  have HVS := Aside0.mk hU
  have HA := Aside0.mk ha
  have HM := Aside0.mk hm
  have HB := Aside0.mk hb
  have HU2 := Aside0.mk hu
  have hal : a < 1000000000 := by omega
  have hml : m < 1000000000 := by omega
  have hbl : b < 1000000000 := by omega
  have c00 : ((m : Int) - (a : Int) == 1) = false := by rw [beq_eq_false_iff_ne]; omega
  have c0 : ((b : Int) - (m : Int) == 1) = true := by rw [beq_iff_eq]; omega
  have q00 : (0 : Int) ≤ (m : Int) - (a : Int) := by omega
  have q0 : (0 : Int) ≤ (b : Int) - (m : Int) := by omega
  obtain ⟨Z, hZ⟩ : ∃ Z, Z = P ++ ((U ++ [d]) ++ Q) := ⟨_, rfl⟩
  have HZE := Aside0.mk hZ
  have hZl : Z.length = n := by rw [hZ, hnn]; simp only [List.length_append, List.length_singleton]; omega
  have HZL := Aside0.mk hZl
  have HD : Aside0 (Z[m]? = some d) := ⟨by
    have h := get_mid (P := P) (V := U ++ [d]) (Q := Q) (i := U.length) (by simp)
    rw [hZ, hm, ha, h, List.getElem?_append_right (Nat.le_refl _), Nat.sub_self]
    rfl⟩
  have HKY : Aside0 (∀ i, i < U.length → ky Z (a + i) = ky U i) := ⟨fun i hi => by
    have h := ky_mid (P := P) (V := U) (Q := [d] ++ Q) hi
    rw [hZ, ha]
    simpa using h⟩
  rw [← hZ] at hr
  have HR := Aside0.mk hr
  clear hr hn hs hU hu ha hm hb hnn hZ hZl
  go_enter Try.func116, Try.ntmps116
  go_wp2_with fail
  go_loopg [14, 15] (m - a) (fun kq v14 v15 w' => ∃ i j : Nat, v14 = .int .i64 (i : Int) ∧ v15 = .int .i64 (j : Int) ∧ j - i ≤ kq ∧ Aside0 (Half (PdR Z d) a m i j) ∧ Aside0 (Row w' g Z) ∧ Aside0 (w.grownBy w' (some g)))
  case atStart => exact ⟨a, m, rfl, rfl, by omega, ⟨half_start _ _ _ (by have := HM.out; omega)⟩, HR, ⟨grown_refl _ _⟩⟩
  case round =>
    obtain ⟨i, j, rfl, rfl, hij, HH, HZ, HG⟩ := hrel
    have hmi := HH.out.le1
    have hle := HH.out.le2
    have hjb := HH.out.le3
    by_cases hlt : i < j
    · cases gk with
      | zero => omega
      | succ k1 =>
        have c1 : decide ((i : Int) < (j : Int)) = true := decide_eq_true (by omega)
        have c2 : decide (i < j) = true := decide_eq_true hlt
        have hil : i < 1000000000 := by omega
        have hjl : j < 1000000000 := by omega
        obtain ⟨h, hh⟩ : ∃ h, h = (i + j) / 2 := ⟨_, rfl⟩
        have hhl : h < n := by have := HB.out; have := HN.out; have := HM.out; have := HA.out; omega
        have HHN := Aside0.mk hhl
        have HMN := Aside0.mk (show m < n by have := HN.out; have := HA.out; have := HM.out; omega)
        obtain ⟨y, hy⟩ : ∃ y, Z[h]? = some y := ⟨_, List.getElem?_eq_getElem (by rw [HZL.out]; exact hhl)⟩
        have HY := Aside0.mk hy
        have HHE := Aside0.mk (show ((i : Int) + (j : Int)) / 2 = (h : Int) by omega)
        have hhl2 : h < 1000000000 := by have := HS.out; omega
        have HIJ := Aside0.mk (show i ≤ h ∧ h < j by omega)
        have HK := Aside0.mk hij
        have HMO : Aside0 (∀ x y, a ≤ x → x ≤ y → y < m → PdR Z d x → PdR Z d y) := ⟨fun x y h1 h2 h3 h4 => by
          unfold PdR at h4 ⊢
          have e := ky_le HVS.out (i := x - a) (j := y - a) (by omega) (by have := HM.out; omega)
          rw [← HKY.out (x - a) (by have := HM.out; omega), ← HKY.out (y - a) (by have := HM.out; omega), show a + (x - a) = x by omega, show a + (y - a) = y by omega] at e
          omega⟩
        clear hmi hle hjb hlt hij hh hhl hy
        by_cases hc : d.f4 < y.f4
        · have ct : decide (cmpI d y < 0) = true := by rw [cmpI_lt]; exact decide_eq_true hc
          have HX : Aside0 (PdR Z d h) := ⟨by show d.f4 < ky Z h; rw [ky_of HY.out]; exact hc⟩
          clear hc
          go_upto_region 17 with (fail)
          rw [HHE.out]
          refine start_ (n := 12) (S := fun w' => Row w' g Z) (ds := []) #[false, false, false, false, false, false, false, false, false, false, false, false] (by kernel_rfl) rfl rfl ((Row.drew HZ.out)) (fun hHeld => ?_)
          refine pure_ (i := 0) (N := some 92) (v := ?_) (a' := ?_) #[true, false, false, false, false, false, false, false, false, false, false, false] rfl rfl (by kernel_rfl) (fun _ _ _ h => h) (Or.inl ⟨by rfl, ?_⟩) ?_ ?_
          rotate_left
          · intro w'
            go_simp
            with_reducible rfl
          rotate_left
          · simp only [Act.put, List.setIfInBounds_toArray, List.set_cons_zero, List.set_cons_succ, i64_w, i32_w]
            rfl
          refine pure_ (i := 1) (N := some 93) (v := ?_) (a' := ?_) #[true, true, false, false, false, false, false, false, false, false, false, false] rfl rfl (by kernel_rfl) (fun _ _ _ h => h) (Or.inl ⟨by rfl, ?_⟩) ?_ ?_
          rotate_left
          · intro w'
            go_simp
            with_reducible rfl
          rotate_left
          · simp only [Act.put, List.setIfInBounds_toArray, List.set_cons_zero, List.set_cons_succ, i64_w, i32_w]
            rfl
          refine pure_ (i := 2) (N := some 94) (v := ?_) (a' := ?_) #[true, true, true, false, false, false, false, false, false, false, false, false] rfl rfl (by kernel_rfl) (fun _ _ _ h => h) (Or.inl ⟨by rfl, ?_⟩) ?_ ?_
          rotate_left
          · intro w'
            go_simp
            with_reducible rfl
          rotate_left
          · simp only [Act.put, List.setIfInBounds_toArray, List.set_cons_zero, List.set_cons_succ, i64_w, i32_w]
            rfl
          refine pure_ (i := 3) (N := some 95) (v := .pointer (some ⟨g, m * 11, none⟩)) (a' := ?_) #[true, true, true, true, false, false, false, false, false, false, false, false] rfl rfl (by kernel_rfl) (fun _ _ _ h => h) (Or.inl ⟨by rfl, ?_⟩) ?_ ?_
          · intro w'
            exact idx_exec (by rfl) (by rfl) (by rfl) HMN.out
          rotate_left
          · simp only [Act.put, List.setIfInBounds_toArray, List.set_cons_zero, List.set_cons_succ, i64_w, i32_w]
            rfl
          refine pure_ (i := 5) (N := some 97) (v := ?_) (a' := ?_) #[true, true, true, true, false, true, false, false, false, false, false, false] rfl rfl (by kernel_rfl) (fun _ _ _ h => h) (Or.inl ⟨by rfl, ?_⟩) ?_ ?_
          rotate_left
          · intro w'
            go_simp
            with_reducible rfl
          rotate_left
          · simp only [Act.put, List.setIfInBounds_toArray, List.set_cons_zero, List.set_cons_succ, i64_w, i32_w]
            rfl
          refine pure_ (i := 6) (N := some 98) (v := ?_) (a' := ?_) #[true, true, true, true, false, true, true, false, false, false, false, false] rfl rfl (by kernel_rfl) (fun _ _ _ h => h) (Or.inl ⟨by rfl, ?_⟩) ?_ ?_
          rotate_left
          · intro w'
            go_simp
            with_reducible rfl
          rotate_left
          · simp only [Act.put, List.setIfInBounds_toArray, List.set_cons_zero, List.set_cons_succ, i64_w, i32_w]
            rfl
          refine pure_ (i := 7) (N := some 99) (v := .pointer (some ⟨g, h * 11, none⟩)) (a' := ?_) #[true, true, true, true, false, true, true, true, false, false, false, false] rfl rfl (by kernel_rfl) (fun _ _ _ h => h) (Or.inl ⟨by rfl, ?_⟩) ?_ ?_
          · intro w'
            exact idx_exec (by rfl) (by rfl) (by rfl) HHN.out
          rotate_left
          · simp only [Act.put, List.setIfInBounds_toArray, List.set_cons_zero, List.set_cons_succ, i64_w, i32_w]
            rfl
          refine take_ (i := 4) (N := some 96) (v := ev d) (a' := ?_) #[true, true, true, true, true, true, true, true, false, false, false, false] rfl rfl (by kernel_rfl) (fun _ _ _ h => h) (Or.inl ⟨by rfl, ?_⟩) hHeld ?_ ?_
          · intro w' s0
            exact row_load_exec s0 HD.out (by rfl) (by rfl)
          rotate_left
          · simp only [Act.put, List.setIfInBounds_toArray, List.set_cons_zero, List.set_cons_succ, i64_w, i32_w]
            rfl
          refine take_ (i := 8) (N := some 100) (v := ev y) (a' := ?_) #[true, true, true, true, true, true, true, true, true, false, false, false] rfl rfl (by kernel_rfl) (fun _ _ _ h => h) (Or.inl ⟨by rfl, ?_⟩) hHeld ?_ ?_
          · intro w' s0
            exact row_load_exec s0 HY.out (by rfl) (by rfl)
          rotate_left
          · simp only [Act.put, List.setIfInBounds_toArray, List.set_cons_zero, List.set_cons_succ, i64_w, i32_w]
            rfl
          refine one_ (i := 9) (N := some 101) #[true, true, true, true, true, true, true, true, true, true, false, false] rfl rfl (by kernel_rfl) (by decide) (fun K hK => ?_)
          refine goes_tmp Try.func92 (by kernel_rfl) rfl #[ev d, ev y] (by rfl) rfl rfl (by rfl) (by simp only [List.map_toArray, List.map_cons, List.map_nil]; rfl) ?_
          with_reducible refine (less_calls d y _).mono ?_
          rintro e w5 ⟨rfl, hb5⟩
          refine ⟨_, rfl, ?_⟩
          have HB5 := Aside0.mk (show Below wr.heap.size wr w5 from below_then (below_drew (Below.refl _ _)) (Nat.le_refl _) hb5)
          clear hb5
          refine hK.out _ _ ((Row.below HZ.out HB5.out)) (fun hHeld => ?_)
          clear hK K
          refine norm_ (a' := ?_) ?_ ?_
          rotate_left
          · show Act.put _ (some 101) _ = _
            simp only [Act.put, List.setIfInBounds_toArray, List.set_cons_zero, List.set_cons_succ, i64_w, i32_w]
            rfl
          refine pure_ (i := 10) (N := some 102) (v := ?_) (a' := ?_) #[true, true, true, true, true, true, true, true, true, true, true, false] rfl rfl (by kernel_rfl) (fun _ _ _ h => h) (Or.inl ⟨by rfl, ?_⟩) ?_ ?_
          rotate_left
          · intro w'
            go_simp
            with_reducible rfl
          rotate_left
          · simp only [Act.put, List.setIfInBounds_toArray, List.set_cons_zero, List.set_cons_succ, i64_w, i32_w]
            rfl
          refine pure_ (i := 11) (N := some 103) (v := ?_) (a' := ?_) #[true, true, true, true, true, true, true, true, true, true, true, true] rfl rfl (by kernel_rfl) (fun _ _ _ h => h) (Or.inl ⟨by rfl, ?_⟩) ?_ ?_
          rotate_left
          · intro w'
            go_simp
            with_reducible rfl
          rotate_left
          · simp only [Act.put, List.setIfInBounds_toArray, List.set_cons_zero, List.set_cons_succ, i64_w, i32_w]
            rfl
          refine done_ (by kernel_rfl) ?_
          go_wp2_with fail
          go_roundg k1
          case measure => have := HK.out; have := HIJ.out; omega
          case rel => exact ⟨i, h, rfl, rfl, by have := HK.out; have := HIJ.out; omega, ⟨half_yes HH.out HIJ.out.1 HIJ.out.2 HMO.out HX.out⟩, ⟨HZ.out.below HB5.out⟩, ⟨grown_of HG.out HB5.out⟩⟩
        · have ct : decide (cmpI d y < 0) = false := by rw [cmpI_lt]; exact decide_eq_false hc
          have HX : Aside0 (¬ PdR Z d h) := ⟨by show ¬ d.f4 < ky Z h; rw [ky_of HY.out]; exact hc⟩
          clear hc
          go_upto_region 17 with (fail)
          rw [HHE.out]
          refine start_ (n := 12) (S := fun w' => Row w' g Z) (ds := []) #[false, false, false, false, false, false, false, false, false, false, false, false] (by kernel_rfl) rfl rfl ((Row.drew HZ.out)) (fun hHeld => ?_)
          refine pure_ (i := 0) (N := some 92) (v := ?_) (a' := ?_) #[true, false, false, false, false, false, false, false, false, false, false, false] rfl rfl (by kernel_rfl) (fun _ _ _ h => h) (Or.inl ⟨by rfl, ?_⟩) ?_ ?_
          rotate_left
          · intro w'
            go_simp
            with_reducible rfl
          rotate_left
          · simp only [Act.put, List.setIfInBounds_toArray, List.set_cons_zero, List.set_cons_succ, i64_w, i32_w]
            rfl
          refine pure_ (i := 1) (N := some 93) (v := ?_) (a' := ?_) #[true, true, false, false, false, false, false, false, false, false, false, false] rfl rfl (by kernel_rfl) (fun _ _ _ h => h) (Or.inl ⟨by rfl, ?_⟩) ?_ ?_
          rotate_left
          · intro w'
            go_simp
            with_reducible rfl
          rotate_left
          · simp only [Act.put, List.setIfInBounds_toArray, List.set_cons_zero, List.set_cons_succ, i64_w, i32_w]
            rfl
          refine pure_ (i := 2) (N := some 94) (v := ?_) (a' := ?_) #[true, true, true, false, false, false, false, false, false, false, false, false] rfl rfl (by kernel_rfl) (fun _ _ _ h => h) (Or.inl ⟨by rfl, ?_⟩) ?_ ?_
          rotate_left
          · intro w'
            go_simp
            with_reducible rfl
          rotate_left
          · simp only [Act.put, List.setIfInBounds_toArray, List.set_cons_zero, List.set_cons_succ, i64_w, i32_w]
            rfl
          refine pure_ (i := 3) (N := some 95) (v := .pointer (some ⟨g, m * 11, none⟩)) (a' := ?_) #[true, true, true, true, false, false, false, false, false, false, false, false] rfl rfl (by kernel_rfl) (fun _ _ _ h => h) (Or.inl ⟨by rfl, ?_⟩) ?_ ?_
          · intro w'
            exact idx_exec (by rfl) (by rfl) (by rfl) HMN.out
          rotate_left
          · simp only [Act.put, List.setIfInBounds_toArray, List.set_cons_zero, List.set_cons_succ, i64_w, i32_w]
            rfl
          refine pure_ (i := 5) (N := some 97) (v := ?_) (a' := ?_) #[true, true, true, true, false, true, false, false, false, false, false, false] rfl rfl (by kernel_rfl) (fun _ _ _ h => h) (Or.inl ⟨by rfl, ?_⟩) ?_ ?_
          rotate_left
          · intro w'
            go_simp
            with_reducible rfl
          rotate_left
          · simp only [Act.put, List.setIfInBounds_toArray, List.set_cons_zero, List.set_cons_succ, i64_w, i32_w]
            rfl
          refine pure_ (i := 6) (N := some 98) (v := ?_) (a' := ?_) #[true, true, true, true, false, true, true, false, false, false, false, false] rfl rfl (by kernel_rfl) (fun _ _ _ h => h) (Or.inl ⟨by rfl, ?_⟩) ?_ ?_
          rotate_left
          · intro w'
            go_simp
            with_reducible rfl
          rotate_left
          · simp only [Act.put, List.setIfInBounds_toArray, List.set_cons_zero, List.set_cons_succ, i64_w, i32_w]
            rfl
          refine pure_ (i := 7) (N := some 99) (v := .pointer (some ⟨g, h * 11, none⟩)) (a' := ?_) #[true, true, true, true, false, true, true, true, false, false, false, false] rfl rfl (by kernel_rfl) (fun _ _ _ h => h) (Or.inl ⟨by rfl, ?_⟩) ?_ ?_
          · intro w'
            exact idx_exec (by rfl) (by rfl) (by rfl) HHN.out
          rotate_left
          · simp only [Act.put, List.setIfInBounds_toArray, List.set_cons_zero, List.set_cons_succ, i64_w, i32_w]
            rfl
          refine take_ (i := 4) (N := some 96) (v := ev d) (a' := ?_) #[true, true, true, true, true, true, true, true, false, false, false, false] rfl rfl (by kernel_rfl) (fun _ _ _ h => h) (Or.inl ⟨by rfl, ?_⟩) hHeld ?_ ?_
          · intro w' s0
            exact row_load_exec s0 HD.out (by rfl) (by rfl)
          rotate_left
          · simp only [Act.put, List.setIfInBounds_toArray, List.set_cons_zero, List.set_cons_succ, i64_w, i32_w]
            rfl
          refine take_ (i := 8) (N := some 100) (v := ev y) (a' := ?_) #[true, true, true, true, true, true, true, true, true, false, false, false] rfl rfl (by kernel_rfl) (fun _ _ _ h => h) (Or.inl ⟨by rfl, ?_⟩) hHeld ?_ ?_
          · intro w' s0
            exact row_load_exec s0 HY.out (by rfl) (by rfl)
          rotate_left
          · simp only [Act.put, List.setIfInBounds_toArray, List.set_cons_zero, List.set_cons_succ, i64_w, i32_w]
            rfl
          refine one_ (i := 9) (N := some 101) #[true, true, true, true, true, true, true, true, true, true, false, false] rfl rfl (by kernel_rfl) (by decide) (fun K hK => ?_)
          refine goes_tmp Try.func92 (by kernel_rfl) rfl #[ev d, ev y] (by rfl) rfl rfl (by rfl) (by simp only [List.map_toArray, List.map_cons, List.map_nil]; rfl) ?_
          with_reducible refine (less_calls d y _).mono ?_
          rintro e w5 ⟨rfl, hb5⟩
          refine ⟨_, rfl, ?_⟩
          have HB5 := Aside0.mk (show Below wr.heap.size wr w5 from below_then (below_drew (Below.refl _ _)) (Nat.le_refl _) hb5)
          clear hb5
          refine hK.out _ _ ((Row.below HZ.out HB5.out)) (fun hHeld => ?_)
          clear hK K
          refine norm_ (a' := ?_) ?_ ?_
          rotate_left
          · show Act.put _ (some 101) _ = _
            simp only [Act.put, List.setIfInBounds_toArray, List.set_cons_zero, List.set_cons_succ, i64_w, i32_w]
            rfl
          refine pure_ (i := 10) (N := some 102) (v := ?_) (a' := ?_) #[true, true, true, true, true, true, true, true, true, true, true, false] rfl rfl (by kernel_rfl) (fun _ _ _ h => h) (Or.inl ⟨by rfl, ?_⟩) ?_ ?_
          rotate_left
          · intro w'
            go_simp
            with_reducible rfl
          rotate_left
          · simp only [Act.put, List.setIfInBounds_toArray, List.set_cons_zero, List.set_cons_succ, i64_w, i32_w]
            rfl
          refine pure_ (i := 11) (N := some 103) (v := ?_) (a' := ?_) #[true, true, true, true, true, true, true, true, true, true, true, true] rfl rfl (by kernel_rfl) (fun _ _ _ h => h) (Or.inl ⟨by rfl, ?_⟩) ?_ ?_
          rotate_left
          · intro w'
            go_simp
            with_reducible rfl
          rotate_left
          · simp only [Act.put, List.setIfInBounds_toArray, List.set_cons_zero, List.set_cons_succ, i64_w, i32_w]
            rfl
          refine done_ (by kernel_rfl) ?_
          go_wp2_with fail
          go_roundg k1
          case measure => have := HK.out; have := HIJ.out; omega
          case rel => exact ⟨h + 1, j, rfl, rfl, by have := HK.out; have := HIJ.out; omega, ⟨half_no HH.out HIJ.out.1 HIJ.out.2 HMO.out HX.out⟩, ⟨HZ.out.below HB5.out⟩, ⟨grown_of HG.out HB5.out⟩⟩
    · have c1 : decide ((i : Int) < (j : Int)) = false := decide_eq_false (by omega)
      have c2 : decide (i < j) = false := decide_eq_false hlt
      obtain rfl : i = j := by omega
      have hil : i < 1000000000 := by omega
      have HI := Aside0.mk (And.intro hmi hjb)
      clear hmi hle hjb hlt hij
      go_wp2_with fail
      go_loopg [17] (m - i) (fun kq v17 w' => ∃ (k : Nat) (zs : List S72), v17 = .int .i64 (k : Int) ∧ k = i + kq ∧ k ≤ m ∧ Aside0 (BubI P d U Q (k - a) zs) ∧ Aside0 (Row w' g zs) ∧ Aside0 (w.grownBy w' (some g)))
      case atStart => exact ⟨m, Z, rfl, by have := HI.out; omega, Nat.le_refl _, ⟨by rw [HZE.out, show m - a = U.length by have := HM.out; omega]; exact bub_right0 P d U Q⟩, HZ, HG⟩
      case round =>
        clear HZ HG
        obtain ⟨k, zs, rfl, hk, hkm, HBI, HZ, HG⟩ := hrel
        have hi1 := HI.out
        have hm1 := HM.out
        have hb1 := HB.out
        cases gk with
        | zero =>
          have d1 : decide ((i : Int) < (k : Int)) = false := decide_eq_false (by omega)
          have d2 : decide (i < k) = false := decide_eq_false (by omega)
          have HT := Aside0.mk (show k = i by omega)
          clear hk hkm hi1 hm1 hb1
          go_wp2_with fail
          go_end0
          have h1 := right_one (d := d) (U := U) (t := k - a) HVS.out (fun j hj hjv => by
            have h := HH.out.no (a + j) (by omega) (by have := HT.out; omega)
            unfold PdR at h
            rw [HKY.out j hjv] at h
            exact h) (fun j hj hjv => by
            have h := HH.out.yes (a + j) (by have := HT.out; have := HI.out; omega) (by have := HM.out; omega)
            unfold PdR at h
            rw [HKY.out j hjv] at h
            exact h)
          have h2 := HBI.out
          unfold BubI at h2
          exact ⟨rfl, U.take (k - a) ++ d :: U.drop (k - a), by rw [← h2]; exact HZ.out, h1.1, h1.2, by simp only [List.length_append, List.length_cons, List.length_take, List.length_drop, List.length_nil]; omega, HG.out⟩
        | succ k1 =>
          have d1 : decide ((i : Int) < (k : Int)) = true := decide_eq_true (by omega)
          have d2 : decide (i < k) = true := decide_eq_true (by omega)
          obtain ⟨q, hq⟩ : ∃ q, q = k - 1 := ⟨_, rfl⟩
          have hb2 := HBI.out
          rw [show k - a = (q - a) + 1 by omega] at hb2
          obtain ⟨y, hx, hy, hsw⟩ := bub_down hb2 (by omega)
          rw [← HA.out, show a + (q - a) = q by omega] at hy hsw
          rw [← HA.out, show a + (q - a + 1) = k by omega] at hx
          rw [show a + (q - a + 1) = k by omega] at hsw
          have HX := Aside0.mk hx
          have HY := Aside0.mk hy
          have HSW := Aside0.mk hsw
          have hlen := bub_len HBI.out
          have HQ := Aside0.mk (show wrap64 ((k : Int) - 1) = (q : Int) by rw [wrap_ok (by omega) (by omega)]; omega)
          have HKN := Aside0.mk (show k < n by have := HN.out; have := HA.out; omega)
          have HQN := Aside0.mk (show q < n by have := HN.out; have := HA.out; omega)
          have HKL := Aside0.mk (show k < zs.length by rw [hlen]; have := HA.out; omega)
          have HQL := Aside0.mk (show q < (zs.set k y).length by rw [List.length_set, hlen]; have := HA.out; omega)
          have hkl : k < 1000000000 := by omega
          have HT := Aside0.mk (And.intro hk (And.intro hkm hq))
          clear hk hkm hi1 hm1 hb1 hx hy hsw hlen hq hb2
          go_wp2_with fail
          refine start_ (n := 18) (S := fun w' => Row w' g zs) (ds := [15, 17]) #[false, false, false, false, false, false, false, false, false, false, false, false, false, false, false, false, false, false] (by kernel_rfl) rfl rfl ((Row.drew HZ.out)) (fun hHeld => ?_)
          refine pure_ (i := 0) (N := some 113) (v := ?_) (a' := ?_) #[true, false, false, false, false, false, false, false, false, false, false, false, false, false, false, false, false, false] rfl rfl (by kernel_rfl) (fun _ _ _ h => h) (Or.inl ⟨by rfl, ?_⟩) ?_ ?_
          rotate_left
          · intro w'
            go_simp
            with_reducible rfl
          rotate_left
          · simp only [Act.put, List.setIfInBounds_toArray, List.set_cons_zero, List.set_cons_succ, i64_w, i32_w]
            rfl
          refine pure_ (i := 1) (N := some 114) (v := ?_) (a' := ?_) #[true, true, false, false, false, false, false, false, false, false, false, false, false, false, false, false, false, false] rfl rfl (by kernel_rfl) (fun _ _ _ h => h) (Or.inl ⟨by rfl, ?_⟩) ?_ ?_
          rotate_left
          · intro w'
            go_simp
            with_reducible rfl
          rotate_left
          · simp only [Act.put, List.setIfInBounds_toArray, List.set_cons_zero, List.set_cons_succ, i64_w, i32_w]
            rfl
          refine pure_ (i := 2) (N := some 115) (v := ?_) (a' := ?_) #[true, true, true, false, false, false, false, false, false, false, false, false, false, false, false, false, false, false] rfl rfl (by kernel_rfl) (fun _ _ _ h => h) (Or.inl ⟨by rfl, ?_⟩) ?_ ?_
          rotate_left
          · intro w'
            go_simp
            with_reducible rfl
          rotate_left
          · simp only [Act.put, List.setIfInBounds_toArray, List.set_cons_zero, List.set_cons_succ, i64_w, i32_w]
            rfl
          refine pure_ (i := 3) (N := some 116) (v := ?_) (a' := ?_) #[true, true, true, true, false, false, false, false, false, false, false, false, false, false, false, false, false, false] rfl rfl (by kernel_rfl) (fun _ _ _ h => h) (Or.inl ⟨by rfl, ?_⟩) ?_ ?_
          rotate_left
          · intro w'
            go_simp
            with_reducible rfl
          rotate_left
          · simp only [Act.put, List.setIfInBounds_toArray, List.set_cons_zero, List.set_cons_succ, i64_w, i32_w]
            rfl
          refine pure_ (i := 4) (N := some 117) (v := .int .i64 (q : Int)) (a' := ?_) #[true, true, true, true, true, false, false, false, false, false, false, false, false, false, false, false, false, false] rfl rfl (by kernel_rfl) (fun _ _ _ h => h) (Or.inl ⟨by rfl, ?_⟩) ?_ ?_
          · intro w'
            exact sub_exec (by rfl) (by rfl) (by rfl) HQ.out
          rotate_left
          · simp only [Act.put, List.setIfInBounds_toArray, List.set_cons_zero, List.set_cons_succ, i64_w, i32_w]
            rfl
          refine pure_ (i := 5) (N := some 118) (v := ?_) (a' := ?_) #[true, true, true, true, true, true, false, false, false, false, false, false, false, false, false, false, false, false] rfl rfl (by kernel_rfl) (fun _ _ _ h => h) (Or.inl ⟨by rfl, ?_⟩) ?_ ?_
          rotate_left
          · intro w'
            go_simp
            with_reducible rfl
          rotate_left
          · simp only [Act.put, List.setIfInBounds_toArray, List.set_cons_zero, List.set_cons_succ, i64_w, i32_w]
            rfl
          refine pure_ (i := 6) (N := some 119) (v := ?_) (a' := ?_) #[true, true, true, true, true, true, true, false, false, false, false, false, false, false, false, false, false, false] rfl rfl (by kernel_rfl) (fun _ _ _ h => h) (Or.inl ⟨by rfl, ?_⟩) ?_ ?_
          rotate_left
          · intro w'
            go_simp
            with_reducible rfl
          rotate_left
          · simp only [Act.put, List.setIfInBounds_toArray, List.set_cons_zero, List.set_cons_succ, i64_w, i32_w]
            rfl
          refine pure_ (i := 7) (N := some 120) (v := .int .i64 (q : Int)) (a' := ?_) #[true, true, true, true, true, true, true, true, false, false, false, false, false, false, false, false, false, false] rfl rfl (by kernel_rfl) (fun _ _ _ h => h) (Or.inl ⟨by rfl, ?_⟩) ?_ ?_
          · intro w'
            exact sub_exec (by rfl) (by rfl) (by rfl) HQ.out
          rotate_left
          · simp only [Act.put, List.setIfInBounds_toArray, List.set_cons_zero, List.set_cons_succ, i64_w, i32_w]
            rfl
          refine pure_ (i := 8) (N := some 121) (v := .pointer (some ⟨g, q * 11, none⟩)) (a' := ?_) #[true, true, true, true, true, true, true, true, true, false, false, false, false, false, false, false, false, false] rfl rfl (by kernel_rfl) (fun _ _ _ h => h) (Or.inl ⟨by rfl, ?_⟩) ?_ ?_
          · intro w'
            exact idx_exec (by rfl) (by rfl) (by rfl) HQN.out
          rotate_left
          · simp only [Act.put, List.setIfInBounds_toArray, List.set_cons_zero, List.set_cons_succ, i64_w, i32_w]
            rfl
          refine pure_ (i := 10) (N := some 123) (v := ?_) (a' := ?_) #[true, true, true, true, true, true, true, true, true, false, true, false, false, false, false, false, false, false] rfl rfl (by kernel_rfl) (fun _ _ _ h => h) (Or.inl ⟨by rfl, ?_⟩) ?_ ?_
          rotate_left
          · intro w'
            go_simp
            with_reducible rfl
          rotate_left
          · simp only [Act.put, List.setIfInBounds_toArray, List.set_cons_zero, List.set_cons_succ, i64_w, i32_w]
            rfl
          refine pure_ (i := 11) (N := some 124) (v := ?_) (a' := ?_) #[true, true, true, true, true, true, true, true, true, false, true, true, false, false, false, false, false, false] rfl rfl (by kernel_rfl) (fun _ _ _ h => h) (Or.inl ⟨by rfl, ?_⟩) ?_ ?_
          rotate_left
          · intro w'
            go_simp
            with_reducible rfl
          rotate_left
          · simp only [Act.put, List.setIfInBounds_toArray, List.set_cons_zero, List.set_cons_succ, i64_w, i32_w]
            rfl
          refine pure_ (i := 12) (N := some 125) (v := .pointer (some ⟨g, k * 11, none⟩)) (a' := ?_) #[true, true, true, true, true, true, true, true, true, false, true, true, true, false, false, false, false, false] rfl rfl (by kernel_rfl) (fun _ _ _ h => h) (Or.inl ⟨by rfl, ?_⟩) ?_ ?_
          · intro w'
            exact idx_exec (by rfl) (by rfl) (by rfl) HKN.out
          rotate_left
          · simp only [Act.put, List.setIfInBounds_toArray, List.set_cons_zero, List.set_cons_succ, i64_w, i32_w]
            rfl
          refine take_ (i := 9) (N := some 122) (v := ev y) (a' := ?_) #[true, true, true, true, true, true, true, true, true, true, true, true, true, false, false, false, false, false] rfl rfl (by kernel_rfl) (fun _ _ _ h => h) (Or.inl ⟨by rfl, ?_⟩) hHeld ?_ ?_
          · intro w' s0
            exact row_load_exec s0 HY.out (by rfl) (by rfl)
          rotate_left
          · simp only [Act.put, List.setIfInBounds_toArray, List.set_cons_zero, List.set_cons_succ, i64_w, i32_w]
            rfl
          refine take_ (i := 13) (N := some 126) (v := ev d) (a' := ?_) #[true, true, true, true, true, true, true, true, true, true, true, true, true, true, false, false, false, false] rfl rfl (by kernel_rfl) (fun _ _ _ h => h) (Or.inl ⟨by rfl, ?_⟩) hHeld ?_ ?_
          · intro w' s0
            exact row_load_exec s0 HX.out (by rfl) (by rfl)
          rotate_left
          · simp only [Act.put, List.setIfInBounds_toArray, List.set_cons_zero, List.set_cons_succ, i64_w, i32_w]
            rfl
          refine pure_ (i := 14) (N := some 127) (v := .pointer (some ⟨g, k * 11, none⟩)) (a' := ?_) #[true, true, true, true, true, true, true, true, true, true, true, true, true, true, true, false, false, false] rfl rfl (by kernel_rfl) (fun _ _ _ h => h) (Or.inl ⟨by rfl, ?_⟩) ?_ ?_
          · intro w'
            exact idx_exec (by rfl) (by rfl) (by rfl) HKN.out
          rotate_left
          · simp only [Act.put, List.setIfInBounds_toArray, List.set_cons_zero, List.set_cons_succ, i64_w, i32_w]
            rfl
          refine last_ (i := 15) (N := none) #[true, true, true, true, true, true, true, true, true, true, true, true, true, true, true, true, false, false] rfl rfl (by kernel_rfl) (by decide) (fun K hK => ?_)
          refine skip_ (w1 := wr.drew.setCells g (k * 11) (ec y)) ?hw ?hN ?_ ?_
          case hw => rfl
          case hN => rfl
          · refine row_store_skip (W := wr.drew) (g := g) (i := k) (xs := zs) (d := y) (x := .tmp 127) (y := .tmp 122) (Row.drew HZ.out) HKL.out ?_ ?_ ?_
            · rfl
            · rfl
            · rfl
          refine hK.out _ _ ?_
          clear hK K
          refine pure_ (i := 16) (N := some 128) (v := .pointer (some ⟨g, q * 11, none⟩)) (a' := ?_) #[true, true, true, true, true, true, true, true, true, true, true, true, true, true, true, true, true, false] rfl rfl (by kernel_rfl) (fun _ _ _ h => h) (Or.inl ⟨by rfl, ?_⟩) ?_ ?_
          · intro w'
            exact idx_exec (by rfl) (by rfl) (by rfl) HQN.out
          rotate_left
          · simp only [Act.put, List.setIfInBounds_toArray, List.set_cons_zero, List.set_cons_succ, i64_w, i32_w]
            rfl
          refine last_ (i := 17) (N := none) #[true, true, true, true, true, true, true, true, true, true, true, true, true, true, true, true, true, true] rfl rfl (by kernel_rfl) (by decide) (fun K hK => ?_)
          have HRx := Aside0.mk (row_set (Row.drew HZ.out) HKL.out y)
          refine skip_ (w1 := (wr.drew.setCells g (k * 11) (ec y)).setCells g (q * 11) (ec d)) ?hw ?hN ?_ ?_
          case hw => rfl
          case hN => rfl
          · refine row_store_skip (W := wr.drew.setCells g (k * 11) (ec y)) (g := g) (i := q) (xs := zs.set k y) (d := d) (x := .tmp 128) (y := .tmp 126) HRx.out HQL.out ?_ ?_ ?_
            · rfl
            · rfl
            · rfl
          refine hK.out _ _ ?_
          clear hK K
          refine done_ (by kernel_rfl) ?_
          have HR6 := Aside0.mk (row_set HRx.out HQL.out d)
          have HG6 := Aside0.mk (grown_stored (grown_stored (grown_of HG.out (below_drew (Below.refl _ _))) (stored_cells wr.drew g (k * 11) (ec y))) (stored_cells _ g (q * 11) (ec d)))
          clear hHeld HRx
          go_wp2_with fail
          go_roundg k1
          case measure => have := HT.out; omega
          case rel => exact ⟨q, _, by have := HT.out; rw [show (q : Int) = (k : Int) - 1 by omega], by have := HT.out; omega, by have := HT.out; omega, HSW, HR6, HG6⟩
end Go.Proofs.Ytgojfecpknonlaa.Ev

