/- slices' symMerge over events, in place, as a whole. (Printed by wip/tools/evg.py.) -/
import Derived.Test.YtgojfecpknonlaaEvJ
import Derived.Deep.DeepCutAuto
namespace Go.Proofs.Ytgojfecpknonlaa.Ev
open Go.RowKit Go.Proofs.YtgojfecpknonlaaW.PrintWords Go.Proofs.YtgojfecpknonlaaW.PrintLast Go.Proofs.YtgojfecpknonlaaW.PrintMore
open Go.Proofs.Ytgojfecpknonlaa.Own Go.Proofs.Ytgojfecpknonlaa.PSt
set_option linter.unusedVariables false
set_option linter.unusedSimpArgs false

/-- The question of the search, over indexes of the whole row. -/
def SymAb (U V : List S72) (a c : Nat) : Prop := SymPd U V (c - a)
theorem symAb_mono {U V : List S72} (hU : Srt U) (hV : Srt V) (a : Nat) : ∀ x y, a + symLo U V ≤ x → x ≤ y → y < a + symHi U V → SymAb U V a x → SymAb U V a y := fun x y h1 h2 h3 h => sym_mono hU hV (x - a) (y - a) (by omega) (by omega) (by omega) h
theorem symAb_end {U V : List S72} {a i : Nat} (h : Half (SymAb U V a) (a + symLo U V) (a + symHi U V) i i) : Half (SymPd U V) (symLo U V) (symHi U V) (i - a) (i - a) := by
  have h1 := h.le1
  have h3 := h.le3
  refine ⟨by omega, Nat.le_refl _, by omega, fun c hc1 hc2 hc => ?_, fun c hc1 hc2 => ?_⟩
  · have := h.no (a + c) (by omega) (by omega)
    unfold SymAb at this
    rw [Nat.add_sub_cancel_left] at this
    exact this hc
  · have := h.yes (a + c) (by omega) (by omega)
    unfold SymAb at this
    rw [Nat.add_sub_cancel_left] at this
    exact this
theorem symAb_is {U V : List S72} {Z P Q : List S72} (hZ : Z = P ++ ((U ++ V) ++ Q)) {c q : Nat} {x y : S72} (h1 : P.length + symLo U V ≤ c) (h2 : c < P.length + symHi U V) (hq : q = P.length + U.length + ((U.length + V.length) / 2 - 1 - (c - P.length))) (hx : Z[q]? = some x) (hy : Z[c]? = some y) : SymAb U V P.length c ↔ x.f4 < y.f4 := by
  have hb := sym_bounds U V
  have e1 : ky Z c = ky U (c - P.length) := by
    have h := ky_mid (P := P) (V := U) (Q := V ++ Q) (i := c - P.length) (by omega)
    rw [show P.length + (c - P.length) = c by omega] at h
    rw [hZ, ← h, List.append_assoc]
  have e2 : ky Z q = ky V ((U.length + V.length) / 2 - 1 - (c - P.length)) := by
    have h := ky_mid (P := P ++ U) (V := V) (Q := Q) (i := (U.length + V.length) / 2 - 1 - (c - P.length)) (by omega)
    rw [List.length_append, ← hq] at h
    rw [hZ, ← h]
    simp only [List.append_assoc]
  unfold SymAb SymPd
  rw [← e1, ← e2, ky_of hx, ky_of hy]

/-- What a merge of two rows gives. -/
def MergeAt (n : Nat) : Prop := ∀ (P U V Q : List S72) (a m b g nn c : Nat) (w : World), U.length + V.length = n → Srt U → Srt V → 0 < U.length → 0 < V.length → a = P.length → m = a + U.length → b = m + V.length → Row w g (P ++ ((U ++ V) ++ Q)) → nn = P.length + ((U ++ V).length + Q.length) → nn < 1000000000 → Calls Try.prog 116 #[.slice (some ⟨g, 0, none⟩) nn c, .int .i64 (a : Int), .int .i64 (m : Int), .int .i64 (b : Int), .func (.func 92) #[] #[]] w (Sorted w g P (U ++ V) Q)

set_option maxHeartbeats 1500000 in
set_option maxRecDepth 100000 in
theorem sym_all (P U V Q : List S72) (a m b g n c : Nat) (w : World) (hIH : ∀ k, k < U.length + V.length → MergeAt k) (hU : Srt U) (hV : Srt V) (hu : 2 ≤ U.length) (hv : 2 ≤ V.length) (ha : a = P.length) (hm : m = a + U.length) (hb : b = m + V.length) (hr : Row w g (P ++ ((U ++ V) ++ Q))) (hn : n = P.length + ((U ++ V).length + Q.length)) (hs : n < 1000000000) :
    Calls Try.prog 116 #[.slice (some ⟨g, 0, none⟩) n c, .int .i64 (a : Int), .int .i64 (m : Int), .int .i64 (b : Int), .func (.func 92) #[] #[]] w (Sorted w g P (U ++ V) Q) := by
  have hnn : n = P.length + (U.length + V.length) + Q.length := by rw [hn]; simp only [List.length_append]; omega
  have HIH := Aside0.mk hIH
  have HN := Aside0.mk hnn
  have HS := Aside0.mk hs
  have HUS := Aside0.mk hU
  have HVS := Aside0.mk hV
  have HA := Aside0.mk ha
  have HM := Aside0.mk hm
  have HB := Aside0.mk hb
  have HU2 := Aside0.mk hu
  have HV2 := Aside0.mk hv
  have hal : a < 1000000000 := by omega
  have hml : m < 1000000000 := by omega
  have hbl : b < 1000000000 := by omega
  have c00 : ((m : Int) - (a : Int) == 1) = false := by rw [beq_eq_false_iff_ne]; omega
  have c0 : ((b : Int) - (m : Int) == 1) = false := by rw [beq_eq_false_iff_ne]; omega
  have q00 : (0 : Int) ≤ (m : Int) - (a : Int) := by omega
  have q0 : (0 : Int) ≤ (b : Int) - (m : Int) := by omega
  obtain ⟨h, hh⟩ : ∃ h, h = (U.length + V.length) / 2 := ⟨_, rfl⟩
  obtain ⟨mid, hmid⟩ : ∃ mid, mid = a + h := ⟨_, rfl⟩
  obtain ⟨nn, hnn2⟩ : ∃ nn, nn = mid + m := ⟨_, rfl⟩
  obtain ⟨lo, hlo⟩ : ∃ lo, lo = a + symLo U V := ⟨_, rfl⟩
  obtain ⟨hi, hhi⟩ : ∃ hi, hi = a + symHi U V := ⟨_, rfl⟩
  have HHE := Aside0.mk hh
  have HMID := Aside0.mk hmid
  have HNN := Aside0.mk hnn2
  have HLO := Aside0.mk hlo
  have HHI := Aside0.mk hhi
  have HE1 := Aside0.mk (show ((a : Int) + (b : Int)) / 2 = (mid : Int) by omega)
  have HE2 := Aside0.mk (show (mid : Int) + (m : Int) = (nn : Int) by omega)
  have hmidl : mid < 1000000000 := by omega
  obtain ⟨Z, hZ⟩ : ∃ Z, Z = P ++ ((U ++ V) ++ Q) := ⟨_, rfl⟩
  have HZE := Aside0.mk hZ
  have hZl : Z.length = n := by rw [hZ, hnn]; simp only [List.length_append]; omega
  have HZL := Aside0.mk hZl
  rw [← hZ] at hr
  have HR := Aside0.mk hr
  have hab : a ≤ b := by omega
  clear hr hn hs hU hV hu hv ha hm hb hnn hZ hZl hIH hh hmid hnn2 hlo hhi
  go_enter Try.func116, Try.ntmps116
  go_upto_if 140 with fail
  rw [HE1.out, HE2.out]
  go_cut [20, 21] (fun v20 v21 wc => v20 = .int .i64 (lo : Int) ∧ v21 = .int .i64 (hi : Int) ∧ w = wc)
  case first =>
    by_cases hgt : mid < m
    · have d1 : decide ((mid : Int) < (m : Int)) = true := decide_eq_true (by omega)
      have d2 : decide (mid < m) = true := decide_eq_true hgt
      have q1 : (nn : Int) - (b : Int) = (lo : Int) := by have := HLO.out; have := HNN.out; have := HB.out; have := HM.out; have := HMID.out; have := HHE.out; unfold symLo at *; rw [if_pos (by omega)] at *; omega
      have q2 : mid = hi := by have := HHI.out; have := HM.out; have := HMID.out; have := HHE.out; unfold symHi at *; rw [if_pos (by omega)] at *; omega
      have q3 : nn < 2000000000 := by have := HNN.out; omega
      go_wp2
      all_goals
        go_meet
        case rel => exact ⟨rfl, by rw [q2], rfl⟩
    · have d1 : decide ((mid : Int) < (m : Int)) = false := decide_eq_false (by omega)
      have d2 : decide (mid < m) = false := decide_eq_false hgt
      have q1 : a = lo := by have := HLO.out; have := HM.out; have := HMID.out; have := HHE.out; unfold symLo at *; rw [if_neg (by omega)] at *; omega
      have q2 : m = hi := by have := HHI.out; have := HM.out; have := HMID.out; have := HHE.out; unfold symHi at *; rw [if_neg (by omega)] at *; omega
      go_wp2
      all_goals
        go_meet
        case rel => exact ⟨by rw [q1], by rw [q2], rfl⟩
  case rest =>
    obtain ⟨rfl, rfl, rfl⟩ := hcut
    have q3 : nn < 2000000000 := by have := HNN.out; omega
    have q4 : 1 ≤ nn := by have := HNN.out; have := HM.out; have := HU2.out; omega
    go_wp2_with fail
    go_loopg [20, 21] (hi - lo) (fun kq v20 v21 w' => ∃ i j : Nat, v20 = .int .i64 (i : Int) ∧ v21 = .int .i64 (j : Int) ∧ j - i ≤ kq ∧ Aside0 (Half (SymAb U V a) (a + symLo U V) (a + symHi U V) i j) ∧ Aside0 (Row w' g Z) ∧ Aside0 (w.grownBy w' (some g)))
    case atStart => exact ⟨lo, hi, rfl, rfl, by omega, ⟨by rw [HLO.out, HHI.out]; exact half_start _ _ _ (by have := sym_bounds U V; omega)⟩, HR, ⟨grown_refl _ _⟩⟩
    case round =>
      obtain ⟨i, j, rfl, rfl, hij, HH, HZ, HG⟩ := hrel
      have hmi := HH.out.le1
      have hle := HH.out.le2
      have hjb := HH.out.le3
      have hsb := sym_bounds U V
      have hil : i < 1000000000 := by have := HM.out; omega
      have hjl : j < 1000000000 := by have := HM.out; omega
      by_cases hlt : i < j
      · cases gk with
        | zero => omega
        | succ k1 =>
          have c1 : decide ((i : Int) < (j : Int)) = true := decide_eq_true (by omega)
          have c2 : decide (i < j) = true := decide_eq_true hlt
          obtain ⟨h1, hh1⟩ : ∃ h1, h1 = (i + j) / 2 := ⟨_, rfl⟩
          obtain ⟨q, hq⟩ : ∃ q, q = nn - 1 - h1 := ⟨_, rfl⟩
          have hhl : h1 < n := by have := HB.out; have := HN.out; have := HM.out; have := HA.out; omega
          have hql : q < n := by have := HB.out; have := HN.out; have := HM.out; have := HA.out; have := HNN.out; have := HMID.out; have := HHE.out; omega
          have HHN := Aside0.mk hhl
          have HQN := Aside0.mk hql
          obtain ⟨y, hy⟩ : ∃ y, Z[h1]? = some y := ⟨_, List.getElem?_eq_getElem (by rw [HZL.out]; exact hhl)⟩
          obtain ⟨x, hx⟩ : ∃ x, Z[q]? = some x := ⟨_, List.getElem?_eq_getElem (by rw [HZL.out]; exact hql)⟩
          have HY := Aside0.mk hy
          have HX := Aside0.mk hx
          have HIS : Aside0 (SymAb U V a h1 ↔ x.f4 < y.f4) := ⟨by
            rw [HA.out]
            refine symAb_is HZE.out (q := q) (by rw [← HA.out]; omega) (by rw [← HA.out]; omega) ?_ hx hy
            rw [← HA.out, hq, ← HHE.out]
            have := HNN.out; have := HMID.out; have := HM.out; have := HHE.out
            omega⟩
          have HHE1 := Aside0.mk (show ((i : Int) + (j : Int)) / 2 = (h1 : Int) by omega)
          have hhl2 : h1 < 1000000000 := by have := HS.out; omega
          have HIJ := Aside0.mk (show i ≤ h1 ∧ h1 < j by omega)
          have HK := Aside0.mk hij
          have HQ := Aside0.mk (show wrap64 (((nn : Int) - 1) - (h1 : Int)) = (q : Int) by rw [wrap_ok (by omega) (by omega)]; have := HNN.out; have := HMID.out; have := HM.out; have := HHE.out; omega)
          have HMO := Aside0.mk (symAb_mono HUS.out HVS.out a)
          clear hmi hle hjb hlt hij hh1 hhl hy hx hsb hq hql
          by_cases hc : x.f4 < y.f4
          · have ct : decide (cmpI x y < 0) = true := by rw [cmpI_lt]; exact decide_eq_true hc
            have HP : Aside0 (SymAb U V a h1) := ⟨HIS.out.2 hc⟩
            clear hc
            as_aux_lemma =>
              go_upto_region 35 with (fail)
              rw [HHE1.out]
              refine start_ (n := 14) (S := fun w' => Row w' g Z) (ds := []) #[false, false, false, false, false, false, false, false, false, false, false, false, false, false] (by kernel_rfl) rfl rfl ((Row.drew HZ.out)) (fun hHeld => ?_)
              refine pure_ (i := 0) (N := some 158) (v := ?_) (a' := ?_) #[true, false, false, false, false, false, false, false, false, false, false, false, false, false] rfl rfl (by kernel_rfl) (fun _ _ _ h => h) (Or.inl ⟨by rfl, ?_⟩) ?_ ?_
              rotate_left
              · intro w'
                go_simp
                with_reducible rfl
              rotate_left
              · simp only [Act.put, List.setIfInBounds_toArray, List.set_cons_zero, List.set_cons_succ, i64_w, i32_w]
                rfl
              refine pure_ (i := 1) (N := some 159) (v := ?_) (a' := ?_) #[true, true, false, false, false, false, false, false, false, false, false, false, false, false] rfl rfl (by kernel_rfl) (fun _ _ _ h => h) (Or.inl ⟨by rfl, ?_⟩) ?_ ?_
              rotate_left
              · intro w'
                go_simp
                with_reducible rfl
              rotate_left
              · simp only [Act.put, List.setIfInBounds_toArray, List.set_cons_zero, List.set_cons_succ, i64_w, i32_w]
                rfl
              refine pure_ (i := 2) (N := some 160) (v := ?_) (a' := ?_) #[true, true, true, false, false, false, false, false, false, false, false, false, false, false] rfl rfl (by kernel_rfl) (fun _ _ _ h => h) (Or.inl ⟨by rfl, ?_⟩) ?_ ?_
              rotate_left
              · intro w'
                go_simp
                with_reducible rfl
              rotate_left
              · simp only [Act.put, List.setIfInBounds_toArray, List.set_cons_zero, List.set_cons_succ, i64_w, i32_w]
                rfl
              refine pure_ (i := 3) (N := some 161) (v := ?_) (a' := ?_) #[true, true, true, true, false, false, false, false, false, false, false, false, false, false] rfl rfl (by kernel_rfl) (fun _ _ _ h => h) (Or.inl ⟨by rfl, ?_⟩) ?_ ?_
              rotate_left
              · intro w'
                go_simp
                with_reducible rfl
              rotate_left
              · simp only [Act.put, List.setIfInBounds_toArray, List.set_cons_zero, List.set_cons_succ, i64_w, i32_w]
                rfl
              refine pure_ (i := 4) (N := some 162) (v := .int .i64 (q : Int)) (a' := ?_) #[true, true, true, true, true, false, false, false, false, false, false, false, false, false] rfl rfl (by kernel_rfl) (fun _ _ _ h => h) (Or.inl ⟨by rfl, ?_⟩) ?_ ?_
              · intro w'
                exact sub_exec (by rfl) (by rfl) (by rfl) HQ.out
              rotate_left
              · simp only [Act.put, List.setIfInBounds_toArray, List.set_cons_zero, List.set_cons_succ, i64_w, i32_w]
                rfl
              refine pure_ (i := 5) (N := some 163) (v := .pointer (some ⟨g, q * 11, none⟩)) (a' := ?_) #[true, true, true, true, true, true, false, false, false, false, false, false, false, false] rfl rfl (by kernel_rfl) (fun _ _ _ h => h) (Or.inl ⟨by rfl, ?_⟩) ?_ ?_
              · intro w'
                exact idx_exec (by rfl) (by rfl) (by rfl) HQN.out
              rotate_left
              · simp only [Act.put, List.setIfInBounds_toArray, List.set_cons_zero, List.set_cons_succ, i64_w, i32_w]
                rfl
              refine pure_ (i := 7) (N := some 165) (v := ?_) (a' := ?_) #[true, true, true, true, true, true, false, true, false, false, false, false, false, false] rfl rfl (by kernel_rfl) (fun _ _ _ h => h) (Or.inl ⟨by rfl, ?_⟩) ?_ ?_
              rotate_left
              · intro w'
                go_simp
                with_reducible rfl
              rotate_left
              · simp only [Act.put, List.setIfInBounds_toArray, List.set_cons_zero, List.set_cons_succ, i64_w, i32_w]
                rfl
              refine pure_ (i := 8) (N := some 166) (v := ?_) (a' := ?_) #[true, true, true, true, true, true, false, true, true, false, false, false, false, false] rfl rfl (by kernel_rfl) (fun _ _ _ h => h) (Or.inl ⟨by rfl, ?_⟩) ?_ ?_
              rotate_left
              · intro w'
                go_simp
                with_reducible rfl
              rotate_left
              · simp only [Act.put, List.setIfInBounds_toArray, List.set_cons_zero, List.set_cons_succ, i64_w, i32_w]
                rfl
              refine pure_ (i := 9) (N := some 167) (v := .pointer (some ⟨g, h1 * 11, none⟩)) (a' := ?_) #[true, true, true, true, true, true, false, true, true, true, false, false, false, false] rfl rfl (by kernel_rfl) (fun _ _ _ h => h) (Or.inl ⟨by rfl, ?_⟩) ?_ ?_
              · intro w'
                exact idx_exec (by rfl) (by rfl) (by rfl) HHN.out
              rotate_left
              · simp only [Act.put, List.setIfInBounds_toArray, List.set_cons_zero, List.set_cons_succ, i64_w, i32_w]
                rfl
              refine take_ (i := 6) (N := some 164) (v := ev x) (a' := ?_) #[true, true, true, true, true, true, true, true, true, true, false, false, false, false] rfl rfl (by kernel_rfl) (fun _ _ _ h => h) (Or.inl ⟨by rfl, ?_⟩) hHeld ?_ ?_
              · intro w' s0
                exact row_load_exec s0 HX.out (by rfl) (by rfl)
              rotate_left
              · simp only [Act.put, List.setIfInBounds_toArray, List.set_cons_zero, List.set_cons_succ, i64_w, i32_w]
                rfl
              refine take_ (i := 10) (N := some 168) (v := ev y) (a' := ?_) #[true, true, true, true, true, true, true, true, true, true, true, false, false, false] rfl rfl (by kernel_rfl) (fun _ _ _ h => h) (Or.inl ⟨by rfl, ?_⟩) hHeld ?_ ?_
              · intro w' s0
                exact row_load_exec s0 HY.out (by rfl) (by rfl)
              rotate_left
              · simp only [Act.put, List.setIfInBounds_toArray, List.set_cons_zero, List.set_cons_succ, i64_w, i32_w]
                rfl
              refine one_ (i := 11) (N := some 169) #[true, true, true, true, true, true, true, true, true, true, true, true, false, false] rfl rfl (by kernel_rfl) (by decide) (fun K hK => ?_)
              refine goes_tmp Try.func92 (by kernel_rfl) rfl #[ev x, ev y] (by rfl) rfl rfl (by rfl) (by simp only [List.map_toArray, List.map_cons, List.map_nil]; rfl) ?_
              with_reducible refine (less_calls x y _).mono ?_
              rintro e w5 ⟨rfl, hb5⟩
              refine ⟨_, rfl, ?_⟩
              have HB5 := Aside0.mk (show Below wr.heap.size wr w5 from below_then (below_drew (Below.refl _ _)) (Nat.le_refl _) hb5)
              clear hb5
              refine hK.out _ _ ((Row.below HZ.out HB5.out)) (fun hHeld => ?_)
              clear hK K
              refine norm_ (a' := ?_) ?_ ?_
              rotate_left
              · show Act.put _ (some 169) _ = _
                simp only [Act.put, List.setIfInBounds_toArray, List.set_cons_zero, List.set_cons_succ, i64_w, i32_w]
                rfl
              refine pure_ (i := 12) (N := some 170) (v := ?_) (a' := ?_) #[true, true, true, true, true, true, true, true, true, true, true, true, true, false] rfl rfl (by kernel_rfl) (fun _ _ _ h => h) (Or.inl ⟨by rfl, ?_⟩) ?_ ?_
              rotate_left
              · intro w'
                go_simp
                with_reducible rfl
              rotate_left
              · simp only [Act.put, List.setIfInBounds_toArray, List.set_cons_zero, List.set_cons_succ, i64_w, i32_w]
                rfl
              refine pure_ (i := 13) (N := some 171) (v := ?_) (a' := ?_) #[true, true, true, true, true, true, true, true, true, true, true, true, true, true] rfl rfl (by kernel_rfl) (fun _ _ _ h => h) (Or.inl ⟨by rfl, ?_⟩) ?_ ?_
              rotate_left
              · intro w'
                go_simp
                with_reducible rfl
              rotate_left
              · simp only [Act.put, List.setIfInBounds_toArray, List.set_cons_zero, List.set_cons_succ, i64_w, i32_w]
                rfl
              refine done_ (by kernel_rfl) ?_
              go_wp2_with fail
              go_roundg k1
              case measure => have := HK.out; have := HIJ.out; omega
              case rel => exact ⟨i, h1, rfl, rfl, by have := HK.out; have := HIJ.out; omega, ⟨half_yes HH.out HIJ.out.1 HIJ.out.2 HMO.out HP.out⟩, ⟨HZ.out.below HB5.out⟩, ⟨grown_of HG.out HB5.out⟩⟩
          · have ct : decide (cmpI x y < 0) = false := by rw [cmpI_lt]; exact decide_eq_false hc
            have HP : Aside0 (¬ SymAb U V a h1) := ⟨fun h => hc (HIS.out.1 h)⟩
            clear hc
            as_aux_lemma =>
              go_upto_region 35 with (fail)
              rw [HHE1.out]
              refine start_ (n := 14) (S := fun w' => Row w' g Z) (ds := []) #[false, false, false, false, false, false, false, false, false, false, false, false, false, false] (by kernel_rfl) rfl rfl ((Row.drew HZ.out)) (fun hHeld => ?_)
              refine pure_ (i := 0) (N := some 158) (v := ?_) (a' := ?_) #[true, false, false, false, false, false, false, false, false, false, false, false, false, false] rfl rfl (by kernel_rfl) (fun _ _ _ h => h) (Or.inl ⟨by rfl, ?_⟩) ?_ ?_
              rotate_left
              · intro w'
                go_simp
                with_reducible rfl
              rotate_left
              · simp only [Act.put, List.setIfInBounds_toArray, List.set_cons_zero, List.set_cons_succ, i64_w, i32_w]
                rfl
              refine pure_ (i := 1) (N := some 159) (v := ?_) (a' := ?_) #[true, true, false, false, false, false, false, false, false, false, false, false, false, false] rfl rfl (by kernel_rfl) (fun _ _ _ h => h) (Or.inl ⟨by rfl, ?_⟩) ?_ ?_
              rotate_left
              · intro w'
                go_simp
                with_reducible rfl
              rotate_left
              · simp only [Act.put, List.setIfInBounds_toArray, List.set_cons_zero, List.set_cons_succ, i64_w, i32_w]
                rfl
              refine pure_ (i := 2) (N := some 160) (v := ?_) (a' := ?_) #[true, true, true, false, false, false, false, false, false, false, false, false, false, false] rfl rfl (by kernel_rfl) (fun _ _ _ h => h) (Or.inl ⟨by rfl, ?_⟩) ?_ ?_
              rotate_left
              · intro w'
                go_simp
                with_reducible rfl
              rotate_left
              · simp only [Act.put, List.setIfInBounds_toArray, List.set_cons_zero, List.set_cons_succ, i64_w, i32_w]
                rfl
              refine pure_ (i := 3) (N := some 161) (v := ?_) (a' := ?_) #[true, true, true, true, false, false, false, false, false, false, false, false, false, false] rfl rfl (by kernel_rfl) (fun _ _ _ h => h) (Or.inl ⟨by rfl, ?_⟩) ?_ ?_
              rotate_left
              · intro w'
                go_simp
                with_reducible rfl
              rotate_left
              · simp only [Act.put, List.setIfInBounds_toArray, List.set_cons_zero, List.set_cons_succ, i64_w, i32_w]
                rfl
              refine pure_ (i := 4) (N := some 162) (v := .int .i64 (q : Int)) (a' := ?_) #[true, true, true, true, true, false, false, false, false, false, false, false, false, false] rfl rfl (by kernel_rfl) (fun _ _ _ h => h) (Or.inl ⟨by rfl, ?_⟩) ?_ ?_
              · intro w'
                exact sub_exec (by rfl) (by rfl) (by rfl) HQ.out
              rotate_left
              · simp only [Act.put, List.setIfInBounds_toArray, List.set_cons_zero, List.set_cons_succ, i64_w, i32_w]
                rfl
              refine pure_ (i := 5) (N := some 163) (v := .pointer (some ⟨g, q * 11, none⟩)) (a' := ?_) #[true, true, true, true, true, true, false, false, false, false, false, false, false, false] rfl rfl (by kernel_rfl) (fun _ _ _ h => h) (Or.inl ⟨by rfl, ?_⟩) ?_ ?_
              · intro w'
                exact idx_exec (by rfl) (by rfl) (by rfl) HQN.out
              rotate_left
              · simp only [Act.put, List.setIfInBounds_toArray, List.set_cons_zero, List.set_cons_succ, i64_w, i32_w]
                rfl
              refine pure_ (i := 7) (N := some 165) (v := ?_) (a' := ?_) #[true, true, true, true, true, true, false, true, false, false, false, false, false, false] rfl rfl (by kernel_rfl) (fun _ _ _ h => h) (Or.inl ⟨by rfl, ?_⟩) ?_ ?_
              rotate_left
              · intro w'
                go_simp
                with_reducible rfl
              rotate_left
              · simp only [Act.put, List.setIfInBounds_toArray, List.set_cons_zero, List.set_cons_succ, i64_w, i32_w]
                rfl
              refine pure_ (i := 8) (N := some 166) (v := ?_) (a' := ?_) #[true, true, true, true, true, true, false, true, true, false, false, false, false, false] rfl rfl (by kernel_rfl) (fun _ _ _ h => h) (Or.inl ⟨by rfl, ?_⟩) ?_ ?_
              rotate_left
              · intro w'
                go_simp
                with_reducible rfl
              rotate_left
              · simp only [Act.put, List.setIfInBounds_toArray, List.set_cons_zero, List.set_cons_succ, i64_w, i32_w]
                rfl
              refine pure_ (i := 9) (N := some 167) (v := .pointer (some ⟨g, h1 * 11, none⟩)) (a' := ?_) #[true, true, true, true, true, true, false, true, true, true, false, false, false, false] rfl rfl (by kernel_rfl) (fun _ _ _ h => h) (Or.inl ⟨by rfl, ?_⟩) ?_ ?_
              · intro w'
                exact idx_exec (by rfl) (by rfl) (by rfl) HHN.out
              rotate_left
              · simp only [Act.put, List.setIfInBounds_toArray, List.set_cons_zero, List.set_cons_succ, i64_w, i32_w]
                rfl
              refine take_ (i := 6) (N := some 164) (v := ev x) (a' := ?_) #[true, true, true, true, true, true, true, true, true, true, false, false, false, false] rfl rfl (by kernel_rfl) (fun _ _ _ h => h) (Or.inl ⟨by rfl, ?_⟩) hHeld ?_ ?_
              · intro w' s0
                exact row_load_exec s0 HX.out (by rfl) (by rfl)
              rotate_left
              · simp only [Act.put, List.setIfInBounds_toArray, List.set_cons_zero, List.set_cons_succ, i64_w, i32_w]
                rfl
              refine take_ (i := 10) (N := some 168) (v := ev y) (a' := ?_) #[true, true, true, true, true, true, true, true, true, true, true, false, false, false] rfl rfl (by kernel_rfl) (fun _ _ _ h => h) (Or.inl ⟨by rfl, ?_⟩) hHeld ?_ ?_
              · intro w' s0
                exact row_load_exec s0 HY.out (by rfl) (by rfl)
              rotate_left
              · simp only [Act.put, List.setIfInBounds_toArray, List.set_cons_zero, List.set_cons_succ, i64_w, i32_w]
                rfl
              refine one_ (i := 11) (N := some 169) #[true, true, true, true, true, true, true, true, true, true, true, true, false, false] rfl rfl (by kernel_rfl) (by decide) (fun K hK => ?_)
              refine goes_tmp Try.func92 (by kernel_rfl) rfl #[ev x, ev y] (by rfl) rfl rfl (by rfl) (by simp only [List.map_toArray, List.map_cons, List.map_nil]; rfl) ?_
              with_reducible refine (less_calls x y _).mono ?_
              rintro e w5 ⟨rfl, hb5⟩
              refine ⟨_, rfl, ?_⟩
              have HB5 := Aside0.mk (show Below wr.heap.size wr w5 from below_then (below_drew (Below.refl _ _)) (Nat.le_refl _) hb5)
              clear hb5
              refine hK.out _ _ ((Row.below HZ.out HB5.out)) (fun hHeld => ?_)
              clear hK K
              refine norm_ (a' := ?_) ?_ ?_
              rotate_left
              · show Act.put _ (some 169) _ = _
                simp only [Act.put, List.setIfInBounds_toArray, List.set_cons_zero, List.set_cons_succ, i64_w, i32_w]
                rfl
              refine pure_ (i := 12) (N := some 170) (v := ?_) (a' := ?_) #[true, true, true, true, true, true, true, true, true, true, true, true, true, false] rfl rfl (by kernel_rfl) (fun _ _ _ h => h) (Or.inl ⟨by rfl, ?_⟩) ?_ ?_
              rotate_left
              · intro w'
                go_simp
                with_reducible rfl
              rotate_left
              · simp only [Act.put, List.setIfInBounds_toArray, List.set_cons_zero, List.set_cons_succ, i64_w, i32_w]
                rfl
              refine pure_ (i := 13) (N := some 171) (v := ?_) (a' := ?_) #[true, true, true, true, true, true, true, true, true, true, true, true, true, true] rfl rfl (by kernel_rfl) (fun _ _ _ h => h) (Or.inl ⟨by rfl, ?_⟩) ?_ ?_
              rotate_left
              · intro w'
                go_simp
                with_reducible rfl
              rotate_left
              · simp only [Act.put, List.setIfInBounds_toArray, List.set_cons_zero, List.set_cons_succ, i64_w, i32_w]
                rfl
              refine done_ (by kernel_rfl) ?_
              go_wp2_with fail
              go_roundg k1
              case measure => have := HK.out; have := HIJ.out; omega
              case rel => exact ⟨h1 + 1, j, rfl, rfl, by have := HK.out; have := HIJ.out; omega, ⟨half_no HH.out HIJ.out.1 HIJ.out.2 HMO.out HP.out⟩, ⟨HZ.out.below HB5.out⟩, ⟨grown_of HG.out HB5.out⟩⟩
      · have c1 : decide ((i : Int) < (j : Int)) = false := decide_eq_false (by omega)
        have c2 : decide (i < j) = false := decide_eq_false hlt
        obtain rfl : i = j := by omega
        have hsp := sym_split HUS.out HVS.out (symAb_end HH.out)
        obtain ⟨s, hs⟩ : ∃ s, s = i - a := ⟨_, rfl⟩
        rw [← hs] at hsp
        have hia : i = a + s := by omega
        obtain ⟨e, he⟩ : ∃ e, e = h - s := ⟨_, rfl⟩
        obtain ⟨en, hen⟩ : ∃ en, en = m + e := ⟨_, rfl⟩
        have HSP := Aside0.mk hsp
        have HSE := Aside0.mk hia
        have HEE := Aside0.mk he
        have HEN := Aside0.mk hen
        have hb1 := hsp.le1
        have hb2 := hsp.le2
        have hb3 := hsp.le3
        rw [← HHE.out] at hb2 hb3
        have HB1 := Aside0.mk hb1
        have HB2 := Aside0.mk hb2
        have HB3 := Aside0.mk hb3
        have henl : en < 1000000000 := by have := HM.out; have := HB.out; omega
        have HE3 := Aside0.mk (show (nn : Int) - (i : Int) = (en : Int) by have := HNN.out; have := HMID.out; omega)
        obtain ⟨L0, hL0⟩ : ∃ L0, L0 = U.take s ++ V.take e := ⟨_, rfl⟩
        obtain ⟨R0, hR0⟩ : ∃ R0, R0 = U.drop s ++ V.drop e := ⟨_, rfl⟩
        have HL0 := Aside0.mk hL0
        have HR0 := Aside0.mk hR0
        have hl0 : L0.length = h := by rw [hL0, List.length_append, List.length_take, List.length_take]; omega
        have hr0 : R0.length = U.length + V.length - h := by rw [hR0, List.length_append, List.length_drop, List.length_drop]; omega
        have HLL := Aside0.mk hl0
        have HRL := Aside0.mk hr0
        have hb4 : e ≤ V.length := by omega
        have HB4 := Aside0.mk hb4
        have hz1 : Z = P ++ (U.take s ++ (U.drop s ++ (V.take e ++ (V.drop e ++ Q)))) := by
          rw [HZE.out, ← List.append_assoc (V.take e), List.take_append_drop, ← List.append_assoc (U.take s), List.take_append_drop, List.append_assoc]
        have HZ1 := Aside0.mk hz1
        obtain ⟨Z1, hZ1⟩ : ∃ Z1, Z1 = P ++ (L0 ++ (R0 ++ Q)) := ⟨_, rfl⟩
        have HZ2 := Aside0.mk hZ1
        have hz3 : Z1 = P ++ (U.take s ++ (V.take e ++ (U.drop s ++ (V.drop e ++ Q)))) := by
          rw [hZ1, hL0, hR0]; simp only [List.append_assoc]
        have HZ3 := Aside0.mk hz3
        clear hmi hle hjb hsb hlt hij hsp hs he hL0 hR0 hl0 hr0 hz1 hZ1 hz3 hia hen hb1 hb2 hb3 hb4
        as_aux_lemma =>
          obtain ⟨b1, hb1⟩ : ∃ t : Bool, t = (decide (i < m) && decide (m < en)) := ⟨_, rfl⟩
          have Hb1 := Aside0.mk hb1
          clear hb1
          go_upto_region 39 with fail
          rw [HE3.out]
          go_cut [185] (fun vb wx => vb = .bool b1 ∧ wr = wx)
          case first =>
            by_cases h1 : i < m
            · have d1 : decide ((i : Int) < (m : Int)) = true := decide_eq_true (by omega)
              have d2 : decide (i < m) = true := decide_eq_true h1
              by_cases h2 : m < en
              · have d3 : decide ((m : Int) < (en : Int)) = true := decide_eq_true (by omega)
                have d4 : decide (m < en) = true := decide_eq_true h2
                clear h1 h2
                go_wp2
                all_goals
                  go_meet
                  case rel => exact ⟨by rw [Hb1.out, d2, d4]; rfl, rfl⟩
              · have d3 : decide ((m : Int) < (en : Int)) = false := decide_eq_false (by omega)
                have d4 : decide (m < en) = false := decide_eq_false h2
                clear h1 h2
                go_wp2
                all_goals
                  go_meet
                  case rel => exact ⟨by rw [Hb1.out, d2, d4]; rfl, rfl⟩
            · have d1 : decide ((i : Int) < (m : Int)) = false := decide_eq_false (by omega)
              have d2 : decide (i < m) = false := decide_eq_false h1
              clear h1
              go_wp2
              all_goals
                go_meet
                case rel => exact ⟨by rw [Hb1.out, d2]; rfl, rfl⟩
          case rest =>
            obtain ⟨rfl, rfl⟩ := hcut
            go_upto_if 185 with fail
            go_cut [24] (fun v24 wc => v24 = .int .i64 (en : Int) ∧ Aside0 (Row wc g Z1) ∧ Aside0 (w.grownBy wc (some g)))
            case first =>
              cases b1 with
              | true =>
                have hc := Hb1.out
                rw [eq_comm, Bool.and_eq_true, decide_eq_true_eq, decide_eq_true_eq] at hc
                have HC := Aside0.mk (rotate_calls (P ++ U.take s) (U.drop s) (V.take e) (V.drop e ++ Q) i m en g n c wr (by rw [List.length_append, List.length_take]; have := HSE.out; have := HA.out; have := HB1.out; omega) (by rw [List.length_append, List.length_take, List.length_drop]; have := HSE.out; have := HA.out; have := HB1.out; have := HM.out; omega) (by rw [List.length_append, List.length_take, List.length_drop, List.length_take]; have := HSE.out; have := HA.out; have := HB1.out; have := HM.out; have := HEN.out; have := HB4.out; omega) (by rw [List.length_drop]; have := HSE.out; have := HM.out; omega) (by rw [List.length_take]; have := HEN.out; have := HB4.out; omega) (by have h := HZ.out; rw [HZ1.out] at h; simpa only [List.append_assoc] using h) (by simp only [List.length_append, List.length_take, List.length_drop]; have := HN.out; have := HB1.out; have := HB4.out; omega) HS.out (.func (.func 92) #[] #[]))
                clear hc
                go_wp2_with (go_at_call 118; refine HC.out.mono ?_; rintro e w1 ⟨rfl, hr1, hg1⟩; have HR1 := Aside0.mk hr1; have HG1 := Aside0.mk hg1; clear hr1 hg1)
                all_goals
                  go_meet
                  case rel => exact ⟨rfl, ⟨by have h := HR1.out; rw [HZ3.out]; simpa only [List.append_assoc] using h⟩, ⟨grown_trans HG.out HG1.out⟩⟩
              | false =>
                have hc := Hb1.out
                rw [eq_comm, Bool.and_eq_false_iff, decide_eq_false_iff_not, decide_eq_false_iff_not] at hc
                have HC : Aside0 (Z = Z1) := ⟨by
                  rw [HZ1.out, HZ3.out]
                  rcases hc with h1 | h1
                  · rw [List.drop_eq_nil_of_le (by have := HSE.out; have := HM.out; omega), List.nil_append, List.nil_append]
                  · have h2 : e = 0 := by have := HEN.out; omega
                    rw [h2, List.take_zero, List.nil_append, List.nil_append]⟩
                clear hc
                go_wp2
                all_goals
                  go_meet
                  case rel => exact ⟨rfl, ⟨by rw [← HC.out]; exact HZ.out⟩, HG⟩
            case rest =>
              clear HZ HG
              obtain ⟨rfl, HZ, HG⟩ := hcut
              as_aux_lemma =>
                obtain ⟨b2, hb2⟩ : ∃ t : Bool, t = (decide (a < i) && decide (i < mid)) := ⟨_, rfl⟩
                have Hb2 := Aside0.mk hb2
                clear hb2
                go_upto_region 41 with fail
                go_cut [199] (fun vb wx => vb = .bool b2 ∧ wc = wx)
                case first =>
                  by_cases h1 : a < i
                  · have d1 : decide ((a : Int) < (i : Int)) = true := decide_eq_true (by omega)
                    have d2 : decide (a < i) = true := decide_eq_true h1
                    by_cases h2 : i < mid
                    · have d3 : decide ((i : Int) < (mid : Int)) = true := decide_eq_true (by omega)
                      have d4 : decide (i < mid) = true := decide_eq_true h2
                      clear h1 h2
                      go_wp2
                      all_goals
                        go_meet
                        case rel => exact ⟨by rw [Hb2.out, d2, d4]; rfl, rfl⟩
                    · have d3 : decide ((i : Int) < (mid : Int)) = false := decide_eq_false (by omega)
                      have d4 : decide (i < mid) = false := decide_eq_false h2
                      clear h1 h2
                      go_wp2
                      all_goals
                        go_meet
                        case rel => exact ⟨by rw [Hb2.out, d2, d4]; rfl, rfl⟩
                  · have d1 : decide ((a : Int) < (i : Int)) = false := decide_eq_false (by omega)
                    have d2 : decide (a < i) = false := decide_eq_false h1
                    clear h1
                    go_wp2
                    all_goals
                      go_meet
                      case rel => exact ⟨by rw [Hb2.out, d2]; rfl, rfl⟩
                case rest =>
                  obtain ⟨rfl, rfl⟩ := hcut
                  go_upto_if 199 with fail
                  go_cut [24] (fun v24 wy => v24 = .int .i64 (en : Int) ∧ ∃ L, Aside0 (Row wy g (P ++ (L ++ (R0 ++ Q)))) ∧ Aside0 (Srt L) ∧ Aside0 (Same L0 L ∧ L.length = h) ∧ Aside0 (w.grownBy wy (some g)))
                  case first =>
                    cases b2 with
                    | true =>
                      have hc := Hb2.out
                      rw [eq_comm, Bool.and_eq_true, decide_eq_true_eq, decide_eq_true_eq] at hc
                      have HC := Aside0.mk (HIH.out h (by have := HHE.out; have := HU2.out; omega) P (U.take s) (V.take e) (R0 ++ Q) a i mid g n c wc (by rw [← List.length_append, ← HL0.out]; exact HLL.out) (srt_take HUS.out s) (srt_take HVS.out e) (by rw [List.length_take]; have := HSE.out; have := HB1.out; omega) (by rw [List.length_take]; have := HSE.out; have := HEE.out; have := HMID.out; have := HB4.out; omega) HA.out (by rw [List.length_take]; have := HSE.out; have := HB1.out; omega) (by rw [List.length_take]; have := HSE.out; have := HEE.out; have := HMID.out; have := HB4.out; have := HB2.out; omega) (by rw [← HL0.out, ← HZ2.out]; exact HZ.out) (by rw [← HL0.out, List.length_append, HLL.out, HRL.out]; have := HN.out; have := HHE.out; omega) HS.out)
                      rw [← HL0.out] at HC
                      clear hc
                      go_wp2_with (go_at_call 116; refine HC.out.mono ?_; rintro e w1 ⟨rfl, L, hr1, hl1, hl2, hl3, hg1⟩; have HR1 := Aside0.mk hr1; have HG1 := Aside0.mk hg1; have HL1 := Aside0.mk hl1; have HL2 := Aside0.mk hl2; have HL3 := Aside0.mk (hl3.trans HLL.out); clear hr1 hg1 hl1 hl2 hl3)
                      all_goals
                        go_meet
                        case rel => exact ⟨rfl, L, HR1, HL1, ⟨HL2.out, HL3.out⟩, ⟨grown_trans HG.out HG1.out⟩⟩
                    | false =>
                      have hc := Hb2.out
                      rw [eq_comm, Bool.and_eq_false_iff, decide_eq_false_iff_not, decide_eq_false_iff_not] at hc
                      have HC : Aside0 (Srt L0) := ⟨by
                        rw [HL0.out]
                        rcases hc with h1 | h1
                        · rw [show s = 0 by have := HSE.out; omega, List.take_zero, List.nil_append]; exact srt_take HVS.out e
                        · rw [show e = 0 by have := HSE.out; have := HEE.out; have := HMID.out; omega, List.take_zero, List.append_nil]; exact srt_take HUS.out s⟩
                      clear hc
                      go_wp2
                      all_goals
                        go_meet
                        case rel => exact ⟨rfl, L0, ⟨by rw [← HZ2.out]; exact HZ.out⟩, HC, ⟨Same.refl _, HLL.out⟩, HG⟩
                  case rest =>
                    clear HZ HG
                    obtain ⟨rfl, L, HZ, HL1, HL2, HG⟩ := hcut
                    as_aux_lemma =>
                      obtain ⟨b3, hb3⟩ : ∃ t : Bool, t = (decide (mid < en) && decide (en < b)) := ⟨_, rfl⟩
                      have Hb3 := Aside0.mk hb3
                      clear hb3
                      go_upto_region 43 with fail
                      go_cut [213] (fun vb wx => vb = .bool b3 ∧ wc = wx)
                      case first =>
                        by_cases h1 : mid < en
                        · have d1 : decide ((mid : Int) < (en : Int)) = true := decide_eq_true (by omega)
                          have d2 : decide (mid < en) = true := decide_eq_true h1
                          by_cases h2 : en < b
                          · have d3 : decide ((en : Int) < (b : Int)) = true := decide_eq_true (by omega)
                            have d4 : decide (en < b) = true := decide_eq_true h2
                            clear h1 h2
                            go_wp2
                            all_goals
                              go_meet
                              case rel => exact ⟨by rw [Hb3.out, d2, d4]; rfl, rfl⟩
                          · have d3 : decide ((en : Int) < (b : Int)) = false := decide_eq_false (by omega)
                            have d4 : decide (en < b) = false := decide_eq_false h2
                            clear h1 h2
                            go_wp2
                            all_goals
                              go_meet
                              case rel => exact ⟨by rw [Hb3.out, d2, d4]; rfl, rfl⟩
                        · have d1 : decide ((mid : Int) < (en : Int)) = false := decide_eq_false (by omega)
                          have d2 : decide (mid < en) = false := decide_eq_false h1
                          clear h1
                          go_wp2
                          all_goals
                            go_meet
                            case rel => exact ⟨by rw [Hb3.out, d2]; rfl, rfl⟩
                      case rest =>
                        obtain ⟨rfl, rfl⟩ := hcut
                        cases b3 with
                        | true =>
                          have hc := Hb3.out
                          rw [eq_comm, Bool.and_eq_true, decide_eq_true_eq, decide_eq_true_eq] at hc
                          have HC := Aside0.mk (HIH.out (U.length + V.length - h) (by have := HHE.out; have := HU2.out; omega) (P ++ L) (U.drop s) (V.drop e) Q mid en b g n c wc (by rw [← List.length_append, ← HR0.out]; exact HRL.out) (srt_drop HUS.out s) (srt_drop HVS.out e) (by rw [List.length_drop]; have := HEN.out; have := HM.out; have := HMID.out; have := HEE.out; have := HB2.out; omega) (by rw [List.length_drop]; have := HEN.out; have := HB.out; omega) (by rw [List.length_append, HL2.out.2, ← HA.out]; exact HMID.out) (by rw [List.length_drop]; have := HEN.out; have := HM.out; have := HMID.out; have := HEE.out; have := HB1.out; have := HB2.out; omega) (by rw [List.length_drop]; have := HEN.out; have := HB.out; have := HB4.out; omega) (by rw [← HR0.out, List.append_assoc]; exact HZ.out) (by rw [← HR0.out, List.length_append, HL2.out.2, HRL.out]; have := HN.out; have := HHE.out; omega) HS.out)
                          rw [← HR0.out] at HC
                          clear hc
                          go_wp2_with (go_at_call 116; refine HC.out.mono ?_; rintro e w1 ⟨rfl, R, hr1, hl1, hl2, hl3, hg1⟩; have HR1 := Aside0.mk hr1; have HG1 := Aside0.mk hg1; have HS1 := Aside0.mk hl1; have HS2 := Aside0.mk hl2; have HS3 := Aside0.mk (hl3.trans HRL.out); clear hr1 hg1 hl1 hl2 hl3)
                          go_end0
                          have hd := sym_done HUS.out HVS.out HSP.out HL1.out HS1.out (by rw [← HHE.out, ← HEE.out, ← HL0.out]; exact HL2.out.1) (by rw [← HHE.out, ← HEE.out, ← HR0.out]; exact HS2.out)
                          exact ⟨rfl, L ++ R, by have h := HR1.out; simpa only [List.append_assoc] using h, hd.1, hd.2, by rw [List.length_append, List.length_append, HL2.out.2, HS3.out]; have := HHE.out; omega, grown_trans HG.out HG1.out⟩
                        | false =>
                          have hc := Hb3.out
                          rw [eq_comm, Bool.and_eq_false_iff, decide_eq_false_iff_not, decide_eq_false_iff_not] at hc
                          have HC : Aside0 (Srt R0) := ⟨by
                            rw [HR0.out]
                            rcases hc with h1 | h1
                            · rw [List.drop_eq_nil_of_le (by have := HEN.out; have := HM.out; have := HMID.out; have := HEE.out; have := HB2.out; omega), List.nil_append]; exact srt_drop HVS.out e
                            · rw [show V.drop e = [] from List.drop_eq_nil_of_le (by have := HEN.out; have := HB.out; omega), List.append_nil]; exact srt_drop HUS.out s⟩
                          clear hc
                          go_wp2
                          go_end0
                          have hd := sym_done HUS.out HVS.out HSP.out HL1.out HC.out (by rw [← HHE.out, ← HEE.out, ← HL0.out]; exact HL2.out.1) (by rw [← HHE.out, ← HEE.out, ← HR0.out]; exact Same.refl _)
                          exact ⟨rfl, L ++ R0, by have h := HZ.out; simpa only [List.append_assoc] using h, hd.1, hd.2, by rw [List.length_append, List.length_append, HL2.out.2, HRL.out]; have := HHE.out; omega, HG.out⟩

theorem merge_all (n : Nat) : MergeAt n := by
  induction n using Nat.strongRecOn with
  | ind n ih =>
    intro P U V Q a m b g nn c w hN hU hV hu hv ha hm hb hr hn hs
    by_cases h1 : U.length = 1
    · obtain ⟨d, rfl⟩ := List.length_eq_one_iff.1 h1
      exact sym_left P d V Q a m b g nn c w hV ha hm hb hr hn hs
    · by_cases h2 : V.length = 1
      · obtain ⟨d, rfl⟩ := List.length_eq_one_iff.1 h2
        exact sym_right P d U Q a m b g nn c w hU (by omega) ha hm hb hr hn hs
      · exact sym_all P U V Q a m b g nn c w (fun k hk => ih k (by omega)) hU hV (by omega) (by omega) ha hm hb hr hn hs
end Go.Proofs.Ytgojfecpknonlaa.Ev

