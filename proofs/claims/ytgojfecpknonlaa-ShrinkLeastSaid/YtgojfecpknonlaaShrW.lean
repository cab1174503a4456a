/- The walk of the law ShrinkLeast: true at every input. -/
import Derived.Test.YtgojfecpknonlaaShrU
namespace Go.Proofs.Ytgojfecpknonlaa.Shr
open Go.RowKit Go.Proofs.YtgojfecpknonlaaW.PrintWords Go.Proofs.YtgojfecpknonlaaW.PrintLast Go.Proofs.YtgojfecpknonlaaW.PrintMore
open Go.Proofs.Ytgojfecpknonlaa.Own Go.Proofs.Ytgojfecpknonlaa.PShrinkLeast
set_option linter.unusedVariables false
set_option linter.unusedSimpArgs false

/-- The law's own two variables in memory: the rule, and how many entries there are. -/
structure Vars (w W : World) (A0 : Option Addr) (c0 : Nat) (G : List (List Int)) (a : Int) (b : Bool) (m : Nat) : Prop where
  bel : Below w.heap.size w W
  hr : W.heap[w.heap.size]? = some (.cells #[.slice A0 G.length c0, .int .u8 a, .bool b] 33 (0, 0))
  hn : W.heap[w.heap.size + 1]? = some (.cells #[.int .i64 m] 3 (0, 0))
  hG : Kd.C (Kd.slice 5 (Kd.int .u8)) W A0 G.length G
section
variable {w W W1 : World} {A0 : Option Addr} {c0 : Nat} {G : List (List Int)} {a : Int} {b : Bool} {m : Nat}
theorem Vars.below (h : Vars w W A0 c0 G a b m) (hb : Below W.heap.size W W1) : Vars w W1 A0 c0 G a b m :=
  ⟨below_then h.bel h.bel.size hb, blk_below h.hr hb, blk_below h.hn hb, Kd.C_below h.hG hb⟩
theorem Vars.xc0 (h : Vars w W A0 c0 G a b m) : W.cell? ⟨w.heap.size, 0, none⟩ = some (.slice A0 G.length c0) := (blk_cell h.hr 0).trans rfl
theorem Vars.xc1 (h : Vars w W A0 c0 G a b m) : W.cell? ⟨w.heap.size, 1, none⟩ = some (.int .u8 a) := (blk_cell h.hr 1).trans rfl
theorem Vars.xc2 (h : Vars w W A0 c0 G a b m) : W.cell? ⟨w.heap.size, 2, none⟩ = some (.bool b) := (blk_cell h.hr 2).trans rfl
theorem Vars.xcn (h : Vars w W A0 c0 G a b m) : W.cell? ⟨w.heap.size + 1, 0, none⟩ = some (.int .i64 m) := (blk_cell h.hn 0).trans rfl
end

theorem num_range (m : Nat) (hm : m < 61) : ((List.range m).map ent).map num = (List.range m).map (fun (i : Nat) => (i : Int)) := by
  apply List.ext_getElem
  · simp
  · intro i h1 h2
    have hi : i < m := by simpa using h1
    rw [List.getElem_map, List.getElem_map, List.getElem_range, List.getElem_map, List.getElem_range]
    exact num_ent i (by omega)
theorem inc_ent (m : Nat) (hm : m < 61) : (((List.range m).map ent).map num).Pairwise (· < ·) := by
  rw [num_range m hm, List.pairwise_map]
  exact List.Pairwise.imp (fun h => by omega) List.pairwise_lt_range

/-- The numbers of what came out. -/
theorem least_of {G : List (List Int)} {a : Int} {b : Bool} {m : Nat} {xs : List S111} (hp : rf G a b (xs.map num) m = true)
    (hl : ∀ j, j < xs.length → rf G a b ((xs.take j ++ xs.drop (j + 1)).map num) m = false) (hs : xs.Sublist ((List.range m).map ent)) (hm : m < 61) :
    rf G a b (xs.map num) m = true ∧ (xs.map num).length ≤ 60 ∧ (∀ j, j < (xs.map num).length → rf G a b ((xs.map num).take j ++ (xs.map num).drop (j + 1)) m = false) ∧ (xs.map num).Pairwise (· < ·) := by
  refine ⟨hp, ?_, fun j hj => ?_, List.Pairwise.sublist (hs.map num) (inc_ent m hm)⟩
  · have h1 := hs.length_le
    rw [List.length_map, List.length_range] at h1
    rw [List.length_map]
    omega
  · rw [List.length_map] at hj
    have h1 := hl j hj
    rw [List.map_append, List.map_take, List.map_drop] at h1
    exact h1

theorem wrap_succ (i : Nat) (h : i ≤ 60) : wrap64 ((i : Int) + 1) = (i : Int) + 1 := wrap_in (by omega) (by omega)
theorem wrap_pred (i : Nat) (h : i ≤ 60) (h0 : 0 < i) : wrap64 ((i : Int) - 1) = ((i - 1 : Nat) : Int) := by
  have e : (i : Int) - 1 = ((i - 1 : Nat) : Int) := by omega
  rw [e]
  exact wrap_in (by omega) (by omega)
theorem cut_len (ys : List Int) (i : Nat) (hi : i < ys.length) : (ys.take i ++ ys.drop (i + 1)).length = i + (ys.length - (i + 1)) := by
  rw [List.length_append, List.length_take, List.length_drop, Nat.min_eq_left (Nat.le_of_lt hi)]
theorem cut_head (A : Option Addr) (c : Nat) (ys : List Int) (i : Nat) (hi : i < ys.length) (hc : ys.length ≤ c) : ∀ W : World, (Instr.slice 26 (.slice A ys.length c) none (some (.int .i64 (i : Int))) none).run Try.prog W = .ok (.slice A i c) W := by
  obtain ⟨i0, hi0, hzz⟩ := Option.map_eq_some_iff.1 info3
  have h := cut_to (P := Try.prog) 26 3 .i64 Try.underlying26 hi0 A ys.length c (i : Int) (by omega) (by omega) hc
  simpa using h
theorem cut_tail (A : Option Addr) (c : Nat) (ys : List Int) (i : Nat) (hi : i < ys.length) (hc : ys.length ≤ c) : ∃ A5, (∀ W : World, (Instr.slice 26 (.slice A ys.length c) (some (.int .i64 ((i : Int) + 1))) none none).run Try.prog W = .ok (.slice A5 (ys.length - (i + 1)) (c - (i + 1))) W) ∧ (∀ W, Kd.C (Kd.int .i64) W A ys.length ys → Kd.C (Kd.int .i64) W A5 (ys.length - (i + 1)) (ys.drop (i + 1))) := by
  obtain ⟨i0, hi0, hzz⟩ := Option.map_eq_some_iff.1 info3
  simp only [Prod.mk.injEq] at hzz
  have h := cut_from (P := Try.prog) 26 3 .i64 Try.underlying26 hi0 1 hzz.2.1 A ys.length c ((i : Int) + 1) (by omega) (by omega)
  refine ⟨if c = i + 1 then A else A.map (·.add ((i + 1) * 1)), fun W => ?_, fun W hW => ?_⟩
  · rw [h]; rfl
  · have h2 := Kd.C_drop (c := c) hW (m := i + 1) (by omega) hc
    rw [List.length_drop] at h2
    exact h2

set_option maxHeartbeats 4000000 in
set_option maxRecDepth 100000 in
theorem least_walk (a0 : Int) (w0 : (Lit.int .u8 a0).wf = true) (A0 : Option Addr) (c0 : Nat) (G : List (List Int)) (a : Int) (b : Bool) (w : World) (hG : Kd.C (Kd.slice 5 (Kd.int .u8)) w A0 G.length G) (hc0 : G.length ≤ c0) :
    Calls Try.prog 4 #[.int .u8 a0, .agg #[.slice A0 G.length c0, .int .u8 a, .bool b]] w fun e w' => e = .returned (.bool true) ∧ Below w.heap.size w w' := by
  obtain ⟨hw1, hw2⟩ : 0 ≤ a0 ∧ a0 ≤ 255 := bounds_u8 w0
  obtain ⟨m, hm⟩ : ∃ m : Nat, (m : Int) = a0 % 61 := ⟨(a0 % 61).toNat, by omega⟩
  have hm2 : m < 61 := by omega
  obtain ⟨kg, hkg⟩ := (great_ev G a b).rounds
  have HKG := Aside0.mk hkg
  have HM := Aside0.mk hm
  have HV : Aside0 (Vars w ((w.alloc (.cells #[.slice A0 G.length c0, .int .u8 a, .bool b] 33)).alloc (.cells #[.int .i64 m] 3)) A0 c0 G a b m) := by
    refine ⟨⟨below_alloc (below_alloc (Below.refl _ _) _) _, blk_alloc (blk_new _ _) _, ?_, Kd.C_alloc (Kd.C_alloc hG _) _⟩⟩
    simpa using blk_new (w.alloc (.cells #[.slice A0 G.length c0, .int .u8 a, .bool b] 33)) (.cells #[.int .i64 m] 3)
  clear hkg hm w0 hG
  go_enter Try.func4, Try.ntmps4
  go_wp2_with fail
  rw [← HM.out]
  refine (demesnelaw40_great.calls kg A0 c0 G a b _ _ HV.out.hG hc0 HKG.out).mono ?_
  rintro e w1 ⟨rfl, hb1⟩
  have HV1 := Aside0.mk (HV.out.below hb1)
  clear HV hb1 HKG HM hw1 hw2
  by_cases hg : (decide (10 < G.length) || G.any (fun g => decide (10 < g.length))) = true
  · rw [hg]
    clear hg
    go_wp2_with (go_at_call 11; refine (wakes_calls _).mono ?_; rintro e w2 ⟨rfl, hb2⟩)
    go_ret
    exact ⟨rfl, below_then HV1.out.bel HV1.out.bel.size hb2⟩
  · replace hg := Bool.eq_false_iff.mpr hg
    rw [hg]
    obtain ⟨hg1, hg2⟩ : G.length ≤ 10 ∧ ∀ q (h : q < G.length), (G[q]).length ≤ 10 := by
      simp only [Bool.or_eq_false_iff, decide_eq_false_iff_not, List.any_eq_false, decide_eq_true_eq] at hg
      exact ⟨by omega, fun q h => by have := hg.2 _ (List.getElem_mem h); omega⟩
    have HG := Aside0.mk (⟨hg1, hg2⟩ : G.length ≤ 10 ∧ ∀ q (h : q < G.length), (G[q]).length ≤ 10)
    clear hg hg1 hg2
    obtain ⟨k0, hk0⟩ := (numbered_ev m (by omega)).rounds
    have HK0 := Aside0.mk hk0
    clear hk0
    have hcn := HV1.out.xcn
    go_wp2_with fail
    refine (demesnelaw40_numbered.calls k0 m _ _ HK0.out).mono ?_
    rintro e w2 ⟨v2, rfl, hv2, hb2⟩
    have HV2 := Aside0.mk (HV1.out.below hb2)
    obtain ⟨A2, c2, rfl, hc2, hC2⟩ := Kd.R_reads hv2
    have HC2 := Aside0.mk hC2
    clear hv2 hC2 hb2 HV1 hcn
    have hml : ((List.range m).map ent).length = m := by simp
    have HA := Aside0.mk (ans18 w2 w.heap.size (w.heap.size + 1) m A0 c0 G a b 60 (by omega) HV2.out.hr HV2.out.hn HV2.out.hG hc0 (by have := HG.out.1; omega) (fun q h => by have := HG.out.2 q h; omega))
    by_cases hp : rf G a b (((List.range m).map ent).map num) m = true
    · obtain ⟨r, ⟨xs, a', rfl, hpx, hsub, hle⟩, hev⟩ := script_least (fun xs => rf G a b (xs.map num) m) ((List.range m).map ent) (by rw [hml]; omega) hp
      obtain ⟨k1, hk1⟩ := hev.rounds
      have HP := Aside0.mk hpx
      have HL := Aside0.mk hle
      have HS := Aside0.mk hsub
      have SC := script_calls 18 _ _ 60 (by omega) w2 HA.out A2 c2 _ 100000 (by omega) HC2.out hc2 (by rw [hml]; omega) k1 _ _ _ hk1
      have HSC := Aside0.mk SC
      clear SC hpx hle hsub hk1 hev hp HA
      rw [hml]
      rw [hml] at HSC
      clear hml
      go_wp2_with fail
      refine HSC.out.mono ?_
      rintro e w3 ⟨v3, rfl, hv3, hb3⟩
      have HV3 := Aside0.mk (HV2.out.below hb3)
      obtain ⟨A3, c3, rfl, hc3, hC3⟩ := Kd.R_reads hv3
      have HC3 := Aside0.mk hC3
      clear hv3 hC3 hb3 HV2 HC2 HSC
      have hxl : xs.length ≤ m := by have := HS.out.length_le; simpa using this
      obtain ⟨k2, hk2⟩ := (numbers_ev xs (by omega)).rounds
      have HK2 := Aside0.mk hk2
      clear hk2
      go_wp2_with fail
      refine (demesnelaw40_numbers.calls k2 A3 c3 xs _ _ HC3.out hc3 HK2.out).mono ?_
      rintro e w4 ⟨v4, rfl, hv4, hb4⟩
      have HV4 := Aside0.mk (HV3.out.below hb4)
      obtain ⟨A4, c4, rfl, hc4, hC4⟩ := Kd.R_reads hv4
      have HC4 := Aside0.mk hC4
      clear hv4 hC4 hb4 HV3 HC3
      have HY := Aside0.mk (least_of HP.out HL.out HS.out hm2)
      clear HP HL HS HK2 hxl
      generalize xs.map num = ys at *
      go_wp2_with fail
      go_loopg [10] ys.length (fun kq v10 wr => ∃ i : Nat, v10 = .int .i64 i ∧ i + kq = ys.length ∧ Aside0 (Vars w wr A0 c0 G a b m) ∧ Aside0 (Kd.C (Kd.int .i64) wr A4 ys.length ys))
      case atStart => exact ⟨0, rfl, by omega, HV4, HC4⟩
      case round =>
        clear HV4 HC4
        obtain ⟨i, rfl, hi, HV5, HC5⟩ := hrel
        cases gk with
        | zero =>
          obtain rfl : i = ys.length := by omega
          clear hi
          obtain ⟨kf, hkf⟩ := (fails_ev ys m G a b (by have := HY.out.2.1; omega) (by have := HG.out.1; omega) (fun q h => by have := HG.out.2 q h; omega)).rounds
          rw [HY.out.1] at hkf
          have HKF := Aside0.mk hkf
          have hx0 := HV5.out.xc0
          have hx1 := HV5.out.xc1
          have hx2 := HV5.out.xc2
          have hxn := HV5.out.xcn
          clear hkf
          go_wp2_with fail
          refine (demesnelaw40_Rule_fails.calls kf A0 c0 G a b A4 c4 ys m true _ HV5.out.hG hc0 HC5.out hc4 HKF.out).mono ?_
          rintro e w5 ⟨rfl, hb5⟩
          have HV6 := Aside0.mk (HV5.out.below hb5)
          clear hb5
          go_wp2_with (go_at_call 11; refine (wakes_calls _).mono ?_; rintro e w6 ⟨rfl, hb6⟩)
          go_ret
          exact ⟨rfl, below_then HV6.out.bel HV6.out.bel.size hb6⟩
        | succ kq =>
          have hlt : decide ((i : Int) < ys.length) = true := decide_eq_true (by omega)
          have hlt2 : decide (i < ys.length) = true := decide_eq_true (by omega)
          have hil : i < ys.length := by omega
          have hi60 : i ≤ 60 := by have := HY.out.2.1; omega
          have hx0 := HV5.out.xc0
          have hx1 := HV5.out.xc1
          have hx2 := HV5.out.xc2
          have hxn := HV5.out.xcn
          have hcut1 := cut_head A4 c4 ys i hil hc4
          obtain ⟨A5, hcut2, hC5⟩ := cut_tail A4 c4 ys i hil hc4
          have HC5' := Aside0.mk (Kd.C_take HC5.out (m := i) (by omega))
          rw [List.length_take, Nat.min_eq_left (Nat.le_of_lt hil)] at HC5'
          have HC6 := Aside0.mk (hC5 _ HC5.out)
          have HRF := Aside0.mk (HY.out.2.2.1 i hil)
          obtain ⟨kf, hkf⟩ := (fails_ev (ys.take i ++ ys.drop (i + 1)) m G a b (by have := cut_len ys i hil; have := HY.out.2.1; omega) (by have := HG.out.1; omega) (fun q h => by have := HG.out.2 q h; omega)).rounds
          rw [HRF.out] at hkf
          have HKF := Aside0.mk hkf
          have HLN := Aside0.mk (cut_len ys i hil)
          have HLT := Aside0.mk hil
          clear hkf hC5 hil HRF
          have HL1 : Aside0 ((([] : List Int).length + i) * 8 ≤ 140737488355328) := ⟨by simp only [List.length_nil]; omega⟩
          have HL2 : Aside0 ((((ys.take i).length + (ys.length - (i + 1))) * 8) ≤ 140737488355328) := ⟨by have := HY.out.2.1; have := HLT.out; rw [List.length_take]; omega⟩
          by_cases h0 : i = 0
          · have hb0 : decide (0 < i) = false := decide_eq_false (by omega)
            have hb0' : decide ((0 : Int) < (i : Int)) = false := decide_eq_false (by omega)
            clear h0
            have hww : wrap64 ((i : Int) + 1) = (i : Int) + 1 := wrap_succ i hi60
            go_wp2_with fail
            refine start_ (n := 28) (S := fun w' => w'.cell? ⟨w.heap.size, 0, none⟩ = some (.slice A0 G.length c0) ∧ w'.cell? ⟨w.heap.size, 1, none⟩ = some (.int .u8 a) ∧ w'.cell? ⟨w.heap.size, 2, none⟩ = some (.bool b) ∧ w'.cell? ⟨w.heap.size + 1, 0, none⟩ = some (.int .i64 m)) (ds := []) #[false, false, false, false, false, false, false, false, false, false, false, false, false, false, false, false, false, false, false, false, false, false, false, false, false, false, false, false] (by kernel_rfl) rfl rfl ⟨hx0, hx1, hx2, hxn⟩ (fun hHeld => ?_)
            refine pure_ (i := 0) (N := some 49) (v := ?_) (a' := ?_) #[true, false, false, false, false, false, false, false, false, false, false, false, false, false, false, false, false, false, false, false, false, false, false, false, false, false, false, false] rfl rfl (by kernel_rfl) (fun _ _ _ h => h) (Or.inl ⟨by rfl, ?_⟩) ?_ ?_
            rotate_left
            · intro w'
              go_simp
              with_reducible rfl
            rotate_left
            · simp only [Act.put, List.setIfInBounds_toArray, List.set_cons_zero, List.set_cons_succ, i64_w, i32_w]
              rfl
            refine pure_ (i := 1) (N := some 50) (v := ?_) (a' := ?_) #[true, true, false, false, false, false, false, false, false, false, false, false, false, false, false, false, false, false, false, false, false, false, false, false, false, false, false, false] rfl rfl (by kernel_rfl) (fun _ _ _ h => h) (Or.inl ⟨by rfl, ?_⟩) ?_ ?_
            rotate_left
            · intro w'
              go_simp
              with_reducible rfl
            rotate_left
            · simp only [Act.put, List.setIfInBounds_toArray, List.set_cons_zero, List.set_cons_succ, i64_w, i32_w]
              rfl
            refine pure_ (i := 2) (N := some 51) (v := ?_) (a' := ?_) #[true, true, true, false, false, false, false, false, false, false, false, false, false, false, false, false, false, false, false, false, false, false, false, false, false, false, false, false] rfl rfl (by kernel_rfl) (fun _ _ _ h => h) (Or.inl ⟨by rfl, ?_⟩) ?_ ?_
            rotate_left
            · intro w'
              go_simp
              with_reducible rfl
            rotate_left
            · simp only [Act.put, List.setIfInBounds_toArray, List.set_cons_zero, List.set_cons_succ, i64_w, i32_w]
              rfl
            refine pure_ (i := 3) (N := some 52) (v := undef) (a' := ?_) #[true, true, true, true, false, false, false, false, false, false, false, false, false, false, false, false, false, false, false, false, false, false, false, false, false, false, false, false] rfl rfl (by kernel_rfl) (fun _ _ _ h => h) (Or.inr ⟨by rfl, rfl⟩) ?_ ?_
            rotate_left
            · simp only [Act.put, List.setIfInBounds_toArray, List.set_cons_zero, List.set_cons_succ, i64_w, i32_w]
              rfl
            refine pure_ (i := 4) (N := some 53) (v := undef) (a' := ?_) #[true, true, true, true, true, false, false, false, false, false, false, false, false, false, false, false, false, false, false, false, false, false, false, false, false, false, false, false] rfl rfl (by kernel_rfl) (fun _ _ _ h => h) (Or.inr ⟨by rfl, rfl⟩) ?_ ?_
            rotate_left
            · simp only [Act.put, List.setIfInBounds_toArray, List.set_cons_zero, List.set_cons_succ, i64_w, i32_w]
              rfl
            refine pure_ (i := 5) (N := some 54) (v := undef) (a' := ?_) #[true, true, true, true, true, true, false, false, false, false, false, false, false, false, false, false, false, false, false, false, false, false, false, false, false, false, false, false] rfl rfl (by kernel_rfl) (fun _ _ _ h => h) (Or.inr ⟨by rfl, rfl⟩) ?_ ?_
            rotate_left
            · simp only [Act.put, List.setIfInBounds_toArray, List.set_cons_zero, List.set_cons_succ, i64_w, i32_w]
              rfl
            refine pure_ (i := 6) (N := some 55) (v := undef) (a' := ?_) #[true, true, true, true, true, true, true, false, false, false, false, false, false, false, false, false, false, false, false, false, false, false, false, false, false, false, false, false] rfl rfl (by kernel_rfl) (fun _ _ _ h => h) (Or.inr ⟨by rfl, rfl⟩) ?_ ?_
            rotate_left
            · simp only [Act.put, List.setIfInBounds_toArray, List.set_cons_zero, List.set_cons_succ, i64_w, i32_w]
              rfl
            refine pure_ (i := 7) (N := some 56) (v := undef) (a' := ?_) #[true, true, true, true, true, true, true, true, false, false, false, false, false, false, false, false, false, false, false, false, false, false, false, false, false, false, false, false] rfl rfl (by kernel_rfl) (fun _ _ _ h => h) (Or.inr ⟨by rfl, rfl⟩) ?_ ?_
            rotate_left
            · simp only [Act.put, List.setIfInBounds_toArray, List.set_cons_zero, List.set_cons_succ, i64_w, i32_w]
              rfl
            refine pure_ (i := 8) (N := some 57) (v := undef) (a' := ?_) #[true, true, true, true, true, true, true, true, true, false, false, false, false, false, false, false, false, false, false, false, false, false, false, false, false, false, false, false] rfl rfl (by kernel_rfl) (fun _ _ _ h => h) (Or.inr ⟨by rfl, rfl⟩) ?_ ?_
            rotate_left
            · simp only [Act.put, List.setIfInBounds_toArray, List.set_cons_zero, List.set_cons_succ, i64_w, i32_w]
              rfl
            refine pure_ (i := 9) (N := some 58) (v := undef) (a' := ?_) #[true, true, true, true, true, true, true, true, true, true, false, false, false, false, false, false, false, false, false, false, false, false, false, false, false, false, false, false] rfl rfl (by kernel_rfl) (fun _ _ _ h => h) (Or.inr ⟨by rfl, rfl⟩) ?_ ?_
            rotate_left
            · simp only [Act.put, List.setIfInBounds_toArray, List.set_cons_zero, List.set_cons_succ, i64_w, i32_w]
              rfl
            refine pure_ (i := 10) (N := some 59) (v := undef) (a' := ?_) #[true, true, true, true, true, true, true, true, true, true, true, false, false, false, false, false, false, false, false, false, false, false, false, false, false, false, false, false] rfl rfl (by kernel_rfl) (fun _ _ _ h => h) (Or.inr ⟨by rfl, rfl⟩) ?_ ?_
            rotate_left
            · simp only [Act.put, List.setIfInBounds_toArray, List.set_cons_zero, List.set_cons_succ, i64_w, i32_w]
              rfl
            refine pure_ (i := 11) (N := some 60) (v := undef) (a' := ?_) #[true, true, true, true, true, true, true, true, true, true, true, true, false, false, false, false, false, false, false, false, false, false, false, false, false, false, false, false] rfl rfl (by kernel_rfl) (fun _ _ _ h => h) (Or.inr ⟨by rfl, rfl⟩) ?_ ?_
            rotate_left
            · simp only [Act.put, List.setIfInBounds_toArray, List.set_cons_zero, List.set_cons_succ, i64_w, i32_w]
              rfl
            refine pure_ (i := 12) (N := some 61) (v := undef) (a' := ?_) #[true, true, true, true, true, true, true, true, true, true, true, true, true, false, false, false, false, false, false, false, false, false, false, false, false, false, false, false] rfl rfl (by kernel_rfl) (fun _ _ _ h => h) (Or.inr ⟨by rfl, rfl⟩) ?_ ?_
            rotate_left
            · simp only [Act.put, List.setIfInBounds_toArray, List.set_cons_zero, List.set_cons_succ, i64_w, i32_w]
              rfl
            refine pure_ (i := 13) (N := some 62) (v := ?_) (a' := ?_) #[true, true, true, true, true, true, true, true, true, true, true, true, true, true, false, false, false, false, false, false, false, false, false, false, false, false, false, false] rfl rfl (by kernel_rfl) (fun _ _ _ h => h) (Or.inl ⟨by rfl, ?_⟩) ?_ ?_
            rotate_left
            · intro w'
              go_simp
              with_reducible rfl
            rotate_left
            · simp only [Act.put, List.setIfInBounds_toArray, List.set_cons_zero, List.set_cons_succ, i64_w, i32_w]
              rfl
            refine pure_ (i := 14) (N := some 63) (v := ?_) (a' := ?_) #[true, true, true, true, true, true, true, true, true, true, true, true, true, true, true, false, false, false, false, false, false, false, false, false, false, false, false, false] rfl rfl (by kernel_rfl) (fun _ _ _ h => h) (Or.inl ⟨by rfl, ?_⟩) ?_ ?_
            rotate_left
            · intro w'
              go_simp
              with_reducible rfl
            rotate_left
            · simp only [Act.put, List.setIfInBounds_toArray, List.set_cons_zero, List.set_cons_succ, i64_w, i32_w]
              rfl
            refine pure_ (i := 16) (N := some 65) (v := ?_) (a' := ?_) #[true, true, true, true, true, true, true, true, true, true, true, true, true, true, true, false, true, false, false, false, false, false, false, false, false, false, false, false] rfl rfl (by kernel_rfl) (fun _ _ _ h => h) (Or.inl ⟨by rfl, ?_⟩) ?_ ?_
            rotate_left
            · intro w'
              go_simp
              with_reducible rfl
            rotate_left
            · simp only [Act.put, List.setIfInBounds_toArray, List.set_cons_zero, List.set_cons_succ, i64_w, i32_w]
              rfl
            refine pure_ (i := 17) (N := some 66) (v := ?_) (a' := ?_) #[true, true, true, true, true, true, true, true, true, true, true, true, true, true, true, false, true, true, false, false, false, false, false, false, false, false, false, false] rfl rfl (by kernel_rfl) (fun _ _ _ h => h) (Or.inl ⟨by rfl, ?_⟩) ?_ ?_
            rotate_left
            · intro w'
              go_simp
              with_reducible rfl
            rotate_left
            · simp only [Act.put, List.setIfInBounds_toArray, List.set_cons_zero, List.set_cons_succ, i64_w, i32_w]
              rfl
            refine pure_ (i := 18) (N := some 67) (v := ?_) (a' := ?_) #[true, true, true, true, true, true, true, true, true, true, true, true, true, true, true, false, true, true, true, false, false, false, false, false, false, false, false, false] rfl rfl (by kernel_rfl) (fun _ _ _ h => h) (Or.inl ⟨by rfl, ?_⟩) ?_ ?_
            rotate_left
            · intro w'
              go_simp
              with_reducible rfl
            rotate_left
            · simp only [Act.put, List.setIfInBounds_toArray, List.set_cons_zero, List.set_cons_succ, i64_w, i32_w]
              rfl
            refine pure_ (i := 20) (N := some 69) (v := ?_) (a' := ?_) #[true, true, true, true, true, true, true, true, true, true, true, true, true, true, true, false, true, true, true, false, true, false, false, false, false, false, false, false] rfl rfl (by kernel_rfl) (fun _ _ _ h => h) (Or.inl ⟨by rfl, ?_⟩) ?_ ?_
            rotate_left
            · intro w'
              go_simp
              with_reducible rfl
            rotate_left
            · simp only [Act.put, List.setIfInBounds_toArray, List.set_cons_zero, List.set_cons_succ, i64_w, i32_w]
              rfl
            refine pure_ (i := 21) (N := some 70) (v := ?_) (a' := ?_) #[true, true, true, true, true, true, true, true, true, true, true, true, true, true, true, false, true, true, true, false, true, true, false, false, false, false, false, false] rfl rfl (by kernel_rfl) (fun _ _ _ h => h) (Or.inl ⟨by rfl, ?_⟩) ?_ ?_
            rotate_left
            · intro w'
              go_simp
              with_reducible rfl
            rotate_left
            · simp only [Act.put, List.setIfInBounds_toArray, List.set_cons_zero, List.set_cons_succ, i64_w, i32_w]
              rfl
            refine pure_ (i := 22) (N := some 71) (v := ?_) (a' := ?_) #[true, true, true, true, true, true, true, true, true, true, true, true, true, true, true, false, true, true, true, false, true, true, true, false, false, false, false, false] rfl rfl (by kernel_rfl) (fun _ _ _ h => h) (Or.inl ⟨by rfl, ?_⟩) ?_ ?_
            rotate_left
            · intro w'
              go_simp
              with_reducible rfl
            rotate_left
            · simp only [Act.put, List.setIfInBounds_toArray, List.set_cons_zero, List.set_cons_succ, i64_w, i32_w]
              rfl
            refine pure_ (i := 23) (N := some 72) (v := ?_) (a' := ?_) #[true, true, true, true, true, true, true, true, true, true, true, true, true, true, true, false, true, true, true, false, true, true, true, true, false, false, false, false] rfl rfl (by kernel_rfl) (fun _ _ _ h => h) (Or.inl ⟨by rfl, ?_⟩) ?_ ?_
            rotate_left
            · intro w'
              go_simp
              with_reducible rfl
            rotate_left
            · simp only [Act.put, List.setIfInBounds_toArray, List.set_cons_zero, List.set_cons_succ, i64_w, i32_w]
              rfl
            refine take_ (i := 15) (N := some 64) (v := ?_) (a' := ?_) #[true, true, true, true, true, true, true, true, true, true, true, true, true, true, true, true, true, true, true, false, true, true, true, true, false, false, false, false] rfl rfl (by kernel_rfl) (fun _ _ _ h => h) (Or.inl ⟨by rfl, ?_⟩) hHeld ?_ ?_
            rotate_left
            · rintro w' ⟨s0, s1, s2, s3⟩
              go_simp
              with_reducible rfl
            rotate_left
            · simp only [Act.put, List.setIfInBounds_toArray, List.set_cons_zero, List.set_cons_succ, i64_w, i32_w]
              rfl
            refine take_ (i := 25) (N := some 74) (v := ?_) (a' := ?_) #[true, true, true, true, true, true, true, true, true, true, true, true, true, true, true, true, true, true, true, false, true, true, true, true, false, true, false, false] rfl rfl (by kernel_rfl) (fun _ _ _ h => h) (Or.inl ⟨by rfl, ?_⟩) hHeld ?_ ?_
            rotate_left
            · rintro w' ⟨s0, s1, s2, s3⟩
              go_simp
              with_reducible rfl
            rotate_left
            · simp only [Act.put, List.setIfInBounds_toArray, List.set_cons_zero, List.set_cons_succ, i64_w, i32_w]
              rfl
            refine one_ (i := 19) (N := some 68) #[true, true, true, true, true, true, true, true, true, true, true, true, true, true, true, true, true, true, true, true, true, true, true, true, false, true, false, false] rfl rfl (by kernel_rfl) (by decide) (fun K hK => ?_)
            refine R_append_row_step (Kd.int .i64) (w0 := wr) wr.heap.size (by rfl) (.const (.slice none 0 0)) (.tmp 67) 26 3 (.int .i64 0) 8 rfl Try.underlying26 info3 rfl (by decide) (by omega) (.slice none 0 0) [] (ys.take i) A4 i c4 (fun _ => True) rfl rfl (fun _ _ _ _ h => h) (fun _ _ => trivial) (Kd.R_nil _ _ _ _ _) (Kd.C_drew HC5'.out) (below_drew (Below.refl _ _)) (Nat.le_refl _) HL1.out ?_
            intro v1 wA ho1 hb1 hg1 hat1
            rw [List.nil_append] at ho1
            have HOA := Aside0.mk ho1
            have HBA := Aside0.mk hb1
            clear ho1 hb1 hg1 hat1
            refine hK.out _ _ ⟨(pw_cell_below HBA.out hx0), (pw_cell_below HBA.out hx1), (pw_cell_below HBA.out hx2), (pw_cell_below HBA.out hxn)⟩ (fun hHeld => ?_)
            clear hK K
            refine norm_ (a' := ?_) ?_ ?_
            rotate_left
            · show Act.put _ (some 68) _ = _
              simp only [Act.put, List.setIfInBounds_toArray, List.set_cons_zero, List.set_cons_succ, i64_w, i32_w]
              rfl
            refine one_ (i := 24) (N := some 73) #[true, true, true, true, true, true, true, true, true, true, true, true, true, true, true, true, true, true, true, true, true, true, true, true, true, true, false, false] rfl rfl (by kernel_rfl) (by decide) (fun K hK => ?_)
            refine R_append_row_step (Kd.int .i64) (w0 := wr) wr.heap.size (by rfl) (.tmp 68) (.tmp 72) 26 3 (.int .i64 0) 8 rfl Try.underlying26 info3 rfl (by decide) (by omega) v1 (ys.take i) (ys.drop (i + 1)) A5 (ys.length - (i + 1)) (c4 - (i + 1)) (fun _ => True) rfl rfl (fun _ _ _ _ h => h) (fun _ _ => trivial) HOA.out (Kd.C_below HC6.out HBA.out) HBA.out HBA.out.size HL2.out ?_
            intro v2 wB ho2 hb2 hg2 hat2
            obtain ⟨A7, c7, hv7, hc7, hC7⟩ := Kd.R_reads ho2
            subst hv7
            have HC7 := Aside0.mk hC7
            have HBB := Aside0.mk hb2
            clear ho2 hC7 hb2 hg2 hat2 HOA HBA
            refine hK.out _ _ ⟨(pw_cell_below HBB.out hx0), (pw_cell_below HBB.out hx1), (pw_cell_below HBB.out hx2), (pw_cell_below HBB.out hxn)⟩ (fun hHeld => ?_)
            clear hK K
            refine norm_ (a' := ?_) ?_ ?_
            rotate_left
            · show Act.put _ (some 73) _ = _
              simp only [Act.put, List.setIfInBounds_toArray, List.set_cons_zero, List.set_cons_succ, i64_w, i32_w]
              rfl
            refine one_ (i := 26) (N := some 75) #[true, true, true, true, true, true, true, true, true, true, true, true, true, true, true, true, true, true, true, true, true, true, true, true, true, true, true, false] rfl rfl (by kernel_rfl) (by decide) (fun K hK => ?_)
            refine goes_ Try.func19 (by kernel_rfl) rfl #[.agg #[.slice A0 G.length c0, .int .u8 a, .bool b], .slice A7 (ys.take i ++ ys.drop (i + 1)).length c7, .int .i64 m] (by rfl) rfl rfl (by simp only [List.map_toArray, List.map_cons, List.map_nil]; rfl) ?_
            with_reducible refine (demesnelaw40_Rule_fails.calls kf A0 c0 G a b A7 c7 (ys.take i ++ ys.drop (i + 1)) m false _ (Kd.C_below HV5.out.hG HBB.out) hc0 HC7.out hc7 HKF.out).mono ?_
            rintro e w3 ⟨rfl, hb3⟩
            refine ⟨_, rfl, ?_⟩
            have HB3 := Aside0.mk (HBB.out.trans (hb3.mono HBB.out.size))
            clear hb3
            refine hK.out _ _ ⟨(pw_cell_below HB3.out hx0), (pw_cell_below HB3.out hx1), (pw_cell_below HB3.out hx2), (pw_cell_below HB3.out hxn)⟩ (fun hHeld => ?_)
            clear hK K
            refine norm_ (a' := ?_) ?_ ?_
            rotate_left
            · show Act.put _ (some 75) _ = _
              simp only [Act.put, List.setIfInBounds_toArray, List.set_cons_zero, List.set_cons_succ, i64_w, i32_w]
              rfl
            refine pure_ (i := 27) (N := some 76) (v := ?_) (a' := ?_) #[true, true, true, true, true, true, true, true, true, true, true, true, true, true, true, true, true, true, true, true, true, true, true, true, true, true, true, true] rfl rfl (by kernel_rfl) (fun _ _ _ h => h) (Or.inl ⟨by rfl, ?_⟩) ?_ ?_
            rotate_left
            · intro w'
              go_simp
              with_reducible rfl
            rotate_left
            · simp only [Act.put, List.setIfInBounds_toArray, List.set_cons_zero, List.set_cons_succ, i64_w, i32_w]
              rfl
            refine done_ (by kernel_rfl) ?_
            clear hww
            go_wp2
            go_roundg kq
            case measure => omega
            case rel => exact ⟨i + 1, by go_num, by omega, ⟨HV5.out.below HB3.out⟩, ⟨Kd.C_below HC5.out HB3.out⟩⟩
          · have hb0 : decide (0 < i) = true := decide_eq_true (by omega)
            have hb0' : decide ((0 : Int) < (i : Int)) = true := decide_eq_true (by omega)
            have hil := HLT.out
            obtain ⟨ad, e1, hy0⟩ := Kd.at_int HC5.out ((i - 1 : Nat) : Int) (by omega) (by omega)
            subst e1
            obtain ⟨ad', e2, hy1⟩ := Kd.at_int HC5.out (i : Int) (by omega) (by omega)
            cases e2
            rw [rd_at ys (i - 1) (by omega), Int.toNat_natCast] at hy0
            rw [rd_at ys i hil, Int.toNat_natCast] at hy1
            have hyl : ys[i - 1] < ys[i] := List.pairwise_iff_getElem.1 HY.out.2.2.2 (i - 1) i (by omega) hil (by omega)
            generalize ys[i - 1] = y0 at *
            generalize ys[i] = y1 at *
            have hyd : decide (y1 ≤ y0) = false := decide_eq_false (by omega)
            have p1 := eq_true (show i - 1 < ys.length by omega)
            have p2 := eq_true (show i < ys.length by omega)
            have hwm : wrap64 ((i : Int) - 1) = ((i - 1 : Nat) : Int) := wrap_pred i (by omega) (by omega)
            have hww : wrap64 ((i : Int) + 1) = (i : Int) + 1 := wrap_succ i hi60
            clear h0 hil hyl
            go_wp2_with fail
            refine start_ (n := 28) (S := fun w' => w'.cell? ⟨w.heap.size, 0, none⟩ = some (.slice A0 G.length c0) ∧ w'.cell? ⟨w.heap.size, 1, none⟩ = some (.int .u8 a) ∧ w'.cell? ⟨w.heap.size, 2, none⟩ = some (.bool b) ∧ w'.cell? ⟨w.heap.size + 1, 0, none⟩ = some (.int .i64 m) ∧ w'.cell? (ad.add (i - 1)) = some (.int .i64 y0) ∧ w'.cell? (ad.add i) = some (.int .i64 y1)) (ds := []) #[false, false, false, false, false, false, false, false, false, false, false, false, false, false, false, false, false, false, false, false, false, false, false, false, false, false, false, false] (by kernel_rfl) rfl rfl ⟨hx0, hx1, hx2, hxn, hy0, hy1⟩ (fun hHeld => ?_)
            refine pure_ (i := 0) (N := some 49) (v := ?_) (a' := ?_) #[true, false, false, false, false, false, false, false, false, false, false, false, false, false, false, false, false, false, false, false, false, false, false, false, false, false, false, false] rfl rfl (by kernel_rfl) (fun _ _ _ h => h) (Or.inl ⟨by rfl, ?_⟩) ?_ ?_
            rotate_left
            · intro w'
              go_simp
              with_reducible rfl
            rotate_left
            · simp only [Act.put, List.setIfInBounds_toArray, List.set_cons_zero, List.set_cons_succ, i64_w, i32_w]
              rfl
            refine pure_ (i := 1) (N := some 50) (v := ?_) (a' := ?_) #[true, true, false, false, false, false, false, false, false, false, false, false, false, false, false, false, false, false, false, false, false, false, false, false, false, false, false, false] rfl rfl (by kernel_rfl) (fun _ _ _ h => h) (Or.inl ⟨by rfl, ?_⟩) ?_ ?_
            rotate_left
            · intro w'
              go_simp
              with_reducible rfl
            rotate_left
            · simp only [Act.put, List.setIfInBounds_toArray, List.set_cons_zero, List.set_cons_succ, i64_w, i32_w]
              rfl
            refine pure_ (i := 2) (N := some 51) (v := ?_) (a' := ?_) #[true, true, true, false, false, false, false, false, false, false, false, false, false, false, false, false, false, false, false, false, false, false, false, false, false, false, false, false] rfl rfl (by kernel_rfl) (fun _ _ _ h => h) (Or.inl ⟨by rfl, ?_⟩) ?_ ?_
            rotate_left
            · intro w'
              go_simp
              with_reducible rfl
            rotate_left
            · simp only [Act.put, List.setIfInBounds_toArray, List.set_cons_zero, List.set_cons_succ, i64_w, i32_w]
              rfl
            refine pure_ (i := 3) (N := some 52) (v := ?_) (a' := ?_) #[true, true, true, true, false, false, false, false, false, false, false, false, false, false, false, false, false, false, false, false, false, false, false, false, false, false, false, false] rfl rfl (by kernel_rfl) (fun _ _ _ h => h) (Or.inl ⟨by rfl, ?_⟩) ?_ ?_
            rotate_left
            · intro w'
              go_simp
              with_reducible rfl
            rotate_left
            · simp only [Act.put, List.setIfInBounds_toArray, List.set_cons_zero, List.set_cons_succ, i64_w, i32_w]
              rfl
            refine pure_ (i := 4) (N := some 53) (v := ?_) (a' := ?_) #[true, true, true, true, true, false, false, false, false, false, false, false, false, false, false, false, false, false, false, false, false, false, false, false, false, false, false, false] rfl rfl (by kernel_rfl) (fun _ _ _ h => h) (Or.inl ⟨by rfl, ?_⟩) ?_ ?_
            rotate_left
            · intro w'
              go_simp
              with_reducible rfl
            rotate_left
            · simp only [Act.put, List.setIfInBounds_toArray, List.set_cons_zero, List.set_cons_succ, i64_w, i32_w]
              rfl
            refine pure_ (i := 5) (N := some 54) (v := ?_) (a' := ?_) #[true, true, true, true, true, true, false, false, false, false, false, false, false, false, false, false, false, false, false, false, false, false, false, false, false, false, false, false] rfl rfl (by kernel_rfl) (fun _ _ _ h => h) (Or.inl ⟨by rfl, ?_⟩) ?_ ?_
            rotate_left
            · intro w'
              go_simp
              with_reducible rfl
            rotate_left
            · simp only [Act.put, List.setIfInBounds_toArray, List.set_cons_zero, List.set_cons_succ, i64_w, i32_w]
              rfl
            refine pure_ (i := 6) (N := some 55) (v := ?_) (a' := ?_) #[true, true, true, true, true, true, true, false, false, false, false, false, false, false, false, false, false, false, false, false, false, false, false, false, false, false, false, false] rfl rfl (by kernel_rfl) (fun _ _ _ h => h) (Or.inl ⟨by rfl, ?_⟩) ?_ ?_
            rotate_left
            · intro w'
              go_simp
              with_reducible rfl
            rotate_left
            · simp only [Act.put, List.setIfInBounds_toArray, List.set_cons_zero, List.set_cons_succ, i64_w, i32_w]
              rfl
            refine pure_ (i := 8) (N := some 57) (v := ?_) (a' := ?_) #[true, true, true, true, true, true, true, false, true, false, false, false, false, false, false, false, false, false, false, false, false, false, false, false, false, false, false, false] rfl rfl (by kernel_rfl) (fun _ _ _ h => h) (Or.inl ⟨by rfl, ?_⟩) ?_ ?_
            rotate_left
            · intro w'
              go_simp
              with_reducible rfl
            rotate_left
            · simp only [Act.put, List.setIfInBounds_toArray, List.set_cons_zero, List.set_cons_succ, i64_w, i32_w]
              rfl
            refine pure_ (i := 9) (N := some 58) (v := ?_) (a' := ?_) #[true, true, true, true, true, true, true, false, true, true, false, false, false, false, false, false, false, false, false, false, false, false, false, false, false, false, false, false] rfl rfl (by kernel_rfl) (fun _ _ _ h => h) (Or.inl ⟨by rfl, ?_⟩) ?_ ?_
            rotate_left
            · intro w'
              go_simp
              with_reducible rfl
            rotate_left
            · simp only [Act.put, List.setIfInBounds_toArray, List.set_cons_zero, List.set_cons_succ, i64_w, i32_w]
              rfl
            refine pure_ (i := 10) (N := some 59) (v := ?_) (a' := ?_) #[true, true, true, true, true, true, true, false, true, true, true, false, false, false, false, false, false, false, false, false, false, false, false, false, false, false, false, false] rfl rfl (by kernel_rfl) (fun _ _ _ h => h) (Or.inl ⟨by rfl, ?_⟩) ?_ ?_
            rotate_left
            · intro w'
              go_simp
              with_reducible rfl
            rotate_left
            · simp only [Act.put, List.setIfInBounds_toArray, List.set_cons_zero, List.set_cons_succ, i64_w, i32_w]
              rfl
            refine take_ (i := 7) (N := some 56) (v := ?_) (a' := ?_) #[true, true, true, true, true, true, true, true, true, true, true, false, false, false, false, false, false, false, false, false, false, false, false, false, false, false, false, false] rfl rfl (by kernel_rfl) (fun _ _ _ h => h) (Or.inl ⟨by rfl, ?_⟩) hHeld ?_ ?_
            rotate_left
            · rintro w' ⟨s0, s1, s2, s3, s4, s5⟩
              go_simp
              with_reducible rfl
            rotate_left
            · simp only [Act.put, List.setIfInBounds_toArray, List.set_cons_zero, List.set_cons_succ, i64_w, i32_w]
              rfl
            refine take_ (i := 11) (N := some 60) (v := ?_) (a' := ?_) #[true, true, true, true, true, true, true, true, true, true, true, true, false, false, false, false, false, false, false, false, false, false, false, false, false, false, false, false] rfl rfl (by kernel_rfl) (fun _ _ _ h => h) (Or.inl ⟨by rfl, ?_⟩) hHeld ?_ ?_
            rotate_left
            · rintro w' ⟨s0, s1, s2, s3, s4, s5⟩
              go_simp
              with_reducible rfl
            rotate_left
            · simp only [Act.put, List.setIfInBounds_toArray, List.set_cons_zero, List.set_cons_succ, i64_w, i32_w]
              rfl
            refine pure_ (i := 12) (N := some 61) (v := ?_) (a' := ?_) #[true, true, true, true, true, true, true, true, true, true, true, true, true, false, false, false, false, false, false, false, false, false, false, false, false, false, false, false] rfl rfl (by kernel_rfl) (fun _ _ _ h => h) (Or.inl ⟨by rfl, ?_⟩) ?_ ?_
            rotate_left
            · intro w'
              go_simp
              with_reducible rfl
            rotate_left
            · simp only [Act.put, List.setIfInBounds_toArray, List.set_cons_zero, List.set_cons_succ, i64_w, i32_w]
              rfl
            refine pure_ (i := 13) (N := some 62) (v := ?_) (a' := ?_) #[true, true, true, true, true, true, true, true, true, true, true, true, true, true, false, false, false, false, false, false, false, false, false, false, false, false, false, false] rfl rfl (by kernel_rfl) (fun _ _ _ h => h) (Or.inl ⟨by rfl, ?_⟩) ?_ ?_
            rotate_left
            · intro w'
              go_simp
              with_reducible rfl
            rotate_left
            · simp only [Act.put, List.setIfInBounds_toArray, List.set_cons_zero, List.set_cons_succ, i64_w, i32_w]
              rfl
            refine pure_ (i := 14) (N := some 63) (v := ?_) (a' := ?_) #[true, true, true, true, true, true, true, true, true, true, true, true, true, true, true, false, false, false, false, false, false, false, false, false, false, false, false, false] rfl rfl (by kernel_rfl) (fun _ _ _ h => h) (Or.inl ⟨by rfl, ?_⟩) ?_ ?_
            rotate_left
            · intro w'
              go_simp
              with_reducible rfl
            rotate_left
            · simp only [Act.put, List.setIfInBounds_toArray, List.set_cons_zero, List.set_cons_succ, i64_w, i32_w]
              rfl
            refine pure_ (i := 16) (N := some 65) (v := ?_) (a' := ?_) #[true, true, true, true, true, true, true, true, true, true, true, true, true, true, true, false, true, false, false, false, false, false, false, false, false, false, false, false] rfl rfl (by kernel_rfl) (fun _ _ _ h => h) (Or.inl ⟨by rfl, ?_⟩) ?_ ?_
            rotate_left
            · intro w'
              go_simp
              with_reducible rfl
            rotate_left
            · simp only [Act.put, List.setIfInBounds_toArray, List.set_cons_zero, List.set_cons_succ, i64_w, i32_w]
              rfl
            refine pure_ (i := 17) (N := some 66) (v := ?_) (a' := ?_) #[true, true, true, true, true, true, true, true, true, true, true, true, true, true, true, false, true, true, false, false, false, false, false, false, false, false, false, false] rfl rfl (by kernel_rfl) (fun _ _ _ h => h) (Or.inl ⟨by rfl, ?_⟩) ?_ ?_
            rotate_left
            · intro w'
              go_simp
              with_reducible rfl
            rotate_left
            · simp only [Act.put, List.setIfInBounds_toArray, List.set_cons_zero, List.set_cons_succ, i64_w, i32_w]
              rfl
            refine pure_ (i := 18) (N := some 67) (v := ?_) (a' := ?_) #[true, true, true, true, true, true, true, true, true, true, true, true, true, true, true, false, true, true, true, false, false, false, false, false, false, false, false, false] rfl rfl (by kernel_rfl) (fun _ _ _ h => h) (Or.inl ⟨by rfl, ?_⟩) ?_ ?_
            rotate_left
            · intro w'
              go_simp
              with_reducible rfl
            rotate_left
            · simp only [Act.put, List.setIfInBounds_toArray, List.set_cons_zero, List.set_cons_succ, i64_w, i32_w]
              rfl
            refine pure_ (i := 20) (N := some 69) (v := ?_) (a' := ?_) #[true, true, true, true, true, true, true, true, true, true, true, true, true, true, true, false, true, true, true, false, true, false, false, false, false, false, false, false] rfl rfl (by kernel_rfl) (fun _ _ _ h => h) (Or.inl ⟨by rfl, ?_⟩) ?_ ?_
            rotate_left
            · intro w'
              go_simp
              with_reducible rfl
            rotate_left
            · simp only [Act.put, List.setIfInBounds_toArray, List.set_cons_zero, List.set_cons_succ, i64_w, i32_w]
              rfl
            refine pure_ (i := 21) (N := some 70) (v := ?_) (a' := ?_) #[true, true, true, true, true, true, true, true, true, true, true, true, true, true, true, false, true, true, true, false, true, true, false, false, false, false, false, false] rfl rfl (by kernel_rfl) (fun _ _ _ h => h) (Or.inl ⟨by rfl, ?_⟩) ?_ ?_
            rotate_left
            · intro w'
              go_simp
              with_reducible rfl
            rotate_left
            · simp only [Act.put, List.setIfInBounds_toArray, List.set_cons_zero, List.set_cons_succ, i64_w, i32_w]
              rfl
            refine pure_ (i := 22) (N := some 71) (v := ?_) (a' := ?_) #[true, true, true, true, true, true, true, true, true, true, true, true, true, true, true, false, true, true, true, false, true, true, true, false, false, false, false, false] rfl rfl (by kernel_rfl) (fun _ _ _ h => h) (Or.inl ⟨by rfl, ?_⟩) ?_ ?_
            rotate_left
            · intro w'
              go_simp
              with_reducible rfl
            rotate_left
            · simp only [Act.put, List.setIfInBounds_toArray, List.set_cons_zero, List.set_cons_succ, i64_w, i32_w]
              rfl
            refine pure_ (i := 23) (N := some 72) (v := ?_) (a' := ?_) #[true, true, true, true, true, true, true, true, true, true, true, true, true, true, true, false, true, true, true, false, true, true, true, true, false, false, false, false] rfl rfl (by kernel_rfl) (fun _ _ _ h => h) (Or.inl ⟨by rfl, ?_⟩) ?_ ?_
            rotate_left
            · intro w'
              go_simp
              with_reducible rfl
            rotate_left
            · simp only [Act.put, List.setIfInBounds_toArray, List.set_cons_zero, List.set_cons_succ, i64_w, i32_w]
              rfl
            refine take_ (i := 15) (N := some 64) (v := ?_) (a' := ?_) #[true, true, true, true, true, true, true, true, true, true, true, true, true, true, true, true, true, true, true, false, true, true, true, true, false, false, false, false] rfl rfl (by kernel_rfl) (fun _ _ _ h => h) (Or.inl ⟨by rfl, ?_⟩) hHeld ?_ ?_
            rotate_left
            · rintro w' ⟨s0, s1, s2, s3, s4, s5⟩
              go_simp
              with_reducible rfl
            rotate_left
            · simp only [Act.put, List.setIfInBounds_toArray, List.set_cons_zero, List.set_cons_succ, i64_w, i32_w]
              rfl
            refine take_ (i := 25) (N := some 74) (v := ?_) (a' := ?_) #[true, true, true, true, true, true, true, true, true, true, true, true, true, true, true, true, true, true, true, false, true, true, true, true, false, true, false, false] rfl rfl (by kernel_rfl) (fun _ _ _ h => h) (Or.inl ⟨by rfl, ?_⟩) hHeld ?_ ?_
            rotate_left
            · rintro w' ⟨s0, s1, s2, s3, s4, s5⟩
              go_simp
              with_reducible rfl
            rotate_left
            · simp only [Act.put, List.setIfInBounds_toArray, List.set_cons_zero, List.set_cons_succ, i64_w, i32_w]
              rfl
            refine one_ (i := 19) (N := some 68) #[true, true, true, true, true, true, true, true, true, true, true, true, true, true, true, true, true, true, true, true, true, true, true, true, false, true, false, false] rfl rfl (by kernel_rfl) (by decide) (fun K hK => ?_)
            refine R_append_row_step (Kd.int .i64) (w0 := wr) wr.heap.size (by rfl) (.const (.slice none 0 0)) (.tmp 67) 26 3 (.int .i64 0) 8 rfl Try.underlying26 info3 rfl (by decide) (by omega) (.slice none 0 0) [] (ys.take i) (some ad) i c4 (fun _ => True) rfl rfl (fun _ _ _ _ h => h) (fun _ _ => trivial) (Kd.R_nil _ _ _ _ _) (Kd.C_drew HC5'.out) (below_drew (Below.refl _ _)) (Nat.le_refl _) HL1.out ?_
            intro v1 wA ho1 hb1 hg1 hat1
            rw [List.nil_append] at ho1
            have HOA := Aside0.mk ho1
            have HBA := Aside0.mk hb1
            clear ho1 hb1 hg1 hat1
            refine hK.out _ _ ⟨(pw_cell_below HBA.out hx0), (pw_cell_below HBA.out hx1), (pw_cell_below HBA.out hx2), (pw_cell_below HBA.out hxn), (pw_cell_below HBA.out hy0), (pw_cell_below HBA.out hy1)⟩ (fun hHeld => ?_)
            clear hK K
            refine norm_ (a' := ?_) ?_ ?_
            rotate_left
            · show Act.put _ (some 68) _ = _
              simp only [Act.put, List.setIfInBounds_toArray, List.set_cons_zero, List.set_cons_succ, i64_w, i32_w]
              rfl
            refine one_ (i := 24) (N := some 73) #[true, true, true, true, true, true, true, true, true, true, true, true, true, true, true, true, true, true, true, true, true, true, true, true, true, true, false, false] rfl rfl (by kernel_rfl) (by decide) (fun K hK => ?_)
            refine R_append_row_step (Kd.int .i64) (w0 := wr) wr.heap.size (by rfl) (.tmp 68) (.tmp 72) 26 3 (.int .i64 0) 8 rfl Try.underlying26 info3 rfl (by decide) (by omega) v1 (ys.take i) (ys.drop (i + 1)) A5 (ys.length - (i + 1)) (c4 - (i + 1)) (fun _ => True) rfl rfl (fun _ _ _ _ h => h) (fun _ _ => trivial) HOA.out (Kd.C_below HC6.out HBA.out) HBA.out HBA.out.size HL2.out ?_
            intro v2 wB ho2 hb2 hg2 hat2
            obtain ⟨A7, c7, hv7, hc7, hC7⟩ := Kd.R_reads ho2
            subst hv7
            have HC7 := Aside0.mk hC7
            have HBB := Aside0.mk hb2
            clear ho2 hC7 hb2 hg2 hat2 HOA HBA
            refine hK.out _ _ ⟨(pw_cell_below HBB.out hx0), (pw_cell_below HBB.out hx1), (pw_cell_below HBB.out hx2), (pw_cell_below HBB.out hxn), (pw_cell_below HBB.out hy0), (pw_cell_below HBB.out hy1)⟩ (fun hHeld => ?_)
            clear hK K
            refine norm_ (a' := ?_) ?_ ?_
            rotate_left
            · show Act.put _ (some 73) _ = _
              simp only [Act.put, List.setIfInBounds_toArray, List.set_cons_zero, List.set_cons_succ, i64_w, i32_w]
              rfl
            refine one_ (i := 26) (N := some 75) #[true, true, true, true, true, true, true, true, true, true, true, true, true, true, true, true, true, true, true, true, true, true, true, true, true, true, true, false] rfl rfl (by kernel_rfl) (by decide) (fun K hK => ?_)
            refine goes_ Try.func19 (by kernel_rfl) rfl #[.agg #[.slice A0 G.length c0, .int .u8 a, .bool b], .slice A7 (ys.take i ++ ys.drop (i + 1)).length c7, .int .i64 m] (by rfl) rfl rfl (by simp only [List.map_toArray, List.map_cons, List.map_nil]; rfl) ?_
            with_reducible refine (demesnelaw40_Rule_fails.calls kf A0 c0 G a b A7 c7 (ys.take i ++ ys.drop (i + 1)) m false _ (Kd.C_below HV5.out.hG HBB.out) hc0 HC7.out hc7 HKF.out).mono ?_
            rintro e w3 ⟨rfl, hb3⟩
            refine ⟨_, rfl, ?_⟩
            have HB3 := Aside0.mk (HBB.out.trans (hb3.mono HBB.out.size))
            clear hb3
            refine hK.out _ _ ⟨(pw_cell_below HB3.out hx0), (pw_cell_below HB3.out hx1), (pw_cell_below HB3.out hx2), (pw_cell_below HB3.out hxn), (pw_cell_below HB3.out hy0), (pw_cell_below HB3.out hy1)⟩ (fun hHeld => ?_)
            clear hK K
            refine norm_ (a' := ?_) ?_ ?_
            rotate_left
            · show Act.put _ (some 75) _ = _
              simp only [Act.put, List.setIfInBounds_toArray, List.set_cons_zero, List.set_cons_succ, i64_w, i32_w]
              rfl
            refine pure_ (i := 27) (N := some 76) (v := ?_) (a' := ?_) #[true, true, true, true, true, true, true, true, true, true, true, true, true, true, true, true, true, true, true, true, true, true, true, true, true, true, true, true] rfl rfl (by kernel_rfl) (fun _ _ _ h => h) (Or.inl ⟨by rfl, ?_⟩) ?_ ?_
            rotate_left
            · intro w'
              go_simp
              with_reducible rfl
            rotate_left
            · simp only [Act.put, List.setIfInBounds_toArray, List.set_cons_zero, List.set_cons_succ, i64_w, i32_w]
              rfl
            refine done_ (by kernel_rfl) ?_
            clear hww hwm p1 p2
            go_wp2
            go_roundg kq
            case measure => omega
            case rel => exact ⟨i + 1, by go_num, by omega, ⟨HV5.out.below HB3.out⟩, ⟨Kd.C_below HC5.out HB3.out⟩⟩
    · replace hp := Bool.eq_false_iff.mpr hp
      have hsc : scrF (fun xs => rf G a b (xs.map num) m) 60 100000 1 ((List.range m).map ent) = some ([], 1, 5) := by
        unfold scrF
        rw [if_neg (by show ¬ (rf G a b (((List.range m).map ent).map num) m = true); rw [hp]; simp)]
      have SC := script_calls 18 _ _ 60 (by omega) w2 HA.out A2 c2 _ 100000 (by omega) HC2.out hc2 (by rw [hml]; omega) 1 _ _ _ hsc
      have HSC := Aside0.mk SC
      obtain ⟨kf, hkf⟩ := (fails_ev (((List.range m).map ent).map num) m G a b (by rw [List.length_map, hml]; omega) (by have := HG.out.1; omega) (fun q h => by have := HG.out.2 q h; omega)).rounds
      rw [hp] at hkf
      have HKF := Aside0.mk hkf
      obtain ⟨kn, hkn⟩ := (numbers_ev ((List.range m).map ent) (by rw [hml]; omega)).rounds
      have HKN := Aside0.mk hkn
      obtain ⟨ke, hke⟩ := (numbers_ev [] (by simp)).rounds
      have HKE := Aside0.mk hke
      clear SC hsc hp HA hkf hkn hke
      rw [hml]
      rw [hml] at HSC
      clear hml
      go_wp2_with fail
      refine HSC.out.mono ?_
      rintro e w3 ⟨v3, rfl, hv3, hb3⟩
      have HV3 := Aside0.mk (HV2.out.below hb3)
      obtain ⟨A3, c3, rfl, hc3, hC3⟩ := Kd.R_reads hv3
      have HC3 := Aside0.mk hC3
      clear hv3 hC3 hb3 HV2 HC2 HSC
      go_wp2_with fail
      refine (demesnelaw40_numbers.calls ke A3 c3 [] _ _ HC3.out hc3 HKE.out).mono ?_
      rintro e wr ⟨v4, rfl, hv4, hb4⟩
      have HV5 := Aside0.mk (HV3.out.below hb4)
      clear hv4 hb4 HV3 HC3
      have hx0 := HV5.out.xc0
      have hx1 := HV5.out.xc1
      have hx2 := HV5.out.xc2
      have hxn := HV5.out.xcn
      go_wp2_with fail
      refine start_ (n := 15) (S := fun w' => w'.cell? ⟨w.heap.size, 0, none⟩ = some (.slice A0 G.length c0) ∧ w'.cell? ⟨w.heap.size, 1, none⟩ = some (.int .u8 a) ∧ w'.cell? ⟨w.heap.size, 2, none⟩ = some (.bool b) ∧ w'.cell? ⟨w.heap.size + 1, 0, none⟩ = some (.int .i64 m)) (ds := []) #[false, false, false, false, false, false, false, false, false, false, false, false, false, false, false] (by kernel_rfl) rfl rfl ⟨hx0, hx1, hx2, hxn⟩ (fun hHeld => ?_)
      refine pure_ (i := 0) (N := some 29) (v := ?_) (a' := ?_) #[true, false, false, false, false, false, false, false, false, false, false, false, false, false, false] rfl rfl (by kernel_rfl) (fun _ _ _ h => h) (Or.inl ⟨by rfl, ?_⟩) ?_ ?_
      rotate_left
      · intro w'
        go_simp
        with_reducible rfl
      rotate_left
      · simp only [Act.put, List.setIfInBounds_toArray, List.set_cons_zero, List.set_cons_succ, i64_w, i32_w]
        rfl
      refine pure_ (i := 1) (N := some 30) (v := ?_) (a' := ?_) #[true, true, false, false, false, false, false, false, false, false, false, false, false, false, false] rfl rfl (by kernel_rfl) (fun _ _ _ h => h) (Or.inl ⟨by rfl, ?_⟩) ?_ ?_
      rotate_left
      · intro w'
        go_simp
        with_reducible rfl
      rotate_left
      · simp only [Act.put, List.setIfInBounds_toArray, List.set_cons_zero, List.set_cons_succ, i64_w, i32_w]
        rfl
      refine pure_ (i := 2) (N := some 31) (v := ?_) (a' := ?_) #[true, true, true, false, false, false, false, false, false, false, false, false, false, false, false] rfl rfl (by kernel_rfl) (fun _ _ _ h => h) (Or.inl ⟨by rfl, ?_⟩) ?_ ?_
      rotate_left
      · intro w'
        go_simp
        with_reducible rfl
      rotate_left
      · simp only [Act.put, List.setIfInBounds_toArray, List.set_cons_zero, List.set_cons_succ, i64_w, i32_w]
        rfl
      refine take_ (i := 3) (N := some 32) (v := ?_) (a' := ?_) #[true, true, true, true, false, false, false, false, false, false, false, false, false, false, false] rfl rfl (by kernel_rfl) (fun _ _ _ h => h) (Or.inl ⟨by rfl, ?_⟩) hHeld ?_ ?_
      rotate_left
      · rintro w' ⟨s0, s1, s2, s3⟩
        go_simp
        with_reducible rfl
      rotate_left
      · simp only [Act.put, List.setIfInBounds_toArray, List.set_cons_zero, List.set_cons_succ, i64_w, i32_w]
        rfl
      refine take_ (i := 4) (N := some 33) (v := ?_) (a' := ?_) #[true, true, true, true, true, false, false, false, false, false, false, false, false, false, false] rfl rfl (by kernel_rfl) (fun _ _ _ h => h) (Or.inl ⟨by rfl, ?_⟩) hHeld ?_ ?_
      rotate_left
      · rintro w' ⟨s0, s1, s2, s3⟩
        go_simp
        with_reducible rfl
      rotate_left
      · simp only [Act.put, List.setIfInBounds_toArray, List.set_cons_zero, List.set_cons_succ, i64_w, i32_w]
        rfl
      refine take_ (i := 7) (N := some 36) (v := ?_) (a' := ?_) #[true, true, true, true, true, false, false, true, false, false, false, false, false, false, false] rfl rfl (by kernel_rfl) (fun _ _ _ h => h) (Or.inl ⟨by rfl, ?_⟩) hHeld ?_ ?_
      rotate_left
      · rintro w' ⟨s0, s1, s2, s3⟩
        go_simp
        with_reducible rfl
      rotate_left
      · simp only [Act.put, List.setIfInBounds_toArray, List.set_cons_zero, List.set_cons_succ, i64_w, i32_w]
        rfl
      refine one_ (i := 5) (N := some 34) #[true, true, true, true, true, true, false, true, false, false, false, false, false, false, false] rfl rfl (by kernel_rfl) (by decide) (fun K hK => ?_)
      refine goes_ Try.func12 (by kernel_rfl) rfl #[.int .i64 m] (by rfl) rfl rfl (by simp only [List.map_toArray, List.map_cons, List.map_nil]; rfl) ?_
      with_reducible refine (demesnelaw40_numbered.calls k0 m _ _ HK0.out).mono ?_
      rintro e wA ⟨vA, rfl, hvA, hbA⟩
      refine ⟨_, rfl, ?_⟩
      obtain ⟨A6, c6, hv6, hc6, hC6⟩ := Kd.R_reads hvA
      subst hv6
      have HC6 := Aside0.mk hC6
      have HBA := Aside0.mk (show Below wr.heap.size wr wA from below_then (below_drew (Below.refl _ _)) (Nat.le_refl _) hbA)
      clear hvA hC6 hbA
      refine hK.out _ _ ⟨(pw_cell_below HBA.out hx0), (pw_cell_below HBA.out hx1), (pw_cell_below HBA.out hx2), (pw_cell_below HBA.out hxn)⟩ (fun hHeld => ?_)
      clear hK K
      refine norm_ (a' := ?_) ?_ ?_
      rotate_left
      · show Act.put _ (some 34) _ = _
        simp only [Act.put, List.setIfInBounds_toArray, List.set_cons_zero, List.set_cons_succ, i64_w, i32_w]
        rfl
      refine one_ (i := 6) (N := some 35) #[true, true, true, true, true, true, true, true, false, false, false, false, false, false, false] rfl rfl (by kernel_rfl) (by decide) (fun K hK => ?_)
      refine goes_ Try.func14 (by kernel_rfl) rfl #[.slice A6 ((List.range m).map ent).length c6] (by rfl) rfl rfl (by simp only [List.map_toArray, List.map_cons, List.map_nil]; rfl) ?_
      with_reducible refine (demesnelaw40_numbers.calls kn A6 c6 _ _ _ HC6.out hc6 HKN.out).mono ?_
      rintro e wB ⟨vB, rfl, hvB, hbB⟩
      refine ⟨_, rfl, ?_⟩
      obtain ⟨A7, c7, hv7, hc7, hC7⟩ := Kd.R_reads hvB
      subst hv7
      have HC7 := Aside0.mk hC7
      have HBB := Aside0.mk (HBA.out.trans (hbB.mono HBA.out.size))
      clear hvB hC7 hbB HBA HC6
      refine hK.out _ _ ⟨(pw_cell_below HBB.out hx0), (pw_cell_below HBB.out hx1), (pw_cell_below HBB.out hx2), (pw_cell_below HBB.out hxn)⟩ (fun hHeld => ?_)
      clear hK K
      refine norm_ (a' := ?_) ?_ ?_
      rotate_left
      · show Act.put _ (some 35) _ = _
        simp only [Act.put, List.setIfInBounds_toArray, List.set_cons_zero, List.set_cons_succ, i64_w, i32_w]
        rfl
      refine one_ (i := 8) (N := some 37) #[true, true, true, true, true, true, true, true, true, false, false, false, false, false, false] rfl rfl (by kernel_rfl) (by decide) (fun K hK => ?_)
      refine goes_ Try.func19 (by kernel_rfl) rfl #[.agg #[.slice A0 G.length c0, .int .u8 a, .bool b], .slice A7 (((List.range m).map ent).map num).length c7, .int .i64 m] (by rfl) rfl rfl (by simp only [List.map_toArray, List.map_cons, List.map_nil]; rfl) ?_
      with_reducible refine (demesnelaw40_Rule_fails.calls kf A0 c0 G a b A7 c7 _ m false _ (Kd.C_below HV5.out.hG HBB.out) hc0 HC7.out hc7 HKF.out).mono ?_
      rintro e wC ⟨rfl, hbC⟩
      refine ⟨_, rfl, ?_⟩
      have HBC := Aside0.mk (HBB.out.trans (hbC.mono HBB.out.size))
      clear hbC HBB HC7
      refine hK.out _ _ ⟨(pw_cell_below HBC.out hx0), (pw_cell_below HBC.out hx1), (pw_cell_below HBC.out hx2), (pw_cell_below HBC.out hxn)⟩ (fun hHeld => ?_)
      clear hK K
      refine norm_ (a' := ?_) ?_ ?_
      rotate_left
      · show Act.put _ (some 37) _ = _
        simp only [Act.put, List.setIfInBounds_toArray, List.set_cons_zero, List.set_cons_succ, i64_w, i32_w]
        rfl
      refine pure_ (i := 9) (N := some 38) (v := ?_) (a' := ?_) #[true, true, true, true, true, true, true, true, true, true, false, false, false, false, false] rfl rfl (by kernel_rfl) (fun _ _ _ h => h) (Or.inl ⟨by rfl, ?_⟩) ?_ ?_
      rotate_left
      · intro w'
        go_simp
        with_reducible rfl
      rotate_left
      · simp only [Act.put, List.setIfInBounds_toArray, List.set_cons_zero, List.set_cons_succ, i64_w, i32_w]
        rfl
      refine pure_ (i := 10) (N := some 39) (v := ?_) (a' := ?_) #[true, true, true, true, true, true, true, true, true, true, true, false, false, false, false] rfl rfl (by kernel_rfl) (fun _ _ _ h => h) (Or.inl ⟨by rfl, ?_⟩) ?_ ?_
      rotate_left
      · intro w'
        go_simp
        with_reducible rfl
      rotate_left
      · simp only [Act.put, List.setIfInBounds_toArray, List.set_cons_zero, List.set_cons_succ, i64_w, i32_w]
        rfl
      refine pure_ (i := 11) (N := some 40) (v := ?_) (a' := ?_) #[true, true, true, true, true, true, true, true, true, true, true, true, false, false, false] rfl rfl (by kernel_rfl) (fun _ _ _ h => h) (Or.inl ⟨by rfl, ?_⟩) ?_ ?_
      rotate_left
      · intro w'
        go_simp
        with_reducible rfl
      rotate_left
      · simp only [Act.put, List.setIfInBounds_toArray, List.set_cons_zero, List.set_cons_succ, i64_w, i32_w]
        rfl
      refine one_ (i := 12) (N := some 41) #[true, true, true, true, true, true, true, true, true, true, true, true, true, false, false] rfl rfl (by kernel_rfl) (by decide) (fun K hK => ?_)
      refine goes_ Try.func11 (by kernel_rfl) rfl #[] (by rfl) rfl rfl (by simp only [List.map_toArray, List.map_nil]) ?_
      with_reducible refine (wakes_calls _).mono ?_
      rintro e wD ⟨rfl, hbD⟩
      refine ⟨_, rfl, ?_⟩
      have HBD := Aside0.mk (HBC.out.trans (hbD.mono HBC.out.size))
      clear hbD HBC
      refine hK.out _ _ ⟨(pw_cell_below HBD.out hx0), (pw_cell_below HBD.out hx1), (pw_cell_below HBD.out hx2), (pw_cell_below HBD.out hxn)⟩ (fun hHeld => ?_)
      clear hK K
      refine norm_ (a' := ?_) ?_ ?_
      rotate_left
      · show Act.put _ (some 41) _ = _
        simp only [Act.put, List.setIfInBounds_toArray, List.set_cons_zero, List.set_cons_succ, i64_w, i32_w]
        rfl
      refine pure_ (i := 13) (N := some 42) (v := ?_) (a' := ?_) #[true, true, true, true, true, true, true, true, true, true, true, true, true, true, false] rfl rfl (by kernel_rfl) (fun _ _ _ h => h) (Or.inl ⟨by rfl, ?_⟩) ?_ ?_
      rotate_left
      · intro w'
        go_simp
        with_reducible rfl
      rotate_left
      · simp only [Act.put, List.setIfInBounds_toArray, List.set_cons_zero, List.set_cons_succ, i64_w, i32_w]
        rfl
      refine pure_ (i := 14) (N := some 4) (v := ?_) (a' := ?_) #[true, true, true, true, true, true, true, true, true, true, true, true, true, true, true] rfl rfl (by kernel_rfl) (fun _ _ _ h => h) (Or.inl ⟨by rfl, ?_⟩) ?_ ?_
      rotate_left
      · intro w'
        go_simp
        with_reducible rfl
      rotate_left
      · simp only [Act.put, List.setIfInBounds_toArray, List.set_cons_zero, List.set_cons_succ, i64_w, i32_w]
        rfl
      refine done_ (by kernel_rfl) ?_
      go_wp2
      go_ret
      exact ⟨rfl, below_then HV5.out.bel HV5.out.bel.size HBD.out⟩
end Go.Proofs.Ytgojfecpknonlaa.Shr
