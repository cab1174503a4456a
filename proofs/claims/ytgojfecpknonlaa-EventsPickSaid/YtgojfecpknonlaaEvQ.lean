/- The law EventsPick walked. -/
import Derived.Test.YtgojfecpknonlaaEvP
namespace Go.Proofs.Ytgojfecpknonlaa.Ev
open Go.RowKit Go.Proofs.YtgojfecpknonlaaW.PrintWords Go.Proofs.YtgojfecpknonlaaW.PrintLast Go.Proofs.YtgojfecpknonlaaW.PrintMore
open Go.Proofs.Ytgojfecpknonlaa.Own Go.Proofs.Ytgojfecpknonlaa.PSt
set_option linter.unusedVariables false
set_option linter.unusedSimpArgs false

theorem info72s : (Try.prog.info? 72).map (fun i => (i.zero, i.size, i.bytes)) = some (some (.agg #[.int .u8 0, .int .u8 0, .int .u8 0, .int .u8 0, .int .u8 0, .int .i64 0, .int .i64 0, .int .u64 0, .int .i64 0, .int .i64 0, .int .i64 0]), k72.sz, 56) := info72b

set_option maxHeartbeats 1500000 in
set_option maxRecDepth 100000 in
theorem pick_calls (l : List S58) (A : Option Addr) (c : Nat) (ag x y : Int) (w : World) (hr : Kd.C k58 w A l.length l) (hc : l.length ≤ c) (hl : l.length ≤ 60) :
    Calls Try.prog 10 #[.slice A l.length c, .int .u8 ag, .int .i64 x, .int .i64 y] w (fun e w' => e = .returned (.bool true) ∧ Below w.heap.size w w') := by
  have HC := Aside0.mk hr
  have HCC := Aside0.mk hc
  have HL := Aside0.mk hl
  obtain ⟨n, hn⟩ : ∃ n, n = l.length := ⟨_, rfl⟩
  have HN := Aside0.mk hn
  rw [← hn]
  have hnl : n < 1000000000 := by omega
  have c0 : decide ((60 : Int) < (n : Int)) = false := decide_eq_false (by omega)
  have c00 : decide (60 < n) = false := decide_eq_false (by omega)
  clear hr hc hl hn
  go_enter Try.func10, Try.ntmps10
  go_wp2_with fail
  go_loopg [9, 10, 11] n (fun kq v9 v10 v11 w' => ∃ (i : Nat), v11 = .int .i64 (i : Int) ∧ i + kq = n ∧ Aside0 (Two w w' v9 v10 (((l.take i).map on58).filter (isAg ag)) (((l.take i).map on58).filter (isBt x y))))
  case atStart => exact ⟨0, rfl, by omega, ⟨two_nil w⟩⟩
  case round =>
    obtain ⟨i, rfl, hi, HT⟩ := hrel
    cases gk with
    | zero =>
      have c1 : decide ((i : Int) < (n : Int)) = false := decide_eq_false (by omega)
      have c2 : decide (i < n) = false := decide_eq_false (by omega)
      have hil : i = l.length := by have := HN.out; omega
      have ht := HT.out
      rw [hil, List.take_length] at ht
      obtain ⟨F, hF⟩ : ∃ F, F = (l.map on58).filter (isAg ag) := ⟨_, rfl⟩
      obtain ⟨G, hG⟩ : ∃ G, G = (l.map on58).filter (isBt x y) := ⟨_, rfl⟩
      obtain ⟨L, hL⟩ : ∃ L, L = l.map on58 := ⟨_, rfl⟩
      have hFl : F.length ≤ 60 := by rw [hF]; have := List.length_filter_le (isAg ag) (l.map on58); rw [List.length_map] at this; have := HL.out; omega
      have hGl : G.length ≤ 60 := by rw [hG]; have := List.length_filter_le (isBt x y) (l.map on58); rw [List.length_map] at this; have := HL.out; omega
      have hLl : L.length = n := by rw [hL, List.length_map]; exact HN.out.symm
      have HFE := Aside0.mk (show L.filter (isAg ag) = F by rw [hL, hF])
      have HGE := Aside0.mk (show L.filter (isBt x y) = G by rw [hL, hG])
      have HLE := Aside0.mk hL
      have HFL := Aside0.mk hFl
      have HGL := Aside0.mk hGl
      have HLL := Aside0.mk hLl
      rw [← hF, ← hG] at ht
      have hr9 := ht.r9
      have hr10 := ht.r10
      obtain ⟨A9, c9, rfl, hc9, hC9⟩ := Kd.R_reads hr9
      obtain ⟨A10, c10, rfl, hc10, hC10⟩ := Kd.R_reads hr10
      have HC9 := Aside0.mk hC9
      have HC10 := Aside0.mk hC10
      have HCC9 := Aside0.mk hc9
      have HCC10 := Aside0.mk hc10
      have HB := Aside0.mk ht.below
      obtain ⟨W0, rfl⟩ : ∃ W0, W0 = wr := ⟨wr, rfl⟩
      clear hi HT hil ht hF hG hL hFl hGl hLl hr9 hr10 hc9 hC9 hc10 hC10
      go_upto_region 12 with (go_at_call 22; rw [HN.out]; refine (demesnelaw36_Of.calls (l.length + 1) A c l (l.map on58) _ (Kd.C_below HC.out HB.out) HCC.out (ofOn_is l (by have := HL.out; omega))).mono ?_; rintro e w1 ⟨v1, rfl, hv1, hb1⟩; rw [← HLE.out] at hv1; obtain ⟨A1, c1, rfl, hc1, hC1⟩ := Kd.R_reads hv1; have HC1 := Aside0.mk hC1; have HCC1 := Aside0.mk hc1; have HB1 := Aside0.mk hb1; clear hv1 hc1 hC1 hb1)
      have HD1 := Aside0.mk (Below.refl w1.heap.size w1)
      go_wp2_with (first
        | (go_at_call 49; refine (of_calls ag L A1 c1 _ HC1.out HCC1.out (by have := HLL.out; omega)).mono ?_; rw [HFE.out]; rintro e w2 ⟨A2, c2, rfl, hc2, hC2, hb2, _⟩; have HC2 := Aside0.mk hC2; have HCC2 := Aside0.mk hc2; have HB2 := Aside0.mk (below_then HB1.out HB1.out.size hb2); have HD2 := Aside0.mk (below_then HD1.out HD1.out.size hb2); clear hc2 hC2 hb2)
        | (go_at_call 48; with_reducible refine (alike_calls F A2 c2 A9 c9 _ (by have := HFL.out; omega) HC2.out HCC2.out (Kd.C_below HC9.out HB2.out) HCC9.out).mono ?_; rintro e w3 ⟨rfl, hb3⟩; have HB3 := Aside0.mk (below_then HB2.out HB2.out.size hb3); have HD3 := Aside0.mk (below_then HD2.out HD2.out.size hb3); clear hb3)
        | (go_at_call 50; refine (between_calls x y L A1 c1 _ (Kd.C_below HC1.out HD3.out) HCC1.out (by have := HLL.out; omega)).mono ?_; rw [HGE.out]; rintro e w4 ⟨A4, c4, rfl, hc4, hC4, hb4, _⟩; have HC4 := Aside0.mk hC4; have HCC4 := Aside0.mk hc4; have HB4 := Aside0.mk (below_then HB3.out HB3.out.size hb4); have HD4 := Aside0.mk (below_then HD3.out HD3.out.size hb4); clear hc4 hC4 hb4)
        | (go_at_call 48; with_reducible refine (alike_calls G A4 c4 A10 c10 _ (by have := HGL.out; omega) HC4.out HCC4.out (Kd.C_below HC10.out HB4.out) HCC10.out).mono ?_; rintro e w5 ⟨rfl, hb5⟩; have HB5 := Aside0.mk (below_then HB4.out HB4.out.size hb5); have HD5 := Aside0.mk (below_then HD4.out HD4.out.size hb5); clear hb5)
        | (go_at_call 51; refine (points_calls L A1 c1 _ (Kd.C_below HC1.out HD5.out) HCC1.out (by have := HLL.out; omega)).mono ?_; rintro e w6 ⟨ys, hst, A6, c6, rfl, hc6, hC6, hb6, _⟩; have HST := Aside0.mk hst; have HC6 := Aside0.mk hC6; have HCC6 := Aside0.mk hc6; have HB6 := Aside0.mk (below_then HB5.out HB5.out.size hb6); have HD6 := Aside0.mk (below_then HD5.out HD5.out.size hb6); clear hst hc6 hC6 hb6)
        | (go_at_call 52; refine (points36_calls l A c _ (Kd.C_below HC.out (below_then HB.out HB.out.size HB6.out)) HCC.out (by have := HL.out; omega)).mono ?_; rintro e w7 ⟨v7, o, rfl, hv7, hb7, hst7⟩; obtain ⟨A7, c7, rfl, hc7, hC7⟩ := Kd.R_reads hv7; have HC7 := Aside0.mk hC7; have HCC7 := Aside0.mk hc7; have HYS := Aside0.mk (stab_unique HST.out (show Stab (L.filter isPt) (o.map on58) by rw [HLE.out]; exact hst7)); have HOL := Aside0.mk (show o.length ≤ 60 by have h1 := hst7.2.2; have h2 := List.length_filter_le isPt (l.map on58); rw [List.length_map] at h1 h2; have := HL.out; omega); have HC67 := Aside0.mk (Kd.C_below HC6.out hb7); have HB7 := Aside0.mk (below_then HB6.out HB6.out.size hb7); have HD7 := Aside0.mk (below_then HD6.out HD6.out.size hb7); clear hv7 hb7 hst7 hc7 hC7)
        | (go_at_call 22; with_reducible refine (demesnelaw36_Of.calls (o.length + 1) A7 c7 o (o.map on58) _ HC7.out HCC7.out (ofOn_is o (by have := HOL.out; omega))).mono ?_; rintro e w8 ⟨v8, rfl, hv8, hb8⟩; rw [← HYS.out] at hv8; obtain ⟨A8, c8, rfl, hc8, hC8⟩ := Kd.R_reads hv8; have HC8 := Aside0.mk hC8; have HCC8 := Aside0.mk hc8; have HC68 := Aside0.mk (Kd.C_below HC67.out hb8); have HB8 := Aside0.mk (below_then HB7.out HB7.out.size hb8); have HD8 := Aside0.mk (below_then HD7.out HD7.out.size hb8); clear hv8 hb8 hc8 hC8)
        | (go_at_call 48; with_reducible refine (alike_calls ys A6 c6 A8 c8 _ (by rw [HYS.out, List.length_map]; have := HOL.out; omega) HC68.out HCC6.out HC8.out HCC8.out).mono ?_; rintro e w9 ⟨rfl, hb9⟩; have HB9 := Aside0.mk (below_then HB8.out HB8.out.size hb9); have HD9 := Aside0.mk (below_then HD8.out HD8.out.size hb9); clear hb9)
        | (go_at_call 22; with_reducible refine (demesnelaw36_Of.calls (l.length + 1) A c l (l.map on58) _ (Kd.C_below HC.out (below_then HB.out HB.out.size HB9.out)) HCC.out (ofOn_is l (by have := HL.out; omega))).mono ?_; rintro e wx ⟨vx, rfl, hvx, hbx⟩; rw [← HLE.out] at hvx; obtain ⟨Ax, cx, rfl, hcx, hCx⟩ := Kd.R_reads hvx; have HCx := Aside0.mk hCx; have HCCx := Aside0.mk hcx; have HBx := Aside0.mk (below_then HB9.out HB9.out.size hbx); have HDx := Aside0.mk (below_then HD9.out HD9.out.size hbx); clear hvx hbx hcx hCx)
        | (go_at_call 48; with_reducible refine (alike_calls L A1 c1 Ax cx _ (by have := HLL.out; have := HN.out; have := HL.out; omega) (Kd.C_below HC1.out HDx.out) HCC1.out HCx.out HCCx.out).mono ?_; rintro e wy ⟨rfl, hby⟩; have HBy := Aside0.mk (below_then HBx.out HBx.out.size hby); have HDy := Aside0.mk (below_then HDx.out HDx.out.size hby); clear hby)
        | (go_at_call 42; refine (wakes_calls _).mono ?_; rintro e wz ⟨rfl, hbz⟩; have HBz := Aside0.mk (below_then HBy.out HBy.out.size hbz); have HDz := Aside0.mk (below_then HDy.out HDy.out.size hbz); clear hbz))
      go_ret
      exact ⟨rfl, below_then HB.out HB.out.size HBz.out⟩
    | succ k1 =>
      have hil : i < l.length := by have := HN.out; omega
      have c1 : decide ((i : Int) < (n : Int)) = true := decide_eq_true (by omega)
      have c2 : decide (i < n) = true := decide_eq_true (by omega)
      have q1 : (0 : Int) ≤ (i : Int) := by omega
      have q2 : (i : Int) < (n : Int) := by omega
      obtain ⟨ad, rfl, d, hd, hx0, hx1, hx2, hx3, hx4, hx5, hx6, hx7, hx8, hx9, hx10⟩ := el58 HC.out HT.out.below i hil
      have hin : i < 1000000000 := by omega
      have HD := Aside0.mk hd
      have HI := Aside0.mk hi
      have HPA := Aside0.mk (pick_take (isAg ag) hd)
      have HPB := Aside0.mk (pick_take (isBt x y) hd)
      have HIL := Aside0.mk hil
      obtain ⟨o9, ho9⟩ : ∃ o9, o9 = ((l.take i).map on58).filter (isAg ag) := ⟨_, rfl⟩
      obtain ⟨o10, ho10⟩ : ∃ o10, o10 = ((l.take i).map on58).filter (isBt x y) := ⟨_, rfl⟩
      have hl9 : o9.length ≤ 60 := by rw [ho9]; have h := List.length_filter_le (isAg ag) ((l.take i).map on58); rw [List.length_map, List.length_take] at h; have := HL.out; omega
      have hl10 : o10.length ≤ 60 := by rw [ho10]; have h := List.length_filter_le (isBt x y) ((l.take i).map on58); rw [List.length_map, List.length_take] at h; have := HL.out; omega
      rw [← ho9, ← ho10] at HT
      rw [← ho9] at HPA
      rw [← ho10] at HPB
      have HL9 := Aside0.mk hl9
      have HL10 := Aside0.mk hl10
      clear hi hd hil ho9 ho10 hl9 hl10
      go_upto_if 29 with fail
      go_cut [9] (fun v9 wc => Aside0 (Two w wc v9 u10 (((l.take (i + 1)).map on58).filter (isAg ag)) o10))
      case first =>
        by_cases hA : d.f0 = ag
        · have a1 : (d.f0 == ag) = true := beq_iff_eq.2 hA
          have HA1 : Aside0 (((l.take (i + 1)).map on58).filter (isAg ag) = o9 ++ [on58 d]) := ⟨by rw [HPA.out, if_pos (show isAg ag (on58 d) = true from a1)]⟩
          clear hA
          go_wp2_with (first
            | (go_at_call 30; refine (demesnelaw36_One.calls d.f0 d.f1 d.f2 d.f3 d.f4 d.f5 d.f6 d.f7 d.f8 d.f9 d.f10 d.f0 d.f1 d.f2 d.f3 d.f4 d.f5 d.f6 d.f7 d.f8 d.f9 d.f10 _ rfl).mono ?_; rintro e w2 ⟨rfl, hb2⟩; have HT2 := Aside0.mk ((HT.out).below' hb2); clear hb2)
            | (at_builtin; refine Kd.R_append k72 (w0 := w) w.heap.size rfl (.tmp 30) (.tmp 36) 51 72 (.agg #[.int .u8 0, .int .u8 0, .int .u8 0, .int .u8 0, .int .u8 0, .int .i64 0, .int .i64 0, .int .u64 0, .int .i64 0, .int .i64 0, .int .i64 0]) 56 rfl Try.underlying51 info72s rfl (by decide) (by omega) _ _ (on58 d) (ec (on58 d)) (fun _ => True) (fun _ => False) rfl rfl (k72_mkM _ _ _ _) (fun _ hk => hk.elim) (fun _ _ => trivial) HT2.out.r9 HT2.out.below HT2.out.below.size (by have := HL9.out; omega) ?_; intro v3 w3 ho3 hb3 hg3 hat3; have HT3 := Aside0.mk (HT2.out.put ho3 hb3 hg3 hat3); clear ho3 hb3 hg3 hat3))
          all_goals
            go_meet
            case rel => exact ⟨by rw [HA1.out]; exact HT3.out⟩
        · have a1 : (d.f0 == ag) = false := beq_eq_false_iff_ne.2 hA
          have HA1 : Aside0 (((l.take (i + 1)).map on58).filter (isAg ag) = o9) := ⟨by rw [HPA.out, if_neg (show ¬ isAg ag (on58 d) = true by unfold isAg; show ¬ (d.f0 == ag) = true; rw [a1]; exact Bool.false_ne_true), List.append_nil]⟩
          clear hA
          go_wp2
          all_goals
            go_meet
            case rel => exact ⟨by rw [HA1.out]; exact HT.out⟩
      case rest =>
        clear HT hx0 hx1 hx2 hx3 hx4 hx5 hx6 hx7 hx8 hx9 hx10
        have HT1 := hcut
        clear hcut
        obtain ⟨ad', he', d', hd', hx0, hx1, hx2, hx3, hx4, hx5, hx6, hx7, hx8, hx9, hx10⟩ := el58 HC.out HT1.out.below i HIL.out
        cases he'
        obtain rfl : d = d' := Option.some.inj (HD.out.symm.trans hd')
        clear hd'
        by_cases hA : x ≤ d.f10
        · have a1 : decide (x ≤ d.f10) = true := decide_eq_true hA
          by_cases hB : d.f8 < y
          · have a2 : decide (d.f8 < y) = true := decide_eq_true hB
            have HA1 : Aside0 (((l.take (i + 1)).map on58).filter (isBt x y) = o10 ++ [on58 d]) := ⟨by rw [HPB.out, if_pos (show isBt x y (on58 d) = true by show (decide (x ≤ d.f10) && decide (d.f8 < y)) = true; rw [a1, a2]; rfl)]⟩
            clear hA hB
            go_wp2_with (first
              | (go_at_call 30; refine (demesnelaw36_One.calls d.f0 d.f1 d.f2 d.f3 d.f4 d.f5 d.f6 d.f7 d.f8 d.f9 d.f10 d.f0 d.f1 d.f2 d.f3 d.f4 d.f5 d.f6 d.f7 d.f8 d.f9 d.f10 _ rfl).mono ?_; rintro e w2 ⟨rfl, hb2⟩; have HT2 := Aside0.mk (HT1.out.below' hb2); clear hb2)
              | (at_builtin; refine Kd.R_append k72 (w0 := w) w.heap.size rfl (.tmp 54) (.tmp 60) 51 72 (.agg #[.int .u8 0, .int .u8 0, .int .u8 0, .int .u8 0, .int .u8 0, .int .i64 0, .int .i64 0, .int .u64 0, .int .i64 0, .int .i64 0, .int .i64 0]) 56 rfl Try.underlying51 info72s rfl (by decide) (by omega) _ _ (on58 d) (ec (on58 d)) (fun _ => True) (fun _ => False) rfl rfl (k72_mkM _ _ _ _) (fun _ hk => hk.elim) (fun _ _ => trivial) HT2.out.r10 HT2.out.below HT2.out.below.size (by have := HL10.out; omega) ?_; intro v3 w3 ho3 hb3 hg3 hat3; have HT3 := Aside0.mk ((HT2.out.symm.put ho3 hb3 hg3 hat3).symm); clear ho3 hb3 hg3 hat3))
            go_roundg k1
            case measure => have := HI.out; omega
            case rel => exact ⟨i + 1, rfl, by have := HI.out; omega, ⟨by rw [HA1.out]; exact HT3.out⟩⟩
          · have a2 : decide (d.f8 < y) = false := decide_eq_false hB
            have HA1 : Aside0 (((l.take (i + 1)).map on58).filter (isBt x y) = o10) := ⟨by rw [HPB.out, if_neg (show ¬ isBt x y (on58 d) = true by show ¬ (decide (x ≤ d.f10) && decide (d.f8 < y)) = true; rw [a1, a2]; exact Bool.false_ne_true), List.append_nil]⟩
            clear hA hB
            go_wp2_with fail
            go_roundg k1
            case measure => have := HI.out; omega
            case rel => exact ⟨i + 1, rfl, by have := HI.out; omega, ⟨by rw [HA1.out]; exact HT1.out⟩⟩
        · have a1 : decide (x ≤ d.f10) = false := decide_eq_false hA
          have HA1 : Aside0 (((l.take (i + 1)).map on58).filter (isBt x y) = o10) := ⟨by rw [HPB.out, if_neg (show ¬ isBt x y (on58 d) = true by show ¬ (decide (x ≤ d.f10) && decide (d.f8 < y)) = true; rw [a1]; exact Bool.false_ne_true), List.append_nil]⟩
          clear hA
          go_wp2_with fail
          go_roundg k1
          case measure => have := HI.out; omega
          case rel => exact ⟨i + 1, rfl, by have := HI.out; omega, ⟨by rw [HA1.out]; exact HT1.out⟩⟩

theorem pick_long (A : Option Addr) (c n : Nat) (ag x y : Int) (w : World) (hn : 60 < n) (hl : n ≤ 9223372036854775807) :
    Calls Try.prog 10 #[.slice A n c, .int .u8 ag, .int .i64 x, .int .i64 y] w (fun e w' => e = .returned (.bool true) ∧ Below w.heap.size w w') := by
  have c0 : decide ((60 : Int) < (n : Int)) = true := decide_eq_true (by omega)
  have c00 : decide (60 < n) = true := decide_eq_true hn
  go_enter Try.func10, Try.ntmps10
  go_wp2_with (go_at_call 42; refine (wakes_calls _).mono ?_; rintro e w2 ⟨rfl, hb2⟩)
  go_ret
  exact ⟨rfl, hb2⟩
end Go.Proofs.Ytgojfecpknonlaa.Ev

