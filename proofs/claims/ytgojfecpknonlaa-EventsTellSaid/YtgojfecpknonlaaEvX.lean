/- The law EventsTell walked. -/
import Derived.Test.YtgojfecpknonlaaEvV
namespace Go.Proofs.Ytgojfecpknonlaa.Ev
open Go.RowKit Go.Proofs.YtgojfecpknonlaaW.PrintWords Go.Proofs.YtgojfecpknonlaaW.PrintLast Go.Proofs.YtgojfecpknonlaaW.PrintMore
open Go.Proofs.Ytgojfecpknonlaa.Own Go.Proofs.Ytgojfecpknonlaa.PSt Go.Proofs.Ytgojfecpknonlaa.St Go.Proofs.Ytgojfecpknonlaa.Wv
set_option linter.unusedVariables false
set_option linter.unusedSimpArgs false

theorem rt_len : ∀ (k : Nat) (s : ByteArray) (o : List S58), (rt k s o).1.length ≤ o.length + k
  | 0, _, _ => by simp [rt]
  | k + 1, s, o => by
    unfold rt
    split
    · split
      · have := rt_len k (s.extract 28 s.size) (o ++ [dec s])
        rw [List.length_append, List.length_singleton] at this
        omega
      · simp
    · split <;> simp
section
variable {o : Oper} {a : Act} {W : World}
theorem load58_row_exec {x : Operand} {l : List S58} {ad : Addr} {i : Nat} {d : S58} (ho : o.op = .load 58 x) (hx : a.eval x = .pointer (some (ad.add (i * 11)))) (hC : Kd.C k58 W (some ad) l.length l) (hd : l[i]? = some d) : (execOp a.eval o).run Try.prog W = .ok (.value (ev58 d)) W := by
  obtain ⟨hi, rfl⟩ := List.getElem?_eq_some_iff.1 hd
  obtain ⟨ad', he, d, hd', hx0, hx1, hx2, hx3, hx4, hx5, hx6, hx7, hx8, hx9, hx10⟩ := el58 hC (Below.refl W.heap.size W) i hi
  cases he
  obtain rfl : l[i] = d := Option.some.inj ((List.getElem?_eq_getElem hi).symm.trans hd')
  have hu58 := Try.underlying58
  unfold execOp
  simp only [ho, hx]
  go_simp
theorem neq_bool_exec {x y : Operand} {p : Bool} (ho : o.op = .binOp .neq 4 x y 4) (hx : a.eval x = .bool p) (hy : a.eval y = .bool p) : (execOp a.eval o).run Try.prog W = .ok (.value (.bool false)) W := by
  generalize a.eval = E at hx hy ⊢
  unfold execOp
  simp only [ho, hx, hy]
  go_simp
end
def V8 (l : List S58) (A : Option Addr) (c i : Nat) (d : S58) (p : Addr) : Nat → Value → World → Prop
  | 0, v, _ => v = .slice A l.length c
  | 1, v, _ => v = .int .i64 (i : Int)
  | 2, v, _ => v = .pointer (some p)
  | 3, v, _ => v = ev58 d
  | 4, v, _ => v = ev (on58 d)
  | 5, v, _ => v = .bool (may d)
  | 6, v, _ => v = .slice A l.length c
  | 7, v, _ => v = .int .i64 (i : Int)
  | 8, v, _ => v = .pointer (some p)
  | 9, v, _ => v = ev58 d
  | 10, v, _ => v = .bool (may d)
  | 11, v, _ => v = .bool false
  | _, _, _ => True
theorem V8_stays (l : List S58) (A : Option Addr) (c i : Nat) (d : S58) (p : Addr) (j : Nat) (v : Value) (w w' : World) (h : V8 l A c i d p j v w) (hb : Below w.heap.size w w') : V8 l A c i d p j v w' := by
  unfold V8 at h ⊢
  split at h <;> first | exact h | trivial
set_option maxHeartbeats 2000000 in
set_option maxRecDepth 100000 in
theorem tell_calls (l : List S58) (hwf : ∀ d ∈ l, Wf d) (A : Option Addr) (c : Nat) (b : ByteArray) (w : World) (hr : Kd.C k58 w A l.length l) (hc : l.length ≤ c) (hl : l.length ≤ 60) (hb : b.size ≤ 2000) :
    Calls Try.prog 9 #[.slice A l.length c, .string b] w (fun e w' => e = .returned (.bool true) ∧ Below w.heap.size w w') := by
  have HC := Aside0.mk hr
  have HCC := Aside0.mk hc
  have HL := Aside0.mk hl
  have HW := Aside0.mk hwf
  have HBS := Aside0.mk hb
  have HPUT := Aside0.mk (put_is l hwf hl)
  obtain ⟨PS, PC, hp, hg, hn⟩ : ∃ PS PC, (if l.all may = true then some (strOfNums (l.flatMap evb), (0 : Int)) else some ((⟨#[]⟩ : ByteArray), 2)) = some (PS, PC) ∧ (l.all may = true → PS = strOfNums (l.flatMap evb) ∧ PC = 0) ∧ (l.all may = false → PS = ⟨#[]⟩ ∧ PC = 2) := by
    cases h : l.all may
    · exact ⟨_, _, rfl, fun h => by (cases h), fun _ => ⟨rfl, rfl⟩⟩
    · exact ⟨_, _, rfl, fun _ => ⟨rfl, rfl⟩, fun h => by (cases h)⟩
  obtain ⟨L, hL⟩ : ∃ L, L = l.map on58 := ⟨_, rfl⟩
  have HLE := Aside0.mk hL
  have HP := Aside0.mk (HPUT.out.trans hp)
  rw [← hL] at HP
  have HG := Aside0.mk hg
  have HNG := Aside0.mk hn
  obtain ⟨n, hn'⟩ : ∃ n, n = l.length := ⟨_, rfl⟩
  have HN := Aside0.mk hn'
  rw [← hn']
  have hnl : n < 1000000000 := by omega
  have c0 : decide ((60 : Int) < (n : Int)) = false := decide_eq_false (by omega)
  have c00 : decide (60 < n) = false := decide_eq_false (by omega)
  have c1 : decide ((2000 : Int) < (b.size : Int)) = false := decide_eq_false (by omega)
  have c11 : decide (2000 < b.size) = false := decide_eq_false (by omega)
  clear hr hc hl hn' hwf hb hp hg hn HPUT hL
  go_enter Try.func9, Try.ntmps9
  go_wp2_with (first
    | (go_at_call 22; rw [HN.out]; refine (demesnelaw36_Of.calls (l.length + 1) A c l (l.map on58) _ HC.out HCC.out (ofOn_is l (by have := HL.out; omega))).mono ?_; rintro e w1 ⟨v1, rfl, hv1, hb1⟩; rw [← HLE.out] at hv1; obtain ⟨A1, c1, rfl, hc1, hC1⟩ := Kd.R_reads hv1; have HC1 := Aside0.mk hC1; have HCC1 := Aside0.mk hc1; have HB1 := Aside0.mk hb1; clear hv1 hc1 hC1 hb1)
    | (go_at_call 43; with_reducible refine (events_Put.calls (l.length + 24) A1 c1 L PS PC _ HC1.out HCC1.out HP.out).mono ?_; rintro e w2 ⟨rfl, hb2⟩; have HB2 := Aside0.mk (below_then HB1.out HB1.out.size hb2); clear hb2))
  go_loopg [7, 8, 9] n (fun kq v7 v8 v9 w' => ∃ (i : Nat) (X : ByteArray), v9 = .int .i64 (i : Int) ∧ v8 = .bool ((l.take i).all may) ∧ v7 = .string X ∧ i + kq = n ∧ Aside0 ((l.take i).all may = true → X = strOfNums ((l.take i).flatMap evb)) ∧ Aside0 (X.size ≤ 28 * i) ∧ Aside0 (Below w.heap.size w w'))
  case atStart => exact ⟨0, ⟨#[]⟩, rfl, rfl, rfl, by omega, ⟨fun _ => rfl⟩, ⟨Nat.zero_le _⟩, HB2⟩
  case round =>
    obtain ⟨i, X, rfl, rfl, rfl, hi, HX, HXS, HB⟩ := hrel
    obtain ⟨W0, rfl⟩ : ∃ W0, W0 = wr := ⟨wr, rfl⟩
    cases gk with
    | zero =>
      have hil : i = l.length := by have := HN.out; omega
      have c2 : decide ((i : Int) < (l.length : Int)) = false := decide_eq_false (by omega)
      have c22 : decide (i < l.length) = false := decide_eq_false (by omega)
      subst hil
      rw [List.take_length] at HX ⊢
      obtain ⟨y, hy⟩ : ∃ y, y = (rt (b.size / 28 + 1) b []).1 := ⟨_, rfl⟩
      obtain ⟨is, his⟩ : ∃ is, is = (rt (b.size / 28 + 1) b []).2 := ⟨_, rfl⟩
      have hyl : y.length ≤ 200 := by rw [hy]; have h := rt_len (b.size / 28 + 1) b []; rw [List.length_nil] at h; have := HBS.out; omega
      have HTK := Aside0.mk (take_is b HBS.out)
      have HTR := Aside0.mk (take36_calls b HBS.out)
      rw [← hy, ← his] at HTK HTR
      obtain ⟨Y, hY⟩ : ∃ Y, Y = y.map on58 := ⟨_, rfl⟩
      have HYE := Aside0.mk hY
      have HYL := Aside0.mk hyl
      have HYY := Aside0.mk (show Y.length ≤ 200 by rw [hY, List.length_map]; exact hyl)
      rw [← hY] at HTK
      clear hy his hyl hY hi HL hnl
      go_upto_region 13 with (fail)
      go_cut [8, 84] (fun v8 v84 wc => v84 = .bool false ∧ Aside0 (Below W0.heap.size W0 wc))
      case first =>
        cases hG : l.all may with
        | true =>
          have HGG := HG.out hG
          obtain ⟨rfl, rfl⟩ := HGG
          obtain rfl : X = strOfNums (l.flatMap evb) := HX.out hG
          clear HG HNG HX HP
          go_wp2_with fail
          go_meet
          case rel => exact ⟨rfl, ⟨Below.refl _ _⟩⟩
        | false =>
          have HGG := HNG.out hG
          obtain ⟨rfl, rfl⟩ := HGG
          clear HG HNG HX HP
          go_wp2_with fail
          go_meet
          case rel => exact ⟨rfl, ⟨Below.refl _ _⟩⟩
      case rest =>
        obtain ⟨rfl, HBW⟩ := hcut
        have HBX := Aside0.mk (below_then HB.out HB.out.size HBW.out)
        clear HG HNG HX HP
        cases is with
        | true =>
          have HTK1 := Aside0.mk (show events_Take.f (b.size / 28 + 15) b = some (Y, 0) from HTK.out)
          clear HTK
          go_wp2_with (first
            | (go_at_call 46; with_reducible refine (events_Take.calls (b.size / 28 + 15) b Y 0 _ HTK1.out).mono ?_; rintro e w3 ⟨v3, rfl, hv3, hb3⟩; obtain ⟨A3, c3, rfl, hc3, hC3⟩ := Kd.R_reads hv3; have HC3 := Aside0.mk hC3; have HCC3 := Aside0.mk hc3; have HB3 := Aside0.mk (below_then HBX.out HBX.out.size hb3); clear hv3 hc3 hC3 hb3)
            | (go_at_call 47; with_reducible refine (HTR.out _).mono ?_; rintro e w4 ⟨v4, rfl, hv4, hb4⟩; obtain ⟨A4, c4, rfl, hc4, hC4⟩ := Kd.R_reads hv4; have HC4 := Aside0.mk hC4; have HCC4 := Aside0.mk hc4; have HC34 := Aside0.mk (Kd.C_below HC3.out hb4); have HB4 := Aside0.mk (below_then HB3.out HB3.out.size hb4); clear hv4 hc4 hC4 hb4)
            | (go_at_call 22; with_reducible refine (demesnelaw36_Of.calls (y.length + 1) A4 c4 y (y.map on58) _ HC4.out HCC4.out (ofOn_is y (by have := HYL.out; omega))).mono ?_; rintro e w5 ⟨v5, rfl, hv5, hb5⟩; rw [← HYE.out] at hv5; obtain ⟨A5, c5, rfl, hc5, hC5⟩ := Kd.R_reads hv5; have HC5 := Aside0.mk hC5; have HCC5 := Aside0.mk hc5; have HC35 := Aside0.mk (Kd.C_below HC34.out hb5); have HB5 := Aside0.mk (below_then HB4.out HB4.out.size hb5); clear hv5 hc5 hC5 hb5)
            | (go_at_call 48; with_reducible refine (alike_calls Y A3 c3 A5 c5 _ (by have := HYY.out; omega) HC35.out HCC3.out HC5.out HCC5.out).mono ?_; rintro e w6 ⟨rfl, hb6⟩; have HB6 := Aside0.mk (below_then HB5.out HB5.out.size hb6); clear hb6)
            | (go_at_call 42; with_reducible refine (wakes_calls _).mono ?_; rintro e w7 ⟨rfl, hb7⟩; have HB7 := Aside0.mk (below_then HB6.out HB6.out.size hb7); clear hb7))
          go_ret
          exact ⟨rfl, HB7.out⟩
        | false =>
          have HTK1 := Aside0.mk (show events_Take.f (b.size / 28 + 15) b = some (Y, 3) from HTK.out)
          clear HTK
          go_wp2_with (first
            | (go_at_call 46; with_reducible refine (events_Take.calls (b.size / 28 + 15) b Y 3 _ HTK1.out).mono ?_; rintro e w3 ⟨v3, rfl, hv3, hb3⟩; obtain ⟨A3, c3, rfl, hc3, hC3⟩ := Kd.R_reads hv3; have HC3 := Aside0.mk hC3; have HCC3 := Aside0.mk hc3; have HB3 := Aside0.mk (below_then HBX.out HBX.out.size hb3); clear hv3 hc3 hC3 hb3)
            | (go_at_call 47; with_reducible refine (HTR.out _).mono ?_; rintro e w4 ⟨v4, rfl, hv4, hb4⟩; obtain ⟨A4, c4, rfl, hc4, hC4⟩ := Kd.R_reads hv4; have HC4 := Aside0.mk hC4; have HCC4 := Aside0.mk hc4; have HC34 := Aside0.mk (Kd.C_below HC3.out hb4); have HB4 := Aside0.mk (below_then HB3.out HB3.out.size hb4); clear hv4 hc4 hC4 hb4)
            | (go_at_call 22; with_reducible refine (demesnelaw36_Of.calls (y.length + 1) A4 c4 y (y.map on58) _ HC4.out HCC4.out (ofOn_is y (by have := HYL.out; omega))).mono ?_; rintro e w5 ⟨v5, rfl, hv5, hb5⟩; rw [← HYE.out] at hv5; obtain ⟨A5, c5, rfl, hc5, hC5⟩ := Kd.R_reads hv5; have HC5 := Aside0.mk hC5; have HCC5 := Aside0.mk hc5; have HC35 := Aside0.mk (Kd.C_below HC34.out hb5); have HB5 := Aside0.mk (below_then HB4.out HB4.out.size hb5); clear hv5 hc5 hC5 hb5)
            | (go_at_call 48; with_reducible refine (alike_calls Y A3 c3 A5 c5 _ (by have := HYY.out; omega) HC35.out HCC3.out HC5.out HCC5.out).mono ?_; rintro e w6 ⟨rfl, hb6⟩; have HB6 := Aside0.mk (below_then HB5.out HB5.out.size hb6); clear hb6)
            | (go_at_call 42; with_reducible refine (wakes_calls _).mono ?_; rintro e w7 ⟨rfl, hb7⟩; have HB7 := Aside0.mk (below_then HB6.out HB6.out.size hb7); clear hb7))
          go_ret
          exact ⟨rfl, HB7.out⟩
    | succ k1 =>
      have hil : i < l.length := by have := HN.out; omega
      have c2 : decide ((i : Int) < (l.length : Int)) = true := decide_eq_true (by omega)
      have c22 : decide (i < l.length) = true := decide_eq_true (by omega)
      have hin : i < 1000000000 := by omega
      have q1 : (0 : Int) ≤ (i : Int) := by omega
      have q2 : (i : Int) < (l.length : Int) := by omega
      obtain ⟨ad, rfl, d, hd, _⟩ := el58 HC.out HB.out i hil
      have HD := Aside0.mk hd
      have HI := Aside0.mk hi
      have HIL := Aside0.mk hil
      have HWD := Aside0.mk (HW.out d (List.mem_of_getElem? hd))
      have HTA := Aside0.mk (show (l.take (i + 1)).all may = ((l.take i).all may && may d) by
        obtain ⟨hi', rfl⟩ := List.getElem?_eq_some_iff.1 hd
        rw [List.take_succ_eq_append_getElem hi', List.all_append]
        simp)
      have HTF := Aside0.mk (show (l.take (i + 1)).flatMap evb = (l.take i).flatMap evb ++ evb d by
        obtain ⟨hi', rfl⟩ := List.getElem?_eq_some_iff.1 hd
        rw [List.take_succ_eq_append_getElem hi', List.flatMap_append]
        simp)
      have HC0 := Aside0.mk (Kd.C_below HC.out HB.out)
      obtain ⟨G, hG⟩ : ∃ G, G = (l.take i).all may := ⟨_, rfl⟩
      rw [← hG] at HX HTA ⊢
      clear hi hd hil hG
      go_upto_region 8 with (fail)
      go_cut [46] (fun v46 wc => v46 = .bool false ∧ Aside0 (Below W0.heap.size W0 wc))
      case first =>
        refine weave 12 115 (V8 l (some ad) c i d (ad.add (i * 11))) (by kernel_rfl) (by rfl) (by kernel_rfl) (V8_stays _ _ _ _ _ _) ?st ?en
        case st =>
          refine Steps.cons (fun a w1 fr hb hd K hK => ?_) ?_
          · exact wp_val (move_exec rfl ((fr 0 (by kernel_rfl)).trans rfl)) (hK _ _ (Below.refl _ _) rfl)
          refine Steps.cons (fun a w1 fr hb hd K hK => ?_) ?_
          · exact wp_val (move_exec rfl ((fr 9 (by kernel_rfl)).trans rfl)) (hK _ _ (Below.refl _ _) rfl)
          refine Steps.cons (fun a w1 fr hb hd K hK => ?_) ?_
          · exact wp_val (idx58_exec rfl (hd 0 35 (by kernel_rfl)) (hd 1 36 (by kernel_rfl)) HIL.out) (hK _ _ (Below.refl _ _) rfl)
          refine Steps.cons (fun a w1 fr hb hd K hK => ?_) ?_
          · exact wp_val (load58_row_exec rfl (hd 2 37 (by kernel_rfl)) (Kd.C_below HC0.out hb) HD.out) (hK _ _ (Below.refl _ _) rfl)
          refine Steps.cons (fun a w1 fr hb hd K hK => ?_) ?_
          · have e1 : a.eval (.tmp 38) = ev58 d := (hd 3 38 (by kernel_rfl))
            refine wp_call Try.func30 (by kernel_rfl) rfl #[ev58 d] rfl (by simp only [List.map_toArray, List.map_cons, List.map_nil, e1]) ?_
            refine (demesnelaw36_One.calls d.f0 d.f1 d.f2 d.f3 d.f4 d.f5 d.f6 d.f7 d.f8 d.f9 d.f10 d.f0 d.f1 d.f2 d.f3 d.f4 d.f5 d.f6 d.f7 d.f8 d.f9 d.f10 _ rfl).mono ?_
            rintro e w2 ⟨rfl, hb2⟩
            exact ⟨_, rfl, hK _ _ hb2 rfl⟩
          refine Steps.cons (fun a w1 fr hb hd K hK => ?_) ?_
          · have e1 : a.eval (.tmp 39) = ev (on58 d) := (hd 4 39 (by kernel_rfl))
            refine wp_call Try.func44 (by kernel_rfl) rfl #[ev (on58 d)] rfl (by simp only [List.map_toArray, List.map_cons, List.map_nil, e1]) ?_
            refine (events_May.calls 3 d.f0 d.f1 d.f2 d.f3 d.f4 d.f5 d.f6 d.f7 d.f8 d.f9 d.f10 (may d) _ (may_is d HWD.out 0)).mono ?_
            rintro e w2 ⟨rfl, hb2⟩
            exact ⟨_, rfl, hK _ _ hb2 rfl⟩
          refine Steps.cons (fun a w1 fr hb hd K hK => ?_) ?_
          · exact wp_val (move_exec rfl ((fr 0 (by kernel_rfl)).trans rfl)) (hK _ _ (Below.refl _ _) rfl)
          refine Steps.cons (fun a w1 fr hb hd K hK => ?_) ?_
          · exact wp_val (move_exec rfl ((fr 9 (by kernel_rfl)).trans rfl)) (hK _ _ (Below.refl _ _) rfl)
          refine Steps.cons (fun a w1 fr hb hd K hK => ?_) ?_
          · exact wp_val (idx58_exec rfl (hd 6 41 (by kernel_rfl)) (hd 7 42 (by kernel_rfl)) HIL.out) (hK _ _ (Below.refl _ _) rfl)
          refine Steps.cons (fun a w1 fr hb hd K hK => ?_) ?_
          · exact wp_val (load58_row_exec rfl (hd 8 43 (by kernel_rfl)) (Kd.C_below HC0.out hb) HD.out) (hK _ _ (Below.refl _ _) rfl)
          refine Steps.cons (fun a w1 fr hb hd K hK => ?_) ?_
          · have e1 : a.eval (.tmp 44) = ev58 d := (hd 9 44 (by kernel_rfl))
            refine wp_call Try.func23 (by kernel_rfl) rfl #[ev58 d] rfl (by simp only [List.map_toArray, List.map_cons, List.map_nil, e1]) ?_
            refine (may_calls36 d HWD.out _).mono ?_
            rintro e w2 ⟨rfl, hb2⟩
            exact ⟨_, rfl, hK _ _ hb2 rfl⟩
          refine Steps.cons (fun a w1 fr hb hd K hK => ?_) ?_
          · exact wp_val (neq_bool_exec rfl (hd 5 40 (by kernel_rfl)) (hd 10 45 (by kernel_rfl))) (hK _ _ (Below.refl _ _) rfl)
          exact Steps.nil
        case en =>
          intro vs w' hb hv
          have h11 : vs 11 = .bool false := hv 11 46 (by decide) (by kernel_rfl)
          refine upto_none (by kernel_rfl) ?_
          simp only [List.take_succ_cons, List.take_zero, putsOf, Act.put, List.setIfInBounds_toArray, List.set_cons_zero, List.set_cons_succ, h11]
          go_wp2
          go_meet
          case rel => exact ⟨rfl, ⟨hb⟩⟩
      case rest =>
        obtain ⟨rfl, HBW⟩ := hcut
        have HBX := Aside0.mk (below_then HB.out HB.out.size HBW.out)
        cases G with
        | false =>
          have hn1 : (l.take (i + 1)).all may = false := HTA.out
          go_wp2_with fail
          go_roundg k1
          case measure => have := HI.out; omega
          case rel => exact ⟨i + 1, X, rfl, by rw [hn1], rfl, by have := HI.out; omega, ⟨fun h => by rw [hn1] at h; cases h⟩, ⟨by have := HXS.out; omega⟩, HBX⟩
        | true =>
          obtain ⟨ad', he', d', hd', hx0, hx1, hx2, hx3, hx4, hx5, hx6, hx7, hx8, hx9, hx10⟩ := el58 HC.out HBX.out i HIL.out
          cases he'
          obtain rfl : d = d' := Option.some.inj (HD.out.symm.trans hd')
          clear hd'
          obtain ⟨M, hM⟩ : ∃ M, M = may d := ⟨_, rfl⟩
          have HM := Aside0.mk hM
          rw [← hM] at HTA
          clear hM
          cases M with
          | false =>
            have hn1 : (l.take (i + 1)).all may = false := HTA.out
            go_wp2_with (go_at_call 23; refine (may_calls36 d HWD.out _).mono ?_; rw [← HM.out]; rintro e w3 ⟨rfl, hb3⟩; have HB3 := Aside0.mk (below_then HBX.out HBX.out.size hb3); clear hb3)
            go_roundg k1
            case measure => have := HI.out; omega
            case rel => exact ⟨i + 1, X, rfl, by rw [hn1], rfl, by have := HI.out; omega, ⟨fun h => by rw [hn1] at h; cases h⟩, ⟨by have := HXS.out; omega⟩, HB3⟩
          | true =>
            have hn1 : (l.take (i + 1)).all may = true := HTA.out
            go_upto_region 12 with (go_at_call 23; refine (may_calls36 d HWD.out _).mono ?_; rw [← HM.out]; rintro e w3 ⟨rfl, hb3⟩; have HB3 := Aside0.mk (below_then HBX.out HBX.out.size hb3); clear hb3)
            clear hx0 hx1 hx2 hx3 hx4 hx5 hx6 hx7 hx8 hx9 hx10
            have HC3 := Aside0.mk (Kd.C_below HC.out HB3.out)
            go_wp2_with (first
              | ((with_reducible refine gate_dst (N := 60) rfl ?_); refine Kd.event_run rfl (load58_row_exec rfl (by rfl) HC3.out HD.out) ?_)
              | (go_at_call 45; refine (bytes_calls d (fits HM.out.symm) HWD.out.u7 _).mono ?_; rintro e w4 ⟨rfl, hb4⟩; have HB4 := Aside0.mk (below_then HB3.out HB3.out.size hb4); clear hb4)
              | ((with_reducible refine gate_dst (N := 62) rfl ?_); refine Kd.event_run rfl (add_str_exec rfl (by rfl) (by rfl) (by rw [strOfNums_size, evb_length]; have := HXS.out; have := HIL.out; have := HL.out; omega)) ?_))
            go_roundg k1
            case measure => have := HI.out; omega
            case rel => exact ⟨i + 1, X ++ strOfNums (evb d), rfl, by rw [hn1], rfl, by have := HI.out; omega, ⟨fun _ => by rw [HX.out (by first | rfl | trivial), str_append, HTF.out]⟩, ⟨by rw [ByteArray.size_append, strOfNums_size, evb_length]; have := HXS.out; omega⟩, HB4⟩
end Go.Proofs.Ytgojfecpknonlaa.Ev

