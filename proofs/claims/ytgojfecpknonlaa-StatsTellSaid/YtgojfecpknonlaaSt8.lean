/- The walk of the law StatsSmall: true at every input. -/
import Derived.Test.YtgojfecpknonlaaStL
import Derived.OpenShut
namespace Go.Proofs.Ytgojfecpknonlaa.St
open Go.RowKit Go.Proofs.YtgojfecpknonlaaW.PrintWords Go.Proofs.YtgojfecpknonlaaW.PrintLast Go.Proofs.YtgojfecpknonlaaW.PrintMore
open Go.Proofs.Ytgojfecpknonlaa.Own Go.Proofs.Ytgojfecpknonlaa.PSt
set_option linter.unusedVariables false
set_option linter.unusedSimpArgs false

/-- An element's cells, in a later memory. -/
theorem elem58 {w W : World} {A : Option Addr} {l : List S58} (h : Kd.C k58 w A l.length l) (hb : Below w.heap.size w W) (i : Nat) (hi : i < l.length) : ∃ ad, A = some ad ∧ ∃ d, l[i]? = some d ∧ W.cell? (ad.add (i * 11)) = some (.int .u8 d.f0) ∧ W.cell? ⟨(ad.add (i * 11)).block, (ad.add (i * 11)).off + 1, none⟩ = some (.int .u8 d.f1) ∧ W.cell? ⟨(ad.add (i * 11)).block, (ad.add (i * 11)).off + 2, none⟩ = some (.int .u8 d.f2) ∧ W.cell? ⟨(ad.add (i * 11)).block, (ad.add (i * 11)).off + 3, none⟩ = some (.int .u8 d.f3) ∧ W.cell? ⟨(ad.add (i * 11)).block, (ad.add (i * 11)).off + 4, none⟩ = some (.int .u8 d.f4) ∧ W.cell? ⟨(ad.add (i * 11)).block, (ad.add (i * 11)).off + 5, none⟩ = some (.int .i64 d.f5) ∧ W.cell? ⟨(ad.add (i * 11)).block, (ad.add (i * 11)).off + 6, none⟩ = some (.int .i64 d.f6) ∧ W.cell? ⟨(ad.add (i * 11)).block, (ad.add (i * 11)).off + 7, none⟩ = some (.int .u64 d.f7) ∧ W.cell? ⟨(ad.add (i * 11)).block, (ad.add (i * 11)).off + 8, none⟩ = some (.int .i64 d.f8) ∧ W.cell? ⟨(ad.add (i * 11)).block, (ad.add (i * 11)).off + 9, none⟩ = some (.int .i64 d.f9) ∧ W.cell? ⟨(ad.add (i * 11)).block, (ad.add (i * 11)).off + 10, none⟩ = some (.int .i64 d.f10) := by
  obtain ⟨ad, he, hx0, hx1, hx2, hx3, hx4, hx5, hx6, hx7, hx8, hx9, hx10⟩ := at_T58 (Kd.C_below h hb) i (by omega) (by omega)
  refine ⟨ad, he, l[i], List.getElem?_eq_getElem hi, ?_⟩
  have e : rd_T58 l i = l[i] := by
    unfold rd_T58
    rw [Int.toNat_natCast, List.getD_eq_getElem?_getD, List.getElem?_eq_getElem hi]
    rfl
  simp only [Int.toNat_natCast] at hx0 hx1 hx2 hx3 hx4 hx5 hx6 hx7 hx8 hx9 hx10
  rw [e] at hx0 hx1 hx2 hx3 hx4 hx5 hx6 hx7 hx8 hx9 hx10
  exact ⟨hx0, hx1, hx2, hx3, hx4, hx5, hx6, hx7, hx8, hx9, hx10⟩


theorem info43 : (Try.prog.info? 43).map (·.zero) = some (some (.agg #[.int .i64 0, .int .i64 0, .int .i64 0, .int .i64 0])) := by kernel_rfl
theorem add58_add (t : Tl) (d : S58) (h0 : 0 ≤ d.f8 ∧ d.f8 ≤ 2147483647) (h1 : 0 ≤ d.f10 ∧ d.f10 ≤ 2147483647) : stats_Tally_Add.f t.c t.e t.m t.l d.f0 d.f1 d.f2 d.f3 d.f4 d.f5 d.f6 d.f7 d.f8 d.f9 d.f10 = some ((add58 t d).c, (add58 t d).e, (add58 t d).m, (add58 t d).l) := by
  have h := addT_is t (re58 d)
  rw [add58_is t d h0 h1] at h
  exact h
theorem known_ys (l : List S58) (m : Int) (h : l.length ≤ 60) : ∃ (ys : List S72) (ko ku : Nat) (cnt : Int), demesnelaw36_Of.f ko l = some ys ∧ stats_Under.f ku ys m = some cnt ∧ demesneref41_Under.f (l.length + 1) l m = some cnt := by
  refine ⟨l.map re58, l.length + 1, (l.map re58).length + 1, _, of36_is l (by omega), under72 _ m (by rw [List.length_map]; omega), ?_⟩
  rw [under_map]
  exact under58 l m (by omega)
theorem slice_to_run {P : Program} {o : Oper} {a : Act} {W : World} {t e : TypeId} {x y : Operand} {A : Option Addr} {n c N : Nat} {k : IntKind} {j : Int} (ho : o.op = .slice t x none (some y) none) (hx : a.eval x = .slice A n c) (hy : a.eval y = .int k j)
    (ht : P.underlying t = some (.slice e)) (h0 : 0 ≤ j) (hm : j ≤ n) (hN : j.toNat = N) (hc : n ≤ c) {i : TypeInfo} (hi : P.info? e = some i) : (execOp a.eval o).run P W = .ok (.value (.slice A N c)) W := by
  subst hN
  unfold execOp
  simp only [ho, hx, hy, Option.map_some, Option.map_none, Instr.sliceAt, run_underlying ht, cut_to t e k ht hi A n c j h0 hm hc W, Sem.run_bind, Sem.run_pure, Result.andThen_ok]
theorem has58 : ∃ i, Try.prog.info? 58 = some i := by
  have h : (Try.prog.info? 58).map (·.size) = some 11 := by kernel_rfl
  cases hq : Try.prog.info? 58 with
  | none => rw [hq] at h; cases h
  | some i => exact ⟨i, rfl⟩
theorem may_calls (d : S58) (hd : Wf d) (w : World) : Calls Try.prog 23 #[ev58 d] w fun e w' => e = .returned (.bool (may d)) ∧ Below w.heap.size w w' :=
  may36_calls d _ (refArgs_is d.f1 hd.u1) w
def tal (l : List S58) : Tl := l.foldl add58 tl0
theorem tal_succ (l : List S58) (i : Nat) (d : S58) (h : l[i]? = some d) : tal (l.take (i + 1)) = add58 (tal (l.take i)) d := by
  unfold tal
  rw [List.take_add_one, h]
  simp

set_option maxHeartbeats 8000000 in
set_option maxRecDepth 100000 in
theorem small_walk (l : List S58) (n m : Int) (hl : ∀ d ∈ l, Wf d) (hn : -9223372036854775808 ≤ n ∧ n ≤ 9223372036854775807) (A0 : Option Addr) (c0 : Nat) (w : World) (hr0 : Kd.C k58 w A0 l.length l) (hc0 : l.length ≤ c0) :
    Calls Try.prog 6 #[.slice A0 l.length c0, .int .i64 n, .int .i64 m] w fun e w' => e = .returned (.bool true) ∧ Below w.heap.size w w' := by
  have HR0 := Aside0.mk hr0
  have HL := Aside0.mk hl
  have HC0 := Aside0.mk hc0
  have HN := Aside0.mk hn
  clear hr0 hc0 hl hn
  by_cases h60 : 60 < l.length
  · have c1 : decide ((60 : Int) < (l.length : Int)) = true := decide_eq_true (by omega)
    have c2 : decide (60 < l.length) = true := decide_eq_true h60
    clear h60
    go_enter Try.func6, Try.ntmps6
    go_wp2_with (go_at_call 20; refine (wakes_calls _).mono ?_; rintro e w1 ⟨rfl, hb1⟩)
    go_ret
    exact ⟨rfl, hb1⟩
  · have c1 : decide ((60 : Int) < (l.length : Int)) = false := decide_eq_false (by omega)
    have c2 : decide (60 < l.length) = false := decide_eq_false h60
    have hl60 : l.length ≤ 60 := by omega
    have HLL := Aside0.mk hl60
    have hlm : l.length < 4611686018427387904 := by omega
    clear h60 hl60
    go_enter Try.func6, Try.ntmps6
    go_wp2_with (first
      | ((with_reducible refine gate_dst (N := 7) rfl ?_); refine alloc_event rfl (t := 43) rfl info43 ?_; intro g7 hg7 w1 hh1 hb1; have HG := Aside0.mk (show w.heap.size ≤ g7 by omega); have HH1 := Aside0.mk (show Holds w1 g7 43 tl0.vals from hh1); have HB1 := Aside0.mk hb1; clear hg7 hh1 hb1))
    go_loopg [8] l.length (fun kq v8 w' => ∃ i : Nat, v8 = .int .i64 i ∧ i + kq = l.length ∧ Aside0 (Holds w' g7 43 (tal (l.take i)).vals) ∧ Aside0 (∀ d ∈ l.take i, may d = true) ∧ Aside0 (Below w.heap.size w w'))
    case atStart => exact ⟨0, rfl, by omega, HH1, ⟨by simp⟩, HB1⟩
    case round =>
      clear HH1 HB1
      obtain ⟨i, rfl, hi, HT, HM, HB⟩ := hrel
      cases gk with
      | zero =>
        obtain rfl : i = l.length := by omega
        clear hi
        have c3 : decide (((l.length : Nat) : Int) < (l.length : Int)) = false := decide_eq_false (by omega)
        obtain ⟨ys, ko, ku, cnt, hys, hun, hun2⟩ := known_ys l m HLL.out
        have HYS := Aside0.mk hys
        have HUN := Aside0.mk hun
        have HU2 := Aside0.mk hun2
        clear hys hun hun2
        go_wp2_with (first
          | (go_at_call 31; refine (bucket_calls n _ HN.out.1 HN.out.2).mono ?_; rintro e w2 ⟨rfl, rfl⟩)
          | (go_at_call 24; refine (demesneref41_Bucket.calls 20 n _ _ (bucket_is n HN.out.2)).mono ?_; rintro e w3 ⟨rfl, ⟨nd, rfl⟩⟩; have HBd := Aside0.mk (pw_below_drewN HB.out nd))
          | (go_at_call 22; refine (demesnelaw36_Of.calls ko A0 c0 l ys _ (Kd.C_below HR0.out HBd.out) HC0.out HYS.out).mono ?_; rintro e w4 ⟨v4, rfl, hv4, hb4⟩; obtain ⟨A4, c4, rfl, hc4, hC4⟩ := Kd.R_reads hv4; have HC4 := Aside0.mk hC4; have HB4 := Aside0.mk (below_then HBd.out HBd.out.size hb4); clear hv4 hC4 hb4)
          | (go_at_call 32; refine (stats_Under.calls ku A4 c4 ys m cnt _ HC4.out hc4 HUN.out).mono ?_; rintro e w5 ⟨rfl, hb5⟩; have HB5 := Aside0.mk (below_then HB4.out HB4.out.size hb5); clear hb5)
          | (go_at_call 33; refine (demesneref41_Under.calls (l.length + 1) A0 c0 l m cnt _ (Kd.C_below HR0.out HB5.out) HC0.out HU2.out).mono ?_; rintro e w6 ⟨rfl, ⟨nd2, rfl⟩⟩; have HB6 := Aside0.mk (pw_below_drewN HB5.out nd2))
          | (go_at_call 20; refine (wakes_calls _).mono ?_; rintro e w7 ⟨rfl, hb7⟩))
        go_ret
        exact ⟨rfl, below_then HB6.out HB6.out.size hb7⟩
      | succ k1 =>
        have c3 : decide ((i : Int) < (l.length : Int)) = true := decide_eq_true (by omega)
        have hil : i < l.length := by omega
        obtain ⟨ad, he, d, hd, hx0, hx1, hx2, hx3, hx4, hx5, hx6, hx7, hx8, hx9, hx10⟩ := elem58 HR0.out HB.out i hil
        cases he
        have HD := Aside0.mk hd
        have HI := Aside0.mk hi
        have hwf : Wf d := HL.out d (List.mem_of_getElem? hd)
        have HW := Aside0.mk hwf
        have p1 := eq_true (show 0 ≤ ((i : Nat) : Int) by omega)
        have q1 := eq_true (show ((i : Nat) : Int) < (l.length : Int) by omega)
        have q2 := eq_true hil
        clear hd hi hwf hil
        cases hmay : may d with
        | false =>
          go_wp2_with (first
            | (go_at_call 23; refine (may_calls d HW.out _).mono ?_; rintro e w2 ⟨rfl, hb2⟩; rw [hmay]; have HB2 := Aside0.mk (below_then HB.out HB.out.size hb2); clear hb2)
            | (go_at_call 20; refine (wakes_calls _).mono ?_; rintro e w3 ⟨rfl, hb3⟩))
          go_ret
          exact ⟨rfl, below_then HB2.out HB2.out.size hb3⟩
        | true =>
          go_wp2_with (first
            | (go_at_call 23; refine (may_calls d HW.out _).mono ?_; rintro e w2 ⟨rfl, hb2⟩; rw [hmay]; have HB2 := Aside0.mk (below_then HB.out HB.out.size hb2); have HT2 := Aside0.mk (HT.out.below hb2); clear hb2))
          obtain ⟨ad', he', d', hd', hy0, hy1, hy2, hy3, hy4, hy5, hy6, hy7, hy8, hy9, hy10⟩ := elem58 HR0.out HB2.out i (of_eq_true q2)
          cases he'
          obtain rfl : d = d' := Option.some.inj (HD.out.symm.trans hd')
          obtain ⟨t, htt⟩ : ∃ t, t = tal (l.take i) := ⟨_, rfl⟩
          have HTT := Aside0.mk htt
          rw [← htt] at HT2
          have ht0 : w2.cell? ⟨g7, 0, none⟩ = some (.int .i64 t.c) := HT2.out.cell 0
          have ht1 : w2.cell? ⟨g7, 1, none⟩ = some (.int .i64 t.e) := HT2.out.cell 1
          have ht2 : w2.cell? ⟨g7, 2, none⟩ = some (.int .i64 t.m) := HT2.out.cell 2
          have ht3 : w2.cell? ⟨g7, 3, none⟩ = some (.int .i64 t.l) := HT2.out.cell 3
          have HAD := Aside0.mk (add58_add t d (may_span hmay).1 (may_span hmay).2)
          clear hx0 hx1 hx2 hx3 hx4 hx5 hx6 hx7 hx8 hx9 hx10 hd' htt HT HB
          refine start_ (n := 8) (S := fun w' => w'.cell? (ad.add (i * 11)) = some (.int .u8 d.f0) ∧ w'.cell? ⟨(ad.add (i * 11)).block, (ad.add (i * 11)).off + 1, none⟩ = some (.int .u8 d.f1) ∧ w'.cell? ⟨(ad.add (i * 11)).block, (ad.add (i * 11)).off + 2, none⟩ = some (.int .u8 d.f2) ∧ w'.cell? ⟨(ad.add (i * 11)).block, (ad.add (i * 11)).off + 3, none⟩ = some (.int .u8 d.f3) ∧ w'.cell? ⟨(ad.add (i * 11)).block, (ad.add (i * 11)).off + 4, none⟩ = some (.int .u8 d.f4) ∧ w'.cell? ⟨(ad.add (i * 11)).block, (ad.add (i * 11)).off + 5, none⟩ = some (.int .i64 d.f5) ∧ w'.cell? ⟨(ad.add (i * 11)).block, (ad.add (i * 11)).off + 6, none⟩ = some (.int .i64 d.f6) ∧ w'.cell? ⟨(ad.add (i * 11)).block, (ad.add (i * 11)).off + 7, none⟩ = some (.int .u64 d.f7) ∧ w'.cell? ⟨(ad.add (i * 11)).block, (ad.add (i * 11)).off + 8, none⟩ = some (.int .i64 d.f8) ∧ w'.cell? ⟨(ad.add (i * 11)).block, (ad.add (i * 11)).off + 9, none⟩ = some (.int .i64 d.f9) ∧ w'.cell? ⟨(ad.add (i * 11)).block, (ad.add (i * 11)).off + 10, none⟩ = some (.int .i64 d.f10) ∧ w'.cell? ⟨g7, 0, none⟩ = some (.int .i64 t.c) ∧ w'.cell? ⟨g7, 1, none⟩ = some (.int .i64 t.e) ∧ w'.cell? ⟨g7, 2, none⟩ = some (.int .i64 t.m) ∧ w'.cell? ⟨g7, 3, none⟩ = some (.int .i64 t.l)) (ds := [7]) #[false, false, false, false, false, false, false, false] (by kernel_rfl) rfl rfl ⟨hy0, hy1, hy2, hy3, hy4, hy5, hy6, hy7, hy8, hy9, hy10, ht0, ht1, ht2, ht3⟩ (fun hHeld => ?_)
          refine pure_ (i := 1) (N := some 27) (v := ?_) (a' := ?_) #[false, true, false, false, false, false, false, false] rfl rfl (by kernel_rfl) (fun _ _ _ h => h) (Or.inl ⟨by rfl, ?_⟩) ?_ ?_
          rotate_left
          · intro w'
            go_simp
            with_reducible rfl
          rotate_left
          · simp only [Act.put, List.setIfInBounds_toArray, List.set_cons_zero, List.set_cons_succ, i64_w, i32_w]
            rfl
          refine pure_ (i := 2) (N := some 28) (v := ?_) (a' := ?_) #[false, true, true, false, false, false, false, false] rfl rfl (by kernel_rfl) (fun _ _ _ h => h) (Or.inl ⟨by rfl, ?_⟩) ?_ ?_
          rotate_left
          · intro w'
            go_simp
            with_reducible rfl
          rotate_left
          · simp only [Act.put, List.setIfInBounds_toArray, List.set_cons_zero, List.set_cons_succ, i64_w, i32_w]
            rfl
          refine pure_ (i := 3) (N := some 29) (v := ?_) (a' := ?_) #[false, true, true, true, false, false, false, false] rfl rfl (by kernel_rfl) (fun _ _ _ h => h) (Or.inl ⟨by rfl, ?_⟩) ?_ ?_
          rotate_left
          · intro w'
            go_simp
            with_reducible rfl
          rotate_left
          · simp only [Act.put, List.setIfInBounds_toArray, List.set_cons_zero, List.set_cons_succ, i64_w, i32_w]
            rfl
          refine take_ (i := 0) (N := some 26) (v := ?_) (a' := ?_) #[true, true, true, true, false, false, false, false] rfl rfl (by kernel_rfl) (fun _ _ _ h => h) (Or.inl ⟨by rfl, ?_⟩) hHeld ?_ ?_
          rotate_left
          · rintro w' ⟨s0, s1, s2, s3, s4, s5, s6, s7, s8, s9, s10, s11, s12, s13, s14⟩
            go_simp
            with_reducible rfl
          rotate_left
          · simp only [Act.put, List.setIfInBounds_toArray, List.set_cons_zero, List.set_cons_succ, i64_w, i32_w]
            rfl
          refine take_ (i := 4) (N := some 30) (v := ?_) (a' := ?_) #[true, true, true, true, true, false, false, false] rfl rfl (by kernel_rfl) (fun _ _ _ h => h) (Or.inl ⟨by rfl, ?_⟩) hHeld ?_ ?_
          rotate_left
          · rintro w' ⟨s0, s1, s2, s3, s4, s5, s6, s7, s8, s9, s10, s11, s12, s13, s14⟩
            go_simp
            with_reducible rfl
          rotate_left
          · simp only [Act.put, List.setIfInBounds_toArray, List.set_cons_zero, List.set_cons_succ, i64_w, i32_w]
            rfl
          refine one_ (i := 5) (N := some 31) #[true, true, true, true, true, true, false, false] rfl rfl (by kernel_rfl) (by decide) (fun K hK => ?_)
          refine goes_ Try.func30 (by kernel_rfl) rfl #[.agg #[.int .u8 d.f0, .int .u8 d.f1, .int .u8 d.f2, .int .u8 d.f3, .int .u8 d.f4, .int .i64 d.f5, .int .i64 d.f6, .int .u64 d.f7, .int .i64 d.f8, .int .i64 d.f9, .int .i64 d.f10]] (by rfl) rfl rfl (by simp only [List.map_toArray, List.map_cons, List.map_nil]; rfl) ?_
          with_reducible refine (demesnelaw36_One.calls d.f0 d.f1 d.f2 d.f3 d.f4 d.f5 d.f6 d.f7 d.f8 d.f9 d.f10 d.f0 d.f1 d.f2 d.f3 d.f4 d.f5 d.f6 d.f7 d.f8 d.f9 d.f10 _ rfl).mono ?_
          rintro e w3 ⟨rfl, hb3⟩
          refine ⟨_, rfl, ?_⟩
          have HB3 := Aside0.mk (show Below w2.heap.size w2 w3 from below_then (below_drew (Below.refl _ _)) (Nat.le_refl _) hb3)
          clear hb3
          refine hK.out _ _ ⟨(pw_cell_below HB3.out hy0), (pw_cell_below HB3.out hy1), (pw_cell_below HB3.out hy2), (pw_cell_below HB3.out hy3), (pw_cell_below HB3.out hy4), (pw_cell_below HB3.out hy5), (pw_cell_below HB3.out hy6), (pw_cell_below HB3.out hy7), (pw_cell_below HB3.out hy8), (pw_cell_below HB3.out hy9), (pw_cell_below HB3.out hy10), (pw_cell_below HB3.out ht0), (pw_cell_below HB3.out ht1), (pw_cell_below HB3.out ht2), (pw_cell_below HB3.out ht3)⟩ (fun hHeld => ?_)
          clear hK K
          refine norm_ (a' := ?_) ?_ ?_
          rotate_left
          · show Act.put _ (some 31) _ = _
            simp only [Act.put, List.setIfInBounds_toArray, List.set_cons_zero, List.set_cons_succ, i64_w, i32_w]
            rfl
          refine one_ (i := 6) (N := some 32) #[true, true, true, true, true, true, true, false] rfl rfl (by kernel_rfl) (by decide) (fun K hK => ?_)
          refine goes_ Try.func29 (by kernel_rfl) rfl #[.agg #[.int .i64 t.c, .int .i64 t.e, .int .i64 t.m, .int .i64 t.l], .agg #[.int .u8 d.f0, .int .u8 d.f1, .int .u8 d.f2, .int .u8 d.f3, .int .u8 d.f4, .int .i64 d.f5, .int .i64 d.f6, .int .u64 d.f7, .int .i64 d.f8, .int .i64 d.f9, .int .i64 d.f10]] (by rfl) rfl rfl (by simp only [List.map_toArray, List.map_cons, List.map_nil]; rfl) ?_
          with_reducible refine (stats_Tally_Add.calls t.c t.e t.m t.l d.f0 d.f1 d.f2 d.f3 d.f4 d.f5 d.f6 d.f7 d.f8 d.f9 d.f10 _ _ _ _ _ (HAD.out)).mono ?_
          rintro e w4 ⟨rfl, hb4⟩
          refine ⟨_, rfl, ?_⟩
          have HB4 := Aside0.mk (below_then HB3.out HB3.out.size hb4)
          have HT4 := Aside0.mk (HT2.out.below HB4.out)
          clear hb4 HB3
          refine hK.out _ _ ⟨(pw_cell_below HB4.out hy0), (pw_cell_below HB4.out hy1), (pw_cell_below HB4.out hy2), (pw_cell_below HB4.out hy3), (pw_cell_below HB4.out hy4), (pw_cell_below HB4.out hy5), (pw_cell_below HB4.out hy6), (pw_cell_below HB4.out hy7), (pw_cell_below HB4.out hy8), (pw_cell_below HB4.out hy9), (pw_cell_below HB4.out hy10), (pw_cell_below HB4.out ht0), (pw_cell_below HB4.out ht1), (pw_cell_below HB4.out ht2), (pw_cell_below HB4.out ht3)⟩ (fun hHeld => ?_)
          clear hK K
          refine norm_ (a' := ?_) ?_ ?_
          rotate_left
          · show Act.put _ (some 32) _ = _
            simp only [Act.put, List.setIfInBounds_toArray, List.set_cons_zero, List.set_cons_succ, i64_w, i32_w]
            rfl
          refine last_ (i := 7) (N := none) #[true, true, true, true, true, true, true, true] rfl rfl (by kernel_rfl) (by decide) (fun K hK => ?_)
          refine skip_ (w1 := w4.setCells g7 0 (add58 t d).vals) (by rfl) rfl (store_skip rfl (off := 0) (vs := (add58 t d).vals.toArray) rfl rfl HT4.out (Nat.le_refl 4) size43 (one4 _)) ?_
          refine hK.out _ _ ?_
          clear hK K
          refine done_ (by kernel_rfl) ?_
          have HT5 := Aside0.mk (show Holds (w4.setCells g7 0 (add58 t d).vals) g7 43 (add58 t d).vals from holds_cells HT4.out (Nat.le_refl 4))
          have HB5 := Aside0.mk ((stored_cells w4 g7 0 (add58 t d).vals).below (below_then HB2.out HB2.out.size HB4.out) HG.out)
          generalize w4.setCells g7 0 (add58 t d).vals = w5 at *
          have hz0 : w5.cell? ⟨g7, 0, none⟩ = some (.int .i64 (add58 t d).c) := HT5.out.cell 0
          have hz1 : w5.cell? ⟨g7, 1, none⟩ = some (.int .i64 (add58 t d).e) := HT5.out.cell 1
          have hz2 : w5.cell? ⟨g7, 2, none⟩ = some (.int .i64 (add58 t d).m) := HT5.out.cell 2
          have hz3 : w5.cell? ⟨g7, 3, none⟩ = some (.int .i64 (add58 t d).l) := HT5.out.cell 3
          clear hHeld hy0 hy1 hy2 hy3 hy4 hy5 hy6 hy7 hy8 hy9 hy10 ht0 ht1 ht2 ht3 HB2 HT2 HB4 HT4 HAD
          go_wp2_with fail
          have hi1 : i + 1 ≤ l.length := by have := HI.out; omega
          have HC5 : Aside0 ((l.take (i + 1)).length ≤ c0) := ⟨by rw [List.length_take]; have := HC0.out; omega⟩
          have HS4 : Aside0 (0 ≤ wrap64 ((i : Int) + 1) ∧ wrap64 ((i : Int) + 1) ≤ (l.length : Int) ∧ (wrap64 ((i : Int) + 1)).toNat = (l.take (i + 1)).length) := ⟨by rw [wrap_in (by omega) (by omega), List.length_take]; omega⟩
          have HCT := Aside0.mk (Kd.C_take (Kd.C_below HR0.out HB5.out) (m := i + 1) hi1)
          have htal : (l.take (i + 1)).foldl add58 tl0 = add58 t d := by
            rw [HTT.out]
            exact tal_succ l i d HD.out
          have HRO : Aside0 (demesneref41_Of.f ((l.take (i + 1)).length + 1) (l.take (i + 1)) = some ((add58 t d).c, (add58 t d).e, (add58 t d).m, (add58 t d).l)) := ⟨by have h := refOf_is (l.take (i + 1)) (by have := List.length_take_le (i + 1) l; have := HLL.out; omega); rw [htal] at h; exact h⟩
          have HTS : Aside0 (tal (l.take (i + 1)) = add58 t d) := ⟨htal⟩
          have HM2 : Aside0 (∀ x ∈ l.take (i + 1), may x = true) := ⟨by
            intro x hx
            rw [List.take_add_one, HD.out] at hx
            rcases List.mem_append.1 hx with h | h
            · exact HM.out x h
            · simp at h; subst h; exact hmay⟩
          clear hi1 htal HTT HM
          generalize add58 t d = tt at *
          obtain ⟨i58, hi58⟩ := has58
          refine start_ (n := 8) (S := fun w' => w'.cell? ⟨g7, 0, none⟩ = some (.int .i64 tt.c) ∧ w'.cell? ⟨g7, 1, none⟩ = some (.int .i64 tt.e) ∧ w'.cell? ⟨g7, 2, none⟩ = some (.int .i64 tt.m) ∧ w'.cell? ⟨g7, 3, none⟩ = some (.int .i64 tt.l)) (ds := []) #[false, false, false, false, false, false, false, false] (by kernel_rfl) rfl rfl ⟨hz0, hz1, hz2, hz3⟩ (fun hHeld => ?_)
          refine pure_ (i := 1) (N := some 34) (v := ?_) (a' := ?_) #[false, true, false, false, false, false, false, false] rfl rfl (by kernel_rfl) (fun _ _ _ h => h) (Or.inl ⟨by rfl, ?_⟩) ?_ ?_
          rotate_left
          · intro w'
            go_simp
            with_reducible rfl
          rotate_left
          · simp only [Act.put, List.setIfInBounds_toArray, List.set_cons_zero, List.set_cons_succ, i64_w, i32_w]
            rfl
          refine pure_ (i := 2) (N := some 35) (v := ?_) (a' := ?_) #[false, true, true, false, false, false, false, false] rfl rfl (by kernel_rfl) (fun _ _ _ h => h) (Or.inl ⟨by rfl, ?_⟩) ?_ ?_
          rotate_left
          · intro w'
            go_simp
            with_reducible rfl
          rotate_left
          · simp only [Act.put, List.setIfInBounds_toArray, List.set_cons_zero, List.set_cons_succ, i64_w, i32_w]
            rfl
          refine pure_ (i := 3) (N := some 36) (v := ?_) (a' := ?_) #[false, true, true, true, false, false, false, false] rfl rfl (by kernel_rfl) (fun _ _ _ h => h) (Or.inl ⟨by rfl, ?_⟩) ?_ ?_
          rotate_left
          · intro w'
            go_simp
            with_reducible rfl
          rotate_left
          · simp only [Act.put, List.setIfInBounds_toArray, List.set_cons_zero, List.set_cons_succ, i64_w, i32_w]
            rfl
          refine take_ (i := 0) (N := some 33) (v := ?_) (a' := ?_) #[true, true, true, true, false, false, false, false] rfl rfl (by kernel_rfl) (fun _ _ _ h => h) (Or.inl ⟨by rfl, ?_⟩) hHeld ?_ ?_
          rotate_left
          · rintro w' ⟨s0, s1, s2, s3⟩
            go_simp
            with_reducible rfl
          rotate_left
          · simp only [Act.put, List.setIfInBounds_toArray, List.set_cons_zero, List.set_cons_succ, i64_w, i32_w]
            rfl
          refine one_ (i := 4) (N := some 37) #[true, true, true, true, true, false, false, false] rfl rfl (by kernel_rfl) (by decide) (fun K hK => ?_)
          refine value_ (w1 := w5.drew) (v := .slice (some ad) (l.take (i + 1)).length c0) (by rfl) rfl (slice_to_run rfl (n := l.length) rfl rfl Try.underlying41 HS4.out.1 HS4.out.2.1 HS4.out.2.2 HC0.out hi58) ?_
          refine hK.out _ _ ⟨hz0, hz1, hz2, hz3⟩ (fun hHeld => ?_)
          clear hK K
          refine norm_ (a' := ?_) ?_ ?_
          rotate_left
          · show Act.put _ (some 37) _ = _
            simp only [Act.put, List.setIfInBounds_toArray, List.set_cons_zero, List.set_cons_succ, i64_w, i32_w]
            rfl
          refine one_ (i := 5) (N := some 38) #[true, true, true, true, true, true, false, false] rfl rfl (by kernel_rfl) (by decide) (fun K hK => ?_)
          refine goes_ Try.func27 (by kernel_rfl) rfl #[.slice (some ad) (l.take (i + 1)).length c0] (by rfl) rfl rfl (by simp only [List.map_toArray, List.map_cons, List.map_nil]; rfl) ?_
          with_reducible refine (demesneref41_Of.calls ((l.take (i + 1)).length + 1) (some ad) c0 (l.take (i + 1)) tt.c tt.e tt.m tt.l _ (Kd.C_drew HCT.out) HC5.out HRO.out).mono ?_
          rintro e w6 ⟨rfl, hb6⟩
          refine ⟨_, rfl, ?_⟩
          have HB6 := Aside0.mk (show Below w5.heap.size w5 w6 from below_then (below_drew (Below.refl _ _)) (Nat.le_refl _) hb6)
          clear hb6
          refine hK.out _ _ ⟨(pw_cell_below HB6.out hz0), (pw_cell_below HB6.out hz1), (pw_cell_below HB6.out hz2), (pw_cell_below HB6.out hz3)⟩ (fun hHeld => ?_)
          clear hK K
          refine norm_ (a' := ?_) ?_ ?_
          rotate_left
          · show Act.put _ (some 38) _ = _
            simp only [Act.put, List.setIfInBounds_toArray, List.set_cons_zero, List.set_cons_succ, i64_w, i32_w]
            rfl
          refine one_ (i := 6) (N := some 39) #[true, true, true, true, true, true, true, false] rfl rfl (by kernel_rfl) (by decide) (fun K hK => ?_)
          refine goes_ Try.func26 (by kernel_rfl) rfl #[.agg #[.int .i64 tt.c, .int .i64 tt.e, .int .i64 tt.m, .int .i64 tt.l]] (by rfl) rfl rfl (by simp only [List.map_toArray, List.map_cons, List.map_nil]; rfl) ?_
          with_reducible refine (demesnelaw41_tally.calls tt.c tt.e tt.m tt.l tt.c tt.e tt.m tt.l _ rfl).mono ?_
          rintro e w7 ⟨rfl, hb7⟩
          refine ⟨_, rfl, ?_⟩
          have HB7 := Aside0.mk (below_then HB6.out HB6.out.size hb7)
          clear hb7 HB6
          refine hK.out _ _ ⟨(pw_cell_below HB7.out hz0), (pw_cell_below HB7.out hz1), (pw_cell_below HB7.out hz2), (pw_cell_below HB7.out hz3)⟩ (fun hHeld => ?_)
          clear hK K
          refine norm_ (a' := ?_) ?_ ?_
          rotate_left
          · show Act.put _ (some 39) _ = _
            simp only [Act.put, List.setIfInBounds_toArray, List.set_cons_zero, List.set_cons_succ, i64_w, i32_w]
            rfl
          refine pure_ (i := 7) (N := some 40) (v := ?_) (a' := ?_) #[true, true, true, true, true, true, true, true] rfl rfl (by kernel_rfl) (fun _ _ _ h => h) (Or.inl ⟨by rfl, ?_⟩) ?_ ?_
          rotate_left
          · intro w'
            go_simp
            with_reducible rfl
          rotate_left
          · simp only [Act.put, List.setIfInBounds_toArray, List.set_cons_zero, List.set_cons_succ, i64_w, i32_w]
            rfl
          refine done_ (by kernel_rfl) ?_
          go_wp2_with fail
          have HT7 := Aside0.mk (HT5.out.below HB7.out)
          have HB8 := Aside0.mk (below_then HB5.out HB5.out.size HB7.out)
          go_roundg k1
          case measure => have := HI.out; omega
          case rel =>
            refine ⟨i + 1, by have := HI.out; rw [wrap_in (by omega) (by omega)]; rfl, by have := HI.out; omega, ⟨?_⟩, HM2, HB8⟩
            rw [HTS.out]
            exact HT7.out
end Go.Proofs.Ytgojfecpknonlaa.St
