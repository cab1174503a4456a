/- The walk of the law StatsSum: behind the three stats. (Printed by wip/tools/sts.py.) -/
import Derived.Test.YtgojfecpknonlaaStS
namespace Go.Proofs.Ytgojfecpknonlaa.St
open Go.RowKit Go.Proofs.YtgojfecpknonlaaW.PrintWords Go.Proofs.YtgojfecpknonlaaW.PrintLast Go.Proofs.YtgojfecpknonlaaW.PrintMore
open Go.Proofs.Ytgojfecpknonlaa.Own Go.Proofs.Ytgojfecpknonlaa.PSt
set_option linter.unusedVariables false
set_option linter.unusedSimpArgs false

theorem cells4 {W : World} {g : Nat} {ts : List Tl} {bs : List Int} {p : Int} (h : Holds W g 48 (scells ts bs p)) (k o : Nat) (ho : o = 4 * k) (hk : k < ts.length) :
    W.cell? ⟨g, o, none⟩ = some (.int .i64 (ts.getD k tl0).c) ∧ W.cell? ⟨g, o + 1, none⟩ = some (.int .i64 (ts.getD k tl0).e) ∧ W.cell? ⟨g, o + 2, none⟩ = some (.int .i64 (ts.getD k tl0).m) ∧ W.cell? ⟨g, o + 3, none⟩ = some (.int .i64 (ts.getD k tl0).l) := by
  have hs := scells_at ts bs p k _ (getD_some ts k tl0 hk)
  rw [← ho] at hs
  have at_ : ∀ j, j < 4 → (scells ts bs p)[o + j]? = (ts.getD k tl0).vals[j]? := fun j hj => by
    rw [← hs, List.getElem?_take, if_pos hj, List.getElem?_drop]
  exact ⟨(h.cell o).trans (at_ 0 (by omega)), (h.cell (o + 1)).trans (at_ 1 (by omega)), (h.cell (o + 2)).trans (at_ 2 (by omega)), (h.cell (o + 3)).trans (at_ 3 (by omega))⟩

set_option maxHeartbeats 4000000 in
set_option maxRecDepth 100000 in
theorem sum_good (e2 : Int) (l m : List S58) (L M X : List S72) (hX : L ++ M = X) (kl km : Nat) (hkl : demesnelaw36_Of.f kl l = some L) (hkm : demesnelaw36_Of.f km m = some M) (hl60 : l.length ≤ 60) (hm60 : m.length ≤ 60) (hL60 : L.length ≤ 60) (hM60 : M.length ≤ 60)
    (ca cb cc : List Value) (la : ca.length = 338) (lb : cb.length = 338) (lc : cc.length = 338) (oa : ca.toArray.all (·.oneCell') = true) (ob : cb.toArray.all (·.oneCell') = true) (oc : cc.toArray.all (·.oneCell') = true)
    (hA : OfIs L ca 0) (hB : OfIs M cb 0) (hC : OfIs X cc 0)
    (ta tb tc : List Tl) (ba bb bc : List Int) (pa pb pc nn : Int) (D1 X1 D2 D3 : Nat → Int) (hS : Aside0 (Sum ta tb tc ba bb bc pa pb pc nn D1 X1 D2 D3)) (hnn : Aside0 (nn = wrap64 ((l.length : Int) + (m.length : Int)))) (hea : Aside0 (ca = scells ta ba pa)) (heb : Aside0 (cb = scells tb bb pb)) (hec : Aside0 (cc = scells tc bc pc))
    (A0 A1 : Option Addr) (c0 c1 : Nat) (w : World) (hr0 : Kd.C k58 w A0 l.length l) (hc0 : l.length ≤ c0) (hr1 : Kd.C k58 w A1 m.length m) (hc1 : m.length ≤ c1) :
    Calls Try.prog 7 #[.slice A0 l.length c0, .slice A1 m.length c1] w fun e w' => (e = .returned (.bool true) ∧ Below w.heap.size w w') := by
  have HR0 := Aside0.mk hr0
  have HR1 := Aside0.mk hr1
  have HC0 := Aside0.mk hc0
  have HC1 := Aside0.mk hc1
  have HKL := Aside0.mk hkl
  have HKM := Aside0.mk hkm
  have HA := Aside0.mk hA
  have HX := Aside0.mk hX
  have HB := Aside0.mk hB
  have HC := Aside0.mk hC
  have LA := Aside0.mk la
  have LB := Aside0.mk lb
  have LC := Aside0.mk lc
  have OA := Aside0.mk oa
  have OB := Aside0.mk ob
  have OC := Aside0.mk oc
  have HN := Aside0.mk (And.intro hL60 hM60)
  have t1 : decide ((60 : Int) < (l.length : Int)) = false := decide_eq_false (by omega)
  have t2 : decide (60 < l.length) = false := decide_eq_false (by omega)
  have t3 : decide ((60 : Int) < (m.length : Int)) = false := decide_eq_false (by omega)
  have t4 : decide (60 < m.length) = false := decide_eq_false (by omega)
  clear hX hr0 hr1 hc0 hc1 hkl hkm hA hB hC la lb lc oa ob oc hl60 hm60 hL60 hM60
  go_enter Try.func7, Try.ntmps7
  go_wp2_with (first
    | (go_at_call 22; refine (demesnelaw36_Of.calls kl A0 c0 l L _ HR0.out HC0.out HKL.out).mono ?_; rintro e w1 ⟨v1, rfl, hv1, hb1⟩; obtain ⟨A2, c2, rfl, hc2, hC2⟩ := Kd.R_reads hv1; have HC2 := Aside0.mk hC2; have HB1 := Aside0.mk hb1; clear hv1 hC2 hb1)
    | (go_at_call 21; refine (HA.out A2 c2 _ HC2.out hc2).mono ?_; rintro e w2 ⟨rfl, hb2⟩; have HB2 := Aside0.mk (below_then HB1.out HB1.out.size hb2); clear hb2 HC2 HB1 hc2)
    | ((with_reducible refine gate_dst (N := 5) rfl ?_); refine alloc_event rfl (t := 48) rfl info48 ?_; intro g5 hg5 w3 hh3 hb3; have HG5 := Aside0.mk hg5; have HH3 := Aside0.mk hh3; have HB3 := Aside0.mk (below_then HB2.out HB2.out.size hb3); clear hg5 hh3 hb3)
    | ((with_reducible refine gate_store (t := 48) (p := 5) rfl ?_); refine store_agg_event rfl (ty := 48) rfl rfl (g := g5) (off := 0) (vs := ca.toArray) rfl rfl HH3.out (fitA LA.out) (sizeA LA.out) OA.out ?_; intro w4 hh4 hs4; rw [wholeA LA.out] at hh4; have HA4 := Aside0.mk hh4; have HB4 := Aside0.mk (hs4.below HB3.out (by rw [HG5.out]; exact HB2.out.size)); clear hh4 hs4 HH3 HB3 HB2 HG5; refine Aside0.out ?_))
  refine ⟨?_⟩
  go_wp2_with (first
    | (go_at_call 22; refine (demesnelaw36_Of.calls km A1 c1 m M _ (Kd.C_below HR1.out HB4.out) HC1.out HKM.out).mono ?_; rintro e w5 ⟨v5, rfl, hv5, hb5⟩; obtain ⟨A3, c3, rfl, hc3, hC3⟩ := Kd.R_reads hv5; have HC3 := Aside0.mk hC3; have HA5 := Aside0.mk (HA4.out.below hb5); have HB5 := Aside0.mk (below_then HB4.out HB4.out.size hb5); clear hv5 hC3 hb5 HA4 HB4)
    | (go_at_call 21; refine (HB.out A3 c3 _ HC3.out hc3).mono ?_; rintro e w6 ⟨rfl, hb6⟩; have HA6 := Aside0.mk (HA5.out.below hb6); have HB6 := Aside0.mk (below_then HB5.out HB5.out.size hb6); clear hb6 HC3 HB5 HA5 hc3)
    | ((with_reducible refine gate_dst (N := 7) rfl ?_); refine alloc_event rfl (t := 48) rfl info48 ?_; intro g7 hg7 w7 hh7 hb7; have HG7 := Aside0.mk hg7; have HH7 := Aside0.mk hh7; have HA7 := Aside0.mk (HA6.out.below hb7); have HB7 := Aside0.mk (below_then HB6.out HB6.out.size hb7); clear hg7 hh7 hb7)
    | ((with_reducible refine gate_store (t := 48) (p := 7) rfl ?_); refine store_agg_event rfl (ty := 48) rfl rfl (g := g7) (off := 0) (vs := cb.toArray) rfl rfl HH7.out (fitA LB.out) (sizeA LB.out) OB.out ?_; intro w8 hh8 hs8; rw [wholeA LB.out] at hh8; have HD8 := Aside0.mk hh8; have HA8 := Aside0.mk (hs8.holds HA7.out (by rw [HG7.out]; exact Nat.ne_of_lt HA6.out.lt)); have HB8 := Aside0.mk (hs8.below HB7.out (by rw [HG7.out]; exact HB6.out.size)); clear hh8 hs8 HH7 HB7 HB6 HG7 HA6 HA7; refine Aside0.out ?_))
  refine ⟨?_⟩
  go_wp2_with (first
    | (go_at_call 22; refine (demesnelaw36_Of.calls km A1 c1 m M _ (Kd.C_below HR1.out HB9.out) HC1.out HKM.out).mono ?_; rintro e wa ⟨va, rfl, hva, hba⟩; obtain ⟨A4, c4, rfl, hc4, hC4⟩ := Kd.R_reads hva; have HCa := Aside0.mk hC4; have HVa := Aside0.mk (Kd.R_below HV9.out hba); have HXa := Aside0.mk (below_then HX9.out HX9.out.size hba); clear hva hC4 hba HV9 HX9 HB9)
    | (go_at_call 22; refine (demesnelaw36_Of.calls kl A0 c0 l L _ (Kd.C_below HR0.out HB8.out) HC0.out HKL.out).mono ?_; rintro e w9 ⟨v9, rfl, hv9, hb9⟩; have HV9 := Aside0.mk hv9; have HX9 := Aside0.mk hb9; have HB9 := Aside0.mk (below_then HB8.out HB8.out.size hb9); clear hv9 hb9)
    | ((with_reducible refine gate_dst (N := 45) rfl ?_); at_builtin; refine R_append_row k72 (w0 := w8) w8.heap.size rfl (.tmp 42) (.tmp 44) 51 72 (.agg #[.int .u8 0, .int .u8 0, .int .u8 0, .int .u8 0, .int .u8 0, .int .i64 0, .int .i64 0, .int .u64 0, .int .i64 0, .int .i64 0, .int .i64 0]) 56 rfl Try.underlying51 info72b z72a z72b (by decide) v9 L M A4 M.length c4 (fun _ => True) rfl rfl (fun W1 ok' q cs h => flat72 W1 ok' q cs h) (fun _ _ => trivial) HVa.out HCa.out HXa.out HXa.out.size (by have := HN.out; omega) ?_; intro vb wb hob hbb hgb hatb; rw [HX.out] at hob; obtain ⟨A5, c5, rfl, hc5, hC5⟩ := Kd.R_reads hob; have HC5 := Aside0.mk hC5; have HAb := Aside0.mk (HA8.out.below hbb); have HDb := Aside0.mk (HD8.out.below hbb); have HBb := Aside0.mk (below_then HB8.out HB8.out.size hbb); clear hob hbb hgb hatb hC5 HVa HCa HXa hc4)
    | (go_at_call 21; refine (HC.out A5 c5 _ HC5.out hc5).mono ?_; rintro e wd ⟨rfl, hbd⟩; have HAd := Aside0.mk (HAb.out.below hbd); have HDd := Aside0.mk (HDb.out.below hbd); have HBd := Aside0.mk (below_then HBb.out HBb.out.size hbd); clear hbd HC5 HAb HDb HBb HA8 HD8 HB8 hc5)
    | ((with_reducible refine gate_dst (N := 9) rfl ?_); refine alloc_event rfl (t := 48) rfl info48 ?_; intro g9 hg9 we hhe hbe; have HG9 := Aside0.mk hg9; have HHe := Aside0.mk hhe; have HAe := Aside0.mk (HAd.out.below hbe); have HDe := Aside0.mk (HDd.out.below hbe); have HBe := Aside0.mk (below_then HBd.out HBd.out.size hbe); clear hg9 hhe hbe)
    | ((with_reducible refine gate_store (t := 48) (p := 9) rfl ?_); refine store_agg_event rfl (ty := 48) rfl rfl (g := g9) (off := 0) (vs := cc.toArray) rfl rfl HHe.out (fitA LC.out) (sizeA LC.out) OC.out ?_; intro wf hhf hsf; rw [wholeA LC.out] at hhf; have HEf := Aside0.mk hhf; have HAf := Aside0.mk (hsf.holds HAe.out (by rw [HG9.out]; exact Nat.ne_of_lt HAd.out.lt)); have HDf := Aside0.mk (hsf.holds HDe.out (by rw [HG9.out]; exact Nat.ne_of_lt HDd.out.lt)); have HBf := Aside0.mk (hsf.below HBe.out (by rw [HG9.out]; exact HBd.out.size)); clear hhf hsf HHe HAe HDe HBe HAd HDd HBd HG9; refine Aside0.out ?_))
  refine ⟨?_⟩
  clear HA HB HC LA LB LC OA OB OC HKL HKM HR0 HR1 HC0 HC1
  obtain ⟨hnn⟩ := hnn
  obtain ⟨hea⟩ := hea
  obtain ⟨heb⟩ := heb
  obtain ⟨hec⟩ := hec
  subst hnn hea heb hec
  have HS := hS
  clear hS
  have HZ := Aside0.mk HS.out.d10
  have HZ2 := Aside0.mk HS.out.x10
  have HZ3 := Aside0.mk HS.out.d20
  have HZ4 := Aside0.mk HS.out.d30
  go_wp2_with fail
  go_loopg [11, 14, 15] 14 (fun kq v11 v14 v15 w' => ∃ i : Nat, v15 = .int .i64 i ∧ v11 = .int .i64 (D1 i) ∧ v14 = .int .i64 (X1 i) ∧ i + kq = 14 ∧ Aside0 (Below wf.heap.size wf w'))
  case atStart => exact ⟨0, rfl, by rw [HZ.out], by rw [HZ2.out], by omega, ⟨Below.refl _ _⟩⟩
  case round =>
    obtain ⟨i, rfl, rfl, rfl, hi, HW⟩ := hrel
    cases gk with
    | succ k1 =>
      as_aux_lemma =>
        have hi14 : i < 14 := by omega
        have q1 : (i : Int) < 14 := by omega
        have q0 : (0 : Int) ≤ (i : Int) := by omega
        have c1 : decide ((i : Int) < 14) = true := decide_eq_true q1
        have HI := Aside0.mk hi
        have HBO := Aside0.mk (HS.out.both (1 + i) (by omega))
        obtain ⟨hc0, hc1, hc2, hc3⟩ := cells4 (HEf.out.below HW.out) (1 + i) (4 + i * 4) (by omega) (by rw [HS.out.lc]; omega)
        obtain ⟨ha0, ha1, ha2, ha3⟩ := cells4 (HAf.out.below HW.out) (1 + i) (4 + i * 4) (by omega) (by rw [HS.out.la]; omega)
        obtain ⟨hb0, hb1, hb2, hb3⟩ := cells4 (HDf.out.below HW.out) (1 + i) (4 + i * 4) (by omega) (by rw [HS.out.lb]; omega)
        have HD1 := Aside0.mk (HS.out.d1 i hi14)
        have HX1 := Aside0.mk (HS.out.x1 i hi14)
        generalize tc.getD (1 + i) tl0 = x at *
        generalize ta.getD (1 + i) tl0 = y at *
        generalize tb.getD (1 + i) tl0 = z at *
        clear hi hi14
        go_wp2_with fail
        go_region_held3 (fun w' => w'.cell? ⟨g9, 4 + i * 4, none⟩ = some (.int .i64 x.c) ∧ w'.cell? ⟨g9, 4 + i * 4 + 1, none⟩ = some (.int .i64 x.e) ∧ w'.cell? ⟨g9, 4 + i * 4 + 2, none⟩ = some (.int .i64 x.m) ∧ w'.cell? ⟨g9, 4 + i * 4 + 3, none⟩ = some (.int .i64 x.l) ∧ w'.cell? ⟨g5, 4 + i * 4, none⟩ = some (.int .i64 y.c) ∧ w'.cell? ⟨g5, 4 + i * 4 + 1, none⟩ = some (.int .i64 y.e) ∧ w'.cell? ⟨g5, 4 + i * 4 + 2, none⟩ = some (.int .i64 y.m) ∧ w'.cell? ⟨g5, 4 + i * 4 + 3, none⟩ = some (.int .i64 y.l) ∧ w'.cell? ⟨g7, 4 + i * 4, none⟩ = some (.int .i64 z.c) ∧ w'.cell? ⟨g7, 4 + i * 4 + 1, none⟩ = some (.int .i64 z.e) ∧ w'.cell? ⟨g7, 4 + i * 4 + 2, none⟩ = some (.int .i64 z.m) ∧ w'.cell? ⟨g7, 4 + i * 4 + 3, none⟩ = some (.int .i64 z.l)) (go_keep)
          (first | (go_at_call 34; refine (demesnelaw41_both.calls _ _ _ _ _ _ _ _ _ _ _ _ _ HBO.out).mono ?_; rintro e w8 ⟨rfl, hb8⟩; have hd0 := pw_cell_below hb8 hc0; have hd1 := pw_cell_below hb8 hc1; have hd2 := pw_cell_below hb8 hc2; have hd3 := pw_cell_below hb8 hc3; have he0 := pw_cell_below hb8 ha0; have he1 := pw_cell_below hb8 ha1; have he2 := pw_cell_below hb8 ha2; have he3 := pw_cell_below hb8 ha3; have hf0 := pw_cell_below hb8 hb0; have hf1 := pw_cell_below hb8 hb1; have hf2 := pw_cell_below hb8 hb2; have hf3 := pw_cell_below hb8 hb3))
        go_wp2_with fail
        have HW8 := Aside0.mk (below_then (below_drew HW.out) HW.out.size hb8)
        go_roundg k1
        case measure => have := HI.out; omega
        case rel => exact ⟨i + 1, rfl, by rw [HD1.out], by rw [HX1.out], by have := HI.out; omega, HW8⟩
    | zero =>
      as_aux_lemma =>
        obtain rfl : i = 14 := by omega
        clear hi
        rw [HS.out.d1n, HS.out.x1n]
        go_wp2_with fail
        go_loopg [12, 16] 65 (fun kq v12 v16 w' => ∃ i : Nat, v16 = .int .i64 i ∧ v12 = .int .i64 (D2 i) ∧ i + kq = 65 ∧ Aside0 (Below wf.heap.size wf w'))
        case atStart => exact ⟨0, rfl, by rw [HZ3.out], by omega, HW⟩
        case round =>
          clear HW
          obtain ⟨i, rfl, rfl, hi, HW⟩ := hrel
          cases gk with
          | succ k1 =>
            as_aux_lemma =>
              have hi14 : i < 65 := by omega
              have q1 : (i : Int) < 65 := by omega
              have q0 : (0 : Int) ≤ (i : Int) := by omega
              have c1 : decide ((i : Int) < 65) = true := decide_eq_true q1
              have HI := Aside0.mk hi
              have HBO := Aside0.mk (HS.out.both (15 + i) (by omega))
              obtain ⟨hc0, hc1, hc2, hc3⟩ := cells4 (HEf.out.below HW.out) (15 + i) (60 + i * 4) (by omega) (by rw [HS.out.lc]; omega)
              obtain ⟨ha0, ha1, ha2, ha3⟩ := cells4 (HAf.out.below HW.out) (15 + i) (60 + i * 4) (by omega) (by rw [HS.out.la]; omega)
              obtain ⟨hb0, hb1, hb2, hb3⟩ := cells4 (HDf.out.below HW.out) (15 + i) (60 + i * 4) (by omega) (by rw [HS.out.lb]; omega)
              obtain ⟨_, _, _, hr3⟩ := cells4 (HEf.out.below HW.out) 0 0 (by omega) (by rw [HS.out.lc]; omega)
              have HD1 := Aside0.mk (HS.out.d2 i hi14)
              have hlow : decide ((tc.getD 0 tl0).l < (tc.getD (15 + i) tl0).l) = false := decide_eq_false (by have := HS.out.low i hi14; omega)
              generalize tc.getD (15 + i) tl0 = x at *
              generalize ta.getD (15 + i) tl0 = y at *
              generalize tb.getD (15 + i) tl0 = z at *
              generalize tc.getD 0 tl0 = r at *
              clear hi hi14
              replace hr3 : wr.cell? ⟨g9, 3, none⟩ = some (.int .i64 r.l) := hr3
              go_wp2_with fail
              refine start_ (n := 25) (S := fun w' => w'.cell? ⟨g9, 60 + i * 4, none⟩ = some (.int .i64 x.c) ∧ w'.cell? ⟨g9, 60 + i * 4 + 1, none⟩ = some (.int .i64 x.e) ∧ w'.cell? ⟨g9, 60 + i * 4 + 2, none⟩ = some (.int .i64 x.m) ∧ w'.cell? ⟨g9, 60 + i * 4 + 3, none⟩ = some (.int .i64 x.l) ∧ w'.cell? ⟨g5, 60 + i * 4, none⟩ = some (.int .i64 y.c) ∧ w'.cell? ⟨g5, 60 + i * 4 + 1, none⟩ = some (.int .i64 y.e) ∧ w'.cell? ⟨g5, 60 + i * 4 + 2, none⟩ = some (.int .i64 y.m) ∧ w'.cell? ⟨g5, 60 + i * 4 + 3, none⟩ = some (.int .i64 y.l) ∧ w'.cell? ⟨g7, 60 + i * 4, none⟩ = some (.int .i64 z.c) ∧ w'.cell? ⟨g7, 60 + i * 4 + 1, none⟩ = some (.int .i64 z.e) ∧ w'.cell? ⟨g7, 60 + i * 4 + 2, none⟩ = some (.int .i64 z.m) ∧ w'.cell? ⟨g7, 60 + i * 4 + 3, none⟩ = some (.int .i64 z.l) ∧ w'.cell? ⟨g9, 3, none⟩ = some (.int .i64 r.l)) (ds := []) #[false, false, false, false, false, false, false, false, false, false, false, false, false, false, false, false, false, false, false, false, false, false, false, false, false] (by kernel_rfl) rfl rfl ⟨hc0, hc1, hc2, hc3, ha0, ha1, ha2, ha3, hb0, hb1, hb2, hb3, hr3⟩ (fun hHeld => ?_)
              refine pure_ (i := 0) (N := some 103) (v := ?_) (a' := ?_) #[true, false, false, false, false, false, false, false, false, false, false, false, false, false, false, false, false, false, false, false, false, false, false, false, false] rfl rfl (by kernel_rfl) (fun _ _ _ h => h) (Or.inl ⟨by rfl, ?_⟩) ?_ ?_
              rotate_left
              · intro w'
                go_simp
                with_reducible rfl
              rotate_left
              · simp only [Act.put, List.setIfInBounds_toArray, List.set_cons_zero, List.set_cons_succ, i64_w, i32_w]
                rfl
              refine pure_ (i := 1) (N := some 104) (v := ?_) (a' := ?_) #[true, true, false, false, false, false, false, false, false, false, false, false, false, false, false, false, false, false, false, false, false, false, false, false, false] rfl rfl (by kernel_rfl) (fun _ _ _ h => h) (Or.inl ⟨by rfl, ?_⟩) ?_ ?_
              rotate_left
              · intro w'
                go_simp
                with_reducible rfl
              rotate_left
              · simp only [Act.put, List.setIfInBounds_toArray, List.set_cons_zero, List.set_cons_succ, i64_w, i32_w]
                rfl
              refine pure_ (i := 2) (N := some 105) (v := ?_) (a' := ?_) #[true, true, true, false, false, false, false, false, false, false, false, false, false, false, false, false, false, false, false, false, false, false, false, false, false] rfl rfl (by kernel_rfl) (fun _ _ _ h => h) (Or.inl ⟨by rfl, ?_⟩) ?_ ?_
              rotate_left
              · intro w'
                go_simp
                with_reducible rfl
              rotate_left
              · simp only [Act.put, List.setIfInBounds_toArray, List.set_cons_zero, List.set_cons_succ, i64_w, i32_w]
                rfl
              refine pure_ (i := 3) (N := some 106) (v := ?_) (a' := ?_) #[true, true, true, true, false, false, false, false, false, false, false, false, false, false, false, false, false, false, false, false, false, false, false, false, false] rfl rfl (by kernel_rfl) (fun _ _ _ h => h) (Or.inl ⟨by rfl, ?_⟩) ?_ ?_
              rotate_left
              · intro w'
                go_simp
                with_reducible rfl
              rotate_left
              · simp only [Act.put, List.setIfInBounds_toArray, List.set_cons_zero, List.set_cons_succ, i64_w, i32_w]
                rfl
              refine pure_ (i := 5) (N := some 108) (v := ?_) (a' := ?_) #[true, true, true, true, false, true, false, false, false, false, false, false, false, false, false, false, false, false, false, false, false, false, false, false, false] rfl rfl (by kernel_rfl) (fun _ _ _ h => h) (Or.inl ⟨by rfl, ?_⟩) ?_ ?_
              rotate_left
              · intro w'
                go_simp
                with_reducible rfl
              rotate_left
              · simp only [Act.put, List.setIfInBounds_toArray, List.set_cons_zero, List.set_cons_succ, i64_w, i32_w]
                rfl
              refine pure_ (i := 6) (N := some 109) (v := ?_) (a' := ?_) #[true, true, true, true, false, true, true, false, false, false, false, false, false, false, false, false, false, false, false, false, false, false, false, false, false] rfl rfl (by kernel_rfl) (fun _ _ _ h => h) (Or.inl ⟨by rfl, ?_⟩) ?_ ?_
              rotate_left
              · intro w'
                go_simp
                with_reducible rfl
              rotate_left
              · simp only [Act.put, List.setIfInBounds_toArray, List.set_cons_zero, List.set_cons_succ, i64_w, i32_w]
                rfl
              refine take_ (i := 4) (N := some 107) (v := ?_) (a' := ?_) #[true, true, true, true, true, true, true, false, false, false, false, false, false, false, false, false, false, false, false, false, false, false, false, false, false] rfl rfl (by kernel_rfl) (fun _ _ _ h => h) (Or.inl ⟨by rfl, ?_⟩) hHeld ?_ ?_
              rotate_left
              · rintro w' ⟨s0, s1, s2, s3, s4, s5, s6, s7, s8, s9, s10, s11, s12⟩
                go_simp
                with_reducible rfl
              rotate_left
              · simp only [Act.put, List.setIfInBounds_toArray, List.set_cons_zero, List.set_cons_succ, i64_w, i32_w]
                rfl
              refine take_ (i := 7) (N := some 110) (v := ?_) (a' := ?_) #[true, true, true, true, true, true, true, true, false, false, false, false, false, false, false, false, false, false, false, false, false, false, false, false, false] rfl rfl (by kernel_rfl) (fun _ _ _ h => h) (Or.inl ⟨by rfl, ?_⟩) hHeld ?_ ?_
              rotate_left
              · rintro w' ⟨s0, s1, s2, s3, s4, s5, s6, s7, s8, s9, s10, s11, s12⟩
                go_simp
                with_reducible rfl
              rotate_left
              · simp only [Act.put, List.setIfInBounds_toArray, List.set_cons_zero, List.set_cons_succ, i64_w, i32_w]
                rfl
              refine pure_ (i := 8) (N := some 111) (v := ?_) (a' := ?_) #[true, true, true, true, true, true, true, true, true, false, false, false, false, false, false, false, false, false, false, false, false, false, false, false, false] rfl rfl (by kernel_rfl) (fun _ _ _ h => h) (Or.inl ⟨by rfl, ?_⟩) ?_ ?_
              rotate_left
              · intro w'
                go_simp
                with_reducible rfl
              rotate_left
              · simp only [Act.put, List.setIfInBounds_toArray, List.set_cons_zero, List.set_cons_succ, i64_w, i32_w]
                rfl
              refine pure_ (i := 9) (N := some 112) (v := ?_) (a' := ?_) #[true, true, true, true, true, true, true, true, true, true, false, false, false, false, false, false, false, false, false, false, false, false, false, false, false] rfl rfl (by kernel_rfl) (fun _ _ _ h => h) (Or.inl ⟨by rfl, ?_⟩) ?_ ?_
              rotate_left
              · intro w'
                go_simp
                with_reducible rfl
              rotate_left
              · simp only [Act.put, List.setIfInBounds_toArray, List.set_cons_zero, List.set_cons_succ, i64_w, i32_w]
                rfl
              refine pure_ (i := 10) (N := some 113) (v := ?_) (a' := ?_) #[true, true, true, true, true, true, true, true, true, true, true, false, false, false, false, false, false, false, false, false, false, false, false, false, false] rfl rfl (by kernel_rfl) (fun _ _ _ h => h) (Or.inl ⟨by rfl, ?_⟩) ?_ ?_
              rotate_left
              · intro w'
                go_simp
                with_reducible rfl
              rotate_left
              · simp only [Act.put, List.setIfInBounds_toArray, List.set_cons_zero, List.set_cons_succ, i64_w, i32_w]
                rfl
              refine pure_ (i := 11) (N := some 114) (v := ?_) (a' := ?_) #[true, true, true, true, true, true, true, true, true, true, true, true, false, false, false, false, false, false, false, false, false, false, false, false, false] rfl rfl (by kernel_rfl) (fun _ _ _ h => h) (Or.inl ⟨by rfl, ?_⟩) ?_ ?_
              rotate_left
              · intro w'
                go_simp
                with_reducible rfl
              rotate_left
              · simp only [Act.put, List.setIfInBounds_toArray, List.set_cons_zero, List.set_cons_succ, i64_w, i32_w]
                rfl
              refine pure_ (i := 12) (N := some 115) (v := ?_) (a' := ?_) #[true, true, true, true, true, true, true, true, true, true, true, true, true, false, false, false, false, false, false, false, false, false, false, false, false] rfl rfl (by kernel_rfl) (fun _ _ _ h => h) (Or.inl ⟨by rfl, ?_⟩) ?_ ?_
              rotate_left
              · intro w'
                go_simp
                with_reducible rfl
              rotate_left
              · simp only [Act.put, List.setIfInBounds_toArray, List.set_cons_zero, List.set_cons_succ, i64_w, i32_w]
                rfl
              refine pure_ (i := 14) (N := some 117) (v := ?_) (a' := ?_) #[true, true, true, true, true, true, true, true, true, true, true, true, true, false, true, false, false, false, false, false, false, false, false, false, false] rfl rfl (by kernel_rfl) (fun _ _ _ h => h) (Or.inl ⟨by rfl, ?_⟩) ?_ ?_
              rotate_left
              · intro w'
                go_simp
                with_reducible rfl
              rotate_left
              · simp only [Act.put, List.setIfInBounds_toArray, List.set_cons_zero, List.set_cons_succ, i64_w, i32_w]
                rfl
              refine pure_ (i := 15) (N := some 118) (v := ?_) (a' := ?_) #[true, true, true, true, true, true, true, true, true, true, true, true, true, false, true, true, false, false, false, false, false, false, false, false, false] rfl rfl (by kernel_rfl) (fun _ _ _ h => h) (Or.inl ⟨by rfl, ?_⟩) ?_ ?_
              rotate_left
              · intro w'
                go_simp
                with_reducible rfl
              rotate_left
              · simp only [Act.put, List.setIfInBounds_toArray, List.set_cons_zero, List.set_cons_succ, i64_w, i32_w]
                rfl
              refine pure_ (i := 16) (N := some 119) (v := ?_) (a' := ?_) #[true, true, true, true, true, true, true, true, true, true, true, true, true, false, true, true, true, false, false, false, false, false, false, false, false] rfl rfl (by kernel_rfl) (fun _ _ _ h => h) (Or.inl ⟨by rfl, ?_⟩) ?_ ?_
              rotate_left
              · intro w'
                go_simp
                with_reducible rfl
              rotate_left
              · simp only [Act.put, List.setIfInBounds_toArray, List.set_cons_zero, List.set_cons_succ, i64_w, i32_w]
                rfl
              refine pure_ (i := 18) (N := some 121) (v := ?_) (a' := ?_) #[true, true, true, true, true, true, true, true, true, true, true, true, true, false, true, true, true, false, true, false, false, false, false, false, false] rfl rfl (by kernel_rfl) (fun _ _ _ h => h) (Or.inl ⟨by rfl, ?_⟩) ?_ ?_
              rotate_left
              · intro w'
                go_simp
                with_reducible rfl
              rotate_left
              · simp only [Act.put, List.setIfInBounds_toArray, List.set_cons_zero, List.set_cons_succ, i64_w, i32_w]
                rfl
              refine pure_ (i := 19) (N := some 122) (v := ?_) (a' := ?_) #[true, true, true, true, true, true, true, true, true, true, true, true, true, false, true, true, true, false, true, true, false, false, false, false, false] rfl rfl (by kernel_rfl) (fun _ _ _ h => h) (Or.inl ⟨by rfl, ?_⟩) ?_ ?_
              rotate_left
              · intro w'
                go_simp
                with_reducible rfl
              rotate_left
              · simp only [Act.put, List.setIfInBounds_toArray, List.set_cons_zero, List.set_cons_succ, i64_w, i32_w]
                rfl
              refine pure_ (i := 20) (N := some 123) (v := ?_) (a' := ?_) #[true, true, true, true, true, true, true, true, true, true, true, true, true, false, true, true, true, false, true, true, true, false, false, false, false] rfl rfl (by kernel_rfl) (fun _ _ _ h => h) (Or.inl ⟨by rfl, ?_⟩) ?_ ?_
              rotate_left
              · intro w'
                go_simp
                with_reducible rfl
              rotate_left
              · simp only [Act.put, List.setIfInBounds_toArray, List.set_cons_zero, List.set_cons_succ, i64_w, i32_w]
                rfl
              refine take_ (i := 13) (N := some 116) (v := ?_) (a' := ?_) #[true, true, true, true, true, true, true, true, true, true, true, true, true, true, true, true, true, false, true, true, true, false, false, false, false] rfl rfl (by kernel_rfl) (fun _ _ _ h => h) (Or.inl ⟨by rfl, ?_⟩) hHeld ?_ ?_
              rotate_left
              · rintro w' ⟨s0, s1, s2, s3, s4, s5, s6, s7, s8, s9, s10, s11, s12⟩
                go_simp
                with_reducible rfl
              rotate_left
              · simp only [Act.put, List.setIfInBounds_toArray, List.set_cons_zero, List.set_cons_succ, i64_w, i32_w]
                rfl
              refine take_ (i := 17) (N := some 120) (v := ?_) (a' := ?_) #[true, true, true, true, true, true, true, true, true, true, true, true, true, true, true, true, true, true, true, true, true, false, false, false, false] rfl rfl (by kernel_rfl) (fun _ _ _ h => h) (Or.inl ⟨by rfl, ?_⟩) hHeld ?_ ?_
              rotate_left
              · rintro w' ⟨s0, s1, s2, s3, s4, s5, s6, s7, s8, s9, s10, s11, s12⟩
                go_simp
                with_reducible rfl
              rotate_left
              · simp only [Act.put, List.setIfInBounds_toArray, List.set_cons_zero, List.set_cons_succ, i64_w, i32_w]
                rfl
              refine take_ (i := 21) (N := some 124) (v := ?_) (a' := ?_) #[true, true, true, true, true, true, true, true, true, true, true, true, true, true, true, true, true, true, true, true, true, true, false, false, false] rfl rfl (by kernel_rfl) (fun _ _ _ h => h) (Or.inl ⟨by rfl, ?_⟩) hHeld ?_ ?_
              rotate_left
              · rintro w' ⟨s0, s1, s2, s3, s4, s5, s6, s7, s8, s9, s10, s11, s12⟩
                go_simp
                with_reducible rfl
              rotate_left
              · simp only [Act.put, List.setIfInBounds_toArray, List.set_cons_zero, List.set_cons_succ, i64_w, i32_w]
                rfl
              refine one_ (i := 22) (N := some 125) #[true, true, true, true, true, true, true, true, true, true, true, true, true, true, true, true, true, true, true, true, true, true, true, false, false] rfl rfl (by kernel_rfl) (by decide) (fun K hK => ?_)
              refine goes_ Try.func34 (by kernel_rfl) rfl #[.agg #[.int .i64 y.c, .int .i64 y.e, .int .i64 y.m, .int .i64 y.l], .agg #[.int .i64 z.c, .int .i64 z.e, .int .i64 z.m, .int .i64 z.l]] (by rfl) rfl rfl (by simp only [List.map_toArray, List.map_cons, List.map_nil]; rfl) ?_
              with_reducible refine (demesnelaw41_both.calls y.c y.e y.m y.l z.c z.e z.m z.l x.c x.e x.m x.l _ HBO.out).mono ?_
              rintro e w8 ⟨rfl, hb8⟩
              refine ⟨_, rfl, ?_⟩
              have HB8 := Aside0.mk (show Below wr.heap.size wr w8 from below_then (below_drew (Below.refl _ _)) (Nat.le_refl _) hb8)
              clear hb8
              refine hK.out _ _ ⟨(pw_cell_below HB8.out hc0), (pw_cell_below HB8.out hc1), (pw_cell_below HB8.out hc2), (pw_cell_below HB8.out hc3), (pw_cell_below HB8.out ha0), (pw_cell_below HB8.out ha1), (pw_cell_below HB8.out ha2), (pw_cell_below HB8.out ha3), (pw_cell_below HB8.out hb0), (pw_cell_below HB8.out hb1), (pw_cell_below HB8.out hb2), (pw_cell_below HB8.out hb3), (pw_cell_below HB8.out hr3)⟩ (fun hHeld => ?_)
              clear hK K
              refine norm_ (a' := ?_) ?_ ?_
              rotate_left
              · show Act.put _ (some 125) _ = _
                simp only [Act.put, List.setIfInBounds_toArray, List.set_cons_zero, List.set_cons_succ, i64_w, i32_w]
                rfl
              refine pure_ (i := 23) (N := some 126) (v := ?_) (a' := ?_) #[true, true, true, true, true, true, true, true, true, true, true, true, true, true, true, true, true, true, true, true, true, true, true, true, false] rfl rfl (by kernel_rfl) (fun _ _ _ h => h) (Or.inl ⟨by rfl, ?_⟩) ?_ ?_
              rotate_left
              · intro w'
                go_simp
                with_reducible rfl
              rotate_left
              · simp only [Act.put, List.setIfInBounds_toArray, List.set_cons_zero, List.set_cons_succ, i64_w, i32_w]
                rfl
              refine pure_ (i := 24) (N := some 127) (v := ?_) (a' := ?_) #[true, true, true, true, true, true, true, true, true, true, true, true, true, true, true, true, true, true, true, true, true, true, true, true, true] rfl rfl (by kernel_rfl) (fun _ _ _ h => h) (Or.inl ⟨by rfl, ?_⟩) ?_ ?_
              rotate_left
              · intro w'
                go_simp
                with_reducible rfl
              rotate_left
              · simp only [Act.put, List.setIfInBounds_toArray, List.set_cons_zero, List.set_cons_succ, i64_w, i32_w]
                rfl
              refine done_ (by kernel_rfl) ?_
              go_wp2_with fail
              have HW8 := Aside0.mk (HW.out.trans (HB8.out.mono HW.out.size))
              go_roundg k1
              case measure => have := HI.out; omega
              case rel => exact ⟨i + 1, rfl, by rw [HD1.out], by have := HI.out; omega, HW8⟩
          | zero =>
            as_aux_lemma =>
              obtain rfl : i = 65 := by omega
              clear hi
              rw [HS.out.d2n]
              go_wp2_with fail
              go_loopg [13, 17] 17 (fun kq v13 v17 w' => ∃ i : Nat, v17 = .int .i64 i ∧ v13 = .int .i64 (D3 i) ∧ i + kq = 17 ∧ Aside0 (Below wf.heap.size wf w'))
              case atStart => exact ⟨0, rfl, by rw [HZ4.out], by omega, HW⟩
              case round =>
                clear HW
                obtain ⟨i, rfl, rfl, hi, HW⟩ := hrel
                cases gk with
                | succ k1 =>
                  as_aux_lemma =>
                    have hi14 : i < 17 := by omega
                    have q1 : (i : Int) < 17 := by omega
                    have q0 : (0 : Int) ≤ (i : Int) := by omega
                    have c1 : decide ((i : Int) < 17) = true := decide_eq_true q1
                    have HI := Aside0.mk hi
                    have hc0 : wr.cell? ⟨g9, 320 + i, none⟩ = some (.int .i64 (bc.getD i 0)) := ((HEf.out.below HW.out).cell (320 + i)).trans (getBk tc bc pc i HS.out.lc (by rw [HS.out.mc]; omega))
                    have ha0 : wr.cell? ⟨g5, 320 + i, none⟩ = some (.int .i64 (ba.getD i 0)) := ((HAf.out.below HW.out).cell (320 + i)).trans (getBk ta ba pa i HS.out.la (by rw [HS.out.ma]; omega))
                    have hb0 : wr.cell? ⟨g7, 320 + i, none⟩ = some (.int .i64 (bb.getD i 0)) := ((HDf.out.below HW.out).cell (320 + i)).trans (getBk tb bb pb i HS.out.lb (by rw [HS.out.mb]; omega))
                    have HD1 := Aside0.mk (HS.out.d3 i hi14)
                    have hbk := HS.out.bk i hi14
                    rw [hbk] at hc0 HD1
                    clear hbk
                    generalize ba.getD i 0 = y at *
                    generalize bb.getD i 0 = z at *
                    clear hi hi14
                    go_wp2_with fail
                    go_region_held3 (fun w' => w'.cell? ⟨g9, 320 + i, none⟩ = some (.int .i64 (wrap64 (y + z))) ∧ w'.cell? ⟨g5, 320 + i, none⟩ = some (.int .i64 y) ∧ w'.cell? ⟨g7, 320 + i, none⟩ = some (.int .i64 z)) (go_keep) (fail)
                    simp only [i64_w]
                    go_wp2_with fail
                    have HW8 := Aside0.mk (below_drew HW.out)
                    go_roundg k1
                    case measure => have := HI.out; omega
                    case rel => exact ⟨i + 1, rfl, by rw [HD1.out], by have := HI.out; omega, HW8⟩
                | zero =>
                  as_aux_lemma =>
                    obtain rfl : i = 17 := by omega
                    clear hi
                    rw [HS.out.d3n]
                    have HBO := Aside0.mk (HS.out.both 0 (by omega))
                    obtain ⟨hc0, hc1, hc2, hc3⟩ := cells4 (HEf.out.below HW.out) 0 0 (by omega) (by rw [HS.out.lc]; omega)
                    obtain ⟨ha0, ha1, ha2, ha3⟩ := cells4 (HAf.out.below HW.out) 0 0 (by omega) (by rw [HS.out.la]; omega)
                    obtain ⟨hb0, hb1, hb2, hb3⟩ := cells4 (HDf.out.below HW.out) 0 0 (by omega) (by rw [HS.out.lb]; omega)
                    have hcp : wr.cell? ⟨g9, 337, none⟩ = some (.int .i64 pc) := ((HEf.out.below HW.out).cell 337).trans (by have h := scells_peak tc bc pc; rw [HS.out.lc, HS.out.mc] at h; exact h)
                    have hap : wr.cell? ⟨g5, 337, none⟩ = some (.int .i64 pa) := ((HAf.out.below HW.out).cell 337).trans (by have h := scells_peak ta ba pa; rw [HS.out.la, HS.out.ma] at h; exact h)
                    have hbp : wr.cell? ⟨g7, 337, none⟩ = some (.int .i64 pb) := ((HDf.out.below HW.out).cell 337).trans (by have h := scells_peak tb bb pb; rw [HS.out.lb, HS.out.mb] at h; exact h)
                    have s1 : decide (max pa pb ≤ pc) = true := decide_eq_true HS.out.p1
                    have s2 : decide (pc ≤ wrap64 (pa + pb)) = true := decide_eq_true HS.out.p2
                    have hn0 := HS.out.n0
                    rw [hn0] at hc0
                    have HBO2 := Aside0.mk (by have h := HBO.out; rw [hn0] at h; exact h)
                    clear HBO hn0
                    clear HAf HDf HEf HS HZ HZ2 HZ3 HZ4 HN HX
                    generalize tc.getD 0 tl0 = x at *
                    generalize ta.getD 0 tl0 = y at *
                    generalize tb.getD 0 tl0 = z at *
                    replace hc0 : wr.cell? ⟨g9, 0, none⟩ = some (.int .i64 (wrap64 ((l.length : Int) + (m.length : Int)))) := hc0
                    replace hc1 : wr.cell? ⟨g9, 1, none⟩ = some (.int .i64 x.e) := hc1
                    replace hc2 : wr.cell? ⟨g9, 2, none⟩ = some (.int .i64 x.m) := hc2
                    replace hc3 : wr.cell? ⟨g9, 3, none⟩ = some (.int .i64 x.l) := hc3
                    replace ha0 : wr.cell? ⟨g5, 0, none⟩ = some (.int .i64 y.c) := ha0
                    replace ha1 : wr.cell? ⟨g5, 1, none⟩ = some (.int .i64 y.e) := ha1
                    replace ha2 : wr.cell? ⟨g5, 2, none⟩ = some (.int .i64 y.m) := ha2
                    replace ha3 : wr.cell? ⟨g5, 3, none⟩ = some (.int .i64 y.l) := ha3
                    replace hb0 : wr.cell? ⟨g7, 0, none⟩ = some (.int .i64 z.c) := hb0
                    replace hb1 : wr.cell? ⟨g7, 1, none⟩ = some (.int .i64 z.e) := hb1
                    replace hb2 : wr.cell? ⟨g7, 2, none⟩ = some (.int .i64 z.m) := hb2
                    replace hb3 : wr.cell? ⟨g7, 3, none⟩ = some (.int .i64 z.l) := hb3
                    go_wp2_with fail
                    generalize wrap64 ((l.length : Int) + (m.length : Int)) = n2 at *
                    refine start_ (n := 65) (S := fun w' => w'.cell? ⟨g9, 0, none⟩ = some (.int .i64 n2) ∧ w'.cell? ⟨g9, 1, none⟩ = some (.int .i64 x.e) ∧ w'.cell? ⟨g9, 2, none⟩ = some (.int .i64 x.m) ∧ w'.cell? ⟨g9, 3, none⟩ = some (.int .i64 x.l) ∧ w'.cell? ⟨g5, 0, none⟩ = some (.int .i64 y.c) ∧ w'.cell? ⟨g5, 1, none⟩ = some (.int .i64 y.e) ∧ w'.cell? ⟨g5, 2, none⟩ = some (.int .i64 y.m) ∧ w'.cell? ⟨g5, 3, none⟩ = some (.int .i64 y.l) ∧ w'.cell? ⟨g7, 0, none⟩ = some (.int .i64 z.c) ∧ w'.cell? ⟨g7, 1, none⟩ = some (.int .i64 z.e) ∧ w'.cell? ⟨g7, 2, none⟩ = some (.int .i64 z.m) ∧ w'.cell? ⟨g7, 3, none⟩ = some (.int .i64 z.l) ∧ w'.cell? ⟨g9, 337, none⟩ = some (.int .i64 pc) ∧ w'.cell? ⟨g5, 337, none⟩ = some (.int .i64 pa) ∧ w'.cell? ⟨g7, 337, none⟩ = some (.int .i64 pb)) (ds := []) #[false, false, false, false, false, false, false, false, false, false, false, false, false, false, false, false, false, false, false, false, false, false, false, false, false, false, false, false, false, false, false, false, false, false, false, false, false, false, false, false, false, false, false, false, false, false, false, false, false, false, false, false, false, false, false, false, false, false, false, false, false, false, false, false, false] (by kernel_rfl) rfl rfl ⟨hc0, hc1, hc2, hc3, ha0, ha1, ha2, ha3, hb0, hb1, hb2, hb3, hcp, hap, hbp⟩ (fun hHeld => ?_)
                    refine pure_ (i := 0) (N := some 157) (v := ?_) (a' := ?_) #[true, false, false, false, false, false, false, false, false, false, false, false, false, false, false, false, false, false, false, false, false, false, false, false, false, false, false, false, false, false, false, false, false, false, false, false, false, false, false, false, false, false, false, false, false, false, false, false, false, false, false, false, false, false, false, false, false, false, false, false, false, false, false, false, false] rfl rfl (by kernel_rfl) (fun _ _ _ h => h) (Or.inl ⟨by rfl, ?_⟩) ?_ ?_
                    rotate_left
                    · intro w'
                      go_simp
                      with_reducible rfl
                    rotate_left
                    · simp only [Act.put, List.setIfInBounds_toArray, List.set_cons_zero, List.set_cons_succ, i64_w, i32_w]
                      rfl
                    refine pure_ (i := 1) (N := some 158) (v := ?_) (a' := ?_) #[true, true, false, false, false, false, false, false, false, false, false, false, false, false, false, false, false, false, false, false, false, false, false, false, false, false, false, false, false, false, false, false, false, false, false, false, false, false, false, false, false, false, false, false, false, false, false, false, false, false, false, false, false, false, false, false, false, false, false, false, false, false, false, false, false] rfl rfl (by kernel_rfl) (fun _ _ _ h => h) (Or.inl ⟨by rfl, ?_⟩) ?_ ?_
                    rotate_left
                    · intro w'
                      go_simp
                      with_reducible rfl
                    rotate_left
                    · simp only [Act.put, List.setIfInBounds_toArray, List.set_cons_zero, List.set_cons_succ, i64_w, i32_w]
                      rfl
                    refine pure_ (i := 2) (N := some 159) (v := ?_) (a' := ?_) #[true, true, true, false, false, false, false, false, false, false, false, false, false, false, false, false, false, false, false, false, false, false, false, false, false, false, false, false, false, false, false, false, false, false, false, false, false, false, false, false, false, false, false, false, false, false, false, false, false, false, false, false, false, false, false, false, false, false, false, false, false, false, false, false, false] rfl rfl (by kernel_rfl) (fun _ _ _ h => h) (Or.inl ⟨by rfl, ?_⟩) ?_ ?_
                    rotate_left
                    · intro w'
                      go_simp
                      with_reducible rfl
                    rotate_left
                    · simp only [Act.put, List.setIfInBounds_toArray, List.set_cons_zero, List.set_cons_succ, i64_w, i32_w]
                      rfl
                    refine pure_ (i := 3) (N := some 160) (v := ?_) (a' := ?_) #[true, true, true, true, false, false, false, false, false, false, false, false, false, false, false, false, false, false, false, false, false, false, false, false, false, false, false, false, false, false, false, false, false, false, false, false, false, false, false, false, false, false, false, false, false, false, false, false, false, false, false, false, false, false, false, false, false, false, false, false, false, false, false, false, false] rfl rfl (by kernel_rfl) (fun _ _ _ h => h) (Or.inl ⟨by rfl, ?_⟩) ?_ ?_
                    rotate_left
                    · intro w'
                      go_simp
                      with_reducible rfl
                    rotate_left
                    · simp only [Act.put, List.setIfInBounds_toArray, List.set_cons_zero, List.set_cons_succ, i64_w, i32_w]
                      rfl
                    refine pure_ (i := 4) (N := some 161) (v := ?_) (a' := ?_) #[true, true, true, true, true, false, false, false, false, false, false, false, false, false, false, false, false, false, false, false, false, false, false, false, false, false, false, false, false, false, false, false, false, false, false, false, false, false, false, false, false, false, false, false, false, false, false, false, false, false, false, false, false, false, false, false, false, false, false, false, false, false, false, false, false] rfl rfl (by kernel_rfl) (fun _ _ _ h => h) (Or.inl ⟨by rfl, ?_⟩) ?_ ?_
                    rotate_left
                    · intro w'
                      go_simp
                      with_reducible rfl
                    rotate_left
                    · simp only [Act.put, List.setIfInBounds_toArray, List.set_cons_zero, List.set_cons_succ, i64_w, i32_w]
                      rfl
                    refine pure_ (i := 6) (N := some 163) (v := ?_) (a' := ?_) #[true, true, true, true, true, false, true, false, false, false, false, false, false, false, false, false, false, false, false, false, false, false, false, false, false, false, false, false, false, false, false, false, false, false, false, false, false, false, false, false, false, false, false, false, false, false, false, false, false, false, false, false, false, false, false, false, false, false, false, false, false, false, false, false, false] rfl rfl (by kernel_rfl) (fun _ _ _ h => h) (Or.inl ⟨by rfl, ?_⟩) ?_ ?_
                    rotate_left
                    · intro w'
                      go_simp
                      with_reducible rfl
                    rotate_left
                    · simp only [Act.put, List.setIfInBounds_toArray, List.set_cons_zero, List.set_cons_succ, i64_w, i32_w]
                      rfl
                    refine take_ (i := 5) (N := some 162) (v := ?_) (a' := ?_) #[true, true, true, true, true, true, true, false, false, false, false, false, false, false, false, false, false, false, false, false, false, false, false, false, false, false, false, false, false, false, false, false, false, false, false, false, false, false, false, false, false, false, false, false, false, false, false, false, false, false, false, false, false, false, false, false, false, false, false, false, false, false, false, false, false] rfl rfl (by kernel_rfl) (fun _ _ _ h => h) (Or.inl ⟨by rfl, ?_⟩) hHeld ?_ ?_
                    rotate_left
                    · rintro w' ⟨s0, s1, s2, s3, s4, s5, s6, s7, s8, s9, s10, s11, s12, s13, s14⟩
                      go_simp
                      with_reducible rfl
                    rotate_left
                    · simp only [Act.put, List.setIfInBounds_toArray, List.set_cons_zero, List.set_cons_succ, i64_w, i32_w]
                      rfl
                    refine pure_ (i := 7) (N := some 164) (v := ?_) (a' := ?_) #[true, true, true, true, true, true, true, true, false, false, false, false, false, false, false, false, false, false, false, false, false, false, false, false, false, false, false, false, false, false, false, false, false, false, false, false, false, false, false, false, false, false, false, false, false, false, false, false, false, false, false, false, false, false, false, false, false, false, false, false, false, false, false, false, false] rfl rfl (by kernel_rfl) (fun _ _ _ h => h) (Or.inl ⟨by rfl, ?_⟩) ?_ ?_
                    rotate_left
                    · intro w'
                      go_simp
                      with_reducible rfl
                    rotate_left
                    · simp only [Act.put, List.setIfInBounds_toArray, List.set_cons_zero, List.set_cons_succ, i64_w, i32_w]
                      rfl
                    refine pure_ (i := 8) (N := some 165) (v := ?_) (a' := ?_) #[true, true, true, true, true, true, true, true, true, false, false, false, false, false, false, false, false, false, false, false, false, false, false, false, false, false, false, false, false, false, false, false, false, false, false, false, false, false, false, false, false, false, false, false, false, false, false, false, false, false, false, false, false, false, false, false, false, false, false, false, false, false, false, false, false] rfl rfl (by kernel_rfl) (fun _ _ _ h => h) (Or.inl ⟨by rfl, ?_⟩) ?_ ?_
                    rotate_left
                    · intro w'
                      go_simp
                      with_reducible rfl
                    rotate_left
                    · simp only [Act.put, List.setIfInBounds_toArray, List.set_cons_zero, List.set_cons_succ, i64_w, i32_w]
                      rfl
                    refine pure_ (i := 9) (N := some 166) (v := ?_) (a' := ?_) #[true, true, true, true, true, true, true, true, true, true, false, false, false, false, false, false, false, false, false, false, false, false, false, false, false, false, false, false, false, false, false, false, false, false, false, false, false, false, false, false, false, false, false, false, false, false, false, false, false, false, false, false, false, false, false, false, false, false, false, false, false, false, false, false, false] rfl rfl (by kernel_rfl) (fun _ _ _ h => h) (Or.inl ⟨by rfl, ?_⟩) ?_ ?_
                    rotate_left
                    · intro w'
                      go_simp
                      with_reducible rfl
                    rotate_left
                    · simp only [Act.put, List.setIfInBounds_toArray, List.set_cons_zero, List.set_cons_succ, i64_w, i32_w]
                      rfl
                    refine pure_ (i := 10) (N := some 167) (v := ?_) (a' := ?_) #[true, true, true, true, true, true, true, true, true, true, true, false, false, false, false, false, false, false, false, false, false, false, false, false, false, false, false, false, false, false, false, false, false, false, false, false, false, false, false, false, false, false, false, false, false, false, false, false, false, false, false, false, false, false, false, false, false, false, false, false, false, false, false, false, false] rfl rfl (by kernel_rfl) (fun _ _ _ h => h) (Or.inl ⟨by rfl, ?_⟩) ?_ ?_
                    rotate_left
                    · intro w'
                      go_simp
                      with_reducible rfl
                    rotate_left
                    · simp only [Act.put, List.setIfInBounds_toArray, List.set_cons_zero, List.set_cons_succ, i64_w, i32_w]
                      rfl
                    refine pure_ (i := 11) (N := some 168) (v := ?_) (a' := ?_) #[true, true, true, true, true, true, true, true, true, true, true, true, false, false, false, false, false, false, false, false, false, false, false, false, false, false, false, false, false, false, false, false, false, false, false, false, false, false, false, false, false, false, false, false, false, false, false, false, false, false, false, false, false, false, false, false, false, false, false, false, false, false, false, false, false] rfl rfl (by kernel_rfl) (fun _ _ _ h => h) (Or.inl ⟨by rfl, ?_⟩) ?_ ?_
                    rotate_left
                    · intro w'
                      go_simp
                      with_reducible rfl
                    rotate_left
                    · simp only [Act.put, List.setIfInBounds_toArray, List.set_cons_zero, List.set_cons_succ, i64_w, i32_w]
                      rfl
                    refine pure_ (i := 12) (N := some 169) (v := ?_) (a' := ?_) #[true, true, true, true, true, true, true, true, true, true, true, true, true, false, false, false, false, false, false, false, false, false, false, false, false, false, false, false, false, false, false, false, false, false, false, false, false, false, false, false, false, false, false, false, false, false, false, false, false, false, false, false, false, false, false, false, false, false, false, false, false, false, false, false, false] rfl rfl (by kernel_rfl) (fun _ _ _ h => h) (Or.inl ⟨by rfl, ?_⟩) ?_ ?_
                    rotate_left
                    · intro w'
                      go_simp
                      with_reducible rfl
                    rotate_left
                    · simp only [Act.put, List.setIfInBounds_toArray, List.set_cons_zero, List.set_cons_succ, i64_w, i32_w]
                      rfl
                    refine pure_ (i := 13) (N := some 170) (v := ?_) (a' := ?_) #[true, true, true, true, true, true, true, true, true, true, true, true, true, true, false, false, false, false, false, false, false, false, false, false, false, false, false, false, false, false, false, false, false, false, false, false, false, false, false, false, false, false, false, false, false, false, false, false, false, false, false, false, false, false, false, false, false, false, false, false, false, false, false, false, false] rfl rfl (by kernel_rfl) (fun _ _ _ h => h) (Or.inl ⟨by rfl, ?_⟩) ?_ ?_
                    rotate_left
                    · intro w'
                      go_simp
                      with_reducible rfl
                    rotate_left
                    · simp only [Act.put, List.setIfInBounds_toArray, List.set_cons_zero, List.set_cons_succ, i64_w, i32_w]
                      rfl
                    refine pure_ (i := 14) (N := some 171) (v := ?_) (a' := ?_) #[true, true, true, true, true, true, true, true, true, true, true, true, true, true, true, false, false, false, false, false, false, false, false, false, false, false, false, false, false, false, false, false, false, false, false, false, false, false, false, false, false, false, false, false, false, false, false, false, false, false, false, false, false, false, false, false, false, false, false, false, false, false, false, false, false] rfl rfl (by kernel_rfl) (fun _ _ _ h => h) (Or.inl ⟨by rfl, ?_⟩) ?_ ?_
                    rotate_left
                    · intro w'
                      go_simp
                      with_reducible rfl
                    rotate_left
                    · simp only [Act.put, List.setIfInBounds_toArray, List.set_cons_zero, List.set_cons_succ, i64_w, i32_w]
                      rfl
                    refine pure_ (i := 15) (N := some 172) (v := ?_) (a' := ?_) #[true, true, true, true, true, true, true, true, true, true, true, true, true, true, true, true, false, false, false, false, false, false, false, false, false, false, false, false, false, false, false, false, false, false, false, false, false, false, false, false, false, false, false, false, false, false, false, false, false, false, false, false, false, false, false, false, false, false, false, false, false, false, false, false, false] rfl rfl (by kernel_rfl) (fun _ _ _ h => h) (Or.inl ⟨by rfl, ?_⟩) ?_ ?_
                    rotate_left
                    · intro w'
                      go_simp
                      with_reducible rfl
                    rotate_left
                    · simp only [Act.put, List.setIfInBounds_toArray, List.set_cons_zero, List.set_cons_succ, i64_w, i32_w]
                      rfl
                    refine pure_ (i := 16) (N := some 173) (v := ?_) (a' := ?_) #[true, true, true, true, true, true, true, true, true, true, true, true, true, true, true, true, true, false, false, false, false, false, false, false, false, false, false, false, false, false, false, false, false, false, false, false, false, false, false, false, false, false, false, false, false, false, false, false, false, false, false, false, false, false, false, false, false, false, false, false, false, false, false, false, false] rfl rfl (by kernel_rfl) (fun _ _ _ h => h) (Or.inl ⟨by rfl, ?_⟩) ?_ ?_
                    rotate_left
                    · intro w'
                      go_simp
                      with_reducible rfl
                    rotate_left
                    · simp only [Act.put, List.setIfInBounds_toArray, List.set_cons_zero, List.set_cons_succ, i64_w, i32_w]
                      rfl
                    refine pure_ (i := 17) (N := some 174) (v := ?_) (a' := ?_) #[true, true, true, true, true, true, true, true, true, true, true, true, true, true, true, true, true, true, false, false, false, false, false, false, false, false, false, false, false, false, false, false, false, false, false, false, false, false, false, false, false, false, false, false, false, false, false, false, false, false, false, false, false, false, false, false, false, false, false, false, false, false, false, false, false] rfl rfl (by kernel_rfl) (fun _ _ _ h => h) (Or.inl ⟨by rfl, ?_⟩) ?_ ?_
                    rotate_left
                    · intro w'
                      go_simp
                      with_reducible rfl
                    rotate_left
                    · simp only [Act.put, List.setIfInBounds_toArray, List.set_cons_zero, List.set_cons_succ, i64_w, i32_w]
                      rfl
                    refine pure_ (i := 18) (N := some 175) (v := ?_) (a' := ?_) #[true, true, true, true, true, true, true, true, true, true, true, true, true, true, true, true, true, true, true, false, false, false, false, false, false, false, false, false, false, false, false, false, false, false, false, false, false, false, false, false, false, false, false, false, false, false, false, false, false, false, false, false, false, false, false, false, false, false, false, false, false, false, false, false, false] rfl rfl (by kernel_rfl) (fun _ _ _ h => h) (Or.inl ⟨by rfl, ?_⟩) ?_ ?_
                    rotate_left
                    · intro w'
                      go_simp
                      with_reducible rfl
                    rotate_left
                    · simp only [Act.put, List.setIfInBounds_toArray, List.set_cons_zero, List.set_cons_succ, i64_w, i32_w]
                      rfl
                    as_aux_lemma =>
                      refine pure_ (i := 19) (N := some 176) (v := ?_) (a' := ?_) #[true, true, true, true, true, true, true, true, true, true, true, true, true, true, true, true, true, true, true, true, false, false, false, false, false, false, false, false, false, false, false, false, false, false, false, false, false, false, false, false, false, false, false, false, false, false, false, false, false, false, false, false, false, false, false, false, false, false, false, false, false, false, false, false, false] rfl rfl (by kernel_rfl) (fun _ _ _ h => h) (Or.inl ⟨by rfl, ?_⟩) ?_ ?_
                      rotate_left
                      · intro w'
                        go_simp
                        with_reducible rfl
                      rotate_left
                      · simp only [Act.put, List.setIfInBounds_toArray, List.set_cons_zero, List.set_cons_succ, i64_w, i32_w]
                        rfl
                      refine pure_ (i := 20) (N := some 177) (v := ?_) (a' := ?_) #[true, true, true, true, true, true, true, true, true, true, true, true, true, true, true, true, true, true, true, true, true, false, false, false, false, false, false, false, false, false, false, false, false, false, false, false, false, false, false, false, false, false, false, false, false, false, false, false, false, false, false, false, false, false, false, false, false, false, false, false, false, false, false, false, false] rfl rfl (by kernel_rfl) (fun _ _ _ h => h) (Or.inl ⟨by rfl, ?_⟩) ?_ ?_
                      rotate_left
                      · intro w'
                        go_simp
                        with_reducible rfl
                      rotate_left
                      · simp only [Act.put, List.setIfInBounds_toArray, List.set_cons_zero, List.set_cons_succ, i64_w, i32_w]
                        rfl
                      refine pure_ (i := 21) (N := some 178) (v := ?_) (a' := ?_) #[true, true, true, true, true, true, true, true, true, true, true, true, true, true, true, true, true, true, true, true, true, true, false, false, false, false, false, false, false, false, false, false, false, false, false, false, false, false, false, false, false, false, false, false, false, false, false, false, false, false, false, false, false, false, false, false, false, false, false, false, false, false, false, false, false] rfl rfl (by kernel_rfl) (fun _ _ _ h => h) (Or.inl ⟨by rfl, ?_⟩) ?_ ?_
                      rotate_left
                      · intro w'
                        go_simp
                        with_reducible rfl
                      rotate_left
                      · simp only [Act.put, List.setIfInBounds_toArray, List.set_cons_zero, List.set_cons_succ, i64_w, i32_w]
                        rfl
                      refine pure_ (i := 22) (N := some 179) (v := ?_) (a' := ?_) #[true, true, true, true, true, true, true, true, true, true, true, true, true, true, true, true, true, true, true, true, true, true, true, false, false, false, false, false, false, false, false, false, false, false, false, false, false, false, false, false, false, false, false, false, false, false, false, false, false, false, false, false, false, false, false, false, false, false, false, false, false, false, false, false, false] rfl rfl (by kernel_rfl) (fun _ _ _ h => h) (Or.inl ⟨by rfl, ?_⟩) ?_ ?_
                      rotate_left
                      · intro w'
                        go_simp
                        with_reducible rfl
                      rotate_left
                      · simp only [Act.put, List.setIfInBounds_toArray, List.set_cons_zero, List.set_cons_succ, i64_w, i32_w]
                        rfl
                      refine pure_ (i := 23) (N := some 180) (v := ?_) (a' := ?_) #[true, true, true, true, true, true, true, true, true, true, true, true, true, true, true, true, true, true, true, true, true, true, true, true, false, false, false, false, false, false, false, false, false, false, false, false, false, false, false, false, false, false, false, false, false, false, false, false, false, false, false, false, false, false, false, false, false, false, false, false, false, false, false, false, false] rfl rfl (by kernel_rfl) (fun _ _ _ h => h) (Or.inl ⟨by rfl, ?_⟩) ?_ ?_
                      rotate_left
                      · intro w'
                        go_simp
                        with_reducible rfl
                      rotate_left
                      · simp only [Act.put, List.setIfInBounds_toArray, List.set_cons_zero, List.set_cons_succ, i64_w, i32_w]
                        rfl
                      refine pure_ (i := 24) (N := some 181) (v := ?_) (a' := ?_) #[true, true, true, true, true, true, true, true, true, true, true, true, true, true, true, true, true, true, true, true, true, true, true, true, true, false, false, false, false, false, false, false, false, false, false, false, false, false, false, false, false, false, false, false, false, false, false, false, false, false, false, false, false, false, false, false, false, false, false, false, false, false, false, false, false] rfl rfl (by kernel_rfl) (fun _ _ _ h => h) (Or.inl ⟨by rfl, ?_⟩) ?_ ?_
                      rotate_left
                      · intro w'
                        go_simp
                        with_reducible rfl
                      rotate_left
                      · simp only [Act.put, List.setIfInBounds_toArray, List.set_cons_zero, List.set_cons_succ, i64_w, i32_w]
                        rfl
                      refine pure_ (i := 25) (N := some 182) (v := ?_) (a' := ?_) #[true, true, true, true, true, true, true, true, true, true, true, true, true, true, true, true, true, true, true, true, true, true, true, true, true, true, false, false, false, false, false, false, false, false, false, false, false, false, false, false, false, false, false, false, false, false, false, false, false, false, false, false, false, false, false, false, false, false, false, false, false, false, false, false, false] rfl rfl (by kernel_rfl) (fun _ _ _ h => h) (Or.inl ⟨by rfl, ?_⟩) ?_ ?_
                      rotate_left
                      · intro w'
                        go_simp
                        with_reducible rfl
                      rotate_left
                      · simp only [Act.put, List.setIfInBounds_toArray, List.set_cons_zero, List.set_cons_succ, i64_w, i32_w]
                        rfl
                      refine pure_ (i := 26) (N := some 183) (v := ?_) (a' := ?_) #[true, true, true, true, true, true, true, true, true, true, true, true, true, true, true, true, true, true, true, true, true, true, true, true, true, true, true, false, false, false, false, false, false, false, false, false, false, false, false, false, false, false, false, false, false, false, false, false, false, false, false, false, false, false, false, false, false, false, false, false, false, false, false, false, false] rfl rfl (by kernel_rfl) (fun _ _ _ h => h) (Or.inl ⟨by rfl, ?_⟩) ?_ ?_
                      rotate_left
                      · intro w'
                        go_simp
                        with_reducible rfl
                      rotate_left
                      · simp only [Act.put, List.setIfInBounds_toArray, List.set_cons_zero, List.set_cons_succ, i64_w, i32_w]
                        rfl
                      refine pure_ (i := 27) (N := some 184) (v := ?_) (a' := ?_) #[true, true, true, true, true, true, true, true, true, true, true, true, true, true, true, true, true, true, true, true, true, true, true, true, true, true, true, true, false, false, false, false, false, false, false, false, false, false, false, false, false, false, false, false, false, false, false, false, false, false, false, false, false, false, false, false, false, false, false, false, false, false, false, false, false] rfl rfl (by kernel_rfl) (fun _ _ _ h => h) (Or.inl ⟨by rfl, ?_⟩) ?_ ?_
                      rotate_left
                      · intro w'
                        go_simp
                        with_reducible rfl
                      rotate_left
                      · simp only [Act.put, List.setIfInBounds_toArray, List.set_cons_zero, List.set_cons_succ, i64_w, i32_w]
                        rfl
                      refine take_ (i := 28) (N := some 185) (v := ?_) (a' := ?_) #[true, true, true, true, true, true, true, true, true, true, true, true, true, true, true, true, true, true, true, true, true, true, true, true, true, true, true, true, true, false, false, false, false, false, false, false, false, false, false, false, false, false, false, false, false, false, false, false, false, false, false, false, false, false, false, false, false, false, false, false, false, false, false, false, false] rfl rfl (by kernel_rfl) (fun _ _ _ h => h) (Or.inl ⟨by rfl, ?_⟩) hHeld ?_ ?_
                      rotate_left
                      · rintro w' ⟨s0, s1, s2, s3, s4, s5, s6, s7, s8, s9, s10, s11, s12, s13, s14⟩
                        go_simp
                        with_reducible rfl
                      rotate_left
                      · simp only [Act.put, List.setIfInBounds_toArray, List.set_cons_zero, List.set_cons_succ, i64_w, i32_w]
                        rfl
                      refine pure_ (i := 29) (N := some 186) (v := ?_) (a' := ?_) #[true, true, true, true, true, true, true, true, true, true, true, true, true, true, true, true, true, true, true, true, true, true, true, true, true, true, true, true, true, true, false, false, false, false, false, false, false, false, false, false, false, false, false, false, false, false, false, false, false, false, false, false, false, false, false, false, false, false, false, false, false, false, false, false, false] rfl rfl (by kernel_rfl) (fun _ _ _ h => h) (Or.inl ⟨by rfl, ?_⟩) ?_ ?_
                      rotate_left
                      · intro w'
                        go_simp
                        with_reducible rfl
                      rotate_left
                      · simp only [Act.put, List.setIfInBounds_toArray, List.set_cons_zero, List.set_cons_succ, i64_w, i32_w]
                        rfl
                      refine pure_ (i := 30) (N := some 187) (v := ?_) (a' := ?_) #[true, true, true, true, true, true, true, true, true, true, true, true, true, true, true, true, true, true, true, true, true, true, true, true, true, true, true, true, true, true, true, false, false, false, false, false, false, false, false, false, false, false, false, false, false, false, false, false, false, false, false, false, false, false, false, false, false, false, false, false, false, false, false, false, false] rfl rfl (by kernel_rfl) (fun _ _ _ h => h) (Or.inl ⟨by rfl, ?_⟩) ?_ ?_
                      rotate_left
                      · intro w'
                        go_simp
                        with_reducible rfl
                      rotate_left
                      · simp only [Act.put, List.setIfInBounds_toArray, List.set_cons_zero, List.set_cons_succ, i64_w, i32_w]
                        rfl
                      refine pure_ (i := 31) (N := some 188) (v := ?_) (a' := ?_) #[true, true, true, true, true, true, true, true, true, true, true, true, true, true, true, true, true, true, true, true, true, true, true, true, true, true, true, true, true, true, true, true, false, false, false, false, false, false, false, false, false, false, false, false, false, false, false, false, false, false, false, false, false, false, false, false, false, false, false, false, false, false, false, false, false] rfl rfl (by kernel_rfl) (fun _ _ _ h => h) (Or.inl ⟨by rfl, ?_⟩) ?_ ?_
                      rotate_left
                      · intro w'
                        go_simp
                        with_reducible rfl
                      rotate_left
                      · simp only [Act.put, List.setIfInBounds_toArray, List.set_cons_zero, List.set_cons_succ, i64_w, i32_w]
                        rfl
                      refine pure_ (i := 32) (N := some 189) (v := ?_) (a' := ?_) #[true, true, true, true, true, true, true, true, true, true, true, true, true, true, true, true, true, true, true, true, true, true, true, true, true, true, true, true, true, true, true, true, true, false, false, false, false, false, false, false, false, false, false, false, false, false, false, false, false, false, false, false, false, false, false, false, false, false, false, false, false, false, false, false, false] rfl rfl (by kernel_rfl) (fun _ _ _ h => h) (Or.inl ⟨by rfl, ?_⟩) ?_ ?_
                      rotate_left
                      · intro w'
                        go_simp
                        with_reducible rfl
                      rotate_left
                      · simp only [Act.put, List.setIfInBounds_toArray, List.set_cons_zero, List.set_cons_succ, i64_w, i32_w]
                        rfl
                      refine pure_ (i := 34) (N := some 191) (v := ?_) (a' := ?_) #[true, true, true, true, true, true, true, true, true, true, true, true, true, true, true, true, true, true, true, true, true, true, true, true, true, true, true, true, true, true, true, true, true, false, true, false, false, false, false, false, false, false, false, false, false, false, false, false, false, false, false, false, false, false, false, false, false, false, false, false, false, false, false, false, false] rfl rfl (by kernel_rfl) (fun _ _ _ h => h) (Or.inl ⟨by rfl, ?_⟩) ?_ ?_
                      rotate_left
                      · intro w'
                        go_simp
                        with_reducible rfl
                      rotate_left
                      · simp only [Act.put, List.setIfInBounds_toArray, List.set_cons_zero, List.set_cons_succ, i64_w, i32_w]
                        rfl
                      refine pure_ (i := 36) (N := some 193) (v := ?_) (a' := ?_) #[true, true, true, true, true, true, true, true, true, true, true, true, true, true, true, true, true, true, true, true, true, true, true, true, true, true, true, true, true, true, true, true, true, false, true, false, true, false, false, false, false, false, false, false, false, false, false, false, false, false, false, false, false, false, false, false, false, false, false, false, false, false, false, false, false] rfl rfl (by kernel_rfl) (fun _ _ _ h => h) (Or.inl ⟨by rfl, ?_⟩) ?_ ?_
                      rotate_left
                      · intro w'
                        go_simp
                        with_reducible rfl
                      rotate_left
                      · simp only [Act.put, List.setIfInBounds_toArray, List.set_cons_zero, List.set_cons_succ, i64_w, i32_w]
                        rfl
                      refine take_ (i := 33) (N := some 190) (v := ?_) (a' := ?_) #[true, true, true, true, true, true, true, true, true, true, true, true, true, true, true, true, true, true, true, true, true, true, true, true, true, true, true, true, true, true, true, true, true, true, true, false, true, false, false, false, false, false, false, false, false, false, false, false, false, false, false, false, false, false, false, false, false, false, false, false, false, false, false, false, false] rfl rfl (by kernel_rfl) (fun _ _ _ h => h) (Or.inl ⟨by rfl, ?_⟩) hHeld ?_ ?_
                      rotate_left
                      · rintro w' ⟨s0, s1, s2, s3, s4, s5, s6, s7, s8, s9, s10, s11, s12, s13, s14⟩
                        go_simp
                        with_reducible rfl
                      rotate_left
                      · simp only [Act.put, List.setIfInBounds_toArray, List.set_cons_zero, List.set_cons_succ, i64_w, i32_w]
                        rfl
                      refine take_ (i := 35) (N := some 192) (v := ?_) (a' := ?_) #[true, true, true, true, true, true, true, true, true, true, true, true, true, true, true, true, true, true, true, true, true, true, true, true, true, true, true, true, true, true, true, true, true, true, true, true, true, false, false, false, false, false, false, false, false, false, false, false, false, false, false, false, false, false, false, false, false, false, false, false, false, false, false, false, false] rfl rfl (by kernel_rfl) (fun _ _ _ h => h) (Or.inl ⟨by rfl, ?_⟩) hHeld ?_ ?_
                      rotate_left
                      · rintro w' ⟨s0, s1, s2, s3, s4, s5, s6, s7, s8, s9, s10, s11, s12, s13, s14⟩
                        go_simp
                        with_reducible rfl
                      rotate_left
                      · simp only [Act.put, List.setIfInBounds_toArray, List.set_cons_zero, List.set_cons_succ, i64_w, i32_w]
                        rfl
                      refine take_ (i := 37) (N := some 194) (v := ?_) (a' := ?_) #[true, true, true, true, true, true, true, true, true, true, true, true, true, true, true, true, true, true, true, true, true, true, true, true, true, true, true, true, true, true, true, true, true, true, true, true, true, true, false, false, false, false, false, false, false, false, false, false, false, false, false, false, false, false, false, false, false, false, false, false, false, false, false, false, false] rfl rfl (by kernel_rfl) (fun _ _ _ h => h) (Or.inl ⟨by rfl, ?_⟩) hHeld ?_ ?_
                      rotate_left
                      · rintro w' ⟨s0, s1, s2, s3, s4, s5, s6, s7, s8, s9, s10, s11, s12, s13, s14⟩
                        go_simp
                        with_reducible rfl
                      rotate_left
                      · simp only [Act.put, List.setIfInBounds_toArray, List.set_cons_zero, List.set_cons_succ, i64_w, i32_w]
                        rfl
                      refine one_ (i := 38) (N := some 195) #[true, true, true, true, true, true, true, true, true, true, true, true, true, true, true, true, true, true, true, true, true, true, true, true, true, true, true, true, true, true, true, true, true, true, true, true, true, true, true, false, false, false, false, false, false, false, false, false, false, false, false, false, false, false, false, false, false, false, false, false, false, false, false, false, false] rfl rfl (by kernel_rfl) (by decide) (fun K hK => ?_)
                      refine goes_ Try.func34 (by kernel_rfl) rfl #[.agg #[.int .i64 y.c, .int .i64 y.e, .int .i64 y.m, .int .i64 y.l], .agg #[.int .i64 z.c, .int .i64 z.e, .int .i64 z.m, .int .i64 z.l]] (by rfl) rfl rfl (by simp only [List.map_toArray, List.map_cons, List.map_nil]; rfl) ?_
                      with_reducible refine (demesnelaw41_both.calls y.c y.e y.m y.l z.c z.e z.m z.l n2 x.e x.m x.l _ HBO2.out).mono ?_
                      rintro e w8 ⟨rfl, hb8⟩
                      refine ⟨_, rfl, ?_⟩
                      have HB8 := Aside0.mk (show Below wr.heap.size wr w8 from below_then (below_drew (Below.refl _ _)) (Nat.le_refl _) hb8)
                      clear hb8
                      refine hK.out _ _ ⟨(pw_cell_below HB8.out hc0), (pw_cell_below HB8.out hc1), (pw_cell_below HB8.out hc2), (pw_cell_below HB8.out hc3), (pw_cell_below HB8.out ha0), (pw_cell_below HB8.out ha1), (pw_cell_below HB8.out ha2), (pw_cell_below HB8.out ha3), (pw_cell_below HB8.out hb0), (pw_cell_below HB8.out hb1), (pw_cell_below HB8.out hb2), (pw_cell_below HB8.out hb3), (pw_cell_below HB8.out hcp), (pw_cell_below HB8.out hap), (pw_cell_below HB8.out hbp)⟩ (fun hHeld => ?_)
                      clear hK K
                      refine norm_ (a' := ?_) ?_ ?_
                      rotate_left
                      · show Act.put _ (some 195) _ = _
                        simp only [Act.put, List.setIfInBounds_toArray, List.set_cons_zero, List.set_cons_succ, i64_w, i32_w]
                        rfl
                      as_aux_lemma =>
                        refine pure_ (i := 39) (N := some 196) (v := ?_) (a' := ?_) #[true, true, true, true, true, true, true, true, true, true, true, true, true, true, true, true, true, true, true, true, true, true, true, true, true, true, true, true, true, true, true, true, true, true, true, true, true, true, true, true, false, false, false, false, false, false, false, false, false, false, false, false, false, false, false, false, false, false, false, false, false, false, false, false, false] rfl rfl (by kernel_rfl) (fun _ _ _ h => h) (Or.inl ⟨by rfl, ?_⟩) ?_ ?_
                        rotate_left
                        · intro w'
                          go_simp
                          with_reducible rfl
                        rotate_left
                        · simp only [Act.put, List.setIfInBounds_toArray, List.set_cons_zero, List.set_cons_succ, i64_w, i32_w]
                          rfl
                        refine pure_ (i := 40) (N := some 197) (v := ?_) (a' := ?_) #[true, true, true, true, true, true, true, true, true, true, true, true, true, true, true, true, true, true, true, true, true, true, true, true, true, true, true, true, true, true, true, true, true, true, true, true, true, true, true, true, true, false, false, false, false, false, false, false, false, false, false, false, false, false, false, false, false, false, false, false, false, false, false, false, false] rfl rfl (by kernel_rfl) (fun _ _ _ h => h) (Or.inl ⟨by rfl, ?_⟩) ?_ ?_
                        rotate_left
                        · intro w'
                          go_simp
                          with_reducible rfl
                        rotate_left
                        · simp only [Act.put, List.setIfInBounds_toArray, List.set_cons_zero, List.set_cons_succ, i64_w, i32_w]
                          rfl
                        refine pure_ (i := 41) (N := some 198) (v := ?_) (a' := ?_) #[true, true, true, true, true, true, true, true, true, true, true, true, true, true, true, true, true, true, true, true, true, true, true, true, true, true, true, true, true, true, true, true, true, true, true, true, true, true, true, true, true, true, false, false, false, false, false, false, false, false, false, false, false, false, false, false, false, false, false, false, false, false, false, false, false] rfl rfl (by kernel_rfl) (fun _ _ _ h => h) (Or.inl ⟨by rfl, ?_⟩) ?_ ?_
                        rotate_left
                        · intro w'
                          go_simp
                          with_reducible rfl
                        rotate_left
                        · simp only [Act.put, List.setIfInBounds_toArray, List.set_cons_zero, List.set_cons_succ, i64_w, i32_w]
                          rfl
                        refine pure_ (i := 42) (N := some 199) (v := ?_) (a' := ?_) #[true, true, true, true, true, true, true, true, true, true, true, true, true, true, true, true, true, true, true, true, true, true, true, true, true, true, true, true, true, true, true, true, true, true, true, true, true, true, true, true, true, true, true, false, false, false, false, false, false, false, false, false, false, false, false, false, false, false, false, false, false, false, false, false, false] rfl rfl (by kernel_rfl) (fun _ _ _ h => h) (Or.inl ⟨by rfl, ?_⟩) ?_ ?_
                        rotate_left
                        · intro w'
                          go_simp
                          with_reducible rfl
                        rotate_left
                        · simp only [Act.put, List.setIfInBounds_toArray, List.set_cons_zero, List.set_cons_succ, i64_w, i32_w]
                          rfl
                        refine pure_ (i := 44) (N := some 201) (v := ?_) (a' := ?_) #[true, true, true, true, true, true, true, true, true, true, true, true, true, true, true, true, true, true, true, true, true, true, true, true, true, true, true, true, true, true, true, true, true, true, true, true, true, true, true, true, true, true, true, false, true, false, false, false, false, false, false, false, false, false, false, false, false, false, false, false, false, false, false, false, false] rfl rfl (by kernel_rfl) (fun _ _ _ h => h) (Or.inl ⟨by rfl, ?_⟩) ?_ ?_
                        rotate_left
                        · intro w'
                          go_simp
                          with_reducible rfl
                        rotate_left
                        · simp only [Act.put, List.setIfInBounds_toArray, List.set_cons_zero, List.set_cons_succ, i64_w, i32_w]
                          rfl
                        refine pure_ (i := 46) (N := some 203) (v := ?_) (a' := ?_) #[true, true, true, true, true, true, true, true, true, true, true, true, true, true, true, true, true, true, true, true, true, true, true, true, true, true, true, true, true, true, true, true, true, true, true, true, true, true, true, true, true, true, true, false, true, false, true, false, false, false, false, false, false, false, false, false, false, false, false, false, false, false, false, false, false] rfl rfl (by kernel_rfl) (fun _ _ _ h => h) (Or.inl ⟨by rfl, ?_⟩) ?_ ?_
                        rotate_left
                        · intro w'
                          go_simp
                          with_reducible rfl
                        rotate_left
                        · simp only [Act.put, List.setIfInBounds_toArray, List.set_cons_zero, List.set_cons_succ, i64_w, i32_w]
                          rfl
                        refine take_ (i := 43) (N := some 200) (v := ?_) (a' := ?_) #[true, true, true, true, true, true, true, true, true, true, true, true, true, true, true, true, true, true, true, true, true, true, true, true, true, true, true, true, true, true, true, true, true, true, true, true, true, true, true, true, true, true, true, true, true, false, true, false, false, false, false, false, false, false, false, false, false, false, false, false, false, false, false, false, false] rfl rfl (by kernel_rfl) (fun _ _ _ h => h) (Or.inl ⟨by rfl, ?_⟩) hHeld ?_ ?_
                        rotate_left
                        · rintro w' ⟨s0, s1, s2, s3, s4, s5, s6, s7, s8, s9, s10, s11, s12, s13, s14⟩
                          go_simp
                          with_reducible rfl
                        rotate_left
                        · simp only [Act.put, List.setIfInBounds_toArray, List.set_cons_zero, List.set_cons_succ, i64_w, i32_w]
                          rfl
                        refine take_ (i := 45) (N := some 202) (v := ?_) (a' := ?_) #[true, true, true, true, true, true, true, true, true, true, true, true, true, true, true, true, true, true, true, true, true, true, true, true, true, true, true, true, true, true, true, true, true, true, true, true, true, true, true, true, true, true, true, true, true, true, true, false, false, false, false, false, false, false, false, false, false, false, false, false, false, false, false, false, false] rfl rfl (by kernel_rfl) (fun _ _ _ h => h) (Or.inl ⟨by rfl, ?_⟩) hHeld ?_ ?_
                        rotate_left
                        · rintro w' ⟨s0, s1, s2, s3, s4, s5, s6, s7, s8, s9, s10, s11, s12, s13, s14⟩
                          go_simp
                          with_reducible rfl
                        rotate_left
                        · simp only [Act.put, List.setIfInBounds_toArray, List.set_cons_zero, List.set_cons_succ, i64_w, i32_w]
                          rfl
                        refine take_ (i := 47) (N := some 204) (v := ?_) (a' := ?_) #[true, true, true, true, true, true, true, true, true, true, true, true, true, true, true, true, true, true, true, true, true, true, true, true, true, true, true, true, true, true, true, true, true, true, true, true, true, true, true, true, true, true, true, true, true, true, true, true, false, false, false, false, false, false, false, false, false, false, false, false, false, false, false, false, false] rfl rfl (by kernel_rfl) (fun _ _ _ h => h) (Or.inl ⟨by rfl, ?_⟩) hHeld ?_ ?_
                        rotate_left
                        · rintro w' ⟨s0, s1, s2, s3, s4, s5, s6, s7, s8, s9, s10, s11, s12, s13, s14⟩
                          go_simp
                          with_reducible rfl
                        rotate_left
                        · simp only [Act.put, List.setIfInBounds_toArray, List.set_cons_zero, List.set_cons_succ, i64_w, i32_w]
                          rfl
                        refine pure_ (i := 48) (N := some 205) (v := ?_) (a' := ?_) #[true, true, true, true, true, true, true, true, true, true, true, true, true, true, true, true, true, true, true, true, true, true, true, true, true, true, true, true, true, true, true, true, true, true, true, true, true, true, true, true, true, true, true, true, true, true, true, true, true, false, false, false, false, false, false, false, false, false, false, false, false, false, false, false, false] rfl rfl (by kernel_rfl) (fun _ _ _ h => h) (Or.inl ⟨by rfl, ?_⟩) ?_ ?_
                        rotate_left
                        · intro w'
                          go_simp
                          with_reducible rfl
                        rotate_left
                        · simp only [Act.put, List.setIfInBounds_toArray, List.set_cons_zero, List.set_cons_succ, i64_w, i32_w]
                          rfl
                        refine pure_ (i := 49) (N := some 206) (v := ?_) (a' := ?_) #[true, true, true, true, true, true, true, true, true, true, true, true, true, true, true, true, true, true, true, true, true, true, true, true, true, true, true, true, true, true, true, true, true, true, true, true, true, true, true, true, true, true, true, true, true, true, true, true, true, true, false, false, false, false, false, false, false, false, false, false, false, false, false, false, false] rfl rfl (by kernel_rfl) (fun _ _ _ h => h) (Or.inl ⟨by rfl, ?_⟩) ?_ ?_
                        rotate_left
                        · intro w'
                          go_simp
                          with_reducible rfl
                        rotate_left
                        · simp only [Act.put, List.setIfInBounds_toArray, List.set_cons_zero, List.set_cons_succ, i64_w, i32_w]
                          rfl
                        refine pure_ (i := 50) (N := some 207) (v := ?_) (a' := ?_) #[true, true, true, true, true, true, true, true, true, true, true, true, true, true, true, true, true, true, true, true, true, true, true, true, true, true, true, true, true, true, true, true, true, true, true, true, true, true, true, true, true, true, true, true, true, true, true, true, true, true, true, false, false, false, false, false, false, false, false, false, false, false, false, false, false] rfl rfl (by kernel_rfl) (fun _ _ _ h => h) (Or.inl ⟨by rfl, ?_⟩) ?_ ?_
                        rotate_left
                        · intro w'
                          go_simp
                          with_reducible rfl
                        rotate_left
                        · simp only [Act.put, List.setIfInBounds_toArray, List.set_cons_zero, List.set_cons_succ, i64_w, i32_w]
                          rfl
                        refine pure_ (i := 51) (N := some 208) (v := ?_) (a' := ?_) #[true, true, true, true, true, true, true, true, true, true, true, true, true, true, true, true, true, true, true, true, true, true, true, true, true, true, true, true, true, true, true, true, true, true, true, true, true, true, true, true, true, true, true, true, true, true, true, true, true, true, true, true, false, false, false, false, false, false, false, false, false, false, false, false, false] rfl rfl (by kernel_rfl) (fun _ _ _ h => h) (Or.inl ⟨by rfl, ?_⟩) ?_ ?_
                        rotate_left
                        · intro w'
                          go_simp
                          with_reducible rfl
                        rotate_left
                        · simp only [Act.put, List.setIfInBounds_toArray, List.set_cons_zero, List.set_cons_succ, i64_w, i32_w]
                          rfl
                        refine pure_ (i := 52) (N := some 209) (v := ?_) (a' := ?_) #[true, true, true, true, true, true, true, true, true, true, true, true, true, true, true, true, true, true, true, true, true, true, true, true, true, true, true, true, true, true, true, true, true, true, true, true, true, true, true, true, true, true, true, true, true, true, true, true, true, true, true, true, true, false, false, false, false, false, false, false, false, false, false, false, false] rfl rfl (by kernel_rfl) (fun _ _ _ h => h) (Or.inl ⟨by rfl, ?_⟩) ?_ ?_
                        rotate_left
                        · intro w'
                          go_simp
                          with_reducible rfl
                        rotate_left
                        · simp only [Act.put, List.setIfInBounds_toArray, List.set_cons_zero, List.set_cons_succ, i64_w, i32_w]
                          rfl
                        refine pure_ (i := 54) (N := some 211) (v := ?_) (a' := ?_) #[true, true, true, true, true, true, true, true, true, true, true, true, true, true, true, true, true, true, true, true, true, true, true, true, true, true, true, true, true, true, true, true, true, true, true, true, true, true, true, true, true, true, true, true, true, true, true, true, true, true, true, true, true, false, true, false, false, false, false, false, false, false, false, false, false] rfl rfl (by kernel_rfl) (fun _ _ _ h => h) (Or.inl ⟨by rfl, ?_⟩) ?_ ?_
                        rotate_left
                        · intro w'
                          go_simp
                          with_reducible rfl
                        rotate_left
                        · simp only [Act.put, List.setIfInBounds_toArray, List.set_cons_zero, List.set_cons_succ, i64_w, i32_w]
                          rfl
                        as_aux_lemma =>
                          refine pure_ (i := 56) (N := some 213) (v := ?_) (a' := ?_) #[true, true, true, true, true, true, true, true, true, true, true, true, true, true, true, true, true, true, true, true, true, true, true, true, true, true, true, true, true, true, true, true, true, true, true, true, true, true, true, true, true, true, true, true, true, true, true, true, true, true, true, true, true, false, true, false, true, false, false, false, false, false, false, false, false] rfl rfl (by kernel_rfl) (fun _ _ _ h => h) (Or.inl ⟨by rfl, ?_⟩) ?_ ?_
                          rotate_left
                          · intro w'
                            go_simp
                            with_reducible rfl
                          rotate_left
                          · simp only [Act.put, List.setIfInBounds_toArray, List.set_cons_zero, List.set_cons_succ, i64_w, i32_w]
                            rfl
                          refine take_ (i := 53) (N := some 210) (v := ?_) (a' := ?_) #[true, true, true, true, true, true, true, true, true, true, true, true, true, true, true, true, true, true, true, true, true, true, true, true, true, true, true, true, true, true, true, true, true, true, true, true, true, true, true, true, true, true, true, true, true, true, true, true, true, true, true, true, true, true, true, false, true, false, false, false, false, false, false, false, false] rfl rfl (by kernel_rfl) (fun _ _ _ h => h) (Or.inl ⟨by rfl, ?_⟩) hHeld ?_ ?_
                          rotate_left
                          · rintro w' ⟨s0, s1, s2, s3, s4, s5, s6, s7, s8, s9, s10, s11, s12, s13, s14⟩
                            go_simp
                            with_reducible rfl
                          rotate_left
                          · simp only [Act.put, List.setIfInBounds_toArray, List.set_cons_zero, List.set_cons_succ, i64_w, i32_w]
                            rfl
                          refine take_ (i := 55) (N := some 212) (v := ?_) (a' := ?_) #[true, true, true, true, true, true, true, true, true, true, true, true, true, true, true, true, true, true, true, true, true, true, true, true, true, true, true, true, true, true, true, true, true, true, true, true, true, true, true, true, true, true, true, true, true, true, true, true, true, true, true, true, true, true, true, true, true, false, false, false, false, false, false, false, false] rfl rfl (by kernel_rfl) (fun _ _ _ h => h) (Or.inl ⟨by rfl, ?_⟩) hHeld ?_ ?_
                          rotate_left
                          · rintro w' ⟨s0, s1, s2, s3, s4, s5, s6, s7, s8, s9, s10, s11, s12, s13, s14⟩
                            go_simp
                            with_reducible rfl
                          rotate_left
                          · simp only [Act.put, List.setIfInBounds_toArray, List.set_cons_zero, List.set_cons_succ, i64_w, i32_w]
                            rfl
                          refine take_ (i := 57) (N := some 214) (v := ?_) (a' := ?_) #[true, true, true, true, true, true, true, true, true, true, true, true, true, true, true, true, true, true, true, true, true, true, true, true, true, true, true, true, true, true, true, true, true, true, true, true, true, true, true, true, true, true, true, true, true, true, true, true, true, true, true, true, true, true, true, true, true, true, false, false, false, false, false, false, false] rfl rfl (by kernel_rfl) (fun _ _ _ h => h) (Or.inl ⟨by rfl, ?_⟩) hHeld ?_ ?_
                          rotate_left
                          · rintro w' ⟨s0, s1, s2, s3, s4, s5, s6, s7, s8, s9, s10, s11, s12, s13, s14⟩
                            go_simp
                            with_reducible rfl
                          rotate_left
                          · simp only [Act.put, List.setIfInBounds_toArray, List.set_cons_zero, List.set_cons_succ, i64_w, i32_w]
                            rfl
                          refine pure_ (i := 58) (N := some 215) (v := ?_) (a' := ?_) #[true, true, true, true, true, true, true, true, true, true, true, true, true, true, true, true, true, true, true, true, true, true, true, true, true, true, true, true, true, true, true, true, true, true, true, true, true, true, true, true, true, true, true, true, true, true, true, true, true, true, true, true, true, true, true, true, true, true, true, false, false, false, false, false, false] rfl rfl (by kernel_rfl) (fun _ _ _ h => h) (Or.inl ⟨by rfl, ?_⟩) ?_ ?_
                          rotate_left
                          · intro w'
                            go_simp
                            with_reducible rfl
                          rotate_left
                          · simp only [Act.put, List.setIfInBounds_toArray, List.set_cons_zero, List.set_cons_succ, i64_w, i32_w]
                            rfl
                          refine pure_ (i := 59) (N := some 216) (v := ?_) (a' := ?_) #[true, true, true, true, true, true, true, true, true, true, true, true, true, true, true, true, true, true, true, true, true, true, true, true, true, true, true, true, true, true, true, true, true, true, true, true, true, true, true, true, true, true, true, true, true, true, true, true, true, true, true, true, true, true, true, true, true, true, true, true, false, false, false, false, false] rfl rfl (by kernel_rfl) (fun _ _ _ h => h) (Or.inl ⟨by rfl, ?_⟩) ?_ ?_
                          rotate_left
                          · intro w'
                            go_simp
                            with_reducible rfl
                          rotate_left
                          · simp only [Act.put, List.setIfInBounds_toArray, List.set_cons_zero, List.set_cons_succ, i64_w, i32_w]
                            rfl
                          refine pure_ (i := 60) (N := some 217) (v := ?_) (a' := ?_) #[true, true, true, true, true, true, true, true, true, true, true, true, true, true, true, true, true, true, true, true, true, true, true, true, true, true, true, true, true, true, true, true, true, true, true, true, true, true, true, true, true, true, true, true, true, true, true, true, true, true, true, true, true, true, true, true, true, true, true, true, true, false, false, false, false] rfl rfl (by kernel_rfl) (fun _ _ _ h => h) (Or.inl ⟨by rfl, ?_⟩) ?_ ?_
                          rotate_left
                          · intro w'
                            go_simp
                            with_reducible rfl
                          rotate_left
                          · simp only [Act.put, List.setIfInBounds_toArray, List.set_cons_zero, List.set_cons_succ, i64_w, i32_w]
                            rfl
                          refine pure_ (i := 61) (N := some 218) (v := ?_) (a' := ?_) #[true, true, true, true, true, true, true, true, true, true, true, true, true, true, true, true, true, true, true, true, true, true, true, true, true, true, true, true, true, true, true, true, true, true, true, true, true, true, true, true, true, true, true, true, true, true, true, true, true, true, true, true, true, true, true, true, true, true, true, true, true, true, false, false, false] rfl rfl (by kernel_rfl) (fun _ _ _ h => h) (Or.inl ⟨by rfl, ?_⟩) ?_ ?_
                          rotate_left
                          · intro w'
                            go_simp
                            with_reducible rfl
                          rotate_left
                          · simp only [Act.put, List.setIfInBounds_toArray, List.set_cons_zero, List.set_cons_succ, i64_w, i32_w]
                            rfl
                          refine one_ (i := 62) (N := some 219) #[true, true, true, true, true, true, true, true, true, true, true, true, true, true, true, true, true, true, true, true, true, true, true, true, true, true, true, true, true, true, true, true, true, true, true, true, true, true, true, true, true, true, true, true, true, true, true, true, true, true, true, true, true, true, true, true, true, true, true, true, true, true, true, false, false] rfl rfl (by kernel_rfl) (by decide) (fun K hK => ?_)
                          refine goes_ Try.func20 (by kernel_rfl) rfl #[] (by rfl) rfl rfl (by simp only [List.map_toArray, List.map_nil]) ?_
                          with_reducible refine (wakes_calls _).mono ?_
                          rintro e w9 ⟨rfl, hb9⟩
                          refine ⟨_, rfl, ?_⟩
                          have HB9 := Aside0.mk (below_then HB8.out HB8.out.size hb9)
                          clear hb9
                          refine hK.out _ _ ⟨(pw_cell_below HB9.out hc0), (pw_cell_below HB9.out hc1), (pw_cell_below HB9.out hc2), (pw_cell_below HB9.out hc3), (pw_cell_below HB9.out ha0), (pw_cell_below HB9.out ha1), (pw_cell_below HB9.out ha2), (pw_cell_below HB9.out ha3), (pw_cell_below HB9.out hb0), (pw_cell_below HB9.out hb1), (pw_cell_below HB9.out hb2), (pw_cell_below HB9.out hb3), (pw_cell_below HB9.out hcp), (pw_cell_below HB9.out hap), (pw_cell_below HB9.out hbp)⟩ (fun hHeld => ?_)
                          clear hK K
                          refine norm_ (a' := ?_) ?_ ?_
                          rotate_left
                          · show Act.put _ (some 219) _ = _
                            simp only [Act.put, List.setIfInBounds_toArray, List.set_cons_zero, List.set_cons_succ, i64_w, i32_w]
                            rfl
                          refine pure_ (i := 63) (N := some 220) (v := ?_) (a' := ?_) #[true, true, true, true, true, true, true, true, true, true, true, true, true, true, true, true, true, true, true, true, true, true, true, true, true, true, true, true, true, true, true, true, true, true, true, true, true, true, true, true, true, true, true, true, true, true, true, true, true, true, true, true, true, true, true, true, true, true, true, true, true, true, true, true, false] rfl rfl (by kernel_rfl) (fun _ _ _ h => h) (Or.inl ⟨by rfl, ?_⟩) ?_ ?_
                          rotate_left
                          · intro w'
                            go_simp
                            with_reducible rfl
                          rotate_left
                          · simp only [Act.put, List.setIfInBounds_toArray, List.set_cons_zero, List.set_cons_succ, i64_w, i32_w]
                            rfl
                          refine pure_ (i := 64) (N := some 4) (v := ?_) (a' := ?_) #[true, true, true, true, true, true, true, true, true, true, true, true, true, true, true, true, true, true, true, true, true, true, true, true, true, true, true, true, true, true, true, true, true, true, true, true, true, true, true, true, true, true, true, true, true, true, true, true, true, true, true, true, true, true, true, true, true, true, true, true, true, true, true, true, true] rfl rfl (by kernel_rfl) (fun _ _ _ h => h) (Or.inl ⟨by rfl, ?_⟩) ?_ ?_
                          rotate_left
                          · intro w'
                            go_simp
                            with_reducible rfl
                          rotate_left
                          · simp only [Act.put, List.setIfInBounds_toArray, List.set_cons_zero, List.set_cons_succ, i64_w, i32_w]
                            rfl
                          refine done_ (by kernel_rfl) ?_
                          go_wp2_with fail
                          go_ret
                          exact ⟨rfl, below_then (HBf.out.trans (HW.out.mono HBf.out.size)) (Nat.le_trans HBf.out.size HW.out.size) HB9.out⟩
end Go.Proofs.Ytgojfecpknonlaa.St
