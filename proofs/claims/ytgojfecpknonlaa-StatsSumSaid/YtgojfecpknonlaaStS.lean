/- The walk of the law StatsSum: up to the three stats. (Printed by wip/tools/sts.py.) -/
import Derived.Test.YtgojfecpknonlaaStR
namespace Go.Proofs.Ytgojfecpknonlaa.St
open Go.RowKit Go.Proofs.YtgojfecpknonlaaW.PrintWords Go.Proofs.YtgojfecpknonlaaW.PrintLast Go.Proofs.YtgojfecpknonlaaW.PrintMore
open Go.Proofs.Ytgojfecpknonlaa.Own Go.Proofs.Ytgojfecpknonlaa.PSt
set_option linter.unusedVariables false
set_option linter.unusedSimpArgs false

theorem info72b : (Try.prog.info? 72).map (fun i => (i.zero, i.size, i.bytes)) = some (some (.agg #[.int .u8 0, .int .u8 0, .int .u8 0, .int .u8 0, .int .u8 0, .int .i64 0, .int .i64 0, .int .u64 0, .int .i64 0, .int .i64 0, .int .i64 0]), k72.sz, 56) := by kernel_rfl
theorem z72a : (Value.agg #[.int .u8 0, .int .u8 0, .int .u8 0, .int .u8 0, .int .u8 0, .int .i64 0, .int .i64 0, .int .u64 0, .int .i64 0, .int .i64 0, .int .i64 0]).cells.size = k72.sz := by kernel_rfl
theorem z72b : 0 < k72.sz := by rw [← z72a]; decide
theorem flat72 {W : World} {base : Nat} (W1 : World) (ok' : Nat → Prop) (q : S72) (cs : List Value) (h : k72.K W q cs) : k72.M W1 base ok' q cs := by
  rw [k72_open h]
  exact k72_mkM W1 base ok' q
def OfIs (L : List S72) (cs : List Value) (e : Int) : Prop := ∀ (A : Option Addr) (c : Nat) (W : World), Kd.C k72 W A L.length L → L.length ≤ c → Calls Try.prog 21 #[.slice A L.length c] W fun en w' => en = .returned (.tuple #[.agg cs.toArray, .int .i64 e]) ∧ Below W.heap.size W w'

set_option maxHeartbeats 4000000 in
set_option maxRecDepth 100000 in
theorem sum_bad1 (e2 : Int) (l m : List S58) (L M X : List S72) (hX : L ++ M = X) (kl km : Nat) (hkl : demesnelaw36_Of.f kl l = some L) (hkm : demesnelaw36_Of.f km m = some M) (hl60 : l.length ≤ 60) (hm60 : m.length ≤ 60) (hL60 : L.length ≤ 60) (hM60 : M.length ≤ 60)
    (ca cb cc : List Value) (la : ca.length = 338) (lb : cb.length = 338) (lc : cc.length = 338) (oa : ca.toArray.all (·.oneCell') = true) (ob : cb.toArray.all (·.oneCell') = true) (oc : cc.toArray.all (·.oneCell') = true)
    (hA : OfIs L ca 2) (hB : OfIs M cb e2) (hC : OfIs X cc 2)
    (A0 A1 : Option Addr) (c0 c1 : Nat) (w : World) (hr0 : Kd.C k58 w A0 l.length l) (hc0 : l.length ≤ c0) (hr1 : Kd.C k58 w A1 m.length m) (hc1 : m.length ≤ c1) :
    Calls Try.prog 7 #[.slice A0 l.length c0, .slice A1 m.length c1] w fun e w' => (e = .returned (.bool true) ∧ Below w.heap.size w w') := by
  have HR0 := Aside0.mk hr0
  have HR1 := Aside0.mk hr1
  have HC0 := Aside0.mk hc0
  have HC1 := Aside0.mk hc1
  have HKL := Aside0.mk hkl
  have HKM := Aside0.mk hkm
  have HA := Aside0.mk hA
  have HX := Aside0.mk hX
  have HB := Aside0.mk hB
  have HC := Aside0.mk hC
  have LA := Aside0.mk la
  have LB := Aside0.mk lb
  have LC := Aside0.mk lc
  have OA := Aside0.mk oa
  have OB := Aside0.mk ob
  have OC := Aside0.mk oc
  have HN := Aside0.mk (And.intro hL60 hM60)
  have t1 : decide ((60 : Int) < (l.length : Int)) = false := decide_eq_false (by omega)
  have t2 : decide (60 < l.length) = false := decide_eq_false (by omega)
  have t3 : decide ((60 : Int) < (m.length : Int)) = false := decide_eq_false (by omega)
  have t4 : decide (60 < m.length) = false := decide_eq_false (by omega)
  clear hX hr0 hr1 hc0 hc1 hkl hkm hA hB hC la lb lc oa ob oc hl60 hm60 hL60 hM60
  go_enter Try.func7, Try.ntmps7
  go_wp2_with (first
    | (go_at_call 22; refine (demesnelaw36_Of.calls kl A0 c0 l L _ HR0.out HC0.out HKL.out).mono ?_; rintro e w1 ⟨v1, rfl, hv1, hb1⟩; obtain ⟨A2, c2, rfl, hc2, hC2⟩ := Kd.R_reads hv1; have HC2 := Aside0.mk hC2; have HB1 := Aside0.mk hb1; clear hv1 hC2 hb1)
    | (go_at_call 21; refine (HA.out A2 c2 _ HC2.out hc2).mono ?_; rintro e w2 ⟨rfl, hb2⟩; have HB2 := Aside0.mk (below_then HB1.out HB1.out.size hb2); clear hb2 HC2 HB1 hc2)
    | ((with_reducible refine gate_dst (N := 5) rfl ?_); refine alloc_event rfl (t := 48) rfl info48 ?_; intro g5 hg5 w3 hh3 hb3; have HG5 := Aside0.mk hg5; have HH3 := Aside0.mk hh3; have HB3 := Aside0.mk (below_then HB2.out HB2.out.size hb3); clear hg5 hh3 hb3)
    | ((with_reducible refine gate_store (t := 48) (p := 5) rfl ?_); refine store_agg_event rfl (ty := 48) rfl rfl (g := g5) (off := 0) (vs := ca.toArray) rfl rfl HH3.out (fitA LA.out) (sizeA LA.out) OA.out ?_; intro w4 hh4 hs4; rw [wholeA LA.out] at hh4; have HA4 := Aside0.mk hh4; have HB4 := Aside0.mk (hs4.below HB3.out (by rw [HG5.out]; exact HB2.out.size)); clear hh4 hs4 HH3 HB3 HB2 HG5; refine Aside0.out ?_))
  refine ⟨?_⟩
  go_wp2_with (first
    | (go_at_call 22; refine (demesnelaw36_Of.calls km A1 c1 m M _ (Kd.C_below HR1.out HB4.out) HC1.out HKM.out).mono ?_; rintro e w5 ⟨v5, rfl, hv5, hb5⟩; obtain ⟨A3, c3, rfl, hc3, hC3⟩ := Kd.R_reads hv5; have HC3 := Aside0.mk hC3; have HA5 := Aside0.mk (HA4.out.below hb5); have HB5 := Aside0.mk (below_then HB4.out HB4.out.size hb5); clear hv5 hC3 hb5 HA4 HB4)
    | (go_at_call 21; refine (HB.out A3 c3 _ HC3.out hc3).mono ?_; rintro e w6 ⟨rfl, hb6⟩; have HA6 := Aside0.mk (HA5.out.below hb6); have HB6 := Aside0.mk (below_then HB5.out HB5.out.size hb6); clear hb6 HC3 HB5 HA5 hc3)
    | ((with_reducible refine gate_dst (N := 7) rfl ?_); refine alloc_event rfl (t := 48) rfl info48 ?_; intro g7 hg7 w7 hh7 hb7; have HG7 := Aside0.mk hg7; have HH7 := Aside0.mk hh7; have HA7 := Aside0.mk (HA6.out.below hb7); have HB7 := Aside0.mk (below_then HB6.out HB6.out.size hb7); clear hg7 hh7 hb7)
    | ((with_reducible refine gate_store (t := 48) (p := 7) rfl ?_); refine store_agg_event rfl (ty := 48) rfl rfl (g := g7) (off := 0) (vs := cb.toArray) rfl rfl HH7.out (fitA LB.out) (sizeA LB.out) OB.out ?_; intro w8 hh8 hs8; rw [wholeA LB.out] at hh8; have HD8 := Aside0.mk hh8; have HA8 := Aside0.mk (hs8.holds HA7.out (by rw [HG7.out]; exact Nat.ne_of_lt HA6.out.lt)); have HB8 := Aside0.mk (hs8.below HB7.out (by rw [HG7.out]; exact HB6.out.size)); clear hh8 hs8 HH7 HB7 HB6 HG7 HA6 HA7; refine Aside0.out ?_))
  refine ⟨?_⟩
  go_wp2_with (first
    | (go_at_call 22; refine (demesnelaw36_Of.calls km A1 c1 m M _ (Kd.C_below HR1.out HB9.out) HC1.out HKM.out).mono ?_; rintro e wa ⟨va, rfl, hva, hba⟩; obtain ⟨A4, c4, rfl, hc4, hC4⟩ := Kd.R_reads hva; have HCa := Aside0.mk hC4; have HVa := Aside0.mk (Kd.R_below HV9.out hba); have HXa := Aside0.mk (below_then HX9.out HX9.out.size hba); clear hva hC4 hba HV9 HX9 HB9)
    | (go_at_call 22; refine (demesnelaw36_Of.calls kl A0 c0 l L _ (Kd.C_below HR0.out HB8.out) HC0.out HKL.out).mono ?_; rintro e w9 ⟨v9, rfl, hv9, hb9⟩; have HV9 := Aside0.mk hv9; have HX9 := Aside0.mk hb9; have HB9 := Aside0.mk (below_then HB8.out HB8.out.size hb9); clear hv9 hb9)
    | ((with_reducible refine gate_dst (N := 45) rfl ?_); at_builtin; refine R_append_row k72 (w0 := w8) w8.heap.size rfl (.tmp 42) (.tmp 44) 51 72 (.agg #[.int .u8 0, .int .u8 0, .int .u8 0, .int .u8 0, .int .u8 0, .int .i64 0, .int .i64 0, .int .u64 0, .int .i64 0, .int .i64 0, .int .i64 0]) 56 rfl Try.underlying51 info72b z72a z72b (by decide) v9 L M A4 M.length c4 (fun _ => True) rfl rfl (fun W1 ok' q cs h => flat72 W1 ok' q cs h) (fun _ _ => trivial) HVa.out HCa.out HXa.out HXa.out.size (by have := HN.out; omega) ?_; intro vb wb hob hbb hgb hatb; rw [HX.out] at hob; obtain ⟨A5, c5, rfl, hc5, hC5⟩ := Kd.R_reads hob; have HC5 := Aside0.mk hC5; have HAb := Aside0.mk (HA8.out.below hbb); have HDb := Aside0.mk (HD8.out.below hbb); have HBb := Aside0.mk (below_then HB8.out HB8.out.size hbb); clear hob hbb hgb hatb hC5 HVa HCa HXa hc4)
    | (go_at_call 21; refine (HC.out A5 c5 _ HC5.out hc5).mono ?_; rintro e wd ⟨rfl, hbd⟩; have HAd := Aside0.mk (HAb.out.below hbd); have HDd := Aside0.mk (HDb.out.below hbd); have HBd := Aside0.mk (below_then HBb.out HBb.out.size hbd); clear hbd HC5 HAb HDb HBb HA8 HD8 HB8 hc5)
    | ((with_reducible refine gate_dst (N := 9) rfl ?_); refine alloc_event rfl (t := 48) rfl info48 ?_; intro g9 hg9 we hhe hbe; have HG9 := Aside0.mk hg9; have HHe := Aside0.mk hhe; have HAe := Aside0.mk (HAd.out.below hbe); have HDe := Aside0.mk (HDd.out.below hbe); have HBe := Aside0.mk (below_then HBd.out HBd.out.size hbe); clear hg9 hhe hbe)
    | ((with_reducible refine gate_store (t := 48) (p := 9) rfl ?_); refine store_agg_event rfl (ty := 48) rfl rfl (g := g9) (off := 0) (vs := cc.toArray) rfl rfl HHe.out (fitA LC.out) (sizeA LC.out) OC.out ?_; intro wf hhf hsf; rw [wholeA LC.out] at hhf; have HEf := Aside0.mk hhf; have HAf := Aside0.mk (hsf.holds HAe.out (by rw [HG9.out]; exact Nat.ne_of_lt HAd.out.lt)); have HDf := Aside0.mk (hsf.holds HDe.out (by rw [HG9.out]; exact Nat.ne_of_lt HDd.out.lt)); have HBf := Aside0.mk (hsf.below HBe.out (by rw [HG9.out]; exact HBd.out.size)); clear hhf hsf HHe HAe HDe HBe HAd HDd HBd HG9; refine Aside0.out ?_))
  refine ⟨?_⟩
  clear HA HB HC LA LB LC OA OB OC HKL HKM HR0 HR1 HC0 HC1
  go_wp2_with (go_at_call 20; refine (wakes_calls _).mono ?_; rintro e wg ⟨rfl, hbg⟩)
  go_ret
  exact ⟨rfl, below_then HBf.out HBf.out.size hbg⟩

set_option maxHeartbeats 4000000 in
set_option maxRecDepth 100000 in
theorem sum_bad2 (e2 : Int) (l m : List S58) (L M X : List S72) (hX : L ++ M = X) (kl km : Nat) (hkl : demesnelaw36_Of.f kl l = some L) (hkm : demesnelaw36_Of.f km m = some M) (hl60 : l.length ≤ 60) (hm60 : m.length ≤ 60) (hL60 : L.length ≤ 60) (hM60 : M.length ≤ 60)
    (ca cb cc : List Value) (la : ca.length = 338) (lb : cb.length = 338) (lc : cc.length = 338) (oa : ca.toArray.all (·.oneCell') = true) (ob : cb.toArray.all (·.oneCell') = true) (oc : cc.toArray.all (·.oneCell') = true)
    (hA : OfIs L ca 0) (hB : OfIs M cb 2) (hC : OfIs X cc 2)
    (A0 A1 : Option Addr) (c0 c1 : Nat) (w : World) (hr0 : Kd.C k58 w A0 l.length l) (hc0 : l.length ≤ c0) (hr1 : Kd.C k58 w A1 m.length m) (hc1 : m.length ≤ c1) :
    Calls Try.prog 7 #[.slice A0 l.length c0, .slice A1 m.length c1] w fun e w' => (e = .returned (.bool true) ∧ Below w.heap.size w w') := by
  have HR0 := Aside0.mk hr0
  have HR1 := Aside0.mk hr1
  have HC0 := Aside0.mk hc0
  have HC1 := Aside0.mk hc1
  have HKL := Aside0.mk hkl
  have HKM := Aside0.mk hkm
  have HA := Aside0.mk hA
  have HX := Aside0.mk hX
  have HB := Aside0.mk hB
  have HC := Aside0.mk hC
  have LA := Aside0.mk la
  have LB := Aside0.mk lb
  have LC := Aside0.mk lc
  have OA := Aside0.mk oa
  have OB := Aside0.mk ob
  have OC := Aside0.mk oc
  have HN := Aside0.mk (And.intro hL60 hM60)
  have t1 : decide ((60 : Int) < (l.length : Int)) = false := decide_eq_false (by omega)
  have t2 : decide (60 < l.length) = false := decide_eq_false (by omega)
  have t3 : decide ((60 : Int) < (m.length : Int)) = false := decide_eq_false (by omega)
  have t4 : decide (60 < m.length) = false := decide_eq_false (by omega)
  clear hX hr0 hr1 hc0 hc1 hkl hkm hA hB hC la lb lc oa ob oc hl60 hm60 hL60 hM60
  go_enter Try.func7, Try.ntmps7
  go_wp2_with (first
    | (go_at_call 22; refine (demesnelaw36_Of.calls kl A0 c0 l L _ HR0.out HC0.out HKL.out).mono ?_; rintro e w1 ⟨v1, rfl, hv1, hb1⟩; obtain ⟨A2, c2, rfl, hc2, hC2⟩ := Kd.R_reads hv1; have HC2 := Aside0.mk hC2; have HB1 := Aside0.mk hb1; clear hv1 hC2 hb1)
    | (go_at_call 21; refine (HA.out A2 c2 _ HC2.out hc2).mono ?_; rintro e w2 ⟨rfl, hb2⟩; have HB2 := Aside0.mk (below_then HB1.out HB1.out.size hb2); clear hb2 HC2 HB1 hc2)
    | ((with_reducible refine gate_dst (N := 5) rfl ?_); refine alloc_event rfl (t := 48) rfl info48 ?_; intro g5 hg5 w3 hh3 hb3; have HG5 := Aside0.mk hg5; have HH3 := Aside0.mk hh3; have HB3 := Aside0.mk (below_then HB2.out HB2.out.size hb3); clear hg5 hh3 hb3)
    | ((with_reducible refine gate_store (t := 48) (p := 5) rfl ?_); refine store_agg_event rfl (ty := 48) rfl rfl (g := g5) (off := 0) (vs := ca.toArray) rfl rfl HH3.out (fitA LA.out) (sizeA LA.out) OA.out ?_; intro w4 hh4 hs4; rw [wholeA LA.out] at hh4; have HA4 := Aside0.mk hh4; have HB4 := Aside0.mk (hs4.below HB3.out (by rw [HG5.out]; exact HB2.out.size)); clear hh4 hs4 HH3 HB3 HB2 HG5; refine Aside0.out ?_))
  refine ⟨?_⟩
  go_wp2_with (first
    | (go_at_call 22; refine (demesnelaw36_Of.calls km A1 c1 m M _ (Kd.C_below HR1.out HB4.out) HC1.out HKM.out).mono ?_; rintro e w5 ⟨v5, rfl, hv5, hb5⟩; obtain ⟨A3, c3, rfl, hc3, hC3⟩ := Kd.R_reads hv5; have HC3 := Aside0.mk hC3; have HA5 := Aside0.mk (HA4.out.below hb5); have HB5 := Aside0.mk (below_then HB4.out HB4.out.size hb5); clear hv5 hC3 hb5 HA4 HB4)
    | (go_at_call 21; refine (HB.out A3 c3 _ HC3.out hc3).mono ?_; rintro e w6 ⟨rfl, hb6⟩; have HA6 := Aside0.mk (HA5.out.below hb6); have HB6 := Aside0.mk (below_then HB5.out HB5.out.size hb6); clear hb6 HC3 HB5 HA5 hc3)
    | ((with_reducible refine gate_dst (N := 7) rfl ?_); refine alloc_event rfl (t := 48) rfl info48 ?_; intro g7 hg7 w7 hh7 hb7; have HG7 := Aside0.mk hg7; have HH7 := Aside0.mk hh7; have HA7 := Aside0.mk (HA6.out.below hb7); have HB7 := Aside0.mk (below_then HB6.out HB6.out.size hb7); clear hg7 hh7 hb7)
    | ((with_reducible refine gate_store (t := 48) (p := 7) rfl ?_); refine store_agg_event rfl (ty := 48) rfl rfl (g := g7) (off := 0) (vs := cb.toArray) rfl rfl HH7.out (fitA LB.out) (sizeA LB.out) OB.out ?_; intro w8 hh8 hs8; rw [wholeA LB.out] at hh8; have HD8 := Aside0.mk hh8; have HA8 := Aside0.mk (hs8.holds HA7.out (by rw [HG7.out]; exact Nat.ne_of_lt HA6.out.lt)); have HB8 := Aside0.mk (hs8.below HB7.out (by rw [HG7.out]; exact HB6.out.size)); clear hh8 hs8 HH7 HB7 HB6 HG7 HA6 HA7; refine Aside0.out ?_))
  refine ⟨?_⟩
  go_wp2_with (first
    | (go_at_call 22; refine (demesnelaw36_Of.calls km A1 c1 m M _ (Kd.C_below HR1.out HB9.out) HC1.out HKM.out).mono ?_; rintro e wa ⟨va, rfl, hva, hba⟩; obtain ⟨A4, c4, rfl, hc4, hC4⟩ := Kd.R_reads hva; have HCa := Aside0.mk hC4; have HVa := Aside0.mk (Kd.R_below HV9.out hba); have HXa := Aside0.mk (below_then HX9.out HX9.out.size hba); clear hva hC4 hba HV9 HX9 HB9)
    | (go_at_call 22; refine (demesnelaw36_Of.calls kl A0 c0 l L _ (Kd.C_below HR0.out HB8.out) HC0.out HKL.out).mono ?_; rintro e w9 ⟨v9, rfl, hv9, hb9⟩; have HV9 := Aside0.mk hv9; have HX9 := Aside0.mk hb9; have HB9 := Aside0.mk (below_then HB8.out HB8.out.size hb9); clear hv9 hb9)
    | ((with_reducible refine gate_dst (N := 45) rfl ?_); at_builtin; refine R_append_row k72 (w0 := w8) w8.heap.size rfl (.tmp 42) (.tmp 44) 51 72 (.agg #[.int .u8 0, .int .u8 0, .int .u8 0, .int .u8 0, .int .u8 0, .int .i64 0, .int .i64 0, .int .u64 0, .int .i64 0, .int .i64 0, .int .i64 0]) 56 rfl Try.underlying51 info72b z72a z72b (by decide) v9 L M A4 M.length c4 (fun _ => True) rfl rfl (fun W1 ok' q cs h => flat72 W1 ok' q cs h) (fun _ _ => trivial) HVa.out HCa.out HXa.out HXa.out.size (by have := HN.out; omega) ?_; intro vb wb hob hbb hgb hatb; rw [HX.out] at hob; obtain ⟨A5, c5, rfl, hc5, hC5⟩ := Kd.R_reads hob; have HC5 := Aside0.mk hC5; have HAb := Aside0.mk (HA8.out.below hbb); have HDb := Aside0.mk (HD8.out.below hbb); have HBb := Aside0.mk (below_then HB8.out HB8.out.size hbb); clear hob hbb hgb hatb hC5 HVa HCa HXa hc4)
    | (go_at_call 21; refine (HC.out A5 c5 _ HC5.out hc5).mono ?_; rintro e wd ⟨rfl, hbd⟩; have HAd := Aside0.mk (HAb.out.below hbd); have HDd := Aside0.mk (HDb.out.below hbd); have HBd := Aside0.mk (below_then HBb.out HBb.out.size hbd); clear hbd HC5 HAb HDb HBb HA8 HD8 HB8 hc5)
    | ((with_reducible refine gate_dst (N := 9) rfl ?_); refine alloc_event rfl (t := 48) rfl info48 ?_; intro g9 hg9 we hhe hbe; have HG9 := Aside0.mk hg9; have HHe := Aside0.mk hhe; have HAe := Aside0.mk (HAd.out.below hbe); have HDe := Aside0.mk (HDd.out.below hbe); have HBe := Aside0.mk (below_then HBd.out HBd.out.size hbe); clear hg9 hhe hbe)
    | ((with_reducible refine gate_store (t := 48) (p := 9) rfl ?_); refine store_agg_event rfl (ty := 48) rfl rfl (g := g9) (off := 0) (vs := cc.toArray) rfl rfl HHe.out (fitA LC.out) (sizeA LC.out) OC.out ?_; intro wf hhf hsf; rw [wholeA LC.out] at hhf; have HEf := Aside0.mk hhf; have HAf := Aside0.mk (hsf.holds HAe.out (by rw [HG9.out]; exact Nat.ne_of_lt HAd.out.lt)); have HDf := Aside0.mk (hsf.holds HDe.out (by rw [HG9.out]; exact Nat.ne_of_lt HDd.out.lt)); have HBf := Aside0.mk (hsf.below HBe.out (by rw [HG9.out]; exact HBd.out.size)); clear hhf hsf HHe HAe HDe HBe HAd HDd HBd HG9; refine Aside0.out ?_))
  refine ⟨?_⟩
  clear HA HB HC LA LB LC OA OB OC HKL HKM HR0 HR1 HC0 HC1
  go_wp2_with (go_at_call 20; refine (wakes_calls _).mono ?_; rintro e wg ⟨rfl, hbg⟩)
  go_ret
  exact ⟨rfl, below_then HBf.out HBf.out.size hbg⟩
end Go.Proofs.Ytgojfecpknonlaa.St
