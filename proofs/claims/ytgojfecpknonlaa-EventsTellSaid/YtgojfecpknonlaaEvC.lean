/- slices.DeleteFunc over a row of events of the call's own. -/
import Derived.Test.YtgojfecpknonlaaEvB
namespace Go.Proofs.Ytgojfecpknonlaa.Ev
open Go.RowKit Go.Proofs.YtgojfecpknonlaaW.PrintWords Go.Proofs.YtgojfecpknonlaaW.PrintLast Go.Proofs.YtgojfecpknonlaaW.PrintMore
open Go.Proofs.Ytgojfecpknonlaa.Own Go.Proofs.Ytgojfecpknonlaa.PSt
set_option linter.unusedVariables false
set_option linter.unusedSimpArgs false

/-- Where the loop stands: a are kept, j are looked at. -/
structure DelAt (w W : World) (g : Nat) (p : S72 → Bool) (l : List S72) (a j : Nat) (zs : List S72) : Prop where
  len : zs.length = l.length
  lt : a < j
  le : j ≤ l.length
  kept : zs.take a = (l.take j).filter (fun d => !p d)
  rest : zs.drop j = l.drop j
  row : Row W g zs
  grown : w.grownBy W (some g)
theorem DelAt.get {w W : World} {g : Nat} {p : S72 → Bool} {l : List S72} {a j : Nat} {zs : List S72} (h : DelAt w W g p l a j zs) (hj : j < l.length) : ∃ d, l[j]? = some d ∧ zs[j]? = some d := by
  refine ⟨l[j], List.getElem?_eq_getElem hj, ?_⟩
  have h1 : (zs.drop j)[0]? = (l.drop j)[0]? := by rw [h.rest]
  rw [List.getElem?_drop, List.getElem?_drop, Nat.add_zero, List.getElem?_eq_getElem hj] at h1
  exact h1
theorem DelAt.skip {w W W1 : World} {g : Nat} {p : S72 → Bool} {l : List S72} {a j : Nat} {zs : List S72} {d : S72} (h : DelAt w W g p l a j zs) (hd : l[j]? = some d) (hp : p d = true) (hb : Below W.heap.size W W1) : DelAt w W1 g p l a (j + 1) zs := by
  have hj := (List.getElem?_eq_some_iff.1 hd).1
  refine ⟨h.len, by have := h.lt; omega, hj, ?_, ?_, h.row.below hb, grown_of h.grown hb⟩
  · rw [h.kept, List.take_add_one, hd]
    simp [hp]
  · rw [← List.drop_drop (i := 1) (j := j), h.rest, List.drop_drop]
theorem DelAt.keep {w W W1 W2 : World} {g : Nat} {p : S72 → Bool} {l : List S72} {a j : Nat} {zs : List S72} {d : S72} (h : DelAt w W g p l a j zs) (hd : l[j]? = some d) (hp : p d = false) (hb : Below W.heap.size W W1) (hr : Row W2 g (zs.set a d)) (hs : Stored W1 W2 g) : DelAt w W2 g p l (a + 1) (j + 1) (zs.set a d) := by
  have hj := (List.getElem?_eq_some_iff.1 hd).1
  have hlt := h.lt
  have hle := h.le
  refine ⟨by rw [List.length_set]; exact h.len, by omega, hj, ?_, ?_, hr, grown_stored (grown_of h.grown hb) hs⟩
  · rw [List.take_add_one, List.getElem?_set_self (by rw [h.len]; omega), List.take_set, List.set_eq_of_length_le (by rw [List.length_take]; omega), h.kept, List.take_add_one, hd]
    simp [hp]
  · rw [List.drop_set, if_pos (by omega), ← List.drop_drop (i := 1) (j := j), h.rest, List.drop_drop]
theorem del_start {w W : World} {g : Nat} {p : S72 → Bool} {l : List S72} {i : Nat} (hi : i < l.length) (hk : (l.take (i + 1)).filter (fun d => !p d) = l.take i) (hr : Row w g l) (hb : Below w.heap.size w W) : DelAt w W g p l i (i + 1) l :=
  ⟨rfl, by omega, hi, hk.symm, rfl, hr.below hb, ⟨hb.os, hb.tape, hb.output, hb.size, fun k hk _ => hb.block k hk⟩⟩

set_option maxHeartbeats 4000000 in
set_option maxRecDepth 100000 in
theorem delete_some (f : FuncId) (lb : Array Value) (B : Nat) (W0 : World) (p : S72 → Bool) (hP : Pred f lb B W0 p) (l : List S72) (g c : Nat) (w : World) (hb0 : Below B W0 w) (hB : B ≤ g) (hr : Row w g l) (hc : l.length ≤ c) (hll : l.length < 4611686018427387904) (hn : l.any p = true) :
    Calls Try.prog 107 #[.slice (some ⟨g, 0, none⟩) l.length c, .func (.func f) #[] lb] w (Del w g (l.filter (fun d => !p d)) c) := by
  have hgs := hr.lt
  have HC := Aside0.mk (index_calls f lb B W0 p hP l _ c w hb0 (by omega) (hr.C (by omega)) hc hll)
  obtain ⟨i, hi, hil, hik⟩ := firstI_some hn
  have HI := Aside0.mk hi
  have HR := Aside0.mk hr
  have HK := Aside0.mk hik
  have HB0 := Aside0.mk hb0
  have HBG := Aside0.mk hB
  have HBS := Aside0.mk (show B ≤ w.heap.size by omega)
  have HCL := Aside0.mk hP.calls
  have HCC := Aside0.mk hc
  have en := hP.enters
  have HIL := Aside0.mk hil
  have n1 : ((i : Int) == -1) = false := by rw [beq_eq_false_iff_ne]; omega
  clear hP hb0 hB hr hc hn hi hik hgs hil
  go_enter Try.func107, Try.ntmps107
  go_wp2_with (go_at_call 94; refine HC.out.mono ?_; rintro e w1 ⟨rfl, hb1⟩; rw [HI.out]; have HB1 := Aside0.mk hb1; clear hb1)
  go_loopg [5, 6] (l.length - (i + 1)) (fun kq v5 v6 w' => ∃ (a j : Nat) (zs : List S72), v5 = .int .i64 a ∧ v6 = .int .i64 j ∧ j + kq = l.length ∧ Aside0 (DelAt w w' g p l a j zs))
  case atStart => exact ⟨i, i + 1, l, rfl, by have := HIL.out; rw [wrap_ok (by omega) (by omega)]; rfl, by have := HIL.out; omega, ⟨del_start HIL.out HK.out HR.out HB1.out⟩⟩
  case round =>
    clear HC HI HK HB1 HIL
    obtain ⟨a, j, zs, rfl, rfl, hj, HD⟩ := hrel
    cases gk with
    | zero =>
      obtain rfl : j = l.length := by omega
      clear hj
      have c1 : decide (((l.length : Nat) : Int) < (l.length : Int)) = false := decide_eq_false (by omega)
      have halt := HD.out.lt
      have p1 : (0 : Int) ≤ (a : Int) := by omega
      have p2 : (a : Int) ≤ (l.length : Int) := by omega
      have p3 : (a : Int) ≤ (c : Int) := by have := HCC.out; omega
      have p4 : ¬ (c = a) := by have := HCC.out; omega
      have p5 : a ≤ l.length := by omega
      have p6 : a ≤ c := by have := HCC.out; omega
      have HA := Aside0.mk halt
      have HN : Aside0 (a + (l.length - a) = zs.length) := ⟨by rw [HD.out.len]; omega⟩
      have HM : Aside0 (0 < l.length - a) := ⟨by omega⟩
      clear halt en
      go_wp2_with ((with_reducible refine gate_clear (x := 38) rfl ?_); refine clear_event rfl rfl rfl HD.out.row HN.out HM.out ?_; intro w6 hr6 hs6; have HR6 := Aside0.mk hr6; have HS6 := Aside0.mk hs6; clear hr6 hs6)
      go_ret
      have hk := HD.out.kept
      rw [List.take_length] at hk
      have hlen : (l.filter (fun d => !p d)).length = a := by rw [← hk, List.length_take, HD.out.len]; omega
      refine ⟨?_, by rw [← hk]; exact HR6.out, grown_stored HD.out.grown HS6.out⟩
      rw [hlen]
      rfl
    | succ k1 =>
      have c1 : decide ((j : Int) < (l.length : Int)) = true := decide_eq_true (by omega)
      have hjl : j < l.length := by omega
      obtain ⟨d, hd, hz⟩ := HD.out.get hjl
      have hzl := HD.out.len
      have halt := HD.out.lt
      have HZ := Aside0.mk hz
      have HDD := Aside0.mk hd
      have HJ := Aside0.mk hj
      have HBB := Aside0.mk (below_grown HB0.out HD.out.grown HBG.out HBS.out)
      have HGS := Aside0.mk HD.out.row.lt
      have HAZ := Aside0.mk (show a < zs.length by omega)
      have p1 := eq_true (show (0 : Int) ≤ ((j : Nat) : Int) by omega)
      have q1 := eq_true (show ((j : Nat) : Int) < (l.length : Int) by omega)
      have q2 := eq_true hjl
      have p3 := eq_true (show (0 : Int) ≤ ((a : Nat) : Int) by omega)
      have q3 := eq_true (show ((a : Nat) : Int) < (l.length : Int) by omega)
      have q4 := eq_true (show a < l.length by omega)
      clear hj hjl hz hd hzl halt
      cases hp : p d with
      | true =>
        go_wp2_with (first
          | ((with_reducible refine gate_dst (N := 25) rfl ?_); refine row_load HD.out.row HZ.out rfl rfl rfl ?_)
          | ((with_reducible refine gate_dst (N := 7) rfl ?_); refine alloc_event rfl (t := 72) rfl info72 ?_; intro g7 hg7 w3 hh3 hb3; have HG7 := Aside0.mk hg7; have H7 := Aside0.mk hh3; have HB3 := Aside0.mk hb3; clear hg7 hh3 hb3)
          | ((with_reducible refine gate_store (t := 72) (p := 7) rfl ?_); (refine store_agg_event rfl (ty := 72) rfl rfl (g := g7) (off := 0) (vs := (ec d).toArray) rfl rfl H7.out (Nat.le_refl 11) size72 (one11 d) ?_); intro w4 hh4 hs4; have H74 := Aside0.mk (show Holds w4 g7 72 (ec d) from hh4); have HB4 := Aside0.mk (hs4.below HB3.out (Nat.le_of_eq HG7.out.symm)); clear hh4 hs4 H7 HB3)
          | ((with_reducible refine gate_dst (N := 27) rfl ?_); (refine load_event rfl (ty := 72) rfl (g := g7) (off := 0) (seg := ec d) rfl H74.out rfl Try.underlying72 rfl size72 ?_))
          | ((refine (HCL.out _ d (HBB.out.trans (HB4.out.mono (Nat.le_trans HBG.out (Nat.le_of_lt HGS.out)))) (Nat.le_trans HBG.out (Nat.le_trans (Nat.le_of_lt HGS.out) HB4.out.size))).mono ?_); rintro e w5 ⟨rfl, hb5⟩; rw [hp]; have HB5 := Aside0.mk (below_then HB4.out HB4.out.size hb5); clear hb5))
        go_roundg k1
        case measure => have := HJ.out; omega
        case rel => exact ⟨a, j + 1, zs, rfl, by have := HJ.out; rw [wrap_ok (by omega) (by omega)]; rfl, by have := HJ.out; omega, ⟨HD.out.skip HDD.out hp HB5.out⟩⟩
      | false =>
        go_wp2_with (first
          | ((with_reducible refine gate_dst (N := 25) rfl ?_); refine row_load HD.out.row HZ.out rfl rfl rfl ?_)
          | ((with_reducible refine gate_dst (N := 7) rfl ?_); refine alloc_event rfl (t := 72) rfl info72 ?_; intro g7 hg7 w3 hh3 hb3; have HG7 := Aside0.mk hg7; have H7 := Aside0.mk hh3; have HB3 := Aside0.mk hb3; clear hg7 hh3 hb3)
          | ((with_reducible refine gate_store (t := 72) (p := 7) rfl ?_); (refine store_agg_event rfl (ty := 72) rfl rfl (g := g7) (off := 0) (vs := (ec d).toArray) rfl rfl H7.out (Nat.le_refl 11) size72 (one11 d) ?_); intro w4 hh4 hs4; have H74 := Aside0.mk (show Holds w4 g7 72 (ec d) from hh4); have HB4 := Aside0.mk (hs4.below HB3.out (Nat.le_of_eq HG7.out.symm)); clear hh4 hs4 H7 HB3)
          | ((with_reducible refine gate_dst (N := 27) rfl ?_); (refine load_event rfl (ty := 72) rfl (g := g7) (off := 0) (seg := ec d) rfl H74.out rfl Try.underlying72 rfl size72 ?_))
          | ((with_reducible refine gate_dst (N := 32) rfl ?_); (refine load_event rfl (ty := 72) rfl (g := g7) (off := 0) (seg := ec d) rfl H75.out rfl Try.underlying72 rfl size72 ?_))
          | ((with_reducible refine gate_store (t := 72) (p := 33) rfl ?_); (refine row_store (d := d) (HD.out.row.below HB5.out) HAZ.out rfl rfl rfl rfl rfl ?_); intro w6 hr6 hs6; have HR6 := Aside0.mk hr6; have HS6 := Aside0.mk hs6; clear hr6 hs6)
          | ((refine (HCL.out _ d (HBB.out.trans (HB4.out.mono (Nat.le_trans HBG.out (Nat.le_of_lt HGS.out)))) (Nat.le_trans HBG.out (Nat.le_trans (Nat.le_of_lt HGS.out) HB4.out.size))).mono ?_); rintro e w5 ⟨rfl, hb5⟩; rw [hp]; have HB5 := Aside0.mk (below_then HB4.out HB4.out.size hb5); have H75 := Aside0.mk (H74.out.below hb5); clear hb5))
        go_roundg k1
        case measure => have := HJ.out; omega
        case rel => exact ⟨a + 1, j + 1, zs.set a d, by have := HAZ.out; have := HD.out.len; rw [wrap_ok (by omega) (by omega)]; rfl, by have := HJ.out; rw [wrap_ok (by omega) (by omega)]; rfl, by have := HJ.out; omega, ⟨HD.out.keep HDD.out hp HB5.out HR6.out HS6.out⟩⟩
end Go.Proofs.Ytgojfecpknonlaa.Ev

