/- The stats of events: function 21, walked where all events may be. -/
import Derived.Test.YtgojfecpknonlaaSt5
namespace Go.Proofs.Ytgojfecpknonlaa.St
open Go.RowKit Go.Proofs.YtgojfecpknonlaaW.PrintWords Go.Proofs.YtgojfecpknonlaaW.PrintLast Go.Proofs.YtgojfecpknonlaaW.PrintMore
open Go.Proofs.Ytgojfecpknonlaa.Own Go.Proofs.Ytgojfecpknonlaa.PSt
set_option linter.unusedVariables false
set_option linter.unusedSimpArgs false

def len72 (d : S72) : Int := mx 0 (wrap64 (wrap64 (d.f5 - d.f3) + 1))
def addT (t : Tl) (d : S72) : Tl := ⟨wrap64 (t.c + 1), if d.f2.f0 = 0 then t.e else wrap64 (t.e + 1), wrap64 (t.m + len72 d), mx t.l (len72 d)⟩
theorem addT_is (t : Tl) (d : S72) : stats_Tally_Add.f t.c t.e t.m t.l d.f0 d.f1.f0 d.f1.f1 d.f1.f2 d.f1.f3 d.f2.f0 d.f2.f1 d.f2.f2 d.f3 d.f4 d.f5 = some ((addT t d).c, (addT t d).e, (addT t d).m, (addT t d).l) := by
  unfold stats_Tally_Add.f stats_length.f addT
  simp only [Option.bind_some]
  split <;> rfl
def upd (ts : List Tl) (k : Nat) (d : S72) : List Tl := ts.set k (addT (ts.getD k tl0) d)
theorem upd_length (ts : List Tl) (k : Nat) (d : S72) : (upd ts k d).length = ts.length := by simp [upd]
/-- The place of an event's agent. -/
def ag (d : S72) : Nat := min d.f0.toNat 64
def doN (d : S72) : Nat := d.f1.f0.toNat
def bk (d : S72) : Nat := min 16 (Lib.bitLen (len72 d).toNat)
def tstep (ts : List Tl) (d : S72) : List Tl := upd (upd (upd ts 0 d) (1 + doN d) d) (15 + ag d) d
def bstep (bs : List Int) (d : S72) : List Int := bs.set (bk d) (wrap64 (bs.getD (bk d) 0 + 1))
def tsOf (l : List S72) : List Tl := l.foldl tstep (List.replicate 80 tl0)
def bsOf (l : List S72) : List Int := l.foldl bstep (List.replicate 17 0)
theorem tstep_length (ts : List Tl) (d : S72) : (tstep ts d).length = ts.length := by simp [tstep, upd_length]
theorem bstep_length (bs : List Int) (d : S72) : (bstep bs d).length = bs.length := by simp [bstep]
theorem foldl_tlen : ∀ (l : List S72) (ts : List Tl), (l.foldl tstep ts).length = ts.length
  | [], _ => rfl
  | d :: l, ts => by rw [List.foldl_cons, foldl_tlen l, tstep_length]
theorem foldl_blen : ∀ (l : List S72) (bs : List Int), (l.foldl bstep bs).length = bs.length
  | [], _ => rfl
  | d :: l, bs => by rw [List.foldl_cons, foldl_blen l, bstep_length]
theorem tsOf_length (l : List S72) : (tsOf l).length = 80 := by rw [tsOf, foldl_tlen, List.length_replicate]
theorem bsOf_length (l : List S72) : (bsOf l).length = 17 := by rw [bsOf, foldl_blen, List.length_replicate]
theorem tsOf_succ (l : List S72) (i : Nat) (d : S72) (h : l[i]? = some d) : tsOf (l.take (i + 1)) = tstep (tsOf (l.take i)) d := by
  unfold tsOf
  rw [List.take_add_one, h]
  simp
theorem bsOf_succ (l : List S72) (i : Nat) (d : S72) (h : l[i]? = some d) : bsOf (l.take (i + 1)) = bstep (bsOf (l.take i)) d := by
  unfold bsOf
  rw [List.take_add_one, h]
  simp
theorem info72 : (Try.prog.info? 72).map (·.zero) = some (some (.agg #[.int .u8 0, .int .u8 0, .int .u8 0, .int .u8 0, .int .u8 0, .int .i64 0, .int .i64 0, .int .u64 0, .int .i64 0, .int .i64 0, .int .i64 0])) := by kernel_rfl
theorem zc48p (p : Int) : Try.zeroCells48.setIfInBounds 337 (.int .i64 p) = (scells (List.replicate 80 tl0) (List.replicate 17 0) p).toArray := by kernel_rfl
theorem size48p (p : Int) : (Try.prog.info? 48).map (·.size) = some (Try.zeroCells48.setIfInBounds 337 (.int .i64 p)).size := by rw [Array.size_setIfInBounds, sizez48]; exact size48
theorem onez48p (p : Int) : (Try.zeroCells48.setIfInBounds 337 (.int .i64 p)).all (·.oneCell') = true := by rw [zc48p]; exact one48p p
theorem fit48p (p : Int) : 0 + (Try.zeroCells48.setIfInBounds 337 (.int .i64 p)).size ≤ (Value.agg zero48.toArray).cells.toList.length := by rw [Array.size_setIfInBounds, sizez48]; exact Nat.le_of_eq len48.symm
theorem whole48p (p : Int) : splice (Value.agg zero48.toArray).cells.toList 0 (Try.zeroCells48.setIfInBounds 337 (.int .i64 p)).toList = scells (List.replicate 80 tl0) (List.replicate 17 0) p := by
  rw [splice_whole _ _ (by rw [Array.length_toList, Array.size_setIfInBounds, sizez48]; exact len48.symm), zc48p]
abbrev ecells (d : S72) : List Value := [.int .u8 d.f0, .int .u8 d.f1.f0, .int .u8 d.f1.f1, .int .u8 d.f1.f2, .int .u8 d.f1.f3, .int .i64 d.f2.f0, .int .i64 d.f2.f1, .int .u64 d.f2.f2, .int .i64 d.f3, .int .i64 d.f4, .int .i64 d.f5]
/-- What may be has a place among the operations. -/
theorem may_do {d : S72} (h : bad d = false) (hw : Wf (un72 d)) : d.f1.f0 = (doN d : Int) ∧ doN d < 14 := by
  have u1 := hw.u1
  unfold bad may t1 at h
  simp only [Bool.not_eq_eq_eq_not, Bool.not_false, Bool.and_eq_true, Bool.not_true, Bool.or_eq_false_iff, decide_eq_false_iff_not] at h
  simp only [un72] at u1 h
  unfold doN
  omega
theorem agent_is (d : S72) (hw : Wf (un72 d)) : stats_agent.f d.f0 = some (ag d : Int) := by
  have u0 := hw.u0
  simp only [un72] at u0
  unfold stats_agent.f mn ag
  rw [wrap_in (by omega) (by omega)]
  congr 1
  split <;> omega
theorem fitS (ts : List Tl) (bs : List Int) (p : Int) (h1 : ts.length = 80) (h2 : bs.length = 17) : 0 + (scells ts bs p).toArray.size ≤ (Value.agg zero48.toArray).cells.toList.length := by
  rw [List.size_toArray, scells_length, h1, h2]; exact Nat.le_of_eq len48.symm
theorem sizeS (ts : List Tl) (bs : List Int) (p : Int) (h1 : ts.length = 80) (h2 : bs.length = 17) : (Try.prog.info? 48).map (·.size) = some (scells ts bs p).toArray.size := by
  rw [List.size_toArray, scells_length, h1, h2]; exact size48
theorem oneS (ts : List Tl) (bs : List Int) (p : Int) : (scells ts bs p).toArray.all (·.oneCell') = true := by
  rw [List.all_toArray, List.all_eq_true]
  intro v hv
  unfold scells tcells bcells at hv
  simp only [List.mem_append, List.mem_flatMap, List.mem_map, List.mem_singleton, Tl.vals, List.mem_cons, List.not_mem_nil, or_false] at hv
  rcases hv with ⟨t, _, h⟩ | ⟨b, _, rfl⟩ | rfl
  · rcases h with rfl | rfl | rfl | rfl <;> rfl
  · rfl
  · rfl
theorem one4 (t : Tl) : t.vals.toArray.all (·.oneCell') = true := by
  rw [List.all_toArray]
  rfl
theorem one11 (d : S72) : (ecells d).toArray.all (·.oneCell') = true := by
  rw [List.all_toArray]
  rfl
theorem _root_.Go.Proofs.Ytgojfecpknonlaa.Own.Holds.set {W : World} {g t : Nat} {cs : List Value} (h : Holds W g t cs) (o : Nat) (v : Value) : Holds (W.setCell ⟨g, o, none⟩ v) g t (cs.set o v) := by
  have h2 := blk_set (show W.heap[g]? = some (.cells cs.toArray t (0, 0)) from h) o v
  unfold Holds
  rw [h2]
  simp
theorem stored_set (W : World) (g o : Nat) (v : Value) : Stored W (W.setCell ⟨g, o, none⟩ v) g := stored_cells W g o [v]
theorem len72_bounds (d : S72) : -9223372036854775808 ≤ len72 d ∧ len72 d ≤ 9223372036854775807 := by
  unfold len72 mx wrap64
  split <;> omega
theorem getD_some {α : Type} (l : List α) (k : Nat) (z : α) (h : k < l.length) : l[k]? = some (l.getD k z) := by
  rw [List.getD_eq_getElem?_getD, List.getElem?_eq_getElem h]; rfl
theorem idx119_0 (a b c : Value) (w : World) : (Instr.index 119 (.agg #[a, b, c]) (.int .i64 0)).run Try.prog w = .ok a w := by
  simp [Instr.index, run_underlying Try.underlying119, asIntOf, go_sem]
theorem idx119_1 (a b c : Value) (w : World) : (Instr.index 119 (.agg #[a, b, c]) (.int .i64 1)).run Try.prog w = .ok b w := by
  simp [Instr.index, run_underlying Try.underlying119, asIntOf, go_sem]
theorem idx119_2 (a b c : Value) (w : World) : (Instr.index 119 (.agg #[a, b, c]) (.int .i64 2)).run Try.prog w = .ok c w := by
  simp [Instr.index, run_underlying Try.underlying119, asIntOf, go_sem]
attribute [local go_sem] idx119_0 idx119_1 idx119_2
/-- The tallies behind j of an event's three. -/
def tin (ts : List Tl) (d : S72) : Nat → List Tl
  | 0 => ts
  | 1 => upd ts 0 d
  | 2 => upd (upd ts 0 d) (1 + doN d) d
  | _ => tstep ts d
theorem tin_length (ts : List Tl) (d : S72) (j : Nat) : (tin ts d j).length = ts.length := by
  match j with
  | 0 => rfl
  | 1 => simp [tin, upd_length]
  | 2 => simp [tin, upd_length]
  | n + 3 => simp [tin, tstep_length]
theorem segS (ts : List Tl) (bs : List Int) (p : Int) (k o : Nat) (ho : o = 4 * k) (hk : k < ts.length) : ((scells ts bs p).drop o).take (ts.getD k tl0).vals.length = (ts.getD k tl0).vals := by
  subst ho
  exact scells_at ts bs p k _ (getD_some ts k tl0 hk)
theorem setS (ts : List Tl) (bs : List Int) (p : Int) (k o : Nat) (d : S72) (ho : o = 4 * k) (hk : k < ts.length) : splice (scells ts bs p) o (addT (ts.getD k tl0) d).vals.toArray.toList = scells (upd ts k d) bs p := by
  subst ho
  exact scells_set ts bs p k _ hk
theorem getBk (ts : List Tl) (bs : List Int) (p : Int) (b : Nat) (h : ts.length = 80) (hb : b < bs.length) : (scells ts bs p)[320 + b]? = some (.int .i64 (bs.getD b 0)) := by
  have h2 := scells_bucket ts bs p b hb
  rw [h] at h2
  rw [h2, List.getD_eq_getElem?_getD, List.getElem?_eq_getElem hb]
  rfl
theorem setBk (ts : List Tl) (bs : List Int) (p : Int) (b : Nat) (v : Int) (h : ts.length = 80) (hb : b < bs.length) : (scells ts bs p).set (320 + b) (.int .i64 v) = scells ts (bs.set b v) p := by
  have h2 := scells_bset ts bs p b v hb
  rw [h] at h2
  exact h2
theorem size72 : (Try.prog.info? 72).map (·.size) = some 11 := by kernel_rfl

set_option maxHeartbeats 8000000 in
set_option maxRecDepth 100000 in
theorem of_good (l : List S72) (hl : ∀ d ∈ l, Wf (un72 d)) (A0 : Option Addr) (c0 : Nat) (w : World) (hr0 : Kd.C k72 w A0 l.length l) (hc0 : l.length ≤ c0) (hll : l.length < 4611686018427387904) (hb : l.any bad = false)
    (kp : Nat) (p : Int) (hp : stats_peak.f kp l = some p) :
    Calls Try.prog 21 #[.slice A0 l.length c0] w fun e w' => e = .returned (.tuple #[.agg (scells (tsOf l) (bsOf l) p).toArray, .int .i64 0]) ∧ Below w.heap.size w w' := by
  have HR0 := Aside0.mk hr0
  have HL := Aside0.mk hl
  have HC0 := Aside0.mk hc0
  have HP := Aside0.mk hp
  have HBAD := Aside0.mk hb
  clear hr0 hc0 hl hp hb
  go_enter Try.func21, Try.ntmps21
  go_wp2_with (first
    | ((with_reducible refine gate_dst (N := 2) rfl ?_); refine alloc_event rfl (t := 48) rfl info48 ?_; intro g2 hg2 w1 hh2 hb1; have HG := Aside0.mk hg2; have HH := Aside0.mk hh2; have HB1 := Aside0.mk hb1; clear hg2 hh2 hb1)
    | (go_at_call 59; refine (c59 l HL.out A0 c0 _ (Kd.C_below HR0.out HB1.out) HC0.out hll).mono ?_; rintro e w2 ⟨rfl, hb2⟩; rw [HBAD.out]; have HB2 := Aside0.mk (below_then HB1.out HB1.out.size hb2); have HH2 := Aside0.mk (HH.out.below hb2); clear hb2 HB1)
    | (go_at_call 61; refine (stats_peak.calls kp A0 c0 l p _ (Kd.C_below HR0.out HB2.out) HC0.out HP.out).mono ?_; rintro e w3 ⟨rfl, hb3⟩; have HB3 := Aside0.mk (below_then HB2.out HB2.out.size hb3); have HH3 := Aside0.mk (HH2.out.below hb3); clear hb3 HB2)
    | ((with_reducible refine gate_dst (N := 15) rfl ?_); refine build_event rfl (t := 48) rfl (built48p p) ?_)
    | ((with_reducible refine gate_dst (N := 4) rfl ?_); refine alloc_event rfl (t := 48) rfl info48 ?_; intro g4 hg4 w4 hh4 hb4; have HG4 := Aside0.mk hg4; have HS0 := Aside0.mk hh4; have HH4 := Aside0.mk (HH3.out.below hb4); have HB4 := Aside0.mk (below_then HB3.out HB3.out.size hb4); clear hh4 hb4 hg4)
    | ((with_reducible refine gate_store (t := 48) (p := 4) rfl ?_); refine store_agg_event rfl (ty := 48) rfl rfl (g := g4) (off := 0) (vs := Try.zeroCells48.setIfInBounds 337 (.int .i64 p)) rfl rfl HS0.out (fit48p p) (size48p p) (onez48p p) ?_; intro w5 hh5 hs5; rw [whole48p] at hh5; have HS := Aside0.mk hh5; have HH5 := Aside0.mk (hs5.holds HH4.out (by rw [HG4.out]; exact Nat.ne_of_lt HH3.out.lt)); have HB5 := Aside0.mk (hs5.below HB4.out (by rw [HG4.out]; exact HB3.out.size)); have HLO := Aside0.mk (show w.heap.size ≤ g4 by rw [HG4.out]; exact HB3.out.size); have hne := Aside0.mk (show g2 ≠ g4 by rw [HG4.out]; exact Nat.ne_of_lt HH3.out.lt); clear hh5 hs5))
  clear HH HH2 HH3 HH4 HB3 HB4 HP HS0
  go_loopg [18] l.length (fun kq v18 w' => ∃ i : Nat, v18 = .int .i64 i ∧ i + kq = l.length ∧ Aside0 (Holds w' g4 48 (scells (tsOf (l.take i)) (bsOf (l.take i)) p)) ∧ Aside0 (Holds w' g2 48 (Value.agg zero48.toArray).cells.toList) ∧ Aside0 (Below w.heap.size w w'))
  case atStart => exact ⟨0, rfl, by omega, HS, HH5, HB5⟩
  case round =>
    clear HS HH5 HB5 HG4
    obtain ⟨i, rfl, hi, HS, HH, HB⟩ := hrel
    cases gk with
    | zero =>
      obtain rfl : i = l.length := by omega
      clear hi
      have c1 : decide (((l.length : Nat) : Int) < (l.length : Int)) = false := decide_eq_false (by omega)
      go_wp2_with (first
        | ((with_reducible refine gate_dst (N := 57) rfl ?_); (refine load_event rfl (ty := 48) rfl (g := g4) (off := 0) (seg := scells (tsOf l) (bsOf l) p) rfl HS.out (by rw [List.take_length, List.drop_zero, List.take_length]) Try.underlying48 rfl (by rw [scells_length, tsOf_length, bsOf_length]; exact size48) ?_))
        | ((with_reducible refine gate_store (t := 48) (p := 2) rfl ?_); (refine store_agg_event rfl (ty := 48) rfl rfl (g := g2) (off := 0) (vs := (scells (tsOf l) (bsOf l) p).toArray) rfl rfl HH.out (fitS _ _ _ (tsOf_length l) (bsOf_length l)) (sizeS _ _ _ (tsOf_length l) (bsOf_length l)) (oneS _ _ _) ?_); intro w8 hh8 hs8; have HZ := Aside0.mk hh8; have HB8 := Aside0.mk (hs8.below HB.out (by rw [HG.out]; exact Nat.le_refl _)); clear hh8 hs8))
      have HH9 : w8.heap[g2]? = some (.cells (scells (tsOf l) (bsOf l) p).toArray 48 (0, 0)) := by
        have h := HZ.out
        unfold Holds at h
        rw [splice_whole _ _ (by rw [scells_length, tsOf_length, bsOf_length]; exact len48.symm)] at h
        exact h
      refine bodyPost_ret (results_ct (p := 2) (u := 3) (ty := 48) rfl _ w8 g2 48 _ (0, 0) _ rfl HH9 Try.underlying48 rfl (sizeS _ _ _ (tsOf_length l) (bsOf_length l))) rfl ?_
      exact ⟨rfl, HB8.out⟩
    | succ k1 =>
      have c1 : decide ((i : Int) < (l.length : Int)) = true := decide_eq_true (by omega)
      have hil : i < l.length := by omega
      obtain ⟨ad, he, d, hd, hx0, hx1, hx2, hx3, hx4, hx5, hx6, hx7, hx8, hx9, hx10⟩ := elem72 HR0.out HB.out i hil
      cases he
      have HD := Aside0.mk hd
      have HI := Aside0.mk hi
      have hwf : Wf (un72 d) := HL.out d (List.mem_of_getElem? hd)
      have HW := Aside0.mk hwf
      have p1 := eq_true (show 0 ≤ ((i : Nat) : Int) by omega)
      have q1 := eq_true (show ((i : Nat) : Int) < (l.length : Int) by omega)
      have q2 := eq_true hil
      clear hd hi hwf hil
      go_wp2_with (first
        | ((with_reducible refine gate_dst (N := 6) rfl ?_); refine alloc_event rfl (t := 72) rfl info72 ?_; intro g6 hg6 w6 hh6 hb6; have HG6 := Aside0.mk hg6; have HE := Aside0.mk hh6; have HH6 := Aside0.mk (HH.out.below hb6); have HS6 := Aside0.mk (HS.out.below hb6); have HB6 := Aside0.mk (below_then HB.out HB.out.size hb6); clear hh6 hb6 hg6)
        | ((with_reducible refine gate_store (t := 72) (p := 6) rfl ?_); (refine store_agg_event rfl (ty := 72) rfl rfl (g := g6) (off := 0) (vs := (ecells d).toArray) rfl rfl HE.out (Nat.le_refl 11) size72 (one11 d) ?_); intro w7 hh7 hs7; have HE7 := Aside0.mk (show Holds w7 g6 72 (ecells d) from hh7); have HH7 := Aside0.mk (hs7.holds HH6.out (by rw [HG6.out]; exact Nat.ne_of_lt HH.out.lt)); have HS7 := Aside0.mk (hs7.holds HS6.out (by rw [HG6.out]; exact Nat.ne_of_lt HS.out.lt)); have HB7 := Aside0.mk (hs7.below HB6.out (by rw [HG6.out]; exact HB.out.size)); have HN6 := Aside0.mk (show g4 ≠ g6 by rw [HG6.out]; exact Nat.ne_of_lt HS.out.lt); have HM6 := Aside0.mk (show g2 ≠ g6 by rw [HG6.out]; exact Nat.ne_of_lt HH.out.lt); have HL6 := Aside0.mk (show w.heap.size ≤ g6 by rw [HG6.out]; exact HB.out.size); clear hh7 hs7))
      clear hx0 hx1 hx2 hx3 hx4 hx5 hx6 hx7 hx8 hx9 hx10 HE HH6 HS6 HB6 HG6 HS HH HB
      have hbad : bad d = false := by
        cases hb : bad d with
        | false => rfl
        | true =>
          have h := HBAD.out
          rw [List.any_eq_true.2 ⟨d, List.mem_of_getElem? HD.out, hb⟩] at h
          cases h
      obtain ⟨hdo, hdo2⟩ := may_do hbad HW.out
      have hx0 : w7.cell? ⟨g6, 0, none⟩ = some (.int .u8 d.f0) := (HE7.out.cell 0).trans rfl
      have hx1 : w7.cell? ⟨g6, 1, none⟩ = some (.int .u8 (doN d : Int)) := by rw [← hdo]; exact (HE7.out.cell 1).trans rfl
      have HA := Aside0.mk (agent_is d HW.out)
      have hag : ag d < 65 := by unfold ag; omega
      have p3 : (0 : Int) ≤ (doN d : Int) := by omega
      have q3 : (doN d : Int) < 14 := by omega
      have p4 : (0 : Int) ≤ (ag d : Int) := by omega
      have q4 : (ag d : Int) < 65 := by omega
      clear hdo hbad
      go_region_held3 (fun w' => w'.cell? ⟨g6, 0, none⟩ = some (.int .u8 d.f0) ∧ w'.cell? ⟨g6, 1, none⟩ = some (.int .u8 (doN d : Int))) (go_keep)
        (first | (go_at_call 62; refine (stats_agent.calls _ _ _ HA.out).mono ?_; rintro e w8 ⟨rfl, hb8⟩; have hy0 := pw_cell_below hb8 hx0; have hy1 := pw_cell_below hb8 hx1))

      have HE8 := Aside0.mk ((show Holds w7.drew g6 72 (ecells d) from HE7.out).below hb8)
      have HH8 := Aside0.mk ((show Holds w7.drew g2 48 _ from HH7.out).below hb8)
      have HS8 := Aside0.mk ((show Holds w7.drew g4 48 _ from HS7.out).below hb8)
      have HB8 := Aside0.mk (below_then (below_drew HB7.out) HB7.out.size hb8)
      clear HE7 HH7 HS7 HB7 hx0 hx1 hy0 hy1 hb8 HA p3 q3 p4 q4
      go_wp2_with fail
      go_loopg [34] 3 (fun kq v34 w' => ∃ j : Nat, v34 = .int .i64 j ∧ j + kq = 3 ∧ Aside0 (Holds w' g4 48 (scells (tin (tsOf (l.take i)) d j) (bsOf (l.take i)) p)) ∧ Aside0 (Holds w' g6 72 (ecells d)) ∧ Aside0 (Holds w' g2 48 (Value.agg zero48.toArray).cells.toList) ∧ Aside0 (Below w.heap.size w w'))
      case atStart => exact ⟨0, rfl, by omega, HS8, HE8, HH8, HB8⟩
      case round =>
        clear HS8 HE8 HH8 HB8
        obtain ⟨j, rfl, hj, HSj, HEj, HHj, HBj⟩ := hrel
        cases gk with
        | zero =>
          obtain rfl : j = 3 := by omega
          clear hj
          have hbk : bk d < 17 := by unfold bk; omega
          have hb0 : (0 : Int) ≤ (bk d : Int) := by omega
          have hb1 : (bk d : Int) < 17 := by omega
          have HL2 := Aside0.mk (len72_bounds d)
          go_wp2_with (first
            | ((with_reducible refine gate_dst (N := 47) rfl ?_); (refine load_event rfl (ty := 72) rfl (g := g6) (off := 0) (seg := ecells d) rfl HEj.out rfl Try.underlying72 rfl size72 ?_))
            | (go_at_call 63; (refine (stats_length.calls _ _ _ _ _ _ _ _ _ _ _ (len72 d) _ rfl).mono ?_); rintro e wc ⟨rfl, hbc⟩; have HSk := Aside0.mk (HSj.out.below hbc); have HHk := Aside0.mk (HHj.out.below hbc); have HBk := Aside0.mk (below_then HBj.out HBj.out.size hbc); clear hbc)
            | (go_at_call 31; (refine (bucket_calls (len72 d) wc HL2.out.1 HL2.out.2).mono ?_); rintro e we ⟨rfl, rfl⟩; rw [show ((min 16 (Lib.bitLen (len72 d).toNat) : Nat) : Int) = (bk d : Int) from rfl]; have hz := (HSk.out.cell (320 + bk d)).trans (getBk _ _ p (bk d) (by rw [tin_length, tsOf_length]) (by rw [bsOf_length]; exact hbk)); have hfz := blk_frozen HSk.out (320 + bk d)))
          have HSz := Aside0.mk (HSk.out.set (320 + bk d) (.int .i64 (wrap64 ((bsOf (l.take i)).getD (bk d) 0 + 1))))
          have HHz := Aside0.mk ((stored_set we g4 (320 + bk d) (.int .i64 (wrap64 ((bsOf (l.take i)).getD (bk d) 0 + 1)))).holds HHk.out hne.out)
          have HBz := Aside0.mk ((stored_set we g4 (320 + bk d) (.int .i64 (wrap64 ((bsOf (l.take i)).getD (bk d) 0 + 1)))).below HBk.out HLO.out)
          go_roundg k1
          case measure => omega
          case rel =>
            refine ⟨i + 1, by have := HI.out; rw [wrap_in (by omega) (by omega)]; rfl, by have := HI.out; omega, ⟨?_⟩, ⟨?_⟩, ⟨?_⟩⟩
            · rw [← List.getD_eq_getElem?_getD, tsOf_succ l i d HD.out, bsOf_succ l i d HD.out]
              have h := HSz.out
              rw [setBk _ _ p (bk d) _ (by rw [tin_length, tsOf_length]) (by rw [bsOf_length]; exact hbk)] at h
              exact h
            · rw [← List.getD_eq_getElem?_getD]
              exact HHz.out
            · rw [← List.getD_eq_getElem?_getD]
              exact HBz.out
        | succ kj =>
          have hj3 : j = 0 ∨ j = 1 ∨ j = 2 := by omega
          rcases hj3 with rfl | rfl | rfl
          · go_wp2_with (first
              | ((with_reducible refine gate_dst (N := 39) rfl ?_); (refine load_event rfl (ty := 43) rfl (g := g4) (off := 0) (seg := ((tin (tsOf (l.take i)) d 0).getD (0) tl0).vals) rfl HSj.out (segS _ _ _ (0) _ (by omega) (by rw [tin_length, tsOf_length]; omega)) Try.underlying43 rfl size43 ?_))
              | ((with_reducible refine gate_dst (N := 43) rfl ?_); (refine load_event rfl (ty := 72) rfl (g := g6) (off := 0) (seg := ecells d) rfl HEj.out rfl Try.underlying72 rfl size72 ?_))
              | (go_at_call 29; (refine (stats_Tally_Add.calls _ _ _ _ _ _ _ _ _ _ _ _ _ _ _ _ _ _ _ _ (addT_is ((tin (tsOf (l.take i)) d 0).getD (0) tl0) d)).mono ?_); rintro e wc ⟨rfl, hbc⟩; have HSk := Aside0.mk (HSj.out.below hbc); have HEk := Aside0.mk (HEj.out.below hbc); have HHk := Aside0.mk (HHj.out.below hbc); have HBk := Aside0.mk (below_then HBj.out HBj.out.size hbc); clear hbc)
              | ((with_reducible refine gate_store (t := 43) (p := 45) rfl ?_); (refine store_agg_event rfl (ty := 43) rfl rfl (g := g4) (off := 0) (vs := (addT ((tin (tsOf (l.take i)) d 0).getD (0) tl0) d).vals.toArray) rfl rfl HSk.out (by rw [scells_length, tin_length, tsOf_length, bsOf_length]; show 0 + 4 ≤ _; omega) size43 (one4 _) ?_); intro wd hhd hsd; rw [setS _ _ _ (0) _ d (by omega) (by rw [tin_length, tsOf_length]; omega)] at hhd; have HSd := Aside0.mk (show Holds wd g4 48 (scells (tin (tsOf (l.take i)) d (0 + 1)) (bsOf (l.take i)) p) from hhd); have HEd := Aside0.mk (hsd.holds HEk.out (Ne.symm HN6.out)); have HHd := Aside0.mk (hsd.holds HHk.out hne.out); have HBd := Aside0.mk (hsd.below HBk.out HLO.out); clear hhd hsd))
            go_roundg kj
            case measure => omega
            case rel => exact ⟨0 + 1, rfl, by omega, HSd, HEd, HHd, HBd⟩
          · go_wp2_with (first
              | ((with_reducible refine gate_dst (N := 39) rfl ?_); (refine load_event rfl (ty := 43) rfl (g := g4) (off := 4 + doN d * 4) (seg := ((tin (tsOf (l.take i)) d 1).getD (1 + doN d) tl0).vals) rfl HSj.out (segS _ _ _ (1 + doN d) _ (by omega) (by rw [tin_length, tsOf_length]; omega)) Try.underlying43 rfl size43 ?_))
              | ((with_reducible refine gate_dst (N := 43) rfl ?_); (refine load_event rfl (ty := 72) rfl (g := g6) (off := 0) (seg := ecells d) rfl HEj.out rfl Try.underlying72 rfl size72 ?_))
              | (go_at_call 29; (refine (stats_Tally_Add.calls _ _ _ _ _ _ _ _ _ _ _ _ _ _ _ _ _ _ _ _ (addT_is ((tin (tsOf (l.take i)) d 1).getD (1 + doN d) tl0) d)).mono ?_); rintro e wc ⟨rfl, hbc⟩; have HSk := Aside0.mk (HSj.out.below hbc); have HEk := Aside0.mk (HEj.out.below hbc); have HHk := Aside0.mk (HHj.out.below hbc); have HBk := Aside0.mk (below_then HBj.out HBj.out.size hbc); clear hbc)
              | ((with_reducible refine gate_store (t := 43) (p := 45) rfl ?_); (refine store_agg_event rfl (ty := 43) rfl rfl (g := g4) (off := 4 + doN d * 4) (vs := (addT ((tin (tsOf (l.take i)) d 1).getD (1 + doN d) tl0) d).vals.toArray) rfl rfl HSk.out (by rw [scells_length, tin_length, tsOf_length, bsOf_length]; show 4 + doN d * 4 + 4 ≤ _; omega) size43 (one4 _) ?_); intro wd hhd hsd; rw [setS _ _ _ (1 + doN d) _ d (by omega) (by rw [tin_length, tsOf_length]; omega)] at hhd; have HSd := Aside0.mk (show Holds wd g4 48 (scells (tin (tsOf (l.take i)) d (1 + 1)) (bsOf (l.take i)) p) from hhd); have HEd := Aside0.mk (hsd.holds HEk.out (Ne.symm HN6.out)); have HHd := Aside0.mk (hsd.holds HHk.out hne.out); have HBd := Aside0.mk (hsd.below HBk.out HLO.out); clear hhd hsd))
            go_roundg kj
            case measure => omega
            case rel => exact ⟨1 + 1, rfl, by omega, HSd, HEd, HHd, HBd⟩
          · go_wp2_with (first
              | ((with_reducible refine gate_dst (N := 39) rfl ?_); (refine load_event rfl (ty := 43) rfl (g := g4) (off := 60 + ag d * 4) (seg := ((tin (tsOf (l.take i)) d 2).getD (15 + ag d) tl0).vals) rfl HSj.out (segS _ _ _ (15 + ag d) _ (by omega) (by rw [tin_length, tsOf_length]; omega)) Try.underlying43 rfl size43 ?_))
              | ((with_reducible refine gate_dst (N := 43) rfl ?_); (refine load_event rfl (ty := 72) rfl (g := g6) (off := 0) (seg := ecells d) rfl HEj.out rfl Try.underlying72 rfl size72 ?_))
              | (go_at_call 29; (refine (stats_Tally_Add.calls _ _ _ _ _ _ _ _ _ _ _ _ _ _ _ _ _ _ _ _ (addT_is ((tin (tsOf (l.take i)) d 2).getD (15 + ag d) tl0) d)).mono ?_); rintro e wc ⟨rfl, hbc⟩; have HSk := Aside0.mk (HSj.out.below hbc); have HEk := Aside0.mk (HEj.out.below hbc); have HHk := Aside0.mk (HHj.out.below hbc); have HBk := Aside0.mk (below_then HBj.out HBj.out.size hbc); clear hbc)
              | ((with_reducible refine gate_store (t := 43) (p := 45) rfl ?_); (refine store_agg_event rfl (ty := 43) rfl rfl (g := g4) (off := 60 + ag d * 4) (vs := (addT ((tin (tsOf (l.take i)) d 2).getD (15 + ag d) tl0) d).vals.toArray) rfl rfl HSk.out (by rw [scells_length, tin_length, tsOf_length, bsOf_length]; show 60 + ag d * 4 + 4 ≤ _; omega) size43 (one4 _) ?_); intro wd hhd hsd; rw [setS _ _ _ (15 + ag d) _ d (by omega) (by rw [tin_length, tsOf_length]; omega)] at hhd; have HSd := Aside0.mk (show Holds wd g4 48 (scells (tin (tsOf (l.take i)) d (2 + 1)) (bsOf (l.take i)) p) from hhd); have HEd := Aside0.mk (hsd.holds HEk.out (Ne.symm HN6.out)); have HHd := Aside0.mk (hsd.holds HHk.out hne.out); have HBd := Aside0.mk (hsd.below HBk.out HLO.out); clear hhd hsd))
            go_roundg kj
            case measure => omega
            case rel => exact ⟨2 + 1, rfl, by omega, HSd, HEd, HHd, HBd⟩

end Go.Proofs.Ytgojfecpknonlaa.St
