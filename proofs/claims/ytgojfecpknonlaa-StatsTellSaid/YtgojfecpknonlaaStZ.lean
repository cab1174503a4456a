/- The walk of the law StatsTell: true at every input. (Printed by wip/tools/sty.py.) -/
import Derived.Test.YtgojfecpknonlaaStY
namespace Go.Proofs.Ytgojfecpknonlaa.St
open Go.RowKit Go.Proofs.YtgojfecpknonlaaW.PrintWords Go.Proofs.YtgojfecpknonlaaW.PrintLast Go.Proofs.YtgojfecpknonlaaW.PrintMore
open Go.Proofs.Ytgojfecpknonlaa.Own Go.Proofs.Ytgojfecpknonlaa.PSt
set_option linter.unusedVariables false
set_option linter.unusedSimpArgs false

def OfSt (L : List S72) (cs : List Value) (e : Int) : Prop := ∀ (A : Option Addr) (c : Nat) (W : World), Kd.C k72 W A L.length L → L.length ≤ c → Calls Try.prog 21 #[.slice A L.length c] W fun en w' => en = .returned (.tuple #[.agg cs.toArray, .int .i64 e]) ∧ Below W.heap.size W w'
theorem cells4t {W : World} {g : Nat} {ts : List Tl} {bs : List Int} {p : Int} (h : Holds W g 48 (scells ts bs p)) (k o : Nat) (ho : o = 4 * k) (hk : k < ts.length) :
    W.cell? ⟨g, o, none⟩ = some (.int .i64 (ts.getD k tl0).c) ∧ W.cell? ⟨g, o + 1, none⟩ = some (.int .i64 (ts.getD k tl0).e) ∧ W.cell? ⟨g, o + 2, none⟩ = some (.int .i64 (ts.getD k tl0).m) ∧ W.cell? ⟨g, o + 3, none⟩ = some (.int .i64 (ts.getD k tl0).l) := by
  have hs := scells_at ts bs p k _ (getD_some ts k tl0 hk)
  rw [← ho] at hs
  have at_ : ∀ j, j < 4 → (scells ts bs p)[o + j]? = (ts.getD k tl0).vals[j]? := fun j hj => by
    rw [← hs, List.getElem?_take, if_pos hj, List.getElem?_drop]
  exact ⟨(h.cell o).trans (at_ 0 (by omega)), (h.cell (o + 1)).trans (at_ 1 (by omega)), (h.cell (o + 2)).trans (at_ 2 (by omega)), (h.cell (o + 3)).trans (at_ 3 (by omega))⟩
theorem build_exec {P : Program} {W : World} {o : Oper} {a : Act} {t : TypeId} (ho : o.op = .build t #[]) {cells : Array Value} (hf : P.built t [] = some cells) : (execOp a.eval o).run P W = .ok (.value (.agg cells)) W := by
  unfold execOp
  simp only [ho, Sem.run_bind, Array.map_empty, Array.toList_empty, run_build W t _ cells hf, Result.andThen_ok]
  rfl
theorem ag_is {d : S58} (hw : Wf d) : (ag (re58 d) : Int) = if d.f0 > 64 then 64 else d.f0 := by
  have u0 := hw.u0
  show ((min d.f0.toNat 64 : Nat) : Int) = _
  split <;> omega
theorem whole_zero : (zero48.drop 0).take zero48.length = zero48 := by rw [List.drop_zero, List.take_length]
theorem sizez : (Try.prog.info? 48).map (·.size) = some zero48.length := by rw [len48]; exact size48

set_option maxHeartbeats 16000000 in
set_option maxRecDepth 100000 in
theorem tell_core (l : List S58) (L : List S72) (hLe : Aside0 (L = l.map re58)) (kl : Nat) (hkl : demesnelaw36_Of.f kl l = some L) (hl : ∀ d ∈ l, Wf d) (hl60 : l.length ≤ 60)
    (cs : List Value) (ex p : Int) (lc : cs.length = 338) (oc : cs.toArray.all (·.oneCell') = true) (hA : OfSt L cs ex)
    (hbad : Aside0 (L.any bad = true → cs = zero48 ∧ ex = 2)) (hgood : Aside0 (L.any bad = false → cs = scells (tsOf L) (bsOf L) p ∧ ex = 0))
    (kp : Nat) (hkp : demesneref41_Peak.f kp l = some p)
    (A0 : Option Addr) (c0 : Nat) (w : World) (hr0 : Kd.C k58 w A0 l.length l) (hc0 : l.length ≤ c0) :
    Calls Try.prog 5 #[.slice A0 l.length c0] w fun e w' => e = .returned (.bool true) ∧ Below w.heap.size w w' := by
  have HR0 := Aside0.mk hr0
  have HC0 := Aside0.mk hc0
  have HKO := Aside0.mk hkl
  have HL := Aside0.mk hl
  have HLE := hLe
  have LC := Aside0.mk lc
  have OC := Aside0.mk oc
  have HA := Aside0.mk hA
  have HBAD := hbad
  have HGOOD := hgood
  have HKP := Aside0.mk hkp
  have HLL := Aside0.mk hl60
  have t1 : decide ((60 : Int) < (l.length : Int)) = false := decide_eq_false (by omega)
  have t2 : decide (60 < l.length) = false := decide_eq_false (by omega)
  clear hLe hr0 hc0 hkl hl lc oc hA hbad hgood hkp hl60
  go_enter Try.func5, Try.ntmps5
  go_wp2_with (first
    | (go_at_call 22; refine (demesnelaw36_Of.calls kl A0 c0 l L _ HR0.out HC0.out HKO.out).mono ?_; rintro e w1 ⟨v1, rfl, hv1, hb1⟩; obtain ⟨A2, c2, rfl, hc2, hC2⟩ := Kd.R_reads hv1; have HC2 := Aside0.mk hC2; have HB1 := Aside0.mk hb1; clear hv1 hC2 hb1)
    | (go_at_call 21; refine (HA.out A2 c2 _ HC2.out hc2).mono ?_; rintro e w2 ⟨rfl, hb2⟩; have HB2 := Aside0.mk (below_then HB1.out HB1.out.size hb2); clear hb2 HC2 HB1 hc2)
    | ((with_reducible refine gate_dst (N := 3) rfl ?_); refine alloc_event rfl (t := 48) rfl info48 ?_; intro g3 hg3 w3 hh3 hb3; have HG3 := Aside0.mk hg3; have HZ3 := Aside0.mk hh3; have HB3 := Aside0.mk (below_then HB2.out HB2.out.size hb3); clear hg3 hh3 hb3)
    | ((with_reducible refine gate_store (t := 48) (p := 3) rfl ?_); refine store_agg_event rfl (ty := 48) rfl rfl (g := g3) (off := 0) (vs := cs.toArray) rfl rfl HZ3.out (fitA LC.out) (sizeA LC.out) OC.out ?_; intro w4 hh4 hs4; rw [wholeA LC.out] at hh4; have H34 := Aside0.mk hh4; have HB4 := Aside0.mk (hs4.below HB3.out (by rw [HG3.out]; exact HB2.out.size)); have HF3 := Aside0.mk (show w.heap.size ≤ g3 by rw [HG3.out]; exact HB2.out.size); clear hh4 hs4 HZ3 HB3 HB2 HG3; refine Aside0.out ?_))
  refine ⟨?_⟩
  go_wp2_with (first
    | ((with_reducible refine gate_dst (N := 5) rfl ?_); refine alloc_event rfl (t := 53) rfl info53 ?_; intro g5 hg5 w5 hh5 hb5; have HF5 := Aside0.mk (And.intro (show w.heap.size ≤ g5 by rw [hg5]; exact HB4.out.size) (show g3 ≠ g5 by rw [hg5]; exact Nat.ne_of_lt H34.out.lt)); have H35 := Aside0.mk (H34.out.below hb5); have H55 := Aside0.mk (show Holds w5 g5 53 (List.replicate 14 (Value.slice none 0 0)) from hh5); have HB5 := Aside0.mk (below_then HB4.out HB4.out.size hb5); clear hg5 hh5 hb5 H34 HB4)
    | ((with_reducible refine gate_dst (N := 6) rfl ?_); refine alloc_event rfl (t := 54) rfl info54 ?_; intro g6 hg6 w6 hh6 hb6; have HF6 := Aside0.mk (And.intro (show w.heap.size ≤ g6 by rw [hg6]; exact HB5.out.size) (And.intro (show g3 ≠ g6 by rw [hg6]; exact Nat.ne_of_lt H35.out.lt) (show g5 ≠ g6 by rw [hg6]; exact Nat.ne_of_lt H55.out.lt))); have H36 := Aside0.mk (H35.out.below hb6); have H56 := Aside0.mk (H55.out.below hb6); have H66 := Aside0.mk (show Holds w6 g6 54 (List.replicate 65 (Value.slice none 0 0)) from hh6); have HB6 := Aside0.mk (below_then HB5.out HB5.out.size hb6); clear hg6 hh6 hb6 H35 H55 HB5)
    | ((with_reducible refine gate_dst (N := 7) rfl ?_); refine alloc_event rfl (t := 46) rfl info46 ?_; intro g7 hg7 w7 hh7 hb7; have HF7 := Aside0.mk (And.intro (show w.heap.size ≤ g7 by rw [hg7]; exact HB6.out.size) (And.intro (show g3 ≠ g7 by rw [hg7]; exact Nat.ne_of_lt H36.out.lt) (And.intro (show g5 ≠ g7 by rw [hg7]; exact Nat.ne_of_lt H56.out.lt) (show g6 ≠ g7 by rw [hg7]; exact Nat.ne_of_lt H66.out.lt)))); have HI7 := Aside0.mk (inv_start (l := l) (L := L) (H36.out.below hb7) (H56.out.below hb7) (H66.out.below hb7) (show Holds w7 g7 46 (bcells (List.replicate 17 0)) from hh7) (below_then HB6.out HB6.out.size hb7)); clear hg7 hh7 hb7 H36 H56 H66 HB6))
  have HFAR : Aside0 (Far w g3 g5 g6 g7) := ⟨⟨HF3.out, HF5.out.1, HF6.out.1, HF7.out.1, HF5.out.2, HF6.out.2.1, HF7.out.2.1, HF6.out.2.2, HF7.out.2.2.1, HF7.out.2.2.2⟩⟩
  clear HF3 HF5 HF6 HF7
  go_loopg [8] l.length (fun kq v8 w' => ∃ (i : Nat) (vs : List Value), v8 = .int .i64 i ∧ i + kq = l.length ∧ Aside0 (Inv w w' g3 g5 g6 g7 cs l L i vs))
  case atStart => exact ⟨0, _, rfl, by omega, HI7⟩
  case round =>
    clear HI7
    obtain ⟨i, vs, rfl, hi, HI⟩ := hrel
    cases gk with
    | succ k1 =>
      as_aux_lemma =>
        have c1 : decide ((i : Int) < (l.length : Int)) = true := decide_eq_true (by omega)
        have hil : i < l.length := by omega
        obtain ⟨ad, he, d, hd, hx0, hx1, hx2, hx3, hx4, hx5, hx6, hx7, hx8, hx9, hx10⟩ := elem58 HR0.out HI.out.below i hil
        cases he
        have HD := Aside0.mk hd
        have HIX := Aside0.mk hi
        have hwf : Wf d := HL.out d (List.mem_of_getElem? hd)
        have HW := Aside0.mk hwf
        have HADL : Aside0 ((ad.add (i * 11)).block < w.heap.size) := ⟨by
          obtain ⟨ad', he', d', _, hq, _⟩ := elem58 HR0.out (Below.refl _ _) i hil
          cases he'
          exact World.block_lt_of_cell? w _ hq⟩
        have p1 := eq_true (show 0 ≤ ((i : Nat) : Int) by omega)
        have q1 := eq_true (show ((i : Nat) : Int) < (l.length : Int) by omega)
        have q2 := eq_true hil
        clear hd hi hwf hil
        cases hmay : may d with
        | false =>
          as_aux_lemma =>
            have hb := HBAD.out (by rw [HLE.out]; exact any_bad_of (List.mem_of_getElem? HD.out) hmay)
            obtain ⟨rfl, rfl⟩ := hb
            go_wp2_with (first
              | (go_at_call 23; refine (may_calls d HW.out _).mono ?_; rintro e w2 ⟨rfl, hb2⟩; rw [hmay]; have HI2 := Aside0.mk (HI.out.below' hb2); clear hb2)
              | ((with_reducible refine gate_dst (N := 37) rfl ?_); refine guarded_event (by rfl) (load_agg_exec rfl (g := g3) (off := 0) (seg := zero48) rfl HI2.out.h3 whole_zero Try.underlying48 rfl sizez) ?_)
              | ((with_reducible refine gate_dst (N := 38) rfl ?_); refine guarded_event (by rfl) (build_exec rfl built48) ?_)
              | ((with_reducible refine gate_dst (N := 39) rfl ?_); refine guarded_event (by rfl) (cmp_agg_exec rfl rfl rfl (.inl rfl) Try.eqGuardType48 (run_eql48 _)) ?_)
              | (go_at_call 20; refine (wakes_calls _).mono ?_; rintro e w3 ⟨rfl, hb3⟩))
            go_ret
            exact ⟨rfl, below_then HI2.out.below HI2.out.below.size hb3⟩
        | true =>
          as_aux_lemma =>
            have u0 := HW.out.u0
            obtain ⟨a, ha⟩ : ∃ a, a = ag (re58 d) := ⟨_, rfl⟩
            have hag := ag_is HW.out
            rw [← ha] at hag
            have hag2 : a < 65 := by rw [ha]; exact ag_lt _
            have HAG := Aside0.mk hag
            have HAE := Aside0.mk ha
            clear hag ha
            go_upto_if 51 with (first
              | (go_at_call 23; refine (may_calls d HW.out _).mono ?_; rintro e w2 ⟨rfl, hb2⟩; rw [hmay]; have HI2 := Aside0.mk (HI.out.below' hb2); clear hb2 hx0 hx1 hx2 hx3 hx4 hx5 hx6 hx7 hx8 hx9 hx10; obtain ⟨ad', he', d', hd', hy0, hy1, hy2, hy3, hy4, hy5, hy6, hy7, hy8, hy9, hy10⟩ := elem58 HR0.out HI2.out.below i (of_eq_true q2); cases he'; obtain rfl : d = d' := Option.some.inj (HD.out.symm.trans hd'); clear hd'))
            go_cut [9] (fun v9 wc => v9 = .int .i64 (a : Int) ∧ wc = w2)
            case first =>
              go_wp2
              all_goals
                go_meet
                case rel =>
                  refine ⟨?_, rfl⟩
                  have h := HAG.out
                  refine congrArg (Value.int IntKind.i64) ?_
                  split at h <;> omega
            case rest =>
              obtain ⟨rfl, rfl⟩ := hcut
              obtain ⟨k, hk⟩ : ∃ k, k = doN (re58 d) := ⟨_, rfl⟩
              have hdo := doN_of hmay HW.out
              rw [← hk] at hdo
              have HKE := Aside0.mk hk
              have HF1 := Aside0.mk hdo.2
              have hk14 : k < 14 := hdo.1
              have HM : Aside0 (∀ W : World, k58.M W w.heap.size (fun _ => False) d [.int .u8 d.f0, .int .u8 (k : Int), .int .u8 d.f2, .int .u8 d.f3, .int .u8 d.f4, .int .i64 d.f5, .int .i64 d.f6, .int .u64 d.f7, .int .i64 d.f8, .int .i64 d.f9, .int .i64 d.f10]) := ⟨fun W => by
                have h := k58_mkM W w.heap.size (fun _ => False) d
                rw [HF1.out] at h
                exact h⟩
              rw [HF1.out] at hy1
              clear hk hdo
              have hvl := HI2.out.len
              obtain ⟨v, hv⟩ : ∃ v, vs[k]? = some v := ⟨_, List.getElem?_eq_getElem (by omega)⟩
              have HI3 := Aside0.mk (HI2.out.below' (below_drew (Below.refl _ _)))
              obtain ⟨A5, c5, hve, hc5, hC5⟩ := HI3.out.fam.read k v (rowOf (l.take i) k) hv (xss_get _ _ (by omega))
              obtain ⟨n5, hn5⟩ : ∃ n, n = (rowOf (l.take i) k).length := ⟨_, rfl⟩
              rw [← hn5] at hve
              subst hve
              obtain ⟨ok5, hfr, hrw, hst, hne⟩ := HI3.out.fam.at_ k _ (rowOf (l.take i) k) hv (xss_get _ _ (by omega))
              have HFR5 := Aside0.mk hfr
              have HRW5 := Aside0.mk hrw
              have HST5 := Aside0.mk hst
              have HNE5 := Aside0.mk hne
              have HBW5 := Aside0.mk HI3.out.below
              have HHW5 := Aside0.mk HI3.out.h5
              have HLN5 : Aside0 (((rowOf (l.take i) k).length + 1) * 56 ≤ 140737488355328) := ⟨by have h1 := row_length (l.take i) k; have h2 : (l.take i).length ≤ l.length := (by rw [List.length_take]; omega); have h3 := HLL.out; omega⟩
              have HVS5 : Aside0 ((vs.take 14)[k]? = some (.slice A5 n5 c5)) := ⟨by rw [List.getElem?_take, if_pos hk14]; exact hv⟩
              have HKL5 : Aside0 (k < (vs.take 14).length) := ⟨by rw [List.length_take]; omega⟩
              have HVL := Aside0.mk hvl
              have hs5 : wc.cell? ⟨g5, k, none⟩ = some (.slice A5 n5 c5) := (HI2.out.h5.cell k).trans HVS5.out
              have q3 : (0 : Int) ≤ (k : Int) := by omega
              have q4 : (k : Int) < 14 := by omega
              have q5 : (0 : Int) ≤ (a : Int) := by omega
              have q6 : (a : Int) < 65 := by omega
              clear hv hc5 hC5 hn5 hfr hrw hst hne hvl u0
              have HAL5 := Aside0.mk (below_alloc (below_drew (Below.refl wc.heap.size wc)) (Obj.cells #[.int .u8 d.f0, .int .u8 (k : Int), .int .u8 d.f2, .int .u8 d.f3, .int .u8 d.f4, .int .i64 d.f5, .int .i64 d.f6, .int .u64 d.f7, .int .i64 d.f8, .int .i64 d.f9, .int .i64 d.f10] 58))
              go_wp2_with fail
              as_aux_lemma =>
                refine start_ (n := 20) (S := fun w' => w'.cell? (ad.add (i * 11)) = some (.int .u8 d.f0) ∧ w'.cell? ⟨(ad.add (i * 11)).block, (ad.add (i * 11)).off + 1, none⟩ = some (.int .u8 (k : Int)) ∧ w'.cell? ⟨(ad.add (i * 11)).block, (ad.add (i * 11)).off + 2, none⟩ = some (.int .u8 d.f2) ∧ w'.cell? ⟨(ad.add (i * 11)).block, (ad.add (i * 11)).off + 3, none⟩ = some (.int .u8 d.f3) ∧ w'.cell? ⟨(ad.add (i * 11)).block, (ad.add (i * 11)).off + 4, none⟩ = some (.int .u8 d.f4) ∧ w'.cell? ⟨(ad.add (i * 11)).block, (ad.add (i * 11)).off + 5, none⟩ = some (.int .i64 d.f5) ∧ w'.cell? ⟨(ad.add (i * 11)).block, (ad.add (i * 11)).off + 6, none⟩ = some (.int .i64 d.f6) ∧ w'.cell? ⟨(ad.add (i * 11)).block, (ad.add (i * 11)).off + 7, none⟩ = some (.int .u64 d.f7) ∧ w'.cell? ⟨(ad.add (i * 11)).block, (ad.add (i * 11)).off + 8, none⟩ = some (.int .i64 d.f8) ∧ w'.cell? ⟨(ad.add (i * 11)).block, (ad.add (i * 11)).off + 9, none⟩ = some (.int .i64 d.f9) ∧ w'.cell? ⟨(ad.add (i * 11)).block, (ad.add (i * 11)).off + 10, none⟩ = some (.int .i64 d.f10) ∧ w'.cell? ⟨g5, k, none⟩ = some (.slice A5 n5 c5)) (ds := [19]) #[false, false, false, false, false, false, false, false, false, false, false, false, false, false, false, false, false, false, false, false] (by kernel_rfl) rfl rfl ⟨hy0, hy1, hy2, hy3, hy4, hy5, hy6, hy7, hy8, hy9, hy10, hs5⟩ (fun hHeld => ?_)
                refine pure_ (i := 0) (N := some 52) (v := ?_) (a' := ?_) #[true, false, false, false, false, false, false, false, false, false, false, false, false, false, false, false, false, false, false, false] rfl rfl (by kernel_rfl) (fun _ _ _ h => h) (Or.inl ⟨by rfl, ?_⟩) ?_ ?_
                rotate_left
                · intro w'
                  go_simp
                  with_reducible rfl
                rotate_left
                · simp only [Act.put, List.setIfInBounds_toArray, List.set_cons_zero, List.set_cons_succ, i64_w, i32_w]
                  rfl
                refine pure_ (i := 1) (N := some 53) (v := ?_) (a' := ?_) #[true, true, false, false, false, false, false, false, false, false, false, false, false, false, false, false, false, false, false, false] rfl rfl (by kernel_rfl) (fun _ _ _ h => h) (Or.inl ⟨by rfl, ?_⟩) ?_ ?_
                rotate_left
                · intro w'
                  go_simp
                  with_reducible rfl
                rotate_left
                · simp only [Act.put, List.setIfInBounds_toArray, List.set_cons_zero, List.set_cons_succ, i64_w, i32_w]
                  rfl
                refine pure_ (i := 2) (N := some 54) (v := ?_) (a' := ?_) #[true, true, true, false, false, false, false, false, false, false, false, false, false, false, false, false, false, false, false, false] rfl rfl (by kernel_rfl) (fun _ _ _ h => h) (Or.inl ⟨by rfl, ?_⟩) ?_ ?_
                rotate_left
                · intro w'
                  go_simp
                  with_reducible rfl
                rotate_left
                · simp only [Act.put, List.setIfInBounds_toArray, List.set_cons_zero, List.set_cons_succ, i64_w, i32_w]
                  rfl
                refine pure_ (i := 3) (N := some 55) (v := ?_) (a' := ?_) #[true, true, true, true, false, false, false, false, false, false, false, false, false, false, false, false, false, false, false, false] rfl rfl (by kernel_rfl) (fun _ _ _ h => h) (Or.inl ⟨by rfl, ?_⟩) ?_ ?_
                rotate_left
                · intro w'
                  go_simp
                  with_reducible rfl
                rotate_left
                · simp only [Act.put, List.setIfInBounds_toArray, List.set_cons_zero, List.set_cons_succ, i64_w, i32_w]
                  rfl
                refine pure_ (i := 5) (N := some 57) (v := ?_) (a' := ?_) #[true, true, true, true, false, true, false, false, false, false, false, false, false, false, false, false, false, false, false, false] rfl rfl (by kernel_rfl) (fun _ _ _ h => h) (Or.inl ⟨by rfl, ?_⟩) ?_ ?_
                rotate_left
                · intro w'
                  go_simp
                  with_reducible rfl
                rotate_left
                · simp only [Act.put, List.setIfInBounds_toArray, List.set_cons_zero, List.set_cons_succ, i64_w, i32_w]
                  rfl
                refine pure_ (i := 6) (N := some 58) (v := ?_) (a' := ?_) #[true, true, true, true, false, true, true, false, false, false, false, false, false, false, false, false, false, false, false, false] rfl rfl (by kernel_rfl) (fun _ _ _ h => h) (Or.inl ⟨by rfl, ?_⟩) ?_ ?_
                rotate_left
                · intro w'
                  go_simp
                  with_reducible rfl
                rotate_left
                · simp only [Act.put, List.setIfInBounds_toArray, List.set_cons_zero, List.set_cons_succ, i64_w, i32_w]
                  rfl
                refine pure_ (i := 7) (N := some 59) (v := ?_) (a' := ?_) #[true, true, true, true, false, true, true, true, false, false, false, false, false, false, false, false, false, false, false, false] rfl rfl (by kernel_rfl) (fun _ _ _ h => h) (Or.inl ⟨by rfl, ?_⟩) ?_ ?_
                rotate_left
                · intro w'
                  go_simp
                  with_reducible rfl
                rotate_left
                · simp only [Act.put, List.setIfInBounds_toArray, List.set_cons_zero, List.set_cons_succ, i64_w, i32_w]
                  rfl
                refine pure_ (i := 8) (N := some 60) (v := ?_) (a' := ?_) #[true, true, true, true, false, true, true, true, true, false, false, false, false, false, false, false, false, false, false, false] rfl rfl (by kernel_rfl) (fun _ _ _ h => h) (Or.inl ⟨by rfl, ?_⟩) ?_ ?_
                rotate_left
                · intro w'
                  go_simp
                  with_reducible rfl
                rotate_left
                · simp only [Act.put, List.setIfInBounds_toArray, List.set_cons_zero, List.set_cons_succ, i64_w, i32_w]
                  rfl
                refine pure_ (i := 12) (N := some 64) (v := ?_) (a' := ?_) #[true, true, true, true, false, true, true, true, true, false, false, false, true, false, false, false, false, false, false, false] rfl rfl (by kernel_rfl) (fun _ _ _ h => h) (Or.inl ⟨by rfl, ?_⟩) ?_ ?_
                rotate_left
                · intro w'
                  go_simp
                  with_reducible rfl
                rotate_left
                · simp only [Act.put, List.setIfInBounds_toArray, List.set_cons_zero, List.set_cons_succ, i64_w, i32_w]
                  rfl
                refine pure_ (i := 13) (N := some 65) (v := ?_) (a' := ?_) #[true, true, true, true, false, true, true, true, true, false, false, false, true, true, false, false, false, false, false, false] rfl rfl (by kernel_rfl) (fun _ _ _ h => h) (Or.inl ⟨by rfl, ?_⟩) ?_ ?_
                rotate_left
                · intro w'
                  go_simp
                  with_reducible rfl
                rotate_left
                · simp only [Act.put, List.setIfInBounds_toArray, List.set_cons_zero, List.set_cons_succ, i64_w, i32_w]
                  rfl
                refine pure_ (i := 14) (N := some 66) (v := ?_) (a' := ?_) #[true, true, true, true, false, true, true, true, true, false, false, false, true, true, true, false, false, false, false, false] rfl rfl (by kernel_rfl) (fun _ _ _ h => h) (Or.inl ⟨by rfl, ?_⟩) ?_ ?_
                rotate_left
                · intro w'
                  go_simp
                  with_reducible rfl
                rotate_left
                · simp only [Act.put, List.setIfInBounds_toArray, List.set_cons_zero, List.set_cons_succ, i64_w, i32_w]
                  rfl
                refine take_ (i := 4) (N := some 56) (v := ?_) (a' := ?_) #[true, true, true, true, true, true, true, true, true, false, false, false, true, true, true, false, false, false, false, false] rfl rfl (by kernel_rfl) (fun _ _ _ h => h) (Or.inl ⟨by rfl, ?_⟩) hHeld ?_ ?_
                rotate_left
                · rintro w' ⟨s0, s1, s2, s3, s4, s5, s6, s7, s8, s9, s10, s11⟩
                  go_simp
                  with_reducible rfl
                rotate_left
                · simp only [Act.put, List.setIfInBounds_toArray, List.set_cons_zero, List.set_cons_succ, i64_w, i32_w]
                  rfl
                refine take_ (i := 9) (N := some 61) (v := ?_) (a' := ?_) #[true, true, true, true, true, true, true, true, true, true, false, false, true, true, true, false, false, false, false, false] rfl rfl (by kernel_rfl) (fun _ _ _ h => h) (Or.inl ⟨by rfl, ?_⟩) hHeld ?_ ?_
                rotate_left
                · rintro w' ⟨s0, s1, s2, s3, s4, s5, s6, s7, s8, s9, s10, s11⟩
                  go_simp
                  with_reducible rfl
                rotate_left
                · simp only [Act.put, List.setIfInBounds_toArray, List.set_cons_zero, List.set_cons_succ, i64_w, i32_w]
                  rfl
                refine pure_ (i := 10) (N := some 62) (v := ?_) (a' := ?_) #[true, true, true, true, true, true, true, true, true, true, true, false, true, true, true, false, false, false, false, false] rfl rfl (by kernel_rfl) (fun _ _ _ h => h) (Or.inl ⟨by rfl, ?_⟩) ?_ ?_
                rotate_left
                · intro w'
                  go_simp
                  with_reducible rfl
                rotate_left
                · simp only [Act.put, List.setIfInBounds_toArray, List.set_cons_zero, List.set_cons_succ, i64_w, i32_w]
                  rfl
                refine take_ (i := 11) (N := some 63) (v := ?_) (a' := ?_) #[true, true, true, true, true, true, true, true, true, true, true, true, true, true, true, false, false, false, false, false] rfl rfl (by kernel_rfl) (fun _ _ _ h => h) (Or.inl ⟨by rfl, ?_⟩) hHeld ?_ ?_
                rotate_left
                · rintro w' ⟨s0, s1, s2, s3, s4, s5, s6, s7, s8, s9, s10, s11⟩
                  go_simp
                  with_reducible rfl
                rotate_left
                · simp only [Act.put, List.setIfInBounds_toArray, List.set_cons_zero, List.set_cons_succ, i64_w, i32_w]
                  rfl
                refine take_ (i := 15) (N := some 67) (v := ?_) (a' := ?_) #[true, true, true, true, true, true, true, true, true, true, true, true, true, true, true, true, false, false, false, false] rfl rfl (by kernel_rfl) (fun _ _ _ h => h) (Or.inl ⟨by rfl, ?_⟩) hHeld ?_ ?_
                rotate_left
                · rintro w' ⟨s0, s1, s2, s3, s4, s5, s6, s7, s8, s9, s10, s11⟩
                  go_simp
                  with_reducible rfl
                rotate_left
                · simp only [Act.put, List.setIfInBounds_toArray, List.set_cons_zero, List.set_cons_succ, i64_w, i32_w]
                  rfl
                refine one_ (i := 16) (N := some 68) #[true, true, true, true, true, true, true, true, true, true, true, true, true, true, true, true, true, false, false, false] rfl rfl (by kernel_rfl) (by decide) (fun K hK => ?_)
                refine value_ (w1 := wc.drew.alloc (.cells #[.int .u8 d.f0, .int .u8 (k : Int), .int .u8 d.f2, .int .u8 d.f3, .int .u8 d.f4, .int .i64 d.f5, .int .i64 d.f6, .int .u64 d.f7, .int .i64 d.f8, .int .i64 d.f9, .int .i64 d.f10] 58)) (v := .slice (some ⟨wc.heap.size, 0, none⟩) 1 1) (by rfl) rfl (build_row_exec (by rfl) (by rfl)) ?_
                refine hK.out _ _ ⟨(pw_cell_below HAL5.out hy0), (pw_cell_below HAL5.out hy1), (pw_cell_below HAL5.out hy2), (pw_cell_below HAL5.out hy3), (pw_cell_below HAL5.out hy4), (pw_cell_below HAL5.out hy5), (pw_cell_below HAL5.out hy6), (pw_cell_below HAL5.out hy7), (pw_cell_below HAL5.out hy8), (pw_cell_below HAL5.out hy9), (pw_cell_below HAL5.out hy10), (pw_cell_below HAL5.out hs5)⟩ (fun hHeld => ?_)
                clear hK K
                refine norm_ (a' := ?_) ?_ ?_
                rotate_left
                · show Act.put _ (some 68) _ = _
                  simp only [Act.put, List.setIfInBounds_toArray, List.set_cons_zero, List.set_cons_succ, i64_w, i32_w]
                  rfl
                refine one_ (i := 17) (N := some 69) #[true, true, true, true, true, true, true, true, true, true, true, true, true, true, true, true, true, true, false, false] rfl rfl (by kernel_rfl) (by decide) (fun K hK => ?_)
                refine Kd.R_append_step k58 (w0 := w) w.heap.size (by rfl) (.tmp 63) (.tmp 68) 41 58 (.agg #[.int .u8 0, .int .u8 0, .int .u8 0, .int .u8 0, .int .u8 0, .int .i64 0, .int .i64 0, .int .u64 0, .int .i64 0, .int .i64 0, .int .i64 0]) 56 rfl Try.underlying41 info58b z58a z58b (by decide) (.slice A5 n5 c5) (rowOf (l.take i) k) d [.int .u8 d.f0, .int .u8 (k : Int), .int .u8 d.f2, .int .u8 d.f3, .int .u8 d.f4, .int .i64 d.f5, .int .i64 d.f6, .int .u64 d.f7, .int .i64 d.f8, .int .i64 d.f9, .int .i64 d.f10] ok5 (fun _ => False) rfl rfl (HM.out _) (fun _ h => h.elim) HFR5.out HRW5.out HBW5.out HBW5.out.size HLN5.out ?_
                intro v5 w5 ho hb hg hat
                obtain ⟨B5, d5, hv⟩ := Kd.R_slice ho
                obtain ⟨m5, hm⟩ : ∃ n, n = (rowOf (l.take i) k ++ [d]).length := ⟨_, rfl⟩
                rw [← hm] at hv
                subst hv
                have HFA5 := Aside0.mk (HST5.out _ _ _ ho hg)
                have HGA5 := Aside0.mk hg
                have HBA5 := Aside0.mk hb
                have HHA5 := Aside0.mk (HHW5.out.grown hg (HNE5.out g5 (by simp)))
                clear ho hb hg hat hm
                refine hK.out _ _ ⟨(cell_two HBW5.out HBA5.out HADL.out hy0), (cell_two HBW5.out HBA5.out HADL.out hy1), (cell_two HBW5.out HBA5.out HADL.out hy2), (cell_two HBW5.out HBA5.out HADL.out hy3), (cell_two HBW5.out HBA5.out HADL.out hy4), (cell_two HBW5.out HBA5.out HADL.out hy5), (cell_two HBW5.out HBA5.out HADL.out hy6), (cell_two HBW5.out HBA5.out HADL.out hy7), (cell_two HBW5.out HBA5.out HADL.out hy8), (cell_two HBW5.out HBA5.out HADL.out hy9), (cell_two HBW5.out HBA5.out HADL.out hy10), ((HHA5.out.cell k).trans HVS5.out)⟩ (fun hHeld => ?_)
                clear hK K
                refine norm_ (a' := ?_) ?_ ?_
                rotate_left
                · show Act.put _ (some 69) _ = _
                  simp only [Act.put, List.setIfInBounds_toArray, List.set_cons_zero, List.set_cons_succ, i64_w, i32_w]
                  rfl
                refine pure_ (i := 18) (N := some 70) (v := ?_) (a' := ?_) #[true, true, true, true, true, true, true, true, true, true, true, true, true, true, true, true, true, true, true, false] rfl rfl (by kernel_rfl) (fun _ _ _ h => h) (Or.inl ⟨by rfl, ?_⟩) ?_ ?_
                rotate_left
                · intro w'
                  go_simp
                  with_reducible rfl
                rotate_left
                · simp only [Act.put, List.setIfInBounds_toArray, List.set_cons_zero, List.set_cons_succ, i64_w, i32_w]
                  rfl
                refine last_ (i := 19) (N := none) #[true, true, true, true, true, true, true, true, true, true, true, true, true, true, true, true, true, true, true, true] rfl rfl (by kernel_rfl) (by decide) (fun K hK => ?_)
                refine skip_ (w1 := w5.setCells g5 k [.slice B5 m5 d5]) (by rfl) rfl (store_one_skip rfl rfl rfl (slice_cells _ _ _) HHA5.out HKL5.out info41s rfl) ?_
                refine hK.out _ _ ?_
                clear hK K
                refine done_ (by kernel_rfl) ?_
                have HF6 := Aside0.mk (HFA5.out.stored (stored_cells w5 g5 k [.slice B5 m5 d5]) (by simp))
                have HE6 := Aside0.mk ((stored_cells w5 g5 k [.slice B5 m5 d5]).below HBA5.out HFAR.out.l5)
                have H56 := Aside0.mk (show Holds (w5.setCells g5 k [.slice B5 m5 d5]) g5 53 ((vs.take 14).set k (.slice B5 m5 d5)) from HHA5.out.set k _)
                have H36 := Aside0.mk ((stored_cells w5 g5 k [.slice B5 m5 d5]).holds (HI3.out.h3.grown HGA5.out (HNE5.out g3 (by simp))) HFAR.out.n35)
                have H66 := Aside0.mk ((stored_cells w5 g5 k [.slice B5 m5 d5]).holds (HI3.out.h6.grown HGA5.out (HNE5.out g6 (by simp))) (Ne.symm HFAR.out.n56))
                have H76 := Aside0.mk ((stored_cells w5 g5 k [.slice B5 m5 d5]).holds (HI3.out.h7.grown HGA5.out (HNE5.out g7 (by simp))) (Ne.symm HFAR.out.n57))
                have HOK := Aside0.mk HI3.out.ok
                generalize w5.setCells g5 k [.slice B5 m5 d5] = w6 at *
                clear hHeld hy0 hy1 hy2 hy3 hy4 hy5 hy6 hy7 hy8 hy9 hy10 hs5 HFR5 HRW5 HST5 HNE5 HBW5 HHW5 HLN5 HVS5 HKL5 HFA5 HGA5 HBA5 HHA5 HI3 HI2 HI
                obtain ⟨ad', he', d', hd', hz0, hz1, hz2, hz3, hz4, hz5, hz6, hz7, hz8, hz9, hz10⟩ := elem58 HR0.out HE6.out i (of_eq_true q2)
                cases he'
                obtain rfl : d = d' := Option.some.inj (HD.out.symm.trans hd')
                rw [HF1.out] at hz1
                clear hd'
                have HF6d := Aside0.mk (HF6.out.below (below_drew (Below.refl _ _)))
                obtain ⟨v, hv⟩ : ∃ v, (vs.set k (.slice B5 m5 d5))[14 + a]? = some v := ⟨_, List.getElem?_eq_getElem (by rw [List.length_set, HVL.out]; omega)⟩
                have hxa : ((xssOf (l.take i)).set k (rowOf (l.take i) k ++ [d]))[14 + a]? = some (rowOf (l.take i) (14 + a)) := by
                  rw [List.getElem?_set_ne (by omega)]
                  exact xss_get _ _ (by omega)
                obtain ⟨A6, c6, hve, hc6, hC6⟩ := HF6d.out.read (14 + a) v _ hv hxa
                obtain ⟨n6, hn6⟩ : ∃ n, n = (rowOf (l.take i) (14 + a)).length := ⟨_, rfl⟩
                rw [← hn6] at hve
                subst hve
                obtain ⟨ok6, hfr, hrw, hst, hne⟩ := HF6d.out.at_ (14 + a) _ _ hv hxa
                have HFR6 := Aside0.mk hfr
                have HRW6 := Aside0.mk hrw
                have HST6 := Aside0.mk hst
                have HNE6 := Aside0.mk hne
                have HBW6 := Aside0.mk (below_drew HE6.out)
                have HHW6 := Aside0.mk (show Holds w6.drew g6 54 (vs.drop 14) from H66.out)
                have HLN6 : Aside0 (((rowOf (l.take i) (14 + a)).length + 1) * 56 ≤ 140737488355328) := ⟨by have h1 := row_length (l.take i) (14 + a); have h2 : (l.take i).length ≤ l.length := (by rw [List.length_take]; omega); have h3 := HLL.out; omega⟩
                have HVS6 : Aside0 ((vs.drop 14)[a]? = some (.slice A6 n6 c6)) := ⟨by rw [List.getElem?_drop]; rw [List.getElem?_set_ne (by omega)] at hv; exact hv⟩
                have HKL6 : Aside0 (a < (vs.drop 14).length) := ⟨by rw [List.length_drop, HVL.out]; omega⟩
                have hs6 : w6.cell? ⟨g6, a, none⟩ = some (.slice A6 n6 c6) := (H66.out.cell a).trans HVS6.out
                clear hv hxa hc6 hC6 hn6 hfr hrw hst hne hk14 hag2
                have HAL6 := Aside0.mk (below_alloc (below_drew (Below.refl w6.heap.size w6)) (Obj.cells #[.int .u8 d.f0, .int .u8 (k : Int), .int .u8 d.f2, .int .u8 d.f3, .int .u8 d.f4, .int .i64 d.f5, .int .i64 d.f6, .int .u64 d.f7, .int .i64 d.f8, .int .i64 d.f9, .int .i64 d.f10] 58))
                as_aux_lemma =>
                  go_wp2_with fail
                  refine start_ (n := 12) (S := fun w' => w'.cell? (ad.add (i * 11)) = some (.int .u8 d.f0) ∧ w'.cell? ⟨(ad.add (i * 11)).block, (ad.add (i * 11)).off + 1, none⟩ = some (.int .u8 (k : Int)) ∧ w'.cell? ⟨(ad.add (i * 11)).block, (ad.add (i * 11)).off + 2, none⟩ = some (.int .u8 d.f2) ∧ w'.cell? ⟨(ad.add (i * 11)).block, (ad.add (i * 11)).off + 3, none⟩ = some (.int .u8 d.f3) ∧ w'.cell? ⟨(ad.add (i * 11)).block, (ad.add (i * 11)).off + 4, none⟩ = some (.int .u8 d.f4) ∧ w'.cell? ⟨(ad.add (i * 11)).block, (ad.add (i * 11)).off + 5, none⟩ = some (.int .i64 d.f5) ∧ w'.cell? ⟨(ad.add (i * 11)).block, (ad.add (i * 11)).off + 6, none⟩ = some (.int .i64 d.f6) ∧ w'.cell? ⟨(ad.add (i * 11)).block, (ad.add (i * 11)).off + 7, none⟩ = some (.int .u64 d.f7) ∧ w'.cell? ⟨(ad.add (i * 11)).block, (ad.add (i * 11)).off + 8, none⟩ = some (.int .i64 d.f8) ∧ w'.cell? ⟨(ad.add (i * 11)).block, (ad.add (i * 11)).off + 9, none⟩ = some (.int .i64 d.f9) ∧ w'.cell? ⟨(ad.add (i * 11)).block, (ad.add (i * 11)).off + 10, none⟩ = some (.int .i64 d.f10) ∧ w'.cell? ⟨g6, a, none⟩ = some (.slice A6 n6 c6)) (ds := [11]) #[false, false, false, false, false, false, false, false, false, false, false, false] (by kernel_rfl) rfl rfl ⟨hz0, hz1, hz2, hz3, hz4, hz5, hz6, hz7, hz8, hz9, hz10, hs6⟩ (fun hHeld => ?_)
                  refine pure_ (i := 0) (N := some 71) (v := ?_) (a' := ?_) #[true, false, false, false, false, false, false, false, false, false, false, false] rfl rfl (by kernel_rfl) (fun _ _ _ h => h) (Or.inl ⟨by rfl, ?_⟩) ?_ ?_
                  rotate_left
                  · intro w'
                    go_simp
                    with_reducible rfl
                  rotate_left
                  · simp only [Act.put, List.setIfInBounds_toArray, List.set_cons_zero, List.set_cons_succ, i64_w, i32_w]
                    rfl
                  refine pure_ (i := 1) (N := some 72) (v := ?_) (a' := ?_) #[true, true, false, false, false, false, false, false, false, false, false, false] rfl rfl (by kernel_rfl) (fun _ _ _ h => h) (Or.inl ⟨by rfl, ?_⟩) ?_ ?_
                  rotate_left
                  · intro w'
                    go_simp
                    with_reducible rfl
                  rotate_left
                  · simp only [Act.put, List.setIfInBounds_toArray, List.set_cons_zero, List.set_cons_succ, i64_w, i32_w]
                    rfl
                  refine pure_ (i := 2) (N := some 73) (v := ?_) (a' := ?_) #[true, true, true, false, false, false, false, false, false, false, false, false] rfl rfl (by kernel_rfl) (fun _ _ _ h => h) (Or.inl ⟨by rfl, ?_⟩) ?_ ?_
                  rotate_left
                  · intro w'
                    go_simp
                    with_reducible rfl
                  rotate_left
                  · simp only [Act.put, List.setIfInBounds_toArray, List.set_cons_zero, List.set_cons_succ, i64_w, i32_w]
                    rfl
                  refine pure_ (i := 4) (N := some 75) (v := ?_) (a' := ?_) #[true, true, true, false, true, false, false, false, false, false, false, false] rfl rfl (by kernel_rfl) (fun _ _ _ h => h) (Or.inl ⟨by rfl, ?_⟩) ?_ ?_
                  rotate_left
                  · intro w'
                    go_simp
                    with_reducible rfl
                  rotate_left
                  · simp only [Act.put, List.setIfInBounds_toArray, List.set_cons_zero, List.set_cons_succ, i64_w, i32_w]
                    rfl
                  refine pure_ (i := 5) (N := some 76) (v := ?_) (a' := ?_) #[true, true, true, false, true, true, false, false, false, false, false, false] rfl rfl (by kernel_rfl) (fun _ _ _ h => h) (Or.inl ⟨by rfl, ?_⟩) ?_ ?_
                  rotate_left
                  · intro w'
                    go_simp
                    with_reducible rfl
                  rotate_left
                  · simp only [Act.put, List.setIfInBounds_toArray, List.set_cons_zero, List.set_cons_succ, i64_w, i32_w]
                    rfl
                  refine pure_ (i := 6) (N := some 77) (v := ?_) (a' := ?_) #[true, true, true, false, true, true, true, false, false, false, false, false] rfl rfl (by kernel_rfl) (fun _ _ _ h => h) (Or.inl ⟨by rfl, ?_⟩) ?_ ?_
                  rotate_left
                  · intro w'
                    go_simp
                    with_reducible rfl
                  rotate_left
                  · simp only [Act.put, List.setIfInBounds_toArray, List.set_cons_zero, List.set_cons_succ, i64_w, i32_w]
                    rfl
                  refine take_ (i := 3) (N := some 74) (v := ?_) (a' := ?_) #[true, true, true, true, true, true, true, false, false, false, false, false] rfl rfl (by kernel_rfl) (fun _ _ _ h => h) (Or.inl ⟨by rfl, ?_⟩) hHeld ?_ ?_
                  rotate_left
                  · rintro w' ⟨s0, s1, s2, s3, s4, s5, s6, s7, s8, s9, s10, s11⟩
                    go_simp
                    with_reducible rfl
                  rotate_left
                  · simp only [Act.put, List.setIfInBounds_toArray, List.set_cons_zero, List.set_cons_succ, i64_w, i32_w]
                    rfl
                  refine take_ (i := 7) (N := some 78) (v := ?_) (a' := ?_) #[true, true, true, true, true, true, true, true, false, false, false, false] rfl rfl (by kernel_rfl) (fun _ _ _ h => h) (Or.inl ⟨by rfl, ?_⟩) hHeld ?_ ?_
                  rotate_left
                  · rintro w' ⟨s0, s1, s2, s3, s4, s5, s6, s7, s8, s9, s10, s11⟩
                    go_simp
                    with_reducible rfl
                  rotate_left
                  · simp only [Act.put, List.setIfInBounds_toArray, List.set_cons_zero, List.set_cons_succ, i64_w, i32_w]
                    rfl
                  refine one_ (i := 8) (N := some 79) #[true, true, true, true, true, true, true, true, true, false, false, false] rfl rfl (by kernel_rfl) (by decide) (fun K hK => ?_)
                  refine value_ (w1 := w6.drew.alloc (.cells #[.int .u8 d.f0, .int .u8 (k : Int), .int .u8 d.f2, .int .u8 d.f3, .int .u8 d.f4, .int .i64 d.f5, .int .i64 d.f6, .int .u64 d.f7, .int .i64 d.f8, .int .i64 d.f9, .int .i64 d.f10] 58)) (v := .slice (some ⟨w6.heap.size, 0, none⟩) 1 1) (by rfl) rfl (build_row_exec (by rfl) (by rfl)) ?_
                  refine hK.out _ _ ⟨(pw_cell_below HAL6.out hz0), (pw_cell_below HAL6.out hz1), (pw_cell_below HAL6.out hz2), (pw_cell_below HAL6.out hz3), (pw_cell_below HAL6.out hz4), (pw_cell_below HAL6.out hz5), (pw_cell_below HAL6.out hz6), (pw_cell_below HAL6.out hz7), (pw_cell_below HAL6.out hz8), (pw_cell_below HAL6.out hz9), (pw_cell_below HAL6.out hz10), (pw_cell_below HAL6.out hs6)⟩ (fun hHeld => ?_)
                  clear hK K
                  refine norm_ (a' := ?_) ?_ ?_
                  rotate_left
                  · show Act.put _ (some 79) _ = _
                    simp only [Act.put, List.setIfInBounds_toArray, List.set_cons_zero, List.set_cons_succ, i64_w, i32_w]
                    rfl
                  refine one_ (i := 9) (N := some 80) #[true, true, true, true, true, true, true, true, true, true, false, false] rfl rfl (by kernel_rfl) (by decide) (fun K hK => ?_)
                  refine Kd.R_append_step k58 (w0 := w) w.heap.size (by rfl) (.tmp 74) (.tmp 79) 41 58 (.agg #[.int .u8 0, .int .u8 0, .int .u8 0, .int .u8 0, .int .u8 0, .int .i64 0, .int .i64 0, .int .u64 0, .int .i64 0, .int .i64 0, .int .i64 0]) 56 rfl Try.underlying41 info58b z58a z58b (by decide) (.slice A6 n6 c6) (rowOf (l.take i) (14 + a)) d [.int .u8 d.f0, .int .u8 (k : Int), .int .u8 d.f2, .int .u8 d.f3, .int .u8 d.f4, .int .i64 d.f5, .int .i64 d.f6, .int .u64 d.f7, .int .i64 d.f8, .int .i64 d.f9, .int .i64 d.f10] ok6 (fun _ => False) rfl rfl (HM.out _) (fun _ h => h.elim) HFR6.out HRW6.out HBW6.out HBW6.out.size HLN6.out ?_
                  intro v6 w6_ ho hb hg hat
                  obtain ⟨B6, d6, hv⟩ := Kd.R_slice ho
                  obtain ⟨m6, hm⟩ : ∃ n, n = (rowOf (l.take i) (14 + a) ++ [d]).length := ⟨_, rfl⟩
                  rw [← hm] at hv
                  subst hv
                  have HFA6 := Aside0.mk (HST6.out _ _ _ ho hg)
                  have HGA6 := Aside0.mk hg
                  have HBA6 := Aside0.mk hb
                  have HHA6 := Aside0.mk (HHW6.out.grown hg (HNE6.out g6 (by simp)))
                  clear ho hb hg hat hm
                  refine hK.out _ _ ⟨(cell_two HBW6.out HBA6.out HADL.out hz0), (cell_two HBW6.out HBA6.out HADL.out hz1), (cell_two HBW6.out HBA6.out HADL.out hz2), (cell_two HBW6.out HBA6.out HADL.out hz3), (cell_two HBW6.out HBA6.out HADL.out hz4), (cell_two HBW6.out HBA6.out HADL.out hz5), (cell_two HBW6.out HBA6.out HADL.out hz6), (cell_two HBW6.out HBA6.out HADL.out hz7), (cell_two HBW6.out HBA6.out HADL.out hz8), (cell_two HBW6.out HBA6.out HADL.out hz9), (cell_two HBW6.out HBA6.out HADL.out hz10), ((HHA6.out.cell a).trans HVS6.out)⟩ (fun hHeld => ?_)
                  clear hK K
                  refine norm_ (a' := ?_) ?_ ?_
                  rotate_left
                  · show Act.put _ (some 80) _ = _
                    simp only [Act.put, List.setIfInBounds_toArray, List.set_cons_zero, List.set_cons_succ, i64_w, i32_w]
                    rfl
                  refine pure_ (i := 10) (N := some 81) (v := ?_) (a' := ?_) #[true, true, true, true, true, true, true, true, true, true, true, false] rfl rfl (by kernel_rfl) (fun _ _ _ h => h) (Or.inl ⟨by rfl, ?_⟩) ?_ ?_
                  rotate_left
                  · intro w'
                    go_simp
                    with_reducible rfl
                  rotate_left
                  · simp only [Act.put, List.setIfInBounds_toArray, List.set_cons_zero, List.set_cons_succ, i64_w, i32_w]
                    rfl
                  refine last_ (i := 11) (N := none) #[true, true, true, true, true, true, true, true, true, true, true, true] rfl rfl (by kernel_rfl) (by decide) (fun K hK => ?_)
                  refine skip_ (w1 := w6_.setCells g6 a [.slice B6 m6 d6]) (by rfl) rfl (store_one_skip rfl rfl rfl (slice_cells _ _ _) HHA6.out HKL6.out info41s rfl) ?_
                  refine hK.out _ _ ?_
                  clear hK K
                  refine done_ (by kernel_rfl) ?_
                  have HF8 := Aside0.mk (HFA6.out.stored (stored_cells w6_ g6 a [.slice B6 m6 d6]) (by simp))
                  have HE8 := Aside0.mk ((stored_cells w6_ g6 a [.slice B6 m6 d6]).below HBA6.out HFAR.out.l6)
                  have H68 := Aside0.mk (show Holds (w6_.setCells g6 a [.slice B6 m6 d6]) g6 54 ((vs.drop 14).set a (.slice B6 m6 d6)) from HHA6.out.set a _)
                  have H38 := Aside0.mk ((stored_cells w6_ g6 a [.slice B6 m6 d6]).holds ((show Holds w6.drew g3 48 cs from H36.out).grown HGA6.out (HNE6.out g3 (by simp))) HFAR.out.n36)
                  have H58 := Aside0.mk ((stored_cells w6_ g6 a [.slice B6 m6 d6]).holds ((show Holds w6.drew g5 53 _ from H56.out).grown HGA6.out (HNE6.out g5 (by simp))) HFAR.out.n56)
                  have H78 := Aside0.mk ((stored_cells w6_ g6 a [.slice B6 m6 d6]).holds ((show Holds w6.drew g7 46 _ from H76.out).grown HGA6.out (HNE6.out g7 (by simp))) (Ne.symm HFAR.out.n67))
                  generalize w6_.setCells g6 a [.slice B6 m6 d6] = w8 at *
                  clear hHeld hz0 hz1 hz2 hz3 hz4 hz5 hz6 hz7 hz8 hz9 hz10 hs6 HFR6 HRW6 HST6 HNE6 HBW6 HHW6 HLN6 HVS6 HKL6 HFA6 HGA6 HBA6 HHA6 HF6 HF6d HE6 H56 H36 H66 H76
                  obtain ⟨ad', he', d', hd', hx0, hx1, hx2, hx3, hx4, hx5, hx6, hx7, hx8, hx9, hx10⟩ := elem58 HR0.out HE8.out i (of_eq_true q2)
                  cases he'
                  obtain rfl : d = d' := Option.some.inj (HD.out.symm.trans hd')
                  clear hd'
                  as_aux_lemma =>
                    obtain ⟨b, hb⟩ : ∃ b, b = bk (re58 d) := ⟨_, rfl⟩
                    have HBE := Aside0.mk hb
                    have hb17 : b < 17 := by rw [hb]; exact bk_lt _
                    have hbi0 : (0 : Int) ≤ (b : Int) := by omega
                    have hbi1 : (b : Int) < 17 := by omega
                    have HRB := Aside0.mk (ref_bk hmay)
                    rw [← hb] at HRB
                    have HLB := Aside0.mk (bsOf_length (L.take i))
                    clear hb
                    go_wp2_with (first
                      | (go_at_call 25; refine (demesneref41_Length.calls d.f0 d.f1 d.f2 d.f3 d.f4 d.f5 d.f6 d.f7 d.f8 d.f9 d.f10 (len58 d) _ (ref_len d)).mono ?_; rintro e w9 ⟨rfl, hb9⟩; have HF9 := Aside0.mk (HF8.out.below hb9); have HE9 := Aside0.mk (below_then HE8.out HE8.out.size hb9); have H39 := Aside0.mk (H38.out.below hb9); have H59 := Aside0.mk (H58.out.below hb9); have H69 := Aside0.mk (H68.out.below hb9); have H79 := Aside0.mk (H78.out.below hb9); clear hb9 HF8 HE8 H38 H58 H68 H78)
                      | (go_at_call 24; refine (demesneref41_Bucket.calls 20 (len58 d) _ _ HRB.out).mono ?_; rintro e wa ⟨rfl, ⟨nd, rfl⟩⟩; have hbb := pw_below_drewN (Below.refl w9.heap.size w9) nd; have HFa := Aside0.mk (HF9.out.below hbb); have HEa := Aside0.mk (below_then HE9.out HE9.out.size hbb); have H3a := Aside0.mk (H39.out.below hbb); have H5a := Aside0.mk (H59.out.below hbb); have H6a := Aside0.mk (H69.out.below hbb); have H7a := Aside0.mk (H79.out.below hbb); clear hbb HF9 HE9 H39 H59 H69 H79; generalize w9.drewN nd = wa at *; have hz : wa.cell? ⟨g7, b, none⟩ = some (.int .i64 ((bsOf (L.take i)).getD b 0)) := (H7a.out.cell b).trans (by unfold bcells; rw [List.getElem?_map, getD_some _ _ (0 : Int) (by rw [HLB.out]; exact hb17)]; rfl); have hfz := blk_frozen H7a.out b))
                    have HS := Aside0.mk (stored_set wa g7 b (.int .i64 (wrap64 ((bsOf (L.take i)).getD b 0 + 1))))
                    have HIN := Aside0.mk (inv_step (w := w) (w' := wa.setCell ⟨g7, b, none⟩ (.int .i64 (wrap64 ((bsOf (L.take i)).getD b 0 + 1)))) (cs := cs) (g3 := g3) (g5 := g5) (g6 := g6) (g7 := g7) (vs := vs) (v1 := .slice B5 m5 d5) (v2 := .slice B6 m6 d6) HD.out (show L[i]? = some (re58 d) by rw [HLE.out, List.getElem?_map, HD.out]; rfl) (by rw [← HKE.out]; omega) hmay HOK.out
                      (by rw [← HKE.out, ← HAE.out]; exact HFa.out.stored HS.out (by simp)) (HS.out.holds H3a.out HFAR.out.n37) (by rw [← HKE.out]; exact HS.out.holds H5a.out HFAR.out.n57) (by rw [← HAE.out]; exact HS.out.holds H6a.out HFAR.out.n67) (by rw [← HBE.out]; exact H7a.out.set b _) (HS.out.below HEa.out HFAR.out.l7))
                    go_roundg k1
                    case measure => have := HIX.out; omega
                    case rel => exact ⟨i + 1, _, by have := HIX.out; have := HLL.out; rw [wrap_in (by omega) (by omega)]; rfl, by have := HIX.out; omega, by rw [← List.getD_eq_getElem?_getD]; exact HIN⟩
    | zero =>
      as_aux_lemma =>
        obtain rfl : i = l.length := by omega
        clear hi
        have hok : ∀ d ∈ l, may d = true := by have h := HI.out.ok; rw [List.take_length] at h; exact h
        have HOK := Aside0.mk hok
        have hg := HGOOD.out (by rw [HLE.out]; exact no_bad_of hok)
        obtain ⟨rfl, rfl⟩ := hg
        have c3 : decide (((l.length : Nat) : Int) < (l.length : Int)) = false := decide_eq_false (by omega)
        have hll : L.take l.length = L := by rw [HLE.out]; exact List.take_of_length_le (by rw [List.length_map]; omega)
        obtain ⟨r, hr⟩ : ∃ r, r = (tsOf L).getD 0 tl0 := ⟨_, rfl⟩
        have HRO : Aside0 (demesneref41_Of.f (l.length + 1) l = some (r.c, r.e, r.m, r.l)) := ⟨by rw [hr, HLE.out]; exact ref_all l HL.out hok (by have := HLL.out; omega)⟩
        have hh3 : Holds wr g3 48 (scells (tsOf L) (bsOf L) p) := HI.out.h3
        have hh7 : Holds wr g7 46 (bcells (bsOf L)) := by have h := HI.out.h7; rw [hll] at h; exact h
        obtain ⟨hr0, hr1, hr2, hr3⟩ := cells4t hh3 0 0 (by omega) (by rw [tsOf_length]; omega)
        rw [← hr] at hr0 hr1 hr2 hr3
        have hrp : wr.cell? ⟨g3, 337, none⟩ = some (.int .i64 p) := (hh3.cell 337).trans (by have h := scells_peak (tsOf L) (bsOf L) p; rw [tsOf_length, bsOf_length] at h; exact h)
        have HSB := Aside0.mk (seg_buckets (tsOf L) (bsOf L) p (tsOf_length L) (bsOf_length L))
        have HSW : Aside0 (((bcells (bsOf L)).drop 0).take (bcells (bsOf L)).length = bcells (bsOf L)) := ⟨by rw [List.drop_zero, List.take_length]⟩
        have HS46 : Aside0 ((Try.prog.info? 46).map (·.size) = some (bcells (bsOf L)).length) := ⟨by rw [bcells_length, bsOf_length]; exact size46⟩
        have HBL := Aside0.mk (bsOf_length L)
        have HCL := Aside0.mk (Kd.C_below HR0.out HI.out.below)
        clear hok hll hr
        replace hr0 : wr.cell? ⟨g3, 0, none⟩ = some (.int .i64 r.c) := hr0
        replace hr1 : wr.cell? ⟨g3, 1, none⟩ = some (.int .i64 r.e) := hr1
        replace hr2 : wr.cell? ⟨g3, 2, none⟩ = some (.int .i64 r.m) := hr2
        replace hr3 : wr.cell? ⟨g3, 3, none⟩ = some (.int .i64 r.l) := hr3
        go_wp2_with fail
        refine start_ (n := 23) (S := fun w' => Holds w' g3 48 (scells (tsOf L) (bsOf L) p) ∧ Holds w' g7 46 (bcells (bsOf L)) ∧ w'.cell? ⟨g3, 0, none⟩ = some (.int .i64 r.c) ∧ w'.cell? ⟨g3, 1, none⟩ = some (.int .i64 r.e) ∧ w'.cell? ⟨g3, 2, none⟩ = some (.int .i64 r.m) ∧ w'.cell? ⟨g3, 3, none⟩ = some (.int .i64 r.l) ∧ w'.cell? ⟨g3, 337, none⟩ = some (.int .i64 p)) (ds := []) #[false, false, false, false, false, false, false, false, false, false, false, false, false, false, false, false, false, false, false, false, false, false, false] (by kernel_rfl) rfl rfl ⟨hh3, hh7, hr0, hr1, hr2, hr3, hrp⟩ (fun hHeld => ?_)
        refine pure_ (i := 0) (N := some 92) (v := ?_) (a' := ?_) #[true, false, false, false, false, false, false, false, false, false, false, false, false, false, false, false, false, false, false, false, false, false, false] rfl rfl (by kernel_rfl) (fun _ _ _ h => h) (Or.inl ⟨by rfl, ?_⟩) ?_ ?_
        rotate_left
        · intro w'
          go_simp
          with_reducible rfl
        rotate_left
        · simp only [Act.put, List.setIfInBounds_toArray, List.set_cons_zero, List.set_cons_succ, i64_w, i32_w]
          rfl
        refine pure_ (i := 1) (N := some 93) (v := ?_) (a' := ?_) #[true, true, false, false, false, false, false, false, false, false, false, false, false, false, false, false, false, false, false, false, false, false, false] rfl rfl (by kernel_rfl) (fun _ _ _ h => h) (Or.inl ⟨by rfl, ?_⟩) ?_ ?_
        rotate_left
        · intro w'
          go_simp
          with_reducible rfl
        rotate_left
        · simp only [Act.put, List.setIfInBounds_toArray, List.set_cons_zero, List.set_cons_succ, i64_w, i32_w]
          rfl
        refine pure_ (i := 2) (N := some 94) (v := ?_) (a' := ?_) #[true, true, true, false, false, false, false, false, false, false, false, false, false, false, false, false, false, false, false, false, false, false, false] rfl rfl (by kernel_rfl) (fun _ _ _ h => h) (Or.inl ⟨by rfl, ?_⟩) ?_ ?_
        rotate_left
        · intro w'
          go_simp
          with_reducible rfl
        rotate_left
        · simp only [Act.put, List.setIfInBounds_toArray, List.set_cons_zero, List.set_cons_succ, i64_w, i32_w]
          rfl
        refine pure_ (i := 3) (N := some 95) (v := ?_) (a' := ?_) #[true, true, true, true, false, false, false, false, false, false, false, false, false, false, false, false, false, false, false, false, false, false, false] rfl rfl (by kernel_rfl) (fun _ _ _ h => h) (Or.inl ⟨by rfl, ?_⟩) ?_ ?_
        rotate_left
        · intro w'
          go_simp
          with_reducible rfl
        rotate_left
        · simp only [Act.put, List.setIfInBounds_toArray, List.set_cons_zero, List.set_cons_succ, i64_w, i32_w]
          rfl
        refine pure_ (i := 5) (N := some 97) (v := ?_) (a' := ?_) #[true, true, true, true, false, true, false, false, false, false, false, false, false, false, false, false, false, false, false, false, false, false, false] rfl rfl (by kernel_rfl) (fun _ _ _ h => h) (Or.inl ⟨by rfl, ?_⟩) ?_ ?_
        rotate_left
        · intro w'
          go_simp
          with_reducible rfl
        rotate_left
        · simp only [Act.put, List.setIfInBounds_toArray, List.set_cons_zero, List.set_cons_succ, i64_w, i32_w]
          rfl
        refine take_ (i := 4) (N := some 96) (v := ?_) (a' := ?_) #[true, true, true, true, true, true, false, false, false, false, false, false, false, false, false, false, false, false, false, false, false, false, false] rfl rfl (by kernel_rfl) (fun _ _ _ h => h) (Or.inl ⟨by rfl, ?_⟩) hHeld ?_ ?_
        rotate_left
        · rintro w' ⟨s0, s1, s2, s3, s4, s5, s6⟩
          go_simp
          with_reducible rfl
        rotate_left
        · simp only [Act.put, List.setIfInBounds_toArray, List.set_cons_zero, List.set_cons_succ, i64_w, i32_w]
          rfl
        refine one_ (i := 6) (N := some 98) #[true, true, true, true, true, true, true, false, false, false, false, false, false, false, false, false, false, false, false, false, false, false, false] rfl rfl (by kernel_rfl) (by decide) (fun K hK => ?_)
        refine goes_ Try.func27 (by kernel_rfl) rfl #[.slice A0 l.length c0] (by rfl) rfl rfl (by simp only [List.map_toArray, List.map_cons, List.map_nil]; rfl) ?_
        with_reducible refine (demesneref41_Of.calls (l.length + 1) A0 c0 l r.c r.e r.m r.l _ (Kd.C_drew HCL.out) HC0.out HRO.out).mono ?_
        rintro e wa ⟨rfl, hba⟩
        refine ⟨_, rfl, ?_⟩
        have HBA := Aside0.mk (show Below wr.heap.size wr wa from below_then (below_drew (Below.refl _ _)) (Nat.le_refl _) hba)
        clear hba
        refine hK.out _ _ ⟨(Holds.below hh3 HBA.out), (Holds.below hh7 HBA.out), (pw_cell_below HBA.out hr0), (pw_cell_below HBA.out hr1), (pw_cell_below HBA.out hr2), (pw_cell_below HBA.out hr3), (pw_cell_below HBA.out hrp)⟩ (fun hHeld => ?_)
        clear hK K
        refine norm_ (a' := ?_) ?_ ?_
        rotate_left
        · show Act.put _ (some 98) _ = _
          simp only [Act.put, List.setIfInBounds_toArray, List.set_cons_zero, List.set_cons_succ, i64_w, i32_w]
          rfl
        refine one_ (i := 7) (N := some 99) #[true, true, true, true, true, true, true, true, false, false, false, false, false, false, false, false, false, false, false, false, false, false, false] rfl rfl (by kernel_rfl) (by decide) (fun K hK => ?_)
        refine goes_ Try.func26 (by kernel_rfl) rfl #[.agg #[.int .i64 r.c, .int .i64 r.e, .int .i64 r.m, .int .i64 r.l]] (by rfl) rfl rfl (by simp only [List.map_toArray, List.map_cons, List.map_nil]; rfl) ?_
        with_reducible refine (demesnelaw41_tally.calls r.c r.e r.m r.l r.c r.e r.m r.l _ rfl).mono ?_
        rintro e wb ⟨rfl, hbb⟩
        refine ⟨_, rfl, ?_⟩
        have HBB := Aside0.mk (below_then HBA.out HBA.out.size hbb)
        clear hbb HBA
        refine hK.out _ _ ⟨(Holds.below hh3 HBB.out), (Holds.below hh7 HBB.out), (pw_cell_below HBB.out hr0), (pw_cell_below HBB.out hr1), (pw_cell_below HBB.out hr2), (pw_cell_below HBB.out hr3), (pw_cell_below HBB.out hrp)⟩ (fun hHeld => ?_)
        clear hK K
        refine norm_ (a' := ?_) ?_ ?_
        rotate_left
        · show Act.put _ (some 99) _ = _
          simp only [Act.put, List.setIfInBounds_toArray, List.set_cons_zero, List.set_cons_succ, i64_w, i32_w]
          rfl
        refine pure_ (i := 8) (N := some 100) (v := ?_) (a' := ?_) #[true, true, true, true, true, true, true, true, true, false, false, false, false, false, false, false, false, false, false, false, false, false, false] rfl rfl (by kernel_rfl) (fun _ _ _ h => h) (Or.inl ⟨by rfl, ?_⟩) ?_ ?_
        rotate_left
        · intro w'
          go_simp
          with_reducible rfl
        rotate_left
        · simp only [Act.put, List.setIfInBounds_toArray, List.set_cons_zero, List.set_cons_succ, i64_w, i32_w]
          rfl
        refine pure_ (i := 9) (N := some 101) (v := ?_) (a' := ?_) #[true, true, true, true, true, true, true, true, true, true, false, false, false, false, false, false, false, false, false, false, false, false, false] rfl rfl (by kernel_rfl) (fun _ _ _ h => h) (Or.inl ⟨by rfl, ?_⟩) ?_ ?_
        rotate_left
        · intro w'
          go_simp
          with_reducible rfl
        rotate_left
        · simp only [Act.put, List.setIfInBounds_toArray, List.set_cons_zero, List.set_cons_succ, i64_w, i32_w]
          rfl
        refine pure_ (i := 10) (N := some 102) (v := ?_) (a' := ?_) #[true, true, true, true, true, true, true, true, true, true, true, false, false, false, false, false, false, false, false, false, false, false, false] rfl rfl (by kernel_rfl) (fun _ _ _ h => h) (Or.inl ⟨by rfl, ?_⟩) ?_ ?_
        rotate_left
        · intro w'
          go_simp
          with_reducible rfl
        rotate_left
        · simp only [Act.put, List.setIfInBounds_toArray, List.set_cons_zero, List.set_cons_succ, i64_w, i32_w]
          rfl
        refine pure_ (i := 11) (N := some 103) (v := ?_) (a' := ?_) #[true, true, true, true, true, true, true, true, true, true, true, true, false, false, false, false, false, false, false, false, false, false, false] rfl rfl (by kernel_rfl) (fun _ _ _ h => h) (Or.inl ⟨by rfl, ?_⟩) ?_ ?_
        rotate_left
        · intro w'
          go_simp
          with_reducible rfl
        rotate_left
        · simp only [Act.put, List.setIfInBounds_toArray, List.set_cons_zero, List.set_cons_succ, i64_w, i32_w]
          rfl
        refine take_ (i := 12) (N := some 104) (v := .agg (bcells (bsOf L)).toArray) (a' := ?_) #[true, true, true, true, true, true, true, true, true, true, true, true, true, false, false, false, false, false, false, false, false, false, false] rfl rfl (by kernel_rfl) (fun _ _ _ h => h) (Or.inl ⟨by rfl, ?_⟩) hHeld ?_ ?_
        · rintro w' ⟨s0, s1, s2, s3, s4, s5, s6⟩
          exact load_agg_exec (by rfl) (g := g3) (off := 320) (seg := bcells (bsOf L)) (by rfl) s0 HSB.out Try.underlying46 rfl HS46.out
        rotate_left
        · simp only [Act.put, List.setIfInBounds_toArray, List.set_cons_zero, List.set_cons_succ, i64_w, i32_w]
          rfl
        refine take_ (i := 13) (N := some 105) (v := .agg (bcells (bsOf L)).toArray) (a' := ?_) #[true, true, true, true, true, true, true, true, true, true, true, true, true, true, false, false, false, false, false, false, false, false, false] rfl rfl (by kernel_rfl) (fun _ _ _ h => h) (Or.inl ⟨by rfl, ?_⟩) hHeld ?_ ?_
        · rintro w' ⟨s0, s1, s2, s3, s4, s5, s6⟩
          exact load_agg_exec (by rfl) (g := g7) (off := 0) (seg := bcells (bsOf L)) (by rfl) s1 HSW.out Try.underlying46 rfl HS46.out
        rotate_left
        · simp only [Act.put, List.setIfInBounds_toArray, List.set_cons_zero, List.set_cons_succ, i64_w, i32_w]
          rfl
        refine pure_ (i := 14) (N := some 106) (v := .bool false) (a' := ?_) #[true, true, true, true, true, true, true, true, true, true, true, true, true, true, true, false, false, false, false, false, false, false, false] rfl rfl (by kernel_rfl) (fun _ _ _ h => h) (Or.inl ⟨by rfl, ?_⟩) ?_ ?_
        · intro w'
          exact cmp_agg_exec (by rfl) (by rfl) (by rfl) (.inr rfl) Try.eqGuardType46 (run_neq46 w' _ HBL.out)
        rotate_left
        · simp only [Act.put, List.setIfInBounds_toArray, List.set_cons_zero, List.set_cons_succ, i64_w, i32_w]
          rfl
        refine pure_ (i := 15) (N := some 107) (v := ?_) (a' := ?_) #[true, true, true, true, true, true, true, true, true, true, true, true, true, true, true, true, false, false, false, false, false, false, false] rfl rfl (by kernel_rfl) (fun _ _ _ h => h) (Or.inl ⟨by rfl, ?_⟩) ?_ ?_
        rotate_left
        · intro w'
          go_simp
          with_reducible rfl
        rotate_left
        · simp only [Act.put, List.setIfInBounds_toArray, List.set_cons_zero, List.set_cons_succ, i64_w, i32_w]
          rfl
        refine pure_ (i := 16) (N := some 108) (v := ?_) (a' := ?_) #[true, true, true, true, true, true, true, true, true, true, true, true, true, true, true, true, true, false, false, false, false, false, false] rfl rfl (by kernel_rfl) (fun _ _ _ h => h) (Or.inl ⟨by rfl, ?_⟩) ?_ ?_
        rotate_left
        · intro w'
          go_simp
          with_reducible rfl
        rotate_left
        · simp only [Act.put, List.setIfInBounds_toArray, List.set_cons_zero, List.set_cons_succ, i64_w, i32_w]
          rfl
        refine pure_ (i := 17) (N := some 109) (v := ?_) (a' := ?_) #[true, true, true, true, true, true, true, true, true, true, true, true, true, true, true, true, true, true, false, false, false, false, false] rfl rfl (by kernel_rfl) (fun _ _ _ h => h) (Or.inl ⟨by rfl, ?_⟩) ?_ ?_
        rotate_left
        · intro w'
          go_simp
          with_reducible rfl
        rotate_left
        · simp only [Act.put, List.setIfInBounds_toArray, List.set_cons_zero, List.set_cons_succ, i64_w, i32_w]
          rfl
        refine pure_ (i := 19) (N := some 111) (v := ?_) (a' := ?_) #[true, true, true, true, true, true, true, true, true, true, true, true, true, true, true, true, true, true, false, true, false, false, false] rfl rfl (by kernel_rfl) (fun _ _ _ h => h) (Or.inl ⟨by rfl, ?_⟩) ?_ ?_
        rotate_left
        · intro w'
          go_simp
          with_reducible rfl
        rotate_left
        · simp only [Act.put, List.setIfInBounds_toArray, List.set_cons_zero, List.set_cons_succ, i64_w, i32_w]
          rfl
        refine take_ (i := 18) (N := some 110) (v := ?_) (a' := ?_) #[true, true, true, true, true, true, true, true, true, true, true, true, true, true, true, true, true, true, true, true, false, false, false] rfl rfl (by kernel_rfl) (fun _ _ _ h => h) (Or.inl ⟨by rfl, ?_⟩) hHeld ?_ ?_
        rotate_left
        · rintro w' ⟨s0, s1, s2, s3, s4, s5, s6⟩
          go_simp
          with_reducible rfl
        rotate_left
        · simp only [Act.put, List.setIfInBounds_toArray, List.set_cons_zero, List.set_cons_succ, i64_w, i32_w]
          rfl
        refine one_ (i := 20) (N := some 112) #[true, true, true, true, true, true, true, true, true, true, true, true, true, true, true, true, true, true, true, true, true, false, false] rfl rfl (by kernel_rfl) (by decide) (fun K hK => ?_)
        refine goes_ Try.func28 (by kernel_rfl) rfl #[.slice A0 l.length c0] (by rfl) rfl rfl (by simp only [List.map_toArray, List.map_cons, List.map_nil]; rfl) ?_
        with_reducible refine (demesneref41_Peak.calls kp A0 c0 l p _ (Kd.C_below HCL.out HBB.out) HC0.out HKP.out).mono ?_
        rintro e wc ⟨rfl, ⟨nd, rfl⟩⟩
        refine ⟨_, rfl, ?_⟩
        have HBC := Aside0.mk (pw_below_drewN HBB.out nd)
        clear HBB
        refine hK.out _ _ ⟨(Holds.below hh3 HBC.out), (Holds.below hh7 HBC.out), (pw_cell_below HBC.out hr0), (pw_cell_below HBC.out hr1), (pw_cell_below HBC.out hr2), (pw_cell_below HBC.out hr3), (pw_cell_below HBC.out hrp)⟩ (fun hHeld => ?_)
        clear hK K
        refine norm_ (a' := ?_) ?_ ?_
        rotate_left
        · show Act.put _ (some 112) _ = _
          simp only [Act.put, List.setIfInBounds_toArray, List.set_cons_zero, List.set_cons_succ, i64_w, i32_w]
          rfl
        refine pure_ (i := 21) (N := some 113) (v := ?_) (a' := ?_) #[true, true, true, true, true, true, true, true, true, true, true, true, true, true, true, true, true, true, true, true, true, true, false] rfl rfl (by kernel_rfl) (fun _ _ _ h => h) (Or.inl ⟨by rfl, ?_⟩) ?_ ?_
        rotate_left
        · intro w'
          go_simp
          with_reducible rfl
        rotate_left
        · simp only [Act.put, List.setIfInBounds_toArray, List.set_cons_zero, List.set_cons_succ, i64_w, i32_w]
          rfl
        refine pure_ (i := 22) (N := some 114) (v := ?_) (a' := ?_) #[true, true, true, true, true, true, true, true, true, true, true, true, true, true, true, true, true, true, true, true, true, true, true] rfl rfl (by kernel_rfl) (fun _ _ _ h => h) (Or.inl ⟨by rfl, ?_⟩) ?_ ?_
        rotate_left
        · intro w'
          go_simp
          with_reducible rfl
        rotate_left
        · simp only [Act.put, List.setIfInBounds_toArray, List.set_cons_zero, List.set_cons_succ, i64_w, i32_w]
          rfl
        refine done_ (by kernel_rfl) ?_
        have HI2 := Aside0.mk (HI.out.below' HBC.out)
        clear hHeld hh3 hh7 hr0 hr1 hr2 hr3 hrp HSB HSW HS46 HBL HCL HI HBC HRO
        generalize wb.drewN nd = wd at *
        go_wp2_with fail
        go_loopg [10] 14 (fun kq v10 w' => ∃ i : Nat, v10 = .int .i64 i ∧ i + kq = 14 ∧ Aside0 (Inv w w' g3 g5 g6 g7 (scells (tsOf L) (bsOf L) p) l L l.length vs))
        case atStart => exact ⟨0, rfl, by omega, HI2⟩
        case round =>
          clear HI2
          obtain ⟨i, rfl, hi, HI⟩ := hrel
          cases gk with
          | succ k1 =>
            as_aux_lemma =>
              have hi14 : i < 14 := by omega
              have q1 : (i : Int) < 14 := by omega
              have q0 : (0 : Int) ≤ (i : Int) := by omega
              have c1 : decide ((i : Int) < 14) = true := decide_eq_true q1
              have HIX := Aside0.mk hi
              obtain ⟨hc0, hc1, hc2, hc3⟩ := cells4t HI.out.h3 (i + 1) (4 + i * 4) (by omega) (by rw [tsOf_length]; omega)
              obtain ⟨x, hx⟩ : ∃ x, x = (tsOf L).getD (i + 1) tl0 := ⟨_, rfl⟩
              obtain ⟨xs, hxs⟩ : ∃ xs, xs = rowOf l i := ⟨_, rfl⟩
              rw [← hx] at hc0 hc1 hc2 hc3
              have HRO : Aside0 (demesneref41_Of.f (xs.length + 1) xs = some (x.c, x.e, x.m, x.l)) := ⟨by rw [hx, hxs, HLE.out]; exact ref_row l HL.out HOK.out (by have := HLL.out; omega) (i + 1)⟩
              have hvl := HI.out.len
              obtain ⟨v, hv⟩ : ∃ v, vs[i]? = some v := ⟨_, List.getElem?_eq_getElem (by omega)⟩
              obtain ⟨A, c, hve, hcc, hC⟩ := HI.out.fam.read i v (rowOf l i) hv (by rw [List.take_length]; exact xss_get _ _ (by omega))
              rw [← hxs] at hve hcc hC
              subst hve
              have hs : wr.cell? ⟨g5, i, none⟩ = some (.slice A xs.length c) := (HI.out.h5.cell i).trans (by rw [List.getElem?_take, if_pos hi14]; exact hv)
              have HCX := Aside0.mk hC
              have HCC := Aside0.mk hcc
              clear hi hi14 hx hxs hvl hv hC hcc
              go_wp2_with fail
              refine start_ (n := 10) (S := fun w' => w'.cell? ⟨g3, 4 + i * 4, none⟩ = some (.int .i64 x.c) ∧ w'.cell? ⟨g3, 4 + i * 4 + 1, none⟩ = some (.int .i64 x.e) ∧ w'.cell? ⟨g3, 4 + i * 4 + 2, none⟩ = some (.int .i64 x.m) ∧ w'.cell? ⟨g3, 4 + i * 4 + 3, none⟩ = some (.int .i64 x.l) ∧ w'.cell? ⟨g5, i, none⟩ = some (.slice A xs.length c)) (ds := []) #[false, false, false, false, false, false, false, false, false, false] (by kernel_rfl) rfl rfl ⟨hc0, hc1, hc2, hc3, hs⟩ (fun hHeld => ?_)
              refine pure_ (i := 0) (N := some 119) (v := ?_) (a' := ?_) #[true, false, false, false, false, false, false, false, false, false] rfl rfl (by kernel_rfl) (fun _ _ _ h => h) (Or.inl ⟨by rfl, ?_⟩) ?_ ?_
              rotate_left
              · intro w'
                go_simp
                with_reducible rfl
              rotate_left
              · simp only [Act.put, List.setIfInBounds_toArray, List.set_cons_zero, List.set_cons_succ, i64_w, i32_w]
                rfl
              refine pure_ (i := 1) (N := some 120) (v := ?_) (a' := ?_) #[true, true, false, false, false, false, false, false, false, false] rfl rfl (by kernel_rfl) (fun _ _ _ h => h) (Or.inl ⟨by rfl, ?_⟩) ?_ ?_
              rotate_left
              · intro w'
                go_simp
                with_reducible rfl
              rotate_left
              · simp only [Act.put, List.setIfInBounds_toArray, List.set_cons_zero, List.set_cons_succ, i64_w, i32_w]
                rfl
              refine pure_ (i := 2) (N := some 121) (v := ?_) (a' := ?_) #[true, true, true, false, false, false, false, false, false, false] rfl rfl (by kernel_rfl) (fun _ _ _ h => h) (Or.inl ⟨by rfl, ?_⟩) ?_ ?_
              rotate_left
              · intro w'
                go_simp
                with_reducible rfl
              rotate_left
              · simp only [Act.put, List.setIfInBounds_toArray, List.set_cons_zero, List.set_cons_succ, i64_w, i32_w]
                rfl
              refine pure_ (i := 4) (N := some 123) (v := ?_) (a' := ?_) #[true, true, true, false, true, false, false, false, false, false] rfl rfl (by kernel_rfl) (fun _ _ _ h => h) (Or.inl ⟨by rfl, ?_⟩) ?_ ?_
              rotate_left
              · intro w'
                go_simp
                with_reducible rfl
              rotate_left
              · simp only [Act.put, List.setIfInBounds_toArray, List.set_cons_zero, List.set_cons_succ, i64_w, i32_w]
                rfl
              refine pure_ (i := 5) (N := some 124) (v := ?_) (a' := ?_) #[true, true, true, false, true, true, false, false, false, false] rfl rfl (by kernel_rfl) (fun _ _ _ h => h) (Or.inl ⟨by rfl, ?_⟩) ?_ ?_
              rotate_left
              · intro w'
                go_simp
                with_reducible rfl
              rotate_left
              · simp only [Act.put, List.setIfInBounds_toArray, List.set_cons_zero, List.set_cons_succ, i64_w, i32_w]
                rfl
              refine take_ (i := 3) (N := some 122) (v := ?_) (a' := ?_) #[true, true, true, true, true, true, false, false, false, false] rfl rfl (by kernel_rfl) (fun _ _ _ h => h) (Or.inl ⟨by rfl, ?_⟩) hHeld ?_ ?_
              rotate_left
              · rintro w' ⟨s0, s1, s2, s3, s4⟩
                go_simp
                with_reducible rfl
              rotate_left
              · simp only [Act.put, List.setIfInBounds_toArray, List.set_cons_zero, List.set_cons_succ, i64_w, i32_w]
                rfl
              refine take_ (i := 6) (N := some 125) (v := ?_) (a' := ?_) #[true, true, true, true, true, true, true, false, false, false] rfl rfl (by kernel_rfl) (fun _ _ _ h => h) (Or.inl ⟨by rfl, ?_⟩) hHeld ?_ ?_
              rotate_left
              · rintro w' ⟨s0, s1, s2, s3, s4⟩
                go_simp
                with_reducible rfl
              rotate_left
              · simp only [Act.put, List.setIfInBounds_toArray, List.set_cons_zero, List.set_cons_succ, i64_w, i32_w]
                rfl
              refine one_ (i := 7) (N := some 126) #[true, true, true, true, true, true, true, true, false, false] rfl rfl (by kernel_rfl) (by decide) (fun K hK => ?_)
              refine goes_ Try.func27 (by kernel_rfl) rfl #[.slice A xs.length c] (by rfl) rfl rfl (by simp only [List.map_toArray, List.map_cons, List.map_nil]; rfl) ?_
              with_reducible refine (demesneref41_Of.calls (xs.length + 1) A c xs x.c x.e x.m x.l _ (Kd.C_drew HCX.out) HCC.out HRO.out).mono ?_
              rintro e wa ⟨rfl, hba⟩
              refine ⟨_, rfl, ?_⟩
              have HBA := Aside0.mk (show Below wr.heap.size wr wa from below_then (below_drew (Below.refl _ _)) (Nat.le_refl _) hba)
              clear hba
              refine hK.out _ _ ⟨(pw_cell_below HBA.out hc0), (pw_cell_below HBA.out hc1), (pw_cell_below HBA.out hc2), (pw_cell_below HBA.out hc3), (pw_cell_below HBA.out hs)⟩ (fun hHeld => ?_)
              clear hK K
              refine norm_ (a' := ?_) ?_ ?_
              rotate_left
              · show Act.put _ (some 126) _ = _
                simp only [Act.put, List.setIfInBounds_toArray, List.set_cons_zero, List.set_cons_succ, i64_w, i32_w]
                rfl
              refine one_ (i := 8) (N := some 127) #[true, true, true, true, true, true, true, true, true, false] rfl rfl (by kernel_rfl) (by decide) (fun K hK => ?_)
              refine goes_ Try.func26 (by kernel_rfl) rfl #[.agg #[.int .i64 x.c, .int .i64 x.e, .int .i64 x.m, .int .i64 x.l]] (by rfl) rfl rfl (by simp only [List.map_toArray, List.map_cons, List.map_nil]; rfl) ?_
              with_reducible refine (demesnelaw41_tally.calls x.c x.e x.m x.l x.c x.e x.m x.l _ rfl).mono ?_
              rintro e wb ⟨rfl, hbb⟩
              refine ⟨_, rfl, ?_⟩
              have HBB := Aside0.mk (below_then HBA.out HBA.out.size hbb)
              clear hbb HBA
              refine hK.out _ _ ⟨(pw_cell_below HBB.out hc0), (pw_cell_below HBB.out hc1), (pw_cell_below HBB.out hc2), (pw_cell_below HBB.out hc3), (pw_cell_below HBB.out hs)⟩ (fun hHeld => ?_)
              clear hK K
              refine norm_ (a' := ?_) ?_ ?_
              rotate_left
              · show Act.put _ (some 127) _ = _
                simp only [Act.put, List.setIfInBounds_toArray, List.set_cons_zero, List.set_cons_succ, i64_w, i32_w]
                rfl
              refine pure_ (i := 9) (N := some 128) (v := ?_) (a' := ?_) #[true, true, true, true, true, true, true, true, true, true] rfl rfl (by kernel_rfl) (fun _ _ _ h => h) (Or.inl ⟨by rfl, ?_⟩) ?_ ?_
              rotate_left
              · intro w'
                go_simp
                with_reducible rfl
              rotate_left
              · simp only [Act.put, List.setIfInBounds_toArray, List.set_cons_zero, List.set_cons_succ, i64_w, i32_w]
                rfl
              refine done_ (by kernel_rfl) ?_
              have HI3 := Aside0.mk (HI.out.below' HBB.out)
              clear hHeld
              go_wp2_with fail
              go_roundg k1
              case measure => have := HIX.out; omega
              case rel => exact ⟨i + 1, rfl, by have := HIX.out; omega, HI3⟩
          | zero =>
            as_aux_lemma =>
              obtain rfl : i = 14 := by omega
              clear hi
              go_wp2_with fail
              go_loopg [11] 65 (fun kq v11 w' => ∃ i : Nat, v11 = .int .i64 i ∧ i + kq = 65 ∧ Aside0 (Inv w w' g3 g5 g6 g7 (scells (tsOf L) (bsOf L) p) l L l.length vs))
              case atStart => exact ⟨0, rfl, by omega, HI⟩
              case round =>
                clear HI
                obtain ⟨i, rfl, hi, HI⟩ := hrel
                cases gk with
                | succ k1 =>
                  as_aux_lemma =>
                    have hi14 : i < 65 := by omega
                    have q1 : (i : Int) < 65 := by omega
                    have q0 : (0 : Int) ≤ (i : Int) := by omega
                    have c1 : decide ((i : Int) < 65) = true := decide_eq_true q1
                    have HIX := Aside0.mk hi
                    obtain ⟨hc0, hc1, hc2, hc3⟩ := cells4t HI.out.h3 (14 + i + 1) (60 + i * 4) (by omega) (by rw [tsOf_length]; omega)
                    obtain ⟨x, hx⟩ : ∃ x, x = (tsOf L).getD (14 + i + 1) tl0 := ⟨_, rfl⟩
                    obtain ⟨xs, hxs⟩ : ∃ xs, xs = rowOf l (14 + i) := ⟨_, rfl⟩
                    rw [← hx] at hc0 hc1 hc2 hc3
                    have HRO : Aside0 (demesneref41_Of.f (xs.length + 1) xs = some (x.c, x.e, x.m, x.l)) := ⟨by rw [hx, hxs, HLE.out]; exact ref_row l HL.out HOK.out (by have := HLL.out; omega) (14 + i + 1)⟩
                    have hvl := HI.out.len
                    obtain ⟨v, hv⟩ : ∃ v, vs[14 + i]? = some v := ⟨_, List.getElem?_eq_getElem (by omega)⟩
                    obtain ⟨A, c, hve, hcc, hC⟩ := HI.out.fam.read (14 + i) v (rowOf l (14 + i)) hv (by rw [List.take_length]; exact xss_get _ _ (by omega))
                    rw [← hxs] at hve hcc hC
                    subst hve
                    have hs : wr.cell? ⟨g6, i, none⟩ = some (.slice A xs.length c) := (HI.out.h6.cell i).trans (by rw [List.getElem?_drop]; exact hv)
                    have HCX := Aside0.mk hC
                    have HCC := Aside0.mk hcc
                    clear hi hi14 hx hxs hvl hv hC hcc
                    go_wp2_with fail
                    refine start_ (n := 10) (S := fun w' => w'.cell? ⟨g3, 60 + i * 4, none⟩ = some (.int .i64 x.c) ∧ w'.cell? ⟨g3, 60 + i * 4 + 1, none⟩ = some (.int .i64 x.e) ∧ w'.cell? ⟨g3, 60 + i * 4 + 2, none⟩ = some (.int .i64 x.m) ∧ w'.cell? ⟨g3, 60 + i * 4 + 3, none⟩ = some (.int .i64 x.l) ∧ w'.cell? ⟨g6, i, none⟩ = some (.slice A xs.length c)) (ds := []) #[false, false, false, false, false, false, false, false, false, false] (by kernel_rfl) rfl rfl ⟨hc0, hc1, hc2, hc3, hs⟩ (fun hHeld => ?_)
                    refine pure_ (i := 0) (N := some 133) (v := ?_) (a' := ?_) #[true, false, false, false, false, false, false, false, false, false] rfl rfl (by kernel_rfl) (fun _ _ _ h => h) (Or.inl ⟨by rfl, ?_⟩) ?_ ?_
                    rotate_left
                    · intro w'
                      go_simp
                      with_reducible rfl
                    rotate_left
                    · simp only [Act.put, List.setIfInBounds_toArray, List.set_cons_zero, List.set_cons_succ, i64_w, i32_w]
                      rfl
                    refine pure_ (i := 1) (N := some 134) (v := ?_) (a' := ?_) #[true, true, false, false, false, false, false, false, false, false] rfl rfl (by kernel_rfl) (fun _ _ _ h => h) (Or.inl ⟨by rfl, ?_⟩) ?_ ?_
                    rotate_left
                    · intro w'
                      go_simp
                      with_reducible rfl
                    rotate_left
                    · simp only [Act.put, List.setIfInBounds_toArray, List.set_cons_zero, List.set_cons_succ, i64_w, i32_w]
                      rfl
                    refine pure_ (i := 2) (N := some 135) (v := ?_) (a' := ?_) #[true, true, true, false, false, false, false, false, false, false] rfl rfl (by kernel_rfl) (fun _ _ _ h => h) (Or.inl ⟨by rfl, ?_⟩) ?_ ?_
                    rotate_left
                    · intro w'
                      go_simp
                      with_reducible rfl
                    rotate_left
                    · simp only [Act.put, List.setIfInBounds_toArray, List.set_cons_zero, List.set_cons_succ, i64_w, i32_w]
                      rfl
                    refine pure_ (i := 4) (N := some 137) (v := ?_) (a' := ?_) #[true, true, true, false, true, false, false, false, false, false] rfl rfl (by kernel_rfl) (fun _ _ _ h => h) (Or.inl ⟨by rfl, ?_⟩) ?_ ?_
                    rotate_left
                    · intro w'
                      go_simp
                      with_reducible rfl
                    rotate_left
                    · simp only [Act.put, List.setIfInBounds_toArray, List.set_cons_zero, List.set_cons_succ, i64_w, i32_w]
                      rfl
                    refine pure_ (i := 5) (N := some 138) (v := ?_) (a' := ?_) #[true, true, true, false, true, true, false, false, false, false] rfl rfl (by kernel_rfl) (fun _ _ _ h => h) (Or.inl ⟨by rfl, ?_⟩) ?_ ?_
                    rotate_left
                    · intro w'
                      go_simp
                      with_reducible rfl
                    rotate_left
                    · simp only [Act.put, List.setIfInBounds_toArray, List.set_cons_zero, List.set_cons_succ, i64_w, i32_w]
                      rfl
                    refine take_ (i := 3) (N := some 136) (v := ?_) (a' := ?_) #[true, true, true, true, true, true, false, false, false, false] rfl rfl (by kernel_rfl) (fun _ _ _ h => h) (Or.inl ⟨by rfl, ?_⟩) hHeld ?_ ?_
                    rotate_left
                    · rintro w' ⟨s0, s1, s2, s3, s4⟩
                      go_simp
                      with_reducible rfl
                    rotate_left
                    · simp only [Act.put, List.setIfInBounds_toArray, List.set_cons_zero, List.set_cons_succ, i64_w, i32_w]
                      rfl
                    refine take_ (i := 6) (N := some 139) (v := ?_) (a' := ?_) #[true, true, true, true, true, true, true, false, false, false] rfl rfl (by kernel_rfl) (fun _ _ _ h => h) (Or.inl ⟨by rfl, ?_⟩) hHeld ?_ ?_
                    rotate_left
                    · rintro w' ⟨s0, s1, s2, s3, s4⟩
                      go_simp
                      with_reducible rfl
                    rotate_left
                    · simp only [Act.put, List.setIfInBounds_toArray, List.set_cons_zero, List.set_cons_succ, i64_w, i32_w]
                      rfl
                    refine one_ (i := 7) (N := some 140) #[true, true, true, true, true, true, true, true, false, false] rfl rfl (by kernel_rfl) (by decide) (fun K hK => ?_)
                    refine goes_ Try.func27 (by kernel_rfl) rfl #[.slice A xs.length c] (by rfl) rfl rfl (by simp only [List.map_toArray, List.map_cons, List.map_nil]; rfl) ?_
                    with_reducible refine (demesneref41_Of.calls (xs.length + 1) A c xs x.c x.e x.m x.l _ (Kd.C_drew HCX.out) HCC.out HRO.out).mono ?_
                    rintro e wa ⟨rfl, hba⟩
                    refine ⟨_, rfl, ?_⟩
                    have HBA := Aside0.mk (show Below wr.heap.size wr wa from below_then (below_drew (Below.refl _ _)) (Nat.le_refl _) hba)
                    clear hba
                    refine hK.out _ _ ⟨(pw_cell_below HBA.out hc0), (pw_cell_below HBA.out hc1), (pw_cell_below HBA.out hc2), (pw_cell_below HBA.out hc3), (pw_cell_below HBA.out hs)⟩ (fun hHeld => ?_)
                    clear hK K
                    refine norm_ (a' := ?_) ?_ ?_
                    rotate_left
                    · show Act.put _ (some 140) _ = _
                      simp only [Act.put, List.setIfInBounds_toArray, List.set_cons_zero, List.set_cons_succ, i64_w, i32_w]
                      rfl
                    refine one_ (i := 8) (N := some 141) #[true, true, true, true, true, true, true, true, true, false] rfl rfl (by kernel_rfl) (by decide) (fun K hK => ?_)
                    refine goes_ Try.func26 (by kernel_rfl) rfl #[.agg #[.int .i64 x.c, .int .i64 x.e, .int .i64 x.m, .int .i64 x.l]] (by rfl) rfl rfl (by simp only [List.map_toArray, List.map_cons, List.map_nil]; rfl) ?_
                    with_reducible refine (demesnelaw41_tally.calls x.c x.e x.m x.l x.c x.e x.m x.l _ rfl).mono ?_
                    rintro e wb ⟨rfl, hbb⟩
                    refine ⟨_, rfl, ?_⟩
                    have HBB := Aside0.mk (below_then HBA.out HBA.out.size hbb)
                    clear hbb HBA
                    refine hK.out _ _ ⟨(pw_cell_below HBB.out hc0), (pw_cell_below HBB.out hc1), (pw_cell_below HBB.out hc2), (pw_cell_below HBB.out hc3), (pw_cell_below HBB.out hs)⟩ (fun hHeld => ?_)
                    clear hK K
                    refine norm_ (a' := ?_) ?_ ?_
                    rotate_left
                    · show Act.put _ (some 141) _ = _
                      simp only [Act.put, List.setIfInBounds_toArray, List.set_cons_zero, List.set_cons_succ, i64_w, i32_w]
                      rfl
                    refine pure_ (i := 9) (N := some 142) (v := ?_) (a' := ?_) #[true, true, true, true, true, true, true, true, true, true] rfl rfl (by kernel_rfl) (fun _ _ _ h => h) (Or.inl ⟨by rfl, ?_⟩) ?_ ?_
                    rotate_left
                    · intro w'
                      go_simp
                      with_reducible rfl
                    rotate_left
                    · simp only [Act.put, List.setIfInBounds_toArray, List.set_cons_zero, List.set_cons_succ, i64_w, i32_w]
                      rfl
                    refine done_ (by kernel_rfl) ?_
                    have HI3 := Aside0.mk (HI.out.below' HBB.out)
                    clear hHeld
                    go_wp2_with fail
                    go_roundg k1
                    case measure => have := HIX.out; omega
                    case rel => exact ⟨i + 1, rfl, by have := HIX.out; omega, HI3⟩
                | zero =>
                  as_aux_lemma =>
                    obtain rfl : i = 65 := by omega
                    clear hi
                    go_wp2_with (go_at_call 20; refine (wakes_calls _).mono ?_; rintro e we ⟨rfl, hbe⟩)
                    go_ret
                    exact ⟨rfl, below_then HI.out.below HI.out.below.size hbe⟩
end Go.Proofs.Ytgojfecpknonlaa.St
