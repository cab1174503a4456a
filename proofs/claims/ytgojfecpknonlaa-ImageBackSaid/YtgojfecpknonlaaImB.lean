/- Whether two rows of threads, of nodes are alike: functions 75, 78. -/
import Derived.Test.YtgojfecpknonlaaImA
namespace Go.Proofs.Ytgojfecpknonlaa.Im
open Go.RowKit Go.Proofs.YtgojfecpknonlaaW.PrintWords Go.Proofs.YtgojfecpknonlaaW.PrintLast Go.Proofs.YtgojfecpknonlaaW.PrintMore
open Go.Proofs.Ytgojfecpknonlaa.Own Go.Proofs.Ytgojfecpknonlaa.PIm
set_option linter.unusedVariables false
set_option linter.unusedSimpArgs false

theorem lt_of_cell {w : World} {p : Addr} {v : Value} (h : w.cell? p = some v) : p.block < w.heap.size := by
  rcases Nat.lt_or_ge p.block w.heap.size with h1 | h1
  · exact h1
  · have h2 : w.heap[p.block]? = none := Array.getElem?_eq_none h1
    simp [World.cell?, h2] at h
theorem cell_stays {w w' : World} {p : Addr} {v : Value} (hb : Below w.heap.size w w') (h : w.cell? p = some v) : w'.cell? p = some v := (hb.cell (lt_of_cell h)).trans h
theorem rdT (l : List S124) (i : Nat) (h : i < l.length) : rd_T124 l (i : Int) = l[i] := by
  unfold rd_T124
  rw [Int.toNat_natCast, List.getD_eq_getElem?_getD, List.getElem?_eq_getElem h]
  rfl
theorem rdN (l : List S127) (i : Nat) (h : i < l.length) : rd_T127 l (i : Int) = l[i] := by
  unfold rd_T127
  rw [Int.toNat_natCast, List.getD_eq_getElem?_getD, List.getElem?_eq_getElem h]
  rfl
theorem atT {w : World} {A : Option Addr} {l : List S124} (h : Kd.C k124 w A l.length l) (i : Nat) (hi : i < l.length) :
    ∃ ad v0 v1, A = some ad ∧ (∀ w', Below w.heap.size w w' → w'.cell? (ad.add (i * 2)) = some v0 ∧ w'.cell? ⟨(ad.add (i * 2)).block, (ad.add (i * 2)).off + 1, none⟩ = some v1) ∧ IV .i64 w v0 l[i].f0 ∧ IV .i64 w v1 l[i].f1 := by
  obtain ⟨ad, A0, c0, A1, c1, e, h0, h1, l0, g0, l1, g1⟩ := at_T124 h (i : Int) (by omega) (by omega)
  rw [rdT l i hi] at h0 h1 l0 g0 l1 g1
  rw [Int.toNat_natCast] at h0 h1
  exact ⟨ad, _, _, e, fun w' hb => ⟨cell_stays hb h0, cell_stays hb h1⟩, ⟨A0, c0, rfl, l0, g0⟩, ⟨A1, c1, rfl, l1, g1⟩⟩
theorem atN {w : World} {A : Option Addr} {l : List S127} (h : Kd.C k127 w A l.length l) (i : Nat) (hi : i < l.length) :
    ∃ ad v0 v1, A = some ad ∧ (∀ w', Below w.heap.size w w' → w'.cell? (ad.add (i * 2)) = some v0 ∧ w'.cell? ⟨(ad.add (i * 2)).block, (ad.add (i * 2)).off + 1, none⟩ = some v1) ∧ IV .i64 w v0 l[i].f0 ∧ IV .u64 w v1 l[i].f1 := by
  obtain ⟨ad, A0, c0, A1, c1, e, h0, h1, l0, g0, l1, g1⟩ := at_T127 h (i : Int) (by omega) (by omega)
  rw [rdN l i hi] at h0 h1 l0 g0 l1 g1
  rw [Int.toNat_natCast] at h0 h1
  exact ⟨ad, _, _, e, fun w' hb => ⟨cell_stays hb h0, cell_stays hb h1⟩, ⟨A0, c0, rfl, l0, g0⟩, ⟨A1, c1, rfl, l1, g1⟩⟩
def eqR {α : Type} (eq : α → α → Bool) (l m : List α) : Bool := decide (l.length = m.length) && (l.zip m).all (fun p => eq p.1 p.2)
def SmallT (t : S124) : Prop := t.f0.length ≤ 1000000 ∧ t.f1.length ≤ 1000000
def SmallN (t : S127) : Prop := t.f0.length ≤ 1000000 ∧ t.f1.length ≤ 1000000
set_option maxHeartbeats 1000000 in
set_option maxRecDepth 100000 in
theorem c75 (l m : List S124) (A B : Option Addr) (c d : Nat) (w : World) (hl : l.length ≤ 1000000) (hs : ∀ t ∈ l, SmallT t) (hA : Kd.C k124 w A l.length l) (hc : l.length ≤ c) (hB : Kd.C k124 w B m.length m) (hd : m.length ≤ d) :
    Calls Try.prog 75 #[.slice A l.length c, .slice B m.length d, .func (.func 76) #[] #[]] w fun e w' => e = .returned (.bool (eqR eqT l m)) ∧ Below w.heap.size w w' := by
  have HA := Aside0.mk hA
  have HBB := Aside0.mk hB
  have HS := Aside0.mk hs
  clear hA hB hs
  have hu128 := Try.underlying128
  by_cases hlm : l.length = m.length
  · have hne : ((l.length : Int) != (m.length : Int)) = false := by simp [hlm]
    have HLM := Aside0.mk hlm
    have HE := Aside0.mk (show eqR eqT l m = (l.zip m).all (fun p => eqT p.1 p.2) by unfold eqR; rw [decide_eq_true hlm, Bool.true_and])
    rw [← hlm]
    rw [← hlm] at hd
    clear hlm
    go_enter Try.func75, Try.ntmps75
    go_wp2_with fail
    go_loopg [17] l.length (fun kq v17 w' => ∃ i : Nat, v17 = .int .i64 (i : Int) ∧ i + kq = l.length ∧ Aside0 (((l.zip m).take i).all (fun p => eqT p.1 p.2) = true) ∧ Aside0 (Below w.heap.size w w'))
    case atStart => exact ⟨0, rfl, by omega, ⟨rfl⟩, ⟨Below.refl _ _⟩⟩
    case round =>
      obtain ⟨i, rfl, hi, HP, HW⟩ := hrel
      obtain ⟨W0, rfl⟩ : ∃ W0, W0 = wr := ⟨wr, rfl⟩
      cases gk with
      | zero =>
        have c1 : decide ((i : Int) < (l.length : Int)) = false := decide_eq_false (by omega)
        have c2 : decide (i < l.length) = false := decide_eq_false (by omega)
        go_wp2_with fail
        go_ret
        refine ⟨?_, HW.out⟩
        have h := HP.out
        rw [List.take_of_length_le (by rw [List.length_zip]; omega)] at h
        rw [HE.out, h]
        rfl
      | succ k1 =>
        have hil : i < l.length := by omega
        have him : i < m.length := by have := HLM.out; omega
        have c1 : decide ((i : Int) < (l.length : Int)) = true := decide_eq_true (by omega)
        have c2 : decide (i < l.length) = true := decide_eq_true (by omega)
        have q1 : (0 : Int) ≤ (i : Int) := by omega
        have q2 : (i : Int) < (l.length : Int) := by omega
        have hin : i < 1000000000 := by omega
        obtain ⟨ad, v0, v1, rfl, hx, hv0, hv1⟩ := atT (Kd.C_below HA.out HW.out) i hil
        obtain ⟨bd, u0, u1, rfl, hy, hu0, hu1⟩ := atT (Kd.C_below HBB.out HW.out) i him
        have HV0 := Aside0.mk hv0
        have HV1 := Aside0.mk hv1
        have HU0 := Aside0.mk hu0
        have HU1 := Aside0.mk hu1
        obtain ⟨A0, c0, rfl, _, _⟩ := hv0
        obtain ⟨A1, c1', rfl, _, _⟩ := hv1
        obtain ⟨B0, d0, rfl, _, _⟩ := hu0
        obtain ⟨B1, d1, rfl, _, _⟩ := hu1
        obtain ⟨hx0, hx1⟩ := hx W0 (Below.refl _ _)
        obtain ⟨hy0, hy1⟩ := hy (W0.alloc (.cells #[.slice A0 l[i].f0.length c0, .slice A1 l[i].f1.length c1'] 128)) (below_alloc (Below.refl _ _) _)
        clear hx hy
        have HBL := Aside0.mk (show Below W0.heap.size W0 ((W0.alloc (.cells #[.slice A0 l[i].f0.length c0, .slice A1 l[i].f1.length c1'] 128)).alloc (.cells #[.slice B0 m[i].f0.length d0, .slice B1 m[i].f1.length d1] 128)) from below_alloc (below_alloc (Below.refl _ _) _) _)
        have hsm := HS.out l[i] (List.getElem_mem hil)
        have HZ := Aside0.mk (show ((l.zip m).take (i + 1)).all (fun p => eqT p.1 p.2) = eqT l[i] m[i] by
          rw [List.take_succ_eq_append_getElem (by rw [List.length_zip]; omega), List.all_append, HP.out, List.getElem_zip]
          simp)
        go_upto_if 30 with (go_at_call 76; refine (c76 l[i] m[i] _ _ _ _ _ hsm.1 hsm.2 (HV0.out.below HBL.out) (HV1.out.below HBL.out) (HU0.out.below HBL.out) (HU1.out.below HBL.out)).mono ?_; rintro e w3 ⟨rfl, hb3⟩; have HB3 := Aside0.mk (below_then HW.out HW.out.size (below_then HBL.out HBL.out.size hb3)); clear hb3)
        obtain ⟨E, hE⟩ : ∃ E, E = eqT l[i] m[i] := ⟨_, rfl⟩
        rw [← hE] at HZ ⊢
        cases E with
        | true =>
          go_wp2_with fail
          go_roundg k1
          case measure => omega
          case rel => exact ⟨i + 1, rfl, by omega, HZ, HB3⟩
        | false =>
          go_wp2_with fail
          go_ret
          refine ⟨?_, HB3.out⟩
          rw [HE.out]
          have h : (l.zip m).all (fun p => eqT p.1 p.2) = false := by
            have h1 := HZ.out
            rw [Bool.eq_false_iff]
            intro h2
            rw [List.all_eq_true] at h2
            rw [Bool.eq_false_iff] at h1
            exact h1 (List.all_eq_true.2 (fun x hx => h2 x (List.mem_of_mem_take hx)))
          rw [h]
          rfl
  · have hne : ((l.length : Int) != (m.length : Int)) = true := bne_iff_ne.2 (by omega)
    have HE := Aside0.mk (show eqR eqT l m = false by unfold eqR; rw [decide_eq_false hlm, Bool.false_and])
    clear hlm
    go_enter Try.func75, Try.ntmps75
    go_wp2_with fail
    go_ret
    exact ⟨by rw [HE.out]; rfl, Below.refl _ _⟩
set_option maxHeartbeats 1000000 in
set_option maxRecDepth 100000 in
theorem c78 (l m : List S127) (A B : Option Addr) (c d : Nat) (w : World) (hl : l.length ≤ 1000000) (hs : ∀ t ∈ l, SmallN t) (hA : Kd.C k127 w A l.length l) (hc : l.length ≤ c) (hB : Kd.C k127 w B m.length m) (hd : m.length ≤ d) :
    Calls Try.prog 78 #[.slice A l.length c, .slice B m.length d, .func (.func 79) #[] #[]] w fun e w' => e = .returned (.bool (eqR eqN l m)) ∧ Below w.heap.size w w' := by
  have HA := Aside0.mk hA
  have HBB := Aside0.mk hB
  have HS := Aside0.mk hs
  clear hA hB hs
  have hu131 := Try.underlying131
  by_cases hlm : l.length = m.length
  · have hne : ((l.length : Int) != (m.length : Int)) = false := by simp [hlm]
    have HLM := Aside0.mk hlm
    have HE := Aside0.mk (show eqR eqN l m = (l.zip m).all (fun p => eqN p.1 p.2) by unfold eqR; rw [decide_eq_true hlm, Bool.true_and])
    rw [← hlm]
    rw [← hlm] at hd
    clear hlm
    go_enter Try.func78, Try.ntmps78
    go_wp2_with fail
    go_loopg [17] l.length (fun kq v17 w' => ∃ i : Nat, v17 = .int .i64 (i : Int) ∧ i + kq = l.length ∧ Aside0 (((l.zip m).take i).all (fun p => eqN p.1 p.2) = true) ∧ Aside0 (Below w.heap.size w w'))
    case atStart => exact ⟨0, rfl, by omega, ⟨rfl⟩, ⟨Below.refl _ _⟩⟩
    case round =>
      obtain ⟨i, rfl, hi, HP, HW⟩ := hrel
      obtain ⟨W0, rfl⟩ : ∃ W0, W0 = wr := ⟨wr, rfl⟩
      cases gk with
      | zero =>
        have c1 : decide ((i : Int) < (l.length : Int)) = false := decide_eq_false (by omega)
        have c2 : decide (i < l.length) = false := decide_eq_false (by omega)
        go_wp2_with fail
        go_ret
        refine ⟨?_, HW.out⟩
        have h := HP.out
        rw [List.take_of_length_le (by rw [List.length_zip]; omega)] at h
        rw [HE.out, h]
        rfl
      | succ k1 =>
        have hil : i < l.length := by omega
        have him : i < m.length := by have := HLM.out; omega
        have c1 : decide ((i : Int) < (l.length : Int)) = true := decide_eq_true (by omega)
        have c2 : decide (i < l.length) = true := decide_eq_true (by omega)
        have q1 : (0 : Int) ≤ (i : Int) := by omega
        have q2 : (i : Int) < (l.length : Int) := by omega
        have hin : i < 1000000000 := by omega
        obtain ⟨ad, v0, v1, rfl, hx, hv0, hv1⟩ := atN (Kd.C_below HA.out HW.out) i hil
        obtain ⟨bd, u0, u1, rfl, hy, hu0, hu1⟩ := atN (Kd.C_below HBB.out HW.out) i him
        have HV0 := Aside0.mk hv0
        have HV1 := Aside0.mk hv1
        have HU0 := Aside0.mk hu0
        have HU1 := Aside0.mk hu1
        obtain ⟨A0, c0, rfl, _, _⟩ := hv0
        obtain ⟨A1, c1', rfl, _, _⟩ := hv1
        obtain ⟨B0, d0, rfl, _, _⟩ := hu0
        obtain ⟨B1, d1, rfl, _, _⟩ := hu1
        obtain ⟨hx0, hx1⟩ := hx W0 (Below.refl _ _)
        obtain ⟨hy0, hy1⟩ := hy (W0.alloc (.cells #[.slice A0 l[i].f0.length c0, .slice A1 l[i].f1.length c1'] 131)) (below_alloc (Below.refl _ _) _)
        clear hx hy
        have HBL := Aside0.mk (show Below W0.heap.size W0 ((W0.alloc (.cells #[.slice A0 l[i].f0.length c0, .slice A1 l[i].f1.length c1'] 131)).alloc (.cells #[.slice B0 m[i].f0.length d0, .slice B1 m[i].f1.length d1] 131)) from below_alloc (below_alloc (Below.refl _ _) _) _)
        have hsm := HS.out l[i] (List.getElem_mem hil)
        have HZ := Aside0.mk (show ((l.zip m).take (i + 1)).all (fun p => eqN p.1 p.2) = eqN l[i] m[i] by
          rw [List.take_succ_eq_append_getElem (by rw [List.length_zip]; omega), List.all_append, HP.out, List.getElem_zip]
          simp)
        go_upto_if 30 with (go_at_call 79; refine (c79 l[i] m[i] _ _ _ _ _ hsm.1 hsm.2 (HV0.out.below HBL.out) (HV1.out.below HBL.out) (HU0.out.below HBL.out) (HU1.out.below HBL.out)).mono ?_; rintro e w3 ⟨rfl, hb3⟩; have HB3 := Aside0.mk (below_then HW.out HW.out.size (below_then HBL.out HBL.out.size hb3)); clear hb3)
        obtain ⟨E, hE⟩ : ∃ E, E = eqN l[i] m[i] := ⟨_, rfl⟩
        rw [← hE] at HZ ⊢
        cases E with
        | true =>
          go_wp2_with fail
          go_roundg k1
          case measure => omega
          case rel => exact ⟨i + 1, rfl, by omega, HZ, HB3⟩
        | false =>
          go_wp2_with fail
          go_ret
          refine ⟨?_, HB3.out⟩
          rw [HE.out]
          have h : (l.zip m).all (fun p => eqN p.1 p.2) = false := by
            have h1 := HZ.out
            rw [Bool.eq_false_iff]
            intro h2
            rw [List.all_eq_true] at h2
            rw [Bool.eq_false_iff] at h1
            exact h1 (List.all_eq_true.2 (fun x hx => h2 x (List.mem_of_mem_take hx)))
          rw [h]
          rfl
  · have hne : ((l.length : Int) != (m.length : Int)) = true := bne_iff_ne.2 (by omega)
    have HE := Aside0.mk (show eqR eqN l m = false by unfold eqR; rw [decide_eq_false hlm, Bool.false_and])
    clear hlm
    go_enter Try.func78, Try.ntmps78
    go_wp2_with fail
    go_ret
    exact ⟨by rw [HE.out]; rfl, Below.refl _ _⟩
end Go.Proofs.Ytgojfecpknonlaa.Im

