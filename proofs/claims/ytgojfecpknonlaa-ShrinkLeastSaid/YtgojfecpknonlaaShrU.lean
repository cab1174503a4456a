/- The walk of the law ShrinkWithout: true at every input. -/
import Derived.Test.YtgojfecpknonlaaShrT
import Derived.OpenShut
namespace Go.Proofs.Ytgojfecpknonlaa.Shr
open Go.RowKit Go.Proofs.YtgojfecpknonlaaW.PrintWords Go.Proofs.YtgojfecpknonlaaW.PrintLast Go.Proofs.YtgojfecpknonlaaW.PrintMore
open Go.Proofs.Ytgojfecpknonlaa.Own Go.Proofs.Ytgojfecpknonlaa.PShrinkLeast
set_option linter.unusedVariables false
set_option linter.unusedSimpArgs false

theorem info3' : (Try.prog.info? 3).map (fun i => (i.zero, i.size, i.bytes)) = some (some (.int .i64 0), 1, 8) := by kernel_rfl

/-- What the law wants: the places from 0 on that are kept. -/
def keptTo (f n : Int) (m : Nat) : List Int := ((List.range m).filter (fun (i : Nat) => decide ((i : Int) < f) || decide (f + n ≤ (i : Int)))).map (fun (i : Nat) => (i : Int))

theorem keptTo_succ (f n : Int) (m : Nat) : keptTo f n (m + 1) = keptTo f n m ++ (if (m : Int) < f ∨ f + n ≤ (m : Int) then [(m : Int)] else []) := by
  unfold keptTo
  rw [List.range_succ, List.filter_append, List.map_append]
  congr 1
  by_cases h : (m : Int) < f ∨ f + n ≤ (m : Int)
  · rw [if_pos h]
    have : (decide ((m : Int) < f) || decide (f + n ≤ (m : Int))) = true := by simpa using h
    simp [List.filter_cons, this]
  · rw [if_neg h]
    have : (decide ((m : Int) < f) || decide (f + n ≤ (m : Int))) = false := by simpa using h
    simp [List.filter_cons, this]

theorem wo_range (f n : Int) (m : Nat) (hm : m < 65536) (f' n' : Int) (hh : ∀ i : Nat, ((i : Int) < f' ∨ n' ≤ 0 ∨ (i : Int) - f' ≥ n') ↔ ((i : Int) < f ∨ f + n ≤ (i : Int))) : (wo f' n' ((List.range m).map ent) 0).map num = keptTo f n m := by
  induction m with
  | zero => rfl
  | succ m ih =>
    rw [List.range_succ, List.map_append, wo_append, List.map_append, keptTo_succ, ih (by omega)]
    congr 1
    simp only [List.length_map, List.length_range, Nat.zero_add, List.map_cons, List.map_nil, wo]
    by_cases h : (m : Int) < f ∨ f + n ≤ (m : Int)
    · rw [if_pos h, if_pos ((hh m).2 h), List.map_cons, num_ent m (by omega), List.map_nil]
    · rw [if_neg h, if_neg (fun k => h ((hh m).1 k)), List.map_nil]

theorem without_kept (m : Nat) (hm : m < 65536) (f n : Int) (hf : -1000000 ≤ f ∧ f ≤ 1000000) (hn : -1000000 ≤ n ∧ n ≤ 1000000) :
    ∃ r, Ev (fun k => shrink_Without.f k ((List.range m).map ent) f n) r ∧ r.map num = keptTo f n m ∧ r.length ≤ m := by
  refine ⟨_, without_ev _ f n (by simp; omega) (by omega) (by omega), ?_, ?_⟩
  · by_cases h : f < 0 ∧ n > 0
    · rw [if_pos h]; exact wo_range f n m hm _ _ (fun i => by omega)
    · rw [if_neg h]; exact wo_range f n m hm _ _ (fun i => by omega)
  · split
    · exact Nat.le_trans (wo_len _ _ _ _) (by simp)
    · exact Nat.le_trans (wo_len _ _ _ _) (by simp)

set_option maxHeartbeats 4000000 in
set_option maxRecDepth 100000 in
theorem without_walk (a0 : Int) (f : Int) (n : Int) (w0 : (Lit.int .u16 a0).wf = true) (w : World) :
    Calls Try.prog 3 #[.int .u16 a0, .int .i64 f, .int .i64 n] w fun e w' => e = .returned (.bool true) ∧ Below w.heap.size w w' := by
  by_cases hb : f < -1000000 ∨ f > 1000000 ∨ n < -1000000 ∨ n > 1000000
  · have go : ∀ (b1 b2 b3 b4 : Bool), decide (f < -1000000) = b1 → decide (1000000 < f) = b2 → decide (n < -1000000) = b3 → decide (1000000 < n) = b4 → (b1 || b2 || b3 || b4) = true → Calls Try.prog 3 #[.int .u16 a0, .int .i64 f, .int .i64 n] w fun e w' => e = .returned (.bool true) ∧ Below w.heap.size w w' := by
      intro b1 b2 b3 b4 h1 h2 h3 h4 hor
      clear hb
      cases b1 <;> cases b2 <;> cases b3 <;> cases b4 <;> first
        | (simp at hor; done)
        | (clear hor
           go_enter Try.func3, Try.ntmps3
           go_wp2_with (go_at_call 11; refine (wakes_calls _).mono ?_; rintro e w1 ⟨rfl, hb1⟩)
           go_ret
           exact ⟨rfl, hb1⟩)
    refine go _ _ _ _ rfl rfl rfl rfl ?_
    simpa [or_assoc] using hb
  · obtain ⟨hw1, hw2⟩ : 0 ≤ a0 ∧ a0 ≤ 65535 := by have := bounds_u16 w0; omega
    obtain ⟨m, hm⟩ : ∃ m : Nat, (m : Int) = a0 % 301 := ⟨(a0 % 301).toNat, by omega⟩
    have hm2 : m < 301 := by omega
    obtain ⟨r, hr, hrk, hrl⟩ := without_kept m (by omega) f n (by omega) (by omega)
    obtain ⟨k0, hk0⟩ := (numbered_ev m (by omega)).rounds
    obtain ⟨k1, hk1⟩ := hr.rounds
    obtain ⟨k2, hk2⟩ := (numbers_ev r (by omega)).rounds
    obtain ⟨k3, hk3⟩ := (row_ev (r.map num) (r.map num) (by simp; omega)).rounds
    rw [decide_eq_true rfl] at hk3
    rw [hrk] at hk2 hk3
    have c1 : decide (f < -1000000) = false := decide_eq_false (by omega)
    have c2 : decide (1000000 < f) = false := decide_eq_false (by omega)
    have c3 : decide (n < -1000000) = false := decide_eq_false (by omega)
    have c4 : decide (1000000 < n) = false := decide_eq_false (by omega)
    have HK0 := Aside0.mk hk0
    have HK1 := Aside0.mk hk1
    have HK2 := Aside0.mk hk2
    have HK3 := Aside0.mk hk3
    have HM := Aside0.mk hm
    have b1 : -1000000 ≤ f := by omega
    have b2 : f ≤ 1000000 := by omega
    have b3 : -1000000 ≤ n := by omega
    have b4 : n ≤ 1000000 := by omega
    clear hk0 hk1 hk2 hk3 hr hrk hb hm w0
    go_enter Try.func3, Try.ntmps3
    go_wp2_with fail
    rw [← HM.out]
    refine (demesnelaw40_numbered.calls k0 m _ _ HK0.out).mono ?_
    rintro e w1 ⟨v1, rfl, hv1, hb1⟩
    have HO := Aside0.mk hv1
    have HB := Aside0.mk hb1
    clear hv1 hb1 HM hw1 hw2
    obtain ⟨A1, c1', hv1⟩ := Kd.R_slice HO.out
    subst hv1
    have hml : ((List.range m).map ent).length = m := by simp
    rw [hml]
    clear hml
    go_wp2_with fail
    go_loopg [8, 9] m (fun kq v8 v9 wr => ∃ i : Nat, v9 = .int .i64 i ∧ i + kq = m ∧ Aside0 (Kd.R (Kd.int .i64) 3 wr w1.heap.size (fun _ => True) v8 (keptTo f n i)) ∧ Aside0 (Below w1.heap.size w1 wr))
    case atStart => exact ⟨0, rfl, by omega, ⟨Kd.R_nil _ _ _ _ _⟩, ⟨Below.refl _ _⟩⟩
    case round =>
      obtain ⟨i, rfl, hi, HR, HB2⟩ := hrel
      have hlk : (keptTo f n i).length ≤ i := by
        unfold keptTo
        rw [List.length_map]
        exact Nat.le_trans (List.length_filter_le _ _) (by simp)
      have HLK := Aside0.mk hlk
      clear hlk
      cases gk with
      | zero =>
        obtain rfl : i = m := by omega
        clear hi
        obtain ⟨A8, c8, hv8⟩ := Kd.R_slice HR.out
        subst hv8
        obtain ⟨_, hc1, hC1⟩ := Kd.R_reads' HO.out
        have HC1 := Aside0.mk (Kd.C_below hC1 HB2.out)
        have HB3 := Aside0.mk (below_then HB.out HB.out.size HB2.out)
        clear hC1
        have hml : ((List.range i).map ent).length = i := by simp
        have CW := shrink_Without.calls k1 A1 c1' ((List.range i).map ent) f n r wr
        rw [hml] at CW
        have HCW := Aside0.mk CW
        have HR2 := HC1.out
        rw [hml] at HR2 hc1
        have HR3 := Aside0.mk HR2
        clear hml CW HR2
        go_wp2_with fail
        refine (HCW.out HR3.out hc1 HK1.out).mono ?_
        rintro e w5 ⟨v5, rfl, hv5, hb5⟩
        obtain ⟨A5, c5, rfl, hc5, hC5⟩ := Kd.R_reads hv5
        have HC5 := Aside0.mk hC5
        have HR8 := Aside0.mk (Kd.R_below HR.out hb5)
        have HB5 := Aside0.mk (below_then HB3.out HB3.out.size hb5)
        clear hv5 hC5 hb5 HR3 HCW HB3
        go_wp2_with fail
        refine (demesnelaw40_numbers.calls k2 A5 c5 r _ _ HC5.out hc5 HK2.out).mono ?_
        rintro e w6 ⟨v6, rfl, hv6, hb6⟩
        obtain ⟨A6, c6, rfl, hc6, hC6⟩ := Kd.R_reads hv6
        have HC6 := Aside0.mk hC6
        have HR9 := Aside0.mk (Kd.R_below HR8.out hb6)
        have HB6 := Aside0.mk (below_then HB5.out HB5.out.size hb6)
        clear hv6 hC6 hb6 HB5
        go_wp2_with fail
        obtain ⟨_, hc8, hC8⟩ := Kd.R_reads' HR9.out
        refine (demesnelaw40_row.calls k3 A6 c6 _ A8 c8 _ true _ HC6.out hc6 hC8 hc8 HK3.out).mono ?_
        rintro e w7 ⟨rfl, ⟨nd, rfl⟩⟩
        clear hC8 hc8
        go_wp2_with (go_at_call 11; refine (wakes_calls _).mono ?_; rintro e w8 ⟨rfl, hb8⟩)
        go_ret
        exact ⟨rfl, below_then (pw_below_drewN HB6.out _) HB6.out.size hb8⟩
      | succ kq =>
        have hlt : decide ((i : Int) < m) = true := decide_eq_true (by omega)
        by_cases h1 : (i : Int) < f
        · have h1b : decide ((i : Int) < f) = true := decide_eq_true h1
          have hk := keptTo_succ f n i
          rw [if_pos (.inl h1)] at hk
          have HKS := Aside0.mk hk
          clear h1 hk
          go_wp2_with (at_builtin; refine Kd.R_append (Kd.int .i64) (w0 := w1) w1.heap.size rfl (.tmp 45) (.tmp 47) 26 3 (.int .i64 0) 8 rfl Try.underlying26 info3 rfl (by decide) (by omega) u8 (keptTo f n i) (i : Int) [.int .i64 i] (fun _ => True) (fun _ => False) rfl rfl rfl (fun _ hk => hk.elim) (fun _ _ => trivial) ?aO ?aB ?aS ?aL ?_; (case aO => exact HR.out); (case aB => exact HB2.out); (case aS => exact HB2.out.size); (case aL => have := HLK.out; omega); intro v8 w4 ho hb hg hat; rw [← HKS.out] at ho; have HR4 := Aside0.mk ho; have HB4 := Aside0.mk hb; clear ho hb hg hat)
          go_roundg kq
          case measure => omega
          case rel => exact ⟨i + 1, by go_num, by omega, HR4, HB4⟩
        · have h1b : decide ((i : Int) < f) = false := decide_eq_false h1
          by_cases h2 : f + n ≤ (i : Int)
          · have h2b : decide (f + n ≤ (i : Int)) = true := decide_eq_true h2
            have hk := keptTo_succ f n i
            rw [if_pos (.inr h2)] at hk
            have HKS := Aside0.mk hk
            clear h1 h2 hk
            go_wp2_with (at_builtin; refine Kd.R_append (Kd.int .i64) (w0 := w1) w1.heap.size rfl (.tmp 45) (.tmp 47) 26 3 (.int .i64 0) 8 rfl Try.underlying26 info3 rfl (by decide) (by omega) u8 (keptTo f n i) (i : Int) [.int .i64 i] (fun _ => True) (fun _ => False) rfl rfl rfl (fun _ hk => hk.elim) (fun _ _ => trivial) ?aO ?aB ?aS ?aL ?_; (case aO => exact HR.out); (case aB => exact HB2.out); (case aS => exact HB2.out.size); (case aL => have := HLK.out; omega); intro v8 w4 ho hb hg hat; rw [← HKS.out] at ho; have HR4 := Aside0.mk ho; have HB4 := Aside0.mk hb; clear ho hb hg hat)
            go_roundg kq
            case measure => omega
            case rel => exact ⟨i + 1, by go_num, by omega, HR4, HB4⟩
          · have h2b : decide (f + n ≤ (i : Int)) = false := decide_eq_false h2
            have hk := keptTo_succ f n i
            rw [if_neg (by omega), List.append_nil] at hk
            have HR4 : Aside0 (Kd.R (Kd.int .i64) 3 wr w1.heap.size (fun _ => True) u8 (keptTo f n (i + 1))) := ⟨by rw [hk]; exact HR.out⟩
            clear h1 h2 hk
            go_wp2
            go_roundg kq
            case measure => omega
            case rel => exact ⟨i + 1, by go_num, by omega, HR4, HB2⟩
end Go.Proofs.Ytgojfecpknonlaa.Shr
