/- Rows cloned, and names that are no node's struck: functions 98, 114, 97. -/
import Derived.Test.YtgojfecpknonlaaImC
import Derived.Lib.SliceRun
namespace Go.Proofs.Ytgojfecpknonlaa.Im
open Go.RowKit Go.Proofs.YtgojfecpknonlaaW.PrintWords Go.Proofs.YtgojfecpknonlaaW.PrintLast Go.Proofs.YtgojfecpknonlaaW.PrintMore
open Go.Proofs.Ytgojfecpknonlaa.Own Go.Proofs.Ytgojfecpknonlaa.PIm
set_option linter.unusedVariables false
set_option linter.unusedSimpArgs false

theorem info3c : (Try.prog.info? 3).map (fun i => (i.zero, i.size, i.bytes)) = some (some (.int .i64 0), (Kd.int .i64).sz, 8) := by kernel_rfl
set_option maxHeartbeats 1000000 in
set_option maxRecDepth 100000 in
theorem c98 (v : Value) (l : List Int) (w : World) (hv : IV .i64 w v l) (hl : l.length * 8 ≤ 140737488355328) :
    Calls Try.prog 98 #[v] w fun e w' => ∃ v0_ : Value, e = .returned v0_ ∧ Kd.R (Kd.int .i64) 3 w' w.heap.size (fun _ => True) v0_ l ∧ Below w.heap.size w w' := by
  obtain ⟨A, c, rfl, hc, hr⟩ := hv
  have q : ∀ (w : World) (a : Option Addr) (n c n' c' : Nat), (binOp .eql 26 (.slice a n c) (.slice none n' c')).run Try.prog w = .ok (.bool a.isNone) w := fun w a n c n' c' => Lib.run_eql_slice_nil w _ _ a n c n' c' Try.underlying26
  rcases A with _ | ad
  · have hl0 : l = [] := by
      rcases l with _ | ⟨x, l⟩
      · rfl
      · obtain ⟨ad, h, _⟩ := hr.2.2 (by simp)
        cases h
    subst hl0
    clear hr hc hl
    go_enter Try.func98, Try.ntmps98
    go_wp2
    go_ret
    exact ⟨_, rfl, Kd.R_nil _ _ _ _ _, Below.refl _ _⟩
  · have HR := Aside0.mk hr
    clear hr hc
    go_enter Try.func98, Try.ntmps98
    go_wp2_with (at_builtin; refine R_append_row (Kd.int .i64) (w0 := w) w.heap.size rfl (.tmp 5) (.tmp 6) 26 3 (.int .i64 0) 8 rfl Try.underlying26 info3c rfl (by decide) (by omega) (.slice (some ⟨w.heap.size, 0, none⟩) 0 0) [] l (some ad) l.length c (fun _ => True) rfl rfl (fun _ _ _ _ h => h) (fun _ _ => trivial) ?aO ?aR ?aB ?aS ?aL ?_)
    case aO => exact R_lit0 _ _ _ _ _ (Nat.le_refl _) trivial
    case aR => exact Kd.C_alloc HR.out _
    case aB => exact (Below.refl _ w).alloc (Nat.le_refl _) _
    case aS => simp
    case aL => simpa using hl
    intro v1 w1 ho hb hg hat
    go_wp2
    go_ret
    exact ⟨_, rfl, by simpa using ho, hb⟩
theorem info56c : (Try.prog.info? 56).map (fun i => (i.zero, i.size, i.bytes)) = some (some (.int .u64 0), (Kd.int .u64).sz, 8) := by kernel_rfl
set_option maxHeartbeats 1000000 in
set_option maxRecDepth 100000 in
theorem c114 (v : Value) (l : List Int) (w : World) (hv : IV .u64 w v l) (hl : l.length * 8 ≤ 140737488355328) :
    Calls Try.prog 114 #[v] w fun e w' => ∃ v0_ : Value, e = .returned v0_ ∧ Kd.R (Kd.int .u64) 56 w' w.heap.size (fun _ => True) v0_ l ∧ Below w.heap.size w w' := by
  obtain ⟨A, c, rfl, hc, hr⟩ := hv
  have q : ∀ (w : World) (a : Option Addr) (n c n' c' : Nat), (binOp .eql 125 (.slice a n c) (.slice none n' c')).run Try.prog w = .ok (.bool a.isNone) w := fun w a n c n' c' => Lib.run_eql_slice_nil w _ _ a n c n' c' Try.underlying125
  rcases A with _ | ad
  · have hl0 : l = [] := by
      rcases l with _ | ⟨x, l⟩
      · rfl
      · obtain ⟨ad, h, _⟩ := hr.2.2 (by simp)
        cases h
    subst hl0
    clear hr hc hl
    go_enter Try.func114, Try.ntmps114
    go_wp2
    go_ret
    exact ⟨_, rfl, Kd.R_nil _ _ _ _ _, Below.refl _ _⟩
  · have HR := Aside0.mk hr
    clear hr hc
    go_enter Try.func114, Try.ntmps114
    go_wp2_with (at_builtin; refine R_append_row (Kd.int .u64) (w0 := w) w.heap.size rfl (.tmp 5) (.tmp 6) 125 56 (.int .u64 0) 8 rfl Try.underlying125 info56c rfl (by decide) (by omega) (.slice (some ⟨w.heap.size, 0, none⟩) 0 0) [] l (some ad) l.length c (fun _ => True) rfl rfl (fun _ _ _ _ h => h) (fun _ _ => trivial) ?aO ?aR ?aB ?aS ?aL ?_)
    case aO => exact R_lit0 _ _ _ _ _ (Nat.le_refl _) trivial
    case aR => exact Kd.C_alloc HR.out _
    case aB => exact (Below.refl _ w).alloc (Nat.le_refl _) _
    case aS => simp
    case aL => simpa using hl
    intro v1 w1 ho hb hg hat
    go_wp2
    go_ret
    exact ⟨_, rfl, by simpa using ho, hb⟩
/-- Names that are no node's struck. -/
def inF (n : Nat) (l : List Int) : List Int := l.map fun x => if x < 1 ∨ (n : Int) < x then 0 else x
theorem inF_take (n : Nat) (l : List Int) (i : Nat) (hi : i < l.length) : ((inF n l).take i ++ l.drop i).set i (if l[i] < 1 ∨ (n : Int) < l[i] then 0 else l[i]) = (inF n l).take (i + 1) ++ l.drop (i + 1) := by
  have h1 : i < (inF n l).length := by unfold inF; rw [List.length_map]; exact hi
  have h2 : ((inF n l).take i).length = i := by rw [List.length_take]; omega
  have h3 : (inF n l)[i] = if l[i] < 1 ∨ (n : Int) < l[i] then 0 else l[i] := by simp [inF]
  rw [List.take_succ_eq_append_getElem h1, List.drop_eq_getElem_cons hi, List.set_append_right _ _ (by omega), h2, Nat.sub_self, List.set_cons_zero, h3, List.append_assoc]
  rfl
theorem inF_length (n : Nat) (l : List Int) : (inF n l).length = l.length := by unfold inF; rw [List.length_map]
theorem inF_keep (n : Nat) (l : List Int) (i : Nat) (hi : i < l.length) (h : ¬ (l[i] < 1 ∨ (n : Int) < l[i])) : (inF n l).take i ++ l.drop i = (inF n l).take (i + 1) ++ l.drop (i + 1) := by
  have h1 : i < (inF n l).length := by rw [inF_length]; exact hi
  have h3 : (inF n l)[i] = l[i] := by simp [inF]; omega
  rw [List.take_succ_eq_append_getElem h1, List.drop_eq_getElem_cons hi, h3, List.append_assoc]
  rfl
set_option maxHeartbeats 2000000 in
set_option maxRecDepth 100000 in
theorem c97 (v : Value) (l : List Int) (n : Nat) (A2 : Option Addr) (c2 : Nat) (p : Addr) (w : World) (hv : IV .i64 w v l) (hl : l.length ≤ 1000000) (hn : n ≤ 1000000) (hp : w.cell? p = some (.slice A2 n c2)) :
    Calls Try.prog 97 #[v, .pointer (some p)] w fun e w' => ∃ v0_ : Value, e = .returned v0_ ∧ Kd.R (Kd.int .i64) 3 w' w.heap.size (fun _ => True) v0_ (inF n l) ∧ Below w.heap.size w w' := by
  have HV := Aside0.mk hv
  obtain ⟨A, c, rfl, _, _⟩ := hv
  have HP := Aside0.mk hp
  clear hp
  go_enter Try.func97, Try.ntmps97
  go_wp2_with (go_at_call 98; refine (c98 _ l _ HV.out (by omega)).mono ?_; rintro e w1 ⟨v1, rfl, hr1, hb1⟩; obtain ⟨A1, c1, rfl⟩ := Kd.R_slice hr1; have HR1 := Aside0.mk hr1; have HB1 := Aside0.mk hb1; clear hr1 hb1)
  go_loopg [11] l.length (fun kq v11 w' => ∃ i : Nat, v11 = .int .i64 (i : Int) ∧ i + kq = l.length ∧ Aside0 (Kd.R (Kd.int .i64) 3 w' w.heap.size (fun _ => True) (.slice A1 l.length c1) ((inF n l).take i ++ l.drop i)) ∧ Aside0 (Below w.heap.size w w'))
  case atStart => exact ⟨0, rfl, by omega, ⟨by simpa using HR1.out⟩, HB1⟩
  case round =>
    obtain ⟨i, rfl, hi, HR, HB⟩ := hrel
    obtain ⟨W0, rfl⟩ : ∃ W0, W0 = wr := ⟨wr, rfl⟩
    cases gk with
    | zero =>
      have q1 : decide ((i : Int) < (l.length : Int)) = false := decide_eq_false (by omega)
      have q2 : decide (i < l.length) = false := decide_eq_false (by omega)
      go_wp2_with fail
      go_ret
      refine ⟨_, rfl, ?_, HB.out⟩
      have h := HR.out
      rw [show i = l.length by omega, List.drop_length, List.append_nil, List.take_of_length_le (by rw [inF_length]; omega)] at h
      exact h
    | succ k1 =>
      have hil : i < l.length := by omega
      have q1 : decide ((i : Int) < (l.length : Int)) = true := decide_eq_true (by omega)
      have q2 : decide (i < l.length) = true := decide_eq_true (by omega)
      have q3 : (0 : Int) ≤ (i : Int) := by omega
      have q4 : (i : Int) < (l.length : Int) := by omega
      have hin : i < 1000000000 := by omega
      have hlen : ((inF n l).take i ++ l.drop i).length = l.length := by rw [List.length_append, List.length_take, List.length_drop, inF_length]; omega
      have hx : W0.cell? p = some (.slice A2 n c2) := cell_stays HB.out HP.out
      obtain ⟨g, cap, he, hgw, hgl, _⟩ := Kd.R_form HR.out (by rw [hlen]; omega)
      rw [hlen] at he
      injection he with he1 he2 he3
      subst he1 he3
      have HG := Aside0.mk hgw
      have hRR := (show Kd.R (Kd.int .i64) 3 W0 w.heap.size (fun _ => True) (.slice (some ⟨g, 0, none⟩) ((inF n l).take i ++ l.drop i).length c1) ((inF n l).take i ++ l.drop i) by rw [hlen]; exact HR.out)
      have hcl := (Kd.R_cell (0 : Int) hRR (i : Int) (by omega) (by omega)).1
      have hfr := (Kd.R_cell (0 : Int) hRR (i : Int) (by omega) (by omega)).2
      have HPUT := Aside0.mk (Kd.R_put hRR (i : Int) 0)
      have hrd : rdOf (0 : Int) ((inF n l).take i ++ l.drop i) (i : Int) = l[i] := by
        unfold rdOf
        rw [Int.toNat_natCast, List.getD_eq_getElem?_getD, List.getElem?_append_right (by rw [List.length_take]; omega), List.length_take, inF_length, Nat.min_eq_left (by omega), Nat.sub_self, List.drop_eq_getElem_cons hil]
        rfl
      rw [hrd, Int.toNat_natCast] at hcl
      rw [Int.toNat_natCast] at hfr HPUT
      rw [hlen] at HPUT
      have HS := Aside0.mk (inF_take n l i hil)
      have HK := Aside0.mk (inF_keep n l i hil)
      have HLI := Aside0.mk hi
      clear hrd hgw hgl hlen hRR
      obtain ⟨x, hxx⟩ : ∃ x, x = l[i] := ⟨_, rfl⟩
      rw [← hxx] at hcl HS HK
      clear hxx
      by_cases k1' : x < 1
      · have d1 : decide (x < 1) = true := decide_eq_true k1'
        go_wp2_with fail
        go_roundg k1
        case measure => omega
        case rel =>
          refine ⟨i + 1, rfl, by omega, ⟨?_⟩, ⟨?_⟩⟩
          · have h := HS.out
            rw [if_pos (.inl k1')] at h
            rw [← h]
            exact HPUT.out.1
          · exact HB.out.setCell (p := ⟨g, i, none⟩) HG.out _
      · have d1 : decide (x < 1) = false := decide_eq_false k1'
        by_cases k2' : (n : Int) < x
        · have d2 : decide ((n : Int) < x) = true := decide_eq_true k2'
          go_wp2_with fail
          go_roundg k1
          case measure => omega
          case rel =>
            refine ⟨i + 1, rfl, by omega, ⟨?_⟩, ⟨?_⟩⟩
            · have h := HS.out
              rw [if_pos (.inr k2')] at h
              rw [← h]
              exact HPUT.out.1
            · exact HB.out.setCell (p := ⟨g, i, none⟩) HG.out _
        · have d2 : decide ((n : Int) < x) = false := decide_eq_false k2'
          go_wp2_with fail
          go_roundg k1
          case measure => omega
          case rel =>
            refine ⟨i + 1, rfl, by omega, ⟨?_⟩, HB⟩
            rw [← HK.out (by omega)]
            exact HR.out
end Go.Proofs.Ytgojfecpknonlaa.Im

