/- One operation's run, and the bytes of an event as the document says them: function 45. -/
import Derived.Test.YtgojfecpknonlaaWeave
import Derived.Test.YtgojfecpknonlaaEvT
namespace Go.Proofs.Ytgojfecpknonlaa.Ev
open Go.RowKit Go.Proofs.YtgojfecpknonlaaW.PrintWords Go.Proofs.YtgojfecpknonlaaW.PrintLast Go.Proofs.YtgojfecpknonlaaW.PrintMore
open Go.Proofs.Ytgojfecpknonlaa.Own Go.Proofs.Ytgojfecpknonlaa.PSt Go.Proofs.Ytgojfecpknonlaa.St Go.Proofs.Ytgojfecpknonlaa.Wv
set_option linter.unusedVariables false
set_option linter.unusedSimpArgs false

section
variable {o : Oper} {a : Act} {W : World}
theorem fa58_exec {x : Operand} {g : Nat} {i : Nat} (hi : i < 11) (ho : o.op = .fieldAddr 58 x i) (hx : a.eval x = .pointer (some ⟨g, 0, none⟩)) : (execOp a.eval o).run Try.prog W = .ok (.value (.pointer (some ⟨g, i, none⟩))) W := by
  have hu58 := Try.underlying58
  match i, hi with
  | 0, _ | 1, _ | 2, _ | 3, _ | 4, _ | 5, _ | 6, _ | 7, _ | 8, _ | 9, _ | 10, _ =>
    unfold execOp
    simp only [ho, hx]
    go_simp
theorem load_exec5 {x : Operand} {p : Addr} {v : Value} (ho : o.op = .load 5 x) (hx : a.eval x = .pointer (some p)) (hc : W.cell? p = some v) : (execOp a.eval o).run Try.prog W = .ok (.value v) W := by
  unfold execOp
  simp only [ho, hx]
  go_simp
theorem load_exec3 {x : Operand} {p : Addr} {v : Value} (ho : o.op = .load 3 x) (hx : a.eval x = .pointer (some p)) (hc : W.cell? p = some v) : (execOp a.eval o).run Try.prog W = .ok (.value v) W := by
  unfold execOp
  simp only [ho, hx]
  go_simp
theorem load_exec56 {x : Operand} {p : Addr} {v : Value} (ho : o.op = .load 56 x) (hx : a.eval x = .pointer (some p)) (hc : W.cell? p = some v) : (execOp a.eval o).run Try.prog W = .ok (.value v) W := by
  unfold execOp
  simp only [ho, hx]
  go_simp
theorem conv35_exec {x : Operand} {n : Int} (ho : o.op = .convert 3 5 x) (hx : a.eval x = .int .i64 n) (h : 0 ≤ n ∧ n ≤ 255) : (execOp a.eval o).run Try.prog W = .ok (.value (.int .u8 n)) W := by
  have e : IntKind.u8.wrap n = n := by rw [IntKind.wrap_u8]; omega
  unfold execOp
  simp only [ho, hx]
  go_simp
theorem conv356_exec {x : Operand} {n : Int} (ho : o.op = .convert 3 56 x) (hx : a.eval x = .int .i64 n) (h : 0 ≤ n ∧ n ≤ 9223372036854775807) : (execOp a.eval o).run Try.prog W = .ok (.value (.int .u64 n)) W := by
  have e := wrapu h.1 (show n ≤ 18446744073709551615 by omega)
  unfold execOp
  simp only [ho, hx]
  go_simp
theorem add_str_exec {x y : Operand} {s t : ByteArray} (ho : o.op = .binOp .add 9 x y 9) (hx : a.eval x = .string s) (hy : a.eval y = .string t) (h : s.size + t.size ≤ 9223372036854775807) : (execOp a.eval o).run Try.prog W = .ok (.value (.string (s ++ t))) W := by
  have h2 : (9223372036854775807 < s.size + t.size) = False := eq_false (Nat.not_lt.2 h)
  unfold execOp
  simp only [ho, hx, hy]
  go_simp
theorem assign_exec {x : Operand} {v : Value} (ho : o.op = .assign x) (hx : a.eval x = v) : (execOp a.eval o).run Try.prog W = .ok (.value v) W := by
  unfold execOp
  simp only [ho, hx]
  go_simp
theorem move_exec {x : Operand} {v : Value} (ho : o.op = .move x) (hx : a.eval x = v) : (execOp a.eval o).run Try.prog W = .ok (.value v) W := by
  unfold execOp
  simp only [ho, hx]
  go_simp
theorem conv_str_exec {x : Operand} {v : Value} {base n : Nat} {xs : List Int} (ho : o.op = .convert 94 9 x) (hx : a.eval x = v) (h : W.ownsRow base 5 1 v n (nums .u8 xs)) : (execOp a.eval o).run Try.prog W = .ok (.value (.string (strOfNums xs))) W := by
  have hcv := own_string (P := Try.prog) Try.underlying94 Try.underlying5 Try.underlying9 h
  unfold execOp
  simp only [ho, hx]
  go_simp
theorem lit6_exec {x0 x1 x2 x3 x4 x5 : Operand} {v0 v1 v2 v3 v4 v5 : Int} (ho : o.op = .buildSlice 94 6 #[(0, x0), (1, x1), (2, x2), (3, x3), (4, x4), (5, x5)])
    (h0 : a.eval x0 = .int .u8 v0) (h1 : a.eval x1 = .int .u8 v1) (h2 : a.eval x2 = .int .u8 v2) (h3 : a.eval x3 = .int .u8 v3) (h4 : a.eval x4 = .int .u8 v4) (h5 : a.eval x5 = .int .u8 v5) :
    (execOp a.eval o).run Try.prog W = .ok (.value (.slice (some ⟨W.heap.size, 0, none⟩) 6 6)) (W.alloc (.cells #[.int .u8 v0, .int .u8 v1, .int .u8 v2, .int .u8 v3, .int .u8 v4, .int .u8 v5] 5)) := by
  generalize a.eval = E at h0 h1 h2 h3 h4 h5 ⊢
  unfold execOp
  simp only [ho]
  go_simp
end


def s6 (d : S58) : List Int := [d.f0, d.f1, d.f2, d.f3, d.f4, d.f5]
def V45 (d : S58) (g : Nat) : Nat → Value → World → Prop
  | 0, v, _ => v = .pointer (some ⟨g, 0, none⟩)
  | 1, v, _ => v = .int .u8 d.f0
  | 2, v, _ => v = .pointer (some ⟨g, 1, none⟩)
  | 3, v, _ => v = .int .u8 d.f1
  | 4, v, _ => v = .pointer (some ⟨g, 2, none⟩)
  | 5, v, _ => v = .int .u8 d.f2
  | 6, v, _ => v = .pointer (some ⟨g, 3, none⟩)
  | 7, v, _ => v = .int .u8 d.f3
  | 8, v, _ => v = .pointer (some ⟨g, 4, none⟩)
  | 9, v, _ => v = .int .u8 d.f4
  | 10, v, _ => v = .pointer (some ⟨g, 5, none⟩)
  | 11, v, _ => v = .int .i64 d.f5
  | 12, v, _ => v = .int .u8 d.f5
  | 13, v, w => w.ownsRow 0 5 1 v 6 (nums .u8 (s6 d))
  | 14, v, _ => v = .string (strOfNums (s6 d))
  | 15, v, _ => v = .pointer (some ⟨g, 6, none⟩)
  | 16, v, _ => v = .int .i64 d.f6
  | 17, v, _ => v = .int .u64 d.f6
  | 18, v, _ => v = .string (strOfNums (be 2 d.f6))
  | 19, v, _ => v = .string (strOfNums (s6 d ++ be 2 d.f6))
  | 20, v, _ => v = .pointer (some ⟨g, 7, none⟩)
  | 21, v, _ => v = .int .u64 d.f7
  | 22, v, _ => v = .string (strOfNums (be 8 d.f7))
  | 23, v, _ => v = .string (strOfNums (s6 d ++ be 2 d.f6 ++ be 8 d.f7))
  | 24, v, _ => v = .pointer (some ⟨g, 8, none⟩)
  | 25, v, _ => v = .int .i64 d.f8
  | 26, v, _ => v = .int .u64 d.f8
  | 27, v, _ => v = .string (strOfNums (be 4 d.f8))
  | 28, v, _ => v = .string (strOfNums (s6 d ++ be 2 d.f6 ++ be 8 d.f7 ++ be 4 d.f8))
  | 29, v, _ => v = .pointer (some ⟨g, 9, none⟩)
  | 30, v, _ => v = .int .i64 d.f9
  | 31, v, _ => v = .int .u64 d.f9
  | 32, v, _ => v = .string (strOfNums (be 4 d.f9))
  | 33, v, _ => v = .string (strOfNums (s6 d ++ be 2 d.f6 ++ be 8 d.f7 ++ be 4 d.f8 ++ be 4 d.f9))
  | 34, v, _ => v = .pointer (some ⟨g, 10, none⟩)
  | 35, v, _ => v = .int .i64 d.f10
  | 36, v, _ => v = .int .u64 d.f10
  | 37, v, _ => v = .string (strOfNums (be 4 d.f10))
  | _, v, _ => v = .string (strOfNums (s6 d ++ be 2 d.f6 ++ be 8 d.f7 ++ be 4 d.f8 ++ be 4 d.f9 ++ be 4 d.f10))
theorem V45_stays (d : S58) (g : Nat) (j : Nat) (v : Value) (w w' : World) (h : V45 d g j v w) (hb : Below w.heap.size w w') : V45 d g j v w' := by
  by_cases hj : j = 13
  · subst hj
    exact pw_own_below h hb
  · unfold V45 at h ⊢
    split at h <;> first | exact h | exact absurd rfl hj
set_option maxHeartbeats 4000000 in
set_option maxRecDepth 100000 in
theorem bytes_calls (d : S58) (hd : Fits d) (h7 : 0 ≤ d.f7 ∧ d.f7 ≤ 18446744073709551615) (w : World) : Calls Try.prog 45 #[ev58 d] w fun e w' => e = .returned (.string (strOfNums (evb d))) ∧ Below w.heap.size w w' := by
  have HF := Aside0.mk hd
  have H7 := Aside0.mk h7
  clear hd h7
  go_enter Try.func45, Try.ntmps45
  go_upto_region 1 with (fail)
  have HH : Aside0 (Holds (w.alloc (.cells #[.int .u8 d.f0, .int .u8 d.f1, .int .u8 d.f2, .int .u8 d.f3, .int .u8 d.f4, .int .i64 d.f5, .int .i64 d.f6, .int .u64 d.f7, .int .i64 d.f8, .int .i64 d.f9, .int .i64 d.f10] 58)) w.heap.size 58 (ec58 d)) := ⟨blk_new _ _⟩
  refine weave 40 42 (V45 d w.heap.size) (by kernel_rfl) (by rfl) (by kernel_rfl) (V45_stays _ _) ?st ?en
  case st =>
    refine Steps.cons (fun a w1 fr hb hd K hK => ?_) ?_
    · exact wp_val (fa58_exec (i := 0) (by decide) rfl ((fr 1 (by kernel_rfl)).trans rfl)) (hK _ _ (Below.refl _ _) rfl)
    refine Steps.cons (fun a w1 fr hb hd K hK => ?_) ?_
    · exact wp_val (load_exec5 rfl (hd 0 3 (by kernel_rfl)) (((HH.out.below hb).cell 0).trans rfl)) (hK _ _ (Below.refl _ _) rfl)
    refine Steps.cons (fun a w1 fr hb hd K hK => ?_) ?_
    · exact wp_val (fa58_exec (i := 1) (by decide) rfl ((fr 1 (by kernel_rfl)).trans rfl)) (hK _ _ (Below.refl _ _) rfl)
    refine Steps.cons (fun a w1 fr hb hd K hK => ?_) ?_
    · exact wp_val (load_exec5 rfl (hd 2 5 (by kernel_rfl)) (((HH.out.below hb).cell 1).trans rfl)) (hK _ _ (Below.refl _ _) rfl)
    refine Steps.cons (fun a w1 fr hb hd K hK => ?_) ?_
    · exact wp_val (fa58_exec (i := 2) (by decide) rfl ((fr 1 (by kernel_rfl)).trans rfl)) (hK _ _ (Below.refl _ _) rfl)
    refine Steps.cons (fun a w1 fr hb hd K hK => ?_) ?_
    · exact wp_val (load_exec5 rfl (hd 4 7 (by kernel_rfl)) (((HH.out.below hb).cell 2).trans rfl)) (hK _ _ (Below.refl _ _) rfl)
    refine Steps.cons (fun a w1 fr hb hd K hK => ?_) ?_
    · exact wp_val (fa58_exec (i := 3) (by decide) rfl ((fr 1 (by kernel_rfl)).trans rfl)) (hK _ _ (Below.refl _ _) rfl)
    refine Steps.cons (fun a w1 fr hb hd K hK => ?_) ?_
    · exact wp_val (load_exec5 rfl (hd 6 9 (by kernel_rfl)) (((HH.out.below hb).cell 3).trans rfl)) (hK _ _ (Below.refl _ _) rfl)
    refine Steps.cons (fun a w1 fr hb hd K hK => ?_) ?_
    · exact wp_val (fa58_exec (i := 4) (by decide) rfl ((fr 1 (by kernel_rfl)).trans rfl)) (hK _ _ (Below.refl _ _) rfl)
    refine Steps.cons (fun a w1 fr hb hd K hK => ?_) ?_
    · exact wp_val (load_exec5 rfl (hd 8 11 (by kernel_rfl)) (((HH.out.below hb).cell 4).trans rfl)) (hK _ _ (Below.refl _ _) rfl)
    refine Steps.cons (fun a w1 fr hb hd K hK => ?_) ?_
    · exact wp_val (fa58_exec (i := 5) (by decide) rfl ((fr 1 (by kernel_rfl)).trans rfl)) (hK _ _ (Below.refl _ _) rfl)
    refine Steps.cons (fun a w1 fr hb hd K hK => ?_) ?_
    · exact wp_val (load_exec3 rfl (hd 10 13 (by kernel_rfl)) (((HH.out.below hb).cell 5).trans rfl)) (hK _ _ (Below.refl _ _) rfl)
    refine Steps.cons (fun a w1 fr hb hd K hK => ?_) ?_
    · exact wp_val (conv35_exec rfl (hd 11 14 (by kernel_rfl)) (by have := HF.out.h5; omega)) (hK _ _ (Below.refl _ _) rfl)
    refine Steps.cons (fun a w1 fr hb hd K hK => ?_) ?_
    · exact wp_val (lit6_exec rfl (hd 1 4 (by kernel_rfl)) (hd 3 6 (by kernel_rfl)) (hd 5 8 (by kernel_rfl)) (hd 7 10 (by kernel_rfl)) (hd 9 12 (by kernel_rfl)) (hd 12 15 (by kernel_rfl))) (hK _ _ (below_alloc (Below.refl _ _) _) (World.ownsRow_lit w1 #[.int .u8 d.f0, .int .u8 d.f1, .int .u8 d.f2, .int .u8 d.f3, .int .u8 d.f4, .int .u8 d.f5] 6 (Nat.zero_le _) (by decide) rfl))
    refine Steps.cons (fun a w1 fr hb hd K hK => ?_) ?_
    · exact wp_val (conv_str_exec rfl rfl (hd 13 16 (by kernel_rfl))) (hK _ _ (Below.refl _ _) rfl)
    refine Steps.cons (fun a w1 fr hb hd K hK => ?_) ?_
    · exact wp_val (fa58_exec (i := 6) (by decide) rfl ((fr 1 (by kernel_rfl)).trans rfl)) (hK _ _ (Below.refl _ _) rfl)
    refine Steps.cons (fun a w1 fr hb hd K hK => ?_) ?_
    · exact wp_val (load_exec3 rfl (hd 15 18 (by kernel_rfl)) (((HH.out.below hb).cell 6).trans rfl)) (hK _ _ (Below.refl _ _) rfl)
    refine Steps.cons (fun a w1 fr hb hd K hK => ?_) ?_
    · exact wp_val (conv356_exec rfl (hd 16 19 (by kernel_rfl)) (by have := HF.out.h6; omega)) (hK _ _ (Below.refl _ _) rfl)
    refine Steps.cons (fun a w1 fr hb hd K hK => ?_) ?_
    · have e1 : a.eval (.tmp 20) = .int .u64 d.f6 := (hd 17 20 (by kernel_rfl))
      refine wp_call Try.func84 (by kernel_rfl) rfl #[.int .i64 2, .int .u64 d.f6] rfl (by simp only [List.map_toArray, List.map_cons, List.map_nil, e1]; rfl) ?_
      refine (demesneref36_num.calls 3 2 d.f6 (strOfNums (be 2 d.f6)) _ (num_is 2 (by decide) d.f6 (by have := HF.out.h6; omega) (by have := HF.out.h6; omega))).mono ?_
      rintro e w2 ⟨rfl, hb2⟩
      exact ⟨_, rfl, hK _ _ hb2 rfl⟩
    refine Steps.cons (fun a w1 fr hb hd K hK => ?_) ?_
    · exact wp_val (add_str_exec rfl (hd 14 17 (by kernel_rfl)) (hd 18 21 (by kernel_rfl)) (by simp only [strOfNums_size, List.length_append, be_length, s6, List.length_cons, List.length_nil]; omega)) (hK _ _ (Below.refl _ _) (congrArg Value.string (str_append _ _)))
    refine Steps.cons (fun a w1 fr hb hd K hK => ?_) ?_
    · exact wp_val (fa58_exec (i := 7) (by decide) rfl ((fr 1 (by kernel_rfl)).trans rfl)) (hK _ _ (Below.refl _ _) rfl)
    refine Steps.cons (fun a w1 fr hb hd K hK => ?_) ?_
    · exact wp_val (load_exec56 rfl (hd 20 23 (by kernel_rfl)) (((HH.out.below hb).cell 7).trans rfl)) (hK _ _ (Below.refl _ _) rfl)
    refine Steps.cons (fun a w1 fr hb hd K hK => ?_) ?_
    · have e1 : a.eval (.tmp 24) = .int .u64 d.f7 := (hd 21 24 (by kernel_rfl))
      refine wp_call Try.func84 (by kernel_rfl) rfl #[.int .i64 8, .int .u64 d.f7] rfl (by simp only [List.map_toArray, List.map_cons, List.map_nil, e1]; rfl) ?_
      refine (demesneref36_num.calls 9 8 d.f7 (strOfNums (be 8 d.f7)) _ (num_is 8 (by decide) d.f7 H7.out.1 H7.out.2)).mono ?_
      rintro e w2 ⟨rfl, hb2⟩
      exact ⟨_, rfl, hK _ _ hb2 rfl⟩
    refine Steps.cons (fun a w1 fr hb hd K hK => ?_) ?_
    · exact wp_val (add_str_exec rfl (hd 19 22 (by kernel_rfl)) (hd 22 25 (by kernel_rfl)) (by simp only [strOfNums_size, List.length_append, be_length, s6, List.length_cons, List.length_nil]; omega)) (hK _ _ (Below.refl _ _) (congrArg Value.string (str_append _ _)))
    refine Steps.cons (fun a w1 fr hb hd K hK => ?_) ?_
    · exact wp_val (fa58_exec (i := 8) (by decide) rfl ((fr 1 (by kernel_rfl)).trans rfl)) (hK _ _ (Below.refl _ _) rfl)
    refine Steps.cons (fun a w1 fr hb hd K hK => ?_) ?_
    · exact wp_val (load_exec3 rfl (hd 24 27 (by kernel_rfl)) (((HH.out.below hb).cell 8).trans rfl)) (hK _ _ (Below.refl _ _) rfl)
    refine Steps.cons (fun a w1 fr hb hd K hK => ?_) ?_
    · exact wp_val (conv356_exec rfl (hd 25 28 (by kernel_rfl)) (by have := HF.out.h8; omega)) (hK _ _ (Below.refl _ _) rfl)
    refine Steps.cons (fun a w1 fr hb hd K hK => ?_) ?_
    · have e1 : a.eval (.tmp 29) = .int .u64 d.f8 := (hd 26 29 (by kernel_rfl))
      refine wp_call Try.func84 (by kernel_rfl) rfl #[.int .i64 4, .int .u64 d.f8] rfl (by simp only [List.map_toArray, List.map_cons, List.map_nil, e1]; rfl) ?_
      refine (demesneref36_num.calls 5 4 d.f8 (strOfNums (be 4 d.f8)) _ (num_is 4 (by decide) d.f8 (by have := HF.out.h8; omega) (by have := HF.out.h8; omega))).mono ?_
      rintro e w2 ⟨rfl, hb2⟩
      exact ⟨_, rfl, hK _ _ hb2 rfl⟩
    refine Steps.cons (fun a w1 fr hb hd K hK => ?_) ?_
    · exact wp_val (add_str_exec rfl (hd 23 26 (by kernel_rfl)) (hd 27 30 (by kernel_rfl)) (by simp only [strOfNums_size, List.length_append, be_length, s6, List.length_cons, List.length_nil]; omega)) (hK _ _ (Below.refl _ _) (congrArg Value.string (str_append _ _)))
    refine Steps.cons (fun a w1 fr hb hd K hK => ?_) ?_
    · exact wp_val (fa58_exec (i := 9) (by decide) rfl ((fr 1 (by kernel_rfl)).trans rfl)) (hK _ _ (Below.refl _ _) rfl)
    refine Steps.cons (fun a w1 fr hb hd K hK => ?_) ?_
    · exact wp_val (load_exec3 rfl (hd 29 32 (by kernel_rfl)) (((HH.out.below hb).cell 9).trans rfl)) (hK _ _ (Below.refl _ _) rfl)
    refine Steps.cons (fun a w1 fr hb hd K hK => ?_) ?_
    · exact wp_val (conv356_exec rfl (hd 30 33 (by kernel_rfl)) (by have := HF.out.h9; omega)) (hK _ _ (Below.refl _ _) rfl)
    refine Steps.cons (fun a w1 fr hb hd K hK => ?_) ?_
    · have e1 : a.eval (.tmp 34) = .int .u64 d.f9 := (hd 31 34 (by kernel_rfl))
      refine wp_call Try.func84 (by kernel_rfl) rfl #[.int .i64 4, .int .u64 d.f9] rfl (by simp only [List.map_toArray, List.map_cons, List.map_nil, e1]; rfl) ?_
      refine (demesneref36_num.calls 5 4 d.f9 (strOfNums (be 4 d.f9)) _ (num_is 4 (by decide) d.f9 (by have := HF.out.h9; omega) (by have := HF.out.h9; omega))).mono ?_
      rintro e w2 ⟨rfl, hb2⟩
      exact ⟨_, rfl, hK _ _ hb2 rfl⟩
    refine Steps.cons (fun a w1 fr hb hd K hK => ?_) ?_
    · exact wp_val (add_str_exec rfl (hd 28 31 (by kernel_rfl)) (hd 32 35 (by kernel_rfl)) (by simp only [strOfNums_size, List.length_append, be_length, s6, List.length_cons, List.length_nil]; omega)) (hK _ _ (Below.refl _ _) (congrArg Value.string (str_append _ _)))
    refine Steps.cons (fun a w1 fr hb hd K hK => ?_) ?_
    · exact wp_val (fa58_exec (i := 10) (by decide) rfl ((fr 1 (by kernel_rfl)).trans rfl)) (hK _ _ (Below.refl _ _) rfl)
    refine Steps.cons (fun a w1 fr hb hd K hK => ?_) ?_
    · exact wp_val (load_exec3 rfl (hd 34 37 (by kernel_rfl)) (((HH.out.below hb).cell 10).trans rfl)) (hK _ _ (Below.refl _ _) rfl)
    refine Steps.cons (fun a w1 fr hb hd K hK => ?_) ?_
    · exact wp_val (conv356_exec rfl (hd 35 38 (by kernel_rfl)) (by have := HF.out.h10; omega)) (hK _ _ (Below.refl _ _) rfl)
    refine Steps.cons (fun a w1 fr hb hd K hK => ?_) ?_
    · have e1 : a.eval (.tmp 39) = .int .u64 d.f10 := (hd 36 39 (by kernel_rfl))
      refine wp_call Try.func84 (by kernel_rfl) rfl #[.int .i64 4, .int .u64 d.f10] rfl (by simp only [List.map_toArray, List.map_cons, List.map_nil, e1]; rfl) ?_
      refine (demesneref36_num.calls 5 4 d.f10 (strOfNums (be 4 d.f10)) _ (num_is 4 (by decide) d.f10 (by have := HF.out.h10; omega) (by have := HF.out.h10; omega))).mono ?_
      rintro e w2 ⟨rfl, hb2⟩
      exact ⟨_, rfl, hK _ _ hb2 rfl⟩
    refine Steps.cons (fun a w1 fr hb hd K hK => ?_) ?_
    · exact wp_val (add_str_exec rfl (hd 33 36 (by kernel_rfl)) (hd 37 40 (by kernel_rfl)) (by simp only [strOfNums_size, List.length_append, be_length, s6, List.length_cons, List.length_nil]; omega)) (hK _ _ (Below.refl _ _) (congrArg Value.string (str_append _ _)))
    refine Steps.cons (fun a w1 fr hb hd K hK => ?_) ?_
    · exact wp_val (assign_exec rfl (hd 38 41 (by kernel_rfl))) (hK _ _ (Below.refl _ _) rfl)
    exact Steps.nil
  case en =>
    intro vs w' hb hv
    have h2 : vs 39 = .string (strOfNums (s6 d ++ be 2 d.f6 ++ be 8 d.f7 ++ be 4 d.f8 ++ be 4 d.f9 ++ be 4 d.f10)) := hv 39 2 (by decide) (by kernel_rfl)
    have e2 : s6 d ++ be 2 d.f6 ++ be 8 d.f7 ++ be 4 d.f8 ++ be 4 d.f9 ++ be 4 d.f10 = evb d := by simp only [evb, s6, List.append_assoc]
    rw [e2] at h2
    refine upto_none (by kernel_rfl) ?_
    simp only [List.take_succ_cons, List.take_zero, putsOf, Act.put, List.setIfInBounds_toArray, List.set_cons_zero, List.set_cons_succ, h2]
    go_wp2
    go_ret
    exact ⟨rfl, below_then (below_alloc (Below.refl w.heap.size w) _) (by simp) hb⟩
end Go.Proofs.Ytgojfecpknonlaa.Ev

