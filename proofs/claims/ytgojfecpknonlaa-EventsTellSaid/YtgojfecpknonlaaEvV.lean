/- The row of bytes as the document says it: function 47. -/
import Derived.Test.YtgojfecpknonlaaEvU
namespace Go.Proofs.Ytgojfecpknonlaa.Ev
open Go.RowKit Go.Proofs.YtgojfecpknonlaaW.PrintWords Go.Proofs.YtgojfecpknonlaaW.PrintLast Go.Proofs.YtgojfecpknonlaaW.PrintMore
open Go.Proofs.Ytgojfecpknonlaa.Own Go.Proofs.Ytgojfecpknonlaa.PSt Go.Proofs.Ytgojfecpknonlaa.St Go.Proofs.Ytgojfecpknonlaa.Wv
set_option linter.unusedVariables false
set_option linter.unusedSimpArgs false

section
variable {o : Oper} {a : Act} {W : World}
theorem index9_exec {x : Operand} {s : ByteArray} {i : Nat} (ho : o.op = .index 9 x (.const (.int .i64 i))) (hx : a.eval x = .string s) (h : i < s.size) : (execOp a.eval o).run Try.prog W = .ok (.value (.int .u8 (bt s i))) W := by
  have h1 : (0 : Int) ≤ (i : Int) := by omega
  have h2 : (i : Int) < (s.size : Int) := by omega
  have h3 := bt_at s i (by rw [Int.toNat_natCast]; exact h)
  generalize hE : a.eval = E at hx ⊢
  have hc : E (.const (.int .i64 i)) = .int .i64 i := by rw [← hE]; rfl
  unfold execOp
  simp only [ho, hx, hc]
  go_simp
  exact h3
theorem slice9_exec {x : Operand} {s : ByteArray} {p q : Nat} (ho : o.op = .slice 9 x (some (.const (.int .i64 p))) (some (.const (.int .i64 q))) none) (hx : a.eval x = .string s) (hp : p ≤ q) (hq : q ≤ s.size) : (execOp a.eval o).run Try.prog W = .ok (.value (.string (s.extract p q))) W := by
  have h0 : (0 : Int) ≤ (p : Int) := by omega
  have h1 : (p : Int) ≤ (q : Int) := by omega
  have h2 : (q : Int) ≤ (s.size : Int) := by omega
  have h3 : (0 : Int) ≤ (q : Int) := by omega
  generalize hE : a.eval = E at hx ⊢
  have hc : ∀ n : Nat, E (.const (.int .i64 n)) = .int .i64 n := by intro n; rw [← hE]; rfl
  unfold execOp
  simp only [ho, hx, hc, Option.map_some, Option.map_none]
  go_simp
theorem conv563_exec {x : Operand} {n : Int} (ho : o.op = .convert 56 3 x) (hx : a.eval x = .int .u64 n) (h : 0 ≤ n ∧ n ≤ 9223372036854775807) : (execOp a.eval o).run Try.prog W = .ok (.value (.int .i64 n)) W := by
  have e : wrap64 n = n := wrap_in' (by omega) (by omega)
  unfold execOp
  simp only [ho, hx]
  go_simp
  rw [i64_w, e]
theorem conv53_exec {x : Operand} {n : Int} (ho : o.op = .convert 5 3 x) (hx : a.eval x = .int .u8 n) (h : 0 ≤ n ∧ n ≤ 255) : (execOp a.eval o).run Try.prog W = .ok (.value (.int .i64 n)) W := by
  have e : wrap64 n = n := wrap_in' (by omega) (by omega)
  unfold execOp
  simp only [ho, hx]
  go_simp
  rw [i64_w, e]
theorem build58_exec {x0 x1 x2 x3 x4 x5 x6 x7 x8 x9 x10 : Operand} {v0 v1 v2 v3 v4 v5 v6 v7 v8 v9 v10 : Int} (ho : o.op = .build 58 #[(0, x0), (1, x1), (2, x2), (3, x3), (4, x4), (5, x5), (6, x6), (7, x7), (8, x8), (9, x9), (10, x10)])
    (h0 : a.eval x0 = .int .u8 v0) (h1 : a.eval x1 = .int .u8 v1) (h2 : a.eval x2 = .int .u8 v2) (h3 : a.eval x3 = .int .u8 v3) (h4 : a.eval x4 = .int .u8 v4) (h5 : a.eval x5 = .int .i64 v5) (h6 : a.eval x6 = .int .i64 v6) (h7 : a.eval x7 = .int .u64 v7)
    (h8 : a.eval x8 = .int .i64 v8) (h9 : a.eval x9 = .int .i64 v9) (h10 : a.eval x10 = .int .i64 v10) :
    (execOp a.eval o).run Try.prog W = .ok (.value (.agg #[.int .u8 v0, .int .u8 v1, .int .u8 v2, .int .u8 v3, .int .u8 v4, .int .i64 v5, .int .i64 v6, .int .u64 v7, .int .i64 v8, .int .i64 v9, .int .i64 v10])) W := by
  have hu58 := Try.underlying58
  generalize a.eval = E at h0 h1 h2 h3 h4 h5 h6 h7 h8 h9 h10 ⊢
  unfold execOp
  simp only [ho]
  go_simp
def z58 : List Value := [.int .u8 0, .int .u8 0, .int .u8 0, .int .u8 0, .int .u8 0, .int .i64 0, .int .i64 0, .int .u64 0, .int .i64 0, .int .i64 0, .int .i64 0]
theorem alloc58_exec (ho : o.op = .alloc 58) : (execOp a.eval o).run Try.prog W = .ok (.value (.pointer (some ⟨W.heap.size, 0, none⟩))) (W.alloc (.cells z58.toArray 58)) := by
  unfold execOp
  simp only [ho]
  go_simp
  rfl
end
def A47 (B : Nat) (v : Value) (w : World) : Prop := ∃ g, v = .pointer (some ⟨g, 0, none⟩) ∧ B ≤ g ∧ Holds w g 58 z58
def V47 (s : ByteArray) (B : Nat) : Nat → Value → World → Prop
  | 0, v, _ => v = .string s
  | 1, v, _ => v = .int .u8 (bt s 0)
  | 2, v, _ => v = .string s
  | 3, v, _ => v = .int .u8 (bt s 1)
  | 4, v, _ => v = .string s
  | 5, v, _ => v = .int .u8 (bt s 2)
  | 6, v, _ => v = .string s
  | 7, v, _ => v = .int .u8 (bt s 3)
  | 8, v, _ => v = .string s
  | 9, v, _ => v = .int .u8 (bt s 4)
  | 10, v, _ => v = .string s
  | 11, v, _ => v = .int .u8 (bt s 5)
  | 12, v, _ => v = .int .i64 (bt s 5)
  | 13, v, _ => v = .string s
  | 14, v, _ => v = .string (s.extract 6 8)
  | 15, v, _ => v = .int .u64 (va s 6 8)
  | 16, v, _ => v = .int .i64 (va s 6 8)
  | 17, v, _ => v = .string s
  | 18, v, _ => v = .string (s.extract 8 16)
  | 19, v, _ => v = .int .u64 (va s 8 16)
  | 20, v, _ => v = .string s
  | 21, v, _ => v = .string (s.extract 16 20)
  | 22, v, _ => v = .int .u64 (va s 16 20)
  | 23, v, _ => v = .int .i64 (va s 16 20)
  | 24, v, _ => v = .string s
  | 25, v, _ => v = .string (s.extract 20 24)
  | 26, v, _ => v = .int .u64 (va s 20 24)
  | 27, v, _ => v = .int .i64 (va s 20 24)
  | 28, v, _ => v = .string s
  | 29, v, _ => v = .string (s.extract 24 28)
  | 30, v, _ => v = .int .u64 (va s 24 28)
  | 31, v, _ => v = .int .i64 (va s 24 28)
  | 32, v, _ => v = ev58 (dec s)
  | 33, v, w => A47 B v w
  | _, _, _ => True
theorem V47_stays (s : ByteArray) (B : Nat) (j : Nat) (v : Value) (w w' : World) (h : V47 s B j v w) (hb : Below w.heap.size w w') : V47 s B j v w' := by
  unfold V47 at h ⊢
  split at h <;> first | exact h | (obtain ⟨g, h1, h2, h3⟩ := h; exact ⟨g, h1, h2, h3.below hb⟩) | trivial
theorem info58s : (Try.prog.info? 58).map (·.size) = some 11 := by kernel_rfl
theorem one58 (d : S58) : (ec58 d).toArray.all (·.oneCell') = true := by
  rw [List.all_toArray]
  rfl
theorem may_calls36 (d : S58) (hd : Wf d) (w : World) : Calls Try.prog 23 #[ev58 d] w fun e w' => e = .returned (.bool (may d)) ∧ Below w.heap.size w w' := may36_calls d _ (refArgs_is d.f1 hd.u1) w
set_option maxHeartbeats 8000000 in
set_option maxRecDepth 100000 in
theorem take36_calls (b : ByteArray) (hb : b.size ≤ 2000) (w : World) : Calls Try.prog 47 #[.string b] w fun e w' => ∃ v, e = .returned (.tuple #[v, .bool (rt (b.size / 28 + 1) b []).2]) ∧ Kd.R k58 58 w' w.heap.size (fun _ => True) v (rt (b.size / 28 + 1) b []).1 ∧ Below w.heap.size w w' := by
  obtain ⟨R, hR⟩ : ∃ R, R = rt (b.size / 28 + 1) b [] := ⟨_, rfl⟩
  have HR := Aside0.mk hR
  rw [← hR]
  clear hR
  obtain ⟨n, hn⟩ : ∃ n, n = b.size / 28 := ⟨_, rfl⟩
  have HN := Aside0.mk hn
  have HSZ := Aside0.mk hb
  clear hn hb
  go_enter Try.func47, Try.ntmps47
  go_wp2_with fail
  go_loopg [0, 4] n (fun kq v0 v4 w' => ∃ (s : ByteArray) (o : List S58), v0 = .string s ∧ Aside0 (s.size / 28 = kq) ∧ Aside0 (o.length + kq ≤ 1000) ∧ Aside0 (s.size ≤ 2000) ∧ Aside0 (rt (kq + 1) s o = R) ∧ Aside0 (Kd.R k58 58 w' w.heap.size (fun _ => True) v4 o) ∧ Aside0 (Below w.heap.size w w'))
  case atStart => exact ⟨b, [], rfl, ⟨HN.out.symm⟩, ⟨by have := HN.out; have := HSZ.out; simp only [List.length_nil]; omega⟩, HSZ, ⟨by rw [HN.out]; exact HR.out.symm⟩, ⟨Kd.R_nil _ _ _ _ _⟩, ⟨Below.refl _ _⟩⟩
  case round =>
    obtain ⟨s, o, rfl, HK, HOL, HSS, HRT, HRO, HB⟩ := hrel
    obtain ⟨W0, rfl⟩ : ∃ W0, W0 = wr := ⟨wr, rfl⟩
    by_cases h28 : 28 ≤ s.size
    · have c1 : decide ((28 : Int) ≤ (s.size : Int)) = true := decide_eq_true (by omega)
      have c2 : decide (28 ≤ s.size) = true := decide_eq_true h28
      have HDC := Aside0.mk (dec_in s h28)
      obtain ⟨k1, rfl⟩ : ∃ k1, gk = k1 + 1 := ⟨gk - 1, by have := HK.out; omega⟩
      go_upto_region 3 with (fail)
      go_cut [5] (fun v5 wc => ∃ g, v5 = .pointer (some ⟨g, 0, none⟩) ∧ Aside0 (W0.heap.size ≤ g) ∧ Aside0 (Holds wc g 58 (ec58 (dec s))) ∧ Aside0 (Below W0.heap.size W0 wc))
      case first =>
        have HBS := Aside0.mk (Nat.le_refl W0.heap.size)
        refine weave 34 54 (V47 s W0.heap.size) (by kernel_rfl) (by rfl) (by kernel_rfl) (V47_stays _ _) ?st ?en
        case st =>
          refine Steps.cons (fun a w1 fr hb hd K hK => ?_) ?_
          · exact wp_val (move_exec rfl ((fr 0 (by kernel_rfl)).trans rfl)) (hK _ _ (Below.refl _ _) rfl)
          refine Steps.cons (fun a w1 fr hb hd K hK => ?_) ?_
          · exact wp_val (index9_exec (i := 0) rfl (hd 0 9 (by kernel_rfl)) (by omega)) (hK _ _ (Below.refl _ _) rfl)
          refine Steps.cons (fun a w1 fr hb hd K hK => ?_) ?_
          · exact wp_val (move_exec rfl ((fr 0 (by kernel_rfl)).trans rfl)) (hK _ _ (Below.refl _ _) rfl)
          refine Steps.cons (fun a w1 fr hb hd K hK => ?_) ?_
          · exact wp_val (index9_exec (i := 1) rfl (hd 2 11 (by kernel_rfl)) (by omega)) (hK _ _ (Below.refl _ _) rfl)
          refine Steps.cons (fun a w1 fr hb hd K hK => ?_) ?_
          · exact wp_val (move_exec rfl ((fr 0 (by kernel_rfl)).trans rfl)) (hK _ _ (Below.refl _ _) rfl)
          refine Steps.cons (fun a w1 fr hb hd K hK => ?_) ?_
          · exact wp_val (index9_exec (i := 2) rfl (hd 4 13 (by kernel_rfl)) (by omega)) (hK _ _ (Below.refl _ _) rfl)
          refine Steps.cons (fun a w1 fr hb hd K hK => ?_) ?_
          · exact wp_val (move_exec rfl ((fr 0 (by kernel_rfl)).trans rfl)) (hK _ _ (Below.refl _ _) rfl)
          refine Steps.cons (fun a w1 fr hb hd K hK => ?_) ?_
          · exact wp_val (index9_exec (i := 3) rfl (hd 6 15 (by kernel_rfl)) (by omega)) (hK _ _ (Below.refl _ _) rfl)
          refine Steps.cons (fun a w1 fr hb hd K hK => ?_) ?_
          · exact wp_val (move_exec rfl ((fr 0 (by kernel_rfl)).trans rfl)) (hK _ _ (Below.refl _ _) rfl)
          refine Steps.cons (fun a w1 fr hb hd K hK => ?_) ?_
          · exact wp_val (index9_exec (i := 4) rfl (hd 8 17 (by kernel_rfl)) (by omega)) (hK _ _ (Below.refl _ _) rfl)
          refine Steps.cons (fun a w1 fr hb hd K hK => ?_) ?_
          · exact wp_val (move_exec rfl ((fr 0 (by kernel_rfl)).trans rfl)) (hK _ _ (Below.refl _ _) rfl)
          refine Steps.cons (fun a w1 fr hb hd K hK => ?_) ?_
          · exact wp_val (index9_exec (i := 5) rfl (hd 10 19 (by kernel_rfl)) (by omega)) (hK _ _ (Below.refl _ _) rfl)
          refine Steps.cons (fun a w1 fr hb hd K hK => ?_) ?_
          · exact wp_val (conv53_exec rfl (hd 11 20 (by kernel_rfl)) (by have := bt_in s 5; omega)) (hK _ _ (Below.refl _ _) rfl)
          refine Steps.cons (fun a w1 fr hb hd K hK => ?_) ?_
          · exact wp_val (move_exec rfl ((fr 0 (by kernel_rfl)).trans rfl)) (hK _ _ (Below.refl _ _) rfl)
          refine Steps.cons (fun a w1 fr hb hd K hK => ?_) ?_
          · exact wp_val (slice9_exec (p := 6) (q := 8) rfl (hd 13 22 (by kernel_rfl)) (by omega) (by omega)) (hK _ _ (Below.refl _ _) rfl)
          refine Steps.cons (fun a w1 fr hb hd K hK => ?_) ?_
          · have e1 : a.eval (.tmp 23) = .string (s.extract 6 8) := (hd 14 23 (by kernel_rfl))
            refine wp_call Try.func86 (by kernel_rfl) rfl #[.string (s.extract 6 8)] rfl (by simp only [List.map_toArray, List.map_cons, List.map_nil, e1]) ?_
            refine (PRv.demesneref36_value.calls 9 (s.extract 6 8) (va s 6 8) _ (value_is _ (by rw [ext_size s (by omega) (by omega)]; omega))).mono ?_
            rintro e w2 ⟨rfl, ⟨nd, rfl⟩⟩
            exact ⟨_, rfl, hK _ _ (pw_below_drewN (Below.refl _ _) nd) rfl⟩
          refine Steps.cons (fun a w1 fr hb hd K hK => ?_) ?_
          · exact wp_val (conv563_exec rfl (hd 15 24 (by kernel_rfl)) (by have := HDC.out.w6; omega)) (hK _ _ (Below.refl _ _) rfl)
          refine Steps.cons (fun a w1 fr hb hd K hK => ?_) ?_
          · exact wp_val (move_exec rfl ((fr 0 (by kernel_rfl)).trans rfl)) (hK _ _ (Below.refl _ _) rfl)
          refine Steps.cons (fun a w1 fr hb hd K hK => ?_) ?_
          · exact wp_val (slice9_exec (p := 8) (q := 16) rfl (hd 17 26 (by kernel_rfl)) (by omega) (by omega)) (hK _ _ (Below.refl _ _) rfl)
          refine Steps.cons (fun a w1 fr hb hd K hK => ?_) ?_
          · have e1 : a.eval (.tmp 27) = .string (s.extract 8 16) := (hd 18 27 (by kernel_rfl))
            refine wp_call Try.func86 (by kernel_rfl) rfl #[.string (s.extract 8 16)] rfl (by simp only [List.map_toArray, List.map_cons, List.map_nil, e1]) ?_
            refine (PRv.demesneref36_value.calls 9 (s.extract 8 16) (va s 8 16) _ (value_is _ (by rw [ext_size s (by omega) (by omega)]; omega))).mono ?_
            rintro e w2 ⟨rfl, ⟨nd, rfl⟩⟩
            exact ⟨_, rfl, hK _ _ (pw_below_drewN (Below.refl _ _) nd) rfl⟩
          refine Steps.cons (fun a w1 fr hb hd K hK => ?_) ?_
          · exact wp_val (move_exec rfl ((fr 0 (by kernel_rfl)).trans rfl)) (hK _ _ (Below.refl _ _) rfl)
          refine Steps.cons (fun a w1 fr hb hd K hK => ?_) ?_
          · exact wp_val (slice9_exec (p := 16) (q := 20) rfl (hd 20 29 (by kernel_rfl)) (by omega) (by omega)) (hK _ _ (Below.refl _ _) rfl)
          refine Steps.cons (fun a w1 fr hb hd K hK => ?_) ?_
          · have e1 : a.eval (.tmp 30) = .string (s.extract 16 20) := (hd 21 30 (by kernel_rfl))
            refine wp_call Try.func86 (by kernel_rfl) rfl #[.string (s.extract 16 20)] rfl (by simp only [List.map_toArray, List.map_cons, List.map_nil, e1]) ?_
            refine (PRv.demesneref36_value.calls 9 (s.extract 16 20) (va s 16 20) _ (value_is _ (by rw [ext_size s (by omega) (by omega)]; omega))).mono ?_
            rintro e w2 ⟨rfl, ⟨nd, rfl⟩⟩
            exact ⟨_, rfl, hK _ _ (pw_below_drewN (Below.refl _ _) nd) rfl⟩
          refine Steps.cons (fun a w1 fr hb hd K hK => ?_) ?_
          · exact wp_val (conv563_exec rfl (hd 22 31 (by kernel_rfl)) (by have := HDC.out.w8; omega)) (hK _ _ (Below.refl _ _) rfl)
          refine Steps.cons (fun a w1 fr hb hd K hK => ?_) ?_
          · exact wp_val (move_exec rfl ((fr 0 (by kernel_rfl)).trans rfl)) (hK _ _ (Below.refl _ _) rfl)
          refine Steps.cons (fun a w1 fr hb hd K hK => ?_) ?_
          · exact wp_val (slice9_exec (p := 20) (q := 24) rfl (hd 24 33 (by kernel_rfl)) (by omega) (by omega)) (hK _ _ (Below.refl _ _) rfl)
          refine Steps.cons (fun a w1 fr hb hd K hK => ?_) ?_
          · have e1 : a.eval (.tmp 34) = .string (s.extract 20 24) := (hd 25 34 (by kernel_rfl))
            refine wp_call Try.func86 (by kernel_rfl) rfl #[.string (s.extract 20 24)] rfl (by simp only [List.map_toArray, List.map_cons, List.map_nil, e1]) ?_
            refine (PRv.demesneref36_value.calls 9 (s.extract 20 24) (va s 20 24) _ (value_is _ (by rw [ext_size s (by omega) (by omega)]; omega))).mono ?_
            rintro e w2 ⟨rfl, ⟨nd, rfl⟩⟩
            exact ⟨_, rfl, hK _ _ (pw_below_drewN (Below.refl _ _) nd) rfl⟩
          refine Steps.cons (fun a w1 fr hb hd K hK => ?_) ?_
          · exact wp_val (conv563_exec rfl (hd 26 35 (by kernel_rfl)) (by have := HDC.out.w9; omega)) (hK _ _ (Below.refl _ _) rfl)
          refine Steps.cons (fun a w1 fr hb hd K hK => ?_) ?_
          · exact wp_val (move_exec rfl ((fr 0 (by kernel_rfl)).trans rfl)) (hK _ _ (Below.refl _ _) rfl)
          refine Steps.cons (fun a w1 fr hb hd K hK => ?_) ?_
          · exact wp_val (slice9_exec (p := 24) (q := 28) rfl (hd 28 37 (by kernel_rfl)) (by omega) (by omega)) (hK _ _ (Below.refl _ _) rfl)
          refine Steps.cons (fun a w1 fr hb hd K hK => ?_) ?_
          · have e1 : a.eval (.tmp 38) = .string (s.extract 24 28) := (hd 29 38 (by kernel_rfl))
            refine wp_call Try.func86 (by kernel_rfl) rfl #[.string (s.extract 24 28)] rfl (by simp only [List.map_toArray, List.map_cons, List.map_nil, e1]) ?_
            refine (PRv.demesneref36_value.calls 9 (s.extract 24 28) (va s 24 28) _ (value_is _ (by rw [ext_size s (by omega) (by omega)]; omega))).mono ?_
            rintro e w2 ⟨rfl, ⟨nd, rfl⟩⟩
            exact ⟨_, rfl, hK _ _ (pw_below_drewN (Below.refl _ _) nd) rfl⟩
          refine Steps.cons (fun a w1 fr hb hd K hK => ?_) ?_
          · exact wp_val (conv563_exec rfl (hd 30 39 (by kernel_rfl)) (by have := HDC.out.w10; omega)) (hK _ _ (Below.refl _ _) rfl)
          refine Steps.cons (fun a w1 fr hb hd K hK => ?_) ?_
          · exact wp_val (build58_exec rfl (hd 1 10 (by kernel_rfl)) (hd 3 12 (by kernel_rfl)) (hd 5 14 (by kernel_rfl)) (hd 7 16 (by kernel_rfl)) (hd 9 18 (by kernel_rfl)) (hd 12 21 (by kernel_rfl)) (hd 16 25 (by kernel_rfl)) (hd 19 28 (by kernel_rfl)) (hd 23 32 (by kernel_rfl)) (hd 27 36 (by kernel_rfl)) (hd 31 40 (by kernel_rfl))) (hK _ _ (Below.refl _ _) rfl)
          refine Steps.cons (fun a w1 fr hb hd K hK => ?_) ?_
          · exact wp_val (alloc58_exec rfl) (hK _ _ (below_alloc (Below.refl _ _) _) (show A47 _ _ _ from ⟨w1.heap.size, rfl, hb.size, blk_new _ _⟩))
          exact Steps.nil
        case en =>
          intro vs w' hb hv
          have h32 : vs 32 = ev58 (dec s) := hv 32 41 (by decide) (by kernel_rfl)
          have ha : A47 W0.heap.size (vs 33) w' := hv 33 5 (by decide) (by kernel_rfl)
          obtain ⟨g, h33, hg, hh⟩ := ha
          refine upto_some rfl ?_
          simp only [List.take_succ_cons, List.take_zero, putsOf, Act.put, List.setIfInBounds_toArray, List.set_cons_zero, List.set_cons_succ, h32, h33]
          refine Wv.wp_skip (w' := w'.setCells g 0 (ec58 (dec s))) rfl ?hr ?_
          case hr => exact store_skip (g := g) (off := 0) (t := 58) (cs := z58) (vs := (ec58 (dec s)).toArray) rfl (by rfl) (by rfl) hh (by show 11 ≤ 11; decide) info58s (one58 _)
          go_wp2
          go_meet
          case rel => exact ⟨g, rfl, ⟨hg⟩, ⟨holds_cells hh (by show 0 + 11 ≤ 11; decide)⟩, ⟨(stored_cells w' g 0 (ec58 (dec s))).below hb hg⟩⟩
      case rest =>
        obtain ⟨g, rfl, HG, HH, HBW⟩ := hcut
        have HBX := Aside0.mk (below_then HB.out HB.out.size HBW.out)
        have HRX := Aside0.mk (Kd.R_below HRO.out HBW.out)
        by_cases hm : may (dec s) = true
        · have HRT1 := Aside0.mk (show rt (k1 + 1) (s.extract 28 s.size) (o ++ [dec s]) = R by
            have h := HRT.out
            unfold rt at h
            rw [if_pos h28, if_pos hm] at h
            exact h)
          have hq : (28 : Int) ≤ (s.size : Int) := by omega
          go_wp2_with (first
            | ((with_reducible refine gate_dst (N := 42) rfl ?_); refine load_event (g := g) (off := 0) (t := 58) (cs := ec58 (dec s)) (seg := ec58 (dec s)) rfl rfl (by rfl) HH.out (by rfl) Try.underlying58 rfl info58s ?_)
            | (go_at_call 23; refine (may_calls36 (dec s) (dec_wf s h28) _).mono ?_; rintro e w3 ⟨rfl, hb3⟩; have HH3 := Aside0.mk (HH.out.below hb3); have HB3 := Aside0.mk (below_then HBX.out HBX.out.size hb3); have HR3 := Aside0.mk (Kd.R_below HRX.out hb3); clear hb3)
            | ((with_reducible refine gate_dst (N := 46) rfl ?_); refine load_event (g := g) (off := 0) (t := 58) (cs := ec58 (dec s)) (seg := ec58 (dec s)) rfl rfl (by rfl) HH3.out (by rfl) Try.underlying58 rfl info58s ?_)
            | (at_builtin; refine Kd.R_append k58 (w0 := w) w.heap.size rfl (.tmp 45) (.tmp 47) 41 58 (.agg #[.int .u8 0, .int .u8 0, .int .u8 0, .int .u8 0, .int .u8 0, .int .i64 0, .int .i64 0, .int .u64 0, .int .i64 0, .int .i64 0, .int .i64 0]) 56 rfl Try.underlying41 info58e rfl (by decide) (by omega) _ _ (dec s) (ec58 (dec s)) (fun _ => True) (fun _ => False) rfl rfl (k58_mkM _ _ _ _) (fun _ hk => hk.elim) (fun _ _ => trivial) HR3.out HB3.out HB3.out.size (by have := HOL.out; omega) ?_; intro v4 w4 ho4 hb4 hg4 hat4; have HR4 := Aside0.mk ho4; have HB4 := Aside0.mk hb4; clear ho4 hb4 hg4 hat4))
          go_roundg k1
          case measure => omega
          case rel => exact ⟨s.extract 28 s.size, o ++ [dec s], rfl, ⟨by rw [ext_size s h28 (Nat.le_refl _)]; have := HK.out; omega⟩, ⟨by rw [List.length_append, List.length_singleton]; have := HOL.out; omega⟩, ⟨by rw [ext_size s h28 (Nat.le_refl _)]; have := HSS.out; omega⟩, HRT1, HR4, HB4⟩
        · have hR : R = ([], false) := by
            have h := HRT.out
            unfold rt at h
            rw [if_pos h28, if_neg hm] at h
            exact h.symm
          have hmf : may (dec s) = false := by cases h : may (dec s) <;> simp_all
          go_wp2_with (first
            | ((with_reducible refine gate_dst (N := 42) rfl ?_); refine load_event (g := g) (off := 0) (t := 58) (cs := ec58 (dec s)) (seg := ec58 (dec s)) rfl rfl (by rfl) HH.out (by rfl) Try.underlying58 rfl info58s ?_)
            | (go_at_call 23; refine (may_calls36 (dec s) (dec_wf s h28) _).mono ?_; rintro e w3 ⟨rfl, hb3⟩; have HB3 := Aside0.mk (below_then HBX.out HBX.out.size hb3); clear hb3))
          go_ret2
          rw [hR]
          exact ⟨_, rfl, Kd.R_nil _ _ _ _ _, HB3.out⟩
    · have c1 : decide ((28 : Int) ≤ (s.size : Int)) = false := decide_eq_false (by omega)
      have c2 : decide (28 ≤ s.size) = false := decide_eq_false h28
      have HLE : ∀ t : ByteArray, t.toList.isEmpty = decide (t.size = 0) := fun t => by
        rw [show t.size = t.data.toList.length from rfl, ByteArray.toList_eq]
        cases t.data.toList <;> rfl
      by_cases hz : s.size = 0
      · have hz1 : s.toList.isEmpty = true := by rw [HLE, decide_eq_true hz]
        have hR : R = (o, true) := by
          have h := HRT.out
          unfold rt at h
          rw [if_neg h28, if_pos hz] at h
          exact h.symm
        clear HLE
        go_wp2
        go_ret2
        rw [hR]
        exact ⟨_, rfl, HRO.out, HB.out⟩
      · have hz1 : s.toList.isEmpty = false := by rw [HLE, decide_eq_false hz]
        have hR : R = ([], false) := by
          have h := HRT.out
          unfold rt at h
          rw [if_neg h28, if_neg hz] at h
          exact h.symm
        clear HLE
        go_wp2
        go_ret2
        rw [hR]
        exact ⟨_, rfl, Kd.R_nil _ _ _ _ _, HB.out⟩
end Go.Proofs.Ytgojfecpknonlaa.Ev

