/- The shape of an image: image.Take (function 40). -/
import Derived.Test.YtgojfecpknonlaaImAc
import Derived.Test.YtgojfecpknonlaaImAe
import Derived.StillTailTactics
namespace Go.Proofs.Ytgojfecpknonlaa.Im
open Go.RowKit Go.Proofs.YtgojfecpknonlaaW.PrintWords Go.Proofs.YtgojfecpknonlaaW.PrintLast Go.Proofs.YtgojfecpknonlaaW.PrintMore
open Go.Proofs.Ytgojfecpknonlaa.Own Go.Proofs.Ytgojfecpknonlaa.PIm Go.Proofs.Ytgojfecpknonlaa.Wv
set_option linter.unusedVariables false
set_option linter.unusedSimpArgs false

theorem extract_take (L : List Int) (n : Nat) : (strOfNums L).extract 0 n = strOfNums (L.take n) := by
  apply ByteArray.ext
  rw [ByteArray.data_extract]
  apply Array.ext'
  rw [Array.toList_extract, strOfNums_data]
  unfold strOfNums
  simp [List.map_take]
theorem bits_or_i64_nat (a b : Nat) (ha : a < 9223372036854775808) (hb : b < 9223372036854775808) : Go.bits .or .i64 (a : Int) (b : Int) = ((a ||| b : Nat) : Int) := by
  have hx : a ||| b < 2 ^ 63 := Nat.or_lt_two_pow (by omega) (by omega)
  have h1 : (BitVec.ofInt 64 (a : Int)).toNat = a := by
    rw [BitVec.ofInt_natCast, BitVec.toNat_ofNat]; exact Nat.mod_eq_of_lt (by omega)
  have h2 : (BitVec.ofInt 64 (b : Int)).toNat = b := by
    rw [BitVec.ofInt_natCast, BitVec.toNat_ofNat]; exact Nat.mod_eq_of_lt (by omega)
  show IntKind.i64.wrap ((BitVec.ofInt 64 (a : Int) ||| BitVec.ofInt 64 (b : Int)).toNat : Int) = _
  rw [BitVec.toNat_or, h1, h2, IntKind.wrap_i64]
  omega
theorem or_byte {v b : Int} (hv : 0 ≤ v ∧ v ≤ 255) (hb : 0 ≤ b ∧ b ≤ 255) : Go.bits .or .i64 (v * 256) b = 256 * v + b := by
  obtain ⟨n, rfl⟩ := Int.eq_ofNat_of_zero_le hv.1
  obtain ⟨m, rfl⟩ := Int.eq_ofNat_of_zero_le hb.1
  have h := bits_or_i64_nat (n * 256) m (by omega) (by omega)
  have e : ((n * 256 : Nat) : Int) = (n : Int) * 256 := by omega
  rw [e] at h
  rw [h]
  have h2 : 256 * n + m = 256 * n ||| m := Nat.two_pow_add_eq_or_of_lt (i := 8) (by omega) n
  rw [Nat.mul_comm n 256, ← h2]
  omega
section
variable {o : Oper} {a : Act} {W : World}
theorem lenS_exec {x : Operand} {s : ByteArray} (ho : o.op = .call { callee := .builtin .len, args := #[x], argTypes := #[9] }) (hx : a.eval x = .string s) : (execOp a.eval o).run Try.prog W = .ok (.value (.int .i64 (s.size : Int))) W := by
  unfold execOp
  simp only [ho, resolve, invoke, builtin, Sem.run_bind, Sem.run_pure, Result.andThen_ok, List.map_toArray, List.map_cons, List.map_nil, hx]
  go_simp
theorem subc_exec {x : Operand} {n c : Nat} {v : Value} (hv : v = .int .i64 (c : Int)) (ho : o.op = .binOp .sub 3 x (.const v) 3) (hx : a.eval x = .int .i64 (n : Int)) (hn : n ≤ 1000000) (hc : c ≤ n) : (execOp a.eval o).run Try.prog W = .ok (.value (.int .i64 ((n - c : Nat) : Int))) W := by
  subst hv
  have h1 : wrap64 ((n : Int) - (c : Int)) = ((n - c : Nat) : Int) := by rw [wrap_in (by omega) (by omega)]; omega
  have hk : a.eval (.const (.int .i64 (c : Int))) = .int .i64 (c : Int) := rfl
  generalize a.eval = E at hx hk ⊢
  unfold execOp
  simp only [ho, hx, hk]
  go_simp
  first | done | (rw [i64_w]; exact h1) | exact h1
theorem idx9_exec {x y : Operand} {s : ByteArray} {i : Nat} (ho : o.op = .index 9 x y) (hx : a.eval x = .string s) (hy : a.eval y = .int .i64 (i : Int)) (hi : i < s.size) : (execOp a.eval o).run Try.prog W = .ok (.value (.int .u8 (bt s i))) W := by
  have h1 : (0 : Int) ≤ (i : Int) := by omega
  have h2 : (i : Int) < (s.size : Int) := by omega
  have hb := bt_at s (i : Int) hi
  generalize a.eval = E at hx hy ⊢
  unfold execOp
  simp only [ho, hx, hy]
  go_simp
  first | done | exact hb
theorem conv53_exec {x : Operand} {n : Int} (ho : o.op = .convert 5 3 x) (hx : a.eval x = .int .u8 n) (hn : 0 ≤ n ∧ n ≤ 255) : (execOp a.eval o).run Try.prog W = .ok (.value (.int .i64 n)) W := by
  have h := i64_in (n := n) (by omega)
  generalize a.eval = E at hx ⊢
  unfold execOp
  simp only [ho, hx]
  go_simp
theorem shl3_exec {x : Operand} {n : Int} (ho : o.op = .binOp .shl 3 x (.const (.int .u64 8)) 122) (hx : a.eval x = .int .i64 n) (hn : 0 ≤ n ∧ n ≤ 255) : (execOp a.eval o).run Try.prog W = .ok (.value (.int .i64 (n * 256))) W := by
  have h : IntKind.i64.wrap (n * 256) = n * 256 := by rw [IntKind.wrap_i64]; omega
  have hk : a.eval (.const (.int .u64 8)) = .int .u64 8 := rfl
  generalize a.eval = E at hx hk ⊢
  unfold execOp
  simp only [ho, hx, hk]
  go_simp
theorem or3_exec {x y : Operand} {n m : Int} (ho : o.op = .binOp .or 3 x y 3) (hx : a.eval x = .int .i64 (n * 256)) (hy : a.eval y = .int .i64 m) (hn : 0 ≤ n ∧ n ≤ 255) (hm : 0 ≤ m ∧ m ≤ 255) : (execOp a.eval o).run Try.prog W = .ok (.value (.int .i64 (256 * n + m))) W := by
  have h := or_byte hn hm
  generalize a.eval = E at hx hy ⊢
  unfold execOp
  simp only [ho, hx, hy]
  go_simp
theorem neq3_exec {x y : Operand} {n m : Int} (ho : o.op = .binOp .neq 3 x y 3) (hx : a.eval x = .int .i64 n) (hy : a.eval y = .int .i64 m) : (execOp a.eval o).run Try.prog W = .ok (.value (.bool (!decide (n = m)))) W := by
  generalize a.eval = E at hx hy ⊢
  unfold execOp
  simp only [ho, hx, hy]
  go_simp
  by_cases h : n = m <;> simp [h]
end
def V40 (s h : ByteArray) (n k : Nat) (x y z : Int) : Nat → Value → World → Prop
  | 0, u, _ => u = .string s
  | 1, u, _ => u = .string s
  | 2, u, _ => u = .int .i64 (n : Int)
  | 3, u, _ => u = .int .i64 (k : Int)
  | 4, u, _ => u = .int .u8 x
  | 5, u, _ => u = .int .i64 x
  | 6, u, _ => u = .int .i64 (x * 256)
  | 7, u, _ => u = .string s
  | 8, u, _ => u = .string s
  | 9, u, _ => u = .int .i64 (n : Int)
  | 10, u, _ => u = .int .i64 ((k + 1 : Nat) : Int)
  | 11, u, _ => u = .int .u8 y
  | 12, u, _ => u = .int .i64 y
  | 13, u, _ => u = .int .i64 (256 * x + y)
  | 14, u, _ => u = .string h
  | 15, u, _ => u = .int .i64 z
  | 16, u, _ => u = .bool (!decide (256 * x + y = z))
  | 17, u, _ => u = .bool (!decide (256 * x + y = z))
  | _, _, _ => True
theorem V40_stays {s h : ByteArray} {n k : Nat} {x y z : Int} (j : Nat) (v : Value) (w w' : World) (hh : V40 s h n k x y z j v w) (hb : Below w.heap.size w w') : V40 s h n k x y z j v w' := by
  unfold V40 at hh ⊢
  split at hh <;> first | exact hh | trivial
def RTake (w : World) (L : List Int) (e : Ending) (w' : World) : Prop := ∃ (A0 : Option Addr) (n0 c0 : Nat) (A1 : Option Addr) (n1 c1 : Nat) (A2 : Option Addr) (n2 c2 : Nat), e = .returned (.tuple #[.agg #[.slice A0 n0 c0, .slice A1 n1 c1, .slice A2 n2 c2], .int .i64 (takeF L).2]) ∧ Below w.heap.size w w' ∧ IsSh w' (.agg #[.slice A0 n0 c0, .slice A1 n1 c1, .slice A2 n2 c2]) ((takeF L).1.getD ⟨[], [], []⟩)
theorem zero_sh (w : World) : IsSh w (.agg #[.slice none 0 0, .slice none 0 0, .slice none 0 0]) ⟨[], [], []⟩ := ⟨none, 0, none, 0, none, 0, rfl, Nat.le_refl _, (Kd.R_reads' (Kd.R_nil k124 128 w 0 (fun _ => True))).2.2, Nat.le_refl _, (Kd.R_reads' (Kd.R_nil (Kd.int .i64) 3 w 0 (fun _ => True))).2.2, Nat.le_refl _, (Kd.R_reads' (Kd.R_nil k127 131 w 0 (fun _ => True))).2.2⟩
theorem rtake_none {w w' : World} {L : List Int} {c : Int} (h : takeF L = (none, c)) (hb : Below w.heap.size w w') : RTake w L (.returned (.tuple #[.agg #[.slice none 0 0, .slice none 0 0, .slice none 0 0], .int .i64 c])) w' :=
  ⟨none, 0, 0, none, 0, 0, none, 0, 0, by rw [h], hb, by rw [h]; exact zero_sh w'⟩
set_option maxHeartbeats 4000000 in
set_option maxRecDepth 100000 in
theorem takeI_calls (L : List Int) (hB : Byt L) (hl : L.length ≤ 1000000) (w : World) : Calls Try.prog 40 #[.string (strOfNums L)] w (RTake w L) := by
  have HBY := Aside0.mk hB
  have HL := Aside0.mk hl
  have HSZ := Aside0.mk (strOfNums_size L)
  have HEX := Aside0.mk (extract_take L (L.length - 2))
  obtain ⟨s, hs⟩ : ∃ s, s = strOfNums L := ⟨_, rfl⟩
  have HSE := Aside0.mk hs
  rw [← hs] at HSZ HEX
  rw [← hs]
  have hu89 := Try.underlying89
  have hsz := HSZ.out
  clear hs
  go_enter Try.func40, Try.ntmps40
  go_upto_region 1 with (fail)
  obtain ⟨g2, hg2⟩ : ∃ g2, g2 = w.heap.size := ⟨_, rfl⟩
  have HG2 := Aside0.mk (show w.heap.size ≤ g2 by omega)
  have HB1 := Aside0.mk (show Below w.heap.size w (w.alloc (Obj.cells #[Value.slice none 0 0, Value.slice none 0 0, Value.slice none 0 0] 89)) from below_alloc (Below.refl _ _) _)
  have HC2 := Aside0.mk (show Holds (w.alloc (Obj.cells #[Value.slice none 0 0, Value.slice none 0 0, Value.slice none 0 0] 89)) g2 89 [.slice none 0 0, .slice none 0 0, .slice none 0 0] from hold_alloc hg2)
  rw [← hg2]
  generalize w.alloc (Obj.cells #[Value.slice none 0 0, Value.slice none 0 0, Value.slice none 0 0] 89) = w1 at HB1 HC2 ⊢
  by_cases hlt : L.length < 2
  · have q1 : decide ((s.size : Int) < 2) = true := decide_eq_true (by omega)
    have q2 : decide (s.size < 2) = true := decide_eq_true (by omega)
    have HTF := Aside0.mk (show takeF L = (none, 3) by unfold takeF; rw [if_pos hlt])
    clear hlt hg2 hsz
    go_wp2_with (first
      | ((with_reducible refine gate_store (t := 89) (p := 2) rfl ?_); refine store_agg_event rfl (ty := 89) rfl rfl (g := g2) (off := 0) (vs := #[.slice none 0 0, .slice none 0 0, .slice none 0 0]) rfl rfl HC2.out (by show 3 ≤ 3; decide) size89 (by simp [Value.oneCell']) ?_; intro w7 hh7 hs7; have HH7 := Aside0.mk hh7; have HS7 := Aside0.mk hs7; clear hh7 hs7))
    refine bodyPost_ret (results_cell2 rfl _ _ g2 89 #[.slice none 0 0, .slice none 0 0, .slice none 0 0] (0, 0) _ rfl (show Holds w7 g2 89 [.slice none 0 0, .slice none 0 0, .slice none 0 0] from HH7.out) Try.underlying89 rfl size89) rfl ?_
    exact rtake_none HTF.out (HS7.out.below HB1.out HG2.out)
  · have q1 : decide ((s.size : Int) < 2) = false := decide_eq_false (by omega)
    have q2 : decide (s.size < 2) = false := decide_eq_false (by omega)
    obtain ⟨k, hk⟩ : ∃ k, k = L.length - 2 := ⟨_, rfl⟩
    have HK := Aside0.mk (show L.length = k + 2 by omega)
    rw [← hk] at HEX
    have hw1 : wrap64 ((s.size : Int) - 2) = (k : Int) := by rw [wrap_in (by omega) (by omega)]; omega
    have r0 : (0 : Int) ≤ (k : Int) := by omega
    have r1 : (k : Int) ≤ (s.size : Int) := by omega
    have r2 : k ≤ s.size := by omega
    have hex := HEX.out
    obtain ⟨H, hH⟩ : ∃ H, H = L.take k := ⟨_, rfl⟩
    have HH := Aside0.mk hH
    rw [← hH] at HEX hex
    have HBH := Aside0.mk (show Byt H by rw [hH]; exact byt_take HBY.out _)
    have HLH := Aside0.mk (show H.length ≤ 1000000 by rw [hH, List.length_take]; have := HL.out; omega)
    clear hlt hg2 hsz hk hH
    go_upto_region 4 with (fail)
    go_upto_region 5 with (go_at_call 74; go_must (refine (shapeOf_calls H HBH.out HLH.out _).mono ?_); rintro e w3 ⟨A0, n0, c0, A1, n1, c1, A2, n2, c2, rfl, hb3, hsh3⟩; have HB3 := Aside0.mk hb3; have HSH3 := Aside0.mk hsh3; clear hb3 hsh3)
    have HC23 := Aside0.mk (HC2.out.below HB3.out)
    have HB13 := Aside0.mk (below_then HB1.out HB1.out.size HB3.out)
    have HC5 := Aside0.mk (show Holds (w3.alloc (Obj.cells #[Value.slice A0 n0 c0, Value.slice A1 n1 c1, Value.slice A2 n2 c2] 89)) w3.heap.size 89 [.slice A0 n0 c0, .slice A1 n1 c1, .slice A2 n2 c2] from hold_alloc rfl)
    have HB4 := Aside0.mk (below_alloc (Below.refl w3.heap.size w3) (Obj.cells #[Value.slice A0 n0 c0, Value.slice A1 n1 c1, Value.slice A2 n2 c2] 89))
    generalize w3.alloc (Obj.cells #[Value.slice A0 n0 c0, Value.slice A1 n1 c1, Value.slice A2 n2 c2] 89) = w4 at HC5 HB4 ⊢
    generalize w3.heap.size = g5 at HC5 ⊢
    have HC24 := Aside0.mk (HC23.out.below HB4.out)
    have HB14 := Aside0.mk (below_then HB13.out HB13.out.size HB4.out)
    have HG21 := Aside0.mk HC2.out.lt
    clear HC23 HB13 HB3 HC2 HB1 hex hw1 r0 r1
    have hkl : L.length - 2 = k := by have := HK.out; omega
    cases hd : decF H with
    | none =>
      have HTF := Aside0.mk (show takeF L = (none, 3) by unfold takeF; rw [if_neg (by have := HK.out; omega), hkl, ← HH.out, hd])
      clear hd hkl
      go_wp2_with (first
        | ((with_reducible refine gate_store (t := 89) (p := 2) rfl ?_); refine store_agg_event rfl (ty := 89) rfl rfl (g := g2) (off := 0) (vs := #[.slice none 0 0, .slice none 0 0, .slice none 0 0]) rfl rfl HC24.out (by show 3 ≤ 3; decide) size89 (by simp [Value.oneCell']) ?_; intro w7 hh7 hs7; have HH7 := Aside0.mk hh7; have HS7 := Aside0.mk hs7; clear hh7 hs7))
      refine bodyPost_ret (results_cell2 rfl _ _ g2 89 #[.slice none 0 0, .slice none 0 0, .slice none 0 0] (0, 0) _ rfl (show Holds w7 g2 89 [.slice none 0 0, .slice none 0 0, .slice none 0 0] from HH7.out) Try.underlying89 rfl size89) rfl ?_
      exact rtake_none HTF.out (HS7.out.below HB14.out HG2.out)
    | some S =>
      have HS4 := Aside0.mk (HSH3.out S hd)
      have HMID := Aside0.mk (dec_back HBH.out hd).1
      have HDH := Aside0.mk hd
      clear HSH3 hd
      go_upto_region 7 with (fail)
      have hk0 : k < L.length := by have := HK.out; omega
      have hk1 : k + 1 < L.length := by have := HK.out; omega
      have hx := HBY.out _ (List.getElem_mem hk0)
      have hy := HBY.out _ (List.getElem_mem hk1)
      have ex : bt s (k : Int) = L[k] := by rw [HSE.out]; exact bt_str HBY.out k hk0
      have ey : bt s ((k + 1 : Nat) : Int) = L[k + 1] := by rw [HSE.out]; exact bt_str HBY.out (k + 1) hk1
      obtain ⟨x, hxe⟩ : ∃ x, x = L[k] := ⟨_, rfl⟩
      obtain ⟨y, hye⟩ : ∃ y, y = L[k + 1] := ⟨_, rfl⟩
      rw [← hxe] at hx ex
      rw [← hye] at hy ey
      have HUB := Aside0.mk (show ub (L.drop (L.length - 2)) = 256 * x + y by
        rw [hkl, List.drop_eq_getElem_cons hk0, List.drop_eq_getElem_cons hk1, List.drop_of_length_le (by have := HK.out; omega), ← hxe, ← hye]
        unfold ub
        simp)
      have hsn : s.size = k + 2 := by have := HSZ.out; have := HK.out; omega
      have hkm : k + 2 ≤ 1000000 := by have := HL.out; have := HK.out; omega
      refine weave 18 50 (V40 s (strOfNums H) (k + 2) k x y (H.sum % 65536)) (by kernel_rfl) (by rfl) (by kernel_rfl) ?vv ?st ?en
      case vv => exact fun j v w1 w2 h hb => V40_stays j v w1 w2 h hb
      case st =>
        refine Steps.cons (fun a w1 fr hb hd K hK => ?_) ?_
        · exact wp_val (move_exec rfl ((fr 0 (by kernel_rfl)).trans rfl)) (hK _ _ (Below.refl _ _) rfl)
        refine Steps.cons (fun a w1 fr hb hd K hK => ?_) ?_
        · exact wp_val (move_exec rfl ((fr 0 (by kernel_rfl)).trans rfl)) (hK _ _ (Below.refl _ _) rfl)
        refine Steps.cons (fun a w1 fr hb hd K hK => ?_) ?_
        · exact wp_val (lenS_exec rfl (hd 1 27 (by kernel_rfl))) (hK _ _ (Below.refl _ _) (by rw [hsn]; rfl))
        refine Steps.cons (fun a w1 fr hb hd K hK => ?_) ?_
        · exact wp_val (subc_exec (n := k + 2) (c := 2) rfl rfl (hd 2 28 (by kernel_rfl)) hkm (by omega)) (hK _ _ (Below.refl _ _) rfl)
        refine Steps.cons (fun a w1 fr hb hd K hK => ?_) ?_
        · exact wp_val (idx9_exec rfl (hd 0 26 (by kernel_rfl)) (hd 3 29 (by kernel_rfl)) (by omega)) (hK _ _ (Below.refl _ _) (by rw [ex]; rfl))
        refine Steps.cons (fun a w1 fr hb hd K hK => ?_) ?_
        · exact wp_val (conv53_exec rfl (hd 4 30 (by kernel_rfl)) hx) (hK _ _ (Below.refl _ _) rfl)
        refine Steps.cons (fun a w1 fr hb hd K hK => ?_) ?_
        · exact wp_val (shl3_exec rfl (hd 5 31 (by kernel_rfl)) hx) (hK _ _ (Below.refl _ _) rfl)
        refine Steps.cons (fun a w1 fr hb hd K hK => ?_) ?_
        · exact wp_val (move_exec rfl ((fr 0 (by kernel_rfl)).trans rfl)) (hK _ _ (Below.refl _ _) rfl)
        refine Steps.cons (fun a w1 fr hb hd K hK => ?_) ?_
        · exact wp_val (move_exec rfl ((fr 0 (by kernel_rfl)).trans rfl)) (hK _ _ (Below.refl _ _) rfl)
        refine Steps.cons (fun a w1 fr hb hd K hK => ?_) ?_
        · exact wp_val (lenS_exec rfl (hd 8 34 (by kernel_rfl))) (hK _ _ (Below.refl _ _) (by rw [hsn]; rfl))
        refine Steps.cons (fun a w1 fr hb hd K hK => ?_) ?_
        · exact wp_val (subc_exec (n := k + 2) (c := 1) rfl rfl (hd 9 35 (by kernel_rfl)) hkm (by omega)) (hK _ _ (Below.refl _ _) rfl)
        refine Steps.cons (fun a w1 fr hb hd K hK => ?_) ?_
        · exact wp_val (idx9_exec rfl (hd 7 33 (by kernel_rfl)) (hd 10 36 (by kernel_rfl)) (by omega)) (hK _ _ (Below.refl _ _) (by rw [ey]; rfl))
        refine Steps.cons (fun a w1 fr hb hd K hK => ?_) ?_
        · exact wp_val (conv53_exec rfl (hd 11 37 (by kernel_rfl)) hy) (hK _ _ (Below.refl _ _) rfl)
        refine Steps.cons (fun a w1 fr hb hd K hK => ?_) ?_
        · exact wp_val (or3_exec rfl (hd 6 32 (by kernel_rfl)) (hd 12 38 (by kernel_rfl)) hx hy) (hK _ _ (Below.refl _ _) rfl)
        refine Steps.cons (fun a w1 fr hb hd K hK => ?_) ?_
        · exact wp_val (move_exec rfl ((fr 4 (by kernel_rfl)).trans rfl)) (hK _ _ (Below.refl _ _) rfl)
        refine Steps.cons (fun a w1 fr hb hd K hK => ?_) ?_
        · have e1 : a.eval (.tmp 40) = .string (strOfNums H) := hd 14 40 (by kernel_rfl)
          refine Wv.wp_call Try.func68 (by kernel_rfl) rfl #[.string (strOfNums H)] rfl (by simp only [List.map_toArray, List.map_cons, List.map_nil, e1]) ?_
          refine (image_sum.calls _ _ _ _ (sum_is HBH.out (by have := HLH.out; omega))).mono ?_
          rintro e w2 ⟨rfl, hb2⟩
          exact ⟨_, rfl, hK _ _ (drawn_below hb2) rfl⟩
        refine Steps.cons (fun a w1 fr hb hd K hK => ?_) ?_
        · exact wp_val (neq3_exec rfl (hd 13 39 (by kernel_rfl)) (hd 15 41 (by kernel_rfl))) (hK _ _ (Below.refl _ _) rfl)
        refine Steps.cons (fun a w1 fr hb hd K hK => ?_) ?_
        · exact wp_val (assign_exec rfl (hd 16 42 (by kernel_rfl))) (hK _ _ (Below.refl _ _) rfl)
        exact Steps.nil
      case en =>
        intro vs w6 hb hv
        have h17 : vs 17 = .bool (!decide (256 * x + y = H.sum % 65536)) := hv 17 25 (by decide) (by kernel_rfl)
        have HB16 := Aside0.mk (below_then HB14.out HB14.out.size hb)
        have HC26 := Aside0.mk (HC24.out.below hb)
        have HC56 := Aside0.mk (HC5.out.below hb)
        have HB36 := Aside0.mk (below_then HB4.out HB4.out.size hb)
        have HS6 := Aside0.mk (HS4.out w6 (kp_below _ HB36.out))
        refine upto_none rfl ?_
        simp only [List.take_succ_cons, List.take_zero, putsOf, Act.put, List.setIfInBounds_toArray, List.set_cons_zero, List.set_cons_succ, h17]
        have HTT := Aside0.mk (show takeF L = if 256 * x + y ≠ H.sum % 65536 then (none, 6) else if mayF S = true then (some S, 0) else (none, 3) by
          have hu := HUB.out
          unfold takeF
          rw [if_neg (by have := HK.out; omega), hu, hkl, ← HH.out, HDH.out])
        by_cases hxy : 256 * x + y = H.sum % 65536
        · rw [decide_eq_true hxy]
          have HTT2 := Aside0.mk (HTT.out.trans (if_neg (fun h => h hxy)))
          have HMC := Aside0.mk (may_calls S HMID.out (.agg #[.slice A0 n0 c0, .slice A1 n1 c1, .slice A2 n2 c2]) w6 HS6.out)
          have x0 : w6.cell? ⟨g5, 0, none⟩ = some (.slice A0 n0 c0) := (HC56.out.cell 0).trans rfl
          have x1 : w6.cell? ⟨g5, 1, none⟩ = some (.slice A1 n1 c1) := (HC56.out.cell 1).trans rfl
          have x2 : w6.cell? ⟨g5, 2, none⟩ = some (.slice A2 n2 c2) := (HC56.out.cell 2).trans rfl
          clear hxy hxe hye hx hy ex ey h17 hv hb hkl hk0 hk1 hsn hkm
          obtain ⟨bm, hbm⟩ : ∃ bm, bm = mayF S := ⟨_, rfl⟩
          rw [← hbm] at HMC HTT2
          clear hbm
          cases bm with
          | false =>
            have HTF := Aside0.mk (HTT2.out.trans (if_neg (by decide)))
            go_wp2_with (first
              | (go_at_call 39; go_must (refine HMC.out.mono ?_); rintro e w8 ⟨rfl, hb8⟩; have HB18 := Aside0.mk (below_then HB16.out HB16.out.size hb8); have HC28 := Aside0.mk (HC26.out.below hb8); clear hb8)
              | ((with_reducible refine gate_store (t := 89) (p := 2) rfl ?_); refine store_agg_event rfl (ty := 89) rfl rfl (g := g2) (off := 0) (vs := #[.slice none 0 0, .slice none 0 0, .slice none 0 0]) rfl rfl HC28.out (by show 3 ≤ 3; decide) size89 (by simp [Value.oneCell']) ?_; intro w7 hh7 hs7; have HH7 := Aside0.mk hh7; have HS7 := Aside0.mk hs7; clear hh7 hs7))
            refine bodyPost_ret (results_cell2 rfl _ _ g2 89 #[.slice none 0 0, .slice none 0 0, .slice none 0 0] (0, 0) _ rfl (show Holds w7 g2 89 [.slice none 0 0, .slice none 0 0, .slice none 0 0] from HH7.out) Try.underlying89 rfl size89) rfl ?_
            exact rtake_none HTF.out (HS7.out.below HB18.out HG2.out)
          | true =>
            have HTF := Aside0.mk (HTT2.out.trans (if_pos rfl))
            go_wp2_with (first
              | (go_at_call 39; go_must (refine HMC.out.mono ?_); rintro e w8 ⟨rfl, hb8⟩; have HB18 := Aside0.mk (below_then HB16.out HB16.out.size hb8); have HC28 := Aside0.mk (HC26.out.below hb8); have HC58 := Aside0.mk (HC56.out.below hb8); have HB38 := Aside0.mk (below_then HB36.out HB36.out.size hb8); have y0 : w8.cell? ⟨g5, 0, none⟩ = some (.slice A0 n0 c0) := (HC58.out.cell 0).trans rfl; have y1 : w8.cell? ⟨g5, 1, none⟩ = some (.slice A1 n1 c1) := (HC58.out.cell 1).trans rfl; have y2 : w8.cell? ⟨g5, 2, none⟩ = some (.slice A2 n2 c2) := (HC58.out.cell 2).trans rfl; clear hb8)
              | ((with_reducible refine gate_store (t := 89) (p := 2) rfl ?_); refine store_agg_event rfl (ty := 89) rfl rfl (g := g2) (off := 0) (vs := #[.slice A0 n0 c0, .slice A1 n1 c1, .slice A2 n2 c2]) rfl rfl HC28.out (by show 3 ≤ 3; decide) size89 (by simp [Value.oneCell']) ?_; intro w7 hh7 hs7; have HH7 := Aside0.mk hh7; have HS7 := Aside0.mk hs7; clear hh7 hs7))
            refine bodyPost_ret (results_cell2 rfl _ _ g2 89 #[.slice A0 n0 c0, .slice A1 n1 c1, .slice A2 n2 c2] (0, 0) _ rfl (show Holds w7 g2 89 [.slice A0 n0 c0, .slice A1 n1 c1, .slice A2 n2 c2] from HH7.out) Try.underlying89 rfl size89) rfl ?_
            refine ⟨A0, n0, c0, A1, n1, c1, A2, n2, c2, by rw [HTF.out]; rfl, HS7.out.below HB18.out HG2.out, ?_⟩
            rw [HTF.out]
            exact HS4.out w7 ((kp_below _ HB38.out).trans (kp_stored HS7.out) (fun q _ e => by subst e; exact HG21.out))
        · rw [decide_eq_false hxy]
          have HTF := Aside0.mk (HTT.out.trans (if_pos hxy))
          clear hxy hxe hye hx hy ex ey h17 hv hb hkl hk0 hk1 hsn hkm
          go_wp2_with (first
            | ((with_reducible refine gate_store (t := 89) (p := 2) rfl ?_); refine store_agg_event rfl (ty := 89) rfl rfl (g := g2) (off := 0) (vs := #[.slice none 0 0, .slice none 0 0, .slice none 0 0]) rfl rfl HC26.out (by show 3 ≤ 3; decide) size89 (by simp [Value.oneCell']) ?_; intro w7 hh7 hs7; have HH7 := Aside0.mk hh7; have HS7 := Aside0.mk hs7; clear hh7 hs7))
          refine bodyPost_ret (results_cell2 rfl _ _ g2 89 #[.slice none 0 0, .slice none 0 0, .slice none 0 0] (0, 0) _ rfl (show Holds w7 g2 89 [.slice none 0 0, .slice none 0 0, .slice none 0 0] from HH7.out) Try.underlying89 rfl size89) rfl ?_
          exact rtake_none HTF.out (HS7.out.below HB16.out HG2.out)
end Go.Proofs.Ytgojfecpknonlaa.Im

