/- A shape's image: image.Put (function 37). -/
import Derived.Test.YtgojfecpknonlaaImU
import Derived.Lib.SlBytesConst
import Derived.StillTailTactics
import Derived.Deep.DeepMust
namespace Go.Proofs.Ytgojfecpknonlaa.Im
open Go.RowKit Go.Proofs.YtgojfecpknonlaaW.PrintWords Go.Proofs.YtgojfecpknonlaaW.PrintLast Go.Proofs.YtgojfecpknonlaaW.PrintMore
open Go.Proofs.Ytgojfecpknonlaa.Own Go.Proofs.Ytgojfecpknonlaa.PIm Go.Proofs.Ytgojfecpknonlaa.Wv
set_option linter.unusedVariables false
set_option linter.unusedSimpArgs false

def HLp (s g4 g5 : Nat) (sh : List Value) : List (Nat × Nat × List Value) := [(s, 89, sh), (g5, 129, [Value.func (.func 66) #[] #[.pointer (some ⟨g4, 0, none⟩)]])]
theorem u64_nat {n : Nat} (h : n ≤ 1000000) : IntKind.u64.wrap (n : Int) = (n : Int) := by rw [IntKind.wrap_u64]; omega
theorem pb_start {w w2 : World} {sh : List Value} (hb : Below w.heap.size w w2) (hs : Holds w2 w.heap.size 89 sh) :
    PB w.heap.size (w2.heap.size + 1) (HLp w.heap.size (w2.heap.size + 1) (w2.heap.size + 1 + 1) sh) w magicB (.slice (some ⟨w2.heap.size, 0, none⟩) 4 4) (((w2.alloc (Obj.cells #[Value.int .u8 68, Value.int .u8 77, Value.int .u8 83, Value.int .u8 72] 5 (4, 5))).alloc (Obj.cells #[Value.slice (some ⟨w2.heap.size, 0, none⟩) 4 4] 94)).alloc (Obj.cells #[Value.func (.func 66) #[] #[.pointer (some ⟨w2.heap.size + 1, 0, none⟩)]] 129)) := by
  generalize hO1 : Obj.cells #[Value.int .u8 68, Value.int .u8 77, Value.int .u8 83, Value.int .u8 72] 5 (4, 5) = O1
  have b1 : Below w2.heap.size w2 (w2.alloc O1) := below_alloc (Below.refl _ _) _
  have s1 : (w2.alloc O1).heap.size = w2.heap.size + 1 := World.size_alloc _ _
  have h2 : Holds ((w2.alloc O1).alloc (Obj.cells #[Value.slice (some ⟨w2.heap.size, 0, none⟩) 4 4] 94)) (w2.heap.size + 1) 94 [Value.slice (some ⟨w2.heap.size, 0, none⟩) 4 4] := hold_alloc s1.symm
  generalize hO2 : Obj.cells #[Value.slice (some ⟨w2.heap.size, 0, none⟩) 4 4] 94 = O2 at h2 ⊢
  have b2 : Below (w2.alloc O1).heap.size (w2.alloc O1) ((w2.alloc O1).alloc O2) := below_alloc (Below.refl _ _) _
  have s2 : ((w2.alloc O1).alloc O2).heap.size = w2.heap.size + 1 + 1 := by rw [World.size_alloc, s1]
  have h3 : Holds (((w2.alloc O1).alloc O2).alloc (Obj.cells #[Value.func (.func 66) #[] #[.pointer (some ⟨w2.heap.size + 1, 0, none⟩)]] 129)) (w2.heap.size + 1 + 1) 129 [Value.func (.func 66) #[] #[.pointer (some ⟨w2.heap.size + 1, 0, none⟩)]] := hold_alloc s2.symm
  generalize hO3 : Obj.cells #[Value.func (.func 66) #[] #[.pointer (some ⟨w2.heap.size + 1, 0, none⟩)]] 129 = O3 at h3 ⊢
  have b3 : Below ((w2.alloc O1).alloc O2).heap.size ((w2.alloc O1).alloc O2) (((w2.alloc O1).alloc O2).alloc O3) := below_alloc (Below.refl _ _) _
  have b23 := below_then b2 b2.size b3
  have b123 := below_then b1 b1.size b23
  refine ⟨h2.below b3, .inr ⟨w2.heap.size, (4, 5), rfl, hb.size, by decide, by decide, ?_⟩, ?_, below_then hb hb.size b123, Nat.le_trans hb.size b123.size⟩
  · rw [b23.block w2.heap.size (by rw [s1]; omega), blk_new, ← hO1]
    rfl
  · intro x hx
    rcases List.mem_cons.1 hx with rfl | hx
    · exact hs.below b123
    · obtain rfl := List.mem_singleton.1 hx
      exact h3
theorem PB.f5 {B g4 s g5 : Nat} {sh : List Value} {w00 W : World} {xs : List Int} {vb : Value} (h : PB B g4 (HLp s g4 g5 sh) w00 xs vb W) : W.cell? ⟨g5, 0, none⟩ = some (.func (.func 66) #[] #[.pointer (some ⟨g4, 0, none⟩)]) :=
  ((h.hs (g5, 129, _) (List.mem_cons_of_mem _ List.mem_cons_self)).cell 0).trans rfl
theorem PB.f1 {B g4 s g5 : Nat} {sh : List Value} {w00 W : World} {xs : List Int} {vb : Value} (h : PB B g4 (HLp s g4 g5 sh) w00 xs vb W) (i : Nat) : W.cell? ⟨s, i, none⟩ = sh[i]? :=
  (h.hs (s, 89, _) List.mem_cons_self).cell i
theorem PB.drew {B g4 : Nat} {HL : List (Nat × Nat × List Value)} {w00 W : World} {xs : List Int} {vb : Value} (h : PB B g4 HL w00 xs vb W) : PB B g4 HL w00 xs vb W.drew := h.flow (below_drew (Below.refl _ _))
theorem PB.copy {B g4 : Nat} {HL : List (Nat × Nat × List Value)} {w00 W : World} {xs : List Int} {vb : Value} (h : PB B g4 HL w00 xs vb W) (t : Nat) (cs : List Value) : PB B g4 ((W.heap.size, t, cs) :: HL) w00 xs vb (W.alloc (.cells cs.toArray t)) :=
  (h.flow (below_alloc (Below.refl _ _) _)).add (hold_alloc rfl)
theorem PB.top {B g4 g t : Nat} {cs : List Value} {HL : List (Nat × Nat × List Value)} {w00 W : World} {xs : List Int} {vb : Value} (h : PB B g4 ((g, t, cs) :: HL) w00 xs vb W) (i : Nat) : W.cell? ⟨g, i, none⟩ = cs[i]? := (h.hs (g, t, cs) List.mem_cons_self).cell i
theorem PB.g5 {B g4 g5 : Nat} {HL : List (Nat × Nat × List Value)} {w00 W : World} {xs : List Int} {vb : Value} (h : PB B g4 HL w00 xs vb W) (hm : (g5, 129, [Value.func (.func 66) #[] #[.pointer (some ⟨g4, 0, none⟩)]]) ∈ HL) : W.cell? ⟨g5, 0, none⟩ = some (.func (.func 66) #[] #[.pointer (some ⟨g4, 0, none⟩)]) := ((h.hs _ hm).cell 0).trans rfl
theorem hl_add {g4 g t : Nat} {cs : List Value} {HL : List (Nat × Nat × List Value)} (h : ∀ x ∈ HL, x.2.1 ≠ 5 ∧ x.1 ≠ g4) (ht : t ≠ 5) (hg : g ≠ g4) : ∀ x ∈ ((g, t, cs) :: HL), x.2.1 ≠ 5 ∧ x.1 ≠ g4 := fun x hx => by
  rcases List.mem_cons.1 hx with rfl | hx
  · exact ⟨ht, hg⟩
  · exact h x hx
theorem PB.ne {B g4 : Nat} {HL : List (Nat × Nat × List Value)} {w00 W : World} {xs : List Int} {vb : Value} (h : PB B g4 HL w00 xs vb W) : W.heap.size ≠ g4 := fun e => by have := h.cell.lt; omega
theorem atT' {w : World} {ad : Addr} {l : List S124} (h : Kd.C k124 w (some ad) l.length l) (i : Nat) (hi : i < l.length) :
    ∃ X0 X1, (∀ w1, Below w.heap.size w w1 → w1.cell? (ad.add (i * 2)) = some X0 ∧ w1.cell? ⟨(ad.add (i * 2)).block, (ad.add (i * 2)).off + 1, none⟩ = some X1) ∧ IV .i64 w X0 l[i].f0 ∧ IV .i64 w X1 l[i].f1 := by
  obtain ⟨ad', X0, X1, e, hx, h0, h1⟩ := atT h i hi
  injection e with e
  subst e
  exact ⟨X0, X1, hx, h0, h1⟩
section
variable {o : Oper} {a : Act} {W : World}
theorem load129_exec {x : Operand} {p : Addr} {v : Value} (ho : o.op = .load 129 x) (hx : a.eval x = .pointer (some p)) (hc : W.cell? p = some v) : (execOp a.eval o).run Try.prog W = .ok (.value v) W := by
  unfold execOp
  simp only [ho, hx]
  go_simp
theorem convS_exec {x : Operand} {v : Value} {xs : List Int} (ho : o.op = .convert 94 9 x) (hx : a.eval x = v) (hi : IV .u8 W v xs) : (execOp a.eval o).run Try.prog W = .ok (.value (.string (strOfNums xs))) W := by
  obtain ⟨A, c, rfl, _, hC⟩ := hi
  have h := Kd.C_string (P := Try.prog) (w := W) (src := 94) (dst := 9) (e := 5) (c := c) Try.underlying94 Try.underlying5 Try.underlying9 hC
  generalize a.eval = E at hx ⊢
  unfold execOp
  simp only [ho, hx]
  go_simp
theorem conv56_exec {x : Operand} {n : Int} (ho : o.op = .convert 3 56 x) (hx : a.eval x = .int .i64 n) (h0 : 0 ≤ n) (h1 : n ≤ 1000000) : (execOp a.eval o).run Try.prog W = .ok (.value (.int .u64 n)) W := by
  have h : IntKind.u64.wrap n = n := by rw [IntKind.wrap_u64]; omega
  generalize a.eval = E at hx ⊢
  unfold execOp
  simp only [ho, hx]
  go_simp
end
def V37 (g4 : Nat) (xs : List Int) (vb : Value) : Nat → Value → World → Prop
  | 0, u, _ => u = .func (.func 66) #[] #[.pointer (some ⟨g4, 0, none⟩)]
  | 1, u, _ => u = vb
  | 2, u, _ => u = .string (strOfNums xs)
  | 3, u, _ => u = .int .i64 (xs.sum % 65536)
  | 4, u, _ => u = .int .u64 (xs.sum % 65536)
  | _, _, _ => True
theorem V37_stays {g4 : Nat} {xs : List Int} {vb : Value} (j : Nat) (v : Value) (w w' : World) (h : V37 g4 xs vb j v w) (hb : Below w.heap.size w w') : V37 g4 xs vb j v w' := by
  unfold V37 at h ⊢
  split at h <;> first | exact h | trivial
theorem atN' {w : World} {A : Option Addr} {l : List S127} (h : Kd.C k127 w A l.length l) (i : Nat) (hi : i < l.length) :
    ∃ ad X0 X1, A = some ad ∧ (∀ w1, Below w.heap.size w w1 → w1.cell? (ad.add (i * 2)) = some X0 ∧ w1.cell? ⟨(ad.add (i * 2)).block, (ad.add (i * 2)).off + 1, none⟩ = some X1) ∧ IV .i64 w X0 l[i].f0 ∧ IV .u64 w X1 l[i].f1 := atN h i hi
set_option maxHeartbeats 8000000 in
set_option maxRecDepth 100000 in
theorem put37_calls (S : Sh) (hS : Mid S) (v : Value) (w : World) (hv : IsSh w v S) : Calls Try.prog 37 #[v] w fun e w' => e = .returned (.tuple #[(putV S).1, .int .i64 (putV S).2]) ∧ Below w.heap.size w w' := by
  have hu89 := Try.underlying89
  have hu86 := Try.underlying86
  have HS := Aside0.mk hS
  have HV := Aside0.mk hv
  obtain ⟨A0, c0, A1, c1, A2, c2, rfl, l0, h0, l1, h1, l2, h2⟩ := hv
  have H0 := Aside0.mk h0
  have H1 := Aside0.mk h1
  have H2 := Aside0.mk h2
  have L1 := Aside0.mk l1
  obtain ⟨W1, hW1⟩ : ∃ W1, W1 = w.alloc (.cells #[.slice A0 S.T.length c0, .slice A1 S.G.length c1, .slice A2 S.N.length c2] 89) := ⟨_, rfl⟩
  have HB := Aside0.mk (show Below w.heap.size w W1 by rw [hW1]; exact below_alloc (Below.refl _ _) _)
  have HH := Aside0.mk (show Holds W1 w.heap.size 89 [.slice A0 S.T.length c0, .slice A1 S.G.length c1, .slice A2 S.N.length c2] by rw [hW1]; exact hold_alloc rfl)
  have x0 := (HH.out.cell 0).trans rfl
  have x1 := (HH.out.cell 1).trans rfl
  have x2 := (HH.out.cell 2).trans rfl
  have hTl := hS.T
  have hGl := hS.G
  have hNl := hS.N
  clear h0 h1 h2 l0 l1 l2 hS
  have HM := Aside0.mk (may_calls S HS.out (.agg #[.slice A0 S.T.length c0, .slice A1 S.G.length c1, .slice A2 S.N.length c2]) W1 (HV.out.below HB.out))
  obtain ⟨bm, hbm⟩ : ∃ bm, bm = mayF S := ⟨_, rfl⟩
  have HBM := Aside0.mk hbm
  rw [← hbm] at HM
  clear hbm
  cases bm with
  | false =>
    go_enter Try.func37, Try.ntmps37
    go_upto_region 1 with (fail)
    rw [← hW1]
    clear hW1
    go_wp2_with (go_at_call 39; refine HM.out.mono ?_; rintro e w2 ⟨rfl, hb2⟩; have HB2 := Aside0.mk (below_then HB.out HB.out.size hb2); clear hb2)
    go_wp2_with fail
    refine bodyPost_ret (results_tmp2 rfl _ _ _) rfl ?_
    refine ⟨?_, HB2.out⟩
    unfold putV
    rw [if_pos HBM.out.symm]
    rfl
  | true =>
    by_cases hN : 1000 < S.N.length
    · have q1 : decide ((1000 : Int) < (S.N.length : Int)) = true := decide_eq_true (by omega)
      have q2 : decide (1000 < S.N.length) = true := decide_eq_true (by omega)
      have HN := Aside0.mk hN
      clear hN
      go_enter Try.func37, Try.ntmps37
      go_upto_region 1 with (fail)
      rw [← hW1]
      clear hW1
      go_wp2_with (go_at_call 39; refine HM.out.mono ?_; rintro e w2 ⟨rfl, hb2⟩; have HB2 := Aside0.mk (below_then HB.out HB.out.size hb2); have y2 := pw_cell_below hb2 x2; clear hb2)
      refine bodyPost_ret (results_tmp2 rfl _ _ _) rfl ?_
      refine ⟨?_, HB2.out⟩
      unfold putV
      rw [if_neg (by rw [← HBM.out]; decide), if_pos HN.out]
      rfl
    · have q1 : decide ((1000 : Int) < (S.N.length : Int)) = false := decide_eq_false (by omega)
      have q2 : decide (1000 < S.N.length) = false := decide_eq_false (by omega)
      have HT := Aside0.mk (may_T HBM.out.symm)
      have HR := Aside0.mk (may_refs HBM.out.symm)
      have HNN := Aside0.mk (show S.N.length ≤ 1000 by omega)
      have HF := Aside0.mk (show putV S = (.string (strOfNums (putB S)), 0) by
        unfold putV
        rw [if_neg (by rw [← HBM.out]; decide), if_neg hN])
      have kc := fun (w : World) (C : Array Value) (n c : Nat) => Lib.run_convert_bytes_const (P := Try.prog) w 94 5 C n c Try.underlying94 Try.underlying5
      have q3 : (0 : Int) < (S.T.length : Int) := by have := HT.out.T1; omega
      have q4 : 0 < S.T.length := by have := HT.out.T1; omega
      have HSL := Aside0.mk (show slotsF S = (S.T[0]'q4).f0.length by
        unfold slotsF
        rw [List.getD_eq_getElem?_getD, List.getElem?_eq_getElem q4]
        rfl)
      obtain ⟨ad0, _, _, rfl, -⟩ := atT H0.out 0 q4
      clear hN
      obtain ⟨X0, X1, hx, hv0, hv1⟩ := atT' H0.out 0 q4
      have HX0 := Aside0.mk hx
      have HXv := Aside0.mk hv0
      obtain ⟨Ax, cx, rfl, _, _⟩ := hv0
      clear hx hv1
      go_enter Try.func37, Try.ntmps37
      go_upto_region 1 with (fail)
      rw [← hW1]
      clear hW1
      go_upto_region 8 with (go_at_call 39; refine HM.out.mono ?_; rintro e w2 ⟨rfl, hb2⟩; have HB2 := Aside0.mk (below_then HB.out HB.out.size hb2); have y2 := pw_cell_below hb2 x2; have HH2 := Aside0.mk (HH.out.below hb2); clear hb2)
      have HPS := Aside0.mk (pb_start HB2.out HH2.out)
      have HSZ := Aside0.mk HB2.out.size
      generalize ((w2.alloc (Obj.cells #[Value.int .u8 68, Value.int .u8 77, Value.int .u8 83, Value.int .u8 72] 5 (4, 5))).alloc (Obj.cells #[Value.slice (some ⟨w2.heap.size, 0, none⟩) 4 4] 94)).alloc (Obj.cells #[Value.func (.func 66) #[] #[.pointer (some ⟨w2.heap.size + 1, 0, none⟩)]] 129) = W3 at HPS ⊢
      generalize hvb : Value.slice (some ⟨w2.heap.size, 0, none⟩) 4 4 = vb3 at HPS ⊢
      have HG45 := Aside0.mk (show w.heap.size ≤ w2.heap.size + 1 ∧ w.heap.size < w2.heap.size + 1 ∧ w.heap.size < w2.heap.size + 1 + 1 ∧ w2.heap.size + 1 ≠ w2.heap.size + 1 + 1 by have := HSZ.out; omega)
      generalize w2.heap.size + 1 + 1 = g5 at HPS HG45 ⊢
      generalize w2.heap.size + 1 = g4 at HPS HG45 ⊢
      have HHL := Aside0.mk (show ∀ x ∈ HLp w.heap.size g4 g5 [.slice (some ad0) S.T.length c0, .slice A1 S.G.length c1, .slice A2 S.N.length c2], x.2.1 ≠ 5 ∧ x.1 ≠ g4 by
        intro x hx
        have := HG45.out
        rcases List.mem_cons.1 hx with rfl | hx
        · exact ⟨by show (89 : Nat) ≠ 5; decide, by show w.heap.size ≠ g4; omega⟩
        · obtain rfl := List.mem_singleton.1 hx
          exact ⟨by show (129 : Nat) ≠ 5; decide, by show g5 ≠ g4; omega⟩)
      clear HH2 HB2 HSZ y2 hvb x0 x1 x2 HH HB HM
      have z5 := HPS.out.f5
      have z0 := (HPS.out.f1 0).trans rfl
      have hw1 : IntKind.u64.wrap (S.T.length : Int) = (S.T.length : Int) := u64_nat (by omega)
      go_upto_region 9 with (go_at_call 66; refine (put_calls 1 (by decide) (S.T.length : Int) w.heap.size g4 _ HHL.out HG45.out.1 w _ _ _ HPS.out (by decide)).mono ?_; rintro e w4 ⟨rfl, vb4, hp4⟩; have HP4 := Aside0.mk hp4; clear hp4)
      clear z5 z0 HPS hw1 W3
      have z5 := HP4.out.f5
      have z0 := (HP4.out.f1 0).trans rfl
      have z6 := (HX0.out w4 HP4.out.below).1
      rw [Nat.zero_mul] at z6
      have z7 : w4.cell? ad0 = some (.slice Ax (S.T[0]'q4).f0.length cx) := z6
      have hw1 : IntKind.u64.wrap ((S.T[0]'q4).f0.length : Int) = ((S.T[0]'q4).f0.length : Int) := u64_nat (by rw [← HSL.out]; have := HT.out.s; omega)
      go_wp2_with fail
      go_still_tail 8, (by kernel_rfl)
      change wpList _ _ _ _ _ w4.drew
      have HP4d := Aside0.mk HP4.out.drew
      generalize w4.drew = w4d at HP4d ⊢
      clear z5 z0 z6 z7 HP4 w4
      go_upto_region 10 with (go_at_call 66; go_must (refine (put_calls 1 (by decide) ((S.T[0]'q4).f0.length : Int) w.heap.size g4 _ HHL.out HG45.out.1 w _ _ _ HP4d.out (by rw [List.length_append, be_length]; decide)).mono ?_); rintro e w5 ⟨rfl, vb5, hp5⟩; have HP5 := Aside0.mk hp5; clear hp5)
      have HF5 := Aside0.mk (show PB w.heap.size g4 (HLp w.heap.size g4 g5 [.slice (some ad0) S.T.length c0, .slice A1 S.G.length c1, .slice A2 S.N.length c2]) w (frontB S ++ (S.T.take 0).flatMap tb) vb5 w5 from HP5.out.at (by unfold frontB; rw [List.take_zero, List.flatMap_nil, List.append_nil, HSL.out]))
      clear HP5 HP4d HX0 HXv HSL hw1 w4d vb4
      have z0 := (HF5.out.f1 0).trans rfl
      have hw67 : ∀ (x : List Int), x.length ≤ 1000 → IntKind.u64.wrap (x.length : Int) = (x.length : Int) := fun x hx => u64_nat (by omega)
      have HE5 := Aside0.mk (List.mem_cons_of_mem _ List.mem_cons_self : (g5, 129, [Value.func (.func 66) #[] #[.pointer (some ⟨g4, 0, none⟩)]]) ∈ HLp w.heap.size g4 g5 [.slice (some ad0) S.T.length c0, .slice A1 S.G.length c1, .slice A2 S.N.length c2])
      go_wp2_with fail
      go_loopg [44] S.T.length (fun kq v44 w' => ∃ (i : Nat) (vb : Value), v44 = .int .i64 (i : Int) ∧ i + kq = S.T.length ∧ Aside0 (PB w.heap.size g4 (HLp w.heap.size g4 g5 [.slice (some ad0) S.T.length c0, .slice A1 S.G.length c1, .slice A2 S.N.length c2]) w (frontB S ++ (S.T.take i).flatMap tb) vb w'))
      case atStart => exact ⟨0, _, rfl, by omega, HF5⟩
      case round =>
        clear HF5 z0
        obtain ⟨i, vb, rfl, hi, HPB⟩ := hrel
        obtain ⟨W0, rfl⟩ : ∃ W0, W0 = wr := ⟨wr, rfl⟩
        cases gk with
        | zero =>
          have r1 : decide ((i : Int) < (S.T.length : Int)) = false := decide_eq_false (by omega)
          have r2 : decide (i < S.T.length) = false := decide_eq_false (by omega)
          obtain ⟨xs, hxs⟩ : ∃ xs, xs = frontB S ++ S.T.flatMap tb := ⟨_, rfl⟩
          have HXS := Aside0.mk hxs
          have HPZ := Aside0.mk (show PB w.heap.size g4 (HLp w.heap.size g4 g5 [.slice (some ad0) S.T.length c0, .slice A1 S.G.length c1, .slice A2 S.N.length c2]) w xs vb W0 from HPB.out.at (by rw [hxs, List.take_of_length_le (by omega)]))
          have HLZ := Aside0.mk (show xs.length ≤ 5000 by rw [hxs, List.length_append, front_len]; have := tbs_len HT.out.T (fun t ht => by have := HT.out.t t ht; have := HT.out.s; omega); omega)
          clear hxs hi HPB
          have z0 := (HPZ.out.f1 1).trans rfl
          have z5 := HPZ.out.f5
          have hw17 := hw67 S.G (by have := HT.out.G; omega)
          go_upto_region 18 with (go_at_call 66; go_must (refine (put_calls 1 (by decide) (S.G.length : Int) w.heap.size g4 _ HHL.out HG45.out.1 w _ _ _ HPZ.out (by have := HLZ.out; omega)).mono ?_); rintro e w17 ⟨rfl, vby, hpn⟩; have HPY := Aside0.mk hpn; clear hpn)
          clear z0 z5 hw17 HPZ
          have z0 := (HPY.out.f1 1).trans rfl
          go_upto_region 19 with (go_at_call 67; go_must (refine (refs_calls S.G (by have := HT.out.G; omega) (fun x hx => by have := HR.out.g x hx; have := HNN.out; omega) w.heap.size g4 g5 _ HE5.out HHL.out HG45.out.1 w _ rfl _ _ HPY.out (by rw [List.length_append, be_length]; have := HLZ.out; omega) _ ⟨A1, c1, rfl, L1.out, H1.out⟩).mono ?_); rintro e w18 ⟨rfl, vbx, hpn⟩; have HPX := Aside0.mk hpn; clear hpn)
          clear z0 HPY
          have z0 := (HPX.out.f1 2).trans rfl
          have z5 := HPX.out.f5
          have hw19 : IntKind.u64.wrap (S.N.length : Int) = (S.N.length : Int) := u64_nat (by omega)
          go_upto_region 20 with (go_at_call 66; go_must (refine (put_calls 2 (by decide) (S.N.length : Int) w.heap.size g4 _ HHL.out HG45.out.1 w _ _ _ HPX.out (by rw [List.length_append, List.length_append, be_length, rb_length]; have := HLZ.out; have := HT.out.G; omega)).mono ?_); rintro e w6 ⟨rfl, vbw, hpn⟩; have HPW := Aside0.mk hpn; clear hpn)
          clear z0 z5 hw19 HPX
          have HF6 := Aside0.mk (show PB w.heap.size g4 (HLp w.heap.size g4 g5 [.slice (some ad0) S.T.length c0, .slice A1 S.G.length c1, .slice A2 S.N.length c2]) w (frontB S ++ S.T.flatMap tb ++ midB S ++ (S.N.take 0).flatMap nb) vbw w6 from HPW.out.at (by rw [HXS.out]; unfold midB; simp only [List.take_zero, List.flatMap_nil, List.append_nil, List.append_assoc]))
          have HLM := Aside0.mk (show (frontB S ++ S.T.flatMap tb ++ midB S).length ≤ 6000 by rw [List.length_append, ← HXS.out]; have := HLZ.out; have := mid_len HT.out.G; omega)
          clear HPW HXS HLZ
          have z0 := (HF6.out.f1 2).trans rfl
          go_wp2_with fail
          go_loopg [82] S.N.length (fun kq v82 w' => ∃ (i : Nat) (vb : Value), v82 = .int .i64 (i : Int) ∧ i + kq = S.N.length ∧ Aside0 (PB w.heap.size g4 (HLp w.heap.size g4 g5 [.slice (some ad0) S.T.length c0, .slice A1 S.G.length c1, .slice A2 S.N.length c2]) w (frontB S ++ S.T.flatMap tb ++ midB S ++ (S.N.take i).flatMap nb) vb w'))
          case atStart => exact ⟨0, _, rfl, by omega, HF6⟩
          case round =>
            clear HF6 z0
            obtain ⟨j, vj, rfl, hj, HPB⟩ := hrel
            obtain ⟨W5, rfl⟩ : ∃ W5, W5 = wr := ⟨wr, rfl⟩
            cases gk with
            | zero =>
              have s1 : decide ((j : Int) < (S.N.length : Int)) = false := decide_eq_false (by omega)
              have s2 : decide (j < S.N.length) = false := decide_eq_false (by omega)
              have HPZ := Aside0.mk (show PB w.heap.size g4 (HLp w.heap.size g4 g5 [.slice (some ad0) S.T.length c0, .slice A1 S.G.length c1, .slice A2 S.N.length c2]) w (headB S) vj W5 from HPB.out.at (by unfold headB; rw [List.take_of_length_le (by omega)]))
              have HLZ := Aside0.mk (head_len HT.out HNN.out)
              have HSI := Aside0.mk (sum_in (head_in S))
              clear hj HPB
              go_upto_region 32 with (fail)
              refine weave 5 122 (V37 g4 (headB S) vj) (by kernel_rfl) (by rfl) (by kernel_rfl) ?vv ?st ?en
              case vv => exact fun j v w1 w2 h hb => V37_stays j v w1 w2 h hb
              case st =>
                refine Steps.cons (fun a w1 fr hb hd K hK => ?_) ?_
                · exact wp_val (load129_exec rfl ((fr 5 (by kernel_rfl)).trans rfl) (HPZ.out.flow hb).f5) (hK _ _ (Below.refl _ _) rfl)
                refine Steps.cons (fun a w1 fr hb hd K hK => ?_) ?_
                · exact wp_val (load94_exec rfl ((fr 4 (by kernel_rfl)).trans rfl) (((HPZ.out.flow hb).cell.cell 0).trans rfl)) (hK _ _ (Below.refl _ _) rfl)
                refine Steps.cons (fun a w1 fr hb hd K hK => ?_) ?_
                · exact wp_val (convS_exec rfl (hd 1 115 (by kernel_rfl)) (HPZ.out.flow hb).row.reads) (hK _ _ (Below.refl _ _) rfl)
                refine Steps.cons (fun a w1 fr hb hd K hK => ?_) ?_
                · have e1 : a.eval (.tmp 116) = .string (strOfNums (headB S)) := hd 2 116 (by kernel_rfl)
                  refine Wv.wp_call Try.func68 (by kernel_rfl) rfl #[.string (strOfNums (headB S))] rfl (by simp only [List.map_toArray, List.map_cons, List.map_nil, e1]) ?_
                  refine (image_sum.calls _ _ _ _ (sum_is (head_in S) (by have := HLZ.out; omega))).mono ?_
                  rintro e w2 ⟨rfl, hb2⟩
                  exact ⟨_, rfl, hK _ _ (drawn_below hb2) rfl⟩
                refine Steps.cons (fun a w1 fr hb hd K hK => ?_) ?_
                · exact wp_val (conv56_exec rfl (hd 3 117 (by kernel_rfl)) (by omega) (by omega)) (hK _ _ (Below.refl _ _) rfl)
                exact Steps.nil
              case en =>
                intro vs w6 hb hv
                have h0 : vs 0 = .func (.func 66) #[] #[.pointer (some ⟨g4, 0, none⟩)] := hv 0 114 (by decide) (by kernel_rfl)
                have h4 : vs 4 = .int .u64 ((headB S).sum % 65536) := hv 4 118 (by decide) (by kernel_rfl)
                refine upto_some rfl ?_
                simp only [List.take_succ_cons, List.take_zero, putsOf, Act.put, List.setIfInBounds_toArray, List.set_cons_zero, List.set_cons_succ, h0, h4]
                refine wp_callv Try.func66 (by kernel_rfl) rfl #[.int .i64 2, .int .u64 ((headB S).sum % 65536), .pointer (some ⟨g4, 0, none⟩)] rfl (by rfl) (by simp only [List.map_toArray, List.map_cons, List.map_nil]; rfl) ?_
                refine (put_calls 2 (by decide) ((headB S).sum % 65536) w.heap.size g4 _ HHL.out HG45.out.1 w _ _ _ (HPZ.out.flow hb) (by have := HLZ.out; omega)).mono ?_
                rintro e w7 ⟨rfl, vb7, hp7⟩
                refine ⟨_, rfl, ?_⟩
                generalize hzs : headB S ++ be 2 ((headB S).sum % 65536) = zs at hp7
                have HZS := Aside0.mk (show putB S = zs from hzs)
                clear hzs
                have HP7 := Aside0.mk hp7
                obtain ⟨A7', c7', e7', _, hC7⟩ := hp7.row.reads
                rw [e7'] at hp7
                have z0 := (hp7.cell.cell 0).trans rfl
                have hcs := Kd.C_string (P := Try.prog) (w := w7) (src := 94) (dst := 9) (e := 5) (c := c7') Try.underlying94 Try.underlying5 Try.underlying9 hC7
                clear hp7 e7' hv hb h0 h4
                go_wp2_with fail
                refine bodyPost_ret (results_tmp2 rfl _ _ _) rfl ?_
                exact ⟨by rw [HF.out, HZS.out]; rfl, HP7.out.below⟩
            | succ k2 =>
              have hjl : j < S.N.length := by omega
              have s1 : decide ((j : Int) < (S.N.length : Int)) = true := decide_eq_true (by omega)
              have s2 : decide (j < S.N.length) = true := decide_eq_true (by omega)
              have s3 : (0 : Int) ≤ (j : Int) := by omega
              have s4 : (j : Int) < (S.N.length : Int) := by omega
              have hjn : j < 1000000000 := by omega
              obtain ⟨ad, Y0, Y1, rfl, hx, hv0, hv1⟩ := atN' H2.out j hjl
              obtain ⟨t, ht⟩ : ∃ t, t = S.N[j] := ⟨_, rfl⟩
              have HTT := Aside0.mk (flat_snoc nb S.N j hjl)
              have HTB := Aside0.mk (HT.out.n _ (List.getElem_mem hjl))
              have HTR := Aside0.mk (HR.out.n _ (List.getElem_mem hjl))
              have HTL := Aside0.mk (nbs_len (l := S.N.take j) (by rw [List.length_take]; have := HNN.out; omega) (fun t ht => HT.out.n t (List.mem_of_mem_take ht)))
              rw [← ht] at HTT HTB HTR hv0 hv1
              have HV0 := Aside0.mk hv0
              have HV1 := Aside0.mk hv1
              have HX := Aside0.mk hx
              obtain ⟨Ay, cy, rfl, _, _⟩ := hv0
              obtain ⟨Az, cz, rfl, _, _⟩ := hv1
              have hx0 := (HX.out W5 HPB.out.below).1
              have hx1 := (HX.out W5 HPB.out.below).2
              clear ht hx
              have HJ := Aside0.mk hj
              clear hj
              go_upto_region 23 with (fail)
              have HP8 := Aside0.mk (show PB w.heap.size g4 ((W5.heap.size, 131, [Value.slice Ay t.f0.length cy, Value.slice Az t.f1.length cz]) :: HLp w.heap.size g4 g5 [.slice (some ad0) S.T.length c0, .slice A1 S.G.length c1, .slice (some ad) S.N.length c2]) w (frontB S ++ S.T.flatMap tb ++ midB S ++ (S.N.take j).flatMap nb) vj (W5.alloc (Obj.cells #[Value.slice Ay t.f0.length cy, Value.slice Az t.f1.length cz] 131)) from HPB.out.copy 131 _)
              have HH8 := Aside0.mk (hl_add (t := 131) (cs := [Value.slice Ay t.f0.length cy, Value.slice Az t.f1.length cz]) HHL.out (by decide) HPB.out.ne)
              generalize W5.alloc (Obj.cells #[Value.slice Ay t.f0.length cy, Value.slice Az t.f1.length cz] 131) = W8 at HP8 ⊢
              generalize W5.heap.size = g8 at HP8 HH8 ⊢
              have HE8 := Aside0.mk (List.mem_cons_of_mem (g8, 131, [Value.slice Ay t.f0.length cy, Value.slice Az t.f1.length cz]) HE5.out)
              clear HPB hx0 hx1
              have hu131 := Try.underlying131
              have HLen := Aside0.mk (show (frontB S ++ S.T.flatMap tb ++ midB S ++ (S.N.take j).flatMap nb).length ≤ 768000 by rw [List.length_append]; have := HLM.out; have := HTL.out; omega)
              obtain ⟨xs, hxs⟩ : ∃ xs, xs = frontB S ++ S.T.flatMap tb ++ midB S ++ (S.N.take j).flatMap nb := ⟨_, rfl⟩
              have HXS := Aside0.mk hxs
              rw [← hxs] at HP8 HLen
              clear hxs
              have y0 := (HP8.out.top 0).trans rfl
              have y5 := HP8.out.g5 HE8.out
              have hw23 := hw67 t.f0 (by have := HTB.out; omega)
              go_upto_region 24 with (go_at_call 66; go_must (refine (put_calls 1 (by decide) (t.f0.length : Int) w.heap.size g4 _ HH8.out HG45.out.1 w _ _ _ HP8.out (by have := HLen.out; omega)).mono ?_); rintro e w9 ⟨rfl, vb9, hpn⟩; have HP9 := Aside0.mk hpn; clear hpn)
              clear y0 y5 hw23 HP8
              have y0 := (HP9.out.top 1).trans rfl
              have y5 := HP9.out.g5 HE8.out
              have hw24 := hw67 t.f1 (by have := HTB.out; omega)
              go_upto_region 25 with (go_at_call 66; go_must (refine (put_calls 1 (by decide) (t.f1.length : Int) w.heap.size g4 _ HH8.out HG45.out.1 w _ _ _ HP9.out (by rw [List.length_append, be_length]; have := HLen.out; omega)).mono ?_); rintro e w10 ⟨rfl, vb10, hpn⟩; have HP10 := Aside0.mk hpn; clear hpn)
              clear y0 y5 hw24 HP9
              have y0 := (HP10.out.top 0).trans rfl
              go_upto_region 26 with (go_at_call 67; go_must (refine (refs_calls t.f0 (by have := HTB.out; omega) (fun x hx => by have := HTR.out x hx; have := HNN.out; omega) w.heap.size g4 g5 _ HE8.out HH8.out HG45.out.1 w _ rfl _ _ HP10.out (by rw [List.length_append, List.length_append, be_length, be_length]; have := HLen.out; omega) _ HV0.out).mono ?_); rintro e w11 ⟨rfl, vb11, hpn⟩; have HP11 := Aside0.mk hpn; clear hpn)
              clear y0 HP10
              have y0 := (HP11.out.top 1).trans rfl
              obtain ⟨ys, hys⟩ : ∃ ys, ys = xs ++ be 1 (t.f0.length : Int) ++ be 1 (t.f1.length : Int) ++ rb t.f0 := ⟨_, rfl⟩
              have HYS := Aside0.mk hys
              have HYL := Aside0.mk (show ys.length ≤ 769000 by rw [hys, List.length_append, List.length_append, List.length_append, be_length, be_length, rb_length]; have := HLen.out; have := HTB.out; omega)
              have HFD := Aside0.mk (show PB w.heap.size g4 ((g8, 131, [Value.slice Ay t.f0.length cy, Value.slice Az t.f1.length cz]) :: HLp w.heap.size g4 g5 [.slice (some ad0) S.T.length c0, .slice A1 S.G.length c1, .slice (some ad) S.N.length c2]) w (ys ++ db (t.f1.take 0)) vb11 w11 from HP11.out.at (by rw [hys]; simp [db]))
              clear hys HP11
              go_wp2_with fail
              go_loopg [105] t.f1.length (fun kq v105 w' => ∃ (i : Nat) (vb : Value), v105 = .int .i64 (i : Int) ∧ i + kq = t.f1.length ∧ Aside0 (PB w.heap.size g4 ((g8, 131, [Value.slice Ay t.f0.length cy, Value.slice Az t.f1.length cz]) :: HLp w.heap.size g4 g5 [.slice (some ad0) S.T.length c0, .slice A1 S.G.length c1, .slice (some ad) S.N.length c2]) w (ys ++ db (t.f1.take i)) vb w'))
              case atStart => exact ⟨0, _, rfl, by omega, HFD⟩
              case round =>
                clear HFD y0
                obtain ⟨p, vp, rfl, hp, HPB⟩ := hrel
                obtain ⟨W9, rfl⟩ : ∃ W9, W9 = wr := ⟨wr, rfl⟩
                cases gk with
                | zero =>
                  have t1 : decide ((p : Int) < (t.f1.length : Int)) = false := decide_eq_false (by omega)
                  have t2 : decide (p < t.f1.length) = false := decide_eq_false (by omega)
                  have HPE := Aside0.mk (show PB w.heap.size g4 (HLp w.heap.size g4 g5 [.slice (some ad0) S.T.length c0, .slice A1 S.G.length c1, .slice (some ad) S.N.length c2]) w (frontB S ++ S.T.flatMap tb ++ midB S ++ (S.N.take (j + 1)).flatMap nb) vp W9 from HPB.out.drop.at (by rw [HTT.out, HYS.out, HXS.out, show t.f1.take p = t.f1 from List.take_of_length_le (by omega)]; unfold nb; simp only [List.append_assoc]))
                  clear hp HPB
                  go_wp2_with fail
                  go_roundg k2
                  case measure => have := HJ.out; omega
                  case rel => exact ⟨j + 1, vp, rfl, by have := HJ.out; omega, HPE⟩
                | succ k3 =>
                  have hpl : p < t.f1.length := by omega
                  have t1 : decide ((p : Int) < (t.f1.length : Int)) = true := decide_eq_true (by omega)
                  have t2 : decide (p < t.f1.length) = true := decide_eq_true (by omega)
                  have t3 : (0 : Int) ≤ (p : Int) := by omega
                  have t4 : (p : Int) < (t.f1.length : Int) := by omega
                  have hpn : p < 1000000000 := by have := HTB.out; omega
                  obtain ⟨ae, rfl, hc⟩ := iv_cell (HV1.out.below HPB.out.below) p hpl
                  have HTK := Aside0.mk (show t.f1.take (p + 1) = t.f1.take p ++ [t.f1[p]] from List.take_succ_eq_append_getElem hpl)
                  obtain ⟨x, hxe⟩ : ∃ x, x = t.f1[p] := ⟨_, rfl⟩
                  rw [← hxe] at hc HTK
                  have y5 := HPB.out.g5 HE8.out
                  have HPP := Aside0.mk hp
                  have HDL := Aside0.mk (show (ys ++ db (t.f1.take p)).length ≤ 1000000 by rw [List.length_append, db_length, List.length_take]; have := HYL.out; have := HTB.out; omega)
                  clear hxe hp
                  go_wp2_with (go_at_call 66; go_must (refine (put_calls 8 (by decide) x w.heap.size g4 _ HH8.out HG45.out.1 w _ _ _ HPB.out (by have := HDL.out; omega)).mono ?_); rintro e w13 ⟨rfl, vb13, hpn⟩; have HP13 := Aside0.mk hpn; clear hpn)
                  go_roundg k3
                  case measure => have := HPP.out; omega
                  case rel => exact ⟨p + 1, vb13, rfl, by have := HPP.out; omega, ⟨HP13.out.at (by rw [HTK.out, db_snoc, List.append_assoc])⟩⟩
        | succ k1 =>
          have hil : i < S.T.length := by omega
          have r1 : decide ((i : Int) < (S.T.length : Int)) = true := decide_eq_true (by omega)
          have r2 : decide (i < S.T.length) = true := decide_eq_true (by omega)
          have r3 : (0 : Int) ≤ (i : Int) := by omega
          have r4 : (i : Int) < (S.T.length : Int) := by omega
          have hin : i < 1000000000 := by omega
          obtain ⟨Y0, Y1, hx, hv0, hv1⟩ := atT' H0.out i hil
          obtain ⟨t, ht⟩ : ∃ t, t = S.T[i] := ⟨_, rfl⟩
          have HTT := Aside0.mk (flat_snoc tb S.T i hil)
          have HTB := Aside0.mk (HT.out.t _ (List.getElem_mem hil))
          have HTR := Aside0.mk (HR.out.t _ (List.getElem_mem hil))
          have HTL := Aside0.mk (tbs_len (l := S.T.take i) (by rw [List.length_take]; have := HT.out.T; omega) (fun t ht => by have := HT.out.t t (List.mem_of_mem_take ht); have := HT.out.s; omega))
          rw [← ht] at HTT HTB HTR hv0 hv1
          have HV0 := Aside0.mk hv0
          have HV1 := Aside0.mk hv1
          have HX := Aside0.mk hx
          obtain ⟨Ay, cy, rfl, _, _⟩ := hv0
          obtain ⟨Az, cz, rfl, _, _⟩ := hv1
          have hx0 := (HX.out W0 HPB.out.below).1
          have hx1 := (HX.out W0 HPB.out.below).2
          clear ht hx
          have HI := Aside0.mk hi
          clear hi
          go_upto_region 13 with (fail)
          have HP8 := Aside0.mk (show PB w.heap.size g4 ((W0.heap.size, 128, [Value.slice Ay t.f0.length cy, Value.slice Az t.f1.length cz]) :: HLp w.heap.size g4 g5 [.slice (some ad0) S.T.length c0, .slice A1 S.G.length c1, .slice A2 S.N.length c2]) w (frontB S ++ (S.T.take i).flatMap tb) vb (W0.alloc (Obj.cells #[Value.slice Ay t.f0.length cy, Value.slice Az t.f1.length cz] 128)) from HPB.out.copy 128 _)
          have HH8 := Aside0.mk (hl_add (t := 128) (cs := [Value.slice Ay t.f0.length cy, Value.slice Az t.f1.length cz]) HHL.out (by decide) HPB.out.ne)
          generalize W0.alloc (Obj.cells #[Value.slice Ay t.f0.length cy, Value.slice Az t.f1.length cz] 128) = W8 at HP8 ⊢
          generalize W0.heap.size = g8 at HP8 HH8 ⊢
          have HE8 := Aside0.mk (List.mem_cons_of_mem (g8, 128, [Value.slice Ay t.f0.length cy, Value.slice Az t.f1.length cz]) HE5.out)
          clear HPB hx0 hx1
          have y0 := (HP8.out.top 0).trans rfl
          have hu128 := Try.underlying128
          have HLen := Aside0.mk (show (frontB S ++ (S.T.take i).flatMap tb).length ≤ 5000 by rw [List.length_append, front_len]; have := HTL.out; omega)
          obtain ⟨xs, hxs⟩ : ∃ xs, xs = frontB S ++ (S.T.take i).flatMap tb := ⟨_, rfl⟩
          have HXS := Aside0.mk hxs
          rw [← hxs] at HP8 HLen
          clear hxs
          go_upto_region 14 with (go_at_call 67; go_must (refine (refs_calls t.f0 (by have := HTB.out; have := HT.out.s; omega) (fun x hx => by have := HTR.out.1 x hx; have := HNN.out; omega) w.heap.size g4 g5 _ HE8.out HH8.out HG45.out.1 w _ rfl _ _ HP8.out (by have := HLen.out; omega) _ HV0.out).mono ?_); rintro e w9 ⟨rfl, vb9, hpn⟩; have HP9 := Aside0.mk hpn; clear hpn)
          clear y0 HP8
          have y0 := (HP9.out.top 1).trans rfl
          have y5 := HP9.out.g5 HE8.out
          have hw14 := hw67 t.f1 (by have := HTB.out; have := HT.out.s; omega)
          go_upto_region 15 with (go_at_call 66; go_must (refine (put_calls 1 (by decide) (t.f1.length : Int) w.heap.size g4 _ HH8.out HG45.out.1 w _ _ _ HP9.out (by rw [List.length_append, rb_length]; have := HLen.out; have := HTB.out; have := HT.out.s; omega)).mono ?_); rintro e w10 ⟨rfl, vb10, hpn⟩; have HP10 := Aside0.mk hpn; clear hpn)
          clear y0 y5 HP9 hw14
          have y0 := (HP10.out.top 1).trans rfl
          go_wp2_with (go_at_call 67; go_must (refine (refs_calls t.f1 (by have := HTB.out; have := HT.out.s; omega) (fun x hx => by have := HTR.out.2 x hx; have := HNN.out; omega) w.heap.size g4 g5 _ HE8.out HH8.out HG45.out.1 w _ rfl _ _ HP10.out (by rw [List.length_append, List.length_append, rb_length, be_length]; have := HLen.out; have := HTB.out; have := HT.out.s; omega) _ HV1.out).mono ?_); rintro e w11 ⟨rfl, vb11, hpn⟩; have HP11 := Aside0.mk hpn; clear hpn)
          go_roundg k1
          case measure => have := HI.out; omega
          case rel => exact ⟨i + 1, vb11, rfl, by have := HI.out; omega, ⟨HP11.out.drop.at (by rw [HTT.out, HXS.out]; unfold tb; simp only [List.append_assoc])⟩⟩
end Go.Proofs.Ytgojfecpknonlaa.Im

