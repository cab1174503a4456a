/- A node by its name: function 101. -/
import Derived.Test.YtgojfecpknonlaaImG
import Derived.Laws.ResultCell
namespace Go.Proofs.Ytgojfecpknonlaa.Im
open Go.RowKit Go.Proofs.YtgojfecpknonlaaW.PrintWords Go.Proofs.YtgojfecpknonlaaW.PrintLast Go.Proofs.YtgojfecpknonlaaW.PrintMore
open Go.Proofs.Ytgojfecpknonlaa.Own Go.Proofs.Ytgojfecpknonlaa.PIm Go.Proofs.Ytgojfecpknonlaa.Wv
set_option linter.unusedVariables false
set_option linter.unusedSimpArgs false

theorem results_cell2 {P : Program} {fn : Func} {p u : Tmp} {ty : TypeId} (h : fn.results = #[.cell p ty, .tmp u]) (tmps : Array Value) (w : World) (g : Nat) (t : TypeId) (cs : Array Value) (fr : Nat × Nat) (d : TypeDesc)
    (hp : tmps.getD p undef = .pointer (some ⟨g, 0, none⟩)) (hg : w.heap[g]? = some (.cells cs t fr))
    (hu : P.underlying ty = some d) (hd : (match d with | .struct _ | .array _ _ => true | _ => false) = true) (hi : (P.info? ty).map (·.size) = some cs.size) :
    (results fn tmps).run P w = .ok (.tuple #[.agg cs, tmps.getD u undef]) w := by
  rw [results_cell_tmp h, hp]
  have h2 : (asAddr (.pointer (some ⟨g, 0, none⟩))).run P w = .ok ⟨g, 0, none⟩ w := rfl
  rw [h2]
  simp only [Result.andThen, run_loadVar_row w g t ty cs fr d hg hu hd hi]
section
variable {P : Program} {Q : Exit → Act → World → Prop}
/-- A call of a function value that lies in a slot, with what it has captured. -/
theorem wp_callv {o : Oper} {a : Act} {w : World} {K : Act → World → Prop} {f : FuncId} {fn : Func} {t : Tmp} {xs : Array Operand} {ts : Array TypeId} {cap : Array Value} (hf : P.funcs[f]? = some fn) (hname : (fn.name == "runtime.NumGoroutine") = false) (hb : fn.body.isSome = true) (args : Array Value)
    (hop : o.op = .call { callee := .value (.tmp t), args := xs, argTypes := ts }) (ht : a.eval (.tmp t) = .func (.func f) #[] cap) (hargs : xs.map a.eval ++ cap = args)
    (h : Calls P f args w fun e w' => ∃ v, e = .returned v ∧ K (a.put o.dst v) w') : Oper.wp P o a w K Q := by
  have he := enters_ hf hname hb args w
  have hrun : (execOp a.eval o).run P w = .ok (.enter f args) w := by
    unfold execOp
    simp [hop, resolve, Deferred.ofValue, invoke, ht, hargs, he]
  unfold Oper.wp
  rw [hrun, Oper.upon_enter]
  refine h.mono fun e w'' hh => ?_
  obtain ⟨v, rfl, hk⟩ := hh
  exact hk
end
section
variable {o : Oper} {a : Act} {W : World}
theorem fa131r0_exec {x : Operand} {ad : Addr} {m : Nat} (ho : o.op = .fieldAddr 131 x 0) (hx : a.eval x = .pointer (some (ad.add m))) : (execOp a.eval o).run Try.prog W = .ok (.value (.pointer (some (ad.add m)))) W := by
  have hu := Try.underlying131
  unfold execOp
  simp only [ho, hx]
  go_simp
theorem fa131r1_exec {x : Operand} {ad : Addr} {m : Nat} (ho : o.op = .fieldAddr 131 x 1) (hx : a.eval x = .pointer (some (ad.add m))) : (execOp a.eval o).run Try.prog W = .ok (.value (.pointer (some ⟨(ad.add m).block, (ad.add m).off + 1, none⟩))) W := by
  have hu := Try.underlying131
  unfold execOp
  simp only [ho, hx]
  go_simp
theorem idx87_exec {x y : Operand} {ad : Addr} {n c k : Nat} (ho : o.op = .indexAddr 87 x y) (hx : a.eval x = .slice (some ad) n c) (hy : a.eval y = .int .i64 (k : Int)) (hk : k < n) : (execOp a.eval o).run Try.prog W = .ok (.value (.pointer (some (ad.add (k * 2))))) W := by
  unfold execOp
  have h1 : (0 : Int) ≤ (k : Int) := by omega
  have h2 : (k : Int) < (n : Int) := by omega
  simp only [ho, hx, hy]
  go_simp
theorem dec_exec {x : Operand} {i : Nat} (hi : i < 1000000000) (ho : o.op = .binOp .sub 3 x (.const (.int .i64 1)) 3) (hx : a.eval x = .int .i64 ((i : Int) + 1)) : (execOp a.eval o).run Try.prog W = .ok (.value (.int .i64 (i : Int))) W := by
  have h1 : wrap64 ((i : Int) + 1 - 1) = (i : Int) := by rw [Int.add_sub_cancel]; exact wrap_in (by omega) (by omega)
  generalize hE : a.eval = E at hx ⊢
  have hc : E (.const (.int .i64 1)) = .int .i64 1 := by rw [← hE]; rfl
  unfold execOp
  simp only [ho, hx, hc]
  go_simp
  rw [i64_w]
  exact wrap_in (by omega) (by omega)
end
def z131 : List Value := [.slice none 0 0, .slice none 0 0]
abbrev RT (B : Nat) (xs : List Int) (v : Value) (w : World) : Prop := Kd.R (Kd.int .i64) 3 w B (fun _ => True) v xs
theorem RT.other {g t B : Nat} {w w1 : World} {u : Value} {xs : List Int} {cs : List Value} (h : RT B xs u w) (hh : Holds w g t cs) (ht : 3 ≠ t) (hs : Stored w w1 g) : RT B xs u w1 :=
  R_other h hh (fun q hq => by rcases List.mem_cons.1 hq with rfl | hq; exact ht; cases hq) hs
def A14 (B : Nat) (xs : List Int) (x1 v : Value) (w : World) : Prop := ∃ a, v = .agg #[a, x1] ∧ RT B xs a w
def G101 (B g4 : Nat) (xs : List Int) (x1 : Value) (k : Nat) (w w' : World) : Prop := match k with
  | 15 => Stored w w' g4 ∧ (∃ va, Holds w' g4 131 [va, x1] ∧ RT B xs va w') ∧ ∀ u, RT B xs u w → RT B xs u w'
  | _ => Below w.heap.size w w'
theorem G101.other {B g4 : Nat} {xs : List Int} {x1 : Value} {k : Nat} {w w' : World} (h : G101 B g4 xs x1 k w w') (hk : k ≠ 15) : Below w.heap.size w w' := by
  unfold G101 at h
  split at h
  · exact absurd rfl hk
  · exact h
theorem G101.keeps {B g4 : Nat} {xs : List Int} {x1 : Value} {k : Nat} {w w' : World} (h : G101 B g4 xs x1 k w w') (u : Value) (hu : RT B xs u w) : RT B xs u w' := by
  by_cases hk : k = 15
  · subst hk
    exact h.2.2 u hu
  · exact Kd.R_below hu (h.other hk)
theorem G101.kp {B g4 : Nat} {xs : List Int} {x1 : Value} {k : Nat} {w w' : World} (h : G101 B g4 xs x1 k w w') : Kp (fun q => q = g4) w w' := by
  by_cases hk : k = 15
  · subst hk
    exact ⟨h.1.os, h.1.tape, h.1.output, Nat.le_of_eq h.1.size.symm, fun q _ hq => h.1.block q hq⟩
  · have hb := h.other hk
    exact ⟨hb.os, hb.tape, hb.output, hb.size, fun q hq _ => hb.block q hq⟩
def V101 (B : Nat) (xs : List Int) (A : Option Addr) (ad : Addr) (n c i : Nat) (p3 : Addr) (x0 x1 : Value) : Nat → Value → World → Prop
  | 0, v, _ => v = .func (.func 97) #[] #[.pointer (some p3)]
  | 1, v, _ => v = .slice (some ad) n c
  | 2, v, _ => v = .int .i64 ((i : Int) + 1)
  | 3, v, _ => v = .int .i64 (i : Int)
  | 4, v, _ => v = .pointer (some (ad.add (i * 2)))
  | 5, v, _ => v = .pointer (some (ad.add (i * 2)))
  | 6, v, _ => v = x0
  | 7, v, w => RT B xs v w
  | 8, v, _ => v = .slice (some ad) n c
  | 9, v, _ => v = .int .i64 ((i : Int) + 1)
  | 10, v, _ => v = .int .i64 (i : Int)
  | 11, v, _ => v = .pointer (some (ad.add (i * 2)))
  | 12, v, _ => v = .pointer (some ⟨(ad.add (i * 2)).block, (ad.add (i * 2)).off + 1, none⟩)
  | 13, v, _ => v = x1
  | 14, v, w => A14 B xs x1 v w
  | _, _, _ => True
theorem V101_stays (B g4 : Nat) (xs : List Int) (A : Option Addr) (ad : Addr) (n c i : Nat) (p3 : Addr) (x0 x1 : Value) (k j : Nat) (v : Value) (w w' : World) (h : V101 B xs A ad n c i p3 x0 x1 j v w) (hb : G101 B g4 xs x1 k w w') : V101 B xs A ad n c i p3 x0 x1 j v w' := by
  unfold V101 at h ⊢
  split at h <;> first | exact h | exact hb.keeps _ h | (obtain ⟨a, h1, h2⟩ := h; exact ⟨a, h1, hb.keeps _ h2⟩) | trivial
set_option maxHeartbeats 4000000 in
set_option maxRecDepth 100000 in
theorem of_calls (N : List S127) (hN : N.length ≤ 1000000) (A2 : Option Addr) (c2 : Nat) (p3 p4 : Addr) (i : Nat) (hi : i < N.length) (hsm : SmallN N[i]) (w0 w : World) (h2 : Kd.C k127 w0 A2 N.length N) (hbb : Below w0.heap.size w0 w) (hp3 : w.cell? p3 = some (.slice A2 N.length c2)) (hp4 : w.cell? p4 = some (.func (.func 97) #[] #[.pointer (some p3)])) :
    Calls Try.prog 101 #[.int .i64 ((i : Int) + 1), .pointer (some p4), .pointer (some p3)] w fun e w' => ∃ va x1, e = .returned (.tuple #[.agg #[va, x1], .bool true]) ∧ RT w.heap.size (inF N.length N[i].f0) va w' ∧ IV .u64 w0 x1 N[i].f1 ∧ Below w.heap.size w w' := by
  have hin : i < 1000000000 := by omega
  obtain ⟨ad, x0, x1, rfl, hx0, hv00, hv1⟩ := atN h2 i hi
  have hx := fun (w1 : World) (h : Below w.heap.size w w1) => hx0 w1 (below_then hbb hbb.size h)
  have hv0 := hv00.below hbb
  have HSM := Aside0.mk hsm
  have HP3 := Aside0.mk hp3
  have HP4 := Aside0.mk hp4
  have HV0 := Aside0.mk hv0
  have HV1 := Aside0.mk hv1
  obtain ⟨t, ht⟩ : ∃ t, t = N[i] := ⟨_, rfl⟩
  rw [← ht] at HV0 HV1 HSM hv0 hv1 ⊢
  obtain ⟨Ay, cy, rfl, _, _⟩ := hv1
  clear hp3 hp4 hv0 hsm ht h2 hx0 hv00
  go_enter Try.func101, Try.ntmps101
  go_upto_region 1 with (fail)
  obtain ⟨W1, hW1⟩ : ∃ W1, W1 = w.alloc (.cells #[.slice none 0 0, .slice none 0 0] 131) := ⟨_, rfl⟩
  have hb0 : Below w.heap.size w W1 := by rw [hW1]; exact below_alloc (Below.refl _ _) _
  have hz : Holds W1 w.heap.size 131 z131 := by rw [hW1]; exact blk_new _ _
  rw [← hW1]
  clear hW1
  have HB0 := Aside0.mk hb0
  obtain ⟨g4, hg4⟩ : ∃ g4, g4 = w.heap.size := ⟨_, rfl⟩
  have hbw : ∀ w1, Kp (fun q => q = g4) W1 w1 → Below w.heap.size w w1 := fun w1 hk => hk.below HB0.out HB0.out.size (fun k hk => by omega)
  have hp3 : ∀ w1, Kp (fun q => q = g4) W1 w1 → w1.cell? p3 = some (.slice (some ad) N.length c2) := fun w1 hk => cell_stays (hbw w1 hk) HP3.out
  have hp4 : ∀ w1, Kp (fun q => q = g4) W1 w1 → w1.cell? p4 = some (.func (.func 97) #[] #[.pointer (some p3)]) := fun w1 hk => cell_stays (hbw w1 hk) HP4.out
  go_cut [4, 5] (fun v4 v5 wc => v5 = .bool true ∧ v4 = .pointer (some ⟨g4, 0, none⟩) ∧ Aside0 (∃ va, Holds wc g4 131 [va, .slice Ay t.f1.length cy] ∧ RT w.heap.size (inF N.length t.f0) va wc) ∧ Aside0 (Below w.heap.size w wc))
  case first =>
    rw [← hg4] at hz
    rw [← hg4]
    refine weaveG 16 21 (V101 w.heap.size (inF N.length t.f0) none ad N.length c2 i p3 x0 (.slice Ay t.f1.length cy)) (fun L w1 => Kp (fun q => q = g4) W1 w1 ∧ (L.getD 15 false = false → Holds w1 g4 131 z131) ∧ (L.getD 15 false = true → ∃ va, Holds w1 g4 131 [va, .slice Ay t.f1.length cy] ∧ RT w.heap.size (inF N.length t.f0) va w1)) (G101 w.heap.size g4 (inF N.length t.f0) (.slice Ay t.f1.length cy)) (by kernel_rfl) (by rfl) (by kernel_rfl) ?j0 ?jj ?vv ?st ?en
    case j0 => exact ⟨⟨rfl, rfl, rfl, Nat.le_refl _, fun _ _ _ => rfl⟩, fun _ => hz, fun h => by simp at h⟩
    case jj =>
      intro k L w1 w2 hk hL hk0 hJ hG
      refine ⟨hJ.1.trans hG.kp (fun q _ hq => hq), fun h => ?_, fun h => ?_⟩
      · by_cases he : k = 15
        · subst he
          rw [Array.getD_eq_getD_getElem?, Array.getElem?_setIfInBounds_self_of_lt (by rw [hL]; decide)] at h
          cases h
        · rw [getD_set_ne false he] at h
          exact (hJ.2.1 h).below (hG.other he)
      · by_cases he : k = 15
        · subst he
          exact hG.2.1
        · rw [getD_set_ne false he] at h
          obtain ⟨va, h1, h2⟩ := hJ.2.2 h
          exact ⟨va, h1.below (hG.other he), Kd.R_below h2 (hG.other he)⟩
    case vv => exact fun k j v w1 w2 _ _ _ h hG => V101_stays _ _ _ _ _ _ _ _ _ _ _ k j v w1 w2 h hG
    case st =>
      refine StepsG.cons (fun a w1 L fr hL hj hdf hd K hK => ?_) ?_
      · exact wp_val (load156_exec rfl ((fr 1 (by kernel_rfl)).trans rfl) (hp4 w1 hj.1)) (hK _ _ (show G101 _ _ _ _ _ _ _ from Below.refl _ _) rfl)
      refine StepsG.cons (fun a w1 L fr hL hj hdf hd K hK => ?_) ?_
      · exact wp_val (load87_exec rfl ((fr 2 (by kernel_rfl)).trans rfl) (hp3 w1 hj.1)) (hK _ _ (show G101 _ _ _ _ _ _ _ from Below.refl _ _) rfl)
      refine StepsG.cons (fun a w1 L fr hL hj hdf hd K hK => ?_) ?_
      · exact wp_val (move_exec rfl ((fr 0 (by kernel_rfl)).trans rfl)) (hK _ _ (show G101 _ _ _ _ _ _ _ from Below.refl _ _) rfl)
      refine StepsG.cons (fun a w1 L fr hL hj hdf hd K hK => ?_) ?_
      · exact wp_val (dec_exec hin rfl (hd 2 8 (by kernel_rfl))) (hK _ _ (show G101 _ _ _ _ _ _ _ from Below.refl _ _) rfl)
      refine StepsG.cons (fun a w1 L fr hL hj hdf hd K hK => ?_) ?_
      · exact wp_val (idx87_exec rfl (hd 1 7 (by kernel_rfl)) (hd 3 9 (by kernel_rfl)) hi) (hK _ _ (show G101 _ _ _ _ _ _ _ from Below.refl _ _) rfl)
      refine StepsG.cons (fun a w1 L fr hL hj hdf hd K hK => ?_) ?_
      · exact wp_val (fa131r0_exec rfl (hd 4 10 (by kernel_rfl))) (hK _ _ (show G101 _ _ _ _ _ _ _ from Below.refl _ _) rfl)
      refine StepsG.cons (fun a w1 L fr hL hj hdf hd K hK => ?_) ?_
      · exact wp_val (load26_exec rfl (hd 5 11 (by kernel_rfl)) (hx w1 (hbw w1 hj.1)).1) (hK _ _ (show G101 _ _ _ _ _ _ _ from Below.refl _ _) rfl)
      refine StepsG.cons (fun a w1 L fr hL hj hdf hd K hK => ?_) ?_
      · have e1 : a.eval (.tmp 12) = x0 := (hd 6 12 (by kernel_rfl))
        have e2 : a.eval (.tmp 6) = .func (.func 97) #[] #[.pointer (some p3)] := (hd 0 6 (by kernel_rfl))
        refine wp_callv Try.func97 (by kernel_rfl) rfl #[x0, .pointer (some p3)] rfl e2 (by simp only [List.map_toArray, List.map_cons, List.map_nil, e1]; rfl) ?_
        refine (c97 x0 t.f0 N.length (some ad) c2 p3 _ (HV0.out.below (hbw w1 hj.1)) HSM.out.1 hN (hp3 w1 hj.1)).mono ?_
        rintro e w2 ⟨v0, rfl, hr, hb2⟩
        exact ⟨_, rfl, hK _ _ (show G101 _ _ _ _ _ _ _ from hb2) (show RT _ _ _ _ from Kd.R_lower hr (Nat.le_trans HB0.out.size hj.1.size))⟩
      refine StepsG.cons (fun a w1 L fr hL hj hdf hd K hK => ?_) ?_
      · exact wp_val (load87_exec rfl ((fr 2 (by kernel_rfl)).trans rfl) (hp3 w1 hj.1)) (hK _ _ (show G101 _ _ _ _ _ _ _ from Below.refl _ _) rfl)
      refine StepsG.cons (fun a w1 L fr hL hj hdf hd K hK => ?_) ?_
      · exact wp_val (move_exec rfl ((fr 0 (by kernel_rfl)).trans rfl)) (hK _ _ (show G101 _ _ _ _ _ _ _ from Below.refl _ _) rfl)
      refine StepsG.cons (fun a w1 L fr hL hj hdf hd K hK => ?_) ?_
      · exact wp_val (dec_exec hin rfl (hd 9 15 (by kernel_rfl))) (hK _ _ (show G101 _ _ _ _ _ _ _ from Below.refl _ _) rfl)
      refine StepsG.cons (fun a w1 L fr hL hj hdf hd K hK => ?_) ?_
      · exact wp_val (idx87_exec rfl (hd 8 14 (by kernel_rfl)) (hd 10 16 (by kernel_rfl)) hi) (hK _ _ (show G101 _ _ _ _ _ _ _ from Below.refl _ _) rfl)
      refine StepsG.cons (fun a w1 L fr hL hj hdf hd K hK => ?_) ?_
      · exact wp_val (fa131r1_exec rfl (hd 11 17 (by kernel_rfl))) (hK _ _ (show G101 _ _ _ _ _ _ _ from Below.refl _ _) rfl)
      refine StepsG.cons (fun a w1 L fr hL hj hdf hd K hK => ?_) ?_
      · exact wp_val (load125_exec rfl (hd 12 18 (by kernel_rfl)) (hx w1 (hbw w1 hj.1)).2) (hK _ _ (show G101 _ _ _ _ _ _ _ from Below.refl _ _) rfl)
      refine StepsG.cons (fun a w1 L fr hL hj hdf hd K hK => ?_) ?_
      · have h7 : RT w.heap.size (inF N.length t.f0) (a.eval (.tmp 13)) w1 := (hd 7 13 (by kernel_rfl))
        obtain ⟨Aa, ca, ea⟩ := Kd.R_slice h7
        exact wp_val (build131_exec rfl ea (hd 13 19 (by kernel_rfl))) (hK _ _ (show G101 _ _ _ _ _ _ _ from Below.refl _ _) (show A14 _ _ _ _ _ from ⟨_, rfl, by rw [← ea]; exact h7⟩))
      refine StepsG.cons (fun a w1 L fr hL hj hdf hd K hK => ?_) ?_
      · obtain ⟨va, e14, h7⟩ : A14 w.heap.size (inF N.length t.f0) (.slice Ay t.f1.length cy) (a.eval (.tmp 20)) w1 := (hd 14 20 (by kernel_rfl))
        obtain ⟨Aa, ca, rfl⟩ := Kd.R_slice h7
        have hh4 := hj.2.1 hL
        have hs := stored_cells w1 g4 0 [.slice Aa (inF N.length t.f0).length ca, .slice Ay t.f1.length cy]
        refine Wv.wp_skip (w' := w1.setCells g4 0 [.slice Aa (inF N.length t.f0).length ca, .slice Ay t.f1.length cy]) rfl ?_ ?_
        · exact store_skip (g := g4) (off := 0) (t := 131) (cs := z131) (vs := #[.slice Aa (inF N.length t.f0).length ca, .slice Ay t.f1.length cy]) rfl ((fr 4 (by kernel_rfl)).trans rfl) e14 hh4 (by show 2 ≤ 2; decide) size131 (by simp [Value.oneCell'])
        · exact hK undef _ (show G101 _ _ _ _ _ _ _ from ⟨hs, ⟨_, holds_cells hh4 (by show 0 + 2 ≤ 2; decide), RT.other h7 hh4 (by decide) hs⟩, fun u hu => RT.other hu hh4 (by decide) hs⟩) trivial
      exact StepsG.nil
    case en =>
      intro vs w' L hJ hl hv
      have h15 := hJ.2.2 (hl 15 (by decide))
      refine upto_some rfl ?_
      simp only [List.take_succ_cons, List.take_zero, putsOf, Act.put, List.setIfInBounds_toArray, List.set_cons_zero, List.set_cons_succ]
      refine wp_val (assign_exec rfl rfl) ?_
      go_wp2
      go_meet
      case rel => exact ⟨rfl, rfl, ⟨h15⟩, ⟨hbw _ hJ.1⟩⟩
  case rest =>
    obtain ⟨rfl, rfl, HH, HB⟩ := hcut
    obtain ⟨va, hh, hr⟩ := HH.out
    obtain ⟨Aa, ca, rfl⟩ := Kd.R_slice hr
    go_wp2
    refine bodyPost_ret (results_cell2 rfl _ _ g4 131 #[.slice Aa (inF N.length t.f0).length ca, .slice Ay t.f1.length cy] (0, 0) _ rfl hh Try.underlying131 rfl size131) rfl ?_
    exact ⟨_, _, rfl, hr, HV1.out, HB.out⟩
end Go.Proofs.Ytgojfecpknonlaa.Im

