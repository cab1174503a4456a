/- The known event of chapter 36: function 42 answers true. (Printed by wip/tools/evg.py.) -/
import Derived.Test.YtgojfecpknonlaaEvM
import Derived.Test.YtgojfecpknonlaaPStx8
import Derived.Test.YtgojfecpknonlaaPStx9
import Derived.Test.YtgojfecpknonlaaPStx10
namespace Go.Proofs.Ytgojfecpknonlaa.Ev
open Go.RowKit Go.Proofs.YtgojfecpknonlaaW.PrintWords Go.Proofs.YtgojfecpknonlaaW.PrintLast Go.Proofs.YtgojfecpknonlaaW.PrintMore
open Go.Proofs.Ytgojfecpknonlaa.Own Go.Proofs.Ytgojfecpknonlaa.PSt
set_option linter.unusedVariables false
set_option linter.unusedSimpArgs false

theorem srt_head {y : S72} {ys : List S72} (h : Srt (y :: ys)) : ∀ d ∈ y :: ys, y.f4 ≤ d.f4 := fun d hd => by
  rcases List.mem_cons.1 hd with rfl | hd
  · exact Int.le_refl _
  · exact (srt_cons.1 h).1 d hd
theorem same_symm {xs ys : List S72} (h : Same xs ys) : Same ys xs := fun k => (h k).symm
theorem srt_unique : ∀ {ys zs : List S72}, Srt ys → Srt zs → Same ys zs → ys = zs
  | [], [], _, _, _ => rfl
  | [], z :: zs, _, _, h => by
    have := (same_mem h z).1 List.mem_cons_self
    simp at this
  | y :: ys, [], _, _, h => by
    have := (same_mem h y).2 List.mem_cons_self
    simp at this
  | y :: ys, z :: zs, hy, hz, h => by
    have h1 := srt_head hz y ((same_mem h y).2 List.mem_cons_self)
    have h2 := srt_head hy z ((same_mem h z).1 List.mem_cons_self)
    have he : z.f4 = y.f4 := by omega
    have h3 := h y.f4
    rw [List.filter_cons_of_pos (p := fun d : S72 => d.f4 == y.f4) (a := z) (by show (z.f4 == y.f4) = true; rw [he]; exact beq_self_eq_true _), List.filter_cons_of_pos (p := fun d : S72 => d.f4 == y.f4) (a := y) (beq_self_eq_true _)] at h3
    injection h3 with h4 h5
    subst h4
    have h6 : Same ys zs := fun k => by
      have h7 := h k
      by_cases hk : (z.f4 == k) = true
      · rw [List.filter_cons_of_pos (p := fun d : S72 => d.f4 == k) (a := z) hk, List.filter_cons_of_pos (p := fun d : S72 => d.f4 == k) (a := z) hk] at h7
        injection h7
      · rw [List.filter_cons_of_neg (p := fun d : S72 => d.f4 == k) (a := z) hk, List.filter_cons_of_neg (p := fun d : S72 => d.f4 == k) (a := z) hk] at h7
        exact h7
    rw [srt_unique (srt_cons.1 hy).2 (srt_cons.1 hz).2 h6]
theorem stab_unique {l ys zs : List S72} (h : Stab l ys) (k : Stab l zs) : ys = zs := srt_unique h.1 k.1 ((same_symm h.2.1).trans k.2.1)

def d1 : S72 := ⟨0, ⟨1, 0, 0, 1⟩, ⟨0, 40, 0⟩, 1, 20, 20⟩
def d2 : S72 := ⟨0, ⟨1, 0, 0, 1⟩, ⟨0, 40, 0⟩, 1, 3, 20⟩
def bs1 : ByteArray := { data := #[0, 1, 0, 0, 1, 0, 0, 40, 0, 0, 0, 0, 0, 0, 0, 0, 0, 0, 0, 1, 0, 0, 0, 20, 0, 0, 0, 20] }
theorem put_w : events_Put.f 200 [d1] = some (bs1, 0) := by kernel_rfl
theorem take_w : events_Take.f 200 bs1 = some ([d1], 0) := by kernel_rfl
theorem take_x : events_Take.f 200 { data := #[120] } = some ([], 3) := by kernel_rfl
theorem may_w : events_May.f 200 0 1 0 0 1 0 40 0 1 20 20 = some true := by kernel_rfl
theorem pts_w : [d1, z72, d2].filter isPt = [d1, d2] := by kernel_rfl
theorem stab_w : Stab ([d1, z72, d2].filter isPt) [d2, d1] := by
  rw [pts_w]
  refine ⟨?_, fun k => ?_, rfl⟩
  · rw [srt_cons]
    refine ⟨fun d hd => ?_, by rw [srt_cons]; exact ⟨fun d hd => by simp at hd, List.Pairwise.nil⟩⟩
    have : d = d1 := by simpa using hd
    subst this
    decide
  · by_cases h1 : k = 20
    · subst h1; exact (by kernel_rfl : [d2, d1].filter (fun d => d.f4 == (20 : Int)) = [d1, d2].filter (fun d => d.f4 == (20 : Int)))
    · by_cases h2 : k = 3
      · subst h2; exact (by kernel_rfl : [d2, d1].filter (fun d => d.f4 == (3 : Int)) = [d1, d2].filter (fun d => d.f4 == (3 : Int)))
      · have e1 : (d1.f4 == k) = false := by rw [beq_eq_false_iff_ne]; exact fun h => h1 h.symm
        have e2 : (d2.f4 == k) = false := by rw [beq_eq_false_iff_ne]; exact fun h => h2 h.symm
        simp [List.filter, e1, e2]
theorem bt1_w : [d1].filter (isBt 20 30) = [d1] := by kernel_rfl
theorem bt2_w : [d1].filter (isBt 21 30) = [] := by kernel_rfl
theorem ag_w : [d1].filter (isAg 1) = [] := by kernel_rfl

theorem Row.stored {W W1 : World} {g g' : Nat} {xs : List S72} (h : Row W g' xs) (hs : Stored W W1 g) (hne : g' ≠ g) : Row W1 g' xs := by
  obtain ⟨r, h⟩ := h
  exact ⟨r, hs.holds h hne⟩
theorem row_alloc (W : World) (xs : List S72) (cs : Array Value) (h : cs.toList = rc xs) : Row (W.alloc (.cells cs 72)) W.heap.size xs :=
  ⟨[], by rw [List.append_nil, ← h]; exact blk_new _ _⟩
theorem cells72 : (Value.agg #[.int .u8 0, .int .u8 0, .int .u8 0, .int .u8 0, .int .u8 0, .int .i64 0, .int .i64 0, .int .u64 0, .int .i64 0, .int .i64 0, .int .i64 0]).cells.toList = rc [z72] ++ [] := by kernel_rfl
theorem row_zero {W : World} {g : Nat} (h : Holds W g 72 (Value.agg #[.int .u8 0, .int .u8 0, .int .u8 0, .int .u8 0, .int .u8 0, .int .i64 0, .int .i64 0, .int .u64 0, .int .i64 0, .int .i64 0, .int .i64 0]).cells.toList) : Row W g [z72] := ⟨[], by rw [← cells72]; exact h⟩
theorem info3s : (Try.prog.info? 3).map (·.size) = some 1 := by kernel_rfl
/-- A store to an event's point. -/
theorem row_point {ops : Array Oper} {rest : List Oper} {o : Oper} {a : Act} {Q : Exit → Act → World → Prop} {W : World} {g : Nat} {d : S72} {p : Int} (h : Row W g [d]) (hgd : o.guard = none) {x y : Operand} (ho : o.op = .store 3 x y) (hN : o.dst = none) (hx : a.eval x = .pointer (some ⟨g, 9, none⟩)) (hy : a.eval y = .int .i64 p)
    (hk : ∀ w1, Row w1 g [{ d with f4 := p }] → Stored W w1 g → wpList Try.prog ops Q rest a w1) : wpList Try.prog ops Q (o :: rest) a W := by
  obtain ⟨r, hg⟩ := h
  have h2 : Row (W.setCells g 9 [.int .i64 p]) g [{ d with f4 := p }] := ⟨r, holds_cells hg (by rw [List.length_append, rc_length]; show 9 + 1 ≤ 11 * 1 + _; omega)⟩
  have hlt : 9 < (rc [d] ++ r).length := by rw [List.length_append, rc_length]; show 9 < 11 * 1 + _; omega
  have hrun := run_storeCells_cells (P := Try.prog) g 9 [.int .i64 p] 0 W (fun k hk => by
      have : k = 0 := by simpa using hk
      subst this
      show (W.cell? ⟨g, 9 + 0, none⟩).isSome = true
      rw [Nat.add_zero, hg.cell, List.getElem?_eq_getElem hlt]
      rfl) (fun k hk => blk_frozen hg _) (fun u hu => by
      have : u = .int .i64 p := by simpa using hu
      subst this
      rfl)
  refine wpList_plain hgd fun K hK => ?_
  unfold Oper.wp execOp
  have hi := info3s
  cases hq : Try.prog.info? 3 with
  | none => simp [hq] at hi
  | some i =>
    have hs : i.size = 1 := by simpa [hq] using hi
    simp only [Nat.add_zero] at hrun
    have hc : (Value.int .i64 p).cells = #[Value.int .i64 p] := rfl
    simp [ho, hx, hy, Instr.storeAt, Instr.sureAddr, storeVar, sizeOf, typeInfo, hq, hc, hs, hrun]
    show K (a.put o.dst undef) _
    rw [hN]
    exact hK _ _ (hk _ h2 (stored_cells _ _ _ _))

section
variable {P : Program} {o : Oper} {a : Act}
theorem eql_string_exec {W : World} {x y : Operand} {s : ByteArray} (ho : o.op = .binOp .eql 9 x y 9) (hx : a.eval x = .string s) (hy : a.eval y = .string s) : (execOp a.eval o).run Try.prog W = .ok (.value (.bool true)) W := by
  unfold execOp
  simp only [ho, hx, hy]
  go_simp
theorem run_eql_d1 (w : World) : (binOp .eql 72 (ev d1) (ev d1)).run Try.prog w = .ok (.bool true) w := by kernel_rfl
theorem run_eql_d2 (w : World) : (binOp .eql 72 (ev d2) (ev d2)).run Try.prog w = .ok (.bool true) w := by kernel_rfl
theorem cmp72_exec {W : World} {x y : Operand} (ho : o.op = .binOp .eql 72 x y 72) {X : Array Value} (hx : a.eval x = .agg X) (hy : a.eval y = .agg X) (hr : (binOp .eql 72 (.agg X) (.agg X)).run Try.prog W = .ok (.bool true) W) : (execOp a.eval o).run Try.prog W = .ok (.value (.bool true)) W := by
  have h1 : (eqGuard .eql 72 x y (.agg X) (.agg X)).run Try.prog W = .ok () W := run_eqGuard_agg W .eql 72 x y X X Try.eqGuardType72
  unfold execOp
  simp only [ho, hx, hy, Sem.run_bind, h1, hr, Result.andThen_ok, Sem.run_pure]
end
theorem bt1_calls (g c : Nat) (w : World) (hr : Row w g [d1]) (hc : 1 ≤ c) : Calls Try.prog 50 #[.slice (some ⟨g, 0, none⟩) 1 c, .int .i64 20, .int .i64 30] w (fun e w' => (∃ A c', e = .returned (.slice A 1 c')) ∧ Below w.heap.size w w') := by
  refine (between_calls 20 30 [d1] (some ⟨g, 0, none⟩) c w (hr.C (by decide)) hc (by decide)).mono ?_
  rw [bt1_w]
  rintro e w1 ⟨A1, c1, rfl, _, _, hb, _⟩
  exact ⟨⟨A1, c1, rfl⟩, hb⟩
theorem bt2_calls (g c : Nat) (w : World) (hr : Row w g [d1]) (hc : 1 ≤ c) : Calls Try.prog 50 #[.slice (some ⟨g, 0, none⟩) 1 c, .int .i64 21, .int .i64 30] w (fun e w' => (∃ A c', e = .returned (.slice A 0 c')) ∧ Below w.heap.size w w') := by
  refine (between_calls 21 30 [d1] (some ⟨g, 0, none⟩) c w (hr.C (by decide)) hc (by decide)).mono ?_
  rw [bt2_w]
  rintro e w1 ⟨A1, c1, rfl, _, _, hb, _⟩
  exact ⟨⟨A1, c1, rfl⟩, hb⟩
theorem ag1_calls (g c : Nat) (w : World) (hr : Row w g [d1]) (hc : 1 ≤ c) : Calls Try.prog 49 #[.slice (some ⟨g, 0, none⟩) 1 c, .int .u8 1] w (fun e w' => (∃ A c', e = .returned (.slice A 0 c')) ∧ Below w.heap.size w w') := by
  refine (of_calls 1 [d1] (some ⟨g, 0, none⟩) c w (hr.C (by decide)) hc (by decide)).mono ?_
  rw [ag_w]
  rintro e w1 ⟨A1, c1, rfl, _, _, hb, _⟩
  exact ⟨⟨A1, c1, rfl⟩, hb⟩

set_option maxHeartbeats 1500000 in
set_option maxRecDepth 100000 in
theorem wakes_calls (w : World) : Calls Try.prog 42 #[] w fun e w' => e = .returned (.bool true) ∧ Below w.heap.size w w' := by
  go_enter Try.func42, Try.ntmps42
  go_upto_region 2 with (first
    | ((with_reducible refine gate_dst (N := 1) rfl ?_); refine alloc_event rfl (t := 72) rfl info72 ?_; intro g1 hg1 w1 hh1 hb1; have HG1 := Aside0.mk hg1; have HH1 := Aside0.mk (row_zero hh1); have HB1 := Aside0.mk hb1; clear hg1 hh1 hb1)
    | ((with_reducible refine gate_store (t := 72) (p := 1) rfl ?_); refine row_store (g := g1) (i := 0) (xs := [z72]) (d := d1) HH1.out (by decide) rfl rfl rfl rfl rfl ?_; intro w2 hr2 hs2; have HR2 : Aside0 (Row w2 g1 [d1]) := ⟨hr2⟩; have HB2 := Aside0.mk (hs2.below HB1.out (Nat.le_of_eq HG1.out.symm)); clear hr2 hs2))
  clear HB1 HH1
  go_upto_region 3 with (first
    | ((with_reducible refine gate_dst (N := 14) rfl ?_); refine row_load (i := 0) (d := d1) HR2.out rfl rfl rfl rfl ?_)
    | (go_at_call 43; refine (events_Put.calls 200 _ 1 [d1] bs1 0 _ ((row_alloc w2 [d1] (ec d1).toArray rfl).C (by decide)) (by decide) put_w).mono ?_; rintro e w3 ⟨rfl, hb3⟩; have HBX := Aside0.mk (below_then (below_alloc (Below.refl w2.heap.size w2) _) (by simp) hb3); have HR3 := Aside0.mk (HR2.out.below HBX.out); have HB3 := Aside0.mk (below_then HB2.out HB2.out.size HBX.out); clear hb3 HBX))
  generalize hbs : bs1 = bb
  have HBS := Aside0.mk hbs
  clear hbs HR2 HB2
  go_upto_region 4 with (go_at_call 46; refine (events_Take.calls 200 bb [d1] 0 _ (HBS.out ▸ take_w)).mono ?_; rintro e w4 ⟨v4, rfl, hv4, hb4⟩; obtain ⟨g4, c4, rfl, hc4, hg4, hrow4⟩ := row_of hv4 (by decide); have HRL := Aside0.mk hrow4; have HG4 := Aside0.mk hg4; have HR4 := Aside0.mk (HR3.out.below hb4); have HB4 := Aside0.mk (below_then HB3.out HB3.out.size hb4); have HC4 := Aside0.mk hc4; clear hv4 hb4 hg4 hrow4 hc4)
  clear HR3 HB3
  go_upto_region 5 with (go_at_call 46; refine (events_Take.calls 200 { data := #[120] } [] 3 _ take_x).mono ?_; rintro e w5 ⟨v5, rfl, hv5, hb5⟩; have HRL5 := Aside0.mk (HRL.out.below hb5); have HR5 := Aside0.mk (HR4.out.below hb5); have HB5 := Aside0.mk (below_then HB4.out HB4.out.size hb5); clear hv5 hb5)
  clear HRL HR4 HB4
  go_upto_region 7 with (first
    | ((with_reducible refine gate_dst (N := 28) rfl ?_); refine row_load (i := 0) (d := d1) HR5.out rfl rfl rfl rfl ?_)
    | ((with_reducible refine gate_dst (N := 8) rfl ?_); refine alloc_event rfl (t := 72) rfl info72 ?_; intro g8 hg8 w6 hh6 hb6; have HG8 := Aside0.mk hg8; have HH6 := Aside0.mk (row_zero hh6); have HR6 := Aside0.mk (HR5.out.below hb6); have HL6 := Aside0.mk (HRL5.out.below hb6); have HN1 := Aside0.mk (show g1 ≠ g8 by have := HR5.out.lt; omega); have HN4 := Aside0.mk (show g4 ≠ g8 by have := HRL5.out.lt; omega); have HB6 := Aside0.mk (below_then HB5.out HB5.out.size hb6); have HGE := Aside0.mk (show w.heap.size ≤ g8 by have := HB5.out.size; omega); clear hg8 hh6 hb6)
    | ((with_reducible refine gate_store (t := 72) (p := 8) rfl ?_); refine row_store (g := g8) (i := 0) (xs := [z72]) (d := d1) HH6.out (by decide) rfl rfl rfl rfl rfl ?_; intro w7 hr7 hs7; have HC7 : Aside0 (Row w7 g8 [d1]) := ⟨hr7⟩; have HR7 := Aside0.mk (HR6.out.stored hs7 HN1.out); have HL7 := Aside0.mk (HL6.out.stored hs7 HN4.out); have HB7 := Aside0.mk (hs7.below HB6.out HGE.out); clear hr7 hs7)
    | ((with_reducible refine gate_store (t := 3) (p := 29) rfl ?_); refine row_point (g := g8) (d := d1) (p := 3) HC7.out rfl rfl rfl rfl rfl ?_; intro w8 hr8 hs8; have HC8 : Aside0 (Row w8 g8 [d2]) := ⟨hr8⟩; have HR8 := Aside0.mk (HR7.out.stored hs8 HN1.out); have HL8 := Aside0.mk (HL7.out.stored hs8 HN4.out); have HB8 := Aside0.mk (hs8.below HB7.out HGE.out); clear hr8 hs8))
  clear HRL5 HR5 HB5 HG8 HH6 HR6 HL6 HB6 HC7 HR7 HL7 HB7
  go_upto_region 8 with (first
    | ((with_reducible refine gate_dst (N := 30) rfl ?_); refine row_load (i := 0) (d := d1) HR8.out rfl rfl rfl rfl ?_)
    | ((with_reducible refine gate_dst (N := 32) rfl ?_); refine row_load (i := 0) (d := d2) HC8.out rfl rfl rfl rfl ?_)
    | (go_at_call 51; refine (points_calls [d1, z72, d2] _ 3 _ ((row_alloc w8 [d1, z72, d2] (rc [d1, z72, d2]).toArray rfl).C (by decide)) (by decide) (by decide)).mono ?_; rintro e w9 ⟨ys, hst, A9, c9, rfl, hc9, hC9, hb9, hg9⟩; obtain rfl := stab_unique hst stab_w; obtain ⟨g9, rfl, hge9, hr9⟩ := hg9 (by decide); have HBX := Aside0.mk (below_then (below_alloc (Below.refl w8.heap.size w8) _) (by simp) hb9); have HP9 := Aside0.mk hr9; have HC9 := Aside0.mk (HC8.out.below HBX.out); have HR9 := Aside0.mk (HR8.out.below HBX.out); have HL9 := Aside0.mk (HL8.out.below HBX.out); have HB9 := Aside0.mk (below_then HB8.out HB8.out.size HBX.out); clear hst hc9 hC9 hb9 hg9 hge9 hr9 HBX))
  clear HC8 HR8 HL8 HB8
  have HC41 : Aside0 (1 ≤ c4) := ⟨HC4.out⟩
  clear HG1 HG4 HC4 HN1 HN4 HGE
  refine start_ (n := 61) (S := fun w' => Row w' g9 [d2, d1] ∧ Row w' g8 [d2] ∧ Row w' g1 [d1] ∧ Row w' g4 [d1]) (ds := []) #[false, false, false, false, false, false, false, false, false, false, false, false, false, false, false, false, false, false, false, false, false, false, false, false, false, false, false, false, false, false, false, false, false, false, false, false, false, false, false, false, false, false, false, false, false, false, false, false, false, false, false, false, false, false, false, false, false, false, false, false, false] (by kernel_rfl) rfl rfl ⟨(Row.drew HP9.out), (Row.drew HC9.out), (Row.drew HR9.out), (Row.drew HL9.out)⟩ (fun hHeld => ?_)
  refine pure_ (i := 0) (N := some 35) (v := ?_) (a' := ?_) #[true, false, false, false, false, false, false, false, false, false, false, false, false, false, false, false, false, false, false, false, false, false, false, false, false, false, false, false, false, false, false, false, false, false, false, false, false, false, false, false, false, false, false, false, false, false, false, false, false, false, false, false, false, false, false, false, false, false, false, false, false] rfl rfl (by kernel_rfl) (fun _ _ _ h => h) (Or.inl ⟨by rfl, ?_⟩) ?_ ?_
  rotate_left
  · intro w'
    go_simp
    with_reducible rfl
  rotate_left
  · simp only [Act.put, List.setIfInBounds_toArray, List.set_cons_zero, List.set_cons_succ, i64_w, i32_w]
    rfl
  refine pure_ (i := 1) (N := some 36) (v := ?_) (a' := ?_) #[true, true, false, false, false, false, false, false, false, false, false, false, false, false, false, false, false, false, false, false, false, false, false, false, false, false, false, false, false, false, false, false, false, false, false, false, false, false, false, false, false, false, false, false, false, false, false, false, false, false, false, false, false, false, false, false, false, false, false, false, false] rfl rfl (by kernel_rfl) (fun _ _ _ h => h) (Or.inl ⟨by rfl, ?_⟩) ?_ ?_
  rotate_left
  · intro w'
    go_simp
    with_reducible rfl
  rotate_left
  · simp only [Act.put, List.setIfInBounds_toArray, List.set_cons_zero, List.set_cons_succ, i64_w, i32_w]
    rfl
  refine pure_ (i := 2) (N := some 37) (v := ?_) (a' := ?_) #[true, true, true, false, false, false, false, false, false, false, false, false, false, false, false, false, false, false, false, false, false, false, false, false, false, false, false, false, false, false, false, false, false, false, false, false, false, false, false, false, false, false, false, false, false, false, false, false, false, false, false, false, false, false, false, false, false, false, false, false, false] rfl rfl (by kernel_rfl) (fun _ _ _ h => h) (Or.inl ⟨by rfl, ?_⟩) ?_ ?_
  rotate_left
  · intro w'
    go_simp
    with_reducible rfl
  rotate_left
  · simp only [Act.put, List.setIfInBounds_toArray, List.set_cons_zero, List.set_cons_succ, i64_w, i32_w]
    rfl
  refine pure_ (i := 3) (N := some 38) (v := ?_) (a' := ?_) #[true, true, true, true, false, false, false, false, false, false, false, false, false, false, false, false, false, false, false, false, false, false, false, false, false, false, false, false, false, false, false, false, false, false, false, false, false, false, false, false, false, false, false, false, false, false, false, false, false, false, false, false, false, false, false, false, false, false, false, false, false] rfl rfl (by kernel_rfl) (fun _ _ _ h => h) (Or.inl ⟨by rfl, ?_⟩) ?_ ?_
  rotate_left
  · intro w'
    go_simp
    with_reducible rfl
  rotate_left
  · simp only [Act.put, List.setIfInBounds_toArray, List.set_cons_zero, List.set_cons_succ, i64_w, i32_w]
    rfl
  refine pure_ (i := 4) (N := some 39) (v := .bool true) (a' := ?_) #[true, true, true, true, true, false, false, false, false, false, false, false, false, false, false, false, false, false, false, false, false, false, false, false, false, false, false, false, false, false, false, false, false, false, false, false, false, false, false, false, false, false, false, false, false, false, false, false, false, false, false, false, false, false, false, false, false, false, false, false, false] rfl rfl (by kernel_rfl) (fun _ _ _ h => h) (Or.inl ⟨by rfl, ?_⟩) ?_ ?_
  · intro w'
    exact eql_string_exec (by rfl) (by rfl) (by show Value.string bs1 = _; rw [HBS.out])
  rotate_left
  · simp only [Act.put, List.setIfInBounds_toArray, List.set_cons_zero, List.set_cons_succ, i64_w, i32_w]
    rfl
  refine pure_ (i := 5) (N := some 40) (v := ?_) (a' := ?_) #[true, true, true, true, true, true, false, false, false, false, false, false, false, false, false, false, false, false, false, false, false, false, false, false, false, false, false, false, false, false, false, false, false, false, false, false, false, false, false, false, false, false, false, false, false, false, false, false, false, false, false, false, false, false, false, false, false, false, false, false, false] rfl rfl (by kernel_rfl) (fun _ _ _ h => h) (Or.inl ⟨by rfl, ?_⟩) ?_ ?_
  rotate_left
  · intro w'
    go_simp
    with_reducible rfl
  rotate_left
  · simp only [Act.put, List.setIfInBounds_toArray, List.set_cons_zero, List.set_cons_succ, i64_w, i32_w]
    rfl
  refine pure_ (i := 6) (N := some 41) (v := ?_) (a' := ?_) #[true, true, true, true, true, true, true, false, false, false, false, false, false, false, false, false, false, false, false, false, false, false, false, false, false, false, false, false, false, false, false, false, false, false, false, false, false, false, false, false, false, false, false, false, false, false, false, false, false, false, false, false, false, false, false, false, false, false, false, false, false] rfl rfl (by kernel_rfl) (fun _ _ _ h => h) (Or.inl ⟨by rfl, ?_⟩) ?_ ?_
  rotate_left
  · intro w'
    go_simp
    with_reducible rfl
  rotate_left
  · simp only [Act.put, List.setIfInBounds_toArray, List.set_cons_zero, List.set_cons_succ, i64_w, i32_w]
    rfl
  refine pure_ (i := 7) (N := some 42) (v := ?_) (a' := ?_) #[true, true, true, true, true, true, true, true, false, false, false, false, false, false, false, false, false, false, false, false, false, false, false, false, false, false, false, false, false, false, false, false, false, false, false, false, false, false, false, false, false, false, false, false, false, false, false, false, false, false, false, false, false, false, false, false, false, false, false, false, false] rfl rfl (by kernel_rfl) (fun _ _ _ h => h) (Or.inl ⟨by rfl, ?_⟩) ?_ ?_
  rotate_left
  · intro w'
    go_simp
    with_reducible rfl
  rotate_left
  · simp only [Act.put, List.setIfInBounds_toArray, List.set_cons_zero, List.set_cons_succ, i64_w, i32_w]
    rfl
  refine pure_ (i := 8) (N := some 43) (v := ?_) (a' := ?_) #[true, true, true, true, true, true, true, true, true, false, false, false, false, false, false, false, false, false, false, false, false, false, false, false, false, false, false, false, false, false, false, false, false, false, false, false, false, false, false, false, false, false, false, false, false, false, false, false, false, false, false, false, false, false, false, false, false, false, false, false, false] rfl rfl (by kernel_rfl) (fun _ _ _ h => h) (Or.inl ⟨by rfl, ?_⟩) ?_ ?_
  rotate_left
  · intro w'
    go_simp
    with_reducible rfl
  rotate_left
  · simp only [Act.put, List.setIfInBounds_toArray, List.set_cons_zero, List.set_cons_succ, i64_w, i32_w]
    rfl
  refine pure_ (i := 9) (N := some 44) (v := ?_) (a' := ?_) #[true, true, true, true, true, true, true, true, true, true, false, false, false, false, false, false, false, false, false, false, false, false, false, false, false, false, false, false, false, false, false, false, false, false, false, false, false, false, false, false, false, false, false, false, false, false, false, false, false, false, false, false, false, false, false, false, false, false, false, false, false] rfl rfl (by kernel_rfl) (fun _ _ _ h => h) (Or.inl ⟨by rfl, ?_⟩) ?_ ?_
  rotate_left
  · intro w'
    go_simp
    with_reducible rfl
  rotate_left
  · simp only [Act.put, List.setIfInBounds_toArray, List.set_cons_zero, List.set_cons_succ, i64_w, i32_w]
    rfl
  refine pure_ (i := 10) (N := some 45) (v := ?_) (a' := ?_) #[true, true, true, true, true, true, true, true, true, true, true, false, false, false, false, false, false, false, false, false, false, false, false, false, false, false, false, false, false, false, false, false, false, false, false, false, false, false, false, false, false, false, false, false, false, false, false, false, false, false, false, false, false, false, false, false, false, false, false, false, false] rfl rfl (by kernel_rfl) (fun _ _ _ h => h) (Or.inl ⟨by rfl, ?_⟩) ?_ ?_
  rotate_left
  · intro w'
    go_simp
    with_reducible rfl
  rotate_left
  · simp only [Act.put, List.setIfInBounds_toArray, List.set_cons_zero, List.set_cons_succ, i64_w, i32_w]
    rfl
  refine pure_ (i := 11) (N := some 46) (v := ?_) (a' := ?_) #[true, true, true, true, true, true, true, true, true, true, true, true, false, false, false, false, false, false, false, false, false, false, false, false, false, false, false, false, false, false, false, false, false, false, false, false, false, false, false, false, false, false, false, false, false, false, false, false, false, false, false, false, false, false, false, false, false, false, false, false, false] rfl rfl (by kernel_rfl) (fun _ _ _ h => h) (Or.inl ⟨by rfl, ?_⟩) ?_ ?_
  rotate_left
  · intro w'
    go_simp
    with_reducible rfl
  rotate_left
  · simp only [Act.put, List.setIfInBounds_toArray, List.set_cons_zero, List.set_cons_succ, i64_w, i32_w]
    rfl
  refine pure_ (i := 12) (N := some 47) (v := ?_) (a' := ?_) #[true, true, true, true, true, true, true, true, true, true, true, true, true, false, false, false, false, false, false, false, false, false, false, false, false, false, false, false, false, false, false, false, false, false, false, false, false, false, false, false, false, false, false, false, false, false, false, false, false, false, false, false, false, false, false, false, false, false, false, false, false] rfl rfl (by kernel_rfl) (fun _ _ _ h => h) (Or.inl ⟨by rfl, ?_⟩) ?_ ?_
  rotate_left
  · intro w'
    go_simp
    with_reducible rfl
  rotate_left
  · simp only [Act.put, List.setIfInBounds_toArray, List.set_cons_zero, List.set_cons_succ, i64_w, i32_w]
    rfl
  refine pure_ (i := 13) (N := some 48) (v := ?_) (a' := ?_) #[true, true, true, true, true, true, true, true, true, true, true, true, true, true, false, false, false, false, false, false, false, false, false, false, false, false, false, false, false, false, false, false, false, false, false, false, false, false, false, false, false, false, false, false, false, false, false, false, false, false, false, false, false, false, false, false, false, false, false, false, false] rfl rfl (by kernel_rfl) (fun _ _ _ h => h) (Or.inl ⟨by rfl, ?_⟩) ?_ ?_
  rotate_left
  · intro w'
    go_simp
    with_reducible rfl
  rotate_left
  · simp only [Act.put, List.setIfInBounds_toArray, List.set_cons_zero, List.set_cons_succ, i64_w, i32_w]
    rfl
  refine pure_ (i := 14) (N := some 49) (v := ?_) (a' := ?_) #[true, true, true, true, true, true, true, true, true, true, true, true, true, true, true, false, false, false, false, false, false, false, false, false, false, false, false, false, false, false, false, false, false, false, false, false, false, false, false, false, false, false, false, false, false, false, false, false, false, false, false, false, false, false, false, false, false, false, false, false, false] rfl rfl (by kernel_rfl) (fun _ _ _ h => h) (Or.inl ⟨by rfl, ?_⟩) ?_ ?_
  rotate_left
  · intro w'
    go_simp
    with_reducible rfl
  rotate_left
  · simp only [Act.put, List.setIfInBounds_toArray, List.set_cons_zero, List.set_cons_succ, i64_w, i32_w]
    rfl
  refine pure_ (i := 15) (N := some 50) (v := ?_) (a' := ?_) #[true, true, true, true, true, true, true, true, true, true, true, true, true, true, true, true, false, false, false, false, false, false, false, false, false, false, false, false, false, false, false, false, false, false, false, false, false, false, false, false, false, false, false, false, false, false, false, false, false, false, false, false, false, false, false, false, false, false, false, false, false] rfl rfl (by kernel_rfl) (fun _ _ _ h => h) (Or.inl ⟨by rfl, ?_⟩) ?_ ?_
  rotate_left
  · intro w'
    go_simp
    with_reducible rfl
  rotate_left
  · simp only [Act.put, List.setIfInBounds_toArray, List.set_cons_zero, List.set_cons_succ, i64_w, i32_w]
    rfl
  refine pure_ (i := 16) (N := some 51) (v := ?_) (a' := ?_) #[true, true, true, true, true, true, true, true, true, true, true, true, true, true, true, true, true, false, false, false, false, false, false, false, false, false, false, false, false, false, false, false, false, false, false, false, false, false, false, false, false, false, false, false, false, false, false, false, false, false, false, false, false, false, false, false, false, false, false, false, false] rfl rfl (by kernel_rfl) (fun _ _ _ h => h) (Or.inl ⟨by rfl, ?_⟩) ?_ ?_
  rotate_left
  · intro w'
    go_simp
    with_reducible rfl
  rotate_left
  · simp only [Act.put, List.setIfInBounds_toArray, List.set_cons_zero, List.set_cons_succ, i64_w, i32_w]
    rfl
  refine pure_ (i := 17) (N := some 52) (v := .pointer (some ⟨g4, 0 * 11, none⟩)) (a' := ?_) #[true, true, true, true, true, true, true, true, true, true, true, true, true, true, true, true, true, true, false, false, false, false, false, false, false, false, false, false, false, false, false, false, false, false, false, false, false, false, false, false, false, false, false, false, false, false, false, false, false, false, false, false, false, false, false, false, false, false, false, false, false] rfl rfl (by kernel_rfl) (fun _ _ _ h => h) (Or.inl ⟨by rfl, ?_⟩) ?_ ?_
  · intro w'
    exact idx_exec (k := 0) (by rfl) (by rfl) (by rfl) (by decide)
  rotate_left
  · simp only [Act.put, List.setIfInBounds_toArray, List.set_cons_zero, List.set_cons_succ, i64_w, i32_w]
    rfl
  refine take_ (i := 18) (N := some 53) (v := ev d1) (a' := ?_) #[true, true, true, true, true, true, true, true, true, true, true, true, true, true, true, true, true, true, true, false, false, false, false, false, false, false, false, false, false, false, false, false, false, false, false, false, false, false, false, false, false, false, false, false, false, false, false, false, false, false, false, false, false, false, false, false, false, false, false, false, false] rfl rfl (by kernel_rfl) (fun _ _ _ h => h) (Or.inl ⟨by rfl, ?_⟩) hHeld ?_ ?_
  · rintro w' ⟨s0, s1, s2, s3⟩
    exact row_load_exec (i := 0) s3 rfl (by rfl) (by rfl)
  rotate_left
  · simp only [Act.put, List.setIfInBounds_toArray, List.set_cons_zero, List.set_cons_succ, i64_w, i32_w]
    rfl
  refine take_ (i := 19) (N := some 54) (v := ev d1) (a' := ?_) #[true, true, true, true, true, true, true, true, true, true, true, true, true, true, true, true, true, true, true, true, false, false, false, false, false, false, false, false, false, false, false, false, false, false, false, false, false, false, false, false, false, false, false, false, false, false, false, false, false, false, false, false, false, false, false, false, false, false, false, false, false] rfl rfl (by kernel_rfl) (fun _ _ _ h => h) (Or.inl ⟨by rfl, ?_⟩) hHeld ?_ ?_
  · rintro w' ⟨s0, s1, s2, s3⟩
    exact row_load_exec (i := 0) s2 rfl (by rfl) (by rfl)
  rotate_left
  · simp only [Act.put, List.setIfInBounds_toArray, List.set_cons_zero, List.set_cons_succ, i64_w, i32_w]
    rfl
  refine pure_ (i := 20) (N := some 55) (v := .bool true) (a' := ?_) #[true, true, true, true, true, true, true, true, true, true, true, true, true, true, true, true, true, true, true, true, true, false, false, false, false, false, false, false, false, false, false, false, false, false, false, false, false, false, false, false, false, false, false, false, false, false, false, false, false, false, false, false, false, false, false, false, false, false, false, false, false] rfl rfl (by kernel_rfl) (fun _ _ _ h => h) (Or.inl ⟨by rfl, ?_⟩) ?_ ?_
  · intro w'
    exact cmp72_exec (by rfl) (by rfl) (by rfl) (run_eql_d1 _)
  rotate_left
  · simp only [Act.put, List.setIfInBounds_toArray, List.set_cons_zero, List.set_cons_succ, i64_w, i32_w]
    rfl
  refine pure_ (i := 21) (N := some 56) (v := ?_) (a' := ?_) #[true, true, true, true, true, true, true, true, true, true, true, true, true, true, true, true, true, true, true, true, true, true, false, false, false, false, false, false, false, false, false, false, false, false, false, false, false, false, false, false, false, false, false, false, false, false, false, false, false, false, false, false, false, false, false, false, false, false, false, false, false] rfl rfl (by kernel_rfl) (fun _ _ _ h => h) (Or.inl ⟨by rfl, ?_⟩) ?_ ?_
  rotate_left
  · intro w'
    go_simp
    with_reducible rfl
  rotate_left
  · simp only [Act.put, List.setIfInBounds_toArray, List.set_cons_zero, List.set_cons_succ, i64_w, i32_w]
    rfl
  refine pure_ (i := 22) (N := some 57) (v := ?_) (a' := ?_) #[true, true, true, true, true, true, true, true, true, true, true, true, true, true, true, true, true, true, true, true, true, true, true, false, false, false, false, false, false, false, false, false, false, false, false, false, false, false, false, false, false, false, false, false, false, false, false, false, false, false, false, false, false, false, false, false, false, false, false, false, false] rfl rfl (by kernel_rfl) (fun _ _ _ h => h) (Or.inl ⟨by rfl, ?_⟩) ?_ ?_
  rotate_left
  · intro w'
    go_simp
    with_reducible rfl
  rotate_left
  · simp only [Act.put, List.setIfInBounds_toArray, List.set_cons_zero, List.set_cons_succ, i64_w, i32_w]
    rfl
  refine pure_ (i := 23) (N := some 58) (v := ?_) (a' := ?_) #[true, true, true, true, true, true, true, true, true, true, true, true, true, true, true, true, true, true, true, true, true, true, true, true, false, false, false, false, false, false, false, false, false, false, false, false, false, false, false, false, false, false, false, false, false, false, false, false, false, false, false, false, false, false, false, false, false, false, false, false, false] rfl rfl (by kernel_rfl) (fun _ _ _ h => h) (Or.inl ⟨by rfl, ?_⟩) ?_ ?_
  rotate_left
  · intro w'
    go_simp
    with_reducible rfl
  rotate_left
  · simp only [Act.put, List.setIfInBounds_toArray, List.set_cons_zero, List.set_cons_succ, i64_w, i32_w]
    rfl
  refine pure_ (i := 24) (N := some 59) (v := ?_) (a' := ?_) #[true, true, true, true, true, true, true, true, true, true, true, true, true, true, true, true, true, true, true, true, true, true, true, true, true, false, false, false, false, false, false, false, false, false, false, false, false, false, false, false, false, false, false, false, false, false, false, false, false, false, false, false, false, false, false, false, false, false, false, false, false] rfl rfl (by kernel_rfl) (fun _ _ _ h => h) (Or.inl ⟨by rfl, ?_⟩) ?_ ?_
  rotate_left
  · intro w'
    go_simp
    with_reducible rfl
  rotate_left
  · simp only [Act.put, List.setIfInBounds_toArray, List.set_cons_zero, List.set_cons_succ, i64_w, i32_w]
    rfl
  refine pure_ (i := 25) (N := some 60) (v := ?_) (a' := ?_) #[true, true, true, true, true, true, true, true, true, true, true, true, true, true, true, true, true, true, true, true, true, true, true, true, true, true, false, false, false, false, false, false, false, false, false, false, false, false, false, false, false, false, false, false, false, false, false, false, false, false, false, false, false, false, false, false, false, false, false, false, false] rfl rfl (by kernel_rfl) (fun _ _ _ h => h) (Or.inl ⟨by rfl, ?_⟩) ?_ ?_
  rotate_left
  · intro w'
    go_simp
    with_reducible rfl
  rotate_left
  · simp only [Act.put, List.setIfInBounds_toArray, List.set_cons_zero, List.set_cons_succ, i64_w, i32_w]
    rfl
  refine pure_ (i := 26) (N := some 61) (v := ?_) (a' := ?_) #[true, true, true, true, true, true, true, true, true, true, true, true, true, true, true, true, true, true, true, true, true, true, true, true, true, true, true, false, false, false, false, false, false, false, false, false, false, false, false, false, false, false, false, false, false, false, false, false, false, false, false, false, false, false, false, false, false, false, false, false, false] rfl rfl (by kernel_rfl) (fun _ _ _ h => h) (Or.inl ⟨by rfl, ?_⟩) ?_ ?_
  rotate_left
  · intro w'
    go_simp
    with_reducible rfl
  rotate_left
  · simp only [Act.put, List.setIfInBounds_toArray, List.set_cons_zero, List.set_cons_succ, i64_w, i32_w]
    rfl
  refine pure_ (i := 27) (N := some 62) (v := ?_) (a' := ?_) #[true, true, true, true, true, true, true, true, true, true, true, true, true, true, true, true, true, true, true, true, true, true, true, true, true, true, true, true, false, false, false, false, false, false, false, false, false, false, false, false, false, false, false, false, false, false, false, false, false, false, false, false, false, false, false, false, false, false, false, false, false] rfl rfl (by kernel_rfl) (fun _ _ _ h => h) (Or.inl ⟨by rfl, ?_⟩) ?_ ?_
  rotate_left
  · intro w'
    go_simp
    with_reducible rfl
  rotate_left
  · simp only [Act.put, List.setIfInBounds_toArray, List.set_cons_zero, List.set_cons_succ, i64_w, i32_w]
    rfl
  refine pure_ (i := 28) (N := some 63) (v := ?_) (a' := ?_) #[true, true, true, true, true, true, true, true, true, true, true, true, true, true, true, true, true, true, true, true, true, true, true, true, true, true, true, true, true, false, false, false, false, false, false, false, false, false, false, false, false, false, false, false, false, false, false, false, false, false, false, false, false, false, false, false, false, false, false, false, false] rfl rfl (by kernel_rfl) (fun _ _ _ h => h) (Or.inl ⟨by rfl, ?_⟩) ?_ ?_
  rotate_left
  · intro w'
    go_simp
    with_reducible rfl
  rotate_left
  · simp only [Act.put, List.setIfInBounds_toArray, List.set_cons_zero, List.set_cons_succ, i64_w, i32_w]
    rfl
  refine pure_ (i := 29) (N := some 64) (v := ?_) (a' := ?_) #[true, true, true, true, true, true, true, true, true, true, true, true, true, true, true, true, true, true, true, true, true, true, true, true, true, true, true, true, true, true, false, false, false, false, false, false, false, false, false, false, false, false, false, false, false, false, false, false, false, false, false, false, false, false, false, false, false, false, false, false, false] rfl rfl (by kernel_rfl) (fun _ _ _ h => h) (Or.inl ⟨by rfl, ?_⟩) ?_ ?_
  rotate_left
  · intro w'
    go_simp
    with_reducible rfl
  rotate_left
  · simp only [Act.put, List.setIfInBounds_toArray, List.set_cons_zero, List.set_cons_succ, i64_w, i32_w]
    rfl
  refine pure_ (i := 30) (N := some 65) (v := ?_) (a' := ?_) #[true, true, true, true, true, true, true, true, true, true, true, true, true, true, true, true, true, true, true, true, true, true, true, true, true, true, true, true, true, true, true, false, false, false, false, false, false, false, false, false, false, false, false, false, false, false, false, false, false, false, false, false, false, false, false, false, false, false, false, false, false] rfl rfl (by kernel_rfl) (fun _ _ _ h => h) (Or.inl ⟨by rfl, ?_⟩) ?_ ?_
  rotate_left
  · intro w'
    go_simp
    with_reducible rfl
  rotate_left
  · simp only [Act.put, List.setIfInBounds_toArray, List.set_cons_zero, List.set_cons_succ, i64_w, i32_w]
    rfl
  refine pure_ (i := 31) (N := some 66) (v := ?_) (a' := ?_) #[true, true, true, true, true, true, true, true, true, true, true, true, true, true, true, true, true, true, true, true, true, true, true, true, true, true, true, true, true, true, true, true, false, false, false, false, false, false, false, false, false, false, false, false, false, false, false, false, false, false, false, false, false, false, false, false, false, false, false, false, false] rfl rfl (by kernel_rfl) (fun _ _ _ h => h) (Or.inl ⟨by rfl, ?_⟩) ?_ ?_
  rotate_left
  · intro w'
    go_simp
    with_reducible rfl
  rotate_left
  · simp only [Act.put, List.setIfInBounds_toArray, List.set_cons_zero, List.set_cons_succ, i64_w, i32_w]
    rfl
  refine pure_ (i := 32) (N := some 67) (v := ?_) (a' := ?_) #[true, true, true, true, true, true, true, true, true, true, true, true, true, true, true, true, true, true, true, true, true, true, true, true, true, true, true, true, true, true, true, true, true, false, false, false, false, false, false, false, false, false, false, false, false, false, false, false, false, false, false, false, false, false, false, false, false, false, false, false, false] rfl rfl (by kernel_rfl) (fun _ _ _ h => h) (Or.inl ⟨by rfl, ?_⟩) ?_ ?_
  rotate_left
  · intro w'
    go_simp
    with_reducible rfl
  rotate_left
  · simp only [Act.put, List.setIfInBounds_toArray, List.set_cons_zero, List.set_cons_succ, i64_w, i32_w]
    rfl
  refine pure_ (i := 33) (N := some 68) (v := .pointer (some ⟨g9, 0 * 11, none⟩)) (a' := ?_) #[true, true, true, true, true, true, true, true, true, true, true, true, true, true, true, true, true, true, true, true, true, true, true, true, true, true, true, true, true, true, true, true, true, true, false, false, false, false, false, false, false, false, false, false, false, false, false, false, false, false, false, false, false, false, false, false, false, false, false, false, false] rfl rfl (by kernel_rfl) (fun _ _ _ h => h) (Or.inl ⟨by rfl, ?_⟩) ?_ ?_
  · intro w'
    exact idx_exec (k := 0) (by rfl) (by rfl) (by rfl) (by decide)
  rotate_left
  · simp only [Act.put, List.setIfInBounds_toArray, List.set_cons_zero, List.set_cons_succ, i64_w, i32_w]
    rfl
  refine take_ (i := 34) (N := some 69) (v := ev d2) (a' := ?_) #[true, true, true, true, true, true, true, true, true, true, true, true, true, true, true, true, true, true, true, true, true, true, true, true, true, true, true, true, true, true, true, true, true, true, true, false, false, false, false, false, false, false, false, false, false, false, false, false, false, false, false, false, false, false, false, false, false, false, false, false, false] rfl rfl (by kernel_rfl) (fun _ _ _ h => h) (Or.inl ⟨by rfl, ?_⟩) hHeld ?_ ?_
  · rintro w' ⟨s0, s1, s2, s3⟩
    exact row_load_exec (i := 0) s0 rfl (by rfl) (by rfl)
  rotate_left
  · simp only [Act.put, List.setIfInBounds_toArray, List.set_cons_zero, List.set_cons_succ, i64_w, i32_w]
    rfl
  refine take_ (i := 35) (N := some 70) (v := ev d2) (a' := ?_) #[true, true, true, true, true, true, true, true, true, true, true, true, true, true, true, true, true, true, true, true, true, true, true, true, true, true, true, true, true, true, true, true, true, true, true, true, false, false, false, false, false, false, false, false, false, false, false, false, false, false, false, false, false, false, false, false, false, false, false, false, false] rfl rfl (by kernel_rfl) (fun _ _ _ h => h) (Or.inl ⟨by rfl, ?_⟩) hHeld ?_ ?_
  · rintro w' ⟨s0, s1, s2, s3⟩
    exact row_load_exec (i := 0) s1 rfl (by rfl) (by rfl)
  rotate_left
  · simp only [Act.put, List.setIfInBounds_toArray, List.set_cons_zero, List.set_cons_succ, i64_w, i32_w]
    rfl
  refine pure_ (i := 36) (N := some 71) (v := .bool true) (a' := ?_) #[true, true, true, true, true, true, true, true, true, true, true, true, true, true, true, true, true, true, true, true, true, true, true, true, true, true, true, true, true, true, true, true, true, true, true, true, true, false, false, false, false, false, false, false, false, false, false, false, false, false, false, false, false, false, false, false, false, false, false, false, false] rfl rfl (by kernel_rfl) (fun _ _ _ h => h) (Or.inl ⟨by rfl, ?_⟩) ?_ ?_
  · intro w'
    exact cmp72_exec (by rfl) (by rfl) (by rfl) (run_eql_d2 _)
  rotate_left
  · simp only [Act.put, List.setIfInBounds_toArray, List.set_cons_zero, List.set_cons_succ, i64_w, i32_w]
    rfl
  refine pure_ (i := 37) (N := some 72) (v := ?_) (a' := ?_) #[true, true, true, true, true, true, true, true, true, true, true, true, true, true, true, true, true, true, true, true, true, true, true, true, true, true, true, true, true, true, true, true, true, true, true, true, true, true, false, false, false, false, false, false, false, false, false, false, false, false, false, false, false, false, false, false, false, false, false, false, false] rfl rfl (by kernel_rfl) (fun _ _ _ h => h) (Or.inl ⟨by rfl, ?_⟩) ?_ ?_
  rotate_left
  · intro w'
    go_simp
    with_reducible rfl
  rotate_left
  · simp only [Act.put, List.setIfInBounds_toArray, List.set_cons_zero, List.set_cons_succ, i64_w, i32_w]
    rfl
  refine pure_ (i := 38) (N := some 73) (v := ?_) (a' := ?_) #[true, true, true, true, true, true, true, true, true, true, true, true, true, true, true, true, true, true, true, true, true, true, true, true, true, true, true, true, true, true, true, true, true, true, true, true, true, true, true, false, false, false, false, false, false, false, false, false, false, false, false, false, false, false, false, false, false, false, false, false, false] rfl rfl (by kernel_rfl) (fun _ _ _ h => h) (Or.inl ⟨by rfl, ?_⟩) ?_ ?_
  rotate_left
  · intro w'
    go_simp
    with_reducible rfl
  rotate_left
  · simp only [Act.put, List.setIfInBounds_toArray, List.set_cons_zero, List.set_cons_succ, i64_w, i32_w]
    rfl
  refine take_ (i := 39) (N := some 74) (v := ev d1) (a' := ?_) #[true, true, true, true, true, true, true, true, true, true, true, true, true, true, true, true, true, true, true, true, true, true, true, true, true, true, true, true, true, true, true, true, true, true, true, true, true, true, true, true, false, false, false, false, false, false, false, false, false, false, false, false, false, false, false, false, false, false, false, false, false] rfl rfl (by kernel_rfl) (fun _ _ _ h => h) (Or.inl ⟨by rfl, ?_⟩) hHeld ?_ ?_
  · rintro w' ⟨s0, s1, s2, s3⟩
    exact row_load_exec (i := 0) s2 rfl (by rfl) (by rfl)
  rotate_left
  · simp only [Act.put, List.setIfInBounds_toArray, List.set_cons_zero, List.set_cons_succ, i64_w, i32_w]
    rfl
  refine one_ (i := 40) (N := some 75) #[true, true, true, true, true, true, true, true, true, true, true, true, true, true, true, true, true, true, true, true, true, true, true, true, true, true, true, true, true, true, true, true, true, true, true, true, true, true, true, true, true, false, false, false, false, false, false, false, false, false, false, false, false, false, false, false, false, false, false, false, false] rfl rfl (by kernel_rfl) (by decide) (fun K hK => ?_)
  refine goes_ Try.func44 (by kernel_rfl) rfl #[.agg #[.int .u8 0, .int .u8 1, .int .u8 0, .int .u8 0, .int .u8 1, .int .i64 0, .int .i64 40, .int .u64 0, .int .i64 1, .int .i64 20, .int .i64 20]] (by rfl) rfl rfl (by simp only [List.map_toArray, List.map_cons, List.map_nil]; rfl) ?_
  with_reducible refine (events_May.calls 200 0 1 0 0 1 0 40 0 1 20 20 true _ may_w).mono ?_
  rintro e wa ⟨rfl, hba⟩
  refine ⟨_, rfl, ?_⟩
  have HBA := Aside0.mk (show Below w9.heap.size w9 wa from below_then (below_drew (Below.refl _ _)) (Nat.le_refl _) hba)
  clear hba
  refine hK.out _ _ ⟨(Row.below HP9.out HBA.out), (Row.below HC9.out HBA.out), (Row.below HR9.out HBA.out), (Row.below HL9.out HBA.out)⟩ (fun hHeld => ?_)
  clear hK K
  refine norm_ (a' := ?_) ?_ ?_
  rotate_left
  · show Act.put _ (some 75) _ = _
    simp only [Act.put, List.setIfInBounds_toArray, List.set_cons_zero, List.set_cons_succ, i64_w, i32_w]
    rfl
  refine pure_ (i := 41) (N := some 76) (v := ?_) (a' := ?_) #[true, true, true, true, true, true, true, true, true, true, true, true, true, true, true, true, true, true, true, true, true, true, true, true, true, true, true, true, true, true, true, true, true, true, true, true, true, true, true, true, true, true, false, false, false, false, false, false, false, false, false, false, false, false, false, false, false, false, false, false, false] rfl rfl (by kernel_rfl) (fun _ _ _ h => h) (Or.inl ⟨by rfl, ?_⟩) ?_ ?_
  rotate_left
  · intro w'
    go_simp
    with_reducible rfl
  rotate_left
  · simp only [Act.put, List.setIfInBounds_toArray, List.set_cons_zero, List.set_cons_succ, i64_w, i32_w]
    rfl
  refine pure_ (i := 42) (N := some 77) (v := ?_) (a' := ?_) #[true, true, true, true, true, true, true, true, true, true, true, true, true, true, true, true, true, true, true, true, true, true, true, true, true, true, true, true, true, true, true, true, true, true, true, true, true, true, true, true, true, true, true, false, false, false, false, false, false, false, false, false, false, false, false, false, false, false, false, false, false] rfl rfl (by kernel_rfl) (fun _ _ _ h => h) (Or.inl ⟨by rfl, ?_⟩) ?_ ?_
  rotate_left
  · intro w'
    go_simp
    with_reducible rfl
  rotate_left
  · simp only [Act.put, List.setIfInBounds_toArray, List.set_cons_zero, List.set_cons_succ, i64_w, i32_w]
    rfl
  refine pure_ (i := 43) (N := some 78) (v := ?_) (a' := ?_) #[true, true, true, true, true, true, true, true, true, true, true, true, true, true, true, true, true, true, true, true, true, true, true, true, true, true, true, true, true, true, true, true, true, true, true, true, true, true, true, true, true, true, true, true, false, false, false, false, false, false, false, false, false, false, false, false, false, false, false, false, false] rfl rfl (by kernel_rfl) (fun _ _ _ h => h) (Or.inl ⟨by rfl, ?_⟩) ?_ ?_
  rotate_left
  · intro w'
    go_simp
    with_reducible rfl
  rotate_left
  · simp only [Act.put, List.setIfInBounds_toArray, List.set_cons_zero, List.set_cons_succ, i64_w, i32_w]
    rfl
  refine one_ (i := 44) (N := some 79) #[true, true, true, true, true, true, true, true, true, true, true, true, true, true, true, true, true, true, true, true, true, true, true, true, true, true, true, true, true, true, true, true, true, true, true, true, true, true, true, true, true, true, true, true, true, false, false, false, false, false, false, false, false, false, false, false, false, false, false, false, false] rfl rfl (by kernel_rfl) (by decide) (fun K hK => ?_)
  refine goes_ Try.func50 (by kernel_rfl) rfl #[.slice (some ⟨g4, 0, none⟩) 1 c4, .int .i64 20, .int .i64 30] (by rfl) rfl rfl (by simp only [List.map_toArray, List.map_cons, List.map_nil]; rfl) ?_
  with_reducible refine (bt1_calls g4 c4 _ (Row.below HL9.out HBA.out) HC41.out).mono ?_
  rintro e wb ⟨⟨Ab, cb, rfl⟩, hbb⟩
  refine ⟨_, rfl, ?_⟩
  have HBB := Aside0.mk (below_then HBA.out HBA.out.size hbb)
  clear hbb HBA
  refine hK.out _ _ ⟨(Row.below HP9.out HBB.out), (Row.below HC9.out HBB.out), (Row.below HR9.out HBB.out), (Row.below HL9.out HBB.out)⟩ (fun hHeld => ?_)
  clear hK K
  refine norm_ (a' := ?_) ?_ ?_
  rotate_left
  · show Act.put _ (some 79) _ = _
    simp only [Act.put, List.setIfInBounds_toArray, List.set_cons_zero, List.set_cons_succ, i64_w, i32_w]
    rfl
  refine pure_ (i := 45) (N := some 80) (v := ?_) (a' := ?_) #[true, true, true, true, true, true, true, true, true, true, true, true, true, true, true, true, true, true, true, true, true, true, true, true, true, true, true, true, true, true, true, true, true, true, true, true, true, true, true, true, true, true, true, true, true, true, false, false, false, false, false, false, false, false, false, false, false, false, false, false, false] rfl rfl (by kernel_rfl) (fun _ _ _ h => h) (Or.inl ⟨by rfl, ?_⟩) ?_ ?_
  rotate_left
  · intro w'
    go_simp
    with_reducible rfl
  rotate_left
  · simp only [Act.put, List.setIfInBounds_toArray, List.set_cons_zero, List.set_cons_succ, i64_w, i32_w]
    rfl
  refine pure_ (i := 46) (N := some 81) (v := ?_) (a' := ?_) #[true, true, true, true, true, true, true, true, true, true, true, true, true, true, true, true, true, true, true, true, true, true, true, true, true, true, true, true, true, true, true, true, true, true, true, true, true, true, true, true, true, true, true, true, true, true, true, false, false, false, false, false, false, false, false, false, false, false, false, false, false] rfl rfl (by kernel_rfl) (fun _ _ _ h => h) (Or.inl ⟨by rfl, ?_⟩) ?_ ?_
  rotate_left
  · intro w'
    go_simp
    with_reducible rfl
  rotate_left
  · simp only [Act.put, List.setIfInBounds_toArray, List.set_cons_zero, List.set_cons_succ, i64_w, i32_w]
    rfl
  refine pure_ (i := 47) (N := some 82) (v := ?_) (a' := ?_) #[true, true, true, true, true, true, true, true, true, true, true, true, true, true, true, true, true, true, true, true, true, true, true, true, true, true, true, true, true, true, true, true, true, true, true, true, true, true, true, true, true, true, true, true, true, true, true, true, false, false, false, false, false, false, false, false, false, false, false, false, false] rfl rfl (by kernel_rfl) (fun _ _ _ h => h) (Or.inl ⟨by rfl, ?_⟩) ?_ ?_
  rotate_left
  · intro w'
    go_simp
    with_reducible rfl
  rotate_left
  · simp only [Act.put, List.setIfInBounds_toArray, List.set_cons_zero, List.set_cons_succ, i64_w, i32_w]
    rfl
  refine pure_ (i := 48) (N := some 83) (v := ?_) (a' := ?_) #[true, true, true, true, true, true, true, true, true, true, true, true, true, true, true, true, true, true, true, true, true, true, true, true, true, true, true, true, true, true, true, true, true, true, true, true, true, true, true, true, true, true, true, true, true, true, true, true, true, false, false, false, false, false, false, false, false, false, false, false, false] rfl rfl (by kernel_rfl) (fun _ _ _ h => h) (Or.inl ⟨by rfl, ?_⟩) ?_ ?_
  rotate_left
  · intro w'
    go_simp
    with_reducible rfl
  rotate_left
  · simp only [Act.put, List.setIfInBounds_toArray, List.set_cons_zero, List.set_cons_succ, i64_w, i32_w]
    rfl
  refine pure_ (i := 49) (N := some 84) (v := ?_) (a' := ?_) #[true, true, true, true, true, true, true, true, true, true, true, true, true, true, true, true, true, true, true, true, true, true, true, true, true, true, true, true, true, true, true, true, true, true, true, true, true, true, true, true, true, true, true, true, true, true, true, true, true, true, false, false, false, false, false, false, false, false, false, false, false] rfl rfl (by kernel_rfl) (fun _ _ _ h => h) (Or.inl ⟨by rfl, ?_⟩) ?_ ?_
  rotate_left
  · intro w'
    go_simp
    with_reducible rfl
  rotate_left
  · simp only [Act.put, List.setIfInBounds_toArray, List.set_cons_zero, List.set_cons_succ, i64_w, i32_w]
    rfl
  refine one_ (i := 50) (N := some 85) #[true, true, true, true, true, true, true, true, true, true, true, true, true, true, true, true, true, true, true, true, true, true, true, true, true, true, true, true, true, true, true, true, true, true, true, true, true, true, true, true, true, true, true, true, true, true, true, true, true, true, true, false, false, false, false, false, false, false, false, false, false] rfl rfl (by kernel_rfl) (by decide) (fun K hK => ?_)
  refine goes_ Try.func50 (by kernel_rfl) rfl #[.slice (some ⟨g4, 0, none⟩) 1 c4, .int .i64 21, .int .i64 30] (by rfl) rfl rfl (by simp only [List.map_toArray, List.map_cons, List.map_nil]; rfl) ?_
  with_reducible refine (bt2_calls g4 c4 _ (Row.below HL9.out HBB.out) HC41.out).mono ?_
  rintro e wc ⟨⟨Ac, cc, rfl⟩, hbc⟩
  refine ⟨_, rfl, ?_⟩
  have HBC := Aside0.mk (below_then HBB.out HBB.out.size hbc)
  clear hbc HBB
  refine hK.out _ _ ⟨(Row.below HP9.out HBC.out), (Row.below HC9.out HBC.out), (Row.below HR9.out HBC.out), (Row.below HL9.out HBC.out)⟩ (fun hHeld => ?_)
  clear hK K
  refine norm_ (a' := ?_) ?_ ?_
  rotate_left
  · show Act.put _ (some 85) _ = _
    simp only [Act.put, List.setIfInBounds_toArray, List.set_cons_zero, List.set_cons_succ, i64_w, i32_w]
    rfl
  refine pure_ (i := 51) (N := some 86) (v := ?_) (a' := ?_) #[true, true, true, true, true, true, true, true, true, true, true, true, true, true, true, true, true, true, true, true, true, true, true, true, true, true, true, true, true, true, true, true, true, true, true, true, true, true, true, true, true, true, true, true, true, true, true, true, true, true, true, true, false, false, false, false, false, false, false, false, false] rfl rfl (by kernel_rfl) (fun _ _ _ h => h) (Or.inl ⟨by rfl, ?_⟩) ?_ ?_
  rotate_left
  · intro w'
    go_simp
    with_reducible rfl
  rotate_left
  · simp only [Act.put, List.setIfInBounds_toArray, List.set_cons_zero, List.set_cons_succ, i64_w, i32_w]
    rfl
  refine pure_ (i := 52) (N := some 87) (v := ?_) (a' := ?_) #[true, true, true, true, true, true, true, true, true, true, true, true, true, true, true, true, true, true, true, true, true, true, true, true, true, true, true, true, true, true, true, true, true, true, true, true, true, true, true, true, true, true, true, true, true, true, true, true, true, true, true, true, true, false, false, false, false, false, false, false, false] rfl rfl (by kernel_rfl) (fun _ _ _ h => h) (Or.inl ⟨by rfl, ?_⟩) ?_ ?_
  rotate_left
  · intro w'
    go_simp
    with_reducible rfl
  rotate_left
  · simp only [Act.put, List.setIfInBounds_toArray, List.set_cons_zero, List.set_cons_succ, i64_w, i32_w]
    rfl
  refine pure_ (i := 53) (N := some 88) (v := ?_) (a' := ?_) #[true, true, true, true, true, true, true, true, true, true, true, true, true, true, true, true, true, true, true, true, true, true, true, true, true, true, true, true, true, true, true, true, true, true, true, true, true, true, true, true, true, true, true, true, true, true, true, true, true, true, true, true, true, true, false, false, false, false, false, false, false] rfl rfl (by kernel_rfl) (fun _ _ _ h => h) (Or.inl ⟨by rfl, ?_⟩) ?_ ?_
  rotate_left
  · intro w'
    go_simp
    with_reducible rfl
  rotate_left
  · simp only [Act.put, List.setIfInBounds_toArray, List.set_cons_zero, List.set_cons_succ, i64_w, i32_w]
    rfl
  refine pure_ (i := 54) (N := some 89) (v := ?_) (a' := ?_) #[true, true, true, true, true, true, true, true, true, true, true, true, true, true, true, true, true, true, true, true, true, true, true, true, true, true, true, true, true, true, true, true, true, true, true, true, true, true, true, true, true, true, true, true, true, true, true, true, true, true, true, true, true, true, true, false, false, false, false, false, false] rfl rfl (by kernel_rfl) (fun _ _ _ h => h) (Or.inl ⟨by rfl, ?_⟩) ?_ ?_
  rotate_left
  · intro w'
    go_simp
    with_reducible rfl
  rotate_left
  · simp only [Act.put, List.setIfInBounds_toArray, List.set_cons_zero, List.set_cons_succ, i64_w, i32_w]
    rfl
  refine pure_ (i := 55) (N := some 90) (v := ?_) (a' := ?_) #[true, true, true, true, true, true, true, true, true, true, true, true, true, true, true, true, true, true, true, true, true, true, true, true, true, true, true, true, true, true, true, true, true, true, true, true, true, true, true, true, true, true, true, true, true, true, true, true, true, true, true, true, true, true, true, true, false, false, false, false, false] rfl rfl (by kernel_rfl) (fun _ _ _ h => h) (Or.inl ⟨by rfl, ?_⟩) ?_ ?_
  rotate_left
  · intro w'
    go_simp
    with_reducible rfl
  rotate_left
  · simp only [Act.put, List.setIfInBounds_toArray, List.set_cons_zero, List.set_cons_succ, i64_w, i32_w]
    rfl
  refine one_ (i := 56) (N := some 91) #[true, true, true, true, true, true, true, true, true, true, true, true, true, true, true, true, true, true, true, true, true, true, true, true, true, true, true, true, true, true, true, true, true, true, true, true, true, true, true, true, true, true, true, true, true, true, true, true, true, true, true, true, true, true, true, true, true, false, false, false, false] rfl rfl (by kernel_rfl) (by decide) (fun K hK => ?_)
  refine goes_ Try.func49 (by kernel_rfl) rfl #[.slice (some ⟨g4, 0, none⟩) 1 c4, .int .u8 1] (by rfl) rfl rfl (by simp only [List.map_toArray, List.map_cons, List.map_nil]; rfl) ?_
  with_reducible refine (ag1_calls g4 c4 _ (Row.below HL9.out HBC.out) HC41.out).mono ?_
  rintro e wd ⟨⟨Ad, cd, rfl⟩, hbd⟩
  refine ⟨_, rfl, ?_⟩
  have HBD := Aside0.mk (below_then HBC.out HBC.out.size hbd)
  clear hbd HBC
  refine hK.out _ _ ⟨(Row.below HP9.out HBD.out), (Row.below HC9.out HBD.out), (Row.below HR9.out HBD.out), (Row.below HL9.out HBD.out)⟩ (fun hHeld => ?_)
  clear hK K
  refine norm_ (a' := ?_) ?_ ?_
  rotate_left
  · show Act.put _ (some 91) _ = _
    simp only [Act.put, List.setIfInBounds_toArray, List.set_cons_zero, List.set_cons_succ, i64_w, i32_w]
    rfl
  refine pure_ (i := 57) (N := some 92) (v := ?_) (a' := ?_) #[true, true, true, true, true, true, true, true, true, true, true, true, true, true, true, true, true, true, true, true, true, true, true, true, true, true, true, true, true, true, true, true, true, true, true, true, true, true, true, true, true, true, true, true, true, true, true, true, true, true, true, true, true, true, true, true, true, true, false, false, false] rfl rfl (by kernel_rfl) (fun _ _ _ h => h) (Or.inl ⟨by rfl, ?_⟩) ?_ ?_
  rotate_left
  · intro w'
    go_simp
    with_reducible rfl
  rotate_left
  · simp only [Act.put, List.setIfInBounds_toArray, List.set_cons_zero, List.set_cons_succ, i64_w, i32_w]
    rfl
  refine pure_ (i := 58) (N := some 93) (v := ?_) (a' := ?_) #[true, true, true, true, true, true, true, true, true, true, true, true, true, true, true, true, true, true, true, true, true, true, true, true, true, true, true, true, true, true, true, true, true, true, true, true, true, true, true, true, true, true, true, true, true, true, true, true, true, true, true, true, true, true, true, true, true, true, true, false, false] rfl rfl (by kernel_rfl) (fun _ _ _ h => h) (Or.inl ⟨by rfl, ?_⟩) ?_ ?_
  rotate_left
  · intro w'
    go_simp
    with_reducible rfl
  rotate_left
  · simp only [Act.put, List.setIfInBounds_toArray, List.set_cons_zero, List.set_cons_succ, i64_w, i32_w]
    rfl
  refine pure_ (i := 59) (N := some 94) (v := ?_) (a' := ?_) #[true, true, true, true, true, true, true, true, true, true, true, true, true, true, true, true, true, true, true, true, true, true, true, true, true, true, true, true, true, true, true, true, true, true, true, true, true, true, true, true, true, true, true, true, true, true, true, true, true, true, true, true, true, true, true, true, true, true, true, true, false] rfl rfl (by kernel_rfl) (fun _ _ _ h => h) (Or.inl ⟨by rfl, ?_⟩) ?_ ?_
  rotate_left
  · intro w'
    go_simp
    with_reducible rfl
  rotate_left
  · simp only [Act.put, List.setIfInBounds_toArray, List.set_cons_zero, List.set_cons_succ, i64_w, i32_w]
    rfl
  refine pure_ (i := 60) (N := some 0) (v := ?_) (a' := ?_) #[true, true, true, true, true, true, true, true, true, true, true, true, true, true, true, true, true, true, true, true, true, true, true, true, true, true, true, true, true, true, true, true, true, true, true, true, true, true, true, true, true, true, true, true, true, true, true, true, true, true, true, true, true, true, true, true, true, true, true, true, true] rfl rfl (by kernel_rfl) (fun _ _ _ h => h) (Or.inl ⟨by rfl, ?_⟩) ?_ ?_
  rotate_left
  · intro w'
    go_simp
    with_reducible rfl
  rotate_left
  · simp only [Act.put, List.setIfInBounds_toArray, List.set_cons_zero, List.set_cons_succ, i64_w, i32_w]
    rfl
  refine done_ (by kernel_rfl) ?_
  go_wp2_with fail
  go_ret
  exact ⟨rfl, below_then HB9.out HB9.out.size HBD.out⟩
end Go.Proofs.Ytgojfecpknonlaa.Ev

