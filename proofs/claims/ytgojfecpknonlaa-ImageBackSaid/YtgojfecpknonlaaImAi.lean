/- Images there and back: the law's function 8. -/
import Derived.Test.YtgojfecpknonlaaImAh
import Derived.BigQuiet
import Derived.Deep.RegionHeld3
import Derived.Deep.DeepCutAuto
namespace Go.Proofs.Ytgojfecpknonlaa.Im
open Go.RowKit Go.Proofs.YtgojfecpknonlaaW.PrintWords Go.Proofs.YtgojfecpknonlaaW.PrintLast Go.Proofs.YtgojfecpknonlaaW.PrintMore
open Go.Proofs.Ytgojfecpknonlaa.Own Go.Proofs.Ytgojfecpknonlaa.PIm Go.Proofs.Ytgojfecpknonlaa.Wv
set_option linter.unusedVariables false
set_option linter.unusedSimpArgs false

theorem bytes_made {w : World} {X : List Int} (hB : Byt X) (cap : Nat) :
    (∀ i x, X[i]? = some x → (w.drew.alloc (Obj.cells (bytesRow (strOfNums X) cap) 5 ((bytesRow (strOfNums X) cap).size, (bytesRow (strOfNums X) cap).size + 1))).cell? ⟨w.heap.size, i, none⟩ = some (.int .u8 x)) ∧
    (∀ i, i < X.length → (w.drew.alloc (Obj.cells (bytesRow (strOfNums X) cap) 5 ((bytesRow (strOfNums X) cap).size, (bytesRow (strOfNums X) cap).size + 1))).frozen? ⟨w.heap.size, i, none⟩ = false) := by
  have hsz : X.length ≤ (bytesRow (strOfNums X) cap).size := by
    unfold bytesRow
    rw [Array.size_append, Array.size_map]
    have : (strOfNums X).data.size = X.length := strOfNums_size X
    omega
  have hg := heap_alloc_new w.drew (Obj.cells (bytesRow (strOfNums X) cap) 5 ((bytesRow (strOfNums X) cap).size, (bytesRow (strOfNums X) cap).size + 1))
  refine ⟨fun i x hx => ?_, fun i hi => ?_⟩
  · rw [cell_of_row _ w.heap.size i _ 5 _ hg]
    have hi : i < X.length := (List.getElem?_eq_some_iff.1 hx).1
    have hxe : X[i] = x := (List.getElem?_eq_some_iff.1 hx).2
    have hr := hB _ (List.getElem_mem hi)
    unfold bytesRow
    rw [Array.getElem?_append_left (by rw [Array.size_map]; have : (strOfNums X).data.size = X.length := strOfNums_size X; omega), Array.getElem?_map]
    unfold strOfNums
    simp [hx]
    omega
  · unfold World.frozen?
    rw [show (w.drew.alloc (Obj.cells (bytesRow (strOfNums X) cap) 5 ((bytesRow (strOfNums X) cap).size, (bytesRow (strOfNums X) cap).size + 1))).heap[w.heap.size]? = _ from hg]
    simp
    omega
theorem bytes_made2 {w : World} {X : List Int} (hB : Byt X) (cap : Nat) :
    (∀ i x, X[i]? = some x → (w.alloc (Obj.cells (bytesRow (strOfNums X) cap) 5 ((bytesRow (strOfNums X) cap).size, (bytesRow (strOfNums X) cap).size + 1))).drew.cell? ⟨w.heap.size, i, none⟩ = some (.int .u8 x)) ∧
    (∀ i, i < X.length → (w.alloc (Obj.cells (bytesRow (strOfNums X) cap) 5 ((bytesRow (strOfNums X) cap).size, (bytesRow (strOfNums X) cap).size + 1))).drew.frozen? ⟨w.heap.size, i, none⟩ = false) := bytes_made hB cap
theorem same_true (S : Sh) (v u : Value) (w : World) (hS : Small S) (hv : IsSh w v S) (hu : IsSh w u S) : Calls Try.prog 41 #[v, u] w fun e w' => e = .returned (.bool true) ∧ Below w.heap.size w w' := by
  have h := same_calls S S v u w hS hv hu
  rwa [sameB_refl] at h
theorem takeA {L : List Int} {S : Sh} (hB : Byt L) (hl : L.length ≤ 1000000) (h : takeF L = (some S, 0)) (w : World) : Calls Try.prog 40 #[.string (strOfNums L)] w fun e w' => ∃ (A0 : Option Addr) (n0 c0 : Nat) (A1 : Option Addr) (n1 c1 : Nat) (A2 : Option Addr) (n2 c2 : Nat), e = .returned (.tuple #[.agg #[.slice A0 n0 c0, .slice A1 n1 c1, .slice A2 n2 c2], .int .i64 0]) ∧ Below w.heap.size w w' ∧ IsSh w' (.agg #[.slice A0 n0 c0, .slice A1 n1 c1, .slice A2 n2 c2]) S := by
  have hh := takeI_calls L hB hl w
  unfold RTake at hh
  rw [h] at hh
  exact hh
theorem takeB {L : List Int} (hB : Byt L) (hl : L.length ≤ 1000000) (h : (takeF L).2 ≠ 0) (w : World) : Calls Try.prog 40 #[.string (strOfNums L)] w fun e w' => ∃ (c : Int) (A0 : Option Addr) (n0 c0 : Nat) (A1 : Option Addr) (n1 c1 : Nat) (A2 : Option Addr) (n2 c2 : Nat), e = .returned (.tuple #[.agg #[.slice A0 n0 c0, .slice A1 n1 c1, .slice A2 n2 c2], .int .i64 c]) ∧ c ≠ 0 ∧ Below w.heap.size w w' ∧ IsSh w' (.agg #[.slice A0 n0 c0, .slice A1 n1 c1, .slice A2 n2 c2]) ⟨[], [], []⟩ := by
  have hh := takeI_calls L hB hl w
  unfold RTake at hh
  rw [takeF_no h] at hh
  refine hh.mono ?_
  rintro e w' ⟨A0, n0, c0, A1, n1, c1, A2, n2, c2, h1, h2, h3⟩
  exact ⟨_, A0, n0, c0, A1, n1, c1, A2, n2, c2, h1, h, h2, h3⟩
section
variable {o : Oper} {a : Act} {W : World}
theorem lenB_exec {x : Operand} {A : Option Addr} {n c : Nat} (ho : o.op = .call { callee := .builtin .len, args := #[x], argTypes := #[94] }) (hx : a.eval x = .slice A n c) : (execOp a.eval o).run Try.prog W = .ok (.value (.int .i64 (n : Int))) W := by
  unfold execOp
  simp only [ho, resolve, invoke, builtin, Sem.run_bind, Sem.run_pure, Result.andThen_ok, List.map_toArray, List.map_cons, List.map_nil, hx]
  go_simp
theorem conv223_exec {x : Operand} {n : Int} (ho : o.op = .convert 22 3 x) (hx : a.eval x = .int .u16 n) (hn : 0 ≤ n ∧ n ≤ 65535) : (execOp a.eval o).run Try.prog W = .ok (.value (.int .i64 n)) W := by
  have h := i64_in hn
  generalize a.eval = E at hx ⊢
  unfold execOp
  simp only [ho, hx]
  go_simp
theorem rem3_exec {x y : Operand} {q n : Nat} (ho : o.op = .binOp .rem 3 x y 3) (hx : a.eval x = .int .i64 (q : Int)) (hy : a.eval y = .int .i64 (n : Int)) (hn : 0 < n) (hq : q ≤ 65535) : (execOp a.eval o).run Try.prog W = .ok (.value (.int .i64 ((q % n : Nat) : Int))) W := by
  have h0 : ¬ (n : Int) = 0 := by omega
  have h1 : (q : Int).tmod (n : Int) = ((q % n : Nat) : Int) := by rw [Int.tmod_eq_emod_of_nonneg (by omega)]; rfl
  have hlt : q % n ≤ q := Nat.mod_le _ _
  have h2 : wrap64 ((q % n : Nat) : Int) = ((q % n : Nat) : Int) := wrap_in (by omega) (by omega)
  have h3 : IntKind.i64.wrap ((q % n : Nat) : Int) = ((q % n : Nat) : Int) := by rw [IntKind.wrap_i64]; omega
  generalize a.eval = E at hx hy ⊢
  unfold execOp
  simp only [ho, hx, hy]
  go_simp
  first | done | (rw [h1]; first | exact h3 | exact h2) | omega
theorem idx94_exec {x y : Operand} {g n c k : Nat} (ho : o.op = .indexAddr 94 x y) (hx : a.eval x = .slice (some ⟨g, 0, none⟩) n c) (hy : a.eval y = .int .i64 (k : Int)) (hk : k < n) : (execOp a.eval o).run Try.prog W = .ok (.value (.pointer (some ⟨g, k, none⟩))) W := by
  have h1 : (0 : Int) ≤ (k : Int) := by omega
  have h2 : (k : Int) < (n : Int) := by omega
  have h3 := add0 g k
  generalize a.eval = E at hx hy ⊢
  unfold execOp
  simp only [ho, hx, hy]
  go_simp
theorem xor5_exec {x y : Operand} {n m v : Int} (ho : o.op = .binOp .xor 5 x y 5) (hx : a.eval x = .int .u8 n) (hy : a.eval y = .int .u8 m) (hv : Go.bits .xor .u8 n m = v) : (execOp a.eval o).run Try.prog W = .ok (.value (.int .u8 v)) W := by
  generalize a.eval = E at hx hy ⊢
  unfold execOp
  simp only [ho, hx, hy]
  go_simp
theorem store5_exec {x y : Operand} {g i : Nat} {u v : Int} (ho : o.op = .store 5 x y) (hx : a.eval x = .pointer (some ⟨g, i, none⟩)) (hy : a.eval y = .int .u8 v) (hc : W.cell? ⟨g, i, none⟩ = some (.int .u8 u)) (hf : W.frozen? ⟨g, i, none⟩ = false) : (execOp a.eval o).run Try.prog W = .ok .skip (W.setCell ⟨g, i, none⟩ (.int .u8 v)) := by
  generalize a.eval = E at hx hy ⊢
  unfold execOp
  simp only [ho, hx, hy]
  go_simp
end
def V11 (A : Nat) (n c : Nat) (q p : Nat) (x ch v : Int) : Nat → Value → World → Prop
  | 0, u, _ => u = .slice (some ⟨A, 0, none⟩) n c
  | 1, u, _ => u = .int .u16 (q : Int)
  | 2, u, _ => u = .int .i64 (q : Int)
  | 3, u, _ => u = .slice (some ⟨A, 0, none⟩) n c
  | 4, u, _ => u = .int .i64 (n : Int)
  | 5, u, _ => u = .int .i64 (p : Int)
  | 6, u, _ => u = .slice (some ⟨A, 0, none⟩) n c
  | 7, u, _ => u = .int .u16 (q : Int)
  | 8, u, _ => u = .int .i64 (q : Int)
  | 9, u, _ => u = .slice (some ⟨A, 0, none⟩) n c
  | 10, u, _ => u = .int .i64 (n : Int)
  | 11, u, _ => u = .int .i64 (p : Int)
  | 12, u, _ => u = .pointer (some ⟨A, p, none⟩)
  | 13, u, _ => u = .int .u8 x
  | 14, u, _ => u = .int .u8 ch
  | 15, u, _ => u = .int .u8 v
  | 16, u, _ => u = .pointer (some ⟨A, p, none⟩)
  | _, _, _ => True
theorem V11_stays {A n c q p : Nat} {x ch v : Int} (j : Nat) (u : Value) (w w' : World) (h : V11 A n c q p x ch v j u w) (hb : Below w.heap.size w w') : V11 A n c q p x ch v j u w' := by
  unfold V11 at h ⊢
  split at h <;> first | exact h | trivial
set_option maxHeartbeats 8000000 in
set_option maxRecDepth 100000 in
theorem law8_calls (S : Sh) (hd : ∀ t ∈ S.N, ∀ x ∈ t.f1, 0 ≤ x ∧ x < 256 ^ 8) (b : ByteArray) (at_ ch : Int) (hat : 0 ≤ at_ ∧ at_ ≤ 65535) (hch : 0 ≤ ch ∧ ch ≤ 255) (v : Value) (w : World) (hv : IsSh w v S) : Calls Try.prog 8 #[v, .string b, .int .u16 at_, .int .u8 ch] w fun e w' => e = .returned (.bool true) ∧ Below w.heap.size w w' := by
  have hu82 := Try.underlying82
  have hu89 := Try.underlying89
  have HD := Aside0.mk hd
  have HAT := Aside0.mk hat
  have HCH := Aside0.mk hch
  have HV := Aside0.mk hv
  obtain ⟨A0, c0, A1, c1, A2, c2, rfl, _⟩ := hv
  obtain ⟨W1, hW1⟩ : ∃ W1, W1 = w.alloc (.cells #[.slice A0 S.T.length c0, .slice A1 S.G.length c1, .slice A2 S.N.length c2] 82) := ⟨_, rfl⟩
  have HB1 := Aside0.mk (show Below w.heap.size w W1 by rw [hW1]; exact below_alloc (Below.refl _ _) _)
  have HH1 := Aside0.mk (show Holds W1 w.heap.size 82 [.slice A0 S.T.length c0, .slice A1 S.G.length c1, .slice A2 S.N.length c2] by rw [hW1]; exact hold_alloc rfl)
  have HV1 := Aside0.mk (HV.out.below HB1.out)
  have x0 : W1.cell? ⟨w.heap.size, 0, none⟩ = some (.slice A0 S.T.length c0) := (HH1.out.cell 0).trans rfl
  have x1 : W1.cell? ⟨w.heap.size, 1, none⟩ = some (.slice A1 S.G.length c1) := (HH1.out.cell 1).trans rfl
  have x2 : W1.cell? ⟨w.heap.size, 2, none⟩ = some (.slice A2 S.N.length c2) := (HH1.out.cell 2).trans rfl
  obtain ⟨g, hg⟩ : ∃ g, g = greatS S := ⟨_, rfl⟩
  have HG := Aside0.mk hg
  have HGC := Aside0.mk (great_calls S _ W1 HV1.out)
  rw [← hg] at HGC
  clear hg hd hat hch
  cases g with
  | true =>
    go_enter Try.func8, Try.ntmps8
    go_upto_region 1 with (fail)
    rw [← hW1]
    clear hW1
    go_wp2_with (first
      | (go_at_call 35; go_must (refine HGC.out.mono ?_); rintro e w2 ⟨rfl, hb⟩; have HB2 := Aside0.mk (below_then HB1.out HB1.out.size hb); clear hb)
      | (go_at_call 36; go_must (refine (wakes36_calls _).mono ?_); rintro e w3 ⟨rfl, hb⟩; have HB3 := Aside0.mk (below_then HB2.out HB2.out.size hb); clear hb))
    go_ret
    exact ⟨rfl, HB3.out⟩
  | false =>
    by_cases hbs : 2000 < b.size
    · have q1 : decide ((2000 : Int) < (b.size : Int)) = true := decide_eq_true (by omega)
      have q2 : decide (2000 < b.size) = true := decide_eq_true hbs
      clear hbs
      go_enter Try.func8, Try.ntmps8
      go_upto_region 1 with (fail)
      rw [← hW1]
      clear hW1
      go_wp2_with (first
        | (go_at_call 35; go_must (refine HGC.out.mono ?_); rintro e w2 ⟨rfl, hb⟩; have HB2 := Aside0.mk (below_then HB1.out HB1.out.size hb); clear hb)
        | (go_at_call 36; go_must (refine (wakes36_calls _).mono ?_); rintro e w3 ⟨rfl, hb⟩; have HB3 := Aside0.mk (below_then HB2.out HB2.out.size hb); clear hb))
      go_ret
      exact ⟨rfl, HB3.out⟩
    · have q1 : decide ((2000 : Int) < (b.size : Int)) = false := decide_eq_false (by omega)
      have q2 : decide (2000 < b.size) = false := decide_eq_false hbs
      have HBS := Aside0.mk (show b.size ≤ 2000 by omega)
      have HMI := Aside0.mk (great_mid HG.out.symm).1
      have HNN := Aside0.mk (great_mid HG.out.symm).2
      clear hbs
      go_enter Try.func8, Try.ntmps8
      go_upto_region 1 with (fail)
      rw [← hW1]
      clear hW1
      go_upto_region 3 with (go_at_call 35; go_must (refine HGC.out.mono ?_); rintro e w2 ⟨rfl, hb⟩; have HB2 := Aside0.mk (below_then HB1.out HB1.out.size hb); have HH2 := Aside0.mk (HH1.out.below hb); have HV2 := Aside0.mk (HV1.out.below hb); clear hb)
      clear x0 x1 x2
      have x0 : w2.cell? ⟨w.heap.size, 0, none⟩ = some (.slice A0 S.T.length c0) := (HH2.out.cell 0).trans rfl
      have x1 : w2.cell? ⟨w.heap.size, 1, none⟩ = some (.slice A1 S.G.length c1) := (HH2.out.cell 1).trans rfl
      have x2 : w2.cell? ⟨w.heap.size, 2, none⟩ = some (.slice A2 S.N.length c2) := (HH2.out.cell 2).trans rfl
      go_upto_region 4 with (first
        | (go_at_call 38; go_must (refine (of38_calls S HMI.out _ _ HV2.out).mono ?_); rintro e w3 ⟨v3, rfl, hv3, hb⟩; have HV3 := Aside0.mk hv3; have HB3 := Aside0.mk (below_then HB2.out HB2.out.size hb); have HH3 := Aside0.mk (HH2.out.below hb); have HVV3 := Aside0.mk (HV2.out.below hb); clear hb hv3)
        | (go_at_call 37; go_must (refine (put37_calls S HMI.out _ _ HV3.out).mono ?_); rintro e w4 ⟨rfl, hb⟩; have HB4 := Aside0.mk (below_then HB3.out HB3.out.size hb); have HH4 := Aside0.mk (HH3.out.below hb); have HVV4 := Aside0.mk (HVV3.out.below hb); clear hb))
      obtain ⟨m, hm⟩ : ∃ m, m = mayF S := ⟨_, rfl⟩
      have HM := Aside0.mk hm
      obtain ⟨xv, hxv⟩ : ∃ xv, xv = (putV S).1 := ⟨_, rfl⟩
      obtain ⟨ev, hev⟩ : ∃ ev, ev = (putV S).2 := ⟨_, rfl⟩
      have HXV := Aside0.mk hxv
      have HEV := Aside0.mk hev
      have hq1 : decide (ev = 0) = m := by
        rw [hev, hm]
        unfold putV
        by_cases h : mayF S = true
        · rw [if_neg (by rw [h]; decide), if_neg (by have := HNN.out; omega), h]
          rfl
        · rw [if_pos (by simpa using h)]
          simp at h
          rw [h]
          rfl
      have hq2 : (ev == 0) = m := hq1
      rw [← hxv, ← hev]
      clear x0 x1 x2 hm hxv hev
      have x0 : w4.cell? ⟨w.heap.size, 0, none⟩ = some (.slice A0 S.T.length c0) := (HH4.out.cell 0).trans rfl
      have x1 : w4.cell? ⟨w.heap.size, 1, none⟩ = some (.slice A1 S.G.length c1) := (HH4.out.cell 1).trans rfl
      have x2 : w4.cell? ⟨w.heap.size, 2, none⟩ = some (.slice A2 S.N.length c2) := (HH4.out.cell 2).trans rfl
      go_upto_region 6 with (first
        | (go_at_call 38; go_must (refine (of38_calls S HMI.out _ _ HVV4.out).mono ?_); rintro e w5 ⟨v5, rfl, hv5, hb⟩; have HV5 := Aside0.mk hv5; have HB5 := Aside0.mk (below_then HB4.out HB4.out.size hb); have HH5 := Aside0.mk (HH4.out.below hb); have HVV5 := Aside0.mk (HVV4.out.below hb); clear hb hv5)
        | (go_at_call 39; go_must (refine (may_calls S HMI.out _ _ HV5.out).mono ?_); rintro e w6 ⟨rfl, hb⟩; rw [← HM.out]; have HB6 := Aside0.mk (below_then HB5.out HB5.out.size hb); have HH6 := Aside0.mk (HH5.out.below hb); have HVV6 := Aside0.mk (HVV5.out.below hb); clear hb))
      clear x0 x1 x2
      go_upto_if 41 with (fail)
      go_cut [11, 12, 13, 14, 15] (fun v11 v12 v13 v14 v15 wc => Aside0 (Below w.heap.size w wc))
      case first =>
        cases m with
        | false =>
          go_wp2_with fail
          go_meet
          case rel => exact ⟨HB6.out⟩
        | true =>
          have HMT := Aside0.mk HM.out.symm
          obtain ⟨X, hX⟩ : ∃ X, X = putB S := ⟨_, rfl⟩
          have HX := Aside0.mk hX
          have hpv : putV S = (.string (strOfNums X), 0) := by
            unfold putV
            rw [if_neg (by rw [HMT.out]; decide), if_neg (by have := HNN.out; omega), hX]
          have e1 : xv = .string (strOfNums X) := by rw [HXV.out, hpv]
          subst e1
          have HTK := Aside0.mk (show takeF X = (some S, 0) by rw [hX]; exact take_put HMT.out (by have := HNN.out; omega) HD.out)
          have HBX := Aside0.mk (show Byt X by rw [hX]; exact put_in S)
          have HXL := Aside0.mk (show X.length ≤ 900000 ∧ 0 < X.length by rw [hX, put_length]; have := head_len (may_T HMT.out) (by have := HNN.out; omega); omega)
          clear hX hpv
          go_upto_region 8 with (go_at_call 40; go_must (refine (takeA HBX.out (by have := HXL.out; omega) HTK.out _).mono ?_); rintro e w7 ⟨B0, m0, d0, B1, m1, d1, B2, m2, d2, rfl, hb, hs⟩; have HB7 := Aside0.mk (below_then HB6.out HB6.out.size hb); have HH7 := Aside0.mk (HH6.out.below hb); have HVV7 := Aside0.mk (HVV6.out.below hb); have HY7 := Aside0.mk hs; clear hb hs)
          have HC8 := Aside0.mk (show Holds (w7.alloc (Obj.cells #[Value.slice B0 m0 d0, Value.slice B1 m1 d1, Value.slice B2 m2 d2] 89)) w7.heap.size 89 [.slice B0 m0 d0, .slice B1 m1 d1, .slice B2 m2 d2] from hold_alloc rfl)
          have HB78 := Aside0.mk (below_alloc (Below.refl w7.heap.size w7) (Obj.cells #[Value.slice B0 m0 d0, Value.slice B1 m1 d1, Value.slice B2 m2 d2] 89))
          generalize w7.alloc (Obj.cells #[Value.slice B0 m0 d0, Value.slice B1 m1 d1, Value.slice B2 m2 d2] 89) = w8 at HC8 HB78 ⊢
          generalize w7.heap.size = g11 at HC8 ⊢
          have HB8 := Aside0.mk (below_then HB7.out HB7.out.size HB78.out)
          have HH8 := Aside0.mk (HH7.out.below HB78.out)
          have HVV8 := Aside0.mk (HVV7.out.below HB78.out)
          have HY8 := Aside0.mk (HY7.out.below HB78.out)
          have x0 : w8.cell? ⟨w.heap.size, 0, none⟩ = some (.slice A0 S.T.length c0) := (HH8.out.cell 0).trans rfl
          have x1 : w8.cell? ⟨w.heap.size, 1, none⟩ = some (.slice A1 S.G.length c1) := (HH8.out.cell 1).trans rfl
          have x2 : w8.cell? ⟨w.heap.size, 2, none⟩ = some (.slice A2 S.N.length c2) := (HH8.out.cell 2).trans rfl
          have y0 : w8.cell? ⟨g11, 0, none⟩ = some (.slice B0 m0 d0) := (HC8.out.cell 0).trans rfl
          have y1 : w8.cell? ⟨g11, 1, none⟩ = some (.slice B1 m1 d1) := (HC8.out.cell 1).trans rfl
          have y2 : w8.cell? ⟨g11, 2, none⟩ = some (.slice B2 m2 d2) := (HC8.out.cell 2).trans rfl
          obtain ⟨sx, hsx⟩ : ∃ sx, sx = strOfNums X := ⟨_, rfl⟩
          have HSX := Aside0.mk hsx
          have hss : sx.size = X.length := by rw [hsx, strOfNums_size]
          have HSS := Aside0.mk hss
          have z1 : decide ((sx.size : Int) = 0) = false := decide_eq_false (by have := HXL.out; omega)
          have z2 : ((sx.size : Int) == 0) = false := by simpa using z1
          rw [← hsx]
          clear hsx hss HB7 HH7 HVV7 HY7 HB6 HH6 HVV6
          go_cut [60] (fun v60 wc => v60 = .bool false ∧ Aside0 (Below w.heap.size w wc))
          case first =>
            go_region_held3 (fun w' => (w'.cell? ⟨w.heap.size, 0, none⟩ = some (.slice A0 S.T.length c0) ∧ w'.cell? ⟨w.heap.size, 1, none⟩ = some (.slice A1 S.G.length c1) ∧ w'.cell? ⟨w.heap.size, 2, none⟩ = some (.slice A2 S.N.length c2)) ∧ w'.cell? ⟨g11, 0, none⟩ = some (.slice B0 m0 d0) ∧ w'.cell? ⟨g11, 1, none⟩ = some (.slice B1 m1 d1) ∧ w'.cell? ⟨g11, 2, none⟩ = some (.slice B2 m2 d2)) (go_keep)
              (first | (go_at_call 38; refine (of38_calls S HMI.out _ _ (HVV8.out.below (below_drew (Below.refl _ _)))).mono ?_; rintro e w9 ⟨v9, rfl, hv9, hb9⟩; have a0 := pw_cell_below hb9 x0; have a1 := pw_cell_below hb9 x1; have a2 := pw_cell_below hb9 x2; have b0 := pw_cell_below hb9 y0; have b1 := pw_cell_below hb9 y1; have b2 := pw_cell_below hb9 y2; have HB9 := Aside0.mk hb9; have HV9 := Aside0.mk hv9) | (go_at_call 41; refine (same_true S _ _ _ HMI.out.small ((HY8.out.below (below_drew (Below.refl _ _))).below HB9.out) HV9.out).mono ?_; rintro e w10 ⟨rfl, hb10⟩; have e0 := pw_cell_below hb10 a0; have e1 := pw_cell_below hb10 a1; have e2 := pw_cell_below hb10 a2; have f0 := pw_cell_below hb10 b0; have f1 := pw_cell_below hb10 b1; have f2 := pw_cell_below hb10 b2; have HB10 := Aside0.mk hb10))
            go_wp2_with fail
            go_meet
            case rel => exact ⟨rfl, ⟨below_then (below_then (below_then HB8.out HB8.out.size (below_drew (Below.refl _ _))) HB8.out.size HB9.out) (Nat.le_trans HB8.out.size HB9.out.size) HB10.out⟩⟩
          case rest =>
            obtain ⟨rfl, HBC⟩ := hcut
            have kcv := fun (w : World) => run_bytes_of_string (P := Try.prog) w 9 94 5 sx Try.underlying9 Try.underlying94 Try.underlying5
            go_upto_region 11 with (fail)
            have HBM := Aside0.mk (bytes_made2 (w := wc) HBX.out (grownCap wc sx.size 0 5))
            rw [← HSX.out] at HBM
            have HBQ := Aside0.mk (show Below wc.heap.size wc (wc.alloc (Obj.cells (bytesRow sx (grownCap wc sx.size 0 5)) 5 ((bytesRow sx (grownCap wc sx.size 0 5)).size, (bytesRow sx (grownCap wc sx.size 0 5)).size + 1))).drew from below_drew (below_alloc (Below.refl _ _) _))
            generalize (wc.alloc (Obj.cells (bytesRow sx (grownCap wc sx.size 0 5)) 5 ((bytesRow sx (grownCap wc sx.size 0 5)).size, (bytesRow sx (grownCap wc sx.size 0 5)).size + 1))).drew = wq at HBM HBQ ⊢
            generalize grownCap wc sx.size 0 5 = cap
            have HGQ := Aside0.mk HBC.out.size
            generalize hgq : wc.heap.size = gq at HBM HGQ ⊢
            clear hgq
            have hss := HSS.out
            rw [hss]
            obtain ⟨q, rfl⟩ := Int.eq_ofNat_of_zero_le HAT.out.1
            obtain ⟨p, hp⟩ : ∃ p, p = q % X.length := ⟨_, rfl⟩
            have hpl : p < X.length := by rw [hp]; exact Nat.mod_lt _ HXL.out.2
            obtain ⟨x, hx⟩ : ∃ x, x = X[p] := ⟨_, rfl⟩
            have hxr : 0 ≤ x ∧ x ≤ 255 := by rw [hx]; exact HBX.out _ (List.getElem_mem hpl)
            obtain ⟨nv, hnv, hn0, hn1, hne⟩ := xor_byte hxr HCH.out
            have hcx : ∀ w1, Below wq.heap.size wq w1 → w1.cell? ⟨gq, p, none⟩ = some (.int .u8 x) := fun w1 hb => pw_cell_below hb (HBM.out.1 p x (by rw [hx]; exact List.getElem?_eq_getElem hpl))
            refine weave 17 119 (V11 gq X.length cap q p x ch nv) (by kernel_rfl) (by rfl) (by kernel_rfl) ?vv ?st ?en
            case vv => exact fun j v w1 w2 h hb => V11_stays j v w1 w2 h hb
            case st =>
              refine Steps.cons (fun a w1 fr hb hd K hK => ?_) ?_
              · exact wp_val (move_exec rfl ((fr 13 (by kernel_rfl)).trans rfl)) (hK _ _ (Below.refl _ _) rfl)
              refine Steps.cons (fun a w1 fr hb hd K hK => ?_) ?_
              · exact wp_val (move_exec rfl ((fr 2 (by kernel_rfl)).trans rfl)) (hK _ _ (Below.refl _ _) rfl)
              refine Steps.cons (fun a w1 fr hb hd K hK => ?_) ?_
              · exact wp_val (conv223_exec rfl (hd 1 64 (by kernel_rfl)) HAT.out) (hK _ _ (Below.refl _ _) rfl)
              refine Steps.cons (fun a w1 fr hb hd K hK => ?_) ?_
              · exact wp_val (move_exec rfl ((fr 13 (by kernel_rfl)).trans rfl)) (hK _ _ (Below.refl _ _) rfl)
              refine Steps.cons (fun a w1 fr hb hd K hK => ?_) ?_
              · exact wp_val (lenB_exec rfl (hd 3 66 (by kernel_rfl))) (hK _ _ (Below.refl _ _) rfl)
              refine Steps.cons (fun a w1 fr hb hd K hK => ?_) ?_
              · exact wp_val (rem3_exec rfl (hd 2 65 (by kernel_rfl)) (hd 4 67 (by kernel_rfl)) HXL.out.2 (by have := HAT.out.2; omega)) (hK _ _ (Below.refl _ _) (by rw [← hp]; rfl))
              refine Steps.cons (fun a w1 fr hb hd K hK => ?_) ?_
              · exact wp_val (move_exec rfl ((fr 13 (by kernel_rfl)).trans rfl)) (hK _ _ (Below.refl _ _) rfl)
              refine Steps.cons (fun a w1 fr hb hd K hK => ?_) ?_
              · exact wp_val (move_exec rfl ((fr 2 (by kernel_rfl)).trans rfl)) (hK _ _ (Below.refl _ _) rfl)
              refine Steps.cons (fun a w1 fr hb hd K hK => ?_) ?_
              · exact wp_val (conv223_exec rfl (hd 7 70 (by kernel_rfl)) HAT.out) (hK _ _ (Below.refl _ _) rfl)
              refine Steps.cons (fun a w1 fr hb hd K hK => ?_) ?_
              · exact wp_val (move_exec rfl ((fr 13 (by kernel_rfl)).trans rfl)) (hK _ _ (Below.refl _ _) rfl)
              refine Steps.cons (fun a w1 fr hb hd K hK => ?_) ?_
              · exact wp_val (lenB_exec rfl (hd 9 72 (by kernel_rfl))) (hK _ _ (Below.refl _ _) rfl)
              refine Steps.cons (fun a w1 fr hb hd K hK => ?_) ?_
              · exact wp_val (rem3_exec rfl (hd 8 71 (by kernel_rfl)) (hd 10 73 (by kernel_rfl)) HXL.out.2 (by have := HAT.out.2; omega)) (hK _ _ (Below.refl _ _) (by rw [← hp]; rfl))
              refine Steps.cons (fun a w1 fr hb hd K hK => ?_) ?_
              · exact wp_val (idx94_exec rfl (hd 6 69 (by kernel_rfl)) (hd 11 74 (by kernel_rfl)) hpl) (hK _ _ (Below.refl _ _) rfl)
              refine Steps.cons (fun a w1 fr hb hd K hK => ?_) ?_
              · exact wp_val (load5_exec rfl (hd 12 75 (by kernel_rfl)) (hcx w1 hb)) (hK _ _ (Below.refl _ _) rfl)
              refine Steps.cons (fun a w1 fr hb hd K hK => ?_) ?_
              · exact wp_val (move_exec rfl ((fr 3 (by kernel_rfl)).trans rfl)) (hK _ _ (Below.refl _ _) rfl)
              refine Steps.cons (fun a w1 fr hb hd K hK => ?_) ?_
              · exact wp_val (xor5_exec rfl (hd 13 76 (by kernel_rfl)) (hd 14 77 (by kernel_rfl)) hnv) (hK _ _ (Below.refl _ _) rfl)
              refine Steps.cons (fun a w1 fr hb hd K hK => ?_) ?_
              · exact wp_val (idx94_exec rfl (hd 0 63 (by kernel_rfl)) (hd 5 68 (by kernel_rfl)) hpl) (hK _ _ (Below.refl _ _) rfl)
              exact Steps.nil
            case en =>
              intro vs w9 hb hv
              have h15 : vs 15 = .int .u8 nv := hv 15 78 (by decide) (by kernel_rfl)
              have h16 : vs 16 = .pointer (some ⟨gq, p, none⟩) := hv 16 79 (by decide) (by kernel_rfl)
              have hfz : w9.frozen? ⟨gq, p, none⟩ = false := by
                have hlt : gq < wq.heap.size := World.block_lt_of_cell? wq _ (hcx wq (Below.refl _ _))
                have := HBM.out.2 p hpl
                unfold World.frozen? at this ⊢
                rwa [show w9.heap[gq]? = wq.heap[gq]? from hb.block gq hlt]
              have hcells : ∀ i y, (X.set p nv)[i]? = some y → (w9.setCell ⟨gq, p, none⟩ (.int .u8 nv)).cell? ⟨gq, i, none⟩ = some (.int .u8 y) := fun i y hy => by
                by_cases hip : i = p
                · subst hip
                  rw [List.getElem?_set_self hpl] at hy
                  obtain rfl := Option.some.inj hy
                  exact World.cell?_setCell_same' w9 _ _ (by rw [hcx w9 hb]; rfl)
                · rw [List.getElem?_set_ne (fun e => hip e.symm)] at hy
                  have ho : (w9.setCell ⟨gq, p, none⟩ (.int .u8 nv)).cell? ⟨gq, i, none⟩ = w9.cell? ⟨gq, i, none⟩ := by
                    apply World.cell?_setCell_other
                    intro e
                    injection e with _ e
                    exact hip e.symm
                  rw [ho]
                  exact pw_cell_below hb (HBM.out.1 i y hy)
              refine upto_some rfl ?_
              simp only [List.take_succ_cons, List.take_zero, putsOf, Act.put, List.setIfInBounds_toArray, List.set_cons_zero, List.set_cons_succ, h15, h16]
              refine Wv.wp_skip (w' := w9.setCell ⟨gq, p, none⟩ (.int .u8 nv)) rfl ?hr ?_
              case hr => exact store5_exec rfl (by rfl) (by rfl) (hcx w9 hb) hfz
              obtain ⟨X', hX'⟩ : ∃ X', X' = X.set p nv := ⟨_, rfl⟩
              have hX'l : X'.length = X.length := by rw [hX', List.length_set]
              have HBX' := Aside0.mk (show Byt X' by rw [hX']; exact byt_set HBX.out p ⟨hn0, hn1⟩)
              rw [← hX'] at hcells
              have HBC9 := Aside0.mk (show Below w.heap.size w (w9.setCell ⟨gq, p, none⟩ (.int .u8 nv)) from (kp_setCell w9 gq p (.int .u8 nv)).below (below_then HBC.out HBC.out.size (below_then HBQ.out HBQ.out.size hb)) (by have := HBC.out.size; have := HBQ.out.size; have := hb.size; omega) (fun k hk => by subst hk; exact HGQ.out))
              generalize w9.setCell ⟨gq, p, none⟩ (.int .u8 nv) = w10 at hcells HBC9 ⊢
              have hC : Kd.C (Kd.int .u8) w10 (some ⟨gq, 0, none⟩) X.length X' := by
                rw [← hX'l]
                exact c_of_cells (by have := HXL.out; omega) (by have := HXL.out; omega) hcells
              have hcs := Kd.C_string (P := Try.prog) (w := w10) (src := 94) (dst := 9) (e := 5) (c := cap) Try.underlying94 Try.underlying5 Try.underlying9 hC
              have HXL' := Aside0.mk (show X'.length ≤ 1000000 by have := HXL.out; omega)
              have HNE := Aside0.mk hne
              by_cases hc0 : ch = 0
              · have HT2 := Aside0.mk (show takeF X' = (some S, 0) by rw [hX', hne.2 hc0, hx, List.set_getElem_self, HTK.out])
                have t1 : decide (ch = 0) = true := decide_eq_true hc0
                have t2 : (ch == 0) = true := by simpa using hc0
                subst hc0
                clear hcells hC hX' hX'l hnv hn0 hn1 hne hxr hx hcx hfz h15 h16 hv hb
                go_wp2_with (go_at_call 40; go_must (refine (takeA HBX'.out HXL'.out HT2.out _).mono ?_); rintro e w11 ⟨D0, m0, d0, D1, m1, d1, D2, m2, d2, rfl, hb, hs⟩; have HB11 := Aside0.mk (below_then HBC9.out HBC9.out.size hb); clear hb hs)
                have hsx' := HSX.out
                subst hsx'
                go_meet
                case rel => exact ⟨(below_then HB11.out HB11.out.size (below_alloc (Below.refl _ _) _))⟩
              · have HT2 := Aside0.mk (show (takeF X').2 ≠ 0 by
                  have hXe := HX.out
                  subst hXe
                  rw [hX']
                  exact take_changed hpl ⟨hn0, hn1⟩ (fun e => hc0 (hne.1 (by rw [e, hx]))))
                have t1 : decide (ch = 0) = false := decide_eq_false hc0
                have t2 : (ch == 0) = false := by simpa using hc0
                clear hcells hC hX' hX'l hnv hn0 hn1 hne hxr hx hcx hfz h15 h16 hv hb hc0
                go_wp2_with (go_at_call 40; go_must (refine (takeB HBX'.out HXL'.out HT2.out _).mono ?_); rintro e w11 ⟨cc, D0, m0, d0, D1, m1, d1, D2, m2, d2, rfl, hcc, hb, hs⟩; have qc : decide (cc = 0) = false := decide_eq_false hcc; have qd : (cc == 0) = false := (beq_eq_false_iff_ne).2 hcc; have HB11 := Aside0.mk (below_then HBC9.out HBC9.out.size hb); clear hb hs hcc)
                have hsx' := HSX.out
                subst hsx'
                go_meet
                case rel => exact ⟨(below_then HB11.out HB11.out.size (below_alloc (Below.refl _ _) _))⟩
      case rest =>
        have HBC := hcut
        obtain ⟨L, hLB, hbL, hLl⟩ := bytes_are b
        have HLB := Aside0.mk hLB
        have HLL := Aside0.mk (show L.length ≤ 1000000 by have := HBS.out; omega)
        subst hbL
        clear hLB hLl hcut hq1 hq2 q1 q2
        by_cases hf : (takeF L).2 = 0
        · obtain ⟨S', _, _, _, _, hT⟩ := takeF_ok hf
          obtain ⟨hm', hn', hmid', hput'⟩ := put_take HLB.out hT
          have HT := Aside0.mk hT
          have HMD := Aside0.mk hmid'
          have HPV : putV S' = (.string (strOfNums L), 0) := by
            unfold putV
            rw [if_neg (by rw [hm']; decide), if_neg (by omega), hput']
          have HPC := Aside0.mk (fun (v : Value) (w : World) (hv : IsSh w v S') => (show Calls Try.prog 37 #[v] w fun e w' => e = .returned (.tuple #[.string (strOfNums L), .int .i64 0]) ∧ Below w.heap.size w w' from by
            have h := put37_calls S' hmid' v w hv
            rw [HPV] at h
            exact h))
          clear hf hT hm' hn' hmid' hput' HPV
          go_upto_region 16 with (go_at_call 40; go_must (refine (takeA HLB.out HLL.out HT.out _).mono ?_); rintro e w5 ⟨B0, m0, d0, B1, m1, d1, B2, m2, d2, rfl, hb, hs⟩; have HB5 := Aside0.mk (below_then HBC.out HBC.out.size hb); have HS5 := Aside0.mk hs; clear hb hs)
          have HC6 := Aside0.mk (show Holds (w5.alloc (Obj.cells #[Value.slice B0 m0 d0, Value.slice B1 m1 d1, Value.slice B2 m2 d2] 89)) w5.heap.size 89 [.slice B0 m0 d0, .slice B1 m1 d1, .slice B2 m2 d2] from hold_alloc rfl)
          have HB56 := Aside0.mk (below_alloc (Below.refl w5.heap.size w5) (Obj.cells #[Value.slice B0 m0 d0, Value.slice B1 m1 d1, Value.slice B2 m2 d2] 89))
          generalize w5.alloc (Obj.cells #[Value.slice B0 m0 d0, Value.slice B1 m1 d1, Value.slice B2 m2 d2] 89) = w6 at HC6 HB56 ⊢
          generalize w5.heap.size = g16 at HC6 ⊢
          have HB6' := Aside0.mk (below_then HB5.out HB5.out.size HB56.out)
          have HS6 := Aside0.mk (HS5.out.below HB56.out)
          have y0 : w6.cell? ⟨g16, 0, none⟩ = some (.slice B0 m0 d0) := (HC6.out.cell 0).trans rfl
          have y1 : w6.cell? ⟨g16, 1, none⟩ = some (.slice B1 m1 d1) := (HC6.out.cell 1).trans rfl
          have y2 : w6.cell? ⟨g16, 2, none⟩ = some (.slice B2 m2 d2) := (HC6.out.cell 2).trans rfl
          go_wp2_with (first
            | (go_at_call 37; go_must (refine (HPC.out _ _ HS6.out).mono ?_); rintro e w7 ⟨rfl, hb⟩; have HB7 := Aside0.mk (below_then HB6'.out HB6'.out.size hb); clear hb)
            | (go_at_call 36; go_must (refine (wakes36_calls _).mono ?_); rintro e w8 ⟨rfl, hb⟩; have HB8 := Aside0.mk (below_then HB7.out HB7.out.size hb); clear hb))
          go_ret
          exact ⟨rfl, HB8.out⟩
        · have HT := Aside0.mk hf
          clear hf
          go_upto_region 16 with (go_at_call 40; go_must (refine (takeB HLB.out HLL.out HT.out _).mono ?_); rintro e w5 ⟨cc, B0, m0, d0, B1, m1, d1, B2, m2, d2, rfl, hcc, hb, hs⟩; have HB5 := Aside0.mk (below_then HBC.out HBC.out.size hb); have HS5 := Aside0.mk hs; have HCC := Aside0.mk hcc; clear hb hs hcc)
          have hcc := HCC.out
          have qc : decide (cc = 0) = false := decide_eq_false hcc
          have qd : (cc == 0) = false := (beq_eq_false_iff_ne).2 hcc
          have HC6 := Aside0.mk (show Holds (w5.alloc (Obj.cells #[Value.slice B0 m0 d0, Value.slice B1 m1 d1, Value.slice B2 m2 d2] 89)) w5.heap.size 89 [.slice B0 m0 d0, .slice B1 m1 d1, .slice B2 m2 d2] from hold_alloc rfl)
          have HB56 := Aside0.mk (below_alloc (Below.refl w5.heap.size w5) (Obj.cells #[Value.slice B0 m0 d0, Value.slice B1 m1 d1, Value.slice B2 m2 d2] 89))
          generalize w5.alloc (Obj.cells #[Value.slice B0 m0 d0, Value.slice B1 m1 d1, Value.slice B2 m2 d2] 89) = w6 at HC6 HB56 ⊢
          generalize w5.heap.size = g16 at HC6 ⊢
          have HB6' := Aside0.mk (below_then HB5.out HB5.out.size HB56.out)
          have HS6 := Aside0.mk (HS5.out.below HB56.out)
          have y0 : w6.cell? ⟨g16, 0, none⟩ = some (.slice B0 m0 d0) := (HC6.out.cell 0).trans rfl
          have y1 : w6.cell? ⟨g16, 1, none⟩ = some (.slice B1 m1 d1) := (HC6.out.cell 1).trans rfl
          have y2 : w6.cell? ⟨g16, 2, none⟩ = some (.slice B2 m2 d2) := (HC6.out.cell 2).trans rfl
          clear hcc
          go_wp2_with (first
            | (go_at_call 41; go_must (refine (same_true ⟨[], [], []⟩ _ _ _ mid_no.small HS6.out (zero_sh _)).mono ?_); rintro e w7 ⟨rfl, hb⟩; have HB7 := Aside0.mk (below_then HB6'.out HB6'.out.size hb); clear hb)
            | (go_at_call 36; go_must (refine (wakes36_calls _).mono ?_); rintro e w8 ⟨rfl, hb⟩; have HB8 := Aside0.mk (below_then HB7.out HB7.out.size hb); clear hb))
          go_ret
          exact ⟨rfl, HB8.out⟩
end Go.Proofs.Ytgojfecpknonlaa.Im

