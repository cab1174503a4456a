/- A shape's canon: function 69. -/
import Derived.Test.YtgojfecpknonlaaImN
namespace Go.Proofs.Ytgojfecpknonlaa.Im
open Go.RowKit Go.Proofs.YtgojfecpknonlaaW.PrintWords Go.Proofs.YtgojfecpknonlaaW.PrintLast Go.Proofs.YtgojfecpknonlaaW.PrintMore
open Go.Proofs.Ytgojfecpknonlaa.Own Go.Proofs.Ytgojfecpknonlaa.PIm Go.Proofs.Ytgojfecpknonlaa.Wv
set_option linter.unusedVariables false
set_option linter.unusedSimpArgs false

/-- A shape of middling size. -/
structure Mid (S : Sh) : Prop where
  T : S.T.length ≤ 300
  t : ∀ t ∈ S.T, t.f0.length ≤ 1000 ∧ t.f1.length ≤ 1000
  G : S.G.length ≤ 1000
  N : S.N.length ≤ 100000
  n : ∀ t ∈ S.N, t.f0.length ≤ 1000 ∧ t.f1.length ≤ 1000
theorem Mid.small {S : Sh} (h : Mid S) : Small S := ⟨by have := h.T; omega, by have := h.G; omega, by have := h.N; omega, fun t ht => by have := h.t t ht; exact ⟨by omega, by omega⟩, fun t ht => by have := h.n t ht; exact ⟨by omega, by omega⟩⟩
section
variable {o : Oper} {a : Act} {W : World}
theorem idx86_exec {x y : Operand} {ad : Addr} {n c k : Nat} (ho : o.op = .indexAddr 86 x y) (hx : a.eval x = .slice (some ad) n c) (hy : a.eval y = .int .i64 (k : Int)) (hk : k < n) : (execOp a.eval o).run Try.prog W = .ok (.value (.pointer (some (ad.add (k * 2))))) W := by
  unfold execOp
  have h1 : (0 : Int) ≤ (k : Int) := by omega
  have h2 : (k : Int) < (n : Int) := by omega
  simp only [ho, hx, hy]
  go_simp
end
theorem add0 (g m : Nat) : (⟨g, 0, none⟩ : Addr).add m = ⟨g, m, none⟩ := by
  unfold Addr.add
  split
  · rename_i h
    rw [h]
  · show (⟨g, 0 + m, none⟩ : Addr) = _
    rw [Nat.zero_add]
/-- What is left of a shape, as a value that is one. -/
theorem els_T {w : World} {B : Nat} {vT : Value} {ps : List (Value × Value)} {T : List S124} {AT : Option Addr} {cT : Nat} (hr : Kd.R kraw 128 w B (fun _ => True) (.slice AT T.length cT) ps) (hl : ps.length = T.length) (h : ∀ (i : Nat) (p : Value × Value) (t : S124), ps[i]? = some p → T[i]? = some t → IV .i64 w p.1 t.f0 ∧ IV .i64 w p.2 t.f1) : T.length ≤ cT ∧ Kd.C k124 w AT T.length T := by
  obtain ⟨h1, h2, h3⟩ := Kd.R_reads' hr
  exact ⟨h2, C_zip rfl hl h3 (fun i p t hp ht => k124_iv (h i p t hp ht).1 (h i p t hp ht).2)⟩
theorem els_N {w : World} {B : Nat} {vT : Value} {ps : List (Value × Value)} {T : List S127} {AT : Option Addr} {cT : Nat} (hr : Kd.R kraw 131 w B (fun _ => True) (.slice AT T.length cT) ps) (hl : ps.length = T.length) (h : ∀ (i : Nat) (p : Value × Value) (t : S127), ps[i]? = some p → T[i]? = some t → IV .i64 w p.1 t.f0 ∧ IV .u64 w p.2 t.f1) : T.length ≤ cT ∧ Kd.C k127 w AT T.length T := by
  obtain ⟨h1, h2, h3⟩ := Kd.R_reads' hr
  exact ⟨h2, C_zip rfl hl h3 (fun i p t hp ht => k127_iv (h i p t hp ht).1 (h i p t hp ht).2)⟩
theorem contC_len {S : Sh} (h : Mid S) (j : Nat) : (contC S j).length ≤ 1000 := by
  unfold contC
  rw [List.getD_eq_getElem?_getD]
  cases hj : (rowsC S)[j]? with
  | none => exact Nat.zero_le _
  | some l =>
    have hl := List.mem_of_getElem? hj
    show l.length ≤ 1000
    unfold rowsC at hl
    rcases List.mem_append.1 hl with hl | hl
    · obtain ⟨t, htm, ht⟩ := List.mem_flatMap.1 hl
      have h1 := h.t t htm
      rcases List.mem_cons.1 ht with rfl | ht
      · rw [inF_length]; exact h1.1
      · rcases List.mem_cons.1 ht with rfl | ht
        · rw [inF_length]; exact h1.2
        · cases ht
    · obtain rfl := List.mem_singleton.1 hl
      rw [inF_length]
      exact h.G
theorem canon_is2 {T : List S124} {Gs : List Int} {N : List S127} {B : Nat} {w : World} {qs ns : List (Value × Value)} {AT AG : Option Addr} {cT nG cG : Nat} {vX vN : Value} (hq : qs.length = T.length) (hr : Kd.R kraw 128 w B (fun _ => True) (.slice AT qs.length cT) qs)
    (hI : ∀ j, Kd.R (Kd.int .i64) 3 w B (fun _ => True) ((rowsV qs (.slice AG nG cG)).getD j (.slice none 0 0)) ((stR (contC ⟨T, Gs, N⟩) (List.range (2 * qs.length + 1))).2 j)) (hn : Kd.R kraw 131 w B (fun _ => True) vX ns) (hE : Els S127.f0 S127.f1 .u64 56 w B vN ns (nodesF N N.length 0 (stR (contC ⟨T, Gs, N⟩) (List.range (2 * qs.length + 1))).1 []).2) :
    IsSh w (.agg #[.slice AT qs.length cT, .slice AG nG cG, vX]) (canonF ⟨T, Gs, N⟩) := by
  rw [hq] at hE
  exact canon_is (S := ⟨T, Gs, N⟩) hq hr (fun j => by have h := hI j; rw [hq] at h; exact h) hn hE
def A69 (M : Nat) (l0 l1 : List Int) (v : Value) (w : World) : Prop := ∃ a b, v = .agg #[a, b] ∧ RT M l0 a w ∧ RT M l1 b w ∧ ∀ q, a.ownBlock = some q → b.ownBlock ≠ some q
def V69 (M g5 g7 p3 i : Nat) (ad : Addr) (l0 l1 : List Int) (vT x0 x1 : Value) : Nat → Value → World → Prop
  | 0, v, _ => v = .pointer (some ⟨g5, 0, none⟩)
  | 1, v, _ => v = vT
  | 2, v, _ => v = .int .i64 (i : Int)
  | 3, v, _ => v = .func (.func 97) #[] #[.pointer (some ⟨p3, 0, none⟩)]
  | 4, v, _ => v = .pointer (some ⟨g7, 0, none⟩)
  | 5, v, _ => v = x0
  | 6, v, w => RT M l0 v w
  | 7, v, _ => v = .func (.func 97) #[] #[.pointer (some ⟨p3, 0, none⟩)]
  | 8, v, _ => v = .pointer (some ⟨g7, 1, none⟩)
  | 9, v, _ => v = x1
  | 10, v, w => RT M l1 v w
  | 11, v, w => A69 M l0 l1 v w
  | 12, v, _ => v = .pointer (some (ad.add (i * 2)))
  | _, _, _ => True
theorem V69_stays (M g5 g7 p3 i : Nat) (ad : Addr) (l0 l1 : List Int) (vT x0 x1 : Value) (j : Nat) (v : Value) (w w' : World) (h : V69 M g5 g7 p3 i ad l0 l1 vT x0 x1 j v w) (hb : Below w.heap.size w w') : V69 M g5 g7 p3 i ad l0 l1 vT x0 x1 j v w' := by
  unfold V69 at h ⊢
  split at h <;> first | exact h | exact Kd.R_below h hb | (obtain ⟨a, b, h1, h2, h3, h4⟩ := h; exact ⟨a, b, h1, Kd.R_below h2 hb, Kd.R_below h3 hb, h4⟩) | trivial
def R69 (j k : Nat) (u v : Value) : Prop := j = 6 → k = 10 → ∀ q, u.ownBlock = some q → v.ownBlock ≠ some q
def HL69 (s p3 : Nat) (vN : Value) (sh : List Value) : List (Nat × Nat × List Value) :=
  [(s, 89, sh), (s + 1, 89, z89), (p3, 87, [vN]), (s + 1 + 1 + 1, 156, [.func (.func 97) #[] #[.pointer (some ⟨p3, 0, none⟩)]])]
set_option maxHeartbeats 4000000 in
set_option maxRecDepth 100000 in
theorem canon_calls (S : Sh) (hS : Mid S) (v : Value) (w : World) (hv : IsSh w v S) :
    Calls Try.prog 69 #[v] w fun e w' => ∃ v', e = .returned v' ∧ IsSh w' v' (canonF S) ∧ Below w.heap.size w w' := by
  have hu89 := Try.underlying89
  have HS := Aside0.mk hS
  obtain ⟨A0, c0, A1, c1, A2, c2, rfl, l0, h0, l1, h1, l2, h2⟩ := hv
  obtain ⟨T, Gs, N⟩ := S
  simp only at l0 h0 l1 h1 l2 h2
  have HNl := Aside0.mk (show N.length ≤ 100000 from hS.N)
  have HTl := Aside0.mk (show T.length ≤ 300 from hS.T)
  have H0 := Aside0.mk h0
  have H1 := Aside0.mk h1
  have H2 := Aside0.mk h2
  have HL0 := Aside0.mk l0
  have HL1 := Aside0.mk l1
  clear hS h0 h1 h2 l0 l1 l2
  have hmf : ∀ (fn : Fn) (first cap : Array Value) (w : World), (Instr.makeFunc fn first cap).run Try.prog w = .ok (.func fn first cap) w := fun _ _ _ _ => rfl
  go_enter Try.func69, Try.ntmps69
  go_upto_region 3 with (fail)
  obtain ⟨W4, hW4⟩ : ∃ W4, W4 = ((((w.alloc (.cells #[.slice A0 T.length c0, .slice A1 Gs.length c1, .slice A2 N.length c2] 89)).alloc (.cells #[.slice none 0 0, .slice none 0 0, .slice none 0 0] 89)).alloc (.cells #[.slice A2 N.length c2] 87)).alloc (.cells #[.func (.func 97) #[] #[.pointer (some ⟨w.heap.size + 1 + 1, 0, none⟩)]] 156)) := ⟨_, rfl⟩
  rw [← hW4]
  have e1 : Holds W4 w.heap.size 89 [.slice A0 T.length c0, .slice A1 Gs.length c1, .slice A2 N.length c2] := by rw [hW4]; exact holds_alloc (holds_alloc (holds_alloc (hold_alloc (by simp)) _) _) _
  have e2 : Holds W4 (w.heap.size + 1) 89 z89 := by rw [hW4]; exact holds_alloc (holds_alloc (hold_alloc (by simp)) _) _
  have e3 : Holds W4 (w.heap.size + 1 + 1) 87 [.slice A2 N.length c2] := by rw [hW4]; exact holds_alloc (hold_alloc (by simp)) _
  have e4 : Holds W4 (w.heap.size + 1 + 1 + 1) 156 [.func (.func 97) #[] #[.pointer (some ⟨w.heap.size + 1 + 1, 0, none⟩)]] := by rw [hW4]; exact hold_alloc (by simp)
  have hb4 : Below w.heap.size w W4 := by rw [hW4]; exact below_alloc (below_alloc (below_alloc (below_alloc (Below.refl _ _) _) _) _) _
  have HE1 := Aside0.mk e1
  have HE2 := Aside0.mk e2
  have HE3 := Aside0.mk e3
  have HE4 := Aside0.mk e4
  have HB4 := Aside0.mk hb4
  have x0 := (e1.cell 0).trans rfl
  have x1 := (e1.cell 1).trans rfl
  have x2 := (e1.cell 2).trans rfl
  clear hW4 hb4 e1 e2 e3 e4
  go_upto_region 4 with (go_at_call 99; refine (clone_calls ⟨T, Gs, N⟩ HS.out.small A0 c0 A1 c1 A2 c2 W4 HL0.out (Kd.C_below H0.out HB4.out) HL1.out (Kd.C_below H1.out HB4.out)).mono ?_; rintro e w2 ⟨vT, vG, ps, rfl, hraw, hels, hog, hb2⟩; obtain ⟨AT, cT, hvT⟩ := Kd.R_slice hraw; rw [show ps.length = T.length from hels.1] at hvT; obtain ⟨AG, cG, rfl⟩ := Kd.R_slice hog; subst hvT; have HRAW := Aside0.mk hraw; have HELS := Aside0.mk hels; have HOG := Aside0.mk hog; have HB2 := Aside0.mk hb2; clear hraw hels hog hb2)
  clear x0 x1 x2
  obtain ⟨W5, hW5⟩ : ∃ W5, W5 = w2.alloc (.cells #[.slice AT T.length cT, .slice AG Gs.length cG, .slice A2 N.length c2] 89) := ⟨_, rfl⟩
  have hb5 : Below w2.heap.size w2 W5 := by rw [hW5]; exact below_alloc (Below.refl _ _) _
  have h5 : Holds W5 w2.heap.size 89 [.slice AT T.length cT, .slice AG Gs.length cG, .slice A2 N.length c2] := by rw [hW5]; exact hold_alloc rfl
  have hb45 := below_then HB2.out HB2.out.size hb5
  have hsz4 := HB4.out.size
  have hd : ∀ {u : Value} {ys : List Int}, OI .i64 3 w2 W4.heap.size (.slice AT T.length cT) u ys → OI .i64 3 W5 w.heap.size (.slice none 0 0) u ys := fun hu => Kd.R_lower (Kd.R_mono (Kd.R_below hu hb5) (fun q _ => ⟨trivial, by simp [Value.ownBlock]⟩)) hsz4
  have HCI : Aside0 (CI T Gs N.length w.heap.size w2.heap.size (HL69 w.heap.size (w.heap.size + 1 + 1) (.slice A2 N.length c2) [.slice A0 T.length c0, .slice A1 Gs.length c1, .slice A2 N.length c2]) (.slice AT T.length cT) (.slice AG Gs.length cG) (.slice A2 N.length c2) w 0 [] ps W5) := ⟨⟨Kd.R_lower (Kd.R_below HRAW.out hb5) hsz4, Els.nil, ⟨HELS.out.1, fun j p t hp ht => ⟨hd (HELS.out.2 j p t hp ht).1, hd (HELS.out.2 j p t hp ht).2⟩⟩, ap_nil, Kd.R_mono (hd HOG.out) (fun _ _ => trivial), h5, fun x hx => (by
      simp only [HL69, List.mem_cons, List.not_mem_nil, or_false] at hx
      rcases hx with rfl | rfl | rfl | rfl
      · exact HE1.out.below hb45
      · exact HE2.out.below hb45
      · exact HE3.out.below hb45
      · exact HE4.out.below hb45), below_then HB4.out HB4.out.size hb45, Nat.le_trans HB4.out.size hb45.size⟩⟩
  have H5G := Aside0.mk (show w.heap.size + 1 + 1 + 1 < w2.heap.size from Nat.lt_of_lt_of_le HE4.out.lt HB2.out.size)
  have x0 := (h5.cell 0).trans rfl
  rw [← hW5]
  clear hW5 hb5 hb45 hd h5 hsz4 HRAW HELS HOG HE1 HE2 HE3 HE4
  go_wp2_with fail
  clear x0
  go_loopg [18] T.length (fun kq v18 w' => ∃ (i : Nat) (qs rest : List (Value × Value)), v18 = .int .i64 (i : Int) ∧ i + kq = T.length ∧ Aside0 (qs.length = i) ∧ Aside0 (CI T Gs N.length w.heap.size w2.heap.size (HL69 w.heap.size (w.heap.size + 1 + 1) (.slice A2 N.length c2) [.slice A0 T.length c0, .slice A1 Gs.length c1, .slice A2 N.length c2]) (.slice AT T.length cT) (.slice AG Gs.length cG) (.slice A2 N.length c2) w i qs rest w'))
  case atStart => exact ⟨0, [], ps, rfl, by omega, ⟨rfl⟩, HCI⟩
  case round =>
    clear HCI
    obtain ⟨i, qs, rest, rfl, hi, HQ, HCI⟩ := hrel
    obtain ⟨W0, rfl⟩ : ∃ W0, W0 = wr := ⟨wr, rfl⟩
    cases gk with
    | zero =>
      have q1 : decide ((i : Int) < (T.length : Int)) = false := decide_eq_false (by omega)
      have q2 : decide (i < T.length) = false := decide_eq_false (by omega)
      have hrest : rest = [] := by
        have h1 := HCI.out.todo.1
        rw [List.drop_eq_nil_of_le (by omega)] at h1
        exact List.length_eq_zero_iff.1 h1
      have hqT : qs.length = T.length := by rw [HQ.out]; omega
      have HI := Aside0.mk hi
      subst hrest
      clear hi
      have HP3 : Holds W0 (w.heap.size + 1 + 1) 87 [.slice A2 N.length c2] := HCI.out.hs _ (List.mem_cons_of_mem _ (List.mem_cons_of_mem _ List.mem_cons_self))
      have HP4 : Holds W0 (w.heap.size + 1 + 1 + 1) 156 [.func (.func 97) #[] #[.pointer (some ⟨w.heap.size + 1 + 1, 0, none⟩)]] := HCI.out.hs _ (List.mem_cons_of_mem _ (List.mem_cons_of_mem _ (List.mem_cons_of_mem _ List.mem_cons_self)))
      have HQT := Aside0.mk hqT
      have y4 := (HP4.cell 0).trans rfl
      have y5 := (HCI.out.h5.cell 1).trans rfl
      have HCALL := Aside0.mk (c97 (.slice AG Gs.length cG) Gs N.length A2 c2 ⟨w.heap.size + 1 + 1, 0, none⟩ W0 (R_iv HCI.out.glob) (by have h1 : Gs.length ≤ 1000 := HS.out.G; omega) (by have := HNl.out; omega) ((HP3.cell 0).trans rfl))
      clear HP3 HP4 hqT
      go_upto_region 10 with (go_at_call 97; refine HCALL.out.mono ?_; rintro e w3 ⟨vG2, rfl, hr3, hb3⟩; obtain ⟨AG2, cG2, rfl⟩ := Kd.R_slice hr3; have hy3 := blk_frozen (HCI.out.h5.below hb3) 1; have hy4 := ((HCI.out.h5.below hb3).cell 1).trans rfl; have HR3 := Aside0.mk hr3; have HB3 := Aside0.mk hb3; clear hr3 hb3)
      rw [show T.length = i by have := HI.out; omega] at HCI
      have hTi : T.length = i := by have := HI.out; omega
      subst hTi
      have hgl := HCI.out.globe (vG2 := .slice AG2 (inF N.length Gs).length cG2) (W3 := w3) (fun x hx => by
        have h1 := H5G.out
        simp only [HL69, List.mem_cons, List.not_mem_nil, or_false] at hx
        rcases hx with rfl | rfl | rfl | rfl <;> simp only <;> omega) (by have := H5G.out; omega) HB3.out HR3.out
      obtain ⟨W7, hW7⟩ : ∃ W7, W7 = w3.setCells w2.heap.size 1 [.slice AG2 (inF N.length Gs).length cG2] := ⟨_, rfl⟩
      rw [← hW7] at hgl
      rw [show w3.setCell ⟨w2.heap.size, 1, none⟩ (.slice AG2 (inF N.length Gs).length cG2) = W7 from hW7.symm]
      obtain ⟨hraw, hI, hap, h5, hhs, hbel, hsz, hsl, hql⟩ := hgl
      rw [← hql] at hraw h5
      have HZ := Aside0.mk (show Holds W7 (w.heap.size + 1) 89 z89 from hhs _ (List.mem_cons_of_mem _ List.mem_cons_self))
      have HNUM := Aside0.mk (numbered_calls qs AT cT AG2 (inF N.length Gs).length cG2 (.slice A2 N.length c2) A2 0 c2 N (w.heap.size + 1 + 1) (w.heap.size + 1 + 1 + 1) (contC ⟨T, Gs, N⟩) w.heap.size w W7 rfl (by rw [hql]; exact HTl.out) hsl H2.out rfl (by have := HNl.out; omega) (fun t ht => HS.out.n t ht) hraw hI (fun j k q hkj h1 => hap j k q hkj h1) (contC_len HS.out) (contC_val ⟨T, Gs, N⟩)
        (hhs _ (List.mem_cons_of_mem _ (List.mem_cons_of_mem _ List.mem_cons_self))) (hhs _ (List.mem_cons_of_mem _ (List.mem_cons_of_mem _ (List.mem_cons_of_mem _ List.mem_cons_self)))) (w.heap.size + 1) HZ.out hbel hsz)
      have HQL := Aside0.mk hql
      have H57 := Aside0.mk h5
      clear hW7 hraw hI hap h5 hhs hbel hsz hsl hql HCI hy3 hy4 y4 y5 HCALL
      go_upto_region 11 with (first
        | ((with_reducible refine gate_dst (N := 43) rfl ?_); refine load_event (g := w2.heap.size) (off := 0) (t := 89) (cs := [.slice AT qs.length cT, .slice AG2 (inF N.length Gs).length cG2, .slice A2 N.length c2]) (seg := [.slice AT qs.length cT, .slice AG2 (inF N.length Gs).length cG2, .slice A2 N.length c2]) rfl rfl (by rfl) H57.out (by rfl) Try.underlying89 rfl size89 ?_)
        | (go_at_call 100; refine HNUM.out.mono ?_; rintro e w8 ⟨vX, ns, rfl, hraw8, hI8, hn8, ⟨vN8, hE8⟩, hb8, hz8⟩; obtain ⟨AX, cX, rfl⟩ := Kd.R_slice hn8; have HRAW8 := Aside0.mk hraw8; have HI8 := Aside0.mk hI8; have HN8 := Aside0.mk hn8; have HE8 := Aside0.mk hE8; have HB8 := Aside0.mk hb8; have HZ8 := Aside0.mk hz8; clear hraw8 hI8 hn8 hE8 hb8 hz8))
      have HG8 : Aside0 (Holds (w8.alloc (.cells #[.slice AT qs.length cT, .slice AG2 (inF N.length Gs).length cG2, .slice AX ns.length cX] 89)) w8.heap.size 89 [.slice AT qs.length cT, .slice AG2 (inF N.length Gs).length cG2, .slice AX ns.length cX]) := ⟨hold_alloc rfl⟩
      have HW9 := Aside0.mk (below_alloc (Below.refl w8.heap.size w8) (.cells #[.slice AT qs.length cT, .slice AG2 (inF N.length Gs).length cG2, .slice AX ns.length cX] 89))
      go_wp2_with (first
        | ((with_reducible refine gate_dst (N := 48) rfl ?_); refine load_event (g := w8.heap.size) (off := 0) (t := 89) (cs := [.slice AT qs.length cT, .slice AG2 (inF N.length Gs).length cG2, .slice AX ns.length cX]) (seg := [.slice AT qs.length cT, .slice AG2 (inF N.length Gs).length cG2, .slice AX ns.length cX]) rfl rfl (by rfl) HG8.out (by rfl) Try.underlying89 rfl size89 ?_)
        | ((with_reducible refine gate_store (t := 89) (p := 2) rfl ?_); refine store_agg_event rfl (ty := 89) rfl rfl (g := w.heap.size + 1) (off := 0) (vs := #[.slice AT qs.length cT, .slice AG2 (inF N.length Gs).length cG2, .slice AX ns.length cX]) rfl rfl (HZ8.out.below HW9.out) (by show 3 ≤ 3; decide) size89 (by simp [Value.oneCell']) ?_; intro w10 hh5 hs5; have HH5 := Aside0.mk hh5; have HS5 := Aside0.mk hs5; clear hh5 hs5))
      refine bodyPost_ret (results_cell_row rfl _ _ (w.heap.size + 1) 89 #[.slice AT qs.length cT, .slice AG2 (inF N.length Gs).length cG2, .slice AX ns.length cX] (0, 0) _ rfl HH5.out Try.underlying89 rfl size89) rfl ?_
      have hz9 := HZ8.out.below HW9.out
      have ht3 : ∀ q, q ∈ 3 :: (Kd.int .i64).E → q ≠ 89 := fun q hq => by rcases List.mem_cons.1 hq with rfl | hq; decide; cases hq
      have htw : ∀ e : Nat, e ≠ 89 → ∀ q, q ∈ e :: kraw.E → q ≠ 89 := fun e he q hq => by rcases List.mem_cons.1 hq with rfl | hq; exact he; cases hq
      refine ⟨_, rfl, canon_is2 HQL.out (R_other (Kd.R_below HRAW8.out HW9.out) hz9 (htw 128 (by decide)) HS5.out) (fun j => R_other (Kd.R_below (HI8.out j) HW9.out) hz9 ht3 HS5.out) (R_other (Kd.R_below HN8.out HW9.out) hz9 (htw 131 (by decide)) HS5.out) ((HE8.out.below HW9.out).other hz9 (by decide) (by decide) HS5.out), HS5.out.below (below_then HB8.out ?_ HW9.out) (Nat.le_succ _)⟩
      exact HB8.out.size
    | succ k1 =>
      have hil : i < T.length := by omega
      have hilt := hil
      have q1 : decide ((i : Int) < (T.length : Int)) = true := decide_eq_true (by omega)
      have q2 : decide (i < T.length) = true := decide_eq_true (by omega)
      have q3 : (0 : Int) ≤ (i : Int) := by omega
      have q4 : (i : Int) < (T.length : Int) := by omega
      have hin : i < 1000000000 := by have := HTl.out; omega
      have HTD := Aside0.mk (show T.drop i = T[i] :: T.drop (i + 1) from List.drop_eq_getElem_cons hil)
      have HTT := Aside0.mk (show T.take (i + 1) = T.take i ++ [T[i]] from List.take_succ_eq_append_getElem hil)
      obtain ⟨t, ht⟩ : ∃ t, t = T[i] := ⟨_, rfl⟩
      have HSM := Aside0.mk (show t.f0.length ≤ 1000 ∧ t.f1.length ≤ 1000 by rw [ht]; exact HS.out.t _ (List.getElem_mem hil))
      rw [← ht] at HTD HTT
      clear ht
      have hrl := HCI.out.todo.1
      rw [HTD.out] at hrl
      obtain ⟨p0, r0, hre⟩ : ∃ p0 r0, rest = p0 :: r0 := by
        cases rest with
        | nil => simp at hrl
        | cons p0 r0 => exact ⟨p0, r0, rfl⟩
      have hel := HCI.out.todo.2 0 p0 t (by rw [hre]; rfl) (by rw [HTD.out]; rfl)
      have hqr : (qs ++ rest).length = T.length := by
        have h1 := HCI.out.done.1
        have h2 := HCI.out.todo.1
        rw [List.length_map, List.length_take] at h1
        rw [List.length_drop] at h2
        rw [List.length_append]
        omega
      obtain ⟨gT, cap, he, hgw, hgl, _⟩ := Kd.R_form HCI.out.raw (by omega)
      rw [hqr] at he
      injection he with he1 he2 he3
      subst he1 he3
      obtain ⟨ad, cs0, hade, _, hK, hcell⟩ := Kd.C_get (Kd.R_reads' HCI.out.raw).2.2 ((.slice none 0 0, .slice none 0 0) : Value × Value) (i : Int) (by omega) (by omega)
      injection hade with hade
      have HAD := Aside0.mk hade.symm
      have hgd : (qs ++ rest).getD (i : Int).toNat (.slice none 0 0, .slice none 0 0) = p0 := by
        rw [Int.toNat_natCast, List.getD_eq_getElem?_getD, List.getElem?_append_right (by rw [HQ.out]; exact Nat.le_refl _), HQ.out, Nat.sub_self, hre]
        rfl
      rw [hgd] at hK
      obtain ⟨rfl, _, _⟩ := hK
      obtain ⟨X0, X1⟩ := p0
      obtain ⟨Ax, cx, hX0, _, _⟩ := R_iv hel.1
      obtain ⟨Ay, cy, hX1, _, _⟩ := R_iv hel.2
      simp only at hX0 hX1
      subst hX0 hX1
      have HV0 := Aside0.mk (R_iv hel.1)
      have HV1 := Aside0.mk (R_iv hel.2)
      have hx0 : W0.cell? (ad.add (i * 2)) = some (.slice Ax t.f0.length cx) := by
        have h : W0.cell? (ad.add ((i : Int).toNat * 2 + 0)) = _ := hcell 0 _ rfl
        rw [Int.toNat_natCast, Nat.add_zero] at h
        exact h
      have hx1 : W0.cell? ⟨(ad.add (i * 2)).block, (ad.add (i * 2)).off + 1, none⟩ = some (.slice Ay t.f1.length cy) := by
        have h : W0.cell? (ad.add ((i : Int).toNat * 2 + 1)) = _ := hcell 1 _ rfl
        rw [Int.toNat_natCast] at h
        rw [← add_field _ _ 1 (by omega)]
        exact h
      rw [hade]
      clear hel hrl hre hgd hcell hade hqr hgl hgw he2
      go_upto_region 7 with (fail)
      clear hx0 hx1
      have hade2 := HAD.out
      clear HAD
      subst hade2
      obtain ⟨W6, hW6⟩ : ∃ W6, W6 = W0.alloc (.cells #[.slice Ax t.f0.length cx, .slice Ay t.f1.length cy] 128) := ⟨_, rfl⟩
      have HB5 := Aside0.mk (show Below W0.heap.size W0 W6 by rw [hW6]; exact below_alloc (Below.refl _ _) _)
      have H7 := Aside0.mk (show Holds W6 W0.heap.size 128 [.slice Ax t.f0.length cx, .slice Ay t.f1.length cy] by rw [hW6]; exact hold_alloc rfl)
      rw [← hW6]
      clear hW6
      have HC6 := Aside0.mk (HCI.out.flow HB5.out)
      have HP3 := Aside0.mk (show Holds W6 (w.heap.size + 1 + 1) 87 [.slice A2 N.length c2] from HC6.out.hs _ (List.mem_cons_of_mem _ (List.mem_cons_of_mem _ List.mem_cons_self)))
      have HP4 := Aside0.mk (show Holds W6 (w.heap.size + 1 + 1 + 1) 156 [.func (.func 97) #[] #[.pointer (some ⟨w.heap.size + 1 + 1, 0, none⟩)]] from HC6.out.hs _ (List.mem_cons_of_mem _ (List.mem_cons_of_mem _ (List.mem_cons_of_mem _ List.mem_cons_self))))
      have H5 := Aside0.mk HC6.out.h5
      have HV0 := Aside0.mk (show IV .i64 W6 (.slice Ax t.f0.length cx) t.f0 from HV0.out.below HB5.out)
      have HV1 := Aside0.mk (show IV .i64 W6 (.slice Ay t.f1.length cy) t.f1 from HV1.out.below HB5.out)
      refine weaveR 13 49 R69 (V69 W0.heap.size w2.heap.size W0.heap.size (w.heap.size + 1 + 1) i ⟨gT, 0, none⟩ (inF N.length t.f0) (inF N.length t.f1) (.slice (some ⟨gT, 0, none⟩) T.length cT) (.slice Ax t.f0.length cx) (.slice Ay t.f1.length cy)) (fun _ w1 => Below W6.heap.size W6 w1) (fun _ w1 w2 => Below w1.heap.size w1 w2) (by kernel_rfl) (by rfl) (by kernel_rfl) (below_drew (Below.refl _ _)) (fun _ _ _ _ _ _ _ h k => below_then h h.size k) (fun _ _ _ _ _ _ _ _ h k => V69_stays _ _ _ _ _ _ _ _ _ _ _ _ _ _ _ h k) ?st ?en
      case st =>
        refine StepsR.cons (fun a w1 L fr hL hj hdf hd hr K hK => ?_) ?_
        · exact wp_val (fa89_exec (i := 0) (by decide) rfl ((fr 5 (by kernel_rfl)).trans rfl)) (hK _ _ (Below.refl _ _) rfl (fun _ _ _ _ h => absurd h (by decide)))
        refine StepsR.cons (fun a w1 L fr hL hj hdf hd hr K hK => ?_) ?_
        · exact wp_val (load86_exec rfl (hd 0 23 (by kernel_rfl)) ((((H5.out).below hj).cell 0).trans rfl)) (hK _ _ (Below.refl _ _) rfl (fun _ _ _ _ h => absurd h (by decide)))
        refine StepsR.cons (fun a w1 L fr hL hj hdf hd hr K hK => ?_) ?_
        · exact wp_val (move_exec rfl ((fr 6 (by kernel_rfl)).trans rfl)) (hK _ _ (Below.refl _ _) rfl (fun _ _ _ _ h => absurd h (by decide)))
        refine StepsR.cons (fun a w1 L fr hL hj hdf hd hr K hK => ?_) ?_
        · exact wp_val (load156_exec rfl ((fr 4 (by kernel_rfl)).trans rfl) (((HP4.out.below hj).cell 0).trans rfl)) (hK _ _ (Below.refl _ _) rfl (fun _ _ _ _ h => absurd h (by decide)))
        refine StepsR.cons (fun a w1 L fr hL hj hdf hd hr K hK => ?_) ?_
        · exact wp_val (fa128_exec (i := 0) (by decide) rfl ((fr 7 (by kernel_rfl)).trans rfl)) (hK _ _ (Below.refl _ _) rfl (fun _ _ _ _ h => absurd h (by decide)))
        refine StepsR.cons (fun a w1 L fr hL hj hdf hd hr K hK => ?_) ?_
        · exact wp_val (load26_exec rfl (hd 4 27 (by kernel_rfl)) (((H7.out.below hj).cell 0).trans rfl)) (hK _ _ (Below.refl _ _) rfl (fun _ _ _ _ h => absurd h (by decide)))
        refine StepsR.cons (fun a w1 L fr hL hj hdf hd hr K hK => ?_) ?_
        · have e1 : a.eval (.tmp 28) = (.slice Ax t.f0.length cx) := (hd 5 28 (by kernel_rfl))
          have e2 : a.eval (.tmp 26) = .func (.func 97) #[] #[.pointer (some ⟨w.heap.size + 1 + 1, 0, none⟩)] := (hd 3 26 (by kernel_rfl))
          refine wp_callv Try.func97 (by kernel_rfl) rfl #[(.slice Ax t.f0.length cx), .pointer (some ⟨w.heap.size + 1 + 1, 0, none⟩)] rfl e2 (by simp only [List.map_toArray, List.map_cons, List.map_nil, e1]; rfl) ?_
          refine (c97 _ t.f0 N.length A2 c2 _ w1 (HV0.out.below hj) (by have := HSM.out.1; omega) (by have := HNl.out; omega) (((HP3.out.below hj).cell 0).trans rfl)).mono ?_
          rintro e w2 ⟨v0, rfl, hr2, hb2⟩
          exact ⟨_, rfl, hK _ _ hb2 (show RT _ _ _ _ from Kd.R_lower hr2 (by have h1 := hj.size; have h2 := HB5.out.size; omega)) (fun _ _ _ _ h => absurd h (by decide))⟩
        refine StepsR.cons (fun a w1 L fr hL hj hdf hd hr K hK => ?_) ?_
        · exact wp_val (load156_exec rfl ((fr 4 (by kernel_rfl)).trans rfl) (((HP4.out.below hj).cell 0).trans rfl)) (hK _ _ (Below.refl _ _) rfl (fun _ _ _ _ h => absurd h (by decide)))
        refine StepsR.cons (fun a w1 L fr hL hj hdf hd hr K hK => ?_) ?_
        · exact wp_val (fa128_exec (i := 1) (by decide) rfl ((fr 7 (by kernel_rfl)).trans rfl)) (hK _ _ (Below.refl _ _) rfl (fun _ _ _ _ h => absurd h (by decide)))
        refine StepsR.cons (fun a w1 L fr hL hj hdf hd hr K hK => ?_) ?_
        · exact wp_val (load26_exec rfl (hd 8 31 (by kernel_rfl)) (((H7.out.below hj).cell 1).trans rfl)) (hK _ _ (Below.refl _ _) rfl (fun _ _ _ _ h => absurd h (by decide)))
        refine StepsR.cons (fun a w1 L fr hL hj hdf hd hr K hK => ?_) ?_
        · have e1 : a.eval (.tmp 32) = (.slice Ay t.f1.length cy) := (hd 9 32 (by kernel_rfl))
          have e2 : a.eval (.tmp 30) = .func (.func 97) #[] #[.pointer (some ⟨w.heap.size + 1 + 1, 0, none⟩)] := (hd 7 30 (by kernel_rfl))
          refine wp_callv Try.func97 (by kernel_rfl) rfl #[(.slice Ay t.f1.length cy), .pointer (some ⟨w.heap.size + 1 + 1, 0, none⟩)] rfl e2 (by simp only [List.map_toArray, List.map_cons, List.map_nil, e1]; rfl) ?_
          refine (c97 _ t.f1 N.length A2 c2 _ w1 (HV1.out.below hj) (by have := HSM.out.2; omega) (by have := HNl.out; omega) (((HP3.out.below hj).cell 0).trans rfl)).mono ?_
          rintro e w2 ⟨v0, rfl, hr2, hb2⟩
          exact ⟨_, rfl, hK _ _ hb2 (show RT _ _ _ _ from Kd.R_lower hr2 (by have h1 := hj.size; have h2 := HB5.out.size; omega)) (fun j s hdep hj6 _ q hq e => by subst hj6; obtain rfl : 29 = s := Option.some.inj ((show slotOf _ 6 = some 29 by kernel_rfl).symm.trans (dep_of hdep).2); have h6 : RT _ _ (a.eval (.tmp 29)) w1 := hd 6 29 hdep; have h1 := Kd.R_lt h6 q hq; have h2 := Kd.R_base hr2 q e; omega)⟩
        refine StepsR.cons (fun a w1 L fr hL hj hdf hd hr K hK => ?_) ?_
        · have h6 : RT W0.heap.size (inF N.length t.f0) (a.eval (.tmp 29)) w1 := (hd 6 29 (by kernel_rfl))
          have h10 : RT W0.heap.size (inF N.length t.f1) (a.eval (.tmp 33)) w1 := (hd 10 33 (by kernel_rfl))
          have hap := hr 6 10 29 33 _ (by kernel_rfl) (by kernel_rfl) rfl (by kernel_rfl) rfl rfl
          obtain ⟨Aa, ca, ea⟩ := Kd.R_slice h6
          obtain ⟨Ab, cb, eb⟩ := Kd.R_slice h10
          rw [ea] at h6 hap
          rw [eb] at h10 hap
          exact wp_val (build128_exec rfl ea eb) (hK _ _ (Below.refl _ _) (show A69 _ _ _ _ _ from ⟨_, _, rfl, h6, h10, hap⟩) (fun _ _ _ _ h => absurd h (by decide)))
        refine StepsR.cons (fun a w1 L fr hL hj hdf hd hr K hK => ?_) ?_
        · exact wp_val (idx86_exec rfl (hd 1 24 (by kernel_rfl)) (hd 2 25 (by kernel_rfl)) hilt) (hK _ _ (Below.refl _ _) rfl (fun _ _ _ _ h => absurd h (by decide)))
        exact StepsR.nil
      case en =>
        intro vs w' L hj hl hv
        have h11 : A69 W0.heap.size (inF N.length t.f0) (inF N.length t.f1) (vs 11) w' := hv 11 34 (by decide) (by kernel_rfl)
        have h12 : vs 12 = .pointer (some ((⟨gT, 0, none⟩ : Addr).add (i * 2))) := hv 12 35 (by decide) (by kernel_rfl)
        obtain ⟨a0, b0, e11, ha, hb, hab⟩ := h11
        obtain ⟨Aa, ca, rfl⟩ := Kd.R_slice ha
        obtain ⟨Ab, cb, rfl⟩ := Kd.R_slice hb
        have hb06 := below_then HB5.out HB5.out.size hj
        have hst := HCI.out.step (fun x hx => by simp only [HL69, List.mem_cons, List.not_mem_nil, or_false] at hx; rcases hx with rfl | rfl | rfl | rfl <;> simp) HQ.out HTD.out HTT.out hb06 ha hb hab
        obtain ⟨inner, hw⟩ := Kd.R_own ((HCI.out.flow hb06).raw)
        obtain ⟨g', cap', cur, he', _, hhp, hnc, _, hcs, _⟩ : ∃ g cap cur, (Value.slice (some ⟨gT, 0, none⟩) T.length cT) = .slice (some ⟨g, 0, none⟩) (qs ++ rest).length cap ∧ w.heap.size ≤ g ∧ w'.heap[g]? = some (.cells cur 128 (0, 0)) ∧ (qs ++ rest).length ≤ cap ∧ cap ≤ maxLen ∧ cur.size = cap * 2 ∧ cur.toList.take ((qs ++ rest).length * 2) = inner := by
          rcases hw.2 with ⟨h1, _⟩ | h1
          · simp at h1
          · exact h1
        injection he' with he1 he2 he3
        injection he1 with he1
        injection he1 with he1 _ _
        have hbnd : i * 2 + 2 ≤ cur.toList.length := by rw [Array.length_toList, hcs]; omega
        subst he1
        clear he2 he3 hcs hnc hw
        have hhT : Holds w' gT 128 cur.toList := by
          show w'.heap[gT]? = some (.cells cur.toList.toArray 128 (0, 0))
          rw [Array.toArray_toList]
          exact hhp
        refine upto_some rfl ?_
        simp only [List.take_succ_cons, List.take_zero, putsOf, Act.put, List.setIfInBounds_toArray, List.set_cons_zero, List.set_cons_succ, e11, h12]
        have had : (⟨gT, 0, none⟩ : Addr).add (i * 2) = ⟨gT, i * 2, none⟩ := add0 gT (i * 2)
        refine Wv.wp_skip (w' := w'.setCells gT (i * 2) [.slice Aa (inF N.length t.f0).length ca, .slice Ab (inF N.length t.f1).length cb]) rfl ?hr ?_
        case hr => exact store_skip (g := gT) (off := i * 2) (t := 128) (cs := cur.toList) (vs := #[.slice Aa (inF N.length t.f0).length ca, .slice Ab (inF N.length t.f1).length cb]) rfl (by rw [← had]; rfl) (by rfl) hhT hbnd size128 (by simp [Value.oneCell'])
        have HADs := Aside0.mk had
        clear had
        go_wp2_with fail
        go_roundg k1
        case measure => omega
        case rel => exact ⟨i + 1, _, _, rfl, by omega, ⟨by rw [List.length_append, HQ.out]; rfl⟩, ⟨hst⟩⟩
end Go.Proofs.Ytgojfecpknonlaa.Im

