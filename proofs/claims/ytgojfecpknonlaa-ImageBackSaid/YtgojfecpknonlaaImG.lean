/- Names numbered in the order in which they are met: function 112. -/
import Derived.Test.YtgojfecpknonlaaImF
import Derived.Maps.Own
import Derived.Maps.OwnOps
import Derived.Maps.OwnSet
import Derived.Maps.Views
namespace Go.Proofs.Ytgojfecpknonlaa.Im
open Go.RowKit Go.Proofs.YtgojfecpknonlaaW.PrintWords Go.Proofs.YtgojfecpknonlaaW.PrintLast Go.Proofs.YtgojfecpknonlaaW.PrintMore
open Go.Proofs.Ytgojfecpknonlaa.Own Go.Proofs.Ytgojfecpknonlaa.PIm Go.Proofs.Ytgojfecpknonlaa.Wv
set_option linter.unusedVariables false
set_option linter.unusedSimpArgs false

/-- One name: the names met, its number. -/
def num1 (nm : List Int) (x : Int) : List Int × Int := if x = 0 then (nm, 0) else if x ∈ nm then (nm, (nm.idxOf x : Int) + 1) else (nm ++ [x], (nm.length : Int) + 1)
/-- A row of names. -/
def numL (nm : List Int) : List Int → List Int × List Int
  | [] => (nm, [])
  | x :: l => ((numL (num1 nm x).1 l).1, (num1 nm x).2 :: (numL (num1 nm x).1 l).2)
theorem numL_append : ∀ (l m : List Int) (nm : List Int), numL nm (l ++ m) = ((numL (numL nm l).1 m).1, (numL nm l).2 ++ (numL (numL nm l).1 m).2)
  | [], m, nm => rfl
  | x :: l, m, nm => by
    rw [List.cons_append]
    show ((numL (num1 nm x).1 (l ++ m)).1, (num1 nm x).2 :: (numL (num1 nm x).1 (l ++ m)).2) = _
    rw [numL_append l m]
    rfl
theorem numL_snoc (l : List Int) (x : Int) (nm : List Int) : numL nm (l ++ [x]) = ((num1 (numL nm l).1 x).1, (numL nm l).2 ++ [(num1 (numL nm l).1 x).2]) := by
  rw [numL_append]
  rfl
theorem numL_length : ∀ (l nm : List Int), (numL nm l).2.length = l.length
  | [], _ => rfl
  | x :: l, nm => by
    show (_ :: _ : List Int).length = _
    rw [List.length_cons, numL_length l, List.length_cons]
theorem num1_len (nm : List Int) (x : Int) : nm.length ≤ (num1 nm x).1.length ∧ (num1 nm x).1.length ≤ nm.length + 1 := by
  unfold num1
  split
  · exact ⟨Nat.le_refl _, Nat.le_succ _⟩
  · split
    · exact ⟨Nat.le_refl _, Nat.le_succ _⟩
    · simp
theorem numL_len : ∀ (l nm : List Int), nm.length ≤ (numL nm l).1.length ∧ (numL nm l).1.length ≤ nm.length + l.length
  | [], nm => ⟨Nat.le_refl _, Nat.le_refl _⟩
  | x :: l, nm => by
    have h1 := num1_len nm x
    have h2 := numL_len l (num1 nm x).1
    have h3 : (numL nm (x :: l)).1 = (numL (num1 nm x).1 l).1 := rfl
    rw [h3, List.length_cons]
    omega
/-- What the map holds, the names being met in this order. -/
def NumD (nm : List Int) (D : DataW Unit) : Prop := Maps.IsMap D ∧ (∀ x : Int, Maps.has D (.int .i64 x) = decide (x ∈ nm)) ∧ ∀ x ∈ nm, D.atKey (.int .i64 x) (.lit (.int .i64 0)) = .lit (.int .i64 ((nm.idxOf x : Int) + 1))
theorem numD_nil : NumD [] (.map []) := ⟨Maps.isMap_empty, fun x => rfl, fun x hx => by cases hx⟩
theorem numD_put {nm : List Int} {D : DataW Unit} (h : NumD nm D) {x : Int} (hx : x ∉ nm) : NumD (nm ++ [x]) (D.put (.int .i64 x) (.lit (.int .i64 ((nm.length : Int) + 1)))) := by
  have hk : WideAt.IsKeyLit (.int .i64 x) := trivial
  refine ⟨h.1.put _ _, fun y => ?_, fun y hy => ?_⟩
  · by_cases e : y = x
    · subst e
      rw [Maps.has_put_same h.1 hk]
      simp
    · rw [Maps.has_put_other (fun e2 => e (by injection e2)), h.2.1 y]
      simp [e]
  · by_cases e : y = x
    · subst e
      rw [Maps.atKey_put_same h.1 hk, List.idxOf_append, if_neg hx]
      simp
    · have hy' : y ∈ nm := by
        rcases List.mem_append.1 hy with hy | hy
        · exact hy
        · exact absurd (List.mem_singleton.1 hy) e
      rw [Maps.atKey_put_other (fun e2 => e (by injection e2)), h.2.2 y hy', List.idxOf_append, if_pos hy']
structure NS (w : World) (B m1 m2 b : Nat) (vN : Value) (nm : List Int) : Prop where
  c1 : Holds w m1 168 [.map (some b)]
  c2 : Holds w m2 26 [vN]
  map : ∃ D : DataW Unit, w.ownsMap Try.prog 3 (plainElem Try.prog 3) b nm.length D ∧ NumD nm D
  row : Kd.R (Kd.int .i64) 3 w B (fun _ => True) vN nm
/-- Whatever lies, but in the blocks of S, lies as it lay. -/
structure Kp (S : Nat → Prop) (w w' : World) : Prop where
  os : w'.os = w.os
  tape : w'.tape = w.tape
  output : w'.output = w.output
  size : w.heap.size ≤ w'.heap.size
  block : ∀ k, k < w.heap.size → ¬ S k → w'.heap[k]? = w.heap[k]?
theorem Kp.refl (S : Nat → Prop) (w : World) : Kp S w w := ⟨rfl, rfl, rfl, Nat.le_refl _, fun _ _ _ => rfl⟩
theorem Kp.trans {S S' : Nat → Prop} {w w1 w2 : World} (h : Kp S w w1) (k : Kp S' w1 w2) (hs : ∀ q, q < w.heap.size → S' q → S q) : Kp S w w2 :=
  ⟨k.os.trans h.os, k.tape.trans h.tape, k.output.trans h.output, Nat.le_trans h.size k.size, fun q hq hn => (k.block q (Nat.lt_of_lt_of_le hq h.size) (fun h2 => hn (hs q hq h2))).trans (h.block q hq hn)⟩
theorem Kp.of_grown {w w1 : World} {row : Option Nat} (h : w.grownBy w1 row) : Kp (fun q => some q = row) w w1 := ⟨h.os, h.tape, h.output, h.size, fun k hk hn => h.block k hk hn⟩
theorem Kp.below {S : Nat → Prop} {w0 w w1 : World} {B : Nat} (h : Kp S w w1) (hb : Below B w0 w) (hB : B ≤ w.heap.size) (hs : ∀ k, S k → B ≤ k) : Below B w0 w1 :=
  hb.trans ⟨h.os, h.tape, h.output, h.size, fun k hk => h.block k (by omega) (fun h2 => by have := hs k h2; omega)⟩
theorem Kp.mono {S S' : Nat → Prop} {w w1 : World} (h : Kp S w w1) (hs : ∀ q, q < w.heap.size → S q → S' q) : Kp S' w w1 := ⟨h.os, h.tape, h.output, h.size, fun k hk hn => h.block k hk (fun h2 => hn (hs k hk h2))⟩
theorem Kp.holds {S : Nat → Prop} {w w1 : World} {g t : Nat} {cs : List Value} (h : Kp S w w1) (hh : Holds w g t cs) (hn : ¬ S g) : Holds w1 g t cs := (h.block g hh.lt hn).trans hh
theorem Kp.R {S : Nat → Prop} {α : Type} {d : Kd α} {e B : Nat} {ok : Nat → Prop} {w w1 : World} {v : Value} {xs : List α} (h : Kp S w w1) (hr : d.R e w B ok v xs) (hn : ∀ k, ok k → k < w.heap.size → ¬ S k) : d.R e w1 B ok v xs := Kd.R_step hr (fun k hk hlt => h.block k hlt (hn k hk hlt))
theorem Kp.RI {S : Nat → Prop} {k : IntKind} {e B : Nat} {ok : Nat → Prop} {w w1 : World} {v : Value} {xs : List Int} (h : Kp S w w1) (hr : Kd.R (Kd.int k) e w B ok v xs) (hn : ∀ q, v.ownBlock = some q → ¬ S q) : Kd.R (Kd.int k) e w1 B ok v xs := by
  have h1 : Kd.R (Kd.int k) e w B (fun q => some q = v.ownBlock) v xs := ⟨fun q hq => hq.symm, hr.2.imp_ (fun _ _ hp => hp)⟩
  have h2 := h.R h1 (fun q hq _ => hn q hq.symm)
  exact ⟨hr.1, h2.2.imp_ (fun _ _ hp => hp)⟩
theorem kp_setCell (w : World) (g i : Nat) (u : Value) : Kp (fun k => k = g) w (w.setCell ⟨g, i, none⟩ u) := by
  have h := (stored_cells w g i [u])
  exact ⟨h.os, h.tape, h.output, Nat.le_of_eq h.size.symm, fun k _ hk => h.block k hk⟩
theorem own_ne_map {k : IntKind} {e B b n : Nat} {ok : Nat → Prop} {w : World} {v : Value} {xs : List Int} {D : DataW Unit} (hr : Kd.R (Kd.int k) e w B ok v xs) (hD : w.ownsMap Try.prog 3 (plainElem Try.prog 3) b n D) : ∀ q, v.ownBlock = some q → q ≠ b := by
  intro q hq e1
  subst e1
  obtain ⟨inner, ho⟩ := Kd.R_own hr
  obtain ⟨cells, hc⟩ := own_typed ho q hq
  obtain ⟨es, clock, hb, _⟩ := hD
  rw [hc] at hb
  injection hb with hb
  cases hb
theorem hold_ne_map {b n g t : Nat} {w : World} {cs : List Value} {D : DataW Unit} (hh : Holds w g t cs) (hD : w.ownsMap Try.prog 3 (plainElem Try.prog 3) b n D) : g ≠ b := by
  intro e1
  subst e1
  obtain ⟨es, clock, hb, _⟩ := hD
  rw [show w.heap[g]? = _ from hh] at hb
  injection hb with hb
  cases hb
theorem NS.grow {w1 w2 : World} {B m1 m2 b : Nat} {vM : Value} {A2 : Option Addr} {n2 c2 : Nat} {nn nn' : List Int} {D : DataW Unit} (c1 : Holds w1 m1 168 [.map (some b)]) (c2' : Holds w1 m2 26 [vM]) (hr1 : Kd.R (Kd.int .i64) 3 w1 B (fun _ => True) vM nn) (hD : w1.ownsMap Try.prog 3 (plainElem Try.prog 3) b nn'.length D) (hN : NumD nn' D)
    (hg : w1.grownBy w2 vM.ownBlock) (hr2 : Kd.R (Kd.int .i64) 3 w2 B (fun _ => True) (.slice A2 n2 c2) nn') : NS (w2.setCell ⟨m2, 0, none⟩ (.slice A2 n2 c2)) B m1 m2 b (.slice A2 n2 c2) nn' ∧ Kp (fun k => k = m2 ∨ some k = vM.ownBlock) w1 (w2.setCell ⟨m2, 0, none⟩ (.slice A2 n2 c2)) := by
  have hk := kp_setCell w2 m2 0 (.slice A2 n2 c2)
  have hne2 := Kd.R_ne hr1 c2' (by decide)
  have hne1 := Kd.R_ne hr1 c1 (by decide)
  have h2 : Holds w2 m2 26 [vM] := holds_grown c2' hg hne2
  have h1 : Holds w2 m1 168 [.map (some b)] := holds_grown c1 hg hne1
  have hm : m1 ≠ m2 := fun e => by
    subst e
    have h3 := (show _ = _ from h1).symm.trans (show _ = _ from h2)
    injection h3 with h3
    injection h3 with _ h4
    exact absurd h4 (by decide)
  have hD2 : w2.ownsMap Try.prog 3 (plainElem Try.prog 3) b nn'.length D := hD.kept hg (fun e => own_ne_map hr1 hD b e.symm rfl)
  refine ⟨⟨hk.holds h1 hm, holds_cells (vs := [.slice A2 n2 c2]) h2 (by show 0 + 1 ≤ 1; decide), ⟨D, hD2.kept (row := some m2) ⟨hk.os, hk.tape, hk.output, hk.size, fun k hk1 hk2 => hk.block k hk1 (fun e => hk2 (by rw [e]))⟩ (fun e => hold_ne_map h2 hD2 (by injection e with e; exact e.symm)), hN⟩, hk.RI hr2 (fun q hq e => Kd.R_ne hr2 h2 (by decide) (by rw [hq, e]))⟩, ?_⟩
  exact ((Kp.of_grown hg).mono (S' := fun k => k = m2 ∨ some k = vM.ownBlock) (fun q _ hq => .inr hq)).trans hk (fun q _ hq => .inl hq)
theorem NS.set {w w1 : World} {B m1 m2 b g : Nat} {vM v : Value} {nn xs : List Int} (h : NS w B m1 m2 b vM nn) (hv : OI .i64 3 w B vM v xs) (hg : v.ownBlock = some g) (hk : Kp (fun k => k = g) w w1) : NS w1 B m1 m2 b vM nn := by
  obtain ⟨D, hD, hN⟩ := h.map
  refine ⟨hk.holds h.c1 (fun e => Kd.R_ne hv h.c1 (by decide) (by rw [hg, e])), hk.holds h.c2 (fun e => Kd.R_ne hv h.c2 (by decide) (by rw [hg, e])), ⟨D, hD.kept (row := some g) ⟨hk.os, hk.tape, hk.output, hk.size, fun k hk1 hk2 => hk.block k hk1 (fun e => hk2 (by rw [e]))⟩ (fun e => own_ne_map hv hD g hg (by injection e with e; exact e.symm)), hN⟩, hk.RI h.row (fun q hq e => (hv.1 g hg).2 (by rw [hq, e]))⟩
def Sn (b m2 : Nat) (vN v : Value) (k : Nat) : Prop := k = b ∨ k = m2 ∨ some k = vN.ownBlock ∨ some k = v.ownBlock
set_option maxHeartbeats 4000000 in
set_option maxRecDepth 100000 in
theorem num_calls (l nm : List Int) (v vN : Value) (w : World) (B m1 m2 b : Nat) (hns : NS w B m1 m2 b vN nm) (hv : OI .i64 3 w B vN v l) (hl : nm.length + l.length ≤ 1000000) (hx : ∀ x ∈ l, 0 ≤ x ∧ x ≤ 1000000) (hB : B ≤ w.heap.size) (hb2 : B ≤ m2) :
    Calls Try.prog 112 #[v, .pointer (some ⟨m1, 0, none⟩), .pointer (some ⟨m2, 0, none⟩)] w fun e w' => e = .returned (.tuple #[]) ∧ ∃ vN', NS w' B m1 m2 b vN' (numL nm l).1 ∧ OI .i64 3 w' B vN' v (numL nm l).2 ∧ (vN'.ownBlock = vN.ownBlock ∨ ∃ q, vN'.ownBlock = some q ∧ w.heap.size ≤ q) ∧ Kp (Sn b m2 vN v) w w' := by
  have HNS := Aside0.mk hns
  have HV := Aside0.mk hv
  have HX := Aside0.mk hx
  have HL := Aside0.mk hl
  have HBB := Aside0.mk hB
  have HB2 := Aside0.mk hb2
  obtain ⟨A, c, rfl⟩ := Kd.R_slice hv
  clear hns hv hx hB hb2
  go_enter Try.func112, Try.ntmps112
  go_wp2_with fail
  go_loopg [10] l.length (fun kq v10 w' => ∃ (i : Nat) (vN' : Value), v10 = .int .i64 (i : Int) ∧ i + kq = l.length ∧ Aside0 (NS w' B m1 m2 b vN' (numL nm (l.take i)).1) ∧ Aside0 (OI .i64 3 w' B vN' (.slice A l.length c) ((numL nm (l.take i)).2 ++ l.drop i)) ∧ Aside0 (vN'.ownBlock = vN.ownBlock ∨ ∃ q, vN'.ownBlock = some q ∧ w.heap.size ≤ q) ∧ Aside0 (Kp (Sn b m2 vN (.slice A l.length c)) w w'))
  case atStart => exact ⟨0, vN, rfl, by omega, HNS, HV, ⟨.inl rfl⟩, ⟨Kp.refl _ _⟩⟩
  case round =>
    clear HNS HV
    obtain ⟨i, vM, rfl, hi, HN, HV, HO, HK⟩ := hrel
    obtain ⟨W0, rfl⟩ : ∃ W0, W0 = wr := ⟨wr, rfl⟩
    cases gk with
    | zero =>
      have q1 : decide ((i : Int) < (l.length : Int)) = false := decide_eq_false (by omega)
      have q2 : decide (i < l.length) = false := decide_eq_false (by omega)
      have hil : i = l.length := by omega
      subst hil
      go_wp2_with fail
      go_end0
      have h1 := HN.out
      have h2 := HV.out
      rw [List.take_length] at h1 h2
      rw [List.drop_length, List.append_nil] at h2
      exact ⟨rfl, vM, h1, h2, HO.out, HK.out⟩
    | succ k1 =>
      have hil : i < l.length := by omega
      have q1 : decide ((i : Int) < (l.length : Int)) = true := decide_eq_true (by omega)
      have q2 : decide (i < l.length) = true := decide_eq_true (by omega)
      have q3 : (0 : Int) ≤ (i : Int) := by omega
      have q4 : (i : Int) < (l.length : Int) := by omega
      have hin : i < 1000000000 := by omega
      have hlen : ((numL nm (l.take i)).2 ++ l.drop i).length = l.length := by rw [List.length_append, numL_length, List.length_take, List.length_drop]; omega
      obtain ⟨g, cap, he, hgw, hgl, _⟩ := Kd.R_form HV.out (by rw [hlen]; omega)
      rw [hlen] at he
      injection he with he1 he2 he3
      subst he1 he3
      have hRR := (show Kd.R (Kd.int .i64) 3 W0 B (fun q => True ∧ some q ≠ vM.ownBlock) (.slice (some ⟨g, 0, none⟩) ((numL nm (l.take i)).2 ++ l.drop i).length c) ((numL nm (l.take i)).2 ++ l.drop i) by rw [hlen]; exact HV.out)
      have hcl := (Kd.R_cell (0 : Int) hRR (i : Int) (by omega) (by omega)).1
      have hfr := (Kd.R_cell (0 : Int) hRR (i : Int) (by omega) (by omega)).2
      have hrd : rdOf (0 : Int) ((numL nm (l.take i)).2 ++ l.drop i) (i : Int) = l[i] := by
        unfold rdOf
        rw [Int.toNat_natCast, List.getD_eq_getElem?_getD, List.getElem?_append_right (by rw [numL_length, List.length_take]; omega), numL_length, List.length_take, Nat.min_eq_left (by omega), Nat.sub_self, List.drop_eq_getElem_cons hil]
        rfl
      rw [hrd, Int.toNat_natCast] at hcl
      rw [Int.toNat_natCast] at hfr
      have HTK := Aside0.mk (show l.take (i + 1) = l.take i ++ [l[i]] from List.take_succ_eq_append_getElem hil)
      have HDR := Aside0.mk (show l.drop i = l[i] :: l.drop (i + 1) from List.drop_eq_getElem_cons hil)
      have hxi := HX.out l[i] (List.getElem_mem hil)
      have HI := Aside0.mk hi
      obtain ⟨x, hxx⟩ : ∃ x, x = l[i] := ⟨_, rfl⟩
      rw [← hxx] at hcl HTK HDR hxi
      clear hrd hRR hxx
      by_cases h0 : x = 0
      · have d0 : (x == 0) = true := beq_iff_eq.2 h0
        go_wp2_with fail
        go_roundg k1
        case measure => omega
        case rel =>
          have hn : num1 (numL nm (l.take i)).1 x = ((numL nm (l.take i)).1, 0) := by unfold num1; rw [if_pos h0]
          refine ⟨i + 1, vM, rfl, by omega, ⟨?_⟩, ⟨?_⟩, HO, HK⟩
          · rw [HTK.out, numL_snoc, hn]
            exact HN.out
          · rw [HTK.out, numL_snoc, hn]
            have h := HV.out
            rw [HDR.out, h0] at h
            simpa using h
      · have d0 : (x == 0) = false := beq_eq_false_iff_ne.2 h0
        have hwf : (Lit.int .i64 x).wf = true := by
          simp only [Lit.wf, Bool.and_eq_true, decide_eq_true_eq]
          have hmin : IntKind.i64.min = -9223372036854775808 := rfl
          have hmax : IntKind.i64.max = 9223372036854775807 := rfl
          omega
        have hkey : keyOf Try.prog 3 (.int .i64 x) = some (.int .i64 x) := Maps.keyOf_int_mk Try.underlying3 hwf
        obtain ⟨D, hD, hND⟩ := HN.out.map
        obtain ⟨AM, cM, rfl⟩ := Kd.R_slice HN.out.row
        have hnl : (numL nm (l.take i)).1.length ≤ 1000000 := by
          have h1 := (numL_len (l.take i) nm).2
          rw [List.length_take] at h1
          have := HL.out
          omega
        have hn1 : num1 (numL nm (l.take i)).1 x = if x ∈ (numL nm (l.take i)).1 then ((numL nm (l.take i)).1, (((numL nm (l.take i)).1.idxOf x : Nat) : Int) + 1) else ((numL nm (l.take i)).1 ++ [x], ((numL nm (l.take i)).1.length : Int) + 1) := by
          unfold num1
          rw [if_neg h0]
        have HN1 := Aside0.mk hn1
        have hyl : (numL nm (l.take i)).2.length = i := by rw [numL_length, List.length_take]; omega
        have HYL := Aside0.mk hyl
        have HNN := Aside0.mk (show (numL nm (l.take (i + 1))) = ((num1 (numL nm (l.take i)).1 x).1, (numL nm (l.take i)).2 ++ [(num1 (numL nm (l.take i)).1 x).2]) by rw [HTK.out, numL_snoc])
        obtain ⟨nn, hnn⟩ : ∃ nn, nn = (numL nm (l.take i)).1 := ⟨_, rfl⟩
        obtain ⟨ys, hys⟩ : ∃ ys, ys = (numL nm (l.take i)).2 := ⟨_, rfl⟩
        rw [← hnn] at HN hD hND hnl HN1 HNN HV HO
        rw [← hys] at HNN HV HYL
        clear hn1 hyl hnn hys HTK
        have HNL := Aside0.mk hnl
        have x1 : W0.cell? ⟨m1, 0, none⟩ = some (.map (some b)) := (HN.out.c1.cell 0).trans rfl
        have x2 : W0.cell? ⟨m2, 0, none⟩ = some (.slice AM nn.length cM) := (HN.out.c2.cell 0).trans rfl
        have HG := Aside0.mk hgw
        have HCL := Aside0.mk hcl
        have HFR := Aside0.mk hfr
        have HHD := Aside0.mk hD
        have HND := Aside0.mk hND
        have HWF := Aside0.mk hwf
        have hsetl : ∀ y : Int, (ys ++ l.drop i).set i y = (ys ++ [y]) ++ l.drop (i + 1) := fun y => by
          rw [HDR.out, List.set_append_right _ _ (by have := HYL.out; omega), HYL.out, Nat.sub_self, List.set_cons_zero, List.append_assoc]
          rfl
        have HSL := Aside0.mk hsetl
        have HLN := Aside0.mk (show (ys ++ l.drop i).length = l.length by rw [List.length_append, HYL.out, List.length_drop]; omega)
        clear hcl hfr hD hND hwf hgw hgl hnl hsetl hlen hxi
        by_cases hm : x ∈ nn
        · have HHAS := Aside0.mk (show Maps.has D (.int .i64 x) = true by rw [HND.out.2.1 x, decide_eq_true hm])
          have HAT := Aside0.mk (HND.out.2.2 x hm)
          have HM1 := Aside0.mk (show num1 nn x = (nn, ((nn.idxOf x : Nat) : Int) + 1) by rw [HN1.out, if_pos hm])
          obtain ⟨y, hy⟩ : ∃ y : Int, y = ((nn.idxOf x : Nat) : Int) + 1 := ⟨_, rfl⟩
          rw [← hy] at HAT HM1
          clear hm hy HN1
          have hcl := HCL.out
          go_upto_region 8 with (at_lookup; refine wpList_lookup_own_ok_int _ rfl _ _ 168 rfl 3 3 .i64 (Maps.int_keyed Try.underlying3) Try.underlying168 Try.underlying3 (Try.zeroValue3 _) b nn.length D rfl HHD.out _ _ rfl hkey ?_; intro c1 hat hwc; rw [HHAS.out]; clear hat hwc)
          have hfr := HFR.out
          go_wp2_with (at_lookup; refine wpList_lookup_own_int _ rfl _ _ 168 rfl 3 3 .i64 (Maps.int_keyed Try.underlying3) Try.underlying168 Try.underlying3 (Try.zeroValue3 _) b nn.length D rfl HHD.out _ _ rfl hkey ?_; intro c2 hat hwc; obtain rfl : c2 = y := (by have h := hat.symm.trans HAT.out; injection h with h; injection h); clear hat hwc)
          go_roundg k1
          case measure => have := HI.out; omega
          case rel =>
            have hkp := kp_setCell W0 g i (.int .i64 c2)
            have hput := (Kd.R_put (show Kd.R (Kd.int .i64) 3 W0 B (fun q => True ∧ some q ≠ (Value.slice AM nn.length cM).ownBlock) (.slice (some ⟨g, 0, none⟩) (ys ++ l.drop i).length c) (ys ++ l.drop i) by rw [HLN.out]; exact HV.out) (i : Int) c2).1
            rw [Int.toNat_natCast, HSL.out, HLN.out] at hput
            refine ⟨i + 1, .slice AM nn.length cM, rfl, by have := HI.out; omega, ⟨?_⟩, ⟨?_⟩, HO, ⟨HK.out.trans hkp (fun q _ hq => .inr (.inr (.inr (by rw [hq]; rfl))))⟩⟩
            · rw [HNN.out, HM1.out]
              exact HN.out.set HV.out rfl hkp
            · rw [HNN.out, HM1.out]
              exact hput
        · have HHAS := Aside0.mk (show Maps.has D (.int .i64 x) = false by rw [HND.out.2.1 x, decide_eq_false hm])
          have HM1 := Aside0.mk (show num1 nn x = (nn ++ [x], (nn.length : Int) + 1) by rw [HN1.out, if_neg hm])
          have HND2 := Aside0.mk (numD_put HND.out hm)
          have HNM := Aside0.mk hm
          have hnl2 : nn.length < 1000000000 := by have := HNL.out; omega
          have HWF2 : Aside0 ((Lit.int .i64 ((nn.length : Int) + 1)).wf = true) := ⟨by
            simp only [Lit.wf, Bool.and_eq_true, decide_eq_true_eq]
            have hmin : IntKind.i64.min = -9223372036854775808 := rfl
            have hmax : IntKind.i64.max = 9223372036854775807 := rfl
            omega⟩
          clear hm HN1 HND
          have hcl := HCL.out
          go_upto_region 7 with (first
            | (at_lookup; refine wpList_lookup_own_ok_int _ rfl _ _ 168 rfl 3 3 .i64 (Maps.int_keyed Try.underlying3) Try.underlying168 Try.underlying3 (Try.zeroValue3 _) b nn.length D rfl HHD.out _ _ rfl hkey ?_; intro c1 hat hwc; rw [HHAS.out]; clear hat hwc)
            | (at_mapUpdate; refine wpList_mapUpdate_own _ rfl _ _ _ 168 rfl 3 3 (Maps.int_keyed Try.underlying3) Try.underlying168 (plainElem Try.prog 3) b nn.length D rfl HHD.out (by have := HNL.out; unfold maxLen; omega) _ _ (.int .i64 x) rfl rfl hkey (.lit (.int .i64 ((nn.length : Int) + 1))) [] (plainElem_int Try.underlying3 HWF2.out) ?_; intro w1 hD1 hg1))
          have hk1 : Kp (fun k => k = b) W0 w1 := (Kp.of_grown hg1).mono (fun q _ hq => by injection hq)
          have hc2 : Holds w1 m2 26 [.slice AM nn.length cM] := hk1.holds HN.out.c2 (hold_ne_map HN.out.c2 HHD.out)
          have hr1 : Kd.R (Kd.int .i64) 3 w1 B (fun _ => True) (.slice AM nn.length cM) nn := hk1.RI HN.out.row (fun q hq => own_ne_map HN.out.row HHD.out q hq)
          have hv1 : OI .i64 3 w1 B (.slice AM nn.length cM) (.slice (some ⟨g, 0, none⟩) l.length c) (ys ++ l.drop i) := hk1.RI HV.out (fun q hq => own_ne_map HV.out HHD.out q hq)
          have hc1 : Holds w1 m1 168 [.map (some b)] := hk1.holds HN.out.c1 (hold_ne_map HN.out.c1 HHD.out)
          have HK1 := Aside0.mk hk1
          have HR1 := Aside0.mk hr1
          have HV1 := Aside0.mk hv1
          have HC1 := Aside0.mk hc1
          have HC2 := Aside0.mk hc2
          have HD1 := Aside0.mk hD1
          have HBS := Aside0.mk (show B ≤ w1.heap.size by have := hk1.size; have := HK.out.size; have := HBB.out; omega)
          have y2 : w1.cell? ⟨m2, 0, none⟩ = some (.slice AM nn.length cM) := (hc2.cell 0).trans rfl
          clear hk1 hc2 hr1 hv1 hc1 hD1 hg1
          go_upto_region 8 with (at_builtin; refine Kd.R_append (Kd.int .i64) (w0 := w1) B rfl (.tmp 30) (.tmp 32) 26 3 (.int .i64 0) 8 rfl Try.underlying26 info3c rfl (by decide) (by omega) _ nn x [.int .i64 x] (fun _ => True) (fun _ => False) rfl rfl rfl (fun _ hk => hk.elim) (fun _ _ => trivial) HR1.out (Below.refl _ _) HBS.out (by have := HNL.out; omega) ?_; intro v2 w2 ho2 hb2 hg2 hat2; obtain ⟨A2, c2, rfl⟩ := Kd.R_slice ho2; rw [show (nn ++ [x]).length = nn.length + 1 by simp] at ho2 hat2 ⊢; have HO2 := Aside0.mk ho2; have HG2 := Aside0.mk hg2; have HA2 := Aside0.mk hat2; have HC22 := Aside0.mk (holds_grown HC2.out hg2 (Kd.R_ne HR1.out HC2.out (by decide))); have z2 := (HC22.out.cell 0).trans rfl; have z3 := blk_frozen HC22.out 0; clear ho2 hb2 hg2 hat2)
          obtain ⟨W3, hW3⟩ : ∃ W3, W3 = w2.setCell ⟨m2, 0, none⟩ (.slice A2 (nn.length + 1) c2) := ⟨_, rfl⟩
          rw [← hW3]
          have hns := NS.grow HC1.out HC2.out HR1.out (show w1.ownsMap Try.prog 3 (plainElem Try.prog 3) b (nn ++ [x]).length _ by rw [List.length_append, List.length_singleton]; exact HD1.out) HND2.out HG2.out HO2.out
          rw [← hW3] at hns
          have hv2 : OI .i64 3 w2 B (.slice A2 (nn.length + 1) c2) (.slice (some ⟨g, 0, none⟩) l.length c) (ys ++ l.drop i) := Kd.R_after HV1.out HG2.out HA2.out
          have hv3 : OI .i64 3 W3 B (.slice A2 (nn.length + 1) c2) (.slice (some ⟨g, 0, none⟩) l.length c) (ys ++ l.drop i) := by
            rw [hW3]
            exact (kp_setCell w2 m2 0 _).RI hv2 (fun q hq e => Kd.R_ne hv2 HC22.out (by decide) (by rw [hq, e]))
          clear hW3 z2 z3 y2 hcl
          have HN3 := Aside0.mk hns.1
          have HK3 := Aside0.mk hns.2
          have HV3 := Aside0.mk hv3
          obtain ⟨D3, hD3, hND3⟩ := hns.1.map
          have HD3 := Aside0.mk hD3
          have HAT := Aside0.mk (hND3.2.2 x (by simp))
          have hix : (((nn ++ [x]).idxOf x : Nat) : Int) + 1 = (nn.length : Int) + 1 := by
            rw [List.idxOf_append, if_neg (by
              exact HNM.out)]
            simp
          rw [hix] at HAT
          have hRR := (show Kd.R (Kd.int .i64) 3 W3 B (fun q => True ∧ some q ≠ (Value.slice A2 (nn.length + 1) c2).ownBlock) (.slice (some ⟨g, 0, none⟩) (ys ++ l.drop i).length c) (ys ++ l.drop i) by rw [HLN.out]; exact hv3)
          have hli : i < (ys ++ l.drop i).length := by rw [HLN.out]; exact hil
          have hcl := (Kd.R_cell (0 : Int) hRR (i : Int) (by omega) (by omega)).1
          have hfr := (Kd.R_cell (0 : Int) hRR (i : Int) (by omega) (by omega)).2
          rw [Int.toNat_natCast] at hcl hfr
          have x1 : W3.cell? ⟨m1, 0, none⟩ = some (.map (some b)) := (hns.1.c1.cell 0).trans rfl
          clear hns hv2 hv3 hRR hD3 hND3 hix
          go_wp2_with (at_lookup; refine wpList_lookup_own_int _ rfl _ _ 168 rfl 3 3 .i64 (Maps.int_keyed Try.underlying3) Try.underlying168 Try.underlying3 (Try.zeroValue3 _) b (nn ++ [x]).length D3 rfl HD3.out _ _ rfl hkey ?_; intro c3 hat hwc; obtain rfl : c3 = (nn.length : Int) + 1 := (by have h := hat.symm.trans HAT.out; injection h with h; injection h); clear hat hwc)
          go_roundg k1
          case measure => have := HI.out; omega
          case rel =>
            have hkp := kp_setCell W3 g i (.int .i64 ((nn.length : Int) + 1))
            have hput := (Kd.R_put (show Kd.R (Kd.int .i64) 3 W3 B (fun q => True ∧ some q ≠ (Value.slice A2 (nn.length + 1) c2).ownBlock) (.slice (some ⟨g, 0, none⟩) (ys ++ l.drop i).length c) (ys ++ l.drop i) by rw [HLN.out]; exact HV3.out) (i : Int) ((nn.length : Int) + 1)).1
            rw [Int.toNat_natCast, HSL.out, HLN.out] at hput
            refine ⟨i + 1, .slice A2 (nn.length + 1) c2, rfl, by have := HI.out; omega, ⟨?_⟩, ⟨?_⟩, ⟨?_⟩, ⟨?_⟩⟩
            · rw [HNN.out, HM1.out]
              exact HN3.out.set HV3.out rfl hkp
            · rw [HNN.out, HM1.out]
              exact hput
            · rcases HA2.out with h | ⟨q, h, hq⟩
              · rw [h]
                exact HO.out
              · exact .inr ⟨q, h, Nat.le_trans HK.out.size (Nat.le_trans HK1.out.size hq)⟩
            · refine ((HK.out.trans HK1.out (fun q _ hq => .inl hq)).trans HK3.out (fun q hq hs => ?_)).trans hkp (fun q _ hq => .inr (.inr (.inr (by rw [hq]; rfl))))
              rcases hs with hs | hs
              · exact .inr (.inl hs)
              · rcases HO.out with h | ⟨q2, h, hq2⟩
                · exact .inr (.inr (.inl (by rw [← h]; exact hs)))
                · rw [h] at hs
                  injection hs with hs
                  omega
end Go.Proofs.Ytgojfecpknonlaa.Im

