/- What lies ready between two rounds of nodes numbered. -/
import Derived.Test.YtgojfecpknonlaaImL
namespace Go.Proofs.Ytgojfecpknonlaa.Im
open Go.RowKit Go.Proofs.YtgojfecpknonlaaW.PrintWords Go.Proofs.YtgojfecpknonlaaW.PrintLast Go.Proofs.YtgojfecpknonlaaW.PrintMore
open Go.Proofs.Ytgojfecpknonlaa.Own Go.Proofs.Ytgojfecpknonlaa.PIm Go.Proofs.Ytgojfecpknonlaa.Wv
set_option linter.unusedVariables false
set_option linter.unusedSimpArgs false

structure NI (rows : List Value) (rc : Nat → List Int) (B m1 m2 b g2 D : Nat) (HL : List (Nat × Nat × List Value)) (vT vG : Value) (ps : List (Value × Value)) (w00 : World) (nm : List Int) (acc : List S127) (vN vX : Value) (qs : List (Value × Value)) (W : World) : Prop where
  ns : NS W B m1 m2 b vN nm
  rows : ∀ j, OI .i64 3 W B vN (rows.getD j (.slice none 0 0)) (rc j)
  h2 : Holds W g2 89 [vT, vG, vX]
  hs : ∀ x ∈ HL, Holds W x.1 x.2.1 x.2.2
  raw : Kd.R kraw 128 W B (fun _ => True) vT ps
  nodes : Kd.R kraw 131 W B (fun _ => True) vX qs
  els : Els S127.f0 S127.f1 .u64 56 W B vN qs acc
  dfr : W.heap[D]? = some (.deferred (some []))
  below : Below B w00 W
  size : B ≤ W.heap.size
section
variable {rows : List Value} {rc : Nat → List Int} {B m1 m2 b g2 D : Nat} {HL : List (Nat × Nat × List Value)} {vT vG : Value} {ps : List (Value × Value)} {w00 : World} {nm : List Int} {acc : List S127} {vN vX : Value} {qs : List (Value × Value)} {W W' : World}
theorem NS.below {w w' : World} (h : NS w B m1 m2 b vN nm) (hb : Below w.heap.size w w') : NS w' B m1 m2 b vN nm := by
  obtain ⟨D, hD, hN⟩ := h.map
  exact ⟨h.c1.below hb, h.c2.below hb, ⟨D, hD.kept (grown_of_below hb none) (fun e => by cases e), hN⟩, Kd.R_below h.row hb⟩
theorem NI.step (h : NI rows rc B m1 m2 b g2 D HL vT vG ps w00 nm acc vN vX qs W) (hb : Below W.heap.size W W') : NI rows rc B m1 m2 b g2 D HL vT vG ps w00 nm acc vN vX qs W' :=
  ⟨h.ns.below hb, fun j => Kd.R_below (h.rows j) hb, h.h2.below hb, fun x hx => (h.hs x hx).below hb, Kd.R_below h.raw hb, Kd.R_below h.nodes hb, h.els.below hb, (hb.block D (Array.getElem?_eq_some_iff.1 h.dfr).1).trans h.dfr, below_then h.below h.size hb, Nat.le_trans h.size hb.size⟩
/-- What the blocks are that numbering a row writes. -/
theorem Sn_obj {w : World} {v : Value} {xs : List Int} {k : Nat} {o : Obj} (hns : NS w B m1 m2 b vN nm) (hv : OI .i64 3 w B vN v xs) (hk : Sn b m2 vN v k) (ho : w.heap[k]? = some o) : (∃ es cl, o = .map es cl) ∨ ∃ cs t fr, o = .cells cs t fr ∧ (t = 3 ∨ t = 26) := by
  rcases hk with rfl | rfl | e | e
  · obtain ⟨D, hD, _⟩ := hns.map
    obtain ⟨es, clock, hb, _⟩ := hD
    rw [ho] at hb
    injection hb with hb
    exact .inl ⟨_, _, hb⟩
  · have h1 := (show _ = _ from hns.c2).symm.trans ho
    injection h1 with h1
    exact .inr ⟨_, _, _, h1.symm, .inr rfl⟩
  · obtain ⟨inner, hw⟩ := Kd.R_own hns.row
    obtain ⟨cells, hc⟩ := own_typed hw k e.symm
    rw [hc] at ho
    injection ho with ho
    exact .inr ⟨_, _, _, ho.symm, .inl rfl⟩
  · obtain ⟨inner, hw⟩ := Kd.R_own hv
    obtain ⟨cells, hc⟩ := own_typed hw k e.symm
    rw [hc] at ho
    injection ho with ho
    exact .inr ⟨_, _, _, ho.symm, .inl rfl⟩
theorem raw_step {S : Nat → Prop} {e : Nat} {ok : Nat → Prop} {v : Value} (hk : Kp S W W') (hr : Kd.R kraw e W B ok v ps) (hn : ∀ k cells fr, W.heap[k]? = some (.cells cells e fr) → ¬ S k) : Kd.R kraw e W' B ok v ps := by
  refine Kd.R_mono (Kd.R_move (Kd.R_bound hr) (fun k hk1 => ?_)) (fun k hk1 => hk1.1)
  obtain ⟨_, _, hlt, q, hq, cells, hc⟩ := hk1
  rcases List.mem_cons.1 hq with rfl | hq
  · exact hk.block k hlt (hn k _ _ hc)
  · cases hq
theorem NI.num {W0 : World} {xs : List Int} {vr vN' : Value} (h0 : NI rows rc B m1 m2 b g2 D HL vT vG ps w00 nm acc vN vX qs W0) (hHL : ∀ x ∈ HL, x.2.1 ≠ 3 ∧ x.2.1 ≠ 26) (hb : Below W0.heap.size W0 W) (hr : Kd.R (Kd.int .i64) 3 W W0.heap.size (fun _ => True) vr xs) (hBb : B ≤ b) (hBm : B ≤ m2)
    (hns' : NS W' B m1 m2 b vN' (numL nm xs).1) (hat : vN'.ownBlock = vN.ownBlock ∨ ∃ q, vN'.ownBlock = some q ∧ W.heap.size ≤ q) (hk : Kp (Sn b m2 vN vr) W W') : NI rows rc B m1 m2 b g2 D HL vT vG ps w00 (numL nm xs).1 acc vN' vX qs W' := by
  have h := h0.step hb
  have hlow : B ≤ W0.heap.size := h0.size
  have hOI : OI .i64 3 W B vN vr xs := Kd.R_lower (Kd.R_mono (Kd.R_bound hr) (fun q hq => ⟨trivial, fun e => by have h1 := Kd.R_lt h0.ns.row q e.symm; have h2 := hq.2.1; omega⟩)) hlow
  have hobj := fun (k : Nat) (o : Obj) (hs : Sn b m2 vN vr k) (ho : W.heap[k]? = some o) => Sn_obj h.ns hOI hs ho
  have hn : ∀ (k : Nat) (cs : Array Value) (t : TypeId) (fr : Nat × Nat), W.heap[k]? = some (.cells cs t fr) → t ≠ 3 → t ≠ 26 → ¬ Sn b m2 vN vr k := fun k cs t fr ho h3 h26 hs => by
    rcases hobj k _ hs ho with ⟨_, _, e⟩ | ⟨_, _, _, e, ht⟩
    · cases e
    · injection e with _ e
      rcases ht with ht | ht
      · exact h3 (e.trans ht)
      · exact h26 (e.trans ht)
  obtain ⟨DD, hD, _⟩ := h.ns.map
  have hold : ∀ (u : Value) (ys : List Int), OI .i64 3 W0 B vN u ys → OI .i64 3 W' B vN' u ys := fun u ys hu => by
    refine OI.turn (W := W) (vN := vN) (hk.RI (Kd.R_below hu hb) (fun q hq hs => ?_)) (fun q hq => Nat.lt_of_lt_of_le (Kd.R_lt hu q hq) hb.size) hat
    rcases hs with e | e | e | e
    · exact own_ne_map (Kd.R_below hu hb) hD q hq e
    · exact Kd.R_ne (Kd.R_below hu hb) h.ns.c2 (by decide) (by rw [hq, e])
    · exact (hu.1 q hq).2 e
    · have h1 := Kd.R_lt hu q hq
      have h2 := Kd.R_base hr q e.symm
      omega
  have hold56 : ∀ (u : Value) (ys : List Int), OI .u64 56 W0 B vN u ys → OI .u64 56 W' B vN' u ys := fun u ys hu => by
    refine OI.turn (W := W) (vN := vN) (hk.RI (Kd.R_below hu hb) (fun q hq hs => ?_)) (fun q hq => Nat.lt_of_lt_of_le (Kd.R_lt hu q hq) hb.size) hat
    obtain ⟨inner, hw⟩ := Kd.R_own (Kd.R_below hu hb)
    obtain ⟨cells, hc⟩ := own_typed hw q hq
    exact hn q _ _ _ hc (by decide) (by decide) hs
  refine ⟨hns', fun j => hold _ _ (h0.rows j), hk.holds h.h2 (hn _ _ _ _ h.h2 (by decide) (by decide)), fun x hx => hk.holds (h.hs x hx) (hn _ _ _ _ (h.hs x hx) (hHL x hx).1 (hHL x hx).2), raw_step hk h.raw (fun k cs fr hc => hn k cs _ fr hc (by decide) (by decide)), raw_step hk h.nodes (fun k cs fr hc => hn k cs _ fr hc (by decide) (by decide)), ⟨h0.els.1, fun i p t hp ht => ⟨hold _ _ (h0.els.2 i p t hp ht).1, hold56 _ _ (h0.els.2 i p t hp ht).2⟩⟩, ?_, hk.below h.below h.size (fun k hs => ?_), Nat.le_trans h.size hk.size⟩
  · refine (hk.block D (Array.getElem?_eq_some_iff.1 h.dfr).1 (fun hs => ?_)).trans h.dfr
    rcases hobj D _ hs h.dfr with ⟨_, _, e⟩ | ⟨_, _, _, e, _⟩ <;> cases e
  · rcases hs with e | e | e | e
    · omega
    · omega
    · exact Kd.R_base h.ns.row k e.symm
    · have := Kd.R_base hr k e.symm
      omega
/-- A node more. -/
theorem NI.push {p : Value × Value} {t : S127} {vX' : Value} (h : NI rows rc B m1 m2 b g2 D HL vT vG ps w00 nm acc vN vX qs W) (hHL : ∀ x ∈ HL, x.2.1 ≠ 131 ∧ x.1 ≠ g2) (hg : W.grownBy W' vX.ownBlock) (hB2 : B ≤ g2)
    (hx : Kd.R kraw 131 W' B (fun _ => True) vX' (qs ++ [p])) (h0 : OI .i64 3 W B vN p.1 t.f0) (h1 : Kd.R (Kd.int .u64) 56 W' B (fun _ => True) p.2 t.f1) : NI rows rc B m1 m2 b g2 D HL vT vG ps w00 nm (acc ++ [t]) vN vX' (qs ++ [p]) (W'.setCells g2 2 [vX']) := by
  have hn : ∀ (k : Nat) (o : Obj), W.heap[k]? = some o → (∀ cs fr, o ≠ .cells cs 131 fr) → some k ≠ vX.ownBlock := fun k o ho hc e => by
    obtain ⟨inner, hw⟩ := Kd.R_own h.nodes
    obtain ⟨cells, hcc⟩ := own_typed hw k e.symm
    rw [hcc] at ho
    injection ho with ho
    exact hc _ _ ho.symm
  have hty : ∀ (cs : Array Value) (t : TypeId) (fr : Nat × Nat), t ≠ 131 → ∀ cs' fr', Obj.cells cs t fr ≠ .cells cs' 131 fr' := fun cs t fr ht cs' fr' e => by
    injection e with _ e
    exact ht e
  have hri : ∀ {k : IntKind} {e : Nat} {ok : Nat → Prop} {u : Value} {ys : List Int}, e ≠ 131 → Kd.R (Kd.int k) e W B ok u ys → Kd.R (Kd.int k) e W' B ok u ys := fun he hu => by
    refine (Kp.of_grown hg).RI hu (fun q hq e1 => ?_)
    obtain ⟨inner, hw⟩ := Kd.R_own hu
    obtain ⟨cells, hc⟩ := own_typed hw q hq
    exact hn q _ hc (hty _ _ _ he) e1
  have h2' : Holds W' g2 89 [vT, vG, vX] := holds_grown h.h2 hg (hn _ _ h.h2 (hty _ _ _ (by decide)))
  have hs := stored_cells W' g2 2 [vX']
  have hri2 : ∀ {k : IntKind} {e : Nat} {ok : Nat → Prop} {u : Value} {ys : List Int}, e ≠ 89 → Kd.R (Kd.int k) e W' B ok u ys → Kd.R (Kd.int k) e (W'.setCells g2 2 [vX']) B ok u ys := fun he hu => R_other hu h2' (fun q hq => by rcases List.mem_cons.1 hq with rfl | hq; exact he; cases hq) hs
  have hraw2 : ∀ {e : Nat} {ok : Nat → Prop} {u : Value} {ys : List (Value × Value)}, e ≠ 89 → Kd.R kraw e W' B ok u ys → Kd.R kraw e (W'.setCells g2 2 [vX']) B ok u ys := fun he hu => R_other hu h2' (fun q hq => by rcases List.mem_cons.1 hq with rfl | hq; exact he; cases hq) hs
  have hob : ∀ (k : Nat) (cs : List Value) (t : Nat), k ≠ g2 → t ≠ 131 → Holds W k t cs → Holds (W'.setCells g2 2 [vX']) k t cs := fun k cs t hkg ht hh => hs.holds (holds_grown hh hg (hn _ _ hh (hty _ _ _ ht))) hkg
  obtain ⟨DD, hD, hN⟩ := h.ns.map
  have hc1 : m1 ≠ g2 := fun e => by
    subst e
    have h3 := (show _ = _ from h.ns.c1).symm.trans (show _ = _ from h.h2)
    injection h3 with h3
    injection h3 with _ h3
    exact absurd h3 (by decide)
  have hc2 : m2 ≠ g2 := fun e => by
    subst e
    have h3 := (show _ = _ from h.ns.c2).symm.trans (show _ = _ from h.h2)
    injection h3 with h3
    injection h3 with _ h3
    exact absurd h3 (by decide)
  have hD1 : W'.ownsMap Try.prog 3 (plainElem Try.prog 3) b nm.length DD := hD.kept hg (fun e => by
    obtain ⟨es, clock, hb, _⟩ := hD
    exact hn b _ hb (fun _ _ e2 => by cases e2) (by first | exact e | exact e.symm))
  have hgs : W'.grownBy (W'.setCells g2 2 [vX']) (some g2) := ⟨hs.os, hs.tape, hs.output, Nat.le_of_eq hs.size.symm, fun k _ hk => hs.block k (fun e => hk (by rw [e]))⟩
  have hdne : D ≠ g2 := fun e => by
    subst e
    have h3 := h.dfr.symm.trans (show _ = _ from h.h2)
    injection h3 with h3
    cases h3
  have hrow' : ∀ u ys, OI .i64 3 W B vN u ys → OI .i64 3 (W'.setCells g2 2 [vX']) B vN u ys := fun u ys hu => hri2 (by decide) (hri (by decide) hu)
  have hrow56 : ∀ u ys, OI .u64 56 W B vN u ys → OI .u64 56 (W'.setCells g2 2 [vX']) B vN u ys := fun u ys hu => hri2 (by decide) (hri (by decide) hu)
  have hels : Els S127.f0 S127.f1 .u64 56 (W'.setCells g2 2 [vX']) B vN qs acc := ⟨h.els.1, fun i p t hp ht => ⟨hrow' _ _ (h.els.2 i p t hp ht).1, hrow56 _ _ (h.els.2 i p t hp ht).2⟩⟩
  have hrN : Kd.R (Kd.int .i64) 3 W' B (fun _ => True) vN nm := hri (by decide) h.ns.row
  refine ⟨⟨hob _ _ _ hc1 (by decide) h.ns.c1, hob _ _ _ hc2 (by decide) h.ns.c2, ⟨DD, hD1.kept hgs (fun e => by injection e with e; exact hold_ne_map h2' hD1 e.symm), hN⟩, hri2 (by decide) hrN⟩, fun j => hrow' _ _ (h.rows j), ?_, fun x hx2 => ?_, ?_, hraw2 (by decide) hx, hels.push (hrow' _ _ h0) (hri2 (by decide) ⟨fun q hq => ⟨trivial, fun e => ?_⟩, h1.2.imp_ (fun _ _ hp => hp)⟩), ?_, ?_, ?_⟩
  · exact holds_cells (vs := [vX']) h2' (by show 2 + 1 ≤ 3; decide)
  · by_cases ht : x.2.1 = 131
    · exact absurd ht (hHL x hx2).1
    · exact hob _ _ _ (hHL x hx2).2 ht (h.hs x hx2)
  · refine hraw2 (by decide) (raw_step (Kp.of_grown hg) h.raw (fun k cs fr hc => ?_))
    exact hn k _ hc (hty _ _ _ (by decide))
  · obtain ⟨inner, hw⟩ := Kd.R_own h1
    obtain ⟨cells, hc⟩ := own_typed hw q hq
    obtain ⟨inner2, hw2⟩ := Kd.R_own hrN
    obtain ⟨cells2, hc2⟩ := own_typed hw2 q e.symm
    rw [hc] at hc2
    injection hc2 with hc2
    injection hc2 with _ hc2
    exact absurd hc2 (by decide)
  · rw [hs.block D hdne]
    exact (hg.block D (Array.getElem?_eq_some_iff.1 h.dfr).1 (hn _ _ h.dfr (fun _ _ e => by cases e))).trans h.dfr
  · refine hs.below (h.below.grown hg h.size (fun k hk => ?_)) hB2
    exact Kd.R_base h.nodes k hk
  · rw [hs.size]
    exact Nat.le_trans h.size hg.size
/-- Before the first node. -/
theorem NI.start {x : Value} (hns : NS W B m1 m2 b vN nm) (hrows : ∀ j, OI .i64 3 W B vN (rows.getD j (.slice none 0 0)) (rc j)) (h2 : Holds W g2 89 [vT, vG, x]) (hHL : ∀ x ∈ HL, x.1 ≠ g2) (hhs : ∀ x ∈ HL, Holds W x.1 x.2.1 x.2.2) (hraw : Kd.R kraw 128 W B (fun _ => True) vT ps) (hdfr : W.heap[D]? = some (.deferred (some []))) (hbelow : Below B w00 W) (hsize : B ≤ W.heap.size) (hB2 : B ≤ g2) :
    NI rows rc B m1 m2 b g2 D HL vT vG ps w00 nm [] vN (.slice none 0 0) [] (W.setCells g2 2 [.slice none 0 0]) := by
  have hs := stored_cells W g2 2 [.slice none 0 0]
  have hri2 : ∀ {k : IntKind} {e : Nat} {ok : Nat → Prop} {u : Value} {ys : List Int}, e ≠ 89 → Kd.R (Kd.int k) e W B ok u ys → Kd.R (Kd.int k) e (W.setCells g2 2 [.slice none 0 0]) B ok u ys := fun he hu => R_other hu h2 (fun q hq => by rcases List.mem_cons.1 hq with rfl | hq; exact he; cases hq) hs
  have hraw2 : ∀ {e : Nat} {ok : Nat → Prop} {u : Value} {ys : List (Value × Value)}, e ≠ 89 → Kd.R kraw e W B ok u ys → Kd.R kraw e (W.setCells g2 2 [.slice none 0 0]) B ok u ys := fun he hu => R_other hu h2 (fun q hq => by rcases List.mem_cons.1 hq with rfl | hq; exact he; cases hq) hs
  obtain ⟨DD, hD, hN⟩ := hns.map
  have hc1 : m1 ≠ g2 := fun e => by
    subst e
    have h3 := (show _ = _ from hns.c1).symm.trans (show _ = _ from h2)
    injection h3 with h3
    injection h3 with _ h3
    exact absurd h3 (by decide)
  have hc2 : m2 ≠ g2 := fun e => by
    subst e
    have h3 := (show _ = _ from hns.c2).symm.trans (show _ = _ from h2)
    injection h3 with h3
    injection h3 with _ h3
    exact absurd h3 (by decide)
  have hgs : W.grownBy (W.setCells g2 2 [.slice none 0 0]) (some g2) := ⟨hs.os, hs.tape, hs.output, Nat.le_of_eq hs.size.symm, fun k _ hk => hs.block k (fun e => hk (by rw [e]))⟩
  have hdne : D ≠ g2 := fun e => by
    subst e
    have h3 := hdfr.symm.trans (show _ = _ from h2)
    injection h3 with h3
    cases h3
  refine ⟨⟨hs.holds hns.c1 hc1, hs.holds hns.c2 hc2, ⟨DD, hD.kept hgs (fun e => by injection e with e; exact hold_ne_map h2 hD e.symm), hN⟩, hri2 (by decide) hns.row⟩, fun j => hri2 (by decide) (hrows j), ?_, fun x hx2 => hs.holds (hhs x hx2) (hHL x hx2), hraw2 (by decide) hraw, Kd.R_nil _ _ _ _ _, Els.nil, ?_, hs.below hbelow hB2, by rw [hs.size]; exact hsize⟩
  · exact holds_cells (vs := [.slice none 0 0]) h2 (by show 2 + 1 ≤ 3; decide)
  · rw [hs.block D hdne]
    exact hdfr
/-- Behind the last node: the result stored, the loop's block shut. -/
theorem NI.close {w5 : World} {g4 : Nat} {zs : List Value} (h : NI rows rc B m1 m2 b g2 D HL vT vG ps w00 nm acc vN vX qs W) (hz : Holds W g4 89 zs) (hs : Stored W w5 g4) (hBD : B ≤ D) (hB4 : B ≤ g4) :
    Kd.R kraw 128 (w5.putObj D (.deferred none)) B (fun _ => True) vT ps ∧ (∀ j, Kd.R (Kd.int .i64) 3 (w5.putObj D (.deferred none)) B (fun _ => True) (rows.getD j (.slice none 0 0)) (rc j)) ∧ Kd.R kraw 131 (w5.putObj D (.deferred none)) B (fun _ => True) vX qs ∧ Els S127.f0 S127.f1 .u64 56 (w5.putObj D (.deferred none)) B vN qs acc ∧ Below B w00 (w5.putObj D (.deferred none)) := by
  have hk : Kp (fun k => k = D ∨ k = g4) W (w5.putObj D (.deferred none)) := ⟨hs.os, hs.tape, hs.output, by simp [hs.size], fun k hk hn => (World.putObj_heap_other (fun e => hn (.inl e))).trans (hs.block k (fun e => hn (.inr e)))⟩
  have hn : ∀ (k : Nat) (cs : Array Value) (t : TypeId) (fr : Nat × Nat), W.heap[k]? = some (.cells cs t fr) → t ≠ 89 → ¬ (k = D ∨ k = g4) := fun k cs t fr ho ht e => by
    rcases e with rfl | rfl
    · rw [h.dfr] at ho
      injection ho with ho
      cases ho
    · have h3 := (show _ = _ from hz).symm.trans ho
      injection h3 with h3
      injection h3 with _ h3
      exact ht h3.symm
  have hri : ∀ {k : IntKind} {e : Nat} {ok : Nat → Prop} {u : Value} {ys : List Int}, e ≠ 89 → Kd.R (Kd.int k) e W B ok u ys → Kd.R (Kd.int k) e (w5.putObj D (.deferred none)) B ok u ys := fun he hu => hk.RI hu (fun q hq hS => by
    obtain ⟨inner, hw⟩ := Kd.R_own hu
    obtain ⟨cells, hc⟩ := own_typed hw q hq
    exact hn q _ _ _ hc he hS)
  refine ⟨raw_step hk h.raw (fun k cs fr hc => hn k cs _ fr hc (by decide)), fun j => ?_, raw_step hk h.nodes (fun k cs fr hc => hn k cs _ fr hc (by decide)), ⟨h.els.1, fun i p t hp ht => ⟨hri (by decide) (h.els.2 i p t hp ht).1, hri (by decide) (h.els.2 i p t hp ht).2⟩⟩, hk.below h.below h.size (fun k hS => by omega)⟩
  have h1 := hri (by decide) (h.rows j)
  exact ⟨fun q _ => trivial, h1.2.imp_ (fun _ _ hp => hp)⟩
end
/-- A region that hangs a pair on a row: operation j appends. -/
def GA (j : Nat) (own : Option Nat) (k : Nat) (w w' : World) : Prop := if k = j then w.grownBy w' own else Below w.heap.size w w'
theorem GA.grown {j : Nat} {own : Option Nat} {k : Nat} {w w' : World} (h : GA j own k w w') : w.grownBy w' own := by
  unfold GA at h
  split at h
  · exact h
  · exact grown_of_below h own
theorem GA.other {j : Nat} {own : Option Nat} {k : Nat} {w w' : World} (h : GA j own k w w') (hk : k ≠ j) : Below w.heap.size w w' := by
  unfold GA at h
  rwa [if_neg hk] at h
theorem GA.same {j : Nat} {own : Option Nat} {w w' : World} (h : w.grownBy w' own) : GA j own j w w' := by
  unfold GA
  rwa [if_pos rfl]
def A16a (f1 : List Int) (B : Nat) (vX vr v : Value) (w : World) : Prop := ∃ b, v = .agg #[vr, b] ∧ OI .u64 56 w B vX b f1
def A16b (f1 : List Int) (B : Nat) (vX vr v : Value) (w : World) : Prop := ∃ b A, v = .slice (some ⟨A, 0, none⟩) 1 1 ∧ Holds w A 131 [vr, b] ∧ some A ≠ vX.ownBlock ∧ OI .u64 56 w B vX b f1
def A16c (f1 : List Int) (B : Nat) (qs : List (Value × Value)) (vr v : Value) (w : World) : Prop := ∃ b, Kd.R kraw 131 w B (fun _ => True) v (qs ++ [(vr, b)]) ∧ Kd.R (Kd.int .u64) 56 w B (fun _ => True) b f1
def V16 (f1 : List Int) (B g2 g12 : Nat) (qs : List (Value × Value)) (vX vr x1 : Value) : Nat → Value → World → Prop
  | 0, v, _ => v = .pointer (some ⟨g2, 2, none⟩)
  | 1, v, _ => v = vX
  | 2, v, _ => v = .pointer (some ⟨g12, 0, none⟩)
  | 3, v, _ => v = vr
  | 4, v, _ => v = .pointer (some ⟨g12, 1, none⟩)
  | 5, v, _ => v = x1
  | 6, v, w => OI .u64 56 w B vX v f1
  | 7, v, w => A16a f1 B vX vr v w
  | 8, v, w => A16b f1 B vX vr v w
  | 9, v, w => A16c f1 B qs vr v w
  | 10, v, _ => v = .pointer (some ⟨g2, 2, none⟩)
  | _, _, _ => True
theorem V16_stays (f1 : List Int) (B g2 g12 : Nat) (qs : List (Value × Value)) (vX vr x1 : Value) (i j : Nat) (v : Value) (w w' : World) (hij : i ≠ j) (h : V16 f1 B g2 g12 qs vX vr x1 j v w) (hb : GA 9 vX.ownBlock i w w') : V16 f1 B g2 g12 qs vX vr x1 j v w' := by
  by_cases hj : j = 9
  · subst hj
    have hb := hb.other hij
    obtain ⟨p, h1, h2⟩ := (show A16c f1 B qs vr v w from h)
    exact (show A16c f1 B qs vr v w' from ⟨p, Kd.R_below h1 hb, Kd.R_below h2 hb⟩)
  · have hg := hb.grown
    unfold V16 at h ⊢
    split at h <;> first | exact h | exact Kd.R_grown h hg (fun q hq => hq.2) | (obtain ⟨b, h1, h2⟩ := h; exact ⟨b, h1, Kd.R_grown h2 hg (fun q hq => hq.2)⟩) | (obtain ⟨b, A, h1, h2, h3, h5⟩ := h; exact ⟨b, A, h1, holds_grown h2 hg h3, h3, Kd.R_grown h5 hg (fun q hq => hq.2)⟩) | exact absurd rfl hj | trivial
end Go.Proofs.Ytgojfecpknonlaa.Im

