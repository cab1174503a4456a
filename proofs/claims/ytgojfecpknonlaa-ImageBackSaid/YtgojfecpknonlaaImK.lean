/- A shape numbered: function 100. -/
import Derived.Test.YtgojfecpknonlaaImM
import Derived.Laws.EntriesVeiled
namespace Go.Proofs.Ytgojfecpknonlaa.Im
open Go.RowKit Go.Shelf Go.Proofs.YtgojfecpknonlaaW.PrintWords Go.Proofs.YtgojfecpknonlaaW.PrintLast Go.Proofs.YtgojfecpknonlaaW.PrintMore
open Go.Proofs.Ytgojfecpknonlaa.Own Go.Proofs.Ytgojfecpknonlaa.PIm Go.Proofs.Ytgojfecpknonlaa.Wv
set_option linter.unusedVariables false
set_option linter.unusedSimpArgs false
attribute [local go_sem] Oper.semAt_some

def HLof' (gz s p3 p4 : Nat) (vN0 : Value) : List (Nat × Nat × List Value) :=
  [(s + 1, 89, z89), (s + 1 + 1 + 1 + 1 + 1, 130, [.func (.func 112) #[] #[.pointer (some ⟨s + 1 + 1 + 1, 0, none⟩), .pointer (some ⟨s + 1 + 1 + 1 + 1, 0, none⟩)]]), (p3, 87, [vN0]), (p4, 156, [.func (.func 97) #[] #[.pointer (some ⟨p3, 0, none⟩)]]), (gz, 89, z89)]
theorem hold_alloc {W : World} {g t : Nat} {cs : List Value} (h : g = W.heap.size) : Holds (W.alloc (.cells cs.toArray t)) g t cs := by
  subst h
  exact blk_new _ _
theorem holds_alloc {W : World} {g t : Nat} {cs : List Value} (h : Holds W g t cs) (o : Obj) : Holds (W.alloc o) g t cs := h.below (below_alloc (Below.refl _ _) o)
def HLof (gz s p3 p4 : Nat) (sh : List Value) (vN0 : Value) : List (Nat × Nat × List Value) :=
  [(s, 89, sh), (s + 1, 89, z89), (s + 1 + 1 + 1 + 1 + 1, 130, [.func (.func 112) #[] #[.pointer (some ⟨s + 1 + 1 + 1, 0, none⟩), .pointer (some ⟨s + 1 + 1 + 1 + 1, 0, none⟩)]]), (p3, 87, [vN0]), (p4, 156, [.func (.func 97) #[] #[.pointer (some ⟨p3, 0, none⟩)]]), (gz, 89, z89)]
set_option maxRecDepth 100000 in
set_option maxHeartbeats 2000000 in
theorem numbered_calls (ps : List (Value × Value)) (AT : Option Addr) (cT : Nat) (AG : Option Addr) (nG cG : Nat) (vN0 : Value) (A3 : Option Addr) (n3 c3 : Nat) (N : List S127) (p3 p4 : Nat) (c : Nat → List Int) (B : Nat) (w00 w : World)
    (hN0 : vN0 = .slice A3 N.length c3) (hps : ps.length ≤ 300) (hsl : ∀ p ∈ ps, ∃ A0 n0 c0 A1 n1 c1, p = (.slice A0 n0 c0, .slice A1 n1 c1))
    (hNC : Kd.C k127 w00 A3 N.length N) (hBe : B = w00.heap.size) (hNl : N.length ≤ 500000) (hNs : ∀ t ∈ N, t.f0.length ≤ 1000 ∧ t.f1.length ≤ 1000)
    (hrow : Kd.R kraw 128 w B (fun _ => True) (.slice AT ps.length cT) ps) (hI : ∀ j, Kd.R (Kd.int .i64) 3 w B (fun _ => True) ((rowsV ps (.slice AG nG cG)).getD j (.slice none 0 0)) (c j))
    (hap : ∀ j k q, k ≠ j → ((rowsV ps (.slice AG nG cG)).getD k (.slice none 0 0)).ownBlock = some q → ((rowsV ps (.slice AG nG cG)).getD j (.slice none 0 0)).ownBlock ≠ some q)
    (hc : ∀ j, (c j).length ≤ 1000) (hv : ∀ j, ∀ x ∈ c j, 0 ≤ x ∧ x ≤ N.length)
    (h3 : Holds w p3 87 [vN0]) (h4 : Holds w p4 156 [.func (.func 97) #[] #[.pointer (some ⟨p3, 0, none⟩)]]) (gz : Nat) (hz : Holds w gz 89 z89) (hB : Below B w00 w) (hBw : B ≤ w.heap.size) :
    Calls Try.prog 100 #[.agg #[.slice AT ps.length cT, .slice AG nG cG, vN0], .func (.func 101) #[] #[.pointer (some ⟨p4, 0, none⟩), .pointer (some ⟨p3, 0, none⟩)]] w fun e w' => ∃ (vX : Value) (qs : List (Value × Value)), e = .returned (.tuple #[.agg #[.slice AT ps.length cT, .slice AG nG cG, vX], .bool true]) ∧ Kd.R kraw 128 w' B (fun _ => True) (.slice AT ps.length cT) ps ∧ (∀ j, Kd.R (Kd.int .i64) 3 w' B (fun _ => True) ((rowsV ps (.slice AG nG cG)).getD j (.slice none 0 0)) ((stR c (List.range (2 * ps.length + 1))).2 j)) ∧ Kd.R kraw 131 w' B (fun _ => True) vX qs ∧ (∃ vN, Els S127.f0 S127.f1 .u64 56 w' B vN qs (nodesF N N.length 0 (stR c (List.range (2 * ps.length + 1))).1 []).2) ∧ Below B w00 w' ∧ Holds w' gz 89 z89 := by
  subst hN0
  have hv6 : ∀ j, ∀ x ∈ c j, 0 ≤ x ∧ x ≤ 1000000 := fun j x hx => ⟨(hv j x hx).1, by have := (hv j x hx).2; omega⟩
  have hu89 := Try.underlying89
  refine (callsIn_wide (n := 3)).1 ?_
  refine callsIn_of_wp_marks Try.func100 rfl trivial ?_
  refine wpIn_wide.2 ?_
  simp only [Try.ntmps100, List.size_toArray, List.length_cons, List.length_nil, Nat.reduceAdd, Nat.reduceSub, Array.replicate_succ, Array.replicate_zero, List.push_toArray, List.append_toArray, List.nil_append, List.cons_append]
  obtain ⟨Q0, hQ0⟩ : ∃ Q0, Q0 = bodyPostM Fence.wide 3 Try.prog Try.f100 (fun e w' => ∃ (vX : Value) (qs : List (Value × Value)), e = .returned (.tuple #[.agg #[.slice AT ps.length cT, .slice AG nG cG, vX], .bool true]) ∧ Kd.R kraw 128 w' B (fun _ => True) (.slice AT ps.length cT) ps ∧ (∀ j, Kd.R (Kd.int .i64) 3 w' B (fun _ => True) ((rowsV ps (.slice AG nG cG)).getD j (.slice none 0 0)) ((stR c (List.range (2 * ps.length + 1))).2 j)) ∧ Kd.R kraw 131 w' B (fun _ => True) vX qs ∧ (∃ vN, Els S127.f0 S127.f1 .u64 56 w' B vN qs (nodesF N N.length 0 (stR c (List.range (2 * ps.length + 1))).1 []).2) ∧ Below B w00 w' ∧ Holds w' gz 89 z89) := ⟨_, rfl⟩
  rw [← hQ0]
  have hmf : ∀ (fn : Fn) (first cap : Array Value) (w : World), (Instr.makeFunc fn first cap).run Try.prog w = .ok (.func fn first cap) w := fun _ _ _ _ => rfl
  have hmm : ∀ (w : World), (Instr.makeMap 168 none).run Try.prog w = .ok (.map (some w.heap.size)) (w.alloc (.map #[] 0)) := fun w => rfl
  go_wp2_with (go_at_call 113; refine (callsIn_wide.1 (rows_in Fence.wide 3 trivial rfl _ _)).mono ?_; rintro e w5 ⟨rfl, hw5⟩)
  have hbr : ∀ o : Obj, True := fun _ => trivial
  clear hw5 w5
  obtain ⟨W7, hW7⟩ : ∃ W7, W7 = (((((((w.alloc (.cells #[.slice AT ps.length cT, .slice AG nG cG, .slice A3 N.length c3] 89)).alloc (.cells #[.slice none 0 0, .slice none 0 0, .slice none 0 0] 89)).alloc (.map #[] 0)).alloc (.cells #[.map (some (w.heap.size + 1 + 1))] 168)).alloc (.cells #[.slice none 0 0] 26)).alloc (.cells #[.func (.func 112) #[] #[.pointer (some ⟨w.heap.size + 1 + 1 + 1, 0, none⟩), .pointer (some ⟨w.heap.size + 1 + 1 + 1 + 1, 0, none⟩)]] 130)).alloc (.cells #[.pointer (some ⟨w.heap.size, 0, none⟩)] 177)) := ⟨_, rfl⟩
  have e2 : Holds W7 w.heap.size 89 [.slice AT ps.length cT, .slice AG nG cG, .slice A3 N.length c3] := by rw [hW7]; exact holds_alloc (holds_alloc (holds_alloc (holds_alloc (holds_alloc (holds_alloc (hold_alloc (by simp)) _) _) _) _) _) _
  have e4 : Holds W7 (w.heap.size + 1) 89 z89 := by rw [hW7]; exact holds_alloc (holds_alloc (holds_alloc (holds_alloc (holds_alloc (hold_alloc (by simp)) _) _) _) _) _
  have em : W7.ownsMap (H := Unit) Try.prog 3 (plainElem Try.prog 3) (w.heap.size + 1 + 1) 0 (.map []) := by
    rw [hW7]
    have h := World.ownsMap_made (H := Unit) ((w.alloc (.cells #[.slice AT ps.length cT, .slice AG nG cG, .slice A3 N.length c3] 89)).alloc (.cells #[.slice none 0 0, .slice none 0 0, .slice none 0 0] 89)) Try.prog 3 (plainElem Try.prog 3)
    rw [World.size_alloc, World.size_alloc] at h
    exact (((h.alloc _).alloc _).alloc _).alloc _
  have e1 : Holds W7 (w.heap.size + 1 + 1 + 1) 168 [.map (some (w.heap.size + 1 + 1))] := by rw [hW7]; exact holds_alloc (holds_alloc (holds_alloc (hold_alloc (by simp)) _) _) _
  have e26 : Holds W7 (w.heap.size + 1 + 1 + 1 + 1) 26 [.slice none 0 0] := by rw [hW7]; exact holds_alloc (holds_alloc (hold_alloc (by simp)) _) _
  have e9 : Holds W7 (w.heap.size + 1 + 1 + 1 + 1 + 1) 130 [.func (.func 112) #[] #[.pointer (some ⟨w.heap.size + 1 + 1 + 1, 0, none⟩), .pointer (some ⟨w.heap.size + 1 + 1 + 1 + 1, 0, none⟩)]] := by rw [hW7]; exact holds_alloc (hold_alloc (by simp)) _
  have eS : Holds W7 (w.heap.size + 1 + 1 + 1 + 1 + 1 + 1) 177 [.pointer (some ⟨w.heap.size, 0, none⟩)] := by rw [hW7]; exact hold_alloc (by simp)
  have hb7 : Below w.heap.size w W7 := by rw [hW7]; exact below_alloc (below_alloc (below_alloc (below_alloc (below_alloc (below_alloc (below_alloc (Below.refl _ _) _) _) _) _) _) _) _
  have hs7 : W7.heap.size = w.heap.size + 7 := by rw [hW7]; simp
  rw [← hW7]
  clear hW7 hbr
  have hB7 : Below B w00 W7 := below_then hB hBw hb7
  have hrow7 := Kd.R_below hrow hb7
  have hRI0 : RI c (rowsV ps (.slice AG nG cG)) B (w.heap.size + 1 + 1 + 1) (w.heap.size + 1 + 1 + 1 + 1) (w.heap.size + 1 + 1) (HLof gz w.heap.size p3 p4 [.slice AT ps.length cT, .slice AG nG cG, .slice A3 N.length c3] (.slice A3 N.length c3)) (.slice AT ps.length cT) ps w00 [] W7 := by
    refine ⟨⟨.slice none 0 0, ⟨e1, e26, ⟨.map [], em, numD_nil⟩, Kd.R_nil _ _ _ _ _⟩, fun j => ?_⟩, fun x hx => ?_, hrow7, hB7, by omega⟩
    · exact Kd.R_mono (Kd.R_below (hI j) hb7) (fun q _ => ⟨trivial, by simp [Value.ownBlock]⟩)
    · simp only [HLof, List.mem_cons, List.not_mem_nil, or_false] at hx
      rcases hx with rfl | rfl | rfl | rfl | rfl | rfl
      · exact e2
      · exact e4
      · exact e9
      · exact h3.below hb7
      · exact h4.below hb7
      · exact hz.below hb7
  refine (wpIn_wide (n := 3)).1 ?_
  refine wpIn_rangeFunc_ownG (n := 3) rfl (by decide) (gf := 117) (lb := #[.pointer (some ⟨w.heap.size + 1 + 1 + 1 + 1 + 1 + 1, 0, none⟩)]) rfl trivial (enters_ Try.func117 (by kernel_rfl) rfl)
    (rows_stops Fence.wide 2 trivial rfl (by decide) (w.heap.size + 1 + 1 + 1 + 1 + 1 + 1) w.heap.size B ps AT cT AG nG cG (.slice A3 N.length c3) (by omega) hsl W7 eS e2 hrow7) (fun h k => h.trans k) (fun W l o o' hl h hc _ => KT.putObj W l o o' h hc) (Below.refl _ _) (fun _ => rfl)
    (RI c (rowsV ps (.slice AG nG cG)) B (w.heap.size + 1 + 1 + 1) (w.heap.size + 1 + 1 + 1 + 1) (w.heap.size + 1 + 1) (HLof gz w.heap.size p3 p4 [.slice AT ps.length cT, .slice AG nG cG, .slice A3 N.length c3] (.slice A3 N.length c3)) (.slice AT ps.length cT) ps w00) (fun _ _ _ => False) (RI.own (by omega) (by omega)) (fun _ _ _ _ _ h _ _ => h) hRI0
    (fun x => { tmps := List.toArray ((Value.agg #[.slice AT ps.length cT, .slice AG nG cG, .slice A3 N.length c3]) :: (Value.func (.func 101) #[] #[.pointer (some ⟨p4, 0, none⟩), .pointer (some ⟨p3, 0, none⟩)]) :: (Value.pointer (some ⟨w.heap.size, 0, none⟩)) :: (undef) :: (Value.pointer (some ⟨w.heap.size + 1, 0, none⟩)) :: (Value.bool false) :: (Value.pointer (some ⟨w.heap.size + 1 + 1 + 1, 0, none⟩)) :: (Value.pointer (some ⟨w.heap.size + 1 + 1 + 1 + 1, 0, none⟩)) :: (Value.bool true) :: (Value.pointer (some ⟨w.heap.size + 1 + 1 + 1 + 1 + 1, 0, none⟩)) :: (((rowsV ps (.slice AG nG cG)).getD x (.slice none 0 0))) :: (undef) :: (undef) :: (undef) :: (Value.map (some (w.heap.size + 1 + 1))) :: (Value.func (.func 112) #[] #[.pointer (some ⟨w.heap.size + 1 + 1 + 1, 0, none⟩), .pointer (some ⟨w.heap.size + 1 + 1 + 1 + 1, 0, none⟩)]) :: (Value.func (.func 117) #[] #[.pointer (some ⟨w.heap.size + 1 + 1 + 1 + 1 + 1 + 1, 0, none⟩)]) :: (((rowsV ps (.slice AG nG cG)).getD x (.slice none 0 0))) :: (undef) :: (undef) :: (undef) :: (undef) :: (undef) :: (undef) :: (undef) :: (undef) :: (undef) :: (undef) :: (undef) :: (undef) :: (undef) :: (undef) :: (undef) :: (undef) :: (undef) :: (undef) :: (undef) :: (undef) :: (undef) :: (undef) :: (undef) :: (undef) :: (undef) :: (undef) :: (undef) :: (undef) :: (undef) :: (undef) :: (undef) :: (undef) :: (undef) :: (undef) :: (undef) :: (undef) :: (undef) :: (undef) :: (undef) :: (undef) :: (undef) :: (undef) :: (undef) :: (undef) :: []), defers := [] }) ?assign ?body ?done ?stop
  case assign =>
    intro l x W K hK
    unfold encR
    obtain ⟨v, hv'⟩ : ∃ v, v = (rowsV ps (.slice AG nG cG)).getD x (.slice none 0 0) := ⟨_, rfl⟩
    rw [← hv'] at hK ⊢
    clear hv'
    gi_wp2
    exact hK
  case body =>
    intro l pre x W hR hlen
    obtain ⟨vN, hns, ho⟩ := hR.ns
    have hok := stOk_R (R := 1000) (M := 601) hc hv6 (by decide) pre.length pre rfl (by omega)
    have x9 : W.cell? ⟨w.heap.size + 1 + 1 + 1 + 1 + 1, 0, none⟩ = some (.func (.func 112) #[] #[.pointer (some ⟨w.heap.size + 1 + 1 + 1, 0, none⟩), .pointer (some ⟨w.heap.size + 1 + 1 + 1 + 1, 0, none⟩)]) := ((show Holds W (w.heap.size + 1 + 1 + 1 + 1 + 1) 130 [.func (.func 112) #[] #[.pointer (some ⟨w.heap.size + 1 + 1 + 1, 0, none⟩), .pointer (some ⟨w.heap.size + 1 + 1 + 1 + 1, 0, none⟩)]] from hR.hs _ (List.mem_cons_of_mem _ (List.mem_cons_of_mem _ List.mem_cons_self))).cell 0).trans rfl
    obtain ⟨v, hv'⟩ : ∃ v, v = (rowsV ps (.slice AG nG cG)).getD x (.slice none 0 0) := ⟨_, rfl⟩
    rw [← hv']
    have hlN := (numL_len ((stR c pre).2 x) (stR c pre).1).2
    have h1 := hok.nm
    have h2' := hok.len x
    have hnum := num_calls ((stR c pre).2 x) (stR c pre).1 v vN W B _ _ _ hns (by rw [hv']; exact ho x) (by have h5 : pre.length * 1000 ≤ 601 * 1000 := Nat.mul_le_mul_right _ (by omega); omega) (hok.val x) hR.size (by omega)
    have HV' := Aside0.mk hv'
    clear hv'
    gi_wp2_with (refine ⟨trivial, ?_⟩; gi_at_call 112; with_reducible refine (CallsIn.inRound l (callsIn_wide.2 hnum)).mono ?_; rintro e W' ⟨rfl, vN', hns', ho', hat, hk⟩)
    have hv' := HV'.out
    subst hv'
    obtain ⟨hRI, hKT⟩ := hR.round (by intro y hy; simp only [HLof, List.mem_cons, List.not_mem_nil, or_false] at hy; rcases hy with rfl | rfl | rfl | rfl | rfl | rfl <;> exact ⟨by simp, by simp⟩) (by omega) (by omega) hns ho (fun k q hk1 => hap x k q hk1) hns' ho' hat hk
    refine ⟨⟨hk.size, fun k o hB1 ho1 hc1 => (hk.block k (Array.getElem?_eq_some_iff.1 ho1).1 (fun hs => ?_)).trans ho1⟩, hKT, hRI⟩
    rcases hs with e | e | e | e
    · omega
    · subst e
      have h9 := (show _ = _ from hns.c2).symm.trans ho1
      injection h9 with h9
      subst h9
      cases hc1
    · obtain ⟨inner, hw⟩ := Kd.R_own hns.row
      obtain ⟨cells, hcc⟩ := own_typed hw k e.symm
      rw [hcc] at ho1
      injection ho1 with ho1
      subst ho1
      cases hc1
    · obtain ⟨inner, hw⟩ := Kd.R_own (ho x)
      obtain ⟨cells, hcc⟩ := own_typed hw k e.symm
      rw [hcc] at ho1
      injection ho1 with ho1
      subst ho1
      cases hc1
  case done =>
    intro D xs W hD hxs hR hdef
    subst hxs
    obtain ⟨vN, hns, ho⟩ := hR.ns
    have hok := stR_ok hv (2 * ps.length + 1) (List.range (2 * ps.length + 1)) (List.length_range)
    have HC := Aside0.mk hok.1
    obtain ⟨rc, hrc⟩ : ∃ rc, rc = (stR c (List.range (2 * ps.length + 1))).2 := ⟨_, rfl⟩
    obtain ⟨nm, hnm⟩ : ∃ nm, nm = (stR c (List.range (2 * ps.length + 1))).1 := ⟨_, rfl⟩
    rw [← hrc] at ho
    rw [← hnm] at hns HC
    have y2 := (show Holds W w.heap.size 89 [.slice AT ps.length cT, .slice AG nG cG, .slice A3 N.length c3] from hR.hs _ List.mem_cons_self)
    have hp3 := h3.lt
    have hp4 := h4.lt
    have hpz := hz.lt
    have HNI := Aside0.mk (NI.start (HL := HLof' gz w.heap.size p3 p4 (.slice A3 N.length c3)) (vG := .slice AG nG cG) hns ho y2 (by intro x hx; simp only [HLof', List.mem_cons, List.not_mem_nil, or_false] at hx; rcases hx with rfl | rfl | rfl | rfl | rfl <;> simp <;> omega) (fun x hx => hR.hs x (List.mem_cons_of_mem _ hx)) hR.raw hdef hR.below hR.size hBw)
    have z0 := (y2.cell 2).trans rfl
    have z1 := blk_frozen y2 2
    have HQ0 := Aside0.mk hQ0
    rw [← hrc, ← hnm] at HQ0
    have HNC := Aside0.mk hNC
    have HNs := Aside0.mk hNs
    have HNl := Aside0.mk hNl
    have HBw := Aside0.mk hBw
    have HBe := Aside0.mk hBe
    have HBD := Aside0.mk (show B ≤ D by omega)
    have Hsz := Aside0.mk (show p3 ≠ w.heap.size ∧ p4 ≠ w.heap.size ∧ gz ≠ w.heap.size by omega)
    have HPZ := Aside0.mk hpz
    clear hI hap hRI0 hrow hrow7 e2 e4 em e1 e26 e9 eS hb7 hB7 h3 h4 hz hpz hR hv hv6 hc hsl hok hrc hnm hns ho hp3 hp4 hs7 hB hBw hQ0 hNC hNs hNl hBe hps y2 hD
    go_wp2_with fail
    clear z0 z1
    go_loopg [8, 11] N.length (fun kq v8 v11 w' => ∃ (i : Nat) (nn : List Int) (acc : List S127) (vN vX : Value) (qs : List (Value × Value)), v8 = .bool true ∧ v11 = .int .i64 (i : Int) ∧ i + kq = N.length ∧ Aside0 (acc.length = i) ∧ Aside0 (NmOk N.length nn) ∧ Aside0 (nodesF N kq i nn acc = nodesF N N.length 0 nm []) ∧ Aside0 (NI (rowsV ps (.slice AG nG cG)) rc B (w.heap.size + 1 + 1 + 1) (w.heap.size + 1 + 1 + 1 + 1) (w.heap.size + 1 + 1) w.heap.size D (HLof' gz w.heap.size p3 p4 (.slice A3 N.length c3)) (.slice AT ps.length cT) (.slice AG nG cG) ps w00 nn acc vN vX qs w'))
    case atStart => exact ⟨0, nm, [], vN, .slice none 0 0, [], rfl, rfl, by omega, ⟨rfl⟩, HC, ⟨rfl⟩, HNI⟩
    case round =>
      clear HNI HC
      obtain ⟨i, nn, acc, vN, vX, qs, rfl, rfl, hi, HA, HC, HF, HNI⟩ := hrel
      obtain ⟨W0, rfl⟩ : ∃ W0, W0 = wr := ⟨wr, rfl⟩
      obtain ⟨AN, cN, rfl⟩ := Kd.R_slice HNI.out.ns.row
      have hlen := HC.out.len
      have x7 : W0.cell? ⟨w.heap.size + 1 + 1 + 1 + 1, 0, none⟩ = some (.slice AN nn.length cN) := (HNI.out.ns.c2.cell 0).trans rfl
      by_cases hlt : i < nn.length
      · obtain ⟨k1, rfl⟩ : ∃ k1, gk = k1 + 1 := ⟨gk - 1, by omega⟩
        have q1 : decide ((i : Int) < (nn.length : Int)) = true := decide_eq_true (by omega)
        have q2 : decide (i < nn.length) = true := decide_eq_true (by omega)
        have q3 : (0 : Int) ≤ (i : Int) := by omega
        have q4 : (i : Int) < (nn.length : Int) := by omega
        have hin : i < 1000000000 := by have := HNl.out; omega
        obtain ⟨gN, cap, he, hgw, hgl, _⟩ := Kd.R_form HNI.out.ns.row (by omega)
        injection he with he1 he2 he3
        subst he1 he3
        have hcl := (Kd.R_cell (0 : Int) HNI.out.ns.row (i : Int) (by omega) (by omega)).1
        have hxv := HC.out.val _ (List.getElem_mem hlt)
        obtain ⟨j, hj⟩ : ∃ j : Nat, nn[i] = (j : Int) + 1 := ⟨(nn[i] - 1).toNat, by omega⟩
        have hjN : j < N.length := by omega
        have hrd : rdOf (0 : Int) nn (i : Int) = (j : Int) + 1 := by
          unfold rdOf
          rw [Int.toNat_natCast, List.getD_eq_getElem?_getD, List.getElem?_eq_getElem hlt]
          exact hj
        rw [hrd, Int.toNat_natCast] at hcl
        have HJ := Aside0.mk (show nn.getD i 0 = (j : Int) + 1 by rw [List.getD_eq_getElem?_getD, List.getElem?_eq_getElem hlt]; exact hj)
        have HGT := Aside0.mk (show N.getD j z127' = N[j] by rw [List.getD_eq_getElem?_getD, List.getElem?_eq_getElem hjN]; rfl)
        have hp3 : W0.cell? ⟨p3, 0, none⟩ = some (.slice A3 N.length c3) := ((show Holds W0 p3 87 [.slice A3 N.length c3] from HNI.out.hs _ (List.mem_cons_of_mem _ (List.mem_cons_of_mem _ List.mem_cons_self))).cell 0).trans rfl
        have hp4 : W0.cell? ⟨p4, 0, none⟩ = some (.func (.func 97) #[] #[.pointer (some ⟨p3, 0, none⟩)]) := ((show Holds W0 p4 156 [.func (.func 97) #[] #[.pointer (some ⟨p3, 0, none⟩)]] from HNI.out.hs _ (List.mem_cons_of_mem _ (List.mem_cons_of_mem _ (List.mem_cons_of_mem _ List.mem_cons_self)))).cell 0).trans rfl
        have hNj := HNs.out _ (List.getElem_mem hjN)
        have HLt := Aside0.mk hlt
        have HOF := Aside0.mk (of_calls N (by have := HNl.out; omega) A3 c3 ⟨p3, 0, none⟩ ⟨p4, 0, none⟩ j hjN ⟨by omega, by omega⟩ w00 W0 HNC.out (by rw [← HBe.out]; exact HNI.out.below) hp3 hp4)
        have HNj := Aside0.mk hNj
        obtain ⟨t, ht⟩ : ∃ t, t = N[j] := ⟨_, rfl⟩
        rw [← ht] at HGT HNj HOF
        clear hNj hj hrd he2 hgw hgl hp3 hp4 hxv ht
        go_upto_region 13 with (go_at_call 101; refine HOF.out.mono ?_; rintro e w2 ⟨va, x1, rfl, hr, hv1, hb2⟩; obtain ⟨Aa, ca, rfl⟩ := Kd.R_slice hr; have HI1 := Aside0.mk hv1; obtain ⟨Ay, cy, rfl, _, _⟩ := hv1; have HR1 := Aside0.mk hr; have HB1 := Aside0.mk hb2; clear hr hb2)
        obtain ⟨W3, hW3⟩ : ∃ W3, W3 = w2.alloc (.cells #[.slice Aa (inF N.length t.f0).length ca, .slice Ay t.f1.length cy] 131) := ⟨_, rfl⟩
        have hb3 : Below w2.heap.size w2 W3 := by rw [hW3]; exact below_alloc (Below.refl _ _) _
        have HG := Aside0.mk (show Holds W3 w2.heap.size 131 [.slice Aa (inF N.length t.f0).length ca, .slice Ay t.f1.length cy] by rw [hW3]; exact blk_new _ _)
        have HB3 := Aside0.mk (below_then HB1.out HB1.out.size hb3)
        have HV3 := Aside0.mk (R_iv (Kd.R_below HR1.out hb3))
        have HW2 := Aside0.mk HB1.out.size
        have y0 := (HG.out.cell 0).trans rfl
        rw [← hW3]
        clear hW3 hb3 HR1 HB1 hcl x7
        go_upto_region 15 with (go_at_call 98; refine (c98 _ (inF N.length t.f0) _ HV3.out (by have := HNj.out.1; rw [inF_length]; omega)).mono ?_; rintro e w4 ⟨v0, rfl, hr, hb4⟩; have hy4 := blk_frozen (HG.out.below hb4) 0; have hy5 := ((HG.out.below hb4).cell 0).trans rfl; obtain ⟨A4, c4, rfl⟩ := Kd.R_slice hr; have HR4 := Aside0.mk hr; have HB4 := Aside0.mk hb4; clear hr hb4)
        obtain ⟨W5, hW5⟩ : ∃ W5, W5 = w4.setCells w2.heap.size 0 [.slice A4 (inF N.length t.f0).length c4] := ⟨_, rfl⟩
        have hs5 : Stored w4 W5 w2.heap.size := by rw [hW5]; exact stored_cells _ _ _ _
        have hG5 : Holds W5 w2.heap.size 131 [.slice A4 (inF N.length t.f0).length c4, .slice Ay t.f1.length cy] := by rw [hW5]; exact holds_cells (vs := [.slice A4 (inF N.length t.f0).length c4]) (HG.out.below HB4.out) (by show 0 + 1 ≤ 2; decide)
        have HB5 := Aside0.mk (hs5.below (below_then HB3.out HB3.out.size HB4.out) HW2.out)
        have HR5 := Aside0.mk (RT.other HR4.out (HG.out.below HB4.out) (by decide) hs5)
        have HR6 := Aside0.mk (Kd.R_lower HR5.out HB3.out.size)
        have HN5 := Aside0.mk (HNI.out.step HB5.out)
        have HG5 := Aside0.mk hG5
        rw [show w4.setCell ⟨w2.heap.size, 0, none⟩ (.slice A4 (inF N.length t.f0).length c4) = W5 from hW5.symm]
        have x9 : W5.cell? ⟨w.heap.size + 1 + 1 + 1 + 1 + 1, 0, none⟩ = some (.func (.func 112) #[] #[.pointer (some ⟨w.heap.size + 1 + 1 + 1, 0, none⟩), .pointer (some ⟨w.heap.size + 1 + 1 + 1 + 1, 0, none⟩)]) := ((show Holds W5 (w.heap.size + 1 + 1 + 1 + 1 + 1) 130 [.func (.func 112) #[] #[.pointer (some ⟨w.heap.size + 1 + 1 + 1, 0, none⟩), .pointer (some ⟨w.heap.size + 1 + 1 + 1 + 1, 0, none⟩)]] from HN5.out.hs _ (List.mem_cons_of_mem _ List.mem_cons_self)).cell 0).trans rfl
        have y5 := (hG5.cell 0).trans rfl
        have HOI := Aside0.mk (show OI .i64 3 W5 B (.slice (some ⟨gN, 0, none⟩) nn.length cN) (.slice A4 (inF N.length t.f0).length c4) (inF N.length t.f0) from Kd.R_lower (Kd.R_mono (Kd.R_bound HR6.out) (fun q hq => ⟨trivial, fun e => by have h1 := Kd.R_lt HNI.out.ns.row q e.symm; have h2 := hq.2.1; omega⟩)) HNI.out.size)
        have HNUM := Aside0.mk (num_calls (inF N.length t.f0) nn _ _ W5 B _ _ _ HN5.out.ns HOI.out (by have h1 := HNj.out.1; have h2 := HNl.out; have h3 := HC.out.len; rw [inF_length]; omega) (fun x hx => by have h1 := inF_val _ _ x hx; have h2 := HNl.out; omega) HN5.out.size (by have := HBw.out; omega))
        have HC2 := Aside0.mk (numL_ok HC.out (inF_val N.length t.f0))
        have HSN : Aside0 (¬ Sn (w.heap.size + 1 + 1) (w.heap.size + 1 + 1 + 1 + 1) (.slice (some ⟨gN, 0, none⟩) nn.length cN) (.slice A4 (inF N.length t.f0).length c4) w2.heap.size) := ⟨fun hs => by
          rcases Sn_obj HN5.out.ns HOI.out hs HG5.out with ⟨_, _, e⟩ | ⟨_, _, _, e, ht⟩
          · cases e
          · injection e with _ e
            rw [← e] at ht
            rcases ht with ht | ht <;> exact absurd ht (by decide)⟩
        clear hW5 hs5 hG5 y0 hy4 hy5
        go_upto_region 16 with (go_at_call 112; refine HNUM.out.mono ?_; rintro e W6 ⟨rfl, vN', hns', ho', hat, hk⟩; have HN6 := Aside0.mk (HNI.out.num (by intro y hy; simp only [HLof', List.mem_cons, List.not_mem_nil, or_false] at hy; rcases hy with rfl | rfl | rfl | rfl | rfl <;> exact ⟨by simp, by simp⟩) HB5.out HR6.out (by have := HBw.out; omega) (by have := HBw.out; omega) hns' hat hk); have HO6 := Aside0.mk ho'; have HG6 := Aside0.mk (hk.holds HG5.out HSN.out); clear hns' ho' hat hk)
        obtain ⟨Ar, cr, hvr⟩ : ∃ Ar cr, Ar = A4 ∧ cr = c4 := ⟨_, _, rfl, rfl⟩
        have hlt6 : ∀ k, vX.ownBlock = some k → k < W6.heap.size := Kd.R_lt HN6.out.nodes
        have hown6 : ∀ k, vX.ownBlock = some k → B ≤ k := Kd.R_base HN6.out.nodes
        have hne6 : ∀ (g' t' : Nat) (cs : List Value), Holds W6 g' t' cs → 131 ≠ t' → some g' ≠ vX.ownBlock := fun g' t' cs h h1 => Kd.R_ne HN6.out.nodes h h1
        have hgg : ∀ w1, W6.grownBy w1 vX.ownBlock → Holds w1 w.heap.size 89 [.slice AT ps.length cT, .slice AG nG cG, vX] := fun w1 hg => holds_grown HN6.out.h2 hg (hne6 _ 89 _ HN6.out.h2 (by decide))
        have hg12 : ∀ w1, W6.grownBy w1 vX.ownBlock → Holds w1 w2.heap.size 131 [.slice A4 (inF N.length t.f0).length c4, .slice Ay t.f1.length cy] := fun w1 hg => holds_grown HG6.out hg (fun e => by have h1 := Kd.R_lt HNI.out.nodes _ e.symm; have := HW2.out; omega)
        have hbw : ∀ w1, W6.grownBy w1 vX.ownBlock → Below B w00 w1 := fun w1 hg => HN6.out.below.grown hg HN6.out.size hown6
        have HQL := Aside0.mk HN6.out.els.1
        refine weaveG 11 62 (V16 t.f1 B w.heap.size w2.heap.size qs vX (.slice A4 (inF N.length t.f0).length c4) (.slice Ay t.f1.length cy)) (fun L w1 => W6.grownBy w1 vX.ownBlock ∧ (L.getD 9 false = false → Kd.R kraw 131 w1 B (fun _ => True) vX qs)) (GA 9 vX.ownBlock) (by kernel_rfl) (by rfl) (by kernel_rfl) ?j0 ?jj ?vv ?st ?en
        case j0 => exact ⟨grown_of_below (below_drew (Below.refl _ _)) _, fun _ => Kd.R_drew HN6.out.nodes⟩
        case jj =>
          intro k L w1 w2' hk hL hk0 hJ hG
          refine ⟨hJ.1.trans hG.grown, fun h10 => ?_⟩
          by_cases he : k = 9
          · subst he
            rw [Array.getD_eq_getD_getElem?, Array.getElem?_setIfInBounds_self_of_lt (by rw [hL]; decide)] at h10
            cases h10
          · rw [getD_set_ne false he] at h10
            exact Kd.R_below (hJ.2 h10) (hG.other he)
        case vv => exact fun k j v w1 w2' _ hkj _ h hG => V16_stays _ _ _ _ _ _ _ _ _ _ _ _ _ hkj h hG
        case st =>
          refine StepsG.cons (fun a w1 L fr hL hj hdf hd K hK => ?_) ?_
          · exact wp_val (fa89_exec (i := 2) (by decide) rfl ((fr 2 (by kernel_rfl)).trans rfl)) (hK _ _ (show GA 9 _ _ _ _ from Below.refl _ _) rfl)
          refine StepsG.cons (fun a w1 L fr hL hj hdf hd K hK => ?_) ?_
          · exact wp_val (load87_exec rfl (hd 0 49 (by kernel_rfl)) (((hgg w1 hj.1).cell 2).trans rfl)) (hK _ _ (show GA 9 _ _ _ _ from Below.refl _ _) rfl)
          refine StepsG.cons (fun a w1 L fr hL hj hdf hd K hK => ?_) ?_
          · exact wp_val (fa131_exec (i := 0) (by decide) rfl ((fr 12 (by kernel_rfl)).trans rfl)) (hK _ _ (show GA 9 _ _ _ _ from Below.refl _ _) rfl)
          refine StepsG.cons (fun a w1 L fr hL hj hdf hd K hK => ?_) ?_
          · exact wp_val (load26_exec rfl (hd 2 51 (by kernel_rfl)) (((hg12 w1 hj.1).cell 0).trans rfl)) (hK _ _ (show GA 9 _ _ _ _ from Below.refl _ _) rfl)
          refine StepsG.cons (fun a w1 L fr hL hj hdf hd K hK => ?_) ?_
          · exact wp_val (fa131_exec (i := 1) (by decide) rfl ((fr 12 (by kernel_rfl)).trans rfl)) (hK _ _ (show GA 9 _ _ _ _ from Below.refl _ _) rfl)
          refine StepsG.cons (fun a w1 L fr hL hj hdf hd K hK => ?_) ?_
          · exact wp_val (load125_exec rfl (hd 4 53 (by kernel_rfl)) (((hg12 w1 hj.1).cell 1).trans rfl)) (hK _ _ (show GA 9 _ _ _ _ from Below.refl _ _) rfl)
          refine StepsG.cons (fun a w1 L fr hL hj hdf hd K hK => ?_) ?_
          · have e1 : a.eval (.tmp 54) = (.slice Ay t.f1.length cy) := (hd 5 54 (by kernel_rfl))
            refine wp_call Try.func114 (by kernel_rfl) rfl #[(.slice Ay t.f1.length cy)] rfl (by simp only [List.map_toArray, List.map_cons, List.map_nil, e1]) ?_
            refine (c114 _ t.f1 _ (HI1.out.below (by rw [← HBe.out]; exact hbw w1 hj.1)) (by have := HNj.out.2; omega)).mono ?_
            rintro e w2' ⟨v0, rfl, hr, hb2⟩
            exact ⟨_, rfl, hK _ _ (show GA 9 _ _ _ _ from hb2) (show OI .u64 56 _ _ _ _ _ from Kd.R_lower (Kd.R_mono (Kd.R_bound hr) (fun q hq => ⟨trivial, fun e => by have h1 := hlt6 q e.symm; have h2 := hj.1.size; have h3 := hq.2.1; omega⟩)) (by have := hj.1.size; have := HN6.out.size; omega))⟩
          refine StepsG.cons (fun a w1 L fr hL hj hdf hd K hK => ?_) ?_
          · have e3 : a.eval (.tmp 52) = .slice A4 (inF N.length t.f0).length c4 := (hd 3 52 (by kernel_rfl))
            have h6 : OI .u64 56 w1 B vX (a.eval (.tmp 55)) t.f1 := (hd 6 55 (by kernel_rfl))
            obtain ⟨Ab, cb, eb⟩ := Kd.R_slice h6
            rw [eb] at h6
            exact wp_val (build131_exec rfl e3 eb) (hK _ _ (show GA 9 _ _ _ _ from Below.refl _ _) (show A16a _ _ _ _ _ _ from ⟨_, rfl, h6⟩))
          refine StepsG.cons (fun a w1 L fr hL hj hdf hd K hK => ?_) ?_
          · obtain ⟨vb, e7, h6⟩ : A16a t.f1 B vX (.slice A4 (inF N.length t.f0).length c4) (a.eval (.tmp 56)) w1 := (hd 7 56 (by kernel_rfl))
            obtain ⟨Ab, cb, rfl⟩ := Kd.R_slice h6
            exact wp_val (lit87_exec rfl e7) (hK _ _ (show GA 9 _ _ _ _ from below_alloc (Below.refl _ _) _) (show A16b _ _ _ _ _ _ from ⟨_, w1.heap.size, rfl, blk_new _ _, fun e => by (have h1 := hlt6 _ e.symm; have h2 := hj.1.size; omega), Kd.R_alloc h6 _⟩))
          refine StepsG.cons (fun a w1 L fr hL hj hdf hd K hK => ?_) ?_
          · obtain ⟨vb, Ap, e8, hh9, hne9, h6⟩ : A16b t.f1 B vX (.slice A4 (inF N.length t.f0).length c4) (a.eval (.tmp 57)) w1 := (hd 8 57 (by kernel_rfl))
            have e1 : a.eval (.tmp 50) = vX := (hd 1 50 (by kernel_rfl))
            have hrow := hj.2 hL
            have hc9 : Kd.C kraw w1 (some ⟨Ap, 0, none⟩) 1 [((.slice A4 (inF N.length t.f0).length c4), vb)] := C_block kraw hh9 (reps1 (kraw_mk w1 ((.slice A4 (inF N.length t.f0).length c4), vb) rfl (R_iv h6).one)) (by simp)
            refine append_wp kraw (w0 := w00) B 87 131 (.agg #[.slice none 0 0, .slice none 0 0]) 48 rfl Try.underlying87 info131r rfl (by decide) (by decide) vX qs [((.slice A4 (inF N.length t.f0).length c4), vb)] (some ⟨Ap, 0, none⟩) 1 1 (fun _ => True) e1 e8 (fun _ _ _ _ h => h) (fun _ _ => trivial) hrow hc9 (hbw w1 hj.1) (by have := hj.1.size; have := HN6.out.size; omega) (by have := HQL.out; have := HA.out; have := HNl.out; have := HLt.out; have := HC.out.len; omega) ?_
            intro v1 w2' hr1 hb1 hg1 hat
            exact hK _ _ (show GA 9 _ _ _ _ from GA.same hg1) (show A16c _ _ _ _ _ _ from ⟨_, hr1, (Kd.R_mono (Kd.R_after h6 hg1 hat) (fun _ _ => trivial))⟩)
          refine StepsG.cons (fun a w1 L fr hL hj hdf hd K hK => ?_) ?_
          · exact wp_val (fa89_exec (i := 2) (by decide) rfl ((fr 2 (by kernel_rfl)).trans rfl)) (hK _ _ (show GA 9 _ _ _ _ from Below.refl _ _) rfl)
          exact StepsG.nil
        case en =>
          intro vs w' L hJ hl hv
          have h9 : A16c t.f1 B qs (.slice A4 (inF N.length t.f0).length c4) (vs 9) w' := hv 9 58 (by decide) (by kernel_rfl)
          have h10 : vs 10 = .pointer (some ⟨w.heap.size, 2, none⟩) := hv 10 59 (by decide) (by kernel_rfl)
          obtain ⟨b1, hr, hu⟩ := h9
          obtain ⟨AZ, cZ, eZ⟩ := Kd.R_slice hr
          rw [eZ] at hr
          have hle : (qs ++ [(Value.slice A4 (inF N.length t.f0).length c4, b1)]).length = qs.length + 1 := by simp
          rw [hle] at eZ hr
          have hh := hgg w' hJ.1
          refine upto_some rfl ?_
          simp only [List.take_succ_cons, List.take_zero, putsOf, Act.put, List.setIfInBounds_toArray, List.set_cons_zero, List.set_cons_succ, h10, eZ]
          refine Wv.wp_skip (w' := w'.setCells w.heap.size 2 [.slice AZ (qs.length + 1) cZ]) rfl ?hr ?_
          case hr => exact store_scalar (.inr (.inl rfl)) rfl (by rfl) (by rfl) hh (by show 2 < 3; decide)
          go_wp2_with fail
          go_roundg k1
          case measure => have := HLt.out; omega
          case rel =>
            have hstep : nodesF N (k1 + 1) i nn acc = nodesF N k1 (i + 1) (numL nn (inF N.length t.f0)).1 (acc ++ [⟨(numL nn (inF N.length t.f0)).2, t.f1⟩]) := by
              have h1 : ((j : Int) + 1).toNat - 1 = j := by omega
              rw [nodesF, if_pos HLt.out, HJ.out, h1, HGT.out]
            refine ⟨i + 1, _, _, _, _, _, rfl, rfl, by omega, ⟨by rw [List.length_append, HA.out]; rfl⟩, HC2, ⟨hstep.symm.trans HF.out⟩, ⟨HN6.out.push ?_ hJ.1 HBw.out hr HO6.out hu⟩⟩
            intro x hx
            have hz := Hsz.out
            simp only [HLof', List.mem_cons, List.not_mem_nil, or_false] at hx
            rcases hx with rfl | rfl | rfl | rfl | rfl
            · exact ⟨by show (89 : Nat) ≠ 131; decide, by show w.heap.size + 1 ≠ w.heap.size; omega⟩
            · exact ⟨by show (130 : Nat) ≠ 131; decide, by show w.heap.size + 1 + 1 + 1 + 1 + 1 ≠ w.heap.size; omega⟩
            · exact ⟨by show (87 : Nat) ≠ 131; decide, hz.1⟩
            · exact ⟨by show (156 : Nat) ≠ 131; decide, hz.2.1⟩
            · exact ⟨by show (89 : Nat) ≠ 131; decide, hz.2.2⟩
      · have q1 : decide ((i : Int) < (nn.length : Int)) = false := decide_eq_false (by omega)
        have q2 : decide (i < nn.length) = false := decide_eq_false (by omega)
        have hfin : nodesF N gk i nn acc = (nn, acc) := nodesF_done N gk i nn acc (by omega)
        have HFin := Aside0.mk (HF.out.symm.trans hfin)
        clear hfin
        obtain ⟨AX, cX, rfl⟩ := Kd.R_slice HNI.out.nodes
        have hz := HNI.out.hs (w.heap.size + 1, 89, z89) List.mem_cons_self
        have HGZ := Aside0.mk (show Holds W0 gz 89 z89 from HNI.out.hs _ (List.mem_cons_of_mem _ (List.mem_cons_of_mem _ (List.mem_cons_of_mem _ (List.mem_cons_of_mem _ List.mem_cons_self)))))
        go_wp2_with (first
          | ((with_reducible refine gate_dst (N := 60) rfl ?_); refine load_event (g := w.heap.size) (off := 0) (t := 89) (cs := [.slice AT ps.length cT, .slice AG nG cG, .slice AX qs.length cX]) (seg := [.slice AT ps.length cT, .slice AG nG cG, .slice AX qs.length cX]) rfl rfl (by rfl) HNI.out.h2 (by rfl) Try.underlying89 rfl size89 ?_)
          | ((with_reducible refine gate_store (t := 89) (p := 4) rfl ?_); refine store_agg_event rfl (ty := 89) rfl rfl (g := w.heap.size + 1) (off := 0) (vs := #[.slice AT ps.length cT, .slice AG nG cG, .slice AX qs.length cX]) rfl rfl hz (by show 3 ≤ 3; decide) size89 (by simp [Value.oneCell']) ?_; intro w5 hh5 hs5; have HH5 := Aside0.mk hh5; have HS5 := Aside0.mk hs5; clear hh5 hs5))
        rw [HQ0.out]
        have hdne : D ≠ w.heap.size + 1 := fun e => by
          have h3 := HNI.out.dfr.symm.trans (e ▸ (show _ = _ from hz))
          injection h3 with h3
          cases h3
        refine ⟨by simp, .inl ⟨_, _, rfl, run_takeDeferred ((HS5.out.block D hdne).trans HNI.out.dfr), ?_⟩⟩
        obtain ⟨c1, c2, c3, c4, c5⟩ := HNI.out.close hz HS5.out HBD.out (Nat.le_trans HBw.out (Nat.le_succ _))
        refine ⟨_, results_cell2 rfl _ _ (w.heap.size + 1) 89 #[.slice AT ps.length cT, .slice AG nG cG, .slice AX qs.length cX] (0, 0) _ rfl ((World.putObj_heap_other hdne.symm).trans HH5.out) Try.underlying89 rfl size89, ?_⟩
        rw [HFin.out]
        refine ⟨_, qs, rfl, c1, c2, c3, ⟨_, c4⟩, c5, ?_⟩
        refine (World.putObj_heap_other (fun e => ?_)).trans (HS5.out.holds HGZ.out (by have := HPZ.out; omega))
        have h3 := HNI.out.dfr.symm.trans (e ▸ (show _ = _ from HGZ.out))
        injection h3 with h3
        cases h3
  case stop =>
    intro D cc pre W _ _ h _
    exact h.elim
end Go.Proofs.Ytgojfecpknonlaa.Im

