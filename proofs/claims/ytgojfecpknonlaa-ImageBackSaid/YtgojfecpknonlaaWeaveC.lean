/- Regions that draw their order: as weaveG; what is listed is closed under what it waits for. -/
import Derived.Test.YtgojfecpknonlaaWeave
namespace Go.Proofs.Ytgojfecpknonlaa.Wv
open Go.RowKit Go.Proofs.YtgojfecpknonlaaW.PrintWords Go.Proofs.YtgojfecpknonlaaW.PrintLast
set_option linter.unusedVariables false
set_option linter.unusedSimpArgs false
section
variable {P : Program} {ops : Array Oper} {Q : Exit → Act → World → Prop}

def waitsB (o : Oper) (j : Nat) : Bool := o.after.any fun e => Region.binds .any e && e.on == j
theorem waits_of {o : Oper} {j : Nat} (h : waitsB o j = true) : ∃ e ∈ o.after, Region.binds .any e = true ∧ e.on = j := by
  unfold waitsB at h
  obtain ⟨e, he, h1⟩ := Array.any_eq_true'.1 h
  simp only [Bool.and_eq_true, beq_iff_eq] at h1
  exact ⟨e, he, h1⟩
theorem closed_at {L : Array Bool} (h : ListedClosed .any ops L) {j i : Nat} {o : Oper} (ho : ops[j]? = some o) (hw : waitsB o i = true) (hj : L.getD j false = true) : L.getD i false = true := by
  obtain ⟨e, he, hb, rfl⟩ := waits_of hw
  exact h j o ho hj e he hb
def StepC (P : Program) (Q : Exit → Act → World → Prop) (ops : Array Oper) (n : Nat) (V : Nat → Value → World → Prop) (J : Array Bool → World → Prop) (G : Nat → World → World → Prop) (a0 : Act) (k : Nat) (o : Oper) : Prop :=
  ∀ a w L, (∀ t, noB ops n t = true → a.eval (.tmp t) = a0.eval (.tmp t)) → L.getD k false = false → J L w → a.defers = a0.defers →
    (∀ j t, depB ops o j t = true → V j (a.eval (.tmp t)) w) →
    ListedClosed .any ops L → (∀ j, waitsB o j = true → L.getD j false = true) → ∀ K : Act → World → Prop, (∀ v w', G k w w' → V k v w' → K (a.put o.dst v) w') → Oper.wp P o a w K Q
def StepsC (P : Program) (Q : Exit → Act → World → Prop) (ops : Array Oper) (n : Nat) (V : Nat → Value → World → Prop) (J : Array Bool → World → Prop) (G : Nat → World → World → Prop) (a0 : Act) : Nat → List Oper → Prop
  | _, [] => True
  | k, o :: r => StepC P Q ops n V J G a0 k o ∧ StepsC P Q ops n V J G a0 (k + 1) r
section
variable {n : Nat} {V : Nat → Value → World → Prop} {J : Array Bool → World → Prop} {G : Nat → World → World → Prop} {a0 : Act}
theorem StepsC.nil {k : Nat} : StepsC P Q ops n V J G a0 k [] := trivial
theorem StepsC.cons {k : Nat} {o : Oper} {r : List Oper} (h : StepC P Q ops n V J G a0 k o) (hr : StepsC P Q ops n V J G a0 (k + 1) r) : StepsC P Q ops n V J G a0 k (o :: r) := ⟨h, hr⟩
theorem StepsC.at : ∀ {l : List Oper} {k i : Nat} {o : Oper}, StepsC P Q ops n V J G a0 k l → l[i]? = some o → StepC P Q ops n V J G a0 (k + i) o
  | [], _, _, _, _, h => by simp at h
  | o' :: r, k, 0, o, hs, h => by
    obtain rfl : o' = o := by simpa using h
    exact hs.1
  | o' :: r, k, i + 1, o, hs, h => by
    have := StepsC.at hs.2 (i := i) (o := o) (by simpa using h)
    rwa [show k + 1 + i = k + (i + 1) by omega] at this
end
theorem weave_anyC {n N : Nat} (hw : Well ops N n) {a0 : Act} (hN : a0.tmps.size = N) {V : Nat → Value → World → Prop} {J : Array Bool → World → Prop} {G : Nat → World → World → Prop}
    (hJ : ∀ k L w w', k < n → L.size = ops.size → ListedClosed .any ops L → (∀ o, ops[k]? = some o → ∀ j, waitsB o j = true → L.getD j false = true) → L.getD k false = false → J L w → G k w w' → J (L.setIfInBounds k true) w') (hV : ∀ i j v w w', i < n → i ≠ j → Region.reachB .any ops i ops.size j = false → V j v w → G i w w' → V j v w')
    (hstep : ∀ i o, ops[i]? = some o → i < n → StepC P Q ops n V J G a0 i o)
    (hend : ∀ a w L, J L w → (∀ j, j < n → L.getD j false = true) → a.defers = a0.defers → (∀ j t, j < n → slotOf ops j = some t → V j (a.eval (.tmp t)) w) → a = putsOf (fun j => match slotOf ops j with | some t => a.eval (.tmp t) | none => undef) (ops.toList.take n) 0 a0 → upto P ops Q n a w) :
    ∀ (fuel : Nat) (L : Array Bool) (a : Act) (w : World), unl ops L ≤ fuel → Inv V J ops n a0 L a w → wpAny P .any ops Q fuel L a w := by
  have hdone : ∀ (L : Array Bool) (a : Act) (w : World), Inv V J ops n a0 L a w → Region.ready .any ops L = [] → Q .normal a w := by
    intro L a w hI hr
    have hall := all_listed hI.lsize hw.edge hr
    have hsz : ops.size = n := by
      rcases hw.size with h | ⟨h, _⟩
      · exact h
      · have h1 := hall n (by omega)
        rw [hI.last n (Nat.le_refl _)] at h1
        cases h1
    have := (hend a w L hI.below (fun j hj => hall j (by omega)) hI.defers (fun j t hj ht => hI.has j t hj ht (hall j (by omega))) (act_puts hw hN hI.size hI.defers hI.frame)).out
    rw [Array.getElem?_eq_none (by omega)] at this
    exact this
  intro fuel
  induction fuel with
  | zero =>
    intro L a w hu hI
    have hall : ∀ j, j < ops.size → L.getD j false = true := by
      intro j hj
      cases hL : L.getD j false with
      | true => rfl
      | false =>
        have : 0 < unl ops L := List.countP_pos_iff.2 ⟨j, List.mem_range.2 hj, by rw [getD_any (by have := hI.lsize; omega) true false, hL]; rfl⟩
        omega
    have hr := none_ready hI.lsize hall
    exact ⟨hr, hdone L a w hI hr⟩
  | succ fuel ih =>
    intro L a w hu hI
    refine ⟨hdone L a w hI, fun i hi => ?_⟩
    obtain ⟨hiun, o, ho, hafter⟩ := mem_ready.1 hi
    have hlt := (Array.getElem?_eq_some_iff.1 ho).1
    have hg := hw.guard i o ho
    have hunl := unl_set hI.lsize hlt hiun
    have hclosed := hI.closed.set hi
    unfold wpOp
    rw [ho]
    simp only
    have hwant : Region.wanted o (yielded ops a.tmps) = true := by unfold Region.wanted; rw [hg]
    rw [if_pos hwant]
    left
    by_cases hin : i < n
    · refine hstep i o ho hin a w L (fun t ht => eval_of (hI.frame t (no_slot ht))) (by rw [getD_any (by have := hI.lsize; omega) false true]; exact hiun) hI.below hI.defers (fun j t hj => ?_) hI.closed (fun j hw' => by obtain ⟨e, he, hb', rfl⟩ := waits_of hw'; exact hafter e he hb') _ (fun v w' hb hv => ?_)
      · obtain ⟨⟨e, he, hb, rfl⟩, ht⟩ := dep_of hj
        have := hw.edge i o ho e he hb
        exact hI.has _ t (by omega) ht (hafter e he hb)
      · refine ih _ _ _ (by omega) ⟨?_, ?_, ?_, ?_, ?_, hclosed, ?_, ?_⟩
        · rw [put_size, hI.size]
        · rw [put_defers, hI.defers]
        · intro t ht
          rw [put_ne _ _ _ _ (fun hd => ht i hin (by unfold slotOf; rw [ho]; exact hd)), hI.frame t ht]
        · intro j t hj ht hl
          by_cases hji : i = j
          · subst hji
            have hd : o.dst = some t := by unfold slotOf at ht; rw [ho] at ht; exact ht
            have htN := hw.slot i t ht
            rw [hd, eval_some (put_at a t v (by rw [hI.size, hN]; exact htN))]
            exact hv
          · rw [getD_set_ne false hji] at hl
            have hd : o.dst ≠ some t := fun hd => hji (hw.apart i j t (by unfold slotOf; rw [ho]; exact hd) ht)
            rw [eval_of (put_ne a o.dst v t hd)]
            refine hV i j _ w w' hin hji ?_ (hI.has j t hj ht hl) hb
            cases hrc : Region.reachB .any ops i ops.size j with
            | false => rfl
            | true =>
              have h1 := Region.reach_listed hI.closed _ _ hrc hl
              rw [getD_any (by have := hI.lsize; omega) false true, hiun] at h1
              cases h1
        · exact hJ i L w w' hin hI.lsize hI.closed (fun o' ho' j hw' => by rw [ho] at ho'; injection ho' with ho'; subst ho'; obtain ⟨e, he, hb', rfl⟩ := waits_of hw'; exact hafter e he hb') (by rw [getD_any (by have := hI.lsize; omega) false true]; exact hiun) hI.below hb
        · rw [Array.size_setIfInBounds, hI.lsize]
        · intro j hj
          rw [getD_set_ne false (show i ≠ j by omega)]
          exact hI.last j hj
    · obtain ⟨hsz, hreach⟩ : ops.size = n + 1 ∧ ∀ j, j < n → Region.reachB .any ops j ops.size n = true := by
        rcases hw.size with h | h
        · omega
        · exact h
      have hni : i = n := by omega
      subst hni
      have hun0 : L.getD i false = false := hI.last i (Nat.le_refl _)
      have hall : ∀ j, j < i → L.getD j false = true := by
        intro j hj
        cases hL : L.getD j false with
        | true => rfl
        | false =>
          have := Region.reach_not_ready hI.closed (hreach j hj) (by rw [getD_any (by have := hI.lsize; omega) true false]; exact hL)
          exact absurd hi this
      have hh := (hend a w L hI.below hall hI.defers (fun j t hj ht => hI.has j t hj ht (hall j hj)) (act_puts hw hN hI.size hI.defers hI.frame)).out
      rw [ho] at hh
      refine Oper.wp_mono (fun a' w' hq => ?_) hh
      have hsz' : (L.setIfInBounds i true).size = ops.size := by rw [Array.size_setIfInBounds, hI.lsize]
      have hr : Region.ready .any ops (L.setIfInBounds i true) = [] := none_ready hsz' (fun j hj => by
        by_cases hji : i = j
        · subst hji
          rw [Array.getD_eq_getD_getElem?, Array.getElem?_setIfInBounds_self_of_lt (by have := hI.lsize; omega)]
          rfl
        · rw [getD_set_ne false hji]
          exact hall j (by omega))
      cases fuel with
      | zero => exact ⟨hr, hq⟩
      | succ f => exact ⟨fun _ => hq, by rw [hr]; intro j hj; cases hj⟩

/-- A region that draws its order: each operation once, then what follows; J holds between operations, G of each one's step. -/
theorem weaveC {id : Nat} {a0 : Act} {w0 : World} (n N : Nat) (V : Nat → Value → World → Prop) (J : Array Bool → World → Prop) (G : Nat → World → World → Prop) (hm : P.follows .mixedOrders = true) (hN : a0.tmps.size = N) (hwell : wellB ops N n = true)
    (hJ0 : J (Array.replicate ops.size false) w0.drew) (hJ : ∀ k L w w', k < n → L.size = ops.size → ListedClosed .any ops L → (∀ o, ops[k]? = some o → ∀ j, waitsB o j = true → L.getD j false = true) → L.getD k false = false → J L w → G k w w' → J (L.setIfInBounds k true) w') (hV : ∀ i j v w w', i < n → i ≠ j → Region.reachB .any ops i ops.size j = false → V j v w → G i w w' → V j v w') (hstep : StepsC P Q ops n V J G a0 0 (ops.toList.take n))
    (hend : ∀ (vs : Nat → Value) w L, J L w → (∀ j, j < n → L.getD j false = true) → (∀ j t, j < n → slotOf ops j = some t → V j (vs j) w) → upto P ops Q n (putsOf vs (ops.toList.take n) 0 a0) w) :
    (Code.region id ops true).wp P Q a0 w0 := by
  have hw := well_of hwell
  refine wp_region_any hm (weave_anyC hw hN hJ hV (fun i o ho hi => ?_) (fun a w L hb hl _ hh he => ?_) _ _ _ _ ?_ ?_)
  · have h := StepsC.at hstep (i := i) (o := o) (by rw [List.getElem?_take_of_lt hi, Array.getElem?_toList]; exact ho)
    rwa [Nat.zero_add] at h
  · rw [he]
    refine hend _ w L hb hl (fun j t hj ht => ?_)
    simp only [ht]
    exact hh j t hj ht
  · unfold unl
    refine Nat.le_trans List.countP_le_length ?_
    rw [List.length_range]
    exact Nat.le_refl _
  · have hlf : ∀ j, (Array.replicate ops.size false).getD j false = false := fun j => by
      rw [Array.getD_eq_getD_getElem?]
      by_cases h : j < ops.size
      · rw [Array.getElem?_eq_getElem (by rw [Array.size_replicate]; exact h), Array.getElem_replicate]; rfl
      · rw [Array.getElem?_eq_none (by rw [Array.size_replicate]; omega)]; rfl
    exact ⟨rfl, rfl, fun _ _ => rfl, fun j t _ _ h => by (rw [hlf] at h; cases h), hJ0, fun j o _ h => by (rw [hlf] at h; cases h), by rw [Array.size_replicate], fun j _ => hlf j⟩
end
end Go.Proofs.Ytgojfecpknonlaa.Wv

