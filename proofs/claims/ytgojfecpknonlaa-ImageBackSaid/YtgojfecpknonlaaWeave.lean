/- A region that draws its order, shown by what each operation leaves behind: one step a piece, whatever the order (conditions: no guards, each operation's edges lead backwards, destinations apart). -/
import Derived.Test.YtgojfecpknonlaaWWords
import Derived.Test.YtgojfecpknonlaaWLast
import Derived.Below
namespace Go.Proofs.Ytgojfecpknonlaa.Wv
open Go.RowKit Go.Proofs.YtgojfecpknonlaaW.PrintWords Go.Proofs.YtgojfecpknonlaaW.PrintLast
set_option linter.unusedVariables false
set_option linter.unusedSimpArgs false
section
variable {P : Program} {ops : Array Oper} {Q : Exit → Act → World → Prop}

def slotOf (ops : Array Oper) (j : Nat) : Option Tmp := (ops[j]?).bind (·.dst)
/-- No guards, edges lead backwards, slots within N and apart; the last, if there is one, waits for all. -/
def wellB (ops : Array Oper) (N n : Nat) : Bool :=
  ((List.range ops.size).all fun i => match ops[i]? with
    | some o => o.guard.isNone && (o.after.all fun e => !Region.binds .any e || decide (e.on < i)) && (match o.dst with
      | some t => decide (t < N) && (List.range ops.size).all (fun j => j == i || slotOf ops j != some t)
      | none => true)
    | none => false) && (ops.size == n || ((ops.size == n + 1) && (List.range n).all fun j => Region.reachB .any ops j ops.size n))
structure Inv (V : Nat → Value → World → Prop) (J : Array Bool → World → Prop) (ops : Array Oper) (n : Nat) (a0 : Act) (L : Array Bool) (a : Act) (w : World) : Prop where
  size : a.tmps.size = a0.tmps.size
  defers : a.defers = a0.defers
  frame : ∀ t, (∀ j, j < n → slotOf ops j ≠ some t) → a.tmps[t]? = a0.tmps[t]?
  has : ∀ j t, j < n → slotOf ops j = some t → L.getD j false = true → V j (a.eval (.tmp t)) w
  below : J L w
  closed : ListedClosed .any ops L
  lsize : L.size = ops.size
  last : ∀ j, n ≤ j → L.getD j false = false
/-- No one of the first n operations has this slot; and: operation o waits for number j, whose slot is t. -/
def noB (ops : Array Oper) (n : Nat) (t : Tmp) : Bool := (List.range n).all fun j => slotOf ops j != some t
def depB (ops : Array Oper) (o : Oper) (j : Nat) (t : Tmp) : Bool := (o.after.any fun e => Region.binds .any e && e.on == j) && slotOf ops j == some t
/-- What is to be shown of one operation. -/
def StepG (P : Program) (Q : Exit → Act → World → Prop) (ops : Array Oper) (n : Nat) (V : Nat → Value → World → Prop) (J : Array Bool → World → Prop) (G : Nat → World → World → Prop) (a0 : Act) (k : Nat) (o : Oper) : Prop :=
  ∀ a w L, (∀ t, noB ops n t = true → a.eval (.tmp t) = a0.eval (.tmp t)) → L.getD k false = false → J L w → a.defers = a0.defers →
    (∀ j t, depB ops o j t = true → V j (a.eval (.tmp t)) w) →
    ∀ K : Act → World → Prop, (∀ v w', G k w w' → V k v w' → K (a.put o.dst v) w') → Oper.wp P o a w K Q
def StepsG (P : Program) (Q : Exit → Act → World → Prop) (ops : Array Oper) (n : Nat) (V : Nat → Value → World → Prop) (J : Array Bool → World → Prop) (G : Nat → World → World → Prop) (a0 : Act) : Nat → List Oper → Prop
  | _, [] => True
  | k, o :: r => StepG P Q ops n V J G a0 k o ∧ StepsG P Q ops n V J G a0 (k + 1) r
section
variable {n : Nat} {V : Nat → Value → World → Prop} {J : Array Bool → World → Prop} {G : Nat → World → World → Prop} {a0 : Act}
theorem StepsG.nil {k : Nat} : StepsG P Q ops n V J G a0 k [] := trivial
theorem StepsG.cons {k : Nat} {o : Oper} {r : List Oper} (h : StepG P Q ops n V J G a0 k o) (hr : StepsG P Q ops n V J G a0 (k + 1) r) : StepsG P Q ops n V J G a0 k (o :: r) := ⟨h, hr⟩
theorem StepsG.at : ∀ {l : List Oper} {k i : Nat} {o : Oper}, StepsG P Q ops n V J G a0 k l → l[i]? = some o → StepG P Q ops n V J G a0 (k + i) o
  | [], _, _, _, _, h => by simp at h
  | o' :: r, k, 0, o, hs, h => by
    obtain rfl : o' = o := by simpa using h
    exact hs.1
  | o' :: r, k, i + 1, o, hs, h => by
    have := StepsG.at hs.2 (i := i) (o := o) (by simpa using h)
    rwa [show k + 1 + i = k + (i + 1) by omega] at this
end
/-- The plain kind: nothing that lies is turned. -/
def Step (P : Program) (Q : Exit → Act → World → Prop) (ops : Array Oper) (n : Nat) (V : Nat → Value → World → Prop) (a0 : Act) (w0 : World) (k : Nat) (o : Oper) : Prop :=
  ∀ a w, (∀ t, noB ops n t = true → a.eval (.tmp t) = a0.eval (.tmp t)) → Below w0.heap.size w0 w →
    (∀ j t, depB ops o j t = true → V j (a.eval (.tmp t)) w) →
    ∀ K : Act → World → Prop, (∀ v w', Below w.heap.size w w' → V k v w' → K (a.put o.dst v) w') → Oper.wp P o a w K Q
def Steps (P : Program) (Q : Exit → Act → World → Prop) (ops : Array Oper) (n : Nat) (V : Nat → Value → World → Prop) (a0 : Act) (w0 : World) : Nat → List Oper → Prop
  | _, [] => True
  | k, o :: r => Step P Q ops n V a0 w0 k o ∧ Steps P Q ops n V a0 w0 (k + 1) r
theorem Steps.nil {n : Nat} {V : Nat → Value → World → Prop} {a0 : Act} {w0 : World} {k : Nat} : Steps P Q ops n V a0 w0 k [] := trivial
theorem Steps.cons {n : Nat} {V : Nat → Value → World → Prop} {a0 : Act} {w0 : World} {k : Nat} {o : Oper} {r : List Oper} (h : Step P Q ops n V a0 w0 k o) (hr : Steps P Q ops n V a0 w0 (k + 1) r) : Steps P Q ops n V a0 w0 k (o :: r) := ⟨h, hr⟩
theorem Steps.gen {n : Nat} {V : Nat → Value → World → Prop} {a0 : Act} {w0 : World} : ∀ {l : List Oper} {k : Nat}, Steps P Q ops n V a0 w0 k l → StepsG P Q ops n V (fun _ => Below w0.heap.size w0) (fun _ w w' => Below w.heap.size w w') a0 k l
  | [], _, _ => trivial
  | o :: r, k, h => ⟨fun a w _ fr _ hb _ hd K hK => h.1 a w fr hb hd K hK, Steps.gen h.2⟩
/-- The act behind the region: the slots filled in order. -/
def putsOf (vs : Nat → Value) : List Oper → Nat → Act → Act
  | [], _, a => a
  | o :: r, k, a => putsOf vs r (k + 1) (a.put o.dst (vs k))
/-- What is left behind n operations: nothing, or the last one. -/
structure upto (P : Program) (ops : Array Oper) (Q : Exit → Act → World → Prop) (n : Nat) (a : Act) (w : World) : Prop where
  out : match ops[n]? with
    | none => Q .normal a w
    | some o => Oper.wp P o a w (fun a' w' => Q .normal a' w') Q

theorem no_slot {n : Nat} {t : Tmp} (h : noB ops n t = true) : ∀ j, j < n → slotOf ops j ≠ some t := fun j hj => by
  simpa using List.all_eq_true.1 h j (List.mem_range.2 hj)
theorem dep_of {o : Oper} {j : Nat} {t : Tmp} (h : depB ops o j t = true) : (∃ e ∈ o.after, Region.binds .any e = true ∧ e.on = j) ∧ slotOf ops j = some t := by
  unfold depB at h
  simp only [Bool.and_eq_true, beq_iff_eq] at h
  refine ⟨?_, h.2⟩
  obtain ⟨e, he, h1⟩ := Array.any_eq_true'.1 h.1
  simp only [Bool.and_eq_true, beq_iff_eq] at h1
  exact ⟨e, he, h1⟩
theorem upto_none {n : Nat} {a : Act} {w : World} (h : (ops[n]?).isNone = true) (hq : Q .normal a w) : upto P ops Q n a w := by
  constructor
  rw [Option.isNone_iff_eq_none.1 h]
  exact hq
theorem upto_some {n : Nat} {o : Oper} {a : Act} {w : World} (h : ops[n]? = some o) (hq : Oper.wp P o a w (fun a' w' => Q .normal a' w') Q) : upto P ops Q n a w := by
  constructor
  rw [h]
  exact hq
theorem put_size (a : Act) (d : Option Tmp) (v : Value) : (a.put d v).tmps.size = a.tmps.size := by
  cases d <;> simp [Act.put]
theorem put_defers (a : Act) (d : Option Tmp) (v : Value) : (a.put d v).defers = a.defers := by
  cases d <;> rfl
theorem put_ne (a : Act) (d : Option Tmp) (v : Value) (t : Tmp) (h : d ≠ some t) : (a.put d v).tmps[t]? = a.tmps[t]? := by
  cases d with
  | none => rfl
  | some d =>
    have hne : d ≠ t := fun e => h (e ▸ rfl)
    show (a.tmps.setIfInBounds d v)[t]? = _
    rw [Array.getElem?_setIfInBounds_ne hne]
theorem put_at (a : Act) (t : Tmp) (v : Value) (h : t < a.tmps.size) : (a.put (some t) v).tmps[t]? = some v := by
  show (a.tmps.setIfInBounds t v)[t]? = _
  rw [Array.getElem?_setIfInBounds_self_of_lt h]
theorem eval_of {a b : Act} {t : Tmp} (h : a.tmps[t]? = b.tmps[t]?) : a.eval (.tmp t) = b.eval (.tmp t) := by
  show a.tmps.getD t undef = b.tmps.getD t undef
  rw [Array.getD_eq_getD_getElem?, Array.getD_eq_getD_getElem?, h]
theorem eval_some {a : Act} {t : Tmp} {v : Value} (h : a.tmps[t]? = some v) : a.eval (.tmp t) = v := by
  show a.tmps.getD t undef = v
  rw [Array.getD_eq_getD_getElem?, h]
  rfl
theorem some_eval {a : Act} {t : Tmp} (h : t < a.tmps.size) : a.tmps[t]? = some (a.eval (.tmp t)) := by
  show _ = some (a.tmps.getD t undef)
  rw [Array.getD_eq_getD_getElem?, Array.getElem?_eq_getElem h]
  rfl
theorem puts_defers (vs : Nat → Value) : ∀ (l : List Oper) (k : Nat) (a : Act), (putsOf vs l k a).defers = a.defers
  | [], _, _ => rfl
  | o :: r, k, a => by rw [putsOf, puts_defers vs r, put_defers]
theorem puts_ne (vs : Nat → Value) (t : Tmp) : ∀ (l : List Oper) (k : Nat) (a : Act), (∀ o ∈ l, o.dst ≠ some t) → (putsOf vs l k a).tmps[t]? = a.tmps[t]?
  | [], _, _, _ => rfl
  | o :: r, k, a, h => by rw [putsOf, puts_ne vs t r _ _ (fun o' ho => h o' (List.mem_cons_of_mem _ ho)), put_ne _ _ _ _ (h o List.mem_cons_self)]
theorem puts_at (vs : Nat → Value) (t : Tmp) : ∀ (l : List Oper) (k : Nat) (a : Act) (i : Nat) (o : Oper), l[i]? = some o → o.dst = some t → t < a.tmps.size → (∀ j o', i < j → l[j]? = some o' → o'.dst ≠ some t) →
    (putsOf vs l k a).tmps[t]? = some (vs (k + i))
  | [], _, _, _, _, h, _, _, _ => by simp at h
  | o' :: r, k, a, 0, o, h, ht, hs, hn => by
    obtain rfl : o' = o := by simpa using h
    rw [putsOf, puts_ne vs t r _ _ (fun o2 ho2 => by
      obtain ⟨j, hj⟩ := List.mem_iff_getElem?.1 ho2
      exact hn (j + 1) o2 (by omega) (by simpa using hj)), ht, put_at _ _ _ hs]
    rfl
  | o' :: r, k, a, i + 1, o, h, ht, hs, hn => by
    rw [putsOf, puts_at vs t r (k + 1) _ i o (by simpa using h) ht (by rw [put_size]; exact hs) (fun j o2 hj ho2 => hn (j + 1) o2 (by omega) (by simpa using ho2))]
    congr 2
    omega
theorem countP_lt {α : Type} {p q : α → Bool} : ∀ {l : List α} {x : α}, (∀ y ∈ l, q y = true → p y = true) → x ∈ l → p x = true → q x = false → l.countP q < l.countP p
  | [], x, _, hx, _, _ => by cases hx
  | y :: l, x, h, hx, hp, hq => by
    have hle : l.countP q ≤ l.countP p := List.countP_mono_left (fun z hz => h z (List.mem_cons_of_mem _ hz))
    rw [List.countP_cons, List.countP_cons]
    rcases List.mem_cons.1 hx with rfl | hx
    · rw [hp, hq]
      simp
      omega
    · have ih := countP_lt (fun z hz => h z (List.mem_cons_of_mem _ hz)) hx hp hq
      have h1 := h y List.mem_cons_self
      cases hqy : q y with
      | false => cases p y <;> simp <;> omega
      | true => rw [h1 hqy]; simp; omega
def unl (ops : Array Oper) (L : Array Bool) : Nat := (List.range ops.size).countP fun j => !L.getD j true
theorem getD_any {L : Array Bool} {j : Nat} (h : j < L.size) (b c : Bool) : L.getD j b = L.getD j c := by
  rw [Array.getD_eq_getD_getElem?, Array.getD_eq_getD_getElem?, Array.getElem?_eq_getElem h]
  rfl
theorem unl_set {L : Array Bool} {i : Nat} (hL : L.size = ops.size) (hi : i < ops.size) (h : L.getD i true = false) : unl ops (L.setIfInBounds i true) < unl ops L := by
  refine countP_lt (x := i) (fun y hy hq => ?_) (List.mem_range.2 hi) (by rw [h]; rfl) ?_
  · by_cases hiy : i = y
    · subst hiy; rw [h]; rfl
    · rw [getD_set_ne true hiy] at hq; exact hq
  · have : (L.setIfInBounds i true).getD i true = true := by
      rw [Array.getD_eq_getD_getElem?, Array.getElem?_setIfInBounds_self_of_lt (by omega)]
      rfl
    rw [this]
    rfl
theorem all_listed {L : Array Bool} (hL : L.size = ops.size) (hedge : ∀ (i : Nat) (o : Oper), ops[i]? = some o → ∀ e ∈ o.after, Region.binds .any e = true → e.on < i) (hr : Region.ready .any ops L = []) : ∀ j, j < ops.size → L.getD j false = true := by
  intro j
  induction j using Nat.strongRecOn with
  | ind j ih =>
    intro hj
    cases hL' : L.getD j false with
    | true => rfl
    | false =>
      have : j ∈ Region.ready .any ops L := mem_ready.2 ⟨by rw [getD_any (by omega) true false]; exact hL', ops[j], Array.getElem?_eq_getElem hj, fun e he hb => by
        have := hedge j ops[j] (Array.getElem?_eq_getElem hj) e he hb
        exact ih e.on this (by omega)⟩
      rw [hr] at this
      cases this
theorem none_ready {L : Array Bool} (hL : L.size = ops.size) (h : ∀ j, j < ops.size → L.getD j false = true) : Region.ready .any ops L = [] := by
  cases hr : Region.ready .any ops L with
  | nil => rfl
  | cons j r =>
    have hj : j ∈ Region.ready .any ops L := by rw [hr]; exact List.mem_cons_self
    obtain ⟨h1, o, ho, _⟩ := mem_ready.1 hj
    have hlt := (Array.getElem?_eq_some_iff.1 ho).1
    have := h j hlt
    rw [getD_any (by omega) false true, h1] at this
    cases this
structure Well (ops : Array Oper) (N n : Nat) : Prop where
  guard : ∀ (i : Nat) (o : Oper), ops[i]? = some o → o.guard = none
  edge : ∀ (i : Nat) (o : Oper), ops[i]? = some o → ∀ e ∈ o.after, Region.binds .any e = true → e.on < i
  slot : ∀ i t, slotOf ops i = some t → t < N
  apart : ∀ i j t, slotOf ops i = some t → slotOf ops j = some t → i = j
  size : ops.size = n ∨ (ops.size = n + 1 ∧ ∀ j, j < n → Region.reachB .any ops j ops.size n = true)
theorem slotOf_lt {j : Nat} {t : Tmp} (h : slotOf ops j = some t) : j < ops.size := by
  unfold slotOf at h
  cases ho : ops[j]? with
  | none => rw [ho] at h; cases h
  | some o => exact (Array.getElem?_eq_some_iff.1 ho).1
theorem well_of {N n : Nat} (h : wellB ops N n = true) : Well ops N n := by
  unfold wellB at h
  simp only [Bool.and_eq_true] at h
  obtain ⟨h1, h2⟩ := h
  have key : ∀ (i : Nat) (o : Oper), ops[i]? = some o → (o.guard.isNone && (o.after.all fun e => !Region.binds .any e || decide (e.on < i)) && (match o.dst with
      | some t => decide (t < N) && (List.range ops.size).all (fun j => j == i || slotOf ops j != some t)
      | none => true)) = true := fun i o ho => by
    have := List.all_eq_true.1 h1 i (List.mem_range.2 (Array.getElem?_eq_some_iff.1 ho).1)
    simp only [ho] at this
    exact this
  refine ⟨fun i o ho => ?_, fun i o ho e he hb => ?_, fun i t ht => ?_, fun i j t hi hj => ?_, ?_⟩
  · have := key i o ho
    simp only [Bool.and_eq_true, Option.isNone_iff_eq_none] at this
    exact this.1.1
  · have := key i o ho
    simp only [Bool.and_eq_true] at this
    have h3 := Array.all_eq_true_iff_forall_mem.1 this.1.2 e he
    simpa [hb] using h3
  · unfold slotOf at ht
    cases ho : ops[i]? with
    | none => rw [ho] at ht; cases ht
    | some o =>
      rw [ho] at ht
      have hd : o.dst = some t := ht
      have := key i o ho
      simp only [Bool.and_eq_true, hd, decide_eq_true_eq] at this
      exact this.2.1
  · have hjl := slotOf_lt hj
    unfold slotOf at hi
    cases ho : ops[i]? with
    | none => rw [ho] at hi; cases hi
    | some o =>
      rw [ho] at hi
      have hd : o.dst = some t := hi
      have := key i o ho
      simp only [Bool.and_eq_true, hd, decide_eq_true_eq] at this
      have h4 := List.all_eq_true.1 this.2.2 j (List.mem_range.2 hjl)
      simp only [Bool.or_eq_true, beq_iff_eq, bne_iff_ne, ne_eq] at h4
      rcases h4 with h4 | h4
      · exact h4.symm
      · exact absurd hj h4
  · simp only [Bool.or_eq_true, Bool.and_eq_true, beq_iff_eq] at h2
    rcases h2 with h2 | h2
    · exact .inl h2
    · exact .inr ⟨h2.1, fun j hj => List.all_eq_true.1 h2.2 j (List.mem_range.2 hj)⟩
theorem act_ext {a b : Act} (h : a.tmps = b.tmps) (k : a.defers = b.defers) : a = b := by
  cases a; cases b; cases h; cases k; rfl
theorem act_puts {n N : Nat} (hw : Well ops N n) {a a0 : Act} (hN : a0.tmps.size = N) (hs : a.tmps.size = a0.tmps.size) (hd : a.defers = a0.defers)
    (hf : ∀ t, (∀ j, j < n → slotOf ops j ≠ some t) → a.tmps[t]? = a0.tmps[t]?) :
    a = putsOf (fun j => match slotOf ops j with | some t => a.eval (.tmp t) | none => undef) (ops.toList.take n) 0 a0 := by
  refine act_ext ?_ ?_
  · apply Array.ext_getElem?
    intro t
    by_cases ht : ∃ j, j < n ∧ slotOf ops j = some t
    · obtain ⟨j, hj, hjt⟩ := ht
      have hjl := slotOf_lt hjt
      have ho : ops[j]? = some ops[j] := Array.getElem?_eq_getElem hjl
      have hdst : ops[j].dst = some t := by unfold slotOf at hjt; rw [ho] at hjt; exact hjt
      have htN := hw.slot j t hjt
      rw [puts_at _ t _ 0 _ j ops[j] (by rw [List.getElem?_take_of_lt hj, Array.getElem?_toList]; exact ho) hdst (by rw [hN]; exact htN) ?_, Nat.zero_add]
      · simp only [hjt]
        exact some_eval (by rw [hs, hN]; exact htN)
      · intro j' o' hj' ho' hd'
        have hlt : j' < n := by
          rcases Nat.lt_or_ge j' n with h | h
          · exact h
          · rw [List.getElem?_eq_none (by rw [List.length_take]; omega)] at ho'; cases ho'
        rw [List.getElem?_take_of_lt hlt, Array.getElem?_toList] at ho'
        have := hw.apart j j' t hjt (by unfold slotOf; rw [ho']; exact hd')
        omega
    · have hno : ∀ j, j < n → slotOf ops j ≠ some t := fun j hj he => ht ⟨j, hj, he⟩
      rw [hf t hno, puts_ne]
      intro o ho hd'
      obtain ⟨j, hj⟩ := List.mem_iff_getElem?.1 ho
      have hlt : j < n := by
        rcases Nat.lt_or_ge j n with h | h
        · exact h
        · rw [List.getElem?_eq_none (by rw [List.length_take]; omega)] at hj; cases hj
      rw [List.getElem?_take_of_lt hlt, Array.getElem?_toList] at hj
      exact hno j hlt (by unfold slotOf; rw [hj]; exact hd')
  · rw [puts_defers, hd]

theorem weave_any {n N : Nat} (hw : Well ops N n) {a0 : Act} (hN : a0.tmps.size = N) {V : Nat → Value → World → Prop} {J : Array Bool → World → Prop} {G : Nat → World → World → Prop}
    (hJ : ∀ k L w w', k < n → L.size = ops.size → L.getD k false = false → J L w → G k w w' → J (L.setIfInBounds k true) w') (hV : ∀ i j v w w', i < n → i ≠ j → Region.reachB .any ops i ops.size j = false → V j v w → G i w w' → V j v w')
    (hstep : ∀ i o, ops[i]? = some o → i < n → StepG P Q ops n V J G a0 i o)
    (hend : ∀ a w L, J L w → (∀ j, j < n → L.getD j false = true) → a.defers = a0.defers → (∀ j t, j < n → slotOf ops j = some t → V j (a.eval (.tmp t)) w) → a = putsOf (fun j => match slotOf ops j with | some t => a.eval (.tmp t) | none => undef) (ops.toList.take n) 0 a0 → upto P ops Q n a w) :
    ∀ (fuel : Nat) (L : Array Bool) (a : Act) (w : World), unl ops L ≤ fuel → Inv V J ops n a0 L a w → wpAny P .any ops Q fuel L a w := by
  have hdone : ∀ (L : Array Bool) (a : Act) (w : World), Inv V J ops n a0 L a w → Region.ready .any ops L = [] → Q .normal a w := by
    intro L a w hI hr
    have hall := all_listed hI.lsize hw.edge hr
    have hsz : ops.size = n := by
      rcases hw.size with h | ⟨h, _⟩
      · exact h
      · have h1 := hall n (by omega)
        rw [hI.last n (Nat.le_refl _)] at h1
        cases h1
    have := (hend a w L hI.below (fun j hj => hall j (by omega)) hI.defers (fun j t hj ht => hI.has j t hj ht (hall j (by omega))) (act_puts hw hN hI.size hI.defers hI.frame)).out
    rw [Array.getElem?_eq_none (by omega)] at this
    exact this
  intro fuel
  induction fuel with
  | zero =>
    intro L a w hu hI
    have hall : ∀ j, j < ops.size → L.getD j false = true := by
      intro j hj
      cases hL : L.getD j false with
      | true => rfl
      | false =>
        have : 0 < unl ops L := List.countP_pos_iff.2 ⟨j, List.mem_range.2 hj, by rw [getD_any (by have := hI.lsize; omega) true false, hL]; rfl⟩
        omega
    have hr := none_ready hI.lsize hall
    exact ⟨hr, hdone L a w hI hr⟩
  | succ fuel ih =>
    intro L a w hu hI
    refine ⟨hdone L a w hI, fun i hi => ?_⟩
    obtain ⟨hiun, o, ho, hafter⟩ := mem_ready.1 hi
    have hlt := (Array.getElem?_eq_some_iff.1 ho).1
    have hg := hw.guard i o ho
    have hunl := unl_set hI.lsize hlt hiun
    have hclosed := hI.closed.set hi
    unfold wpOp
    rw [ho]
    simp only
    have hwant : Region.wanted o (yielded ops a.tmps) = true := by unfold Region.wanted; rw [hg]
    rw [if_pos hwant]
    left
    by_cases hin : i < n
    · refine hstep i o ho hin a w L (fun t ht => eval_of (hI.frame t (no_slot ht))) (by rw [getD_any (by have := hI.lsize; omega) false true]; exact hiun) hI.below hI.defers (fun j t hj => ?_) _ (fun v w' hb hv => ?_)
      · obtain ⟨⟨e, he, hb, rfl⟩, ht⟩ := dep_of hj
        have := hw.edge i o ho e he hb
        exact hI.has _ t (by omega) ht (hafter e he hb)
      · refine ih _ _ _ (by omega) ⟨?_, ?_, ?_, ?_, ?_, hclosed, ?_, ?_⟩
        · rw [put_size, hI.size]
        · rw [put_defers, hI.defers]
        · intro t ht
          rw [put_ne _ _ _ _ (fun hd => ht i hin (by unfold slotOf; rw [ho]; exact hd)), hI.frame t ht]
        · intro j t hj ht hl
          by_cases hji : i = j
          · subst hji
            have hd : o.dst = some t := by unfold slotOf at ht; rw [ho] at ht; exact ht
            have htN := hw.slot i t ht
            rw [hd, eval_some (put_at a t v (by rw [hI.size, hN]; exact htN))]
            exact hv
          · rw [getD_set_ne false hji] at hl
            have hd : o.dst ≠ some t := fun hd => hji (hw.apart i j t (by unfold slotOf; rw [ho]; exact hd) ht)
            rw [eval_of (put_ne a o.dst v t hd)]
            refine hV i j _ w w' hin hji ?_ (hI.has j t hj ht hl) hb
            cases hrc : Region.reachB .any ops i ops.size j with
            | false => rfl
            | true =>
              have h1 := Region.reach_listed hI.closed _ _ hrc hl
              rw [getD_any (by have := hI.lsize; omega) false true, hiun] at h1
              cases h1
        · exact hJ i L w w' hin hI.lsize (by rw [getD_any (by have := hI.lsize; omega) false true]; exact hiun) hI.below hb
        · rw [Array.size_setIfInBounds, hI.lsize]
        · intro j hj
          rw [getD_set_ne false (show i ≠ j by omega)]
          exact hI.last j hj
    · obtain ⟨hsz, hreach⟩ : ops.size = n + 1 ∧ ∀ j, j < n → Region.reachB .any ops j ops.size n = true := by
        rcases hw.size with h | h
        · omega
        · exact h
      have hni : i = n := by omega
      subst hni
      have hun0 : L.getD i false = false := hI.last i (Nat.le_refl _)
      have hall : ∀ j, j < i → L.getD j false = true := by
        intro j hj
        cases hL : L.getD j false with
        | true => rfl
        | false =>
          have := Region.reach_not_ready hI.closed (hreach j hj) (by rw [getD_any (by have := hI.lsize; omega) true false]; exact hL)
          exact absurd hi this
      have hh := (hend a w L hI.below hall hI.defers (fun j t hj ht => hI.has j t hj ht (hall j hj)) (act_puts hw hN hI.size hI.defers hI.frame)).out
      rw [ho] at hh
      refine Oper.wp_mono (fun a' w' hq => ?_) hh
      have hsz' : (L.setIfInBounds i true).size = ops.size := by rw [Array.size_setIfInBounds, hI.lsize]
      have hr : Region.ready .any ops (L.setIfInBounds i true) = [] := none_ready hsz' (fun j hj => by
        by_cases hji : i = j
        · subst hji
          rw [Array.getD_eq_getD_getElem?, Array.getElem?_setIfInBounds_self_of_lt (by have := hI.lsize; omega)]
          rfl
        · rw [getD_set_ne false hji]
          exact hall j (by omega))
      cases fuel with
      | zero => exact ⟨hr, hq⟩
      | succ f => exact ⟨fun _ => hq, by rw [hr]; intro j hj; cases hj⟩

/-- A region that draws its order: each operation once, then what follows; J holds between operations, G of each one's step. -/
theorem weaveG {id : Nat} {a0 : Act} {w0 : World} (n N : Nat) (V : Nat → Value → World → Prop) (J : Array Bool → World → Prop) (G : Nat → World → World → Prop) (hm : P.follows .mixedOrders = true) (hN : a0.tmps.size = N) (hwell : wellB ops N n = true)
    (hJ0 : J (Array.replicate ops.size false) w0.drew) (hJ : ∀ k L w w', k < n → L.size = ops.size → L.getD k false = false → J L w → G k w w' → J (L.setIfInBounds k true) w') (hV : ∀ i j v w w', i < n → i ≠ j → Region.reachB .any ops i ops.size j = false → V j v w → G i w w' → V j v w') (hstep : StepsG P Q ops n V J G a0 0 (ops.toList.take n))
    (hend : ∀ (vs : Nat → Value) w L, J L w → (∀ j, j < n → L.getD j false = true) → (∀ j t, j < n → slotOf ops j = some t → V j (vs j) w) → upto P ops Q n (putsOf vs (ops.toList.take n) 0 a0) w) :
    (Code.region id ops true).wp P Q a0 w0 := by
  have hw := well_of hwell
  refine wp_region_any hm (weave_any hw hN hJ hV (fun i o ho hi => ?_) (fun a w L hb hl _ hh he => ?_) _ _ _ _ ?_ ?_)
  · have h := StepsG.at hstep (i := i) (o := o) (by rw [List.getElem?_take_of_lt hi, Array.getElem?_toList]; exact ho)
    rwa [Nat.zero_add] at h
  · rw [he]
    refine hend _ w L hb hl (fun j t hj ht => ?_)
    simp only [ht]
    exact hh j t hj ht
  · unfold unl
    refine Nat.le_trans List.countP_le_length ?_
    rw [List.length_range]
    exact Nat.le_refl _
  · have hlf : ∀ j, (Array.replicate ops.size false).getD j false = false := fun j => by
      rw [Array.getD_eq_getD_getElem?]
      by_cases h : j < ops.size
      · rw [Array.getElem?_eq_getElem (by rw [Array.size_replicate]; exact h), Array.getElem_replicate]; rfl
      · rw [Array.getElem?_eq_none (by rw [Array.size_replicate]; omega)]; rfl
    exact ⟨rfl, rfl, fun _ _ => rfl, fun j t _ _ h => by (rw [hlf] at h; cases h), hJ0, fun j o _ h => by (rw [hlf] at h; cases h), by rw [Array.size_replicate], fun j _ => hlf j⟩
theorem weave {id : Nat} {a0 : Act} {w0 : World} (n N : Nat) (V : Nat → Value → World → Prop) (hm : P.follows .mixedOrders = true) (hN : a0.tmps.size = N) (hwell : wellB ops N n = true)
    (hV : ∀ j v w w', V j v w → Below w.heap.size w w' → V j v w') (hstep : Steps P Q ops n V a0 w0 0 (ops.toList.take n))
    (hend : ∀ (vs : Nat → Value) w, Below w0.heap.size w0 w → (∀ j t, j < n → slotOf ops j = some t → V j (vs j) w) → upto P ops Q n (putsOf vs (ops.toList.take n) 0 a0) w) :
    (Code.region id ops true).wp P Q a0 w0 :=
  weaveG n N V (fun _ => Below w0.heap.size w0) (fun _ w w' => Below w.heap.size w w') hm hN hwell (below_drew (Below.refl _ _)) (fun _ _ w w' _ _ _ h k => below_then h h.size k) (fun _ j v w w' _ _ _ h k => hV j v w w' h k) hstep.gen (fun vs w _ hb _ hh => hend vs w hb hh)
/-- One operation: a value. -/
theorem wp_val {o : Oper} {a : Act} {w w' : World} {v : Value} {K : Act → World → Prop} (hrun : (execOp a.eval o).run P w = .ok (.value v) w') (h : K (a.put o.dst v) w') : Oper.wp P o a w K Q := by
  unfold Oper.wp
  rw [hrun]
  exact h
theorem wp_skip {o : Oper} {a : Act} {w w' : World} {K : Act → World → Prop} (hN : o.dst = none) (hrun : (execOp a.eval o).run P w = .ok .skip w') (h : K a w') : Oper.wp P o a w K Q := by
  unfold Oper.wp
  rw [hrun]
  show K (a.put o.dst undef) w'
  rw [hN]
  exact h
theorem wp_call {o : Oper} {a : Act} {w : World} {K : Act → World → Prop} {f : FuncId} {fn : Func} {as : Array Operand} {ts : Array TypeId} (hf : P.funcs[f]? = some fn) (hname : (fn.name == "runtime.NumGoroutine") = false) (hb : fn.body.isSome = true) (args : Array Value)
    (hop : o.op = .call { callee := .value (.func f), args := as, argTypes := ts }) (hargs : as.map a.eval = args)
    (h : Calls P f args w fun e w' => ∃ v, e = .returned v ∧ K (a.put o.dst v) w') : Oper.wp P o a w K Q := by
  have he := enters_ hf hname hb args w
  have hrun : (execOp a.eval o).run P w = .ok (.enter f args) w := by
    unfold execOp
    simp [hop, resolve, Deferred.ofValue, invoke, Act.eval, hargs, he]
  unfold Oper.wp
  rw [hrun, Oper.upon_enter]
  refine h.mono fun e w'' hh => ?_
  obtain ⟨v, rfl, hk⟩ := hh
  exact hk
end
end Go.Proofs.Ytgojfecpknonlaa.Wv

