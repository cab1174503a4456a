/- A shape taken off bytes: function 74. -/
import Derived.Test.YtgojfecpknonlaaImAb
import Derived.StillTailTactics
import Derived.BigQuiet
namespace Go.Proofs.Ytgojfecpknonlaa.Im
open Go.RowKit Go.Proofs.YtgojfecpknonlaaW.PrintWords Go.Proofs.YtgojfecpknonlaaW.PrintLast Go.Proofs.YtgojfecpknonlaaW.PrintMore
open Go.Proofs.Ytgojfecpknonlaa.Own Go.Proofs.Ytgojfecpknonlaa.PIm Go.Proofs.Ytgojfecpknonlaa.Wv
set_option linter.unusedVariables false
set_option linter.unusedSimpArgs false

theorem si_start (w : World) (L : List Int) : SI w.heap.size w.heap.size (w.heap.size + 1) (w.heap.size + 1 + 1) (w.heap.size + 1 + 1 + 1) w (.slice none 0 0) (.slice none 0 0) (.slice none 0 0) [] [] [] [] [] L
    ((((w.alloc (Obj.cells #[Value.string (strOfNums L)] 9)).alloc (Obj.cells #[Value.slice none 0 0, Value.slice none 0 0, Value.slice none 0 0] 89)).alloc (Obj.cells #[Value.bool false] 4)).alloc (Obj.cells #[Value.func (Fn.func 105) #[] #[Value.pointer (some ⟨w.heap.size, 0, none⟩)]] 164)) := by
  have h1 : Holds (w.alloc (Obj.cells #[Value.string (strOfNums L)] 9)) w.heap.size 9 [.string (strOfNums L)] := hold_alloc rfl
  have s1 : (w.alloc (Obj.cells #[Value.string (strOfNums L)] 9)).heap.size = w.heap.size + 1 := World.size_alloc _ _
  have b1 : Below w.heap.size w (w.alloc (Obj.cells #[Value.string (strOfNums L)] 9)) := below_alloc (Below.refl _ _) _
  generalize w.alloc (Obj.cells #[Value.string (strOfNums L)] 9) = w1 at *
  have h2 : Holds (w1.alloc (Obj.cells #[Value.slice none 0 0, Value.slice none 0 0, Value.slice none 0 0] 89)) (w.heap.size + 1) 89 [.slice none 0 0, .slice none 0 0, .slice none 0 0] := hold_alloc s1.symm
  have s2 : (w1.alloc (Obj.cells #[Value.slice none 0 0, Value.slice none 0 0, Value.slice none 0 0] 89)).heap.size = w.heap.size + 1 + 1 := by rw [World.size_alloc, s1]
  have b2 : Below w1.heap.size w1 (w1.alloc (Obj.cells #[Value.slice none 0 0, Value.slice none 0 0, Value.slice none 0 0] 89)) := below_alloc (Below.refl _ _) _
  generalize w1.alloc (Obj.cells #[Value.slice none 0 0, Value.slice none 0 0, Value.slice none 0 0] 89) = w2 at *
  have h3 : Holds (w2.alloc (Obj.cells #[Value.bool false] 4)) (w.heap.size + 1 + 1) 4 [.bool false] := hold_alloc s2.symm
  have s3 : (w2.alloc (Obj.cells #[Value.bool false] 4)).heap.size = w.heap.size + 1 + 1 + 1 := by rw [World.size_alloc, s2]
  have b3 : Below w2.heap.size w2 (w2.alloc (Obj.cells #[Value.bool false] 4)) := below_alloc (Below.refl _ _) _
  generalize w2.alloc (Obj.cells #[Value.bool false] 4) = w3 at *
  have h4 : Holds (w3.alloc (Obj.cells #[Value.func (Fn.func 105) #[] #[Value.pointer (some ⟨w.heap.size, 0, none⟩)]] 164)) (w.heap.size + 1 + 1 + 1) 164 [f105V w.heap.size] := hold_alloc s3.symm
  have b4 : Below w3.heap.size w3 (w3.alloc (Obj.cells #[Value.func (Fn.func 105) #[] #[Value.pointer (some ⟨w.heap.size, 0, none⟩)]] 164)) := below_alloc (Below.refl _ _) _
  generalize w3.alloc (Obj.cells #[Value.func (Fn.func 105) #[] #[Value.pointer (some ⟨w.heap.size, 0, none⟩)]] 164) = w4 at *
  have b34 := below_then b3 b3.size b4
  have b24 := below_then b2 b2.size b34
  exact ⟨h1.below b24, h2.below b34, h3.below b4, h4, Kd.R_nil _ _ _ _ _, ⟨rfl, fun i p t h => by simp at h⟩, Kd.R_nil _ _ _ _ _, Kd.R_nil _ _ _ _ _, ⟨rfl, fun i p t h => by simp at h⟩, below_then b1 b1.size b24, by have := b1.size; have := b24.size; omega⟩
theorem ub_one (a : Int) : ub [a] = a := by unfold ub; simp
theorem take_one {L : List Int} {i : Nat} (h : i < L.length) : (L.drop i).take 1 = [L[i]] := by
  rw [List.drop_eq_getElem_cons h]
  rfl
theorem ub1_in {L : List Int} (h : Byt L) : 0 ≤ ub (L.take 1) ∧ ub (L.take 1) ≤ 255 := by
  have h1 := ub_in (byt_take h 1)
  have h2 : (L.take 1).length = 0 ∨ (L.take 1).length = 1 := by rw [List.length_take]; omega
  rcases h2 with h2 | h2 <;> rw [h2] at h1 <;> (have e0 : (256 : Int) ^ 0 = 1 := rfl; have e1 : (256 : Int) ^ 1 = 256 := rfl; omega)
section
variable {o : Oper} {a : Act} {W : World} {Q : Exit → Act → World → Prop} {K : Act → World → Prop}
/-- A call of a function value that may throw. -/
theorem wp_callp {f : FuncId} {fn : Func} {t : Tmp} {xs : Array Operand} {ts : Array TypeId} {cap : Array Value} (hf : Try.prog.funcs[f]? = some fn) (hname : (fn.name == "runtime.NumGoroutine") = false) (hb : fn.body.isSome = true) (args : Array Value)
    (hop : o.op = .call { callee := .value (.tmp t), args := xs, argTypes := ts }) (ht : a.eval (.tmp t) = .func (.func f) #[] cap) (hargs : xs.map a.eval ++ cap = args)
    (h : Calls Try.prog f args W fun e w' => (∃ v, e = .returned v ∧ K (a.put o.dst v) w') ∨ (∃ ch, e = .panicked ch ∧ Q (.panic ch) a w')) : Oper.wp Try.prog o a W K Q := by
  have he := enters_ hf hname hb args W
  have hrun : (execOp a.eval o).run Try.prog W = .ok (.enter f args) W := by
    unfold execOp
    simp [hop, resolve, Deferred.ofValue, invoke, ht, hargs, he]
  unfold Oper.wp
  rw [hrun, Oper.upon_enter]
  refine h.mono fun e w'' hh => ?_
  rcases hh with ⟨v, rfl, hk⟩ | ⟨ch, rfl, hq⟩
  · exact hk
  · exact hq
theorem conv563_exec {x : Operand} {n : Int} (ho : o.op = .convert 56 3 x) (hx : a.eval x = .int .u64 n) (hn : 0 ≤ n ∧ n ≤ 65535) : (execOp a.eval o).run Try.prog W = .ok (.value (.int .i64 n)) W := by
  have h := i64_in hn
  generalize a.eval = E at hx ⊢
  unfold execOp
  simp only [ho, hx]
  go_simp
theorem conv556_exec {x : Operand} {n : Int} (ho : o.op = .convert 5 56 x) (hx : a.eval x = .int .u8 n) (hn : 0 ≤ n ∧ n ≤ 255) : (execOp a.eval o).run Try.prog W = .ok (.value (.int .u64 n)) W := by
  have h : IntKind.u64.wrap n = n := by rw [IntKind.wrap_u64]; omega
  generalize a.eval = E at hx ⊢
  unfold execOp
  simp only [ho, hx]
  go_simp
theorem idxM_exec {y : Operand} {i : Nat} (ho : o.op = .index 9 (.const (.string ⟨#[68, 77, 83, 72]⟩)) y) (hy : a.eval y = .int .i64 (i : Int)) (hi : i < 4) : (execOp a.eval o).run Try.prog W = .ok (.value (.int .u8 (magicB.getD i 0))) W := by
  have hc : a.eval (.const (.string ⟨#[68, 77, 83, 72]⟩)) = .string ⟨#[68, 77, 83, 72]⟩ := rfl
  generalize a.eval = E at hy hc ⊢
  unfold execOp
  have h4 : i = 0 ∨ i = 1 ∨ i = 2 ∨ i = 3 := by omega
  rcases h4 with rfl | rfl | rfl | rfl <;> (simp only [ho, hy, hc]; go_simp; rfl)
theorem neq56_exec {x y : Operand} {n m : Int} (ho : o.op = .binOp .neq 56 x y 56) (hx : a.eval x = .int .u64 n) (hy : a.eval y = .int .u64 m) : (execOp a.eval o).run Try.prog W = .ok (.value (.bool (!decide (n = m)))) W := by
  generalize a.eval = E at hx hy ⊢
  unfold execOp
  simp only [ho, hx, hy]
  go_simp
  by_cases h : n = m <;> simp [h]
end
def V7 (gb i : Nat) (x m : Int) : Nat → Value → World → Prop
  | 0, u, _ => u = f105V gb
  | 1, u, _ => u = .int .u64 x
  | 2, u, _ => u = .int .i64 (i : Int)
  | 3, u, _ => u = .int .u8 m
  | 4, u, _ => u = .int .u64 m
  | 5, u, _ => u = .bool (!decide (x = m))
  | _, _, _ => True
def V10 (gb : Nat) (x y : Int) : Nat → Value → World → Prop
  | 0, u, _ => u = f105V gb
  | 1, u, _ => u = .int .u64 x
  | 2, u, _ => u = .int .i64 x
  | 3, u, _ => u = f105V gb
  | 4, u, _ => u = .int .u64 y
  | 5, u, _ => u = .int .i64 y
  | 6, u, _ => u = .int .i64 x
  | 7, u, _ => u = .int .i64 y
  | _, _, _ => True
/-- What an operation does that takes a number of n bytes off the bytes. -/
structure KTk (gb n : Nat) (M : List Int) (w w' : World) : Prop where
  kp : Kp (fun q => q = gb) w w'
  ok : n ≤ M.length
  cb : Holds w' gb 9 [.string (strOfNums (M.drop n))]
structure GT (gb : Nat) (M : List Int) (k : Nat) (w w' : World) : Prop where
  one : k = 1 → KTk gb 1 M w w'
  four : k = 4 → KTk gb 1 (M.drop 1) w w'
  other : k ≠ 1 → k ≠ 4 → Below w.heap.size w w'
theorem set_at {L : Array Bool} {k n : Nat} (hL : L.size = n) (hk : k < n) : (L.setIfInBounds k true).getD k false = true := by
  rw [Array.getD_eq_getD_getElem?, Array.getElem?_setIfInBounds_self_of_lt (by omega)]
  rfl
/-- How two numbers are taken, whatever the order. -/
structure JT (ST : List Int → World → Prop) (M : List Int) (L : Array Bool) (w : World) : Prop where
  a : L.getD 1 false = false → ST M w
  b : L.getD 1 false = true → L.getD 4 false = false → 1 ≤ M.length ∧ ST (M.drop 1) w
  c : L.getD 4 false = true → 1 ≤ M.length ∧ 1 ≤ (M.drop 1).length ∧ ST ((M.drop 1).drop 1) w
theorem JT.any {ST : List Int → World → Prop} {M : List Int} {L : Array Bool} {w : World} (h : JT ST M L w) : ∃ M', ST M' w := by
  cases h1 : L.getD 1 false with
  | false => exact ⟨_, h.a h1⟩
  | true =>
    cases h4 : L.getD 4 false with
    | false => exact ⟨_, (h.b h1 h4).2⟩
    | true => exact ⟨_, (h.c h4).2.2⟩
theorem JT.step {ST : List Int → World → Prop} {M : List Int} {gb : Nat} {L : Array Bool} {w w' : World} {k n : Nat} (hf : ∀ M w w', ST M w → Below w.heap.size w w' → ST M w') (ht : ∀ M M' w w', ST M w → Kp (fun q => q = gb) w w' → Holds w' gb 9 [.string (strOfNums M')] → ST M' w') (hL : L.size = n) (hk : k < n) (hc : L.getD 4 false = true → L.getD 1 false = true) (hr : k = 4 → L.getD 1 false = true) (hk0 : L.getD k false = false) (h : JT ST M L w) (hg : GT gb M k w w') : JT ST M (L.setIfInBounds k true) w' := by
  by_cases e1 : k = 1
  · subst e1
    have h4 : L.getD 4 false = false := by
      cases h4 : L.getD 4 false with
      | false => rfl
      | true => rw [hc h4] at hk0; cases hk0
    exact ⟨fun h1 => (by rw [set_at hL hk] at h1; cases h1), fun _ _ => ⟨(hg.one rfl).ok, ht _ _ _ _ (h.a hk0) (hg.one rfl).kp (hg.one rfl).cb⟩, fun h5 => (by rw [getD_set_ne false (by decide), h4] at h5; cases h5)⟩
  · by_cases e4 : k = 4
    · subst e4
      have h1 := hr rfl
      exact ⟨fun h5 => (by rw [getD_set_ne false (by decide), h1] at h5; cases h5), fun _ h5 => (by rw [set_at hL hk] at h5; cases h5), fun _ => ⟨(h.b h1 hk0).1, (hg.four rfl).ok, ht _ _ _ _ (h.b h1 hk0).2 (hg.four rfl).kp (hg.four rfl).cb⟩⟩
    · have hb := hg.other e1 e4
      exact ⟨fun h5 => (by rw [getD_set_ne false e1] at h5; exact hf _ _ _ (h.a h5) hb), fun h5 h6 => (by rw [getD_set_ne false e1] at h5; rw [getD_set_ne false e4] at h6; exact ⟨(h.b h5 h6).1, hf _ _ _ (h.b h5 h6).2 hb⟩), fun h5 => (by rw [getD_set_ne false e4] at h5; exact ⟨(h.c h5).1, (h.c h5).2.1, hf _ _ _ (h.c h5).2.2 hb⟩)⟩
theorem dHd_1 {L : List Int} (h : L.length < 1) : dHd L = none := by unfold dHd; rw [tk_lt h]; rfl
theorem dHd_2 {L : List Int} (h : 1 ≤ L.length) (h2 : (L.drop 1).length < 1) : dHd L = none := by unfold dHd; rw [tk_ge h]; show (tk 1 (L.drop 1)).bind _ = _; rw [tk_lt h2]; rfl
theorem dHd_3 {L : List Int} (h : 1 ≤ L.length) (h2 : 1 ≤ (L.drop 1).length) : dHd L = dTs (ub ((L.drop 1).take 1)).toNat (ub (L.take 1)).toNat ((L.drop 1).drop 1) := by unfold dHd; rw [tk_ge h]; show (tk 1 (L.drop 1)).bind _ = _; rw [tk_ge h2]; rfl
theorem magic_step {L : List Int} {i : Nat} (hi : i < 4) (hl : i < L.length) (h : L.take i = magicB.take i) (he : L[i] = magicB.getD i 0) : L.take (i + 1) = magicB.take (i + 1) := by
  have h4 : i < magicB.length := by show i < 4; exact hi
  rw [List.take_succ_eq_append_getElem hl, List.take_succ_eq_append_getElem h4, h, he, List.getD_eq_getElem?_getD, List.getElem?_eq_getElem h4]
  rfl
theorem magic_short {L : List Int} (h : L.length < 4) : decF L = none := by
  unfold decF
  rw [if_neg]
  intro e
  have := congrArg List.length e
  rw [List.length_take] at this
  have h4 : magicB.length = 4 := rfl
  omega
theorem magic_bad {L : List Int} {i : Nat} (hi : i < 4) (hl : i < L.length) (he : L[i] ≠ magicB.getD i 0) : decF L = none := by
  unfold decF
  rw [if_neg]
  intro e
  apply he
  have h1 : (L.take 4)[i]? = some L[i] := by rw [List.getElem?_take_of_lt hi, List.getElem?_eq_getElem hl]
  rw [e] at h1
  rw [List.getD_eq_getElem?_getD, h1]
  rfl
theorem magic_in' {i : Nat} : 0 ≤ magicB.getD i 0 ∧ magicB.getD i 0 ≤ 255 := by
  by_cases h : i < 4
  · have h4 : i = 0 ∨ i = 1 ∨ i = 2 ∨ i = 3 := by omega
    rcases h4 with rfl | rfl | rfl | rfl <;> decide
  · rw [List.getD_eq_getElem?_getD, List.getElem?_eq_none (by show 4 ≤ i; omega)]
    decide
theorem dT_1 {s : Nat} {M : List Int} (h : M.length < 2 * s) : dT s M = none := by unfold dT; rw [rf_lt h]; rfl
theorem dT_2 {s : Nat} {M : List Int} (h : 2 * s ≤ M.length) (h2 : (M.drop (2 * s)).length < 1) : dT s M = none := by unfold dT; rw [rf_ge h]; show (tk 1 (M.drop (2 * s))).bind _ = _; rw [tk_lt h2]; rfl
theorem dT_3 {s m : Nat} {M : List Int} (h : 2 * s ≤ M.length) (h2 : 1 ≤ (M.drop (2 * s)).length) (hm : m = (ub ((M.drop (2 * s)).take 1)).toNat) (h3 : ((M.drop (2 * s)).drop 1).length < 2 * m) : dT s M = none := by
  subst hm
  unfold dT
  rw [rf_ge h]
  show (tk 1 (M.drop (2 * s))).bind _ = _
  rw [tk_ge h2]
  show (rf (ub ((M.drop (2 * s)).take 1)).toNat ((M.drop (2 * s)).drop 1)).map _ = _
  rw [rf_lt h3]
  rfl
theorem dT_4 {s m : Nat} {M : List Int} (h : 2 * s ≤ M.length) (h2 : 1 ≤ (M.drop (2 * s)).length) (hm : m = (ub ((M.drop (2 * s)).take 1)).toNat) (h3 : 2 * m ≤ ((M.drop (2 * s)).drop 1).length) : dT s M = some (⟨refsL s M, refsL m ((M.drop (2 * s)).drop 1)⟩, ((M.drop (2 * s)).drop 1).drop (2 * m)) := by
  subst hm
  unfold dT
  rw [rf_ge h]
  show (tk 1 (M.drop (2 * s))).bind _ = _
  rw [tk_ge h2]
  show (rf (ub ((M.drop (2 * s)).take 1)).toNat ((M.drop (2 * s)).drop 1)).map _ = _
  rw [rf_ge h3]
  rfl
theorem dTs_stop {s i t : Nat} {M Lc : List Int} {T : List S124} (h : itN (dT s) i M = some (T, Lc)) (hx : dT s Lc = none) (hi : i < t) : dTs s t M = none := by unfold dTs; rw [itN_none (itN_stop h hx) hi]; rfl
theorem dTs_done {s t : Nat} {M Lc : List Int} {T : List S124} (h : itN (dT s) t M = some (T, Lc)) : dTs s t M = dG T Lc := by unfold dTs; rw [h]; rfl
theorem dG_1 {T : List S124} {M : List Int} (h : M.length < 1) : dG T M = none := by unfold dG; rw [tk_lt h]; rfl
theorem dG_2 {T : List S124} {M : List Int} {g : Nat} (h : 1 ≤ M.length) (hg : g = (ub (M.take 1)).toNat) (h2 : (M.drop 1).length < 2 * g) : dG T M = none := by
  subst hg
  unfold dG
  rw [tk_ge h]
  show (rf (ub (M.take 1)).toNat (M.drop 1)).bind _ = _
  rw [rf_lt h2]
  rfl
theorem dG_3 {T : List S124} {M : List Int} {g : Nat} (h : 1 ≤ M.length) (hg : g = (ub (M.take 1)).toNat) (h2 : 2 * g ≤ (M.drop 1).length) (h3 : ((M.drop 1).drop (2 * g)).length < 2) : dG T M = none := by
  subst hg
  unfold dG
  rw [tk_ge h]
  show (rf (ub (M.take 1)).toNat (M.drop 1)).bind _ = _
  rw [rf_ge h2]
  show (tk 2 ((M.drop 1).drop (2 * (ub (M.take 1)).toNat))).bind _ = _
  rw [tk_lt h3]
  rfl
theorem dG_4 {T : List S124} {M : List Int} {g n : Nat} (h : 1 ≤ M.length) (hg : g = (ub (M.take 1)).toNat) (h2 : 2 * g ≤ (M.drop 1).length) (h3 : 2 ≤ ((M.drop 1).drop (2 * g)).length) (hn : n = (ub (((M.drop 1).drop (2 * g)).take 2)).toNat) : dG T M = dNs T (refsL g (M.drop 1)) n (((M.drop 1).drop (2 * g)).drop 2) := by
  subst hg hn
  unfold dG
  rw [tk_ge h]
  show (rf (ub (M.take 1)).toNat (M.drop 1)).bind _ = _
  rw [rf_ge h2]
  show (tk 2 ((M.drop 1).drop (2 * (ub (M.take 1)).toNat))).bind _ = _
  rw [tk_ge h3]
  rfl
theorem dN_1 {M : List Int} (h : M.length < 1) : dN M = none := by unfold dN; rw [tk_lt h]; rfl
theorem dN_2 {M : List Int} (h : 1 ≤ M.length) (h2 : (M.drop 1).length < 1) : dN M = none := by unfold dN; rw [tk_ge h]; show (tk 1 (M.drop 1)).bind _ = _; rw [tk_lt h2]; rfl
theorem dN_x {M : List Int} {c d : Nat} (h : 1 ≤ M.length) (h2 : 1 ≤ (M.drop 1).length) (hc : c = (ub (M.take 1)).toNat) (hd : d = (ub ((M.drop 1).take 1)).toNat) : dN M = (rf c ((M.drop 1).drop 1)).bind fun r => (dl d r.2).map fun s => (⟨r.1, s.1⟩, s.2) := by
  subst hc hd
  unfold dN
  rw [tk_ge h]
  show (tk 1 (M.drop 1)).bind _ = _
  rw [tk_ge h2]
  rfl
theorem dN_3 {M : List Int} {c d : Nat} (h : 1 ≤ M.length) (h2 : 1 ≤ (M.drop 1).length) (hc : c = (ub (M.take 1)).toNat) (hd : d = (ub ((M.drop 1).take 1)).toNat) (h3 : ((M.drop 1).drop 1).length < 2 * c) : dN M = none := by rw [dN_x h h2 hc hd, rf_lt h3]; rfl
theorem dN_4 {M : List Int} {c d : Nat} (h : 1 ≤ M.length) (h2 : 1 ≤ (M.drop 1).length) (hc : c = (ub (M.take 1)).toNat) (hd : d = (ub ((M.drop 1).take 1)).toNat) (h3 : 2 * c ≤ ((M.drop 1).drop 1).length) (h4 : (((M.drop 1).drop 1).drop (2 * c)).length < 8 * d) : dN M = none := by
  rw [dN_x h h2 hc hd, rf_ge h3]
  show (dl d (((M.drop 1).drop 1).drop (2 * c))).map _ = _
  rw [dl_lt h4]
  rfl
theorem dN_5 {M : List Int} {c d : Nat} (h : 1 ≤ M.length) (h2 : 1 ≤ (M.drop 1).length) (hc : c = (ub (M.take 1)).toNat) (hd : d = (ub ((M.drop 1).take 1)).toNat) (h3 : 2 * c ≤ ((M.drop 1).drop 1).length) (h4 : 8 * d ≤ (((M.drop 1).drop 1).drop (2 * c)).length) : dN M = some (⟨refsL c ((M.drop 1).drop 1), dataL d (((M.drop 1).drop 1).drop (2 * c))⟩, (((M.drop 1).drop 1).drop (2 * c)).drop (8 * d)) := by
  rw [dN_x h h2 hc hd, rf_ge h3]
  show (dl d (((M.drop 1).drop 1).drop (2 * c))).map _ = _
  rw [dl_ge h4]
  rfl
theorem dNs_stop {T : List S124} {G : List Int} {i n : Nat} {M Lc : List Int} {N : List S127} (h : itN dN i M = some (N, Lc)) (hx : dN Lc = none) (hi : i < n) : dNs T G n M = none := by unfold dNs; rw [itN_none (itN_stop h hx) hi]; rfl
theorem dNs_done {T : List S124} {G : List Int} {n : Nat} {M Lc : List Int} {N : List S127} (h : itN dN n M = some (N, Lc)) : dNs T G n M = dEnd T G N Lc := by unfold dNs; rw [h]; rfl
theorem ub2_in' {L : List Int} (h : Byt L) : 0 ≤ ub (L.take 2) ∧ ub (L.take 2) ≤ 65535 := ub2_in h
section
variable {o : Oper} {a : Act} {W : World}
theorem fa131d_exec {x : Operand} {g : Nat} (ho : o.op = .fieldAddr 131 x 1) (hx : a.eval x = .pointer (some ⟨g, 0, none⟩)) : (execOp a.eval o).run Try.prog W = .ok (.value (.pointer (some ⟨g, 1, none⟩))) W := by
  have hu := Try.underlying131
  generalize a.eval = E at hx ⊢
  unfold execOp
  simp only [ho, hx]
  go_simp
theorem lit125_exec {x : Operand} {v : Int} (ho : o.op = .buildSlice 125 1 #[(0, x)]) (hx : a.eval x = .int .u64 v) :
    (execOp a.eval o).run Try.prog W = .ok (.value (.slice (some ⟨W.heap.size, 0, none⟩) 1 1)) (W.alloc (.cells #[.int .u64 v] 56)) := by
  generalize hE : a.eval = E at hx ⊢
  unfold execOp
  simp only [ho, hx]
  go_simp
end
def A24 (gb : Nat) (x : Int) (vD u : Value) (w : World) : Prop := ∃ A, u = .slice (some ⟨A, 0, none⟩) 1 1 ∧ Holds w A 56 [.int .u64 x] ∧ some A ≠ vD.ownBlock ∧ A ≠ gb
def V24 (gb g12 D : Nat) (x : Int) (xs : List Int) (vD : Value) : Nat → Value → World → Prop
  | 0, u, _ => u = .pointer (some ⟨g12, 1, none⟩)
  | 1, u, _ => u = vD
  | 2, u, _ => u = f105V gb
  | 3, u, _ => u = .int .u64 x
  | 4, u, w => A24 gb x vD u w
  | 5, u, w => Rw .u64 56 w D u (xs ++ [x]) ∧ ∀ q, u.ownBlock = some q → q ≠ gb
  | 6, u, _ => u = .pointer (some ⟨g12, 1, none⟩)
  | _, _, _ => True
structure G24 (gb : Nat) (M : List Int) (vD : Value) (k : Nat) (w w' : World) : Prop where
  three : k = 3 → KTk gb 8 M w w'
  five : k = 5 → w.grownBy w' vD.ownBlock
  other : k ≠ 3 → k ≠ 5 → Below w.heap.size w w'
theorem V24_stays {gb g12 D : Nat} {x : Int} {xs M : List Int} {vD : Value} (i j : Nat) (v : Value) (w w' : World) (hij : i ≠ j) (h : V24 gb g12 D x xs vD j v w) (hg : G24 gb M vD i w w') : V24 gb g12 D x xs vD j v w' := by
  by_cases h3 : i = 3
  · have hk := (hg.three h3).kp
    unfold V24 at h ⊢
    split at h <;> first | exact h | (obtain ⟨A, e1, e2, e3, e4⟩ := h; exact ⟨A, e1, hk.holds e2 e4, e3, e4⟩) | exact ⟨hk.RI h.1 h.2, h.2⟩ | trivial
  · by_cases h5 : i = 5
    · have hk := hg.five h5
      unfold V24 at h ⊢
      split at h <;> first | exact h | (obtain ⟨A, e1, e2, e3, e4⟩ := h; exact ⟨A, e1, holds_grown e2 hk e3, e3, e4⟩) | exact absurd h5 hij | trivial
    · have hb := hg.other h3 h5
      unfold V24 at h ⊢
      split at h <;> first | exact h | (obtain ⟨A, e1, e2, e3, e4⟩ := h; exact ⟨A, e1, e2.below hb, e3, e4⟩) | exact ⟨Kd.R_below h.1 hb, h.2⟩ | trivial
structure J24 (gb D : Nat) (M xs : List Int) (vD : Value) (Wr : World) (L : Array Bool) (w : World) : Prop where
  kp : Kp (fun q => q = gb ∨ some q = vD.ownBlock) Wr w
  a : L.getD 3 false = false → Holds w gb 9 [.string (strOfNums M)]
  b : L.getD 3 false = true → 8 ≤ M.length ∧ Holds w gb 9 [.string (strOfNums (M.drop 8))]
  c : L.getD 5 false = false → Rw .u64 56 w D vD xs
theorem J24.bytes {gb D : Nat} {M xs : List Int} {vD : Value} {Wr w : World} {L : Array Bool} (h : J24 gb D M xs vD Wr L w) : ∃ M', Holds w gb 9 [.string (strOfNums M')] := by
  cases h3 : L.getD 3 false with
  | false => exact ⟨_, h.a h3⟩
  | true => exact ⟨_, (h.b h3).2⟩
theorem J24.step {gb D : Nat} {M xs : List Int} {vD : Value} {Wr w w' : World} {L : Array Bool} {k n : Nat} (hL : L.size = n) (hk : k < n) (hk0 : L.getD k false = false) (h : J24 gb D M xs vD Wr L w) (hg : G24 gb M vD k w w') : J24 gb D M xs vD Wr (L.setIfInBounds k true) w' := by
  by_cases e3 : k = 3
  · subst e3
    have g3 := hg.three rfl
    exact ⟨h.kp.trans g3.kp (fun _ _ e => .inl e), fun h1 => (by rw [set_at hL hk] at h1; cases h1), fun _ => ⟨g3.ok, g3.cb⟩, fun h5 => (by rw [getD_set_ne false (by decide)] at h5; exact g3.kp.rw (h.c h5) (off_cell (h.a hk0) (by decide)))⟩
  · by_cases e5 : k = 5
    · subst e5
      have g5 := hg.five rfl
      have hk5 := Kp.of_grown g5
      have ho := off_row (e := 9) (h.c hk0) (by decide)
      exact ⟨h.kp.trans hk5 (fun _ _ e => .inr e), fun h1 => (by rw [getD_set_ne false (by decide)] at h1; exact hk5.hold (h.a h1) ho), fun h1 => (by rw [getD_set_ne false (by decide)] at h1; exact ⟨(h.b h1).1, hk5.hold (h.b h1).2 ho⟩), fun h1 => (by rw [set_at hL hk] at h1; cases h1)⟩
    · have hb := hg.other e3 e5
      exact ⟨h.kp.trans (kp_below (fun _ => False) hb) (fun _ _ e => e.elim), fun h1 => (by rw [getD_set_ne false e3] at h1; exact (h.a h1).below hb), fun h1 => (by rw [getD_set_ne false e3] at h1; exact ⟨(h.b h1).1, (h.b h1).2.below hb⟩), fun h1 => (by rw [getD_set_ne false e5] at h1; exact Kd.R_below (h.c h1) hb)⟩
theorem shape_of {B : Nat} {vT vG vN : Value} {ps qs : List (Value × Value)} {T : List S124} {G : List Int} {N : List S127} {W : World} (rT : Kd.R kraw 128 W B (fun _ => True) vT ps) (eT : Els2 S124.f0 S124.f1 .i64 3 W B ps T) (rG : Rw .i64 3 W B vG G) (rN : Kd.R kraw 131 W B (fun _ => True) vN qs) (eN : Els2 S127.f0 S127.f1 .u64 56 W B qs N) : IsSh W (.agg #[vT, vG, vN]) ⟨T, G, N⟩ := by
  obtain ⟨AT, cT, rfl⟩ := Kd.R_slice rT
  obtain ⟨AG, cG, rfl⟩ := Kd.R_slice rG
  obtain ⟨AN, cN, rfl⟩ := Kd.R_slice rN
  have hG := R_iv rG
  obtain ⟨AG', cG', e, hg1, hg2⟩ := hG
  injection e with e1 e2 e3
  subst e1 e3
  rw [eT.1] at rT
  rw [eN.1] at rN
  obtain ⟨lT, kT⟩ := els_T (vT := undef) rT eT.1 (fun i p t hp ht => ⟨R_iv (eT.2 i p t hp ht).1, R_iv (eT.2 i p t hp ht).2⟩)
  obtain ⟨lN, kN⟩ := els_N (vT := undef) rN eN.1 (fun i p t hp ht => ⟨R_iv (eN.2 i p t hp ht).1, R_iv (eN.2 i p t hp ht).2⟩)
  exact ⟨AT, cT, AG, cG, AN, cN, by rw [eT.1, eN.1], lT, kT, hg1, hg2, lN, kN⟩
theorem R_old {α : Type} {d : Kd α} {e B : Nat} {ok : Nat → Prop} {W W' : World} {v : Value} {xs : List α} (hk : Kp (fun q => q < B) W W') (hr : d.R e W B ok v xs) : d.R e W' B ok v xs :=
  Kd.R_mono (hk.R (Kd.R_bound hr) (fun k hk1 _ h => by have := hk1.2.1; omega)) (fun k h => h.1)
theorem shape_old {B : Nat} {vT vG vN : Value} {ps qs : List (Value × Value)} {T : List S124} {G : List Int} {N : List S127} {W W' w2 : World} (rT : Kd.R kraw 128 W B (fun _ => True) vT ps) (eT : Els2 S124.f0 S124.f1 .i64 3 W B ps T) (rG : Rw .i64 3 W B vG G) (rN : Kd.R kraw 131 W B (fun _ => True) vN qs) (eN : Els2 S127.f0 S127.f1 .u64 56 W B qs N) (hb : Below W.heap.size W W') (hk : Kp (fun q => q < B) W' w2) : IsSh w2 (.agg #[vT, vG, vN]) ⟨T, G, N⟩ :=
  shape_of (R_old hk (Kd.R_below rT hb)) ⟨eT.1, fun i p t hp ht => ⟨R_old hk (Kd.R_below (eT.2 i p t hp ht).1 hb), R_old hk (Kd.R_below (eT.2 i p t hp ht).2 hb)⟩⟩ (R_old hk (Kd.R_below rG hb)) (R_old hk (Kd.R_below rN hb)) ⟨eN.1, fun i p t hp ht => ⟨R_old hk (Kd.R_below (eN.2 i p t hp ht).1 hb), R_old hk (Kd.R_below (eN.2 i p t hp ht).2 hb)⟩⟩
theorem toList_loop (b : ByteArray) : ∀ (m i : Nat) (r : List UInt8), m + i = b.size → (ByteArray.toList.loop b i r).length = r.length + m
  | 0, i, r, h => by
    unfold ByteArray.toList.loop
    rw [if_neg (by omega), List.length_reverse, Nat.add_zero]
  | m + 1, i, r, h => by
    unfold ByteArray.toList.loop
    rw [if_pos (by omega), toList_loop b m (i + 1) _ (by omega), List.length_cons]
    omega
theorem str_empty (xs : List Int) : (strOfNums xs).toList.isEmpty = decide (xs = []) := by
  have h := toList_loop (strOfNums xs) (strOfNums xs).size 0 [] (by omega)
  have h2 : (strOfNums xs).toList.length = xs.length := by
    show (ByteArray.toList.loop (strOfNums xs) 0 []).length = _
    rw [h, strOfNums_size]
    simp
  cases xs with
  | nil =>
    rw [List.length_nil] at h2
    rw [List.length_eq_zero_iff.1 h2]
    rfl
  | cons x xs =>
    cases hl : (strOfNums (x :: xs)).toList with
    | nil => rw [hl] at h2; cases h2
    | cons y ys => simp
set_option maxHeartbeats 8000000 in
set_option maxRecDepth 100000 in
theorem shapeOf_calls (L : List Int) (hB : Byt L) (hl : L.length ≤ 1000000) (w : World) : Calls Try.prog 74 #[.string (strOfNums L)] w (R74 w L) := by
  have hmf : ∀ (fn : Fn) (first cap : Array Value) (w : World), (Instr.makeFunc fn first cap).run Try.prog w = .ok (.func fn first cap) w := fun _ _ _ _ => rfl
  have HBY := Aside0.mk hB
  have HL := Aside0.mk hl
  clear hB hl
  go_enter_defers Try.func74, Try.ntmps74
  go_upto_region 4 with (fail)
  obtain ⟨gb, hgb⟩ : ∃ gb, gb = w.heap.size := ⟨_, rfl⟩
  have HS0 := Aside0.mk (show SI w.heap.size gb (gb + 1) (gb + 1 + 1) (gb + 1 + 1 + 1) w (.slice none 0 0) (.slice none 0 0) (.slice none 0 0) [] [] [] [] [] L ((((w.alloc (Obj.cells #[Value.string (strOfNums L)] 9)).alloc (Obj.cells #[Value.slice none 0 0, Value.slice none 0 0, Value.slice none 0 0] 89)).alloc (Obj.cells #[Value.bool false] 4)).alloc (Obj.cells #[Value.func (Fn.func 105) #[] #[Value.pointer (some ⟨gb, 0, none⟩)]] 164)) by rw [hgb]; exact si_start w L)
  have HGB : Aside0 (w.heap.size ≤ gb ∧ w.heap.size ≤ gb + 1 ∧ w.heap.size ≤ gb + 1 + 1) := ⟨by omega⟩
  rw [← hgb]
  generalize (((w.alloc (Obj.cells #[Value.string (strOfNums L)] 9)).alloc (Obj.cells #[Value.slice none 0 0, Value.slice none 0 0, Value.slice none 0 0] 89)).alloc (Obj.cells #[Value.bool false] 4)).alloc (Obj.cells #[Value.func (Fn.func 105) #[] #[Value.pointer (some ⟨gb, 0, none⟩)]] 164) = w4 at HS0 ⊢
  clear hgb
  generalize gb + 1 + 1 + 1 = g4 at HS0 ⊢
  generalize gb + 1 + 1 = g3 at HS0 HGB ⊢
  generalize gb + 1 = g2 at HS0 HGB ⊢
  go_wp2_with fail
  go_loopg [16] 4 (fun kq v16 w' => ∃ (i : Nat), v16 = .int .i64 (i : Int) ∧ i + kq = 4 ∧ Aside0 (L.take i = magicB.take i) ∧ Aside0 (i ≤ L.length) ∧ Aside0 (SI w.heap.size gb g2 g3 g4 w (.slice none 0 0) (.slice none 0 0) (.slice none 0 0) [] [] [] [] [] (L.drop i) w'))
  case atStart => exact ⟨0, rfl, by omega, ⟨rfl⟩, ⟨by omega⟩, ⟨by rw [List.drop_zero]; exact HS0.out⟩⟩
  case round =>
    clear HS0
    obtain ⟨i, rfl, hi, HMG, HIL, HSI⟩ := hrel
    obtain ⟨W0, rfl⟩ : ∃ W0, W0 = wr := ⟨wr, rfl⟩
    cases gk with
    | zero =>
      obtain rfl : i = 4 := by omega
      have HD := Aside0.mk (show decF L = dHd (L.drop 4) by unfold decF; rw [if_pos (show L.take 4 = magicB from HMG.out)])
      clear hi
      go_upto_region 10 with (fail)
      have HSX := HSI
      refine weaveC 8 101 (fun k u _ => V10 gb (ub ((L.drop 4).take 1)) (ub (((L.drop 4).drop 1).take 1)) k u W0) (JT (fun M w1 => SI w.heap.size gb g2 g3 g4 w (.slice none 0 0) (.slice none 0 0) (.slice none 0 0) [] [] [] [] [] M w1) (L.drop 4)) (GT gb (L.drop 4)) (by kernel_rfl) (by rfl) (by kernel_rfl) ?j0 ?jj ?vv ?st ?en
      case j0 => exact ⟨fun _ => HSX.out.flow HGB.out.1 (below_drew (Below.refl _ _)), fun h => (by cases h), fun h => (by cases h)⟩
      case jj => exact fun k L1 w1 w2 hk hL hcl hrd hk0 hJ hG => JT.step (fun M w w' h hb => h.flow HGB.out.1 hb) (fun M M' w w' h hk hb => h.kp HGB.out.1 hk hb) hL (Nat.lt_of_lt_of_le hk (by decide)) (fun h4 => closed_at hcl (j := 4) (i := 1) rfl (by kernel_rfl) h4) (fun e => by subst e; exact hrd _ rfl 1 (by kernel_rfl)) hk0 hJ hG
      case vv => exact fun i j v w1 w2 _ _ _ h _ => h
      case st =>
        refine StepsC.cons (fun a w1 L1 fr hL hj hdf hd hcl hrd K hK => ?_) ?_
        · obtain ⟨M', hsi⟩ := hj.any
          exact wp_val (load164_exec rfl ((fr 4 (by kernel_rfl)).trans rfl) ((hsi.cf.cell 0).trans rfl)) (hK _ _ ⟨fun h => (by cases h), fun h => (by cases h), fun _ _ => Below.refl _ _⟩ rfl)
        refine StepsC.cons (fun a w1 L1 fr hL hj hdf hd hcl hrd K hK => ?_) ?_
        · have hsi := hj.a hL
          refine wp_callp Try.func105 (by kernel_rfl) rfl #[.int .i64 1, .pointer (some ⟨gb, 0, none⟩)] rfl (hd 0 27 (by kernel_rfl)) (by simp only [List.map_toArray, List.map_cons, List.map_nil]; rfl) ?_
          refine (takeL_calls 1 (by decide) (L.drop 4) (byt_drop HBY.out 4) (by rw [List.length_drop]; have := HL.out; omega) gb w1 hsi.cb).mono ?_
          rintro e w2 ⟨hk, (⟨h1, rfl⟩ | ⟨h1, rfl, hb⟩)⟩
          · exact .inr ⟨_, rfl, SI.threw hsi HGB.out hk (hdf.trans rfl) ((fr 2 (by kernel_rfl)).trans rfl) ((fr 3 (by kernel_rfl)).trans rfl) (HD.out.trans (dHd_1 h1))⟩
          · exact .inl ⟨_, rfl, hK _ _ ⟨fun _ => ⟨hk, h1, hb⟩, fun h => (by cases h), fun h _ => absurd rfl h⟩ rfl⟩
        refine StepsC.cons (fun a w1 L1 fr hL hj hdf hd hcl hrd K hK => ?_) ?_
        · exact wp_val (conv563_exec rfl (hd 1 28 (by kernel_rfl)) (by have := ub1_in (byt_drop HBY.out 4); omega)) (hK _ _ ⟨fun h => (by cases h), fun h => (by cases h), fun _ _ => Below.refl _ _⟩ rfl)
        refine StepsC.cons (fun a w1 L1 fr hL hj hdf hd hcl hrd K hK => ?_) ?_
        · obtain ⟨M', hsi⟩ := hj.any
          exact wp_val (load164_exec rfl ((fr 4 (by kernel_rfl)).trans rfl) ((hsi.cf.cell 0).trans rfl)) (hK _ _ ⟨fun h => (by cases h), fun h => (by cases h), fun _ _ => Below.refl _ _⟩ rfl)
        refine StepsC.cons (fun a w1 L1 fr hL hj hdf hd hcl hrd K hK => ?_) ?_
        · obtain ⟨hm1, hsi⟩ := hj.b (hrd 1 (by kernel_rfl)) hL
          refine wp_callp Try.func105 (by kernel_rfl) rfl #[.int .i64 1, .pointer (some ⟨gb, 0, none⟩)] rfl (hd 3 30 (by kernel_rfl)) (by simp only [List.map_toArray, List.map_cons, List.map_nil]; rfl) ?_
          refine (takeL_calls 1 (by decide) ((L.drop 4).drop 1) (byt_drop (byt_drop HBY.out 4) 1) (by rw [List.length_drop]; rw [List.length_drop]; have := HL.out; omega) gb w1 hsi.cb).mono ?_
          rintro e w2 ⟨hk, (⟨h1, rfl⟩ | ⟨h1, rfl, hb⟩)⟩
          · exact .inr ⟨_, rfl, SI.threw hsi HGB.out hk (hdf.trans rfl) ((fr 2 (by kernel_rfl)).trans rfl) ((fr 3 (by kernel_rfl)).trans rfl) (HD.out.trans (dHd_2 hm1 h1))⟩
          · exact .inl ⟨_, rfl, hK _ _ ⟨fun h => (by cases h), fun _ => ⟨hk, h1, hb⟩, fun _ h => absurd rfl h⟩ rfl⟩
        refine StepsC.cons (fun a w1 L1 fr hL hj hdf hd hcl hrd K hK => ?_) ?_
        · exact wp_val (conv563_exec rfl (hd 4 31 (by kernel_rfl)) (by have := ub1_in (byt_drop (byt_drop HBY.out 4) 1); omega)) (hK _ _ ⟨fun h => (by cases h), fun h => (by cases h), fun _ _ => Below.refl _ _⟩ rfl)
        refine StepsC.cons (fun a w1 L1 fr hL hj hdf hd hcl hrd K hK => ?_) ?_
        · exact wp_val (assign_exec rfl (hd 2 29 (by kernel_rfl))) (hK _ _ ⟨fun h => (by cases h), fun h => (by cases h), fun _ _ => Below.refl _ _⟩ rfl)
        refine StepsC.cons (fun a w1 L1 fr hL hj hdf hd hcl hrd K hK => ?_) ?_
        · exact wp_val (assign_exec rfl (hd 5 32 (by kernel_rfl))) (hK _ _ ⟨fun h => (by cases h), fun h => (by cases h), fun _ _ => Below.refl _ _⟩ rfl)
        exact StepsC.nil
      case en =>
        intro vs w6 L1 hJ hl hv
        have h6 : vs 6 = .int .i64 (ub ((L.drop 4).take 1)) := hv 6 7 (by decide) (by kernel_rfl)
        have h7 : vs 7 = .int .i64 (ub (((L.drop 4).drop 1).take 1)) := hv 7 8 (by decide) (by kernel_rfl)
        obtain ⟨hl1, hl2, hs6⟩ := hJ.c (hl 4 (by decide))
        have HS6 := Aside0.mk hs6
        have HD2 := Aside0.mk (HD.out.trans (dHd_3 hl1 hl2))
        have hx := ub1_in (byt_drop HBY.out 4)
        have hy := ub1_in (byt_drop (byt_drop HBY.out 4) 1)
        refine upto_none rfl ?_
        simp only [List.take_succ_cons, List.take_zero, putsOf, Act.put, List.setIfInBounds_toArray, List.set_cons_zero, List.set_cons_succ, h6, h7]
        obtain ⟨t, ht⟩ : ∃ t, t = (ub ((L.drop 4).take 1)).toNat := ⟨_, rfl⟩
        obtain ⟨s, hs⟩ : ∃ s, s = (ub (((L.drop 4).drop 1).take 1)).toNat := ⟨_, rfl⟩
        rw [show ub ((L.drop 4).take 1) = (t : Int) by omega, show ub (((L.drop 4).drop 1).take 1) = (s : Int) by omega]
        rw [← ht, ← hs] at HD2
        have HT := Aside0.mk (show t ≤ 255 by omega)
        have HSS := Aside0.mk (show s ≤ 255 by omega)
        have htl : t ≤ 1000 := by omega
        clear ht hs hx hy hl1 hl2 hs6 h6 h7 hv hl hJ HSI HSX HMG HD HIL
        obtain ⟨M2, hM2⟩ : ∃ M2, M2 = ((L.drop 4).drop 1).drop 1 := ⟨_, rfl⟩
        have HSB := Aside0.mk (show ∃ m, M2 = L.drop m from ⟨4 + 1 + 1, by rw [hM2, List.drop_drop, List.drop_drop]⟩)
        rw [← hM2] at HD2 HS6
        clear hM2
        go_wp2_with fail
        go_loopg [34] t (fun kq v34 w' => ∃ (i : Nat) (T : List S124) (vT : Value) (ps : List (Value × Value)) (Lc : List Int), v34 = .int .i64 (i : Int) ∧ i + kq = t ∧ Aside0 (itN (dT s) i M2 = some (T, Lc)) ∧ Aside0 (∃ m, Lc = L.drop m) ∧ Aside0 (SI w.heap.size gb g2 g3 g4 w vT (.slice none 0 0) (.slice none 0 0) ps [] T [] [] Lc w'))
        case atStart => exact ⟨0, [], _, _, M2, rfl, by omega, ⟨rfl⟩, HSB, HS6⟩
        case round =>
          clear HS6 HSB
          obtain ⟨i, T, vT, ps, Lc, rfl, hi, HIT, HSB, HSI⟩ := hrel
          obtain ⟨W5, rfl⟩ : ∃ W5, W5 = wr := ⟨wr, rfl⟩
          have HBC : Aside0 (Byt Lc) := ⟨by obtain ⟨m, hm⟩ := HSB.out; rw [hm]; exact byt_drop HBY.out m⟩
          have HLC : Aside0 (Lc.length ≤ 1000000) := ⟨by obtain ⟨m, hm⟩ := HSB.out; rw [hm, List.length_drop]; have := HL.out; omega⟩
          cases gk with
          | zero =>
            obtain rfl : i = t := by omega
            have HD3 := Aside0.mk (HD2.out.trans (dTs_done HIT.out))
            have r1 : decide ((i : Int) < (i : Int)) = false := decide_eq_false (by omega)
            have r2 : decide (i < i) = false := decide_eq_false (by omega)
            clear hi
            have hu := ub1_in HBC.out
            obtain ⟨g, hg⟩ : ∃ g, g = (ub (Lc.take 1)).toNat := ⟨_, rfl⟩
            have HUG := Aside0.mk (show ub (Lc.take 1) = (g : Int) by omega)
            have HGN := Aside0.mk hg
            have HG5 := Aside0.mk (show g ≤ 255 by omega)
            have hwg : IntKind.i64.wrap (g : Int) = (g : Int) := i64_in (by omega)
            clear hu hg
            have x5 : W5.cell? ⟨g4, 0, none⟩ = some (.func (.func 105) #[] #[.pointer (some ⟨gb, 0, none⟩)]) := (HSI.out.cf.cell 0).trans rfl
            go_upto_region 18 with (first
              | (go_at_call 105; go_must (refine (takeL_calls 1 (by decide) Lc HBC.out HLC.out gb _ HSI.out.cb).mono ?_); rintro e w7 ⟨hk7, (⟨h1, rfl⟩ | ⟨h1, rfl, hb7⟩)⟩; (· exact SI.threw HSI.out HGB.out hk7 rfl rfl rfl (HD3.out.trans (dG_1 h1))); rw [HUG.out]; have HS7 := Aside0.mk (HSI.out.kp HGB.out.1 hk7 hb7); have HE7 := Aside0.mk h1; clear hk7 h1 hb7)
              | (go_at_call 106; go_must (refine (refsT_calls g (by have := HG5.out; omega) (Lc.drop 1) (byt_drop HBC.out 1) (by rw [List.length_drop]; have := HLC.out; omega) gb g4 _ HS7.out.cb HS7.out.cf).mono ?_); rintro e w8 ⟨hk8, (⟨h1, rfl⟩ | ⟨h1, v2, rfl, hr2, hb8⟩)⟩; (· exact SI.threw HS7.out HGB.out hk8 rfl rfl rfl (HD3.out.trans (dG_2 HE7.out HGN.out h1))); obtain ⟨A2, c2, e2⟩ := Kd.R_slice hr2; rw [refsL_length] at e2; subst e2; have HR2 := Aside0.mk (Kd.R_lower hr2 HS7.out.size); have HS8 := Aside0.mk (HS7.out.kp HGB.out.1 hk8 hb8); have HE8 := Aside0.mk h1; have z9 := (HS8.out.cs.cell 1).trans rfl; have z9f := blk_frozen HS8.out.cs 1; clear hk8 h1 hr2 hb8))
            have HS9 : Aside0 (SI w.heap.size gb g2 g3 g4 w vT (.slice A2 g c2) (.slice none 0 0) ps [] T (refsL g (Lc.drop 1)) [] ((Lc.drop 1).drop (2 * g)) (w8.setCell ⟨g2, 1, none⟩ (.slice A2 g c2))) := ⟨HS8.out.setG HGB.out.2.1 HR2.out⟩
            generalize w8.setCell ⟨g2, 1, none⟩ (.slice A2 g c2) = w9 at HS9 ⊢
            clear HS8 HS7 HR2 z9 z9f x5
            obtain ⟨M1, hM1⟩ : ∃ M1, M1 = (Lc.drop 1).drop (2 * g) := ⟨_, rfl⟩
            have HM1 := Aside0.mk hM1
            rw [← hM1] at HS9
            have HBM := Aside0.mk (show Byt M1 by rw [hM1]; exact byt_drop (byt_drop HBC.out _) _)
            have HLM := Aside0.mk (show M1.length ≤ 1000000 by rw [hM1, List.length_drop, List.length_drop]; have := HLC.out; omega)
            clear hM1
            have hu := ub2_in' HBM.out
            obtain ⟨n, hn⟩ : ∃ n, n = (ub (M1.take 2)).toNat := ⟨_, rfl⟩
            have HUN := Aside0.mk (show ub (M1.take 2) = (n : Int) by omega)
            have HNN := Aside0.mk hn
            have HN5 := Aside0.mk (show n ≤ 65535 by omega)
            have hwn : IntKind.i64.wrap (n : Int) = (n : Int) := i64_in (by omega)
            clear hu hn
            have x5 : w9.cell? ⟨g4, 0, none⟩ = some (.func (.func 105) #[] #[.pointer (some ⟨gb, 0, none⟩)]) := (HS9.out.cf.cell 0).trans rfl
            go_wp2_with (go_at_call 105; go_must (refine (takeL_calls 2 (by decide) M1 HBM.out HLM.out gb _ HS9.out.cb).mono ?_); rintro e w10 ⟨hk7, (⟨h1, rfl⟩ | ⟨h1, rfl, hb7⟩)⟩; (· exact SI.threw HS9.out HGB.out hk7 rfl rfl rfl (HD3.out.trans (dG_3 HE7.out HGN.out HE8.out (by rw [← HM1.out]; exact h1)))); rw [HUN.out]; have HS10 := Aside0.mk (HS9.out.kp HGB.out.1 hk7 hb7); have HE10 := Aside0.mk h1; clear hk7 h1 hb7)
            obtain ⟨M3, hM3⟩ : ∃ M3, M3 = M1.drop 2 := ⟨_, rfl⟩
            have HD4 := Aside0.mk (show decF L = dNs T (refsL g (Lc.drop 1)) n M3 by rw [HD3.out, dG_4 (g := g) (n := n) HE7.out HGN.out HE8.out (by rw [← HM1.out]; exact HE10.out) (by rw [← HM1.out]; exact HNN.out), hM3, HM1.out])
            have HSB3 := Aside0.mk (show ∃ m, M3 = L.drop m by obtain ⟨q, hq⟩ := HSB.out; rw [hM3, HM1.out, hq, List.drop_drop, List.drop_drop, List.drop_drop]; exact ⟨_, rfl⟩)
            rw [← hM3] at HS10
            generalize Value.slice A2 g c2 = vG at HS10 ⊢
            generalize refsL g (Lc.drop 1) = G at HS10 HD4
            clear HSI HSB HS9 x5 hM3 HNN HUN HM1 HBM HLM HE10 HE7 HE8 HUG HGN HG5 hwg HBC HLC HIT HD3
            go_loopg [62] n (fun kq v62 w' => ∃ (i : Nat) (N : List S127) (vN : Value) (qs : List (Value × Value)) (Lc : List Int), v62 = .int .i64 (i : Int) ∧ i + kq = n ∧ Aside0 (itN dN i M3 = some (N, Lc)) ∧ Aside0 (∃ m, Lc = L.drop m) ∧ Aside0 (SI w.heap.size gb g2 g3 g4 w vT vG vN ps qs T G N Lc w'))
            case atStart => exact ⟨0, [], _, _, M3, rfl, by omega, ⟨rfl⟩, HSB3, HS10⟩
            case round =>
              clear HS10 HSB3
              obtain ⟨j, N, vN, qs, Lc, rfl, hi, HIT, HSB, HSI⟩ := hrel
              obtain ⟨W7, rfl⟩ : ∃ W7, W7 = wr := ⟨wr, rfl⟩
              have HBC : Aside0 (Byt Lc) := ⟨by obtain ⟨m, hm⟩ := HSB.out; rw [hm]; exact byt_drop HBY.out m⟩
              have HLC : Aside0 (Lc.length ≤ 1000000) := ⟨by obtain ⟨m, hm⟩ := HSB.out; rw [hm, List.length_drop]; have := HL.out; omega⟩
              cases gk with
              | zero =>
                obtain rfl : j = n := by omega
                have r1 : decide ((j : Int) < (j : Int)) = false := decide_eq_false (by omega)
                have r2 : decide (j < j) = false := decide_eq_false (by omega)
                have HD5 := Aside0.mk (HD4.out.trans (dNs_done HIT.out))
                clear hi
                obtain ⟨AT, cT, rfl⟩ := Kd.R_slice HSI.out.rT
                obtain ⟨AG, cG, rfl⟩ := Kd.R_slice HSI.out.rG
                obtain ⟨AN, cN, rfl⟩ := Kd.R_slice HSI.out.rN
                have hu89 := Try.underlying89
                have x0 : W7.cell? ⟨g2, 0, none⟩ = some (.slice AT ps.length cT) := (HSI.out.cs.cell 0).trans rfl
                have x1 : W7.cell? ⟨g2, 1, none⟩ = some (.slice AG G.length cG) := (HSI.out.cs.cell 1).trans rfl
                have x2 : W7.cell? ⟨g2, 2, none⟩ = some (.slice AN qs.length cN) := (HSI.out.cs.cell 2).trans rfl
                have xb : W7.cell? ⟨gb, 0, none⟩ = some (.string (strOfNums Lc)) := (HSI.out.cb.cell 0).trans rfl
                have hsq := str_empty Lc
                have HQN := Aside0.mk HSI.out.eN.1
                by_cases hLc : Lc = []
                · have hd : decide (Lc = []) = true := decide_eq_true hLc
                  rw [hd] at hsq
                  have HLc := Aside0.mk hLc
                  clear hLc hd
                  by_cases hq : qs.length ≤ 1000
                  · have t1 : decide ((qs.length : Int) ≤ 1000) = true := decide_eq_true (by omega)
                    have t2 : decide (qs.length ≤ 1000) = true := decide_eq_true hq
                    have HDF := Aside0.mk (show decF L = some ⟨T, G, N⟩ by rw [HD5.out]; unfold dEnd; rw [if_pos ⟨HLc.out, by rw [← HQN.out]; exact hq⟩])
                    clear hq
                    go_wp2_with (first
                      | ((with_reducible refine gate_store (t := 89) (p := 2) rfl ?_); refine store_agg_event rfl (ty := 89) rfl rfl (g := g2) (off := 0) (vs := #[.slice AT ps.length cT, .slice AG G.length cG, .slice AN qs.length cN]) rfl rfl HSI.out.cs (by show 3 ≤ 3; decide) size89 (by simp [Value.oneCell']) ?_; intro w7 hh7 hs7; have HH7 := Aside0.mk hh7; have HK7 := Aside0.mk (kp_stored hs7); have H37 := Aside0.mk ((kp_stored hs7).hold HSI.out.cg (off_cell HSI.out.cs (by decide))); have z3 := (H37.out.cell 0).trans rfl; have z4 := blk_frozen H37.out 0; clear hh7 hs7))
                    have hk8 := kp_setCell w7 g3 0 (.bool true)
                    have hb6 := HK7.out.below HSI.out.below HSI.out.size (fun k hk => by subst hk; exact HGB.out.2.1)
                    have hs6 := Nat.le_trans HSI.out.size HK7.out.size
                    have hb7 := hk8.below hb6 hs6 (fun k hk => by subst hk; exact HGB.out.2.2)
                    refine door_ret (g2 := g2) (g3 := g3) (x := true) rfl rfl rfl (hk8.hold (show Holds w7 g2 89 [.slice AT ps.length cT, .slice AG G.length cG, .slice AN qs.length cN] from HH7.out) (off_cell H37.out (by decide))) (holds_cells (vs := [.bool true]) H37.out (by show 0 + 1 ≤ 1; decide)) (fun W' hb => ⟨AT, ps.length, cT, AG, G.length, cG, AN, qs.length, cN, by rw [HDF.out]; rfl, below_then hb7 (Nat.le_trans hs6 hk8.size) hb, fun S hS => ?_⟩)
                    rw [HDF.out] at hS
                    obtain rfl := Option.some.inj hS
                    have o7 := fun (e : Nat) (he : 89 ≠ e) => off_cell (e := e) HSI.out.cs he
                    have o8 := fun (e : Nat) (he : 4 ≠ e) => off_cell (e := e) H37.out he
                    exact fun w2 hk2 => shape_old (raw_step hk8 (raw_step HK7.out HSI.out.rT (o7 128 (by decide))) (o8 128 (by decide))) (Els2.kp hk8 (Els2.kp HK7.out HSI.out.eT (o7 3 (by decide)) (o7 3 (by decide))) (o8 3 (by decide)) (o8 3 (by decide))) (hk8.rw (HK7.out.rw HSI.out.rG (o7 3 (by decide))) (o8 3 (by decide))) (raw_step hk8 (raw_step HK7.out HSI.out.rN (o7 131 (by decide))) (o8 131 (by decide))) (Els2.kp hk8 (Els2.kp HK7.out HSI.out.eN (o7 3 (by decide)) (o7 56 (by decide))) (o8 3 (by decide)) (o8 56 (by decide))) hb hk2
                  · have t1 : decide ((qs.length : Int) ≤ 1000) = false := decide_eq_false (by omega)
                    have t2 : decide (qs.length ≤ 1000) = false := decide_eq_false hq
                    have HDF := Aside0.mk (show decF L = none by rw [HD5.out]; unfold dEnd; rw [if_neg (fun h => hq (by rw [HQN.out]; exact h.2))])
                    clear hq
                    go_wp2_with (first
                      | ((with_reducible refine gate_store (t := 89) (p := 2) rfl ?_); refine store_agg_event rfl (ty := 89) rfl rfl (g := g2) (off := 0) (vs := #[.slice AT ps.length cT, .slice AG G.length cG, .slice AN qs.length cN]) rfl rfl HSI.out.cs (by show 3 ≤ 3; decide) size89 (by simp [Value.oneCell']) ?_; intro w7 hh7 hs7; have HH7 := Aside0.mk hh7; have HK7 := Aside0.mk (kp_stored hs7); have H37 := Aside0.mk ((kp_stored hs7).hold HSI.out.cg (off_cell HSI.out.cs (by decide))); have z3 := (H37.out.cell 0).trans rfl; have z4 := blk_frozen H37.out 0; clear hh7 hs7))
                    have hk8 := kp_setCell w7 g3 0 (.bool false)
                    have hb6 := HK7.out.below HSI.out.below HSI.out.size (fun k hk => by subst hk; exact HGB.out.2.1)
                    have hs6 := Nat.le_trans HSI.out.size HK7.out.size
                    have hb7 := hk8.below hb6 hs6 (fun k hk => by subst hk; exact HGB.out.2.2)
                    refine door_ret (g2 := g2) (g3 := g3) (x := false) rfl rfl rfl (hk8.hold (show Holds w7 g2 89 [.slice AT ps.length cT, .slice AG G.length cG, .slice AN qs.length cN] from HH7.out) (off_cell H37.out (by decide))) (holds_cells (vs := [.bool false]) H37.out (by show 0 + 1 ≤ 1; decide)) (fun W' hb => ⟨AT, ps.length, cT, AG, G.length, cG, AN, qs.length, cN, by rw [HDF.out]; rfl, below_then hb7 (Nat.le_trans hs6 hk8.size) hb, fun S hS => ?_⟩)
                    rw [HDF.out] at hS
                    cases hS
                · have hd : decide (Lc = []) = false := decide_eq_false hLc
                  rw [hd] at hsq
                  have HDF := Aside0.mk (show decF L = none by rw [HD5.out]; unfold dEnd; rw [if_neg (fun h => hLc h.1)])
                  clear hLc hd
                  go_wp2_with (first
                    | ((with_reducible refine gate_store (t := 89) (p := 2) rfl ?_); refine store_agg_event rfl (ty := 89) rfl rfl (g := g2) (off := 0) (vs := #[.slice AT ps.length cT, .slice AG G.length cG, .slice AN qs.length cN]) rfl rfl HSI.out.cs (by show 3 ≤ 3; decide) size89 (by simp [Value.oneCell']) ?_; intro w7 hh7 hs7; have HH7 := Aside0.mk hh7; have HK7 := Aside0.mk (kp_stored hs7); have H37 := Aside0.mk ((kp_stored hs7).hold HSI.out.cg (off_cell HSI.out.cs (by decide))); have z3 := (H37.out.cell 0).trans rfl; have z4 := blk_frozen H37.out 0; clear hh7 hs7))
                  have hk8 := kp_setCell w7 g3 0 (.bool false)
                  have hb6 := HK7.out.below HSI.out.below HSI.out.size (fun k hk => by subst hk; exact HGB.out.2.1)
                  have hs6 := Nat.le_trans HSI.out.size HK7.out.size
                  have hb7 := hk8.below hb6 hs6 (fun k hk => by subst hk; exact HGB.out.2.2)
                  refine door_ret (g2 := g2) (g3 := g3) (x := false) rfl rfl rfl (hk8.hold (show Holds w7 g2 89 [.slice AT ps.length cT, .slice AG G.length cG, .slice AN qs.length cN] from HH7.out) (off_cell H37.out (by decide))) (holds_cells (vs := [.bool false]) H37.out (by show 0 + 1 ≤ 1; decide)) (fun W' hb => ⟨AT, ps.length, cT, AG, G.length, cG, AN, qs.length, cN, by rw [HDF.out]; rfl, below_then hb7 (Nat.le_trans hs6 hk8.size) hb, fun S hS => ?_⟩)
                  rw [HDF.out] at hS
                  cases hS
              | succ k2 =>
                have hil : j < n := by omega
                have r1 : decide ((j : Int) < (n : Int)) = true := decide_eq_true (by omega)
                have r2 : decide (j < n) = true := decide_eq_true (by omega)
                have hin : j < 1000000 := by have := HN5.out; omega
                have HI := Aside0.mk hi
                have HNO := Aside0.mk (show dN Lc = none → decF L = none from fun h => HD4.out.trans (dNs_stop HIT.out h hil))
                clear hi hil
                go_upto_region 20 with (fail)
                have HSX := HSI
                refine weaveC 8 101 (fun k u _ => V10 gb (ub ((Lc).take 1)) (ub (((Lc).drop 1).take 1)) k u W7) (JT (fun M w1 => SI w.heap.size gb g2 g3 g4 w vT vG vN ps qs T G N M w1) (Lc)) (GT gb (Lc)) (by kernel_rfl) (by rfl) (by kernel_rfl) ?j0 ?jj ?vv ?st ?en
                case j0 => exact ⟨fun _ => HSX.out.flow HGB.out.1 (below_drew (Below.refl _ _)), fun h => (by cases h), fun h => (by cases h)⟩
                case jj => exact fun k L1 w1 w2 hk hL hcl hrd hk0 hJ hG => JT.step (fun M w w' h hb => h.flow HGB.out.1 hb) (fun M M' w w' h hk hb => h.kp HGB.out.1 hk hb) hL (Nat.lt_of_lt_of_le hk (by decide)) (fun h4 => closed_at hcl (j := 4) (i := 1) rfl (by kernel_rfl) h4) (fun e => by subst e; exact hrd _ rfl 1 (by kernel_rfl)) hk0 hJ hG
                case vv => exact fun i j v w1 w2 _ _ _ h _ => h
                case st =>
                  refine StepsC.cons (fun a w1 L1 fr hL hj hdf hd hcl hrd K hK => ?_) ?_
                  · obtain ⟨M', hsi⟩ := hj.any
                    exact wp_val (load164_exec rfl ((fr 4 (by kernel_rfl)).trans rfl) ((hsi.cf.cell 0).trans rfl)) (hK _ _ ⟨fun h => (by cases h), fun h => (by cases h), fun _ _ => Below.refl _ _⟩ rfl)
                  refine StepsC.cons (fun a w1 L1 fr hL hj hdf hd hcl hrd K hK => ?_) ?_
                  · have hsi := hj.a hL
                    refine wp_callp Try.func105 (by kernel_rfl) rfl #[.int .i64 1, .pointer (some ⟨gb, 0, none⟩)] rfl (hd 0 64 (by kernel_rfl)) (by simp only [List.map_toArray, List.map_cons, List.map_nil]; rfl) ?_
                    refine (takeL_calls 1 (by decide) (Lc) (HBC.out) (by exact HLC.out) gb w1 hsi.cb).mono ?_
                    rintro e w2 ⟨hk, (⟨h1, rfl⟩ | ⟨h1, rfl, hb⟩)⟩
                    · exact .inr ⟨_, rfl, SI.threw hsi HGB.out hk (hdf.trans rfl) ((fr 2 (by kernel_rfl)).trans rfl) ((fr 3 (by kernel_rfl)).trans rfl) (HNO.out (dN_1 h1))⟩
                    · exact .inl ⟨_, rfl, hK _ _ ⟨fun _ => ⟨hk, h1, hb⟩, fun h => (by cases h), fun h _ => absurd rfl h⟩ rfl⟩
                  refine StepsC.cons (fun a w1 L1 fr hL hj hdf hd hcl hrd K hK => ?_) ?_
                  · exact wp_val (conv563_exec rfl (hd 1 65 (by kernel_rfl)) (by have := ub1_in (HBC.out); omega)) (hK _ _ ⟨fun h => (by cases h), fun h => (by cases h), fun _ _ => Below.refl _ _⟩ rfl)
                  refine StepsC.cons (fun a w1 L1 fr hL hj hdf hd hcl hrd K hK => ?_) ?_
                  · obtain ⟨M', hsi⟩ := hj.any
                    exact wp_val (load164_exec rfl ((fr 4 (by kernel_rfl)).trans rfl) ((hsi.cf.cell 0).trans rfl)) (hK _ _ ⟨fun h => (by cases h), fun h => (by cases h), fun _ _ => Below.refl _ _⟩ rfl)
                  refine StepsC.cons (fun a w1 L1 fr hL hj hdf hd hcl hrd K hK => ?_) ?_
                  · obtain ⟨hm1, hsi⟩ := hj.b (hrd 1 (by kernel_rfl)) hL
                    refine wp_callp Try.func105 (by kernel_rfl) rfl #[.int .i64 1, .pointer (some ⟨gb, 0, none⟩)] rfl (hd 3 67 (by kernel_rfl)) (by simp only [List.map_toArray, List.map_cons, List.map_nil]; rfl) ?_
                    refine (takeL_calls 1 (by decide) ((Lc).drop 1) (byt_drop (HBC.out) 1) (by rw [List.length_drop]; have := HLC.out; omega) gb w1 hsi.cb).mono ?_
                    rintro e w2 ⟨hk, (⟨h1, rfl⟩ | ⟨h1, rfl, hb⟩)⟩
                    · exact .inr ⟨_, rfl, SI.threw hsi HGB.out hk (hdf.trans rfl) ((fr 2 (by kernel_rfl)).trans rfl) ((fr 3 (by kernel_rfl)).trans rfl) (HNO.out (dN_2 hm1 h1))⟩
                    · exact .inl ⟨_, rfl, hK _ _ ⟨fun h => (by cases h), fun _ => ⟨hk, h1, hb⟩, fun _ h => absurd rfl h⟩ rfl⟩
                  refine StepsC.cons (fun a w1 L1 fr hL hj hdf hd hcl hrd K hK => ?_) ?_
                  · exact wp_val (conv563_exec rfl (hd 4 68 (by kernel_rfl)) (by have := ub1_in (byt_drop (HBC.out) 1); omega)) (hK _ _ ⟨fun h => (by cases h), fun h => (by cases h), fun _ _ => Below.refl _ _⟩ rfl)
                  refine StepsC.cons (fun a w1 L1 fr hL hj hdf hd hcl hrd K hK => ?_) ?_
                  · exact wp_val (assign_exec rfl (hd 2 66 (by kernel_rfl))) (hK _ _ ⟨fun h => (by cases h), fun h => (by cases h), fun _ _ => Below.refl _ _⟩ rfl)
                  refine StepsC.cons (fun a w1 L1 fr hL hj hdf hd hcl hrd K hK => ?_) ?_
                  · exact wp_val (assign_exec rfl (hd 5 69 (by kernel_rfl))) (hK _ _ ⟨fun h => (by cases h), fun h => (by cases h), fun _ _ => Below.refl _ _⟩ rfl)
                  exact StepsC.nil
                case en =>
                  intro vs7 w8 L1 hJ hl hv
                  have h6 : vs7 6 = .int .i64 (ub (Lc.take 1)) := hv 6 10 (by decide) (by kernel_rfl)
                  have h7 : vs7 7 = .int .i64 (ub ((Lc.drop 1).take 1)) := hv 7 11 (by decide) (by kernel_rfl)
                  obtain ⟨hl1, hl2, hs8⟩ := hJ.c (hl 4 (by decide))
                  have HS8 := Aside0.mk hs8
                  have HE1 := Aside0.mk hl1
                  have HE2 := Aside0.mk hl2
                  have hx := ub1_in HBC.out
                  have hy := ub1_in (byt_drop HBC.out 1)
                  refine upto_none rfl ?_
                  simp only [List.take_succ_cons, List.take_zero, putsOf, Act.put, List.setIfInBounds_toArray, List.set_cons_zero, List.set_cons_succ, h6, h7]
                  obtain ⟨c, hc⟩ : ∃ c, c = (ub (Lc.take 1)).toNat := ⟨_, rfl⟩
                  obtain ⟨d, hd⟩ : ∃ d, d = (ub ((Lc.drop 1).take 1)).toNat := ⟨_, rfl⟩
                  rw [show ub (Lc.take 1) = (c : Int) by omega, show ub ((Lc.drop 1).take 1) = (d : Int) by omega]
                  have HCN := Aside0.mk hc
                  have HDN := Aside0.mk hd
                  have HC5 := Aside0.mk (show c ≤ 255 by omega)
                  have HD5 := Aside0.mk (show d ≤ 255 by omega)
                  clear hc hd hx hy hl1 hl2 hs8 h6 h7 hv hl hJ HSX
                  obtain ⟨M1, hM1⟩ : ∃ M1, M1 = (Lc.drop 1).drop 1 := ⟨_, rfl⟩
                  have HM1 := Aside0.mk hM1
                  rw [← hM1] at HS8
                  have HBM := Aside0.mk (show Byt M1 by rw [hM1]; exact byt_drop (byt_drop HBC.out _) _)
                  have HLM := Aside0.mk (show M1.length ≤ 1000000 by rw [hM1, List.length_drop, List.length_drop]; have := HLC.out; omega)
                  clear hM1 HSI
                  go_upto_region 22 with (go_at_call 106; go_must (refine (refsT_calls c (by have := HC5.out; omega) M1 HBM.out HLM.out gb g4 _ HS8.out.cb HS8.out.cf).mono ?_); rintro e w5 ⟨hk5, (⟨h1, rfl⟩ | ⟨h1, v1, rfl, hr1, hb5⟩)⟩; (· exact SI.threw HS8.out HGB.out hk5 rfl rfl rfl (HNO.out (dN_3 HE1.out HE2.out HCN.out HDN.out (by rw [← HM1.out]; exact h1)))); obtain ⟨A1, c1, e1⟩ := Kd.R_slice hr1; rw [refsL_length] at e1; subst e1; have HK5 := Aside0.mk hk5; have HR1 := Aside0.mk hr1; have HB5 := Aside0.mk hb5; have HE3 := Aside0.mk h1; clear hk5 hr1 hb5 h1)
                  have HK6 := Aside0.mk (HK5.out.trans (kp_below (fun q => q = gb) (below_alloc (Below.refl w5.heap.size w5) (Obj.cells #[Value.slice A1 c c1, Value.slice none 0 0] 131))) (fun _ _ h => h))
                  have HC9 := Aside0.mk (show Holds (w5.alloc (Obj.cells #[Value.slice A1 c c1, Value.slice none 0 0] 131)) w5.heap.size 131 [.slice A1 c c1, .slice none 0 0] from hold_alloc rfl)
                  have HB6 := Aside0.mk (HB5.out.below (below_alloc (Below.refl w5.heap.size w5) (Obj.cells #[Value.slice A1 c c1, Value.slice none 0 0] 131)))
                  have HR6 := Aside0.mk (show Rw .i64 3 (w5.alloc (Obj.cells #[Value.slice A1 c c1, Value.slice none 0 0] 131)) w.heap.size (.slice A1 c c1) (refsL c M1) from Kd.R_lower (Kd.R_below HR1.out (below_alloc (Below.refl w5.heap.size w5) _)) HS8.out.size)
                  have HG9 := Aside0.mk HK5.out.size
                  generalize w5.alloc (Obj.cells #[Value.slice A1 c c1, Value.slice none 0 0] 131) = w6 at HK6 HC9 HB6 HR6 ⊢
                  generalize w5.heap.size = g12 at HC9 HG9 ⊢
                  clear HK5 HB5 HR1
                  obtain ⟨Md, hMd⟩ : ∃ Md, Md = M1.drop (2 * c) := ⟨_, rfl⟩
                  have HMD := Aside0.mk hMd
                  rw [← hMd] at HB6
                  have HBD := Aside0.mk (show Byt Md by rw [hMd]; exact byt_drop HBM.out _)
                  have HLD := Aside0.mk (show Md.length ≤ 1000000 by rw [hMd, List.length_drop]; have := HLM.out; omega)
                  clear hMd
                  go_wp2_with fail
                  go_loopg [75] d (fun kq v75 w' => ∃ (i : Nat) (vD : Value), v75 = .int .i64 (i : Int) ∧ i + kq = d ∧ Aside0 (8 * i ≤ Md.length) ∧ Aside0 (Kp (fun q => q = gb) w8 w') ∧ Aside0 (Holds w' gb 9 [.string (strOfNums (Md.drop (8 * i)))]) ∧ Aside0 (Holds w' g12 131 [.slice A1 c c1, vD]) ∧ Aside0 (Rw .i64 3 w' w.heap.size (.slice A1 c c1) (refsL c M1)) ∧ Aside0 (Rw .u64 56 w' w8.heap.size vD (dataL i Md)))
                  case atStart => exact ⟨0, _, rfl, by omega, ⟨by omega⟩, HK6, ⟨by rw [Nat.mul_zero, List.drop_zero]; exact HB6.out⟩, HC9, HR6, ⟨Kd.R_nil _ _ _ _ _⟩⟩
                  case round =>
                    clear HK6 HC9 HB6 HR6
                    obtain ⟨i, vD, rfl, hi, HIL, HKK, HBB, HCC, HRR, HDD⟩ := hrel
                    obtain ⟨W9, rfl⟩ : ∃ W9, W9 = wr := ⟨wr, rfl⟩
                    cases gk with
                    | zero =>
                      obtain rfl : i = d := by omega
                      have r1 : decide ((i : Int) < (i : Int)) = false := decide_eq_false (by omega)
                      have r2 : decide (i < i) = false := decide_eq_false (by omega)
                      clear hi
                      have HS9 := Aside0.mk (HS8.out.kp HGB.out.1 HKK.out HBB.out)
                      obtain ⟨AD, cD, eD⟩ := Kd.R_slice HDD.out
                      rw [dataL_length] at eD
                      subst eD
                      have HRD := Aside0.mk (show Rw .u64 56 W9 w.heap.size (.slice AD i cD) (dataL i Md) from Kd.R_lower HDD.out HS8.out.size)
                      have z2 : W9.cell? ⟨g2, 2, none⟩ = some vN := (HS9.out.cs.cell 2).trans rfl
                      have z9a : W9.cell? ⟨g12, 0, none⟩ = some (.slice A1 c c1) := (HCC.out.cell 0).trans rfl
                      have z9b : W9.cell? ⟨g12, 1, none⟩ = some (.slice AD i cD) := (HCC.out.cell 1).trans rfl
                      have HQL := Aside0.mk (show qs.length ≤ 70000 by rw [HS9.out.eN.1]; have := itN_length HIT.out; have := HI.out; have := HN5.out; dsimp only at *; omega)
                      have hu131 := Try.underlying131
                      go_wp2_with (first
                        | (at_builtin; go_must (refine Kd.R_append kraw (w0 := W9) w.heap.size rfl (.tmp 86) (.tmp 88) 87 131 (.agg #[.slice none 0 0, .slice none 0 0]) 48 rfl Try.underlying87 info131r rfl (by decide) (by decide) vN qs (.slice A1 c c1, .slice AD i cD) [.slice A1 c c1, .slice AD i cD] (fun _ => True) (fun _ => False) rfl rfl ⟨rfl, rfl, rfl⟩ (fun _ hk => hk.elim) (fun _ _ => trivial) HS9.out.rN (Below.refl _ _) HS9.out.size (by have := HQL.out; omega) ?_); intro v3 w10 ho2 hb2 hg2 hat2; obtain ⟨A3, c3, e3⟩ := Kd.R_slice ho2; rw [show (qs ++ [((.slice A1 c c1 : Value), (.slice AD i cD : Value))]).length = qs.length + 1 by simp] at e3; subst e3; have HO2 := Aside0.mk ho2; have HG2 := Aside0.mk hg2; have HC210 := Aside0.mk (holds_grown HS9.out.cs hg2 (Kd.R_ne HS9.out.rN HS9.out.cs (by decide))); have y2 := (HC210.out.cell 2).trans rfl; have y2f := blk_frozen HC210.out 2; clear ho2 hb2 hg2 hat2))
                      go_roundg k2
                      case measure => have := HI.out; omega
                      case rel =>
                        refine ⟨j + 1, N ++ [⟨refsL c M1, dataL i Md⟩], .slice A3 (qs.length + 1) c3, _, Md.drop (8 * i), rfl, by have := HI.out; omega, ⟨itN_some HIT.out ?_⟩, ⟨?_⟩, ⟨HS9.out.pushN HGB.out.2.1 HRR.out HRD.out HG2.out HO2.out⟩⟩
                        · rw [HMD.out, HM1.out]
                          exact dN_5 HE1.out HE2.out HCN.out HDN.out (by rw [← HM1.out]; exact HE3.out) (by rw [← HM1.out, ← HMD.out]; exact HIL.out)
                        · obtain ⟨q, hq⟩ := HSB.out
                          rw [HMD.out, HM1.out, hq, List.drop_drop, List.drop_drop, List.drop_drop, List.drop_drop]
                          exact ⟨_, rfl⟩
                    | succ k3 =>
                      have hil : i < d := by omega
                      have r1 : decide ((i : Int) < (d : Int)) = true := decide_eq_true (by omega)
                      have r2 : decide (i < d) = true := decide_eq_true (by omega)
                      have hin : i < 1000000 := by have := HD5.out; omega
                      have HI3 := Aside0.mk hi
                      have HIL3 := Aside0.mk hil
                      clear hi hil
                      obtain ⟨AD, cD, rfl⟩ := Kd.R_slice HDD.out
                      go_upto_region 24 with (fail)
                      obtain ⟨vD, hvD⟩ : ∃ vD, vD = Value.slice AD (dataL i Md).length cD := ⟨_, rfl⟩
                      rw [← hvD] at HCC HDD
                      have HVD := Aside0.mk hvD
                      clear hvD
                      have hcf9 : Holds W9 g4 164 [f105V gb] := HKK.out.hold HS8.out.cf (off_cell HS8.out.cb (by decide))
                      have hoff : ∀ e, 9 ≠ e → 56 ≠ e → Off (fun q => q = gb ∨ some q = vD.ownBlock) e W9 := fun e h9 h56 k cells fr hc hq => by
                        rcases hq with hq | hq
                        · exact off_cell HBB.out h9 k cells fr hc hq
                        · exact off_row HDD.out h56 k cells fr hc hq
                      have hlt : ∀ q, vD.ownBlock = some q → q < W9.heap.size := Kd.R_lt HDD.out
                      have hgbl : gb < W9.heap.size := HBB.out.lt
                      refine weaveC 7 101 (V24 gb g12 w8.heap.size (ub ((Md.drop (8 * i)).take 8)) (dataL i Md) vD) (J24 gb w8.heap.size (Md.drop (8 * i)) (dataL i Md) vD W9) (G24 gb (Md.drop (8 * i)) vD) (by kernel_rfl) (by rfl) (by kernel_rfl) ?j0 ?jj ?vv ?st ?en
                      case j0 => exact ⟨kp_below _ (below_drew (Below.refl _ _)), fun _ => HBB.out.below (below_drew (Below.refl _ _)), fun h => (by cases h), fun _ => Kd.R_drew HDD.out⟩
                      case jj => exact fun k L1 w1 w2 hk hL hcl hrd hk0 hJ hG => J24.step hL (Nat.lt_of_lt_of_le hk (by decide)) hk0 hJ hG
                      case vv => exact fun i j v w1 w2 _ hij _ h hG => V24_stays i j v w1 w2 hij h hG
                      case st =>
                        refine StepsC.cons (fun a w1 L1 fr hL hj hdf hd hcl hrd K hK => ?_) ?_
                        · exact wp_val (fa131d_exec rfl ((fr 12 (by kernel_rfl)).trans rfl)) (hK _ _ ⟨fun h => (by cases h), fun h => (by cases h), fun _ _ => Below.refl _ _⟩ rfl)
                        refine StepsC.cons (fun a w1 L1 fr hL hj hdf hd hcl hrd K hK => ?_) ?_
                        · exact wp_val (load125_exec rfl (hd 0 77 (by kernel_rfl)) (((hj.kp.hold HCC.out (hoff 131 (by decide) (by decide))).cell 1).trans rfl)) (hK _ _ ⟨fun h => (by cases h), fun h => (by cases h), fun _ _ => Below.refl _ _⟩ rfl)
                        refine StepsC.cons (fun a w1 L1 fr hL hj hdf hd hcl hrd K hK => ?_) ?_
                        · exact wp_val (load164_exec rfl ((fr 4 (by kernel_rfl)).trans rfl) (((hj.kp.hold hcf9 (hoff 164 (by decide) (by decide))).cell 0).trans rfl)) (hK _ _ ⟨fun h => (by cases h), fun h => (by cases h), fun _ _ => Below.refl _ _⟩ rfl)
                        refine StepsC.cons (fun a w1 L1 fr hL hj hdf hd hcl hrd K hK => ?_) ?_
                        · refine wp_callp Try.func105 (by kernel_rfl) rfl #[.int .i64 8, .pointer (some ⟨gb, 0, none⟩)] rfl (hd 2 79 (by kernel_rfl)) (by simp only [List.map_toArray, List.map_cons, List.map_nil]; rfl) ?_
                          refine (takeL_calls 8 (by decide) (Md.drop (8 * i)) (byt_drop HBD.out _) (by rw [List.length_drop]; have := HLD.out; omega) gb w1 (hj.a hL)).mono ?_
                          rintro e w2 ⟨hk, (⟨h1, rfl⟩ | ⟨h1, rfl, hb⟩)⟩
                          · refine .inr ⟨_, rfl, SI.threw HS8.out HGB.out (HKK.out.trans (hj.kp.trans hk (fun _ _ e => .inl e)) (fun q hq e => ?_)) (hdf.trans rfl) ((fr 2 (by kernel_rfl)).trans rfl) ((fr 3 (by kernel_rfl)).trans rfl) (HNO.out (dN_4 HE1.out HE2.out HCN.out HDN.out (by rw [← HM1.out]; exact HE3.out) (by rw [← HM1.out, ← HMD.out]; rw [List.length_drop] at h1; have := HIL3.out; omega)))⟩
                            rcases e with e | e
                            · exact e
                            · have := Kd.R_base HDD.out q e.symm
                              omega
                          · exact .inl ⟨_, rfl, hK _ _ ⟨fun _ => ⟨hk, h1, hb⟩, fun h => (by cases h), fun h _ => absurd rfl h⟩ rfl⟩
                        refine StepsC.cons (fun a w1 L1 fr hL hj hdf hd hcl hrd K hK => ?_) ?_
                        · have e3 : a.eval (.tmp 80) = .int .u64 (ub ((Md.drop (8 * i)).take 8)) := (hd 3 80 (by kernel_rfl))
                          have hs := hj.kp.size
                          exact wp_val (lit125_exec rfl e3) (hK _ _ ⟨fun h => (by cases h), fun h => (by cases h), fun _ _ => below_alloc (Below.refl _ _) _⟩ (show A24 _ _ _ _ _ from ⟨w1.heap.size, rfl, blk_new _ _, fun e => by (have h1 := hlt _ e.symm; omega), by omega⟩))
                        refine StepsC.cons (fun a w1 L1 fr hL hj hdf hd hcl hrd K hK => ?_) ?_
                        · obtain ⟨Ap, e8, hh9, hne9, hng9⟩ : A24 gb (ub ((Md.drop (8 * i)).take 8)) vD (a.eval (.tmp 81)) w1 := (hd 4 81 (by kernel_rfl))
                          have e1 : a.eval (.tmp 78) = vD := (hd 1 78 (by kernel_rfl))
                          have hrow := hj.c hL
                          have hc9 : Kd.C (Kd.int .u64) w1 (some ⟨Ap, 0, none⟩) 1 [ub ((Md.drop (8 * i)).take 8)] := C_block (Kd.int .u64) hh9 reps1i (by simp)
                          have hs := hj.kp.size
                          refine append_wp (Kd.int .u64) (w0 := w1) w8.heap.size 125 56 (.int .u64 0) 8 rfl Try.underlying125 info56c rfl (by decide) (by decide) vD (dataL i Md) [ub ((Md.drop (8 * i)).take 8)] (some ⟨Ap, 0, none⟩) 1 1 (fun _ => True) e1 e8 (fun _ _ _ _ h => h) (fun _ _ => trivial) hrow hc9 (Below.refl _ _) (Nat.le_trans HKK.out.size hs) (by rw [dataL_length]; omega) ?_
                          intro v1 w2' hr1 hb1 hg1 hat
                          refine hK _ _ ⟨fun h => (by cases h), fun _ => hg1, fun _ h => absurd rfl h⟩ ⟨hr1, fun q hq e => ?_⟩
                          obtain ⟨M', hM'⟩ := hj.bytes
                          rcases hat with hat | ⟨b, hat, hb⟩
                          · rw [hat] at hq
                            exact (Kd.R_ne hrow hM' (by decide)) (by rw [hq, e])
                          · rw [hat] at hq
                            injection hq with hq
                            omega
                        refine StepsC.cons (fun a w1 L1 fr hL hj hdf hd hcl hrd K hK => ?_) ?_
                        · exact wp_val (fa131d_exec rfl ((fr 12 (by kernel_rfl)).trans rfl)) (hK _ _ ⟨fun h => (by cases h), fun h => (by cases h), fun _ _ => Below.refl _ _⟩ rfl)
                        exact StepsC.nil
                      case en =>
                        intro vs8 w' L1 hJ hl hv
                        obtain ⟨hr, hrn⟩ : Rw .u64 56 w' w8.heap.size (vs8 5) (dataL i Md ++ [ub ((Md.drop (8 * i)).take 8)]) ∧ ∀ q, (vs8 5).ownBlock = some q → q ≠ gb := hv 5 82 (by decide) (by kernel_rfl)
                        have h6 : vs8 6 = .pointer (some ⟨g12, 1, none⟩) := hv 6 83 (by decide) (by kernel_rfl)
                        rw [← dataL_succ] at hr
                        obtain ⟨AZ, cZ, eZ⟩ := Kd.R_slice hr
                        rw [dataL_length] at eZ
                        rw [eZ] at hr
                        have hh := hJ.kp.hold HCC.out (hoff 131 (by decide) (by decide))
                        obtain ⟨h8, hbb⟩ := hJ.b (hl 3 (by decide))
                        refine upto_some rfl ?_
                        simp only [List.take_succ_cons, List.take_zero, putsOf, Act.put, List.setIfInBounds_toArray, List.set_cons_zero, List.set_cons_succ, h6, eZ]
                        refine Wv.wp_skip (w' := w'.setCells g12 1 [.slice AZ (i + 1) cZ]) rfl ?hr ?_
                        case hr => exact store_scalar (.inr (.inr (.inr rfl))) rfl (by rfl) (by rfl) hh (by show 1 < 2; decide)
                        have hks := kp_stored (stored_cells w' g12 1 [.slice AZ (i + 1) cZ])
                        have HK10 := Aside0.mk ((HKK.out.trans hJ.kp (S := fun q => q = gb) (fun q hq e => by
                          rcases e with e | e
                          · exact e
                          · have := Kd.R_base HDD.out q e.symm
                            omega)).trans hks (S := fun q => q = gb) (fun q hq e => by have := HG9.out; omega))
                        have HB10 := Aside0.mk (hks.hold hbb (off_cell hh (by decide)))
                        have HC10 : Aside0 (Holds (w'.setCells g12 1 [.slice AZ (i + 1) cZ]) g12 131 [.slice A1 c c1, .slice AZ (i + 1) cZ]) := ⟨holds_cells (vs := [.slice AZ (i + 1) cZ]) hh (by show 1 + 1 ≤ 2; decide)⟩
                        have HR10 := Aside0.mk (hks.rw (hJ.kp.rw HRR.out (hoff 3 (by decide) (by decide))) (off_cell hh (by decide)))
                        have HD10 := Aside0.mk (hks.rw hr (off_cell hh (by decide)))
                        have HI8 := Aside0.mk h8
                        clear hks hh hr hrn h6 hv hl hJ hbb h8 hoff hlt hgbl hcf9 eZ
                        go_wp2_with fail
                        go_roundg k3
                        case measure => have := HI3.out; omega
                        case rel =>
                          refine ⟨i + 1, _, rfl, by have := HI3.out; omega, ⟨by have := HI8.out; rw [List.length_drop] at this; omega⟩, HK10, ⟨?_⟩, HC10, HR10, HD10⟩
                          have h := HB10.out
                          rwa [List.drop_drop, show 8 * i + 8 = 8 * (i + 1) by omega] at h
          | succ k2 =>
            have hil : i < t := by omega
            have r1 : decide ((i : Int) < (t : Int)) = true := decide_eq_true (by omega)
            have r2 : decide (i < t) = true := decide_eq_true (by omega)
            have hin : i < 1000000 := by omega
            have HI := Aside0.mk hi
            have HNO := Aside0.mk (show dT s Lc = none → decF L = none from fun h => HD2.out.trans (dTs_stop HIT.out h hil))
            clear hi hil
            go_upto_region 14 with (go_at_call 106; go_must (refine (refsT_calls s (by have := HSS.out; omega) Lc HBC.out HLC.out gb g4 _ HSI.out.cb HSI.out.cf).mono ?_); rintro e w5 ⟨hk5, (⟨h1, rfl⟩ | ⟨h1, v1, rfl, hr1, hb5⟩)⟩; (· exact SI.threw HSI.out HGB.out hk5 rfl rfl rfl (HNO.out (dT_1 h1))); obtain ⟨A1, c1, e1⟩ := Kd.R_slice hr1; rw [refsL_length] at e1; subst e1; have HK5 := Aside0.mk hk5; have HR1 := Aside0.mk hr1; have HB5 := Aside0.mk hb5; have HE1 := Aside0.mk h1; clear hk5 hr1 hb5 h1)
            have HK6 := Aside0.mk (HK5.out.trans (kp_below (fun q => q = gb) (below_alloc (Below.refl w5.heap.size w5) (Obj.cells #[Value.slice A1 s c1, Value.slice none 0 0] 128))) (fun _ _ h => h))
            have HC9 := Aside0.mk (show Holds (w5.alloc (Obj.cells #[Value.slice A1 s c1, Value.slice none 0 0] 128)) w5.heap.size 128 [.slice A1 s c1, .slice none 0 0] from hold_alloc rfl)
            have HB6 := Aside0.mk (HB5.out.below (below_alloc (Below.refl w5.heap.size w5) (Obj.cells #[Value.slice A1 s c1, Value.slice none 0 0] 128)))
            have HR6 := Aside0.mk (show Rw .i64 3 (w5.alloc (Obj.cells #[Value.slice A1 s c1, Value.slice none 0 0] 128)) w.heap.size (.slice A1 s c1) (refsL s Lc) from Kd.R_lower (Kd.R_below HR1.out (below_alloc (Below.refl w5.heap.size w5) _)) HSI.out.size)
            have HG9 := Aside0.mk HK5.out.size
            generalize w5.alloc (Obj.cells #[Value.slice A1 s c1, Value.slice none 0 0] 128) = w6 at HK6 HC9 HB6 HR6 ⊢
            generalize w5.heap.size = g9 at HC9 HG9 ⊢
            clear HK5 HB5 HR1
            obtain ⟨M1, hM1⟩ : ∃ M1, M1 = Lc.drop (2 * s) := ⟨_, rfl⟩
            have HM1 := Aside0.mk hM1
            rw [← hM1] at HB6
            have HBM := Aside0.mk (show Byt M1 by rw [hM1]; exact byt_drop HBC.out _)
            have HLM := Aside0.mk (show M1.length ≤ 1000000 by rw [hM1, List.length_drop]; have := HLC.out; omega)
            clear hM1
            have HS6 := Aside0.mk (HSI.out.kp HGB.out.1 HK6.out HB6.out)
            have hu := ub1_in HBM.out
            obtain ⟨m, hm⟩ : ∃ m, m = (ub (M1.take 1)).toNat := ⟨_, rfl⟩
            have HUM := Aside0.mk (show ub (M1.take 1) = (m : Int) by omega)
            have HMN := Aside0.mk hm
            have HM5 := Aside0.mk (show m ≤ 255 by omega)
            have hwm : IntKind.i64.wrap (m : Int) = (m : Int) := i64_in (by omega)
            clear hu hm
            have x5 : w6.cell? ⟨g4, 0, none⟩ = some (.func (.func 105) #[] #[.pointer (some ⟨gb, 0, none⟩)]) := (HS6.out.cf.cell 0).trans rfl
            go_upto_region 15 with (first
              | (go_at_call 105; go_must (refine (takeL_calls 1 (by decide) M1 HBM.out HLM.out gb _ HS6.out.cb).mono ?_); rintro e w7 ⟨hk7, (⟨h1, rfl⟩ | ⟨h1, rfl, hb7⟩)⟩; (· exact SI.threw HS6.out HGB.out hk7 rfl rfl rfl (HNO.out (dT_2 HE1.out (by rw [← HM1.out]; exact h1)))); rw [HUM.out]; have HS7 := Aside0.mk (HS6.out.kp HGB.out.1 hk7 hb7); have HC97 := Aside0.mk (hk7.hold HC9.out (off_cell HS6.out.cb (by decide))); have HR7 := Aside0.mk (hk7.rw HR6.out (off_cell HS6.out.cb (by decide))); have HK7 := Aside0.mk (HK6.out.trans hk7 (fun _ _ h => h)); have HE7 := Aside0.mk h1; clear hk7 h1 hb7)
              | (go_at_call 106; go_must (refine (refsT_calls m (by have := HM5.out; omega) (M1.drop 1) (byt_drop HBM.out 1) (by rw [List.length_drop]; have := HLM.out; omega) gb g4 _ HS7.out.cb HS7.out.cf).mono ?_); rintro e w8 ⟨hk8, (⟨h1, rfl⟩ | ⟨h1, v2, rfl, hr2, hb8⟩)⟩; (· exact SI.threw HS7.out HGB.out hk8 rfl rfl rfl (HNO.out (dT_3 (m := m) HE1.out (by rw [← HM1.out]; exact HE7.out) (by rw [← HM1.out]; exact HMN.out) (by rw [← HM1.out]; exact h1)))); obtain ⟨A2, c2, e2⟩ := Kd.R_slice hr2; rw [refsL_length] at e2; subst e2; have HR28 := Aside0.mk (Kd.R_lower hr2 HS7.out.size); have HC98 := Aside0.mk (hk8.hold HC97.out (off_cell HS7.out.cb (by decide))); have HR18 := Aside0.mk (hk8.rw HR7.out (off_cell HS7.out.cb (by decide))); have HK8 := Aside0.mk (HK7.out.trans hk8 (fun _ _ h => h)); have HB8 := Aside0.mk hb8; have HE8 := Aside0.mk h1; have z9 := (HC98.out.cell 1).trans rfl; have z9f := blk_frozen HC98.out 1; clear hk8 h1 hr2 hb8))
            have HKs := Aside0.mk (kp_setCell w8 g9 1 (.slice A2 m c2))
            have HK9 := Aside0.mk (HK8.out.trans HKs.out (S := fun q => q = gb) (fun q hq h => by have := HG9.out; omega))
            have HB9 := Aside0.mk (HKs.out.hold HB8.out (off_cell HC98.out (by decide)))
            have HC99 : Aside0 (Holds (w8.setCell ⟨g9, 1, none⟩ (.slice A2 m c2)) g9 128 [.slice A1 s c1, .slice A2 m c2]) := ⟨holds_cells (vs := [.slice A2 m c2]) HC98.out (by show 1 + 1 ≤ 2; decide)⟩
            have HR19 := Aside0.mk (HKs.out.rw HR18.out (off_cell HC98.out (by decide)))
            have HR29 := Aside0.mk (HKs.out.rw HR28.out (off_cell HC98.out (by decide)))
            generalize w8.setCell ⟨g9, 1, none⟩ (.slice A2 m c2) = w9 at HKs HK9 HB9 HC99 HR19 HR29 ⊢
            have HS9 := Aside0.mk (HSI.out.kp HGB.out.1 HK9.out HB9.out)
            clear HKs HK9 HB9 HK8 HB8 HC98 HR18 HR28 HC97 HR7 HK7 HS7 HS6 HK6 HC9 HB6 HR6 z9 z9f x5
            have z2 : w9.cell? ⟨g2, 0, none⟩ = some vT := (HS9.out.cs.cell 0).trans rfl
            have z9a : w9.cell? ⟨g9, 0, none⟩ = some (.slice A1 s c1) := (HC99.out.cell 0).trans rfl
            have z9b : w9.cell? ⟨g9, 1, none⟩ = some (.slice A2 m c2) := (HC99.out.cell 1).trans rfl
            have HPL := Aside0.mk (show ps.length ≤ 1000 by rw [HS9.out.eT.1]; have := itN_length HIT.out; have := HI.out; have := HT.out; dsimp only at *; omega)
            have hu128 := Try.underlying128
            go_wp2_with (first
              | (at_builtin; go_must (refine Kd.R_append kraw (w0 := w9) w.heap.size rfl (.tmp 47) (.tmp 49) 86 128 (.agg #[.slice none 0 0, .slice none 0 0]) 48 rfl Try.underlying86 info128r rfl (by decide) (by decide) vT ps (.slice A1 s c1, .slice A2 m c2) [.slice A1 s c1, .slice A2 m c2] (fun _ => True) (fun _ => False) rfl rfl ⟨rfl, rfl, rfl⟩ (fun _ hk => hk.elim) (fun _ _ => trivial) HS9.out.rT (Below.refl _ _) HS9.out.size (by have := HPL.out; omega) ?_); intro v3 w10 ho2 hb2 hg2 hat2; obtain ⟨A3, c3, e3⟩ := Kd.R_slice ho2; rw [show (ps ++ [((.slice A1 s c1 : Value), (.slice A2 m c2 : Value))]).length = ps.length + 1 by simp] at e3; subst e3; have HO2 := Aside0.mk ho2; have HG2 := Aside0.mk hg2; have HC210 := Aside0.mk (holds_grown HS9.out.cs hg2 (Kd.R_ne HS9.out.rT HS9.out.cs (by decide))); have y2 := (HC210.out.cell 0).trans rfl; have y2f := blk_frozen HC210.out 0; clear ho2 hb2 hg2 hat2))
            go_roundg k2
            case measure => have := HI.out; omega
            case rel =>
              refine ⟨i + 1, T ++ [⟨refsL s Lc, refsL m (M1.drop 1)⟩], .slice A3 (ps.length + 1) c3, _, (M1.drop 1).drop (2 * m), rfl, by have := HI.out; omega, ⟨itN_some HIT.out ?_⟩, ⟨?_⟩, ⟨HS9.out.pushT HGB.out.2.1 HR19.out HR29.out HG2.out HO2.out⟩⟩
              · rw [HM1.out]
                exact dT_4 HE1.out (by rw [← HM1.out]; exact HE7.out) (by rw [← HM1.out]; exact HMN.out) (by rw [← HM1.out]; exact HE8.out)
              · obtain ⟨q, hq⟩ := HSB.out
                rw [HM1.out, hq, List.drop_drop, List.drop_drop, List.drop_drop]
                exact ⟨_, rfl⟩
    | succ k1 =>
      have hi4 : i < 4 := by omega
      have r1 : decide ((i : Int) < 4) = true := decide_eq_true (by omega)
      have r2 : decide (i < 4) = true := decide_eq_true (by omega)
      have HI := Aside0.mk hi
      clear hi
      go_upto_region 7 with (fail)
      obtain ⟨x, hxe⟩ : ∃ x, x = ub ((L.drop i).take 1) := ⟨_, rfl⟩
      obtain ⟨m, hm⟩ : ∃ m, m = magicB.getD i 0 := ⟨_, rfl⟩
      have hmr : 0 ≤ m ∧ m ≤ 255 := by rw [hm]; exact magic_in'
      refine weaveC 6 101 (fun k u _ => V7 gb i x m k u W0) (fun L1 w1 => (L1.getD 1 false = false → SI w.heap.size gb g2 g3 g4 w (.slice none 0 0) (.slice none 0 0) (.slice none 0 0) [] [] [] [] [] (L.drop i) w1) ∧ (L1.getD 1 false = true → 1 ≤ (L.drop i).length ∧ SI w.heap.size gb g2 g3 g4 w (.slice none 0 0) (.slice none 0 0) (.slice none 0 0) [] [] [] [] [] (L.drop (i + 1)) w1)) (fun k w1 w2 => (k = 1 → KTk gb 1 (L.drop i) w1 w2) ∧ (k ≠ 1 → Below w1.heap.size w1 w2)) (by kernel_rfl) (by rfl) (by kernel_rfl) ?j0 ?jj ?vv ?st ?en
      case j0 => exact ⟨fun _ => HSI.out.flow HGB.out.1 (below_drew (Below.refl _ _)), fun h => by cases h⟩
      case jj =>
        intro k L1 w1 w2 hk hL hcl hrd hk0 hJ hG
        by_cases he : k = 1
        · subst he
          exact ⟨fun h5 => (by rw [set_at hL (by decide)] at h5; cases h5), fun _ => ⟨(hG.1 rfl).ok, (hJ.1 hk0).kp HGB.out.1 (hG.1 rfl).kp (by have h := (hG.1 rfl).cb; rwa [List.drop_drop] at h)⟩⟩
        · exact ⟨fun h5 => (hJ.1 (by rwa [getD_set_ne false he] at h5)).flow HGB.out.1 (hG.2 he), fun h5 => ⟨(hJ.2 (by rwa [getD_set_ne false he] at h5)).1, (hJ.2 (by rwa [getD_set_ne false he] at h5)).2.flow HGB.out.1 (hG.2 he)⟩⟩
      case vv => exact fun i j v w1 w2 _ _ _ h _ => h
      case st =>
        refine StepsC.cons (fun a w1 L1 fr hL hj hdf hd hcl hrd K hK => ?_) ?_
        · have hcf : Holds w1 g4 164 [f105V gb] := by
            cases h1 : L1.getD 1 false with
            | false => exact (hj.1 h1).cf
            | true => exact (hj.2 h1).2.cf
          exact wp_val (load164_exec rfl ((fr 4 (by kernel_rfl)).trans rfl) ((hcf.cell 0).trans rfl)) (hK _ _ ⟨fun h => (by cases h), fun _ => Below.refl _ _⟩ rfl)
        refine StepsC.cons (fun a w1 L1 fr hL hj hdf hd hcl hrd K hK => ?_) ?_
        · have hsi := hj.1 hL
          refine wp_callp Try.func105 (by kernel_rfl) rfl #[.int .i64 1, .pointer (some ⟨gb, 0, none⟩)] rfl (hd 0 19 (by kernel_rfl)) (by simp only [List.map_toArray, List.map_cons, List.map_nil]; rfl) ?_
          refine (takeL_calls 1 (by decide) (L.drop i) (byt_drop HBY.out i) (by rw [List.length_drop]; have := HL.out; omega) gb w1 hsi.cb).mono ?_
          rintro e w2 ⟨hk, (⟨h1, rfl⟩ | ⟨h1, rfl, hb⟩)⟩
          · exact .inr ⟨_, rfl, SI.threw hsi HGB.out hk (hdf.trans rfl) ((fr 2 (by kernel_rfl)).trans rfl) ((fr 3 (by kernel_rfl)).trans rfl) (magic_short (by rw [List.length_drop] at h1; omega))⟩
          · exact .inl ⟨_, rfl, hK _ _ ⟨fun _ => ⟨hk, h1, hb⟩, fun h => absurd rfl h⟩ (by rw [hxe]; rfl)⟩
        refine StepsC.cons (fun a w1 L1 fr hL hj hdf hd hcl hrd K hK => ?_) ?_
        · exact wp_val (move_exec rfl ((fr 6 (by kernel_rfl)).trans rfl)) (hK _ _ ⟨fun h => (by cases h), fun _ => Below.refl _ _⟩ rfl)
        refine StepsC.cons (fun a w1 L1 fr hL hj hdf hd hcl hrd K hK => ?_) ?_
        · exact wp_val (idxM_exec rfl (hd 2 21 (by kernel_rfl)) hi4) (hK _ _ ⟨fun h => (by cases h), fun _ => Below.refl _ _⟩ (by rw [← hm]; rfl))
        refine StepsC.cons (fun a w1 L1 fr hL hj hdf hd hcl hrd K hK => ?_) ?_
        · exact wp_val (conv556_exec rfl (hd 3 22 (by kernel_rfl)) hmr) (hK _ _ ⟨fun h => (by cases h), fun _ => Below.refl _ _⟩ rfl)
        refine StepsC.cons (fun a w1 L1 fr hL hj hdf hd hcl hrd K hK => ?_) ?_
        · exact wp_val (neq56_exec rfl (hd 1 20 (by kernel_rfl)) (hd 4 23 (by kernel_rfl))) (hK _ _ ⟨fun h => (by cases h), fun _ => Below.refl _ _⟩ rfl)
        exact StepsC.nil
      case en =>
        intro vs w6 L1 hJ hl hv
        have h5 : vs 5 = .bool (!decide (x = m)) := hv 5 24 (by decide) (by kernel_rfl)
        have HS6 := Aside0.mk (hJ.2 (hl 1 (by decide))).2
        have hge : i < L.length := by have := (hJ.2 (hl 1 (by decide))).1; rw [List.length_drop] at this; omega
        have hxl : x = L[i] := by rw [hxe, take_one hge, ub_one]
        refine upto_none rfl ?_
        simp only [List.take_succ_cons, List.take_zero, putsOf, Act.put, List.setIfInBounds_toArray, List.set_cons_zero, List.set_cons_succ, h5]
        by_cases hxm : x = m
        · rw [decide_eq_true hxm]
          have HST := Aside0.mk (magic_step hi4 hge HMG.out (by rw [← hxl, hxm, hm]))
          have HGE := Aside0.mk hge
          clear hxm hxl hxe hm hmr h5 hv hl hJ hge
          go_wp2_with fail
          go_roundg k1
          case measure => have := HI.out; omega
          case rel => exact ⟨i + 1, rfl, by have := HI.out; omega, HST, ⟨by have := HGE.out; omega⟩, HS6⟩
        · rw [decide_eq_false hxm]
          have HN := Aside0.mk (magic_bad hi4 hge (by rw [← hxl, ← hm]; exact hxm))
          have HC2 := Aside0.mk HS6.out.cs
          clear hxm hxl hxe hm hmr h5 hv hl hJ hge
          go_wp2_with (first
            | ((with_reducible refine gate_store (t := 89) (p := 2) rfl ?_); refine store_agg_event rfl (ty := 89) rfl rfl (g := g2) (off := 0) (vs := #[.slice none 0 0, .slice none 0 0, .slice none 0 0]) rfl rfl HC2.out (by show 3 ≤ 3; decide) size89 (by simp [Value.oneCell']) ?_; intro w7 hh7 hs7; have HH7 := Aside0.mk hh7; have HK7 := Aside0.mk (kp_stored hs7); have H37 := Aside0.mk ((kp_stored hs7).hold HS6.out.cg (off_cell HC2.out (by decide))); have z3 := (H37.out.cell 0).trans rfl; have z4 := blk_frozen H37.out 0; clear hh7 hs7))
          have hb6 := HK7.out.below HS6.out.below HS6.out.size (fun k hk => by subst hk; exact HGB.out.2.1)
          have hs6 := Nat.le_trans HS6.out.size HK7.out.size
          have hk8 := kp_setCell w7 g3 0 (.bool false)
          have hb7 := hk8.below hb6 hs6 (fun k hk => by subst hk; exact HGB.out.2.2)
          exact door_ret (g2 := g2) (g3 := g3) (x := false) rfl rfl rfl (hk8.hold (show Holds w7 g2 89 [.slice none 0 0, .slice none 0 0, .slice none 0 0] from HH7.out) (off_cell H37.out (by decide))) (holds_cells (vs := [.bool false]) H37.out (by show 0 + 1 ≤ 1; decide)) (fun W' hb => ⟨none, 0, 0, none, 0, 0, none, 0, 0, by rw [HN.out]; rfl, below_then hb7 (Nat.le_trans hs6 hk8.size) hb, fun S hS => by rw [HN.out] at hS; cases hS⟩)
end Go.Proofs.Ytgojfecpknonlaa.Im

