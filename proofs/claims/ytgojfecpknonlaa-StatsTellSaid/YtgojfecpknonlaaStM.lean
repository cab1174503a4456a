/- Plain laws of the stats: tallies of those that are picked, counts, the peak. -/
import Derived.Test.YtgojfecpknonlaaStL
namespace Go.Proofs.Ytgojfecpknonlaa.St
open Go.RowKit Go.Proofs.YtgojfecpknonlaaW.PrintWords Go.Proofs.YtgojfecpknonlaaW.PrintLast Go.Proofs.YtgojfecpknonlaaW.PrintMore
open Go.Proofs.Ytgojfecpknonlaa.Own Go.Proofs.Ytgojfecpknonlaa.PSt
set_option linter.unusedVariables false
set_option linter.unusedSimpArgs false

/-- Whether tally k counts the event. -/
def sel (k : Nat) (d : S72) : Bool := k == 0 || k == 1 + doN d || k == 15 + ag d
/-- The event has its places. -/
def Ok (d : S72) : Prop := doN d < 14 ∧ 0 ≤ len72 d ∧ len72 d ≤ 2147483648 ∧ 0 ≤ d.f3 ∧ d.f3 ≤ 2147483647
theorem ag_lt (d : S72) : ag d < 65 := by unfold ag; omega

theorem upd_get (ts : List Tl) (k j : Nat) (d : S72) (hk : k < ts.length) : (upd ts k d).getD j tl0 = if j = k then addT (ts.getD k tl0) d else ts.getD j tl0 := by
  unfold upd
  by_cases h : j = k
  · subst h
    rw [if_pos rfl]
    simp [List.getD_eq_getElem?_getD, hk]
  · rw [if_neg h]
    simp only [List.getD_eq_getElem?_getD]
    rw [List.getElem?_set_ne (fun e => h e.symm)]
theorem tstep_get (ts : List Tl) (d : S72) (j : Nat) (hl : ts.length = 80) (hd : doN d < 14) : (tstep ts d).getD j tl0 = if sel j d = true then addT (ts.getD j tl0) d else ts.getD j tl0 := by
  have ha := ag_lt d
  have g1 : ∀ j, (upd ts 0 d).getD j tl0 = if j = 0 then addT (ts.getD 0 tl0) d else ts.getD j tl0 := fun j => upd_get _ _ _ _ (by omega)
  have g2 : ∀ j, (upd (upd ts 0 d) (1 + doN d) d).getD j tl0 = if j = 1 + doN d then addT ((upd ts 0 d).getD (1 + doN d) tl0) d else (upd ts 0 d).getD j tl0 := fun j => upd_get _ _ _ _ (by rw [upd_length]; omega)
  have g3 : ∀ j, (tstep ts d).getD j tl0 = if j = 15 + ag d then addT ((upd (upd ts 0 d) (1 + doN d) d).getD (15 + ag d) tl0) d else (upd (upd ts 0 d) (1 + doN d) d).getD j tl0 := fun j => upd_get _ _ _ _ (by rw [upd_length, upd_length]; omega)
  rw [g3, g2, g2, g1, g1, g1]
  unfold sel
  by_cases h0 : j = 0
  · subst h0
    rw [if_neg (by omega), if_neg (by omega), if_pos rfl]
    simp
  · by_cases h1 : j = 1 + doN d
    · subst h1
      rw [if_neg (by omega), if_pos rfl, if_neg (by omega)]
      simp
    · by_cases h2 : j = 15 + ag d
      · subst h2
        rw [if_pos rfl, if_neg (by omega), if_neg (by omega)]
        simp
      · rw [if_neg h2, if_neg h1, if_neg h0]
        simp [h0, h1, h2]
theorem foldl_get (j : Nat) : ∀ (l : List S72) (ts : List Tl), ts.length = 80 → (∀ d ∈ l, doN d < 14) → (l.foldl tstep ts).getD j tl0 = (l.filter (sel j)).foldl addT (ts.getD j tl0)
  | [], ts, hl, h => rfl
  | d :: l, ts, hl, h => by
    rw [List.foldl_cons, foldl_get j l (tstep ts d) (by rw [tstep_length, hl]) (fun x hx => h x (List.mem_cons_of_mem _ hx)), tstep_get ts d j hl (h d (List.mem_cons_self ..)), List.filter_cons]
    split <;> rfl
theorem tsOf_get (l : List S72) (j : Nat) (h : ∀ d ∈ l, doN d < 14) : (tsOf l).getD j tl0 = (l.filter (sel j)).foldl addT tl0 := by
  unfold tsOf
  rw [foldl_get j l _ (by simp) h]
  have : (List.replicate 80 tl0).getD j tl0 = tl0 := by
    rw [List.getD_eq_getElem?_getD, List.getElem?_replicate]
    split <;> rfl
  rw [this]

/-- The tally of events, told at once. -/
def mxl : List S72 → Int
  | [] => 0
  | d :: l => max (len72 d) (mxl l)
def sml : List S72 → Int
  | [] => 0
  | d :: l => len72 d + sml l
def isErr (d : S72) : Bool := !(decide (d.f2.f0 = 0))
theorem mxl_nonneg : ∀ l : List S72, 0 ≤ mxl l
  | [] => Int.le_refl _
  | d :: l => by have := mxl_nonneg l; simp only [mxl]; omega
theorem mxl_append : ∀ a b : List S72, mxl (a ++ b) = max (mxl a) (mxl b)
  | [], b => by have := mxl_nonneg b; simp only [List.nil_append, mxl]; omega
  | d :: a, b => by rw [List.cons_append]; simp only [mxl]; rw [mxl_append a b]; omega
theorem sml_append : ∀ a b : List S72, sml (a ++ b) = sml a + sml b
  | [], b => by simp only [List.nil_append, sml]; omega
  | d :: a, b => by rw [List.cons_append]; simp only [sml]; rw [sml_append a b]; omega
theorem sml_bounds : ∀ l : List S72, (∀ d ∈ l, Ok d) → 0 ≤ sml l ∧ sml l ≤ 2147483648 * (l.length : Int)
  | [], _ => ⟨Int.le_refl _, by simp [sml]⟩
  | d :: l, h => by
    have ih := sml_bounds l (fun x hx => h x (List.mem_cons_of_mem _ hx))
    have hd := h d (List.mem_cons_self ..)
    unfold Ok at hd
    simp only [sml, List.length_cons]
    omega
def tlc (l : List S72) : Tl := ⟨l.length, l.countP isErr, sml l, mxl l⟩
theorem foldl_addT : ∀ (l a : List S72), (∀ d ∈ a, Ok d) → (∀ d ∈ l, Ok d) → a.length + l.length ≤ 1000 → l.foldl addT (tlc a) = tlc (a ++ l)
  | [], a, _, _, _ => by rw [List.append_nil]; rfl
  | d :: l, a, ha, h, hl => by
    rw [List.length_cons] at hl
    have hd := h d (List.mem_cons_self ..)
    have hb := sml_bounds a ha
    have hm := mxl_nonneg a
    have hc : a.countP isErr ≤ a.length := List.countP_le_length
    have e : addT (tlc a) d = tlc (a ++ [d]) := by
      unfold Ok at hd
      unfold addT tlc
      simp only [List.length_append, List.length_singleton, List.countP_append, mxl_append, sml_append]
      rw [wrap_in (i := (a.length : Int) + 1) (by omega) (by omega), wrap_in (i := ((a.countP isErr : Nat) : Int) + 1) (by omega) (by omega), wrap_in (i := sml a + len72 d) (by omega) (by omega)]
      have e1 : ((a.length + 1 : Nat) : Int) = (a.length : Int) + 1 := by omega
      have e2 : (if d.f2.f0 = 0 then ((a.countP isErr : Nat) : Int) else ((a.countP isErr : Nat) : Int) + 1) = ((a.countP isErr + [d].countP isErr : Nat) : Int) := by
        by_cases h0 : d.f2.f0 = 0
        · simp [h0, isErr]
        · simp [h0, isErr]
      have e3 : sml a + len72 d = sml a + sml [d] := by simp [sml]
      have e4 : mx (mxl a) (len72 d) = max (mxl a) (mxl [d]) := by
        unfold mx
        simp only [mxl]
        split <;> omega
      rw [e1, e2, e3, e4]
    rw [List.foldl_cons, e, foldl_addT l (a ++ [d]) (fun x hx => by
      rcases List.mem_append.1 hx with h1 | h1
      · exact ha x h1
      · simp at h1; subst h1; exact hd) (fun x hx => h x (List.mem_cons_of_mem _ hx)) (by simp; omega), List.append_assoc]
    rfl
theorem fold_tlc (l : List S72) (h : ∀ d ∈ l, Ok d) (hl : l.length ≤ 1000) : l.foldl addT tl0 = tlc l := by
  have h1 := foldl_addT l [] (fun d hd => by cases hd) h (by simpa using hl)
  rw [List.nil_append] at h1
  exact h1
theorem tally_get (l : List S72) (j : Nat) (h : ∀ d ∈ l, Ok d) (hl : l.length ≤ 1000) : (tsOf l).getD j tl0 = tlc (l.filter (sel j)) := by
  rw [tsOf_get l j (fun d hd => (h d hd).1)]
  exact fold_tlc _ (fun d hd => h d (List.mem_filter.1 hd).1) (Nat.le_trans (List.length_filter_le _ _) hl)

/-- Buckets count. -/
theorem bfold_get (j : Nat) : ∀ (l : List S72) (bs : List Int) (c : Nat), bs.length = 17 → bs.getD j 0 = c → c + l.length ≤ 1000 → j < 17 → (l.foldl bstep bs).getD j 0 = ((c + l.countP (fun d => bk d == j) : Nat) : Int)
  | [], bs, c, hl, hc, hb, hj => by simpa using hc
  | d :: l, bs, c, hl, hc, hb, hj => by
    rw [List.length_cons] at hb
    have hbk : bk d < 17 := by unfold bk; omega
    rw [List.foldl_cons, List.countP_cons]
    by_cases h : bk d = j
    · subst h
      have e : (bstep bs d).getD (bk d) 0 = ((c + 1 : Nat) : Int) := by
        unfold bstep
        rw [hc, wrap_in (by omega) (by omega)]
        simp [List.getD_eq_getElem?_getD, hl, hbk]
      rw [bfold_get (bk d) l _ (c + 1) (by rw [bstep_length, hl]) e (by omega) hj]
      simp
      omega
    · have e : (bstep bs d).getD j 0 = (c : Int) := by
        rw [← hc]
        unfold bstep
        simp only [List.getD_eq_getElem?_getD]
        rw [List.getElem?_set_ne h]
      rw [bfold_get j l _ c (by rw [bstep_length, hl]) e (by omega) hj]
      have : (bk d == j) = false := by simpa using h
      simp [this]
theorem bsOf_get (l : List S72) (j : Nat) (hl : l.length ≤ 1000) (hj : j < 17) : (bsOf l).getD j 0 = ((l.countP (fun d => bk d == j) : Nat) : Int) := by
  unfold bsOf
  rw [bfold_get j l _ 0 (by simp) (by rw [List.getD_eq_getElem?_getD, List.getElem?_replicate, if_pos hj]; rfl) (by omega) hj]
  simp
end Go.Proofs.Ytgojfecpknonlaa.St
