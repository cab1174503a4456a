/- Plain laws of the stats: two rows' stats add up. -/
import Derived.Test.YtgojfecpknonlaaStP
namespace Go.Proofs.Ytgojfecpknonlaa.St
open Go.RowKit Go.Proofs.YtgojfecpknonlaaW.PrintWords Go.Proofs.YtgojfecpknonlaaW.PrintLast Go.Proofs.YtgojfecpknonlaaW.PrintMore
open Go.Proofs.Ytgojfecpknonlaa.Own Go.Proofs.Ytgojfecpknonlaa.PSt
set_option linter.unusedVariables false
set_option linter.unusedSimpArgs false

theorem both_is (F G : List S72) (hF : ∀ d ∈ F, Ok d) (hG : ∀ d ∈ G, Ok d) (hl : F.length + G.length ≤ 1000) :
    demesnelaw41_both.f (tlc F).c (tlc F).e (tlc F).m (tlc F).l (tlc G).c (tlc G).e (tlc G).m (tlc G).l = some ((tlc (F ++ G)).c, (tlc (F ++ G)).e, (tlc (F ++ G)).m, (tlc (F ++ G)).l) := by
  have b1 := sml_bounds F hF
  have b2 := sml_bounds G hG
  have c1 : F.countP isErr ≤ F.length := List.countP_le_length
  have c2 : G.countP isErr ≤ G.length := List.countP_le_length
  unfold demesnelaw41_both.f tlc
  simp only [List.length_append, List.countP_append, mxl_append, sml_append]
  rw [wrap_in (i := (F.length : Int) + (G.length : Int)) (by omega) (by omega), wrap_in (i := ((F.countP isErr : Nat) : Int) + ((G.countP isErr : Nat) : Int)) (by omega) (by omega), wrap_in (i := sml F + sml G) (by omega) (by omega)]
  have e : mx (mxl F) (mxl G) = max (mxl F) (mxl G) := by unfold mx; split <;> omega
  rw [e]
  simp

/-- What the walk of the sums wants of the three stats. -/
structure Sum (ta tb tc : List Tl) (ba bb bc : List Int) (pa pb pc nn : Int) (D1 X1 D2 D3 : Nat → Int) : Prop where
  la : ta.length = 80
  lb : tb.length = 80
  lc : tc.length = 80
  ma : ba.length = 17
  mb : bb.length = 17
  mc : bc.length = 17
  both : ∀ k, k < 80 → demesnelaw41_both.f (ta.getD k tl0).c (ta.getD k tl0).e (ta.getD k tl0).m (ta.getD k tl0).l (tb.getD k tl0).c (tb.getD k tl0).e (tb.getD k tl0).m (tb.getD k tl0).l = some ((tc.getD k tl0).c, (tc.getD k tl0).e, (tc.getD k tl0).m, (tc.getD k tl0).l)
  d10 : D1 0 = 0
  d1 : ∀ i, i < 14 → D1 (i + 1) = wrap64 (D1 i + (tc.getD (1 + i) tl0).c)
  d1n : D1 14 = nn
  x10 : X1 0 = 0
  x1 : ∀ i, i < 14 → X1 (i + 1) = max (X1 i) (tc.getD (1 + i) tl0).l
  x1n : X1 14 = (tc.getD 0 tl0).l
  d20 : D2 0 = 0
  d2 : ∀ i, i < 65 → D2 (i + 1) = wrap64 (D2 i + (tc.getD (15 + i) tl0).c)
  d2n : D2 65 = nn
  low : ∀ i, i < 65 → (tc.getD (15 + i) tl0).l ≤ (tc.getD 0 tl0).l
  d30 : D3 0 = 0
  d3 : ∀ i, i < 17 → D3 (i + 1) = wrap64 (D3 i + bc.getD i 0)
  d3n : D3 17 = nn
  bk : ∀ i, i < 17 → bc.getD i 0 = wrap64 (ba.getD i 0 + bb.getD i 0)
  n0 : (tc.getD 0 tl0).c = nn
  p1 : max pa pb ≤ pc
  p2 : pc ≤ wrap64 (pa + pb)

theorem countP_lt (f : S72 → Nat) (i : Nat) : ∀ l : List S72, l.countP (fun d => decide (f d < i + 1)) = l.countP (fun d => decide (f d < i)) + l.countP (fun d => decide (f d = i))
  | [] => rfl
  | d :: l => by
    have ih := countP_lt f i l
    simp only [List.countP_cons, ih, decide_eq_true_eq]
    by_cases h1 : f d < i
    · rw [if_pos (by omega), if_pos h1, if_neg (by omega)]; omega
    · by_cases h2 : f d = i
      · rw [if_pos (by omega), if_neg h1, if_pos h2]; omega
      · rw [if_neg (by omega), if_neg h1, if_neg h2]; omega
theorem mxl_lt (f : S72 → Nat) (i : Nat) : ∀ l : List S72, mxl (l.filter (fun d => decide (f d < i + 1))) = max (mxl (l.filter (fun d => decide (f d < i)))) (mxl (l.filter (fun d => decide (f d = i))))
  | [] => rfl
  | d :: l => by
    have ih := mxl_lt f i l
    have n1 := mxl_nonneg (l.filter (fun d => decide (f d < i)))
    have n2 := mxl_nonneg (l.filter (fun d => decide (f d = i)))
    simp only [List.filter_cons, decide_eq_true_eq]
    by_cases h1 : f d < i
    · rw [if_pos (by omega), if_pos h1, if_neg (by omega)]; simp only [mxl]; rw [ih]; omega
    · by_cases h2 : f d = i
      · rw [if_pos (by omega), if_neg h1, if_pos h2]; simp only [mxl]; rw [ih]; omega
      · rw [if_neg (by omega), if_neg h1, if_neg h2]; exact ih
theorem mxl_filter_le (p : S72 → Bool) : ∀ l : List S72, mxl (l.filter p) ≤ mxl l
  | [] => Int.le_refl _
  | d :: l => by
    have ih := mxl_filter_le p l
    have h0 := mxl_nonneg l
    rw [List.filter_cons]
    simp only [mxl]
    split
    · simp only [mxl]; omega
    · omega
theorem filter_all (p : S72 → Bool) (l : List S72) (h : ∀ d ∈ l, p d = true) : l.filter p = l := List.filter_eq_self.2 h
theorem countP_all (p : S72 → Bool) (l : List S72) (h : ∀ d ∈ l, p d = true) : l.countP p = l.length := List.countP_eq_length.2 h

theorem sel_zero (d : S72) : sel 0 d = true := rfl
theorem sel_do (i : Nat) (h : i < 14) : sel (1 + i) = fun d => decide (doN d = i) := by
  funext d
  unfold sel
  rw [Bool.eq_iff_iff]
  simp only [Bool.or_eq_true, beq_iff_eq, decide_eq_true_eq]
  omega
theorem sel_ag (i : Nat) (d : S72) (hd : doN d < 14) : sel (15 + i) d = decide (ag d = i) := by
  unfold sel
  rw [Bool.eq_iff_iff]
  simp only [Bool.or_eq_true, beq_iff_eq, decide_eq_true_eq]
  omega
theorem filter_ag (i : Nat) (l : List S72) (h : ∀ d ∈ l, Ok d) : l.filter (sel (15 + i)) = l.filter (fun d => decide (ag d = i)) :=
  List.filter_congr fun d hd => sel_ag i d (h d hd).1

theorem sum_is (L M : List S72) (hL : ∀ d ∈ L, Ok d) (hM : ∀ d ∈ M, Ok d) (hl : L.length ≤ 60) (hm : M.length ≤ 60) :
    Sum (tsOf L) (tsOf M) (tsOf (L ++ M)) (bsOf L) (bsOf M) (bsOf (L ++ M)) (pk L : Nat) (pk M : Nat) (pk (L ++ M) : Nat) (wrap64 ((L.length : Int) + (M.length : Int)))
      (fun i => (((L ++ M).countP (fun d => decide (doN d < i)) : Nat) : Int)) (fun i => mxl ((L ++ M).filter (fun d => decide (doN d < i))))
      (fun i => (((L ++ M).countP (fun d => decide (ag d < i)) : Nat) : Int)) (fun i => (((L ++ M).countP (fun d => decide (bk d < i)) : Nat) : Int)) := by
  have hC : ∀ d ∈ L ++ M, Ok d := fun d hd => by
    rcases List.mem_append.1 hd with h | h
    · exact hL d h
    · exact hM d h
  have hlen : (L ++ M).length ≤ 120 := by rw [List.length_append]; omega
  have hn : wrap64 ((L.length : Int) + (M.length : Int)) = ((L ++ M).length : Int) := by rw [wrap_in (by omega) (by omega), List.length_append]; simp
  have cl : ∀ p : S72 → Bool, (L ++ M).countP p ≤ (L ++ M).length := fun p => List.countP_le_length
  have g : ∀ j, (tsOf (L ++ M)).getD j tl0 = tlc ((L ++ M).filter (sel j)) := fun j => tally_get _ j hC (by omega)
  have zero : ∀ (f : S72 → Nat), (L ++ M).countP (fun d => decide (f d < 0)) = 0 := fun f => by rw [List.countP_eq_zero]; intro x _; simp
  refine { la := tsOf_length _, lb := tsOf_length _, lc := tsOf_length _, ma := bsOf_length _, mb := bsOf_length _, mc := bsOf_length _, both := ?_, d10 := ?_, d1 := ?_, d1n := ?_, x10 := ?_, x1 := ?_, x1n := ?_, d20 := ?_, d2 := ?_, d2n := ?_, low := ?_, d30 := ?_, d3 := ?_, d3n := ?_, bk := ?_, n0 := ?_, p1 := ?_, p2 := ?_ }
  · intro k hk
    rw [tally_get L k hL (by omega), tally_get M k hM (by omega), g, List.filter_append]
    exact both_is _ _ (fun d hd => hL d (List.mem_filter.1 hd).1) (fun d hd => hM d (List.mem_filter.1 hd).1) (by
      have h1 := List.length_filter_le (sel k) L
      have h2 := List.length_filter_le (sel k) M
      omega)
  · simp only [zero]; rfl
  · intro i hi
    have e : (tlc ((L ++ M).filter (sel (1 + i)))).c = (((L ++ M).countP (fun d => decide (doN d = i)) : Nat) : Int) := by
      rw [sel_do i hi]
      show (((L ++ M).filter _).length : Int) = _
      rw [← List.countP_eq_length_filter]
    rw [g, e]
    have h1 := countP_lt doN i (L ++ M)
    have h2 := cl (fun d => decide (doN d < i + 1))
    rw [wrap_in (by omega) (by omega)]
    omega
  · rw [hn, countP_all _ _ (fun d hd => decide_eq_true (hC d hd).1)]
  · have : (L ++ M).filter (fun d => decide (doN d < 0)) = [] := by rw [List.filter_eq_nil_iff]; intro x _; simp
    simp only [this]
    rfl
  · intro i hi
    rw [g, sel_do i hi]
    exact mxl_lt doN i (L ++ M)
  · rw [g]
    rw [filter_all _ _ (fun d hd => decide_eq_true (hC d hd).1), filter_all (sel 0) _ (fun d _ => sel_zero d)]
    rfl
  · simp only [zero]; rfl
  · intro i hi
    have e : (tlc ((L ++ M).filter (sel (15 + i)))).c = (((L ++ M).countP (fun d => decide (ag d = i)) : Nat) : Int) := by
      rw [filter_ag i _ hC]
      show (((L ++ M).filter _).length : Int) = _
      rw [← List.countP_eq_length_filter]
    rw [g, e]
    have h1 := countP_lt ag i (L ++ M)
    have h2 := cl (fun d => decide (ag d < i + 1))
    rw [wrap_in (by omega) (by omega)]
    omega
  · rw [hn, countP_all _ _ (fun d hd => decide_eq_true (ag_lt d))]
  · intro i hi
    rw [g, g, filter_all (sel 0) _ (fun d _ => sel_zero d)]
    exact mxl_filter_le _ _
  · simp only [zero]; rfl
  · intro i hi
    rw [bsOf_get _ i (by omega) hi]
    have h1 := countP_lt bk i (L ++ M)
    have h2 := cl (fun d => decide (bk d < i + 1))
    have h3 : (L ++ M).countP (fun d => bk d == i) = (L ++ M).countP (fun d => decide (bk d = i)) := rfl
    rw [h3, wrap_in (by omega) (by omega)]
    omega
  · rw [hn, countP_all _ _ (fun d hd => decide_eq_true (by unfold bk; omega))]
  · intro i hi
    have h1 : L.countP (fun d => bk d == i) ≤ L.length := List.countP_le_length
    have h2 : M.countP (fun d => bk d == i) ≤ M.length := List.countP_le_length
    rw [bsOf_get _ i (by omega) hi, bsOf_get _ i (by omega) hi, bsOf_get _ i (by omega) hi, List.countP_append, wrap_in (by omega) (by omega)]
    omega
  · rw [g, hn, filter_all (sel 0) _ (fun d _ => sel_zero d)]
    rfl
  · have := pk_append_ge L M
    omega
  · have := pk_append_le L M
    have := pk_len L
    have := pk_len M
    rw [wrap_in (by omega) (by omega)]
    omega
end Go.Proofs.Ytgojfecpknonlaa.St
