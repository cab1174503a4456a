/- What the walk of the law StatsTell carries along, and the plain laws that it wants. -/
import Derived.Test.YtgojfecpknonlaaStU
import Derived.Test.YtgojfecpknonlaaSt8
import Derived.Laws.StructEq
namespace Go.Proofs.Ytgojfecpknonlaa.St
open Go.RowKit Go.Proofs.YtgojfecpknonlaaW.PrintWords Go.Proofs.YtgojfecpknonlaaW.PrintLast Go.Proofs.YtgojfecpknonlaaW.PrintMore
open Go.Proofs.Ytgojfecpknonlaa.Own Go.Proofs.Ytgojfecpknonlaa.PSt
set_option linter.unusedVariables false
set_option linter.unusedSimpArgs false

theorem info53 : (Try.prog.info? 53).map (·.zero) = some (some (.agg (List.replicate 14 (Value.slice none 0 0)).toArray)) := by kernel_rfl
theorem info54 : (Try.prog.info? 54).map (·.zero) = some (some (.agg (List.replicate 65 (Value.slice none 0 0)).toArray)) := by kernel_rfl
theorem info46 : (Try.prog.info? 46).map (·.zero) = some (some (.agg (bcells (List.replicate 17 0)).toArray)) := by kernel_rfl
theorem size46 : (Try.prog.info? 46).map (·.size) = some 17 := by kernel_rfl
theorem info58b : (Try.prog.info? 58).map (fun i => (i.zero, i.size, i.bytes)) = some (some (.agg #[.int .u8 0, .int .u8 0, .int .u8 0, .int .u8 0, .int .u8 0, .int .i64 0, .int .i64 0, .int .u64 0, .int .i64 0, .int .i64 0, .int .i64 0]), k58.sz, 56) := by kernel_rfl
theorem z58a : (Value.agg #[.int .u8 0, .int .u8 0, .int .u8 0, .int .u8 0, .int .u8 0, .int .i64 0, .int .i64 0, .int .u64 0, .int .i64 0, .int .i64 0, .int .i64 0]).cells.size = k58.sz := by kernel_rfl
theorem z58b : 0 < k58.sz := by rw [← z58a]; decide

/-- The events of row q. -/
def rowOf (l : List S58) (q : Nat) : List S58 := l.filter (fun d => sel (q + 1) (re58 d))
def xssOf (l : List S58) : List (List S58) := (List.range 79).map (rowOf l)
theorem xss_length (l : List S58) : (xssOf l).length = 79 := by simp [xssOf]
theorem xss_get (l : List S58) (q : Nat) (h : q < 79) : (xssOf l)[q]? = some (rowOf l q) := by
  simp [xssOf, h]
theorem row_length (l : List S58) (q : Nat) : (rowOf l q).length ≤ l.length := List.length_filter_le _ _
theorem row_succ (l : List S58) (i q : Nat) (d : S58) (h : l[i]? = some d) (hq : q < 79) (hd : doN (re58 d) < 14) :
    rowOf (l.take (i + 1)) q = if q = doN (re58 d) ∨ q = 14 + ag (re58 d) then rowOf (l.take i) q ++ [d] else rowOf (l.take i) q := by
  unfold rowOf
  rw [List.take_add_one, h]
  simp only [Option.toList_some, List.filter_append, List.filter_cons, List.filter_nil]
  have e : sel (q + 1) (re58 d) = decide (q = doN (re58 d) ∨ q = 14 + ag (re58 d)) := by
    unfold sel
    rw [Bool.eq_iff_iff]
    simp only [Bool.or_eq_true, beq_iff_eq, decide_eq_true_eq]
    omega
  rw [e]
  by_cases hh : q = doN (re58 d) ∨ q = 14 + ag (re58 d)
  · rw [if_pos hh, decide_eq_true hh]; rfl
  · rw [if_neg hh, decide_eq_false hh]; simp
theorem xss_succ (l : List S58) (i : Nat) (d : S58) (h : l[i]? = some d) (hd : doN (re58 d) < 14) :
    xssOf (l.take (i + 1)) = ((xssOf (l.take i)).set (doN (re58 d)) (rowOf (l.take i) (doN (re58 d)) ++ [d])).set (14 + ag (re58 d)) (rowOf (l.take i) (14 + ag (re58 d)) ++ [d]) := by
  have ha := ag_lt (re58 d)
  apply List.ext_getElem?
  intro q
  by_cases hq : q < 79
  · rw [xss_get _ _ hq, row_succ l i q d h hq hd]
    by_cases h2 : q = 14 + ag (re58 d)
    · subst h2
      rw [List.getElem?_set_self (by rw [List.length_set, xss_length]; omega), if_pos (.inr rfl)]
    · rw [List.getElem?_set_ne (fun e => h2 e.symm)]
      by_cases h1 : q = doN (re58 d)
      · subst h1
        rw [List.getElem?_set_self (by rw [xss_length]; omega), if_pos (.inl rfl)]
      · rw [List.getElem?_set_ne (fun e => h1 e.symm), if_neg (by omega), xss_get _ _ hq]
  · rw [List.getElem?_eq_none (by rw [xss_length]; omega), List.getElem?_eq_none (by rw [List.length_set, List.length_set, xss_length]; omega)]

/-- Where the walk stands behind i events. -/
structure Inv (w w' : World) (g3 g5 g6 g7 : Nat) (cs : List Value) (l : List S58) (L : List S72) (i : Nat) (vs : List Value) : Prop where
  fam : Fam k58 58 w' w.heap.size vs (xssOf (l.take i)) [g3, g5, g6, g7]
  h3 : Holds w' g3 48 cs
  h5 : Holds w' g5 53 (vs.take 14)
  h6 : Holds w' g6 54 (vs.drop 14)
  h7 : Holds w' g7 46 (bcells (bsOf (L.take i)))
  ok : ∀ d ∈ l.take i, may d = true
  below : Below w.heap.size w w'
structure Far (w : World) (g3 g5 g6 g7 : Nat) : Prop where
  l3 : w.heap.size ≤ g3
  l5 : w.heap.size ≤ g5
  l6 : w.heap.size ≤ g6
  l7 : w.heap.size ≤ g7
  n35 : g3 ≠ g5
  n36 : g3 ≠ g6
  n37 : g3 ≠ g7
  n56 : g5 ≠ g6
  n57 : g5 ≠ g7
  n67 : g6 ≠ g7
theorem Inv.len {w w' : World} {g3 g5 g6 g7 : Nat} {cs : List Value} {l : List S58} {L : List S72} {i : Nat} {vs : List Value} (h : Inv w w' g3 g5 g6 g7 cs l L i vs) : vs.length = 79 := by
  rw [h.fam.len, xss_length]
theorem Inv.below' {w w' w1 : World} {g3 g5 g6 g7 : Nat} {cs : List Value} {l : List S58} {L : List S72} {i : Nat} {vs : List Value} (h : Inv w w' g3 g5 g6 g7 cs l L i vs) (hb : Below w'.heap.size w' w1) : Inv w w1 g3 g5 g6 g7 cs l L i vs :=
  ⟨h.fam.below hb, h.h3.below hb, h.h5.below hb, h.h6.below hb, h.h7.below hb, h.ok, below_then h.below h.below.size hb⟩
theorem inv_start {w w' : World} {g3 g5 g6 g7 : Nat} {cs : List Value} {l : List S58} {L : List S72} (h3 : Holds w' g3 48 cs) (h5 : Holds w' g5 53 (List.replicate 14 (Value.slice none 0 0))) (h6 : Holds w' g6 54 (List.replicate 65 (Value.slice none 0 0))) (h7 : Holds w' g7 46 (bcells (List.replicate 17 0))) (hb : Below w.heap.size w w') :
    Inv w w' g3 g5 g6 g7 cs l L 0 (List.replicate 79 (.slice none 0 0)) := by
  refine ⟨?_, h3, ?_, ?_, ?_, fun d hd => by simp at hd, hb⟩
  · have e : xssOf (l.take 0) = List.replicate 79 [] := by
      rw [List.take_zero]
      rfl
    rw [e]
    refine Fam.none_ w' 79 (fun g hg => ?_)
    simp only [List.mem_cons, List.not_mem_nil, or_false] at hg
    rcases hg with rfl | rfl | rfl | rfl
    · exact h3.lt
    · exact h5.lt
    · exact h6.lt
    · exact h7.lt
  · simpa using h5
  · simpa using h6
  · exact h7
theorem inv_step {w w' : World} {g3 g5 g6 g7 : Nat} {cs : List Value} {l : List S58} {L : List S72} {i : Nat} {vs : List Value} {d : S58} {v1 v2 : Value}
    (hl : l[i]? = some d) (hL : L[i]? = some (re58 d)) (hd : doN (re58 d) < 14) (hm : may d = true) (hok : ∀ d ∈ l.take i, may d = true)
    (fam : Fam k58 58 w' w.heap.size ((vs.set (doN (re58 d)) v1).set (14 + ag (re58 d)) v2) (((xssOf (l.take i)).set (doN (re58 d)) (rowOf (l.take i) (doN (re58 d)) ++ [d])).set (14 + ag (re58 d)) (rowOf (l.take i) (14 + ag (re58 d)) ++ [d])) [g3, g5, g6, g7])
    (h3 : Holds w' g3 48 cs) (h5 : Holds w' g5 53 ((vs.take 14).set (doN (re58 d)) v1)) (h6 : Holds w' g6 54 ((vs.drop 14).set (ag (re58 d)) v2))
    (h7 : Holds w' g7 46 ((bcells (bsOf (L.take i))).set (bk (re58 d)) (.int .i64 (wrap64 ((bsOf (L.take i)).getD (bk (re58 d)) 0 + 1))))) (hb : Below w.heap.size w w') :
    Inv w w' g3 g5 g6 g7 cs l L (i + 1) ((vs.set (doN (re58 d)) v1).set (14 + ag (re58 d)) v2) := by
  refine ⟨?_, h3, ?_, ?_, ?_, ?_, hb⟩
  · rw [xss_succ l i d hl hd]
    exact fam
  · rw [List.take_set, List.take_set, List.set_eq_of_length_le (by rw [List.length_set, List.length_take]; omega)]
    exact h5
  · rw [List.drop_set, List.drop_set, if_neg (by omega), if_pos (by omega), Nat.add_sub_cancel_left]
    exact h6
  · rw [bsOf_succ L i _ hL]
    unfold bstep
    have e : bcells ((bsOf (L.take i)).set (bk (re58 d)) (wrap64 ((bsOf (L.take i)).getD (bk (re58 d)) 0 + 1))) = (bcells (bsOf (L.take i))).set (bk (re58 d)) (.int .i64 (wrap64 ((bsOf (L.take i)).getD (bk (re58 d)) 0 + 1))) := by
      unfold bcells
      rw [List.map_set]
    rw [e]
    exact h7
  · intro x hx
    rw [List.take_add_one, hl] at hx
    rcases List.mem_append.1 hx with h | h
    · exact hok x h
    · have : x = d := by simpa using h
      subst this
      exact hm

/-- What may be, may be. -/
theorem bad_re (d : S58) : bad (re58 d) = !may d := rfl
theorem any_bad_of {l : List S58} {d : S58} (h : d ∈ l) (hm : may d = false) : (l.map re58).any bad = true := by
  rw [List.any_eq_true]
  exact ⟨re58 d, List.mem_map_of_mem h, by rw [bad_re, hm]; rfl⟩
theorem no_bad_of {l : List S58} (h : ∀ d ∈ l, may d = true) : (l.map re58).any bad = false := by
  rw [List.any_eq_false]
  intro x hx
  obtain ⟨d, hd, rfl⟩ := List.mem_map.1 hx
  rw [bad_re, h d hd]
  decide
theorem fold_re : ∀ (l : List S58) (t : Tl), (∀ d ∈ l, may d = true) → (l.map re58).foldl addT t = l.foldl add58 t
  | [], t, h => rfl
  | d :: l, t, h => by
    have hs := may_span (h d (List.mem_cons_self ..))
    rw [List.map_cons, List.foldl_cons, List.foldl_cons, add58_is t d hs.1 hs.2]
    exact fold_re l _ (fun x hx => h x (List.mem_cons_of_mem _ hx))
theorem doN_of {d : S58} (h : may d = true) (hw : Wf d) : doN (re58 d) < 14 ∧ d.f1 = (doN (re58 d) : Int) := by
  have h2 := may_do (d := re58 d) (by rw [bad_re, h]; rfl) hw
  exact ⟨h2.2, h2.1⟩
/-- A row's tally, as the document has it, is the one among the stats. -/
theorem ref_row (l : List S58) (hw : ∀ d ∈ l, Wf d) (h : ∀ d ∈ l, may d = true) (hl : l.length ≤ 1000) (j : Nat) :
    demesneref41_Of.f ((l.filter (fun d => sel j (re58 d))).length + 1) (l.filter (fun d => sel j (re58 d))) = some (((tsOf (l.map re58)).getD j tl0).c, ((tsOf (l.map re58)).getD j tl0).e, ((tsOf (l.map re58)).getD j tl0).m, ((tsOf (l.map re58)).getD j tl0).l) := by
  have e : (tsOf (l.map re58)).getD j tl0 = (l.filter (fun d => sel j (re58 d))).foldl add58 tl0 := by
    rw [tsOf_get _ j (fun d hd => by
      obtain ⟨x, hx, rfl⟩ := List.mem_map.1 hd
      exact (doN_of (h x hx) (hw x hx)).1), List.filter_map]
    exact fold_re _ _ (fun d hd => h d (List.mem_filter.1 hd).1)
  rw [e]
  exact refOf_is _ (Nat.le_trans (List.length_filter_le _ _) (by omega))
theorem ref_all (l : List S58) (hw : ∀ d ∈ l, Wf d) (h : ∀ d ∈ l, may d = true) (hl : l.length ≤ 1000) :
    demesneref41_Of.f (l.length + 1) l = some (((tsOf (l.map re58)).getD 0 tl0).c, ((tsOf (l.map re58)).getD 0 tl0).e, ((tsOf (l.map re58)).getD 0 tl0).m, ((tsOf (l.map re58)).getD 0 tl0).l) := by
  have h1 := ref_row l hw h hl 0
  have e : l.filter (fun d => sel 0 (re58 d)) = l := List.filter_eq_self.2 (fun d _ => sel_zero _)
  rw [e] at h1
  exact h1
theorem ref_len (d : S58) : demesneref41_Length.f d.f0 d.f1 d.f2 d.f3 d.f4 d.f5 d.f6 d.f7 d.f8 d.f9 d.f10 = some (len58 d) := by
  unfold demesneref41_Length.f len58
  split <;> rfl
theorem ref_bk {d : S58} (h : may d = true) : demesneref41_Bucket.f 20 (len58 d) = some (bk (re58 d) : Int) := by
  have hs := may_span h
  have hb := len72_bounds (re58 d)
  have e := len58_is d hs.1 hs.2
  rw [bucket_is (len58 d) (by rw [← e]; exact hb.2), ← e]
  rfl
theorem bk_lt (d : S72) : bk d < 17 := by unfold bk; omega
theorem cell_two {B : Nat} {w W w1 : World} {p : Addr} {v : Value} (hb : Below B w W) (hb1 : Below B w w1) (hp : p.block < B) (h : W.cell? p = some v) : w1.cell? p = some v := by
  rw [hb1.cell hp, ← hb.cell hp]
  exact h
theorem seg_buckets (ts : List Tl) (bs : List Int) (p : Int) (h1 : ts.length = 80) (h2 : bs.length = 17) : ((scells ts bs p).drop 320).take (bcells bs).length = bcells bs := by
  unfold scells
  rw [show 320 = (tcells ts).length by rw [tcells_length, h1], List.drop_left, List.take_left]
section
variable {P : Program} {ops : Array Oper} {rest : List Oper} {o : Oper} {a : Act} {Q : Exit → Act → World → Prop} {K : Act → World → Prop}
theorem load_agg_exec {W : World} {ty : TypeId} {x : Operand} (ho : o.op = .load ty x) {g off t : Nat} {cs seg : List Value} {d : TypeDesc} (hx : a.eval x = .pointer (some ⟨g, off, none⟩)) (hg : Holds W g t cs)
    (hseg : (cs.drop off).take seg.length = seg) (hu : P.underlying ty = some d) (hd : d.isRow = true) (hi : (P.info? ty).map (·.size) = some seg.length) : (execOp a.eval o).run P W = .ok (.value (.agg seg.toArray)) W := by
  unfold execOp
  simp only [ho, hx, run_load_agg hg hseg hu hd hi, Sem.run_bind, Sem.run_pure, Result.andThen_ok]
theorem cmp_agg_exec {W : World} {op : BinOp} {t : TypeId} {x y : Operand} {ty : TypeId} (ho : o.op = .binOp op t x y ty) {X Y : Array Value} (hx : a.eval x = .agg X) (hy : a.eval y = .agg Y) (hop : op = .eql ∨ op = .neq) (hg : P.eqGuardType P.depth t = false) {b : Bool}
    (hr : (binOp op t (.agg X) (.agg Y)).run P W = .ok (.bool b) W) : (execOp a.eval o).run P W = .ok (.value (.bool b)) W := by
  have h1 : (eqGuard op t x y (.agg X) (.agg Y)).run P W = .ok () W := run_eqGuard_agg W op t x y X Y hg
  unfold execOp
  simp only [ho, hx, hy, Sem.run_bind, h1, hr, Result.andThen_ok, Sem.run_pure]
theorem guarded_event {W w1 : World} {v : Value} (hw : Region.wanted o (yielded ops a.tmps) = true) (hrun : (execOp a.eval o).run P W = .ok (.value v) w1) (h : wpList P ops Q rest (a.put o.dst v) w1) : wpList P ops Q (o :: rest) a W := by
  refine wpList_step fun K hK => ?_
  rw [if_pos hw]
  unfold Oper.wp
  rw [hrun]
  exact hK _ _ h
end
set_option maxRecDepth 100000 in
theorem build_row_run {W : World} {v0 v1 v2 v3 v4 v5 v6 v7 v8 v9 v10 : Value} : (Instr.buildSlice 41 1 #[(0, .agg #[v0, v1, v2, v3, v4, v5, v6, v7, v8, v9, v10])]).run Try.prog W = .ok (.slice (some ⟨W.heap.size, 0, none⟩) 1 1) (W.alloc (.cells #[v0, v1, v2, v3, v4, v5, v6, v7, v8, v9, v10] 58)) := by
  kernel_rfl
theorem build_row_exec {W : World} {o : Oper} {a : Act} {x : Operand} {v0 v1 v2 v3 v4 v5 v6 v7 v8 v9 v10 : Value} (ho : o.op = .buildSlice 41 1 #[(0, x)]) (hx : a.eval x = .agg #[v0, v1, v2, v3, v4, v5, v6, v7, v8, v9, v10]) :
    (execOp a.eval o).run Try.prog W = .ok (.value (.slice (some ⟨W.heap.size, 0, none⟩) 1 1)) (W.alloc (.cells #[v0, v1, v2, v3, v4, v5, v6, v7, v8, v9, v10] 58)) := by
  unfold execOp
  simp only [ho, List.map_toArray, List.map_cons, List.map_nil, hx, Sem.run_bind, build_row_run, Result.andThen_ok]
  rfl
end Go.Proofs.Ytgojfecpknonlaa.St
