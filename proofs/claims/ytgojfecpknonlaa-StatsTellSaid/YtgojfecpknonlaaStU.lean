/- Many rows of events at once, in the cells of arrays. -/
import Derived.Test.YtgojfecpknonlaaStR
import Derived.ChangeKeysEq
namespace Go.Proofs.Ytgojfecpknonlaa.St
open Go.RowKit Go.Proofs.YtgojfecpknonlaaW.PrintWords Go.Proofs.YtgojfecpknonlaaW.PrintLast Go.Proofs.YtgojfecpknonlaaW.PrintMore
open Go.Proofs.Ytgojfecpknonlaa.Own Go.Proofs.Ytgojfecpknonlaa.PSt
set_option linter.unusedVariables false
set_option linter.unusedSimpArgs false

/-- Slice values vs own the rows xss, each in blocks of its own; none of them is one of the blocks gs. -/
def Fam {α : Type} (d : Kd α) (e : Nat) (W : World) (base : Nat) (vs : List Value) (xss : List (List α)) (gs : List Nat) : Prop :=
  ∃ f : Nat → Nat, vs.length = xss.length ∧ (∀ (q : Nat) (v : Value) (xs : List α), vs[q]? = some v → xss[q]? = some xs → d.R e W base (fun k => f k = q + 1) v xs) ∧ ∀ g, g ∈ gs → f g = 0 ∧ g < W.heap.size

section
variable {α : Type} {d : Kd α} {e : Nat} {W W1 : World} {base : Nat} {vs : List Value} {xss : List (List α)} {gs : List Nat}
theorem Fam.below (h : Fam d e W base vs xss gs) (hb : Below W.heap.size W W1) : Fam d e W1 base vs xss gs := by
  obtain ⟨f, hl, hr, hg⟩ := h
  exact ⟨f, hl, fun q v xs hv hx => Kd.R_below (hr q v xs hv hx) hb, fun g h => ⟨(hg g h).1, Nat.lt_of_lt_of_le (hg g h).2 hb.size⟩⟩
theorem Fam.stored {g : Nat} (h : Fam d e W base vs xss gs) (hs : Stored W W1 g) (hm : g ∈ gs) : Fam d e W1 base vs xss gs := by
  obtain ⟨f, hl, hr, hg⟩ := h
  refine ⟨f, hl, fun q v xs hv hx => Kd.R_keep (hr q v xs hv hx) hs.keep (fun k hk => ?_), fun g h => ⟨(hg g h).1, by rw [hs.size]; exact (hg g h).2⟩⟩
  rintro rfl
  have := (hg k hm).1
  omega
/-- The row at q, as an append wants it; what the append leaves. -/
theorem Fam.at_ (h : Fam d e W base vs xss gs) (q : Nat) (v : Value) (xs : List α) (hv : vs[q]? = some v) (hx : xss[q]? = some xs) :
    ∃ ok : Nat → Prop, (∀ k, W.heap.size ≤ k → ok k) ∧ d.R e W base ok v xs ∧
      (∀ w1 v1 x, d.R e w1 base ok v1 (xs ++ [x]) → W.grownBy w1 v.ownBlock → Fam d e w1 base (vs.set q v1) (xss.set q (xs ++ [x])) gs) ∧
      ∀ g, g ∈ gs → some g ≠ v.ownBlock := by
  obtain ⟨f, hl, hr, hg⟩ := h
  have hq : q < vs.length := (List.getElem?_eq_some_iff.1 hv).1
  refine ⟨fun k => f k = q + 1 ∨ W.heap.size ≤ k, fun k hk => .inr hk, Kd.R_mono (hr q v xs hv hx) (fun k hk => .inl hk), ?_, ?_⟩
  · intro w1 v1 x h1 hgr
    refine ⟨fun k => if k < W.heap.size then f k else q + 1, by simpa using hl, ?_, fun g hgm => ⟨(if_pos (hg g hgm).2).trans (hg g hgm).1, Nat.lt_of_lt_of_le (hg g hgm).2 hgr.size⟩⟩
    intro j u ys hu hy
    by_cases hj : j = q
    · subst hj
      rw [List.getElem?_set_self hq] at hu
      rw [List.getElem?_set_self (by omega)] at hy
      injection hu with hu
      injection hy with hy
      subst hu hy
      exact Kd.R_mono h1 (fun k hk => by
        show (if k < W.heap.size then f k else j + 1) = j + 1
        rcases hk with hk | hk
        · split <;> omega
        · rw [if_neg (by omega)])
    · rw [List.getElem?_set_ne (fun e => hj e.symm)] at hu hy
      have h2 := Kd.R_grown (Kd.R_bound (hr j u ys hu hy)) hgr (fun k hk he => by
        have h3 : f k = q + 1 := (hr q v xs hv hx).1 k he.symm
        have h4 := hk.1
        omega)
      exact Kd.R_mono h2 (fun k hk => (if_pos hk.2.2.1).trans hk.1)
  · intro g hgm he
    have h3 : f g = q + 1 := (hr q v xs hv hx).1 g he.symm
    have := (hg g hgm).1
    omega
theorem Fam.read (h : Fam d e W base vs xss gs) (q : Nat) (v : Value) (xs : List α) (hv : vs[q]? = some v) (hx : xss[q]? = some xs) : ∃ A c, v = .slice A xs.length c ∧ xs.length ≤ c ∧ d.C W A xs.length xs := by
  obtain ⟨f, hl, hr, hg⟩ := h
  exact Kd.R_reads (hr q v xs hv hx)
theorem Fam.none_ (W : World) (n : Nat) (hg : ∀ g, g ∈ gs → g < W.heap.size) : Fam d e W base (List.replicate n (.slice none 0 0)) (List.replicate n []) gs := by
  refine ⟨fun _ => 0, by simp, fun q v xs hv hx => ?_, fun g h => ⟨rfl, hg g h⟩⟩
  have hv' := List.eq_of_mem_replicate (List.mem_of_getElem? hv)
  have hx' := List.eq_of_mem_replicate (List.mem_of_getElem? hx)
  subst hv' hx'
  exact Kd.R_nil d e W base _
theorem Fam.len (h : Fam d e W base vs xss gs) : vs.length = xss.length := by
  obtain ⟨f, hl, _⟩ := h
  exact hl
end
theorem _root_.Go.Proofs.Ytgojfecpknonlaa.Own.Holds.grown {W W1 : World} {g t : Nat} {cs : List Value} (h : Holds W g t cs) {row : Option Nat} (hg : W.grownBy W1 row) (hne : some g ≠ row) : Holds W1 g t cs := (hg.block g h.lt hne).trans h
section
variable {P : Program} {ops : Array Oper} {rest : List Oper} {o : Oper} {a : Act} {Q : Exit → Act → World → Prop} {K : Act → World → Prop}
/-- A store of one cell. -/
theorem store_one_skip {W : World} {ty : TypeId} {x y : Operand} (ho : o.op = .store ty x y) {g j t : Nat} {cs : List Value} {v : Value} (hx : a.eval x = .pointer (some ⟨g, j, none⟩)) (hy : a.eval y = v) (hv : v.cells = #[v]) (hg : Holds W g t cs)
    (hj : j < cs.length) (hi : (P.info? ty).map (·.size) = some 1) (h1 : v.oneCell' = true) : (execOp a.eval o).run P W = .ok .skip (W.setCells g j [v]) := by
  have h := run_storeCells_cells (P := P) g j [v] 0 W (fun k hk => by
      have : k = 0 := by simpa using hk
      subst this
      show (W.cell? ⟨g, j + 0, none⟩).isSome = true
      rw [Nat.add_zero, hg.cell, List.getElem?_eq_getElem hj]
      rfl) (fun k hk => blk_frozen hg _) (fun u hu => by
      have : u = v := by simpa using hu
      subst this
      exact h1)
  unfold execOp
  cases hq : P.info? ty with
  | none => simp [hq] at hi
  | some i =>
    have hs : i.size = 1 := by simpa [hq] using hi
    simp only [Nat.add_zero] at h
    simp [ho, hx, hy, Instr.storeAt, Instr.sureAddr, storeVar, sizeOf, typeInfo, hq, hv, hs, h]
end
theorem slice_cells (A : Option Addr) (n c : Nat) : (Value.slice A n c).cells = #[.slice A n c] := rfl
theorem info41s : (Try.prog.info? 41).map (·.size) = some 1 := by kernel_rfl

/-- Cells of whole numbers are themselves. -/
theorem eqItems_self {P : Program} (w : World) (d : Nat) (e : TypeId) (hu : P.underlying e = some (.int .i64)) (hp : P.plainKey e = true) (bs : List Int) : ∀ is : List Nat, (∀ i ∈ is, i < bs.length) →
    (Op.eqItems (d + 1) e 1 (bcells bs).toArray (bcells bs).toArray is).run P w = .ok true w
  | [], _ => by simp [Op.eqItems]
  | i :: is, h => by
    have hi := h i (List.mem_cons_self ..)
    have hx : (bcells bs).toArray[i * 1]? = some (.int .i64 bs[i]) := by
      rw [Nat.mul_one]
      simp [bcells, hi]
    have h1 := run_part_plain (P := P) w hp hx
    have h2 : (Op.equalIn (d + 1) e (.int .i64 bs[i]) (.int .i64 bs[i])).run P w = .ok true w := by
      simp [Op.equalIn, run_underlying hu]
    have ih := eqItems_self w d e hu hp bs is (fun j hj => h j (List.mem_cons_of_mem _ hj))
    simp only [Op.eqItems, Sem.run_bind, h1, h2, Result.andThen_ok]
    simpa using ih
theorem plain3 : Try.prog.plainKey 3 = true := by kernel_rfl
theorem has3 : ∃ i, Try.prog.info? 3 = some i := by
  have h : (Try.prog.info? 3).map (·.size) = some 1 := by kernel_rfl
  cases hq : Try.prog.info? 3 with
  | none => rw [hq] at h; cases h
  | some i => exact ⟨i, rfl⟩
theorem cells3' : Try.prog.cellsOf 3 = 1 := by kernel_rfl
theorem run_neq46 (w : World) (bs : List Int) (h : bs.length = 17) : (binOp .neq 46 (.agg (bcells bs).toArray) (.agg (bcells bs).toArray)).run Try.prog w = .ok (.bool false) w := by
  obtain ⟨i, hi⟩ := has3
  have h1 := run_equalIn_array (P := Try.prog) w 9999 (bcells bs).toArray (bcells bs).toArray Try.underlying46 hi
  rw [cells3', eqItems_self w 9998 3 Try.underlying3 plain3 bs _ (fun j hj => by rw [h]; simpa using hj)] at h1
  simp only [binOp, Op.equal, Op.maxDepth, Sem.run_bind, h1, Result.andThen_ok]
  rfl
theorem run_eql48 (w : World) : (binOp .eql 48 (.agg zero48.toArray) (.agg zero48.toArray)).run Try.prog w = .ok (.bool true) w := by kernel_rfl
end Go.Proofs.Ytgojfecpknonlaa.St
