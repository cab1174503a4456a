/- A shape's threads, looked through one by one: what lies ready. -/
import Derived.Test.YtgojfecpknonlaaImK
import Derived.Test.YtgojfecpknonlaaWeaveR
namespace Go.Proofs.Ytgojfecpknonlaa.Im
open Go.RowKit Go.Proofs.YtgojfecpknonlaaW.PrintWords Go.Proofs.YtgojfecpknonlaaW.PrintLast Go.Proofs.YtgojfecpknonlaaW.PrintMore
open Go.Proofs.Ytgojfecpknonlaa.Own Go.Proofs.Ytgojfecpknonlaa.PIm Go.Proofs.Ytgojfecpknonlaa.Wv
set_option linter.unusedVariables false
set_option linter.unusedSimpArgs false

theorem set2_at (l : List Value) (i : Nat) (a b : Value) (j : Nat) (hi : 2 * i + 2 ≤ l.length) : (((l.set (i * 2) a).set (i * 2 + 1) b).drop (j * 2)).take 2 = if j = i then [a, b] else (l.drop (j * 2)).take 2 := by
  apply List.ext_getElem?
  intro k
  by_cases hk : k < 2
  · rw [List.getElem?_take_of_lt hk, List.getElem?_drop]
    by_cases hj : j = i
    · rw [if_pos hj]
      subst hj
      rcases (show k = 0 ∨ k = 1 by omega) with rfl | rfl
      · rw [List.getElem?_set_ne (by omega), Nat.add_zero, List.getElem?_set_self (by omega)]
        rfl
      · rw [List.getElem?_set_self (by rw [List.length_set]; omega)]
        rfl
    · rw [if_neg hj, List.getElem?_take_of_lt hk, List.getElem?_drop, List.getElem?_set_ne (by omega), List.getElem?_set_ne (by omega)]
  · rw [List.getElem?_eq_none (by rw [List.length_take]; omega)]
    split
    · rw [List.getElem?_eq_none (by simp; omega)]
    · rw [List.getElem?_eq_none (by rw [List.length_take]; omega)]
theorem raw_put {e B : Nat} {ok : Nat → Prop} {W : World} {g n c : Nat} {ps : List (Value × Value)} (h : Kd.R kraw e W B ok (.slice (some ⟨g, 0, none⟩) n c) ps) (i : Nat) (hi : i < ps.length) (p : Value × Value) (h1 : p.1.oneCell' = true) (h2 : p.2.oneCell' = true) :
    Kd.R kraw e (W.setCells g (i * 2) [p.1, p.2]) B ok (.slice (some ⟨g, 0, none⟩) n c) (ps.set i p) ∧ W.grownBy (W.setCells g (i * 2) [p.1, p.2]) (some g) := by
  obtain ⟨rfl, _⟩ := Kd.R_reads' h
  obtain ⟨h0, inner, ho, hr⟩ := h
  have st1 := ho.stored (i * 2) p.1
  have st2 := st1.1.stored (i * 2 + 1) p.2
  have hl : inner.length = ps.length * 2 := hr.1
  refine ⟨⟨h0, ((inner.set (i * 2) p.1).set (i * 2 + 1) p.2), by rw [List.length_set]; exact st2.1, by simpa using hr.1, fun j q hq => ?_⟩, st1.2.trans st2.2⟩
  show (((inner.set (i * 2) p.1).set (i * 2 + 1) p.2).drop (j * 2)).take 2 = _ ∧ _
  rw [set2_at inner i p.1 p.2 j (by omega)]
  by_cases hj : j = i
  · subst hj
    rw [List.getElem?_set_self hi] at hq
    injection hq with hq
    subst hq
    rw [if_pos rfl]
    exact ⟨rfl, h1, h2⟩
  · rw [List.getElem?_set_ne (fun e => hj e.symm)] at hq
    rw [if_neg hj]
    exact hr.2 j q hq
def z3 : Value := .slice none 0 0
/-- Rows that have no block in common. -/
def Ap (L : List Value) : Prop := ∀ j k q, k ≠ j → (L.getD k (.slice none 0 0)).ownBlock = some q → (L.getD j (.slice none 0 0)).ownBlock ≠ some q
theorem ap_nil : Ap [] := fun j k q _ h => by simp [Value.ownBlock] at h
theorem getD_snoc (L : List Value) (v : Value) (j : Nat) : (L ++ [v]).getD j (.slice none 0 0) = if j < L.length then L.getD j (.slice none 0 0) else if j = L.length then v else .slice none 0 0 := by
  rw [List.getD_eq_getElem?_getD, List.getD_eq_getElem?_getD]
  split
  · rw [List.getElem?_append_left (by assumption)]
  · rw [List.getElem?_append_right (by omega)]
    split
    · rename_i h
      rw [h, Nat.sub_self]
      rfl
    · rw [List.getElem?_eq_none (by simp; omega)]
      rfl
theorem getD_mem_or (L : List Value) (j : Nat) (q : Nat) (h : (L.getD j (.slice none 0 0)).ownBlock = some q) : L.getD j (.slice none 0 0) ∈ L := by
  rw [List.getD_eq_getElem?_getD] at h ⊢
  cases hj : L[j]? with
  | none => rw [hj] at h; simp [Value.ownBlock] at h
  | some u => exact List.mem_of_getElem? hj
theorem Ap.push {L : List Value} {v : Value} (h : Ap L) (hv : ∀ u ∈ L, ∀ q, u.ownBlock = some q → v.ownBlock ≠ some q) : Ap (L ++ [v]) := by
  intro j k q hkj hk hj
  rw [getD_snoc] at hk hj
  by_cases h1 : k < L.length
  · rw [if_pos h1] at hk
    by_cases h2 : j < L.length
    · rw [if_pos h2] at hj
      exact h j k q hkj hk hj
    · rw [if_neg h2] at hj
      split at hj
      · exact hv _ (getD_mem_or L k q hk) q hk hj
      · simp [Value.ownBlock] at hj
  · rw [if_neg h1] at hk
    split at hk
    · rename_i hke
      by_cases h2 : j < L.length
      · rw [if_pos h2] at hj
        exact hv _ (getD_mem_or L j q hj) q hj hk
      · rw [if_neg h2, if_neg (by omega)] at hj
        simp [Value.ownBlock] at hj
    · simp [Value.ownBlock] at hk
def inT (n : Nat) (t : S124) : S124 := ⟨inF n t.f0, inF n t.f1⟩
structure CI (T : List S124) (Gs : List Int) (n B g5 : Nat) (HL : List (Nat × Nat × List Value)) (vT vG vN : Value) (w00 : World) (i : Nat) (qs rest : List (Value × Value)) (W : World) : Prop where
  raw : Kd.R kraw 128 W B (fun _ => True) vT (qs ++ rest)
  done : Els S124.f0 S124.f1 .i64 3 W B (.slice none 0 0) qs ((T.take i).map (inT n))
  todo : Els S124.f0 S124.f1 .i64 3 W B (.slice none 0 0) rest (T.drop i)
  apart : Ap (qs.flatMap fun p => [p.1, p.2])
  glob : Kd.R (Kd.int .i64) 3 W B (fun _ => True) vG Gs
  h5 : Holds W g5 89 [vT, vG, vN]
  hs : ∀ x ∈ HL, Holds W x.1 x.2.1 x.2.2
  below : Below B w00 W
  size : B ≤ W.heap.size
section
variable {T : List S124} {Gs : List Int} {n B g5 i : Nat} {HL : List (Nat × Nat × List Value)} {vT vG vN : Value} {w00 : World} {qs rest : List (Value × Value)} {W W' : World}
theorem CI.flow (h : CI T Gs n B g5 HL vT vG vN w00 i qs rest W) (hb : Below W.heap.size W W') : CI T Gs n B g5 HL vT vG vN w00 i qs rest W' :=
  ⟨Kd.R_below h.raw hb, h.done.below hb, h.todo.below hb, h.apart, Kd.R_below h.glob hb, h.h5.below hb, fun x hx => (h.hs x hx).below hb, below_then h.below h.size hb, Nat.le_trans h.size hb.size⟩
theorem Els.flat_lt {k : IntKind} {e : Nat} {α : Type} {f0 f1 : α → List Int} {v : Value} {U : List α} (h : Els f0 f1 k e W B v qs U) : ∀ u ∈ (qs.flatMap fun p => [p.1, p.2]), ∀ q, u.ownBlock = some q → q < W.heap.size := by
  intro u hu q hq
  obtain ⟨p, hp, hu⟩ := List.mem_flatMap.1 hu
  obtain ⟨j, hj⟩ := List.mem_iff_getElem?.1 hp
  have hjl := (List.getElem?_eq_some_iff.1 hj).1
  have hl := h.1
  have h2 := h.2 j p _ hj (List.getElem?_eq_getElem (by omega))
  rcases List.mem_cons.1 hu with rfl | hu
  · exact Kd.R_lt h2.1 q hq
  · rcases List.mem_cons.1 hu with rfl | hu
    · exact Kd.R_lt h2.2 q hq
    · cases hu
theorem CI.step {W1 : World} {gT cT nT : Nat} {a b : Value} {t : S124} (h : CI T Gs n B g5 HL (.slice (some ⟨gT, 0, none⟩) nT cT) vG vN w00 i qs rest W) (hHL : ∀ x ∈ HL, x.2.1 ≠ 128) (hq : qs.length = i) (hT : T.drop i = t :: T.drop (i + 1)) (htk : T.take (i + 1) = T.take i ++ [t]) (hb : Below W.heap.size W W1)
    (ha : Kd.R (Kd.int .i64) 3 W1 W.heap.size (fun _ => True) a (inF n t.f0)) (hbb : Kd.R (Kd.int .i64) 3 W1 W.heap.size (fun _ => True) b (inF n t.f1)) (hab : ∀ q, a.ownBlock = some q → b.ownBlock ≠ some q) :
    CI T Gs n B g5 HL (.slice (some ⟨gT, 0, none⟩) nT cT) vG vN w00 (i + 1) (qs ++ [(a, b)]) rest.tail (W1.setCells gT (i * 2) [a, b]) := by
  have h1 := h.flow hb
  have hrl : rest.length = (T.drop i).length := h.todo.1
  rw [hT] at hrl
  obtain ⟨p0, r, hr⟩ : ∃ p0 r, rest = p0 :: r := by
    cases rest with
    | nil => simp at hrl
    | cons p0 r => exact ⟨p0, r, rfl⟩
  subst hr
  have hput := raw_put h1.raw i (by rw [List.length_append, hq]; simp) (a, b) (R_iv ha).one (R_iv hbb).one
  have hset : (qs ++ p0 :: r).set i (a, b) = (qs ++ [(a, b)]) ++ r := by
    rw [List.set_append_right _ _ (by omega), hq, Nat.sub_self, List.set_cons_zero, List.append_assoc]
    rfl
  rw [hset] at hput
  have hk := Kp.of_grown hput.2
  have hty : ∀ (k : Nat) (cs : Array Value) (t : TypeId) (fr : Nat × Nat), W1.heap[k]? = some (.cells cs t fr) → t ≠ 128 → ¬ (some k = some gT) := fun k cs t fr ho ht e => by
    injection e with e
    subst e
    obtain ⟨inner, hw⟩ := Kd.R_own h1.raw
    obtain ⟨cells, hc⟩ := own_typed hw k rfl
    rw [ho] at hc
    injection hc with hc
    injection hc with _ hc
    exact ht hc
  have hri : ∀ {e : Nat} {ok : Nat → Prop} {u : Value} {ys : List Int}, e ≠ 128 → Kd.R (Kd.int .i64) e W1 B ok u ys → Kd.R (Kd.int .i64) e (W1.setCells gT (i * 2) [a, b]) B ok u ys := fun he hu => hk.RI hu (fun q hq e1 => by
    obtain ⟨inner, hw⟩ := Kd.R_own hu
    obtain ⟨cells, hc⟩ := own_typed hw q hq
    exact hty q _ _ _ hc he e1)
  have hrn : ∀ {u : Value} {ys : List Int}, Kd.R (Kd.int .i64) 3 W1 W.heap.size (fun _ => True) u ys → OI .i64 3 (W1.setCells gT (i * 2) [a, b]) B (.slice none 0 0) u ys := fun hu => hri (by decide) (Kd.R_lower (Kd.R_mono hu (fun q _ => ⟨trivial, by simp [Value.ownBlock]⟩)) h.size)
  have hdone : Els S124.f0 S124.f1 .i64 3 (W1.setCells gT (i * 2) [a, b]) B (.slice none 0 0) qs ((T.take i).map (inT n)) := ⟨h1.done.1, fun j p u hp hu => ⟨hri (by decide) (h1.done.2 j p u hp hu).1, hri (by decide) (h1.done.2 j p u hp hu).2⟩⟩
  refine ⟨hput.1, ?_, ⟨by rw [List.tail_cons]; simpa using hrl, fun j p u hp hu => ?_⟩, ?_, hri (by decide) h1.glob, hk.holds h1.h5 (hty _ _ _ _ h1.h5 (by decide)), fun x hx => hk.holds (h1.hs x hx) (hty _ _ _ _ (h1.hs x hx) (hHL x hx)), h1.below.grown hput.2 h1.size (fun k e => by injection e with e; subst e; exact Kd.R_base h1.raw _ rfl), Nat.le_trans h1.size hk.size⟩
  · rw [htk, List.map_append]
    exact hdone.push (hrn ha) (hrn hbb)
  · have h3 := h1.todo.2 (j + 1) p u (by simpa using hp) (by rw [hT]; simpa using hu)
    exact ⟨hri (by decide) h3.1, hri (by decide) h3.2⟩
  · rw [List.flatMap_append, show ([(a, b)].flatMap fun p => [p.1, p.2]) = [a] ++ [b] from rfl, ← List.append_assoc]
    have hl := h.done.flat_lt
    refine (h.apart.push (fun u hu q hq e => ?_)).push (fun u hu q hq e => ?_)
    · have := hl u hu q hq
      have := Kd.R_base ha q e
      omega
    · rcases List.mem_append.1 hu with hu | hu
      · have := hl u hu q hq
        have := Kd.R_base hbb q e
        omega
      · obtain rfl := List.mem_singleton.1 hu
        exact hab q hq e
end
/-- Rows and contents side by side. -/
theorem flat2 {P : Value → List Int → Prop} : ∀ (qs : List (Value × Value)) (T : List S124), qs.length = T.length → (∀ (i : Nat) (p : Value × Value) (t : S124), qs[i]? = some p → T[i]? = some t → P p.1 t.f0 ∧ P p.2 t.f1) → ∀ (ru : List Value) (rl : List (List Int)), (∀ j, P (ru.getD j (.slice none 0 0)) (rl.getD j [])) →
    ∀ j, P ((qs.flatMap (fun p => [p.1, p.2]) ++ ru).getD j (.slice none 0 0)) ((T.flatMap (fun t => [t.f0, t.f1]) ++ rl).getD j [])
  | [], [], _, _, ru, rl, h, j => h j
  | [], t :: T, hl, _, _, _, _, _ => by simp at hl
  | p :: qs, [], hl, _, _, _, _, _ => by simp at hl
  | p :: qs, t :: T, hl, hp, ru, rl, h, j => by
    have h0 := hp 0 p t rfl rfl
    match j with
    | 0 => exact h0.1
    | 1 => exact h0.2
    | j + 2 => exact flat2 qs T (by simpa using hl) (fun i q u hq hu => hp (i + 1) q u hq hu) ru rl h j
/-- The last row looked through, too: all rows, apart. -/
theorem CI.globe {T : List S124} {Gs : List Int} {N : List S127} {B g5 : Nat} {HL : List (Nat × Nat × List Value)} {vT vG vN vG2 : Value} {w00 W W3 : World} {qs : List (Value × Value)} (h : CI T Gs N.length B g5 HL vT vG vN w00 T.length qs [] W) (hHL : ∀ x ∈ HL, x.1 ≠ g5) (hB5 : B ≤ g5) (hb : Below W.heap.size W W3) (hr : Kd.R (Kd.int .i64) 3 W3 W.heap.size (fun _ => True) vG2 (inF N.length Gs)) :
    Kd.R kraw 128 (W3.setCells g5 1 [vG2]) B (fun _ => True) vT qs ∧ (∀ j, Kd.R (Kd.int .i64) 3 (W3.setCells g5 1 [vG2]) B (fun _ => True) ((rowsV qs vG2).getD j (.slice none 0 0)) (contC ⟨T, Gs, N⟩ j)) ∧ Ap (rowsV qs vG2) ∧ Holds (W3.setCells g5 1 [vG2]) g5 89 [vT, vG2, vN] ∧ (∀ x ∈ HL, Holds (W3.setCells g5 1 [vG2]) x.1 x.2.1 x.2.2) ∧ Below B w00 (W3.setCells g5 1 [vG2]) ∧ B ≤ (W3.setCells g5 1 [vG2]).heap.size ∧ (∀ p ∈ qs, ∃ A0 n0 c0 A1 n1 c1, p = (.slice A0 n0 c0, .slice A1 n1 c1)) ∧ qs.length = T.length := by
  have h3 := h.flow hb
  have hs := stored_cells W3 g5 1 [vG2]
  have hri : ∀ {B' : Nat} {ok : Nat → Prop} {u : Value} {ys : List Int}, Kd.R (Kd.int .i64) 3 W3 B' ok u ys → Kd.R (Kd.int .i64) 3 (W3.setCells g5 1 [vG2]) B' ok u ys := fun hu => R_other hu h3.h5 (fun q hq => by rcases List.mem_cons.1 hq with rfl | hq; decide; cases hq) hs
  have hraw := h3.raw
  rw [List.append_nil] at hraw
  have hd := h3.done
  rw [List.take_length] at hd
  have hl : qs.length = T.length := by have := hd.1; rwa [List.length_map] at this
  refine ⟨R_other hraw h3.h5 (fun q hq => by rcases List.mem_cons.1 hq with rfl | hq; decide; cases hq) hs, fun j => ?_, ?_, ?_, fun x hx => hs.holds (h3.hs x hx) (hHL x hx), hs.below h3.below hB5, by rw [hs.size]; exact h3.size, fun p hp => ?_, hl⟩
  · have h1 := flat2 (P := fun u l => Kd.R (Kd.int .i64) 3 (W3.setCells g5 1 [vG2]) B (fun _ => True) u l) qs (T.map (inT N.length)) hd.1 (fun i p t hp ht => ⟨Kd.R_mono (hri (hd.2 i p t hp ht).1) (fun _ _ => trivial), Kd.R_mono (hri (hd.2 i p t hp ht).2) (fun _ _ => trivial)⟩) [vG2] [inF N.length Gs] (fun j => by
      cases j with
      | zero => exact Kd.R_lower (hri hr) h.size
      | succ j => exact Kd.R_nil _ _ _ _ _) j
    rw [List.flatMap_map] at h1
    exact h1
  · have hlt := h.done.flat_lt
    exact h.apart.push (fun u hu q hq e => by
      have := hlt u hu q hq
      have := Kd.R_base hr q e
      omega)
  · exact holds_cells (vs := [vG2]) h3.h5 (by show 1 + 1 ≤ 3; decide)
  · obtain ⟨j, hj⟩ := List.mem_iff_getElem?.1 hp
    have hjl := (List.getElem?_eq_some_iff.1 hj).1
    have h2 := hd.2 j p _ hj (List.getElem?_eq_getElem (by rw [List.length_map]; omega))
    obtain ⟨A0, c0, e0⟩ := Kd.R_slice h2.1
    obtain ⟨A1, c1, e1⟩ := Kd.R_slice h2.2
    exact ⟨A0, _, c0, A1, _, c1, by rw [← e0, ← e1]⟩
/-- What behind the walk is the canon. -/
theorem canon_is {S : Sh} {B : Nat} {w : World} {qs ns : List (Value × Value)} {AT AG : Option Addr} {cT nG cG : Nat} {vX vN : Value} (hq : qs.length = S.T.length) (hr : Kd.R kraw 128 w B (fun _ => True) (.slice AT qs.length cT) qs)
    (hI : ∀ j, Kd.R (Kd.int .i64) 3 w B (fun _ => True) ((rowsV qs (.slice AG nG cG)).getD j (.slice none 0 0)) ((stC S).2 j)) (hn : Kd.R kraw 131 w B (fun _ => True) vX ns) (hE : Els S127.f0 S127.f1 .u64 56 w B vN ns (nodesF S.N S.N.length 0 (stC S).1 []).2) :
    IsSh w (.agg #[.slice AT qs.length cT, .slice AG nG cG, vX]) (canonF S) := by
  have hlen : (canonF S).T.length = qs.length := by show ((List.range S.T.length).map _).length = _; rw [List.length_map, List.length_range, hq]
  obtain ⟨h1, h2, h3⟩ := Kd.R_reads' hr
  have hat : ∀ (i : Nat) (p : Value × Value), qs[i]? = some p → Kd.R (Kd.int .i64) 3 w B (fun _ => True) p.1 ((stC S).2 (2 * i)) ∧ Kd.R (Kd.int .i64) 3 w B (fun _ => True) p.2 ((stC S).2 (2 * i + 1)) := fun i p hp => by
    have hf := flat_at qs [.slice AG nG cG] i p hp
    have a0 := hI (2 * i)
    have a1 := hI (2 * i + 1)
    unfold rowsV at a0 a1
    rw [List.getD_eq_getElem?_getD, hf.1] at a0
    rw [List.getD_eq_getElem?_getD, hf.2] at a1
    exact ⟨a0, a1⟩
  have hG := hI (2 * qs.length)
  have hGe : (rowsV qs (.slice AG nG cG)).getD (2 * qs.length) (.slice none 0 0) = .slice AG nG cG := by
    have h := rowsV_length qs (.slice AG nG cG)
    unfold rowsV at h ⊢
    rw [List.length_append, List.length_singleton] at h
    rw [List.getD_eq_getElem?_getD, List.getElem?_append_right (by omega), show 2 * qs.length - (qs.flatMap fun p => [p.1, p.2]).length = 0 by omega]
    rfl
  rw [hGe] at hG
  obtain ⟨g1, g2, g3⟩ := Kd.R_reads' hG
  obtain ⟨AX, cX, rfl⟩ := Kd.R_slice hn
  obtain ⟨_, n2, n3⟩ := Kd.R_reads' hn
  have hGG : (canonF S).G = (stC S).2 (2 * qs.length) := by rw [hq]; rfl
  have hTC := C_zip (d := k124) (T := (canonF S).T) rfl (by rw [hlen]) h3 (fun i p t hp ht => k124_iv (by
    have hil := (List.getElem?_eq_some_iff.1 hp).1
    have ht' : t = ⟨(stC S).2 (2 * i), (stC S).2 (2 * i + 1)⟩ := by
      have ht2 : ((List.range S.T.length).map (fun i => (⟨(stC S).2 (2 * i), (stC S).2 (2 * i + 1)⟩ : S124)))[i]? = some t := ht
      rw [List.getElem?_map, List.getElem?_range (by omega)] at ht2
      exact (Option.some.inj ht2).symm
    rw [ht']
    exact R_iv (hat i p hp).1) (by
    have hil := (List.getElem?_eq_some_iff.1 hp).1
    have ht' : t = ⟨(stC S).2 (2 * i), (stC S).2 (2 * i + 1)⟩ := by
      have ht2 : ((List.range S.T.length).map (fun i => (⟨(stC S).2 (2 * i), (stC S).2 (2 * i + 1)⟩ : S124)))[i]? = some t := ht
      rw [List.getElem?_map, List.getElem?_range (by omega)] at ht2
      exact (Option.some.inj ht2).symm
    rw [ht']
    exact R_iv (hat i p hp).2))
  have hNC := C_zip (d := k127) (T := (canonF S).N) rfl hE.1 n3 (fun i p t hp ht => k127_iv (R_iv (hE.2 i p t hp ht).1) (R_iv (hE.2 i p t hp ht).2))
  have hNl : (canonF S).N.length = ns.length := hE.1.symm
  refine ⟨AT, cT, AG, cG, AX, cX, ?_, by rw [hlen]; exact h2, hTC, by rw [hGG, ← g1]; exact g2, ?_, by rw [hNl]; exact n2, hNC⟩
  · rw [hlen, hGG, ← g1, hNl]
  · rw [hGG]
    exact g3
end Go.Proofs.Ytgojfecpknonlaa.Im

