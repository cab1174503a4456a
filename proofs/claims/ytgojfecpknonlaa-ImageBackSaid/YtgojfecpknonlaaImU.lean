/- A shape's bytes: plain parts of image.Put (function 37). -/
import Derived.Test.YtgojfecpknonlaaImT
namespace Go.Proofs.Ytgojfecpknonlaa.Im
open Go.RowKit Go.Proofs.YtgojfecpknonlaaW.PrintWords Go.Proofs.YtgojfecpknonlaaW.PrintLast Go.Proofs.YtgojfecpknonlaaW.PrintMore
open Go.Proofs.Ytgojfecpknonlaa.Own Go.Proofs.Ytgojfecpknonlaa.PIm Go.Proofs.Ytgojfecpknonlaa.Wv
set_option linter.unusedVariables false
set_option linter.unusedSimpArgs false

/-- References of a shape go to its nodes. -/
structure Refs (S : Sh) (n : Nat) : Prop where
  t : ∀ t ∈ S.T, (∀ x ∈ t.f0, 0 ≤ x ∧ x ≤ n) ∧ ∀ x ∈ t.f1, 0 ≤ x ∧ x ≤ n
  g : ∀ x ∈ S.G, 0 ≤ x ∧ x ≤ n
  n : ∀ t ∈ S.N, ∀ x ∈ t.f0, 0 ≤ x ∧ x ≤ n
theorem nodesF_ok {N : List S127} : ∀ (f i : Nat) (nm : List Int) (acc : List S127), NmOk N.length nm → (∀ t ∈ acc, ∀ x ∈ t.f0, 0 ≤ x ∧ x ≤ N.length) → ∀ t ∈ (nodesF N f i nm acc).2, ∀ x ∈ t.f0, 0 ≤ x ∧ x ≤ N.length
  | 0, i, nm, acc, hn, ha => ha
  | f + 1, i, nm, acc, hn, ha => by
    unfold nodesF
    split
    · have hn2 := numL_ok hn (inF_val N.length (N.getD ((nm.getD i 0).toNat - 1) z127').f0)
      refine nodesF_ok f (i + 1) _ _ hn2 ?_
      intro t ht x hx
      rcases List.mem_append.1 ht with ht | ht
      · exact ha t ht x hx
      · obtain rfl := List.mem_singleton.1 ht
        have h4 := numL_in _ _ x hx
        have h5 := hn2.len
        omega
    · exact ha
theorem stC_ok (S : Sh) : NmOk S.N.length (stC S).1 ∧ ∀ j, ∀ x ∈ (stC S).2 j, 0 ≤ x ∧ x ≤ S.N.length := stR_ok (contC_val S) _ _ rfl
theorem canon_refs (S : Sh) : Refs (canonF S) S.N.length := by
  have h := stC_ok S
  refine ⟨fun t ht => ?_, fun x hx => h.2 _ x hx, fun t ht x hx => nodesF_ok _ _ _ _ h.1 (fun t ht => by cases ht) t ht x hx⟩
  obtain ⟨i, _, rfl⟩ := List.mem_map.1 ht
  exact ⟨fun x hx => h.2 _ x hx, fun x hx => h.2 _ x hx⟩
theorem may_canon {S : Sh} (h : mayF S = true) : S = canonF S := by
  unfold mayF at h
  simp only [Bool.and_eq_true] at h
  exact sameB_eq h.1.1.1.2
theorem may_refs {S : Sh} (h : mayF S = true) : Refs S S.N.length := by
  have h1 := canon_refs S
  rwa [← may_canon h] at h1
structure MayT (S : Sh) : Prop where
  T1 : 1 ≤ S.T.length
  T : S.T.length ≤ 64
  G : S.G.length ≤ 8
  s1 : 1 ≤ slotsF S
  s : slotsF S ≤ 8
  t : ∀ t ∈ S.T, t.f0.length = slotsF S ∧ t.f1.length ≤ 16
  n : ∀ t ∈ S.N, t.f0.length + t.f1.length ≤ 95
theorem may_T {S : Sh} (h : mayF S = true) : MayT S := by
  unfold mayF at h
  simp only [Bool.and_eq_true, decide_eq_true_eq, Bool.not_eq_true', List.any_eq_false] at h
  obtain ⟨⟨⟨⟨h1, h2⟩, h3⟩, h4⟩, h5⟩ := h
  refine ⟨h1.1, h1.2.1, h1.2.2, h3.1, h3.2, fun t ht => ?_, fun t ht => ?_⟩
  · have := h4 t ht
    unfold badB at this
    simp only [Bool.or_eq_true, decide_eq_true_eq] at this
    omega
  · have := h5 t ht
    unfold greatB at this
    simp only [decide_eq_true_eq] at this
    omega
def db (l : List Int) : List Int := l.flatMap (be 8)
def tb (t : S124) : List Int := rb t.f0 ++ (be 1 t.f1.length ++ rb t.f1)
def nb (t : S127) : List Int := be 1 t.f0.length ++ (be 1 t.f1.length ++ (rb t.f0 ++ db t.f1))
def magicB : List Int := [68, 77, 83, 72]
def frontB (S : Sh) : List Int := magicB ++ be 1 S.T.length ++ be 1 (slotsF S)
def midB (S : Sh) : List Int := be 1 S.G.length ++ (rb S.G ++ be 2 S.N.length)
def headB (S : Sh) : List Int := frontB S ++ S.T.flatMap tb ++ midB S ++ S.N.flatMap nb
def putB (S : Sh) : List Int := headB S ++ be 2 ((headB S).sum % 65536)
def putV (S : Sh) : Value × Int := if mayF S = false then (.string ⟨#[]⟩, 2) else if 1000 < S.N.length then (.string ⟨#[]⟩, 8) else (.string (strOfNums (putB S)), 0)
theorem db_snoc (l : List Int) (x : Int) : db (l ++ [x]) = db l ++ be 8 x := by
  unfold db
  rw [List.flatMap_append]
  simp
theorem db_length (l : List Int) : (db l).length = 8 * l.length := by
  induction l with
  | nil => rfl
  | cons x l ih =>
    unfold db at ih ⊢
    rw [List.flatMap_cons, List.length_append, ih, be_length, List.length_cons]
    omega
theorem tb_length (t : S124) : (tb t).length = 2 * t.f0.length + 1 + 2 * t.f1.length := by
  unfold tb
  rw [List.length_append, List.length_append, rb_length, rb_length, be_length]
  omega
theorem nb_length (t : S127) : (nb t).length = 2 + 2 * t.f0.length + 8 * t.f1.length := by
  unfold nb
  rw [List.length_append, List.length_append, List.length_append, rb_length, db_length, be_length, be_length]
  omega
theorem flat_len {α : Type} {f : α → List Int} {m : Nat} : ∀ (l : List α), (∀ t ∈ l, (f t).length ≤ m) → (l.flatMap f).length ≤ m * l.length
  | [], _ => by simp
  | t :: l, h => by
    have h1 := h t List.mem_cons_self
    have h2 := flat_len l (fun u hu => h u (List.mem_cons_of_mem _ hu))
    rw [List.flatMap_cons, List.length_append, List.length_cons, Nat.mul_succ]
    omega
theorem flat_snoc {α : Type} (f : α → List Int) (l : List α) (i : Nat) (hi : i < l.length) : (l.take (i + 1)).flatMap f = (l.take i).flatMap f ++ f l[i] := by
  rw [List.take_succ_eq_append_getElem hi, List.flatMap_append]
  simp
theorem be_in : ∀ (n : Nat) (v : Int), Byt (be n v)
  | 0, v => fun x hx => by cases hx
  | n + 1, v => fun x hx => by
    rcases List.mem_append.1 hx with hx | hx
    · exact be_in n _ x hx
    · obtain rfl := List.mem_singleton.1 hx
      omega
theorem flat_in {α : Type} {f : α → List Int} (h : ∀ t, Byt (f t)) (l : List α) : Byt (l.flatMap f) := fun x hx => by
  obtain ⟨t, _, hx⟩ := List.mem_flatMap.1 hx
  exact h t x hx
theorem rb_in (l : List Int) : Byt (rb l) := flat_in (be_in 2) l
theorem db_in (l : List Int) : Byt (db l) := flat_in (be_in 8) l
theorem tb_in (t : S124) : Byt (tb t) := byt_append (rb_in _) (byt_append (be_in _ _) (rb_in _))
theorem nb_in (t : S127) : Byt (nb t) := byt_append (be_in _ _) (byt_append (be_in _ _) (byt_append (rb_in _) (db_in _)))
theorem magic_in : Byt magicB := by unfold Byt magicB; decide
theorem front_in (S : Sh) : Byt (frontB S) := byt_append (byt_append magic_in (be_in _ _)) (be_in _ _)
theorem mid_in (S : Sh) : Byt (midB S) := byt_append (be_in _ _) (byt_append (rb_in _) (be_in _ _))
theorem head_in (S : Sh) : Byt (headB S) := byt_append (byt_append (byt_append (front_in S) (flat_in tb_in _)) (mid_in S)) (flat_in nb_in _)
theorem put_in (S : Sh) : Byt (putB S) := byt_append (head_in S) (be_in _ _)
theorem front_len (S : Sh) : (frontB S).length = 6 := by
  unfold frontB
  rw [List.length_append, List.length_append, be_length, be_length]
  rfl
theorem tbs_len {l : List S124} (hl : l.length ≤ 64) (h : ∀ t ∈ l, t.f0.length ≤ 8 ∧ t.f1.length ≤ 16) : (l.flatMap tb).length ≤ 3136 := by
  have := flat_len (f := tb) (m := 49) l (fun t ht => by have := h t ht; rw [tb_length]; omega)
  omega
theorem mid_len {S : Sh} (h : S.G.length ≤ 8) : (midB S).length ≤ 19 := by
  unfold midB
  rw [List.length_append, List.length_append, be_length, be_length, rb_length]
  omega
theorem nbs_len {l : List S127} (hl : l.length ≤ 1000) (h : ∀ t ∈ l, t.f0.length + t.f1.length ≤ 95) : (l.flatMap nb).length ≤ 762000 := by
  have := flat_len (f := nb) (m := 762) l (fun t ht => by have := h t ht; rw [nb_length]; omega)
  omega
theorem head_len {S : Sh} (h : MayT S) (hN : S.N.length ≤ 1000) : (headB S).length ≤ 800000 := by
  unfold headB
  have h1 := front_len S
  have h2 := tbs_len h.T (fun t ht => by have := h.t t ht; have := h.s; omega)
  have h3 := mid_len h.G
  have h4 := nbs_len hN h.n
  rw [List.length_append, List.length_append, List.length_append]
  omega
section
variable {B g4 : Nat} {HL : List (Nat × Nat × List Value)} {w00 W : World} {xs : List Int} {vb : Value}
theorem PB.add {x : Nat × Nat × List Value} (h : PB B g4 HL w00 xs vb W) (hx : Holds W x.1 x.2.1 x.2.2) : PB B g4 (x :: HL) w00 xs vb W :=
  ⟨h.cell, h.row, fun y hy => by
    rcases List.mem_cons.1 hy with rfl | hy
    · exact hx
    · exact h.hs y hy, h.below, h.size⟩
theorem PB.drop {x : Nat × Nat × List Value} (h : PB B g4 (x :: HL) w00 xs vb W) : PB B g4 HL w00 xs vb W := ⟨h.cell, h.row, fun y hy => h.hs y (List.mem_cons_of_mem _ hy), h.below, h.size⟩
theorem PB.at {ys : List Int} (h : PB B g4 HL w00 xs vb W) (e : xs = ys) : PB B g4 HL w00 ys vb W := e ▸ h
end
end Go.Proofs.Ytgojfecpknonlaa.Im

