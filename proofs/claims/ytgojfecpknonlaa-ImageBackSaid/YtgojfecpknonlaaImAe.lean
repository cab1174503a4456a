/- Images there and back; and one that is changed is refused: plain laws. -/
import Derived.Test.YtgojfecpknonlaaImAd
namespace Go.Proofs.Ytgojfecpknonlaa.Im
open Go.RowKit Go.Proofs.YtgojfecpknonlaaW.PrintWords Go.Proofs.YtgojfecpknonlaaW.PrintLast Go.Proofs.YtgojfecpknonlaaW.PrintMore
open Go.Proofs.Ytgojfecpknonlaa.Own Go.Proofs.Ytgojfecpknonlaa.PIm Go.Proofs.Ytgojfecpknonlaa.Wv
set_option linter.unusedVariables false
set_option linter.unusedSimpArgs false

theorem fits_of {S : Sh} (hm : mayF S = true) (hN : S.N.length ≤ 1000) (hd : ∀ t ∈ S.N, ∀ x ∈ t.f1, 0 ≤ x ∧ x < 256 ^ 8) : Fits S := by
  have hT := may_T hm
  have hR := may_refs hm
  refine ⟨by have := hT.T; omega, by have := hT.G; omega, hN, fun t ht => ?_, fun x hx => by have := hR.g x hx; omega, fun t ht => ?_, by have := hT.s; omega⟩
  · obtain ⟨h1, h2⟩ := hT.t t ht
    obtain ⟨h3, h4⟩ := hR.t t ht
    exact ⟨h1, by omega, fun x hx => by have := h3 x hx; omega, fun x hx => by have := h4 x hx; omega⟩
  · have h1 := hT.n t ht
    exact ⟨by omega, by omega, fun x hx => by have := hR.n t ht x hx; omega, hd t ht⟩
/-- What image.Take says of bytes. -/
def takeF (L : List Int) : Option Sh × Int :=
  if L.length < 2 then (none, 3) else
  match decF (L.take (L.length - 2)) with
  | none => (none, 3)
  | some S => if ub (L.drop (L.length - 2)) ≠ (L.take (L.length - 2)).sum % 65536 then (none, 6) else if mayF S = true then (some S, 0) else (none, 3)
theorem put_length (S : Sh) : (putB S).length = (headB S).length + 2 := by
  unfold putB
  rw [List.length_append, be_length]
theorem sum_ub (S : Sh) : ub (be 2 ((headB S).sum % 65536)) = (headB S).sum % 65536 := by
  have hp := p2
  exact ub_be 2 _ (by omega) (by omega)
theorem take_put {S : Sh} (hm : mayF S = true) (hN : S.N.length ≤ 1000) (hd : ∀ t ∈ S.N, ∀ x ∈ t.f1, 0 ≤ x ∧ x < 256 ^ 8) : takeF (putB S) = (some S, 0) := by
  have hl := put_length S
  unfold takeF
  rw [if_neg (by omega), show (putB S).length - 2 = (headB S).length by omega]
  have h1 : (putB S).take (headB S).length = headB S := take_app rfl
  have h2 : (putB S).drop (headB S).length = be 2 ((headB S).sum % 65536) := drop_app rfl
  rw [h1, h2, dec_enc (fits_of hm hN hd)]
  show (if ub (be 2 ((headB S).sum % 65536)) ≠ (headB S).sum % 65536 then (none, 6) else if mayF S = true then (some S, 0) else (none, 3)) = (some S, (0 : Int))
  rw [if_neg (by rw [sum_ub]; simp), if_pos hm]
theorem takeF_ok {L : List Int} (h : (takeF L).2 = 0) : ∃ S, 2 ≤ L.length ∧ decF (L.take (L.length - 2)) = some S ∧ ub (L.drop (L.length - 2)) = (L.take (L.length - 2)).sum % 65536 ∧ mayF S = true ∧ takeF L = (some S, 0) := by
  unfold takeF at h ⊢
  split at h
  · cases h
  · rename_i h2
    rw [if_neg h2]
    cases hd : decF (L.take (L.length - 2)) with
    | none => rw [hd] at h; cases h
    | some S =>
      rw [hd] at h
      change (if ub (L.drop (L.length - 2)) ≠ (L.take (L.length - 2)).sum % 65536 then ((none : Option Sh), (6 : Int)) else if mayF S = true then (some S, 0) else (none, 3)).2 = 0 at h
      split at h
      · cases h
      · rename_i h3
        split at h
        · rename_i h4
          refine ⟨S, by omega, rfl, by simpa using h3, h4, ?_⟩
          show (if ub (L.drop (L.length - 2)) ≠ (L.take (L.length - 2)).sum % 65536 then ((none : Option Sh), (6 : Int)) else if mayF S = true then (some S, 0) else (none, 3)) = _
          rw [if_neg h3, if_pos h4]
        · cases h
theorem takeF_no {L : List Int} (h : (takeF L).2 ≠ 0) : (takeF L).1 = none := by
  unfold takeF at h ⊢
  split
  · rfl
  · rename_i h2
    rw [if_neg h2] at h
    cases hd : decF (L.take (L.length - 2)) with
    | none => rfl
    | some S =>
      rw [hd] at h
      change (if ub (L.drop (L.length - 2)) ≠ (L.take (L.length - 2)).sum % 65536 then ((none : Option Sh), (6 : Int)) else if mayF S = true then (some S, 0) else (none, 3)).2 ≠ 0 at h
      show (if ub (L.drop (L.length - 2)) ≠ (L.take (L.length - 2)).sum % 65536 then ((none : Option Sh), (6 : Int)) else if mayF S = true then (some S, 0) else (none, 3)).1 = none
      split
      · rfl
      · rename_i h3
        rw [if_neg h3] at h
        split
        · rename_i h4
          rw [if_pos h4] at h
          exact absurd rfl h
        · rfl
theorem put_take {L : List Int} {S : Sh} (hB : Byt L) (h : takeF L = (some S, 0)) : mayF S = true ∧ S.N.length ≤ 1000 ∧ Mid S ∧ putB S = L := by
  obtain ⟨S', h2, hd, hs, hm, he⟩ := takeF_ok (L := L) (by rw [h])
  rw [h] at he
  injection he with he _
  obtain rfl := Option.some.inj he
  obtain ⟨h3, h4, h5⟩ := dec_back (byt_take hB _) hd
  have h6 := h5 (may_T hm).T1
  refine ⟨hm, h4, h3, ?_⟩
  have hl : (L.drop (L.length - 2)).length = 2 := by rw [List.length_drop]; omega
  unfold putB
  rw [h6, ← hs, be_ub 2 _ hl (byt_drop hB _), List.take_append_drop]
theorem sum_set : ∀ (l : List Int) (p : Nat) (v : Int) (hp : p < l.length), (l.set p v).sum = l.sum - l[p] + v
  | [], p, v, hp => by cases hp
  | x :: l, 0, v, hp => by
    show (v :: l).sum = (x :: l).sum - x + v
    rw [List.sum_cons, List.sum_cons]
    omega
  | x :: l, p + 1, v, hp => by
    have ih := sum_set l p v (by simpa using hp)
    show (x :: l.set p v).sum = (x :: l).sum - l[p]'(by simpa using hp) + v
    rw [List.sum_cons, List.sum_cons, ih]
    omega
theorem byt_set {l : List Int} (h : Byt l) (p : Nat) {v : Int} (hv : 0 ≤ v ∧ v ≤ 255) : Byt (l.set p v) := fun x hx => by
  rcases List.mem_or_eq_of_mem_set hx with hx | rfl
  · exact h x hx
  · exact hv
theorem take_changed {S : Sh} {p : Nat} (hp : p < (putB S).length) {v : Int} (hv : 0 ≤ v ∧ v ≤ 255) (hne : v ≠ (putB S)[p]) : (takeF ((putB S).set p v)).2 ≠ 0 := by
  intro h0
  obtain ⟨S', h2, hd, hs, hm, he⟩ := takeF_ok h0
  have hl := put_length S
  rw [List.length_set, show (putB S).length - 2 = (headB S).length by omega] at hs
  have hb := put_in S p
  by_cases hpn : p < (headB S).length
  · have e : (putB S).set p v = (headB S).set p v ++ be 2 ((headB S).sum % 65536) := by
      unfold putB
      exact List.set_append_left _ _ hpn
    have e2 : (putB S)[p] = (headB S)[p] := by
      unfold putB
      exact List.getElem_append_left hpn
    rw [e, take_app (by rw [List.length_set]), drop_app (by rw [List.length_set]), sum_ub, sum_set _ _ _ hpn] at hs
    rw [e2] at hne
    have h1 := head_in S _ (List.getElem_mem hpn)
    omega
  · have e : (putB S).set p v = headB S ++ (be 2 ((headB S).sum % 65536)).set (p - (headB S).length) v := by
      unfold putB
      exact List.set_append_right _ _ (by omega)
    have hlt : p - (headB S).length < (be 2 ((headB S).sum % 65536)).length := by rw [be_length]; omega
    have e2 : (putB S)[p] = (be 2 ((headB S).sum % 65536))[p - (headB S).length] := by
      unfold putB
      exact List.getElem_append_right (by omega)
    rw [e, take_app rfl, drop_app rfl] at hs
    have h3 := be_ub 2 ((be 2 ((headB S).sum % 65536)).set (p - (headB S).length) v) (by rw [List.length_set, be_length]) (byt_set (be_in 2 _) _ hv)
    rw [hs] at h3
    apply hne
    rw [e2]
    have h4 := List.getElem_set_self (l := be 2 ((headB S).sum % 65536)) (i := p - (headB S).length) (a := v) (by rw [List.length_set]; exact hlt)
    rw [← h4]
    congr 1
    exact h3.symm
end Go.Proofs.Ytgojfecpknonlaa.Im

