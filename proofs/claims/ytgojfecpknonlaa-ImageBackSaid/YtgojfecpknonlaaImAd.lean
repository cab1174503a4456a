/- What is put is taken, and what is taken is what was put: plain parts. -/
import Derived.Test.YtgojfecpknonlaaImAb
namespace Go.Proofs.Ytgojfecpknonlaa.Im
open Go.RowKit Go.Proofs.YtgojfecpknonlaaW.PrintWords Go.Proofs.YtgojfecpknonlaaW.PrintLast Go.Proofs.YtgojfecpknonlaaW.PrintMore
open Go.Proofs.Ytgojfecpknonlaa.Own Go.Proofs.Ytgojfecpknonlaa.PIm Go.Proofs.Ytgojfecpknonlaa.Wv
set_option linter.unusedVariables false
set_option linter.unusedSimpArgs false

theorem tk_some {n : Nat} {L : List Int} {p : Int × List Int} (h : tk n L = some p) : n ≤ L.length ∧ p = (ub (L.take n), L.drop n) := by
  unfold tk at h
  split at h
  · cases h
  · exact ⟨by omega, (Option.some.inj h).symm⟩
theorem rf_some {n : Nat} {L : List Int} {p : List Int × List Int} (h : rf n L = some p) : 2 * n ≤ L.length ∧ p = (refsL n L, L.drop (2 * n)) := by
  unfold rf at h
  split at h
  · cases h
  · exact ⟨by omega, (Option.some.inj h).symm⟩
theorem dl_some {n : Nat} {L : List Int} {p : List Int × List Int} (h : dl n L = some p) : 8 * n ≤ L.length ∧ p = (dataL n L, L.drop (8 * n)) := by
  unfold dl at h
  split at h
  · cases h
  · exact ⟨by omega, (Option.some.inj h).symm⟩
theorem be_ub : ∀ (n : Nat) (l : List Int), l.length = n → Byt l → be n (ub l) = l
  | 0, l, h, _ => by
    rw [List.length_eq_zero_iff.1 h]
    rfl
  | n + 1, l, h, hb => by
    obtain ⟨l', x, rfl⟩ : ∃ l' x, l = l' ++ [x] := by
      rcases List.eq_nil_or_concat l with h2 | ⟨l', x, h2⟩
      · subst h2; cases h
      · exact ⟨l', x, by rw [h2, List.concat_eq_append]⟩
    rw [List.length_append, List.length_singleton] at h
    have hx := hb x (by simp)
    have hl := be_ub n l' (by omega) (fun y hy => hb y (by simp [hy]))
    rw [ub_snoc]
    show be n ((256 * ub l' + x) / 256) ++ [(256 * ub l' + x) % 256] = _
    rw [show (256 * ub l' + x) / 256 = ub l' by omega, show (256 * ub l' + x) % 256 = x by omega, hl]
theorem ub_be : ∀ (n : Nat) (v : Int), 0 ≤ v → v < 256 ^ n → ub (be n v) = v
  | 0, v, h0, h1 => by
    have : (256 : Int) ^ 0 = 1 := rfl
    have e : v = 0 := by omega
    subst e
    rfl
  | n + 1, v, h0, h1 => by
    have e : (256 : Int) ^ (n + 1) = 256 ^ n * 256 := Int.pow_succ _ _
    have ih := ub_be n (v / 256) (by omega) (by omega)
    show ub (be n (v / 256) ++ [v % 256]) = v
    rw [ub_snoc, ih]
    omega
theorem take_app {l M : List Int} {n : Nat} (h : l.length = n) : (l ++ M).take n = l := by
  subst h
  simp
theorem drop_app {l M : List Int} {n : Nat} (h : l.length = n) : (l ++ M).drop n = M := by
  subst h
  simp
/-! There: what was put is taken. -/
theorem tk_be (n : Nat) (v : Int) (M : List Int) (h0 : 0 ≤ v) (h1 : v < 256 ^ n) : tk n (be n v ++ M) = some (v, M) := by
  rw [tk_ge (by rw [List.length_append, be_length]; omega), take_app (be_length n v), drop_app (be_length n v), ub_be n v h0 h1]
theorem refsL_rb : ∀ (l M : List Int), (∀ x ∈ l, 0 ≤ x ∧ x ≤ 65535) → refsL l.length (rb l ++ M) = l
  | [], M, _ => rfl
  | x :: l, M, h => by
    have hx := h x List.mem_cons_self
    have ih := refsL_rb l M (fun y hy => h y (List.mem_cons_of_mem _ hy))
    have e : rb (x :: l) = be 2 x ++ rb l := rfl
    have hp : (256 : Int) ^ 2 = 65536 := rfl
    unfold refsL at ih ⊢
    rw [List.length_cons, List.range_succ_eq_map, List.map_cons, List.map_map]
    refine congr (congrArg List.cons ?_) ?_
    · rw [Nat.mul_zero, List.drop_zero, e, List.append_assoc, take_app (be_length 2 x), ub_be 2 x hx.1 (by omega)]
    · refine Eq.trans (List.map_congr_left (fun i _ => ?_)) ih
      show ub ((List.drop (2 * (i + 1)) (rb (x :: l) ++ M)).take 2) = _
      rw [e, List.append_assoc, show 2 * (i + 1) = 2 + 2 * i by omega, ← List.drop_drop, drop_app (be_length 2 x)]
theorem dataL_db : ∀ (l M : List Int), (∀ x ∈ l, 0 ≤ x ∧ x < 256 ^ 8) → dataL l.length (db l ++ M) = l
  | [], M, _ => rfl
  | x :: l, M, h => by
    have hx := h x List.mem_cons_self
    have ih := dataL_db l M (fun y hy => h y (List.mem_cons_of_mem _ hy))
    have e : db (x :: l) = be 8 x ++ db l := rfl
    unfold dataL at ih ⊢
    rw [List.length_cons, List.range_succ_eq_map, List.map_cons, List.map_map]
    refine congr (congrArg List.cons ?_) ?_
    · rw [Nat.mul_zero, List.drop_zero, e, List.append_assoc, take_app (be_length 8 x), ub_be 8 x hx.1 hx.2]
    · refine Eq.trans (List.map_congr_left (fun i _ => ?_)) ih
      show ub ((List.drop (8 * (i + 1)) (db (x :: l) ++ M)).take 8) = _
      rw [e, List.append_assoc, show 8 * (i + 1) = 8 + 8 * i by omega, ← List.drop_drop, drop_app (be_length 8 x)]
theorem rf_rb (l M : List Int) (h : ∀ x ∈ l, 0 ≤ x ∧ x ≤ 65535) : rf l.length (rb l ++ M) = some (l, M) := by
  rw [rf_ge (by rw [List.length_append, rb_length]; omega), refsL_rb l M h, drop_app (rb_length l)]
theorem dl_db (l M : List Int) (h : ∀ x ∈ l, 0 ≤ x ∧ x < 256 ^ 8) : dl l.length (db l ++ M) = some (l, M) := by
  rw [dl_ge (by rw [List.length_append, db_length]; omega), dataL_db l M h, drop_app (db_length l)]
theorem p1 : (256 : Int) ^ 1 = 256 := rfl
theorem p2 : (256 : Int) ^ 2 = 65536 := rfl
theorem dT_tb (t : S124) (M : List Int) (h0 : ∀ x ∈ t.f0, 0 ≤ x ∧ x ≤ 65535) (h1 : ∀ x ∈ t.f1, 0 ≤ x ∧ x ≤ 65535) (hl : t.f1.length ≤ 255) : dT t.f0.length (tb t ++ M) = some (t, M) := by
  have hp := p1
  unfold dT tb
  rw [List.append_assoc, rf_rb _ _ h0]
  simp only [Option.bind_some, Option.map_some]
  rw [List.append_assoc, tk_be 1 _ _ (by omega) (by omega)]
  simp only [Option.bind_some, Option.map_some]
  rw [Int.toNat_natCast, rf_rb _ _ h1]
  rfl
theorem dN_nb (t : S127) (M : List Int) (h0 : ∀ x ∈ t.f0, 0 ≤ x ∧ x ≤ 65535) (h1 : ∀ x ∈ t.f1, 0 ≤ x ∧ x < 256 ^ 8) (hl : t.f0.length ≤ 255) (hl1 : t.f1.length ≤ 255) : dN (nb t ++ M) = some (t, M) := by
  have hp := p1
  unfold dN nb
  rw [List.append_assoc, tk_be 1 _ _ (by omega) (by omega)]
  simp only [Option.bind_some, Option.map_some]
  rw [List.append_assoc, tk_be 1 _ _ (by omega) (by omega)]
  simp only [Option.bind_some, Option.map_some]
  rw [Int.toNat_natCast, List.append_assoc, rf_rb _ _ h0]
  simp only [Option.bind_some, Option.map_some]
  rw [Int.toNat_natCast, dl_db _ _ h1]
  rfl
theorem itN_cons {α : Type} {f : List Int → Option (α × List Int)} {L M : List Int} {x : α} (h : f L = some (x, M)) : ∀ (n : Nat), itN f (n + 1) L = (itN f n M).map fun p => (x :: p.1, p.2)
  | 0 => by
    show (f L).map _ = _
    rw [h]
    rfl
  | n + 1 => by
    unfold itN
    rw [itN_cons h n]
    cases hi : itN f n M with
    | none => rfl
    | some p =>
      show ((f p.2).map _ : Option _) = ((f p.2).map _).map _
      cases hf : f p.2 <;> simp
theorem itN_flat {α : Type} {f : List Int → Option (α × List Int)} {enc : α → List Int} : ∀ (xs : List α) (M : List Int), (∀ x ∈ xs, ∀ M', f (enc x ++ M') = some (x, M')) → itN f xs.length (xs.flatMap enc ++ M) = some (xs, M)
  | [], M, _ => rfl
  | x :: xs, M, h => by
    rw [List.flatMap_cons, List.append_assoc, List.length_cons, itN_cons (h x List.mem_cons_self _), itN_flat xs M (fun y hy => h y (List.mem_cons_of_mem _ hy))]
    rfl
structure Fits (S : Sh) : Prop where
  T : S.T.length ≤ 255
  G : S.G.length ≤ 255
  N : S.N.length ≤ 1000
  t : ∀ t ∈ S.T, t.f0.length = slotsF S ∧ t.f1.length ≤ 255 ∧ (∀ x ∈ t.f0, 0 ≤ x ∧ x ≤ 65535) ∧ ∀ x ∈ t.f1, 0 ≤ x ∧ x ≤ 65535
  g : ∀ x ∈ S.G, 0 ≤ x ∧ x ≤ 65535
  n : ∀ t ∈ S.N, t.f0.length ≤ 255 ∧ t.f1.length ≤ 255 ∧ (∀ x ∈ t.f0, 0 ≤ x ∧ x ≤ 65535) ∧ ∀ x ∈ t.f1, 0 ≤ x ∧ x < 256 ^ 8
  s : slotsF S ≤ 255
theorem dec_enc {S : Sh} (h : Fits S) : decF (headB S) = some S := by
  have hp := p1
  have hp2 := p2
  have ha : headB S = magicB ++ (be 1 S.T.length ++ (be 1 (slotsF S) ++ (S.T.flatMap tb ++ (be 1 S.G.length ++ (rb S.G ++ (be 2 S.N.length ++ (S.N.flatMap nb ++ []))))))) := by
    unfold headB frontB midB
    simp only [List.append_assoc, List.append_nil]
  unfold decF
  rw [ha, take_app (n := 4) (l := magicB) rfl, if_pos rfl, drop_app (n := 4) (l := magicB) rfl]
  unfold dHd
  rw [tk_be 1 _ _ (by omega) (by have := h.T; omega)]
  simp only [Option.bind_some, Option.map_some]
  rw [tk_be 1 _ _ (by omega) (by have := h.s; omega)]
  simp only [Option.bind_some, Option.map_some]
  rw [Int.toNat_natCast, Int.toNat_natCast]
  unfold dTs
  rw [itN_flat (enc := tb) S.T _ (fun t ht M' => by
    obtain ⟨e, e1, e2, e3⟩ := h.t t ht
    rw [← e]
    exact dT_tb t M' e2 e3 e1)]
  simp only [Option.bind_some, Option.map_some]
  unfold dG
  rw [tk_be 1 _ _ (by omega) (by have := h.G; omega)]
  simp only [Option.bind_some, Option.map_some]
  rw [Int.toNat_natCast, rf_rb _ _ h.g]
  simp only [Option.bind_some, Option.map_some]
  rw [tk_be 2 _ _ (by omega) (by have := h.N; omega)]
  simp only [Option.bind_some, Option.map_some]
  rw [Int.toNat_natCast]
  unfold dNs
  rw [itN_flat (enc := nb) S.N _ (fun t ht M' => by
    obtain ⟨e, e1, e2, e3⟩ := h.n t ht
    exact dN_nb t M' e2 e3 e e1)]
  simp only [Option.bind_some, Option.map_some]
  unfold dEnd
  rw [if_pos ⟨rfl, h.N⟩]
/-! Back: what is taken is what was put. -/
theorem tk_back {n : Nat} {L : List Int} {p : Int × List Int} (hB : Byt L) (h : tk n L = some p) : L = be n p.1 ++ p.2 ∧ Byt p.2 ∧ 0 ≤ p.1 ∧ p.1 < 256 ^ n := by
  obtain ⟨h1, rfl⟩ := tk_some h
  have hl : (L.take n).length = n := by rw [List.length_take]; omega
  have hu := ub_in (byt_take hB n)
  rw [hl] at hu
  refine ⟨?_, byt_drop hB n, hu⟩
  rw [be_ub n _ hl (byt_take hB n), List.take_append_drop]
theorem rb_refsL : ∀ (n : Nat) (L : List Int), Byt L → 2 * n ≤ L.length → rb (refsL n L) = L.take (2 * n)
  | 0, L, _, _ => rfl
  | n + 1, L, hB, h => by
    have ih := rb_refsL n L hB (by omega)
    have hl : ((L.drop (2 * n)).take 2).length = 2 := by rw [List.length_take, List.length_drop]; omega
    rw [refsL_succ, rb_snoc, ih, be_ub 2 _ hl (byt_take (byt_drop hB _) 2), show 2 * (n + 1) = 2 * n + 2 by omega, List.take_add]
theorem db_dataL : ∀ (n : Nat) (L : List Int), Byt L → 8 * n ≤ L.length → db (dataL n L) = L.take (8 * n)
  | 0, L, _, _ => rfl
  | n + 1, L, hB, h => by
    have ih := db_dataL n L hB (by omega)
    have hl : ((L.drop (8 * n)).take 8).length = 8 := by rw [List.length_take, List.length_drop]; omega
    rw [dataL_succ, db_snoc, ih, be_ub 8 _ hl (byt_take (byt_drop hB _) 8), show 8 * (n + 1) = 8 * n + 8 by omega, List.take_add]
theorem rf_back {n : Nat} {L : List Int} {p : List Int × List Int} (hB : Byt L) (h : rf n L = some p) : L = rb p.1 ++ p.2 ∧ Byt p.2 ∧ p.1.length = n := by
  obtain ⟨h1, rfl⟩ := rf_some h
  exact ⟨by rw [rb_refsL n L hB h1, List.take_append_drop], byt_drop hB _, refsL_length n L⟩
theorem dl_back {n : Nat} {L : List Int} {p : List Int × List Int} (hB : Byt L) (h : dl n L = some p) : L = db p.1 ++ p.2 ∧ Byt p.2 ∧ p.1.length = n := by
  obtain ⟨h1, rfl⟩ := dl_some h
  exact ⟨by rw [db_dataL n L hB h1, List.take_append_drop], byt_drop hB _, dataL_length n L⟩
theorem dT_back {s : Nat} {L : List Int} {p : S124 × List Int} (hB : Byt L) (h : dT s L = some p) : L = tb p.1 ++ p.2 ∧ Byt p.2 ∧ p.1.f0.length = s ∧ p.1.f1.length ≤ 255 := by
  unfold dT at h
  obtain ⟨q, hq, h⟩ := Option.bind_eq_some_iff.1 h
  obtain ⟨r, hr, h⟩ := Option.bind_eq_some_iff.1 h
  obtain ⟨u, hu, h⟩ := Option.map_eq_some_iff.1 h
  obtain ⟨a1, a2, a3⟩ := rf_back hB hq
  obtain ⟨b1, b2, b3, b4⟩ := tk_back a2 hr
  obtain ⟨c1, c2, c3⟩ := rf_back b2 hu
  have hp := p1
  subst h
  refine ⟨?_, c2, a3, by show u.1.length ≤ 255; omega⟩
  show L = tb ⟨q.1, u.1⟩ ++ u.2
  unfold tb
  rw [a1, b1, c1]
  show _ = (rb q.1 ++ (be 1 (u.1.length : Int) ++ rb u.1)) ++ u.2
  rw [c3, show ((r.1.toNat : Nat) : Int) = r.1 by omega]
  simp only [List.append_assoc]
theorem dN_back {L : List Int} {p : S127 × List Int} (hB : Byt L) (h : dN L = some p) : L = nb p.1 ++ p.2 ∧ Byt p.2 ∧ p.1.f0.length ≤ 255 ∧ p.1.f1.length ≤ 255 := by
  unfold dN at h
  obtain ⟨q, hq, h⟩ := Option.bind_eq_some_iff.1 h
  obtain ⟨r, hr, h⟩ := Option.bind_eq_some_iff.1 h
  obtain ⟨u, hu, h⟩ := Option.bind_eq_some_iff.1 h
  obtain ⟨v, hv, h⟩ := Option.map_eq_some_iff.1 h
  obtain ⟨a1, a2, a3, a4⟩ := tk_back hB hq
  obtain ⟨b1, b2, b3, b4⟩ := tk_back a2 hr
  obtain ⟨c1, c2, c3⟩ := rf_back b2 hu
  obtain ⟨d1, d2, d3⟩ := dl_back c2 hv
  have hp := p1
  subst h
  refine ⟨?_, d2, by show u.1.length ≤ 255; omega, by show v.1.length ≤ 255; omega⟩
  show L = nb ⟨u.1, v.1⟩ ++ v.2
  unfold nb
  rw [a1, b1, c1, d1]
  show _ = (be 1 (u.1.length : Int) ++ (be 1 (v.1.length : Int) ++ (rb u.1 ++ db v.1))) ++ v.2
  rw [c3, d3, show ((q.1.toNat : Nat) : Int) = q.1 by omega, show ((r.1.toNat : Nat) : Int) = r.1 by omega]
  simp only [List.append_assoc]
theorem itN_back {α : Type} {f : List Int → Option (α × List Int)} {enc : α → List Int} {P : α → Prop} (hf : ∀ L p, Byt L → f L = some p → L = enc p.1 ++ p.2 ∧ Byt p.2 ∧ P p.1) : ∀ (n : Nat) (L : List Int) (p : List α × List Int), Byt L → itN f n L = some p → L = p.1.flatMap enc ++ p.2 ∧ Byt p.2 ∧ p.1.length = n ∧ ∀ x ∈ p.1, P x
  | 0, L, p, hB, h => by
    obtain rfl := Option.some.inj h
    exact ⟨rfl, hB, rfl, fun x hx => by cases hx⟩
  | n + 1, L, p, hB, h => by
    unfold itN at h
    obtain ⟨q, hq, h⟩ := Option.bind_eq_some_iff.1 h
    obtain ⟨r, hr, h⟩ := Option.map_eq_some_iff.1 h
    obtain ⟨a1, a2, a3, a4⟩ := itN_back hf n L q hB hq
    obtain ⟨b1, b2, b3⟩ := hf q.2 r a2 hr
    subst h
    refine ⟨?_, b2, by show (q.1 ++ [r.1]).length = n + 1; rw [List.length_append, a3]; rfl, fun x hx => ?_⟩
    · show L = (q.1 ++ [r.1]).flatMap enc ++ r.2
      rw [a1, b1, List.flatMap_append]
      simp
    · rcases List.mem_append.1 hx with hx | hx
      · exact a4 x hx
      · obtain rfl := List.mem_singleton.1 hx
        exact b3
theorem dec_back {L : List Int} {S : Sh} (hB : Byt L) (h : decF L = some S) : Mid S ∧ S.N.length ≤ 1000 ∧ (1 ≤ S.T.length → headB S = L) := by
  unfold decF at h
  split at h
  · rename_i hm
    have hL : L = magicB ++ L.drop 4 := by rw [← hm, List.take_append_drop]
    unfold dHd at h
    obtain ⟨p, hp, h⟩ := Option.bind_eq_some_iff.1 h
    obtain ⟨q, hq, h⟩ := Option.bind_eq_some_iff.1 h
    obtain ⟨a1, a2, a3, a4⟩ := tk_back (byt_drop hB 4) hp
    obtain ⟨b1, b2, b3, b4⟩ := tk_back a2 hq
    unfold dTs at h
    obtain ⟨T, hT, h⟩ := Option.bind_eq_some_iff.1 h
    obtain ⟨c1, c2, c3, c4⟩ := itN_back (enc := tb) (P := fun t => t.f0.length = q.1.toNat ∧ t.f1.length ≤ 255) (fun L p hb hd => dT_back hb hd) _ _ _ b2 hT
    unfold dG at h
    obtain ⟨g, hg, h⟩ := Option.bind_eq_some_iff.1 h
    obtain ⟨G, hG, h⟩ := Option.bind_eq_some_iff.1 h
    obtain ⟨r, hr, h⟩ := Option.bind_eq_some_iff.1 h
    obtain ⟨d1, d2, d3, d4⟩ := tk_back c2 hg
    obtain ⟨e1, e2, e3⟩ := rf_back d2 hG
    obtain ⟨f1, f2, f3, f4⟩ := tk_back e2 hr
    unfold dNs at h
    obtain ⟨N, hN, h⟩ := Option.bind_eq_some_iff.1 h
    obtain ⟨g1, g2, g3, g4⟩ := itN_back (enc := nb) (P := fun t => t.f0.length ≤ 255 ∧ t.f1.length ≤ 255) (fun L p hb hd => dN_back hb hd) _ _ _ f2 hN
    unfold dEnd at h
    split at h
    · rename_i he
      obtain rfl := Option.some.inj h
      have hp1 := p1
      have hp2 := p2
      refine ⟨⟨by show T.1.length ≤ 300; omega, fun t ht => by have := c4 t ht; omega, by show G.1.length ≤ 1000; omega, by show N.1.length ≤ 100000; have := he.2; omega, fun t ht => by have := g4 t ht; omega⟩, he.2, fun h1 => ?_⟩
      have hs : slotsF ⟨T.1, G.1, N.1⟩ = q.1.toNat := by
        unfold slotsF
        show (T.1.getD 0 ⟨[], []⟩).f0.length = _
        rw [List.getD_eq_getElem?_getD, List.getElem?_eq_getElem (show 0 < T.1.length from h1)]
        exact (c4 _ (List.getElem_mem _)).1
      unfold headB frontB midB
      rw [hs]
      show magicB ++ be 1 (T.1.length : Int) ++ be 1 (q.1.toNat : Int) ++ T.1.flatMap tb ++ (be 1 (G.1.length : Int) ++ (rb G.1 ++ be 2 (N.1.length : Int))) ++ N.1.flatMap nb = L
      rw [hL, a1, b1, c1, d1, e1, f1, g1, he.1, c3, e3, g3, show ((p.1.toNat : Nat) : Int) = p.1 by omega, show ((q.1.toNat : Nat) : Int) = q.1 by omega, show ((g.1.toNat : Nat) : Int) = g.1 by omega, show ((r.1.toNat : Nat) : Int) = r.1 by omega]
      simp only [List.append_assoc, List.append_nil]
    · cases h
  · cases h
end Go.Proofs.Ytgojfecpknonlaa.Im

