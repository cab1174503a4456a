/- The walk of the law StatsSum, whole: true at every input. -/
import Derived.Test.YtgojfecpknonlaaStT
namespace Go.Proofs.Ytgojfecpknonlaa.St
open Go.RowKit Go.Proofs.YtgojfecpknonlaaW.PrintWords Go.Proofs.YtgojfecpknonlaaW.PrintLast Go.Proofs.YtgojfecpknonlaaW.PrintMore
open Go.Proofs.Ytgojfecpknonlaa.Own Go.Proofs.Ytgojfecpknonlaa.PSt
set_option linter.unusedVariables false
set_option linter.unusedSimpArgs false

theorem ok_of {d : S72} (h : bad d = false) (hw : Wf (un72 d)) : Ok d := by
  have h1 := may_do h hw
  have h2 := may_span (d := un72 d) (by simpa [bad] using h)
  simp only [un72] at h2
  refine ⟨h1.2, ?_, ?_, h2.1.1, h2.1.2⟩
  · show 0 ≤ mx 0 (wrap64 (wrap64 (d.f5 - d.f3) + 1))
    unfold mx
    split <;> omega
  · show mx 0 (wrap64 (wrap64 (d.f5 - d.f3) + 1)) ≤ _
    rw [wrap_in (i := d.f5 - d.f3) (by omega) (by omega), wrap_in (by omega) (by omega)]
    unfold mx
    split <;> omega
theorem wf_map {l : List S58} (h : ∀ d ∈ l, Wf d) : ∀ d ∈ l.map re58, Wf (un72 d) := by
  intro d hd
  obtain ⟨x, hx, rfl⟩ := List.mem_map.1 hd
  exact h x hx
theorem ok_all {L : List S72} (h : L.any bad = false) (hw : ∀ d ∈ L, Wf (un72 d)) : ∀ d ∈ L, Ok d := by
  intro d hd
  rw [List.any_eq_false] at h
  exact ok_of (by simpa using h d hd) (hw d hd)
theorem len_z : zero48.length = 338 := len48
theorem ofis_bad (L : List S72) (hw : ∀ d ∈ L, Wf (un72 d)) (hl : L.length ≤ 1000) (h : L.any bad = true) : OfIs L zero48 2 := by
  intro A c W hr hc
  exact of_bad L hw A c W hr hc (by omega) h
theorem ofis_good (L : List S72) (hw : ∀ d ∈ L, Wf (un72 d)) (hl : L.length ≤ 1000) (h : L.any bad = false) : OfIs L (scells (tsOf L) (bsOf L) (pk L : Nat)) 0 := by
  intro A c W hr hc
  obtain ⟨kp, hp⟩ := peak_is L (by omega)
  exact of_good L hw A c W hr hc (by omega) h kp _ hp
theorem len_s (L : List S72) (p : Int) : (scells (tsOf L) (bsOf L) p).length = 338 := by rw [scells_length, tsOf_length, bsOf_length]

set_option maxHeartbeats 4000000 in
set_option maxRecDepth 100000 in
theorem sum_walk (l m : List S58) (hl : ∀ d ∈ l, Wf d) (hm : ∀ d ∈ m, Wf d) (A0 A1 : Option Addr) (c0 c1 : Nat) (w : World) (hr0 : Kd.C k58 w A0 l.length l) (hc0 : l.length ≤ c0) (hr1 : Kd.C k58 w A1 m.length m) (hc1 : m.length ≤ c1) :
    Calls Try.prog 7 #[.slice A0 l.length c0, .slice A1 m.length c1] w fun e w' => e = .returned (.bool true) ∧ Below w.heap.size w w' := by
  by_cases h60 : 60 < l.length
  · have t1 : decide ((60 : Int) < (l.length : Int)) = true := decide_eq_true (by omega)
    have t2 : decide (60 < l.length) = true := decide_eq_true h60
    clear h60 hl hm hr0 hr1 hc0 hc1
    go_enter Try.func7, Try.ntmps7
    go_wp2_with (go_at_call 20; refine (wakes_calls _).mono ?_; rintro e w1 ⟨rfl, hb1⟩)
    go_ret
    exact ⟨rfl, hb1⟩
  · by_cases g60 : 60 < m.length
    · have t1 : decide ((60 : Int) < (l.length : Int)) = false := decide_eq_false (by omega)
      have t2 : decide (60 < l.length) = false := decide_eq_false h60
      have t3 : decide ((60 : Int) < (m.length : Int)) = true := decide_eq_true (by omega)
      have t4 : decide (60 < m.length) = true := decide_eq_true g60
      clear h60 g60 hl hm hr0 hr1 hc0 hc1
      go_enter Try.func7, Try.ntmps7
      go_wp2_with (go_at_call 20; refine (wakes_calls _).mono ?_; rintro e w1 ⟨rfl, hb1⟩)
      go_ret
      exact ⟨rfl, hb1⟩
    · have hl60 : l.length ≤ 60 := by omega
      have hm60 : m.length ≤ 60 := by omega
      have hL60 : (l.map re58).length ≤ 60 := by rw [List.length_map]; exact hl60
      have hM60 : (m.map re58).length ≤ 60 := by rw [List.length_map]; exact hm60
      have hX : (l.map re58 ++ m.map re58).length ≤ 120 := by rw [List.length_append]; omega
      have wL := wf_map hl
      have wM := wf_map hm
      have wX : ∀ d ∈ l.map re58 ++ m.map re58, Wf (un72 d) := fun d hd => by
        rcases List.mem_append.1 hd with h | h
        · exact wL d h
        · exact wM d h
      have kL := of36_is l (by omega)
      have kM := of36_is m (by omega)
      cases bL : (l.map re58).any bad with
      | true =>
        have bX : (l.map re58 ++ m.map re58).any bad = true := by rw [List.any_append, bL, Bool.true_or]
        cases bM : (m.map re58).any bad with
        | true => exact sum_bad1 2 l m _ _ _ rfl _ _ kL kM hl60 hm60 hL60 hM60 zero48 zero48 zero48 len_z len_z len_z one48 one48 one48 (ofis_bad _ wL (by omega) bL) (ofis_bad _ wM (by omega) bM) (ofis_bad _ wX (by omega) bX) A0 A1 c0 c1 w hr0 hc0 hr1 hc1
        | false => exact sum_bad1 0 l m _ _ _ rfl _ _ kL kM hl60 hm60 hL60 hM60 zero48 _ zero48 len_z (len_s _ _) len_z one48 (oneS _ _ _) one48 (ofis_bad _ wL (by omega) bL) (ofis_good _ wM (by omega) bM) (ofis_bad _ wX (by omega) bX) A0 A1 c0 c1 w hr0 hc0 hr1 hc1
      | false =>
        cases bM : (m.map re58).any bad with
        | true =>
          have bX : (l.map re58 ++ m.map re58).any bad = true := by rw [List.any_append, bM, Bool.or_true]
          exact sum_bad2 0 l m _ _ _ rfl _ _ kL kM hl60 hm60 hL60 hM60 _ zero48 zero48 (len_s _ _) len_z len_z (oneS _ _ _) one48 one48 (ofis_good _ wL (by omega) bL) (ofis_bad _ wM (by omega) bM) (ofis_bad _ wX (by omega) bX) A0 A1 c0 c1 w hr0 hc0 hr1 hc1
        | false =>
          have bX : (l.map re58 ++ m.map re58).any bad = false := by rw [List.any_append, bL, bM]; rfl
          have hS := sum_is _ _ (ok_all bL wL) (ok_all bM wM) hL60 hM60
          rw [show ((l.map re58).length : Int) = (l.length : Int) by rw [List.length_map], show ((m.map re58).length : Int) = (m.length : Int) by rw [List.length_map]] at hS
          exact sum_good 0 l m _ _ _ rfl _ _ kL kM hl60 hm60 hL60 hM60 _ _ _ (len_s _ _) (len_s _ _) (len_s _ _) (oneS _ _ _) (oneS _ _ _) (oneS _ _ _) (ofis_good _ wL (by omega) bL) (ofis_good _ wM (by omega) bM) (ofis_good _ wX (by omega) bX)
            _ _ _ _ _ _ _ _ _ _ _ _ _ _ ⟨hS⟩ ⟨rfl⟩ ⟨rfl⟩ ⟨rfl⟩ ⟨rfl⟩ A0 A1 c0 c1 w hr0 hc0 hr1 hc1
end Go.Proofs.Ytgojfecpknonlaa.St
