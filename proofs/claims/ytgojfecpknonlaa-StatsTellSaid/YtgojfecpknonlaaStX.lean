/- The walk of the law StatsTell, whole: true at every input. -/
import Derived.Test.YtgojfecpknonlaaStZ
namespace Go.Proofs.Ytgojfecpknonlaa.St
open Go.RowKit Go.Proofs.YtgojfecpknonlaaW.PrintWords Go.Proofs.YtgojfecpknonlaaW.PrintLast Go.Proofs.YtgojfecpknonlaaW.PrintMore
open Go.Proofs.Ytgojfecpknonlaa.Own Go.Proofs.Ytgojfecpknonlaa.PSt
set_option linter.unusedVariables false
set_option linter.unusedSimpArgs false

theorem wf_mapped {l : List S58} (h : ∀ d ∈ l, Wf d) : ∀ d ∈ l.map re58, Wf (un72 d) := by
  intro d hd
  obtain ⟨x, hx, rfl⟩ := List.mem_map.1 hd
  exact h x hx
theorem ofst_bad (L : List S72) (hw : ∀ d ∈ L, Wf (un72 d)) (hl : L.length ≤ 1000) (h : L.any bad = true) : OfSt L zero48 2 := by
  intro A c W hr hc
  exact of_bad L hw A c W hr hc (by omega) h
theorem ofst_good (L : List S72) (hw : ∀ d ∈ L, Wf (un72 d)) (hl : L.length ≤ 1000) (h : L.any bad = false) : OfSt L (scells (tsOf L) (bsOf L) (pk L : Nat)) 0 := by
  intro A c W hr hc
  obtain ⟨kp, hp⟩ := peak_is L (by omega)
  exact of_good L hw A c W hr hc (by omega) h kp _ hp

set_option maxHeartbeats 4000000 in
set_option maxRecDepth 100000 in
theorem tell_walk (l : List S58) (hl : ∀ d ∈ l, Wf d) (A0 : Option Addr) (c0 : Nat) (w : World) (hr0 : Kd.C k58 w A0 l.length l) (hc0 : l.length ≤ c0) :
    Calls Try.prog 5 #[.slice A0 l.length c0] w fun e w' => e = .returned (.bool true) ∧ Below w.heap.size w w' := by
  by_cases h60 : 60 < l.length
  · have t1 : decide ((60 : Int) < (l.length : Int)) = true := decide_eq_true (by omega)
    have t2 : decide (60 < l.length) = true := decide_eq_true h60
    clear h60 hl hr0 hc0
    go_enter Try.func5, Try.ntmps5
    go_wp2_with (go_at_call 20; refine (wakes_calls _).mono ?_; rintro e w1 ⟨rfl, hb1⟩)
    go_ret
    exact ⟨rfl, hb1⟩
  · have hl60 : l.length ≤ 60 := by omega
    have hL60 : (l.map re58).length ≤ 60 := by rw [List.length_map]; exact hl60
    have wL := wf_mapped hl
    have kL := of36_is l (by omega)
    obtain ⟨kp, hp⟩ := refPeak_is l (by omega)
    cases bL : (l.map re58).any bad with
    | true => exact tell_core l _ ⟨rfl⟩ _ kL hl hl60 zero48 2 _ len48 one48 (ofst_bad _ wL (by omega) bL) ⟨fun _ => ⟨rfl, rfl⟩⟩ ⟨fun h => by rw [bL] at h; cases h⟩ kp hp A0 c0 w hr0 hc0
    | false => exact tell_core l _ ⟨rfl⟩ _ kL hl hl60 _ 0 _ (by rw [scells_length, tsOf_length, bsOf_length]) (oneS _ _ _) (ofst_good _ wL (by omega) bL) ⟨fun h => by rw [bL] at h; cases h⟩ ⟨fun _ => ⟨rfl, rfl⟩⟩ kp hp A0 c0 w hr0 hc0
end Go.Proofs.Ytgojfecpknonlaa.St
