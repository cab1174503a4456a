/- The stats of events that may not be: function 21, walked. -/
import Derived.Test.YtgojfecpknonlaaSt4
namespace Go.Proofs.Ytgojfecpknonlaa.St
open Go.RowKit Go.Proofs.YtgojfecpknonlaaW.PrintWords Go.Proofs.YtgojfecpknonlaaW.PrintLast Go.Proofs.YtgojfecpknonlaaW.PrintMore
open Go.Proofs.Ytgojfecpknonlaa.Own Go.Proofs.Ytgojfecpknonlaa.PSt
set_option linter.unusedVariables false
set_option linter.unusedSimpArgs false

set_option maxHeartbeats 8000000 in
set_option maxRecDepth 100000 in
theorem of_bad (l : List S72) (hl : ∀ d ∈ l, Wf (un72 d)) (A0 : Option Addr) (c0 : Nat) (w : World) (hr0 : Kd.C k72 w A0 l.length l) (hc0 : l.length ≤ c0) (hll : l.length < 4611686018427387904) (hb : l.any bad = true) :
    Calls Try.prog 21 #[.slice A0 l.length c0] w fun e w' => e = .returned (.tuple #[.agg zero48.toArray, .int .i64 2]) ∧ Below w.heap.size w w' := by
  have HR0 := Aside0.mk hr0
  have HL := Aside0.mk hl
  have HC0 := Aside0.mk hc0
  clear hr0 hc0 hl
  go_enter Try.func21, Try.ntmps21
  go_wp2_with (first
    | ((with_reducible refine gate_dst (N := 2) rfl ?_); refine alloc_event rfl (t := 48) rfl info48 ?_; intro g2 hg2 w1 hh2 hb1; have HG := Aside0.mk hg2; have HH := Aside0.mk hh2; have HB1 := Aside0.mk hb1; clear hg2 hh2 hb1)
    | (go_at_call 59; refine (c59 l HL.out A0 c0 _ (Kd.C_below HR0.out HB1.out) HC0.out hll).mono ?_; rintro e w2 ⟨rfl, hb2⟩; rw [hb]; have HB2 := Aside0.mk (below_then HB1.out HB1.out.size hb2); have HH2 := Aside0.mk (HH.out.below hb2); clear hb2)
    | ((with_reducible refine gate_store (t := 48) (p := 2) rfl ?_); refine store_agg_event rfl (ty := 48) rfl rfl (g := g2) (off := 0) (vs := Try.zeroCells48) rfl rfl HH2.out (by rw [zc48]; exact Nat.le_refl _) (by rw [sizez48]; exact size48) onez48 ?_; intro w3 hh3 hs3; have HH3 := Aside0.mk hh3; have HB3 := Aside0.mk (hs3.below HB2.out (by rw [HG.out]; exact Nat.le_refl _)); clear hh3 hs3))
  have HH4 : w3.heap[g2]? = some (.cells Try.zeroCells48 48 (0, 0)) := by
    have h := HH3.out
    unfold Holds at h
    rw [splice_whole _ _ (by rw [zc48]; exact Eq.refl _)] at h
    exact h
  refine bodyPost_ret (results_ct (p := 2) (u := 3) (ty := 48) rfl _ w3 g2 48 Try.zeroCells48 (0, 0) _ rfl HH4 Try.underlying48 rfl (by rw [sizez48]; exact size48)) rfl ?_
  exact ⟨by rw [zc48]; rfl, HB3.out⟩
end Go.Proofs.Ytgojfecpknonlaa.St
