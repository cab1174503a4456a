/- events.Points walked. -/
import Derived.Test.YtgojfecpknonlaaEvL
namespace Go.Proofs.Ytgojfecpknonlaa.Ev
open Go.RowKit Go.Proofs.YtgojfecpknonlaaW.PrintWords Go.Proofs.YtgojfecpknonlaaW.PrintLast Go.Proofs.YtgojfecpknonlaaW.PrintMore
open Go.Proofs.Ytgojfecpknonlaa.Own Go.Proofs.Ytgojfecpknonlaa.PSt
set_option linter.unusedVariables false
set_option linter.unusedSimpArgs false

/-- Empty rows. -/
theorem insertion_nil (A : Option Addr) (c : Nat) (fv : Value) (w : World) :
    Calls Try.prog 115 #[.slice A 0 c, .int .i64 0, .int .i64 0, fv] w (fun e w' => e = .returned (.tuple #[]) ∧ w = w') := by
  go_enter Try.func115, Try.ntmps115
  go_wp2_with fail
  go_loopg [8] 0 (fun kq v8 w' => v8 = .int .i64 1 ∧ w = w')
  case atStart => exact ⟨rfl, rfl⟩
  case round =>
    obtain ⟨rfl, rfl⟩ := hrel
    go_wp2_with fail
    go_end0
    exact ⟨rfl, rfl⟩
theorem stable_nil (A : Option Addr) (c : Nat) (fv : Value) (w : World) :
    Calls Try.prog 110 #[.slice A 0 c, .int .i64 0, fv] w (fun e w' => e = .returned (.tuple #[]) ∧ w = w') := by
  have HC := Aside0.mk (insertion_nil A c fv w)
  go_enter Try.func110, Try.ntmps110
  go_wp2_with fail
  go_loopg [7, 8] 0 (fun kq v7 v8 w' => v7 = .int .i64 0 ∧ v8 = .int .i64 20 ∧ w = w')
  case atStart => exact ⟨rfl, rfl, rfl⟩
  case round =>
    obtain ⟨rfl, rfl, rfl⟩ := hrel
    go_upto_block 2 with (go_at_call 115; refine HC.out.mono ?_; rintro e w1 ⟨rfl, rfl⟩)
    go_wp2_with fail
    go_loopg [6] 0 (fun kq v6 w' => v6 = .int .i64 20 ∧ w = w')
    case atStart => exact ⟨rfl, rfl⟩
    case round =>
      obtain ⟨rfl, rfl⟩ := hrel
      go_wp2_with fail
      go_end0
      exact ⟨rfl, rfl⟩

/-- A row that a stable sort has put in order: which one it is does not hang on the sort. -/
def Stab (l ys : List S72) : Prop := Srt ys ∧ Same l ys ∧ ys.length = l.length
theorem sortStable_calls (l : List S72) (A : Option Addr) (c : Nat) (w : World) (B : Nat) (hB : ∀ g, A = some ⟨g, 0, none⟩ → 0 < l.length → B ≤ g) (hr : 0 < l.length → ∃ g, A = some ⟨g, 0, none⟩ ∧ Row w g l) (hl : l.length < 1000000000) :
    Calls Try.prog 91 #[.slice A l.length c, .func (.func 92) #[] #[]] w (fun e w' => e = .returned (.tuple #[]) ∧ ∃ ys, Stab l ys ∧ (0 < l.length → ∃ g, A = some ⟨g, 0, none⟩ ∧ B ≤ g ∧ Row w' g ys ∧ w.grownBy w' (some g)) ∧ (l.length = 0 → w = w')) := by
  have hl2 : l.length < 2305843009213693952 := by omega
  rcases Nat.eq_zero_or_pos l.length with h0 | h0
  · have HC := Aside0.mk (stable_nil A c (.func (.func 92) #[] #[]) w)
    have HL := Aside0.mk h0
    rw [h0]
    clear hr hB hl hl2
    go_enter Try.func91, Try.ntmps91
    go_wp2_with (go_at_call 110; refine HC.out.mono ?_; rintro e w1 ⟨rfl, rfl⟩)
    go_end0
    refine ⟨rfl, [], ⟨List.Pairwise.nil, by rw [List.eq_nil_of_length_eq_zero HL.out]; exact Same.refl _, HL.out.symm⟩, fun h => ?_, fun _ => rfl⟩
    exact absurd h (Nat.lt_irrefl 0)
  · obtain ⟨g, rfl, hr1⟩ := hr h0
    have HC := Aside0.mk (stable_calls l g l.length c w hr1 rfl hl)
    have HB := Aside0.mk (hB g rfl h0)
    have HL := Aside0.mk h0
    have HN := Aside0.mk (rfl : l.length = l.length)
    clear hr hr1 hB h0
    go_enter Try.func91, Try.ntmps91
    go_wp2_with (go_at_call 110; refine HC.out.mono ?_; rintro e w1 ⟨rfl, S1, hr1, hl1, hl2, hl3, hg1⟩; have HR1 := Aside0.mk hr1; have HG1 := Aside0.mk hg1; have HS1 := Aside0.mk hl1; have HS2 := Aside0.mk hl2; have HS3 := Aside0.mk hl3; clear hr1 hg1 hl1 hl2 hl3)
    go_end0
    exact ⟨rfl, S1, ⟨HS1.out, HS2.out, HS3.out⟩, fun _ => ⟨g, rfl, HB.out, by have h := HR1.out; rw [List.nil_append, List.append_nil] at h; exact h, HG1.out⟩, fun h => by have := HL.out; omega⟩

set_option maxHeartbeats 1500000 in
set_option maxRecDepth 100000 in
theorem points_calls (l : List S72) (A : Option Addr) (c : Nat) (w : World) (hr : Kd.C k72 w A l.length l) (hc : l.length ≤ c) (hl : l.length < 1000000000) :
    Calls Try.prog 51 #[.slice A l.length c] w (fun e w' => ∃ ys, Stab (l.filter isPt) ys ∧ Those w ys e w') := by
  have HC := Aside0.mk (those_calls 90 #[] _ _ isPt (pt_pred w) l A c w (Below.refl _ _) (Nat.le_refl _) hr hc (by omega))
  have HL := Aside0.mk (show (l.filter isPt).length < 1000000000 by have := List.length_filter_le isPt l; omega)
  clear hr hc
  go_enter Try.func51, Try.ntmps51
  go_wp2_with (first
    | (go_at_call 87; refine HC.out.mono ?_; rintro e w1 ⟨A1, c1, rfl, hc1, hC1, hb1, hg1⟩; have HCC := Aside0.mk hc1; have HC1 := Aside0.mk hC1; have HB1 := Aside0.mk hb1; have HG1 := Aside0.mk hg1; clear hc1 hC1 hb1 hg1)
    | (go_at_call 91; refine (sortStable_calls (l.filter isPt) A1 c1 w1 w.heap.size (fun g he h0 => by obtain ⟨g2, h1, h2, h3⟩ := HG1.out h0; rw [h1] at he; injection he with he; injection he with he; omega) (fun h0 => by obtain ⟨g2, h1, h2, h3⟩ := HG1.out h0; exact ⟨g2, h1, h3⟩) HL.out).mono ?_; rintro e w2 ⟨rfl, ys, hst, hg2, hn2⟩; have HST := Aside0.mk hst; have HG2 := Aside0.mk hg2; have HN2 := Aside0.mk hn2; clear hst hg2 hn2))
  go_ret
  refine ⟨ys, HST.out, A1, c1, ?_, by rw [HST.out.2.2]; exact HCC.out, ?_⟩
  · rw [HST.out.2.2]; rfl
  · rcases Nat.eq_zero_or_pos (l.filter isPt).length with h0 | h0
    · obtain rfl := HN2.out h0
      have hy : ys = l.filter isPt := by
        rw [List.eq_nil_of_length_eq_zero h0]
        exact List.eq_nil_of_length_eq_zero (by rw [HST.out.2.2, h0])
      rw [hy]
      exact ⟨HC1.out, HB1.out, HG1.out⟩
    · obtain ⟨g, rfl, hg, hrow, hgr⟩ := HG2.out h0
      have hlen := HST.out.2.2
      refine ⟨?_, below_grown HB1.out hgr hg HB1.out.size, fun _ => ⟨g, rfl, hg, hrow⟩⟩
      exact hrow.C (by have := HL.out; omega)
end Go.Proofs.Ytgojfecpknonlaa.Ev

