/- The function values that the laws hand to the shrinker. -/
import Derived.Test.YtgojfecpknonlaaShrR
namespace Go.Proofs.Ytgojfecpknonlaa.Shr
open Go.RowKit Go.Proofs.YtgojfecpknonlaaW.PrintWords Go.Proofs.YtgojfecpknonlaaW.PrintLast Go.Proofs.YtgojfecpknonlaaW.PrintMore
open Go.Proofs.Ytgojfecpknonlaa.Own Go.Proofs.Ytgojfecpknonlaa.PShrinkLeast
set_option linter.unusedVariables false
set_option linter.unusedSimpArgs false

set_option maxHeartbeats 4000000 in
set_option maxRecDepth 100000 in
theorem ans53 (w : World) (gr : Nat) (A0 : Option Addr) (c0 : Nat) (G : List (List Int)) (a : Int) (b : Bool) (N : Nat) (hN : N ≤ 1000000)
    (hcell : w.heap[gr]? = some (.cells #[.slice A0 G.length c0, .int .u8 a, .bool b] 33 (0, 0))) (hG : Kd.C (Kd.slice 5 (Kd.int .u8)) w A0 G.length G) (hc0 : G.length ≤ c0)
    (hGl : G.length < 4611686018427387904) (hg : ∀ q (h : q < G.length), (G[q]).length < 4611686018427387904) :
    Answers 53 #[.pointer (some ⟨gr, 0, none⟩)] w.heap.size w (fun xs => rf G a b (xs.map num) 8) N := by
  refine ⟨fun args W => enters_ Try.func53 (by kernel_rfl) rfl args W, fun W A c xs hb hB hl hC hc => ?_⟩
  have hb' : Below w.heap.size w W := hb
  have h1 := blk_below hcell hb'
  have hG1 := Kd.C_below hG hb'
  have hx0 : W.cell? ⟨gr, 0, none⟩ = some (.slice A0 G.length c0) := (blk_cell h1 0).trans rfl
  have hx1 : W.cell? ⟨gr, 1, none⟩ = some (.int .u8 a) := (blk_cell h1 1).trans rfl
  have hx2 : W.cell? ⟨gr, 2, none⟩ = some (.bool b) := (blk_cell h1 2).trans rfl
  obtain ⟨k1, hk1⟩ := (numbers_ev xs (by omega)).rounds
  obtain ⟨k2, hk2⟩ := (fails_ev (xs.map num) 8 G a b (by rw [List.length_map]; omega) hGl hg).rounds
  have HC := Aside0.mk hC
  have HG := Aside0.mk hG1
  have HK1 := Aside0.mk hk1
  have HK2 := Aside0.mk hk2
  clear hC hG1 hk1 hk2 h1 hb hb' hcell hG hB hg hGl hN hl
  show Calls Try.prog 53 #[.slice A xs.length c, .pointer (some ⟨gr, 0, none⟩)] W fun e W' => e = .returned (.bool (rf G a b (xs.map num) 8)) ∧ Below W.heap.size W W'
  generalize rf G a b (xs.map num) 8 = res at *
  generalize xs.map num = ys at *
  go_enter Try.func53, Try.ntmps53
  go_wp2_with fail
  go_region_held3 (fun w' => w'.cell? ⟨gr, 0, none⟩ = some (.slice A0 G.length c0) ∧ w'.cell? ⟨gr, 1, none⟩ = some (.int .u8 a) ∧ w'.cell? ⟨gr, 2, none⟩ = some (.bool b)) (go_keep)
    (first | (go_at_call 14; refine (demesnelaw40_numbers.calls k1 A c xs _ _ ?_ hc HK1.out).mono ?_; (first | exact HC.out | exact Kd.C_drew HC.out | exact Kd.C_drewN HC.out _); rintro e w2 ⟨v0, rfl, hv, hbw⟩; obtain ⟨A1, c1, rfl, hcc, hC1⟩ := Kd.R_reads hv; have H0b := pw_cell_below hbw hx0; have H1b := pw_cell_below hbw hx1; have H2b := pw_cell_below hbw hx2; have HG2 := Aside0.mk (Kd.C_below (Kd.C_drew HG.out) hbw); have HC2 := Aside0.mk hC1; clear hC1 hv) | (go_at_call 19; refine (demesnelaw40_Rule_fails.calls k2 A0 c0 G a b A1 c1 ys 8 _ _ HG2.out hc0 HC2.out hcc HK2.out).mono ?_; rintro e w3 ⟨rfl, hb3⟩; have H0c := pw_cell_below hb3 H0b; have H1c := pw_cell_below hb3 H1b; have H2c := pw_cell_below hb3 H2b))
  go_wp2
  go_ret
  exact ⟨rfl, below_then (below_drew (Below.refl _ _)) (Nat.le_refl _) (hbw.trans (hb3.mono hbw.size))⟩
set_option maxHeartbeats 4000000 in
set_option maxRecDepth 100000 in
theorem ans18 (w : World) (gr gn : Nat) (n : Int) (A0 : Option Addr) (c0 : Nat) (G : List (List Int)) (a : Int) (b : Bool) (N : Nat) (hN : N ≤ 1000000)
    (hcell : w.heap[gr]? = some (.cells #[.slice A0 G.length c0, .int .u8 a, .bool b] 33 (0, 0))) (hcn : w.heap[gn]? = some (.cells #[.int .i64 n] 3 (0, 0))) (hG : Kd.C (Kd.slice 5 (Kd.int .u8)) w A0 G.length G) (hc0 : G.length ≤ c0)
    (hGl : G.length < 4611686018427387904) (hg : ∀ q (h : q < G.length), (G[q]).length < 4611686018427387904) :
    Answers 18 #[.pointer (some ⟨gr, 0, none⟩), .pointer (some ⟨gn, 0, none⟩)] w.heap.size w (fun xs => rf G a b (xs.map num) n) N := by
  refine ⟨fun args W => enters_ Try.func18 (by kernel_rfl) rfl args W, fun W A c xs hb hB hl hC hc => ?_⟩
  have hb' : Below w.heap.size w W := hb
  have h1 := blk_below hcell hb'
  have hG1 := Kd.C_below hG hb'
  have hx0 : W.cell? ⟨gr, 0, none⟩ = some (.slice A0 G.length c0) := (blk_cell h1 0).trans rfl
  have hx1 : W.cell? ⟨gr, 1, none⟩ = some (.int .u8 a) := (blk_cell h1 1).trans rfl
  have hx2 : W.cell? ⟨gr, 2, none⟩ = some (.bool b) := (blk_cell h1 2).trans rfl
  have hxn : W.cell? ⟨gn, 0, none⟩ = some (.int .i64 n) := (blk_cell (blk_below hcn hb') 0).trans rfl
  obtain ⟨k1, hk1⟩ := (numbers_ev xs (by omega)).rounds
  obtain ⟨k2, hk2⟩ := (fails_ev (xs.map num) n G a b (by rw [List.length_map]; omega) hGl hg).rounds
  have HC := Aside0.mk hC
  have HG := Aside0.mk hG1
  have HK1 := Aside0.mk hk1
  have HK2 := Aside0.mk hk2
  clear hC hG1 hk1 hk2 h1 hb hb' hcell hcn hG hB hg hGl hN hl
  show Calls Try.prog 18 #[.slice A xs.length c, .pointer (some ⟨gr, 0, none⟩), .pointer (some ⟨gn, 0, none⟩)] W fun e W' => e = .returned (.bool (rf G a b (xs.map num) n)) ∧ Below W.heap.size W W'
  generalize rf G a b (xs.map num) n = res at *
  generalize xs.map num = ys at *
  go_enter Try.func18, Try.ntmps18
  go_wp2_with fail
  go_region_held3 (fun w' => w'.cell? ⟨gr, 0, none⟩ = some (.slice A0 G.length c0) ∧ w'.cell? ⟨gr, 1, none⟩ = some (.int .u8 a) ∧ w'.cell? ⟨gr, 2, none⟩ = some (.bool b) ∧ w'.cell? ⟨gn, 0, none⟩ = some (.int .i64 n)) (go_keep)
    (first | (go_at_call 14; refine (demesnelaw40_numbers.calls k1 A c xs _ _ ?_ hc HK1.out).mono ?_; (first | exact HC.out | exact Kd.C_drew HC.out | exact Kd.C_drewN HC.out _); rintro e w2 ⟨v0, rfl, hv, hbw⟩; obtain ⟨A1, c1, rfl, hcc, hC1⟩ := Kd.R_reads hv; have H0b := pw_cell_below hbw hx0; have H1b := pw_cell_below hbw hx1; have H2b := pw_cell_below hbw hx2; have H3b := pw_cell_below hbw hxn; have HG2 := Aside0.mk (Kd.C_below (Kd.C_drew HG.out) hbw); have HC2 := Aside0.mk hC1; clear hC1 hv) | (go_at_call 19; refine (demesnelaw40_Rule_fails.calls k2 A0 c0 G a b A1 c1 ys n _ _ HG2.out hc0 HC2.out hcc HK2.out).mono ?_; rintro e w3 ⟨rfl, hb3⟩; have H0c := pw_cell_below hb3 H0b; have H1c := pw_cell_below hb3 H1b; have H2c := pw_cell_below hb3 H2b; have H3c := pw_cell_below hb3 H3b))
  go_wp2
  go_ret
  exact ⟨rfl, below_then (below_drew (Below.refl _ _)) (Nat.le_refl _) (hbw.trans (hb3.mono hbw.size))⟩

theorem ans54 (w : World) (N : Nat) : Answers 54 #[] w.heap.size w (fun _ => false) N := by
  refine ⟨fun args W => enters_ Try.func54 (by kernel_rfl) rfl args W, fun W A c xs hb hB hl hC hc => ?_⟩
  show Calls Try.prog 54 #[.slice A xs.length c] W _
  go_enter Try.func54, Try.ntmps54
  go_wp2
  go_ret
  exact ⟨rfl, Below.refl _ _⟩
end Go.Proofs.Ytgojfecpknonlaa.Shr
