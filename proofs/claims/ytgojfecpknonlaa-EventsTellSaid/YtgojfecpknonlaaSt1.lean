/- Whether an event may be, as the document says it: function 23. -/
import Derived.Test.YtgojfecpknonlaaPStx4
import Derived.Test.YtgojfecpknonlaaKit
namespace Go.Proofs.Ytgojfecpknonlaa.St
open Go.RowKit Go.Proofs.YtgojfecpknonlaaW.PrintWords Go.Proofs.YtgojfecpknonlaaW.PrintLast Go.Proofs.YtgojfecpknonlaaW.PrintMore
open Go.Proofs.Ytgojfecpknonlaa.Own Go.Proofs.Ytgojfecpknonlaa.PSt
set_option linter.unusedVariables false
set_option linter.unusedSimpArgs false

/-- The first test. -/
def t1 (d : S58) : Bool := (decide (63 < d.f0) && decide (d.f0 < 255)) || decide (13 < d.f1) || decide (d.f5 < 0) || decide (8 < d.f5) || decide (d.f6 < 0) || decide (65535 < d.f6)
/-- The second: how many arguments there are is n. -/
def t2 (n : Int) (d : S58) : Bool := (decide (n < 1) && decide (0 < d.f2)) || (decide (n < 2) && decide (0 < d.f3)) || (decide (n < 3) && decide (0 < d.f4))
def t3 (d : S58) : Bool := decide (0 ≤ d.f8) && decide (d.f8 ≤ 2147483647) && decide (0 ≤ d.f9) && decide (d.f9 ≤ 2147483647) && decide (0 ≤ d.f10) && decide (d.f10 ≤ 2147483647)

abbrev ev58 (d : S58) : Value := .agg #[.int .u8 d.f0, .int .u8 d.f1, .int .u8 d.f2, .int .u8 d.f3, .int .u8 d.f4, .int .i64 d.f5, .int .i64 d.f6, .int .u64 d.f7, .int .i64 d.f8, .int .i64 d.f9, .int .i64 d.f10]

set_option maxHeartbeats 4000000 in
set_option maxRecDepth 100000 in
theorem may36_calls (d : S58) (n : Int) (hn : demesneref11_Args.f d.f1 = some n) (w : World) : Calls Try.prog 23 #[ev58 d] w fun e w' => e = .returned (.bool (!t1 d && !t2 n d && t3 d)) ∧ Below w.heap.size w w' := by
  obtain ⟨a0, a1, a2, a3, a4, a5, a6, a7, a8, a9, a10⟩ := d
  simp only at hn
  have HN := Aside0.mk hn
  clear hn
  go_enter Try.func23, Try.ntmps23
  go_upto_region 1 with (fail)
  have BK : Aside0 ((w.alloc (.cells #[.int .u8 a0, .int .u8 a1, .int .u8 a2, .int .u8 a3, .int .u8 a4, .int .i64 a5, .int .i64 a6, .int .u64 a7, .int .i64 a8, .int .i64 a9, .int .i64 a10] 58)).heap[w.heap.size]? = some (.cells #[.int .u8 a0, .int .u8 a1, .int .u8 a2, .int .u8 a3, .int .u8 a4, .int .i64 a5, .int .i64 a6, .int .u64 a7, .int .i64 a8, .int .i64 a9, .int .i64 a10] 58 (0, 0))) := ⟨blk_new _ _⟩
  have HB : Aside0 (Below w.heap.size w (w.alloc (.cells #[.int .u8 a0, .int .u8 a1, .int .u8 a2, .int .u8 a3, .int .u8 a4, .int .i64 a5, .int .i64 a6, .int .u64 a7, .int .i64 a8, .int .i64 a9, .int .i64 a10] 58))) := ⟨below_alloc (Below.refl _ _) _⟩
  go_cut [37] (fun v37 wc => v37 = .bool (t1 (⟨a0, a1, a2, a3, a4, a5, a6, a7, a8, a9, a10⟩ : S58)) ∧ Aside0 (wc.heap[w.heap.size]? = some (.cells #[.int .u8 a0, .int .u8 a1, .int .u8 a2, .int .u8 a3, .int .u8 a4, .int .i64 a5, .int .i64 a6, .int .u64 a7, .int .i64 a8, .int .i64 a9, .int .i64 a10] 58 (0, 0))) ∧ Aside0 (Below w.heap.size w wc))
  case first =>
    have hx0 : (w.alloc (.cells #[.int .u8 a0, .int .u8 a1, .int .u8 a2, .int .u8 a3, .int .u8 a4, .int .i64 a5, .int .i64 a6, .int .u64 a7, .int .i64 a8, .int .i64 a9, .int .i64 a10] 58)).cell? ⟨w.heap.size, 0, none⟩ = some (.int .u8 a0) := (blk_cell BK.out 0).trans rfl
    have hx1 : (w.alloc (.cells #[.int .u8 a0, .int .u8 a1, .int .u8 a2, .int .u8 a3, .int .u8 a4, .int .i64 a5, .int .i64 a6, .int .u64 a7, .int .i64 a8, .int .i64 a9, .int .i64 a10] 58)).cell? ⟨w.heap.size, 1, none⟩ = some (.int .u8 a1) := (blk_cell BK.out 1).trans rfl
    have hx5 : (w.alloc (.cells #[.int .u8 a0, .int .u8 a1, .int .u8 a2, .int .u8 a3, .int .u8 a4, .int .i64 a5, .int .i64 a6, .int .u64 a7, .int .i64 a8, .int .i64 a9, .int .i64 a10] 58)).cell? ⟨w.heap.size, 5, none⟩ = some (.int .i64 a5) := (blk_cell BK.out 5).trans rfl
    have hx6 : (w.alloc (.cells #[.int .u8 a0, .int .u8 a1, .int .u8 a2, .int .u8 a3, .int .u8 a4, .int .i64 a5, .int .i64 a6, .int .u64 a7, .int .i64 a8, .int .i64 a9, .int .i64 a10] 58)).cell? ⟨w.heap.size, 6, none⟩ = some (.int .i64 a6) := (blk_cell BK.out 6).trans rfl
    by_cases c1 : 63 < a0
    · replace c1 := decide_eq_true c1
      by_cases c2 : a0 < 255
      · replace c2 := decide_eq_true c2
        go_wp2
        go_meet
        case rel => exact ⟨by simp [t1, *], BK, HB⟩
      · replace c2 := decide_eq_false c2
        by_cases c3 : 13 < a1
        · replace c3 := decide_eq_true c3
          go_wp2
          go_meet
          case rel => exact ⟨by simp [t1, *], BK, HB⟩
        · replace c3 := decide_eq_false c3
          by_cases c4 : a5 < 0
          · replace c4 := decide_eq_true c4
            go_wp2
            go_meet
            case rel => exact ⟨by simp [t1, *], BK, HB⟩
          · replace c4 := decide_eq_false c4
            by_cases c5 : 8 < a5
            · replace c5 := decide_eq_true c5
              go_wp2
              go_meet
              case rel => exact ⟨by simp [t1, *], BK, HB⟩
            · replace c5 := decide_eq_false c5
              by_cases c6 : a6 < 0
              · replace c6 := decide_eq_true c6
                go_wp2
                go_meet
                case rel => exact ⟨by simp [t1, *], BK, HB⟩
              · replace c6 := decide_eq_false c6
                by_cases c7 : 65535 < a6
                · replace c7 := decide_eq_true c7
                  go_wp2
                  go_meet
                  case rel => exact ⟨by simp [t1, *], BK, HB⟩
                · replace c7 := decide_eq_false c7
                  go_wp2
                  go_meet
                  case rel => exact ⟨by simp [t1, *], BK, HB⟩
    · replace c1 := decide_eq_false c1
      by_cases c3 : 13 < a1
      · replace c3 := decide_eq_true c3
        go_wp2
        go_meet
        case rel => exact ⟨by simp [t1, *], BK, HB⟩
      · replace c3 := decide_eq_false c3
        by_cases c4 : a5 < 0
        · replace c4 := decide_eq_true c4
          go_wp2
          go_meet
          case rel => exact ⟨by simp [t1, *], BK, HB⟩
        · replace c4 := decide_eq_false c4
          by_cases c5 : 8 < a5
          · replace c5 := decide_eq_true c5
            go_wp2
            go_meet
            case rel => exact ⟨by simp [t1, *], BK, HB⟩
          · replace c5 := decide_eq_false c5
            by_cases c6 : a6 < 0
            · replace c6 := decide_eq_true c6
              go_wp2
              go_meet
              case rel => exact ⟨by simp [t1, *], BK, HB⟩
            · replace c6 := decide_eq_false c6
              by_cases c7 : 65535 < a6
              · replace c7 := decide_eq_true c7
                go_wp2
                go_meet
                case rel => exact ⟨by simp [t1, *], BK, HB⟩
              · replace c7 := decide_eq_false c7
                go_wp2
                go_meet
                case rel => exact ⟨by simp [t1, *], BK, HB⟩
  case rest =>
    clear BK HB
    obtain ⟨rfl, BK, HB⟩ := hcut
    by_cases h1 : t1 (⟨a0, a1, a2, a3, a4, a5, a6, a7, a8, a9, a10⟩ : S58) = true
    · rw [h1]
      go_wp2
      go_ret
      exact ⟨by rw [h1]; rfl, HB.out⟩
    · replace h1 := Bool.eq_false_iff.mpr h1
      rw [h1]
      have H1 := Aside0.mk h1
      clear h1
      have hx1 : wc.cell? ⟨w.heap.size, 1, none⟩ = some (.int .u8 a1) := (blk_cell BK.out 1).trans rfl
      go_wp2_with fail
      refine (demesneref11_Args.calls a1 n _ HN.out).mono ?_
      rintro e w1 ⟨rfl, hb1⟩
      have BK1 := Aside0.mk (blk_below BK.out hb1)
      have HB1 := Aside0.mk (below_then HB.out HB.out.size hb1)
      clear hb1 hx1 BK HB
      go_upto_region 4 with (fail)
      go_cut [65] (fun v65 wc => v65 = .bool (t2 n (⟨a0, a1, a2, a3, a4, a5, a6, a7, a8, a9, a10⟩ : S58)) ∧ Aside0 (wc.heap[w.heap.size]? = some (.cells #[.int .u8 a0, .int .u8 a1, .int .u8 a2, .int .u8 a3, .int .u8 a4, .int .i64 a5, .int .i64 a6, .int .u64 a7, .int .i64 a8, .int .i64 a9, .int .i64 a10] 58 (0, 0))) ∧ Aside0 (Below w.heap.size w wc))
      case first =>
        have BK := BK1
        have HB := HB1
        have hx2 : w1.cell? ⟨w.heap.size, 2, none⟩ = some (.int .u8 a2) := (blk_cell BK1.out 2).trans rfl
        have hx3 : w1.cell? ⟨w.heap.size, 3, none⟩ = some (.int .u8 a3) := (blk_cell BK1.out 3).trans rfl
        have hx4 : w1.cell? ⟨w.heap.size, 4, none⟩ = some (.int .u8 a4) := (blk_cell BK1.out 4).trans rfl
        by_cases c1 : n < 1
        · replace c1 := decide_eq_true c1
          by_cases c2 : 0 < a2
          · replace c2 := decide_eq_true c2
            go_wp2
            go_meet
            case rel => exact ⟨by simp [t2, *], BK, HB⟩
          · replace c2 := decide_eq_false c2
            by_cases c3 : n < 2
            · replace c3 := decide_eq_true c3
              by_cases c4 : 0 < a3
              · replace c4 := decide_eq_true c4
                go_wp2
                go_meet
                case rel => exact ⟨by simp [t2, *], BK, HB⟩
              · replace c4 := decide_eq_false c4
                by_cases c5 : n < 3
                · replace c5 := decide_eq_true c5
                  by_cases c6 : 0 < a4
                  · replace c6 := decide_eq_true c6
                    go_wp2
                    go_meet
                    case rel => exact ⟨by simp [t2, *], BK, HB⟩
                  · replace c6 := decide_eq_false c6
                    go_wp2
                    go_meet
                    case rel => exact ⟨by simp [t2, *], BK, HB⟩
                · replace c5 := decide_eq_false c5
                  go_wp2
                  go_meet
                  case rel => exact ⟨by simp [t2, *], BK, HB⟩
            · replace c3 := decide_eq_false c3
              by_cases c5 : n < 3
              · replace c5 := decide_eq_true c5
                by_cases c6 : 0 < a4
                · replace c6 := decide_eq_true c6
                  go_wp2
                  go_meet
                  case rel => exact ⟨by simp [t2, *], BK, HB⟩
                · replace c6 := decide_eq_false c6
                  go_wp2
                  go_meet
                  case rel => exact ⟨by simp [t2, *], BK, HB⟩
              · replace c5 := decide_eq_false c5
                go_wp2
                go_meet
                case rel => exact ⟨by simp [t2, *], BK, HB⟩
        · replace c1 := decide_eq_false c1
          by_cases c3 : n < 2
          · replace c3 := decide_eq_true c3
            by_cases c4 : 0 < a3
            · replace c4 := decide_eq_true c4
              go_wp2
              go_meet
              case rel => exact ⟨by simp [t2, *], BK, HB⟩
            · replace c4 := decide_eq_false c4
              by_cases c5 : n < 3
              · replace c5 := decide_eq_true c5
                by_cases c6 : 0 < a4
                · replace c6 := decide_eq_true c6
                  go_wp2
                  go_meet
                  case rel => exact ⟨by simp [t2, *], BK, HB⟩
                · replace c6 := decide_eq_false c6
                  go_wp2
                  go_meet
                  case rel => exact ⟨by simp [t2, *], BK, HB⟩
              · replace c5 := decide_eq_false c5
                go_wp2
                go_meet
                case rel => exact ⟨by simp [t2, *], BK, HB⟩
          · replace c3 := decide_eq_false c3
            by_cases c5 : n < 3
            · replace c5 := decide_eq_true c5
              by_cases c6 : 0 < a4
              · replace c6 := decide_eq_true c6
                go_wp2
                go_meet
                case rel => exact ⟨by simp [t2, *], BK, HB⟩
              · replace c6 := decide_eq_false c6
                go_wp2
                go_meet
                case rel => exact ⟨by simp [t2, *], BK, HB⟩
            · replace c5 := decide_eq_false c5
              go_wp2
              go_meet
              case rel => exact ⟨by simp [t2, *], BK, HB⟩
      case rest =>
        clear BK1 HB1
        obtain ⟨rfl, BK, HB⟩ := hcut
        by_cases h1 : t2 n (⟨a0, a1, a2, a3, a4, a5, a6, a7, a8, a9, a10⟩ : S58) = true
        · rw [h1]
          go_wp2
          go_ret
          exact ⟨by rw [h1, H1.out]; rfl, HB.out⟩
        · replace h1 := Bool.eq_false_iff.mpr h1
          rw [h1]
          have H2 := Aside0.mk h1
          clear h1
          have hx8 : wc.cell? ⟨w.heap.size, 8, none⟩ = some (.int .i64 a8) := (blk_cell BK.out 8).trans rfl
          have hx9 : wc.cell? ⟨w.heap.size, 9, none⟩ = some (.int .i64 a9) := (blk_cell BK.out 9).trans rfl
          have hx10 : wc.cell? ⟨w.heap.size, 10, none⟩ = some (.int .i64 a10) := (blk_cell BK.out 10).trans rfl
          by_cases c1 : 0 ≤ a8
          · replace c1 := decide_eq_true c1
            by_cases c2 : a8 ≤ 2147483647
            · replace c2 := decide_eq_true c2
              by_cases c3 : 0 ≤ a9
              · replace c3 := decide_eq_true c3
                by_cases c4 : a9 ≤ 2147483647
                · replace c4 := decide_eq_true c4
                  by_cases c5 : 0 ≤ a10
                  · replace c5 := decide_eq_true c5
                    by_cases c6 : a10 ≤ 2147483647
                    · replace c6 := decide_eq_true c6
                      go_wp2
                      go_ret
                      exact ⟨by rw [H1.out, H2.out]; simp [t3, *], HB.out⟩
                    · replace c6 := decide_eq_false c6
                      go_wp2
                      go_ret
                      exact ⟨by rw [H1.out, H2.out]; simp [t3, *], HB.out⟩
                  · replace c5 := decide_eq_false c5
                    go_wp2
                    go_ret
                    exact ⟨by rw [H1.out, H2.out]; simp [t3, *], HB.out⟩
                · replace c4 := decide_eq_false c4
                  go_wp2
                  go_ret
                  exact ⟨by rw [H1.out, H2.out]; simp [t3, *], HB.out⟩
              · replace c3 := decide_eq_false c3
                go_wp2
                go_ret
                exact ⟨by rw [H1.out, H2.out]; simp [t3, *], HB.out⟩
            · replace c2 := decide_eq_false c2
              go_wp2
              go_ret
              exact ⟨by rw [H1.out, H2.out]; simp [t3, *], HB.out⟩
          · replace c1 := decide_eq_false c1
            go_wp2
            go_ret
            exact ⟨by rw [H1.out, H2.out]; simp [t3, *], HB.out⟩
end Go.Proofs.Ytgojfecpknonlaa.St

