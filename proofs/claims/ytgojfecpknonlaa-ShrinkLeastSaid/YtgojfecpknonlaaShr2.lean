/- The walk of shrink.Script: whatever the function value answers, it computes 'scrF'. -/
import Derived.Test.YtgojfecpknonlaaShr1
import Derived.Laws.EntriesVeiled
namespace Go.Proofs.Ytgojfecpknonlaa.Shr
open Go.RowKit Go.Proofs.YtgojfecpknonlaaW.PrintWords Go.Proofs.YtgojfecpknonlaaW.PrintLast Go.Proofs.YtgojfecpknonlaaW.PrintMore
open Go.Proofs.Ytgojfecpknonlaa.Own Go.Proofs.Ytgojfecpknonlaa.PShrinkLeast
attribute [local go_sem] max2_int min2_int max_two min_two max_three min_three max_four min_four
set_option linter.unusedVariables false
set_option linter.unusedSimpArgs false

/-- The rounds: at the outer loop's head (none), or at the inner one's (the size, and where it is). -/
def scr (p : List S111 → Bool) (N : Nat) (asks : Int) : Nat → List S111 → Int → Int → Option (Int × Int) → Option (List S111 × Int × Int)
  | 0, _, _, _, _ => none
  | k + 1, xs, n, a, none => if (xs.length : Int) > 0 then (shrink_pieces.f xs.length n).bind fun size => scr p N asks k xs n a (some (size, 0)) else some (xs, a, 0)
  | k + 1, xs, n, a, some (size, i) => if i < xs.length then (if a = asks then some (xs, a, 8) else if 0 ≤ a ∧ a < 9223372036854775807 then (shrink_Without.f k xs i size).bind fun less => if less.length ≤ N then (if p less = true then scr p N asks k less (mx 2 (wrap64 (n - 1))) (a + 1) none else scr p N asks k xs n (a + 1) (some (size, wrap64 (i + size)))) else none else none)
      else if n ≥ xs.length then some (xs, a, 0) else scr p N asks k xs (mn (wrap64 (2 * n)) xs.length) a none

/-- shrink.Script, asked at least once. -/
def scrF (p : List S111 → Bool) (N : Nat) (asks : Int) (k : Nat) (l : List S111) : Option (List S111 × Int × Int) :=
  if p l = true then scr p N asks k l 2 1 none else some ([], 1, 5)

theorem run_equalIn_func_nil (d : Nat) (f : Fn) (a b : Array Value) (w : World) : (Op.equalIn (d + 1) 39 (.func f a b) .nilFunc).run Try.prog w = .ok false w := by
  simp [Op.equalIn, run_underlying Try.underlying39]
theorem run_equal_func_nil (f : Fn) (a b : Array Value) (w : World) : (Op.equal 39 (.func f a b) .nilFunc).run Try.prog w = .ok false w := run_equalIn_func_nil 9999 f a b w
theorem run_eql_func_nil (f : Fn) (a b : Array Value) (w : World) : (binOp .eql 39 (.func f a b) .nilFunc).run Try.prog w = .ok (.bool false) w := by
  simp only [binOp]
  simp [run_equal_func_nil]

/-- The state of a run of Script: how often it has asked. -/
structure Inv (g : FuncId) (lb : Array Value) (w W : World) (a : Int) : Prop where
  b : Below w.heap.size w W
  sz : w.heap.size + 2 ≤ W.heap.size
  h4 : W.heap[w.heap.size]? = some (.cells #[.func (.func g) #[] lb] 39 (0, 0))
  h9 : W.heap[w.heap.size + 1]? = some (.cells #[.int .i64 a] 3 (0, 0))

def Rl (w W : World) (v : Value) (xs : List S111) : Prop := Kd.R k111 111 W w.heap.size (fun k => w.heap.size + 2 ≤ k) v xs

section
variable {g : FuncId} {lb : Array Value} {w W W1 : World} {a : Int} {v : Value} {xs : List S111}
theorem Inv.below (h : Inv g lb w W a) (hb : Below W.heap.size W W1) : Inv g lb w W1 a :=
  ⟨below_then h.b (Nat.le_trans (Nat.le_add_right _ _) h.sz) hb, Nat.le_trans h.sz hb.size, blk_below h.h4 hb, blk_below h.h9 hb⟩
theorem Inv.drewN (h : Inv g lb w W a) (n : Nat) : Inv g lb w (W.drewN n) a := h.below (pw_below_drewN (Below.refl _ _) n)
theorem Inv.drew (h : Inv g lb w W a) : Inv g lb w W.drew a := h.below (below_drew (Below.refl _ _))
theorem Inv.asked (h : Inv g lb w W a) (hb : Below W.heap.size (W.setCell ⟨w.heap.size + 1, 0, none⟩ (.int .i64 (a + 1))) W1) : Inv g lb w W1 (a + 1) := by
  have e : (W.setCell ⟨w.heap.size + 1, 0, none⟩ (.int .i64 (a + 1))).heap.size = W.heap.size := by simp [World.setCell]
  have h1 : Inv g lb w (W.setCell ⟨w.heap.size + 1, 0, none⟩ (.int .i64 (a + 1))) (a + 1) := by
    refine ⟨h.b.setCell (p := ⟨w.heap.size + 1, 0, none⟩) (Nat.le_add_right _ _) _, by rw [e]; exact h.sz, ?_, ?_⟩
    · exact blk_far h.h4 (p := ⟨w.heap.size + 1, 0, none⟩) (by simp) _
    · exact blk_set h.h9 0 _
  exact h1.below (by rw [e]; exact hb)
theorem Inv.cell (h : Inv g lb w W a) : W.cell? ⟨w.heap.size + 1, 0, none⟩ = some (.int .i64 a) := (blk_cell h.h9 0).trans rfl
theorem Rl.below (h : Rl w W v xs) (hb : Below W.heap.size W W1) : Rl w W1 v xs := Kd.R_below h hb
theorem Rl.drewN (h : Rl w W v xs) (n : Nat) : Rl w (W.drewN n) v xs := Kd.R_drewN h n
theorem Rl.asked (h : Rl w W v xs) (hb : Below W.heap.size (W.setCell ⟨w.heap.size + 1, 0, none⟩ (.int .i64 (a + 1))) W1) : Rl w W1 v xs := by
  have h1 : Rl w (W.setCell ⟨w.heap.size + 1, 0, none⟩ (.int .i64 (a + 1))) v xs := Kd.R_far (p := ⟨w.heap.size + 1, 0, none⟩) h (fun k hk => by show k ≠ w.heap.size + 1; omega) _
  have e : (W.setCell ⟨w.heap.size + 1, 0, none⟩ (.int .i64 (a + 1))).heap.size = W.heap.size := by simp [World.setCell]
  exact h1.below (by rw [e]; exact hb)
/-- A new row, made later. -/
theorem Rl.made (h : Inv g lb w W a) (hr : Kd.R k111 111 W1 W.heap.size (fun _ => True) v xs) : Rl w W1 v xs := by
  have hs := h.sz
  exact Kd.R_lower (Kd.R_mono (Kd.R_bound hr) (fun k hk => Nat.le_trans hs hk.2.1)) (by omega)

theorem ask_at {p : List S111 → Bool} {N : Nat} (hN : N * 5 ≤ 140737488355328) (hA : Answers g lb w.heap.size w p N) (h : Inv g lb w W a) (A0 : Option Addr) (c0 : Nat) (hx : Rl w W (.slice A0 xs.length c0) xs) (h0 : 0 ≤ a) (h1 : a < 9223372036854775807) (hl : xs.length ≤ N) :
    Calls Try.prog 56 #[.slice A0 xs.length c0, .pointer (some ⟨w.heap.size + 1, 0, none⟩), .pointer (some ⟨w.heap.size, 0, none⟩)] W fun e W1 => e = .returned (.bool (p xs)) ∧ Aside0 (Below W.heap.size (W.setCell ⟨w.heap.size + 1, 0, none⟩ (.int .i64 (a + 1))) W1) := by
  obtain ⟨_, hc, hC⟩ := Kd.R_reads' hx
  refine (ask_calls g lb w.heap.size w p N hN hA A0 c0 xs a h0 h1 W _ _ h.h9 h.h4 (by simp) (Nat.le_add_right _ _) h.b hC hc hl ?_).mono (fun e W1 hh => ⟨hh.1, ⟨hh.2⟩⟩)
  intro ad hA0 he
  subst hA0
  have := hx.1 ad.block (by simp [Value.ownBlock])
  omega
end

set_option maxHeartbeats 4000000 in
set_option maxRecDepth 100000 in
theorem script_calls (g : FuncId) (lb : Array Value) (p : List S111 → Bool) (N : Nat) (hN : N * 5 ≤ 140737488355328) (w : World) (hA : Answers g lb w.heap.size w p N)
    (A : Option Addr) (c : Nat) (l : List S111) (asks : Int) (h0 : 0 < asks) (hr : Kd.C k111 w A l.length l) (hc : l.length ≤ c) (hl : l.length ≤ N) (k : Nat) (xs : List S111) (a e : Int) (hs : scrF p N asks k l = some (xs, a, e)) :
    Calls Try.prog 17 #[.slice A l.length c, .func (.func g) #[] lb, .int .i64 asks] w fun en w' => ∃ v, en = .returned (.tuple #[v, .int .i64 a, .int .i64 e]) ∧ Kd.R k111 111 w' w.heap.size (fun _ => True) v xs ∧ Below w.heap.size w w' := by
  have HR := Aside0.mk hr
  have HS := Aside0.mk hs
  have c0 : decide (asks < 0) = false := decide_eq_false (by omega)
  have c1 : (asks == 0) = false := beq_eq_false_iff_ne.mpr (by omega)
  clear hr hs
  have qf := run_eql_func_nil (.func g) #[] lb
  go_enter Try.func17, Try.ntmps17
  go_wp2_with fail
  go_step3
  go_wp2_with fail
  refine (clone_calls A c l _ ?_ hc ?_).mono ?_
  · exact Kd.C_alloc (Kd.C_alloc HR.out _) _
  · omega
  rintro en w1 ⟨v0, rfl, hv, hbw⟩
  have HI : Aside0 (Inv g lb w w1 0) := by
    have hI0 : Inv g lb w ((w.alloc (Obj.cells #[Value.func (Fn.func g) #[] lb] 39)).alloc (Obj.cells #[Value.int IntKind.i64 0] 3)) 0 := by
      refine ⟨below_alloc (below_alloc (Below.refl _ _) _) _, by simp, ?_, ?_⟩
      · exact blk_alloc (blk_new _ _) _
      · simpa using blk_new (w.alloc (Obj.cells #[Value.func (Fn.func g) #[] lb] 39)) (Obj.cells #[Value.int IntKind.i64 0] 3)
    exact ⟨hI0.below hbw⟩
  have HO : Aside0 (Rl w w1 v0 l) := ⟨Kd.R_lower (Kd.R_mono (Kd.R_bound hv) (fun k hk => by have := hk.2.1; simpa using this)) (by simp; omega)⟩
  clear hv hbw
  obtain ⟨A0, c2, hv2⟩ := Kd.R_slice HO.out
  subst hv2
  go_wp2_with fail
  refine (ask_at hN hA HI.out A0 c2 HO.out (by omega) (by omega) hl).mono ?_
  rintro en w2 ⟨rfl, hb2⟩
  have HI2 : Aside0 (Inv g lb w w2 1) := ⟨HI.out.asked hb2.out⟩
  have HO2 : Aside0 (Rl w w2 (.slice A0 l.length c2) l) := ⟨HO.out.asked hb2.out⟩
  clear HI HO hb2
  have hcell := HI2.out.cell
  by_cases cp : p l = true
  · have HS1 : Aside0 (scr p N asks k l 2 1 none = some (xs, a, e)) := ⟨by have h := HS.out; unfold scrF at h; rw [if_pos cp] at h; exact h⟩
    clear HS
    rw [cp]
    go_wp2_with fail
    go_step3
    clear hcell cp HR
    go_wp2_with fail
    go_loopg [11, 12] k (fun kq v11 v12 wr => ∃ (ys : List S111) (n b : Int), v12 = .int .i64 n ∧ Aside0 (scr p N asks kq ys n b none = some (xs, a, e)) ∧ Aside0 (kq ≤ k) ∧ Aside0 (Inv g lb w wr b) ∧ Aside0 (Rl w wr v11 ys) ∧ Aside0 (ys.length ≤ N))
    case atStart => exact ⟨l, 2, 1, rfl, HS1, ⟨Nat.le_refl _⟩, HI2, HO2, ⟨hl⟩⟩
    case round =>
      clear HS1 HI2 HO2
      obtain ⟨ys, n, b, rfl, HA1, HK1, HI, HO, HL⟩ := hrel
      obtain ⟨A1, c3, hv3⟩ := Kd.R_slice HO.out
      subst hv3
      cases gk with
      | zero => exact absurd HA1.out (by simp [scr])
      | succ k1 =>
        have H := HA1.out
        clear HA1
        simp only [scr] at H
        by_cases c4 : (ys.length : Int) > 0
        · rw [if_pos c4] at H
          have c4b : decide (0 < ys.length) = true := decide_eq_true (by omega)
          clear c4
          obtain ⟨size, hsize, H2⟩ := Option.bind_eq_some_iff.1 H
          have HA1 := Aside0.mk H2
          clear H H2
          obtain ⟨wo, rfl⟩ : ∃ wo : World, wo = wr := ⟨_, rfl⟩
          go_wp2_with (go_at_call 58; refine (shrink_pieces.calls _ _ size _ hsize).mono ?_; rintro en w3 ⟨rfl, ⟨nd, rfl⟩⟩)
          clear hsize
          go_loopg [11, 12, 14] k1 (fun kq v11 v12 v14 wr => v11 = .slice A1 ys.length c3 ∧ v12 = .int .i64 n ∧ ∃ (b i : Int), v14 = .int .i64 i ∧ Aside0 (scr p N asks kq ys n b (some (size, i)) = some (xs, a, e)) ∧ Aside0 (kq ≤ k1) ∧ Aside0 (Inv g lb w wr b) ∧ Aside0 (Rl w wr (.slice A1 ys.length c3) ys))
          case atStart => exact ⟨rfl, rfl, b, 0, rfl, HA1, ⟨Nat.le_refl _⟩, ⟨HI.out.drewN _⟩, ⟨HO.out.drewN _⟩⟩
          case round =>
            clear HA1 HI HO c4b
            obtain ⟨rfl, rfl, b, i, rfl, HA2, HK2, HI, HO⟩ := hrel
            cases gk with
            | zero => exact absurd HA2.out (by simp [scr])
            | succ k2 =>
              have H := HA2.out
              clear HA2
              simp only [scr] at H
              by_cases c5 : i < (ys.length : Int)
              · rw [if_pos c5] at H
                have c5b : decide (i < (ys.length : Int)) = true := decide_eq_true c5
                clear c5
                have hcell := HI.out.cell
                by_cases c6 : b = asks
                · rw [if_pos c6] at H
                  have c6b : (b == asks) = true := beq_iff_eq.mpr c6
                  clear c6
                  have HE := Aside0.mk H
                  clear H
                  go_wp2_with fail
                  go_quiet (fail)
                  go_wp2
                  rw [Exit.noGoto_ret]
                  go_ret3
                  obtain ⟨rfl, rfl, rfl⟩ : ys = xs ∧ b = a ∧ 8 = e := by have h := HE.out; simp only [Option.some.injEq, Prod.mk.injEq] at h; exact h
                  exact ⟨_, rfl, Kd.R_drewN (Kd.R_mono HO.out (fun _ _ => trivial)) _, pw_below_drewN HI.out.b _⟩
                · rw [if_neg c6] at H
                  have c6b : (b == asks) = false := beq_eq_false_iff_ne.mpr c6
                  clear c6
                  by_cases c7 : 0 ≤ b ∧ b < 9223372036854775807
                  · rw [if_pos c7] at H
                    have HB7 := Aside0.mk c7
                    clear c7
                    obtain ⟨less, hless, H2⟩ := Option.bind_eq_some_iff.1 H
                    clear H
                    by_cases c8 : less.length ≤ N
                    · rw [if_pos c8] at H2
                      have HL8 := Aside0.mk c8
                      have HA2 := Aside0.mk H2
                      have HW := Aside0.mk hless
                      clear H2 c8 hless
                      obtain ⟨_, hc3, hC3⟩ := Kd.R_reads' HO.out
                      have HC3 := Aside0.mk hC3
                      clear hC3
                      go_wp2_with fail
                      refine (shrink_Without.calls k2 A1 c3 ys i size less _ HC3.out hc3 HW.out).mono ?_
                      rintro en w4 ⟨v4, rfl, hv4, hb4⟩
                      have HI4 := Aside0.mk (HI.out.below hb4)
                      have HO4 := Aside0.mk (HO.out.below hb4)
                      have HL4 := Aside0.mk (Rl.made HI.out hv4)
                      clear hv4 hb4 HI HO HC3
                      obtain ⟨A4, c4, hv4⟩ := Kd.R_slice HL4.out
                      subst hv4
                      clear hcell
                      go_wp2_with fail
                      refine (ask_at hN hA HI4.out A4 c4 HL4.out HB7.out.1 HB7.out.2 HL8.out).mono ?_
                      rintro en w5 ⟨rfl, hb5⟩
                      have HI5 := Aside0.mk (HI4.out.asked hb5.out)
                      have HO5 := Aside0.mk (HO4.out.asked hb5.out)
                      have HL5 := Aside0.mk (HL4.out.asked hb5.out)
                      clear HI4 HO4 HL4 hb5
                      by_cases cp : p less = true
                      · have HA3 : Aside0 (scr p N asks k2 less (mx 2 (wrap64 (n - 1))) (b + 1) none = some (xs, a, e)) := ⟨by have h := HA2.out; rw [if_pos cp] at h; exact h⟩
                        clear HA2
                        rw [cp]
                        clear cp
                        by_cases cm : 2 < wrap64 (n - 1)
                        · have HA4 : Aside0 (scr p N asks k2 less (wrap64 (n - 1)) (b + 1) none = some (xs, a, e)) := ⟨by have h := HA3.out; unfold mx at h; rw [if_pos cm] at h; exact h⟩
                          clear HA3
                          go_wp2
                          go_roundg k2
                          case measure => have := HK2.out; omega
                          case rel => exact ⟨less, wrap64 (n - 1), b + 1, rfl, HA4, ⟨by have := HK2.out; have := HK1.out; omega⟩, HI5, HL5, HL8⟩
                        · have HA4 : Aside0 (scr p N asks k2 less 2 (b + 1) none = some (xs, a, e)) := ⟨by have h := HA3.out; unfold mx at h; rw [if_neg cm] at h; exact h⟩
                          clear HA3
                          go_wp2
                          go_roundg k2
                          case measure => have := HK2.out; omega
                          case rel => exact ⟨less, 2, b + 1, rfl, HA4, ⟨by have := HK2.out; have := HK1.out; omega⟩, HI5, HL5, HL8⟩
                      · have HA3 : Aside0 (scr p N asks k2 ys n (b + 1) (some (size, wrap64 (i + size))) = some (xs, a, e)) := ⟨by have h := HA2.out; rw [if_neg cp] at h; exact h⟩
                        clear HA2
                        replace cp := Bool.eq_false_iff.mpr cp
                        rw [cp]
                        clear cp
                        go_wp2
                        go_roundg k2
                        case measure => omega
                        case rel => exact ⟨rfl, rfl, b + 1, wrap64 (i + size), rfl, HA3, ⟨by have := HK2.out; omega⟩, HI5, HO5⟩
                    · rw [if_neg c8] at H2
                      exact absurd H2 (by simp)
                  · rw [if_neg c7] at H
                    exact absurd H (by simp)
              · rw [if_neg c5] at H
                have c5b : decide (i < (ys.length : Int)) = false := decide_eq_false c5
                clear c5
                have hcell := HI.out.cell
                by_cases c9 : n ≥ (ys.length : Int)
                · rw [if_pos c9] at H
                  have c9b : decide ((ys.length : Int) ≤ n) = true := decide_eq_true c9
                  clear c9
                  have HE := Aside0.mk H
                  clear H
                  go_wp2_with fail
                  go_quiet (fail)
                  go_wp2
                  rw [Exit.noGoto_ret]
                  go_ret3
                  obtain ⟨rfl, rfl, rfl⟩ : ys = xs ∧ b = a ∧ 0 = e := by have h := HE.out; simp only [Option.some.injEq, Prod.mk.injEq] at h; exact h
                  exact ⟨_, rfl, Kd.R_drewN (Kd.R_mono HO.out (fun _ _ => trivial)) _, pw_below_drewN HI.out.b _⟩
                · rw [if_neg c9] at H
                  have c9b : decide ((ys.length : Int) ≤ n) = false := decide_eq_false c9
                  clear c9
                  have HA3 := Aside0.mk H
                  clear H hcell
                  by_cases cm : (ys.length : Int) < wrap64 (2 * n)
                  · have HA4 : Aside0 (scr p N asks k2 ys (ys.length : Int) b none = some (xs, a, e)) := ⟨by have h := HA3.out; unfold mn at h; rw [if_pos cm] at h; exact h⟩
                    clear HA3
                    go_wp2
                    go_roundg k2
                    case measure => have := HK2.out; omega
                    case rel => exact ⟨ys, (ys.length : Int), b, rfl, HA4, ⟨by have := HK2.out; have := HK1.out; omega⟩, HI, HO, HL⟩
                  · have HA4 : Aside0 (scr p N asks k2 ys (wrap64 (2 * n)) b none = some (xs, a, e)) := ⟨by have h := HA3.out; unfold mn at h; rw [if_neg cm] at h; exact h⟩
                    clear HA3
                    go_wp2
                    go_roundg k2
                    case measure => have := HK2.out; omega
                    case rel => exact ⟨ys, wrap64 (2 * n), b, rfl, HA4, ⟨by have := HK2.out; have := HK1.out; omega⟩, HI, HO, HL⟩
        · rw [if_neg c4] at H
          have c4b : decide (0 < ys.length) = false := decide_eq_false (by omega)
          clear c4
          have HE := Aside0.mk H
          clear H
          have hcell := HI.out.cell
          go_wp2_with fail
          go_quiet (fail)
          go_wp2
          rw [Exit.noGoto_ret]
          go_ret3
          obtain ⟨rfl, rfl, rfl⟩ : ys = xs ∧ b = a ∧ 0 = e := by have h := HE.out; simp only [Option.some.injEq, Prod.mk.injEq] at h; exact h
          exact ⟨_, rfl, Kd.R_drewN (Kd.R_mono HO.out (fun _ _ => trivial)) _, pw_below_drewN HI.out.b _⟩
  · replace cp := Bool.eq_false_iff.mpr cp
    have HS1 : Aside0 (some (([] : List S111), (1 : Int), (5 : Int)) = some (xs, a, e)) := ⟨by have h := HS.out; unfold scrF at h; rw [if_neg (by rw [cp]; simp)] at h; exact h⟩
    rw [cp]
    go_wp2_with fail
    go_quiet (fail)
    go_wp2
    rw [Exit.noGoto_ret]
    go_ret3
    obtain ⟨rfl, rfl, rfl⟩ : xs = [] ∧ a = 1 ∧ e = 5 := by have h := HS1.out; simp only [Option.some.injEq, Prod.mk.injEq] at h; exact ⟨h.1.symm, h.2.1.symm, h.2.2.symm⟩
    exact ⟨_, rfl, Kd.R_nil _ _ _ _ _, pw_below_drewN HI2.out.b _⟩
end Go.Proofs.Ytgojfecpknonlaa.Shr
