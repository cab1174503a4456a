/- An image that is known: function 36. -/
import Derived.Test.YtgojfecpknonlaaImAf
import Derived.Test.YtgojfecpknonlaaImV
namespace Go.Proofs.Ytgojfecpknonlaa.Im
open Go.RowKit Go.Proofs.YtgojfecpknonlaaW.PrintWords Go.Proofs.YtgojfecpknonlaaW.PrintLast Go.Proofs.YtgojfecpknonlaaW.PrintMore
open Go.Proofs.Ytgojfecpknonlaa.Own Go.Proofs.Ytgojfecpknonlaa.PIm Go.Proofs.Ytgojfecpknonlaa.Wv
set_option linter.unusedVariables false
set_option linter.unusedSimpArgs false

def S0 : Sh := ⟨[⟨[0], []⟩], [], []⟩
def L0 : List Int := [68, 77, 83, 72, 1, 1, 0, 0, 0, 0, 0, 0, 1, 46]
def L1 : List Int := [68, 77, 83, 72, 1, 1, 0, 0, 0, 0, 0, 0, 0, 0]
theorem may_S0 : mayF S0 = true := by kernel_rfl
theorem put_S0 : putB S0 = L0 := by kernel_rfl
theorem take_L0 : takeF L0 = (some S0, 0) := by kernel_rfl
theorem take_L1 : takeF L1 = (none, 6) := by kernel_rfl
theorem may_no : mayF ⟨[], [], []⟩ = false := by kernel_rfl
theorem byt_L0 : Byt L0 := by unfold Byt L0; decide
theorem byt_L1 : Byt L1 := by unfold Byt L1; decide
theorem mid_S0 : Mid S0 := ⟨by decide, by decide, by decide, by decide, by decide⟩
theorem mid_no : Mid ⟨[], [], []⟩ := ⟨by decide, by decide, by decide, by decide, by decide⟩
theorem str_L0 : strOfNums L0 = ⟨#[68, 77, 83, 72, 1, 1, 0, 0, 0, 0, 0, 0, 1, 46]⟩ := by kernel_rfl
theorem str_L1 : strOfNums L1 = ⟨#[68, 77, 83, 72, 1, 1, 0, 0, 0, 0, 0, 0, 0, 0]⟩ := by kernel_rfl
theorem putV_S0 : putV S0 = (.string ⟨#[68, 77, 83, 72, 1, 1, 0, 0, 0, 0, 0, 0, 1, 46]⟩, 0) := by
  unfold putV
  rw [if_neg (by rw [may_S0]; decide), if_neg (by decide), put_S0, str_L0]
theorem putV_no : putV ⟨[], [], []⟩ = (.string ⟨#[]⟩, 2) := by
  unfold putV
  rw [if_pos may_no]
theorem sh_S0 {w : World} {g0 g1 : Nat} (h0 : Holds w g0 3 [.int .i64 0]) (h1 : Holds w g1 128 [.slice (some ⟨g0, 0, none⟩) 1 1, .slice none 0 0]) : IsSh w (.agg #[.slice (some ⟨g1, 0, none⟩) 1 1, .slice none 0 0, .slice none 0 0]) S0 := by
  have hz := zero_sh w
  obtain ⟨A0, c0, A1, c1, A2, c2, e, l0, z0, l1, z1, l2, z2⟩ := hz
  injection e with e
  have e0 := congrArg (fun a => a.toList) e
  simp only [List.cons.injEq, Value.slice.injEq] at e0
  obtain ⟨⟨rfl, _, rfl⟩, ⟨rfl, _, rfl⟩, ⟨rfl, _, rfl⟩, _⟩ := e0
  have hr : IV .i64 w (.slice (some ⟨g0, 0, none⟩) 1 1) [0] := ⟨_, _, rfl, Nat.le_refl _, C_block (Kd.int .i64) h0 reps1i (by decide)⟩
  have hn : IV .i64 w (.slice none 0 0) [] := ⟨_, _, rfl, Nat.le_refl _, z1⟩
  have hk : Kd.C k124 w (some ⟨g1, 0, none⟩) 1 [⟨[0], []⟩] := C_block k124 (xs := [⟨[0], []⟩]) h1 ⟨rfl, fun j q hq => by
    cases j with
    | zero =>
      obtain rfl : (⟨[0], []⟩ : S124) = q := by simpa using hq
      exact k124_iv (p := (.slice (some ⟨g0, 0, none⟩) 1 1, .slice none 0 0)) hr hn
    | succ j => simp at hq⟩ (by decide)
  exact ⟨_, _, _, _, _, _, rfl, Nat.le_refl _, hk, Nat.le_refl _, z1, Nat.le_refl _, z2⟩
theorem put37_S0 (v : Value) (w : World) (hv : IsSh w v S0) : Calls Try.prog 37 #[v] w fun e w' => e = .returned (.tuple #[.string ⟨#[68, 77, 83, 72, 1, 1, 0, 0, 0, 0, 0, 0, 1, 46]⟩, .int .i64 0]) ∧ Below w.heap.size w w' := by
  refine (put37_calls S0 mid_S0 v w hv).mono ?_
  rintro e w' ⟨rfl, hb⟩
  exact ⟨by rw [putV_S0], hb⟩
theorem put37_no (w : World) : Calls Try.prog 37 #[.agg #[.slice none 0 0, .slice none 0 0, .slice none 0 0]] w fun e w' => e = .returned (.tuple #[.string ⟨#[]⟩, .int .i64 2]) ∧ Below w.heap.size w w' := by
  refine (put37_calls ⟨[], [], []⟩ mid_no _ w (zero_sh w)).mono ?_
  rintro e w' ⟨rfl, hb⟩
  exact ⟨by rw [putV_no], hb⟩
theorem take40_L0 (w : World) : Calls Try.prog 40 #[.string ⟨#[68, 77, 83, 72, 1, 1, 0, 0, 0, 0, 0, 0, 1, 46]⟩] w fun e w' => ∃ (A0 : Option Addr) (n0 c0 : Nat) (A1 : Option Addr) (n1 c1 : Nat) (A2 : Option Addr) (n2 c2 : Nat), e = .returned (.tuple #[.agg #[.slice A0 n0 c0, .slice A1 n1 c1, .slice A2 n2 c2], .int .i64 0]) ∧ Below w.heap.size w w' ∧ IsSh w' (.agg #[.slice A0 n0 c0, .slice A1 n1 c1, .slice A2 n2 c2]) S0 := by
  have h := takeI_calls L0 byt_L0 (by decide) w
  rw [str_L0] at h
  unfold RTake at h
  rw [take_L0] at h
  exact h
theorem take40_L1 (w : World) : Calls Try.prog 40 #[.string ⟨#[68, 77, 83, 72, 1, 1, 0, 0, 0, 0, 0, 0, 0, 0]⟩] w fun e w' => ∃ (A0 : Option Addr) (n0 c0 : Nat) (A1 : Option Addr) (n1 c1 : Nat) (A2 : Option Addr) (n2 c2 : Nat), e = .returned (.tuple #[.agg #[.slice A0 n0 c0, .slice A1 n1 c1, .slice A2 n2 c2], .int .i64 6]) ∧ Below w.heap.size w w' := by
  have h := takeI_calls L1 byt_L1 (by decide) w
  rw [str_L1] at h
  unfold RTake at h
  rw [take_L1] at h
  refine h.mono ?_
  rintro e w' ⟨A0, n0, c0, A1, n1, c1, A2, n2, c2, h1, h2, _⟩
  exact ⟨A0, n0, c0, A1, n1, c1, A2, n2, c2, h1, h2⟩
set_option maxHeartbeats 4000000 in
set_option maxRecDepth 100000 in
theorem wakes36_calls (w : World) : Calls Try.prog 36 #[] w fun e w' => e = .returned (.bool true) ∧ Below w.heap.size w w' := by
  have hu89 := Try.underlying89
  go_enter Try.func36, Try.ntmps36
  go_upto_region 2 with (fail)
  have s0 := World.size_alloc w (Obj.cells #[Value.int .i64 0] 3)
  have h0 : Holds (w.alloc (Obj.cells #[Value.int .i64 0] 3)) w.heap.size 3 [.int .i64 0] := hold_alloc rfl
  have b0 : Below w.heap.size w (w.alloc (Obj.cells #[Value.int .i64 0] 3)) := below_alloc (Below.refl _ _) _
  generalize w.alloc (Obj.cells #[Value.int .i64 0] 3) = w1 at s0 h0 b0 ⊢
  have h1 : Holds (w1.alloc (Obj.cells #[Value.slice (some ⟨w.heap.size, 0, none⟩) 1 1, Value.slice none 0 0] 128)) (w.heap.size + 1) 128 [.slice (some ⟨w.heap.size, 0, none⟩) 1 1, .slice none 0 0] := hold_alloc s0.symm
  have b1 : Below w1.heap.size w1 (w1.alloc (Obj.cells #[Value.slice (some ⟨w.heap.size, 0, none⟩) 1 1, Value.slice none 0 0] 128)) := below_alloc (Below.refl _ _) _
  have s1 : (w1.alloc (Obj.cells #[Value.slice (some ⟨w.heap.size, 0, none⟩) 1 1, Value.slice none 0 0] 128)).heap.size = w.heap.size + 1 + 1 := by rw [World.size_alloc, s0]
  generalize w1.alloc (Obj.cells #[Value.slice (some ⟨w.heap.size, 0, none⟩) 1 1, Value.slice none 0 0] 128) = w2 at h1 b1 s1 ⊢
  have h2 : Holds (w2.alloc (Obj.cells #[Value.slice (some ⟨w.heap.size + 1, 0, none⟩) 1 1, Value.slice none 0 0, Value.slice none 0 0] 89)) (w.heap.size + 1 + 1) 89 [.slice (some ⟨w.heap.size + 1, 0, none⟩) 1 1, .slice none 0 0, .slice none 0 0] := hold_alloc s1.symm
  have b2 : Below w2.heap.size w2 (w2.alloc (Obj.cells #[Value.slice (some ⟨w.heap.size + 1, 0, none⟩) 1 1, Value.slice none 0 0, Value.slice none 0 0] 89)) := below_alloc (Below.refl _ _) _
  generalize w2.alloc (Obj.cells #[Value.slice (some ⟨w.heap.size + 1, 0, none⟩) 1 1, Value.slice none 0 0, Value.slice none 0 0] 89) = w3 at h2 b2 ⊢
  have HB3 := Aside0.mk (below_then (below_then b0 b0.size b1) (Nat.le_trans b0.size b1.size) b2)
  have HS3 := Aside0.mk (sh_S0 ((h0.below b1).below b2) (h1.below b2))
  have HH3 := Aside0.mk h2
  generalize w.heap.size + 1 + 1 = p1 at HH3 ⊢
  generalize hg1 : w.heap.size + 1 = p0 at HS3 HH3 ⊢
  clear h0 h1 h2 s0 s1 b0 b1 b2 hg1
  have x0 : w3.cell? ⟨p1, 0, none⟩ = some (.slice (some ⟨p0, 0, none⟩) 1 1) := (HH3.out.cell 0).trans rfl
  have x1 : w3.cell? ⟨p1, 1, none⟩ = some (.slice none 0 0) := (HH3.out.cell 1).trans rfl
  have x2 : w3.cell? ⟨p1, 2, none⟩ = some (.slice none 0 0) := (HH3.out.cell 2).trans rfl
  go_upto_region 3 with (go_at_call 37; go_must (refine (put37_S0 _ _ HS3.out).mono ?_); rintro e w4 ⟨rfl, hb⟩; have HB4 := Aside0.mk (below_then HB3.out HB3.out.size hb); have HS4 := Aside0.mk (HS3.out.below hb); have HH4 := Aside0.mk (HH3.out.below hb); clear hb)
  clear x0 x1 x2 HS3 HH3 HB3
  go_upto_region 4 with (go_at_call 40; go_must (refine (take40_L0 _).mono ?_); rintro e w5 ⟨A0, n0, c0, A1, n1, c1, A2, n2, c2, rfl, hb, hs⟩; have HB5 := Aside0.mk (below_then HB4.out HB4.out.size hb); have HS5 := Aside0.mk (HS4.out.below hb); have HH5 := Aside0.mk (HH4.out.below hb); have HT5 := Aside0.mk hs; clear hb hs)
  have h6 : Holds (w5.alloc (Obj.cells #[Value.slice A0 n0 c0, Value.slice A1 n1 c1, Value.slice A2 n2 c2] 89)) w5.heap.size 89 [.slice A0 n0 c0, .slice A1 n1 c1, .slice A2 n2 c2] := hold_alloc rfl
  have b6 : Below w5.heap.size w5 (w5.alloc (Obj.cells #[Value.slice A0 n0 c0, Value.slice A1 n1 c1, Value.slice A2 n2 c2] 89)) := below_alloc (Below.refl _ _) _
  generalize w5.alloc (Obj.cells #[Value.slice A0 n0 c0, Value.slice A1 n1 c1, Value.slice A2 n2 c2] 89) = w6 at h6 b6 ⊢
  generalize w5.heap.size = p2 at h6 ⊢
  have HB6 := Aside0.mk (below_then HB5.out HB5.out.size b6)
  have HS6 := Aside0.mk (HS5.out.below b6)
  have HH6 := Aside0.mk (HH5.out.below b6)
  have HT6 := Aside0.mk (HT5.out.below b6)
  have HI6 := Aside0.mk h6
  clear h6 b6 HB5 HS5 HH5 HT5 HB4 HS4 HH4
  go_upto_region 5 with (go_at_call 40; go_must (refine (take40_L1 _).mono ?_); rintro e w7 ⟨B0, m0, d0, B1, m1, d1, B2, m2, d2, rfl, hb⟩; have HB7 := Aside0.mk (below_then HB6.out HB6.out.size hb); have HS7 := Aside0.mk (HS6.out.below hb); have HH7 := Aside0.mk (HH6.out.below hb); have HT7 := Aside0.mk (HT6.out.below hb); have HI7 := Aside0.mk (HI6.out.below hb); clear hb)
  have b8 : Below w7.heap.size w7 (w7.alloc (Obj.cells #[Value.slice B0 m0 d0, Value.slice B1 m1 d1, Value.slice B2 m2 d2] 89)) := below_alloc (Below.refl _ _) _
  generalize w7.alloc (Obj.cells #[Value.slice B0 m0 d0, Value.slice B1 m1 d1, Value.slice B2 m2 d2] 89) = w8 at b8 ⊢
  have HB8 := Aside0.mk (below_then HB7.out HB7.out.size b8)
  have HS8 := Aside0.mk (HS7.out.below b8)
  have HH8 := Aside0.mk (HH7.out.below b8)
  have HT8 := Aside0.mk (HT7.out.below b8)
  have HI8 := Aside0.mk (HI7.out.below b8)
  clear b8 HB7 HS7 HH7 HT7 HI7 HB6 HS6 HH6 HT6 HI6
  go_upto_region 6 with (go_at_call 37; go_must (refine (put37_no _).mono ?_); rintro e w9 ⟨rfl, hb⟩; have HB9 := Aside0.mk (below_then HB8.out HB8.out.size hb); have HS9 := Aside0.mk (HS8.out.below hb); have HH9 := Aside0.mk (HH8.out.below hb); have HT9 := Aside0.mk (HT8.out.below hb); have HI9 := Aside0.mk (HI8.out.below hb); clear hb)
  have x0 : w9.cell? ⟨p1, 0, none⟩ = some (.slice (some ⟨p0, 0, none⟩) 1 1) := (HH9.out.cell 0).trans rfl
  have x1 : w9.cell? ⟨p1, 1, none⟩ = some (.slice none 0 0) := (HH9.out.cell 1).trans rfl
  have x2 : w9.cell? ⟨p1, 2, none⟩ = some (.slice none 0 0) := (HH9.out.cell 2).trans rfl
  have y0 : w9.cell? ⟨p2, 0, none⟩ = some (.slice A0 n0 c0) := (HI9.out.cell 0).trans rfl
  have y1 : w9.cell? ⟨p2, 1, none⟩ = some (.slice A1 n1 c1) := (HI9.out.cell 1).trans rfl
  have y2 : w9.cell? ⟨p2, 2, none⟩ = some (.slice A2 n2 c2) := (HI9.out.cell 2).trans rfl
  go_wp2_with (go_at_call 41; go_must (refine (same_calls S0 S0 _ _ _ mid_S0.small HT9.out HS9.out).mono ?_); rintro e w10 ⟨rfl, hb⟩; rw [sameB_refl]; have HB10 := Aside0.mk (below_then HB9.out HB9.out.size hb); clear hb)
  go_ret
  exact ⟨rfl, HB10.out⟩
end Go.Proofs.Ytgojfecpknonlaa.Im

