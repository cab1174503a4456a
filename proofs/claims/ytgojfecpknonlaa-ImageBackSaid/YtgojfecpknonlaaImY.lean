/- Rows of references taken off bytes: function 106. -/
import Derived.Test.YtgojfecpknonlaaImW
namespace Go.Proofs.Ytgojfecpknonlaa.Im
open Go.RowKit Go.Proofs.YtgojfecpknonlaaW.PrintWords Go.Proofs.YtgojfecpknonlaaW.PrintLast Go.Proofs.YtgojfecpknonlaaW.PrintMore
open Go.Proofs.Ytgojfecpknonlaa.Own Go.Proofs.Ytgojfecpknonlaa.PIm Go.Proofs.Ytgojfecpknonlaa.Wv
set_option linter.unusedVariables false
set_option linter.unusedSimpArgs false

/-- The number of some bytes, the greatest first. -/
def ub (l : List Int) : Int := l.foldl (fun v b => 256 * v + b) 0
theorem ub_snoc (l : List Int) (x : Int) : ub (l ++ [x]) = 256 * ub l + x := by
  unfold ub
  rw [List.foldl_append]
  rfl
theorem vl_ub {L : List Int} (hB : Byt L) : ∀ (n : Nat), n ≤ L.length → vl (strOfNums L) n = ub (L.take n)
  | 0, _ => rfl
  | n + 1, h => by
    have hn : n < L.length := by omega
    rw [List.take_succ_eq_append_getElem hn, ub_snoc, ← vl_ub hB n (by omega), ← bt_str hB n hn]
    rfl
theorem extract_drop (L : List Int) (n : Nat) : (strOfNums L).extract n (strOfNums L).size = strOfNums (L.drop n) := by
  apply ByteArray.ext
  rw [ByteArray.data_extract]
  apply Array.ext'
  rw [Array.toList_extract, strOfNums_data, strOfNums_size]
  unfold strOfNums
  simp [List.map_drop]
  exact List.take_of_length_le (by simp)
theorem byt_drop {xs : List Int} (h : Byt xs) (n : Nat) : Byt (xs.drop n) := fun x hx => h x (List.mem_of_mem_drop hx)
theorem ub_in {l : List Int} (h : Byt l) : 0 ≤ ub l ∧ ub l < 256 ^ l.length := by
  have h1 := vl_ub h l.length (Nat.le_refl _)
  rw [List.take_length] at h1
  rw [← h1]
  exact vl_in _ _
theorem takeL_calls (width : Nat) (hw : width ≤ 8) (L : List Int) (hB : Byt L) (hl : L.length ≤ 1000000) (gb : Nat) (w : World) (hh : Holds w gb 9 [.string (strOfNums L)]) :
    Calls Try.prog 105 #[.int .i64 (width : Int), .pointer (some ⟨gb, 0, none⟩)] w fun e w' => Kp (fun q => q = gb) w w' ∧ ((L.length < width ∧ e = .panicked brkP) ∨ (width ≤ L.length ∧ e = .returned (.int .u64 (ub (L.take width))) ∧ Holds w' gb 9 [.string (strOfNums (L.drop width))])) := by
  refine (take_calls width hw (strOfNums L) (by rw [strOfNums_size]; exact hl) gb w hh).mono ?_
  rintro e w' ⟨hk, (⟨h1, h2⟩ | ⟨h1, h2, h3⟩)⟩
  · exact ⟨hk, .inl ⟨by rwa [strOfNums_size] at h1, h2⟩⟩
  · rw [strOfNums_size] at h1
    exact ⟨hk, .inr ⟨h1, by rw [h2, vl_ub hB width h1], by rwa [extract_drop] at h3⟩⟩
def refsL (n : Nat) (L : List Int) : List Int := (List.range n).map (fun i => ub ((L.drop (2 * i)).take 2))
theorem refsL_succ (n : Nat) (L : List Int) : refsL (n + 1) L = refsL n L ++ [ub ((L.drop (2 * n)).take 2)] := by
  unfold refsL
  rw [List.range_succ, List.map_append]
  rfl
theorem refsL_length (n : Nat) (L : List Int) : (refsL n L).length = n := by simp [refsL]
theorem ub2_in {L : List Int} (h : Byt L) : 0 ≤ ub (L.take 2) ∧ ub (L.take 2) ≤ 65535 := by
  have h1 := ub_in (byt_take h 2)
  have h2 : (L.take 2).length ≤ 2 := by rw [List.length_take]; omega
  have h3 : (256 : Int) ^ (L.take 2).length ≤ 256 ^ 2 := by
    have hc : (L.take 2).length = 0 ∨ (L.take 2).length = 1 ∨ (L.take 2).length = 2 := by omega
    rcases hc with h | h | h <;> rw [h] <;> decide
  have h4 : (256 : Int) ^ 2 = 65536 := by decide
  omega
theorem i64_in {n : Int} (h : 0 ≤ n ∧ n ≤ 65535) : IntKind.i64.wrap n = n := by rw [IntKind.wrap_i64]; omega
def f105V (gb : Nat) : Value := .func (.func 105) #[] #[.pointer (some ⟨gb, 0, none⟩)]
set_option maxHeartbeats 2000000 in
set_option maxRecDepth 100000 in
theorem refsT_calls (n : Nat) (hn : n ≤ 100000) (L : List Int) (hB : Byt L) (hl : L.length ≤ 1000000) (gb g4 : Nat) (w : World) (hh : Holds w gb 9 [.string (strOfNums L)]) (h4 : Holds w g4 164 [f105V gb]) :
    Calls Try.prog 106 #[.int .i64 (n : Int), .pointer (some ⟨g4, 0, none⟩)] w fun e w' => Kp (fun q => q = gb) w w' ∧ ((L.length < 2 * n ∧ e = .panicked brkP) ∨ (2 * n ≤ L.length ∧ ∃ v, e = .returned v ∧ Kd.R (Kd.int .i64) 3 w' w.heap.size (fun _ => True) v (refsL n L) ∧ Holds w' gb 9 [.string (strOfNums (L.drop (2 * n)))])) := by
  have HH := Aside0.mk hh
  have H4 := Aside0.mk h4
  have HB := Aside0.mk hB
  have HL := Aside0.mk hl
  have HNE : Aside0 (g4 ≠ gb) := ⟨fun e => by subst e; have := h4.symm.trans hh; injection this with this; injection this with _ this; cases this⟩
  clear hh h4 hB hl
  go_enter Try.func106, Try.ntmps106
  go_wp2_with fail
  go_loopg [4, 6] n (fun kq v4 v6 w' => ∃ (i : Nat) (A : Option Addr) (c : Nat), v4 = .slice A i c ∧ v6 = .int .i64 (i : Int) ∧ i + kq = n ∧ Aside0 (2 * i ≤ L.length) ∧ Aside0 (Kp (fun q => q = gb) w w') ∧ Aside0 (Kd.R (Kd.int .i64) 3 w' w.heap.size (fun _ => True) (.slice A i c) (refsL i L)) ∧ Aside0 (Holds w' gb 9 [.string (strOfNums (L.drop (2 * i)))]))
  case atStart => exact ⟨0, none, 0, rfl, rfl, by omega, ⟨by omega⟩, ⟨Kp.refl _ _⟩, ⟨Kd.R_nil _ _ _ _ _⟩, ⟨by rw [Nat.mul_zero, List.drop_zero]; exact HH.out⟩⟩
  case round =>
    obtain ⟨i, Ao, co, rfl, rfl, hi, HIL, HK, HR, HS⟩ := hrel
    obtain ⟨W0, rfl⟩ : ∃ W0, W0 = wr := ⟨wr, rfl⟩
    cases gk with
    | zero =>
      have r1 : decide ((i : Int) < (n : Int)) = false := decide_eq_false (by omega)
      have r2 : decide (i < n) = false := decide_eq_false (by omega)
      have hin : i = n := by omega
      subst hin
      clear hi
      go_wp2_with fail
      refine bodyPost_ret (results_tmp rfl _ _ _) rfl ?_
      exact ⟨HK.out, .inr ⟨HIL.out, _, rfl, HR.out, HS.out⟩⟩
    | succ k1 =>
      have hil : i < n := by omega
      have r1 : decide ((i : Int) < (n : Int)) = true := decide_eq_true (by omega)
      have r2 : decide (i < n) = true := decide_eq_true (by omega)
      have H4w := Aside0.mk (HK.out.holds H4.out (fun e => HNE.out e))
      have x4 : W0.cell? ⟨g4, 0, none⟩ = some (.func (.func 105) #[] #[.pointer (some ⟨gb, 0, none⟩)]) := (H4w.out.cell 0).trans rfl
      have HI := Aside0.mk hi
      have HIN := Aside0.mk hil
      have hix : i < 1000000000 := by omega
      have hu2 := ub2_in (byt_drop HB.out (2 * i))
      have hw2 := i64_in hu2
      have HU2 := Aside0.mk hu2
      clear hi hil hu2
      go_wp2_with (first
        | (go_at_call 105; go_must (refine (takeL_calls 2 (by decide) (L.drop (2 * i)) (byt_drop HB.out _) (by rw [List.length_drop]; have := HL.out; omega) gb _ HS.out).mono ?_); rintro e w3 ⟨hk3, (⟨hlt, rfl⟩ | ⟨hge, rfl, hb3⟩)⟩; (· exact ⟨rfl, HK.out.trans hk3 (fun _ _ h => h), .inl ⟨by rw [List.length_drop] at hlt; have := HIN.out; omega, rfl⟩⟩); rw [List.length_drop] at hge; rw [List.drop_drop] at hb3; have HK3 := Aside0.mk (HK.out.trans hk3 (fun _ _ h => h)); have HB3 := Aside0.mk hb3; have HGE := Aside0.mk hge; have HR3 := Aside0.mk (hk3.RI HR.out (fun q hq e => by subst e; obtain ⟨inner, ho⟩ := Kd.R_own HR.out; obtain ⟨cells, hc⟩ := own_typed ho q hq; have := hc.symm.trans HS.out; injection this with this; injection this with _ this; cases this)); clear hk3 hb3 hge)
        | (at_builtin; go_must (refine Kd.R_append (Kd.int .i64) (w0 := w3) w.heap.size rfl (.tmp 8) (.tmp 12) 26 3 (.int .i64 0) 8 rfl Try.underlying26 info3c rfl (by decide) (by omega) _ (refsL i L) (ub ((L.drop (2 * i)).take 2)) [.int .i64 (ub ((L.drop (2 * i)).take 2))] (fun _ => True) (fun _ => False) rfl rfl rfl (fun _ hk => hk.elim) (fun _ _ => trivial) HR3.out (Below.refl _ _) HK3.out.size (by rw [refsL_length]; omega) ?_); intro v2 w4 ho2 hb2 hg2 hat2; obtain ⟨A2, c2, rfl⟩ := Kd.R_slice ho2; rw [← refsL_succ, refsL_length] at ho2; rw [show (refsL i L ++ [ub ((L.drop (2 * i)).take 2)]).length = i + 1 by rw [List.length_append, refsL_length]; rfl]; have HO2 := Aside0.mk ho2; have HG2 := Aside0.mk hg2; clear ho2 hb2 hg2 hat2))
      go_roundg k1
      case measure => have := HI.out; omega
      case rel =>
        refine ⟨i + 1, A2, c2, rfl, rfl, by have := HI.out; omega, ⟨by have := HGE.out; omega⟩, ⟨HK3.out.trans (Kp.of_grown HG2.out) (fun q hq h => ?_)⟩, HO2, ⟨?_⟩⟩
        · have := Kd.R_base HR3.out q h.symm
          omega
        · have h := holds_grown HB3.out HG2.out (Kd.R_ne HR3.out HB3.out (by decide))
          rwa [show 2 * i + 2 = 2 * (i + 1) by omega] at h
end Go.Proofs.Ytgojfecpknonlaa.Im

