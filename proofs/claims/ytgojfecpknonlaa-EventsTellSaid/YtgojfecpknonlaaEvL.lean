/- slices' SortStableFunc over events, and events.Points. -/
import Derived.Test.YtgojfecpknonlaaEvK
namespace Go.Proofs.Ytgojfecpknonlaa.Ev
open Go.RowKit Go.Proofs.YtgojfecpknonlaaW.PrintWords Go.Proofs.YtgojfecpknonlaaW.PrintLast Go.Proofs.YtgojfecpknonlaaW.PrintMore
open Go.Proofs.Ytgojfecpknonlaa.Own Go.Proofs.Ytgojfecpknonlaa.PSt
set_option linter.unusedVariables false
set_option linter.unusedSimpArgs false

/-- A row of blocks in order, all but the last one full. -/
inductive Blk (k : Nat) : List S72 → Prop
  | last (S : List S72) : Srt S → S.length ≤ k → Blk k S
  | more (S T : List S72) : Srt S → S.length = k → Blk k T → Blk k (S ++ T)
inductive Full (k : Nat) : List S72 → Prop
  | nil : Full k []
  | snoc (A S : List S72) : Full k A → Srt S → S.length = k → Full k (A ++ S)
theorem full_blk {k : Nat} {A : List S72} (h : Full k A) : ∀ {S : List S72}, Blk k S → Blk k (A ++ S) := by
  induction h with
  | nil => exact fun h => h
  | snoc A S _ hS hl ih => exact fun {T} hT => by rw [List.append_assoc]; exact ih (Blk.more S T hS hl hT)
theorem srt_nil : Srt [] := List.Pairwise.nil
theorem blk_split {k : Nat} {B : List S72} (h : Blk k B) (hl : k ≤ B.length) : ∃ S T, B = S ++ T ∧ Srt S ∧ S.length = k ∧ Blk k T := by
  cases h with
  | last _ hS hle => exact ⟨B, [], (List.append_nil B).symm, hS, by omega, Blk.last [] srt_nil (Nat.zero_le _)⟩
  | more S T hS hle hT => exact ⟨S, T, rfl, hS, hle, hT⟩
theorem blk_short {k : Nat} {B : List S72} (h : Blk k B) (hl : B.length ≤ k) : Srt B := by
  cases h with
  | last _ hS hle => exact hS
  | more S T hS hle hT =>
    have : T = [] := List.eq_nil_of_length_eq_zero (by rw [List.length_append] at hl; omega)
    rw [this, List.append_nil]
    exact hS

set_option maxHeartbeats 1500000 in
set_option maxRecDepth 100000 in
theorem stable_calls (Z : List S72) (g n c : Nat) (w : World) (hr : Row w g Z) (hn : n = Z.length) (hs : n < 1000000000) :
    Calls Try.prog 110 #[.slice (some ⟨g, 0, none⟩) n c, .int .i64 (n : Int), .func (.func 92) #[] #[]] w (Sorted w g [] Z []) := by
  have HR := Aside0.mk hr
  have HN := Aside0.mk hn
  have HS := Aside0.mk hs
  have hnl : n < 1000000000 := hs
  clear hr hn hs
  go_enter Try.func110, Try.ntmps110
  go_wp2_with fail
  go_loopg [7, 8] n (fun kq v7 v8 w' => ∃ (a : Nat) (A B : List S72), v7 = .int .i64 (a : Int) ∧ v8 = .int .i64 ((a + 20 : Nat) : Int) ∧ B.length ≤ kq ∧ Aside0 (a = A.length) ∧ Aside0 (Full 20 A) ∧ Aside0 (Same Z (A ++ B) ∧ A.length + B.length = n) ∧ Aside0 (Row w' g (A ++ B)) ∧ Aside0 (w.grownBy w' (some g)))
  case atStart => exact ⟨0, [], Z, rfl, rfl, by rw [HN.out]; omega, ⟨rfl⟩, ⟨Full.nil⟩, ⟨Same.refl _, by have := HN.out; simp only [List.length_nil]; omega⟩, HR, ⟨grown_refl _ _⟩⟩
  case round =>
    obtain ⟨a, A, B, rfl, rfl, hk, HA, HF, HQ, HZ, HG⟩ := hrel
    obtain ⟨b, hb⟩ : ∃ b, b = a + 20 := ⟨_, rfl⟩
    rw [← hb]
    have HB := Aside0.mk hb
    have HK := Aside0.mk hk
    have hal : a < 1000000000 := by have := HA.out; have := HQ.out.2; omega
    have hbl : b < 2000000000 := by omega
    by_cases hlt : b ≤ n
    · cases gk with
      | zero => have := HA.out; have := HQ.out.2; omega
      | succ k1 =>
        have d1 : decide ((b : Int) ≤ (n : Int)) = true := decide_eq_true (by omega)
        have d2 : decide (b ≤ n) = true := decide_eq_true hlt
        have hBl : 20 ≤ B.length := by have := HA.out; have := HQ.out.2; omega
        have HBL := Aside0.mk hBl
        have HC := Aside0.mk (insertion_calls A (B.take 20) (B.drop 20) a b g n c wr HA.out (by rw [List.length_take]; have := HA.out; omega) (by rw [List.take_append_drop]; exact HZ.out) (by rw [List.length_take, List.length_drop]; have := HQ.out.2; omega) HS.out)
        clear hb hk hlt hBl
        go_wp2_with (go_at_call 115; refine HC.out.mono ?_; rintro e w1 ⟨rfl, S1, hr1, hl1, hl2, hl3, hg1⟩; have HR1 := Aside0.mk hr1; have HG1 := Aside0.mk hg1; have HS1 := Aside0.mk hl1; have HS2 := Aside0.mk hl2; have HS3 := Aside0.mk hl3; clear hr1 hg1 hl1 hl2 hl3)
        go_roundg k1
        case measure => have := HK.out; have := HBL.out; omega
        case rel =>
          have hl3 : S1.length = 20 := by rw [HS3.out, List.length_take]; have := HBL.out; omega
          refine ⟨b, A ++ S1, B.drop 20, rfl, ?_, by rw [List.length_drop]; have := HK.out; have := HBL.out; omega, ⟨by rw [List.length_append, hl3]; have := HA.out; have := HB.out; omega⟩, ⟨Full.snoc A S1 HF.out HS1.out hl3⟩, ⟨?_, by rw [List.length_append, List.length_drop, hl3]; have := HQ.out.2; have := HBL.out; omega⟩, ⟨by rw [List.append_assoc]; exact HR1.out⟩, ⟨grown_trans HG.out HG1.out⟩⟩
          · rw [Int.natCast_add]; rfl
          · refine HQ.out.1.trans ?_
            rw [List.append_assoc]
            refine (Same.refl A).append ?_
            have h := HS2.out.append (Same.refl (B.drop 20))
            rw [List.take_append_drop] at h
            exact h
    · have d1 : decide ((b : Int) ≤ (n : Int)) = false := decide_eq_false (by omega)
      have d2 : decide (b ≤ n) = false := decide_eq_false hlt
      have HBL := Aside0.mk (show B.length ≤ 20 by have := HA.out; have := HQ.out.2; omega)
      have HC := Aside0.mk (insertion_calls A B [] a n g n c wr HA.out (by have := HQ.out.2; omega) (by rw [List.append_nil]; exact HZ.out) (by rw [List.length_nil]; have := HQ.out.2; omega) HS.out)
      clear hb hk hlt
      go_upto_block 2 with (go_at_call 115; refine HC.out.mono ?_; rintro e w1 ⟨rfl, S1, hr1, hl1, hl2, hl3, hg1⟩; have HR1 := Aside0.mk hr1; have HG1 := Aside0.mk hg1; have HS1 := Aside0.mk hl1; have HS2 := Aside0.mk hl2; have HS3 := Aside0.mk hl3; clear hr1 hg1 hl1 hl2 hl3)
      have HBK : Aside0 (Blk 20 (A ++ S1)) := ⟨full_blk HF.out (Blk.last S1 HS1.out (by rw [HS3.out]; exact HBL.out))⟩
      have HSM : Aside0 (Same Z (A ++ S1) ∧ (A ++ S1).length = n) := ⟨HQ.out.1.trans ((Same.refl A).append HS2.out), by rw [List.length_append, HS3.out]; exact HQ.out.2⟩
      have HZ1 : Aside0 (Row w1 g (A ++ S1)) := ⟨by have h := HR1.out; rw [List.append_nil] at h; exact h⟩
      have HG2 := Aside0.mk (grown_trans HG.out HG1.out)
      clear HZ HG HR1 HG1 HS1 HS2 HS3 HC HBL HF HQ
      obtain ⟨Z1, hZ1⟩ : ∃ Z1, Z1 = A ++ S1 := ⟨_, rfl⟩
      rw [← hZ1] at HBK HSM HZ1
      clear hZ1 HA HB HK hal hbl d1 d2
      go_wp2_with fail
      go_loopg [6] n (fun kq v6 w' => ∃ (bs : Nat) (Y : List S72), v6 = .int .i64 (bs : Int) ∧ n ≤ kq + bs ∧ 0 < bs ∧ bs < 2000000000 ∧ Aside0 (Blk bs Y) ∧ Aside0 (Same Z Y ∧ Y.length = n) ∧ Aside0 (Row w' g Y) ∧ Aside0 (w.grownBy w' (some g)))
      case atStart => exact ⟨20, Z1, rfl, by omega, by omega, by omega, HBK, HSM, HZ1, HG2⟩
      case round =>
        clear HBK HSM HZ1 HG2
        obtain ⟨bs, Y, rfl, hbk, hb0, hbs, HBK, HSM, HZ1, HG1⟩ := hrel
        by_cases hlt : bs < n
        · cases gk with
          | zero => omega
          | succ k2 =>
            have d1 : decide ((bs : Int) < (n : Int)) = true := decide_eq_true (by omega)
            have d2 : decide (bs < n) = true := decide_eq_true hlt
            have HLT := Aside0.mk hlt
            have HB0 := Aside0.mk hb0
            have HK2 := Aside0.mk hbk
            have hbs2 : bs < 1000000000 := by omega
            clear hbk hb0 hlt hbs
            go_wp2_with fail
            go_loopg [7, 8] n (fun kq v7 v8 w' => ∃ (a : Nat) (A B : List S72), v7 = .int .i64 (a : Int) ∧ v8 = .int .i64 ((a + 2 * bs : Nat) : Int) ∧ B.length ≤ kq ∧ Aside0 (a = A.length) ∧ Aside0 (Full (2 * bs) A) ∧ Aside0 (Blk bs B) ∧ Aside0 (Same Z (A ++ B) ∧ A.length + B.length = n) ∧ Aside0 (Row w' g (A ++ B)) ∧ Aside0 (w.grownBy w' (some g)))
            case atStart => exact ⟨0, [], Y, rfl, by rw [Nat.zero_add, Int.natCast_mul]; rfl, by rw [HSM.out.2]; omega, ⟨rfl⟩, ⟨Full.nil⟩, HBK, ⟨HSM.out.1, by have := HSM.out.2; simp only [List.length_nil]; omega⟩, HZ1, HG1⟩
            case round =>
              clear HBK HSM HZ1 HG1
              obtain ⟨a, A, B, rfl, rfl, hk, HA, HF, HBK, HQ, HZ, HG⟩ := hrel
              obtain ⟨b, hb⟩ : ∃ b, b = a + 2 * bs := ⟨_, rfl⟩
              obtain ⟨m, hm⟩ : ∃ m, m = a + bs := ⟨_, rfl⟩
              rw [← hb]
              have HB := Aside0.mk hb
              have HM := Aside0.mk hm
              have HK := Aside0.mk hk
              have hal : a < 1000000000 := by have := HA.out; have := HQ.out.2; omega
              have hbl : b < 3000000000 := by omega
              have HD := Aside0.mk (show (a : Int) + (bs : Int) = (m : Int) by omega)
              by_cases hlt : b ≤ n
              · cases gk with
                | zero => have := HA.out; have := HQ.out.2; have := HB0.out; omega
                | succ k1 =>
                  have d3 : decide ((b : Int) ≤ (n : Int)) = true := decide_eq_true (by omega)
                  have d4 : decide (b ≤ n) = true := decide_eq_true hlt
                  have hBl : 2 * bs ≤ B.length := by have := HA.out; have := HQ.out.2; omega
                  obtain ⟨S, T, hST, hS1, hS2, hT⟩ := blk_split HBK.out (by omega)
                  subst hST
                  rw [List.length_append] at hBl
                  obtain ⟨S', T', hST, hS3, hS4, hT'⟩ := blk_split hT (by omega)
                  subst hST
                  have HBL := Aside0.mk hBl
                  have HSL := Aside0.mk (And.intro hS2 hS4)
                  have HT := Aside0.mk hT'
                  have HQ2 := HQ.out.2
                  rw [List.length_append, List.length_append] at HQ2
                  have HC := Aside0.mk (merge_all _ A S S' T' a m b g n c wr rfl hS1 hS3 (by have := HB0.out; omega) (by have := HB0.out; omega) HA.out (by omega) (by omega) (by have h := HZ.out; simpa only [List.append_assoc] using h) (by rw [List.length_append]; omega) HS.out)
                  clear hb hm hk hlt hBl hS1 hS2 hT hS3 hS4 hT' HQ2
                  go_wp2_with (go_at_call 116; rw [HD.out]; refine HC.out.mono ?_; rintro e w1 ⟨rfl, S1, hr1, hl1, hl2, hl3, hg1⟩; have HR1 := Aside0.mk hr1; have HG1 := Aside0.mk hg1; have HS1 := Aside0.mk hl1; have HS2 := Aside0.mk hl2; have HS3 := Aside0.mk hl3; clear hr1 hg1 hl1 hl2 hl3)
                  go_roundg k1
                  case measure => have := HK.out; have := HB0.out; have := HSL.out; simp only [List.length_append] at *; omega
                  case rel =>
                    have hl3 : S1.length = 2 * bs := by rw [HS3.out, List.length_append]; have := HSL.out; omega
                    refine ⟨b, A ++ S1, T', rfl, ?_, by have h := HK.out; have := HSL.out; have := HB0.out; simp only [List.length_append] at h; omega, ⟨by rw [List.length_append, hl3]; have := HA.out; have := HB.out; omega⟩, ⟨Full.snoc A S1 HF.out HS1.out hl3⟩, HT, ⟨?_, by have h := HQ.out.2; rw [List.length_append, hl3]; have := HSL.out; simp only [List.length_append] at h; omega⟩, ⟨by rw [List.append_assoc]; exact HR1.out⟩, ⟨grown_trans HG.out HG1.out⟩⟩
                    · rw [Int.natCast_add, Int.natCast_mul]; rfl
                    · refine HQ.out.1.trans ?_
                      rw [List.append_assoc, ← List.append_assoc S]
                      exact (Same.refl A).append (HS2.out.append (Same.refl T'))
              · have d3 : decide ((b : Int) ≤ (n : Int)) = false := decide_eq_false (by omega)
                have d4 : decide (b ≤ n) = false := decide_eq_false hlt
                by_cases hmn : m < n
                · have d5 : decide ((a : Int) + (bs : Int) < (n : Int)) = true := decide_eq_true (by omega)
                  have d6 : decide (a + bs < n) = true := decide_eq_true (by omega)
                  have hBl : bs ≤ B.length ∧ B.length ≤ 2 * bs := by have := HA.out; have := HQ.out.2; omega
                  obtain ⟨S, T, hST, hS1, hS2, hT⟩ := blk_split HBK.out hBl.1
                  subst hST
                  have HQ2 := HQ.out.2
                  rw [List.length_append] at hBl HQ2
                  have hS3 := blk_short hT (by omega)
                  have HBL := Aside0.mk hBl
                  have HC := Aside0.mk (merge_all _ A S T [] a m n g n c wr rfl hS1 hS3 (by have := HB0.out; omega) (by have := HA.out; omega) HA.out (by omega) (by have := HA.out; omega) (by rw [List.append_nil]; exact HZ.out) (by rw [List.length_append, List.length_nil]; omega) HS.out)
                  clear hb hm hk hlt hBl hS1 hS2 hT hS3 HQ2 hmn
                  go_wp2_with (go_at_call 116; rw [HD.out]; refine HC.out.mono ?_; rintro e w1 ⟨rfl, S1, hr1, hl1, hl2, hl3, hg1⟩; have HR1 := Aside0.mk hr1; have HG1 := Aside0.mk hg1; have HS1 := Aside0.mk hl1; have HS2 := Aside0.mk hl2; have HS3 := Aside0.mk hl3; clear hr1 hg1 hl1 hl2 hl3)
                  go_roundg k2
                  case measure => have := HK2.out; have := HB0.out; omega
                  case rel =>
                    refine ⟨2 * bs, A ++ S1, ?_, by have := HK2.out; have := HB0.out; omega, by have := HB0.out; omega, by have := HLT.out; have := HS.out; omega, ⟨full_blk HF.out (Blk.last S1 HS1.out (by rw [HS3.out, List.length_append]; have := HBL.out; omega))⟩, ⟨HQ.out.1.trans ((Same.refl A).append HS2.out), by rw [List.length_append, HS3.out]; exact HQ.out.2⟩, ⟨by have h := HR1.out; rw [List.append_nil] at h; exact h⟩, ⟨grown_trans HG.out HG1.out⟩⟩
                    rw [show ((2 * bs : Nat) : Int) = (bs : Int) * 2 by omega]
                · have d5 : decide ((a : Int) + (bs : Int) < (n : Int)) = false := decide_eq_false (by omega)
                  have d6 : decide (a + bs < n) = false := decide_eq_false (by omega)
                  have HBL := Aside0.mk (show B.length ≤ bs by have := HA.out; have := HQ.out.2; omega)
                  clear hb hm hk hlt hmn
                  go_wp2_with fail
                  go_roundg k2
                  case measure => have := HK2.out; have := HB0.out; omega
                  case rel =>
                    refine ⟨2 * bs, A ++ B, ?_, by have := HK2.out; have := HB0.out; omega, by have := HB0.out; omega, by have := HLT.out; have := HS.out; omega, ⟨full_blk HF.out (Blk.last B (blk_short HBK.out HBL.out) (by have := HBL.out; omega))⟩, ⟨HQ.out.1, by rw [List.length_append]; exact HQ.out.2⟩, HZ, HG⟩
                    rw [show ((2 * bs : Nat) : Int) = (bs : Int) * 2 by omega]
        · have d1 : decide ((bs : Int) < (n : Int)) = false := decide_eq_false (by omega)
          have d2 : decide (bs < n) = false := decide_eq_false hlt
          have HSR : Aside0 (Srt Y) := ⟨blk_short HBK.out (by rw [HSM.out.2]; omega)⟩
          clear hbk hb0 hlt hbs
          go_wp2_with fail
          go_end0
          exact ⟨rfl, Y, by rw [List.nil_append, List.append_nil]; exact HZ1.out, HSR.out, HSM.out.1, by rw [HSM.out.2, HN.out], HG1.out⟩
end Go.Proofs.Ytgojfecpknonlaa.Ev

