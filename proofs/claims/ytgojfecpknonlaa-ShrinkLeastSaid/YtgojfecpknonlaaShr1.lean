/- Walks of the shrinker: slices.Clone of entries, and the counting closure. -/
import Derived.Test.YtgojfecpknonlaaPShrinkLeastx
import Derived.Test.YtgojfecpknonlaaKit
import Derived.WalkSpells
import Derived.WalkLawsBesides
namespace Go.Proofs.Ytgojfecpknonlaa.Shr
open Go.RowKit Go.Proofs.YtgojfecpknonlaaW.PrintWords Go.Proofs.YtgojfecpknonlaaW.PrintLast Go.Proofs.YtgojfecpknonlaaW.PrintMore
open Go.Proofs.Ytgojfecpknonlaa.Own Go.Proofs.Ytgojfecpknonlaa.PShrinkLeast
set_option linter.unusedVariables false
set_option linter.unusedSimpArgs false

theorem k111_flat {W : World} (base : Nat) (W1 : World) (ok' : Nat → Prop) (q : S111) (cs : List Value) (h : k111.K W q cs) : k111.M W1 base ok' q cs := by
  obtain rfl := k111_open h
  exact k111_mkM _ _ _ _

set_option maxHeartbeats 2000000 in
set_option maxRecDepth 100000 in
theorem clone_calls (A : Option Addr) (c : Nat) (l : List S111) (w : World) (hr : Kd.C k111 w A l.length l) (hc : l.length ≤ c) (hl : l.length * 5 ≤ 140737488355328) :
    Calls Try.prog 57 #[.slice A l.length c] w fun e w' => ∃ v0_ : Value, e = .returned v0_ ∧ Kd.R k111 111 w' w.heap.size (fun _ => True) v0_ l ∧ Below w.heap.size w w' := by
  have q24 : ∀ (w : World) (a : Option Addr) (n c n' c' : Nat), (binOp .eql 24 (.slice a n c) (.slice none n' c')).run Try.prog w = .ok (.bool a.isNone) w := fun w a n c n' c' => Lib.run_eql_slice_nil w _ _ a n c n' c' Try.underlying24
  rcases A with _ | ad
  · have hl0 : l = [] := by
      rcases l with _ | ⟨x, l⟩
      · rfl
      · obtain ⟨ad, h, _⟩ := hr.2.2 (by simp)
        cases h
    subst hl0
    clear hr hc hl
    go_enter Try.func57, Try.ntmps57
    go_wp2
    go_ret
    exact ⟨_, rfl, Kd.R_nil _ _ _ _ _, Below.refl _ _⟩
  · have HR := Aside0.mk hr
    clear hr hc
    go_enter Try.func57, Try.ntmps57
    go_wp2_with (at_builtin; refine R_append_row k111 (w0 := w) w.heap.size rfl (.tmp 5) (.tmp 6) 24 111 (.agg #[(.int .u8 0), (.int .u8 0), (.int .u8 0), (.int .u8 0), (.int .u8 0)]) 5 rfl Try.underlying24 info111 rfl (by decide) (by omega) (.slice (some ⟨w.heap.size, 0, none⟩) 0 0) [] l (some ad) l.length c (fun _ => True) rfl rfl (k111_flat _) (fun _ _ => trivial) ?aO ?aR ?aB ?aS ?aL ?_)
    case aO => exact R_lit0 _ _ _ _ _ (Nat.le_refl _) trivial
    case aR => exact Kd.C_alloc HR.out _
    case aB => exact (Below.refl _ w).alloc (Nat.le_refl _) _
    case aS => simp
    case aL => simpa using hl
    intro v1 w1 ho hb hg hat
    go_wp2
    go_ret
    exact ⟨_, rfl, by simpa using ho, hb⟩

/-- What a function value of entries' lists answers: true where p holds; it turns nothing that lay. -/
structure Answers (g : FuncId) (lb : Array Value) (B : Nat) (W0 : World) (p : List S111 → Bool) (N : Nat) : Prop where
  enters : ∀ args w, (callFunc g args).run Try.prog w = .ok (.enter g args) w
  calls : ∀ (W : World) (A : Option Addr) (c : Nat) (xs : List S111), Below B W0 W → B ≤ W.heap.size → xs.length ≤ N → Kd.C k111 W A xs.length xs → xs.length ≤ c → Calls Try.prog g (#[.slice A xs.length c] ++ lb) W fun e W' => e = .returned (.bool (p xs)) ∧ Below W.heap.size W W'

set_option maxHeartbeats 2000000 in
set_option maxRecDepth 100000 in
theorem ask_calls (g : FuncId) (lb : Array Value) (B : Nat) (W0 : World) (p : List S111 → Bool) (N : Nat) (hN : N * 5 ≤ 140737488355328) (hA : Answers g lb B W0 p N)
    (A : Option Addr) (c : Nat) (l : List S111) (k : Int) (hk0 : 0 ≤ k) (hk : k < 9223372036854775807) (w : World) (g9 g4 : Nat) (h9 : w.heap[g9]? = some (.cells #[.int .i64 k] 3 (0, 0))) (h4 : w.heap[g4]? = some (.cells #[.func (.func g) #[] lb] 39 (0, 0))) (hne : g4 ≠ g9) (hB9 : B ≤ g9)
    (hb : Below B W0 w) (hr : Kd.C k111 w A l.length l) (hc : l.length ≤ c) (hl : l.length ≤ N) (hA9 : ∀ ad, A = some ad → ad.block ≠ g9) :
    Calls Try.prog 56 #[.slice A l.length c, .pointer (some ⟨g9, 0, none⟩), .pointer (some ⟨g4, 0, none⟩)] w fun e w' => e = .returned (.bool (p l)) ∧ Below w.heap.size (w.setCell ⟨g9, 0, none⟩ (.int .i64 (k + 1))) w' := by
  have hx9 := (blk_cell h9 0).trans rfl
  have hf9 := blk_frozen h9 0
  have hx4 := (blk_cell h4 0).trans rfl
  have HH := Aside0.mk hr
  go_enter Try.func56, Try.ntmps56
  go_wp2_with fail
  have H4 : (w.setCell ⟨g9, 0, none⟩ (.int .i64 (k + 1))).cell? ⟨g4, 0, none⟩ = some (.func (.func g) #[] lb) := (cell_setCell_far hne).trans hx4
  have HR1 : Kd.C k111 (w.setCell ⟨g9, 0, none⟩ (.int .i64 (k + 1))) A l.length l := C_far_flat (fun W1 x cs h => by obtain rfl := k111_open h; exact k111_mk _ _) HH.out _ _ hA9
  have HB1 : Below B W0 (w.setCell ⟨g9, 0, none⟩ (.int .i64 (k + 1))) := hb.setCell (p := ⟨g9, 0, none⟩) hB9 _
  have hsz : g9 < (w.setCell ⟨g9, 0, none⟩ (.int .i64 (k + 1))).heap.size := by simpa [World.setCell] using blk_lt h9
  clear h9 h4 hx9 hf9 hx4 HH hb hr
  have hsz0 : w.heap.size ≤ (w.setCell ⟨g9, 0, none⟩ (.int .i64 (k + 1))).heap.size := by simp [World.setCell]
  generalize hW1 : w.setCell ⟨g9, 0, none⟩ (.int .i64 (k + 1)) = W1 at H4 HR1 HB1 hsz hsz0 ⊢
  have HW := Aside0.mk hW1
  clear hW1
  have en := hA.enters
  go_region_held3 (fun w' => w'.cell? ⟨g4, 0, none⟩ = some (.func (.func g) #[] lb)) (go_keep)
    (first | (go_at_call 57; refine (clone_calls A c l _ ?_ hc ?_).mono ?_; (first | exact HR1 | exact Kd.C_drew HR1 | exact Kd.C_drewN HR1 _); omega; rintro e w2 ⟨v0, rfl, hv, hbw⟩; obtain ⟨A0, c0, rfl, hcc, hC0⟩ := Kd.R_reads hv; have H4b : w2.cell? ⟨g4, 0, none⟩ = some (.func (.func g) #[] lb) := pw_cell_below hbw H4; have HB2 : Below B W0 w2 := below_then (below_drew HB1) (Nat.le_of_lt (Nat.lt_of_le_of_lt hB9 hsz)) hbw; have hB2 : B ≤ w2.heap.size := Nat.le_trans (Nat.le_of_lt (Nat.lt_of_le_of_lt hB9 hsz)) hbw.size) | (refine (hA.calls _ A0 c0 l HB2 hB2 hl hC0 hcc).mono ?_; rintro e w3 ⟨rfl, hb3⟩; have H4c := pw_cell_below hb3 H4b))
  go_wp2
  go_ret
  exact ⟨rfl, by rw [HW.out]; exact below_then (below_drew (Below.refl _ _)) hsz0 (hbw.trans (hb3.mono hbw.size))⟩
end Go.Proofs.Ytgojfecpknonlaa.Shr
