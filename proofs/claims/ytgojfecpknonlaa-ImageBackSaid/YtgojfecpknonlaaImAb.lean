/- The door of function 74: what is read there, whether or not something was thrown. -/
import Derived.Test.YtgojfecpknonlaaImAa
namespace Go.Proofs.Ytgojfecpknonlaa.Im
open Go.RowKit Go.Proofs.YtgojfecpknonlaaW.PrintWords Go.Proofs.YtgojfecpknonlaaW.PrintLast Go.Proofs.YtgojfecpknonlaaW.PrintMore
open Go.Proofs.Ytgojfecpknonlaa.Own Go.Proofs.Ytgojfecpknonlaa.PIm Go.Proofs.Ytgojfecpknonlaa.Wv
set_option linter.unusedVariables false
set_option linter.unusedSimpArgs false

theorem results74 {tmps : Array Value} {w : World} {g2 g3 : Nat} {a b c : Value} {x : Bool} (ha2 : tmps.getD 2 undef = .pointer (some ⟨g2, 0, none⟩)) (ha3 : tmps.getD 3 undef = .pointer (some ⟨g3, 0, none⟩)) (h2 : Holds w g2 89 [a, b, c]) (h3 : Holds w g3 4 [.bool x]) :
    (results Try.f74 tmps).run Try.prog w = .ok (.tuple #[.agg #[a, b, c], .bool x]) w := by
  have h2' : tmps[2]?.getD undef = .pointer (some ⟨g2, 0, none⟩) := by simpa using ha2
  have h3' : tmps[3]?.getD undef = .pointer (some ⟨g3, 0, none⟩) := by simpa using ha3
  have hr : Try.f74.results = #[.cell 2 89, .cell 3 4] := by kernel_rfl
  have e2 := run_loadVar_row (P := Try.prog) w g2 89 89 #[a, b, c] (0, 0) _ h2 Try.underlying89 rfl size89
  have x3 : w.cell? ⟨g3, 0, none⟩ = some (.bool x) := (h3.cell 0).trans rfl
  have e3 : (loadVar 4 ⟨g3, 0, none⟩).run Try.prog w = .ok (.bool x) w := by
    simp [loadVar, isAgg, Sem.run_bind, run_underlying Try.underlying4, go_sem, x3]
  simp [results, hr, h2', h3', asAddr, e2, e3]
def dfr (g2 g3 : Nat) : List Deferred := [{ target := .fn (.func 104) #[.pointer (some ⟨g2, 0, none⟩), .pointer (some ⟨g3, 0, none⟩)], args := #[] }]
theorem door_panic {R : Ending → World → Prop} {a : Act} {W : World} {g2 g3 : Nat} {vs : List Value} {x : Bool} (hd : a.defers = dfr g2 g3) (ha2 : a.tmps.getD 2 undef = .pointer (some ⟨g2, 0, none⟩)) (ha3 : a.tmps.getD 3 undef = .pointer (some ⟨g3, 0, none⟩))
    (h2 : Holds W g2 89 vs) (hl : vs.length = 3) (h3 : Holds W g3 4 [.bool x]) (hR : ∀ W', Kp (fun q => q = g2 ∨ q = g3) W W' → R (.returned (.tuple #[.agg #[.slice none 0 0, .slice none 0 0, .slice none 0 0], .bool false])) W') : bodyPostD Try.prog Try.f74 R (.panic brkP) a W := by
  show Leaves Try.prog Try.f74 a.tmps R a.defers (.panicking brkP) W
  rw [hd]
  refine leaves_cons (f := 104) (args := #[.pointer (some ⟨g2, 0, none⟩), .pointer (some ⟨g3, 0, none⟩)]) (by simp) (by simp [go_sem]) ?_
  refine (catch_panicking g2 g3 W vs x h2 hl h3).mono ?_
  rintro e u' w'' ⟨rfl, rfl, hk, h2', h3'⟩
  exact ⟨_, results74 ha2 ha3 h2' h3', hR _ hk⟩
theorem door_ret {R : Ending → World → Prop} {a : Act} {W : World} {g2 g3 : Nat} {b c d : Value} {x : Bool} (hd : a.defers = dfr g2 g3) (ha2 : a.tmps.getD 2 undef = .pointer (some ⟨g2, 0, none⟩)) (ha3 : a.tmps.getD 3 undef = .pointer (some ⟨g3, 0, none⟩))
    (h2 : Holds W g2 89 [b, c, d]) (h3 : Holds W g3 4 [.bool x]) (hR : ∀ W', Below W.heap.size W W' → R (.returned (.tuple #[.agg #[b, c, d], .bool x])) W') : bodyPostD Try.prog Try.f74 R .ret a W := by
  show Leaves Try.prog Try.f74 a.tmps R a.defers .returning W
  rw [hd]
  refine leaves_cons (f := 104) (args := #[.pointer (some ⟨g2, 0, none⟩), .pointer (some ⟨g3, 0, none⟩)]) (by simp) (by simp [go_sem]) ?_
  refine (catch_idle g2 g3 W).mono ?_
  rintro e u' w'' ⟨rfl, rfl, hb⟩
  exact ⟨_, results74 ha2 ha3 (h2.below hb) (h3.below hb), hR _ hb⟩
/-- What the call of function 74 leaves. -/
def R74 (w : World) (L : List Int) (e : Ending) (w' : World) : Prop := ∃ (A0 : Option Addr) (n0 c0 : Nat) (A1 : Option Addr) (n1 c1 : Nat) (A2 : Option Addr) (n2 c2 : Nat), e = .returned (.tuple #[.agg #[.slice A0 n0 c0, .slice A1 n1 c1, .slice A2 n2 c2], .bool (decF L).isSome]) ∧ Below w.heap.size w w' ∧ ∀ S, decF L = some S → ∀ w2, Kp (fun q => q < w.heap.size) w' w2 → IsSh w2 (.agg #[.slice A0 n0 c0, .slice A1 n1 c1, .slice A2 n2 c2]) S
section
variable {B gb g2 g3 g4 : Nat} {w00 : World} {vT vG vN : Value} {ps qs : List (Value × Value)} {T : List S124} {G : List Int} {N : List S127} {L L0 : List Int} {W W' : World} {a : Act}
theorem SI.threw (h : SI w00.heap.size gb g2 g3 g4 w00 vT vG vN ps qs T G N L W) (hB : w00.heap.size ≤ gb ∧ w00.heap.size ≤ g2 ∧ w00.heap.size ≤ g3) (hk : Kp (fun q => q = gb) W W') (hd : a.defers = dfr g2 g3) (ha2 : a.tmps.getD 2 undef = .pointer (some ⟨g2, 0, none⟩)) (ha3 : a.tmps.getD 3 undef = .pointer (some ⟨g3, 0, none⟩)) (hn : decF L0 = none) :
    bodyPostD Try.prog Try.f74 (R74 w00 L0) (.panic brkP) a W' := by
  have o := fun (e : Nat) (he : 9 ≠ e) => off_cell (e := e) h.cb he
  refine door_panic hd ha2 ha3 (hk.hold h.cs (o 89 (by decide))) rfl (hk.hold h.cg (o 4 (by decide))) (fun W2 hk2 => ⟨none, 0, 0, none, 0, 0, none, 0, 0, by rw [hn]; rfl, ?_, fun S hS => by rw [hn] at hS; cases hS⟩)
  exact hk2.below (hk.below h.below h.size (fun k hk => by subst hk; exact hB.1)) (Nat.le_trans h.size hk.size) (fun k hk => by rcases hk with rfl | rfl; exact hB.2.1; exact hB.2.2)
end
end Go.Proofs.Ytgojfecpknonlaa.Im

