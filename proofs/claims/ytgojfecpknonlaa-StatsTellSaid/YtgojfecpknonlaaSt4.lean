/- The stats' cells: eighty tallies, seventeen buckets, the peak. -/
import Derived.Test.YtgojfecpknonlaaSt3
import Derived.Test.YtgojfecpknonlaaStB
import Derived.Test.YtgojfecpknonlaaPStx3
namespace Go.Proofs.Ytgojfecpknonlaa.St
open Go.RowKit Go.Proofs.YtgojfecpknonlaaW.PrintWords Go.Proofs.YtgojfecpknonlaaW.PrintLast Go.Proofs.YtgojfecpknonlaaW.PrintMore
open Go.Proofs.Ytgojfecpknonlaa.Own Go.Proofs.Ytgojfecpknonlaa.PSt
set_option linter.unusedVariables false
set_option linter.unusedSimpArgs false

structure Tl where
  c : Int
  e : Int
  m : Int
  l : Int
abbrev Tl.vals (t : Tl) : List Value := [.int .i64 t.c, .int .i64 t.e, .int .i64 t.m, .int .i64 t.l]
def tcells (ts : List Tl) : List Value := ts.flatMap Tl.vals
def bcells (bs : List Int) : List Value := bs.map (Value.int .i64)
/-- The stats' cells. -/
def scells (ts : List Tl) (bs : List Int) (p : Int) : List Value := tcells ts ++ (bcells bs ++ [.int .i64 p])

theorem tcells_length : ∀ ts : List Tl, (tcells ts).length = 4 * ts.length
  | [] => rfl
  | t :: ts => by
    have h := tcells_length ts
    unfold tcells at h ⊢
    rw [List.flatMap_cons, List.length_append, h]
    show 4 + 4 * ts.length = 4 * (ts.length + 1)
    omega
theorem bcells_length (bs : List Int) : (bcells bs).length = bs.length := by simp [bcells]
theorem scells_length (ts : List Tl) (bs : List Int) (p : Int) : (scells ts bs p).length = 4 * ts.length + bs.length + 1 := by
  simp only [scells, List.length_append, tcells_length, bcells_length, List.length_singleton]; omega

theorem tcells_at : ∀ (ts : List Tl) (k : Nat) (t : Tl) (r : List Value), ts[k]? = some t → ((tcells ts ++ r).drop (4 * k)).take 4 = t.vals
  | [], k, t, r, h => by simp at h
  | s :: ts, 0, t, r, h => by
    simp at h
    subst h
    rfl
  | s :: ts, k + 1, t, r, h => by
    have h' : ts[k]? = some t := by simpa using h
    have ih := tcells_at ts k t r h'
    rw [← ih]
    show ((s.vals ++ tcells ts ++ r).drop (4 * (k + 1))).take 4 = _
    rw [List.append_assoc, show 4 * (k + 1) = s.vals.length + 4 * k by simp [Tl.vals]; omega, List.drop_length_add_append]
theorem tcells_set : ∀ (ts : List Tl) (k : Nat) (t : Tl) (r : List Value), k < ts.length → splice (tcells ts ++ r) (4 * k) t.vals = tcells (ts.set k t) ++ r
  | [], k, t, r, h => by simp at h
  | s :: ts, 0, t, r, h => rfl
  | s :: ts, k + 1, t, r, h => by
    have ih := tcells_set ts k t r (by simpa using h)
    show splice (s.vals ++ tcells ts ++ r) (4 * (k + 1)) t.vals = s.vals ++ tcells (ts.set k t) ++ r
    rw [List.append_assoc, List.append_assoc, ← ih]
    unfold splice
    rw [show 4 * (k + 1) = s.vals.length + 4 * k by simp [Tl.vals]; omega, List.take_length_add_append, show s.vals.length + 4 * k + t.vals.length = s.vals.length + (4 * k + t.vals.length) by omega, List.drop_length_add_append]
    simp [List.append_assoc]
theorem scells_at (ts : List Tl) (bs : List Int) (p : Int) (k : Nat) (t : Tl) (h : ts[k]? = some t) : ((scells ts bs p).drop (4 * k)).take 4 = t.vals := tcells_at ts k t _ h
theorem scells_set (ts : List Tl) (bs : List Int) (p : Int) (k : Nat) (t : Tl) (h : k < ts.length) : splice (scells ts bs p) (4 * k) t.vals = scells (ts.set k t) bs p := tcells_set ts k t _ h
theorem scells_bucket (ts : List Tl) (bs : List Int) (p : Int) (b : Nat) (hb : b < bs.length) : (scells ts bs p)[4 * ts.length + b]? = some (.int .i64 (bs[b])) := by
  unfold scells
  rw [List.getElem?_append_right (by rw [tcells_length]; omega), tcells_length, Nat.add_sub_cancel_left, List.getElem?_append_left (by rw [bcells_length]; exact hb)]
  simp [bcells, hb]
theorem scells_bset (ts : List Tl) (bs : List Int) (p : Int) (b : Nat) (v : Int) (hb : b < bs.length) : (scells ts bs p).set (4 * ts.length + b) (.int .i64 v) = scells ts (bs.set b v) p := by
  unfold scells
  rw [List.set_append_right _ _ (by rw [tcells_length]; omega), tcells_length, Nat.add_sub_cancel_left, List.set_append_left _ _ (by rw [bcells_length]; exact hb)]
  simp [bcells, List.map_set]
theorem scells_peak (ts : List Tl) (bs : List Int) (p : Int) : (scells ts bs p)[4 * ts.length + bs.length]? = some (.int .i64 p) := by
  unfold scells
  rw [List.getElem?_append_right (by rw [tcells_length]; omega), tcells_length, Nat.add_sub_cancel_left, List.getElem?_append_right (by rw [bcells_length]; omega), bcells_length, Nat.sub_self]
  rfl

/-- No stats yet. -/
def tl0 : Tl := ⟨0, 0, 0, 0⟩
def zero48 : List Value := scells (List.replicate 80 tl0) (List.replicate 17 0) 0
theorem info48 : (Try.prog.info? 48).map (·.zero) = some (some (.agg zero48.toArray)) := by kernel_rfl
theorem size48 : (Try.prog.info? 48).map (·.size) = some 338 := by kernel_rfl
theorem size43 : (Try.prog.info? 43).map (·.size) = some 4 := by kernel_rfl
theorem built48 : Try.prog.built 48 [] = some zero48.toArray := by kernel_rfl
theorem built48p (p : Int) : Try.prog.built 48 [(4, .int .i64 p)] = some (scells (List.replicate 80 tl0) (List.replicate 17 0) p).toArray := by kernel_rfl
theorem one48 : (zero48.toArray).all (·.oneCell') = true := by kernel_rfl
theorem one48p (p : Int) : ((scells (List.replicate 80 tl0) (List.replicate 17 0) p).toArray).all (·.oneCell') = true := by kernel_rfl
theorem len48 : zero48.length = 338 := by kernel_rfl
theorem splice_whole (cs vs : List Value) (h : vs.length = cs.length) : splice cs 0 vs = vs := by
  unfold splice
  rw [List.take_zero, List.nil_append, Nat.zero_add, h, List.drop_length, List.append_nil]
theorem zc48 : Try.zeroCells48 = zero48.toArray := by kernel_rfl
theorem onez48 : (Try.zeroCells48).all (·.oneCell') = true := by kernel_rfl
theorem sizez48 : (Try.zeroCells48).size = 338 := by kernel_rfl
end Go.Proofs.Ytgojfecpknonlaa.St
