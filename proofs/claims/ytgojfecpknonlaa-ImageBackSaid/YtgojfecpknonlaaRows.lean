/-
  No cell of these rows narrows 'for every input' (looked for: loops, veiled, ifaces, maps, wideKeys, modest, calm, conditions, laid).
  DERIVED. THE GIVEN ROWS OF THIS SEAT. 8 by the template 'for every input the law returns true; each argument reads behind the call as it read before'; 0 by the template 'total and deterministic' (their statements: YtgojfecpknonlaaTotals.lean).
  GIVEN WITH THE SEED: the statements are not yours to turn. If you find one false, say at which input.
  Laid BY PROGRAM, IN A SANDBOX (cutbox-rows.mjs): the forced cells as the released guide's own fill.sh prints them over the translation 3b95e6030323a989… (all of the seat's roots in one cut). By AI agents, Wed Nov 11 2026. No macro, syntax, notation, axiom, sorry.
-/
import Derived.Test.YtgojfecpknonlaaChecked
import GoSem.Claim
import GoSem.ClaimJoined
import GoSem.ClaimMapViews
import Derived.JoinedTies
import Derived.KernelRfl
namespace Go.Proofs.Ytgojfecpknonlaa
/- THE CELL 'sum', in the pinned program and in every row, IS THE sha256 OF THE DUMP (.gsa) THAT YtgojfecpknonlaaProg.lean LOADS. Nothing in Lean hashes anything: it is a label: what it is worth is what the hold of that sum in a sandbox is worth. -/
noncomputable def Try.pinned : Pinned := { name := "ytgojfecpknonlaa", sum := "3b95e6030323a9892238b1bdfe08e7df87cb60f84d231dd4fb02e6d18cdd605e", checked := Try.checked }
namespace Rows
def none {H : Type} : Left H := { results := [], args := [] }

/-- 'demesnelaw40.ShrinkWithout': WHATEVER THE INPUT: true; the input reads as it did. -/
def shrinkWithoutSpec : ChangeSpec := { name := "shrinkWithout", fn := fun _ => fun
  | [d1, d2, d3] => { results := [.lit (.bool true)], args := [d1, d2, d3] }
  | _ => none }
def shrinkWithoutRow : OpenClaim := { program := "ytgojfecpknonlaa", sum := "3b95e6030323a9892238b1bdfe08e7df87cb60f84d231dd4fb02e6d18cdd605e", func := "demesne/demesnelaw40.ShrinkWithout", spec := "shrinkWithout", unfollowed := true, recurses := true, apart := false }
def ShrinkWithoutSaid : Prop := shrinkWithoutRow.holds Try.pinned (OpenSpec.ofChange shrinkWithoutSpec)

/-- ITS FALSE NEIGHBOUR: 'it returns false'. Refute it at one input. -/
def shrinkWithoutWrong : ChangeSpec := { name := "shrinkWithout", fn := fun _ => fun
  | [d1, d2, d3] => { results := [.lit (.bool false)], args := [d1, d2, d3] }
  | _ => none }
def ShrinkWithoutWrongFalsely : Prop := shrinkWithoutRow.holds Try.pinned (OpenSpec.ofChange shrinkWithoutWrong)

/-- 'demesnelaw40.ShrinkLeast': WHATEVER THE INPUT: true; the input reads as it did. -/
def shrinkLeastSpec : ChangeSpec := { name := "shrinkLeast", fn := fun _ => fun
  | [d1, d2] => { results := [.lit (.bool true)], args := [d1, d2] }
  | _ => none }
def shrinkLeastRow : OpenClaim := { program := "ytgojfecpknonlaa", sum := "3b95e6030323a9892238b1bdfe08e7df87cb60f84d231dd4fb02e6d18cdd605e", func := "demesne/demesnelaw40.ShrinkLeast", spec := "shrinkLeast", unfollowed := true, recurses := true, apart := false }
def ShrinkLeastSaid : Prop := shrinkLeastRow.holds Try.pinned (OpenSpec.ofChange shrinkLeastSpec)

/-- ITS FALSE NEIGHBOUR: 'it returns false'. Refute it at one input. -/
def shrinkLeastWrong : ChangeSpec := { name := "shrinkLeast", fn := fun _ => fun
  | [d1, d2] => { results := [.lit (.bool false)], args := [d1, d2] }
  | _ => none }
def ShrinkLeastWrongFalsely : Prop := shrinkLeastRow.holds Try.pinned (OpenSpec.ofChange shrinkLeastWrong)

/-- 'demesnelaw41.StatsTell': WHATEVER THE INPUT: true; the input reads as it did. -/
def statsTellSpec : ChangeSpec := { name := "statsTell", fn := fun _ => fun
  | [d] => { results := [.lit (.bool true)], args := [d] }
  | _ => none }
def statsTellRow : OpenClaim := { program := "ytgojfecpknonlaa", sum := "3b95e6030323a9892238b1bdfe08e7df87cb60f84d231dd4fb02e6d18cdd605e", func := "demesne/demesnelaw41.StatsTell", spec := "statsTell", unfollowed := true, recurses := true, apart := false }
def StatsTellSaid : Prop := statsTellRow.holds Try.pinned (OpenSpec.ofChange statsTellSpec)

/-- ITS FALSE NEIGHBOUR: 'it returns false'. Refute it at one input. -/
def statsTellWrong : ChangeSpec := { name := "statsTell", fn := fun _ => fun
  | [d] => { results := [.lit (.bool false)], args := [d] }
  | _ => none }
def StatsTellWrongFalsely : Prop := statsTellRow.holds Try.pinned (OpenSpec.ofChange statsTellWrong)

/-- 'demesnelaw41.StatsSmall': WHATEVER THE INPUT: true; the input reads as it did. -/
def statsSmallSpec : ChangeSpec := { name := "statsSmall", fn := fun _ => fun
  | [d1, d2, d3] => { results := [.lit (.bool true)], args := [d1, d2, d3] }
  | _ => none }
def statsSmallRow : OpenClaim := { program := "ytgojfecpknonlaa", sum := "3b95e6030323a9892238b1bdfe08e7df87cb60f84d231dd4fb02e6d18cdd605e", func := "demesne/demesnelaw41.StatsSmall", spec := "statsSmall", unfollowed := true, recurses := true, apart := false }
def StatsSmallSaid : Prop := statsSmallRow.holds Try.pinned (OpenSpec.ofChange statsSmallSpec)

/-- ITS FALSE NEIGHBOUR: 'it returns false'. Refute it at one input. -/
def statsSmallWrong : ChangeSpec := { name := "statsSmall", fn := fun _ => fun
  | [d1, d2, d3] => { results := [.lit (.bool false)], args := [d1, d2, d3] }
  | _ => none }
def StatsSmallWrongFalsely : Prop := statsSmallRow.holds Try.pinned (OpenSpec.ofChange statsSmallWrong)

/-- 'demesnelaw41.StatsSum': WHATEVER THE INPUT: true; the input reads as it did. -/
def statsSumSpec : ChangeSpec := { name := "statsSum", fn := fun _ => fun
  | [d1, d2] => { results := [.lit (.bool true)], args := [d1, d2] }
  | _ => none }
def statsSumRow : OpenClaim := { program := "ytgojfecpknonlaa", sum := "3b95e6030323a9892238b1bdfe08e7df87cb60f84d231dd4fb02e6d18cdd605e", func := "demesne/demesnelaw41.StatsSum", spec := "statsSum", unfollowed := true, recurses := true, apart := false }
def StatsSumSaid : Prop := statsSumRow.holds Try.pinned (OpenSpec.ofChange statsSumSpec)

/-- ITS FALSE NEIGHBOUR: 'it returns false'. Refute it at one input. -/
def statsSumWrong : ChangeSpec := { name := "statsSum", fn := fun _ => fun
  | [d1, d2] => { results := [.lit (.bool false)], args := [d1, d2] }
  | _ => none }
def StatsSumWrongFalsely : Prop := statsSumRow.holds Try.pinned (OpenSpec.ofChange statsSumWrong)

/-- 'demesnelaw29.ImageBack': WHATEVER THE INPUT: true; the input reads as it did. -/
def imageBackSpec : ChangeSpec := { name := "imageBack", fn := fun _ => fun
  | [d1, d2, d3, d4] => { results := [.lit (.bool true)], args := [d1, d2, d3, d4] }
  | _ => none }
def imageBackRow : OpenClaim := { program := "ytgojfecpknonlaa", sum := "3b95e6030323a9892238b1bdfe08e7df87cb60f84d231dd4fb02e6d18cdd605e", func := "demesne/demesnelaw29.ImageBack", spec := "imageBack", unfollowed := true, recurses := true, apart := false }
def ImageBackSaid : Prop := imageBackRow.holds Try.pinned (OpenSpec.ofChange imageBackSpec)

/-- ITS FALSE NEIGHBOUR: 'it returns false'. Refute it at one input. -/
def imageBackWrong : ChangeSpec := { name := "imageBack", fn := fun _ => fun
  | [d1, d2, d3, d4] => { results := [.lit (.bool false)], args := [d1, d2, d3, d4] }
  | _ => none }
def ImageBackWrongFalsely : Prop := imageBackRow.holds Try.pinned (OpenSpec.ofChange imageBackWrong)

/-- 'demesnelaw36.EventsTell': WHATEVER THE INPUT: true; the input reads as it did. -/
def eventsTellSpec : ChangeSpec := { name := "eventsTell", fn := fun _ => fun
  | [d1, d2] => { results := [.lit (.bool true)], args := [d1, d2] }
  | _ => none }
def eventsTellRow : OpenClaim := { program := "ytgojfecpknonlaa", sum := "3b95e6030323a9892238b1bdfe08e7df87cb60f84d231dd4fb02e6d18cdd605e", func := "demesne/demesnelaw36.EventsTell", spec := "eventsTell", unfollowed := true, recurses := true, apart := false }
def EventsTellSaid : Prop := eventsTellRow.holds Try.pinned (OpenSpec.ofChange eventsTellSpec)

/-- ITS FALSE NEIGHBOUR: 'it returns false'. Refute it at one input. -/
def eventsTellWrong : ChangeSpec := { name := "eventsTell", fn := fun _ => fun
  | [d1, d2] => { results := [.lit (.bool false)], args := [d1, d2] }
  | _ => none }
def EventsTellWrongFalsely : Prop := eventsTellRow.holds Try.pinned (OpenSpec.ofChange eventsTellWrong)

/-- 'demesnelaw36.EventsPick': WHATEVER THE INPUT: true; the input reads as it did. -/
def eventsPickSpec : ChangeSpec := { name := "eventsPick", fn := fun _ => fun
  | [d1, d2, d3, d4] => { results := [.lit (.bool true)], args := [d1, d2, d3, d4] }
  | _ => none }
def eventsPickRow : OpenClaim := { program := "ytgojfecpknonlaa", sum := "3b95e6030323a9892238b1bdfe08e7df87cb60f84d231dd4fb02e6d18cdd605e", func := "demesne/demesnelaw36.EventsPick", spec := "eventsPick", unfollowed := true, recurses := true, apart := false }
def EventsPickSaid : Prop := eventsPickRow.holds Try.pinned (OpenSpec.ofChange eventsPickSpec)

/-- ITS FALSE NEIGHBOUR: 'it returns false'. Refute it at one input. -/
def eventsPickWrong : ChangeSpec := { name := "eventsPick", fn := fun _ => fun
  | [d1, d2, d3, d4] => { results := [.lit (.bool false)], args := [d1, d2, d3, d4] }
  | _ => none }
def EventsPickWrongFalsely : Prop := eventsPickRow.holds Try.pinned (OpenSpec.ofChange eventsPickWrong)

/- THE SECOND FORM. 'bulk': how many values and letters a reading holds, each counted each time it is reached (what is shared counts as often as it is met; a slice's spare places count too). A statement '..UptoSaid' is the law's where the arguments, and the package variables that the reading takes, are together of bulk at most 1048576: NARROWER than '..Said'. Prove '..Said' where nothing that the law and all that it calls make is longer than what came in: it says more and counts as full. Else prove '..UptoSaid'. A law counts once. -/
mutual
def uptoBulk {H : Type} : DataW H → Nat
  | .lit (.string bytes) => bytes.length + 1
  | .lit _ => 1
  | .nil => 1
  | .ptr d => uptoBulk d + 1
  | .slice elems spare => uptoBulkAll elems + uptoBulkAll spare + 1
  | .agg parts => uptoBulkAll parts + 1
  | .iface _ d => uptoBulk d + 1
  | .map entries => uptoBulkEntries entries + 1
  | .held _ => 1
def uptoBulkAll {H : Type} : List (DataW H) → Nat
  | [] => 0
  | d :: r => uptoBulk d + uptoBulkAll r
def uptoBulkEntries {H : Type} : List (Lit × DataW H) → Nat
  | [] => 0
  | x :: r => uptoBulkEntry x + uptoBulkEntries r
def uptoBulkEntry {H : Type} : Lit × DataW H → Nat
  | (.string bytes, d) => bytes.length + uptoBulk d + 1
  | (_, d) => uptoBulk d + 1
 end
def uptoSmall : (H : Type) → List (DataW H) → Bool := fun _ ds => decide (uptoBulkAll ds ≤ 1048576)
def OpenSpec.upto (s : _root_.Go.ChangeSpec) : _root_.Go.OpenSpec := { _root_.Go.OpenSpec.ofChange s with cond := some uptoSmall }

/-- 'demesnelaw40.ShrinkWithout', WHERE WHAT IT READS IS OF BULK AT MOST 1048576: true; the input reads as it did. -/
def shrinkWithoutUptoRow : OpenClaim := { program := "ytgojfecpknonlaa", sum := "3b95e6030323a9892238b1bdfe08e7df87cb60f84d231dd4fb02e6d18cdd605e", func := "demesne/demesnelaw40.ShrinkWithout", spec := "shrinkWithout", unfollowed := true, recurses := true, apart := false, narrowed := true }
def ShrinkWithoutUptoSaid : Prop := shrinkWithoutUptoRow.holds Try.pinned (OpenSpec.upto shrinkWithoutSpec)

/-- 'demesnelaw40.ShrinkLeast', WHERE WHAT IT READS IS OF BULK AT MOST 1048576: true; the input reads as it did. -/
def shrinkLeastUptoRow : OpenClaim := { program := "ytgojfecpknonlaa", sum := "3b95e6030323a9892238b1bdfe08e7df87cb60f84d231dd4fb02e6d18cdd605e", func := "demesne/demesnelaw40.ShrinkLeast", spec := "shrinkLeast", unfollowed := true, recurses := true, apart := false, narrowed := true }
def ShrinkLeastUptoSaid : Prop := shrinkLeastUptoRow.holds Try.pinned (OpenSpec.upto shrinkLeastSpec)

/-- 'demesnelaw41.StatsTell', WHERE WHAT IT READS IS OF BULK AT MOST 1048576: true; the input reads as it did. -/
def statsTellUptoRow : OpenClaim := { program := "ytgojfecpknonlaa", sum := "3b95e6030323a9892238b1bdfe08e7df87cb60f84d231dd4fb02e6d18cdd605e", func := "demesne/demesnelaw41.StatsTell", spec := "statsTell", unfollowed := true, recurses := true, apart := false, narrowed := true }
def StatsTellUptoSaid : Prop := statsTellUptoRow.holds Try.pinned (OpenSpec.upto statsTellSpec)

/-- 'demesnelaw41.StatsSmall', WHERE WHAT IT READS IS OF BULK AT MOST 1048576: true; the input reads as it did. -/
def statsSmallUptoRow : OpenClaim := { program := "ytgojfecpknonlaa", sum := "3b95e6030323a9892238b1bdfe08e7df87cb60f84d231dd4fb02e6d18cdd605e", func := "demesne/demesnelaw41.StatsSmall", spec := "statsSmall", unfollowed := true, recurses := true, apart := false, narrowed := true }
def StatsSmallUptoSaid : Prop := statsSmallUptoRow.holds Try.pinned (OpenSpec.upto statsSmallSpec)

/-- 'demesnelaw41.StatsSum', WHERE WHAT IT READS IS OF BULK AT MOST 1048576: true; the input reads as it did. -/
def statsSumUptoRow : OpenClaim := { program := "ytgojfecpknonlaa", sum := "3b95e6030323a9892238b1bdfe08e7df87cb60f84d231dd4fb02e6d18cdd605e", func := "demesne/demesnelaw41.StatsSum", spec := "statsSum", unfollowed := true, recurses := true, apart := false, narrowed := true }
def StatsSumUptoSaid : Prop := statsSumUptoRow.holds Try.pinned (OpenSpec.upto statsSumSpec)

/-- 'demesnelaw29.ImageBack', WHERE WHAT IT READS IS OF BULK AT MOST 1048576: true; the input reads as it did. -/
def imageBackUptoRow : OpenClaim := { program := "ytgojfecpknonlaa", sum := "3b95e6030323a9892238b1bdfe08e7df87cb60f84d231dd4fb02e6d18cdd605e", func := "demesne/demesnelaw29.ImageBack", spec := "imageBack", unfollowed := true, recurses := true, apart := false, narrowed := true }
def ImageBackUptoSaid : Prop := imageBackUptoRow.holds Try.pinned (OpenSpec.upto imageBackSpec)

/-- 'demesnelaw36.EventsTell', WHERE WHAT IT READS IS OF BULK AT MOST 1048576: true; the input reads as it did. -/
def eventsTellUptoRow : OpenClaim := { program := "ytgojfecpknonlaa", sum := "3b95e6030323a9892238b1bdfe08e7df87cb60f84d231dd4fb02e6d18cdd605e", func := "demesne/demesnelaw36.EventsTell", spec := "eventsTell", unfollowed := true, recurses := true, apart := false, narrowed := true }
def EventsTellUptoSaid : Prop := eventsTellUptoRow.holds Try.pinned (OpenSpec.upto eventsTellSpec)

/-- 'demesnelaw36.EventsPick', WHERE WHAT IT READS IS OF BULK AT MOST 1048576: true; the input reads as it did. -/
def eventsPickUptoRow : OpenClaim := { program := "ytgojfecpknonlaa", sum := "3b95e6030323a9892238b1bdfe08e7df87cb60f84d231dd4fb02e6d18cdd605e", func := "demesne/demesnelaw36.EventsPick", spec := "eventsPick", unfollowed := true, recurses := true, apart := false, narrowed := true }
def EventsPickUptoSaid : Prop := eventsPickUptoRow.holds Try.pinned (OpenSpec.upto eventsPickSpec)

end Rows
end Go.Proofs.Ytgojfecpknonlaa
