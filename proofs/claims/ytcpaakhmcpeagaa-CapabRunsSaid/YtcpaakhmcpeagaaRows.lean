/-
  No cell of these rows narrows 'for every input' (looked for: loops, veiled, ifaces, maps, wideKeys, modest, calm, conditions, laid).
  DERIVED. THE GIVEN ROWS OF THIS SEAT. 6 by the template 'for every input the law returns true; each argument reads behind the call as it read before'; 0 by the template 'total and deterministic' (their statements: YtcpaakhmcpeagaaTotals.lean).
  GIVEN WITH THE SEED: the statements are not yours to turn. If you find one false, say at which input.
  Laid BY PROGRAM, IN A SANDBOX (cutbox-rows.mjs): the forced cells as the released guide's own fill.sh prints them over the translation d49d78e22e37c1be… (all of the seat's roots in one cut). By AI agents, Wed Nov 11 2026. No macro, syntax, notation, axiom, sorry.
-/
import Derived.Test.YtcpaakhmcpeagaaChecked
import GoSem.Claim
import GoSem.ClaimJoined
import GoSem.ClaimMapViews
import Derived.JoinedTies
import Derived.KernelRfl
namespace Go.Proofs.Ytcpaakhmcpeagaa
/- THE CELL 'sum', in the pinned program and in every row, IS THE sha256 OF THE DUMP (.gsa) THAT YtcpaakhmcpeagaaProg.lean LOADS. Nothing in Lean hashes anything: it is a label: what it is worth is what the hold of that sum in a sandbox is worth. -/
noncomputable def Try.pinned : Pinned := { name := "ytcpaakhmcpeagaa", sum := "d49d78e22e37c1be78ed90367e146523b6372520e7ec58720d7638e92decab11", checked := Try.checked }
namespace Rows
def none {H : Type} : Left H := { results := [], args := [] }

/-- 'rampartlaw11.CapabNever': WHATEVER THE INPUT: true; the input reads as it did. -/
def capabNeverSpec : ChangeSpec := { name := "capabNever", fn := fun _ => fun
  | [d1, d2] => { results := [.lit (.bool true)], args := [d1, d2] }
  | _ => none }
def capabNeverRow : OpenClaim := { program := "ytcpaakhmcpeagaa", sum := "d49d78e22e37c1be78ed90367e146523b6372520e7ec58720d7638e92decab11", func := "rampart/rampartlaw11.CapabNever", spec := "capabNever", unfollowed := true, recurses := true, apart := false }
def CapabNeverSaid : Prop := capabNeverRow.holds Try.pinned (OpenSpec.ofChange capabNeverSpec)

/-- ITS FALSE NEIGHBOUR: 'it returns false'. Refute it at one input. -/
def capabNeverWrong : ChangeSpec := { name := "capabNever", fn := fun _ => fun
  | [d1, d2] => { results := [.lit (.bool false)], args := [d1, d2] }
  | _ => none }
def CapabNeverWrongFalsely : Prop := capabNeverRow.holds Try.pinned (OpenSpec.ofChange capabNeverWrong)

/-- 'rampartlaw11.CapabNarrow': WHATEVER THE INPUT: true; the input reads as it did. -/
def capabNarrowSpec : ChangeSpec := { name := "capabNarrow", fn := fun _ => fun
  | [d1, d2] => { results := [.lit (.bool true)], args := [d1, d2] }
  | _ => none }
def capabNarrowRow : OpenClaim := { program := "ytcpaakhmcpeagaa", sum := "d49d78e22e37c1be78ed90367e146523b6372520e7ec58720d7638e92decab11", func := "rampart/rampartlaw11.CapabNarrow", spec := "capabNarrow", unfollowed := true, recurses := true, apart := false }
def CapabNarrowSaid : Prop := capabNarrowRow.holds Try.pinned (OpenSpec.ofChange capabNarrowSpec)

/-- ITS FALSE NEIGHBOUR: 'it returns false'. Refute it at one input. -/
def capabNarrowWrong : ChangeSpec := { name := "capabNarrow", fn := fun _ => fun
  | [d1, d2] => { results := [.lit (.bool false)], args := [d1, d2] }
  | _ => none }
def CapabNarrowWrongFalsely : Prop := capabNarrowRow.holds Try.pinned (OpenSpec.ofChange capabNarrowWrong)

/-- 'rampartlaw11.CapabStands': WHATEVER THE INPUT: true; the input reads as it did. -/
def capabStandsSpec : ChangeSpec := { name := "capabStands", fn := fun _ => fun
  | [d1, d2] => { results := [.lit (.bool true)], args := [d1, d2] }
  | _ => none }
def capabStandsRow : OpenClaim := { program := "ytcpaakhmcpeagaa", sum := "d49d78e22e37c1be78ed90367e146523b6372520e7ec58720d7638e92decab11", func := "rampart/rampartlaw11.CapabStands", spec := "capabStands", unfollowed := true, recurses := true, apart := false }
def CapabStandsSaid : Prop := capabStandsRow.holds Try.pinned (OpenSpec.ofChange capabStandsSpec)

/-- ITS FALSE NEIGHBOUR: 'it returns false'. Refute it at one input. -/
def capabStandsWrong : ChangeSpec := { name := "capabStands", fn := fun _ => fun
  | [d1, d2] => { results := [.lit (.bool false)], args := [d1, d2] }
  | _ => none }
def CapabStandsWrongFalsely : Prop := capabStandsRow.holds Try.pinned (OpenSpec.ofChange capabStandsWrong)

/-- 'rampartlaw11.CapabRuns': WHATEVER THE INPUT: true; the input reads as it did. -/
def capabRunsSpec : ChangeSpec := { name := "capabRuns", fn := fun _ => fun
  | [d1, d2, d3, d4] => { results := [.lit (.bool true)], args := [d1, d2, d3, d4] }
  | _ => none }
def capabRunsRow : OpenClaim := { program := "ytcpaakhmcpeagaa", sum := "d49d78e22e37c1be78ed90367e146523b6372520e7ec58720d7638e92decab11", func := "rampart/rampartlaw11.CapabRuns", spec := "capabRuns", unfollowed := true, recurses := true, apart := false }
def CapabRunsSaid : Prop := capabRunsRow.holds Try.pinned (OpenSpec.ofChange capabRunsSpec)

/-- ITS FALSE NEIGHBOUR: 'it returns false'. Refute it at one input. -/
def capabRunsWrong : ChangeSpec := { name := "capabRuns", fn := fun _ => fun
  | [d1, d2, d3, d4] => { results := [.lit (.bool false)], args := [d1, d2, d3, d4] }
  | _ => none }
def CapabRunsWrongFalsely : Prop := capabRunsRow.holds Try.pinned (OpenSpec.ofChange capabRunsWrong)

/-- 'rampartlaw11.CapabSpent': WHATEVER THE INPUT: true; the input reads as it did. -/
def capabSpentSpec : ChangeSpec := { name := "capabSpent", fn := fun _ => fun
  | [d] => { results := [.lit (.bool true)], args := [d] }
  | _ => none }
def capabSpentRow : OpenClaim := { program := "ytcpaakhmcpeagaa", sum := "d49d78e22e37c1be78ed90367e146523b6372520e7ec58720d7638e92decab11", func := "rampart/rampartlaw11.CapabSpent", spec := "capabSpent", unfollowed := true, recurses := true, apart := false }
def CapabSpentSaid : Prop := capabSpentRow.holds Try.pinned (OpenSpec.ofChange capabSpentSpec)

/-- ITS FALSE NEIGHBOUR: 'it returns false'. Refute it at one input. -/
def capabSpentWrong : ChangeSpec := { name := "capabSpent", fn := fun _ => fun
  | [d] => { results := [.lit (.bool false)], args := [d] }
  | _ => none }
def CapabSpentWrongFalsely : Prop := capabSpentRow.holds Try.pinned (OpenSpec.ofChange capabSpentWrong)

/-- 'rampartlaw11.CapabNobody': WHATEVER THE INPUT: true; the input reads as it did. -/
def capabNobodySpec : ChangeSpec := { name := "capabNobody", fn := fun _ => fun
  | [d1, d2] => { results := [.lit (.bool true)], args := [d1, d2] }
  | _ => none }
def capabNobodyRow : OpenClaim := { program := "ytcpaakhmcpeagaa", sum := "d49d78e22e37c1be78ed90367e146523b6372520e7ec58720d7638e92decab11", func := "rampart/rampartlaw11.CapabNobody", spec := "capabNobody", unfollowed := true, recurses := true, apart := false }
def CapabNobodySaid : Prop := capabNobodyRow.holds Try.pinned (OpenSpec.ofChange capabNobodySpec)

/-- ITS FALSE NEIGHBOUR: 'it returns false'. Refute it at one input. -/
def capabNobodyWrong : ChangeSpec := { name := "capabNobody", fn := fun _ => fun
  | [d1, d2] => { results := [.lit (.bool false)], args := [d1, d2] }
  | _ => none }
def CapabNobodyWrongFalsely : Prop := capabNobodyRow.holds Try.pinned (OpenSpec.ofChange capabNobodyWrong)

/- THE SECOND FORM. 'bulk': how many values and letters a reading holds, each counted each time it is reached (what is shared counts as often as it is met; a slice's spare places count too). A statement '..UptoSaid' is the law's where the arguments, and the package variables that the reading takes, are together of bulk at most 1048576: NARROWER than '..Said'. Prove '..Said' where nothing that the law and all that it calls make is longer than what came in: it says more and counts as full. Else prove '..UptoSaid'. A law counts once. -/
mutual
def uptoBulk {H : Type} : DataW H → Nat
  | .lit (.string bytes) => bytes.length + 1
  | .lit _ => 1
  | .nil => 1
  | .ptr d => uptoBulk d + 1
  | .slice elems spare => uptoBulkAll elems + uptoBulkAll spare + 1
  | .agg parts => uptoBulkAll parts + 1
  | .iface _ d => uptoBulk d + 1
  | .map entries => uptoBulkEntries entries + 1
  | .held _ => 1
def uptoBulkAll {H : Type} : List (DataW H) → Nat
  | [] => 0
  | d :: r => uptoBulk d + uptoBulkAll r
def uptoBulkEntries {H : Type} : List (Lit × DataW H) → Nat
  | [] => 0
  | x :: r => uptoBulkEntry x + uptoBulkEntries r
def uptoBulkEntry {H : Type} : Lit × DataW H → Nat
  | (.string bytes, d) => bytes.length + uptoBulk d + 1
  | (_, d) => uptoBulk d + 1
 end
def uptoSmall : (H : Type) → List (DataW H) → Bool := fun _ ds => decide (uptoBulkAll ds ≤ 1048576)
def OpenSpec.upto (s : _root_.Go.ChangeSpec) : _root_.Go.OpenSpec := { _root_.Go.OpenSpec.ofChange s with cond := some uptoSmall }

/-- 'rampartlaw11.CapabNever', WHERE WHAT IT READS IS OF BULK AT MOST 1048576: true; the input reads as it did. -/
def capabNeverUptoRow : OpenClaim := { program := "ytcpaakhmcpeagaa", sum := "d49d78e22e37c1be78ed90367e146523b6372520e7ec58720d7638e92decab11", func := "rampart/rampartlaw11.CapabNever", spec := "capabNever", unfollowed := true, recurses := true, apart := false, narrowed := true }
def CapabNeverUptoSaid : Prop := capabNeverUptoRow.holds Try.pinned (OpenSpec.upto capabNeverSpec)

/-- 'rampartlaw11.CapabNarrow', WHERE WHAT IT READS IS OF BULK AT MOST 1048576: true; the input reads as it did. -/
def capabNarrowUptoRow : OpenClaim := { program := "ytcpaakhmcpeagaa", sum := "d49d78e22e37c1be78ed90367e146523b6372520e7ec58720d7638e92decab11", func := "rampart/rampartlaw11.CapabNarrow", spec := "capabNarrow", unfollowed := true, recurses := true, apart := false, narrowed := true }
def CapabNarrowUptoSaid : Prop := capabNarrowUptoRow.holds Try.pinned (OpenSpec.upto capabNarrowSpec)

/-- 'rampartlaw11.CapabStands', WHERE WHAT IT READS IS OF BULK AT MOST 1048576: true; the input reads as it did. -/
def capabStandsUptoRow : OpenClaim := { program := "ytcpaakhmcpeagaa", sum := "d49d78e22e37c1be78ed90367e146523b6372520e7ec58720d7638e92decab11", func := "rampart/rampartlaw11.CapabStands", spec := "capabStands", unfollowed := true, recurses := true, apart := false, narrowed := true }
def CapabStandsUptoSaid : Prop := capabStandsUptoRow.holds Try.pinned (OpenSpec.upto capabStandsSpec)

/-- 'rampartlaw11.CapabRuns', WHERE WHAT IT READS IS OF BULK AT MOST 1048576: true; the input reads as it did. -/
def capabRunsUptoRow : OpenClaim := { program := "ytcpaakhmcpeagaa", sum := "d49d78e22e37c1be78ed90367e146523b6372520e7ec58720d7638e92decab11", func := "rampart/rampartlaw11.CapabRuns", spec := "capabRuns", unfollowed := true, recurses := true, apart := false, narrowed := true }
def CapabRunsUptoSaid : Prop := capabRunsUptoRow.holds Try.pinned (OpenSpec.upto capabRunsSpec)

/-- 'rampartlaw11.CapabSpent', WHERE WHAT IT READS IS OF BULK AT MOST 1048576: true; the input reads as it did. -/
def capabSpentUptoRow : OpenClaim := { program := "ytcpaakhmcpeagaa", sum := "d49d78e22e37c1be78ed90367e146523b6372520e7ec58720d7638e92decab11", func := "rampart/rampartlaw11.CapabSpent", spec := "capabSpent", unfollowed := true, recurses := true, apart := false, narrowed := true }
def CapabSpentUptoSaid : Prop := capabSpentUptoRow.holds Try.pinned (OpenSpec.upto capabSpentSpec)

/-- 'rampartlaw11.CapabNobody', WHERE WHAT IT READS IS OF BULK AT MOST 1048576: true; the input reads as it did. -/
def capabNobodyUptoRow : OpenClaim := { program := "ytcpaakhmcpeagaa", sum := "d49d78e22e37c1be78ed90367e146523b6372520e7ec58720d7638e92decab11", func := "rampart/rampartlaw11.CapabNobody", spec := "capabNobody", unfollowed := true, recurses := true, apart := false, narrowed := true }
def CapabNobodyUptoSaid : Prop := capabNobodyUptoRow.holds Try.pinned (OpenSpec.upto capabNobodySpec)

end Rows
end Go.Proofs.Ytcpaakhmcpeagaa
