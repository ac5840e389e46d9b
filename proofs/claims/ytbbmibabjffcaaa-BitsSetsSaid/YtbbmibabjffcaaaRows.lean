/-
  No cell of these rows narrows 'for every input' (looked for: loops, veiled, ifaces, maps, wideKeys, modest, calm, conditions, laid).
  DERIVED. THE GIVEN ROWS OF THIS SEAT. 8 by the template 'for every input the law returns true; each argument reads behind the call as it read before'; 0 by the template 'total and deterministic' (their statements: YtbbmibabjffcaaaTotals.lean).
  GIVEN WITH THE SEED: the statements are not yours to turn. If you find one false, say at which input.
  Laid BY PROGRAM, IN A SANDBOX (cutbox-rows.mjs): the forced cells as the released guide's own fill.sh prints them over the translation c4a83169db348c1f… (all of the seat's roots in one cut). By AI agents, Wed Nov 11 2026. No macro, syntax, notation, axiom, sorry.
-/
import Derived.Test.YtbbmibabjffcaaaChecked
import GoSem.Claim
import GoSem.ClaimJoined
import GoSem.ClaimMapViews
import Derived.JoinedTies
import Derived.KernelRfl
namespace Go.Proofs.Ytbbmibabjffcaaa
/- THE CELL 'sum', in the pinned program and in every row, IS THE sha256 OF THE DUMP (.gsa) THAT YtbbmibabjffcaaaProg.lean LOADS. Nothing in Lean hashes anything: it is a label: what it is worth is what the hold of that sum in a sandbox is worth. -/
noncomputable def Try.pinned : Pinned := { name := "ytbbmibabjffcaaa", sum := "c4a83169db348c1f872288e47ea7f9a7e061fc900d4f88b7fc97ab63e76ad391", checked := Try.checked }
namespace Rows
def none {H : Type} : Left H := { results := [], args := [] }

/-- 'rampartlaw01.BitsSets': WHATEVER THE INPUT: true; the input reads as it did. -/
def bitsSetsSpec : ChangeSpec := { name := "bitsSets", fn := fun _ => fun
  | [d1, d2, d3, d4] => { results := [.lit (.bool true)], args := [d1, d2, d3, d4] }
  | _ => none }
def bitsSetsRow : OpenClaim := { program := "ytbbmibabjffcaaa", sum := "c4a83169db348c1f872288e47ea7f9a7e061fc900d4f88b7fc97ab63e76ad391", func := "rampart/rampartlaw01.BitsSets", spec := "bitsSets", unfollowed := true, recurses := true, apart := false }
def BitsSetsSaid : Prop := bitsSetsRow.holds Try.pinned (OpenSpec.ofChange bitsSetsSpec)

/-- ITS FALSE NEIGHBOUR: 'it returns false'. Refute it at one input. -/
def bitsSetsWrong : ChangeSpec := { name := "bitsSets", fn := fun _ => fun
  | [d1, d2, d3, d4] => { results := [.lit (.bool false)], args := [d1, d2, d3, d4] }
  | _ => none }
def BitsSetsWrongFalsely : Prop := bitsSetsRow.holds Try.pinned (OpenSpec.ofChange bitsSetsWrong)

/-- 'rampartlaw01.BitsCloses': WHATEVER THE INPUT: true; the input reads as it did. -/
def bitsClosesSpec : ChangeSpec := { name := "bitsCloses", fn := fun _ => fun
  | [d1, d2] => { results := [.lit (.bool true)], args := [d1, d2] }
  | _ => none }
def bitsClosesRow : OpenClaim := { program := "ytbbmibabjffcaaa", sum := "c4a83169db348c1f872288e47ea7f9a7e061fc900d4f88b7fc97ab63e76ad391", func := "rampart/rampartlaw01.BitsCloses", spec := "bitsCloses", unfollowed := true, recurses := true, apart := false }
def BitsClosesSaid : Prop := bitsClosesRow.holds Try.pinned (OpenSpec.ofChange bitsClosesSpec)

/-- ITS FALSE NEIGHBOUR: 'it returns false'. Refute it at one input. -/
def bitsClosesWrong : ChangeSpec := { name := "bitsCloses", fn := fun _ => fun
  | [d1, d2] => { results := [.lit (.bool false)], args := [d1, d2] }
  | _ => none }
def BitsClosesWrongFalsely : Prop := bitsClosesRow.holds Try.pinned (OpenSpec.ofChange bitsClosesWrong)

/-- 'rampartlaw01.BitsNumbers': WHATEVER THE INPUT: true; the input reads as it did. -/
def bitsNumbersSpec : ChangeSpec := { name := "bitsNumbers", fn := fun _ => fun
  | [d1, d2, d3] => { results := [.lit (.bool true)], args := [d1, d2, d3] }
  | _ => none }
def bitsNumbersRow : OpenClaim := { program := "ytbbmibabjffcaaa", sum := "c4a83169db348c1f872288e47ea7f9a7e061fc900d4f88b7fc97ab63e76ad391", func := "rampart/rampartlaw01.BitsNumbers", spec := "bitsNumbers", unfollowed := true, recurses := true, apart := false }
def BitsNumbersSaid : Prop := bitsNumbersRow.holds Try.pinned (OpenSpec.ofChange bitsNumbersSpec)

/-- ITS FALSE NEIGHBOUR: 'it returns false'. Refute it at one input. -/
def bitsNumbersWrong : ChangeSpec := { name := "bitsNumbers", fn := fun _ => fun
  | [d1, d2, d3] => { results := [.lit (.bool false)], args := [d1, d2, d3] }
  | _ => none }
def BitsNumbersWrongFalsely : Prop := bitsNumbersRow.holds Try.pinned (OpenSpec.ofChange bitsNumbersWrong)

/-- 'rampartlaw01.BitsOwn': WHATEVER THE INPUT: true; the input reads as it did. -/
def bitsOwnSpec : ChangeSpec := { name := "bitsOwn", fn := fun _ => fun
  | [d] => { results := [.lit (.bool true)], args := [d] }
  | _ => none }
def bitsOwnRow : OpenClaim := { program := "ytbbmibabjffcaaa", sum := "c4a83169db348c1f872288e47ea7f9a7e061fc900d4f88b7fc97ab63e76ad391", func := "rampart/rampartlaw01.BitsOwn", spec := "bitsOwn", unfollowed := true, recurses := true, apart := false }
def BitsOwnSaid : Prop := bitsOwnRow.holds Try.pinned (OpenSpec.ofChange bitsOwnSpec)

/-- ITS FALSE NEIGHBOUR: 'it returns false'. Refute it at one input. -/
def bitsOwnWrong : ChangeSpec := { name := "bitsOwn", fn := fun _ => fun
  | [d] => { results := [.lit (.bool false)], args := [d] }
  | _ => none }
def BitsOwnWrongFalsely : Prop := bitsOwnRow.holds Try.pinned (OpenSpec.ofChange bitsOwnWrong)

/-- 'rampartlaw01.BitsBack': WHATEVER THE INPUT: true; the input reads as it did. -/
def bitsBackSpec : ChangeSpec := { name := "bitsBack", fn := fun _ => fun
  | [d] => { results := [.lit (.bool true)], args := [d] }
  | _ => none }
def bitsBackRow : OpenClaim := { program := "ytbbmibabjffcaaa", sum := "c4a83169db348c1f872288e47ea7f9a7e061fc900d4f88b7fc97ab63e76ad391", func := "rampart/rampartlaw01.BitsBack", spec := "bitsBack", unfollowed := true, recurses := true, apart := false }
def BitsBackSaid : Prop := bitsBackRow.holds Try.pinned (OpenSpec.ofChange bitsBackSpec)

/-- ITS FALSE NEIGHBOUR: 'it returns false'. Refute it at one input. -/
def bitsBackWrong : ChangeSpec := { name := "bitsBack", fn := fun _ => fun
  | [d] => { results := [.lit (.bool false)], args := [d] }
  | _ => none }
def BitsBackWrongFalsely : Prop := bitsBackRow.holds Try.pinned (OpenSpec.ofChange bitsBackWrong)

/-- 'rampartlaw01.BitsLeast': WHATEVER THE INPUT: true; the input reads as it did. -/
def bitsLeastSpec : ChangeSpec := { name := "bitsLeast", fn := fun _ => fun
  | [d1, d2] => { results := [.lit (.bool true)], args := [d1, d2] }
  | _ => none }
def bitsLeastRow : OpenClaim := { program := "ytbbmibabjffcaaa", sum := "c4a83169db348c1f872288e47ea7f9a7e061fc900d4f88b7fc97ab63e76ad391", func := "rampart/rampartlaw01.BitsLeast", spec := "bitsLeast", unfollowed := true, recurses := true, apart := false }
def BitsLeastSaid : Prop := bitsLeastRow.holds Try.pinned (OpenSpec.ofChange bitsLeastSpec)

/-- ITS FALSE NEIGHBOUR: 'it returns false'. Refute it at one input. -/
def bitsLeastWrong : ChangeSpec := { name := "bitsLeast", fn := fun _ => fun
  | [d1, d2] => { results := [.lit (.bool false)], args := [d1, d2] }
  | _ => none }
def BitsLeastWrongFalsely : Prop := bitsLeastRow.holds Try.pinned (OpenSpec.ofChange bitsLeastWrong)

/-- 'rampartlaw01.BitsTurned': WHATEVER THE INPUT: true; the input reads as it did. -/
def bitsTurnedSpec : ChangeSpec := { name := "bitsTurned", fn := fun _ => fun
  | [d1, d2] => { results := [.lit (.bool true)], args := [d1, d2] }
  | _ => none }
def bitsTurnedRow : OpenClaim := { program := "ytbbmibabjffcaaa", sum := "c4a83169db348c1f872288e47ea7f9a7e061fc900d4f88b7fc97ab63e76ad391", func := "rampart/rampartlaw01.BitsTurned", spec := "bitsTurned", unfollowed := true, recurses := true, apart := false }
def BitsTurnedSaid : Prop := bitsTurnedRow.holds Try.pinned (OpenSpec.ofChange bitsTurnedSpec)

/-- ITS FALSE NEIGHBOUR: 'it returns false'. Refute it at one input. -/
def bitsTurnedWrong : ChangeSpec := { name := "bitsTurned", fn := fun _ => fun
  | [d1, d2] => { results := [.lit (.bool false)], args := [d1, d2] }
  | _ => none }
def BitsTurnedWrongFalsely : Prop := bitsTurnedRow.holds Try.pinned (OpenSpec.ofChange bitsTurnedWrong)

/-- 'rampartlaw01.BitsRelations': WHATEVER THE INPUT: true; the input reads as it did. -/
def bitsRelationsSpec : ChangeSpec := { name := "bitsRelations", fn := fun _ => fun
  | [d1, d2] => { results := [.lit (.bool true)], args := [d1, d2] }
  | _ => none }
def bitsRelationsRow : OpenClaim := { program := "ytbbmibabjffcaaa", sum := "c4a83169db348c1f872288e47ea7f9a7e061fc900d4f88b7fc97ab63e76ad391", func := "rampart/rampartlaw01.BitsRelations", spec := "bitsRelations", unfollowed := true, recurses := true, apart := false }
def BitsRelationsSaid : Prop := bitsRelationsRow.holds Try.pinned (OpenSpec.ofChange bitsRelationsSpec)

/-- ITS FALSE NEIGHBOUR: 'it returns false'. Refute it at one input. -/
def bitsRelationsWrong : ChangeSpec := { name := "bitsRelations", fn := fun _ => fun
  | [d1, d2] => { results := [.lit (.bool false)], args := [d1, d2] }
  | _ => none }
def BitsRelationsWrongFalsely : Prop := bitsRelationsRow.holds Try.pinned (OpenSpec.ofChange bitsRelationsWrong)

/- THE SECOND FORM. 'bulk': how many values and letters a reading holds, each counted each time it is reached (what is shared counts as often as it is met; a slice's spare places count too). A statement '..UptoSaid' is the law's where the arguments, and the package variables that the reading takes, are together of bulk at most 1048576: NARROWER than '..Said'. Prove '..Said' where nothing that the law and all that it calls make is longer than what came in: it says more and counts as full. Else prove '..UptoSaid'. A law counts once. -/
mutual
def uptoBulk {H : Type} : DataW H → Nat
  | .lit (.string bytes) => bytes.length + 1
  | .lit _ => 1
  | .nil => 1
  | .ptr d => uptoBulk d + 1
  | .slice elems spare => uptoBulkAll elems + uptoBulkAll spare + 1
  | .agg parts => uptoBulkAll parts + 1
  | .iface _ d => uptoBulk d + 1
  | .map entries => uptoBulkEntries entries + 1
  | .held _ => 1
def uptoBulkAll {H : Type} : List (DataW H) → Nat
  | [] => 0
  | d :: r => uptoBulk d + uptoBulkAll r
def uptoBulkEntries {H : Type} : List (Lit × DataW H) → Nat
  | [] => 0
  | x :: r => uptoBulkEntry x + uptoBulkEntries r
def uptoBulkEntry {H : Type} : Lit × DataW H → Nat
  | (.string bytes, d) => bytes.length + uptoBulk d + 1
  | (_, d) => uptoBulk d + 1
 end
def uptoSmall : (H : Type) → List (DataW H) → Bool := fun _ ds => decide (uptoBulkAll ds ≤ 1048576)
def OpenSpec.upto (s : _root_.Go.ChangeSpec) : _root_.Go.OpenSpec := { _root_.Go.OpenSpec.ofChange s with cond := some uptoSmall }

/-- 'rampartlaw01.BitsSets', WHERE WHAT IT READS IS OF BULK AT MOST 1048576: true; the input reads as it did. -/
def bitsSetsUptoRow : OpenClaim := { program := "ytbbmibabjffcaaa", sum := "c4a83169db348c1f872288e47ea7f9a7e061fc900d4f88b7fc97ab63e76ad391", func := "rampart/rampartlaw01.BitsSets", spec := "bitsSets", unfollowed := true, recurses := true, apart := false, narrowed := true }
def BitsSetsUptoSaid : Prop := bitsSetsUptoRow.holds Try.pinned (OpenSpec.upto bitsSetsSpec)

/-- 'rampartlaw01.BitsCloses', WHERE WHAT IT READS IS OF BULK AT MOST 1048576: true; the input reads as it did. -/
def bitsClosesUptoRow : OpenClaim := { program := "ytbbmibabjffcaaa", sum := "c4a83169db348c1f872288e47ea7f9a7e061fc900d4f88b7fc97ab63e76ad391", func := "rampart/rampartlaw01.BitsCloses", spec := "bitsCloses", unfollowed := true, recurses := true, apart := false, narrowed := true }
def BitsClosesUptoSaid : Prop := bitsClosesUptoRow.holds Try.pinned (OpenSpec.upto bitsClosesSpec)

/-- 'rampartlaw01.BitsNumbers', WHERE WHAT IT READS IS OF BULK AT MOST 1048576: true; the input reads as it did. -/
def bitsNumbersUptoRow : OpenClaim := { program := "ytbbmibabjffcaaa", sum := "c4a83169db348c1f872288e47ea7f9a7e061fc900d4f88b7fc97ab63e76ad391", func := "rampart/rampartlaw01.BitsNumbers", spec := "bitsNumbers", unfollowed := true, recurses := true, apart := false, narrowed := true }
def BitsNumbersUptoSaid : Prop := bitsNumbersUptoRow.holds Try.pinned (OpenSpec.upto bitsNumbersSpec)

/-- 'rampartlaw01.BitsOwn', WHERE WHAT IT READS IS OF BULK AT MOST 1048576: true; the input reads as it did. -/
def bitsOwnUptoRow : OpenClaim := { program := "ytbbmibabjffcaaa", sum := "c4a83169db348c1f872288e47ea7f9a7e061fc900d4f88b7fc97ab63e76ad391", func := "rampart/rampartlaw01.BitsOwn", spec := "bitsOwn", unfollowed := true, recurses := true, apart := false, narrowed := true }
def BitsOwnUptoSaid : Prop := bitsOwnUptoRow.holds Try.pinned (OpenSpec.upto bitsOwnSpec)

/-- 'rampartlaw01.BitsBack', WHERE WHAT IT READS IS OF BULK AT MOST 1048576: true; the input reads as it did. -/
def bitsBackUptoRow : OpenClaim := { program := "ytbbmibabjffcaaa", sum := "c4a83169db348c1f872288e47ea7f9a7e061fc900d4f88b7fc97ab63e76ad391", func := "rampart/rampartlaw01.BitsBack", spec := "bitsBack", unfollowed := true, recurses := true, apart := false, narrowed := true }
def BitsBackUptoSaid : Prop := bitsBackUptoRow.holds Try.pinned (OpenSpec.upto bitsBackSpec)

/-- 'rampartlaw01.BitsLeast', WHERE WHAT IT READS IS OF BULK AT MOST 1048576: true; the input reads as it did. -/
def bitsLeastUptoRow : OpenClaim := { program := "ytbbmibabjffcaaa", sum := "c4a83169db348c1f872288e47ea7f9a7e061fc900d4f88b7fc97ab63e76ad391", func := "rampart/rampartlaw01.BitsLeast", spec := "bitsLeast", unfollowed := true, recurses := true, apart := false, narrowed := true }
def BitsLeastUptoSaid : Prop := bitsLeastUptoRow.holds Try.pinned (OpenSpec.upto bitsLeastSpec)

/-- 'rampartlaw01.BitsTurned', WHERE WHAT IT READS IS OF BULK AT MOST 1048576: true; the input reads as it did. -/
def bitsTurnedUptoRow : OpenClaim := { program := "ytbbmibabjffcaaa", sum := "c4a83169db348c1f872288e47ea7f9a7e061fc900d4f88b7fc97ab63e76ad391", func := "rampart/rampartlaw01.BitsTurned", spec := "bitsTurned", unfollowed := true, recurses := true, apart := false, narrowed := true }
def BitsTurnedUptoSaid : Prop := bitsTurnedUptoRow.holds Try.pinned (OpenSpec.upto bitsTurnedSpec)

/-- 'rampartlaw01.BitsRelations', WHERE WHAT IT READS IS OF BULK AT MOST 1048576: true; the input reads as it did. -/
def bitsRelationsUptoRow : OpenClaim := { program := "ytbbmibabjffcaaa", sum := "c4a83169db348c1f872288e47ea7f9a7e061fc900d4f88b7fc97ab63e76ad391", func := "rampart/rampartlaw01.BitsRelations", spec := "bitsRelations", unfollowed := true, recurses := true, apart := false, narrowed := true }
def BitsRelationsUptoSaid : Prop := bitsRelationsUptoRow.holds Try.pinned (OpenSpec.upto bitsRelationsSpec)

end Rows
end Go.Proofs.Ytbbmibabjffcaaa
