/-
  No cell of these rows narrows 'for every input' (looked for: loops, veiled, ifaces, maps, wideKeys, modest, calm, conditions, laid).
  DERIVED. THE GIVEN ROWS OF THIS SEAT. 4 by the template 'for every input the law returns true; each argument reads behind the call as it read before'; 0 by the template 'total and deterministic' (their statements: YtkkgnmfahhkajaaTotals.lean).
  GIVEN WITH THE SEED: the statements are not yours to turn. If you find one false, say at which input.
  Laid BY PROGRAM, IN A SANDBOX (cutbox-rows.mjs): the forced cells as the released guide's own fill.sh prints them over the translation 4fa86d4ab1707be6… (all of the seat's roots in one cut). By AI agents, Wed Nov 11 2026. No macro, syntax, notation, axiom, sorry.
-/
import Derived.Test.YtkkgnmfahhkajaaChecked
import GoSem.Claim
import GoSem.ClaimJoined
import GoSem.ClaimMapViews
import Derived.JoinedTies
import Derived.KernelRfl
namespace Go.Proofs.Ytkkgnmfahhkajaa
/- THE CELL 'sum', in the pinned program and in every row, IS THE sha256 OF THE DUMP (.gsa) THAT YtkkgnmfahhkajaaProg.lean LOADS. Nothing in Lean hashes anything: it is a label: what it is worth is what the hold of that sum in a sandbox is worth. -/
noncomputable def Try.pinned : Pinned := { name := "ytkkgnmfahhkajaa", sum := "4fa86d4ab1707be6497db9b879ee358b76cd342f23b334ecf12cb0d20204a214", checked := Try.checked }
namespace Rows
def none {H : Type} : Left H := { results := [], args := [] }

/-- 'rampartlaw18.PendAdds': WHATEVER THE INPUT: true; the input reads as it did. -/
def pendAddsSpec : ChangeSpec := { name := "pendAdds", fn := fun _ => fun
  | [d1, d2] => { results := [.lit (.bool true)], args := [d1, d2] }
  | _ => none }
def pendAddsRow : OpenClaim := { program := "ytkkgnmfahhkajaa", sum := "4fa86d4ab1707be6497db9b879ee358b76cd342f23b334ecf12cb0d20204a214", func := "rampart/rampartlaw18.PendAdds", spec := "pendAdds", unfollowed := true, recurses := true, apart := false }
def PendAddsSaid : Prop := pendAddsRow.holds Try.pinned (OpenSpec.ofChange pendAddsSpec)

/-- ITS FALSE NEIGHBOUR: 'it returns false'. Refute it at one input. -/
def pendAddsWrong : ChangeSpec := { name := "pendAdds", fn := fun _ => fun
  | [d1, d2] => { results := [.lit (.bool false)], args := [d1, d2] }
  | _ => none }
def PendAddsWrongFalsely : Prop := pendAddsRow.holds Try.pinned (OpenSpec.ofChange pendAddsWrong)

/-- 'rampartlaw18.PendSets': WHATEVER THE INPUT: true; the input reads as it did. -/
def pendSetsSpec : ChangeSpec := { name := "pendSets", fn := fun _ => fun
  | [d1, d2, d3] => { results := [.lit (.bool true)], args := [d1, d2, d3] }
  | _ => none }
def pendSetsRow : OpenClaim := { program := "ytkkgnmfahhkajaa", sum := "4fa86d4ab1707be6497db9b879ee358b76cd342f23b334ecf12cb0d20204a214", func := "rampart/rampartlaw18.PendSets", spec := "pendSets", unfollowed := true, recurses := true, apart := false }
def PendSetsSaid : Prop := pendSetsRow.holds Try.pinned (OpenSpec.ofChange pendSetsSpec)

/-- ITS FALSE NEIGHBOUR: 'it returns false'. Refute it at one input. -/
def pendSetsWrong : ChangeSpec := { name := "pendSets", fn := fun _ => fun
  | [d1, d2, d3] => { results := [.lit (.bool false)], args := [d1, d2, d3] }
  | _ => none }
def PendSetsWrongFalsely : Prop := pendSetsRow.holds Try.pinned (OpenSpec.ofChange pendSetsWrong)

/-- 'rampartlaw18.PendAges': WHATEVER THE INPUT: true; the input reads as it did. -/
def pendAgesSpec : ChangeSpec := { name := "pendAges", fn := fun _ => fun
  | [d1, d2] => { results := [.lit (.bool true)], args := [d1, d2] }
  | _ => none }
def pendAgesRow : OpenClaim := { program := "ytkkgnmfahhkajaa", sum := "4fa86d4ab1707be6497db9b879ee358b76cd342f23b334ecf12cb0d20204a214", func := "rampart/rampartlaw18.PendAges", spec := "pendAges", unfollowed := true, recurses := true, apart := false }
def PendAgesSaid : Prop := pendAgesRow.holds Try.pinned (OpenSpec.ofChange pendAgesSpec)

/-- ITS FALSE NEIGHBOUR: 'it returns false'. Refute it at one input. -/
def pendAgesWrong : ChangeSpec := { name := "pendAges", fn := fun _ => fun
  | [d1, d2] => { results := [.lit (.bool false)], args := [d1, d2] }
  | _ => none }
def PendAgesWrongFalsely : Prop := pendAgesRow.holds Try.pinned (OpenSpec.ofChange pendAgesWrong)

/-- 'rampartlaw18.PendForms': WHATEVER THE INPUT: true; the input reads as it did. -/
def pendFormsSpec : ChangeSpec := { name := "pendForms", fn := fun _ => fun
  | [d1, d2, d3] => { results := [.lit (.bool true)], args := [d1, d2, d3] }
  | _ => none }
def pendFormsRow : OpenClaim := { program := "ytkkgnmfahhkajaa", sum := "4fa86d4ab1707be6497db9b879ee358b76cd342f23b334ecf12cb0d20204a214", func := "rampart/rampartlaw18.PendForms", spec := "pendForms", unfollowed := true, recurses := true, apart := false }
def PendFormsSaid : Prop := pendFormsRow.holds Try.pinned (OpenSpec.ofChange pendFormsSpec)

/-- ITS FALSE NEIGHBOUR: 'it returns false'. Refute it at one input. -/
def pendFormsWrong : ChangeSpec := { name := "pendForms", fn := fun _ => fun
  | [d1, d2, d3] => { results := [.lit (.bool false)], args := [d1, d2, d3] }
  | _ => none }
def PendFormsWrongFalsely : Prop := pendFormsRow.holds Try.pinned (OpenSpec.ofChange pendFormsWrong)

/- THE SECOND FORM. 'bulk': how many values and letters a reading holds, each counted each time it is reached (what is shared counts as often as it is met; a slice's spare places count too). A statement '..UptoSaid' is the law's where the arguments, and the package variables that the reading takes, are together of bulk at most 1048576: NARROWER than '..Said'. Prove '..Said' where nothing that the law and all that it calls make is longer than what came in: it says more and counts as full. Else prove '..UptoSaid'. A law counts once. -/
mutual
def uptoBulk {H : Type} : DataW H → Nat
  | .lit (.string bytes) => bytes.length + 1
  | .lit _ => 1
  | .nil => 1
  | .ptr d => uptoBulk d + 1
  | .slice elems spare => uptoBulkAll elems + uptoBulkAll spare + 1
  | .agg parts => uptoBulkAll parts + 1
  | .iface _ d => uptoBulk d + 1
  | .map entries => uptoBulkEntries entries + 1
  | .held _ => 1
def uptoBulkAll {H : Type} : List (DataW H) → Nat
  | [] => 0
  | d :: r => uptoBulk d + uptoBulkAll r
def uptoBulkEntries {H : Type} : List (Lit × DataW H) → Nat
  | [] => 0
  | x :: r => uptoBulkEntry x + uptoBulkEntries r
def uptoBulkEntry {H : Type} : Lit × DataW H → Nat
  | (.string bytes, d) => bytes.length + uptoBulk d + 1
  | (_, d) => uptoBulk d + 1
 end
def uptoSmall : (H : Type) → List (DataW H) → Bool := fun _ ds => decide (uptoBulkAll ds ≤ 1048576)
def OpenSpec.upto (s : _root_.Go.ChangeSpec) : _root_.Go.OpenSpec := { _root_.Go.OpenSpec.ofChange s with cond := some uptoSmall }

/-- 'rampartlaw18.PendAdds', WHERE WHAT IT READS IS OF BULK AT MOST 1048576: true; the input reads as it did. -/
def pendAddsUptoRow : OpenClaim := { program := "ytkkgnmfahhkajaa", sum := "4fa86d4ab1707be6497db9b879ee358b76cd342f23b334ecf12cb0d20204a214", func := "rampart/rampartlaw18.PendAdds", spec := "pendAdds", unfollowed := true, recurses := true, apart := false, narrowed := true }
def PendAddsUptoSaid : Prop := pendAddsUptoRow.holds Try.pinned (OpenSpec.upto pendAddsSpec)

/-- 'rampartlaw18.PendSets', WHERE WHAT IT READS IS OF BULK AT MOST 1048576: true; the input reads as it did. -/
def pendSetsUptoRow : OpenClaim := { program := "ytkkgnmfahhkajaa", sum := "4fa86d4ab1707be6497db9b879ee358b76cd342f23b334ecf12cb0d20204a214", func := "rampart/rampartlaw18.PendSets", spec := "pendSets", unfollowed := true, recurses := true, apart := false, narrowed := true }
def PendSetsUptoSaid : Prop := pendSetsUptoRow.holds Try.pinned (OpenSpec.upto pendSetsSpec)

/-- 'rampartlaw18.PendAges', WHERE WHAT IT READS IS OF BULK AT MOST 1048576: true; the input reads as it did. -/
def pendAgesUptoRow : OpenClaim := { program := "ytkkgnmfahhkajaa", sum := "4fa86d4ab1707be6497db9b879ee358b76cd342f23b334ecf12cb0d20204a214", func := "rampart/rampartlaw18.PendAges", spec := "pendAges", unfollowed := true, recurses := true, apart := false, narrowed := true }
def PendAgesUptoSaid : Prop := pendAgesUptoRow.holds Try.pinned (OpenSpec.upto pendAgesSpec)

/-- 'rampartlaw18.PendForms', WHERE WHAT IT READS IS OF BULK AT MOST 1048576: true; the input reads as it did. -/
def pendFormsUptoRow : OpenClaim := { program := "ytkkgnmfahhkajaa", sum := "4fa86d4ab1707be6497db9b879ee358b76cd342f23b334ecf12cb0d20204a214", func := "rampart/rampartlaw18.PendForms", spec := "pendForms", unfollowed := true, recurses := true, apart := false, narrowed := true }
def PendFormsUptoSaid : Prop := pendFormsUptoRow.holds Try.pinned (OpenSpec.upto pendFormsSpec)

end Rows
end Go.Proofs.Ytkkgnmfahhkajaa
