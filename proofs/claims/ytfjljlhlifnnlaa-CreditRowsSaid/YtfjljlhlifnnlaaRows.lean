/-
  No cell of these rows narrows 'for every input' (looked for: loops, veiled, ifaces, maps, wideKeys, modest, calm, conditions, laid).
  DERIVED. THE GIVEN ROWS OF THIS SEAT. 5 by the template 'for every input the law returns true; each argument reads behind the call as it read before'; 0 by the template 'total and deterministic' (their statements: YtfjljlhlifnnlaaTotals.lean).
  GIVEN WITH THE SEED: the statements are not yours to turn. If you find one false, say at which input.
  Laid BY PROGRAM, IN A SANDBOX (cutbox-rows.mjs): the forced cells as the released guide's own fill.sh prints them over the translation 6f24793cd1ef01b2… (all of the seat's roots in one cut). By AI agents, Wed Nov 11 2026. No macro, syntax, notation, axiom, sorry.
-/
import Derived.Test.YtfjljlhlifnnlaaChecked
import GoSem.Claim
import GoSem.ClaimJoined
import GoSem.ClaimMapViews
import Derived.JoinedTies
import Derived.KernelRfl
namespace Go.Proofs.Ytfjljlhlifnnlaa
/- THE CELL 'sum', in the pinned program and in every row, IS THE sha256 OF THE DUMP (.gsa) THAT YtfjljlhlifnnlaaProg.lean LOADS. Nothing in Lean hashes anything: it is a label: what it is worth is what the hold of that sum in a sandbox is worth. -/
noncomputable def Try.pinned : Pinned := { name := "ytfjljlhlifnnlaa", sum := "6f24793cd1ef01b2a74c237cab08739efdb825369500bca9ae7b3e642ec44bb7", checked := Try.checked }
namespace Rows
def none {H : Type} : Left H := { results := [], args := [] }

/-- 'rampartlaw13.CreditActs': WHATEVER THE INPUT: true; the input reads as it did. -/
def creditActsSpec : ChangeSpec := { name := "creditActs", fn := fun _ => fun
  | [d1, d2, d3] => { results := [.lit (.bool true)], args := [d1, d2, d3] }
  | _ => none }
def creditActsRow : OpenClaim := { program := "ytfjljlhlifnnlaa", sum := "6f24793cd1ef01b2a74c237cab08739efdb825369500bca9ae7b3e642ec44bb7", func := "rampart/rampartlaw13.CreditActs", spec := "creditActs", unfollowed := true, recurses := true, apart := false }
def CreditActsSaid : Prop := creditActsRow.holds Try.pinned (OpenSpec.ofChange creditActsSpec)

/-- ITS FALSE NEIGHBOUR: 'it returns false'. Refute it at one input. -/
def creditActsWrong : ChangeSpec := { name := "creditActs", fn := fun _ => fun
  | [d1, d2, d3] => { results := [.lit (.bool false)], args := [d1, d2, d3] }
  | _ => none }
def CreditActsWrongFalsely : Prop := creditActsRow.holds Try.pinned (OpenSpec.ofChange creditActsWrong)

/-- 'rampartlaw13.CreditBounded': WHATEVER THE INPUT: true; the input reads as it did. -/
def creditBoundedSpec : ChangeSpec := { name := "creditBounded", fn := fun _ => fun
  | [d1, d2] => { results := [.lit (.bool true)], args := [d1, d2] }
  | _ => none }
def creditBoundedRow : OpenClaim := { program := "ytfjljlhlifnnlaa", sum := "6f24793cd1ef01b2a74c237cab08739efdb825369500bca9ae7b3e642ec44bb7", func := "rampart/rampartlaw13.CreditBounded", spec := "creditBounded", unfollowed := true, recurses := true, apart := false }
def CreditBoundedSaid : Prop := creditBoundedRow.holds Try.pinned (OpenSpec.ofChange creditBoundedSpec)

/-- ITS FALSE NEIGHBOUR: 'it returns false'. Refute it at one input. -/
def creditBoundedWrong : ChangeSpec := { name := "creditBounded", fn := fun _ => fun
  | [d1, d2] => { results := [.lit (.bool false)], args := [d1, d2] }
  | _ => none }
def CreditBoundedWrongFalsely : Prop := creditBoundedRow.holds Try.pinned (OpenSpec.ofChange creditBoundedWrong)

/-- 'rampartlaw13.CreditOnce': WHATEVER THE INPUT: true; the input reads as it did. -/
def creditOnceSpec : ChangeSpec := { name := "creditOnce", fn := fun _ => fun
  | [d1, d2] => { results := [.lit (.bool true)], args := [d1, d2] }
  | _ => none }
def creditOnceRow : OpenClaim := { program := "ytfjljlhlifnnlaa", sum := "6f24793cd1ef01b2a74c237cab08739efdb825369500bca9ae7b3e642ec44bb7", func := "rampart/rampartlaw13.CreditOnce", spec := "creditOnce", unfollowed := true, recurses := true, apart := false }
def CreditOnceSaid : Prop := creditOnceRow.holds Try.pinned (OpenSpec.ofChange creditOnceSpec)

/-- ITS FALSE NEIGHBOUR: 'it returns false'. Refute it at one input. -/
def creditOnceWrong : ChangeSpec := { name := "creditOnce", fn := fun _ => fun
  | [d1, d2] => { results := [.lit (.bool false)], args := [d1, d2] }
  | _ => none }
def CreditOnceWrongFalsely : Prop := creditOnceRow.holds Try.pinned (OpenSpec.ofChange creditOnceWrong)

/-- 'rampartlaw13.CreditRuns': WHATEVER THE INPUT: true; the input reads as it did. -/
def creditRunsSpec : ChangeSpec := { name := "creditRuns", fn := fun _ => fun
  | [d1, d2, d3] => { results := [.lit (.bool true)], args := [d1, d2, d3] }
  | _ => none }
def creditRunsRow : OpenClaim := { program := "ytfjljlhlifnnlaa", sum := "6f24793cd1ef01b2a74c237cab08739efdb825369500bca9ae7b3e642ec44bb7", func := "rampart/rampartlaw13.CreditRuns", spec := "creditRuns", unfollowed := true, recurses := true, apart := false }
def CreditRunsSaid : Prop := creditRunsRow.holds Try.pinned (OpenSpec.ofChange creditRunsSpec)

/-- ITS FALSE NEIGHBOUR: 'it returns false'. Refute it at one input. -/
def creditRunsWrong : ChangeSpec := { name := "creditRuns", fn := fun _ => fun
  | [d1, d2, d3] => { results := [.lit (.bool false)], args := [d1, d2, d3] }
  | _ => none }
def CreditRunsWrongFalsely : Prop := creditRunsRow.holds Try.pinned (OpenSpec.ofChange creditRunsWrong)

/-- 'rampartlaw13.CreditRows': WHATEVER THE INPUT: true; the input reads as it did. -/
def creditRowsSpec : ChangeSpec := { name := "creditRows", fn := fun _ => fun
  | [d1, d2, d3] => { results := [.lit (.bool true)], args := [d1, d2, d3] }
  | _ => none }
def creditRowsRow : OpenClaim := { program := "ytfjljlhlifnnlaa", sum := "6f24793cd1ef01b2a74c237cab08739efdb825369500bca9ae7b3e642ec44bb7", func := "rampart/rampartlaw13.CreditRows", spec := "creditRows", unfollowed := true, recurses := true, apart := false }
def CreditRowsSaid : Prop := creditRowsRow.holds Try.pinned (OpenSpec.ofChange creditRowsSpec)

/-- ITS FALSE NEIGHBOUR: 'it returns false'. Refute it at one input. -/
def creditRowsWrong : ChangeSpec := { name := "creditRows", fn := fun _ => fun
  | [d1, d2, d3] => { results := [.lit (.bool false)], args := [d1, d2, d3] }
  | _ => none }
def CreditRowsWrongFalsely : Prop := creditRowsRow.holds Try.pinned (OpenSpec.ofChange creditRowsWrong)

/- THE SECOND FORM. 'bulk': how many values and letters a reading holds, each counted each time it is reached (what is shared counts as often as it is met; a slice's spare places count too). A statement '..UptoSaid' is the law's where the arguments, and the package variables that the reading takes, are together of bulk at most 1048576: NARROWER than '..Said'. Prove '..Said' where nothing that the law and all that it calls make is longer than what came in: it says more and counts as full. Else prove '..UptoSaid'. A law counts once. -/
mutual
def uptoBulk {H : Type} : DataW H → Nat
  | .lit (.string bytes) => bytes.length + 1
  | .lit _ => 1
  | .nil => 1
  | .ptr d => uptoBulk d + 1
  | .slice elems spare => uptoBulkAll elems + uptoBulkAll spare + 1
  | .agg parts => uptoBulkAll parts + 1
  | .iface _ d => uptoBulk d + 1
  | .map entries => uptoBulkEntries entries + 1
  | .held _ => 1
def uptoBulkAll {H : Type} : List (DataW H) → Nat
  | [] => 0
  | d :: r => uptoBulk d + uptoBulkAll r
def uptoBulkEntries {H : Type} : List (Lit × DataW H) → Nat
  | [] => 0
  | x :: r => uptoBulkEntry x + uptoBulkEntries r
def uptoBulkEntry {H : Type} : Lit × DataW H → Nat
  | (.string bytes, d) => bytes.length + uptoBulk d + 1
  | (_, d) => uptoBulk d + 1
 end
def uptoSmall : (H : Type) → List (DataW H) → Bool := fun _ ds => decide (uptoBulkAll ds ≤ 1048576)
def OpenSpec.upto (s : _root_.Go.ChangeSpec) : _root_.Go.OpenSpec := { _root_.Go.OpenSpec.ofChange s with cond := some uptoSmall }

/-- 'rampartlaw13.CreditActs', WHERE WHAT IT READS IS OF BULK AT MOST 1048576: true; the input reads as it did. -/
def creditActsUptoRow : OpenClaim := { program := "ytfjljlhlifnnlaa", sum := "6f24793cd1ef01b2a74c237cab08739efdb825369500bca9ae7b3e642ec44bb7", func := "rampart/rampartlaw13.CreditActs", spec := "creditActs", unfollowed := true, recurses := true, apart := false, narrowed := true }
def CreditActsUptoSaid : Prop := creditActsUptoRow.holds Try.pinned (OpenSpec.upto creditActsSpec)

/-- 'rampartlaw13.CreditBounded', WHERE WHAT IT READS IS OF BULK AT MOST 1048576: true; the input reads as it did. -/
def creditBoundedUptoRow : OpenClaim := { program := "ytfjljlhlifnnlaa", sum := "6f24793cd1ef01b2a74c237cab08739efdb825369500bca9ae7b3e642ec44bb7", func := "rampart/rampartlaw13.CreditBounded", spec := "creditBounded", unfollowed := true, recurses := true, apart := false, narrowed := true }
def CreditBoundedUptoSaid : Prop := creditBoundedUptoRow.holds Try.pinned (OpenSpec.upto creditBoundedSpec)

/-- 'rampartlaw13.CreditOnce', WHERE WHAT IT READS IS OF BULK AT MOST 1048576: true; the input reads as it did. -/
def creditOnceUptoRow : OpenClaim := { program := "ytfjljlhlifnnlaa", sum := "6f24793cd1ef01b2a74c237cab08739efdb825369500bca9ae7b3e642ec44bb7", func := "rampart/rampartlaw13.CreditOnce", spec := "creditOnce", unfollowed := true, recurses := true, apart := false, narrowed := true }
def CreditOnceUptoSaid : Prop := creditOnceUptoRow.holds Try.pinned (OpenSpec.upto creditOnceSpec)

/-- 'rampartlaw13.CreditRuns', WHERE WHAT IT READS IS OF BULK AT MOST 1048576: true; the input reads as it did. -/
def creditRunsUptoRow : OpenClaim := { program := "ytfjljlhlifnnlaa", sum := "6f24793cd1ef01b2a74c237cab08739efdb825369500bca9ae7b3e642ec44bb7", func := "rampart/rampartlaw13.CreditRuns", spec := "creditRuns", unfollowed := true, recurses := true, apart := false, narrowed := true }
def CreditRunsUptoSaid : Prop := creditRunsUptoRow.holds Try.pinned (OpenSpec.upto creditRunsSpec)

/-- 'rampartlaw13.CreditRows', WHERE WHAT IT READS IS OF BULK AT MOST 1048576: true; the input reads as it did. -/
def creditRowsUptoRow : OpenClaim := { program := "ytfjljlhlifnnlaa", sum := "6f24793cd1ef01b2a74c237cab08739efdb825369500bca9ae7b3e642ec44bb7", func := "rampart/rampartlaw13.CreditRows", spec := "creditRows", unfollowed := true, recurses := true, apart := false, narrowed := true }
def CreditRowsUptoSaid : Prop := creditRowsUptoRow.holds Try.pinned (OpenSpec.upto creditRowsSpec)

end Rows
end Go.Proofs.Ytfjljlhlifnnlaa
