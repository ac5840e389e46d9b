/-
  No cell of these rows narrows 'for every input' (looked for: loops, veiled, ifaces, maps, wideKeys, modest, calm, conditions, laid).
  DERIVED. THE GIVEN ROWS OF THIS SEAT. 5 by the template 'for every input the law returns true; each argument reads behind the call as it read before'; 0 by the template 'total and deterministic' (their statements: YtcifbemppbegbaaTotals.lean).
  GIVEN WITH THE SEED: the statements are not yours to turn. If you find one false, say at which input.
  Laid BY PROGRAM, IN A SANDBOX (cutbox-rows.mjs): the forced cells as the released guide's own fill.sh prints them over the translation f75abca7e2bf255b… (all of the seat's roots in one cut). By AI agents, Wed Nov 11 2026. No macro, syntax, notation, axiom, sorry.
-/
import Derived.Test.YtcifbemppbegbaaChecked
import GoSem.Claim
import GoSem.ClaimJoined
import GoSem.ClaimMapViews
import Derived.JoinedTies
import Derived.KernelRfl
namespace Go.Proofs.Ytcifbemppbegbaa
/- THE CELL 'sum', in the pinned program and in every row, IS THE sha256 OF THE DUMP (.gsa) THAT YtcifbemppbegbaaProg.lean LOADS. Nothing in Lean hashes anything: it is a label: what it is worth is what the hold of that sum in a sandbox is worth. -/
noncomputable def Try.pinned : Pinned := { name := "ytcifbemppbegbaa", sum := "f75abca7e2bf255be5ee6edc8273b95759c6a67519bd47db2e210529fecdb07b", checked := Try.checked }
namespace Rows
def none {H : Type} : Left H := { results := [], args := [] }

/-- 'rampartlaw10.QueueClaims': WHATEVER THE INPUT: true; the input reads as it did. -/
def queueClaimsSpec : ChangeSpec := { name := "queueClaims", fn := fun _ => fun
  | [d1, d2, d3, d4] => { results := [.lit (.bool true)], args := [d1, d2, d3, d4] }
  | _ => none }
def queueClaimsRow : OpenClaim := { program := "ytcifbemppbegbaa", sum := "f75abca7e2bf255be5ee6edc8273b95759c6a67519bd47db2e210529fecdb07b", func := "rampart/rampartlaw10.QueueClaims", spec := "queueClaims", unfollowed := true, recurses := true, apart := false }
def QueueClaimsSaid : Prop := queueClaimsRow.holds Try.pinned (OpenSpec.ofChange queueClaimsSpec)

/-- ITS FALSE NEIGHBOUR: 'it returns false'. Refute it at one input. -/
def queueClaimsWrong : ChangeSpec := { name := "queueClaims", fn := fun _ => fun
  | [d1, d2, d3, d4] => { results := [.lit (.bool false)], args := [d1, d2, d3, d4] }
  | _ => none }
def QueueClaimsWrongFalsely : Prop := queueClaimsRow.holds Try.pinned (OpenSpec.ofChange queueClaimsWrong)

/-- 'rampartlaw10.QueueTakes': WHATEVER THE INPUT: true; the input reads as it did. -/
def queueTakesSpec : ChangeSpec := { name := "queueTakes", fn := fun _ => fun
  | [d1, d2, d3] => { results := [.lit (.bool true)], args := [d1, d2, d3] }
  | _ => none }
def queueTakesRow : OpenClaim := { program := "ytcifbemppbegbaa", sum := "f75abca7e2bf255be5ee6edc8273b95759c6a67519bd47db2e210529fecdb07b", func := "rampart/rampartlaw10.QueueTakes", spec := "queueTakes", unfollowed := true, recurses := true, apart := false }
def QueueTakesSaid : Prop := queueTakesRow.holds Try.pinned (OpenSpec.ofChange queueTakesSpec)

/-- ITS FALSE NEIGHBOUR: 'it returns false'. Refute it at one input. -/
def queueTakesWrong : ChangeSpec := { name := "queueTakes", fn := fun _ => fun
  | [d1, d2, d3] => { results := [.lit (.bool false)], args := [d1, d2, d3] }
  | _ => none }
def QueueTakesWrongFalsely : Prop := queueTakesRow.holds Try.pinned (OpenSpec.ofChange queueTakesWrong)

/-- 'rampartlaw10.QueueFifo': WHATEVER THE INPUT: true; the input reads as it did. -/
def queueFifoSpec : ChangeSpec := { name := "queueFifo", fn := fun _ => fun
  | [d1, d2] => { results := [.lit (.bool true)], args := [d1, d2] }
  | _ => none }
def queueFifoRow : OpenClaim := { program := "ytcifbemppbegbaa", sum := "f75abca7e2bf255be5ee6edc8273b95759c6a67519bd47db2e210529fecdb07b", func := "rampart/rampartlaw10.QueueFifo", spec := "queueFifo", unfollowed := true, recurses := true, apart := false }
def QueueFifoSaid : Prop := queueFifoRow.holds Try.pinned (OpenSpec.ofChange queueFifoSpec)

/-- ITS FALSE NEIGHBOUR: 'it returns false'. Refute it at one input. -/
def queueFifoWrong : ChangeSpec := { name := "queueFifo", fn := fun _ => fun
  | [d1, d2] => { results := [.lit (.bool false)], args := [d1, d2] }
  | _ => none }
def QueueFifoWrongFalsely : Prop := queueFifoRow.holds Try.pinned (OpenSpec.ofChange queueFifoWrong)

/-- 'rampartlaw10.QueueApart': WHATEVER THE INPUT: true; the input reads as it did. -/
def queueApartSpec : ChangeSpec := { name := "queueApart", fn := fun _ => fun
  | [d1, d2, d3] => { results := [.lit (.bool true)], args := [d1, d2, d3] }
  | _ => none }
def queueApartRow : OpenClaim := { program := "ytcifbemppbegbaa", sum := "f75abca7e2bf255be5ee6edc8273b95759c6a67519bd47db2e210529fecdb07b", func := "rampart/rampartlaw10.QueueApart", spec := "queueApart", unfollowed := true, recurses := true, apart := false }
def QueueApartSaid : Prop := queueApartRow.holds Try.pinned (OpenSpec.ofChange queueApartSpec)

/-- ITS FALSE NEIGHBOUR: 'it returns false'. Refute it at one input. -/
def queueApartWrong : ChangeSpec := { name := "queueApart", fn := fun _ => fun
  | [d1, d2, d3] => { results := [.lit (.bool false)], args := [d1, d2, d3] }
  | _ => none }
def QueueApartWrongFalsely : Prop := queueApartRow.holds Try.pinned (OpenSpec.ofChange queueApartWrong)

/-- 'rampartlaw10.QueueForms': WHATEVER THE INPUT: true; the input reads as it did. -/
def queueFormsSpec : ChangeSpec := { name := "queueForms", fn := fun _ => fun
  | [d1, d2, d3, d4] => { results := [.lit (.bool true)], args := [d1, d2, d3, d4] }
  | _ => none }
def queueFormsRow : OpenClaim := { program := "ytcifbemppbegbaa", sum := "f75abca7e2bf255be5ee6edc8273b95759c6a67519bd47db2e210529fecdb07b", func := "rampart/rampartlaw10.QueueForms", spec := "queueForms", unfollowed := true, recurses := true, apart := false }
def QueueFormsSaid : Prop := queueFormsRow.holds Try.pinned (OpenSpec.ofChange queueFormsSpec)

/-- ITS FALSE NEIGHBOUR: 'it returns false'. Refute it at one input. -/
def queueFormsWrong : ChangeSpec := { name := "queueForms", fn := fun _ => fun
  | [d1, d2, d3, d4] => { results := [.lit (.bool false)], args := [d1, d2, d3, d4] }
  | _ => none }
def QueueFormsWrongFalsely : Prop := queueFormsRow.holds Try.pinned (OpenSpec.ofChange queueFormsWrong)

/- THE SECOND FORM. 'bulk': how many values and letters a reading holds, each counted each time it is reached (what is shared counts as often as it is met; a slice's spare places count too). A statement '..UptoSaid' is the law's where the arguments, and the package variables that the reading takes, are together of bulk at most 1048576: NARROWER than '..Said'. Prove '..Said' where nothing that the law and all that it calls make is longer than what came in: it says more and counts as full. Else prove '..UptoSaid'. A law counts once. -/
mutual
def uptoBulk {H : Type} : DataW H → Nat
  | .lit (.string bytes) => bytes.length + 1
  | .lit _ => 1
  | .nil => 1
  | .ptr d => uptoBulk d + 1
  | .slice elems spare => uptoBulkAll elems + uptoBulkAll spare + 1
  | .agg parts => uptoBulkAll parts + 1
  | .iface _ d => uptoBulk d + 1
  | .map entries => uptoBulkEntries entries + 1
  | .held _ => 1
def uptoBulkAll {H : Type} : List (DataW H) → Nat
  | [] => 0
  | d :: r => uptoBulk d + uptoBulkAll r
def uptoBulkEntries {H : Type} : List (Lit × DataW H) → Nat
  | [] => 0
  | x :: r => uptoBulkEntry x + uptoBulkEntries r
def uptoBulkEntry {H : Type} : Lit × DataW H → Nat
  | (.string bytes, d) => bytes.length + uptoBulk d + 1
  | (_, d) => uptoBulk d + 1
 end
def uptoSmall : (H : Type) → List (DataW H) → Bool := fun _ ds => decide (uptoBulkAll ds ≤ 1048576)
def OpenSpec.upto (s : _root_.Go.ChangeSpec) : _root_.Go.OpenSpec := { _root_.Go.OpenSpec.ofChange s with cond := some uptoSmall }

/-- 'rampartlaw10.QueueClaims', WHERE WHAT IT READS IS OF BULK AT MOST 1048576: true; the input reads as it did. -/
def queueClaimsUptoRow : OpenClaim := { program := "ytcifbemppbegbaa", sum := "f75abca7e2bf255be5ee6edc8273b95759c6a67519bd47db2e210529fecdb07b", func := "rampart/rampartlaw10.QueueClaims", spec := "queueClaims", unfollowed := true, recurses := true, apart := false, narrowed := true }
def QueueClaimsUptoSaid : Prop := queueClaimsUptoRow.holds Try.pinned (OpenSpec.upto queueClaimsSpec)

/-- 'rampartlaw10.QueueTakes', WHERE WHAT IT READS IS OF BULK AT MOST 1048576: true; the input reads as it did. -/
def queueTakesUptoRow : OpenClaim := { program := "ytcifbemppbegbaa", sum := "f75abca7e2bf255be5ee6edc8273b95759c6a67519bd47db2e210529fecdb07b", func := "rampart/rampartlaw10.QueueTakes", spec := "queueTakes", unfollowed := true, recurses := true, apart := false, narrowed := true }
def QueueTakesUptoSaid : Prop := queueTakesUptoRow.holds Try.pinned (OpenSpec.upto queueTakesSpec)

/-- 'rampartlaw10.QueueFifo', WHERE WHAT IT READS IS OF BULK AT MOST 1048576: true; the input reads as it did. -/
def queueFifoUptoRow : OpenClaim := { program := "ytcifbemppbegbaa", sum := "f75abca7e2bf255be5ee6edc8273b95759c6a67519bd47db2e210529fecdb07b", func := "rampart/rampartlaw10.QueueFifo", spec := "queueFifo", unfollowed := true, recurses := true, apart := false, narrowed := true }
def QueueFifoUptoSaid : Prop := queueFifoUptoRow.holds Try.pinned (OpenSpec.upto queueFifoSpec)

/-- 'rampartlaw10.QueueApart', WHERE WHAT IT READS IS OF BULK AT MOST 1048576: true; the input reads as it did. -/
def queueApartUptoRow : OpenClaim := { program := "ytcifbemppbegbaa", sum := "f75abca7e2bf255be5ee6edc8273b95759c6a67519bd47db2e210529fecdb07b", func := "rampart/rampartlaw10.QueueApart", spec := "queueApart", unfollowed := true, recurses := true, apart := false, narrowed := true }
def QueueApartUptoSaid : Prop := queueApartUptoRow.holds Try.pinned (OpenSpec.upto queueApartSpec)

/-- 'rampartlaw10.QueueForms', WHERE WHAT IT READS IS OF BULK AT MOST 1048576: true; the input reads as it did. -/
def queueFormsUptoRow : OpenClaim := { program := "ytcifbemppbegbaa", sum := "f75abca7e2bf255be5ee6edc8273b95759c6a67519bd47db2e210529fecdb07b", func := "rampart/rampartlaw10.QueueForms", spec := "queueForms", unfollowed := true, recurses := true, apart := false, narrowed := true }
def QueueFormsUptoSaid : Prop := queueFormsUptoRow.holds Try.pinned (OpenSpec.upto queueFormsSpec)

end Rows
end Go.Proofs.Ytcifbemppbegbaa
