/-
  NARROWER THAN 'FOR EVERY INPUT', by the rows' own cells (each row's printed sentence says how): WireRequests: laid · WireHandles: laid · WireSplits: laid · WireReplies: laid · WireParses: laid · WireJust: laid · WireBack: laid.
  DERIVED. THE GIVEN ROWS OF THIS SEAT. 7 by the template 'for every input the law returns true; each argument reads behind the call as it read before'; 0 by the template 'total and deterministic' (their statements: YtbbnaagfnpeloaaDoorTotals.lean).
  GIVEN WITH THE SEED: the statements are not yours to turn. If you find one false, say at which input.
  Laid BY PROGRAM, IN A SANDBOX (cutbox-rows.mjs): the forced cells as the released guide's own fill.sh prints them over the translation 76f7947521430d59… (all of the seat's roots in one cut). By AI agents, Wed Nov 11 2026. No macro, syntax, notation, axiom, sorry.
-/
import Derived.Test.YtbbnaagfnpeloaaDoorChecked
import GoSem.Claim
import GoSem.ClaimJoined
import GoSem.ClaimMapViews
import Derived.JoinedTies
import Derived.KernelRfl
namespace Go.Proofs.YtbbnaagfnpeloaaDoor
/- THE CELL 'sum', in the pinned program and in every row, IS THE sha256 OF THE DUMP (.gsa) THAT YtbbnaagfnpeloaaDoorProg.lean LOADS. Nothing in Lean hashes anything: it is a label: what it is worth is what the hold of that sum in a sandbox is worth. -/
noncomputable def Tryd.pinned : Pinned := { name := "ytbbnaagfnpeloaadoor", sum := "76f7947521430d59f0fc6f408761348b1c771cbde1ca0aec45c33b3883703a9b", checked := Tryd.checked }
namespace Rows
def none {H : Type} : Left H := { results := [], args := [] }

/- WHAT THE LISTED PACKAGE-LEVEL VARIABLES READ AS WHEN THE CALL BEGINS. Each datum BY PROGRAM (the guide's laid-datum.mjs) off the statement by which the dump's own 'gosem.cut.vars' lays the variable. In a bare row this is a premise. The card (YtbbnaagfnpeloaaDoorCards.lean) ties it to the program's text. -/
def laid_rampart_wire_handlePart {H : Type} : DataW H := .agg [.lit (.int .i64 4), .lit (.int .i64 4)]
def laid_rampart_wire_payloadPart {H : Type} : DataW H := .agg [.lit (.int .i64 8), .lit (.int .i64 8)]

/-- 'rampartlaw03.WireRequests': WHATEVER THE INPUT: true; the input reads as it did. -/
def wireRequestsSpec : ChangeSpec := { name := "wireRequests", fn := fun _ => fun
  | [d] => { results := [.lit (.bool true)], args := [d] }
  | _ => none }
def wireRequestsRow : OpenClaim := { program := "ytbbnaagfnpeloaadoor", sum := "76f7947521430d59f0fc6f408761348b1c771cbde1ca0aec45c33b3883703a9b", func := "rampart/rampartlaw03.WireRequests", spec := "wireRequests", named := ["rampart/wire.handlePart", "rampart/wire.payloadPart"], apart := false, laid := [("rampart/wire.handlePart", laid_rampart_wire_handlePart), ("rampart/wire.payloadPart", laid_rampart_wire_payloadPart)] }
def WireRequestsSaid : Prop := wireRequestsRow.holds Tryd.pinned (OpenSpec.ofChange wireRequestsSpec)

/-- ITS FALSE NEIGHBOUR: 'it returns false'. Refute it at one input. -/
def wireRequestsWrong : ChangeSpec := { name := "wireRequests", fn := fun _ => fun
  | [d] => { results := [.lit (.bool false)], args := [d] }
  | _ => none }
def WireRequestsWrongFalsely : Prop := wireRequestsRow.holds Tryd.pinned (OpenSpec.ofChange wireRequestsWrong)

/-- 'rampartlaw03.WireHandles': WHATEVER THE INPUT: true; the input reads as it did. -/
def wireHandlesSpec : ChangeSpec := { name := "wireHandles", fn := fun _ => fun
  | [d1, d2, d3, d4] => { results := [.lit (.bool true)], args := [d1, d2, d3, d4] }
  | _ => none }
def wireHandlesRow : OpenClaim := { program := "ytbbnaagfnpeloaadoor", sum := "76f7947521430d59f0fc6f408761348b1c771cbde1ca0aec45c33b3883703a9b", func := "rampart/rampartlaw03.WireHandles", spec := "wireHandles", named := ["rampart/wire.handlePart", "rampart/wire.payloadPart"], apart := false, laid := [("rampart/wire.handlePart", laid_rampart_wire_handlePart), ("rampart/wire.payloadPart", laid_rampart_wire_payloadPart)] }
def WireHandlesSaid : Prop := wireHandlesRow.holds Tryd.pinned (OpenSpec.ofChange wireHandlesSpec)

/-- ITS FALSE NEIGHBOUR: 'it returns false'. Refute it at one input. -/
def wireHandlesWrong : ChangeSpec := { name := "wireHandles", fn := fun _ => fun
  | [d1, d2, d3, d4] => { results := [.lit (.bool false)], args := [d1, d2, d3, d4] }
  | _ => none }
def WireHandlesWrongFalsely : Prop := wireHandlesRow.holds Tryd.pinned (OpenSpec.ofChange wireHandlesWrong)

/-- 'rampartlaw03.WireSplits': WHATEVER THE INPUT: true; the input reads as it did. -/
def wireSplitsSpec : ChangeSpec := { name := "wireSplits", fn := fun _ => fun
  | [d1, d2] => { results := [.lit (.bool true)], args := [d1, d2] }
  | _ => none }
def wireSplitsRow : OpenClaim := { program := "ytbbnaagfnpeloaadoor", sum := "76f7947521430d59f0fc6f408761348b1c771cbde1ca0aec45c33b3883703a9b", func := "rampart/rampartlaw03.WireSplits", spec := "wireSplits", named := ["rampart/wire.handlePart", "rampart/wire.payloadPart"], apart := false, laid := [("rampart/wire.handlePart", laid_rampart_wire_handlePart), ("rampart/wire.payloadPart", laid_rampart_wire_payloadPart)] }
def WireSplitsSaid : Prop := wireSplitsRow.holds Tryd.pinned (OpenSpec.ofChange wireSplitsSpec)

/-- ITS FALSE NEIGHBOUR: 'it returns false'. Refute it at one input. -/
def wireSplitsWrong : ChangeSpec := { name := "wireSplits", fn := fun _ => fun
  | [d1, d2] => { results := [.lit (.bool false)], args := [d1, d2] }
  | _ => none }
def WireSplitsWrongFalsely : Prop := wireSplitsRow.holds Tryd.pinned (OpenSpec.ofChange wireSplitsWrong)

/-- 'rampartlaw03.WireReplies': WHATEVER THE INPUT: true; the input reads as it did. -/
def wireRepliesSpec : ChangeSpec := { name := "wireReplies", fn := fun _ => fun
  | [d] => { results := [.lit (.bool true)], args := [d] }
  | _ => none }
def wireRepliesRow : OpenClaim := { program := "ytbbnaagfnpeloaadoor", sum := "76f7947521430d59f0fc6f408761348b1c771cbde1ca0aec45c33b3883703a9b", func := "rampart/rampartlaw03.WireReplies", spec := "wireReplies", named := ["rampart/wire.handlePart", "rampart/wire.payloadPart"], apart := false, laid := [("rampart/wire.handlePart", laid_rampart_wire_handlePart), ("rampart/wire.payloadPart", laid_rampart_wire_payloadPart)] }
def WireRepliesSaid : Prop := wireRepliesRow.holds Tryd.pinned (OpenSpec.ofChange wireRepliesSpec)

/-- ITS FALSE NEIGHBOUR: 'it returns false'. Refute it at one input. -/
def wireRepliesWrong : ChangeSpec := { name := "wireReplies", fn := fun _ => fun
  | [d] => { results := [.lit (.bool false)], args := [d] }
  | _ => none }
def WireRepliesWrongFalsely : Prop := wireRepliesRow.holds Tryd.pinned (OpenSpec.ofChange wireRepliesWrong)

/-- 'rampartlaw03.WireParses': WHATEVER THE INPUT: true; the input reads as it did. -/
def wireParsesSpec : ChangeSpec := { name := "wireParses", fn := fun _ => fun
  | [d] => { results := [.lit (.bool true)], args := [d] }
  | _ => none }
def wireParsesRow : OpenClaim := { program := "ytbbnaagfnpeloaadoor", sum := "76f7947521430d59f0fc6f408761348b1c771cbde1ca0aec45c33b3883703a9b", func := "rampart/rampartlaw03.WireParses", spec := "wireParses", named := ["rampart/wire.handlePart", "rampart/wire.payloadPart"], apart := false, laid := [("rampart/wire.handlePart", laid_rampart_wire_handlePart), ("rampart/wire.payloadPart", laid_rampart_wire_payloadPart)] }
def WireParsesSaid : Prop := wireParsesRow.holds Tryd.pinned (OpenSpec.ofChange wireParsesSpec)

/-- ITS FALSE NEIGHBOUR: 'it returns false'. Refute it at one input. -/
def wireParsesWrong : ChangeSpec := { name := "wireParses", fn := fun _ => fun
  | [d] => { results := [.lit (.bool false)], args := [d] }
  | _ => none }
def WireParsesWrongFalsely : Prop := wireParsesRow.holds Tryd.pinned (OpenSpec.ofChange wireParsesWrong)

/-- 'rampartlaw03.WireJust': WHATEVER THE INPUT: true; the input reads as it did. -/
def wireJustSpec : ChangeSpec := { name := "wireJust", fn := fun _ => fun
  | [d] => { results := [.lit (.bool true)], args := [d] }
  | _ => none }
def wireJustRow : OpenClaim := { program := "ytbbnaagfnpeloaadoor", sum := "76f7947521430d59f0fc6f408761348b1c771cbde1ca0aec45c33b3883703a9b", func := "rampart/rampartlaw03.WireJust", spec := "wireJust", named := ["rampart/wire.handlePart", "rampart/wire.payloadPart"], apart := false, laid := [("rampart/wire.handlePart", laid_rampart_wire_handlePart), ("rampart/wire.payloadPart", laid_rampart_wire_payloadPart)] }
def WireJustSaid : Prop := wireJustRow.holds Tryd.pinned (OpenSpec.ofChange wireJustSpec)

/-- ITS FALSE NEIGHBOUR: 'it returns false'. Refute it at one input. -/
def wireJustWrong : ChangeSpec := { name := "wireJust", fn := fun _ => fun
  | [d] => { results := [.lit (.bool false)], args := [d] }
  | _ => none }
def WireJustWrongFalsely : Prop := wireJustRow.holds Tryd.pinned (OpenSpec.ofChange wireJustWrong)

/-- 'rampartlaw03.WireBack': WHATEVER THE INPUT: true; the input reads as it did. -/
def wireBackSpec : ChangeSpec := { name := "wireBack", fn := fun _ => fun
  | [d1, d2, d3] => { results := [.lit (.bool true)], args := [d1, d2, d3] }
  | _ => none }
def wireBackRow : OpenClaim := { program := "ytbbnaagfnpeloaadoor", sum := "76f7947521430d59f0fc6f408761348b1c771cbde1ca0aec45c33b3883703a9b", func := "rampart/rampartlaw03.WireBack", spec := "wireBack", named := ["rampart/wire.handlePart", "rampart/wire.payloadPart"], apart := false, laid := [("rampart/wire.handlePart", laid_rampart_wire_handlePart), ("rampart/wire.payloadPart", laid_rampart_wire_payloadPart)] }
def WireBackSaid : Prop := wireBackRow.holds Tryd.pinned (OpenSpec.ofChange wireBackSpec)

/-- ITS FALSE NEIGHBOUR: 'it returns false'. Refute it at one input. -/
def wireBackWrong : ChangeSpec := { name := "wireBack", fn := fun _ => fun
  | [d1, d2, d3] => { results := [.lit (.bool false)], args := [d1, d2, d3] }
  | _ => none }
def WireBackWrongFalsely : Prop := wireBackRow.holds Tryd.pinned (OpenSpec.ofChange wireBackWrong)

/- THE SECOND FORM. 'bulk': how many values and letters a reading holds, each counted each time it is reached (what is shared counts as often as it is met; a slice's spare places count too). A statement '..UptoSaid' is the law's where the arguments, and the package variables that the reading takes, are together of bulk at most 1048576: NARROWER than '..Said'. Prove '..Said' where nothing that the law and all that it calls make is longer than what came in: it says more and counts as full. Else prove '..UptoSaid'. A law counts once. -/
mutual
def uptoBulk {H : Type} : DataW H → Nat
  | .lit (.string bytes) => bytes.length + 1
  | .lit _ => 1
  | .nil => 1
  | .ptr d => uptoBulk d + 1
  | .slice elems spare => uptoBulkAll elems + uptoBulkAll spare + 1
  | .agg parts => uptoBulkAll parts + 1
  | .iface _ d => uptoBulk d + 1
  | .map entries => uptoBulkEntries entries + 1
  | .held _ => 1
def uptoBulkAll {H : Type} : List (DataW H) → Nat
  | [] => 0
  | d :: r => uptoBulk d + uptoBulkAll r
def uptoBulkEntries {H : Type} : List (Lit × DataW H) → Nat
  | [] => 0
  | x :: r => uptoBulkEntry x + uptoBulkEntries r
def uptoBulkEntry {H : Type} : Lit × DataW H → Nat
  | (.string bytes, d) => bytes.length + uptoBulk d + 1
  | (_, d) => uptoBulk d + 1
 end
def uptoSmall : (H : Type) → List (DataW H) → Bool := fun _ ds => decide (uptoBulkAll ds ≤ 1048576)
def OpenSpec.upto (s : _root_.Go.ChangeSpec) : _root_.Go.OpenSpec := { _root_.Go.OpenSpec.ofChange s with cond := some uptoSmall }

/-- 'rampartlaw03.WireRequests', WHERE WHAT IT READS IS OF BULK AT MOST 1048576: true; the input reads as it did. -/
def wireRequestsUptoRow : OpenClaim := { program := "ytbbnaagfnpeloaadoor", sum := "76f7947521430d59f0fc6f408761348b1c771cbde1ca0aec45c33b3883703a9b", func := "rampart/rampartlaw03.WireRequests", spec := "wireRequests", named := ["rampart/wire.handlePart", "rampart/wire.payloadPart"], apart := false, laid := [("rampart/wire.handlePart", laid_rampart_wire_handlePart), ("rampart/wire.payloadPart", laid_rampart_wire_payloadPart)], narrowed := true }
def WireRequestsUptoSaid : Prop := wireRequestsUptoRow.holds Tryd.pinned (OpenSpec.upto wireRequestsSpec)

/-- 'rampartlaw03.WireHandles', WHERE WHAT IT READS IS OF BULK AT MOST 1048576: true; the input reads as it did. -/
def wireHandlesUptoRow : OpenClaim := { program := "ytbbnaagfnpeloaadoor", sum := "76f7947521430d59f0fc6f408761348b1c771cbde1ca0aec45c33b3883703a9b", func := "rampart/rampartlaw03.WireHandles", spec := "wireHandles", named := ["rampart/wire.handlePart", "rampart/wire.payloadPart"], apart := false, laid := [("rampart/wire.handlePart", laid_rampart_wire_handlePart), ("rampart/wire.payloadPart", laid_rampart_wire_payloadPart)], narrowed := true }
def WireHandlesUptoSaid : Prop := wireHandlesUptoRow.holds Tryd.pinned (OpenSpec.upto wireHandlesSpec)

/-- 'rampartlaw03.WireSplits', WHERE WHAT IT READS IS OF BULK AT MOST 1048576: true; the input reads as it did. -/
def wireSplitsUptoRow : OpenClaim := { program := "ytbbnaagfnpeloaadoor", sum := "76f7947521430d59f0fc6f408761348b1c771cbde1ca0aec45c33b3883703a9b", func := "rampart/rampartlaw03.WireSplits", spec := "wireSplits", named := ["rampart/wire.handlePart", "rampart/wire.payloadPart"], apart := false, laid := [("rampart/wire.handlePart", laid_rampart_wire_handlePart), ("rampart/wire.payloadPart", laid_rampart_wire_payloadPart)], narrowed := true }
def WireSplitsUptoSaid : Prop := wireSplitsUptoRow.holds Tryd.pinned (OpenSpec.upto wireSplitsSpec)

/-- 'rampartlaw03.WireReplies', WHERE WHAT IT READS IS OF BULK AT MOST 1048576: true; the input reads as it did. -/
def wireRepliesUptoRow : OpenClaim := { program := "ytbbnaagfnpeloaadoor", sum := "76f7947521430d59f0fc6f408761348b1c771cbde1ca0aec45c33b3883703a9b", func := "rampart/rampartlaw03.WireReplies", spec := "wireReplies", named := ["rampart/wire.handlePart", "rampart/wire.payloadPart"], apart := false, laid := [("rampart/wire.handlePart", laid_rampart_wire_handlePart), ("rampart/wire.payloadPart", laid_rampart_wire_payloadPart)], narrowed := true }
def WireRepliesUptoSaid : Prop := wireRepliesUptoRow.holds Tryd.pinned (OpenSpec.upto wireRepliesSpec)

/-- 'rampartlaw03.WireParses', WHERE WHAT IT READS IS OF BULK AT MOST 1048576: true; the input reads as it did. -/
def wireParsesUptoRow : OpenClaim := { program := "ytbbnaagfnpeloaadoor", sum := "76f7947521430d59f0fc6f408761348b1c771cbde1ca0aec45c33b3883703a9b", func := "rampart/rampartlaw03.WireParses", spec := "wireParses", named := ["rampart/wire.handlePart", "rampart/wire.payloadPart"], apart := false, laid := [("rampart/wire.handlePart", laid_rampart_wire_handlePart), ("rampart/wire.payloadPart", laid_rampart_wire_payloadPart)], narrowed := true }
def WireParsesUptoSaid : Prop := wireParsesUptoRow.holds Tryd.pinned (OpenSpec.upto wireParsesSpec)

/-- 'rampartlaw03.WireJust', WHERE WHAT IT READS IS OF BULK AT MOST 1048576: true; the input reads as it did. -/
def wireJustUptoRow : OpenClaim := { program := "ytbbnaagfnpeloaadoor", sum := "76f7947521430d59f0fc6f408761348b1c771cbde1ca0aec45c33b3883703a9b", func := "rampart/rampartlaw03.WireJust", spec := "wireJust", named := ["rampart/wire.handlePart", "rampart/wire.payloadPart"], apart := false, laid := [("rampart/wire.handlePart", laid_rampart_wire_handlePart), ("rampart/wire.payloadPart", laid_rampart_wire_payloadPart)], narrowed := true }
def WireJustUptoSaid : Prop := wireJustUptoRow.holds Tryd.pinned (OpenSpec.upto wireJustSpec)

/-- 'rampartlaw03.WireBack', WHERE WHAT IT READS IS OF BULK AT MOST 1048576: true; the input reads as it did. -/
def wireBackUptoRow : OpenClaim := { program := "ytbbnaagfnpeloaadoor", sum := "76f7947521430d59f0fc6f408761348b1c771cbde1ca0aec45c33b3883703a9b", func := "rampart/rampartlaw03.WireBack", spec := "wireBack", named := ["rampart/wire.handlePart", "rampart/wire.payloadPart"], apart := false, laid := [("rampart/wire.handlePart", laid_rampart_wire_handlePart), ("rampart/wire.payloadPart", laid_rampart_wire_payloadPart)], narrowed := true }
def WireBackUptoSaid : Prop := wireBackUptoRow.holds Tryd.pinned (OpenSpec.upto wireBackSpec)

end Rows
end Go.Proofs.YtbbnaagfnpeloaaDoor
