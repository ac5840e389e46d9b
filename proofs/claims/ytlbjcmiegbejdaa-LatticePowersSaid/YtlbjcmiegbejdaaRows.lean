/-
  No cell of these rows narrows 'for every input' (looked for: loops, veiled, ifaces, maps, wideKeys, modest, calm, conditions, laid).
  DERIVED. THE GIVEN ROWS OF THIS SEAT. 9 by the template 'for every input the law returns true; each argument reads behind the call as it read before'; 0 by the template 'total and deterministic' (their statements: YtlbjcmiegbejdaaTotals.lean).
  GIVEN WITH THE SEED: the statements are not yours to turn. If you find one false, say at which input.
  Laid BY PROGRAM, IN A SANDBOX (cutbox-rows.mjs): the forced cells as the released guide's own fill.sh prints them over the translation 17c7dffa0c1f1837… (all of the seat's roots in one cut). By AI agents, Wed Nov 11 2026. No macro, syntax, notation, axiom, sorry.
-/
import Derived.Test.YtlbjcmiegbejdaaChecked
import GoSem.Claim
import GoSem.ClaimJoined
import GoSem.ClaimMapViews
import Derived.JoinedTies
import Derived.KernelRfl
namespace Go.Proofs.Ytlbjcmiegbejdaa
/- THE CELL 'sum', in the pinned program and in every row, IS THE sha256 OF THE DUMP (.gsa) THAT YtlbjcmiegbejdaaProg.lean LOADS. Nothing in Lean hashes anything: it is a label: what it is worth is what the hold of that sum in a sandbox is worth. -/
noncomputable def Try.pinned : Pinned := { name := "ytlbjcmiegbejdaa", sum := "17c7dffa0c1f1837dfb86c6dc1f3ee00b5595df584862dd61b6a8d2c8120931f", checked := Try.checked }
namespace Rows
def none {H : Type} : Left H := { results := [], args := [] }

/-- 'rampartlaw02.LatticeClosed': WHATEVER THE INPUT: true; the input reads as it did. -/
def latticeClosedSpec : ChangeSpec := { name := "latticeClosed", fn := fun _ => fun
  | [d] => { results := [.lit (.bool true)], args := [d] }
  | _ => none }
def latticeClosedRow : OpenClaim := { program := "ytlbjcmiegbejdaa", sum := "17c7dffa0c1f1837dfb86c6dc1f3ee00b5595df584862dd61b6a8d2c8120931f", func := "rampart/rampartlaw02.LatticeClosed", spec := "latticeClosed", unfollowed := true, recurses := true, apart := false }
def LatticeClosedSaid : Prop := latticeClosedRow.holds Try.pinned (OpenSpec.ofChange latticeClosedSpec)

/-- ITS FALSE NEIGHBOUR: 'it returns false'. Refute it at one input. -/
def latticeClosedWrong : ChangeSpec := { name := "latticeClosed", fn := fun _ => fun
  | [d] => { results := [.lit (.bool false)], args := [d] }
  | _ => none }
def LatticeClosedWrongFalsely : Prop := latticeClosedRow.holds Try.pinned (OpenSpec.ofChange latticeClosedWrong)

/-- 'rampartlaw02.LatticeBounds': WHATEVER THE INPUT: true; the input reads as it did. -/
def latticeBoundsSpec : ChangeSpec := { name := "latticeBounds", fn := fun _ => fun
  | [d1, d2, d3] => { results := [.lit (.bool true)], args := [d1, d2, d3] }
  | _ => none }
def latticeBoundsRow : OpenClaim := { program := "ytlbjcmiegbejdaa", sum := "17c7dffa0c1f1837dfb86c6dc1f3ee00b5595df584862dd61b6a8d2c8120931f", func := "rampart/rampartlaw02.LatticeBounds", spec := "latticeBounds", unfollowed := true, recurses := true, apart := false }
def LatticeBoundsSaid : Prop := latticeBoundsRow.holds Try.pinned (OpenSpec.ofChange latticeBoundsSpec)

/-- ITS FALSE NEIGHBOUR: 'it returns false'. Refute it at one input. -/
def latticeBoundsWrong : ChangeSpec := { name := "latticeBounds", fn := fun _ => fun
  | [d1, d2, d3] => { results := [.lit (.bool false)], args := [d1, d2, d3] }
  | _ => none }
def LatticeBoundsWrongFalsely : Prop := latticeBoundsRow.holds Try.pinned (OpenSpec.ofChange latticeBoundsWrong)

/-- 'rampartlaw02.LatticeLeast': WHATEVER THE INPUT: true; the input reads as it did. -/
def latticeLeastSpec : ChangeSpec := { name := "latticeLeast", fn := fun _ => fun
  | [d1, d2, d3] => { results := [.lit (.bool true)], args := [d1, d2, d3] }
  | _ => none }
def latticeLeastRow : OpenClaim := { program := "ytlbjcmiegbejdaa", sum := "17c7dffa0c1f1837dfb86c6dc1f3ee00b5595df584862dd61b6a8d2c8120931f", func := "rampart/rampartlaw02.LatticeLeast", spec := "latticeLeast", unfollowed := true, recurses := true, apart := false }
def LatticeLeastSaid : Prop := latticeLeastRow.holds Try.pinned (OpenSpec.ofChange latticeLeastSpec)

/-- ITS FALSE NEIGHBOUR: 'it returns false'. Refute it at one input. -/
def latticeLeastWrong : ChangeSpec := { name := "latticeLeast", fn := fun _ => fun
  | [d1, d2, d3] => { results := [.lit (.bool false)], args := [d1, d2, d3] }
  | _ => none }
def LatticeLeastWrongFalsely : Prop := latticeLeastRow.holds Try.pinned (OpenSpec.ofChange latticeLeastWrong)

/-- 'rampartlaw02.LatticeAlgebra': WHATEVER THE INPUT: true; the input reads as it did. -/
def latticeAlgebraSpec : ChangeSpec := { name := "latticeAlgebra", fn := fun _ => fun
  | [d1, d2, d3, d4] => { results := [.lit (.bool true)], args := [d1, d2, d3, d4] }
  | _ => none }
def latticeAlgebraRow : OpenClaim := { program := "ytlbjcmiegbejdaa", sum := "17c7dffa0c1f1837dfb86c6dc1f3ee00b5595df584862dd61b6a8d2c8120931f", func := "rampart/rampartlaw02.LatticeAlgebra", spec := "latticeAlgebra", unfollowed := true, recurses := true, apart := false }
def LatticeAlgebraSaid : Prop := latticeAlgebraRow.holds Try.pinned (OpenSpec.ofChange latticeAlgebraSpec)

/-- ITS FALSE NEIGHBOUR: 'it returns false'. Refute it at one input. -/
def latticeAlgebraWrong : ChangeSpec := { name := "latticeAlgebra", fn := fun _ => fun
  | [d1, d2, d3, d4] => { results := [.lit (.bool false)], args := [d1, d2, d3, d4] }
  | _ => none }
def LatticeAlgebraWrongFalsely : Prop := latticeAlgebraRow.holds Try.pinned (OpenSpec.ofChange latticeAlgebraWrong)

/-- 'rampartlaw02.LatticeAsks': WHATEVER THE INPUT: true; the input reads as it did. -/
def latticeAsksSpec : ChangeSpec := { name := "latticeAsks", fn := fun _ => fun
  | [d1, d2, d3] => { results := [.lit (.bool true)], args := [d1, d2, d3] }
  | _ => none }
def latticeAsksRow : OpenClaim := { program := "ytlbjcmiegbejdaa", sum := "17c7dffa0c1f1837dfb86c6dc1f3ee00b5595df584862dd61b6a8d2c8120931f", func := "rampart/rampartlaw02.LatticeAsks", spec := "latticeAsks", unfollowed := true, recurses := true, apart := false }
def LatticeAsksSaid : Prop := latticeAsksRow.holds Try.pinned (OpenSpec.ofChange latticeAsksSpec)

/-- ITS FALSE NEIGHBOUR: 'it returns false'. Refute it at one input. -/
def latticeAsksWrong : ChangeSpec := { name := "latticeAsks", fn := fun _ => fun
  | [d1, d2, d3] => { results := [.lit (.bool false)], args := [d1, d2, d3] }
  | _ => none }
def LatticeAsksWrongFalsely : Prop := latticeAsksRow.holds Try.pinned (OpenSpec.ofChange latticeAsksWrong)

/-- 'rampartlaw02.LatticeMakes': WHATEVER THE INPUT: true; the input reads as it did. -/
def latticeMakesSpec : ChangeSpec := { name := "latticeMakes", fn := fun _ => fun
  | [d1, d2, d3] => { results := [.lit (.bool true)], args := [d1, d2, d3] }
  | _ => none }
def latticeMakesRow : OpenClaim := { program := "ytlbjcmiegbejdaa", sum := "17c7dffa0c1f1837dfb86c6dc1f3ee00b5595df584862dd61b6a8d2c8120931f", func := "rampart/rampartlaw02.LatticeMakes", spec := "latticeMakes", unfollowed := true, recurses := true, apart := false }
def LatticeMakesSaid : Prop := latticeMakesRow.holds Try.pinned (OpenSpec.ofChange latticeMakesSpec)

/-- ITS FALSE NEIGHBOUR: 'it returns false'. Refute it at one input. -/
def latticeMakesWrong : ChangeSpec := { name := "latticeMakes", fn := fun _ => fun
  | [d1, d2, d3] => { results := [.lit (.bool false)], args := [d1, d2, d3] }
  | _ => none }
def LatticeMakesWrongFalsely : Prop := latticeMakesRow.holds Try.pinned (OpenSpec.ofChange latticeMakesWrong)

/-- 'rampartlaw02.LatticePowers': WHATEVER THE INPUT: true; the input reads as it did. -/
def latticePowersSpec : ChangeSpec := { name := "latticePowers", fn := fun _ => fun
  | [d1, d2, d3, d4, d5] => { results := [.lit (.bool true)], args := [d1, d2, d3, d4, d5] }
  | _ => none }
def latticePowersRow : OpenClaim := { program := "ytlbjcmiegbejdaa", sum := "17c7dffa0c1f1837dfb86c6dc1f3ee00b5595df584862dd61b6a8d2c8120931f", func := "rampart/rampartlaw02.LatticePowers", spec := "latticePowers", unfollowed := true, recurses := true, apart := false }
def LatticePowersSaid : Prop := latticePowersRow.holds Try.pinned (OpenSpec.ofChange latticePowersSpec)

/-- ITS FALSE NEIGHBOUR: 'it returns false'. Refute it at one input. -/
def latticePowersWrong : ChangeSpec := { name := "latticePowers", fn := fun _ => fun
  | [d1, d2, d3, d4, d5] => { results := [.lit (.bool false)], args := [d1, d2, d3, d4, d5] }
  | _ => none }
def LatticePowersWrongFalsely : Prop := latticePowersRow.holds Try.pinned (OpenSpec.ofChange latticePowersWrong)

/-- 'rampartlaw02.LatticeOrder': WHATEVER THE INPUT: true; the input reads as it did. -/
def latticeOrderSpec : ChangeSpec := { name := "latticeOrder", fn := fun _ => fun
  | [d] => { results := [.lit (.bool true)], args := [d] }
  | _ => none }
def latticeOrderRow : OpenClaim := { program := "ytlbjcmiegbejdaa", sum := "17c7dffa0c1f1837dfb86c6dc1f3ee00b5595df584862dd61b6a8d2c8120931f", func := "rampart/rampartlaw02.LatticeOrder", spec := "latticeOrder", unfollowed := true, recurses := true, apart := false }
def LatticeOrderSaid : Prop := latticeOrderRow.holds Try.pinned (OpenSpec.ofChange latticeOrderSpec)

/-- ITS FALSE NEIGHBOUR: 'it returns false'. Refute it at one input. -/
def latticeOrderWrong : ChangeSpec := { name := "latticeOrder", fn := fun _ => fun
  | [d] => { results := [.lit (.bool false)], args := [d] }
  | _ => none }
def LatticeOrderWrongFalsely : Prop := latticeOrderRow.holds Try.pinned (OpenSpec.ofChange latticeOrderWrong)

/-- 'rampartlaw02.LatticeWholes': WHATEVER THE INPUT: true; the input reads as it did. -/
def latticeWholesSpec : ChangeSpec := { name := "latticeWholes", fn := fun _ => fun
  | [d] => { results := [.lit (.bool true)], args := [d] }
  | _ => none }
def latticeWholesRow : OpenClaim := { program := "ytlbjcmiegbejdaa", sum := "17c7dffa0c1f1837dfb86c6dc1f3ee00b5595df584862dd61b6a8d2c8120931f", func := "rampart/rampartlaw02.LatticeWholes", spec := "latticeWholes", unfollowed := true, recurses := true, apart := false }
def LatticeWholesSaid : Prop := latticeWholesRow.holds Try.pinned (OpenSpec.ofChange latticeWholesSpec)

/-- ITS FALSE NEIGHBOUR: 'it returns false'. Refute it at one input. -/
def latticeWholesWrong : ChangeSpec := { name := "latticeWholes", fn := fun _ => fun
  | [d] => { results := [.lit (.bool false)], args := [d] }
  | _ => none }
def LatticeWholesWrongFalsely : Prop := latticeWholesRow.holds Try.pinned (OpenSpec.ofChange latticeWholesWrong)

/- THE SECOND FORM. 'bulk': how many values and letters a reading holds, each counted each time it is reached (what is shared counts as often as it is met; a slice's spare places count too). A statement '..UptoSaid' is the law's where the arguments, and the package variables that the reading takes, are together of bulk at most 1048576: NARROWER than '..Said'. Prove '..Said' where nothing that the law and all that it calls make is longer than what came in: it says more and counts as full. Else prove '..UptoSaid'. A law counts once. -/
mutual
def uptoBulk {H : Type} : DataW H → Nat
  | .lit (.string bytes) => bytes.length + 1
  | .lit _ => 1
  | .nil => 1
  | .ptr d => uptoBulk d + 1
  | .slice elems spare => uptoBulkAll elems + uptoBulkAll spare + 1
  | .agg parts => uptoBulkAll parts + 1
  | .iface _ d => uptoBulk d + 1
  | .map entries => uptoBulkEntries entries + 1
  | .held _ => 1
def uptoBulkAll {H : Type} : List (DataW H) → Nat
  | [] => 0
  | d :: r => uptoBulk d + uptoBulkAll r
def uptoBulkEntries {H : Type} : List (Lit × DataW H) → Nat
  | [] => 0
  | x :: r => uptoBulkEntry x + uptoBulkEntries r
def uptoBulkEntry {H : Type} : Lit × DataW H → Nat
  | (.string bytes, d) => bytes.length + uptoBulk d + 1
  | (_, d) => uptoBulk d + 1
 end
def uptoSmall : (H : Type) → List (DataW H) → Bool := fun _ ds => decide (uptoBulkAll ds ≤ 1048576)
def OpenSpec.upto (s : _root_.Go.ChangeSpec) : _root_.Go.OpenSpec := { _root_.Go.OpenSpec.ofChange s with cond := some uptoSmall }

/-- 'rampartlaw02.LatticeClosed', WHERE WHAT IT READS IS OF BULK AT MOST 1048576: true; the input reads as it did. -/
def latticeClosedUptoRow : OpenClaim := { program := "ytlbjcmiegbejdaa", sum := "17c7dffa0c1f1837dfb86c6dc1f3ee00b5595df584862dd61b6a8d2c8120931f", func := "rampart/rampartlaw02.LatticeClosed", spec := "latticeClosed", unfollowed := true, recurses := true, apart := false, narrowed := true }
def LatticeClosedUptoSaid : Prop := latticeClosedUptoRow.holds Try.pinned (OpenSpec.upto latticeClosedSpec)

/-- 'rampartlaw02.LatticeBounds', WHERE WHAT IT READS IS OF BULK AT MOST 1048576: true; the input reads as it did. -/
def latticeBoundsUptoRow : OpenClaim := { program := "ytlbjcmiegbejdaa", sum := "17c7dffa0c1f1837dfb86c6dc1f3ee00b5595df584862dd61b6a8d2c8120931f", func := "rampart/rampartlaw02.LatticeBounds", spec := "latticeBounds", unfollowed := true, recurses := true, apart := false, narrowed := true }
def LatticeBoundsUptoSaid : Prop := latticeBoundsUptoRow.holds Try.pinned (OpenSpec.upto latticeBoundsSpec)

/-- 'rampartlaw02.LatticeLeast', WHERE WHAT IT READS IS OF BULK AT MOST 1048576: true; the input reads as it did. -/
def latticeLeastUptoRow : OpenClaim := { program := "ytlbjcmiegbejdaa", sum := "17c7dffa0c1f1837dfb86c6dc1f3ee00b5595df584862dd61b6a8d2c8120931f", func := "rampart/rampartlaw02.LatticeLeast", spec := "latticeLeast", unfollowed := true, recurses := true, apart := false, narrowed := true }
def LatticeLeastUptoSaid : Prop := latticeLeastUptoRow.holds Try.pinned (OpenSpec.upto latticeLeastSpec)

/-- 'rampartlaw02.LatticeAlgebra', WHERE WHAT IT READS IS OF BULK AT MOST 1048576: true; the input reads as it did. -/
def latticeAlgebraUptoRow : OpenClaim := { program := "ytlbjcmiegbejdaa", sum := "17c7dffa0c1f1837dfb86c6dc1f3ee00b5595df584862dd61b6a8d2c8120931f", func := "rampart/rampartlaw02.LatticeAlgebra", spec := "latticeAlgebra", unfollowed := true, recurses := true, apart := false, narrowed := true }
def LatticeAlgebraUptoSaid : Prop := latticeAlgebraUptoRow.holds Try.pinned (OpenSpec.upto latticeAlgebraSpec)

/-- 'rampartlaw02.LatticeAsks', WHERE WHAT IT READS IS OF BULK AT MOST 1048576: true; the input reads as it did. -/
def latticeAsksUptoRow : OpenClaim := { program := "ytlbjcmiegbejdaa", sum := "17c7dffa0c1f1837dfb86c6dc1f3ee00b5595df584862dd61b6a8d2c8120931f", func := "rampart/rampartlaw02.LatticeAsks", spec := "latticeAsks", unfollowed := true, recurses := true, apart := false, narrowed := true }
def LatticeAsksUptoSaid : Prop := latticeAsksUptoRow.holds Try.pinned (OpenSpec.upto latticeAsksSpec)

/-- 'rampartlaw02.LatticeMakes', WHERE WHAT IT READS IS OF BULK AT MOST 1048576: true; the input reads as it did. -/
def latticeMakesUptoRow : OpenClaim := { program := "ytlbjcmiegbejdaa", sum := "17c7dffa0c1f1837dfb86c6dc1f3ee00b5595df584862dd61b6a8d2c8120931f", func := "rampart/rampartlaw02.LatticeMakes", spec := "latticeMakes", unfollowed := true, recurses := true, apart := false, narrowed := true }
def LatticeMakesUptoSaid : Prop := latticeMakesUptoRow.holds Try.pinned (OpenSpec.upto latticeMakesSpec)

/-- 'rampartlaw02.LatticePowers', WHERE WHAT IT READS IS OF BULK AT MOST 1048576: true; the input reads as it did. -/
def latticePowersUptoRow : OpenClaim := { program := "ytlbjcmiegbejdaa", sum := "17c7dffa0c1f1837dfb86c6dc1f3ee00b5595df584862dd61b6a8d2c8120931f", func := "rampart/rampartlaw02.LatticePowers", spec := "latticePowers", unfollowed := true, recurses := true, apart := false, narrowed := true }
def LatticePowersUptoSaid : Prop := latticePowersUptoRow.holds Try.pinned (OpenSpec.upto latticePowersSpec)

/-- 'rampartlaw02.LatticeOrder', WHERE WHAT IT READS IS OF BULK AT MOST 1048576: true; the input reads as it did. -/
def latticeOrderUptoRow : OpenClaim := { program := "ytlbjcmiegbejdaa", sum := "17c7dffa0c1f1837dfb86c6dc1f3ee00b5595df584862dd61b6a8d2c8120931f", func := "rampart/rampartlaw02.LatticeOrder", spec := "latticeOrder", unfollowed := true, recurses := true, apart := false, narrowed := true }
def LatticeOrderUptoSaid : Prop := latticeOrderUptoRow.holds Try.pinned (OpenSpec.upto latticeOrderSpec)

/-- 'rampartlaw02.LatticeWholes', WHERE WHAT IT READS IS OF BULK AT MOST 1048576: true; the input reads as it did. -/
def latticeWholesUptoRow : OpenClaim := { program := "ytlbjcmiegbejdaa", sum := "17c7dffa0c1f1837dfb86c6dc1f3ee00b5595df584862dd61b6a8d2c8120931f", func := "rampart/rampartlaw02.LatticeWholes", spec := "latticeWholes", unfollowed := true, recurses := true, apart := false, narrowed := true }
def LatticeWholesUptoSaid : Prop := latticeWholesUptoRow.holds Try.pinned (OpenSpec.upto latticeWholesSpec)

end Rows
end Go.Proofs.Ytlbjcmiegbejdaa
