/- Layer 11, the rows: bounds of numbers that come in. -/
import Derived.Test.YtcpaakhmcpeagaaC11
import Derived.ProofKit
import Derived.OpenShut
namespace Go.Proofs.Ytcpaakhmcpeagaa.Q
open Go.RowKit
theorem bd_u8 {x : Int} (h : (Lit.int .u8 x).wf = true) : 0 ≤ x ∧ x < 256 := by
  simp [Lit.wf, IntKind.min, IntKind.max, IntKind.signed, IntKind.bits] at h
  omega
theorem bd_u32 {x : Int} (h : (Lit.int .u32 x).wf = true) : 0 ≤ x ∧ x < 4294967296 := by
  simp [Lit.wf, IntKind.min, IntKind.max, IntKind.signed, IntKind.bits] at h
  omega
end Go.Proofs.Ytcpaakhmcpeagaa.Q
