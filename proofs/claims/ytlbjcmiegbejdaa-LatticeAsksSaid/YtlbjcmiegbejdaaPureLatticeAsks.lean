/- Layer 2, plain: which flows are a policy, what they lack. -/
import Derived.Test.YtlbjcmiegbejdaaP5
namespace Go.Proofs.Ytlbjcmiegbejdaa.Pure
open Go.RowKit Go.Proofs.Ytlbjcmiegbejdaa.Q Go.Proofs.YtlbjcmiegbejdaaW.PrintWords Go.Proofs.YtlbjcmiegbejdaaW.PrintLast

theorem LatticeAsks : rampartlaw02_LatticeAsks.Pure := by
  intro l0 a1 a2 _ _ h _ _
  exact (asks_ev (okUb_take h) a1 a2).rounds

end Go.Proofs.Ytlbjcmiegbejdaa.Pure
