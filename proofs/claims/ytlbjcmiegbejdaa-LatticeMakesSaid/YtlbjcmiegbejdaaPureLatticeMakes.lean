/- Layer 2, plain: policies of subsets, of pairs. -/
import Derived.Test.YtlbjcmiegbejdaaP9
namespace Go.Proofs.Ytlbjcmiegbejdaa.Pure
open Go.RowKit Go.Proofs.Ytlbjcmiegbejdaa.Q Go.Proofs.YtlbjcmiegbejdaaW.PrintWords Go.Proofs.YtlbjcmiegbejdaaW.PrintLast

theorem LatticeMakes : rampartlaw02_LatticeMakes.Pure := by
  intro a0 l1 l2 _ _ _ h1 _ _ h2
  exact (makes_ev (okUb_take h1) (okUb_take h2) a0).rounds

end Go.Proofs.Ytlbjcmiegbejdaa.Pure
