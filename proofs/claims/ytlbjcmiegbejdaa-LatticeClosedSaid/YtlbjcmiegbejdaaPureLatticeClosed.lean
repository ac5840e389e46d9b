/- Layer 2, plain: the closure is a policy. -/
import Derived.Test.YtlbjcmiegbejdaaP6
namespace Go.Proofs.Ytlbjcmiegbejdaa.Pure
open Go.RowKit Go.Proofs.Ytlbjcmiegbejdaa.Q Go.Proofs.YtlbjcmiegbejdaaW.PrintWords Go.Proofs.YtlbjcmiegbejdaaW.PrintLast

theorem LatticeClosed : rampartlaw02_LatticeClosed.Pure := by
  intro l0 _ _ h
  exact (closed_ev (okUb_take h)).rounds

end Go.Proofs.Ytlbjcmiegbejdaa.Pure
