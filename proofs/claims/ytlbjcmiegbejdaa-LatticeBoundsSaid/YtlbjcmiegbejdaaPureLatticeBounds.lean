/- Layer 2, plain: all joins and meets. -/
import Derived.Test.YtlbjcmiegbejdaaP3
namespace Go.Proofs.Ytlbjcmiegbejdaa.Pure
open Go.RowKit Go.Proofs.Ytlbjcmiegbejdaa.Q Go.Proofs.YtlbjcmiegbejdaaW.PrintWords Go.Proofs.YtlbjcmiegbejdaaW.PrintLast

theorem LatticeBounds : rampartlaw02_LatticeBounds.Pure := by
  intro l0 a1 a2 _ _ h _ _
  exact (bounds_ev (okUb_take h) a1 a2).rounds

end Go.Proofs.Ytlbjcmiegbejdaa.Pure
