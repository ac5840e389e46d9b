/- Layer 2, plain: joins are least. -/
import Derived.Test.YtlbjcmiegbejdaaP7
namespace Go.Proofs.Ytlbjcmiegbejdaa.Pure
open Go.RowKit Go.Proofs.Ytlbjcmiegbejdaa.Q Go.Proofs.YtlbjcmiegbejdaaW.PrintWords Go.Proofs.YtlbjcmiegbejdaaW.PrintLast

theorem LatticeLeast : rampartlaw02_LatticeLeast.Pure := by
  intro l0 a1 a2 _ _ h _ _
  exact (least_ev (okUb_take h) a1 a2).rounds

end Go.Proofs.Ytlbjcmiegbejdaa.Pure
