/- Layer 2, plain: joins in any order; absorption. -/
import Derived.Test.YtlbjcmiegbejdaaP8
namespace Go.Proofs.Ytlbjcmiegbejdaa.Pure
open Go.RowKit Go.Proofs.Ytlbjcmiegbejdaa.Q Go.Proofs.YtlbjcmiegbejdaaW.PrintWords Go.Proofs.YtlbjcmiegbejdaaW.PrintLast

theorem LatticeAlgebra : rampartlaw02_LatticeAlgebra.Pure := by
  intro l0 a1 a2 a3 _ _ h _ _ _
  exact (algebra_ev (okUb_take h) a1 a2 a3).rounds

end Go.Proofs.Ytlbjcmiegbejdaa.Pure
