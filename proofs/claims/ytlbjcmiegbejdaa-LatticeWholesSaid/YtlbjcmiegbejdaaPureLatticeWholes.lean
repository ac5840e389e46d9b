/- Layer 2, plain: lattices, classes, an order. -/
import Derived.Test.YtlbjcmiegbejdaaP15
namespace Go.Proofs.Ytlbjcmiegbejdaa.Pure
open Go.RowKit Go.Proofs.Ytlbjcmiegbejdaa.Q Go.Proofs.YtlbjcmiegbejdaaW.PrintWords Go.Proofs.YtlbjcmiegbejdaaW.PrintLast

theorem LatticeWholes : rampartlaw02_LatticeWholes.Pure := by
  intro l0 _ _ h
  exact (wholes_ev (okUb_take h)).rounds

end Go.Proofs.Ytlbjcmiegbejdaa.Pure
