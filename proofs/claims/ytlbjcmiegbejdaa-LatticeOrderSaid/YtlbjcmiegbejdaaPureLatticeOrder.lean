/- Layer 2, plain: lower labels stand first. -/
import Derived.Test.YtlbjcmiegbejdaaP14
namespace Go.Proofs.Ytlbjcmiegbejdaa.Pure
open Go.RowKit Go.Proofs.Ytlbjcmiegbejdaa.Q Go.Proofs.YtlbjcmiegbejdaaW.PrintWords Go.Proofs.YtlbjcmiegbejdaaW.PrintLast

theorem LatticeOrder : rampartlaw02_LatticeOrder.Pure := by
  intro l0 _ _ h
  exact (orders_ev (okUb_take h)).rounds

end Go.Proofs.Ytlbjcmiegbejdaa.Pure
