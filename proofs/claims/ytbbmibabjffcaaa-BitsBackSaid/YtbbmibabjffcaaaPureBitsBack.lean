import Derived.Test.YtbbmibabjffcaaaP3
namespace Go.Proofs.Ytbbmibabjffcaaa.Pure
open Go.RowKit Go.Proofs.Ytbbmibabjffcaaa.Q Go.Proofs.YtbbmibabjffcaaaW.PrintWords Go.Proofs.YtbbmibabjffcaaaW.PrintLast
theorem BitsBack : rampartlaw01_BitsBack.Pure := by
  intro a0 h0
  obtain ⟨s, rfl, hs⟩ := u_nat h0
  exact (back_ev hs).rounds
end Go.Proofs.Ytbbmibabjffcaaa.Pure
