import Derived.Test.YtbbmibabjffcaaaP3
namespace Go.Proofs.Ytbbmibabjffcaaa.Pure
open Go.RowKit Go.Proofs.Ytbbmibabjffcaaa.Q Go.Proofs.YtbbmibabjffcaaaW.PrintWords Go.Proofs.YtbbmibabjffcaaaW.PrintLast
theorem BitsNumbers : rampartlaw01_BitsNumbers.Pure := by
  intro a0 a1 a2 h0 h1 h2
  obtain ⟨s, rfl, hs⟩ := u_nat h0
  exact (numbers_ev hs (i_rng h2)).rounds
end Go.Proofs.Ytbbmibabjffcaaa.Pure
