import Derived.Test.YtbbmibabjffcaaaP5
namespace Go.Proofs.Ytbbmibabjffcaaa.Pure
open Go.RowKit Go.Proofs.Ytbbmibabjffcaaa.Q Go.Proofs.YtbbmibabjffcaaaW.PrintWords Go.Proofs.YtbbmibabjffcaaaW.PrintLast
theorem BitsOwn : rampartlaw01_BitsOwn.Pure := fun _ _ _ h0 => (own_ev (okUb_take h0)).rounds
end Go.Proofs.Ytbbmibabjffcaaa.Pure
