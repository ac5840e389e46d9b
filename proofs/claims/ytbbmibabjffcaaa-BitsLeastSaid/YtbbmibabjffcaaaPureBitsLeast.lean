import Derived.Test.YtbbmibabjffcaaaP6
namespace Go.Proofs.Ytbbmibabjffcaaa.Pure
open Go.RowKit Go.Proofs.Ytbbmibabjffcaaa.Q Go.Proofs.YtbbmibabjffcaaaW.PrintWords Go.Proofs.YtbbmibabjffcaaaW.PrintLast
theorem BitsLeast : rampartlaw01_BitsLeast.Pure := fun _ _ _ _ h0 _ _ h1 => (least_ev (okUb_take h0) (okUb_take h1)).rounds
end Go.Proofs.Ytbbmibabjffcaaa.Pure
