import Derived.Test.YtbbmibabjffcaaaP5
namespace Go.Proofs.Ytbbmibabjffcaaa.Pure
open Go.RowKit Go.Proofs.Ytbbmibabjffcaaa.Q Go.Proofs.YtbbmibabjffcaaaW.PrintWords Go.Proofs.YtbbmibabjffcaaaW.PrintLast
theorem BitsCloses : rampartlaw01_BitsCloses.Pure := fun _ a _ _ h0 _ => (closes_ev (okUb_take h0) a).rounds
end Go.Proofs.Ytbbmibabjffcaaa.Pure
