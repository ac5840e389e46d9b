import Derived.Test.YtbbmibabjffcaaaP5
namespace Go.Proofs.Ytbbmibabjffcaaa.Pure
open Go.RowKit Go.Proofs.Ytbbmibabjffcaaa.Q Go.Proofs.YtbbmibabjffcaaaW.PrintWords Go.Proofs.YtbbmibabjffcaaaW.PrintLast
theorem BitsTurned : rampartlaw01_BitsTurned.Pure := fun _ _ _ _ h0 _ _ h1 => (turned_ev (okUb_take h0) (okUb_take h1)).rounds
end Go.Proofs.Ytbbmibabjffcaaa.Pure
