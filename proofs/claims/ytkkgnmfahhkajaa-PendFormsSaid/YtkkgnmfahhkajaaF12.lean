/- Layer 18: the law of what comes of any request. -/
import Derived.Test.YtkkgnmfahhkajaaF9
import Derived.Test.YtkkgnmfahhkajaaF10
namespace Go.Proofs.Ytkkgnmfahhkajaa.Q
open Go.RowKit Go.Proofs.YtkkgnmfahhkajaaW.PrintWords Go.Proofs.YtkkgnmfahhkajaaW.PrintMore
set_option linter.unusedVariables false
set_option linter.unusedSimpArgs false
theorem alloc2 (w : World) (o1 o2 : Obj) : ((w.alloc o1).alloc o2).heap[w.heap.size]? = some o1 ∧ ((w.alloc o1).alloc o2).heap[w.heap.size + 1]? = some o2 := ⟨blk_alloc (heap_alloc_new w o1) _, new1 w o1 o2⟩
end Go.Proofs.Ytkkgnmfahhkajaa.Q
