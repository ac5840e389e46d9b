/- Layer 1: the law over sets, all ways. -/
import Derived.Test.YtbbmibabjffcaaaS6a
import Derived.Test.YtbbmibabjffcaaaS6b
import Derived.Test.YtbbmibabjffcaaaS6c
import Derived.Test.YtbbmibabjffcaaaS6d
import Derived.Test.YtbbmibabjffcaaaS6e
import Derived.Test.YtbbmibabjffcaaaS6f
namespace Go.Proofs.Ytbbmibabjffcaaa.Q
open Go.RowKit Go.Shelf Go.Proofs.YtbbmibabjffcaaaW.PrintWords Go.Proofs.YtbbmibabjffcaaaW.PrintLast Go.Proofs.YtbbmibabjffcaaaW.PrintMore
attribute [local go_sem] max2_int min2_int max_two min_two
set_option linter.unusedVariables false
set_option linter.unusedSimpArgs false
theorem sets_calls (A : Option Addr) (c : Nat) (l : List Int) (s : Nat) (hs : s < 2 ^ 64) (i most : Int) (w : World) (hr : Kd.C (Kd.int .i64) w A l.length l) (hc : l.length ≤ c) :
    Calls Try.prog 3 #[.slice A l.length c, .int .u64 s, .int .i64 i, .int .i64 most] w fun e w' => e = .returned (.bool true) ∧ Below w.heap.size w w' := by
  by_cases hl : l.length ≤ 100
  · by_cases h1 : most < 1
    · exact sets_lo_s A c l s hs i most h1 w hr hc hl
    · by_cases h2 : 64 < most
      · exact sets_hi_s A c l s hs i most h2 w hr hc hl
      · exact sets_mid_s A c l s hs i most (by omega) (by omega) w hr hc hl
  · by_cases h1 : most < 1
    · exact sets_lo_b A c l s hs i most h1 w hr hc (by omega)
    · by_cases h2 : 64 < most
      · exact sets_hi_b A c l s hs i most h2 w hr hc (by omega)
      · exact sets_mid_b A c l s hs i most (by omega) (by omega) w hr hc (by omega)
end Go.Proofs.Ytbbmibabjffcaaa.Q
