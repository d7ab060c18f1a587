/- One part of the proof: HoldMarks. No condition beyond those of its theorems. -/
import Derived.Test.YtfgnjcodilebeaaBase
import Derived.Test.YtfgnjcodilebeaaFHold
import Derived.Test.YtfgnjcodilebeaaFLawsXmarkIntS
import Derived.Test.YtfgnjcodilebeaaFLawsXmarkIntSS
import Derived.Test.YtfgnjcodilebeaaFLawsXmarkTrio
import Derived.Test.YtfgnjcodilebeaaFLawsXszIntSS
namespace Go.Proofs.Ytfgnjcodilebeaa
open Go.RowKit
theorem markIntS_i {l : List Int} {v : Value} {B B' : Nat} (k : Int) {w : World} (h : OwnI tInts w v l B B') (h0 : 0 ≤ k) (h1 : k + l.length ≤ 1099511627776) :
    Calls Try.prog 26 #[v, .int .i64 k] w fun e w' => e = .returned (.int .i64 (k + l.length)) ∧ OwnI tInts w' v (iota k l.length) B B' ∧ ChgI B B' w w' := by
  obtain ⟨F, hr, hn, hF⟩ := h
  exact (markIntS_c k hr h0 h1).mono fun e w' ⟨he, hr', hc⟩ => ⟨he, ⟨F, hr', hn, hF⟩, hc.toI hF⟩
theorem markTrio_i {ll : List (List Int)} {v : Value} {B B' : Nat} (n k : Int) {w : World} (h : OwnI tIntss w v ll B B') (h0 : 0 ≤ k) (h1 : k + offs ll ll.length ≤ 1099511627776) :
    Calls Try.prog 27 #[.agg #[.int .i64 n, v], .int .i64 k] w fun e w' => e = .returned (.int .i64 (k + offs ll ll.length)) ∧ OwnI tIntss w' v (markII k ll) B B' ∧ ChgI B B' w w' := by
  obtain ⟨F, hr, hn, hF⟩ := h
  exact (markTrio_c n k hr hn h0 h1).mono fun e w' ⟨he, hr', hc⟩ => ⟨he, ⟨F, hr', hn, hF⟩, hc.toI hF⟩
theorem offs_szII (ll : List (List Int)) : offs ll ll.length ≤ szII ll := by unfold offs szII; rw [List.take_length]; omega

end Go.Proofs.Ytfgnjcodilebeaa
