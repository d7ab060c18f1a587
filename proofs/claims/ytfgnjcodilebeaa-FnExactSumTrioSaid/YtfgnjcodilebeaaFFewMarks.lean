/- One part of the proof: FewMarks. No condition beyond those of its theorems. -/
import Derived.Test.YtfgnjcodilebeaaBase
import Derived.Test.YtfgnjcodilebeaaFRowF
import Derived.Test.YtfgnjcodilebeaaFLawsXmarkIntSS
namespace Go.Proofs.Ytfgnjcodilebeaa
open Go.RowKit
theorem offs_grid (f : Nat → Nat → Int) (b : Bool) : offs (whenL b (gridF f 8 8)) (whenL b (gridF f 8 8)).length ≤ 1048576 := by
  unfold offs
  rw [List.take_length]
  unfold whenL
  split
  · simp [gridF, rowF, Function.comp_def]; decide
  · simp

end Go.Proofs.Ytfgnjcodilebeaa
