/- One part of the proof: spec.IsTrio. No condition beyond those of its theorems. -/
import Derived.Test.YtfgnjcodilebeaaBase
import Derived.Test.YtfgnjcodilebeaaFImplIsTrio
import Derived.Test.YtfgnjcodilebeaaFSpecL11Trio
namespace Go.Proofs.Ytfgnjcodilebeaa
open Go.RowKit
set_option maxHeartbeats 1000000 in
theorem spIsTrio_c {ll : List (List Int)} {v : Value} (n : Int) {w : World} (h : RII w v ll) :
    Calls Try.prog 16 #[.agg #[.int .i64 n, v]] w fun e w' => e = .returned (.bool (isTrio n ll)) ∧ Below w.heap.size w w' := by
  have HA := Lib.hid h
  obtain ⟨ao, cap, rfl, hl, hs, hc⟩ := Rd.sl h rfl
  clear hs h hc
  go_enter Try.func16, Try.ntmps16
  go_wp2_with fail
  refine (l11Trio_c _ (Rd.keep HA.out (bel_box _ _))).mono ?_
  rintro e w1 ⟨rfl, hb⟩
  go_wp2
  go_ret
  exact ⟨rfl, (rows1 hb).2.2⟩

end Go.Proofs.Ytfgnjcodilebeaa
