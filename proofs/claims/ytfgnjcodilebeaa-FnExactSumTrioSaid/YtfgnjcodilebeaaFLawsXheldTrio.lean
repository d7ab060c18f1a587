/- One part of the proof: laws.heldTrio. No condition beyond those of its theorems. -/
import Derived.Test.YtfgnjcodilebeaaBase
import Derived.Test.YtfgnjcodilebeaaFLawsXheldIntSS
import Derived.Test.YtfgnjcodilebeaaFLawsXmarkIntSS
namespace Go.Proofs.Ytfgnjcodilebeaa
open Go.RowKit
set_option maxHeartbeats 1000000 in
theorem heldTrio_c {ll : List (List Int)} {v : Value} (n k : Int) {w : World} (h : RII w v (markII k ll)) (h0 : 0 ≤ k) (h1 : k + offs ll ll.length ≤ 1099511627776) :
    Calls Try.prog 28 #[.agg #[.int .i64 n, v], .int .i64 k] w fun e w' => e = .returned (.int .i64 (k + offs ll ll.length)) ∧ Below w.heap.size w w' := by
  have H0 := Lib.hid h
  obtain ⟨ao, cap, rfl, hl, hs, hc⟩ := Rd.sl h rfl
  clear hs h hc
  go_enter Try.func28, Try.ntmps28
  go_wp2_with fail
  refine (heldIntSS_c k (Rd.keep H0.out (bel_box _ _)) (by omega) (by omega)).mono ?_
  rintro e w1 ⟨rfl, hb1⟩
  go_wp2
  go_ret
  exact ⟨rfl, (rows1 hb1).2.2⟩

end Go.Proofs.Ytfgnjcodilebeaa
