/- One part of the proof: laws.szTrio. No condition beyond those of its theorems. -/
import Derived.Test.YtfgnjcodilebeaaBase
import Derived.Test.YtfgnjcodilebeaaFLawsXszIntS
import Derived.Test.YtfgnjcodilebeaaFLawsXszIntSS
namespace Go.Proofs.Ytfgnjcodilebeaa
open Go.RowKit
set_option maxHeartbeats 400000 in
theorem szTrio_c {ll : List (List Int)} {v : Value} (n left : Int) {w : World} (h : RII w v ll) (h0 : 0 ≤ left) (h1 : left ≤ 1048576) :
    Calls Try.prog 15 #[.agg #[.int .i64 n, v], .int .i64 left] w fun e w' => ∃ r, e = .returned (.int .i64 r) ∧ SzP (szII ll) left r ∧ Below w.heap.size w w' := by
  have H := Lib.hid h
  obtain ⟨ao, cap, rfl, hl, hs, hc⟩ := Rd.sl h rfl
  clear hs h hc
  go_enter Try.func15, Try.ntmps15
  go_wp2_with (go_at_call 50; refine (szIntSS_c _ (Rd.keep H.out (bel_box _ _)) (by omega) (by omega)).mono ?_; rintro e w' ⟨r, rfl, hr, rfl⟩)
  · go_ret
    exact ⟨-1, rfl, .inl rfl, bel_box _ _⟩
  · go_ret
    exact ⟨r, rfl, hr, bel_box _ _⟩

end Go.Proofs.Ytfgnjcodilebeaa
