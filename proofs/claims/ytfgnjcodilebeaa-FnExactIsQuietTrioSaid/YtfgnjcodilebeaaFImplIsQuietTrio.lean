/- One part of the proof: impl.IsQuietTrio. No condition beyond those of its theorems. -/
import Derived.Test.YtfgnjcodilebeaaBase
import Derived.Test.YtfgnjcodilebeaaFImplIsTrio
import Derived.Test.YtfgnjcodilebeaaFImplXisQuietTrio
namespace Go.Proofs.Ytfgnjcodilebeaa
open Go.RowKit
set_option maxRecDepth 100000 in
set_option maxHeartbeats 1000000 in
theorem IsQuietTrio_c {ll : List (List Int)} {v : Value} (n : Int) {w : World} (h : RII w v ll) :
    Calls Try.prog 30 #[.agg #[.int .i64 n, v]] w fun e w' => e = .returned (.tuple #[.bool (isTrio n ll && quiet3 ll), .bool (isTrio n ll)]) ∧ Below w.heap.size w w' := by
  have H0 := Lib.hid h
  obtain ⟨ao, cap, rfl, hl, hs, hc⟩ := Rd.sl h rfl
  clear hs h hc
  go_enter Try.func30, Try.ntmps30
  cases ht : isTrio n ll
  · go_wp2_with fail
    refine (IsTrio_c n (Rd.keep H0.out (bel_box _ _))).mono ?_
    rintro e w1 ⟨rfl, hb1⟩
    obtain ⟨r1, hz1, hB1⟩ := rows1 hb1
    go_wp2
    go_ret2
    exact ⟨by simp, hB1⟩
  · have HT := Lib.hid ht
    go_wp2_with fail
    refine (IsTrio_c n (Rd.keep H0.out (bel_box _ _))).mono ?_
    rintro e w1 ⟨rfl, hb1⟩
    obtain ⟨r1, hz1, hB1⟩ := rows1 hb1
    have r1_c := r1.cell; have r1_f := r1.frozen
    go_wp2_with fail
    refine (isQuietTrio_c n (Rd.keep H0.out hB1) HT.out).mono ?_
    rintro e w2 ⟨rfl, hb2⟩
    go_wp2
    go_ret2
    exact ⟨by simp, hB1.trans (hb2.mono hB1.size)⟩

end Go.Proofs.Ytfgnjcodilebeaa
