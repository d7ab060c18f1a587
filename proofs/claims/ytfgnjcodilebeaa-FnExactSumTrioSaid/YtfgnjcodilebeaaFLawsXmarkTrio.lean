/- One part of the proof: laws.markTrio. No condition beyond those of its theorems. -/
import Derived.Test.YtfgnjcodilebeaaBase
import Derived.Test.YtfgnjcodilebeaaFLawsXmarkIntS
import Derived.Test.YtfgnjcodilebeaaFLawsXmarkIntSS
namespace Go.Proofs.Ytfgnjcodilebeaa
open Go.RowKit
set_option maxHeartbeats 1000000 in
theorem markTrio_c {ll : List (List Int)} {v : Value} {F : List Nat} (n k : Int) {w : World} (h : tIntss.rd true w [v] ll F) (hn : F.Nodup) (h0 : 0 ≤ k) (h1 : k + offs ll ll.length ≤ 1099511627776) :
    Calls Try.prog 27 #[.agg #[.int .i64 n, v], .int .i64 k] w fun e w' => e = .returned (.int .i64 (k + offs ll ll.length)) ∧ tIntss.rd true w' [v] (markII k ll) F ∧ Chg F w w' := by
  have H0 := Lib.hid h
  obtain ⟨ao, cap, rfl, hl, hs, hc⟩ := Rd.sl (w := w) (v := v) (l := ll) (t := tInts) ⟨F, tIntss.weak h⟩ rfl
  clear hs h hc
  go_enter Try.func27, Try.ntmps27
  go_wp2_with fail
  refine (markIntSS_c k (tIntss.keep H0.out fun b hb => (bel_box w _).block b (tIntss.lt H0.out b hb)) hn (by omega) (by omega)).mono ?_
  rintro e w1 ⟨rfl, hr, hch⟩
  go_wp2
  go_ret
  exact ⟨rfl, hr, (Chg.of (bel_box _ _)).trans hch⟩

end Go.Proofs.Ytfgnjcodilebeaa
