/- One part of the proof: laws.toTrio. No condition beyond those of its theorems. -/
import Derived.Test.YtfgnjcodilebeaaBase
import Derived.Test.YtfgnjcodilebeaaFLawsXszIntSS
import Derived.Test.YtfgnjcodilebeaaFLawsXtoIntSS
namespace Go.Proofs.Ytfgnjcodilebeaa
open Go.RowKit
set_option maxHeartbeats 1000000 in
theorem toTrio_c {ll : List (List Int)} {v : Value} (n : Int) {w : World} (h : RII w v ll) (hb20 : szII ll ≤ 1048576) :
    Calls Try.prog 17 #[.agg #[.int .i64 n, v]] w fun e w' => ∃ v', e = .returned (.agg #[.int .i64 n, v']) ∧ Own tIntss w' v' ll w.heap.size ∧ Below w.heap.size w w' := by
  have HA := Lib.hid h
  obtain ⟨ao, cap, rfl, hl, hs, hc⟩ := Rd.sl h rfl
  clear hs h hc
  go_enter Try.func17, Try.ntmps17
  go_wp2_with fail
  refine (toIntSS_c (Rd.keep HA.out (bel_three _ _ _ _)) hb20).mono ?_
  rintro e w1 ⟨v', rfl, hv, hb1⟩
  obtain ⟨aq, cq, rfl⟩ := hv.shape
  obtain ⟨_, r1, r2, hZ, hB⟩ := rows3 hb1
  have c0 := r2.cellS (j := 0) rfl
  have c1 := r2.cellS (j := 1) rfl
  have c2 := r2.frozen 1
  have d0 := r1.cellS (j := 0) rfl
  have d1 := r1.cellS (j := 1) rfl
  have d2 := r1.frozen 0
  have d3 := r1.frozen 1
  go_wp2
  refine bodyPost_ret (v := .agg #[.int .i64 n, .slice aq ll.length cq]) (by simp [results, Try.results17, go_sem, c0, c1, d0, d1]) rfl ⟨_, rfl, ?_, ?_⟩
  · exact (((hv.setCell (by simp) _).setCell (by simp <;> omega) _).setCell (by simp <;> omega) _).mono (by simp <;> omega)
  · exact ((hB.setCell (by simp <;> omega) _).setCell (by simp) _).setCell (by simp) _

end Go.Proofs.Ytfgnjcodilebeaa
