/- One part of the proof: impl.TripleAgreements. No condition beyond those of its theorems. -/
import Derived.Test.YtfgnjcodilebeaaBase
import Derived.Test.YtfgnjcodilebeaaFImplIsTrio
import Derived.Test.YtfgnjcodilebeaaFImplTrioXagreements
namespace Go.Proofs.Ytfgnjcodilebeaa
open Go.RowKit
def agrR (n : Int) (ll : List (List Int)) : List Int := if isTrio n ll = true then agr ll 8 else []
theorem agrR_le (n : Int) (ll : List (List Int)) : (agrR n ll).length ≤ 1048576 := by unfold agrR; split <;> simp [agr_len]
set_option maxRecDepth 100000 in
set_option maxHeartbeats 2000000 in
theorem TripleAgreements_c {ll : List (List Int)} {v : Value} (n : Int) {w : World} (h : RII w v ll) :
    Calls Try.prog 48 #[.agg #[.int .i64 n, v]] w fun e w' => ∃ v', e = .returned (.tuple #[v', .bool (isTrio n ll)]) ∧ Own tInts w' v' (agrR n ll) w.heap.size ∧ Below w.heap.size w w' := by
  have H0 := Lib.hid h
  obtain ⟨ao, cap, rfl, hl, hs, hc⟩ := Rd.sl h rfl
  clear hs h hc
  go_enter Try.func48, Try.ntmps48
  cases ht : isTrio n ll
  · go_wp2_with fail
    refine (IsTrio_c n (Rd.keep H0.out (bel_box _ _))).mono ?_
    rintro e w1 ⟨rfl, hb1⟩
    obtain ⟨r1, hz1, hB1⟩ := rows1 hb1
    go_wp2
    go_ret2
    exact ⟨_, rfl, by simpa [agrR, ht] using (OwnS.nil tInt 3 w1 w.heap.size).own (by simp), hB1⟩
  · have HT := Lib.hid ht
    go_wp2_with fail
    refine (IsTrio_c n (Rd.keep H0.out (bel_box _ _))).mono ?_
    rintro e w1 ⟨rfl, hb1⟩
    obtain ⟨r1, hz1, hB1⟩ := rows1 hb1
    have r1_c := r1.cell; have r1_f := r1.frozen
    go_wp2_with fail
    refine (agreements_c n (Rd.keep H0.out hB1) HT.out).mono ?_
    rintro e w2 ⟨v2, rfl, hv2, hb2⟩
    go_wp2
    go_ret2
    exact ⟨_, rfl, by simpa [agrR, ht] using hv2.mono hB1.size, hB1.trans (hb2.mono hB1.size)⟩

end Go.Proofs.Ytfgnjcodilebeaa
