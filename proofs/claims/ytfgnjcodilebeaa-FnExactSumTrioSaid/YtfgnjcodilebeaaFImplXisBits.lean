/- One part of the proof: impl.isBits. No condition beyond those of its theorems. -/
import Derived.Test.YtfgnjcodilebeaaBase
import Derived.Test.YtfgnjcodilebeaaFImplXallWithin
namespace Go.Proofs.Ytfgnjcodilebeaa
open Go.RowKit
def isBits (l : List Int) (n : Int) : Bool := decide ((l.length : Int) = n) && allB l 0 1

set_option maxHeartbeats 400000 in
theorem isBits_c {l : List Int} {v : Value} (n : Int) {w : World} (h : RI w v l) :
    Calls Try.prog 62 #[v, .int .i64 n] w fun e w' => e = .returned (.bool (isBits l n)) ∧ w = w' := by
  have HA := Lib.hid (fun lo hi => allWithin_c (l := l) (v := v) lo hi (w := w) h)
  obtain ⟨ao, cap, rfl, hl, hs, hc⟩ := h.opn
  clear hs hc h
  go_enter Try.func62, Try.ntmps62
  go_wp2_with (go_at_call 54; refine (HA.out _ _).mono ?_; rintro e w' ⟨rfl, rfl⟩)
  all_goals go_ret
  all_goals (refine ⟨ret_bool ?_, rfl⟩; simp_all [isBits])

end Go.Proofs.Ytfgnjcodilebeaa
