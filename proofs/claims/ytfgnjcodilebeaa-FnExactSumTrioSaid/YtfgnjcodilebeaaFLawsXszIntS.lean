/- One part of the proof: laws.szIntS. No condition beyond those of its theorems. -/
import Derived.Test.YtfgnjcodilebeaaBase
namespace Go.Proofs.Ytfgnjcodilebeaa
open Go.RowKit
def SzP (n : Nat) (left r : Int) : Prop := r = -1 ∨ (0 ≤ r ∧ r + n ≤ left)

set_option maxHeartbeats 400000 in
theorem szIntS_c {l : List Int} {v : Value} (left : Int) {w : World} (h : RI w v l) (h0 : 0 ≤ left) (h1 : left ≤ 1048576) :
    Calls Try.prog 92 #[v, .int .i64 left] w fun e w' => ∃ r, e = .returned (.int .i64 r) ∧ SzP l.length left r ∧ w = w' := by
  obtain ⟨ao, cap, rfl, hl, hs, hc⟩ := h.opn
  clear hs h hc
  go_enter Try.func92, Try.ntmps92
  by_cases hlt : left - (l.length : Int) < 0
  · go_wp2
    go_ret
    exact ⟨-1, rfl, .inl rfl, rfl⟩
  · go_wp2
    go_ret
    exact ⟨_, rfl, .inr ⟨by omega, by omega⟩, rfl⟩

end Go.Proofs.Ytfgnjcodilebeaa
