/- One part of the proof: math bits.OnesCount. No condition beyond those of its theorems. -/
import Derived.Test.YtfgnjcodilebeaaBase
namespace Go.Proofs.Ytfgnjcodilebeaa
open Go.RowKit
def pop8 (n : Nat) : Int := [0, 1, 1, 2, 1, 2, 2, 3].getD n 0
def par8 (n : Nat) : Int := [0, 1, 1, 0, 1, 0, 0, 1].getD n 0
theorem par8_two (n : Nat) : par8 n = 0 ∨ par8 n = 1 := by
  match n with
  | 0 | 1 | 2 | 3 | 4 | 5 | 6 | 7 => simp [par8]
  | n + 8 => simp [par8]
theorem lt8 {n : Nat} (h : n < 8) : n = 0 ∨ n = 1 ∨ n = 2 ∨ n = 3 ∨ n = 4 ∨ n = 5 ∨ n = 6 ∨ n = 7 := by omega

set_option maxRecDepth 100000 in
set_option maxHeartbeats 4000000 in
theorem onesCount_c (n : Nat) (w : World) (h : n < 8) :
    Calls Try.prog 91 #[.int .u64 n] w fun e w' => e = .returned (.int .i64 (pop8 n)) ∧ w = w' := by
  rcases lt8 h with rfl | rfl | rfl | rfl | rfl | rfl | rfl | rfl
  all_goals
    go_enter Try.func91, Try.ntmps91
    go_wp2
    go_ret
    refine ⟨?_, rfl⟩
    kernel_rfl

end Go.Proofs.Ytfgnjcodilebeaa
