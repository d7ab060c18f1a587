/- One part of the proof: impl.bitOf. No condition beyond those of its theorems. -/
import Derived.Test.YtfgnjcodilebeaaBase
import Derived.Test.YtfgnjcodilebeaaPBits
namespace Go.Proofs.Ytfgnjcodilebeaa
open Go.RowKit
/-- the bit of a player in a place -/
def bitV (p i : Nat) : Nat := p >>> (2 - i) &&& 1
theorem bitOf_c (p i : Nat) (w : World) (hp : p < 8) (hi : i < 3) :
    Calls Try.prog 79 #[.int .i64 p, .int .i64 i] w fun e w' => e = .returned (.int .i64 (bitV p i)) ∧ w = w' := by
  have hb : (0 : Int) ≤ 2 - (i : Int) ∧ (2 : Int) - i ≤ 2 := by omega
  have hbb : bits .and .i64 ((p >>> (2 - i) : Nat) : Int) 1 = ((bitV p i : Nat) : Int) := band_nat (p >>> (2 - i)) 1 (Nat.lt_of_le_of_lt (Nat.shiftRight_le _ _) (by omega)) (by omega)
  go_enter Try.func79, Try.ntmps79
  go_wp2
  go_ret
  refine ⟨ret_int ?_, rfl⟩
  rw [← hbb, Nat.shiftRight_eq_div_pow]
  simp

end Go.Proofs.Ytfgnjcodilebeaa
