/- One part of the proof: laws.heldIntS. No condition beyond those of its theorems. -/
import Derived.Test.YtfgnjcodilebeaaBase
import Derived.Test.YtfgnjcodilebeaaFLawsXmarkIntS
namespace Go.Proofs.Ytfgnjcodilebeaa
open Go.RowKit
set_option maxHeartbeats 1000000 in
theorem heldIntS_c {n : Nat} {v : Value} (k : Int) {w : World} (h : RI w v (iota k n)) (h0 : 0 ≤ k) (h1 : k + n ≤ 1099511627776) :
    Calls Try.prog 49 #[v, .int .i64 k] w fun e w' => e = .returned (.int .i64 (k + n)) ∧ Below w.heap.size w w' := by
  obtain ⟨ao, cap, rfl, hl, hs, hc⟩ := h.opn
  have hix := idx_run1 eInts sInts ao (iota k n).length cap hs
  have hc' : ∀ j, j < n → w.cell? ((adr ao).add j) = some (.int .i64 (k + j)) := fun j hj => by rw [hc j (by rw [iota_len]; exact hj), iota_get]
  rw [iota_len] at hix
  simp only [iota_len]
  clear hs h hc hl
  go_enter Try.func49, Try.ntmps49
  go_wp2
  go_loop [5, 1] (fun i b => ∃ (j : Nat), j ≤ n ∧ i = .int .i64 j ∧ b = .int .i64 (k + j)) (fun i _ => n - (intOf i).toNat)
  case atStart => exact ⟨0, by omega, rfl, by simp⟩
  case round =>
    obtain ⟨j, hj, rfl, rfl⟩ := hrel
    by_cases hlt : j < n
    · have hcj := hc' j hlt
      clear hc'
      go_wp2
      go_round
      case rel => exact ⟨j + 1, by omega, by go_num, by go_num⟩
      case measure => simp [intOf]; omega
    · have hje : j = n := by omega
      subst hje
      clear hc'
      go_wp2
      go_ret
      exact ⟨rfl, Below.refl _ _⟩

end Go.Proofs.Ytfgnjcodilebeaa
