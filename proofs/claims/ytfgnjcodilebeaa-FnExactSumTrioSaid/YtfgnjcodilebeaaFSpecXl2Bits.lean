/- One part of the proof: spec.l2Bits. No condition beyond those of its theorems. -/
import Derived.Test.YtfgnjcodilebeaaBase
import Derived.Test.YtfgnjcodilebeaaFImplXisBits
import Derived.Test.YtfgnjcodilebeaaFImplXallWithin
import Derived.Test.YtfgnjcodilebeaaFImplXwithin
import Derived.Test.YtfgnjcodilebeaaFSpecXl1In
namespace Go.Proofs.Ytfgnjcodilebeaa
open Go.RowKit
set_option maxHeartbeats 1000000 in
theorem l2Bits_c {l : List Int} {v : Value} (n : Int) {w : World} (h : RI w v l) :
    Calls Try.prog 57 #[v, .int .i64 n] w fun e w' => e = .returned (.bool (isBits l n)) ∧ w = w' := by
  obtain ⟨ao, cap, rfl, hl, hs, hc⟩ := h.opn
  have hix := idx_run1 eInts sInts ao l.length cap hs
  clear hs h
  go_enter Try.func57, Try.ntmps57
  go_wp2
  go_loop [5] (fun i => ∃ k : Nat, k ≤ l.length ∧ i = .int .i64 k ∧ Hid ((l.take k).all (fun m => inB m 0 1) = true)) (fun i => l.length - (intOf i).toNat)
  case atStart => exact ⟨0, by omega, rfl, Lib.hid rfl⟩
  case round =>
    obtain ⟨k, hk, rfl, ha⟩ := hrel
    by_cases hlt : k < l.length
    · have hck := hc k hlt
      cases hb : inB l[k] 0 1
      all_goals go_wp2_with (go_at_call 58; refine (l1In_c _ _ _ _).mono ?_; rintro e w' ⟨rfl, rfl⟩)
      · go_ret
        exact ⟨ret_bool (by rw [isBits, allB, all_f (p := fun m => inB m 0 1) hlt hb]; simp), rfl⟩
      · go_round
        case rel => exact ⟨k + 1, by omega, by go_num, Lib.hid (by rw [take_succ_all _ _ _ hlt, ha.out, hb]; rfl)⟩
        case measure => simp [intOf]; omega
    · clear hc
      have hall : allB l 0 1 = true := by unfold allB; exact all_t hlt ha.out
      have HA := Lib.hid hall
      clear hall
      go_wp2
      go_ret
      exact ⟨ret_bool (by rw [isBits, HA.out, beq_dec]; simp), rfl⟩

end Go.Proofs.Ytfgnjcodilebeaa
