/- One part of the proof: spec.l11Row. No condition beyond those of its theorems. -/
import Derived.Test.YtfgnjcodilebeaaBase
import Derived.Test.YtfgnjcodilebeaaFImplIsTrio
import Derived.Test.YtfgnjcodilebeaaFImplXallWithin
import Derived.Test.YtfgnjcodilebeaaFImplXtotal
import Derived.Test.YtfgnjcodilebeaaFImplXwithin
import Derived.Test.YtfgnjcodilebeaaFSpecXl1In
namespace Go.Proofs.Ytfgnjcodilebeaa
open Go.RowKit
set_option maxHeartbeats 1000000 in
theorem l11Row_c {l : List Int} {v : Value} (n : Int) {w : World} (h : RI w v l) :
    Calls Try.prog 93 #[v, .int .i64 n] w fun e w' => e = .returned (.bool (rowOk n l)) ∧ w = w' := by
  obtain ⟨ao, cap, rfl, hl, hs, hc⟩ := h.opn
  have hix := idx_run1 eInts sInts ao l.length cap hs
  clear hs h
  go_enter Try.func93, Try.ntmps93
  go_wp2
  go_loop [6, 5] (fun i s => ∃ k : Nat, k ≤ l.length ∧ k ≤ 9 ∧ i = .int .i64 k ∧ s = .int .i64 (sumW (l.take k)) ∧ Hid ((l.take k).all (fun m => inB m 0 n) = true)) (fun i _ => l.length - (intOf i).toNat)
  case atStart => exact ⟨0, by omega, by omega, rfl, rfl, Lib.hid rfl⟩
  case round =>
    obtain ⟨k, hk, hk9, rfl, rfl, ha⟩ := hrel
    by_cases hlt : k < l.length ∧ k < 9
    · obtain ⟨hlt, hlt9⟩ := hlt
      have hck := hc k hlt
      cases hb : inB l[k] 0 n
      all_goals go_wp2_with (go_at_call 58; refine (l1In_c _ _ _ _).mono ?_; rintro e w' ⟨rfl, rfl⟩)
      · go_ret
        exact ⟨ret_bool (by rw [rowOk, allB, all_f (p := fun m => inB m 0 n) hlt hb]; simp), rfl⟩
      · go_round
        case rel => exact ⟨k + 1, by omega, by omega, by go_num, by rw [sumW_snoc _ _ hlt], Lib.hid (by rw [take_succ_all _ _ _ hlt, ha.out, hb]; rfl)⟩
        case measure => simp [intOf]; omega
    · clear hc
      by_cases h8' : l.length = 8
      · have hk8 : k = 8 := by omega
        subst hk8
        have hall : allB l 0 n = true := by unfold allB; exact all_t (by omega) ha.out
        have hsum : l.take 8 = l := List.take_of_length_le (by omega)
        have HS := Lib.hid hsum
        have HA := Lib.hid hall
        have H8 := Lib.hid h8'
        have h8 : ((l.length : Int) == 8) = true := by rw [h8']; rfl
        clear hsum hall h8'
        go_wp2
        go_ret
        exact ⟨ret_bool (by rw [rowOk, HA.out, H8.out, HS.out, beq_dec]; simp), rfl⟩
      · have h8 : ((l.length : Int) == 8) = false := by rw [beq_eq_false_iff_ne]; omega
        have H8 := Lib.hid h8'
        clear h8'
        by_cases hl2 : k < l.length
        all_goals go_wp2
        all_goals go_ret
        all_goals exact ⟨ret_bool (by rw [rowOk]; simp [H8.out]), rfl⟩

end Go.Proofs.Ytfgnjcodilebeaa
