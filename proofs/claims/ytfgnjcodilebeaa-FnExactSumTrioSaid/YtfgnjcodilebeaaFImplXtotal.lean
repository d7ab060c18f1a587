/- One part of the proof: impl.total. No condition beyond those of its theorems. -/
import Derived.Test.YtfgnjcodilebeaaBase
import Derived.Test.YtfgnjcodilebeaaFImplXallWithin
namespace Go.Proofs.Ytfgnjcodilebeaa
open Go.RowKit
/-- the sum, as int has it -/
def sumW (l : List Int) : Int := l.foldl (fun s n => wrap64 (s + n)) 0
theorem sumW_snoc (l : List Int) (k : Nat) (h : k < l.length) : sumW (l.take (k + 1)) = wrap64 (sumW (l.take k) + l[k]) := by
  unfold sumW; rw [List.take_succ_eq_append_getElem h, List.foldl_append]; rfl

set_option maxHeartbeats 400000 in
theorem total_c {l : List Int} {v : Value} {w : World} (h : RI w v l) :
    Calls Try.prog 55 #[v] w fun e w' => e = .returned (.int .i64 (sumW l)) ∧ w = w' := by
  obtain ⟨ao, cap, rfl, hl, hs, hc⟩ := h.opn
  have hix := idx_run1 eInts sInts ao l.length cap hs
  clear hs h
  go_enter Try.func55, Try.ntmps55
  go_wp2
  go_loop [8, 5, 3] (fun i _ s => ∃ k : Nat, k ≤ l.length ∧ i = .int .i64 k ∧ s = .int .i64 (sumW (l.take k))) (fun i _ _ => l.length - (intOf i).toNat)
  case atStart => exact ⟨0, by omega, rfl, rfl⟩
  case round =>
    obtain ⟨k, hk, rfl, rfl⟩ := hrel
    by_cases hlt : k < l.length
    · have hck := hc k hlt
      go_wp2
      go_round
      case rel => exact ⟨k + 1, by omega, by go_num, by rw [sumW_snoc _ _ hlt]⟩
      case measure => simp [intOf]; omega
    · clear hc
      go_wp2
      go_ret
      exact ⟨ret_int (by rw [List.take_of_length_le (by omega)]), rfl⟩

end Go.Proofs.Ytfgnjcodilebeaa
