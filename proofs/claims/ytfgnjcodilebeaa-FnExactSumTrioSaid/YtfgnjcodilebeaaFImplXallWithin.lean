/- One part of the proof: impl.allWithin. No condition beyond those of its theorems. -/
import Derived.Test.YtfgnjcodilebeaaBase
import Derived.Test.YtfgnjcodilebeaaFImplXwithin
namespace Go.Proofs.Ytfgnjcodilebeaa
open Go.RowKit
def allB (l : List Int) (lo hi : Int) : Bool := l.all fun n => inB n lo hi

theorem take_succ_all {α : Type} (p : α → Bool) (l : List α) (k : Nat) (h : k < l.length) : (l.take (k + 1)).all p = ((l.take k).all p && p l[k]) := by
  rw [List.take_succ_eq_append_getElem h, List.all_append]; simp
theorem all_f {α : Type} {p : α → Bool} {l : List α} {k : Nat} (h : k < l.length) (hp : p l[k] = false) : l.all p = false := by
  rw [← Bool.not_eq_true, List.all_eq_true]; intro H; have := H _ (List.getElem_mem h); rw [hp] at this; cases this
theorem all_t {α : Type} {p : α → Bool} {l : List α} {k : Nat} (h : ¬ k < l.length) (hp : (l.take k).all p = true) : l.all p = true := by
  rw [List.take_of_length_le (by omega)] at hp; exact hp


set_option maxHeartbeats 400000 in
theorem allWithin_c {l : List Int} {v : Value} (lo hi : Int) {w : World} (h : RI w v l) :
    Calls Try.prog 54 #[v, .int .i64 lo, .int .i64 hi] w fun e w' => e = .returned (.bool (allB l lo hi)) ∧ w = w' := by
  obtain ⟨ao, cap, rfl, hl, hs, hc⟩ := h.opn
  have hix := idx_run1 eInts sInts ao l.length cap hs
  clear hs h
  go_enter Try.func54, Try.ntmps54
  go_wp2
  go_loop [11, 8] (fun i _ => ∃ k : Nat, k ≤ l.length ∧ i = .int .i64 k ∧ Hid ((l.take k).all (fun n => inB n lo hi) = true)) (fun i _ => l.length - (intOf i).toNat)
  case atStart => exact ⟨0, by omega, rfl, Lib.hid (by simp)⟩
  case round =>
    obtain ⟨k, hk, rfl, ha⟩ := hrel
    by_cases hlt : k < l.length
    · have hck := hc k hlt
      cases hb : inB l[k] lo hi
      all_goals go_wp2_with (go_at_call 53; refine (within_c _ _ _ _).mono ?_; rintro e w' ⟨rfl, rfl⟩)
      · go_ret
        exact ⟨ret_bool (all_f (p := fun n => inB n lo hi) hlt hb).symm, rfl⟩
      · go_round
        case rel => exact ⟨k + 1, by omega, by go_num, Lib.hid (by rw [take_succ_all _ _ _ hlt, ha.out, hb]; rfl)⟩
        case measure => simp [intOf]; omega
    · clear hc
      go_wp2
      go_ret
      exact ⟨ret_bool (all_t hlt ha.out).symm, rfl⟩

theorem allWithin_b {l : List Int} {v : Value} (lo hi : Int) {b : Bool} (hb : allB l lo hi = b) {w : World} (h : RI w v l) :
    Calls Try.prog 54 #[v, .int .i64 lo, .int .i64 hi] w fun e w' => e = .returned (.bool b) ∧ w = w' := by
  subst hb; exact allWithin_c lo hi h

end Go.Proofs.Ytfgnjcodilebeaa
