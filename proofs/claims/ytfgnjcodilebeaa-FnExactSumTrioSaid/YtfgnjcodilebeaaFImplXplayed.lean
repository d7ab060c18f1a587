/- One part of the proof: impl.played. No condition beyond those of its theorems. -/
import Derived.Test.YtfgnjcodilebeaaBase
import Derived.Test.YtfgnjcodilebeaaFImplXisBits
import Derived.Test.YtfgnjcodilebeaaFRowF
import Derived.Test.YtfgnjcodilebeaaFImplXallWithin
import Derived.Test.YtfgnjcodilebeaaFImplXbitOf
import Derived.Test.YtfgnjcodilebeaaFImplXwithin
namespace Go.Proofs.Ytfgnjcodilebeaa
open Go.RowKit
theorem bitV_le (p i : Nat) : bitV p i ≤ 1 := Nat.and_le_right
theorem isBits_len {l : List Int} {n : Nat} (h : isBits l n = true) : l.length = n := by
  unfold isBits at h; simp at h; omega
theorem isBits_at {l : List Int} {n : Nat} (h : isBits l n = true) (i : Nat) (hi : i < n) : 0 ≤ at1 l i ∧ at1 l i ≤ 1 := by
  have hl := isBits_len h
  unfold isBits allB at h
  simp only [Bool.and_eq_true, List.all_eq_true] at h
  have := h.2 (l[i]'(by omega)) (List.getElem_mem _)
  unfold inB at this
  simp at this
  rw [at1_lt (by omega)]
  simpa using this
/-- the number of a play's answers of the first players -/
def playS (l : List Int) (q : Nat) : Nat → Int
  | 0 => 0
  | m + 1 => 2 * playS l q m + at1 l (2 * m + bitV q m)
theorem playS_bd {l : List Int} (h : isBits l (6 : Nat) = true) (q : Nat) : ∀ m : Nat, m ≤ 3 → 0 ≤ playS l q m ∧ playS l q m < 2 ^ m
  | 0, _ => by simp [playS]
  | m + 1, hm => by
    have ih := playS_bd h q m (by omega)
    have hb := bitV_le q m
    have := isBits_at h (2 * m + bitV q m) (by omega)
    rw [playS, Int.pow_succ]
    omega
set_option maxRecDepth 100000 in
set_option maxHeartbeats 1000000 in
theorem played_c {l : List Int} {v : Value} (q : Nat) (hq : q < 8) {w : World} (h : RI w v l) (hB : isBits l (6 : Nat) = true) :
    Calls Try.prog 65 #[v, .int .i64 q] w fun e w' => e = .returned (.int .i64 (playS l q 3)) ∧ w = w' := by
  have HB := Lib.hid hB
  obtain ⟨ao, cap, rfl, hl, hs, hc⟩ := h.opn
  have hl6 := isBits_len hB
  have hix : ∀ (W : World) (i : Int), 0 ≤ i → i < 6 → (Instr.indexAt 31 (.slice ao 6 cap) (.int .i64 i)).run Try.prog W = .ok (.pointer (some ((adr ao).add i.toNat))) W := fun W i h0 h1 => by
    have := idx_run1 eInts sInts ao l.length cap hs W i h0 (by omega)
    rwa [hl6] at this
  clear hs h hB
  have hc' : ∀ i, i < 6 → w.cell? ((adr ao).add i) = some (.int .i64 (at1 l i)) := fun i hi => by
    rw [hc i (by omega), at1_lt (by omega)]
  simp only [hl6]
  clear hc hl hl6
  go_enter Try.func65, Try.ntmps65
  go_wp2
  go_loop [7, 5] (fun i s => ∃ m : Nat, m ≤ 3 ∧ i = .int .i64 m ∧ s = .int .i64 (playS l q m)) (fun i _ => 3 - (intOf i).toNat)
  case atStart => exact ⟨0, by omega, rfl, rfl⟩
  case round =>
    obtain ⟨m, hm, rfl, rfl⟩ := hrel
    by_cases hlt : m < 3
    · have hb := bitV_le q m
      have e1 := hc' (2 * m + bitV q m) (by omega)
      have b1 := isBits_at HB.out (2 * m + bitV q m) (by omega)
      have b2 := playS_bd HB.out q m hm
      have b4 : (2 : Int) ^ m ≤ 4 := by
        rcases (by omega : m = 0 ∨ m = 1 ∨ m = 2) with rfl | rfl | rfl <;> decide
      have b3 : playS l q m < 4 := Int.lt_of_lt_of_le b2.2 b4
      clear b4
      obtain ⟨b2, _⟩ := b2
      have ht : (2 * (m : Int) + (bitV q m : Int)).toNat = 2 * m + bitV q m := by omega
      have hmI : (m : Int) < 3 := by omega
      have hx : ∀ W : World, (Instr.indexAt 31 (.slice ao 6 cap) (.int .i64 (2 * (m : Int) + (bitV q m : Int)))).run Try.prog W = .ok (.pointer (some ((adr ao).add (2 * m + bitV q m)))) W := fun W => by rw [hix W _ (by omega) (by omega), ht]
      clear hc' hix
      go_wp2_with (go_at_call 79; refine (bitOf_c q m _ hq hlt).mono ?_; rintro e w' ⟨rfl, rfl⟩)
      go_round
      case rel => exact ⟨m + 1, by omega, by go_num, by rw [playS]⟩
      case measure => simp [intOf]; omega
    · go_wp2
      go_ret
      have hm3 : m = 3 := by omega
      subst hm3
      exact ⟨rfl, rfl⟩

end Go.Proofs.Ytfgnjcodilebeaa
