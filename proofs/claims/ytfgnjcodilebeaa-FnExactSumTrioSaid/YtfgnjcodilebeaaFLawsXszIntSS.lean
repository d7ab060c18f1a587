/- One part of the proof: laws.szIntSS. No condition beyond those of its theorems. -/
import Derived.Test.YtfgnjcodilebeaaBase
import Derived.Test.YtfgnjcodilebeaaFLawsXszIntS
namespace Go.Proofs.Ytfgnjcodilebeaa
open Go.RowKit
def szII (ll : List (List Int)) : Nat := ll.length + (ll.map List.length).sum
theorem sum_take_succ (ll : List (List Int)) (k : Nat) (h : k < ll.length) : ((ll.take (k + 1)).map List.length).sum = ((ll.take k).map List.length).sum + ll[k].length := by
  rw [List.take_succ_eq_append_getElem h, List.map_append, List.sum_append]; simp
theorem le_sum_mem : ∀ (l : List Nat) (x : Nat), x ∈ l → x ≤ l.sum
  | a :: l, x, hx => by
    rw [List.sum_cons]
    rcases List.mem_cons.1 hx with h | h
    · omega
    · have := le_sum_mem l x h
      omega
theorem row_le_szII {ll : List (List Int)} {k : Nat} (h : k < ll.length) : ll[k].length ≤ szII ll := by
  have : ll[k].length ≤ (ll.map List.length).sum := le_sum_mem _ _ (List.mem_map.2 ⟨_, List.getElem_mem h, rfl⟩)
  unfold szII; omega

set_option maxHeartbeats 1000000 in
theorem szIntSS_c {ll : List (List Int)} {v : Value} (left : Int) {w : World} (h : RII w v ll) (h0 : 0 ≤ left) (h1 : left ≤ 1048576) :
    Calls Try.prog 50 #[v, .int .i64 left] w fun e w' => ∃ r, e = .returned (.int .i64 r) ∧ SzP (szII ll) left r ∧ w = w' := by
  obtain ⟨ao, cap, rfl, hl, hs, hc⟩ := Rd.sl h rfl
  have hix := idx_run1 eIntss sIntss ao ll.length cap hs
  clear hs h
  go_enter Try.func50, Try.ntmps50
  by_cases hlt : left - (ll.length : Int) < 0
  · clear hc hix
    go_wp2
    go_ret
    exact ⟨-1, rfl, .inl rfl, rfl⟩
  go_wp2
  go_loop [5, 1] (fun i b => ∃ (k : Nat) (b' : Int), k ≤ ll.length ∧ i = .int .i64 k ∧ b = .int .i64 b' ∧ 0 ≤ b' ∧ b' + ll.length + ((ll.take k).map List.length).sum ≤ left) (fun i _ => ll.length - (intOf i).toNat)
  case atStart => exact ⟨0, _, by omega, rfl, rfl, by omega, by simp⟩
  case round =>
    clear hlt
    obtain ⟨k, b', hk, rfl, rfl, hb0, hb1⟩ := hrel
    by_cases hlt : k < ll.length
    · obtain ⟨u, hck, hu⟩ := hc k hlt
      have HU := Lib.hid hu
      have hss := sum_take_succ ll k hlt
      have HSS := Lib.hid hss
      clear hc hu hss
      go_wp2_with (go_at_call 92; refine (szIntS_c _ HU.out (by omega) (by omega)).mono ?_; rintro e w' ⟨r, rfl, hr, rfl⟩)
      all_goals unfold SzP at hr
      · go_ret
        exact ⟨-1, rfl, .inl rfl, rfl⟩
      · go_round
        case rel => exact ⟨k + 1, r, by omega, by go_num, rfl, by omega, by rw [HSS.out]; omega⟩
        case measure => simp [intOf]; omega
    · clear hc
      go_wp2
      go_ret
      exact ⟨b', rfl, .inr ⟨hb0, by rw [List.take_of_length_le (by omega)] at hb1; unfold szII; omega⟩, rfl⟩

end Go.Proofs.Ytfgnjcodilebeaa
