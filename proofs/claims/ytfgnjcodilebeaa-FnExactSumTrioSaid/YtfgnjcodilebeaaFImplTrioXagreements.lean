/- One part of the proof: impl.Trio.agreements. No condition beyond those of its theorems. -/
import Derived.Test.YtfgnjcodilebeaaBase
import Derived.Test.YtfgnjcodilebeaaFImplIsTrio
import Derived.Test.YtfgnjcodilebeaaFImplXisQuietTrio
import Derived.Test.YtfgnjcodilebeaaFImplXparity
import Derived.Test.YtfgnjcodilebeaaFMathXbitsOnesCount
namespace Go.Proofs.Ytfgnjcodilebeaa
open Go.RowKit
/-- the sum of the first m numbers of a row for even places less that for odd ones -/
def agrS (ll : List (List Int)) (q : Nat) : Nat → Int
  | 0 => 0
  | m + 1 => agrS ll q m + at2 ll q m * (1 - 2 * par8 m)
def agr (ll : List (List Int)) (n : Nat) : List Int := (List.range n).map fun q => agrS ll q 8
theorem agr_snoc (ll : List (List Int)) (n : Nat) : agr ll (n + 1) = agr ll n ++ [agrS ll n 8] := by simp [agr, List.range_succ]
theorem agr_len (ll : List (List Int)) (n : Nat) : (agr ll n).length = n := by simp [agr]
theorem agrS_succ (ll : List (List Int)) (q m : Nat) : agrS ll q (m + 1) = agrS ll q m + at2 ll q m * (1 - 2 * par8 m) := rfl
theorem agrS_bd {n : Int} {ll : List (List Int)} (h : isTrio n ll = true) (q : Nat) (hq : q < 8) : ∀ m : Nat, m ≤ 8 → -1000 * (m : Int) ≤ agrS ll q m ∧ agrS ll q m ≤ 1000 * (m : Int)
  | 0, _ => by simp [agrS]
  | m + 1, hm => by
    have ih := agrS_bd h q hq m (by omega)
    have b := isTrio_at h q m hq (by omega)
    rw [agrS_succ]
    rcases par8_two m with e | e <;> rw [e] <;> omega

theorem agrS_even {ll : List (List Int)} {q m : Nat} (h : par8 m = 0) : agrS ll q (m + 1) = agrS ll q m + at2 ll q m := by rw [agrS_succ, h]; omega
theorem agrS_odd {ll : List (List Int)} {q m : Nat} (h : par8 m = 1) : agrS ll q (m + 1) = agrS ll q m + -at2 ll q m := by rw [agrS_succ, h]; omega
theorem parity_v (n : Nat) {p : Int} (hp : par8 n = p) (w : World) (h : n < 8) :
    Calls Try.prog 64 #[.int .i64 n] w fun e w' => e = .returned (.int .i64 p) ∧ w = w' := by subst hp; exact parity_c n w h

set_option maxRecDepth 100000 in
set_option maxHeartbeats 4000000 in
theorem agreements_c {ll : List (List Int)} {v : Value} (n : Int) {w : World} (h : RII w v ll) (ht : isTrio n ll = true) :
    Calls Try.prog 84 #[.agg #[.int .i64 n, v]] w fun e w' => ∃ v', e = .returned v' ∧ Own tInts w' v' (agr ll 8) w.heap.size ∧ Below w.heap.size w w' := by
  have HT := Lib.hid ht
  obtain ⟨ao, cap, A, C, rfl, hs, hsA, hg⟩ := RII.grid h (isTrio_len ht).2.2.1 (isTrio_rows ht)
  have hix := idx_run1 eIntss sIntss ao 8 cap hs
  have hiq : ∀ q, q < 8 → ∀ (W : World) (i : Int), 0 ≤ i → i < 8 → (Instr.indexAt 31 (.slice (A q) 8 (C q)) (.int .i64 i)).run Try.prog W = .ok (.pointer (some ((adr (A q)).add i.toNat))) W :=
    fun q hq W i h0 h1 => idx_run1 eInts sInts (A q) 8 (C q) (hsA q hq) W i h0 (by omega)
  clear hs hsA h ht
  go_enter Try.func84, Try.ntmps84
  go_wp2
  go_loopw [13, 3] (fun i s wr => ∃ q : Nat, q ≤ 8 ∧ i = .int .i64 q ∧ OwnS tInt 3 wr s (agr ll q) (w.heap.size + 1) ∧ Below w.heap.size w wr ∧ w.heap.size + 1 ≤ wr.heap.size) (fun i _ _ => 8 - (intOf i).toNat)
  case atStart => exact ⟨0, by omega, rfl, by simpa [agr] using OwnS.made tInt 3 (w.alloc (.cells #[.int .i64 n, .slice ao 8 cap] 27)) (B := w.heap.size + 1) (by simp), bel_two _ _ _, by simp⟩
  case round =>
    obtain ⟨q, hq, rfl, hown, hb, hsz⟩ := hrel
    by_cases hltq : q < 8
    · have hgw := hg.keep hb
      have hr1 := hgw.row q hltq
      have hiq1 := hiq q hltq
      have hqI : (q : Int) < 8 := by omega
      have hqb : decide ((q : Int) < 8) = true := by simp; omega
      go_wp2
      go_loop [19, 6] (fun i s => ∃ m : Nat, m ≤ 8 ∧ i = .int .i64 m ∧ s = .int .i64 (agrS ll q m)) (fun i _ => 8 - (intOf i).toNat)
      case atStart => exact ⟨0, by omega, rfl, rfl⟩
      case round =>
        obtain ⟨m, hm, rfl, rfl⟩ := hrel
        by_cases hltm : m < 8
        · have e1 := hgw.cell q hltq m hltm
          obtain ⟨b1, b1'⟩ := isTrio_at HT.out q m hltq hltm
          obtain ⟨b2, b2'⟩ := agrS_bd HT.out q hltq m hm
          rcases par8_two m with hp | hp
          · have HP := Lib.hid hp
            clear hp
            go_wp2_with (go_at_call 64; refine (parity_v _ HP.out _ hltm).mono ?_; rintro e w' ⟨rfl, rfl⟩)
            go_round
            case rel => exact ⟨m + 1, by omega, by go_num, by rw [agrS_even HP.out]⟩
            case measure => simp [intOf]; omega
          · have HP := Lib.hid hp
            clear hp
            go_wp2_with (go_at_call 64; refine (parity_v _ HP.out _ hltm).mono ?_; rintro e w' ⟨rfl, rfl⟩)
            go_round
            case rel => exact ⟨m + 1, by omega, by go_num, by rw [agrS_odd HP.out]⟩
            case measure => simp [intOf]; omega
        · have hm8 : m = 8 := by omega
          subst hm8
          have hal := agr_len ll q
          have HAL := Lib.hid hal
          have hwl := hb.size
          clear hal
          go_wp2_with (at_builtin; refine app1 31 3 (.int .i64 0) 8 hown (bel_box _ _) (own_int _ (agrS ll q 8) _) rfl rfl rfl uInts info_int rfl rfl rfl (by simp [go_sem]) (by omega) (by rw [HAL.out]; omega) (by rw [HAL.out]; omega) ?_; intro v1 w1 hown1 hbel hgr)
          go_roundw
          case rel => exact ⟨q + 1, by omega, by go_num, by rw [agr_snoc]; exact hown1, hbel _ _ (hb.trans ((bel_box _ _).mono hb.size)) (by omega) (by simp; omega), by have := hgr.size; simp at this; omega⟩
          case measure => simp [intOf]; omega
    · go_wp2
      go_ret
      have hq8 : q = 8 := by omega
      subst hq8
      exact ⟨_, rfl, (hown.own (by rw [agr_len]; omega)).mono (by omega), hb⟩

end Go.Proofs.Ytfgnjcodilebeaa
