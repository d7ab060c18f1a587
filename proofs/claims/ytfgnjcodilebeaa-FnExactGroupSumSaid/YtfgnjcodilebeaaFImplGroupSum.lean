/- One part of the proof: impl.GroupSum. No condition beyond those of its theorems. -/
import Derived.Test.YtfgnjcodilebeaaBase
import Derived.Test.YtfgnjcodilebeaaFImplIsTrio
import Derived.Test.YtfgnjcodilebeaaFImplTrioXagreements
import Derived.Test.YtfgnjcodilebeaaFMathXbitsOnesCount
import Derived.Test.YtfgnjcodilebeaaFSpecGroupSum
namespace Go.Proofs.Ytfgnjcodilebeaa
open Go.RowKit
theorem onesCount_v (n : Nat) {p : Int} (hp : pop8 n = p) (w : World) (h : n < 8) :
    Calls Try.prog 91 #[.int .u64 n] w fun e w' => e = .returned (.int .i64 p) ∧ w = w' := by subst hp; exact onesCount_c n w h
/-- the sum over the first q rows -/
def grpS (ll : List (List Int)) : Nat → Int
  | 0 => 0
  | q + 1 => grpS ll q + (if pop8 q ≤ 1 then agrS ll q 8 else - agrS ll q 8)
theorem grpS_succ (ll : List (List Int)) (q : Nat) : grpS ll (q + 1) = grpS ll q + (if pop8 q ≤ 1 then agrS ll q 8 else - agrS ll q 8) := rfl
theorem grpS_8 (ll : List (List Int)) : grpS ll 8 = groupV ll := by
  simp only [grpS, pop8, groupV, List.getD_cons_zero, List.getD_cons_succ]
  simp
  omega
theorem grpS_bd {n : Int} {ll : List (List Int)} (h : isTrio n ll = true) : ∀ q : Nat, q ≤ 8 → -8000 * (q : Int) ≤ grpS ll q ∧ grpS ll q ≤ 8000 * (q : Int)
  | 0, _ => by simp [grpS]
  | q + 1, hq => by
    have ih := grpS_bd h q (by omega)
    have b := agrS_bd h q (by omega) 8 (by omega)
    rw [grpS_succ]
    split <;> omega

set_option maxRecDepth 100000 in
set_option maxHeartbeats 2000000 in
theorem GroupSum_c {ll : List (List Int)} {v : Value} (n : Int) {w : World} (h : RII w v ll) :
    Calls Try.prog 46 #[.agg #[.int .i64 n, v]] w fun e w' => e = .returned (.tuple #[.int .i64 (groupR n ll), .bool (isTrio n ll)]) ∧ Below w.heap.size w w' := by
  have H0 := Lib.hid h
  obtain ⟨ao, cap, rfl, hl, hs, hc⟩ := Rd.sl h rfl
  clear hs h hc
  go_enter Try.func46, Try.ntmps46
  cases ht : isTrio n ll
  · go_wp2_with fail
    refine (IsTrio_c n (Rd.keep H0.out (bel_box _ _))).mono ?_
    rintro e w1 ⟨rfl, hb1⟩
    obtain ⟨r1, hz1, hB1⟩ := rows1 hb1
    go_wp2
    go_ret2
    exact ⟨by simp [groupR, ht], hB1⟩
  · have HT := Lib.hid ht
    go_wp2_with fail
    refine (IsTrio_c n (Rd.keep H0.out (bel_box _ _))).mono ?_
    rintro e w1 ⟨rfl, hb1⟩
    obtain ⟨r1, hz1, hB1⟩ := rows1 hb1
    have r1_c := r1.cell; have r1_f := r1.frozen
    go_wp2_with fail
    refine (agreements_c n (Rd.keep H0.out hB1) HT.out).mono ?_
    rintro e w2 ⟨v2, rfl, hv2, hb2⟩
    have hB2 := hB1.trans (hb2.mono hB1.size)
    obtain ⟨bo, bap, rfl, hbl, hbs, hbc⟩ := RI.opn hv2.rd
    have hiy := idx_run1 eInts sInts bo (agr ll 8).length bap hbs
    have ha : ∀ q, q < 8 → w2.cell? ((adr bo).add q) = some (.int .i64 (agrS ll q 8)) := fun q hq => by
      rw [hbc q (by rw [agr_len]; exact hq)]; simp [agr]
    rw [agr_len] at hiy
    have hal := agr_len ll 8
    simp only [hal]
    clear hv2 hbs hbl hbc hal
    go_wp2
    go_loop [13, 4] (fun i s => ∃ q : Nat, q ≤ 8 ∧ i = .int .i64 q ∧ s = .int .i64 (grpS ll q)) (fun i _ => 8 - (intOf i).toNat)
    case atStart => exact ⟨0, by omega, rfl, rfl⟩
    case round =>
      obtain ⟨q, hq, rfl, rfl⟩ := hrel
      obtain ⟨b2, b2'⟩ := grpS_bd HT.out q hq
      by_cases hltq : q < 8
      · have hqI : (q : Int) < 8 := by omega
        have e1 := ha q hltq
        obtain ⟨b1, b1'⟩ := agrS_bd HT.out q hltq 8 (by omega)
        have hcv : IntKind.u64.wrap (q : Int) = q := IntWalk.u64_in _ (by omega)
        by_cases hp : pop8 q ≤ 1
        · go_wp2_with (go_at_call 91; refine (onesCount_c _ _ hltq).mono ?_; rintro e w' ⟨rfl, rfl⟩)
          go_round
          case rel => exact ⟨q + 1, by omega, by go_num, by rw [grpS_succ, if_pos hp]⟩
          case measure => simp [intOf]; omega
        · go_wp2_with (go_at_call 91; refine (onesCount_c _ _ hltq).mono ?_; rintro e w' ⟨rfl, rfl⟩)
          go_round
          case rel => exact ⟨q + 1, by omega, by go_num, by rw [grpS_succ, if_neg (by omega)]; go_num⟩
          case measure => simp [intOf]; omega
      · go_wp2
        go_ret2
        have hq8 : q = 8 := by omega
        subst hq8
        exact ⟨by simp [grpS_8, groupR, ht], hB2⟩

end Go.Proofs.Ytfgnjcodilebeaa
