/- One part of the proof: spec.l11Triples. No condition beyond those of its theorems. -/
import Derived.Test.YtfgnjcodilebeaaBase
import Derived.Test.YtfgnjcodilebeaaFImplIsTrio
import Derived.Test.YtfgnjcodilebeaaFImplTrioXagreements
import Derived.Test.YtfgnjcodilebeaaFImplXisQuietTrio
import Derived.Test.YtfgnjcodilebeaaFMathXbitsOnesCount
import Derived.Test.YtfgnjcodilebeaaPBits
import Derived.Test.YtfgnjcodilebeaaPCanon
import Derived.Test.YtfgnjcodilebeaaFSpecXl11Parity
namespace Go.Proofs.Ytfgnjcodilebeaa
open Go.RowKit
theorem l11Parity_v (n : Nat) {p : Int} (hp : par8 n = p) (w : World) (h : n < 8) :
    Calls Try.prog 59 #[.int .i64 n] w fun e w' => e = .returned (.int .i64 p) ∧ w = w' := by subst hp; exact l11Parity_c n w h

set_option maxRecDepth 100000 in
set_option maxHeartbeats 4000000 in
theorem l11Triples_c {ll : List (List Int)} {v : Value} (n : Int) {w : World} (h : RII w v ll) (ht : isTrio n ll = true) :
    Calls Try.prog 83 #[.agg #[.int .i64 n, v]] w fun e w' => ∃ v', e = .returned v' ∧ Own tInts w' v' (agr ll 8) w.heap.size ∧ Below w.heap.size w w' := by
  have HT := Lib.hid ht
  obtain ⟨ao, cap, A, C, rfl, hs, hsA, hg⟩ := RII.grid h (isTrio_len ht).2.2.1 (isTrio_rows ht)
  have hix := idx_run1 eIntss sIntss ao 8 cap hs
  have hiq : ∀ q, q < 8 → ∀ (W : World) (i : Int), 0 ≤ i → i < 8 → (Instr.indexAt 31 (.slice (A q) 8 (C q)) (.int .i64 i)).run Try.prog W = .ok (.pointer (some ((adr (A q)).add i.toNat))) W :=
    fun q hq W i h0 h1 => idx_run1 eInts sInts (A q) 8 (C q) (hsA q hq) W i h0 (by omega)
  clear hs hsA h ht
  go_enter Try.func83, Try.ntmps83
  go_wp2
  go_loopw [4, 3] (fun i s wr => ∃ q : Nat, q ≤ 8 ∧ i = .int .i64 q ∧ OwnS tInt 3 wr s (agr ll q) (w.heap.size + 1) ∧ Below w.heap.size w wr ∧ w.heap.size + 1 ≤ wr.heap.size ∧ wr.cell? ⟨w.heap.size, 1, none⟩ = some (.slice ao 8 cap)) (fun i _ _ => 8 - (intOf i).toNat)
  case atStart => exact ⟨0, by omega, rfl, by simpa [agr] using OwnS.made tInt 3 (w.alloc (.cells #[.int .i64 n, .slice ao 8 cap] 27)) (B := w.heap.size + 1) (by simp), bel_two _ _ _, by simp, by simp [go_sem]⟩
  case round =>
    obtain ⟨q, hq, rfl, hown, hb, hsz, hn1⟩ := hrel
    obtain ⟨wo, rfl⟩ : ∃ wo : World, wo = wr := ⟨_, rfl⟩
    by_cases hltq : q < 8
    · have hqI : (q : Int) < 8 := by omega
      have hqb : decide ((q : Int) < 8) = true := by simp; omega
      go_wp2
      go_loopw [6, 5] (fun i s wq => ∃ m : Nat, m ≤ 8 ∧ i = .int .i64 m ∧ s = .int .i64 (agrS ll q m) ∧ Below wo.heap.size wo wq) (fun i _ _ => 8 - (intOf i).toNat)
      case atStart => exact ⟨0, by omega, rfl, rfl, Below.refl _ _⟩
      case round =>
        obtain ⟨m, hm, rfl, rfl, hbq⟩ := hrel
        have hbw := hb.trans (hbq.mono hb.size)
        have hownq := hown.keep hbq
        have hn1q := (CellS.of hbq _ (by rw [hn1]; rfl)).trans hn1
        have hszq := hbq.size
        by_cases hltm : m < 8
        · have hgw := hg.keep hbw
          have hr1 := hgw.row q hltq
          have hiq1 := hiq q hltq
          have e1 := hgw.cell q hltq m hltm
          obtain ⟨b1, b1'⟩ := isTrio_at HT.out q m hltq hltm
          obtain ⟨b2, b2'⟩ := agrS_bd HT.out q hltq m hm
          clear hiq hgw
          obtain ⟨k0, k1, k2, k3⟩ := wrap_lits
          rcases par8_two m with hp | hp
          · have HP := Lib.hid hp
            clear hp
            have hw1 : IntKind.i64.wrap (agrS ll q m + at2 ll q m) = agrS ll q m + at2 ll q m := IntWalk.i64_in _ (by omega)
            have hw2 : IntKind.i64.wrap (at2 ll q m) = at2 ll q m := IntWalk.i64_in _ (by omega)
            go_wp2
            refine wp_region_D (fun _ => false) [(0, true), (1, true), (5, true), (6, true), (7, true), (8, true), (9, true), (10, true), (11, true), (12, true), (2, false), (3, true), (4, true), (13, true), (14, true), (15, true)] (by kernel_rfl) (by kernel_rfl) ?_; simp only [List.map_cons, List.map_nil, List.getElem?_toArray, List.getElem?_cons_zero, List.getElem?_cons_succ]
            repeat (first | (refine wpD_skip (by rfl) ?_; (try simp only [Act.put, List.setIfInBounds_toArray, List.set_cons_zero, List.set_cons_succ])) | (refine wpD_take (v := ?_) (by rfl) ?_ ?_; rotate_left; (intro wS hS; unfold CellS at hS; go_simp; try with_reducible rfl); (try simp only [Act.put, List.setIfInBounds_toArray, List.set_cons_zero, List.set_cons_succ])))
            refine wpD_do (by rfl) (fun K hK => ?_); go_simp; refine Calls.mono (l11Parity_v _ HP.out _ hltm) ?_; rintro e wC ⟨rfl, rfl⟩; refine hK _ _ (CellS.refl _) ?_; clear hK K; (try simp only [Act.put, List.setIfInBounds_toArray, List.set_cons_zero, List.set_cons_succ])
            repeat (first | (refine wpD_skip (by rfl) ?_; (try simp only [Act.put, List.setIfInBounds_toArray, List.set_cons_zero, List.set_cons_succ])) | (refine wpD_take (v := ?_) (by rfl) ?_ ?_; rotate_left; (intro wS hS; unfold CellS at hS; go_simp; try with_reducible rfl); (try simp only [Act.put, List.setIfInBounds_toArray, List.set_cons_zero, List.set_cons_succ])))
            refine wpD_nil ?_
            go_wp2
            go_roundw
            case rel => exact ⟨m + 1, by omega, by go_num, by rw [agrS_even HP.out], hbq.drew⟩
            case measure => simp [intOf]; omega
          · have HP := Lib.hid hp
            clear hp
            have hw1 : IntKind.i64.wrap (agrS ll q m + -at2 ll q m) = agrS ll q m + -at2 ll q m := IntWalk.i64_in _ (by omega)
            have hw2 : IntKind.i64.wrap (-at2 ll q m) = -at2 ll q m := IntWalk.i64_in _ (by omega)
            go_wp2
            refine wp_region_D (fun _ => false) [(0, true), (1, true), (5, true), (6, true), (7, true), (8, true), (9, true), (10, true), (11, true), (12, true), (2, false), (3, true), (4, true), (13, true), (14, true), (15, true)] (by kernel_rfl) (by kernel_rfl) ?_; simp only [List.map_cons, List.map_nil, List.getElem?_toArray, List.getElem?_cons_zero, List.getElem?_cons_succ]
            repeat (first | (refine wpD_skip (by rfl) ?_; (try simp only [Act.put, List.setIfInBounds_toArray, List.set_cons_zero, List.set_cons_succ])) | (refine wpD_take (v := ?_) (by rfl) ?_ ?_; rotate_left; (intro wS hS; unfold CellS at hS; go_simp; try with_reducible rfl); (try simp only [Act.put, List.setIfInBounds_toArray, List.set_cons_zero, List.set_cons_succ])))
            refine wpD_do (by rfl) (fun K hK => ?_); go_simp; refine Calls.mono (l11Parity_v _ HP.out _ hltm) ?_; rintro e wC ⟨rfl, rfl⟩; refine hK _ _ (CellS.refl _) ?_; clear hK K; (try simp only [Act.put, List.setIfInBounds_toArray, List.set_cons_zero, List.set_cons_succ])
            repeat (first | (refine wpD_skip (by rfl) ?_; (try simp only [Act.put, List.setIfInBounds_toArray, List.set_cons_zero, List.set_cons_succ])) | (refine wpD_take (v := ?_) (by rfl) ?_ ?_; rotate_left; (intro wS hS; unfold CellS at hS; go_simp; try with_reducible rfl); (try simp only [Act.put, List.setIfInBounds_toArray, List.set_cons_zero, List.set_cons_succ])))
            refine wpD_nil ?_
            go_wp2
            go_roundw
            case rel => exact ⟨m + 1, by omega, by go_num, by rw [agrS_odd HP.out], hbq.drew⟩
            case measure => simp [intOf]; omega
        · have hm8 : m = 8 := by omega
          subst hm8
          have hal := agr_len ll q
          have HAL := Lib.hid hal
          clear hal
          go_wp2_with (at_builtin; refine app1 31 3 (.int .i64 0) 8 hownq (bel_box _ _) (own_int _ (agrS ll q 8) _) rfl rfl rfl uInts info_int rfl rfl rfl (by simp [go_sem]) (by omega) (by rw [HAL.out]; omega) (by rw [HAL.out]; omega) ?_; intro v1 w1 hown1 hbel hgr)
          go_roundw
          case rel =>
            refine ⟨q + 1, by omega, by go_num, by rw [agr_snoc]; exact hown1, hbel _ _ (hbw.trans ((bel_box _ _).mono hbw.size)) (by omega) (by simp; omega), by have := hgr.size; simp at this; omega, ?_⟩
            have hk := hbel (w.heap.size + 1) wo ((hbq.trans ((bel_box _ _).mono hbq.size)).mono hsz) (Nat.le_refl _) (by simp; omega)
            exact (hk.cell (p := ⟨w.heap.size, 1, none⟩) (by simp)).trans hn1
          case measure => simp [intOf]; omega
    · go_wp2
      go_ret
      have hq8 : q = 8 := by omega
      subst hq8
      exact ⟨_, rfl, (hown.own (by rw [agr_len]; omega)).mono (by omega), hb⟩

end Go.Proofs.Ytfgnjcodilebeaa
