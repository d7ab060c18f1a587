/- One part of the proof: spec.l11Trio. No condition beyond those of its theorems. -/
import Derived.Test.YtfgnjcodilebeaaBase
import Derived.Test.YtfgnjcodilebeaaFImplIsTrio
import Derived.Test.YtfgnjcodilebeaaFImplXallWithin
import Derived.Test.YtfgnjcodilebeaaFImplXwithin
import Derived.Test.YtfgnjcodilebeaaPCanon
import Derived.Test.YtfgnjcodilebeaaFSpecXl11Row
import Derived.Test.YtfgnjcodilebeaaFSpecXl1In
namespace Go.Proofs.Ytfgnjcodilebeaa
open Go.RowKit
set_option maxHeartbeats 1000000 in
theorem l11Trio_c {ll : List (List Int)} {v : Value} (n : Int) {w : World} (h : RII w v ll) :
    Calls Try.prog 51 #[.agg #[.int .i64 n, v]] w fun e w' => e = .returned (.bool (isTrio n ll)) ∧ Below w.heap.size w w' := by
  obtain ⟨ao, cap, rfl, hl, hs, hc⟩ := Rd.sl h rfl
  have hix := idx_run1 eIntss sIntss ao ll.length cap hs
  clear hs h
  go_enter Try.func51, Try.ntmps51
  go_wp2
  go_loopw [3] (fun i wr => ∃ k : Nat, k ≤ ll.length ∧ k ≤ 9 ∧ i = .int .i64 k ∧ Below w.heap.size w wr ∧ wr.cell? ⟨w.heap.size, 0, none⟩ = some (.int .i64 n) ∧ wr.cell? ⟨w.heap.size, 1, none⟩ = some (.slice ao ll.length cap) ∧ Hid ((ll.take k).all (rowOk n) = true)) (fun i _ => ll.length - (intOf i).toNat)
  case atStart => exact ⟨0, by omega, by omega, rfl, bel_box _ _, by simp, by simp, Lib.hid rfl⟩
  case round =>
    obtain ⟨k, hk, hk9, rfl, hb, hn, hn1, ha⟩ := hrel
    by_cases hlt : k < ll.length ∧ k < 9
    · obtain ⟨hlt, hlt9⟩ := hlt
      obtain ⟨u, hck, hu⟩ := hc k hlt
      rw [← CellS.of hb _ (by rw [hck]; rfl)] at hck
      have HU := Lib.hid (Rd.keep hu hb).drew
      clear hc hu
      cases hr : rowOk n ll[k]
      · go_wp2
        refine wp_region_D (fun _ => false) [(0, true), (1, true), (2, true), (3, true), (4, true), (5, true), (6, true), (7, false), (8, true)] (by kernel_rfl) (by kernel_rfl) ?_; simp only [List.map_cons, List.map_nil, List.getElem?_toArray, List.getElem?_cons_zero, List.getElem?_cons_succ]
        repeat (first | (refine wpD_skip (by rfl) ?_; (try simp only [Act.put, List.setIfInBounds_toArray, List.set_cons_zero, List.set_cons_succ])) | (refine wpD_take (v := ?_) (by rfl) ?_ ?_; rotate_left; (intro wS hS; unfold CellS at hS; go_simp; try with_reducible rfl); (try simp only [Act.put, List.setIfInBounds_toArray, List.set_cons_zero, List.set_cons_succ])))
        refine wpD_do (by rfl) (fun K hK => ?_); go_simp; refine Calls.mono (l11Row_c n HU.out) ?_; rintro e wC ⟨rfl, rfl⟩; refine hK _ _ (CellS.refl _) ?_; clear hK K; (try simp only [Act.put, List.setIfInBounds_toArray, List.set_cons_zero, List.set_cons_succ])
        simp only [hr]
        repeat (first | (refine wpD_skip (by rfl) ?_; (try simp only [Act.put, List.setIfInBounds_toArray, List.set_cons_zero, List.set_cons_succ])) | (refine wpD_take (v := ?_) (by rfl) ?_ ?_; rotate_left; (intro wS hS; unfold CellS at hS; go_simp; try with_reducible rfl); (try simp only [Act.put, List.setIfInBounds_toArray, List.set_cons_zero, List.set_cons_succ])))
        refine wpD_nil ?_
        go_wp2
        go_ret
        exact ⟨ret_bool (by rw [isTrio, all_f (p := rowOk n) hlt hr]; simp), hb.drew⟩
      · go_wp2
        refine wp_region_D (fun _ => false) [(0, true), (1, true), (2, true), (3, true), (4, true), (5, true), (6, true), (7, false), (8, true)] (by kernel_rfl) (by kernel_rfl) ?_; simp only [List.map_cons, List.map_nil, List.getElem?_toArray, List.getElem?_cons_zero, List.getElem?_cons_succ]
        repeat (first | (refine wpD_skip (by rfl) ?_; (try simp only [Act.put, List.setIfInBounds_toArray, List.set_cons_zero, List.set_cons_succ])) | (refine wpD_take (v := ?_) (by rfl) ?_ ?_; rotate_left; (intro wS hS; unfold CellS at hS; go_simp; try with_reducible rfl); (try simp only [Act.put, List.setIfInBounds_toArray, List.set_cons_zero, List.set_cons_succ])))
        refine wpD_do (by rfl) (fun K hK => ?_); go_simp; refine Calls.mono (l11Row_c n HU.out) ?_; rintro e wC ⟨rfl, rfl⟩; refine hK _ _ (CellS.refl _) ?_; clear hK K; (try simp only [Act.put, List.setIfInBounds_toArray, List.set_cons_zero, List.set_cons_succ])
        simp only [hr]
        repeat (first | (refine wpD_skip (by rfl) ?_; (try simp only [Act.put, List.setIfInBounds_toArray, List.set_cons_zero, List.set_cons_succ])) | (refine wpD_take (v := ?_) (by rfl) ?_ ?_; rotate_left; (intro wS hS; unfold CellS at hS; go_simp; try with_reducible rfl); (try simp only [Act.put, List.setIfInBounds_toArray, List.set_cons_zero, List.set_cons_succ])))
        refine wpD_nil ?_
        go_wp2
        go_roundw
        case rel => exact ⟨k + 1, by omega, by omega, by go_num, hb.drew, by simpa using hn, by simpa using hn1, Lib.hid (by rw [take_succ_all _ _ _ hlt, ha.out, hr]; rfl)⟩
        case measure => simp [intOf]; omega
    · clear hc hix
      by_cases h8' : ll.length = 8
      · have hall : ll.all (rowOk n) = true := all_t (by omega) ha.out
        have HA := Lib.hid hall
        have H8 := Lib.hid h8'
        have h8 : ((ll.length : Int) == 8) = true := by rw [h8']; rfl
        have hk8 : ¬ k < ll.length := by omega
        clear hall h8'
        cases hi : inB n 1 1000
        all_goals
          go_wp2_with (go_at_call 58; refine (l1In_c _ _ _ _).mono ?_; rintro e w' ⟨rfl, rfl⟩)
          go_ret
          exact ⟨ret_bool (by rw [isTrio, HA.out, H8.out, hi]; rfl), hb⟩
      · have h8 : ((ll.length : Int) == 8) = false := by rw [beq_eq_false_iff_ne]; omega
        have H8 := Lib.hid h8'
        clear h8'
        cases hi : inB n 1 1000
        all_goals
          by_cases hl2 : k < ll.length
          all_goals go_wp2_with (go_at_call 58; refine (l1In_c _ _ _ _).mono ?_; rintro e w' ⟨rfl, rfl⟩)
          all_goals go_ret
          all_goals exact ⟨ret_bool (by rw [isTrio]; simp [H8.out]), hb⟩

end Go.Proofs.Ytfgnjcodilebeaa
