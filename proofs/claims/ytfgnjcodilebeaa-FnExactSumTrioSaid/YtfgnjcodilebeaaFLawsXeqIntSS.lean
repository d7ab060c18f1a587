/- One part of the proof: laws.eqIntSS. No condition beyond those of its theorems. -/
import Derived.Test.YtfgnjcodilebeaaBase
import Derived.Test.YtfgnjcodilebeaaFLawsXeqIntS
import Derived.Test.YtfgnjcodilebeaaPCanon
namespace Go.Proofs.Ytfgnjcodilebeaa
open Go.RowKit
set_option maxHeartbeats 1000000 in
theorem eqIntSS_c {la lb : List (List Int)} {va vb : Value} {w : World} (ha : RII w va la) (hb : RII w vb lb) :
    Calls Try.prog 56 #[va, vb] w fun e w' => e = .returned (.bool (decide (la = lb))) ∧ Below w.heap.size w w' := by
  obtain ⟨ao, cap, rfl, hl, hs, hc⟩ := Rd.sl ha rfl
  obtain ⟨bo, bap, rfl, hbl, hbs, hbc⟩ := Rd.sl hb rfl
  have hix := idx_run1 eIntss sIntss ao la.length cap hs
  have hiy := idx_run1 eIntss sIntss bo lb.length bap hbs
  clear hs hbs ha hb
  by_cases hne : la.length ≠ lb.length
  · have h1 := bne_cast hne
    have HN := Lib.hid hne
    clear hne hc hbc hix hiy
    go_enter Try.func56, Try.ntmps56
    go_wp2
    go_ret
    exact ⟨ret_bool (by rw [decide_eq_false]; rintro rfl; exact HN.out rfl), Below.refl _ _⟩
  have hne' : la.length = lb.length := Decidable.not_not.1 hne
  have h1 := bne_castF hne'
  have HN := Lib.hid hne'
  clear hne hne'
  go_enter Try.func56, Try.ntmps56
  go_wp2
  go_loopw [5] (fun i wr => ∃ k : Nat, k ≤ la.length ∧ i = .int .i64 k ∧ Below w.heap.size w wr ∧ Hid (la.take k = lb.take k)) (fun i _ => la.length - (intOf i).toNat)
  case atStart => exact ⟨0, by omega, rfl, Below.refl _ _, Lib.hid rfl⟩
  case round =>
    obtain ⟨k, hk, rfl, hb, he⟩ := hrel
    by_cases hlt : k < la.length
    · have hlt2 : k < lb.length := by rw [← HN.out]; exact hlt
      obtain ⟨u, hck, hu⟩ := hc k hlt
      obtain ⟨u2, hcj, hu2⟩ := hbc k hlt2
      rw [← CellS.of hb _ (by rw [hck]; rfl)] at hck
      rw [← CellS.of hb _ (by rw [hcj]; rfl)] at hcj
      have HU := Lib.hid (Rd.keep hu hb).drew
      have HU2 := Lib.hid (Rd.keep hu2 hb).drew
      clear hc hbc hu hu2
      cases hd : decide (la[k] = lb[k])
      · go_wp2
        refine wp_region_D (fun _ => false) [(0, true), (1, true), (2, true), (3, true), (4, true), (5, true), (6, true), (7, true), (8, false), (9, true)] (by kernel_rfl) (by kernel_rfl) ?_; simp only [List.map_cons, List.map_nil, List.getElem?_toArray, List.getElem?_cons_zero, List.getElem?_cons_succ]
        repeat (first | (refine wpD_skip (by rfl) ?_; (try simp only [Act.put, List.setIfInBounds_toArray, List.set_cons_zero, List.set_cons_succ])) | (refine wpD_take (v := ?_) (by rfl) ?_ ?_; rotate_left; (intro wS hS; unfold CellS at hS; go_simp; try with_reducible rfl); (try simp only [Act.put, List.setIfInBounds_toArray, List.set_cons_zero, List.set_cons_succ])))
        refine wpD_do (by rfl) (fun K hK => ?_); go_simp; refine Calls.mono (eqIntS_c HU.out HU2.out) ?_; rintro e w1 ⟨rfl, hb1⟩; refine hK _ _ (CellS.of hb1) ?_; clear hK K; (try simp only [Act.put, List.setIfInBounds_toArray, List.set_cons_zero, List.set_cons_succ])
        simp only [hd]
        repeat (first | (refine wpD_skip (by rfl) ?_; (try simp only [Act.put, List.setIfInBounds_toArray, List.set_cons_zero, List.set_cons_succ])) | (refine wpD_take (v := ?_) (by rfl) ?_ ?_; rotate_left; (intro wS hS; unfold CellS at hS; go_simp; try with_reducible rfl); (try simp only [Act.put, List.setIfInBounds_toArray, List.set_cons_zero, List.set_cons_succ])))
        refine wpD_nil ?_
        go_wp2
        go_ret
        exact ⟨ret_bool (by rw [decide_eq_false]; exact ne_of_get hlt hlt2 (by simpa using hd)), hb.drew.trans (hb1.mono hb.size)⟩
      · go_wp2
        refine wp_region_D (fun _ => false) [(0, true), (1, true), (2, true), (3, true), (4, true), (5, true), (6, true), (7, true), (8, false), (9, true)] (by kernel_rfl) (by kernel_rfl) ?_; simp only [List.map_cons, List.map_nil, List.getElem?_toArray, List.getElem?_cons_zero, List.getElem?_cons_succ]
        repeat (first | (refine wpD_skip (by rfl) ?_; (try simp only [Act.put, List.setIfInBounds_toArray, List.set_cons_zero, List.set_cons_succ])) | (refine wpD_take (v := ?_) (by rfl) ?_ ?_; rotate_left; (intro wS hS; unfold CellS at hS; go_simp; try with_reducible rfl); (try simp only [Act.put, List.setIfInBounds_toArray, List.set_cons_zero, List.set_cons_succ])))
        refine wpD_do (by rfl) (fun K hK => ?_); go_simp; refine Calls.mono (eqIntS_c HU.out HU2.out) ?_; rintro e w1 ⟨rfl, hb1⟩; refine hK _ _ (CellS.of hb1) ?_; clear hK K; (try simp only [Act.put, List.setIfInBounds_toArray, List.set_cons_zero, List.set_cons_succ])
        simp only [hd]
        repeat (first | (refine wpD_skip (by rfl) ?_; (try simp only [Act.put, List.setIfInBounds_toArray, List.set_cons_zero, List.set_cons_succ])) | (refine wpD_take (v := ?_) (by rfl) ?_ ?_; rotate_left; (intro wS hS; unfold CellS at hS; go_simp; try with_reducible rfl); (try simp only [Act.put, List.setIfInBounds_toArray, List.set_cons_zero, List.set_cons_succ])))
        refine wpD_nil ?_
        go_wp2
        go_roundw
        case rel => exact ⟨k + 1, by omega, by go_num, hb.drew.trans (hb1.mono hb.size), Lib.hid (take_succ_eq hlt hlt2 he.out (by simpa using hd))⟩
        case measure => simp [intOf]; omega
    · clear hc hbc
      go_wp2
      go_ret
      exact ⟨ret_bool (by rw [decide_eq_true]; exact eq_of_take hlt HN.out he.out), hb⟩

end Go.Proofs.Ytfgnjcodilebeaa
