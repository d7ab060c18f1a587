/- One part of the proof: laws.eqIntS. No condition beyond those of its theorems. -/
import Derived.Test.YtfgnjcodilebeaaBase
import Derived.Test.YtfgnjcodilebeaaPCanon
namespace Go.Proofs.Ytfgnjcodilebeaa
open Go.RowKit
theorem bne_cast {a b : Nat} (h : a ≠ b) : ((a : Int) != (b : Int)) = true := by rw [bne_iff_ne]; omega
theorem bne_castF {a b : Nat} (h : a = b) : ((a : Int) != (b : Int)) = false := by subst h; simp
theorem take_succ_eq {α : Type} {la lb : List α} {k : Nat} (h1 : k < la.length) (h2 : k < lb.length) (h : la.take k = lb.take k) (he : la[k] = lb[k]) : la.take (k + 1) = lb.take (k + 1) := by
  rw [List.take_succ_eq_append_getElem h1, List.take_succ_eq_append_getElem h2, h, he]
theorem ne_of_get {α : Type} {la lb : List α} {k : Nat} (h1 : k < la.length) (h2 : k < lb.length) (h : la[k] ≠ lb[k]) : la ≠ lb := by
  rintro rfl; exact h rfl
theorem eq_of_take {α : Type} {la lb : List α} {k : Nat} (h1 : ¬ k < la.length) (hl : la.length = lb.length) (h : la.take k = lb.take k) : la = lb := by
  rwa [List.take_of_length_le (by omega), List.take_of_length_le (by omega)] at h

set_option maxHeartbeats 1000000 in
theorem eqIntS_c {la lb : List Int} {va vb : Value} {w : World} (ha : RI w va la) (hb : RI w vb lb) :
    Calls Try.prog 23 #[va, vb] w fun e w' => e = .returned (.bool (decide (la = lb))) ∧ Below w.heap.size w w' := by
  obtain ⟨ao, cap, rfl, hl, hs, hc⟩ := ha.opn
  obtain ⟨bo, bap, rfl, hbl, hbs, hbc⟩ := hb.opn
  have hix := idx_run1 eInts sInts ao la.length cap hs
  have hiy := idx_run1 eInts sInts bo lb.length bap hbs
  clear hs hbs ha hb
  by_cases hne : la.length ≠ lb.length
  · have h1 := bne_cast hne
    have HN := Lib.hid hne
    clear hne hc hbc hix hiy
    go_enter Try.func23, Try.ntmps23
    go_wp2
    go_ret
    exact ⟨ret_bool (by rw [decide_eq_false]; rintro rfl; exact HN.out rfl), Below.refl _ _⟩
  have hne' : la.length = lb.length := Decidable.not_not.1 hne
  have h1 := bne_castF hne'
  have HN := Lib.hid hne'
  clear hne hne'
  go_enter Try.func23, Try.ntmps23
  go_wp2
  go_loopw [5] (fun i wr => ∃ k : Nat, k ≤ la.length ∧ i = .int .i64 k ∧ Below w.heap.size w wr ∧ Hid (la.take k = lb.take k)) (fun i _ => la.length - (intOf i).toNat)
  case atStart => exact ⟨0, by omega, rfl, Below.refl _ _, Lib.hid rfl⟩
  case round =>
    obtain ⟨k, hk, rfl, hb, he⟩ := hrel
    by_cases hlt : k < la.length
    · have hlt2 : k < lb.length := by rw [← HN.out]; exact hlt
      have hck := hc k hlt
      have hcj := hbc k hlt2
      rw [← CellS.of hb _ (by rw [hck]; rfl)] at hck
      rw [← CellS.of hb _ (by rw [hcj]; rfl)] at hcj
      clear hc hbc
      go_wp2
      refine wp_region_D (fun _ => false) [(0, true), (1, true), (2, true), (3, true), (4, true), (5, true), (6, true), (7, true), (8, true)] (by kernel_rfl) (by kernel_rfl) ?_; simp only [List.map_cons, List.map_nil, List.getElem?_toArray, List.getElem?_cons_zero, List.getElem?_cons_succ]
      repeat (first | (refine wpD_skip (by rfl) ?_; (try simp only [Act.put, List.setIfInBounds_toArray, List.set_cons_zero, List.set_cons_succ])) | (refine wpD_take (v := ?_) (by rfl) ?_ ?_; rotate_left; (intro wS hS; unfold CellS at hS; go_simp; try with_reducible rfl); (try simp only [Act.put, List.setIfInBounds_toArray, List.set_cons_zero, List.set_cons_succ])))
      refine wpD_nil ?_
      cases hd : la[k] != lb[k]
      · go_wp2
        go_roundw
        case rel => exact ⟨k + 1, by omega, by go_num, hb.drew, Lib.hid (take_succ_eq hlt hlt2 he.out (by simpa using hd))⟩
        case measure => simp [intOf]; omega
      · go_wp2
        go_ret
        exact ⟨ret_bool (by rw [decide_eq_false]; exact ne_of_get hlt hlt2 (by simpa using hd)), hb.drew⟩
    · clear hc hbc
      go_wp2
      go_ret
      exact ⟨ret_bool (by rw [decide_eq_true]; exact eq_of_take hlt HN.out he.out), hb⟩

end Go.Proofs.Ytfgnjcodilebeaa
