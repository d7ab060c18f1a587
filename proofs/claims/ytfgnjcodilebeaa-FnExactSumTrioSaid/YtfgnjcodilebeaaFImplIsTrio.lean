/- One part of the proof: impl.IsTrio. No condition beyond those of its theorems. -/
import Derived.Test.YtfgnjcodilebeaaBase
import Derived.Test.YtfgnjcodilebeaaFImplXtotal
import Derived.Test.YtfgnjcodilebeaaFImplXallWithin
import Derived.Test.YtfgnjcodilebeaaFImplXwithin
import Derived.Test.YtfgnjcodilebeaaPCanon
namespace Go.Proofs.Ytfgnjcodilebeaa
open Go.RowKit
/-- a row of eight numbers of at least 0 with a sum -/
def rowOk (n : Int) (row : List Int) : Bool := decide (row.length = 8) && allB row 0 n && decide (sumW row = n)
def isTrio (n : Int) (ll : List (List Int)) : Bool := inB n 1 1000 && decide (ll.length = 8) && ll.all (rowOk n)


theorem ne8 {k : Nat} (h : k ≠ 8) : ((k : Int) != 8) = true := by rw [bne_iff_ne]; omega
theorem eq8 {k : Nat} (h : k = 8) : ((k : Int) != 8) = false := by subst h; rfl

set_option maxHeartbeats 1000000 in
theorem IsTrio_c {ll : List (List Int)} {v : Value} (n : Int) {w : World} (h : RII w v ll) :
    Calls Try.prog 18 #[.agg #[.int .i64 n, v]] w fun e w' => e = .returned (.bool (isTrio n ll)) ∧ Below w.heap.size w w' := by
  obtain ⟨ao, cap, rfl, hl, hs, hc⟩ := Rd.sl h rfl
  have hix := idx_run1 eIntss sIntss ao ll.length cap hs
  clear hs h
  cases h1 : inB n 1 1000
  · go_enter Try.func18, Try.ntmps18
    clear hix hc
    go_wp2_with (go_at_call 53; refine (within_c _ _ _ _).mono ?_; rintro e w' ⟨rfl, rfl⟩)
    go_ret
    exact ⟨ret_bool (by simp [isTrio, h1]), bel_box _ _⟩
  by_cases h8' : ll.length = 8
  rotate_left
  · have h8 := ne8 h8'
    have H8 := Lib.hid h8'
    clear h8'
    go_enter Try.func18, Try.ntmps18
    clear hix hc
    go_wp2_with (go_at_call 53; refine (within_c _ _ _ _).mono ?_; rintro e w' ⟨rfl, rfl⟩)
    go_ret
    exact ⟨ret_bool (by simp [isTrio, H8.out]), bel_box _ _⟩
  have h8 := eq8 h8'
  have H8 := Lib.hid h8'
  clear h8'
  go_enter Try.func18, Try.ntmps18
  go_wp2_with (go_at_call 53; refine (within_c _ _ _ _).mono ?_; rintro e w' ⟨rfl, rfl⟩)
  go_loopw [18, 4] (fun i _ wr => ∃ k : Nat, k ≤ ll.length ∧ i = .int .i64 k ∧ Below w.heap.size w wr ∧ wr.cell? ⟨w.heap.size, 0, none⟩ = some (.int .i64 n) ∧ Hid ((ll.take k).all (rowOk n) = true)) (fun i _ _ => ll.length - (intOf i).toNat)
  case atStart => exact ⟨0, by omega, rfl, bel_box _ _, by simp, Lib.hid rfl⟩
  case round =>
    obtain ⟨k, hk, rfl, hb, hn, ha⟩ := hrel
    by_cases hlt : k < ll.length
    · obtain ⟨u, hck, hrk⟩ := hc k hlt
      rw [← CellS.of hb _ (by rw [hck]; rfl)] at hck
      have HR := Lib.hid (hrk.keep hb)
      obtain ⟨aok, capk, rfl, hlk, _, _⟩ := RI.opn hrk
      clear hc hrk
      by_cases h8k' : ll[k].length = 8
      · have h8k := eq8 h8k'
        have H8k := Lib.hid h8k'
        clear h8k'
        cases hall : allB ll[k] 0 n
        · go_wp2
          refine wp_region_D (fun _ => false) [(0, true), (1, true), (2, true), (3, true), (4, true), (5, true), (6, true), (7, false), (8, true), (9, true), (10, true), (11, true), (13, true), (14, true), (12, false), (15, true), (16, true)] (by kernel_rfl) (by kernel_rfl) ?_; simp only [List.map_cons, List.map_nil, List.getElem?_toArray, List.getElem?_cons_zero, List.getElem?_cons_succ]
          repeat (first | (refine wpD_skip (by rfl) ?_; (try simp only [Act.put, List.setIfInBounds_toArray, List.set_cons_zero, List.set_cons_succ])) | (refine wpD_take (v := ?_) (by rfl) ?_ ?_; rotate_left; (intro wS hS; unfold CellS at hS; go_simp; try with_reducible rfl); (try simp only [Act.put, List.setIfInBounds_toArray, List.set_cons_zero, List.set_cons_succ])))
          refine wpD_do (by rfl) (fun K hK => ?_); go_simp; refine Calls.mono (allWithin_b _ _ hall HR.out.drew) ?_; rintro e wC ⟨rfl, rfl⟩; refine hK _ _ (CellS.refl _) ?_; clear hK K; (try simp only [Act.put, List.setIfInBounds_toArray, List.set_cons_zero, List.set_cons_succ])
          repeat (first | (refine wpD_skip (by rfl) ?_; (try simp only [Act.put, List.setIfInBounds_toArray, List.set_cons_zero, List.set_cons_succ])) | (refine wpD_take (v := ?_) (by rfl) ?_ ?_; rotate_left; (intro wS hS; unfold CellS at hS; go_simp; try with_reducible rfl); (try simp only [Act.put, List.setIfInBounds_toArray, List.set_cons_zero, List.set_cons_succ])))
          refine wpD_nil ?_
          go_wp2
          go_ret
          exact ⟨ret_bool (by rw [isTrio, all_f (p := rowOk n) hlt (by rw [rowOk, hall]; simp)]; simp), hb.drew⟩
        · cases hsum : decide (sumW ll[k] = n)
          all_goals (
            have hsb : (sumW ll[k] != n) = !decide (sumW ll[k] = n) := bne_dec _ _
            rw [hsum] at hsb
            go_wp2)
          · refine wp_region_D (fun _ => false) [(0, true), (1, true), (2, true), (3, true), (4, true), (5, true), (6, true), (7, false), (8, true), (9, true), (10, true), (11, true), (13, true), (14, true), (12, false), (15, true), (16, true)] (by kernel_rfl) (by kernel_rfl) ?_; simp only [List.map_cons, List.map_nil, List.getElem?_toArray, List.getElem?_cons_zero, List.getElem?_cons_succ]
            repeat (first | (refine wpD_skip (by rfl) ?_; (try simp only [Act.put, List.setIfInBounds_toArray, List.set_cons_zero, List.set_cons_succ])) | (refine wpD_take (v := ?_) (by rfl) ?_ ?_; rotate_left; (intro wS hS; unfold CellS at hS; go_simp; try with_reducible rfl); (try simp only [Act.put, List.setIfInBounds_toArray, List.set_cons_zero, List.set_cons_succ])))
            refine wpD_do (by rfl) (fun K hK => ?_); go_simp; refine Calls.mono (allWithin_b _ _ hall HR.out.drew) ?_; rintro e wC ⟨rfl, rfl⟩; refine hK _ _ (CellS.refl _) ?_; clear hK K; (try simp only [Act.put, List.setIfInBounds_toArray, List.set_cons_zero, List.set_cons_succ])
            repeat (first | (refine wpD_skip (by rfl) ?_; (try simp only [Act.put, List.setIfInBounds_toArray, List.set_cons_zero, List.set_cons_succ])) | (refine wpD_take (v := ?_) (by rfl) ?_ ?_; rotate_left; (intro wS hS; unfold CellS at hS; go_simp; try with_reducible rfl); (try simp only [Act.put, List.setIfInBounds_toArray, List.set_cons_zero, List.set_cons_succ])))
            refine wpD_do (by rfl) (fun K hK => ?_); go_simp; refine Calls.mono (total_c HR.out.drew) ?_; rintro e wC ⟨rfl, rfl⟩; refine hK _ _ (CellS.refl _) ?_; clear hK K; (try simp only [Act.put, List.setIfInBounds_toArray, List.set_cons_zero, List.set_cons_succ])
            repeat (first | (refine wpD_skip (by rfl) ?_; (try simp only [Act.put, List.setIfInBounds_toArray, List.set_cons_zero, List.set_cons_succ])) | (refine wpD_take (v := ?_) (by rfl) ?_ ?_; rotate_left; (intro wS hS; unfold CellS at hS; go_simp; try with_reducible rfl); (try simp only [Act.put, List.setIfInBounds_toArray, List.set_cons_zero, List.set_cons_succ])))
            refine wpD_nil ?_
            go_wp2
            go_ret
            exact ⟨ret_bool (by rw [isTrio, all_f (p := rowOk n) hlt (by rw [rowOk, hall, hsum]; simp)]; simp), hb.drew⟩
          · refine wp_region_D (fun _ => false) [(0, true), (1, true), (2, true), (3, true), (4, true), (5, true), (6, true), (7, false), (8, true), (9, true), (10, true), (11, true), (13, true), (14, true), (12, false), (15, true), (16, true)] (by kernel_rfl) (by kernel_rfl) ?_; simp only [List.map_cons, List.map_nil, List.getElem?_toArray, List.getElem?_cons_zero, List.getElem?_cons_succ]
            repeat (first | (refine wpD_skip (by rfl) ?_; (try simp only [Act.put, List.setIfInBounds_toArray, List.set_cons_zero, List.set_cons_succ])) | (refine wpD_take (v := ?_) (by rfl) ?_ ?_; rotate_left; (intro wS hS; unfold CellS at hS; go_simp; try with_reducible rfl); (try simp only [Act.put, List.setIfInBounds_toArray, List.set_cons_zero, List.set_cons_succ])))
            refine wpD_do (by rfl) (fun K hK => ?_); go_simp; refine Calls.mono (allWithin_b _ _ hall HR.out.drew) ?_; rintro e wC ⟨rfl, rfl⟩; refine hK _ _ (CellS.refl _) ?_; clear hK K; (try simp only [Act.put, List.setIfInBounds_toArray, List.set_cons_zero, List.set_cons_succ])
            repeat (first | (refine wpD_skip (by rfl) ?_; (try simp only [Act.put, List.setIfInBounds_toArray, List.set_cons_zero, List.set_cons_succ])) | (refine wpD_take (v := ?_) (by rfl) ?_ ?_; rotate_left; (intro wS hS; unfold CellS at hS; go_simp; try with_reducible rfl); (try simp only [Act.put, List.setIfInBounds_toArray, List.set_cons_zero, List.set_cons_succ])))
            refine wpD_do (by rfl) (fun K hK => ?_); go_simp; refine Calls.mono (total_c HR.out.drew) ?_; rintro e wC ⟨rfl, rfl⟩; refine hK _ _ (CellS.refl _) ?_; clear hK K; (try simp only [Act.put, List.setIfInBounds_toArray, List.set_cons_zero, List.set_cons_succ])
            repeat (first | (refine wpD_skip (by rfl) ?_; (try simp only [Act.put, List.setIfInBounds_toArray, List.set_cons_zero, List.set_cons_succ])) | (refine wpD_take (v := ?_) (by rfl) ?_ ?_; rotate_left; (intro wS hS; unfold CellS at hS; go_simp; try with_reducible rfl); (try simp only [Act.put, List.setIfInBounds_toArray, List.set_cons_zero, List.set_cons_succ])))
            refine wpD_nil ?_
            go_wp2
            go_roundw
            case rel => exact ⟨k + 1, by omega, by go_num, hb.drew, by simpa using hn, Lib.hid (by rw [take_succ_all _ _ _ hlt, ha.out, rowOk, hall, hsum, H8k.out]; rfl)⟩
            case measure => simp [intOf]; omega
      · have h8k := ne8 h8k'
        have H8k := Lib.hid h8k'
        clear h8k'
        go_wp2
        refine wp_region_D (fun _ => false) [(0, true), (1, true), (2, true), (3, true), (4, true), (5, true), (6, true), (7, false), (8, true), (9, true), (10, true), (11, true), (13, true), (14, true), (12, false), (15, true), (16, true)] (by kernel_rfl) (by kernel_rfl) ?_; simp only [List.map_cons, List.map_nil, List.getElem?_toArray, List.getElem?_cons_zero, List.getElem?_cons_succ]
        repeat (first | (refine wpD_skip (by rfl) ?_; (try simp only [Act.put, List.setIfInBounds_toArray, List.set_cons_zero, List.set_cons_succ])) | (refine wpD_take (v := ?_) (by rfl) ?_ ?_; rotate_left; (intro wS hS; unfold CellS at hS; go_simp; try with_reducible rfl); (try simp only [Act.put, List.setIfInBounds_toArray, List.set_cons_zero, List.set_cons_succ])))
        refine wpD_nil ?_
        go_wp2
        go_ret
        exact ⟨ret_bool (by rw [isTrio, all_f (p := rowOk n) hlt (by rw [rowOk]; simp [H8k.out])]; simp), hb.drew⟩
    · clear hc
      go_wp2
      go_ret
      exact ⟨ret_bool (by rw [isTrio, h1, H8.out, all_t hlt ha.out]; rfl), hb⟩

end Go.Proofs.Ytfgnjcodilebeaa
