/- One part of the proof: laws.FnExactTripleAgreements. No condition beyond those of its theorems. -/
import Derived.Test.YtfgnjcodilebeaaBase
import Derived.Test.YtfgnjcodilebeaaFHold
import Derived.Test.YtfgnjcodilebeaaFHoldMarks
import Derived.Test.YtfgnjcodilebeaaFImplTripleAgreements
import Derived.Test.YtfgnjcodilebeaaFLawsXeqIntS
import Derived.Test.YtfgnjcodilebeaaFLawsXeqTrio
import Derived.Test.YtfgnjcodilebeaaFLawsXheldIntS
import Derived.Test.YtfgnjcodilebeaaFLawsXmarkIntSS
import Derived.Test.YtfgnjcodilebeaaFLawsXszIntS
import Derived.Test.YtfgnjcodilebeaaFLawsXszIntSS
import Derived.Test.YtfgnjcodilebeaaFLawsXszTrio
import Derived.Test.YtfgnjcodilebeaaFLawsXtoTrio
import Derived.Test.YtfgnjcodilebeaaPCanon
import Derived.Test.YtfgnjcodilebeaaFSpecTripleAgreements
namespace Go.Proofs.Ytfgnjcodilebeaa
open Go.RowKit
set_option maxRecDepth 100000 in
set_option maxHeartbeats 8000000 in
theorem FnExactTripleAgreements_w {n0 : Int} {d0 : List (List Int)} {v0 : Value} {w : World} (h0 : Rd tIntss w v0 d0) :
    Calls Try.prog 14 #[.agg #[.int .i64 n0, v0]] w fun e w' => e = .returned (.bool true) ∧ Below w.heap.size w w' := by
  have H0 := Lib.hid h0
  obtain ⟨ao0, cap0, rfl, hl0, hs0, hc0⟩ := Rd.sl h0 rfl
  clear hs0 hc0 h0
  go_enter Try.func14, Try.ntmps14
  go_wp2_with fail
  refine (szTrio_c n0 _ (H0.out.keep (bel_box _ _)) (by omega) (by omega)).mono ?_
  rintro e w1 ⟨r0, rfl, hr0, hb1⟩
  obtain ⟨b0, hz1, hB1⟩ := rows1 hb1
  have b0_c := b0.cell; have b0_f := b0.frozen
  by_cases hneg0 : r0 < 0
  · go_wp2
    go_ret
    exact ⟨rfl, hB1⟩
  have hsz0 : szII d0 ≤ 1048576 := by unfold SzP at hr0; omega
  clear hr0
  have HSZ0 := Lib.hid hsz0
  go_wp2_with fail
  refine (toTrio_c n0 (H0.out.keep hB1) HSZ0.out).mono ?_
  rintro e w2 ⟨s0, rfl, hs0, hb2⟩
  replace b0 := b0.later hb2; replace b0_c := b0.cell; replace b0_f := b0.frozen
  have hB2 := hB1.trans (hb2.mono hB1.size)
  have hz2 := hb2.size
  obtain ⟨as0, cs0, rfl⟩ := hs0.shape
  go_wp2_with fail
  refine (spTripleAgreements_c n0 hs0.rd).mono ?_
  rintro e w3 ⟨w0, rfl, hw0, hb3⟩
  replace b0 := b0.later hb3; replace b0_c := b0.cell; replace b0_f := b0.frozen
  replace hs0 := hs0.keep hb3
  have hB3 := hB2.trans (hb3.mono hB2.size)
  have hz3 := hb3.size
  obtain ⟨aw0, cw0, rfl⟩ := hw0.shape
  clear hs0
  replace hw0 := hw0.rd.toI
  obtain ⟨U, hU⟩ : ∃ U, w3.heap.size = U := ⟨_, rfl⟩
  rw [hU] at hw0
  have hU' : U ≤ w3.heap.size := by omega
  clear hU
  go_wp2_with fail
  refine (toTrio_c n0 (H0.out.keep hB3) HSZ0.out).mono ?_
  rintro e w4 ⟨x0, rfl, hx0, hb4⟩
  replace b0 := b0.later hb4; replace b0_c := b0.cell; replace b0_f := b0.frozen
  replace hw0 := hw0.keep hb4
  have hB4 := hB3.trans (hb4.mono hB3.size)
  have hz4 := hb4.size
  obtain ⟨ax0, cx0, rfl⟩ := hx0.shape
  replace hx0 := hx0.toI
  obtain ⟨X0, hX0⟩ : ∃ X, w3.heap.size = X := ⟨_, rfl⟩
  obtain ⟨Y0, hY0⟩ : ∃ Y, w4.heap.size = Y := ⟨_, rfl⟩
  rw [hX0, hY0] at hx0
  have hXY0 : X0 ≤ Y0 := by omega
  have hXw0 : w3.heap.size = X0 := hX0
  have hYw0 : Y0 ≤ w4.heap.size := by omega
  replace hXw0 : w3.heap.size ≤ X0 := by omega
  clear hX0 hY0
  go_wp2_with fail
  obtain ⟨w5, hw5⟩ : ∃ W, W = w4.alloc (.cells #[.int .i64 n0, (.slice ax0 d0.length cx0)] 27) := ⟨_, rfl⟩
  rw [← hw5]
  have hb5 : Below w4.heap.size w4 w5 := by rw [hw5]; exact bel_box _ _
  have bx0 : Row w5 w4.heap.size 27 #[.int .i64 n0, (.slice ax0 d0.length cx0)] := by rw [hw5]; exact Row.new _ _ _
  clear hw5
  replace b0 := b0.later hb5; replace b0_c := b0.cell; replace b0_f := b0.frozen
  replace hw0 := hw0.keep hb5
  replace hx0 := hx0.keep hb5
  have hB5 := hB4.trans (hb5.mono hB4.size)
  have hz5 := hb5.size
  have bx0_c := bx0.cell; have bx0_f := bx0.frozen
  go_wp2_with fail
  refine (TripleAgreements_c n0 hx0.rd).mono ?_
  rintro e w6 ⟨g0, rfl, hg0, hb6⟩
  replace b0 := b0.later hb6; replace b0_c := b0.cell; replace b0_f := b0.frozen
  replace bx0 := bx0.later hb6; replace bx0_c := bx0.cell; replace bx0_f := bx0.frozen
  replace hw0 := hw0.keep hb6
  replace hx0 := hx0.keep hb6
  have hB6 := hB5.trans (hb6.mono hB5.size)
  have hz6 := hb6.size
  obtain ⟨ag0, cg0, rfl⟩ := hg0.shape
  replace hg0 := hg0.toI
  obtain ⟨Bg, hBg⟩ : ∃ X, w5.heap.size = X := ⟨_, rfl⟩
  obtain ⟨Eg, hEg⟩ : ∃ X, w6.heap.size = X := ⟨_, rfl⟩
  rw [hBg, hEg] at hg0
  have hBgw : w5.heap.size ≤ Bg := by omega
  have hBgw' : Bg ≤ w5.heap.size := by omega
  have hEgw : Eg ≤ w6.heap.size := by omega
  have hBE : Bg ≤ Eg := by omega
  clear hBg hEg
  go_wp2_with fail
  refine (eqIntS_c hg0.rd hw0.rd).mono ?_
  rintro e w7 ⟨rfl, hb7⟩
  replace b0 := b0.later hb7; replace b0_c := b0.cell; replace b0_f := b0.frozen
  replace bx0 := bx0.later hb7; replace bx0_c := bx0.cell; replace bx0_f := bx0.frozen
  replace hw0 := hw0.keep hb7
  replace hx0 := hx0.keep hb7
  replace hg0 := hg0.keep hb7
  have hB7 := hB6.trans (hb7.mono hB6.size)
  have hz7 := hb7.size
  simp only [decide_true]
  go_wp2
  refine wp_region_D (fun _ => false) [(0, true), (1, true), (2, false), (3, false), (4, true)] (by kernel_rfl) (by kernel_rfl) ?_; simp only [List.map_cons, List.map_nil, List.getElem?_toArray, List.getElem?_cons_zero, List.getElem?_cons_succ]
  repeat (first | (refine wpD_skip (by rfl) ?_; (try simp only [Act.put, List.setIfInBounds_toArray, List.set_cons_zero, List.set_cons_succ])) | (refine wpD_take (v := ?_) (by rfl) ?_ ?_; rotate_left; (intro wS hS; unfold CellS at hS; go_simp; try with_reducible rfl); (try simp only [Act.put, List.setIfInBounds_toArray, List.set_cons_zero, List.set_cons_succ])))
  obtain ⟨w8, hw8⟩ : ∃ W, W = w7.drew := ⟨_, rfl⟩
  rw [← hw8]
  have hb8 : Below w7.heap.size w7 w8 := by rw [hw8]; exact (Below.refl _ _).drew
  clear hw8
  replace b0 := b0.later hb8; replace b0_c := b0.cell; replace b0_f := b0.frozen
  replace bx0 := bx0.later hb8; replace bx0_c := bx0.cell; replace bx0_f := bx0.frozen
  replace hw0 := hw0.keep hb8
  replace hx0 := hx0.keep hb8
  replace hg0 := hg0.keep hb8
  have hB8 := hB7.trans (hb8.mono hB7.size)
  have hz8 := hb8.size
  refine wpD_do (by rfl) (fun K hK => ?_); go_simp; refine Calls.mono (toTrio_c n0 (H0.out.keep hB8) HSZ0.out) ?_; rintro e w9 ⟨y0, rfl, hy0, hb9⟩; refine hK _ _ (CellS.of hb9) ?_; clear hK K; (try simp only [Act.put, List.setIfInBounds_toArray, List.set_cons_zero, List.set_cons_succ])
  replace b0 := b0.later hb9; replace b0_c := b0.cell; replace b0_f := b0.frozen
  replace bx0 := bx0.later hb9; replace bx0_c := bx0.cell; replace bx0_f := bx0.frozen
  replace hw0 := hw0.keep hb9
  replace hx0 := hx0.keep hb9
  replace hg0 := hg0.keep hb9
  have hB9 := hB8.trans (hb9.mono hB8.size)
  have hz9 := hb9.size
  obtain ⟨ay0, cy0, rfl⟩ := hy0.shape
  refine wpD_do (by rfl) (fun K hK => ?_); go_simp; refine Calls.mono (eqTrio_c n0 n0 hx0.rd hy0.rd) ?_; rintro e w10 ⟨rfl, hb10⟩; refine hK _ _ (CellS.of hb10) ?_; clear hK K; (try simp only [Act.put, List.setIfInBounds_toArray, List.set_cons_zero, List.set_cons_succ])
  replace b0 := b0.later hb10; replace b0_c := b0.cell; replace b0_f := b0.frozen
  replace bx0 := bx0.later hb10; replace bx0_c := bx0.cell; replace bx0_f := bx0.frozen
  replace hw0 := hw0.keep hb10
  replace hx0 := hx0.keep hb10
  replace hg0 := hg0.keep hb10
  replace hy0 := hy0.keep hb10
  have hB10 := hB9.trans (hb10.mono hB9.size)
  have hz10 := hb10.size
  simp only [decide_true, true_and, and_self]
  repeat (first | (refine wpD_skip (by rfl) ?_; (try simp only [Act.put, List.setIfInBounds_toArray, List.set_cons_zero, List.set_cons_succ])) | (refine wpD_take (v := ?_) (by rfl) ?_ ?_; rotate_left; (intro wS hS; unfold CellS at hS; go_simp; try with_reducible rfl); (try simp only [Act.put, List.setIfInBounds_toArray, List.set_cons_zero, List.set_cons_succ])))
  refine wpD_nil ?_
  clear hy0
  have hzz := hB10.size
  have hcnt0 : offs d0 (d0).length ≤ 1048576 := by exact Nat.le_trans (offs_szII _) HSZ0.out
  go_wp2_with fail
  refine (markTrio_i n0 _ hx0 (by omega) (by omega)).mono ?_
  rintro e w11 ⟨rfl, hnew, hch⟩
  replace hw0 := hw0.chg hch (by omega)
  replace hg0 := hg0.chg hch (by omega)
  replace b0 := b0.chg hch (by omega); replace b0_c := b0.cell; replace b0_f := b0.frozen
  replace bx0 := bx0.chg hch (by omega); replace bx0_c := bx0.cell; replace bx0_f := bx0.frozen
  clear hx0; have hx0 := hnew; clear hnew
  have hbm := hch.below (N := w.heap.size) (by omega) (by omega)
  have hB11 := hB10.trans hbm
  have hz11 := hch.size
  clear hch hbm
  clear hx0
  clear bx0 bx0_c bx0_f
  go_wp2_with fail
  refine (eqIntS_c hg0.rd hw0.rd).mono ?_
  rintro e w12 ⟨rfl, hb12⟩
  replace b0 := b0.later hb12; replace b0_c := b0.cell; replace b0_f := b0.frozen
  replace hw0 := hw0.keep hb12
  replace hg0 := hg0.keep hb12
  have hB12 := hB11.trans (hb12.mono hB11.size)
  have hz12 := hb12.size
  simp only [decide_true]
  have hcg0 : (agrR n0 d0).length ≤ 1048576 := by exact agrR_le _ _
  go_wp2_with fail
  refine (markIntS_i _ hg0 (by omega) (by omega)).mono ?_
  rintro e w13 ⟨rfl, hnew, hch⟩
  replace hw0 := hw0.chg hch (by omega)
  replace b0 := b0.chg hch (by omega); replace b0_c := b0.cell; replace b0_f := b0.frozen
  clear hg0; have hg0 := hnew; clear hnew
  have hbm := hch.below (N := w.heap.size) (by omega) (by omega)
  have hB13 := hB12.trans hbm
  have hz13 := hch.size
  clear hch hbm
  go_wp2_with fail
  refine (heldIntS_c _ hg0.rd (by omega) (by omega)).mono ?_
  rintro e w14 ⟨rfl, hb14⟩
  replace b0 := b0.later hb14; replace b0_c := b0.cell; replace b0_f := b0.frozen
  replace hw0 := hw0.keep hb14
  replace hg0 := hg0.keep hb14
  have hB14 := hB13.trans (hb14.mono hB13.size)
  have hz14 := hb14.size
  go_wp2_with fail
  refine (toTrio_c n0 (H0.out.keep hB14) HSZ0.out).mono ?_
  rintro e w15 ⟨u0, rfl, hu0, hb15⟩
  replace b0 := b0.later hb15; replace b0_c := b0.cell; replace b0_f := b0.frozen
  replace hw0 := hw0.keep hb15
  replace hg0 := hg0.keep hb15
  have hB15 := hB14.trans (hb15.mono hB14.size)
  have hz15 := hb15.size
  obtain ⟨au0, cu0, rfl⟩ := hu0.shape
  go_wp2_with fail
  refine (TripleAgreements_c n0 hu0.rd).mono ?_
  rintro e w16 ⟨h0, rfl, hh0, hb16⟩
  replace b0 := b0.later hb16; replace b0_c := b0.cell; replace b0_f := b0.frozen
  replace hw0 := hw0.keep hb16
  replace hg0 := hg0.keep hb16
  replace hu0 := hu0.keep hb16
  have hB16 := hB15.trans (hb16.mono hB15.size)
  have hz16 := hb16.size
  obtain ⟨ah0, ch0, rfl⟩ := hh0.shape
  clear hu0
  go_wp2_with fail
  refine (eqIntS_c hh0.rd hw0.rd).mono ?_
  rintro e w17 ⟨rfl, hb17⟩
  replace b0 := b0.later hb17; replace b0_c := b0.cell; replace b0_f := b0.frozen
  replace hw0 := hw0.keep hb17
  replace hg0 := hg0.keep hb17
  replace hh0 := hh0.keep hb17
  have hB17 := hB16.trans (hb17.mono hB16.size)
  have hz17 := hb17.size
  simp only [decide_true]
  go_wp2_with fail
  refine (heldIntS_c _ hg0.rd (by omega) (by omega)).mono ?_
  rintro e w18 ⟨rfl, hb18⟩
  replace b0 := b0.later hb18; replace b0_c := b0.cell; replace b0_f := b0.frozen
  replace hw0 := hw0.keep hb18
  replace hg0 := hg0.keep hb18
  replace hh0 := hh0.keep hb18
  have hB18 := hB17.trans (hb18.mono hB17.size)
  have hz18 := hb18.size
  go_wp2
  go_ret
  exact ⟨rfl, hB18⟩

theorem FnExactTripleAgreements_e {cs0 : List Value} {x0 : Int × List (List Int)} {F0 : List Nat} {w : World} (h0 : (tPair tInt tIntss).rd false w cs0 x0 F0) :
    Calls Try.prog 14 #[.agg cs0.toArray] w fun e w' => e = .returned (.bool true) ∧ Below w.heap.size w w' := by
  obtain ⟨c0, k0, F10, F20, rfl, rfl, ⟨rfl, rfl⟩, g0⟩ := h0
  obtain ⟨v0, rfl⟩ : ∃ v, k0 = [v] := List.length_eq_one_iff.1 (tIntss.len g0)
  exact FnExactTripleAgreements_w ⟨_, g0⟩

end Go.Proofs.Ytfgnjcodilebeaa
