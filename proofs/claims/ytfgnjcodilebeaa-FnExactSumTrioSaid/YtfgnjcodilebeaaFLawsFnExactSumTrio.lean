/- One part of the proof: laws.FnExactSumTrio. No condition beyond those of its theorems. -/
import Derived.Test.YtfgnjcodilebeaaBase
import Derived.Test.YtfgnjcodilebeaaFHold
import Derived.Test.YtfgnjcodilebeaaFHoldMarks
import Derived.Test.YtfgnjcodilebeaaFFewMarks
import Derived.Test.YtfgnjcodilebeaaFImplSumTrio
import Derived.Test.YtfgnjcodilebeaaFLawsXeqIntS
import Derived.Test.YtfgnjcodilebeaaFLawsXeqTrio
import Derived.Test.YtfgnjcodilebeaaFLawsXheldTrio
import Derived.Test.YtfgnjcodilebeaaFLawsXmarkIntSS
import Derived.Test.YtfgnjcodilebeaaFLawsXtoIntS
import Derived.Test.YtfgnjcodilebeaaFSpecSumTrio
namespace Go.Proofs.Ytfgnjcodilebeaa
open Go.RowKit
set_option maxRecDepth 100000 in
set_option maxHeartbeats 8000000 in
theorem FnExactSumTrio_w {d0 : List Int} {v0 : Value} {w : World} (h0 : Rd tInts w v0 d0) :
    Calls Try.prog 7 #[v0] w fun e w' => e = .returned (.bool true) ∧ Below w.heap.size w w' := by
  have H0 := Lib.hid h0
  obtain ⟨ao0, cap0, rfl, hl0, hs0, hc0⟩ := Rd.sl h0 rfl
  clear hs0 hc0 h0
  by_cases hsz0 : d0.length ≤ 1048576
  rotate_left
  · go_enter Try.func7, Try.ntmps7
    go_wp2
    all_goals go_ret
    all_goals exact ⟨rfl, Below.refl _ _⟩
  go_enter Try.func7, Try.ntmps7
  have HSZ0 := Lib.hid hsz0
  go_wp2_with fail
  refine (toIntS_c (H0.out.keep (Below.refl _ _)) HSZ0.out).mono ?_
  rintro e w1 ⟨s0, rfl, hs0, hb1⟩
  have hB1 := hb1
  have hz1 := hb1.size
  obtain ⟨as0, cs0, rfl⟩ := hs0.shape
  go_wp2_with fail
  refine (spSumTrio_c hs0.rd).mono ?_
  rintro e w2 ⟨w0, rfl, hw0, hb2⟩
  replace hs0 := hs0.keep hb2
  have hB2 := hB1.trans (hb2.mono hB1.size)
  have hz2 := hb2.size
  obtain ⟨aw0, cw0, rfl⟩ := hw0.shape
  clear hs0
  replace hw0 := hw0.rd.toI
  obtain ⟨U, hU⟩ : ∃ U, w2.heap.size = U := ⟨_, rfl⟩
  rw [hU] at hw0
  have hU' : U ≤ w2.heap.size := by omega
  clear hU
  have nw_c := (Row.new w2 #[.int .i64 (sumN d0), (.slice aw0 ((sumR d0)).length cw0)] 27).cell
  go_wp2_with fail
  clear nw_c
  obtain ⟨w3, hw3⟩ : ∃ W, W = w2.alloc (.cells #[.int .i64 (sumN d0), (.slice aw0 ((sumR d0)).length cw0)] 27) := ⟨_, rfl⟩
  rw [← hw3]
  have hb3 : Below w2.heap.size w2 w3 := by rw [hw3]; exact bel_box _ _
  have bw0 : Row w3 w2.heap.size 27 #[.int .i64 (sumN d0), (.slice aw0 ((sumR d0)).length cw0)] := by rw [hw3]; exact Row.new _ _ _
  clear hw3
  replace hw0 := hw0.keep hb3
  have hB3 := hB2.trans (hb3.mono hB2.size)
  have hz3 := hb3.size
  have bw0_l := bw0.lt
  have bw0_c := bw0.cell; have bw0_f := bw0.frozen
  go_wp2_with fail
  refine (toIntS_c (H0.out.keep hB3) HSZ0.out).mono ?_
  rintro e w4 ⟨x0, rfl, hx0, hb4⟩
  replace bw0 := bw0.later hb4; replace bw0_c := bw0.cell; replace bw0_f := bw0.frozen
  replace hw0 := hw0.keep hb4
  have hB4 := hB3.trans (hb4.mono hB3.size)
  have hz4 := hb4.size
  obtain ⟨ax0, cx0, rfl⟩ := hx0.shape
  replace hx0 := hx0.toI
  obtain ⟨X0, hX0⟩ : ∃ X, w3.heap.size = X := ⟨_, rfl⟩
  obtain ⟨Y0, hY0⟩ : ∃ Y, w4.heap.size = Y := ⟨_, rfl⟩
  rw [hX0, hY0] at hx0
  have hXY0 : X0 ≤ Y0 := by omega
  have hXw0 : w3.heap.size = X0 := hX0
  have hYw0 : Y0 ≤ w4.heap.size := by omega
  replace hXw0 : w3.heap.size ≤ X0 := by omega
  clear hX0 hY0
  go_wp2_with fail
  refine (SumTrio_c hx0.rd).mono ?_
  rintro e w5 ⟨g0, rfl, hg0, hb5⟩
  replace bw0 := bw0.later hb5; replace bw0_c := bw0.cell; replace bw0_f := bw0.frozen
  replace hw0 := hw0.keep hb5
  replace hx0 := hx0.keep hb5
  have hB5 := hB4.trans (hb5.mono hB4.size)
  have hz5 := hb5.size
  obtain ⟨ag0, cg0, rfl⟩ := hg0.shape
  replace hg0 := hg0.toI
  obtain ⟨Bg, hBg⟩ : ∃ X, w4.heap.size = X := ⟨_, rfl⟩
  obtain ⟨Eg, hEg⟩ : ∃ X, w5.heap.size = X := ⟨_, rfl⟩
  rw [hBg, hEg] at hg0
  have hBgw : w4.heap.size ≤ Bg := by omega
  have hBgw' : Bg ≤ w4.heap.size := by omega
  have hEgw : Eg ≤ w5.heap.size := by omega
  have hBE : Bg ≤ Eg := by omega
  clear hBg hEg
  have nw_c := (Row.new w5 #[.int .i64 (sumN d0), (.slice ag0 ((sumR d0)).length cg0)] 27).cell
  have bw0_n := (bw0.alloc (.cells #[.int .i64 (sumN d0), (.slice ag0 ((sumR d0)).length cg0)] 27)).cell
  go_wp2_with fail
  clear nw_c bw0_n
  obtain ⟨w6, hw6⟩ : ∃ W, W = w5.alloc (.cells #[.int .i64 (sumN d0), (.slice ag0 ((sumR d0)).length cg0)] 27) := ⟨_, rfl⟩
  rw [← hw6]
  have hb6 : Below w5.heap.size w5 w6 := by rw [hw6]; exact bel_box _ _
  have bg0 : Row w6 w5.heap.size 27 #[.int .i64 (sumN d0), (.slice ag0 ((sumR d0)).length cg0)] := by rw [hw6]; exact Row.new _ _ _
  clear hw6
  replace bw0 := bw0.later hb6; replace bw0_c := bw0.cell; replace bw0_f := bw0.frozen
  replace hw0 := hw0.keep hb6
  replace hx0 := hx0.keep hb6
  replace hg0 := hg0.keep hb6
  have hB6 := hB5.trans (hb6.mono hB5.size)
  have hz6 := hb6.size
  have bg0_l := bg0.lt
  have bg0_c := bg0.cell; have bg0_f := bg0.frozen
  go_wp2_with fail
  refine (eqTrio_c (sumN d0) (sumN d0) hg0.rd hw0.rd).mono ?_
  rintro e w7 ⟨rfl, hb7⟩
  replace bw0 := bw0.later hb7; replace bw0_c := bw0.cell; replace bw0_f := bw0.frozen
  replace bg0 := bg0.later hb7; replace bg0_c := bg0.cell; replace bg0_f := bg0.frozen
  replace hw0 := hw0.keep hb7
  replace hx0 := hx0.keep hb7
  replace hg0 := hg0.keep hb7
  have hB7 := hB6.trans (hb7.mono hB6.size)
  have hz7 := hb7.size
  simp only [decide_true, true_and, and_self]
  go_wp2_with fail
  refine (toIntS_c (H0.out.keep hB7) HSZ0.out).mono ?_
  rintro e w8 ⟨y0, rfl, hy0, hb8⟩
  replace bw0 := bw0.later hb8; replace bw0_c := bw0.cell; replace bw0_f := bw0.frozen
  replace bg0 := bg0.later hb8; replace bg0_c := bg0.cell; replace bg0_f := bg0.frozen
  replace hw0 := hw0.keep hb8
  replace hx0 := hx0.keep hb8
  replace hg0 := hg0.keep hb8
  have hB8 := hB7.trans (hb8.mono hB7.size)
  have hz8 := hb8.size
  obtain ⟨ay0, cy0, rfl⟩ := hy0.shape
  go_wp2_with fail
  refine (eqIntS_c hx0.rd hy0.rd).mono ?_
  rintro e w9 ⟨rfl, hb9⟩
  replace bw0 := bw0.later hb9; replace bw0_c := bw0.cell; replace bw0_f := bw0.frozen
  replace bg0 := bg0.later hb9; replace bg0_c := bg0.cell; replace bg0_f := bg0.frozen
  replace hw0 := hw0.keep hb9
  replace hx0 := hx0.keep hb9
  replace hg0 := hg0.keep hb9
  replace hy0 := hy0.keep hb9
  have hB9 := hB8.trans (hb9.mono hB8.size)
  have hz9 := hb9.size
  simp only [decide_true]
  clear hy0
  have hzz := hB9.size
  have hcnt0 : (d0).length ≤ 1048576 := by exact HSZ0.out
  go_wp2_with fail
  refine (markIntS_i _ hx0 (by omega) (by omega)).mono ?_
  rintro e w10 ⟨rfl, hnew, hch⟩
  replace hw0 := hw0.chg hch (by omega)
  replace hg0 := hg0.chg hch (by omega)
  replace bw0 := bw0.chg hch (by omega); replace bw0_c := bw0.cell; replace bw0_f := bw0.frozen
  replace bg0 := bg0.chg hch (by omega); replace bg0_c := bg0.cell; replace bg0_f := bg0.frozen
  clear hx0; have hx0 := hnew; clear hnew
  have hbm := hch.below (N := w.heap.size) (by omega) (by omega)
  have hB10 := hB9.trans hbm
  have hz10 := hch.size
  clear hch hbm
  clear hx0
  go_wp2_with fail
  refine (eqTrio_c (sumN d0) (sumN d0) hg0.rd hw0.rd).mono ?_
  rintro e w11 ⟨rfl, hb11⟩
  replace bw0 := bw0.later hb11; replace bw0_c := bw0.cell; replace bw0_f := bw0.frozen
  replace bg0 := bg0.later hb11; replace bg0_c := bg0.cell; replace bg0_f := bg0.frozen
  replace hw0 := hw0.keep hb11
  replace hg0 := hg0.keep hb11
  have hB11 := hB10.trans (hb11.mono hB10.size)
  have hz11 := hb11.size
  simp only [decide_true, true_and, and_self]
  have hcg0 : offs (sumR d0) ((sumR d0)).length ≤ 1048576 := by exact offs_grid _ _
  go_wp2_with fail
  refine (markTrio_i (sumN d0) _ hg0 (by omega) (by omega)).mono ?_
  rintro e w12 ⟨rfl, hnew, hch⟩
  replace hw0 := hw0.chg hch (by omega)
  replace bw0 := bw0.chg hch (by omega); replace bw0_c := bw0.cell; replace bw0_f := bw0.frozen
  replace bg0 := bg0.chg hch (by omega); replace bg0_c := bg0.cell; replace bg0_f := bg0.frozen
  clear hg0; have hg0 := hnew; clear hnew
  have hbm := hch.below (N := w.heap.size) (by omega) (by omega)
  have hB12 := hB11.trans hbm
  have hz12 := hch.size
  clear hch hbm
  go_wp2_with fail
  refine (heldTrio_c (sumN d0) _ hg0.rd (by omega) (by omega)).mono ?_
  rintro e w13 ⟨rfl, hb13⟩
  replace bw0 := bw0.later hb13; replace bw0_c := bw0.cell; replace bw0_f := bw0.frozen
  replace bg0 := bg0.later hb13; replace bg0_c := bg0.cell; replace bg0_f := bg0.frozen
  replace hw0 := hw0.keep hb13
  replace hg0 := hg0.keep hb13
  have hB13 := hB12.trans (hb13.mono hB12.size)
  have hz13 := hb13.size
  go_wp2_with fail
  refine (toIntS_c (H0.out.keep hB13) HSZ0.out).mono ?_
  rintro e w14 ⟨u0, rfl, hu0, hb14⟩
  replace bw0 := bw0.later hb14; replace bw0_c := bw0.cell; replace bw0_f := bw0.frozen
  replace bg0 := bg0.later hb14; replace bg0_c := bg0.cell; replace bg0_f := bg0.frozen
  replace hw0 := hw0.keep hb14
  replace hg0 := hg0.keep hb14
  have hB14 := hB13.trans (hb14.mono hB13.size)
  have hz14 := hb14.size
  obtain ⟨au0, cu0, rfl⟩ := hu0.shape
  go_wp2_with fail
  refine (SumTrio_c hu0.rd).mono ?_
  rintro e w15 ⟨h0, rfl, hh0, hb15⟩
  replace bw0 := bw0.later hb15; replace bw0_c := bw0.cell; replace bw0_f := bw0.frozen
  replace bg0 := bg0.later hb15; replace bg0_c := bg0.cell; replace bg0_f := bg0.frozen
  replace hw0 := hw0.keep hb15
  replace hg0 := hg0.keep hb15
  replace hu0 := hu0.keep hb15
  have hB15 := hB14.trans (hb15.mono hB14.size)
  have hz15 := hb15.size
  obtain ⟨ah0, ch0, rfl⟩ := hh0.shape
  clear hu0
  have nw_c := (Row.new w15 #[.int .i64 (sumN d0), (.slice ah0 ((sumR d0)).length ch0)] 27).cell
  have bw0_n := (bw0.alloc (.cells #[.int .i64 (sumN d0), (.slice ah0 ((sumR d0)).length ch0)] 27)).cell
  have bg0_n := (bg0.alloc (.cells #[.int .i64 (sumN d0), (.slice ah0 ((sumR d0)).length ch0)] 27)).cell
  go_wp2_with fail
  clear nw_c bw0_n bg0_n
  obtain ⟨w16, hw16⟩ : ∃ W, W = w15.alloc (.cells #[.int .i64 (sumN d0), (.slice ah0 ((sumR d0)).length ch0)] 27) := ⟨_, rfl⟩
  rw [← hw16]
  have hb16 : Below w15.heap.size w15 w16 := by rw [hw16]; exact bel_box _ _
  have bh0 : Row w16 w15.heap.size 27 #[.int .i64 (sumN d0), (.slice ah0 ((sumR d0)).length ch0)] := by rw [hw16]; exact Row.new _ _ _
  clear hw16
  replace bw0 := bw0.later hb16; replace bw0_c := bw0.cell; replace bw0_f := bw0.frozen
  replace bg0 := bg0.later hb16; replace bg0_c := bg0.cell; replace bg0_f := bg0.frozen
  replace hw0 := hw0.keep hb16
  replace hg0 := hg0.keep hb16
  replace hh0 := hh0.keep hb16
  have hB16 := hB15.trans (hb16.mono hB15.size)
  have hz16 := hb16.size
  have bh0_l := bh0.lt
  have bh0_c := bh0.cell; have bh0_f := bh0.frozen
  go_wp2_with fail
  refine (eqTrio_c (sumN d0) (sumN d0) hh0.rd hw0.rd).mono ?_
  rintro e w17 ⟨rfl, hb17⟩
  replace bw0 := bw0.later hb17; replace bw0_c := bw0.cell; replace bw0_f := bw0.frozen
  replace bg0 := bg0.later hb17; replace bg0_c := bg0.cell; replace bg0_f := bg0.frozen
  replace bh0 := bh0.later hb17; replace bh0_c := bh0.cell; replace bh0_f := bh0.frozen
  replace hw0 := hw0.keep hb17
  replace hg0 := hg0.keep hb17
  replace hh0 := hh0.keep hb17
  have hB17 := hB16.trans (hb17.mono hB16.size)
  have hz17 := hb17.size
  simp only [decide_true, true_and, and_self]
  go_wp2_with fail
  refine (heldTrio_c (sumN d0) _ hg0.rd (by omega) (by omega)).mono ?_
  rintro e w18 ⟨rfl, hb18⟩
  replace bw0 := bw0.later hb18; replace bw0_c := bw0.cell; replace bw0_f := bw0.frozen
  replace bg0 := bg0.later hb18; replace bg0_c := bg0.cell; replace bg0_f := bg0.frozen
  replace bh0 := bh0.later hb18; replace bh0_c := bh0.cell; replace bh0_f := bh0.frozen
  replace hw0 := hw0.keep hb18
  replace hg0 := hg0.keep hb18
  replace hh0 := hh0.keep hb18
  have hB18 := hB17.trans (hb18.mono hB17.size)
  have hz18 := hb18.size
  go_wp2
  go_ret
  exact ⟨rfl, hB18⟩

theorem FnExactSumTrio_e {v0 : Value} {x0 : List Int} {F0 : List Nat} {w : World} (h0 : tInts.rd false w [v0] x0 F0) :
    Calls Try.prog 7 #[v0] w fun e w' => e = .returned (.bool true) ∧ Below w.heap.size w w' := by
  exact FnExactSumTrio_w ⟨_, h0⟩

end Go.Proofs.Ytfgnjcodilebeaa
