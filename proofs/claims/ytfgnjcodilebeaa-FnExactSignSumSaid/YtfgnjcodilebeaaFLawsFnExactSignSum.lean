/- One part of the proof: laws.FnExactSignSum. No condition beyond those of its theorems. -/
import Derived.Test.YtfgnjcodilebeaaBase
import Derived.Test.YtfgnjcodilebeaaFImplSignSum
import Derived.Test.YtfgnjcodilebeaaFLawsXeqTrio
import Derived.Test.YtfgnjcodilebeaaFLawsXszIntS
import Derived.Test.YtfgnjcodilebeaaFLawsXszIntSS
import Derived.Test.YtfgnjcodilebeaaFLawsXszTrio
import Derived.Test.YtfgnjcodilebeaaFLawsXtoTrio
import Derived.Test.YtfgnjcodilebeaaPCanon
import Derived.Test.YtfgnjcodilebeaaFSpecSignSum
namespace Go.Proofs.Ytfgnjcodilebeaa
open Go.RowKit
set_option maxRecDepth 100000 in
set_option maxHeartbeats 2000000 in
theorem FnExactSignSum_w {n : Int} {ll : List (List Int)} {v : Value} {w : World} (h : RII w v ll) :
    Calls Try.prog 10 #[.agg #[.int .i64 n, v]] w fun e w' => e = .returned (.bool true) ∧ Below w.heap.size w w' := by
  have H0 := Lib.hid h
  obtain ⟨ao, cap, rfl, hl, hs, hc⟩ := Rd.sl h rfl
  clear hs h hc
  go_enter Try.func10, Try.ntmps10
  go_wp2_with fail
  refine (szTrio_c n _ (Rd.keep H0.out (bel_box _ _)) (by omega) (by omega)).mono ?_
  rintro e w1 ⟨r, rfl, hr, hb1⟩
  obtain ⟨r1, hz1, hB1⟩ := rows1 hb1
  have r1_c := r1.cell; have r1_f := r1.frozen
  by_cases hr0 : r < 0
  · go_wp2
    go_ret
    exact ⟨rfl, hB1⟩
  have hsz : szII ll ≤ 1048576 := by unfold SzP at hr; omega
  have HSZ := Lib.hid hsz
  clear hsz hr
  go_wp2_with fail
  refine (toTrio_c n (Rd.keep H0.out hB1) HSZ.out).mono ?_
  rintro e w2 ⟨v2, rfl, hv2, hb2⟩
  have hB2 := hB1.trans (hb2.mono hB1.size)
  go_wp2_with fail
  refine (spSignSum_c n hv2.rd).mono ?_
  rintro e w3 ⟨rfl, hb3⟩
  have hB3 := hB2.trans (hb3.mono hB2.size)
  have hb23 := hb2.trans (hb3.mono hb2.size)
  replace r1 := r1.later hb23; replace r1_c := r1.cell; replace r1_f := r1.frozen
  clear hv2 hb2 hb3 hb23
  go_wp2_with fail
  refine (toTrio_c n (Rd.keep H0.out hB3) HSZ.out).mono ?_
  rintro e w4 ⟨v4, rfl, hv4, hb4⟩
  have hB4 := hB3.trans (hb4.mono hB3.size)
  obtain ⟨a4, c4, rfl⟩ := hv4.shape
  have hs4 := hv4.rd
  replace r1 := r1.later hb4; replace r1_c := r1.cell; replace r1_f := r1.frozen
  go_wp2_with fail
  refine (SignSum_c n (Rd.keep hs4 (bel_box _ _))).mono ?_
  rintro e w5 ⟨rfl, hb5⟩
  obtain ⟨r2, hz2, hb5'⟩ := rows1 hb5
  have r2_c := r2.cell; have r2_f := r2.frozen
  replace r1 := r1.later hb5'; replace r1_c := r1.cell; replace r1_f := r1.frozen
  have hB5 := hB4.trans (hb5'.mono hB4.size)
  have HQ := Lib.hid (hs4.keep hb5')
  go_wp2
  refine wp_region_D (fun _ => false) [(0, true), (1, true), (2, false), (3, false), (4, true)] (by kernel_rfl) (by kernel_rfl) ?_; simp only [List.map_cons, List.map_nil, List.getElem?_toArray, List.getElem?_cons_zero, List.getElem?_cons_succ]
  repeat (first | (refine wpD_skip (by rfl) ?_; (try simp only [Act.put, List.setIfInBounds_toArray, List.set_cons_zero, List.set_cons_succ])) | (refine wpD_take (v := ?_) (by rfl) ?_ ?_; rotate_left; (intro wS hS; unfold CellS at hS; go_simp; try with_reducible rfl); (try simp only [Act.put, List.setIfInBounds_toArray, List.set_cons_zero, List.set_cons_succ])))
  refine wpD_do (by rfl) (fun K hK => ?_); go_simp; refine Calls.mono (toTrio_c n (Rd.keep H0.out hB5).drew HSZ.out) ?_; rintro e w6 ⟨v6, rfl, hv6, hb6⟩; refine hK _ _ (CellS.of hb6) ?_; clear hK K; (try simp only [Act.put, List.setIfInBounds_toArray, List.set_cons_zero, List.set_cons_succ])
  have hB6 := hB5.drew.trans (hb6.mono hB5.size)
  refine wpD_do (by rfl) (fun K hK => ?_); go_simp; refine Calls.mono (eqTrio_c n n (HQ.out.drew.keep hb6) hv6.rd) ?_; rintro e w7 ⟨rfl, hb7⟩; refine hK _ _ (CellS.of hb7) ?_; clear hK K; (try simp only [Act.put, List.setIfInBounds_toArray, List.set_cons_zero, List.set_cons_succ])
  have hB7 := hB6.trans (hb7.mono hB6.size)
  simp only [decide_true, true_and, and_self]
  repeat (first | (refine wpD_skip (by rfl) ?_; (try simp only [Act.put, List.setIfInBounds_toArray, List.set_cons_zero, List.set_cons_succ])) | (refine wpD_take (v := ?_) (by rfl) ?_ ?_; rotate_left; (intro wS hS; unfold CellS at hS; go_simp; try with_reducible rfl); (try simp only [Act.put, List.setIfInBounds_toArray, List.set_cons_zero, List.set_cons_succ])))
  refine wpD_nil ?_
  go_wp2
  go_ret
  exact ⟨rfl, hB7⟩

theorem FnExactSignSum_e {cs : List Value} {x : Int × List (List Int)} {F : List Nat} {w : World} (h : (tPair tInt tIntss).rd false w cs x F) :
    Calls Try.prog 10 #[.agg cs.toArray] w fun e w' => e = .returned (.bool true) ∧ Below w.heap.size w w' := by
  obtain ⟨c1, c2, F1, F2, rfl, rfl, ⟨rfl, rfl⟩, h2⟩ := h
  match c2, tIntss.len h2 with
  | [v], _ => exact FnExactSignSum_w ⟨_, h2⟩

end Go.Proofs.Ytfgnjcodilebeaa
