/- One part of the proof: impl.SignSum. No condition beyond those of its theorems. -/
import Derived.Test.YtfgnjcodilebeaaBase
import Derived.Test.YtfgnjcodilebeaaFImplIsTrio
import Derived.Test.YtfgnjcodilebeaaFImplTrioXagreements
import Derived.Test.YtfgnjcodilebeaaPCanon
namespace Go.Proofs.Ytfgnjcodilebeaa
open Go.RowKit
def signV (ll : List (List Int)) : Int := agrS ll 0 8 - agrS ll 3 8 - agrS ll 5 8 - agrS ll 6 8
def signR (n : Int) (ll : List (List Int)) : Int := if isTrio n ll = true then signV ll else 0
set_option maxRecDepth 100000 in
set_option maxHeartbeats 2000000 in
theorem SignSum_c {ll : List (List Int)} {v : Value} (n : Int) {w : World} (h : RII w v ll) :
    Calls Try.prog 40 #[.agg #[.int .i64 n, v]] w fun e w' => e = .returned (.tuple #[.int .i64 (signR n ll), .bool (isTrio n ll)]) ∧ Below w.heap.size w w' := by
  have H0 := Lib.hid h
  obtain ⟨ao, cap, rfl, hl, hs, hc⟩ := Rd.sl h rfl
  clear hs h hc
  go_enter Try.func40, Try.ntmps40
  cases ht : isTrio n ll
  · go_wp2_with fail
    refine (IsTrio_c n (Rd.keep H0.out (bel_box _ _))).mono ?_
    rintro e w1 ⟨rfl, hb1⟩
    obtain ⟨r1, hz1, hB1⟩ := rows1 hb1
    go_wp2
    go_ret2
    exact ⟨by simp [signR, ht], hB1⟩
  · have HT := Lib.hid ht
    go_wp2_with fail
    refine (IsTrio_c n (Rd.keep H0.out (bel_box _ _))).mono ?_
    rintro e w1 ⟨rfl, hb1⟩
    obtain ⟨r1, hz1, hB1⟩ := rows1 hb1
    have r1_c := r1.cell; have r1_f := r1.frozen
    go_wp2_with fail
    refine (agreements_c n (Rd.keep H0.out hB1) HT.out).mono ?_
    rintro e w2 ⟨v2, rfl, hv2, hb2⟩
    have hB2 := hB1.trans (hb2.mono hB1.size)
    obtain ⟨bo, bap, rfl, hbl, hbs, hbc⟩ := RI.opn hv2.rd
    have hiy := idx_run1 eInts sInts bo (agr ll 8).length bap hbs
    have ha : ∀ q, q < 8 → w2.cell? ((adr bo).add q) = some (.int .i64 (agrS ll q 8)) := fun q hq => by
      rw [hbc q (by rw [agr_len]; exact hq)]; simp [agr]
    rw [agr_len] at hiy
    have hal := agr_len ll 8
    simp only [hal]
    replace r1 := r1.later hb2; replace r1_c := r1.cell; replace r1_f := r1.frozen
    have d0 := agrS_bd HT.out 0 (by omega) 8 (by omega)
    have d1 := agrS_bd HT.out 1 (by omega) 8 (by omega)
    have d2 := agrS_bd HT.out 2 (by omega) 8 (by omega)
    have d3 := agrS_bd HT.out 3 (by omega) 8 (by omega)
    have d4 := agrS_bd HT.out 4 (by omega) 8 (by omega)
    have d5 := agrS_bd HT.out 5 (by omega) 8 (by omega)
    have d6 := agrS_bd HT.out 6 (by omega) 8 (by omega)
    have d7 := agrS_bd HT.out 7 (by omega) 8 (by omega)
    have e0 : w2.cell? (adr bo) = some (.int .i64 (agrS ll 0 8)) := by simpa [Addr.add] using ha 0 (by omega)
    have e1 : w2.cell? ⟨(adr bo).block, (adr bo).off + 1, none⟩ = some (.int .i64 (agrS ll 1 8)) := by simpa [Addr.add] using ha 1 (by omega)
    have e2 : w2.cell? ⟨(adr bo).block, (adr bo).off + 2, none⟩ = some (.int .i64 (agrS ll 2 8)) := by simpa [Addr.add] using ha 2 (by omega)
    have e3 : w2.cell? ⟨(adr bo).block, (adr bo).off + 3, none⟩ = some (.int .i64 (agrS ll 3 8)) := by simpa [Addr.add] using ha 3 (by omega)
    have e4 : w2.cell? ⟨(adr bo).block, (adr bo).off + 4, none⟩ = some (.int .i64 (agrS ll 4 8)) := by simpa [Addr.add] using ha 4 (by omega)
    have e5 : w2.cell? ⟨(adr bo).block, (adr bo).off + 5, none⟩ = some (.int .i64 (agrS ll 5 8)) := by simpa [Addr.add] using ha 5 (by omega)
    have e6 : w2.cell? ⟨(adr bo).block, (adr bo).off + 6, none⟩ = some (.int .i64 (agrS ll 6 8)) := by simpa [Addr.add] using ha 6 (by omega)
    have e7 : w2.cell? ⟨(adr bo).block, (adr bo).off + 7, none⟩ = some (.int .i64 (agrS ll 7 8)) := by simpa [Addr.add] using ha 7 (by omega)
    clear hv2 hbs hbl hbc hal
    clear ha
    have x0 : IntKind.i64.wrap (agrS ll 0 8 - agrS ll 3 8) = agrS ll 0 8 - agrS ll 3 8 := IntWalk.i64_in _ (by omega)
    have x1 : IntKind.i64.wrap (agrS ll 0 8 - agrS ll 3 8 - agrS ll 5 8) = agrS ll 0 8 - agrS ll 3 8 - agrS ll 5 8 := IntWalk.i64_in _ (by omega)
    have x2 : IntKind.i64.wrap (agrS ll 0 8 - agrS ll 3 8 - agrS ll 5 8 - agrS ll 6 8) = agrS ll 0 8 - agrS ll 3 8 - agrS ll 5 8 - agrS ll 6 8 := IntWalk.i64_in _ (by omega)
    go_wp2
    refine wp_region_D (fun _ => false) [(0, true), (1, true), (2, true), (3, true), (4, true), (5, true), (6, true), (7, true), (8, true), (9, true), (10, true), (11, true), (12, true), (13, true), (14, true), (15, true), (16, true)] (by kernel_rfl) (by kernel_rfl) ?_; simp only [List.map_cons, List.map_nil, List.getElem?_toArray, List.getElem?_cons_zero, List.getElem?_cons_succ]
    repeat (first | (refine wpD_skip (by rfl) ?_; (try simp only [Act.put, List.setIfInBounds_toArray, List.set_cons_zero, List.set_cons_succ])) | (refine wpD_take (v := ?_) (by rfl) ?_ ?_; rotate_left; (intro wS hS; unfold CellS at hS; go_simp; try with_reducible rfl); (try simp only [Act.put, List.setIfInBounds_toArray, List.set_cons_zero, List.set_cons_succ])))
    refine wpD_nil ?_
    go_wp2
    go_ret2
    exact ⟨by simp [signR, signV, ht], hB2.drew⟩

end Go.Proofs.Ytfgnjcodilebeaa
