/- One part of the proof: spec.SumTrio. No condition beyond those of its theorems. -/
import Derived.Test.YtfgnjcodilebeaaBase
import Derived.Test.YtfgnjcodilebeaaFSpecXl11Sums
import Derived.Test.YtfgnjcodilebeaaFRowF
import Derived.Test.YtfgnjcodilebeaaFImplSumTrio
import Derived.Test.YtfgnjcodilebeaaFImplXisBits
import Derived.Test.YtfgnjcodilebeaaFSpecXl2Bits
namespace Go.Proofs.Ytfgnjcodilebeaa
open Go.RowKit
set_option maxRecDepth 100000 in
set_option maxHeartbeats 1000000 in
theorem spSumTrio_c {l : List Int} {v : Value} {w : World} (h : RI w v l) :
    Calls Try.prog 31 #[v] w fun e w' => ∃ v', e = .returned (.tuple #[.agg #[.int .i64 (sumN l), v'], .bool (isBits l (8 : Nat))]) ∧ Own tIntss w' v' (sumR l) w.heap.size ∧ Below w.heap.size w w' := by
  have H0 := Lib.hid h
  obtain ⟨ao, cap, rfl, hl, hs, hc⟩ := h.opn
  clear hs h hc
  go_enter Try.func31, Try.ntmps31
  cases ht : isBits l (8 : Nat)
  · have HT := Lib.hid ht
    clear ht
    go_wp2_with fail
    refine (l2Bits_c (8 : Nat) (Rd.keep H0.out (bel_box _ _))).mono ?_
    rintro e w1 ⟨rfl, rfl⟩
    rw [HT.out]
    go_wp2
    have r2 := Row.new w #[.int .i64 0, .slice none 0 0] 27
    have c0 := r2.cellS (j := 0) rfl
    have c1 := r2.cellS (j := 1) rfl
    refine bodyPost_ret (v := .tuple #[.agg #[.int .i64 0, .slice none 0 0], .bool false]) (by simp [results, Try.results31, go_sem, c0, c1]) rfl ⟨.slice none 0 0, by rw [sumN, HT.out]; rfl, ?_, bel_box _ _⟩
    rw [sumR, HT.out]
    exact (OwnS.nil tInts 31 _ _).own (by simp)
  · have HT := Lib.hid ht
    clear ht
    go_wp2_with fail
    refine (l2Bits_c (8 : Nat) (Rd.keep H0.out (bel_box _ _))).mono ?_
    rintro e w1 ⟨rfl, rfl⟩
    rw [HT.out]
    go_wp2_with fail
    refine (l11Sums_c (Rd.keep H0.out (bel_box _ _)) HT.out).mono ?_
    · rintro e w1 ⟨v', rfl, hv, hb1⟩
      obtain ⟨aq, cq, rfl⟩ : ∃ aq cq, v' = .slice aq 8 cq := by obtain ⟨a, c, h⟩ := hv.shape; exact ⟨a, c, by rw [h, gridF_len]⟩
      obtain ⟨r2, hZ, hB⟩ := rows1 hb1
      have f0 := r2.frozen 0
      have f1 := r2.frozen 1
      have c0 := r2.cellS (j := 0) rfl
      have c1 := r2.cellS (j := 1) rfl
      go_wp2
      refine bodyPost_ret (v := .tuple #[.agg #[.int .i64 4, .slice aq 8 cq], .bool true]) (by simp [results, Try.results31, go_sem, c0, c1]) rfl ⟨_, by rw [sumN, HT.out]; rfl, ?_, ?_⟩
      · rw [sumR, HT.out]
        exact ((hv.setCell (by simp) _).setCell (by simp) _).mono (by simp <;> omega)
      · exact (hB.setCell (by simp <;> omega) _).setCell (by simp <;> omega) _

end Go.Proofs.Ytfgnjcodilebeaa
