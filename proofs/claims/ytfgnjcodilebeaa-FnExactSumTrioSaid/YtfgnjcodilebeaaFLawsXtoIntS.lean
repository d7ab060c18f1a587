/- One part of the proof: laws.toIntS. No condition beyond those of its theorems. -/
import Derived.Test.YtfgnjcodilebeaaBase
import Derived.Test.YtfgnjcodilebeaaPCanon
namespace Go.Proofs.Ytfgnjcodilebeaa
open Go.RowKit
set_option maxHeartbeats 1000000 in
theorem toIntS_c {l : List Int} {v : Value} {w : World} (h : RI w v l) (hb20 : l.length ≤ 1048576) :
    Calls Try.prog 21 #[v] w fun e w' => ∃ v', e = .returned v' ∧ Own tInts w' v' l w.heap.size ∧ Below w.heap.size w w' := by
  obtain ⟨ao, cap, rfl, hl, hs, hc⟩ := h.opn
  have hix := idx_run1 eInts sInts ao l.length cap hs
  obtain ⟨xs, hxs⟩ : ∃ xs, xs = l.map (Value.int .i64) := ⟨_, rfl⟩
  have hxl : xs.length = l.length := by rw [hxs, List.length_map]
  have HX := Lib.hid hxs
  have HL := Lib.hid hxl
  clear hs h hxs hxl
  go_enter Try.func21, Try.ntmps21
  go_wp2_with (at_make; refine mk_row 31 3 (.int .i64 0) 8 l.length rfl rfl uInts info_int rfl rfl rfl (by omega) (by omega) ?_; intro w1 hrow hb1)
  go_loopw [4] (fun i wr => ∃ k : Nat, k ≤ l.length ∧ i = .int .i64 k ∧ Below w.heap.size w wr ∧ Row wr w.heap.size 3 (fillRow (.int .i64 0) xs l.length k)) (fun i _ => l.length - (intOf i).toNat)
  case atStart => exact ⟨0, by omega, rfl, hb1, by rw [fillRow_zero]; exact hrow⟩
  case round =>
    clear hrow hb1
    obtain ⟨k, hk, rfl, hb, hrow⟩ := hrel
    by_cases hlt : k < l.length
    · have hck := hc k hlt
      rw [← CellS.of hb _ (by rw [hck]; rfl)] at hck
      have h1 := hrow.cellS (fillRow_get HL.out hlt)
      have h2 := hrow.frozen k
      clear hc
      go_wp2
      go_roundw
      case rel =>
        refine ⟨k + 1, by omega, by go_num, hb.setCell (Nat.le_refl _) _, ?_⟩
        have := hrow.set k (.int .i64 l[k])
        rw [show Value.int .i64 l[k] = xs[k]'(by rw [HL.out]; exact hlt) from by simp [HX.out], fillRow_set HL.out hlt] at this
        simpa [HX.out] using this
      case measure => simp [intOf]; omega
    · clear hc
      go_wp2
      go_ret
      have hkl : k = l.length := by omega
      subst hkl
      rw [fillRow_all HL.out] at hrow
      exact ⟨_, rfl, own_ints _ hrow HX.out hl (Nat.le_refl _), hb⟩

end Go.Proofs.Ytfgnjcodilebeaa
