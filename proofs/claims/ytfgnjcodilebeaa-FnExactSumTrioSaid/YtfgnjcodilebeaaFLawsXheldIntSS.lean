/- One part of the proof: laws.heldIntSS. No condition beyond those of its theorems. -/
import Derived.Test.YtfgnjcodilebeaaBase
import Derived.Test.YtfgnjcodilebeaaFLawsXheldIntS
import Derived.Test.YtfgnjcodilebeaaFLawsXmarkIntS
import Derived.Test.YtfgnjcodilebeaaFLawsXmarkIntSS
import Derived.Test.YtfgnjcodilebeaaPCanon
namespace Go.Proofs.Ytfgnjcodilebeaa
open Go.RowKit
set_option maxHeartbeats 1000000 in
theorem heldIntSS_c {ll : List (List Int)} {v : Value} (k : Int) {w : World} (h : RII w v (markII k ll)) (h0 : 0 ≤ k) (h1 : k + offs ll ll.length ≤ 1099511627776) :
    Calls Try.prog 70 #[v, .int .i64 k] w fun e w' => e = .returned (.int .i64 (k + offs ll ll.length)) ∧ Below w.heap.size w w' := by
  obtain ⟨ao, cap, rfl, hl, hs, hc⟩ := Rd.sl h rfl
  have hix := idx_run1 eIntss sIntss ao (markII k ll).length cap hs
  have hc' : ∀ q (hq : q < ll.length), ∃ u, w.cell? ((adr ao).add q) = some u ∧ RI w u (iota (k + offs ll q) ll[q].length) := fun q hq => by
    obtain ⟨u, hu, hr⟩ := hc q (by rw [markII_len]; exact hq)
    exact ⟨u, hu, by simpa [markII, hq] using hr⟩
  rw [markII_len] at hix
  simp only [markII_len]
  rw [markII_len] at hl
  clear hs h hc
  go_enter Try.func70, Try.ntmps70
  go_wp2
  go_loopw [5, 1] (fun i b wr => ∃ (q : Nat), q ≤ ll.length ∧ i = .int .i64 q ∧ b = .int .i64 (k + offs ll q) ∧ Below w.heap.size w wr) (fun i _ _ => ll.length - (intOf i).toNat)
  case atStart => exact ⟨0, by omega, rfl, by simp [offs], Below.refl _ _⟩
  case round =>
    obtain ⟨q, hq, rfl, rfl, hb⟩ := hrel
    by_cases hlt : q < ll.length
    · obtain ⟨u, hcq, hu⟩ := hc' q hlt
      rw [← CellS.of hb _ (by rw [hcq]; rfl)] at hcq
      have HU := Lib.hid (Rd.keep hu hb)
      have hle := offs_le ll (q + 1)
      have hsu := offs_succ ll q hlt
      have HSU := Lib.hid hsu
      rw [hsu] at hle
      clear hsu hc' hu
      go_wp2_with (go_at_call 49; refine (heldIntS_c _ HU.out (by omega) (by omega)).mono ?_; rintro e w1 ⟨rfl, hb1⟩)
      go_roundw
      case rel => exact ⟨q + 1, by omega, by go_num, by rw [HSU.out]; go_num, hb.trans (hb1.mono hb.size)⟩
      case measure => simp [intOf]; omega
    · have hqe : q = ll.length := by omega
      subst hqe
      clear hc'
      go_wp2
      go_ret
      exact ⟨rfl, hb⟩

end Go.Proofs.Ytfgnjcodilebeaa
