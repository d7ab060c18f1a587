/- One part of the proof: laws.eqTrio. No condition beyond those of its theorems. -/
import Derived.Test.YtfgnjcodilebeaaBase
import Derived.Test.YtfgnjcodilebeaaFLawsXeqIntSS
namespace Go.Proofs.Ytfgnjcodilebeaa
open Go.RowKit
set_option maxHeartbeats 1000000 in
theorem eqTrio_c {la lb : List (List Int)} {va vb : Value} (na nb : Int) {w : World} (ha : RII w va la) (hb : RII w vb lb) :
    Calls Try.prog 19 #[.agg #[.int .i64 na, va], .agg #[.int .i64 nb, vb]] w fun e w' => e = .returned (.bool (decide (na = nb ∧ la = lb))) ∧ Below w.heap.size w w' := by
  have HA := Lib.hid ha
  have HB := Lib.hid hb
  obtain ⟨ao, cap, rfl, hl, hs, hc⟩ := Rd.sl ha rfl
  obtain ⟨bo, bap, rfl, hbl, hbs, hbc⟩ := Rd.sl hb rfl
  clear hs hbs ha hb hc hbc
  have hbb : ∀ o1 o2, Below w.heap.size w ((w.alloc o1).alloc o2) := fun o1 o2 => (bel_box _ _).alloc (by simp) _
  have HBB := Lib.hid hbb
  clear hbb
  by_cases hne : na = nb
  · cases hd : decide (la = lb)
    all_goals
      have h1 : (na != nb) = false := by simp [hne]
      have HN := Lib.hid hne
      clear hne
      go_enter Try.func19, Try.ntmps19
      go_wp2_with (go_at_call 56; refine (eqIntSS_c (Rd.keep HA.out (HBB.out _ _)) (Rd.keep HB.out (HBB.out _ _))).mono ?_; rintro e w' ⟨rfl, hb1⟩)
      go_ret
      exact ⟨ret_bool (by simpa [HN.out] using hd.symm), (HBB.out _ _).trans (hb1.mono (by simp; omega))⟩
  · have h1 : (na != nb) = true := by simp [hne]
    have HN := Lib.hid hne
    clear hne
    go_enter Try.func19, Try.ntmps19
    go_wp2
    go_ret
    exact ⟨ret_bool (by simp [HN.out]), HBB.out _ _⟩

end Go.Proofs.Ytfgnjcodilebeaa
