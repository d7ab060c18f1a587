/- The statement FnExactCrashLog is proved: it returns true for every input. No condition. -/
import Derived.Test.YtdnkmgbbkggmdaaDoorRows
import Derived.Test.YtdnkmgbbkggmdaaDoorTie
import Derived.Test.YtdnkmgbbkggmdaaDoorCards
import Derived.SevenTiedAt
import Derived.WalkKit
import Derived.ProofKit
import Derived.OpenShut
import Derived.ShutString
import Derived.ChangeOld
import Derived.Below
import Derived.Test.YtdnkmgbbkggmdaaDoorKfnsFnExactCrashLogA
import Derived.Test.YtdnkmgbbkggmdaaDoorKplainA
import Derived.Test.YtdnkmgbbkggmdaaDoorKfnsFnExactCrashLogB
set_option linter.unusedVariables false
set_option linter.unusedSimpArgs false
namespace Go.Proofs.YtdnkmgbbkggmdaaDoor
open Go.RowKit
set_option maxRecDepth 10000
set_option maxHeartbeats 4000000
namespace fnExactCrashLog
open Go.ChangeShapes Go.WideShapes Go.ChangeAt Go.RowKit
open Go.ChangeMaps (open_string shut_string)
set_option linter.unusedVariables false
theorem gT : Tryd.prog.globalNamed tabNm = some 1 := by kernel_rfl
instance glb : Glb := ⟨fun w => Go.Lib.TabIs Tryd.prog w tabNm .u64 Go.Lib.pow10Tab, fun g => g = 1, fun h hk => tab_keep gT h (hk _ rfl), fun h hg => by subst hg; exact tab_lt gT h⟩
instance gtab : GTab Tryd.prog tabNm := ⟨fun _ h => h⟩
theorem mem_lays : (tabNm, (Go.Lib.tabData .u64 Go.Lib.pow10Tab : DataW Unit)) ∈ Rows.fnExactCrashLogRow.laid := List.mem_of_getElem? (i := 2) (by kernel_rfl)

theorem own : ownKnob Tryd.prog.godebug = none := by kernel_rfl
theorem laidOut : laidOutB Tryd.prog = true := by kernel_rfl
abbrev lays : List (String × DataW Unit) := Rows.fnExactCrashLogRow.laid
noncomputable def laidWorld (os : Os) : World := { World.holding Tryd.prog os ⟨#[], #[], []⟩ with heap := layAll Tryd.prog lays (World.holding Tryd.prog os ⟨#[], #[], []⟩).heap }
theorem laid_met (os : Os) (args : Array Value) : laidMet Tryd.prog lays ((laidWorld os).forCall (fun _ _ => 0) ⟨#[], args, []⟩).memory :=
  (LaidIn.of_run (lays.filterMap fun x => Tryd.prog.globalNamed x.1) 8 (by kernel_rfl) (by kernel_rfl) (by kernel_rfl) (by kernel_rfl)).met
theorem rd_9 : PR Tryd.prog 9 fun x : ByteArray => [dS x] := pr_str (by kernel_rfl)
theorem rd_3 : PR Tryd.prog 3 fun x : Int => [dI x] := pr_int (by kernel_rfl)
theorem rd_36 : PR Tryd.prog 36 fun x : (ByteArray) × (ByteArray) × (Int) × Unit => ([dS x.1] ++ ([dS x.2.1] ++ ([dI x.2.2.1] ++ []))) := pr_struct (prl_cons rd_9 (prl_cons rd_9 (prl_cons rd_3 prl_nil))) Tryd.underlying36 (by kernel_rfl) (by kernel_rfl)
theorem rd_4 : PR Tryd.prog 4 fun x : Bool => [dB x] := pr_bool (by kernel_rfl)

set_option maxRecDepth 100000 in
theorem lifted (os : Os) (started : os.Started) (H : Type) (enc : TypeId × Value → H) :
    ReturnsInHanded {} Tryd.checked os 6 .any (fun w args => (Rows.fnExactCrashLogSpec.pre enc Tryd.prog Tryd.f6 Rows.fnExactCrashLogRow.domain false w args ∧ laidMet Tryd.prog lays w) ∧ sizedMet enc Tryd.prog Tryd.f6 (OpenSpec.ofChange Rows.fnExactCrashLogSpec) false w args) (Rows.fnExactCrashLogSpec.post enc Tryd.prog Tryd.f6 false true false false) := by
  refine returnsInHanded_of_change_and (C := Tryd.checked) (X := fun w _ => laidMet Tryd.prog lays w) (fun _ _ _ hh h => h.of_heap hh) own started (by kernel_rfl) Tryd.func6
    (ChangeSpec.witness_at (enc := enc) (C := Tryd.checked) (os := os) (X := fun w _ => laidMet Tryd.prog lays w) false (laidWorld os) #[.agg #[.string ByteArray.empty, .string ByteArray.empty, .int .i64 0], .int .i64 0, .bool false] 8 rfl (by kernel_rfl) (by kernel_rfl) (by kernel_rfl) (by kernel_rfl) (by kernel_rfl) (laid_met os _)) ?_
  intro W base args ds gs before hval0 hW hcnd _ hL _
  have htab : Go.Lib.TabIs Tryd.prog W tabNm .u64 Go.Lib.pow10Tab := by
    obtain ⟨ps, hl, _, _⟩ := hL
    exact tab_in gT (t := 117) (by kernel_rfl) (e := 77) (n := 20) Tryd.underlying117 Tryd.underlying77 (by kernel_rfl) (by kernel_rfl) _ _ hl mem_lays
  have hval : ∀ (j : Nat) t v, Tryd.f6.params[j]? = some t → args[j]? = some v → Value.okWide Tryd.prog W .any base t v := hval0
  have hW' := hW
  obtain ⟨p, q, hA0, hV, rfl, hfz, hnd⟩ := hW
  have hA : DataW.TrodAll enc Tryd.prog W 0 (fun _ => true) true Tryd.f6.params.toList args.toList ds p := hA0
  rw [Tryd.params6] at hA hval
  obtain ⟨v0, vs0, d0, ds0, p0, q0, hargs, rfl, rfl, h0, r0⟩ := trodAll_cons hA
  obtain ⟨v1, vs1, d1, ds1, p1, q1, rfl, rfl, rfl, h1, r1⟩ := trodAll_cons r0
  obtain ⟨v2, vs2, d2, ds2, p2, q2, rfl, rfl, rfl, h2, r2⟩ := trodAll_cons r1
  obtain ⟨rfl, rfl, rfl⟩ := trodAll_nil r2
  obtain rfl : args = #[v0, v1, v2] := by cases args; simp_all
  obtain ⟨rfl, rfl⟩ := trodVars_none hV
  have k0 := h0
  have lt0 : ∀ x ∈ p0, x.block < W.heap.size := by obtain ⟨m, hm⟩ := k0; exact DataW.trod_lt m _ _ _ hm
  obtain ⟨cs0, rfl, hsz0⟩ := okWide_struct Tryd.underlying36 (hval 0 36 v0 rfl rfl)
  obtain ⟨fuel0, hf0⟩ := h0
  obtain ⟨⟨x0_0, x0_1, x0_2, ⟨⟩⟩, w0⟩ := rd_36 enc W fuel0 _ _ hf0
  have k1 := h1
  have lt1 : ∀ x ∈ p1, x.block < W.heap.size := by obtain ⟨m, hm⟩ := k1; exact DataW.trod_lt m _ _ _ hm
  obtain ⟨n1, rfl⟩ := okWide_int Tryd.underlying3 (hval 1 3 v1 rfl rfl)
  obtain ⟨fuel1, hf1⟩ := h1
  obtain ⟨x1, w1⟩ := rd_3 enc W fuel1 _ _ hf1
  have k2 := h2
  have lt2 : ∀ x ∈ p2, x.block < W.heap.size := by obtain ⟨m, hm⟩ := k2; exact DataW.trod_lt m _ _ _ hm
  obtain ⟨b2, rfl⟩ := okWide_bool Tryd.underlying4 (hval 2 4 v2 rfl rfl)
  obtain ⟨fuel2, hf2⟩ := h2
  obtain ⟨x2, w2⟩ := rd_4 enc W fuel2 _ _ hf2
  clear hA0 hval0
  refine (PC.law (FnExactCrashLog_p x0_0 x0_1 x0_2 x1 x2) htab (.cons (VwD.g w0) (.cons (VwD.c w1) (.cons (VwD.c w2) .nil)))).mono fun e W' ⟨he, bel⟩ => ?_
  subst he
  exact ⟨_, rfl, _, _, _, [], _, [], hW', trodAll_mk1 (shut_bool Tryd.underlying4 _), (trodAll_cons_mk (Below.trod laidOut (by kernel_rfl) (of_decide_eq_true (by kernel_rfl)) k0 bel lt0) (trodAll_cons_mk (Below.trod laidOut (by kernel_rfl) (of_decide_eq_true (by kernel_rfl)) k1 bel lt1) (trodAll_cons_mk (Below.trod laidOut (by kernel_rfl) (of_decide_eq_true (by kernel_rfl)) k2 bel lt2) trodAll_mk0))), rfl, bel.frame _, fun h => by cases h⟩

theorem over : Rows.fnExactCrashLogRow.holds Tryd.pinned (OpenSpec.ofChange Rows.fnExactCrashLogSpec) :=
  OpenClaim.holds_of_wide 6 Tryd.f6 rfl rfl rfl rfl rfl rfl rfl ⟨rfl, rfl, rfl, rfl, rfl⟩ rfl rfl rfl rfl rfl (by kernel_rfl) Tryd.func6 (by kernel_rfl)
    (of_decide_eq_true (by kernel_rfl)) (by unfold Func.isWrapper; first | (rw [if_pos (by decide +kernel)]; kernel_rfl) | (rw [if_neg (by decide +kernel)]; exact ⟨rfl, rfl⟩))
    (fun os started H enc _ => lifted os started H enc)

theorem proved : Rows.FnExactCrashLogCardSaid :=
  Claim7.holds_tied_plain_at .later [] [.data, .data, .data] true Rows.fnExactCrashLogCard.stood.harness Rows.fnExactCrashLogCard.stood.looks
    over (fun _ h => by cases h) (by kernel_rfl) (fun _ h => by cases h) fnExactCrashLog_row_tie rfl ⟨rfl, rfl⟩ (by kernel_rfl) rfl
    (fun f fn hf hfn => by
      obtain rfl : f = 6 := Option.some.inj ((show Tryd.prog.funcNamed Rows.fnExactCrashLogRow.func = some 6 by kernel_rfl).symm.trans hf) |>.symm
      obtain rfl : fn = Tryd.f6 := (Option.some.inj (Tryd.func6.symm.trans hfn)).symm
      have hall : (Tryd.f6.params.all fun t => !(Tryd.prog.wantsStandIn t)) = true := by kernel_rfl
      refine ⟨by kernel_rfl, fun j t ht => ?_⟩
      show Tryd.prog.wantsStandIn t = false
      simpa using (Array.all_eq_true_iff_forall_mem.1 hall) t (Array.mem_of_getElem? ht))
    (by kernel_rfl)
end fnExactCrashLog

end Go.Proofs.YtdnkmgbbkggmdaaDoor
