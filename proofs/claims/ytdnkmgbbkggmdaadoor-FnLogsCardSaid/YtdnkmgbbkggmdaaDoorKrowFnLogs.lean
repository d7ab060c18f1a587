/- The statement FnLogs is proved: it returns true for every input. No condition. -/
import Derived.Test.YtdnkmgbbkggmdaaDoorRows
import Derived.Test.YtdnkmgbbkggmdaaDoorTie
import Derived.Test.YtdnkmgbbkggmdaaDoorCards
import Derived.SevenTiedAt
import Derived.WalkKit
import Derived.ProofKit
import Derived.OpenShut
import Derived.ShutString
import Derived.ChangeOld
import Derived.Below
import Derived.Test.YtdnkmgbbkggmdaaDoorKfnsFnLogsA
import Derived.Test.YtdnkmgbbkggmdaaDoorKplainA
import Derived.Test.YtdnkmgbbkggmdaaDoorKfnsFnLogsB
import Derived.Test.YtdnkmgbbkggmdaaDoorKplainC
set_option linter.unusedVariables false
set_option linter.unusedSimpArgs false
namespace Go.Proofs.YtdnkmgbbkggmdaaDoor
open Go.RowKit
set_option maxRecDepth 10000
set_option maxHeartbeats 4000000
namespace fnLogs
open Go.ChangeShapes Go.WideShapes Go.ChangeAt Go.RowKit
open Go.ChangeMaps (open_string shut_string)
set_option linter.unusedVariables false
theorem gT : Tryd.prog.globalNamed tabNm = some 1 := by kernel_rfl
instance glb : Glb := ⟨fun w => Go.Lib.TabIs Tryd.prog w tabNm .u64 Go.Lib.pow10Tab, fun g => g = 1, fun h hk => tab_keep gT h (hk _ rfl), fun h hg => by subst hg; exact tab_lt gT h⟩
instance gtab : GTab Tryd.prog tabNm := ⟨fun _ h => h⟩
theorem mem_lays : (tabNm, (Go.Lib.tabData .u64 Go.Lib.pow10Tab : DataW Unit)) ∈ Rows.fnLogsRow.laid := List.mem_of_getElem? (i := 2) (by kernel_rfl)

theorem own : ownKnob Tryd.prog.godebug = none := by kernel_rfl
theorem laidOut : laidOutB Tryd.prog = true := by kernel_rfl
abbrev lays : List (String × DataW Unit) := Rows.fnLogsRow.laid
noncomputable def laidWorld (os : Os) : World := { World.holding Tryd.prog os ⟨#[], #[], []⟩ with heap := layAll Tryd.prog lays (World.holding Tryd.prog os ⟨#[], #[], []⟩).heap }
theorem laid_met (os : Os) (args : Array Value) : laidMet Tryd.prog lays ((laidWorld os).forCall (fun _ _ => 0) ⟨#[], args, []⟩).memory :=
  (LaidIn.of_run (lays.filterMap fun x => Tryd.prog.globalNamed x.1) 8 (by kernel_rfl) (by kernel_rfl) (by kernel_rfl) (by kernel_rfl)).met
theorem rd_5 : PR Tryd.prog 5 fun x : UInt8 => [dY x] := pr_u8 (by kernel_rfl)
theorem rd_53 : PR Tryd.prog 53 fun x : List (UInt8) => [.sl 1 x.length (x.map fun z => dY z)] := pr_sl1 (by kernel_rfl) rd_5 (by kernel_rfl)

set_option maxRecDepth 100000 in
theorem lifted (os : Os) (started : os.Started) (H : Type) (enc : TypeId × Value → H) :
    ReturnsInHanded {} Tryd.checked os 10 .any (fun w args => (Rows.fnLogsSpec.pre enc Tryd.prog Tryd.f10 Rows.fnLogsRow.domain false w args ∧ laidMet Tryd.prog lays w) ∧ sizedMet enc Tryd.prog Tryd.f10 (OpenSpec.ofChange Rows.fnLogsSpec) false w args) (Rows.fnLogsSpec.post enc Tryd.prog Tryd.f10 false true false false) := by
  refine returnsInHanded_of_change_and (C := Tryd.checked) (X := fun w _ => laidMet Tryd.prog lays w) (fun _ _ _ hh h => h.of_heap hh) own started (by kernel_rfl) Tryd.func10
    (ChangeSpec.witness_at (enc := enc) (C := Tryd.checked) (os := os) (X := fun w _ => laidMet Tryd.prog lays w) false (laidWorld os) #[.slice none 0 0] 8 rfl (by kernel_rfl) (by kernel_rfl) (by kernel_rfl) (by kernel_rfl) (by kernel_rfl) (laid_met os _)) ?_
  intro W base args ds gs before hval0 hW hcnd _ hL _
  have htab : Go.Lib.TabIs Tryd.prog W tabNm .u64 Go.Lib.pow10Tab := by
    obtain ⟨ps, hl, _, _⟩ := hL
    exact tab_in gT (t := 117) (by kernel_rfl) (e := 77) (n := 20) Tryd.underlying117 Tryd.underlying77 (by kernel_rfl) (by kernel_rfl) _ _ hl mem_lays
  have hval : ∀ (j : Nat) t v, Tryd.f10.params[j]? = some t → args[j]? = some v → Value.okWide Tryd.prog W .any base t v := hval0
  have hW' := hW
  obtain ⟨p, q, hA0, hV, rfl, hfz, hnd⟩ := hW
  have hA : DataW.TrodAll enc Tryd.prog W 0 (fun _ => true) true Tryd.f10.params.toList args.toList ds p := hA0
  rw [Tryd.params10] at hA hval
  obtain ⟨v0, vs0, d0, ds0, p0, q0, hargs, rfl, rfl, h0, r0⟩ := trodAll_cons hA
  obtain ⟨rfl, rfl, rfl⟩ := trodAll_nil r0
  obtain rfl : args = #[v0] := by cases args; simp_all
  obtain ⟨rfl, rfl⟩ := trodVars_none hV
  have k0 := h0
  have lt0 : ∀ x ∈ p0, x.block < W.heap.size := by obtain ⟨m, hm⟩ := k0; exact DataW.trod_lt m _ _ _ hm
  obtain ⟨a0, len0, cap0, rfl⟩ := okWide_slice Tryd.underlying53 (hval 0 53 v0 rfl rfl)
  obtain ⟨fuel0, hf0⟩ := h0
  obtain ⟨x0, w0⟩ := rd_53 enc W fuel0 _ _ hf0
  clear hA0 hval0
  refine (PC.law (FnLogs_p x0) htab (.cons (VwD.c w0) .nil)).mono fun e W' ⟨he, bel⟩ => ?_
  subst he
  exact ⟨_, rfl, _, _, _, [], _, [], hW', trodAll_mk1 (shut_bool Tryd.underlying4 _), (trodAll_cons_mk (Below.trod laidOut (by kernel_rfl) (of_decide_eq_true (by kernel_rfl)) k0 bel lt0) trodAll_mk0), rfl, bel.frame _, fun h => by cases h⟩

theorem over : Rows.fnLogsRow.holds Tryd.pinned (OpenSpec.ofChange Rows.fnLogsSpec) :=
  OpenClaim.holds_of_wide 10 Tryd.f10 rfl rfl rfl rfl rfl rfl rfl ⟨rfl, rfl, rfl, rfl, rfl⟩ rfl rfl rfl rfl rfl (by kernel_rfl) Tryd.func10 (by kernel_rfl)
    (of_decide_eq_true (by kernel_rfl)) (by unfold Func.isWrapper; first | (rw [if_pos (by decide +kernel)]; kernel_rfl) | (rw [if_neg (by decide +kernel)]; exact ⟨rfl, rfl⟩))
    (fun os started H enc _ => lifted os started H enc)

theorem proved : Rows.FnLogsCardSaid :=
  Claim7.holds_tied_plain_at .later [] [.data, .data, .data] true Rows.fnLogsCard.stood.harness Rows.fnLogsCard.stood.looks
    over (fun _ h => by cases h) (by kernel_rfl) (fun _ h => by cases h) fnLogs_row_tie rfl ⟨rfl, rfl⟩ (by kernel_rfl) rfl
    (fun f fn hf hfn => by
      obtain rfl : f = 10 := Option.some.inj ((show Tryd.prog.funcNamed Rows.fnLogsRow.func = some 10 by kernel_rfl).symm.trans hf) |>.symm
      obtain rfl : fn = Tryd.f10 := (Option.some.inj (Tryd.func10.symm.trans hfn)).symm
      have hall : (Tryd.f10.params.all fun t => !(Tryd.prog.wantsStandIn t)) = true := by kernel_rfl
      refine ⟨by kernel_rfl, fun j t ht => ?_⟩
      show Tryd.prog.wantsStandIn t = false
      simpa using (Array.all_eq_true_iff_forall_mem.1 hall) t (Array.mem_of_getElem? ht))
    (by kernel_rfl)
end fnLogs

end Go.Proofs.YtdnkmgbbkggmdaaDoor
