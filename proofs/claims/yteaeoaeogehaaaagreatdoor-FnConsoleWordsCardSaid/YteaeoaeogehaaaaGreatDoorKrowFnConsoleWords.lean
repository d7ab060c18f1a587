/- The statement FnConsoleWords is proved: it returns true for every input. No condition. -/
import Derived.Test.YteaeoaeogehaaaaGreatDoorRows
import Derived.Test.YteaeoaeogehaaaaGreatDoorTie
import Derived.Test.YteaeoaeogehaaaaGreatDoorCards
import Derived.SevenTiedAt
import Derived.WalkKit
import Derived.ProofKit
import Derived.OpenShut
import Derived.ShutString
import Derived.ChangeOld
import Derived.Below
import Derived.Test.YteaeoaeogehaaaaGreatDoorKfnsFnConsoleWordsA
import Derived.Test.YteaeoaeogehaaaaGreatDoorKplainA
import Derived.Test.YteaeoaeogehaaaaGreatDoorKfnsFnConsoleWordsE
import Derived.Test.YteaeoaeogehaaaaGreatDoorKfnsFnConsoleWordsC
import Derived.Test.YteaeoaeogehaaaaGreatDoorKplainC
set_option linter.unusedSectionVars false
set_option maxRecDepth 10000
set_option maxHeartbeats 4000000
set_option linter.unusedVariables false
set_option linter.unusedSimpArgs false
namespace Go.Proofs.YteaeoaeogehaaaaGreatDoor
open Go.RowKit
namespace fnConsoleWords
open Go.ChangeShapes Go.WideShapes Go.ChangeAt Go.RowKit
open Go.ChangeMaps (open_string shut_string)
theorem gT : Tryz.prog.globalNamed tabNm = some 3 := by kernel_rfl
instance glb : Glb := ⟨fun w => Go.Lib.TabIs Tryz.prog w tabNm .u64 Go.Lib.pow10Tab, fun g => g = 3, fun h hk => tab_keep gT h (hk _ rfl), fun h hg => by subst hg; exact tab_lt gT h⟩
instance gtab : GTab Tryz.prog tabNm := ⟨fun _ h => h⟩
theorem mem_lays : (tabNm, (Go.Lib.tabData .u64 Go.Lib.pow10Tab : DataW Unit)) ∈ Rows.fnConsoleWordsRow.laid := List.mem_of_getElem? (i := 2) (by kernel_rfl)
theorem own : ownKnob Tryz.prog.godebug = none := by kernel_rfl
theorem laidOut : laidOutB Tryz.prog = true := by kernel_rfl
abbrev lays : List (String × DataW Unit) := Rows.fnConsoleWordsRow.laid
noncomputable def laidWorld (os : Os) : World := { World.holding Tryz.prog os ⟨#[], #[], []⟩ with heap := layAllE Tryz.prog 240 242 lays (World.holding Tryz.prog os ⟨#[], #[], []⟩).heap }
theorem laid_met (os : Os) (args : Array Value) : laidMet Tryz.prog lays ((laidWorld os).forCall (fun _ _ => 0) ⟨#[], args, []⟩).memory :=
 (LaidIn.of_run (List.range 2000) 8 (by kernel_rfl) (by kernel_rfl) (by kernel_rfl) (by kernel_rfl)).met
theorem rd_5 : PR Tryz.prog 5 fun x : UInt8 => [dY x] := pr_u8 (by kernel_rfl)
theorem rd_22 : PR Tryz.prog 22 fun x : List (UInt8) => [.sl 1 x.length (x.map fun z => dY z)] := pr_sl1 (by kernel_rfl) rd_5 (by kernel_rfl)
set_option maxRecDepth 100000 in
theorem lifted (os : Os) (started : os.Started) (H : Type) (enc : TypeId × Value → H) :
  ReturnsInHanded {} Tryz.checked os 3 .any (fun w args => (Rows.fnConsoleWordsSpec.pre enc Tryz.prog Tryz.f3 Rows.fnConsoleWordsRow.domain false w args ∧ laidMet Tryz.prog lays w) ∧ sizedMet enc Tryz.prog Tryz.f3 (OpenSpec.ofChange Rows.fnConsoleWordsSpec) false w args) (Rows.fnConsoleWordsSpec.post enc Tryz.prog Tryz.f3 false true false false) := by
 refine returnsInHanded_of_change_and (C := Tryz.checked) (X := fun w _ => laidMet Tryz.prog lays w) (fun _ _ _ hh h => h.of_heap hh) own started (by kernel_rfl) Tryz.func3
  (ChangeSpec.witness_at (enc := enc) (C := Tryz.checked) (os := os) (X := fun w _ => laidMet Tryz.prog lays w) false (laidWorld os) #[.slice none 0 0] 8 rfl (by kernel_rfl) (by kernel_rfl) (by kernel_rfl) (by kernel_rfl) (by kernel_rfl) (laid_met os _)) ?_
 intro W base args ds gs before hval0 hW hcnd _ hL _
 have htab : Go.Lib.TabIs Tryz.prog W tabNm .u64 Go.Lib.pow10Tab := by
  obtain ⟨ps, hl, _, _⟩ := hL
  exact tab_in gT (t := 230) (by kernel_rfl) (e := 56) (n := 20) Tryz.underlying230 Tryz.underlying56 (by kernel_rfl) (by kernel_rfl) _ _ hl mem_lays
 have hval : ∀ (j : Nat) t v, Tryz.f3.params[j]? = some t → args[j]? = some v → Value.okWide Tryz.prog W .any base t v := hval0
 have hW' := hW
 obtain ⟨p, q, hA0, hV, rfl, hfz, hnd⟩ := hW
 have hA : DataW.TrodAll enc Tryz.prog W 0 (fun _ => true) true Tryz.f3.params.toList args.toList ds p := hA0
 rw [Tryz.params3] at hA hval
 obtain ⟨v0, vs0, d0, ds0, p0, q0, hargs, rfl, rfl, h0, r0⟩ := trodAll_cons hA
 obtain ⟨rfl, rfl, rfl⟩ := trodAll_nil r0
 obtain rfl : args = #[v0] := by cases args;simp_all
 obtain ⟨rfl, rfl⟩ := trodVars_none hV
 have k0 := h0
 have lt0 : ∀ x ∈ p0, x.block < W.heap.size := by obtain ⟨m, hm⟩ := k0;exact DataW.trod_lt m _ _ _ hm
 obtain ⟨a0, len0, cap0, rfl⟩ := okWide_slice Tryz.underlying22 (hval 0 22 v0 rfl rfl)
 obtain ⟨fuel0, hf0⟩ := h0
 obtain ⟨x0, w0⟩ := rd_22 enc W fuel0 _ _ hf0
 clear hA0 hval0
 refine (PC.law (FnConsoleWords_p x0) htab (.cons (VwD.c w0) .nil)).mono fun e W' ⟨he, bel⟩ => ?_
 subst he
 exact ⟨_, rfl, _, _, _, [], _, [], hW', trodAll_mk1 (shut_bool Tryz.underlying4 _), (trodAll_cons_mk (Below.trod laidOut (by kernel_rfl) (of_decide_eq_true (by kernel_rfl)) k0 bel lt0) trodAll_mk0), rfl, bel.frame _, fun h => by cases h⟩
theorem jpa : Rows.fnConsoleWordsRow.holds Tryz.pinned (OpenSpec.ofChange Rows.fnConsoleWordsSpec) :=
 OpenClaim.holds_of_wide 3 Tryz.f3 rfl rfl rfl rfl rfl rfl rfl ⟨rfl, rfl, rfl, rfl, rfl⟩ rfl rfl rfl rfl rfl (by kernel_rfl) Tryz.func3 (by kernel_rfl)
  (of_decide_eq_true (by kernel_rfl)) (by unfold Func.isWrapper;first|(rw [if_pos (by decide +kernel)];kernel_rfl)|(rw [if_neg (by decide +kernel)];exact ⟨rfl, rfl⟩))
  (fun os started H enc _ => lifted os started H enc)
theorem proved : Rows.FnConsoleWordsCardSaid :=
 Claim7.holds_tied_plain_at .later [] [.data, .data, .data, .data, .sentinel, .sentinel, .pinned] true Rows.fnConsoleWordsCard.stood.harness Rows.fnConsoleWordsCard.stood.looks
  jpa (fun _ h => by cases h) (by kernel_rfl) (fun _ h => by cases h) fnConsoleWords_row_tie rfl ⟨rfl, rfl⟩ (by kernel_rfl) rfl
  (fun f fn hf hfn => by
   obtain rfl : f = 3 := Option.some.inj ((show Tryz.prog.funcNamed Rows.fnConsoleWordsRow.func = some 3 by kernel_rfl).symm.trans hf) |>.symm
   obtain rfl : fn = Tryz.f3 := (Option.some.inj (Tryz.func3.symm.trans hfn)).symm
   have hall : (Tryz.f3.params.all fun t => !(Tryz.prog.wantsStandIn t)) = true := by kernel_rfl
   refine ⟨by kernel_rfl, fun j t ht => ?_⟩
   show Tryz.prog.wantsStandIn t = false
   simpa using (Array.all_eq_true_iff_forall_mem.1 hall) t (Array.mem_of_getElem? ht))
  (by kernel_rfl)
end fnConsoleWords
end Go.Proofs.YteaeoaeogehaaaaGreatDoor
