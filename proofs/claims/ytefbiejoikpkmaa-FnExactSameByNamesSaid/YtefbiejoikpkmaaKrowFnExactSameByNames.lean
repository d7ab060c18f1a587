/- The statement FnExactSameByNames is proved: it returns true for every input. No condition. -/
import Derived.Test.YtefbiejoikpkmaaRows
import Derived.WalkKit
import Derived.ProofKit
import Derived.OpenShut
import Derived.ShutString
import Derived.ChangeOld
import Derived.Below
import Derived.Test.YtefbiejoikpkmaaKfnsFnExactSameByNamesA
import Derived.Test.YtefbiejoikpkmaaKplainA
import Derived.Test.YtefbiejoikpkmaaKfnsFnExactSameByNamesC
set_option linter.unusedVariables false
set_option linter.unusedSimpArgs false
namespace Go.Proofs.Ytefbiejoikpkmaa
open Go.RowKit
set_option maxRecDepth 10000
set_option maxHeartbeats 4000000
namespace fnExactSameByNames
open Go.ChangeShapes Go.WideShapes Go.ChangeAt Go.RowKit
open Go.ChangeMaps (open_string shut_string)
set_option linter.unusedVariables false
instance glb : Glb := Glb.none

theorem own : ownKnob Try.prog.godebug = none := by kernel_rfl
theorem laidOut : laidOutB Try.prog = true := by kernel_rfl
theorem rd_3 : PR Try.prog 3 fun x : Int => [dI x] := pr_int (by kernel_rfl)
theorem rd_24 : PR Try.prog 24 fun x : List (Int) => [eI x] := pr_sl1 (by kernel_rfl) rd_3 (by kernel_rfl)
theorem rd_25 : PR Try.prog 25 fun x : List (List (Int)) => [.sl 1 x.length (x.map fun z => (eI z))] := pr_sl1 (by kernel_rfl) rd_24 (by kernel_rfl)
theorem rd_48 : PR Try.prog 48 fun x : (Int) × (Int) × (List (Int)) × (List (List (Int))) × Unit => ([dI x.1] ++ ([dI x.2.1] ++ ([eI x.2.2.1] ++ ([.sl 1 x.2.2.2.1.length (x.2.2.2.1.map fun z => (eI z))] ++ [])))) := pr_struct (prl_cons rd_3 (prl_cons rd_3 (prl_cons rd_24 (prl_cons rd_25 prl_nil)))) Try.underlying48 (by kernel_rfl) (by kernel_rfl)

set_option maxRecDepth 100000 in
theorem lifted (os : Os) (started : os.Started) (H : Type) (enc : TypeId × Value → H) :
    ReturnsInHanded {} Try.checked os 4 .any (Rows.fnExactSameByNamesSpec.pre6 enc Try.prog Try.f4 Rows.fnExactSameByNamesRow.domain false) (Rows.fnExactSameByNamesSpec.post enc Try.prog Try.f4 false true false false) := by
  refine returnsInHanded_of_change (C := Try.checked) own started (by kernel_rfl) Try.func4
    (ChangeSpec.witness6 (enc := enc) (C := Try.checked) false ⟨#[], #[.agg #[.int .i64 0, .int .i64 0, .slice none 0 0, .slice none 0 0], .agg #[.int .i64 0, .int .i64 0, .slice none 0 0, .slice none 0 0]], []⟩ 8 (by kernel_rfl) (by kernel_rfl) (by kernel_rfl) (by kernel_rfl)) ?_
  intro W base args ds gs before hval0 hW hcnd _
  have hval : ∀ (j : Nat) t v, Try.f4.params[j]? = some t → args[j]? = some v → Value.okWide Try.prog W .any base t v := hval0
  have hW' := hW
  obtain ⟨p, q, hA0, hV, rfl, hfz, hnd⟩ := hW
  have hA : DataW.TrodAll enc Try.prog W 0 (fun _ => true) true Try.f4.params.toList args.toList ds p := hA0
  rw [Try.params4] at hA hval
  obtain ⟨v0, vs0, d0, ds0, p0, q0, hargs, rfl, rfl, h0, r0⟩ := trodAll_cons hA
  obtain ⟨v1, vs1, d1, ds1, p1, q1, rfl, rfl, rfl, h1, r1⟩ := trodAll_cons r0
  obtain ⟨rfl, rfl, rfl⟩ := trodAll_nil r1
  obtain rfl : args = #[v0, v1] := by cases args; simp_all
  obtain ⟨rfl, rfl⟩ := trodVars_none hV
  have k0 := h0
  have lt0 : ∀ x ∈ p0, x.block < W.heap.size := by obtain ⟨m, hm⟩ := k0; exact DataW.trod_lt m _ _ _ hm
  obtain ⟨cs0, rfl, hsz0⟩ := okWide_struct Try.underlying48 (hval 0 48 v0 rfl rfl)
  obtain ⟨fuel0, hf0⟩ := h0
  obtain ⟨⟨x0_0, x0_1, x0_2, x0_3, ⟨⟩⟩, w0⟩ := rd_48 enc W fuel0 _ _ hf0
  have k1 := h1
  have lt1 : ∀ x ∈ p1, x.block < W.heap.size := by obtain ⟨m, hm⟩ := k1; exact DataW.trod_lt m _ _ _ hm
  obtain ⟨cs1, rfl, hsz1⟩ := okWide_struct Try.underlying48 (hval 1 48 v1 rfl rfl)
  obtain ⟨fuel1, hf1⟩ := h1
  obtain ⟨⟨x1_0, x1_1, x1_2, x1_3, ⟨⟩⟩, w1⟩ := rd_48 enc W fuel1 _ _ hf1
  clear hA0 hval0
  refine (PC.law (FnExactSameByNames_p x0_0 x0_1 x0_2 x0_3 x1_0 x1_1 x1_2 x1_3) trivial (.cons (VwD.g w0) (.cons (VwD.g w1) .nil))).mono fun e W' ⟨he, bel⟩ => ?_
  subst he
  exact ⟨_, rfl, _, _, _, [], _, [], hW', trodAll_mk1 (shut_bool Try.underlying4 _), (trodAll_cons_mk (Below.trod laidOut (by kernel_rfl) (of_decide_eq_true (by kernel_rfl)) k0 bel lt0) (trodAll_cons_mk (Below.trod laidOut (by kernel_rfl) (of_decide_eq_true (by kernel_rfl)) k1 bel lt1) trodAll_mk0)), rfl, bel.frame _, fun h => by cases h⟩

theorem over : Rows.fnExactSameByNamesRow.holds Try.pinned (OpenSpec.ofChange Rows.fnExactSameByNamesSpec) :=
  OpenClaim.holds_of_wide 4 Try.f4 rfl rfl rfl rfl rfl rfl rfl ⟨rfl, rfl, rfl, rfl, rfl⟩ rfl rfl rfl rfl rfl (by kernel_rfl) Try.func4 (by kernel_rfl)
    (of_decide_eq_true (by kernel_rfl)) (by unfold Func.isWrapper; first | (rw [if_pos (by decide +kernel)]; kernel_rfl) | (rw [if_neg (by decide +kernel)]; exact ⟨rfl, rfl⟩))
    (fun os started H enc _ => lifted os started H enc)

theorem proved : Rows.FnExactSameByNamesSaid := over
end fnExactSameByNames

end Go.Proofs.Ytefbiejoikpkmaa
