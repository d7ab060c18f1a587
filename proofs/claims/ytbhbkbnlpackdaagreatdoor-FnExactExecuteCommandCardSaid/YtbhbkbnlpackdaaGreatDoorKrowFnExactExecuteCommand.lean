/- The statement FnExactExecuteCommand is proved: it returns true for every input. No condition. -/
import Derived.Test.YtbhbkbnlpackdaaGreatDoorRows
import Derived.Test.YtbhbkbnlpackdaaGreatDoorTie
import Derived.Test.YtbhbkbnlpackdaaGreatDoorCards
import Derived.SevenTiedAt
import Derived.WalkKit
import Derived.ProofKit
import Derived.OpenShut
import Derived.ShutString
import Derived.ChangeOld
import Derived.Below
import Derived.Test.YtbhbkbnlpackdaaGreatDoorKfnsB
import Derived.Test.YtbhbkbnlpackdaaGreatDoorKplainA
import Derived.Test.YtbhbkbnlpackdaaGreatDoorKfnsC
import Derived.Test.YtbhbkbnlpackdaaGreatDoorKownFnExactExecuteCommand
import Derived.Test.YtbhbkbnlpackdaaGreatDoorKfnsD
set_option linter.unusedSectionVars false
set_option maxRecDepth 10000
set_option maxHeartbeats 4000000
set_option linter.unusedVariables false
set_option linter.unusedSimpArgs false
namespace Go.Proofs.YtbhbkbnlpackdaaGreatDoor
open Go.RowKit
namespace fnExactExecuteCommand
open Go.ChangeShapes Go.WideShapes Go.ChangeAt Go.RowKit
open Go.ChangeMaps (open_string shut_string)
theorem gT:Tryz.prog.globalNamed tabNm=some 5:=by kernel_rfl
theorem gE : Tryz.prog.globalNamed "strconv.ErrSyntax" = some 3 := by kernel_rfl
instance glb : Glb := ⟨fun w => Go.Lib.TabIs Tryz.prog w tabNm .u64 Go.Lib.pow10Tab ∧ ∃ u v, w.var? Tryz.prog "strconv.ErrSyntax" = some #[.iface u v], fun g => g = 5 ∨ g = 3, fun h hk => ⟨tab_keep gT h.1 (hk _ (.inl rfl)), err_keep gE h.2 (hk _ (.inr rfl))⟩, fun h hg => by rcases hg with rfl | rfl; exact tab_lt gT h.1; exact err_lt gE h.2⟩
instance gtab : GTab Tryz.prog tabNm := ⟨fun _ h => h.1⟩
instance gerr : GErr Tryz.prog := ⟨fun _ h => h.2⟩
theorem jnh : ∃ nm d, ("strconv.ErrSyntax", (DataW.iface nm d : DataW Unit)) ∈ Rows.fnExactExecuteCommandRow.laid := ⟨_, _, List.mem_of_getElem? (i := 5) (by rfl)⟩
theorem jjw:(tabNm,(Go.Lib.tabData .u64 Go.Lib.pow10Tab:DataW Unit))∈Rows.fnExactExecuteCommandRow.laid:=List.mem_of_getElem? (i:=2) Kb
theorem own:ownKnob Tryz.prog.godebug=none:=by kernel_rfl
theorem jib:laidOutB Tryz.prog=true:=by kernel_rfl
abbrev lays:List (String×DataW Unit):=Rows.fnExactExecuteCommandRow.laid
noncomputable def laidWorld (os:Os):World:={ World.holding Tryz.prog os ⟨#[],#[],[]⟩ with heap:=layAllE Tryz.prog 281 283 lays (World.holding Tryz.prog os ⟨#[],#[],[]⟩).heap }
theorem jka (os:Os) (args:Array Value):laidMet Tryz.prog lays ((laidWorld os).forCall (fun _ _=>0) ⟨#[],args,[]⟩).memory :=
 (LaidIn.of_run (List.range 2000) 8 Kb Kb Kb Kb).met
theorem jmu:PR Tryz.prog 3 fun x:Int=>[dI x]:=pr_int Kb
theorem jko:PR Tryz.prog 25 fun x:List (Int)=>[eI x]:=jnd Kb jmu Kb
theorem rd_22:PR Tryz.prog 22 fun x:List (List (Int))=>[eII (cz64LL x)]:=pr_wLL (E:=25) (F:=3) Kb Kb Kb Kb Kb
theorem rd_24:PR Tryz.prog 24 fun x:(Int)×(Int)×(Int)×(List (List (Int)))×Unit=>([dI x.1]++([dI x.2.1]++([dI x.2.2.1]++([eII (cz64LL x.2.2.2.1)]++[])))):=jed (jck jmu (jck jmu (jck jmu (jck rd_22 jfl)))) Tryz.underlying24 Kb Kb
theorem rd_27:PR Tryz.prog 27 fun x:(Int)×(List (List (Int)))×(List (Int))×Unit=>([dI x.1]++([eII (cz64LL x.2.1)]++([eI x.2.2.1]++[]))):=jed (jck jmu (jck rd_22 (jck jko jfl))) Tryz.underlying27 Kb Kb
theorem rd_29:PR Tryz.prog 29 fun x:((Int)×(Int)×(Int)×(List (List (Int)))×Unit)×(List (Int))×((Int)×(List (List (Int)))×(List (Int))×Unit)×(List (Int))×(Int)×Unit=>(([dI x.1.1]++([dI x.1.2.1]++([dI x.1.2.2.1]++([eII (cz64LL x.1.2.2.2.1)]++[]))))++([eI x.2.1]++(([dI x.2.2.1.1]++([eII (cz64LL x.2.2.1.2.1)]++([eI x.2.2.1.2.2.1]++[])))++([eI x.2.2.2.1]++([dI x.2.2.2.2.1]++[]))))):=jed (jck rd_24 (jck jko (jck rd_27 (jck jko (jck jmu jfl))))) Tryz.underlying29 Kb Kb
theorem rd_9:PR Tryz.prog 9 fun x:ByteArray=>[dS x]:=pr_str Kb
theorem rd_31:PR Tryz.prog 31 fun x:(ByteArray)×(ByteArray)×(Int)×Unit=>([dS x.1]++([dS x.2.1]++([dI x.2.2.1]++[]))):=jed (jck rd_9 (jck rd_9 (jck jmu jfl))) Tryz.underlying31 Kb Kb
theorem rd_33:PR Tryz.prog 33 fun x:(((Int)×(Int)×(Int)×(List (List (Int)))×Unit)×(List (Int))×((Int)×(List (List (Int)))×(List (Int))×Unit)×(List (Int))×(Int)×Unit)×((ByteArray)×(ByteArray)×(Int)×Unit)×Unit=>((([dI x.1.1.1]++([dI x.1.1.2.1]++([dI x.1.1.2.2.1]++([eII (cz64LL x.1.1.2.2.2.1)]++[]))))++([eI x.1.2.1]++(([dI x.1.2.2.1.1]++([eII (cz64LL x.1.2.2.1.2.1)]++([eI x.1.2.2.1.2.2.1]++[])))++([eI x.1.2.2.2.1]++([dI x.1.2.2.2.2.1]++[])))))++(([dS x.2.1.1]++([dS x.2.1.2.1]++([dI x.2.1.2.2.1]++[])))++[])):=jed (jck rd_29 (jck rd_31 jfl)) Tryz.underlying33 Kb Kb
set_option maxRecDepth 100000 in
theorem lifted (os:Os) (started:os.Started) (H:Type) (enc:TypeId×Value->H) :
  ReturnsInHanded {} Tryz.checked os 5 .any (fun w args=>(Rows.fnExactExecuteCommandSpec.pre enc Tryz.prog Tryz.f5 Rows.fnExactExecuteCommandRow.domain false w args/\laidMet Tryz.prog lays w)/\sizedMet enc Tryz.prog Tryz.f5 (OpenSpec.ofChange Rows.fnExactExecuteCommandSpec) false w args) (Rows.fnExactExecuteCommandSpec.post enc Tryz.prog Tryz.f5 false true false false):=by
 refine returnsInHanded_of_change_and (C := Tryz.checked) (X := fun w _ => laidMet Tryz.prog lays w) (fun _ _ _ hh h => h.of_heap hh) own started Kb Tryz.func5
  (ChangeSpec.witness_at (enc:=enc) (C:=Tryz.checked) (os:=os) (X:=fun w _=>laidMet Tryz.prog lays w) false (laidWorld os) #[.agg #[.int .i64 0,.int .i64 0,.int .i64 0,.slice none 0 0,.slice none 0 0,.int .i64 0,.slice none 0 0,.slice none 0 0,.slice none 0 0,.int .i64 0,.string ByteArray.empty,.string ByteArray.empty,.int .i64 0],.string ByteArray.empty] 8 rfl Kb Kb Kb Kb Kb (jka os _)) ?_
 intro W base args ds gs before hval0 hW hcnd _ hL _;have htab:Go.Lib.TabIs Tryz.prog W tabNm .u64 Go.Lib.pow10Tab:=by
  obtain ⟨ps,hl,_,_⟩:=hL;exact tab_in gT (t:=285) Kb (e:=258) (n:=20) Tryz.underlying285 Tryz.underlying258 Kb Kb _ _ hl jjw
 have herr : ∃ u v, W.var? Tryz.prog "strconv.ErrSyntax" = some #[.iface u v] := by
  obtain ⟨ps,hl,_,_⟩:=hL;obtain ⟨nm,d,hm⟩:=jnh;exact err_in gE (t:=149) Kb Tryz.underlying149 _ _ hl hm
 have hval:∀ (j:Nat) t v,Tryz.f5.params[j]? = some t->args[j]? = some v->Value.okWide Tryz.prog W .any base t v:=hval0;have hW':=hW;obtain ⟨p,q,hA0,hV,rfl,hfz,hnd⟩:=hW;have hA:DataW.TrodAll enc Tryz.prog W 0 (fun _=>true) true Tryz.f5.params.toList args.toList ds p:=hA0;rw [Tryz.params5] at hA hval;obtain ⟨v0,vs0,d0,ds0,p0,q0,hargs,rfl,rfl,h0,r0⟩:=trodAll_cons hA;obtain ⟨v1,vs1,d1,ds1,p1,q1,rfl,rfl,rfl,h1,r1⟩:=trodAll_cons r0;obtain ⟨rfl,rfl,rfl⟩:=trodAll_nil r1;obtain rfl:args = #[v0,v1]:=by cases args;simp_all
 obtain ⟨rfl,rfl⟩:=trodVars_none hV;have k0:=h0;have lt0:∀ x∈p0,x.block < W.heap.size:=by obtain ⟨m,hm⟩:=k0;exact DataW.trod_lt m _ _ _ hm
 obtain ⟨cs0,rfl,hsz0⟩:=okWide_struct Tryz.underlying33 (hval 0 33 v0 rfl rfl);obtain ⟨fuel0,hf0⟩:=h0;obtain ⟨⟨⟨⟨x0_0_0_0,x0_0_0_1,x0_0_0_2,x0_0_0_3,⟨⟩⟩,x0_0_1,⟨x0_0_2_0,x0_0_2_1,x0_0_2_2,⟨⟩⟩,x0_0_3,x0_0_4,⟨⟩⟩,⟨x0_1_0,x0_1_1,x0_1_2,⟨⟩⟩,⟨⟩⟩,w0⟩:=rd_33 enc W fuel0 _ _ hf0;have k1:=h1;have lt1:∀ x∈p1,x.block < W.heap.size:=by obtain ⟨m,hm⟩:=k1;exact DataW.trod_lt m _ _ _ hm
 obtain ⟨s1,rfl⟩:=okWide_string Tryz.underlying9 (hval 1 9 v1 rfl rfl);obtain ⟨fuel1,hf1⟩:=h1;obtain ⟨x1,w1⟩:=rd_9 enc W fuel1 _ _ hf1;clear hA0 hval0;refine (PC.law (FnExactExecuteCommand_p x0_0_0_0 x0_0_0_1 x0_0_0_2 x0_0_0_3 x0_0_1 x0_0_2_0 x0_0_2_1 x0_0_2_2 x0_0_3 x0_0_4 x0_1_0 x0_1_1 x0_1_2 x1) ⟨htab,herr⟩ (.cons (VwD.g w0) (.cons (VwD.c w1) .nil))).mono fun e W' ⟨he,bel⟩=>?_;subst he;exact ⟨_,rfl,_,_,_,[],_,[],hW',trodAll_mk1 (shut_bool Tryz.underlying4 _),(trodAll_cons_mk (Below.trod jib Kb (of_decide_eq_true Kb) k0 bel lt0) (trodAll_cons_mk (Below.trod jib Kb (of_decide_eq_true Kb) k1 bel lt1) trodAll_mk0)),rfl,bel.frame _,fun h=>by cases h⟩
theorem j0:(Rows.fnExactExecuteCommandRow.wf (OpenSpec.ofChange Rows.fnExactExecuteCommandSpec))=true:=by kernel_rfl
theorem j1:(laidOutB Tryz.prog)=true:=by kernel_rfl
theorem j2:(mapsRowed Tryz.prog)=true:=by kernel_rfl
theorem j3:(Tryz.f5.params.all (Tryz.prog.readableRec ·))=true:=by kernel_rfl
theorem j4:(namedTie Tryz.prog Rows.fnExactExecuteCommandRow.named Rows.fnExactExecuteCommandSpec.vars)=true:=by kernel_rfl
theorem j5:((Rows.fnExactExecuteCommandRow.stops == []))=true:=by kernel_rfl
theorem j6:((Tryz.prog.stops == []))=true:=by kernel_rfl
theorem j7:((Rows.fnExactExecuteCommandRow.knobs == []))=true:=by kernel_rfl
theorem j8:((Tryz.prog.stopKnobs == []))=true:=by kernel_rfl
theorem j9:((Rows.fnExactExecuteCommandRow.inPlace == Tryz.prog.inPlace 5))=true:=by kernel_rfl
theorem j10:((Rows.fnExactExecuteCommandRow.unfollowed == Tryz.prog.unfollowed 5))=true:=by kernel_rfl
theorem j11:((Rows.fnExactExecuteCommandRow.recurses == Tryz.prog.recurses 5))=true:=by kernel_rfl
theorem j12:((Rows.fnExactExecuteCommandRow.named == Tryz.prog.varsNamed 5))=true:=by kernel_rfl
theorem j13:((Rows.fnExactExecuteCommandRow.maps == (Tryz.f5.params.toList++Rows.fnExactExecuteCommandSpec.plain.varTypes Tryz.prog).any (Tryz.prog.mapsRec ·)))=true:=by kernel_rfl
theorem j14:((Rows.fnExactExecuteCommandRow.ifaces == (Tryz.f5.params.toList++Rows.fnExactExecuteCommandSpec.plain.varTypes Tryz.prog).any (Tryz.prog.ifacesRec ·)))=true:=by kernel_rfl
theorem j15:((Rows.fnExactExecuteCommandRow.mapsOut == Tryz.prog.mapsAmong Tryz.f5.resultTypes.toList))=true:=by kernel_rfl
theorem j16:((Rows.fnExactExecuteCommandRow.loops == (Tryz.f5.params.toList++Rows.fnExactExecuteCommandSpec.plain.varTypes Tryz.prog).any (Tryz.prog.loopsFrom ·)))=true:=by kernel_rfl
theorem j17:((Rows.fnExactExecuteCommandRow.wideKeys == (Tryz.f5.params.toList++Rows.fnExactExecuteCommandSpec.plain.varTypes Tryz.prog++Tryz.f5.resultTypes.toList).any (Tryz.prog.wideKeysFrom ·)))=true:=by kernel_rfl
theorem j18:(Rows.fnExactExecuteCommandSpec.vars.all (Tryz.prog.varReadable ·))=true:=by kernel_rfl
theorem j19:(Tryz.f5.resultTypes.all (fun t=>Tryz.prog.readableRec t&&decide (t < Tryz.prog.types.size)))=true:=by kernel_rfl
theorem j20:((Rows.fnExactExecuteCommandRow.ifacesOut == Tryz.f5.resultTypes.toList.any (Tryz.prog.ifacesRec ·)))=true:=by kernel_rfl
theorem j21:((Rows.fnExactExecuteCommandRow.loopsOut == Tryz.f5.resultTypes.toList.any (Tryz.prog.loopsFrom ·)))=true:=by kernel_rfl
theorem j22:((Rows.fnExactExecuteCommandRow.plainKeys == Tryz.prog.plainKeys))=true:=by kernel_rfl
theorem j23:(Rows.fnExactExecuteCommandRow.shortTexts.isNone)=true:=by kernel_rfl
theorem j24:(Tryz.prog.stopsHeard)=true:=by kernel_rfl
theorem j25:(Tryz.prog.mayEnter)=true:=by kernel_rfl
theorem j26:((Rows.fnExactExecuteCommandRow.lifted == Tryz.prog.liftsFinal))=true:=by kernel_rfl
theorem j27:((Tryz.prog.make == some Rows.fnExactExecuteCommandRow.make))=true:=by kernel_rfl
theorem j28:((Rows.fnExactExecuteCommandRow.kinds == (if Rows.fnExactExecuteCommandRow.domain.isEmpty then [] else Tryz.f5.params.toList.map fun t=>match Tryz.prog.underlying t with | some (.int k)=>some k | _=>none)))=true:=by kernel_rfl
theorem j29:((Rows.fnExactExecuteCommandRow.pinned == Rows.fnExactExecuteCommandRow.pinnedBy))=true:=by kernel_rfl
theorem j30:((Rows.fnExactExecuteCommandRow.veiled == (Tryz.f5.params.toList++Rows.fnExactExecuteCommandSpec.plain.varTypes Tryz.prog++Tryz.f5.resultTypes.toList).any (Tryz.prog.veiledRec ·)))=true:=by kernel_rfl
theorem j31:(Rows.fnExactExecuteCommandRow.veiledFits Tryz.prog Tryz.f5.params.toList (Tryz.f5.params.toList++Rows.fnExactExecuteCommandSpec.plain.varTypes Tryz.prog++Tryz.f5.resultTypes.toList))=true:=by kernel_rfl
theorem jea {a b:Bool} (ha:a=true) (hb:b=true):(a&&b)=true:=by rw [ha,hb]; rfl
theorem jnn:joinedFacts Tryz.prog 5 Tryz.f5 Rows.fnExactExecuteCommandSpec Rows.fnExactExecuteCommandRow=true:=by
 unfold joinedFacts;exact (jea (jea (jea (jea (jea (jea (jea (jea (jea (jea (jea (jea (jea (jea (jea (jea (jea (jea (jea (jea (jea (jea (jea (jea (jea (jea (jea (jea (jea (jea (jea j0 j1) j2) j3) j4) j5) j6) j7) j8) j9) j10) j11) j12) j13) j14) j15) j16) j17) j18) j19) j20) j21) j22) j23) j24) j25) j26) j27) j28) j29) j30) j31)
theorem over:Rows.fnExactExecuteCommandRow.holds Tryz.pinned (OpenSpec.ofChange Rows.fnExactExecuteCommandSpec) :=
 OpenClaim.holds_of_wide 5 Tryz.f5 rfl rfl rfl rfl rfl rfl rfl ⟨rfl, rfl, rfl, rfl, rfl⟩ rfl rfl rfl rfl rfl Kb Tryz.func5 jnn
  (of_decide_eq_true Kb) (by unfold Func.isWrapper;first|(rw [if_pos (by decide +kernel)];kernel_rfl)|(rw [if_neg (by decide +kernel)];exact ⟨rfl,rfl⟩))
  (fun os started H enc _=>lifted os started H enc)
theorem q0:OpenClaim.wfByText (OpenSpec.ofChange Rows.fnExactExecuteCommandSpec) Rows.fnExactExecuteCommandRow=true:=by kernel_rfl
theorem q1:Tryz.prog.mainIs=some (Rows.fnExactExecuteCommandCard.stood.harness.fst,Rows.fnExactExecuteCommandCard.stood.harness.snd.toList):=by kernel_rfl
theorem q2:Rows.fnExactExecuteCommandCard.stood.looks=Tryz.prog.looks []:=by kernel_rfl
theorem q3:false=Rows.fnExactExecuteCommandRow.goesBy Tryz.prog:=by kernel_rfl
theorem proved:Rows.FnExactExecuteCommandCardSaid :=
 Claim7.holds_tied_plain_at .later [] [.data, .data, .data, .data, .sentinel, .sentinel, .pinned] true Rows.fnExactExecuteCommandCard.stood.harness Rows.fnExactExecuteCommandCard.stood.looks
  over (fun _ h=>by cases h) q0 (fun _ h=>by cases h) fnExactExecuteCommand_row_tie rfl ⟨rfl,rfl⟩ q1 rfl
  (fun f fn hf hfn=>by
   obtain rfl:f=5:=Option.some.inj ((show Tryz.prog.funcNamed Rows.fnExactExecuteCommandRow.func=some 5 by kernel_rfl).symm.trans hf) |>.symm;obtain rfl:fn=Tryz.f5:=(Option.some.inj (Tryz.func5.symm.trans hfn)).symm;have hall:(Tryz.f5.params.all fun t => !(Tryz.prog.wantsStandIn t))=true:=by kernel_rfl
   refine ⟨q2,fun j t ht=>?_⟩;show Tryz.prog.wantsStandIn t=false;simpa using (Array.all_eq_true_iff_forall_mem.1 hall) t (Array.mem_of_getElem? ht))
  q3
end fnExactExecuteCommand
end Go.Proofs.YtbhbkbnlpackdaaGreatDoor
