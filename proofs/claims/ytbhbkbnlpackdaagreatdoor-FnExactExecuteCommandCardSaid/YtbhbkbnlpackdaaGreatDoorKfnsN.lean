/- What the functions that FnExactRunScript and FnExactReplayLog and FnExactExecuteCommand reaches return: part of its proof. No condition beyond those of its theorems. -/
import Derived.Shelf.Strings.Count
import Derived.Test.YtbhbkbnlpackdaaGreatDoorKfnsB
import Derived.Test.YtbhbkbnlpackdaaGreatDoorKplainC
import Derived.Test.YtbhbkbnlpackdaaGreatDoorKfnsJ
import Derived.Test.YtbhbkbnlpackdaaGreatDoorKfnsF
import Derived.Test.YtbhbkbnlpackdaaGreatDoorKplainA
import Derived.Test.YtbhbkbnlpackdaaGreatDoorKfnsA
import Derived.Test.YtbhbkbnlpackdaaGreatDoorKfnsE
import Derived.Test.YtbhbkbnlpackdaaGreatDoorKfnsG
import Derived.Test.YtbhbkbnlpackdaaGreatDoorKfnsH
set_option linter.unusedSectionVars false
set_option maxRecDepth 10000
set_option maxHeartbeats 4000000
set_option linter.unusedVariables false
set_option linter.unusedSimpArgs false
namespace Go.Proofs.YtbhbkbnlpackdaaGreatDoor
open Go.RowKit
section
variable [Glb]
open Go.Shelf Go.Proofs
def Tryz.lays138_ren_strings_Count_one:Go.Shelf.Ren:=⟨fun | 138=>93 | 195=>147 | 218=>149 | 143=>94 | 219=>150 | 217=>210 | 225=>211 | 224=>212 | 267=>213 | 266=>259 | 314=>260 | n=>n,fun | 9=>9 | 3=>3 | 4=>4 | 5=>5 | 0=>0 | 46=>180 | 146=>250 | 51=>249 | n=>n,fun | 1=>0 | n=>n⟩
theorem Tryz.lays138_strings_Count_one:Go.Proofs.Lays.n138 Tryz.prog Tryz.lays138_ren_strings_Count_one:={
 mixed:=by kernel_rfl
 f138:=Tryz.func93.trans (congrArg some Kb)
 f143:=Tryz.func94.trans (congrArg some Kb)
 f195:=Tryz.func147.trans (congrArg some Kb)
 f217:=Tryz.func210.trans (congrArg some Kb)
 f218:=Tryz.func149.trans (congrArg some Kb)
 f219:=Tryz.func150.trans (congrArg some Kb)
 f224:=Tryz.func212.trans (congrArg some Kb)
 f225:=Tryz.func211.trans (congrArg some Kb)
 f266:=Tryz.func259.trans (congrArg some Kb)
 f267:=Tryz.func213.trans (congrArg some Kb)
 f314:=Tryz.func260.trans (congrArg some Kb)
 t0:=Tryz.underlying0
 a0:=Tryz.isAgg0
 z0:=Tryz.sizeOf0
 v0:=Tryz.zeroValue0
 t3:=Tryz.underlying3
 a3:=Tryz.isAgg3
 z3:=Tryz.sizeOf3
 v3:=Tryz.zeroValue3
 t4:=Tryz.underlying4
 a4:=Tryz.isAgg4
 z4:=Tryz.sizeOf4
 v4:=Tryz.zeroValue4
 t5:=Tryz.underlying5
 a5:=Tryz.isAgg5
 z5:=Tryz.sizeOf5
 v5:=Tryz.zeroValue5
 t9:=Tryz.underlying9
 a9:=Tryz.isAgg9
 z9:=Tryz.sizeOf9
 v9:=Tryz.zeroValue9
 t46:=Tryz.underlying180
 a46:=Tryz.isAgg180
 z46:=Tryz.sizeOf180
 v46:=Tryz.zeroValue180
 t51:=Tryz.underlying249
 a51:=Tryz.isAgg249
 z51:=Tryz.sizeOf249
 v51:=Tryz.zeroValue249
 t146:=Tryz.underlying250
 a146:=Tryz.isAgg250
 z146:=Tryz.sizeOf250
 v146:=Tryz.zeroValue250
 g1:=by kernel_rfl }
open Go.RowKit Go.Lib in
theorem Tryz.strings_Count_one (s:ByteArray) (c:UInt8) (w:World) :
  Calls Tryz.prog 93 #[.string s,.string ⟨#[c]⟩] w fun e w'=>e = .returned (.int .i64 (Lib.countByte s.data.toList c))/\w'=w:=Any.strings_Count_one Tryz.lays138_strings_Count_one s c w
end
section
variable [Glb]
theorem strCount_p (s:Tx) (c:UInt8):PC Tryz.prog 93 [.c (dT s),.c (dT [c])] (.p (.c (dI ((s.count c:Nat):Int)))) :=
 pc_lit2 (Go.Proofs.enters_of Tryz.func93 Kb rfl) rfl fun w _=>(Tryz.strings_Count_one (bsT s) c w).mono (by
  rintro e w' ⟨rfl,rfl⟩;rw [jgl];exact ⟨rfl,.refl _ _⟩)
theorem strIndex2_p (s:Tx) (c:UInt8):PC Tryz.prog 94 [.c (dT s),.c (dT [c])] (.p (.c (dI (Go.Lib.indexByte s c)))):=by
 refine jao Tryz.func94 fun _=>?_;repeat' (first|refine jac ?_|refine Maa ?_|apply Ub (c:=strIndex_p _ _) (h:=?_))
 all_goals refine Rad ?_
 all_goals rfl
theorem jkk {b:UInt8}:∀ {s:Tx},b∈s->splitT b s=bef b s :: splitT b (aft b s)
 | [],h=>by cases h
 | c :: s,h=>by
  by_cases hc:c=b
  ·subst hc;obtain ⟨t,e⟩:=jey c s;simp [splitT,bef,aft,e]
  ·have hs:b∈s:=by rcases List.mem_cons.1 h with e|e;exact absurd e.symm hc;exact e
   have ih:=jkk hs;simp [splitT,bef,aft,hc,ih]
theorem count_hit {b:UInt8} {s:Tx} (h:b∈s):s.count b=(aft b s).count b+1:=by
 obtain ⟨e,hn⟩:=jex h;have:=congrArg (List.count b) e;rw [List.count_append,List.count_cons_self,List.count_eq_zero_of_not_mem hn] at this;omega
theorem jhv (b:UInt8):∀ s:Tx,(splitT b s).length=s.count b+1:=fun s=>by
 induction hn:s.count b generalizing s with
 | zero =>
  have h:b ∉ s:=List.count_eq_zero.1 hn;have:=(jhe b s).2 h;have:=jgn b s;have:0 < (splitT b s).length:=List.length_pos_iff.2 this;omega
 | succ n ih =>
  have h:b∈s:=List.count_pos_iff.1 Kf;rw [jkk h,List.length_cons,ih (aft b s) (by have:=count_hit h;omega)]
theorem aft_len {b:UInt8} {s:Tx} (h:b∈s):(bef b s).length+1+(aft b s).length=s.length:=by
 obtain ⟨e,-⟩:=jex h;have:=congrArg List.length e;rw [List.length_append,List.length_cons] at this;omega
theorem genSplit_p (s:Tx) (b:UInt8) (hs:s.length<=4000000):PC Tryz.prog 56 [.c (dT s),.c (dT [b]),.c (dI 0),.c (dI (-1))] (.p (.c (eT (splitT b s)))):=by
 have hl:=jhv b s;have hn:s.count b<=s.length:=List.count_le_length;obtain ⟨N,hN⟩:∃ N,N=s.count b+1:=⟨_,rfl⟩;have hmin:min ((s.count b:Int)+1) ((s.length:Int)+1)=(N:Int):=by omega
 have hlN:(splitT b s).length=N:=by omega
 have e0:List.replicate N (D.lit (Value.string ByteArray.empty))=(fillL (splitT b s) [] 0).map dT:=by rw [jkx,hlN,List.map_replicate];rfl
 refine jao Tryz.func56 fun _=>?_;repeat' (first|refine jac ?_|refine Maa ?_|apply zau ?_|refine Wco ?_|(refine jaa (.makeSlice 35 _ _) ?_;(refine jgo (by_:=16) (z:=.string ByteArray.empty) (y:=.lit (.string ByteArray.empty)) rfl rfl Kb Kb rfl (fun _ => .lit _ rfl) Kf Kf Kf rfl ?_))|apply Ub (c:=strCount_p s b) (h:=?_)|exact Qab|fail)
 rw [hmin,Int.toNat_natCast,e0];apply jbe [0,1,2,3,9,10] [18,31] rfl;exact Kr;exact Yah;refine jbf [1,2,3,9] [18] (fun (g:Nat×Tx)=>[(10,iN g.1),(0,.c (.d (dT g.2)))]) (fun g=>[(31,.row 1 ((fillL (splitT b s) [] g.1).map dT))]) (fun g=>g.1+1<=N/\(splitT b s).drop g.1=splitT b g.2/\g.2.length<=s.length/\g.2.count b+g.1+1=N) (fun g=>N - g.1) ((0,s)) ?_ Kg Kt ?_
 ·exact ⟨by dsimp only;omega,by simp,by simp,by dsimp only;omega⟩
 rintro ⟨i,r⟩ ⟨hi,hd,hr,hc⟩;dsimp only at hi hd hr hc ⊢;have hat : (splitT b s)[i]'Kf = (splitT b r)[0]'(List.length_pos_iff.2 (jgn b r)) := by
  have h0:(splitT b s)[i]? = ((splitT b s).drop i)[0]? := by rw [List.getElem?_drop];rfl
  rw [hd,List.getElem?_eq_getElem Kf,List.getElem?_eq_getElem (List.length_pos_iff.2 (jgn b r))] at h0;exact Option.some.inj h0
 by_cases h:i+1 < N
 ·have hm:b∈r:=List.count_pos_iff.1 Kf;have ix:=ixB_hit hm;have al:=aft_len hm;have ch:=count_hit hm;obtain ⟨c1,c2⟩:=cut_hit hm;have sc:=jkk hm;have hat2 : (splitT b s)[i]'Kf = bef b r := by rw [hat];simp [sc]
  have hd2:(splitT b s).drop (i+1)=splitT b (aft b r):=by rw [<- List.drop_drop,hd,sc];rfl
  have e1:((fillL (splitT b s) [] i).map dT).set i (dT (bef b r))=(fillL (splitT b s) [] (i+1)).map dT:=by
   have:=jkc (l:=splitT b s) (k:=i) [] Kf;rw [hat2] at this;rw [<- this,List.map_set]
  have c3:partZ r 0 (((bef b r).length:Int)+0)=bef b r:=by rw [Int.add_zero];exact c1
  have c4:partZ r (((bef b r).length:Int)+(([b]:Tx).length:Int)) r.length=aft b r:=c2;clear hat;have cI:=strIndex2_p r b;rw [ix] at cI;repeat' (first|apply zdg ?_|refine jac ?_|refine Maa ?_|apply zdy ?_|refine Wbf ?_|(refine jaa (.store 9 _ _) ?_;((refine jcp rfl rfl rfl rfl (.lit _) Yby Yby Kb (by (first|omega|(simp only [List.length_map,List.length_append,List.length_replicate,fillL_len,rowF_len,gridF_len,mkI_len,mkII_len,jdb] at *;omega))) rfl ?_;simp only [St.drop])))|refine Wcx ?_|refine Wcy ?_|apply Ub (c:=cI) (h:=?_)|refine jbd rfl (fun hc=>?_) (fun hc=>?_)|exact Qaa|fail)
  refine bkL (i+1,aft b r) ?_ ?_ (hV:=(by (repeat(first|exact trivial|refine ⟨(by (first|rfl|(refine jjk rfl ?_;((simp  [c1,c2,e1];done))))),?_⟩)))) (hB:=(by (repeat(first|exact trivial|refine ⟨(by ((refine jbs rfl ?_;simp  [c1,c2,e1];done))),?_⟩))))
  ·exact ⟨by dsimp only;omega,hd2,by dsimp only;omega,by dsimp only;omega⟩
  ·dsimp only; omega
 ·have hz:i+1=N:=by omega
  have hm:b ∉ r:=List.count_eq_zero.1 Kf;have hat2 : (splitT b s)[i]'Kf = r := by
   rw [hat];obtain ⟨t,e⟩:=jey b r;have:=jiq hm;simp [e,this]
  have hf:(fillL (splitT b s) [] i).set i r=splitT b s:=by
   have:=jkc (l:=splitT b s) (k:=i) [] Kf;rw [hat2] at this;rw [this,show i+1=(splitT b s).length by omega,jnu]
  have e1:((fillL (splitT b s) [] i).map dT).set i (dT r)=(splitT b s).map dT:=by
   by_cases hq:True
   ·have:=congrArg (List.map dT) hf;rwa [List.map_set] at this
   ·exact absurd trivial hq
  clear hat;repeat' (first|refine jac ?_|refine Maa ?_|refine Wbf ?_|refine Wbg ?_|refine Wcy ?_|refine jbd rfl (fun hc=>?_) (fun hc=>?_)|exact Qaa|fail)
  all_goals (apply jat;apply jau;(·apply jbc.p;(·(apply GvA.cons;exact Ybu;(·(exact GvP.c (.row _ _ _ _ rfl Ybo))));exact GvA.nil);exact Ybr))
  all_goals rw [show 0+(i:Int).toNat*1=i by omega,show ((i:Int)+1).toNat=(splitT b s).length by omega]
  all_goals exact congrArg (fun z=>Res.p (RP.c (D.sl 1 (splitT b s).length z))) e1
theorem split_p (s:Tx) (b:UInt8) (hs:s.length<=4000000):PC Tryz.prog 27 [.c (dT s),.c (dT [b])] (.p (.c (eT (splitT b s)))):=by
 refine jao Tryz.func27 fun _=>?_;repeat' (first|refine jac ?_|refine Maa ?_|apply Ua (c:=genSplit_p s b hs) (h:=?_))
 all_goals refine Raa ?_
 all_goals rfl
theorem l12Decode_c (k:Nat) (l:Tx) (hk:k < 60) (hl:l.length<=1000000):∃ c r b,(b=true->decT k l=some (c,r))/\(b=false->decT k l=none)/\PC Tryz.prog 63 [.c (dT l),.c (dI k)] (.t [.g [dT c,dT r],.c (dB b)]):=by
 by_cases h:(bef 35 l).length < (ahdT k).length∨(bef 35 l).take (ahdT k).length≠ahdT k
 ·exact ⟨_,_,_,fun h=>(by cases h),fun _=>decS1 h,dec_1 k l hk hl h⟩
 ·by_cases h2:(bef 64 (rstT k l)).length=(rstT k l).length
  ·exact ⟨_,_,_,fun h=>(by cases h),fun _=>decS2 h2,dec_2 k l hk hl h h2⟩
  ·refine ⟨_,_,_,fun h3=>?_,fun h3=>?_,dec_3 k l hk hl h h2⟩
   ·simp only [Bool.and_eq_true,decide_eq_true_eq] at h3;exact decS3.1 h3
   ·refine decS3.2 fun h4=>?_;have:(recB (bef 64 (rstT k l)) (restS k l)&&decide (lineT k (bef 64 (rstT k l)) (restS k l)=l))=true:=by simp only [Bool.and_eq_true,decide_eq_true_eq];exact h4
    rw [this] at h3;cases h3
theorem l12Open_p (s:Tx) (hs:s.length<=1000000):PC Tryz.prog 37 [.c (dT s)] (.t [.c (eR (recsT s)),.c (dI (endT s))]):=by
  refine jao Tryz.func37 fun _=>?_;repeat' (first|apply zaa ?_|(refine jaa (.buildSlice 73 0 _) ?_;(apply jaw (sz:=2) (by_:=32);exact Kb;exact Ybr;exact Yab;exact Ybr;(·rfl);(·rfl);(·rfl)))|refine jai ?_|refine jaj ?_|refine jah ?_|refine jac ?_)
  apply jbe [0,4,5] [7,9,22,41,42] rfl;exact Kr;exact Yah;refine jbf [0] [22,7,41,42] (fun j=>[(4,.c (.ls 9 2 0 j)),(5,iN (endsT s j))]) (fun j=>[(9,.row 2 (recD ((recsT s).take j)))]) (fun j=>j<=numR s) (fun j=>60 - j) (0) ?_ Kg (by (repeat(first|exact trivial|refine ⟨(by ((refine jbs rfl ?_;simp  [jid,recD];done))),?_⟩))) ?_
  · omega
  intro j hj;have h60:=jfv s;have hle:=ends_le s j;have hlr:((recsT s).take j).length=j:=by rw [List.length_take,jei];omega
  have hrl:(recD ((recsT s).take j)).length=j*2:=by rw [recD_len,hlr]
  have hrest:partZ s (endsT s j) s.length=s.drop (endsT s j):=jhh s _ hle;have hfin:numR s=j->(recsT s).take j=recsT s/\endT s=endsT s j:=fun e=>⟨by rw [List.take_of_length_le (by rw [jei];omega)],by unfold endT;rw [e]⟩;have hpl:=jij s (endsT s j) s.length;have hbl:=jlc 10 (partZ s (endsT s j) s.length);by_cases h:endsT s j < s.length/\j < 60
  · obtain ⟨c, r, b, hb1, hb2, hpc⟩ := l12Decode_c j (bef 10 (partZ s (endsT s j) s.length)) h.2 Kf
    have hsl:=jhe 10 (partZ s (endsT s j) s.length);by_cases hm:10∈partZ s (endsT s j) s.length
    · cases hb:b with
      | true =>
        subst hb;have hst:stepT j (s.drop (endsT s j))=some ((c,r),(bef 10 (s.drop (endsT s j))).length+1):=jmo (by rw [<- hrest];exact hm) (by rw [<- hrest];exact hb1 rfl);obtain ⟨g1,g2,g3⟩:=log_go hj h.2 hst;rw [<- hrest] at g3;rw [show ((splitT 10 (partZ s (endsT s j) s.length)).length < 2↔10 ∉ (partZ s (endsT s j) s.length))↔True by simp [hsl]] at hsl;have hsl2:¬ (splitT 10 (partZ s (endsT s j) s.length)).length < 2:=fun h=>absurd hm ((jhe 10 _).1 h);clear hfin hrest hst hb1 hb2;repeat' (first|apply zaa ?_|(refine jaa (.move _) ?_;(first|refine jab (jal rfl) rfl ?_|refine jab (jcn rfl) rfl ?_))|apply zba ?_|apply zac ?_|apply zdh ?_|apply zah ?_|apply zcg ?_|apply zdx ?_|apply zbr ?_|apply zaj ?_|(refine jaa (.alloc 77) ?_;refine jbi (zs:=[.string ByteArray.empty,.string ByteArray.empty]) Kb rfl ?_)|(refine jaa (.store 77 _ _) ?_;(refine jan rfl rfl rfl Kb rfl rfl ?_))|apply zce ?_|apply zag ?_|apply zct ?_|(refine jaa (.buildSlice 73 1 _) ?_;(apply jaw (sz:=2) (by_:=32);exact Kb;exact Ybr;exact Yan;exact Ybr;(·rfl);(·rfl);(·rfl)))|(refine jaa (.call ⟨.builtin .append,_,#[73,73]⟩) ?_;((apply jbx (sz:=2) (by_:=32);(·rfl);(·rfl);(·(assumption));exact Kn;exact Ybr;exact Kb;exact Ybr;exact Kf;exact Kf;(·rfl);(·rfl);(·rfl))))|apply zad ?_|apply Ub (c:=l1Split_p _ 10 Kf) (h:=?_)|apply Ub (c:=hpc) (h:=?_)|refine jai ?_|refine jbn rfl rfl rfl rfl ?_|refine jbj rfl rfl rfl rfl ?_|refine jcc rfl rfl (fun hg=>?_) (fun hg=>?_)|refine jaj ?_|refine jah ?_|refine jaz ?_|refine jaq rfl ?_|refine jam ?_|refine jac ?_|refine jbg rfl ?_|refine jay rfl ?_|refine jbd rfl (fun hc=>?_) (fun hc=>?_)|exact Qab|fail)
        refine bkL (j+1) ?_ ?_ (hB:=(by (repeat(first|exact trivial|refine ⟨(by ((refine jbs rfl ?_;simp  [recs_snoc g2,g3,Nat.add_assoc];done))),?_⟩))))
        · omega
        · omega
      | false =>
        subst hb;have hst:=jha hj (jmp (by rw [<- hrest];exact hb2 rfl));obtain ⟨f1,f2⟩:=hfin hst;have f3:(recsT s).length=j:=(jei s).trans hst;clear hfin hrest hb1 hb2;repeat' (first|apply zaa ?_|(refine jaa (.move _) ?_;(first|refine jab (jal rfl) rfl ?_|refine jab (jcn rfl) rfl ?_))|apply zba ?_|apply zac ?_|apply zdh ?_|apply zah ?_|apply zcg ?_|apply zdx ?_|apply zbr ?_|apply zaj ?_|(refine jaa (.alloc 77) ?_;refine jbi (zs:=[.string ByteArray.empty,.string ByteArray.empty]) Kb rfl ?_)|(refine jaa (.store 77 _ _) ?_;(refine jan rfl rfl rfl Kb rfl rfl ?_))|apply zce ?_|apply zag ?_|apply Ub (c:=l1Split_p _ 10 Kf) (h:=?_)|apply Ub (c:=hpc) (h:=?_)|refine jai ?_|refine jbn rfl rfl rfl rfl ?_|refine jbj rfl rfl rfl rfl ?_|refine jcc rfl rfl (fun hg=>?_) (fun hg=>?_)|refine jaj ?_|refine jah ?_|refine jaq rfl ?_|refine jam ?_|refine jac ?_|refine jbg rfl ?_|refine jay rfl ?_|refine jbd rfl (fun hc=>?_) (fun hc=>?_)|exact Qab|fail)
        all_goals refine Rar ?_
        all_goals simp only [eR,f1,f2,f3]
    · have hst := jha hj (step_no (by rw [<- hrest];exact hm))
      obtain ⟨f1,f2⟩:=hfin hst;have f3:(recsT s).length=j:=(jei s).trans hst;have hsl2:(splitT 10 (partZ s (endsT s j) s.length)).length < 2:=hsl.2 hm;clear hfin hrest hb1 hb2;repeat' (first|apply zaa ?_|(refine jaa (.move _) ?_;(first|refine jab (jal rfl) rfl ?_|refine jab (jcn rfl) rfl ?_))|apply zba ?_|apply zac ?_|apply zdh ?_|apply zah ?_|apply zcg ?_|apply zdx ?_|apply zbr ?_|apply zaj ?_|(refine jaa (.alloc 77) ?_;refine jbi (zs:=[.string ByteArray.empty,.string ByteArray.empty]) Kb rfl ?_)|(refine jaa (.store 77 _ _) ?_;(refine jan rfl rfl rfl Kb rfl rfl ?_))|apply zce ?_|apply zag ?_|apply zct ?_|(refine jaa (.buildSlice 73 1 _) ?_;(apply jaw (sz:=2) (by_:=32);exact Kb;exact Ybr;exact Yan;exact Ybr;(·rfl);(·rfl);(·rfl)))|(refine jaa (.call ⟨.builtin .append,_,#[73,73]⟩) ?_;((apply jbx (sz:=2) (by_:=32);(·rfl);(·rfl);(·(assumption));exact Kn;exact Ybr;exact Kb;exact Ybr;exact Kf;exact Kf;(·rfl);(·rfl);(·rfl))))|apply zad ?_|apply Ub (c:=l1Split_p _ 10 Kf) (h:=?_)|apply Ub (c:=hpc) (h:=?_)|refine jai ?_|refine jbn rfl rfl rfl rfl ?_|refine jbj rfl rfl rfl rfl ?_|refine jcc rfl rfl (fun hg=>?_) (fun hg=>?_)|refine jaj ?_|refine jah ?_|refine jaz ?_|refine jaq rfl ?_|refine jam ?_|refine jac ?_|refine jbg rfl ?_|refine jay rfl ?_|refine jbd rfl (fun hc=>?_) (fun hc=>?_)|refine jcu rfl (fun hc=>?_) (fun hc=>?_)|exact Qab|fail)
      all_goals refine Rar ?_
      all_goals simp only [eR,f1,f2,f3]
  · have hst:numR s=j:=by
      by_cases h2:j < 60
      · refine jha hj (step_no ?_)
        rw [List.drop_eq_nil_of_le Kf];simp
      · omega
    obtain ⟨f1,f2⟩:=hfin hst;have f3:(recsT s).length=j:=(jei s).trans hst;clear hfin hrest;repeat' (first|apply zaa ?_|apply zab ?_|apply zba ?_|apply zac ?_|apply zdh ?_|apply zah ?_|apply zcg ?_|refine jai ?_|refine jbn rfl rfl rfl rfl ?_|refine jbj rfl rfl rfl rfl ?_|refine jcc rfl rfl (fun hg=>?_) (fun hg=>?_)|refine jaj ?_|refine jah ?_|refine jaq rfl ?_|refine jam ?_|refine jac ?_|refine jay rfl ?_|refine jbd rfl (fun hc=>?_) (fun hc=>?_)|exact Qab|fail)
    all_goals refine Rar ?_
    all_goals simp only [eR,f1,f2,f3]
theorem Vbh {G G':Prop} (h:G') (t:Laa G'->G:=by intro h;first|(first|apply zda h.o|apply zdd h.o|exact Wby h.o|exact Wbh h.o|exact Wbi h.o|exact jac h.o|exact Maa h.o|exact Wbd h.o|apply zdf h.o|fail);done|fail):G:=t ⟨h⟩
theorem l12Valid_p (d p:Tx) (c:Int) (hb:(d.length:Int)+p.length<=1000000000):PC Tryz.prog 36 [.g [dT d,dT p,dI c]] (.p (.c (dB (validB d p c)))):=by
 refine jao Tryz.func36 ?_;rintro ⟨hf,-⟩;have hf0:=FitT (hf (dT d) Yby);have hf1:=FitT (hf (dT p) Yby);clear hf;by_cases h:(d.length:Int)+p.length<=30000
 ·have h1:=jei (d++p);have h2:((d++p).length:Int)=d.length+p.length:=by simp
  repeat' (first|refine Vbh ?_|(first|apply Ub (d:=21) (c:=l12Open_p _ Ybw) (h:=?_)|apply Ub (d:=27) (c:=l12Open_p _ Kf) (h:=?_))|refine jcc rfl rfl (fun hg=>?_) (fun hg=>?_)|refine jbd rfl (fun hc=>?_) (fun hc=>?_)|exact Qaa|fail)
  all_goals refine Rad ?_
  all_goals refine dB_eq (Bool.eq_iff_iff.2 ?_)
  all_goals rw [valid_iff h]
  ·rw [decide_eq_true_eq];omega
  ·exact Dbs
  ·exact Dbs
 ·repeat' (first|refine Vbh ?_|(first|apply Ub (d:=21) (c:=l12Open_p _ Ybw) (h:=?_)|apply Ub (d:=27) (c:=l12Open_p _ Kf) (h:=?_))|refine jcc rfl rfl (fun hg=>?_) (fun hg=>?_)|refine jbd rfl (fun hc=>?_) (fun hc=>?_)|exact Qaa|fail)
  all_goals refine Rad ?_
  all_goals rw [joq h]
theorem spIsValidConsole_p (bx by_ bwh:Int) (bll:List (List Int)) (pl:List Int) (ev:Int) (cc:List (List Int)) (ss nu:List Int) (co:Int) (d p:Tx) (n:Int) (hb:(d.length:Int)+p.length<=1000000000) :
  PC Tryz.prog 25 [.g [dI bx,dI by_,dI bwh,eII bll,eI pl,dI ev,eII cc,eI ss,eI nu,dI co,dT d,dT p,dI n]] (.p (.c (dB (hallB bx by_ bwh bll pl ev cc ss nu co&&validB d p n)))):=by
 refine jao Tryz.func25 fun _=>?_;repeat' (first|refine Wbh ?_|refine Wbi ?_|refine jac ?_|refine Maa ?_|refine Wbe ?_|apply Ub (c:=l12Good_p _ _ _ _ _ _ _ _ _ _) (h:=?_)|apply Ub (c:=l12Valid_p _ _ _ Kf) (h:=?_)|refine jdf rfl rfl (fun hg=>?_) (fun hg=>?_))
 all_goals refine Rad ?_
 all_goals simp_all
theorem Vbi {G G':Prop} (h:G') (t:Laa G'->G:=by intro h;first|(first|exact Wbh h.o|exact Wbi h.o|exact jac h.o|exact jav 5 (fun i=>i == 8) [0,1,2,3,4,-6,6,7,-9] h.o|exact Maa h.o|exact Wbd h.o|exact Wcu h.o|exact Wad h.o|exact Wat h.o|exact Wau h.o|apply zct h.o|(refine jaa (.store 9 _ _) ?_;(refine jbk rfl rfl rfl rfl Kb rfl rfl ?_);exact h.o)|fail);done|fail):G:=t ⟨h⟩
theorem jkl (d p:Tx) (n:Int) (c r:Tx) (hb:(d.length:Int)+p.length<=1000000000) (h:(validB d p n&&recB c r)=false):PC Tryz.prog 49 [.g [dT d,dT p,dI n],.g [dT c,dT r]] (.t [.g [dT d,dT p,dI n],.c (dI 1)]):=by
 refine jao Tryz.func49 fun _=>?_;repeat' (first|refine Vbi ?_|apply Ub (c:=l12Valid_p _ _ _ Kf) (h:=?_)|apply Ub (c:=l12Record_p _ _) (h:=?_)|refine jdf rfl rfl (fun hg=>?_) (fun hg=>?_)|refine jbd rfl (fun hc=>?_) (fun hc=>?_)|refine jcu rfl (fun hc=>?_) (fun hc=>?_)|exact Qac|exact Rfc|fail)
theorem spAppendRecord_p (d p:Tx) (k:Nat) (c r:Tx) (hb:(d.length:Int)+p.length<=1000000000) (h:validB d p k=true) (h2:recB c r=true) (h3:k < 60):PC Tryz.prog 49 [.g [dT d,dT p,dI k],.g [dT c,dT r]] (.t [.g [dT d,dT (p++(lineT k c r++[10])),dI (k+1)],.c (dI 0)]):=by
 have h4:=(validB_p h).len;have h5:=jig h3 (recB_p h2);have h6:=jhj (textT k c r);have h7:(lineT k c r).length<=500:=by unfold lineT;omega
 have h8:=(recB_p h2).cl;have h9:=(recB_p h2).rl;clear h5 h6;refine jao Tryz.func49 fun _=>?_;repeat' (first|refine Vbi ?_|apply Ub (c:=l12Valid_p _ _ _ Kf) (h:=?_)|apply Ub (c:=l12Record_p _ _) (h:=?_)|apply Ub (c:=l12Line_p _ _ _ h3 Kf Kf) (h:=?_)|refine jdf rfl rfl (fun hg=>?_) (fun hg=>?_)|refine jbd rfl (fun hc=>?_) (fun hc=>?_)|refine jcu rfl (fun hc=>?_) (fun hc=>?_))
 all_goals first|(exfalso;simp_all;done)|(exfalso;omega)|skip
 all_goals refine Ras ?_
 all_goals rfl
abbrev cH (h:HD):List D:=[dI h.bx,dI h.by_,dI h.bwh,eII h.bll,eI h.pl,dI h.ev,eII h.cc,eI h.ss,eI h.nu,dI h.co]
def CallR (h:HD) (k a:Int) (ds:List D) (res:Res):Prop:=match callT h k a with
 | some h'=>ds=cH h'/\res = .p (.c (dB true))
 | none=>(∃ h':HD,ds=cH h')/\res = .p (.c (dB false))
theorem jdq {h:HD} {k a:Int} {ds:List D} {res:Res} (e:callT h k a=none) (x:∃ h':HD,ds=cH h') (hr:res = .p (.c (dB false))):CallR h k a ds res:=by
 unfold CallR;rw [e];exact ⟨x,hr⟩
theorem flippedD_p (x y n:Int) (ll:List (List Int)) (fl:List Int) (m:Nat) (ds:List D) (hm:m=fl.length) (hd:ds=cI fl) (hb:boxB x y n ll=true) (hf:bitsB fl (x+y)=true):PC Tryz.prog 181 [.g [dI x,dI y,dI n,eII ll],.c (.sl 1 m ds)] (.p (.g [dI x,dI y,dI n,eII (bflL ll x y fl)])):=by
 subst hm hd;exact flipped_p x y n ll fl hb hf
theorem call1_p (bx by_ bwh:Int) (bll:List (List Int)) (pl:List Int) (ev:Int) (cc:List (List Int)) (ss nu:List Int) (co:Int) (a:Int) (hb:boxB bx by_ bwh bll=true) (hp:bitsB pl (bx+by_)=true) (hs:sceneB ev cc ss=true) (hu:bitsB nu ev=true):PX Tryz.prog 124 [.o (dI bx),.o (dI by_),.o (dI bwh),.o (eII bll),.o (eI pl),.o (dI ev),.o (eII cc),.o (eI ss),.o (eI nu),.o (dI co)] [.v (.g [dI 1,dI a])] (CallR ⟨bx,by_,bwh,bll,pl,ev,cc,ss,nu,co⟩ 1 a):=by
 have hl:=jce hp;have hn:=jce hu;have b:=jbo hb;have x1:=b.x1;have y1:=b.y1;have x3:=b.x3;have y3:=b.y3;have n1:=b.n1;have n2:=b.n2;have s:=jbv hs;have e0:=s.e0;have e12:=s.e12;have hbl:=b.len;have hm:=jds (jct.2 ⟨⟨x1,x3⟩,y1,y3⟩);clear b s;refine jfc Tryz.func124 fun kv=>?_;repeat' (first|(with_reducible apply jeq)|intro Y hY|((with_reducible apply jff);exact Yak;(·rfl);exact Ko;exact Ko)|((with_reducible apply jfg);(·rfl);exact Yal;exact Ki;exact Yak)|refine jdr ?_ ?_|(refine jaa (.box 110 _) ?_;refine jax rfl rfl ?_)|apply zaa ?_|apply zbs ?_|apply zaf ?_|(refine jaa (.move _) ?_;(first|refine jab (jal rfl) rfl ?_|refine jab (jcn rfl) rfl ?_))|apply zcz ?_|apply zbg ?_|apply zax ?_|apply zbm ?_|apply zav ?_|apply zbl ?_|apply zbo ?_|apply zai ?_|apply zay ?_|apply zbb ?_|apply zbd ?_|apply zaj ?_|(refine jaa (.alloc 38) ?_;refine jbi (zs:=[.int .i64 0,.int .i64 0,.int .i64 0,.slice none 0 0]) Kb rfl ?_)|(refine jaa (.store 38 _ _) ?_;(refine jan rfl rfl rfl Kb rfl rfl ?_))|apply zae ?_|apply zah ?_|apply Ub (c:=within_p _ _ _) (h:=?_)|apply Ub (c:=PlayBox_p _ _ _ _) (h:=?_)|apply Ua (c:=MixBoxes_p _ _ _ _ _ _ _ _) (h:=?_)|refine jai ?_|refine jbn rfl rfl rfl rfl ?_|refine jbj rfl rfl rfl rfl ?_|refine jdf rfl rfl (fun hg=>?_) (fun hg=>?_)|refine jaj ?_|refine jah ?_|refine jac ?_|refine jav 2 (fun _=>false) [0,1,2,3,4,5,6,7,9,10,11,12,13,14,15,16,-9,-18,18,19] ?_|refine jcv 5 (fun i=>i == 21) (IT.lt (.step 21 false (.step 22 true .nil)) fun Y0=>(.step 0 true (.step 1 true (.step 2 true (.step 3 true (.step 4 true (.step 5 true (.step 6 true (.step 7 true (.step 8 true (.step 9 true (.step 10 true (.step 11 true (.step 12 true (.step 13 true (.step 14 true (.step 15 true (.alt 5 (.step 16 false (.step 17 true (.step 18 true (.step 19 true (.step 20 false (IT.ref true [0,8,9,51,52] [3,3050,8,800000000,1000000,1001000,1002000,1003000,1004000,1005000,1006000,1007000,1008000,1009000] Y0)))))) (.step 20 false (.step 16 false (.step 17 true (.step 18 true (.step 19 true (IT.ref false [0,8,9,51,52] [3,3050,8,800000000,1000000,1001000,1002000,1003000,1004000,1005000,1006000,1007000,1008000,1009000] Y0)))))))))))))))))))))))) ?_|refine jav 6 (fun i=>i == 12) [0,1,2,3,4,5,-7,7,8,9,10,11,-13,13] ?_|refine jbg rfl ?_)
 all_goals (apply jgd;exact Ybh)
 all_goals cases hP:playB bx by_ pl a <;> first|(simp_all [CallR,callT,mixOK,whenN,whenL];done)|exact jdq (by simp_all [callT,mixOK,whenN,whenL]) ⟨⟨_,_,_,_,_,_,_,_,_,_⟩,rfl⟩ Ybp
theorem call2_p (bx by_ bwh:Int) (bll:List (List Int)) (pl:List Int) (ev:Int) (cc:List (List Int)) (ss nu:List Int) (co:Int) (a:Int) (hb:boxB bx by_ bwh bll=true) (hp:bitsB pl (bx+by_)=true) (hs:sceneB ev cc ss=true) (hu:bitsB nu ev=true):PX Tryz.prog 124 [.o (dI bx),.o (dI by_),.o (dI bwh),.o (eII bll),.o (eI pl),.o (dI ev),.o (eII cc),.o (eI ss),.o (eI nu),.o (dI co)] [.v (.g [dI 2,dI a])] (CallR ⟨bx,by_,bwh,bll,pl,ev,cc,ss,nu,co⟩ 2 a):=by
 have hl:=jce hp;have hn:=jce hu;have b:=jbo hb;have x1:=b.x1;have y1:=b.y1;have x3:=b.x3;have y3:=b.y3;have n1:=b.n1;have n2:=b.n2;have s:=jbv hs;have e0:=s.e0;have e12:=s.e12;have hbl:=b.len;have hm:=jds (jct.2 ⟨⟨x1,x3⟩,y1,y3⟩);clear b s;have hat:∀ h:inB a 0 (pl.length - 1)=true,0<=atZ pl a/\atZ pl a<=1:=fun h=>jdd hp (by have:=jcx.1 h;omega) (by have:=jcx.1 h;omega);cases hA:inB a 0 (pl.length - 1) with
 | false =>
  refine jfc Tryz.func124 fun kv=>?_;repeat' (first|(refine jaa (.box 110 _) ?_;refine jax rfl rfl ?_)|apply zaa ?_|apply zbs ?_|apply zaf ?_|apply zab ?_|apply zcz ?_|apply zbg ?_|apply zax ?_|apply zbm ?_|apply zav ?_|apply zbl ?_|apply zbo ?_|apply zai ?_|apply Ub (c:=within_p _ _ _) (h:=?_)|refine jai ?_|refine jaj ?_|refine jah ?_|refine jam ?_|refine jac ?_|refine jav 2 (fun _=>false) [0,1,2,3,4,5,6,7,9,10,11,12,13,14,15,16,-9,-18,18,19] ?_|refine jav 10 (fun i=>i == 10) [0,1,2,3,4,5,6,7,8,9,-11] ?_|refine jbg rfl ?_|refine jay rfl ?_|refine jeh rfl (fun hc=>?_) (fun hc=>?_)|exact Qac|fail)
  all_goals (apply jgd;exact Ybh)
  all_goals first|(simp_all [CallR,callT];done)|exact jdq Yaz ⟨⟨_,_,_,_,_,_,_,_,_,_⟩,rfl⟩ Ybp|exact jdq Yaz ⟨⟨bx,by_,bwh,bll,pl,0,[],[],nu,co⟩,by simp⟩ Ybp
 | true =>
  have h2:=hat hA;have h3:=jcx.1 hA;have h4:=xor_one h2;refine jfc Tryz.func124 fun kv=>?_;repeat' (first|(refine jaa (.box 110 _) ?_;refine jax rfl rfl ?_)|apply zaa ?_|apply zbs ?_|(refine jaa (.load 3 _) ?_;(first|refine jab (jag rfl rfl Kb rfl) rfl ?_|refine jab (jdi rfl rfl Kb Kf Kf) rfl ?_))|apply zab ?_|apply zcz ?_|apply zbg ?_|apply zax ?_|apply zbm ?_|apply zav ?_|apply zbl ?_|apply zbo ?_|apply zai ?_|apply zca ?_|apply zbi ?_|(refine jaa (.store 3 _ _) ?_;((refine jcp rfl rfl rfl rfl (.lit _) Yby Yby Kb Ybg rfl ?_;simp only [St.drop])))|apply Ub (c:=within_p _ _ _) (h:=?_)|refine jai ?_|refine jaj ?_|refine jah ?_|refine jam ?_|refine jac ?_|refine jav 2 (fun _=>false) [0,1,2,3,4,5,6,7,9,10,11,12,13,14,15,16,-9,-18,18,19] ?_|refine jav 10 (fun i=>i == 10) [0,1,2,3,4,5,6,7,8,9,-11] ?_|refine jbg rfl ?_|refine jay rfl ?_|refine jeh rfl (fun hc=>?_) (fun hc=>?_)|exact Qac|fail)
  all_goals (apply jgd;exact Ybh)
  all_goals first|(simp_all [CallR,callT,List.map_set];done)|exact jdq Yaz ⟨⟨_,_,_,_,_,_,_,_,_,_⟩,rfl⟩ Ybp|exact jdq Yaz ⟨⟨bx,by_,bwh,bll,pl,0,[],[],nu,co⟩,by simp⟩ Ybp
theorem call3_p (bx by_ bwh:Int) (bll:List (List Int)) (pl:List Int) (ev:Int) (cc:List (List Int)) (ss nu:List Int) (co:Int) (a:Int) (hb:boxB bx by_ bwh bll=true) (hp:bitsB pl (bx+by_)=true) (hs:sceneB ev cc ss=true) (hu:bitsB nu ev=true):PX Tryz.prog 124 [.o (dI bx),.o (dI by_),.o (dI bwh),.o (eII bll),.o (eI pl),.o (dI ev),.o (eII cc),.o (eI ss),.o (eI nu),.o (dI co)] [.v (.g [dI 3,dI a])] (CallR ⟨bx,by_,bwh,bll,pl,ev,cc,ss,nu,co⟩ 3 a):=by
 have hl:=jce hp;have hn:=jce hu;have b:=jbo hb;have x1:=b.x1;have y1:=b.y1;have x3:=b.x3;have y3:=b.y3;have n1:=b.n1;have n2:=b.n2;have s:=jbv hs;have e0:=s.e0;have e12:=s.e12;have hbl:=b.len;have hm:=jds (jct.2 ⟨⟨x1,x3⟩,y1,y3⟩);clear b s;cases hA:inB a 0 (pl.length - 1) with
 | false =>
  refine jfc Tryz.func124 fun kv=>?_;repeat' (first|(refine jaa (.box 110 _) ?_;refine jax rfl rfl ?_)|apply zaa ?_|apply zbs ?_|apply zaf ?_|apply zab ?_|apply zcz ?_|apply zbg ?_|apply zax ?_|apply zbm ?_|apply zav ?_|apply zbl ?_|apply zbo ?_|apply zai ?_|(refine jaa (.makeSlice 25 _ _) ?_;(refine jgo (by_:=8) (z:=.int .i64 0) (y:=.lit (.int .i64 0)) rfl rfl Kb Kb rfl (fun _ => .lit _ rfl) Kf Kf Kf rfl ?_))|apply Ub (c:=within_p _ _ _) (h:=?_)|refine jai ?_|refine jaj ?_|refine jah ?_|refine jam ?_|refine jac ?_|refine jav 2 (fun _=>false) [0,1,2,3,4,5,6,7,9,10,11,12,13,14,15,16,-9,-18,18,19] ?_|refine jbg rfl ?_|refine jay rfl ?_|refine jeh rfl (fun hc=>?_) (fun hc=>?_)|exact Qac|fail)
  all_goals (apply jgd;exact Ybh)
  all_goals first|(simp_all [CallR,callT];done)|exact jdq Yaz ⟨⟨_,_,_,_,_,_,_,_,_,_⟩,rfl⟩ Ybp|exact jdq Yaz ⟨⟨bx,by_,bwh,bll,pl,0,[],[],nu,co⟩,by simp⟩ Ybp
 | true =>
  have h3:=jcx.1 hA;have h4:bitsB (oneL pl.length a) (bx+by_)=true:=by rw [<- hl];exact oneL_bits _ _
  refine jfc Tryz.func124 fun kv=>?_;repeat' (first|(refine jaa (.box 110 _) ?_;refine jax rfl rfl ?_)|apply zaa ?_|apply zbs ?_|apply zaf ?_|apply zab ?_|apply zcz ?_|apply zbg ?_|apply zax ?_|apply zbm ?_|apply zav ?_|apply zbl ?_|apply zbo ?_|apply zai ?_|apply zay ?_|(refine jaa (.store 38 _ _) ?_;(refine jan rfl rfl rfl Kb rfl rfl ?_))|apply zae ?_|apply zca ?_|(refine jaa (.store 3 _ _) ?_;((refine jcp rfl rfl rfl rfl (.lit _) Yby Yby Kb Ybg rfl ?_;simp only [St.drop])))|(refine jaa (.makeSlice 25 _ _) ?_;(refine jgo (by_:=8) (z:=.int .i64 0) (y:=.lit (.int .i64 0)) rfl rfl Kb Kb rfl (fun _ => .lit _ rfl) Kf Kf Kf rfl ?_))|apply Ub (c:=within_p _ _ _) (h:=?_)|apply Ua (c:=flippedD_p _ _ _ _ (oneL pl.length a) _ _ Yby (by simp [oneL,List.map_set]) hb h4) (h:=?_)|refine jai ?_|refine jaj ?_|refine jah ?_|refine jam ?_|refine jac ?_|refine jav 2 (fun _=>false) [0,1,2,3,4,5,6,7,9,10,11,12,13,14,15,16,-9,-18,18,19] ?_|refine jbg rfl ?_|refine jay rfl ?_|refine jeh rfl (fun hc=>?_) (fun hc=>?_)|exact Qac|fail)
  all_goals (apply jgd;exact Ybh)
  all_goals first|(simp_all [CallR,callT];done)|exact jdq Yaz ⟨⟨_,_,_,_,_,_,_,_,_,_⟩,rfl⟩ Ybp|exact jdq Yaz ⟨⟨bx,by_,bwh,bll,pl,0,[],[],nu,co⟩,by simp⟩ Ybp
theorem call5_p (bx by_ bwh:Int) (bll:List (List Int)) (pl:List Int) (ev:Int) (cc:List (List Int)) (ss nu:List Int) (co:Int) (a:Int) (hb:boxB bx by_ bwh bll=true) (hp:bitsB pl (bx+by_)=true) (hs:sceneB ev cc ss=true) (hu:bitsB nu ev=true):PX Tryz.prog 124 [.o (dI bx),.o (dI by_),.o (dI bwh),.o (eII bll),.o (eI pl),.o (dI ev),.o (eII cc),.o (eI ss),.o (eI nu),.o (dI co)] [.v (.g [dI 5,dI a])] (CallR ⟨bx,by_,bwh,bll,pl,ev,cc,ss,nu,co⟩ 5 a):=by
 have hl:=jce hp;have hn:=jce hu;have b:=jbo hb;have x1:=b.x1;have y1:=b.y1;have x3:=b.x3;have y3:=b.y3;have n1:=b.n1;have n2:=b.n2;have s:=jbv hs;have e0:=s.e0;have e12:=s.e12;have hbl:=b.len;have hm:=jds (jct.2 ⟨⟨x1,x3⟩,y1,y3⟩);clear b s;have hR:=ReduceBox_p _ _ _ _ hb;by_cases h0:a=0;all_goals
  refine jfc Tryz.func124 fun kv=>?_;repeat' (first|(refine jaa (.box 110 _) ?_;refine jax rfl rfl ?_)|apply zaa ?_|apply zbs ?_|apply zaf ?_|(refine jaa (.move _) ?_;(first|refine jab (jal rfl) rfl ?_|refine jab (jcn rfl) rfl ?_))|apply zcz ?_|apply zbg ?_|apply zax ?_|apply zbm ?_|apply zav ?_|apply zbl ?_|apply zbo ?_|apply zai ?_|apply zay ?_|apply zaj ?_|(refine jaa (.store 38 _ _) ?_;(refine jan rfl rfl rfl Kb rfl rfl ?_))|apply zae ?_|apply zah ?_|apply Ub (c:=within_p _ _ _) (h:=?_)|apply Ua (c:=hR) (h:=?_)|refine jai ?_|refine jbj rfl rfl rfl rfl ?_|refine jaj ?_|refine jah ?_|refine jac ?_|refine jav 2 (fun _=>false) [0,1,2,3,4,5,6,7,9,10,11,12,13,14,15,16,-9,-18,18,19] ?_|refine jbg rfl ?_|refine jay rfl ?_|exact Qac|fail)
  all_goals (apply jgd;exact Ybh)
  all_goals first|(simp_all [CallR,callT];done)|exact jdq Yaz ⟨⟨_,_,_,_,_,_,_,_,_,_⟩,rfl⟩ Ybp|exact jdq Yaz ⟨⟨bx,by_,bwh,bll,pl,0,[],[],nu,co⟩,by simp⟩ Ybp
theorem call6_p (bx by_ bwh:Int) (bll:List (List Int)) (pl:List Int) (ev:Int) (cc:List (List Int)) (ss nu:List Int) (co:Int) (a:Int) (hb:boxB bx by_ bwh bll=true) (hp:bitsB pl (bx+by_)=true) (hs:sceneB ev cc ss=true) (hu:bitsB nu ev=true):PX Tryz.prog 124 [.o (dI bx),.o (dI by_),.o (dI bwh),.o (eII bll),.o (eI pl),.o (dI ev),.o (eII cc),.o (eI ss),.o (eI nu),.o (dI co)] [.v (.g [dI 6,dI a])] (CallR ⟨bx,by_,bwh,bll,pl,ev,cc,ss,nu,co⟩ 6 a):=by
 have hl:=jce hp;have hn:=jce hu;have b:=jbo hb;have x1:=b.x1;have y1:=b.y1;have x3:=b.x3;have y3:=b.y3;have n1:=b.n1;have n2:=b.n2;have s:=jbv hs;have e0:=s.e0;have e12:=s.e12;have hbl:=b.len;have hm:=jds (jct.2 ⟨⟨x1,x3⟩,y1,y3⟩);clear b s;have hat:∀ h:inB a 0 (nu.length - 1)=true,0<=atZ nu a/\atZ nu a<=1:=fun h=>jdd hu (by have:=jcx.1 h;omega) (by have:=jcx.1 h;omega);cases hA:inB a 0 (nu.length - 1) with
 | false =>
  refine jfc Tryz.func124 fun kv=>?_;repeat' (first|(refine jaa (.box 110 _) ?_;refine jax rfl rfl ?_)|apply zaa ?_|apply zbs ?_|apply zaf ?_|apply zab ?_|apply zcz ?_|apply zbg ?_|apply zax ?_|apply zbm ?_|apply zav ?_|apply zbl ?_|apply zbo ?_|apply zai ?_|apply Ub (c:=within_p _ _ _) (h:=?_)|refine jai ?_|refine jaj ?_|refine jah ?_|refine jam ?_|refine jac ?_|refine jav 2 (fun _=>false) [0,1,2,3,4,5,6,7,9,10,11,12,13,14,15,16,-9,-18,18,19] ?_|refine jav 27 (fun i=>i == 10) [0,1,2,3,4,5,6,7,8,9,-11] ?_|refine jbg rfl ?_|refine jay rfl ?_|refine jeh rfl (fun hc=>?_) (fun hc=>?_)|exact Qac|fail)
  all_goals (apply jgd;exact Ybh)
  all_goals first|(simp_all [CallR,callT];done)|exact jdq Yaz ⟨⟨_,_,_,_,_,_,_,_,_,_⟩,rfl⟩ Ybp|exact jdq Yaz ⟨⟨bx,by_,bwh,bll,pl,0,[],[],nu,co⟩,by simp⟩ Ybp
 | true =>
  have h2:=hat hA;have h3:=jcx.1 hA;have h4:=xor_one h2;refine jfc Tryz.func124 fun kv=>?_;repeat' (first|(refine jaa (.box 110 _) ?_;refine jax rfl rfl ?_)|apply zaa ?_|apply zbs ?_|(refine jaa (.load 3 _) ?_;(first|refine jab (jag rfl rfl Kb rfl) rfl ?_|refine jab (jdi rfl rfl Kb Kf Kf) rfl ?_))|apply zab ?_|apply zcz ?_|apply zbg ?_|apply zax ?_|apply zbm ?_|apply zav ?_|apply zbl ?_|apply zbo ?_|apply zai ?_|apply zca ?_|apply zbi ?_|(refine jaa (.store 3 _ _) ?_;((refine jcp rfl rfl rfl rfl (.lit _) Yby Yby Kb Ybg rfl ?_;simp only [St.drop])))|apply Ub (c:=within_p _ _ _) (h:=?_)|refine jai ?_|refine jaj ?_|refine jah ?_|refine jam ?_|refine jac ?_|refine jav 2 (fun _=>false) [0,1,2,3,4,5,6,7,9,10,11,12,13,14,15,16,-9,-18,18,19] ?_|refine jav 27 (fun i=>i == 10) [0,1,2,3,4,5,6,7,8,9,-11] ?_|refine jbg rfl ?_|refine jay rfl ?_|refine jeh rfl (fun hc=>?_) (fun hc=>?_)|exact Qac|fail)
  all_goals (apply jgd;exact Ybh)
  all_goals first|(simp_all [CallR,callT,List.map_set];done)|exact jdq Yaz ⟨⟨_,_,_,_,_,_,_,_,_,_⟩,rfl⟩ Ybp|exact jdq Yaz ⟨⟨bx,by_,bwh,bll,pl,0,[],[],nu,co⟩,by simp⟩ Ybp
theorem call7_p (bx by_ bwh:Int) (bll:List (List Int)) (pl:List Int) (ev:Int) (cc:List (List Int)) (ss nu:List Int) (co:Int) (a:Int) (hb:boxB bx by_ bwh bll=true) (hp:bitsB pl (bx+by_)=true) (hs:sceneB ev cc ss=true) (hu:bitsB nu ev=true):PX Tryz.prog 124 [.o (dI bx),.o (dI by_),.o (dI bwh),.o (eII bll),.o (eI pl),.o (dI ev),.o (eII cc),.o (eI ss),.o (eI nu),.o (dI co)] [.v (.g [dI 7,dI a])] (CallR ⟨bx,by_,bwh,bll,pl,ev,cc,ss,nu,co⟩ 7 a):=by
 have hl:=jce hp;have hn:=jce hu;have b:=jbo hb;have x1:=b.x1;have y1:=b.y1;have x3:=b.x3;have y3:=b.y3;have n1:=b.n1;have n2:=b.n2;have s:=jbv hs;have e0:=s.e0;have e12:=s.e12;have hbl:=b.len;have hm:=jds (jct.2 ⟨⟨x1,x3⟩,y1,y3⟩);clear b s;cases hA:inB a 0 (ev - 1) with
 | false =>
  refine jfc Tryz.func124 fun kv=>?_;repeat' (first|(refine jaa (.box 110 _) ?_;refine jax rfl rfl ?_)|apply zaa ?_|apply zbs ?_|apply zaf ?_|(refine jaa (.move _) ?_;(first|refine jab (jal rfl) rfl ?_|refine jab (jcn rfl) rfl ?_))|apply zcz ?_|apply zbg ?_|apply zax ?_|apply zbm ?_|apply zav ?_|apply zbl ?_|apply zbo ?_|apply zai ?_|apply zaj ?_|apply zbj ?_|apply zam ?_|(refine jaa (.store 39 _ _) ?_;(refine jan rfl rfl rfl Kb rfl rfl ?_))|apply Ub (c:=within_p _ _ _) (h:=?_)|apply Ua (c:=FlipEvent_no _ _ _ _ Ybp) (h:=?_)|refine jai ?_|refine jaj ?_|refine jah ?_|refine jac ?_|refine jav 2 (fun _=>false) [0,1,2,3,4,5,6,7,9,10,11,12,13,14,15,16,-9,-18,18,19] ?_|refine jav 30 (fun i=>i == 13) [0,1,2,3,4,5,6,-8,8,9,10,11,12,-14,14] ?_|refine jbg rfl ?_|refine jay rfl ?_|exact Qac|fail)
  all_goals (apply jgd;exact Ybh)
  all_goals first|(simp_all [CallR,callT];done)|exact jdq Yaz ⟨⟨_,_,_,_,_,_,_,_,_,_⟩,rfl⟩ Ybp|exact jdq Yaz ⟨⟨bx,by_,bwh,bll,pl,0,[],[],nu,co⟩,by simp⟩ Ybp
 | true =>
  refine jfc Tryz.func124 fun kv=>?_;repeat' (first|(refine jaa (.box 110 _) ?_;refine jax rfl rfl ?_)|apply zaa ?_|apply zbs ?_|apply zaf ?_|(refine jaa (.move _) ?_;(first|refine jab (jal rfl) rfl ?_|refine jab (jcn rfl) rfl ?_))|apply zcz ?_|apply zbg ?_|apply zax ?_|apply zbm ?_|apply zav ?_|apply zbl ?_|apply zbo ?_|apply zai ?_|apply zaj ?_|apply zbj ?_|apply zam ?_|(refine jaa (.store 39 _ _) ?_;(refine jan rfl rfl rfl Kb rfl rfl ?_))|apply Ub (c:=within_p _ _ _) (h:=?_)|apply Ua (c:=FlipEvent_p _ _ _ _ hs hA) (h:=?_)|refine jai ?_|refine jaj ?_|refine jah ?_|refine jac ?_|refine jav 2 (fun _=>false) [0,1,2,3,4,5,6,7,9,10,11,12,13,14,15,16,-9,-18,18,19] ?_|refine jav 30 (fun i=>i == 13) [0,1,2,3,4,5,6,-8,8,9,10,11,12,-14,14] ?_|refine jbg rfl ?_|refine jay rfl ?_|exact Qac|fail)
  all_goals (apply jgd;exact Ybh)
  all_goals first|(simp_all [CallR,callT];done)|exact jdq Yaz ⟨⟨_,_,_,_,_,_,_,_,_,_⟩,rfl⟩ Ybp|exact jdq Yaz ⟨⟨bx,by_,bwh,bll,pl,0,[],[],nu,co⟩,by simp⟩ Ybp
theorem callO_p (bx by_ bwh:Int) (bll:List (List Int)) (pl:List Int) (ev:Int) (cc:List (List Int)) (ss nu:List Int) (co:Int) (a:Int) (k:Int) (hk:¬ (k=1∨k=2∨k=3∨k=4∨k=5∨k=6∨k=7)) (hb:boxB bx by_ bwh bll=true) (hp:bitsB pl (bx+by_)=true) (hs:sceneB ev cc ss=true) (hu:bitsB nu ev=true):PX Tryz.prog 124 [.o (dI bx),.o (dI by_),.o (dI bwh),.o (eII bll),.o (eI pl),.o (dI ev),.o (eII cc),.o (eI ss),.o (eI nu),.o (dI co)] [.v (.g [dI k,dI a])] (CallR ⟨bx,by_,bwh,bll,pl,ev,cc,ss,nu,co⟩ k a):=by
 have hl:=jce hp;have hn:=jce hu;have b:=jbo hb;have x1:=b.x1;have y1:=b.y1;have x3:=b.x3;have y3:=b.y3;have n1:=b.n1;have n2:=b.n2;have s:=jbv hs;have e0:=s.e0;have e12:=s.e12;have hbl:=b.len;have hm:=jds (jct.2 ⟨⟨x1,x3⟩,y1,y3⟩);clear b s;refine jfc Tryz.func124 fun kv=>?_;repeat' (first|(with_reducible apply jeq)|intro Y hY|refine jdr ?_ ?_|(refine jaa (.box 110 _) ?_;refine jax rfl rfl ?_)|apply zaa ?_|apply zbs ?_|(refine jaa (.load 3 _) ?_;(first|refine jab (jag rfl rfl Kb rfl) rfl ?_|refine jab (jdi rfl rfl Kb Kf Kf) rfl ?_))|apply zab ?_|apply zcz ?_|apply zbg ?_|apply zax ?_|apply zbm ?_|apply zav ?_|apply zbl ?_|apply zbo ?_|apply zai ?_|apply zay ?_|apply zbb ?_|apply zbd ?_|(refine jaa (.alloc 38) ?_;refine jbi (zs:=[.int .i64 0,.int .i64 0,.int .i64 0,.slice none 0 0]) Kb rfl ?_)|apply zae ?_|apply zca ?_|apply zbi ?_|(refine jaa (.store 3 _ _) ?_;((refine jcp rfl rfl rfl rfl (.lit _) Yby Yby Kb Kf rfl ?_;simp only [St.drop])))|(refine jaa (.makeSlice 25 _ _) ?_;(refine jgo (by_:=8) (z:=.int .i64 0) (y:=.lit (.int .i64 0)) rfl rfl Kb Kb rfl (fun _ => .lit _ rfl) Kf Kf Kf rfl ?_))|apply zed ?_|apply zee ?_|apply zbj ?_|apply zam ?_|apply Ub (c:=within_p _ _ _) (h:=?_)|refine jai ?_|refine jaj ?_|refine jah ?_|refine jaz ?_|refine jam ?_|refine jac ?_|refine jav 2 (fun _=>false) [0,1,2,3,4,5,6,7,9,10,11,12,13,14,15,16,-9,-18,18,19] ?_|refine jcv 5 (fun i=>i == 21) (IT.lt (.step 21 false (.step 22 true .nil)) fun Y0=>(.step 0 true (.step 1 true (.step 2 true (.step 3 true (.step 4 true (.step 5 true (.step 6 true (.step 7 true (.step 8 true (.step 9 true (.step 10 true (.step 11 true (.step 12 true (.step 13 true (.step 14 true (.step 15 true (.alt 5 (.step 16 false (.step 17 true (.step 18 true (.step 19 true (.step 20 false (IT.ref true [0,8,9,51,52] [3,3050,8,800000000,1000000,1001000,1002000,1003000,1004000,1005000,1006000,1007000,1008000,1009000] Y0)))))) (.step 20 false (.step 16 false (.step 17 true (.step 18 true (.step 19 true (IT.ref false [0,8,9,51,52] [3,3050,8,800000000,1000000,1001000,1002000,1003000,1004000,1005000,1006000,1007000,1008000,1009000] Y0)))))))))))))))))))))))) ?_|refine jav 10 (fun i=>i == 10) [0,1,2,3,4,5,6,7,8,9,-11] ?_|refine jav 19 (fun i=>i == 22 || i == 25) [0,1,2,3,4,5,6,7,8,9,10,12,13,14,15,16,17,18,19,20,21,-12,-23,23,24,-26] ?_|refine jav 27 (fun i=>i == 10) [0,1,2,3,4,5,6,7,8,9,-11] ?_|refine jav 30 (fun i=>i == 13) [0,1,2,3,4,5,6,-8,8,9,10,11,12,-14,14] ?_|refine jbd rfl (fun hc=>?_) (fun hc=>?_)|refine jeh rfl (fun hc=>?_) (fun hc=>?_)|exact Qaa|fail)
 all_goals (apply jgd;exact Ybh)
 all_goals first|(simp_all [CallR,callT];done)|exact jdq Yaz ⟨⟨_,_,_,_,_,_,_,_,_,_⟩,rfl⟩ Ybp|exact jdq Yaz ⟨⟨bx,by_,bwh,bll,pl,0,[],[],nu,co⟩,by simp⟩ Ybp
theorem copiedD_p (l:List Int) (m:Nat) (ds:List D) (h:l.length<=1000000) (hm:m=l.length) (hd:ds=cI l):PC Tryz.prog 74 [.c (.sl 1 m ds)] (.p (.c (eI l))):=by
 subst hm hd;exact copied_p l Kf
theorem call4_p (bx by_ bwh:Int) (bll:List (List Int)) (pl:List Int) (ev:Int) (cc:List (List Int)) (ss nu:List Int) (co:Int) (a:Int) (hb:boxB bx by_ bwh bll=true) (hp:bitsB pl (bx+by_)=true) (hs:sceneB ev cc ss=true) (hu:bitsB nu ev=true):PX Tryz.prog 124 [.o (dI bx),.o (dI by_),.o (dI bwh),.o (eII bll),.o (eI pl),.o (dI ev),.o (eII cc),.o (eI ss),.o (eI nu),.o (dI co)] [.v (.g [dI 4,dI a])] (CallR ⟨bx,by_,bwh,bll,pl,ev,cc,ss,nu,co⟩ 4 a):=by
 have hl:=jce hp;have hn:=jce hu;have b:=jbo hb;have x1:=b.x1;have y1:=b.y1;have x3:=b.x3;have y3:=b.y3;have n1:=b.n1;have n2:=b.n2;have s:=jbv hs;have e0:=s.e0;have e12:=s.e12;have hbl:=b.len;have hm:=jds (jct.2 ⟨⟨x1,x3⟩,y1,y3⟩);clear b s;have hz:(partZ pl bx pl.length).length=pl.length - bx.toNat:=by rw [jph]
 have hz2:(partZ pl 0 bx).length=bx.toNat:=by rw [jdb];omega
 have hc:=fun m ds=>copiedD_p (partZ pl bx pl.length) m ds Kf;refine jfc Tryz.func124 fun kv=>?_;repeat' (first|apply zbm ?_|refine jac ?_|refine jav 2 (fun _=>false) [0,1,2,3,4,5,6,7,9,10,11,12,13,14,15,16,-9,-18,18,19] ?_|refine jav 19 (fun i=>i == 22 || i == 25) [0,1,2,3,4,5,6,7,8,9,10,12,13,14,15,16,17,18,19,20,21,-12,-23,23,24,-26] ?_|refine Maa ?_|refine Wbw ?_|apply zbs ?_|apply zcz ?_|apply zbo ?_|refine Wag ?_|apply zed ?_|apply zee ?_|refine Wbx ?_|refine Wam ?_|(refine jaa (.call ⟨.value (.func 74),_,_⟩) ?_;(apply jbl (fid:=74);(·(repeat(first|exact SeA.nil|apply SeA.cons (.c (.row _ _ _ _ _ rfl Ybo)))));(·exact hc _ _ Kf (by simpa using jjz pl _ bx pl.length));(·rfl);(·rfl)))|apply Ub (c:=within_p _ _ _) (h:=?_)|apply Ua (c:=swapped_p _ _ _ _ hb) (h:=?_))
 all_goals (apply jgd;(·(apply RetX.p;(·rfl);(·(repeat(first|exact BxO.nil _|(apply BxO.o;(·(first|exact .lit _|exact .row _ _ _ _ rfl (by (first|(simp;done)|(simp;omega)))))))));(·(apply GvA.cons;exact Ybu;exact Ybs);exact GvA.nil);exact Ybr)))
 have hz3:List.take (bx.toNat*1) (List.drop 0 (cI pl))=cI (partZ pl 0 bx):=by simpa using jjz pl dI 0 bx
 rw [hz3];by_cases h0:a=0 <;> first|(simp [CallR,callT,h0,hz2];done)|exact jdq (by simp [callT,h0]) ⟨⟨by_,bx,bwh,swapL bll bx by_,partZ pl bx pl.length++partZ pl 0 bx,ev,cc,ss,nu,co⟩,by simp [hz2]⟩ (by simp [h0])
theorem callHall_p (bx by_ bwh:Int) (bll:List (List Int)) (pl:List Int) (ev:Int) (cc:List (List Int)) (ss nu:List Int) (co:Int) (k a:Int) (hv:HV ⟨bx,by_,bwh,bll,pl,ev,cc,ss,nu,co⟩):PX Tryz.prog 124 [.o (dI bx),.o (dI by_),.o (dI bwh),.o (eII bll),.o (eI pl),.o (dI ev),.o (eII cc),.o (eI ss),.o (eI nu),.o (dI co)] [.v (.g [dI k,dI a])] (CallR ⟨bx,by_,bwh,bll,pl,ev,cc,ss,nu,co⟩ k a):=by
 obtain ⟨hb,hp,hs,hu⟩:=hv;by_cases hk:k=1∨k=2∨k=3∨k=4∨k=5∨k=6∨k=7
 ·rcases hk with rfl|rfl|rfl|rfl|rfl|rfl|rfl
  ·exact call1_p bx by_ bwh bll pl ev cc ss nu co a hb hp hs hu
  ·exact call2_p bx by_ bwh bll pl ev cc ss nu co a hb hp hs hu
  ·exact call3_p bx by_ bwh bll pl ev cc ss nu co a hb hp hs hu
  ·exact call4_p bx by_ bwh bll pl ev cc ss nu co a hb hp hs hu
  ·exact call5_p bx by_ bwh bll pl ev cc ss nu co a hb hp hs hu
  ·exact call6_p bx by_ bwh bll pl ev cc ss nu co a hb hp hs hu
  ·exact call7_p bx by_ bwh bll pl ev cc ss nu co a hb hp hs hu
 ·exact callO_p bx by_ bwh bll pl ev cc ss nu co a k hk hb hp hs hu
theorem Vbj {G G':Prop} (h:G') (t:Laa G'->G:=by intro h;first|(first|exact Wbk h.o|exact jac h.o|exact Maa h.o|exact Wbc h.o|exact Waf h.o|exact Wam h.o|exact Wbm h.o|exact Wbn h.o|exact Wbv h.o|exact Waq h.o|exact War h.o|exact Wbo h.o|fail);done|fail):G:=t ⟨h⟩
theorem own_p (bx by_ bwh:Int) (bll:List (List Int)) (pl:List Int) (ev:Int) (cc:List (List Int)) (ss nu:List Int) (co:Int) (h1:bll.length<=1000000) (h2:∀ r∈bll,r.length<=1000000) (h3:cc.length<=1000000) (h4:∀ r∈cc,r.length<=1000000)
  (h8:∀ r∈cc,allB r 0 1000=true) (h5:pl.length<=1000000) (h6:ss.length<=1000000) (h7:nu.length<=1000000) :
  PC Tryz.prog 50 [.g [dI bx,dI by_,dI bwh,eII bll,eI pl,dI ev,eII cc,eI ss,eI nu,dI co]] (.p (.g [dI bx,dI by_,dI bwh,eII bll,eI pl,dI ev,eII cc,eI ss,eI nu,dI co])):=by
 refine jao Tryz.func50 fun _=>?_;repeat' (first|refine Vbj ?_|fail)
 apply jbe [1,2,3,9,10,11] [1,2,6,17,18,19,26,30,37,40] rfl;exact Kk;exact Ybe;refine jbf [1,2,9,10] [1,2,17,18,19,26,30,37,40] (fun i=>[(11,iN i),(3,.c (.ls 6 1 0 i))]) (fun i=>[(6,.row 1 (cII (bll.take i)))]) (fun i=>i<=bll.length) (fun i=>bll.length - i) (0) ?_ Kg Kt ?_
 ·omega
 intro i hi;have L0:(bll.take i).length=i:=by simp;omega
 by_cases hi2:i < bll.length
 ·have hr:=h2 _ (jfm hi2);have e:=List.take_succ_eq_append_getElem hi2;rw [<- jby hi2] at e;repeat' (first|refine jav 8 (fun i=>i == 9 || i == 12) [0,1,3,4,5,-3,7,8,-7,-10,10,11,-13] ?_|refine Vbj ?_|apply Ua (c:=copied_p _ Kf) (h:=?_)|refine jbd rfl (fun hc=>?_) (fun hc=>?_)|exact Qaa|fail)
  refine bkL (i+1) ?_ ?_ (hB:=(by (repeat(first|exact trivial|refine ⟨(by ((refine jbs rfl ?_;simp  [e];done))),?_⟩))))
  ·omega
  ·omega
 ·have h8:i=bll.length:=by omega
  subst h8;rw [List.take_length];repeat' (first|refine jav 8 (fun i=>i == 9 || i == 12) [0,1,3,4,5,-3,7,8,-7,-10,10,11,-13] ?_|refine jav 9 (fun i=>i == 7 || i == 9) [0,1,3,4,-3,6,-6,-8,8,-10] ?_|refine Vbj ?_|apply Ua (c:=copied_p _ Kf) (h:=?_)|apply Ua (c:=shifted0_p _ _ _ h3 h4 h8) (h:=?_)|refine jbd rfl (fun hc=>?_) (fun hc=>?_)|exact Qaa|fail)
  refine Rac ?_;rfl
theorem Vbk {G G':Prop} (h:G') (t:Laa G'->G:=by intro h;first|(first|exact Wbh h.o|exact Wbi h.o|exact jac h.o|exact Maa h.o|exact Wbc h.o|exact Wbw h.o|exact Wad h.o|apply zdp h.o|exact Waq h.o|apply zcn h.o|exact War h.o|apply zde h.o|fail);done|fail):G:=t ⟨h⟩
theorem CallHall_p (bx by_ bwh:Int) (bll:List (List Int)) (pl:List Int) (ev:Int) (cc:List (List Int)) (ss nu:List Int) (co k a:Int) (rx ry rwh:Int) (rll:List (List Int)) (rpl:List Int) (rev:Int) (rcc:List (List Int)) (rss rnu:List Int) (rco:Int) (ok:Bool) (hN:nextH ⟨bx,by_,bwh,bll,pl,ev,cc,ss,nu,co⟩ k a=(⟨rx,ry,rwh,rll,rpl,rev,rcc,rss,rnu,rco⟩,ok)):PC Tryz.prog 79 [.g [dI bx,dI by_,dI bwh,eII bll,eI pl,dI ev,eII cc,eI ss,eI nu,dI co],.g [dI k,dI a]] (.t [.g [dI rx,dI ry,dI rwh,eII rll,eI rpl,dI rev,eII rcc,eI rss,eI rnu,dI rco],.c (dB ok)]):=by
 unfold nextH at hN;cases hB:hallB bx by_ bwh bll pl ev cc ss nu co with
 | false =>
  simp only [hB,Bool.false_eq_true,if_false,zeroH,Prod.mk.injEq,HD.mk.injEq] at hN;obtain ⟨⟨rfl,rfl,rfl,rfl,rfl,rfl,rfl,rfl,rfl,rfl⟩,rfl⟩:=hN;refine jao Tryz.func79 fun _=>?_;repeat' (first|refine Vbk ?_|apply Ub (c:=IsHall_p _ _ _ _ _ _ _ _ _ _) (h:=?_)|refine jcu rfl (fun hc=>?_) (fun hc=>?_)|exact Qab|exact Rbi|fail)
 | true =>
  simp only [hB,if_true] at hN;have d:=jgk hB;have bl:=d.bl;have br:=d.br;have cl:=d.cl;have cr:=d.cr;have cb:=d.cb;have sl:=d.sl;have pl6:=d.pl6;have nl:=d.nl;have hco:=jcx.1 (jdu hB).co;have hX:=callHall_p bx by_ bwh bll pl ev cc ss nu (co+1) k a (hallB_hv hB _);have hC:=callT_co ⟨bx,by_,bwh,bll,pl,ev,cc,ss,nu,co⟩ (co+1) k a;unfold CallR at hX;simp only at hC;rw [hC] at hX;cases hcT:callT ⟨bx,by_,bwh,bll,pl,ev,cc,ss,nu,co⟩ k a with
  | none =>
   rw [hcT] at hX;simp only [Option.map_none] at hX;have hX:=hX.mono (R':=fun ds res => ∃ (ux uy uwh:Int) (ull:List (List Int)) (upl:List Int) (uev:Int) (ucc:List (List Int)) (uss unu:List Int) (uco:Int),ds=[dI ux,dI uy,dI uwh,eII ull,eI upl,dI uev,eII ucc,eI uss,eI unu,dI uco]/\res = .p (.c (dB false))) fun ds res h=>by
    obtain ⟨⟨⟨ux,uy,uwh,ull,upl,uev,ucc,uss,unu,uco⟩,rfl⟩,hr⟩:=h;exact ⟨ux,uy,uwh,ull,upl,uev,ucc,uss,unu,uco,rfl,hr⟩
   simp only [nextT,hcT,zeroH,Prod.mk.injEq,HD.mk.injEq] at hN;obtain ⟨⟨rfl,rfl,rfl,rfl,rfl,rfl,rfl,rfl,rfl,rfl⟩,rfl⟩:=hN;refine jao Tryz.func79 fun _=>?_;repeat' (first|(refine jaa (.call ⟨.value (.func 124),_,_⟩) ?_;(apply so_callX (fid:=124);(·rfl);(·rfl);(·(repeat(first|exact BxI.nil|(apply BxI.o;(·(first|exact .lit _|exact .row _ _ _ _ rfl Ybt))))));(·(repeat(first|exact ArX.nil|(apply ArX.v;(·apply SxP.g;(repeat(first|exact SxL.nil|apply SxL.cons (.d _))))))));exact Ybr;exact Ybr;(·exact hX);(·rfl);(·(intro b hb1 hb2;omega));(·rfl);(rintro _ _ ⟨ux,uy,uwh,ull,upl,uev,ucc,uss,unu,uco,rfl,rfl⟩;refine ⟨(by first|rfl|simp [*]),?_⟩)))|refine Vbk ?_|apply Ub (c:=IsHall_p _ _ _ _ _ _ _ _ _ _) (h:=?_)|apply Ua (c:=own_p _ _ _ _ _ _ _ _ _ _ Kf br Kf cr cb Kf Kf Kf) (h:=?_)|refine jcu rfl (fun hc=>?_) (fun hc=>?_)|exact Qab|exact Rbi|fail)
  | some r =>
   obtain ⟨tx,ty,twh,tll,tpl,tev,tcc,tss,tnu,tco⟩:=r;rw [hcT] at hX;simp only [Option.map_some,cH] at hX;simp only [nextT,hcT] at hN;cases hT:hallB tx ty twh tll tpl tev tcc tss tnu (co+1) with
   | false =>
    simp only [hT,Bool.false_eq_true,if_false,zeroH,Prod.mk.injEq,HD.mk.injEq] at hN;obtain ⟨⟨rfl,rfl,rfl,rfl,rfl,rfl,rfl,rfl,rfl,rfl⟩,rfl⟩:=hN;refine jao Tryz.func79 fun _=>?_;repeat' (first|(refine jaa (.call ⟨.value (.func 124),_,_⟩) ?_;(apply so_callX (fid:=124);(·rfl);(·rfl);(·(repeat(first|exact BxI.nil|(apply BxI.o;(·(first|exact .lit _|exact .row _ _ _ _ rfl Ybt))))));(·(repeat(first|exact ArX.nil|(apply ArX.v;(·apply SxP.g;(repeat(first|exact SxL.nil|apply SxL.cons (.d _))))))));exact Ybr;exact Ybr;(·exact hX);(·rfl);(·(intro b hb1 hb2;omega));(·rfl);(rintro _ _ ⟨rfl,rfl⟩;refine ⟨(by first|rfl|simp [*]),?_⟩)))|refine Vbk ?_|apply Ub (c:=IsHall_p _ _ _ _ _ _ _ _ _ _) (h:=?_)|apply Ua (c:=own_p _ _ _ _ _ _ _ _ _ _ Kf br Kf cr cb Kf Kf Kf) (h:=?_)|refine jcu rfl (fun hc=>?_) (fun hc=>?_)|exact Qab|exact Rbi|fail)
   | true =>
    simp only [hT,if_true,Prod.mk.injEq,HD.mk.injEq] at hN;obtain ⟨⟨rfl,rfl,rfl,rfl,rfl,rfl,rfl,rfl,rfl,rfl⟩,rfl⟩:=hN;refine jao Tryz.func79 fun _=>?_;repeat' (first|(refine jaa (.call ⟨.value (.func 124),_,_⟩) ?_;(apply so_callX (fid:=124);(·rfl);(·rfl);(·(repeat(first|exact BxI.nil|(apply BxI.o;(·(first|exact .lit _|exact .row _ _ _ _ rfl Ybt))))));(·(repeat(first|exact ArX.nil|(apply ArX.v;(·apply SxP.g;(repeat(first|exact SxL.nil|apply SxL.cons (.d _))))))));exact Ybr;exact Ybr;(·exact hX);(·rfl);(·(intro b hb1 hb2;omega));(·rfl);(rintro _ _ ⟨rfl,rfl⟩;refine ⟨(by first|rfl|simp [*]),?_⟩)))|refine Vbk ?_|apply Ub (c:=IsHall_p _ _ _ _ _ _ _ _ _ _) (h:=?_)|apply Ua (c:=own_p _ _ _ _ _ _ _ _ _ _ Kf br Kf cr cb Kf Kf Kf) (h:=?_)|refine jcu rfl (fun hc=>?_) (fun hc=>?_)|exact Qab|exact Rbk|fail)
end
end Go.Proofs.YtbhbkbnlpackdaaGreatDoor
