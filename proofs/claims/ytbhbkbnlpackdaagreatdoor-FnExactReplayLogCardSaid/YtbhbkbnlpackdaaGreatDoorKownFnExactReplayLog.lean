/- What the functions that FnExactReplayLog alone reaches return: part of its proof. No condition beyond those of its theorems. -/
import Derived.Test.YtbhbkbnlpackdaaGreatDoorKfnsB
import Derived.Test.YtbhbkbnlpackdaaGreatDoorKfnsA
import Derived.Test.YtbhbkbnlpackdaaGreatDoorKplainC
import Derived.Test.YtbhbkbnlpackdaaGreatDoorKplainA
import Derived.Test.YtbhbkbnlpackdaaGreatDoorKfnsE
import Derived.Test.YtbhbkbnlpackdaaGreatDoorKfnsF
import Derived.Test.YtbhbkbnlpackdaaGreatDoorKfnsN
import Derived.Test.YtbhbkbnlpackdaaGreatDoorKfnsH
import Derived.Test.YtbhbkbnlpackdaaGreatDoorKfnsO
import Derived.Test.YtbhbkbnlpackdaaGreatDoorKfnsD
import Derived.Test.YtbhbkbnlpackdaaGreatDoorKplainB
import Derived.Test.YtbhbkbnlpackdaaGreatDoorKfnsQ
import Derived.Test.YtbhbkbnlpackdaaGreatDoorKfnsR
set_option linter.unusedSectionVars false
set_option maxRecDepth 10000
set_option maxHeartbeats 4000000
set_option linter.unusedVariables false
set_option linter.unusedSimpArgs false
namespace Go.Proofs.YtbhbkbnlpackdaaGreatDoor
open Go.RowKit
section
variable [Glb]
theorem spNewConsole_p (bx by_ bwh:Int) (bll:List (List Int)) (pl:List Int) (ev:Int) (cc:List (List Int)) (ss nu:List Int) (co:Int):PC Tryz.prog 35 [.g [dI bx,dI by_,dI bwh,eII bll,eI pl,dI ev,eII cc,eI ss,eI nu,dI co]] (.t [.g [dI (whenN (hallB bx by_ bwh bll pl ev cc ss nu co) bx),dI (whenN (hallB bx by_ bwh bll pl ev cc ss nu co) by_),dI (whenN (hallB bx by_ bwh bll pl ev cc ss nu co) bwh),eII (whenL (hallB bx by_ bwh bll pl ev cc ss nu co) bll),eI (whenA (hallB bx by_ bwh bll pl ev cc ss nu co) pl),dI (whenN (hallB bx by_ bwh bll pl ev cc ss nu co) ev),eII (whenL (hallB bx by_ bwh bll pl ev cc ss nu co) cc),eI (whenA (hallB bx by_ bwh bll pl ev cc ss nu co) ss),eI (whenA (hallB bx by_ bwh bll pl ev cc ss nu co) nu),dI (whenN (hallB bx by_ bwh bll pl ev cc ss nu co) co),dS ByteArray.empty,dS ByteArray.empty,dI 0],.c (dB (hallB bx by_ bwh bll pl ev cc ss nu co))]):=by
 cases hB:hallB bx by_ bwh bll pl ev cc ss nu co with
 | false =>
  refine jao Tryz.func35 fun _=>?_;repeat' (first|refine jac ?_|refine Maa ?_|refine Wbc ?_|refine Waz ?_|apply zcr ?_|refine Way ?_|apply Ub (c:=l12Good_p _ _ _ _ _ _ _ _ _ _) (h:=?_)|refine jcu rfl (fun hc=>?_) (fun hc=>?_)|exact Qac|fail)
  all_goals refine Rau ?_
  all_goals simp [whenN,whenL,whenA]
 | true =>
  have hN:=jgk hB;have n7:=hN.bl;have n8:=hN.cl;have n9:=hN.sl;have n10:=hN.pl6;have n11:=hN.nl;refine jao Tryz.func35 fun _=>?_;repeat' (first|refine jac ?_|refine Maa ?_|refine Wbc ?_|refine Waz ?_|apply zcr ?_|refine Way ?_|apply Ub (c:=l12Good_p _ _ _ _ _ _ _ _ _ _) (h:=?_)|apply Ua (c:=l12Own_p _ _ _ _ _ _ _ _ _ _ Kf hN.br Kf hN.cr Kf Kf Kf) (h:=?_)|refine jcu rfl (fun hc=>?_) (fun hc=>?_)|exact Qac|fail)
  all_goals refine Rat ?_
  all_goals simp [whenN,whenL,whenA]
theorem NewConsole_p (bx by_ bwh:Int) (bll:List (List Int)) (pl:List Int) (ev:Int) (cc:List (List Int)) (ss nu:List Int) (co:Int):PC Tryz.prog 41 [.g [dI bx,dI by_,dI bwh,eII bll,eI pl,dI ev,eII cc,eI ss,eI nu,dI co]] (.t [.g [dI (whenN (hallB bx by_ bwh bll pl ev cc ss nu co) bx),dI (whenN (hallB bx by_ bwh bll pl ev cc ss nu co) by_),dI (whenN (hallB bx by_ bwh bll pl ev cc ss nu co) bwh),eII (whenL (hallB bx by_ bwh bll pl ev cc ss nu co) bll),eI (whenA (hallB bx by_ bwh bll pl ev cc ss nu co) pl),dI (whenN (hallB bx by_ bwh bll pl ev cc ss nu co) ev),eII (whenL (hallB bx by_ bwh bll pl ev cc ss nu co) cc),eI (whenA (hallB bx by_ bwh bll pl ev cc ss nu co) ss),eI (whenA (hallB bx by_ bwh bll pl ev cc ss nu co) nu),dI (whenN (hallB bx by_ bwh bll pl ev cc ss nu co) co),dS ByteArray.empty,dS ByteArray.empty,dI 0],.c (dB (hallB bx by_ bwh bll pl ev cc ss nu co))]):=by
 cases hB:hallB bx by_ bwh bll pl ev cc ss nu co with
 | false =>
  refine jao Tryz.func41 fun _=>?_;repeat' (first|refine jac ?_|refine Maa ?_|refine Wbc ?_|refine Waz ?_|apply zcr ?_|refine Way ?_|apply Ub (c:=IsHall_p _ _ _ _ _ _ _ _ _ _) (h:=?_)|refine jcu rfl (fun hc=>?_) (fun hc=>?_)|exact Qac|fail)
  all_goals refine Rau ?_
  all_goals simp [whenN,whenL,whenA]
 | true =>
  have hN:=jgk hB;have n7:=hN.bl;have n8:=hN.cl;have n9:=hN.sl;have n10:=hN.pl6;have n11:=hN.nl;refine jao Tryz.func41 fun _=>?_;repeat' (first|refine jac ?_|refine Maa ?_|refine Wbc ?_|refine Waz ?_|apply zcr ?_|refine Way ?_|apply Ub (c:=IsHall_p _ _ _ _ _ _ _ _ _ _) (h:=?_)|apply Ua (c:=own_p _ _ _ _ _ _ _ _ _ _ Kf hN.br Kf hN.cr hN.cb Kf Kf Kf) (h:=?_)|refine jcu rfl (fun hc=>?_) (fun hc=>?_)|exact Qac|fail)
  all_goals refine Rat ?_
  all_goals simp [whenN,whenL,whenA]
end
section
variable [Glb]
variable [GTab Tryz.prog tabNm]
theorem LogRecords_p (d p:Tx) (c:Int) (hb:(d.length:Int)+p.length<=1000000000):PC Tryz.prog 42 [.g [dT d,dT p,dI c]] (.t [.c (eR (if validB d p c then recsT (d++p) else [])),.c (dB (validB d p c))]):=by
 cases hv:validB d p c
 ·refine jao Tryz.func42 fun _=>?_;repeat' (first|apply zda ?_|refine jac ?_|refine Maa ?_|refine Wbd ?_|apply zdf ?_|apply Ub (c:=IsValidLog_p _ _ _ Kf) (h:=?_)|refine jcu rfl (fun hc=>?_) (fun hc=>?_)|exact Qac|fail)
  all_goals (apply jat;apply jau;(·apply jbc.t;(·(apply GvA.cons;exact Ybu;(·(exact GvP.c (.nil 2 Ybr))));(apply GvA.cons;exact Ybu;exact Ybs);exact GvA.nil);(·rfl);exact Ybr))
  all_goals simp [recD]
 ·have hl:=(validB_p hv).len;refine jao Tryz.func42 fun _=>?_;repeat' (first|apply zda ?_|refine Wby ?_|refine jac ?_|refine Maa ?_|refine Wbd ?_|apply zdf ?_|apply Ub (c:=IsValidLog_p _ _ _ Kf) (h:=?_)|apply Ua (c:=readRecords_p _ Ybw) (h:=?_)|refine jcu rfl (fun hc=>?_) (fun hc=>?_)|exact Qac|fail)
  all_goals refine Ram ?_
  all_goals simp
end
section
variable [Glb]
variable [GTab Tryz.prog tabNm]
variable [GErr Tryz.prog]
def sameR (rp:Nat->Tx) (rs:List (Tx×Tx)) (i:Nat):Bool:=decide (rp i=(atZ rs (i:Int)).2)
def replayN (h:HD) (rs:List (Tx×Tx)):Nat:=firstF (sameR (replyS [] (h,([],0)) (rs.map fun e=>e.1)) rs) rs.length
theorem map_fst_at {rs:List (Tx×Tx)} {i:Nat} (h:i < rs.length):atZ (rs.map fun e=>e.1) (i:Int)=(atZ rs (i:Int)).1:=by
 rw [jby (by simpa using h),jby h];simp
theorem Vbv {G G':Prop} (h:G') (t:Laa G'->G:=by intro h;first|(first|apply zdd h.o|exact Wby h.o|exact Wbh h.o|exact Wbi h.o|exact jac h.o|exact Maa h.o|exact Wbc h.o|exact Wbd h.o|apply zdr h.o|apply zea h.o|(refine jaa (.load 77 _) ?_;(refine jab (jdo rfl (by kernel_rfl:tAgg _ 77 2=true) Yby) rfl ?_);exact h.o)|exact Way h.o|exact Waz h.o|exact Wcv h.o|exact Wcw h.o|apply zdm h.o|fail);done|fail):G:=t ⟨h⟩
theorem ReplayLog_no (bx by_ bwh:Int) (bll:List (List Int)) (pl:List Int) (ev:Int) (cc:List (List Int)) (ss nu:List Int) (co:Int) (d p:Tx) (c:Int) (hbd:(d.length:Int)+p.length<=1000000000) (hN:(hallB bx by_ bwh bll pl ev cc ss nu co&&validB d p c)=false) :
  PC Tryz.prog 20 [.g [dI bx,dI by_,dI bwh,eII bll,eI pl,dI ev,eII cc,eI ss,eI nu,dI co],.g [dT d,dT p,dI c]] (.t [.c (dI 0),.c (dB false)]):=by
 have nc:=NewConsole_p bx by_ bwh bll pl ev cc ss nu co;have lv:=LogRecords_p d p c hbd;generalize hallB bx by_ bwh bll pl ev cc ss nu co=Q at *;generalize validB d p c=W at *;cases Q <;> cases W <;> first|(exfalso;simp at hN;done)|skip
 all_goals
  refine jao Tryz.func20 fun _=>?_;repeat' (first|refine Vbv ?_|apply Ub (c:=nc) (h:=?_)|apply Ub (c:=lv) (h:=?_))
  all_goals first|(exfalso;simp at *;done)|skip
  all_goals refine Ral ?_
  all_goals rfl
theorem ReplayLog_p (bx by_ bwh:Int) (bll:List (List Int)) (pl:List Int) (ev:Int) (cc:List (List Int)) (ss nu:List Int) (co:Int) (d p:Tx) (c:Int) (hbd:(d.length:Int)+p.length<=1000000) (hB:hallB bx by_ bwh bll pl ev cc ss nu co=true) (hV:validB d p c=true) :
  PC Tryz.prog 20 [.g [dI bx,dI by_,dI bwh,eII bll,eI pl,dI ev,eII cc,eI ss,eI nu,dI co],.g [dT d,dT p,dI c]] (.t [.c (dI (replayN ⟨bx,by_,bwh,bll,pl,ev,cc,ss,nu,co⟩ (recsT (d++p)):Nat)),.c (dB true)]):=by
 have nc:=NewConsole_p bx by_ bwh bll pl ev cc ss nu co;have lv:=LogRecords_p d p c Kf;have rl:(recsT (d++p)).length<=60:=by rw [jei];exact jfv _
 have v0:validB [] [] 0=true:=by decide +kernel
 obtain ⟨fx,fy,fw,fl,fq,fe,fc,fs,fn,fo,fp,fk,h0,hF⟩:=jjo bx by_ bwh bll pl ev cc ss nu co [] [] 0 ((recsT (d++p)).map fun e=>e.1) hB v0;obtain ⟨e1,e2,e3,e4,e5,e6,e7,e8,e9,e10,e11,e12⟩:=h0;unfold replayN;rw [hB] at nc;rw [hV] at lv;simp only [whenN,whenL,whenA,if_true] at nc;rw [show ByteArray.empty=bsT [] from rfl] at nc;rw [if_pos rfl] at lv;generalize replyS [] (⟨bx,by_,bwh,bll,pl,ev,cc,ss,nu,co⟩,([],0)) ((recsT (d++p)).map fun e=>e.1)=rp at *;have hm:=fun i hi=>map_fst_at (rs:=recsT (d++p)) (i:=i) hi;have fa:=fun h=>jin (f:=sameR rp (recsT (d++p))) (n:=(recsT (d++p)).length) h;have fb:=fun i h hf hi=>jnt (f:=sameR rp (recsT (d++p))) (i:=i) h hf (n:=(recsT (d++p)).length) hi;have sr:∀ i,sameR rp (recsT (d++p)) i=decide (rp i=(atZ (recsT (d++p)) (i:Int)).2):=fun i=>rfl;generalize recsT (d++p)=rs at *;refine jao Tryz.func20 fun _=>?_;repeat' (first|refine Vbv ?_|apply Ub (c:=nc) (h:=?_)|apply Ub (c:=lv) (h:=?_))
 all_goals first|(exfalso;simp at *;done)|skip
 apply jbe [6,8,29,30,31] [2,3,6,11,20,3015,3040,4015,4040,6015,6040,7015,7040,8015,8040] rfl;exact Kh;exact Ybf;refine jbf [6,8,29,30] [2,3,3015,4015,6015,7015,8015,20,11,3040,4040,6040,7040,8040] (fun i=>[(31,iN i)]) (fun i=>[(6,.box [.d (dI (fx i)),.d (dI (fy i)),.d (dI (fw i)),.d (eII (fl i)),.d (eI (fq i)),.d (dI (fe i)),.d (eII (fc i)),.d (eI (fs i)),.d (eI (fn i)),.d (dI (fo i)),.d (dT []),.d (dT (fp i)),.d (dI (fk i))])]) (fun i=>i<=rs.length /\ ∀ j,j < i->sameR rp rs j=true) (fun i=>rs.length - i) (0) ?_ Kg (by (repeat(first|exact trivial|refine ⟨(by ((refine jdn rfl ?_;simp  [e1,e2,e3,e4,e5,e6,e7,e8,e9,e10,e11,e12];done))),?_⟩))) ?_
 ·exact ⟨by omega,fun j hj=>absurd hj (Nat.not_lt_zero j)⟩
 rintro i ⟨hi,ha⟩;by_cases h:i < rs.length
 ·obtain ⟨hB2,hV2,hE⟩:=hF i;rw [hm i h] at hE;have ex:=ExecuteCommandI_p _ _ _ _ _ _ _ _ _ _ [] _ _ _ hB2 hV2 _ _ _ _ _ _ _ _ _ _ _ _ _ hE;have si:=sr i;have fbi:=fb i ha;clear hF hB2 hV2 hE hm fa fb sr;by_cases hq:rp i=(atZ rs (i:Int)).2
  ·rw [decide_eq_true hq] at si;clear fbi;repeat' (first|refine Vbv ?_|apply Ub (c:=ex) (h:=?_)|refine jbd rfl (fun hc=>?_) (fun hc=>?_))
   all_goals first|(exfalso;omega)|(exfalso;exact absurd hq Yak)|skip
   refine bkL (i+1) ?_ ?_
   ·exact ⟨by omega,fun j hj=>(by omega:j < i∨j=i).elim (ha j) fun e=>e ▸ si⟩
   ·omega
  ·rw [decide_eq_false hq] at si;rw [fbi si h];clear fbi;repeat' (first|refine Vbv ?_|apply Ub (c:=ex) (h:=?_)|refine jbd rfl (fun hc=>?_) (fun hc=>?_))
   all_goals first|(exfalso;omega)|(exfalso;exact absurd hq Yak)|skip
   all_goals refine Ral ?_
   all_goals rfl
 ·obtain rfl:i=rs.length:=by omega
  rw [fa ha];clear hF hm fa fb sr;repeat' (first|refine Vbv ?_|refine jbd rfl (fun hc=>?_) (fun hc=>?_)|exact Qaa|exact Rbl|fail)
theorem Vbw {G G':Prop} (h:G') (t:Laa G'->G:=by intro h;first|(first|apply zda h.o|apply zbr h.o|apply zdd h.o|exact Wby h.o|exact Wbh h.o|exact Wbi h.o|exact jac h.o|exact Maa h.o|exact Wbc h.o|exact Wbd h.o|(refine jaa (.fieldAddr 77 _ 1) ?_;(refine jab (jhg (off:=1) rfl Kb Yby) rfl ?_);exact h.o)|apply zea h.o|(refine jaa (.fieldAddr 77 _ 0) ?_;(refine jab (jhg (off:=0) rfl Kb Yby) rfl ?_);exact h.o)|exact Way h.o|exact Waz h.o|apply zdf h.o|fail);done|fail):G:=t ⟨h⟩
theorem jog (bx by_ bwh:Int) (bll:List (List Int)) (pl:List Int) (ev:Int) (cc:List (List Int)) (ss nu:List Int) (co:Int) (d p:Tx) (c:Int) (hbd:(d.length:Int)+p.length<=1000000000) (hN:(hallB bx by_ bwh bll pl ev cc ss nu co&&validB d p c)=false) :
  PC Tryz.prog 17 [.g [dI bx,dI by_,dI bwh,eII bll,eI pl,dI ev,eII cc,eI ss,eI nu,dI co],.g [dT d,dT p,dI c]] (.t [.c (dI 0),.c (dB false)]):=by
 have nc:=spNewConsole_p bx by_ bwh bll pl ev cc ss nu co;have lv:=l12Valid_p d p c hbd;generalize hallB bx by_ bwh bll pl ev cc ss nu co=Q at *;generalize validB d p c=W at *;cases Q <;> cases W <;> first|(exfalso;simp at hN;done)|skip
 all_goals
  refine jao Tryz.func17 fun _=>?_;repeat' (first|refine Vbw ?_|apply Ub (c:=nc) (h:=?_)|apply Ub (c:=lv) (h:=?_))
  all_goals first|(exfalso;simp at *;done)|skip
  all_goals refine Ral ?_
  all_goals rfl
theorem spReplayLog_p (bx by_ bwh:Int) (bll:List (List Int)) (pl:List Int) (ev:Int) (cc:List (List Int)) (ss nu:List Int) (co:Int) (d p:Tx) (c:Int) (hbd:(d.length:Int)+p.length<=1000000) (hB:hallB bx by_ bwh bll pl ev cc ss nu co=true) (hV:validB d p c=true) :
  PC Tryz.prog 17 [.g [dI bx,dI by_,dI bwh,eII bll,eI pl,dI ev,eII cc,eI ss,eI nu,dI co],.g [dT d,dT p,dI c]] (.t [.c (dI (replayN ⟨bx,by_,bwh,bll,pl,ev,cc,ss,nu,co⟩ (recsT (d++p)):Nat)),.c (dB true)]):=by
 have nc:=spNewConsole_p bx by_ bwh bll pl ev cc ss nu co;have lv:=l12Valid_p d p c Kf;have rl:(recsT (d++p)).length<=60:=by rw [jei];exact jfv _
 have v0:validB [] [] 0=true:=by decide +kernel
 obtain ⟨fx,fy,fw,fl,fq,fe,fc,fs,fn,fo,fp,fk,h0,hF⟩:=jjo bx by_ bwh bll pl ev cc ss nu co [] [] 0 ((recsT (d++p)).map fun e=>e.1) hB v0;obtain ⟨e1,e2,e3,e4,e5,e6,e7,e8,e9,e10,e11,e12⟩:=h0;unfold replayN;rw [hB] at nc;rw [hV] at lv;simp only [whenN,whenL,whenA,if_true] at nc;rw [show ByteArray.empty=bsT [] from rfl] at nc;have op:=l12Open_p (d++p) (by rw [List.length_append];omega);generalize replyS [] (⟨bx,by_,bwh,bll,pl,ev,cc,ss,nu,co⟩,([],0)) ((recsT (d++p)).map fun e=>e.1)=rp at *;have hm:=fun i hi=>map_fst_at (rs:=recsT (d++p)) (i:=i) hi;have fa:=fun h=>jin (f:=sameR rp (recsT (d++p))) (n:=(recsT (d++p)).length) h;have fb:=fun i h hf hi=>jnt (f:=sameR rp (recsT (d++p))) (i:=i) h hf (n:=(recsT (d++p)).length) hi;have sr:∀ i,sameR rp (recsT (d++p)) i=decide (rp i=(atZ (recsT (d++p)) (i:Int)).2):=fun i=>rfl;generalize recsT (d++p)=rs at *;refine jao Tryz.func17 fun _=>?_;repeat' (first|refine Vbw ?_|apply Ub (c:=nc) (h:=?_)|apply Ub (c:=lv) (h:=?_)|apply Ub (c:=op) (h:=?_))
 all_goals first|(exfalso;simp at *;done)|skip
 apply jbe [6,8,10] [2,3,6,11,31,3015,3047,4015,4047,6015,6047,7015,7047,8015,8047] rfl;exact Kh;exact Ybf;refine jbf [6,8] [2,3,3015,4015,6015,7015,8015,31,3047,4047,6047,7047,8047,11] (fun i=>[(10,iN i)]) (fun i=>[(6,.box [.d (dI (fx i)),.d (dI (fy i)),.d (dI (fw i)),.d (eII (fl i)),.d (eI (fq i)),.d (dI (fe i)),.d (eII (fc i)),.d (eI (fs i)),.d (eI (fn i)),.d (dI (fo i)),.d (dT []),.d (dT (fp i)),.d (dI (fk i))])]) (fun i=>i<=rs.length /\ ∀ j,j < i->sameR rp rs j=true) (fun i=>rs.length - i) (0) ?_ Kg (by (repeat(first|exact trivial|refine ⟨(by ((refine jdn rfl ?_;simp  [e1,e2,e3,e4,e5,e6,e7,e8,e9,e10,e11,e12];done))),?_⟩))) ?_
 ·exact ⟨by omega,fun j hj=>absurd hj (Nat.not_lt_zero j)⟩
 rintro i ⟨hi,ha⟩;by_cases h:i < rs.length
 ·obtain ⟨hB2,hV2,hE⟩:=hF i;rw [hm i h] at hE;have ex:=spExecuteCommandI_p _ _ _ _ _ _ _ _ _ _ [] _ _ _ hB2 hV2 _ _ _ _ _ _ _ _ _ _ _ _ _ hE;have si:=sr i;have fbi:=fb i ha;clear hF hB2 hV2 hE hm fa fb sr;by_cases hq:rp i=(atZ rs (i:Int)).2
  ·rw [decide_eq_true hq] at si;clear fbi;repeat' (first|(with_reducible apply jeq)|intro Y hY|((with_reducible apply jff);exact Yak;(·rfl);exact Ko;exact Ko)|((with_reducible apply jfg);(·rfl);exact Yal;exact Ybf;exact Yak)|refine jdr ?_ ?_|refine jcv 8 (fun i=>i == 11) (IT.lt (.step 11 false (.step 12 true .nil)) fun Y0=>(.step 0 true (.step 1 true (.step 2 true (.step 3 true (.step 4 true (.step 5 true (.alt 8 (.step 6 false (.step 7 true (.step 8 true (.step 9 true (.step 10 false (IT.ref true [6,8,10,11,12,48,49] [2,3,3015,4015,6015,7015,8015,6,31,3047,4047,6047,7047,8047,11] Y0)))))) (.step 10 false (.step 6 false (.step 7 true (.step 8 true (.step 9 true (IT.ref false [6,8,10,11,12,48,49] [2,3,3015,4015,6015,7015,8015,6,31,3047,4047,6047,7047,8047,11] Y0)))))))))))))) ?_|apply Vbw ?_|apply Ub (c:=ex) (h:=?_)|refine jbd rfl (fun hc=>?_) (fun hc=>?_))
   all_goals first|(exfalso;omega)|(exfalso;exact absurd hq Yak)|skip
   refine bkL (i+1) ?_ ?_
   ·exact ⟨by omega,fun j hj=>(by omega:j < i∨j=i).elim (ha j) fun e=>e ▸ si⟩
   ·omega
  ·rw [decide_eq_false hq] at si;rw [fbi si h];clear fbi;repeat' (first|(with_reducible apply jeq)|intro Y hY|((with_reducible apply jff);exact Yak;(·rfl);exact Ko;exact Ko)|((with_reducible apply jfg);(·rfl);exact Yal;exact Ybf;exact Yak)|refine jdr ?_ ?_|refine jcv 8 (fun i=>i == 11) (IT.lt (.step 11 false (.step 12 true .nil)) fun Y0=>(.step 0 true (.step 1 true (.step 2 true (.step 3 true (.step 4 true (.step 5 true (.alt 8 (.step 6 false (.step 7 true (.step 8 true (.step 9 true (.step 10 false (IT.ref true [6,8,10,11,12,48,49] [2,3,3015,4015,6015,7015,8015,6,31,3047,4047,6047,7047,8047,11] Y0)))))) (.step 10 false (.step 6 false (.step 7 true (.step 8 true (.step 9 true (IT.ref false [6,8,10,11,12,48,49] [2,3,3015,4015,6015,7015,8015,6,31,3047,4047,6047,7047,8047,11] Y0)))))))))))))) ?_|apply Vbw ?_|apply Ub (c:=ex) (h:=?_)|refine jbd rfl (fun hc=>?_) (fun hc=>?_))
   all_goals first|(exfalso;omega)|(exfalso;exact absurd hq Yak)|skip
   all_goals refine Ral ?_
   all_goals rfl
 ·obtain rfl:i=rs.length:=by omega
  rw [fa ha];clear hF hm fa fb sr;repeat' (first|(with_reducible apply jeq)|intro Y hY|refine jdr ?_ ?_|refine jcv 8 (fun i=>i == 11) (IT.lt (.step 11 false (.step 12 true .nil)) fun Y0=>(.step 0 true (.step 1 true (.step 2 true (.step 3 true (.step 4 true (.step 5 true (.alt 8 (.step 6 false (.step 7 true (.step 8 true (.step 9 true (.step 10 false (IT.ref true [6,8,10,11,12,48,49] [2,3,3015,4015,6015,7015,8015,6,31,3047,4047,6047,7047,8047,11] Y0)))))) (.step 10 false (.step 6 false (.step 7 true (.step 8 true (.step 9 true (IT.ref false [6,8,10,11,12,48,49] [2,3,3015,4015,6015,7015,8015,6,31,3047,4047,6047,7047,8047,11] Y0)))))))))))))) ?_|apply Vbw ?_|refine jbd rfl (fun hc=>?_) (fun hc=>?_)|exact Qaa|exact Rbl|fail)
theorem replay_both (bx by_ bwh:Int) (bll:List (List Int)) (pl:List Int) (ev:Int) (cc:List (List Int)) (ss nu:List Int) (co:Int) (d p:Tx) (c:Int) (hbd:(d.length:Int)+p.length<=1048576) :
  ∃ (n:Int) (ok:Bool),PC Tryz.prog 20 [.g [dI bx,dI by_,dI bwh,eII bll,eI pl,dI ev,eII cc,eI ss,eI nu,dI co],.g [dT d,dT p,dI c]] (.t [.c (dI n),.c (dB ok)])/\PC Tryz.prog 17 [.g [dI bx,dI by_,dI bwh,eII bll,eI pl,dI ev,eII cc,eI ss,eI nu,dI co],.g [dT d,dT p,dI c]] (.t [.c (dI n),.c (dB ok)]):=by
 cases hN:(hallB bx by_ bwh bll pl ev cc ss nu co&&validB d p c) with
 | false=>exact ⟨0,false,ReplayLog_no bx by_ bwh bll pl ev cc ss nu co d p c Kf hN,jog bx by_ bwh bll pl ev cc ss nu co d p c Kf hN⟩
 | true =>
  simp only [Bool.and_eq_true] at hN;obtain ⟨hB,hV⟩:=hN;have hl:=(validB_p hV).len;exact ⟨_,true,ReplayLog_p bx by_ bwh bll pl ev cc ss nu co d p c Kf hB hV,spReplayLog_p bx by_ bwh bll pl ev cc ss nu co d p c Kf hB hV⟩
theorem Vbx {G G':Prop} (h:G') (t:Laa G'->G:=by intro h;first|(first|exact Wby h.o|exact Wbi h.o|exact jac (id:=0) h.o|exact jac (id:=1) h.o|exact jac (id:=2) h.o|exact jac (id:=3) h.o|exact jac (id:=4) h.o|exact Maa h.o|exact Wao h.o|exact Was h.o|exact Waq h.o|exact War h.o|apply zec h.o|apply zdo h.o|fail);done|fail):G:=t ⟨h⟩
theorem FnExactReplayLog_p (bx by_ bwh:Int) (bll:List (List Int)) (pl:List Int) (ev:Int) (cc:List (List Int)) (ss nu:List Int) (co:Int) (d p:ByteArray) (n:Int):PC Tryz.prog 4 [.g [dI bx,dI by_,dI bwh,eII bll,eI pl,dI ev,eII cc,eI ss,eI nu,dI co],.g [dS d,dS p,dI n]] (.p (.c (dB true))):=by
 obtain ⟨d,rfl⟩:=exT d;obtain ⟨p,rfl⟩:=exT p;by_cases hz:1048576 < bll.length+cnt bll+pl.length+cc.length+cnt cc+ss.length+nu.length
 ·refine jao Tryz.func4 fun _=>?_;repeat' (first|refine Vbx ?_|apply Ub (c:=szHall_no _ _ _ _ _ _ _ _ _ _ _ Kf Kf Kf) (h:=?_)|exact Qaa|exact Rav|fail)
 by_cases hy:1048576 < bll.length+cnt bll+pl.length+cc.length+cnt cc+ss.length+nu.length+d.length+p.length
 ·refine jao Tryz.func4 fun _=>?_;repeat' (first|(apply jdg 5 [2,3,5] [2,3] rfl;exact Kh;exact Ybi;refine jac (id:=5) ?_)|refine jac (id:=6) ?_|refine jac (id:=7) ?_|refine Vbx ?_|apply Ub (c:=jjj _ _ _ _ _ _ _ _ _ _ _ Kf Kf) (h:=?_)|apply Ub (c:=szLog_no _ _ _ _ Kf Kf Kf) (h:=?_)|refine jbd rfl (fun hc=>?_) (fun hc=>?_)|exact Qaa|exact Rav|fail)
 ·obtain ⟨m,ok,c1,c2⟩:=replay_both bx by_ bwh bll pl ev cc ss nu co d p n Kf;refine jao Tryz.func4 fun _=>?_;repeat' (first|apply zdi ?_|(refine jaa (.binOp .neq 4 _ _ _) ?_;(refine jab (jlm Kb rfl rfl) rfl ?_))|(apply jdg 5 [2,3,5] [2,3] rfl;exact Kh;exact Ybi;refine jac (id:=5) ?_)|refine jac (id:=6) ?_|refine jac (id:=7) ?_|(apply jdg 8 [2,3] [2,3] rfl;exact Yax;exact Ybi;refine jav 8 (fun _=>false) [0,2,-2,-4,-5,5,6,7,8,9] ?_)|(apply jdg 9 [2,3,6,7] [2,3,3023,4023,6023,7023,8023] rfl;exact Kh;exact Ybf;refine jac (id:=9) ?_)|(apply jdg 10 [2,3,6,7,8] [2,3,3023,4023,6023,7023,8023,3030,4030,6030,7030,8030,8] rfl;exact Kh;exact Ki;refine jav 10 (fun _=>false) [0,1,-3,-4,4,5,6,7,8] ?_)|(apply jdg 11 [2,6,7,8,9,10] [2,3,3023,4023,6023,7023,8023,3030,4030,6030,7030,8030,8] rfl;exact Kh;exact Ki;refine jac (id:=11) ?_)|(apply jdg 13 [2,8] [2,3,3023,4023,6023,7023,8023,3030,4030,6030,7030,8030,8] rfl;exact Yax;exact Ki;refine jav 13 (fun _=>false) [0,1,-3,-4,4] ?_)|refine jac (id:=15) ?_|refine Vbx ?_|(first|apply Ub (d:=23) (c:=toHall_p _ _ _ _ _ _ _ _ _ _ Kf) (h:=?_)|apply Ua (d:=30) (c:=toHall_p _ _ _ _ _ _ _ _ _ _ Kf) (h:=?_)|apply Ub (d:=48) (c:=toHall_p _ _ _ _ _ _ _ _ _ _ Kf) (h:=?_))|apply Ub (c:=toLog_p _ _ _) (h:=?_)|apply Ub (c:=c2) (h:=?_)|apply Ub (c:=c1) (h:=?_)|apply Ub (c:=jnx _ _ _ _ _ _ _ _ _ _) (h:=?_)|apply Ub (c:=jjj _ _ _ _ _ _ _ _ _ _ _ Kf Kf) (h:=?_)|apply Ub (c:=szLog_ok _ _ _ _ Kf Kf) (h:=?_)|refine jbd rfl (fun hc=>?_) (fun hc=>?_)|exact Qaa|exact Rav|fail)
end
end Go.Proofs.YtbhbkbnlpackdaaGreatDoor
