/- What the functions that FnExactRunScript and FnExactReplayLog and FnExactExecuteCommand reaches return: part of its proof. No condition beyond those of its theorems. -/
import Derived.Test.YtbhbkbnlpackdaaGreatDoorKfnsB
import Derived.Test.YtbhbkbnlpackdaaGreatDoorKplainC
import Derived.Test.YtbhbkbnlpackdaaGreatDoorKfnsD
import Derived.Test.YtbhbkbnlpackdaaGreatDoorKplainB
import Derived.Test.YtbhbkbnlpackdaaGreatDoorKfnsA
import Derived.Test.YtbhbkbnlpackdaaGreatDoorKfnsP
import Derived.Test.YtbhbkbnlpackdaaGreatDoorKfnsN
import Derived.Test.YtbhbkbnlpackdaaGreatDoorKfnsF
import Derived.Test.YtbhbkbnlpackdaaGreatDoorKfnsQ
import Derived.Test.YtbhbkbnlpackdaaGreatDoorKplainA
set_option linter.unusedSectionVars false
set_option maxRecDepth 10000
set_option maxHeartbeats 4000000
set_option linter.unusedVariables false
set_option linter.unusedSimpArgs false
namespace Go.Proofs.YtbhbkbnlpackdaaGreatDoor
open Go.RowKit
section
variable [Glb]
variable [GTab Tryz.prog tabNm]
variable [GErr Tryz.prog]
theorem Vbr {G G':Prop} (h:G') (t:Laa G'->G:=by intro h;first|(first|exact Wby h.o|exact jac h.o|exact Wcz h.o|exact Maa h.o|exact Wbe h.o|exact Waq h.o|exact War h.o|exact Wat h.o|exact Wau h.o|exact Way h.o|exact Waz h.o|apply zcx h.o|apply zcr h.o|fail);done|fail):G:=t ⟨h⟩
theorem jjm (X Y:Nat) (wh:Int) (bll:List (List Int)) (pl:List Int) (E:Nat) (cc:List (List Int)) (ss nu:List Int) (co:Int) (d p:Tx) (c:Int) (line:Tx) (hB:hallB X Y wh bll pl E cc ss nu co=true) (hV:validB d p c=true)
  (rx ry rwh:Int) (rll:List (List Int)) (rpl:List Int) (rev:Int) (rcc:List (List Int)) (rss rnu:List Int) (rco:Int) (rp:Tx) (rc:Int) (rep:Tx) (he:exeC ⟨X,Y,wh,bll,pl,E,cc,ss,nu,co⟩ d p c line=(⟨rx,ry,rwh,rll,rpl,rev,rcc,rss,rnu,rco⟩,(rp,rc),rep)) :
  PC Tryz.prog 22 [.g [dI X,dI Y,dI wh,eII bll,eI pl,dI E,eII cc,eI ss,eI nu,dI co,dT d,dT p,dI c],.c (dT line)] (.t [.g [dI rx,dI ry,dI rwh,eII rll,eI rpl,dI rev,eII rcc,eI rss,eI rnu,dI rco,dT d,dT rp,dI rc],.c (dT rep)]):=by
 have hv:=validB_p hV;have hbd:(d.length:Int)+p.length<=1000000000:=by have:=hv.len;omega
 have iv:=spIsValidConsole_p X Y wh bll pl E cc ss nu co d p c hbd;rw [hB,hV] at iv;have ic:PC Tryz.prog 47 [.g [dT line,dT []]] (.p (.c (dB (cmdB line)))):=by
  have:=l12Record_p line [];rwa [cmd_rec] at this
 have dd:=jgk hB;have bl:=dd.bl;have br:=dd.br;have cl:=dd.cl;have cr:=dd.cr;have sl:=dd.sl;have pl6:=dd.pl6;have nl:=dd.nl;have ow:=l12Own_p X Y wh bll pl E cc ss nu co Kf br Kf cr Kf Kf Kf;have c60:c<=60/\0<=c:=by have:=hv.cnt;have:=jfv (d++p);omega
 unfold exeC at he;simp only [hB,hV,Bool.and_self,if_true] at he;cases hc:cmdB line with
 | false =>
  rw [hc] at he ic;rw [if_neg Yby] at he;simp only [Prod.mk.injEq,HD.mk.injEq] at he;obtain ⟨⟨rfl,rfl,rfl,rfl,rfl,rfl,rfl,rfl,rfl,rfl⟩,⟨rfl,rfl⟩,rfl⟩:=he;clear hv;refine jao Tryz.func22 fun _=>?_;repeat' (first|(with_reducible apply jeq)|intro Y hY|((with_reducible apply jff);exact Yak;(·rfl);exact Ko;exact Ko)|((with_reducible apply jfg);(·rfl);exact Kz;exact Ybl;exact Yak)|refine jdr ?_ ?_|apply Vbr ?_|apply Ua (c:=ow) (h:=?_)|apply Ub (c:=iv) (h:=?_)|apply Ub (c:=ic) (h:=?_))
  all_goals first|(exfalso;omega)|(exfalso;simp at *;done)|skip
  all_goals refine Rat ?_
  all_goals rfl
 | true =>
  rw [hc] at he ic;rw [if_pos rfl] at he;by_cases h60:c=60
  ·rw [if_pos h60] at he;simp only [Prod.mk.injEq,HD.mk.injEq] at he;obtain ⟨⟨rfl,rfl,rfl,rfl,rfl,rfl,rfl,rfl,rfl,rfl⟩,⟨rfl,rfl⟩,rfl⟩:=he;clear hv;refine jao Tryz.func22 fun _=>?_;repeat' (first|(with_reducible apply jeq)|intro Y hY|((with_reducible apply jff);exact Yak;(·rfl);exact Ko;exact Ko)|((with_reducible apply jfg);(·rfl);exact Kz;exact Ybl;exact Yak)|refine jdr ?_ ?_|apply Vbr ?_|apply Ua (c:=ow) (h:=?_)|apply Ub (c:=iv) (h:=?_)|apply Ub (c:=ic) (h:=?_)|refine jbd rfl (fun hc=>?_) (fun hc=>?_))
   all_goals first|(exfalso;omega)|(exfalso;simp at *;done)|skip
   all_goals refine Rat ?_
   all_goals rfl
  ·rw [if_neg h60] at he;have hl:=cmd_len hc;obtain ⟨k,rfl⟩:=Int.eq_ofNat_of_zero_le c60.2;obtain ⟨⟨⟨nx,ny,nwh,nll,npl,nev,ncc,nss,nnu,nco⟩,nrep⟩,hN⟩:∃ z,exeH ⟨(X:Int),(Y:Int),wh,bll,pl,(E:Int),cc,ss,nu,co⟩ line=z:=⟨_,rfl⟩;rw [hN] at he;dsimp only at he;have ex:=l12ExecT_v X Y wh bll pl E cc ss nu co hB line Kf nx ny nwh nll npl nev ncc nss nnu nco nrep hN;have nB:hallB nx ny nwh nll npl nev ncc nss nnu nco=true:=by
    have:=exeH_ok line (h:=⟨(X:Int),(Y:Int),wh,bll,pl,(E:Int),cc,ss,nu,co⟩) hB;rw [hN] at this;exact this
   have de:=jgk nB;have nbl:=de.bl;have nbr:=de.br;have ncl:=de.cl;have ncr:=de.cr;have nsl:=de.sl;have npl6:=de.pl6;have nnl:=de.nl;have ow2:=l12Own_p nx ny nwh nll npl nev ncc nss nnu nco Kf nbr Kf ncr Kf Kf Kf;unfold appR at he;clear hN hv;cases hr:recB line nrep with
   | true =>
    have ap:=spAppendRecord_p d p k line nrep hbd hV hr Kf;rw [hr,if_pos rfl] at he;simp only [Prod.mk.injEq,HD.mk.injEq,Int.toNat_natCast] at he;obtain ⟨⟨rfl,rfl,rfl,rfl,rfl,rfl,rfl,rfl,rfl,rfl⟩,⟨rfl,rfl⟩,rfl⟩:=he;refine jao Tryz.func22 fun _=>?_;repeat' (first|(with_reducible apply jeq)|intro Y hY|((with_reducible apply jff);exact Yak;(·rfl);exact Ko;exact Ko)|((with_reducible apply jfg);(·rfl);exact Kz;exact Ybl;exact Yak)|refine jdr ?_ ?_|refine jav 10 (fun i=>i == 5) [0,2,4,-2,3,-6,6] ?_|apply Vbr ?_|(first|apply Ua (d:=13) (c:=ow) (h:=?_)|apply Ua (d:=48) (c:=ow2) (h:=?_))|apply Ub (c:=iv) (h:=?_)|apply Ub (c:=ic) (h:=?_)|apply Uc (c:=ex) (h:=?_)|apply Ub (c:=ap) (h:=?_)|refine jbd rfl (fun hc=>?_) (fun hc=>?_))
    all_goals first|(exfalso;omega)|(exfalso;simp at *;done)|skip
    all_goals refine Rat ?_
    all_goals rfl
   | false =>
    have ap:=jkl d p k line nrep hbd (by rw [hr];simp);rw [hr,if_neg Yby] at he;simp only [Prod.mk.injEq,HD.mk.injEq] at he;obtain ⟨⟨rfl,rfl,rfl,rfl,rfl,rfl,rfl,rfl,rfl,rfl⟩,⟨rfl,rfl⟩,rfl⟩:=he;refine jao Tryz.func22 fun _=>?_;repeat' (first|(with_reducible apply jeq)|intro Y hY|((with_reducible apply jff);exact Yak;(·rfl);exact Ko;exact Ko)|((with_reducible apply jfg);(·rfl);exact Kz;exact Ybl;exact Yak)|refine jdr ?_ ?_|refine jav 10 (fun i=>i == 5) [0,2,4,-2,3,-6,6] ?_|apply Vbr ?_|(first|apply Ua (d:=13) (c:=ow) (h:=?_)|apply Ua (d:=48) (c:=ow2) (h:=?_))|apply Ub (c:=iv) (h:=?_)|apply Ub (c:=ic) (h:=?_)|apply Uc (c:=ex) (h:=?_)|apply Ub (c:=ap) (h:=?_)|refine jbd rfl (fun hc=>?_) (fun hc=>?_))
    all_goals first|(exfalso;omega)|(exfalso;simp at *;done)|skip
    all_goals refine Rat ?_
    all_goals rfl
theorem spExecuteCommandI_p (bx by_ bwh:Int) (bll:List (List Int)) (pl:List Int) (ev:Int) (cc:List (List Int)) (ss nu:List Int) (co:Int) (d p:Tx) (c:Int) (line:Tx) (hB:hallB bx by_ bwh bll pl ev cc ss nu co=true) (hV:validB d p c=true)
  (rx ry rwh:Int) (rll:List (List Int)) (rpl:List Int) (rev:Int) (rcc:List (List Int)) (rss rnu:List Int) (rco:Int) (rp:Tx) (rc:Int) (rep:Tx) (he:exeC ⟨bx,by_,bwh,bll,pl,ev,cc,ss,nu,co⟩ d p c line=(⟨rx,ry,rwh,rll,rpl,rev,rcc,rss,rnu,rco⟩,(rp,rc),rep)) :
  PC Tryz.prog 22 [.g [dI bx,dI by_,dI bwh,eII bll,eI pl,dI ev,eII cc,eI ss,eI nu,dI co,dT d,dT p,dI c],.c (dT line)] (.t [.g [dI rx,dI ry,dI rwh,eII rll,eI rpl,dI rev,eII rcc,eI rss,eI rnu,dI rco,dT d,dT rp,dI rc],.c (dT rep)]):=by
 obtain ⟨X,Y,rfl,rfl,-,-⟩:=jgg (jdu hB).box;have hev:=(jbv (jdu hB).sc).e0;obtain ⟨E,rfl⟩:=Int.eq_ofNat_of_zero_le hev;exact jjm X Y bwh bll pl E cc ss nu co d p c line hB hV rx ry rwh rll rpl rev rcc rss rnu rco rp rc rep he
theorem Vbt {G G':Prop} (h:G') (t:Laa G'->G:=by intro h;first|(first|apply zbr h.o|exact Wby h.o|apply zce h.o|exact Wbh h.o|exact Wbi h.o|exact jac h.o|exact Maa h.o|exact Wbe h.o|apply zcc h.o|exact Way h.o|exact Wbz h.o|exact Wct h.o|exact Waz h.o|exact Wcb h.o|fail);done|fail):G:=t ⟨h⟩
theorem jof (bx by_ bwh:Int) (bll:List (List Int)) (pl:List Int) (ev:Int) (cc:List (List Int)) (ss nu:List Int) (co:Int) (d p:Tx) (c:Int) (text:Tx) (hl:text.length<=4000000) (hbd:(d.length:Int)+p.length<=1000000000) (hN:((hallB bx by_ bwh bll pl ev cc ss nu co&&validB d p c)&&scrB text)=false) :
  PC Tryz.prog 7 [.g [dI bx,dI by_,dI bwh,eII bll,eI pl,dI ev,eII cc,eI ss,eI nu,dI co,dT d,dT p,dI c],.c (dT text)] (.t [.c (eT []),.c (dB false)]):=by
 have iv:=spIsValidConsole_p bx by_ bwh bll pl ev cc ss nu co d p c hbd;have sq:=l1Split_p text 10 Kf;unfold scrB at hN;generalize (hallB bx by_ bwh bll pl ev cc ss nu co&&validB d p c)=Q at *;generalize splitT 10 text=ws at *;cases Q with
 | false =>
  refine jao Tryz.func7 fun _=>?_;repeat' (first|refine Vbt ?_|apply Ub (c:=iv) (h:=?_)|exact Qab|exact Rcd|fail)
 | true =>
  rw [Bool.true_and,Bool.and_eq_false_iff,decide_eq_false_iff_not,decide_eq_false_iff_not] at hN;refine jao Tryz.func7 fun _=>?_;repeat' (first|refine Vbt ?_|apply Ub (c:=iv) (h:=?_)|apply Ub (c:=sq) (h:=?_)|refine jbd rfl (fun hc=>?_) (fun hc=>?_))
  all_goals first|(exfalso;omega)|(exfalso;simp at *;done)|skip
  all_goals refine Ram ?_
  all_goals rfl
theorem spRunScript_p (bx by_ bwh:Int) (bll:List (List Int)) (pl:List Int) (ev:Int) (cc:List (List Int)) (ss nu:List Int) (co:Int) (d p:Tx) (c:Int) (text:Tx) (hB:hallB bx by_ bwh bll pl ev cc ss nu co=true) (hV:validB d p c=true) (hS:scrB text=true) :
  PC Tryz.prog 7 [.g [dI bx,dI by_,dI bwh,eII bll,eI pl,dI ev,eII cc,eI ss,eI nu,dI co,dT d,dT p,dI c],.c (dT text)] (.t [.c (eT (rplL (replyS d (⟨bx,by_,bwh,bll,pl,ev,cc,ss,nu,co⟩,(p,c)) (splitT 10 text)) (splitT 10 text).length)),.c (dB true)]):=by
 have hv:=validB_p hV;have hbd:(d.length:Int)+p.length<=1000000000:=by have:=hv.len;omega
 have iv:=spIsValidConsole_p bx by_ bwh bll pl ev cc ss nu co d p c hbd;rw [hB,hV] at iv;simp only [scrB,Bool.and_eq_true,decide_eq_true_eq] at hS;obtain ⟨hS1,hS2⟩:=hS;have sq:=l1Split_p text 10 Kf;obtain ⟨fx,fy,fw,fl,fq,fe,fc,fs,fn,fo,fp,fk,h0,hF⟩:=jjo bx by_ bwh bll pl ev cc ss nu co d p c (splitT 10 text) hB hV;obtain ⟨e1,e2,e3,e4,e5,e6,e7,e8,e9,e10,e11,e12⟩:=h0;generalize replyS d (⟨bx,by_,bwh,bll,pl,ev,cc,ss,nu,co⟩,(p,c)) (splitT 10 text)=rp at *;generalize splitT 10 text=ws at *;have dz:=repD_zero rp;have ds:=repD_succ rp;rw [<- repD_all rp ws.length];clear hv;refine jao Tryz.func7 fun _=>?_;repeat' (first|refine Vbt ?_|apply Ub (c:=iv) (h:=?_)|apply Ub (c:=sq) (h:=?_)|refine jbd rfl (fun hc=>?_) (fun hc=>?_)|exact Qab|fail)
 apply jbe [2,6,7,8] [2,9,11,22,45,46,3039,4039,6039,7039,8039] rfl;exact Kk;exact Ybe;refine jbf [2,7] [22,3039,4039,6039,7039,8039,9,45,46] (fun i=>[(8,iN i),(6,.c (.ls 11 1 0 i))]) (fun i=>[(2,.box [.d (dI (fx i)),.d (dI (fy i)),.d (dI (fw i)),.d (eII (fl i)),.d (eI (fq i)),.d (dI (fe i)),.d (eII (fc i)),.d (eI (fs i)),.d (eI (fn i)),.d (dI (fo i)),.d (dT d),.d (dT (fp i)),.d (dI (fk i))]),(11,.row 1 (repD rp i))]) (fun i=>i<=ws.length) (fun i=>ws.length - i) (0) ?_ Kg (by (repeat(first|exact trivial|refine ⟨(by (first|(refine jbs rfl ?_;simp  [e1,e2,e3,e4,e5,e6,e7,e8,e9,e10,e11,e12,dz];done)|(refine jdn rfl ?_;simp  [e1,e2,e3,e4,e5,e6,e7,e8,e9,e10,e11,e12,dz];done))),?_⟩))) ?_
 ·omega
 intro i hi;have rl:=repD_len rp i;by_cases h:i < ws.length
 ·obtain ⟨hB2,hV2,hE⟩:=hF i;have dsi:=ds i;have ex:=spExecuteCommandI_p _ _ _ _ _ _ _ _ _ _ d _ _ _ hB2 hV2 _ _ _ _ _ _ _ _ _ _ _ _ _ hE;clear hF hB2 hV2 hE ds;repeat' (first|(with_reducible apply jeq)|intro Y hY|((with_reducible apply jff);exact Yak;(·rfl);exact Ko;exact Ko)|((with_reducible apply jfg);(·rfl);(·(repeat(first|exact Pf.nil|apply Pf.cons (.c rfl (.d rfl))|apply Pf.cons (.c rfl (.ls rfl))|apply Pf.cons (.c rfl (.lp rfl))|(apply Pf.cons;(·apply Nv.g rfl;(repeat(first|exact Ncs.nil rfl|(apply Ncs.cons rfl;(·(exact .d rfl)))))))|apply Pf.skip)));exact Ybe;exact Yak)|refine jdr ?_ ?_|refine jcv 10 (fun i=>i == 10) (IT.lt (.step 10 false (.step 11 true .nil)) fun Y0=>(.step 0 true (.step 1 true (.step 2 true (.step 3 true (.step 4 true (.alt 10 (.step 5 false (.step 6 true (.step 7 true (.step 8 true (.step 9 false (IT.ref true [2,6,7,8,9,10,40,41] [2,11,22,3039,4039,6039,7039,8039,9] Y0)))))) (.step 9 false (.step 5 false (.step 6 true (.step 7 true (.step 8 true (IT.ref false [2,6,7,8,9,10,40,41] [2,11,22,3039,4039,6039,7039,8039,9] Y0))))))))))))) ?_|apply Vbt ?_|apply Ub (c:=ex) (h:=?_)|refine jbd rfl (fun hc=>?_) (fun hc=>?_)|exact Qaa|fail)
  refine bkL (i+1) ?_ ?_ (hB:=(by (repeat(first|exact trivial|refine ⟨(by (first|(refine jbs rfl ?_;simp  [dsi];done)|rfl)),?_⟩))))
  ·omega
  ·omega
 ·obtain rfl:i=ws.length:=by omega
  clear hF;repeat' (first|(with_reducible apply jeq)|intro Y hY|refine jdr ?_ ?_|refine jcv 10 (fun i=>i == 10) (IT.lt (.step 10 false (.step 11 true .nil)) fun Y0=>(.step 0 true (.step 1 true (.step 2 true (.step 3 true (.step 4 true (.alt 10 (.step 5 false (.step 6 true (.step 7 true (.step 8 true (.step 9 false (IT.ref true [2,6,7,8,9,10,40,41] [2,11,22,3039,4039,6039,7039,8039,9] Y0)))))) (.step 9 false (.step 5 false (.step 6 true (.step 7 true (.step 8 true (IT.ref false [2,6,7,8,9,10,40,41] [2,11,22,3039,4039,6039,7039,8039,9] Y0))))))))))))) ?_|apply Vbt ?_|refine jbd rfl (fun hc=>?_) (fun hc=>?_)|exact Qaa|exact Rcd|fail)
end
end Go.Proofs.YtbhbkbnlpackdaaGreatDoor
