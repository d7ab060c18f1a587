/- What the functions that FnExactRunScript and FnExactReplayLog and FnExactExecuteCommand reaches return: part of its proof. No condition beyond those of its theorems. -/
import Derived.Test.YtbhbkbnlpackdaaGreatDoorKfnsB
import Derived.Test.YtbhbkbnlpackdaaGreatDoorKplainC
import Derived.Test.YtbhbkbnlpackdaaGreatDoorKfnsD
import Derived.Test.YtbhbkbnlpackdaaGreatDoorKplainB
import Derived.Test.YtbhbkbnlpackdaaGreatDoorKfnsA
import Derived.Test.YtbhbkbnlpackdaaGreatDoorKfnsO
import Derived.Test.YtbhbkbnlpackdaaGreatDoorKfnsN
import Derived.Test.YtbhbkbnlpackdaaGreatDoorKfnsL
import Derived.Test.YtbhbkbnlpackdaaGreatDoorKplainA
set_option linter.unusedSectionVars false
set_option maxRecDepth 10000
set_option maxHeartbeats 4000000
set_option linter.unusedVariables false
set_option linter.unusedSimpArgs false
namespace Go.Proofs.YtbhbkbnlpackdaaGreatDoor
open Go.RowKit
section
variable [Glb]
variable [GTab Tryz.prog tabNm]
variable [GErr Tryz.prog]
section
variable {P:Program} {st:St} {dst:Option Tmp} {ty:TypeId} {pos:String} {af:Array Edge} {x y:Operand}
theorem qt_slice_T1 {T:TypeId} {lo:Operand} {l:List Tx} {k:IntKind} (hx:st.ev x = .c (.d (eT l))) (hl:st.ev lo = .c (.d (.lit (.int k 1)))) (ht:tSl P T 1=true) (h:1<=l.length):Qt P ⟨dst,.slice T x (some lo) none none,ty,pos,af,none⟩ st (.c (.d (eT (l.drop 1)))) :=
 qt_slice_d (vl:=some (k,1)) (vh:=none) (i:=1) (j:=l.length) (m:=(l.drop 1).length) hx (ev_some hl) (fun _ _ _ _ _=>rfl) ht ⟨by omega,rfl⟩ rfl h (Nat.le_refl _) (by rw [List.length_drop]) (by
  rw [List.length_drop,Nat.mul_one,Nat.mul_one,List.map_drop,List.take_of_length_le Yby])
end
theorem executed_t (X Y:Nat) (wh:Int) (bll:List (List Int)) (pl:List Int) (E:Nat) (cc:List (List Int)) (ss nu:List Int) (co:Int) (hB:hallB X Y wh bll pl E cc ss nu co=true) (line:Tx) (hl:line.length<=1000)
    (rx ry rwh:Int) (rll:List (List Int)) (rpl:List Int) (rev:Int) (rcc:List (List Int)) (rss rnu:List Int) (rco:Int) (rep:Tx) (he:exeH ⟨X,Y,wh,bll,pl,E,cc,ss,nu,co⟩ line=(⟨rx,ry,rwh,rll,rpl,rev,rcc,rss,rnu,rco⟩,rep)) :
    PT Tryz.prog 52 [.g [dI X,dI Y,dI wh,eII bll,eI pl,dI E,eII cc,eI ss,eI nu,dI co],.c (dT line)] (.t [.g [dI rx,dI ry,dI rwh,eII rll,eI rpl,dI rev,eII rcc,eI rss,eI rnu,dI rco],.c (dT rep)]):=by
  have sp:=split_p line 32 Kf;have s0:atZ (splitT 32 line) 0=bef 32 line:=split0 32 line;have spos:0 < (splitT 32 line).length:=List.length_pos_iff.2 (jgn 32 line);have slen:(splitT 32 line).length<=1001:=by
    have:=jhv 32 line;have:line.count 32<=line.length:=List.count_le_length;omega
  unfold exeH at he;generalize splitT 32 line=ws at *;obtain ⟨rest,hr⟩:∃ rest,rest=ws.drop 1:=⟨_,rfl⟩;have rlen:rest.length+1=ws.length:=by rw [hr,List.length_drop];omega
  rw [<- hr,<- s0] at he;refine jdt Tryz.func52 fun _=>?_;repeat' (first|(refine jaa (.box 41 _) ?_;refine jax rfl rfl ?_)|(refine jaa (.alloc 41) ?_;refine jbi (zs:=[.int .i64 0,.int .i64 0,.int .i64 0,.slice none 0 0,.slice none 0 0,.int .i64 0,.slice none 0 0,.slice none 0 0,.slice none 0 0,.int .i64 0]) Kb rfl ?_)|apply zaa ?_|apply zab ?_|(refine jaa (.buildSlice 25 0 _) ?_;(apply jaw (sz:=1) (by_:=8);exact Kb;exact Ybr;exact Yab;exact Ybr;(·rfl);(·rfl);(·rfl)))|(refine jaa (.slice 35 _ (some _) none none) ?_;((refine jab (qt_slice_T1 rfl rfl Kb Kf) rfl ?_)))|apply zce ?_|apply Ub (c:=sp) (h:=?_)|refine jai ?_|refine jaj ?_|refine jah ?_|refine jac (id:=0) ?_|refine jac (id:=1) ?_|refine jac (id:=2) ?_|exact Qaa|fail)
  rw [<- hr];clear hr s0 sp;repeat' fail
  apply jbe [2,4,6,7,24,25,26] [2,4,12,14,21,22,40,41,3055,4055,6055,7055,8055,1003000,1004000,1006000,1007000,1008000] rfl;exact Kk;exact Ki;refine jbf [2,4,6,24,25] [2,4,21,40,41,12,3055,4055,6055,7055,8055,14,1003000,1004000,1006000,1007000,1008000] (fun (L:List Int)=>[(26,iN L.length),(7,.c (.ls 22 1 0 L.length))]) (fun L=>[(22,.row 1 (cI L))]) (fun L=>L.length<=rest.length/\L=candL rest L.length/\readK rest L.length) (fun L=>rest.length - L.length) ([]) ?_ Kg Kt ?_
  · exact ⟨by simp,rfl,fun j hj=>by simp at hj⟩
  rintro L ⟨hL,hc,hk⟩;by_cases hL2:L.length < rest.length
  · have pi := ParseInt_p (atZ rest (L.length : Int))
    cases hrd:readB (atZ rest (L.length:Int)) with
    | false =>
      rw [hrd] at pi;rw [numsO_no hL2 hrd] at he;simp only [Prod.mk.injEq,HD.mk.injEq] at he;obtain ⟨⟨rfl,rfl,rfl,rfl,rfl,rfl,rfl,rfl,rfl,rfl⟩,rfl⟩:=he;clear hc hk;repeat' (first|apply zaa ?_|(refine jaa (.move _) ?_;(first|refine jab (jal rfl) rfl ?_|refine jab (jcn rfl) rfl ?_))|apply zac ?_|apply zcc ?_|apply zbr ?_|apply zaj ?_|apply zag ?_|apply zan ?_|(refine jaa (.store 41 _ _) ?_;(refine jan rfl rfl rfl Kb rfl rfl ?_))|apply Ub (c:=pi) (h:=?_)|refine jai ?_|refine jaj ?_|refine jah ?_|refine jaq rfl ?_|refine jam ?_|refine jac ?_|refine jbg rfl ?_|refine jbd rfl (fun hc=>?_) (fun hc=>?_)|exact Qab|exact Rbk|fail)
    | true =>
      rw [hrd,if_pos rfl] at pi;have cs:=candL_snoc rest L.length;rw [<- hc] at cs;have fin:(L++[candZ (atZ rest (L.length:Int))]).length<=rest.length/\L++[candZ (atZ rest (L.length:Int))]=candL rest (L++[candZ (atZ rest (L.length:Int))]).length/\readK rest (L++[candZ (atZ rest (L.length:Int))]).length:=by
        rw [List.length_append,List.length_singleton];refine ⟨by omega,cs.symm,fun j hj=>?_⟩;by_cases e:j=L.length
        · subst e; exact hrd
        · exact hk j Kf
      clear cs hc hk;repeat' (first|apply zaa ?_|(refine jaa (.move _) ?_;(first|refine jab (jal rfl) rfl ?_|refine jab (jcn rfl) rfl ?_))|apply zac ?_|apply zcc ?_|apply zbr ?_|apply zaj ?_|apply zag ?_|(refine jaa (.buildSlice 25 1 _) ?_;(apply jaw (sz:=1) (by_:=8);exact Kb;exact Ybr;exact Kl;exact Ybr;(·rfl);(·rfl);(·rfl)))|(refine jaa (.call ⟨.builtin .append,_,#[25,25]⟩) ?_;((apply jbx (sz:=1) (by_:=8);(·rfl);(·rfl);exact Ybt;exact Kn;exact Ybr;exact Kb;exact Ybr;exact Kf;exact Kf;(·rfl);(·rfl);(·rfl))))|apply zad ?_|apply Ub (c:=pi) (h:=?_)|refine jai ?_|refine jaj ?_|refine jah ?_|refine jaz ?_|refine jaq rfl ?_|refine jam ?_|refine jac ?_|refine jay rfl ?_|refine jbd rfl (fun hc=>?_) (fun hc=>?_))
      all_goals first|(exfalso;omega)|(exfalso;simp at *;done)|skip
      refine bkL (L++[candZ (atZ rest (L.length:Int))]) ?_ ?_ (hV:=(by (repeat(first|exact trivial|refine ⟨(by (first|(refine jcd rfl ?_;((simp;done)))|(refine jks rfl ?_;((simp;done))))),?_⟩))))
      · exact fin
      · simp; omega
  · have hn:numsO rest=some L:=by
      have e:L.length=rest.length:=by omega
      rw [e] at hc hk;rw [numsO_all hk,<- hc]
    rw [hn] at he;clear hc hk hn;dsimp only at he;have hv:hallV ⟨(X:Int),(Y:Int),wh,bll,pl,(E:Int),cc,ss,nu,co⟩=true:=hB;cases hco:callO (atZ ws 0) L with
    | some ka =>
      obtain ⟨k,a⟩:=ka;rw [hco] at he;dsimp only at he;have co1:=callOf_c (atZ ws 0) L k a true Kf (by rw [hco];rfl) (by intro h;cases h);have hn:=nextH_T hv k a;have nok:=nextT_ok ⟨(X:Int),(Y:Int),wh,bll,pl,(E:Int),cc,ss,nu,co⟩ k a;obtain ⟨⟨⟨nx,ny,nwh,nll,npl,nev,ncc,nss,nnu,nco⟩,ok⟩,hN⟩:∃ z,nextT ⟨(X:Int),(Y:Int),wh,bll,pl,(E:Int),cc,ss,nu,co⟩ k a=z:=⟨_,rfl⟩;rw [hN] at hn he nok;have ch:=CallHall_p X Y wh bll pl E cc ss nu co k a nx ny nwh nll npl nev ncc nss nnu nco ok hn;dsimp only at he nok;clear hn hN hco hv;cases ok with
      | false =>
        rw [if_neg Yby] at he;simp only [Prod.mk.injEq,HD.mk.injEq] at he;obtain ⟨⟨rfl,rfl,rfl,rfl,rfl,rfl,rfl,rfl,rfl,rfl⟩,rfl⟩:=he;repeat' (first|(refine jaa (.alloc 41) ?_;refine jbi (zs:=[.int .i64 0,.int .i64 0,.int .i64 0,.slice none 0 0,.slice none 0 0,.int .i64 0,.slice none 0 0,.slice none 0 0,.slice none 0 0,.int .i64 0]) Kb rfl ?_)|apply zaa ?_|(refine jaa (.move _) ?_;(first|refine jab (jal rfl) rfl ?_|refine jab (jcn rfl) rfl ?_))|apply zac ?_|apply zcc ?_|apply zbr ?_|apply zaj ?_|apply zan ?_|(refine jaa (.store 41 _ _) ?_;(refine jan rfl rfl rfl Kb rfl rfl ?_))|(refine jaa (.alloc 110) ?_;refine jbi (zs:=[.int .i64 0,.int .i64 0]) Kb rfl ?_)|(refine jaa (.store 110 _ _) ?_;(refine jan rfl rfl rfl Kb rfl rfl ?_))|apply zcn ?_|apply Ub (c:=co1) (h:=?_)|apply Ua (c:=ch) (h:=?_)|refine jai ?_|refine jaj ?_|refine jah ?_|refine jaq rfl ?_|refine jam ?_|refine jac ?_|refine jbg rfl ?_|refine jay rfl ?_|refine jbd rfl (fun hc=>?_) (fun hc=>?_))
        all_goals first|(exfalso;omega)|(exfalso;simp at *;done)|skip
        all_goals refine Rai ?_
        all_goals rfl
      | true =>
        rw [if_pos rfl] at he;have hNB:=nok.val rfl;dsimp only at hNB;have hs:=jdu hNB;obtain ⟨X',Y',rfl,rfl,-,-⟩:=jgg hs.box;have hev:=(jbv hs.sc).e0;obtain ⟨E',rfl⟩:=Int.eq_ofNat_of_zero_le hev;have cd:=called_p X' Y' nwh nll npl E' ncc nss nnu nco hNB k;simp only [Prod.mk.injEq,HD.mk.injEq] at he;obtain ⟨⟨rfl,rfl,rfl,rfl,rfl,rfl,rfl,rfl,rfl,rfl⟩,rfl⟩:=he;generalize toldH ⟨(X':Int),(Y':Int),nwh,nll,npl,(E':Int),ncc,nss,nnu,nco⟩ k=told at *;clear hs nok hNB;repeat' (first|(refine jaa (.alloc 41) ?_;refine jbi (zs:=[.int .i64 0,.int .i64 0,.int .i64 0,.slice none 0 0,.slice none 0 0,.int .i64 0,.slice none 0 0,.slice none 0 0,.slice none 0 0,.int .i64 0]) Kb rfl ?_)|apply zaa ?_|(refine jaa (.move _) ?_;(first|refine jab (jal rfl) rfl ?_|refine jab (jcn rfl) rfl ?_))|apply zac ?_|apply zcc ?_|apply zbr ?_|apply zaj ?_|apply zan ?_|(refine jaa (.store 41 _ _) ?_;(refine jan rfl rfl rfl Kb rfl rfl ?_))|(refine jaa (.alloc 110) ?_;refine jbi (zs:=[.int .i64 0,.int .i64 0]) Kb rfl ?_)|(refine jaa (.store 110 _ _) ?_;(refine jan rfl rfl rfl Kb rfl rfl ?_))|apply zcn ?_|apply zbo ?_|apply zaf ?_|apply Ub (c:=co1) (h:=?_)|apply Ua (c:=ch) (h:=?_)|apply Ub (c:=cd) (h:=?_)|refine jai ?_|refine jaj ?_|refine jah ?_|refine jaq rfl ?_|refine jam ?_|refine jac ?_|refine jbg rfl ?_|refine jbd rfl (fun hc=>?_) (fun hc=>?_))
        all_goals first|(exfalso;omega)|(exfalso;simp at *;done)|skip
        all_goals refine Rai ?_
        all_goals rfl
    | none =>
      rw [hco] at he;dsimp only at he;have co1:=callOf_c (atZ ws 0) L 0 0 false Kf (by rw [hco];rfl) (fun _=>⟨rfl,rfl⟩);have ak:=askedH_p X Y wh bll pl E cc ss nu co hB (atZ ws 0);generalize quesO ⟨(X:Int),(Y:Int),wh,bll,pl,(E:Int),cc,ss,nu,co⟩ (atZ ws 0)=o at *;clear hco hv;cases o with
      | none =>
        have he2:(⟨(X:Int),(Y:Int),wh,bll,pl,(E:Int),cc,ss,nu,co⟩,qT)=((⟨rx,ry,rwh,rll,rpl,rev,rcc,rss,rnu,rco⟩,rep):HD×Tx):=by
          rw [<- he];split <;> rfl
        clear he;simp only [Prod.mk.injEq,HD.mk.injEq] at he2;obtain ⟨⟨rfl,rfl,rfl,rfl,rfl,rfl,rfl,rfl,rfl,rfl⟩,rfl⟩:=he2;repeat' (first|apply zaa ?_|(refine jaa (.move _) ?_;(first|refine jab (jal rfl) rfl ?_|refine jab (jcn rfl) rfl ?_))|apply zac ?_|apply zcc ?_|apply zbr ?_|apply zaj ?_|apply zag ?_|apply zan ?_|(refine jaa (.store 41 _ _) ?_;(refine jan rfl rfl rfl Kb rfl rfl ?_))|(refine jaa (.alloc 110) ?_;refine jbi (zs:=[.int .i64 0,.int .i64 0]) Kb rfl ?_)|(refine jaa (.store 110 _ _) ?_;(refine jan rfl rfl rfl Kb rfl rfl ?_))|apply zah ?_|apply Ub (c:=co1) (h:=?_)|apply Ub (c:=ak) (h:=?_)|refine jai ?_|refine jbn rfl rfl rfl rfl ?_|refine jaj ?_|refine jah ?_|refine jaq rfl ?_|refine jam ?_|refine jac ?_|refine jav 18 (fun _=>false) [0,1,2,3,-5,5,6,7,8,9] ?_|refine jbg rfl ?_|refine jay rfl ?_|refine jbd rfl (fun hc=>?_) (fun hc=>?_))
        all_goals first|(exfalso;omega)|(exfalso;simp at *;done)|skip
        all_goals refine Rai ?_
        all_goals rfl
      | some r =>
        by_cases h0:L.length=0
        · rw [if_pos h0] at he
          simp only [Prod.mk.injEq,HD.mk.injEq] at he;obtain ⟨⟨rfl,rfl,rfl,rfl,rfl,rfl,rfl,rfl,rfl,rfl⟩,rfl⟩:=he;repeat' (first|apply zaa ?_|(refine jaa (.move _) ?_;(first|refine jab (jal rfl) rfl ?_|refine jab (jcn rfl) rfl ?_))|apply zac ?_|apply zcc ?_|apply zbr ?_|apply zaj ?_|apply zag ?_|apply zan ?_|(refine jaa (.store 41 _ _) ?_;(refine jan rfl rfl rfl Kb rfl rfl ?_))|(refine jaa (.alloc 110) ?_;refine jbi (zs:=[.int .i64 0,.int .i64 0]) Kb rfl ?_)|(refine jaa (.store 110 _ _) ?_;(refine jan rfl rfl rfl Kb rfl rfl ?_))|apply zbm ?_|apply zbc ?_|apply zah ?_|apply Ub (c:=co1) (h:=?_)|apply Ub (c:=ak) (h:=?_)|refine jai ?_|refine jbj rfl rfl rfl rfl ?_|refine jaj ?_|refine jah ?_|refine jaq rfl ?_|refine jam ?_|refine jac ?_|refine jav 18 (fun _=>false) [0,1,2,3,-5,5,6,7,8,9] ?_|refine jay rfl ?_|refine jbd rfl (fun hc=>?_) (fun hc=>?_))
          all_goals first|(exfalso;omega)|(exfalso;simp at *;done)|skip
          all_goals refine Rai ?_
          all_goals rfl
        · rw [if_neg h0] at he
          simp only [Prod.mk.injEq,HD.mk.injEq] at he;obtain ⟨⟨rfl,rfl,rfl,rfl,rfl,rfl,rfl,rfl,rfl,rfl⟩,rfl⟩:=he;repeat' (first|apply zaa ?_|(refine jaa (.move _) ?_;(first|refine jab (jal rfl) rfl ?_|refine jab (jcn rfl) rfl ?_))|apply zac ?_|apply zcc ?_|apply zbr ?_|apply zaj ?_|apply zag ?_|apply zan ?_|(refine jaa (.store 41 _ _) ?_;(refine jan rfl rfl rfl Kb rfl rfl ?_))|(refine jaa (.alloc 110) ?_;refine jbi (zs:=[.int .i64 0,.int .i64 0]) Kb rfl ?_)|(refine jaa (.store 110 _ _) ?_;(refine jan rfl rfl rfl Kb rfl rfl ?_))|apply zbm ?_|apply zbc ?_|apply zah ?_|apply Ub (c:=co1) (h:=?_)|apply Ub (c:=ak) (h:=?_)|refine jai ?_|refine jbj rfl rfl rfl rfl ?_|refine jaj ?_|refine jah ?_|refine jaq rfl ?_|refine jam ?_|refine jac ?_|refine jav 18 (fun _=>false) [0,1,2,3,-5,5,6,7,8,9] ?_|refine jay rfl ?_|refine jbd rfl (fun hc=>?_) (fun hc=>?_))
          all_goals first|(exfalso;omega)|(exfalso;simp at *;done)|skip
          all_goals refine Rai ?_
          all_goals rfl
theorem cmd_len {s:Tx} (h:cmdB s=true):s.length<=160:=by
 simp only [cmdB,plainB,Bool.and_eq_true,decide_eq_true_eq] at h;omega
theorem Vbq {G G':Prop} (h:G') (t:Laa G'->G:=by intro h;first|(first|exact Wby h.o|exact jac h.o|exact Maa h.o|exact Wbe h.o|exact Waq h.o|exact War h.o|exact Wat h.o|exact Wau h.o|exact Way h.o|exact Waz h.o|apply zcx h.o|apply zcr h.o|fail);done|fail):G:=t ⟨h⟩
theorem jlw (X Y:Nat) (wh:Int) (bll:List (List Int)) (pl:List Int) (E:Nat) (cc:List (List Int)) (ss nu:List Int) (co:Int) (d p:Tx) (c:Int) (line:Tx) (hB:hallB X Y wh bll pl E cc ss nu co=true) (hV:validB d p c=true)
  (rx ry rwh:Int) (rll:List (List Int)) (rpl:List Int) (rev:Int) (rcc:List (List Int)) (rss rnu:List Int) (rco:Int) (rp:Tx) (rc:Int) (rep:Tx) (he:exeC ⟨X,Y,wh,bll,pl,E,cc,ss,nu,co⟩ d p c line=(⟨rx,ry,rwh,rll,rpl,rev,rcc,rss,rnu,rco⟩,(rp,rc),rep)) :
  PC Tryz.prog 23 [.g [dI X,dI Y,dI wh,eII bll,eI pl,dI E,eII cc,eI ss,eI nu,dI co,dT d,dT p,dI c],.c (dT line)] (.t [.g [dI rx,dI ry,dI rwh,eII rll,eI rpl,dI rev,eII rcc,eI rss,eI rnu,dI rco,dT d,dT rp,dI rc],.c (dT rep)]):=by
 have hv:=validB_p hV;have hbd:(d.length:Int)+p.length<=1000000000:=by have:=hv.len;omega
 have iv:=IsValidConsole_p X Y wh bll pl E cc ss nu co d p c hbd;rw [hB,hV] at iv;have ic:PC Tryz.prog 51 [.c (dT line)] (.p (.c (dB (cmdB line)))):=isCommand_p line;have dd:=jgk hB;have bl:=dd.bl;have br:=dd.br;have cl:=dd.cl;have cr:=dd.cr;have cb:=dd.cb;have sl:=dd.sl;have pl6:=dd.pl6;have nl:=dd.nl;have ow:=own_p X Y wh bll pl E cc ss nu co Kf br Kf cr cb Kf Kf Kf;have c60:c<=60/\0<=c:=by have:=hv.cnt;have:=jfv (d++p);omega
 unfold exeC at he;simp only [hB,hV,Bool.and_self,if_true] at he;cases hc:cmdB line with
 | false =>
  rw [hc] at he ic;rw [if_neg Yby] at he;simp only [Prod.mk.injEq,HD.mk.injEq] at he;obtain ⟨⟨rfl,rfl,rfl,rfl,rfl,rfl,rfl,rfl,rfl,rfl⟩,⟨rfl,rfl⟩,rfl⟩:=he;clear hv;refine jao Tryz.func23 fun _=>?_;repeat' (first|(with_reducible apply jeq)|intro Y hY|((with_reducible apply jff);exact Yak;(·rfl);exact Ko;exact Ko)|((with_reducible apply jfg);(·rfl);exact Kz;exact Ybl;exact Yak)|refine jdr ?_ ?_|apply Wcz ?_|apply Vbq ?_|apply Ua (c:=ow) (h:=?_)|apply Ub (c:=iv) (h:=?_)|apply Ub (c:=ic) (h:=?_))
  all_goals first|(exfalso;omega)|(exfalso;simp at *;done)|skip
  all_goals refine Rat ?_
  all_goals rfl
 | true =>
  rw [hc] at he ic;rw [if_pos rfl] at he;by_cases h60:c=60
  ·rw [if_pos h60] at he;simp only [Prod.mk.injEq,HD.mk.injEq] at he;obtain ⟨⟨rfl,rfl,rfl,rfl,rfl,rfl,rfl,rfl,rfl,rfl⟩,⟨rfl,rfl⟩,rfl⟩:=he;clear hv;refine jao Tryz.func23 fun _=>?_;repeat' (first|(with_reducible apply jeq)|intro Y hY|((with_reducible apply jff);exact Yak;(·rfl);exact Ko;exact Ko)|((with_reducible apply jfg);(·rfl);exact Kz;exact Ybl;exact Yak)|refine jdr ?_ ?_|apply Wcz ?_|apply Vbq ?_|apply Ua (c:=ow) (h:=?_)|apply Ub (c:=iv) (h:=?_)|apply Ub (c:=ic) (h:=?_)|refine jbd rfl (fun hc=>?_) (fun hc=>?_))
   all_goals first|(exfalso;omega)|(exfalso;simp at *;done)|skip
   all_goals refine Rat ?_
   all_goals rfl
  ·rw [if_neg h60] at he;have hl:=cmd_len hc;obtain ⟨k,rfl⟩:=Int.eq_ofNat_of_zero_le c60.2;obtain ⟨⟨⟨nx,ny,nwh,nll,npl,nev,ncc,nss,nnu,nco⟩,nrep⟩,hN⟩:∃ z,exeH ⟨(X:Int),(Y:Int),wh,bll,pl,(E:Int),cc,ss,nu,co⟩ line=z:=⟨_,rfl⟩;rw [hN] at he;dsimp only at he;have ex:=executed_t X Y wh bll pl E cc ss nu co hB line Kf nx ny nwh nll npl nev ncc nss nnu nco nrep hN;unfold appR at he;clear hN hv;cases hr:recB line nrep with
   | true =>
    have ap:=AppendRecord_p d p k line nrep hbd hV hr Kf;rw [hr,if_pos rfl] at he;simp only [Prod.mk.injEq,HD.mk.injEq,Int.toNat_natCast] at he;obtain ⟨⟨rfl,rfl,rfl,rfl,rfl,rfl,rfl,rfl,rfl,rfl⟩,⟨rfl,rfl⟩,rfl⟩:=he;refine jao Tryz.func23 fun _=>?_;repeat' (first|(with_reducible apply jeq)|intro Y hY|((with_reducible apply jff);exact Yak;(·rfl);exact Ko;exact Ko)|((with_reducible apply jfg);(·rfl);exact Yai;exact Ybe;exact Yak)|refine jdr ?_ ?_|(refine jaa (.call ⟨.value (.func 52),_,_⟩) ?_;((apply jgx (fid:=52);exact Ybn;exact Ybr;(·exact ex);(·rfl);(·rfl);(·rfl))))|refine jcv 1 (fun i=>i == 2 || i == 7) (IT.lt (.step 7 false .nil) fun Y2=>(IT.lt (.step 6 false (IT.ref false [1,2,4,6,16] [2,4,3013,4013,6013,7013,8013,6] Y2)) fun Y1=>(IT.lt (.step 2 false (.step 5 true (IT.ref false [1,2,4,6,16] [2,4,3013,4013,6013,7013,8013,6] Y2))) fun Y0=>(.step 0 true (.step 1 true (.step 3 true (.alt 1 (.step 2 false (.step 4 true (.step 5 true (IT.ref true [1,2,4,6,16] [2,4,3013,4013,6013,7013,8013,6] Y1)))) (.alt 1 (.step 4 false (.alt 1 (.step 2 false (.step 5 true (IT.ref false [1,2,4,6,16] [2,4,3013,4013,6013,7013,8013,6] Y1))) (.step 6 false (IT.ref true [1,2,4,6,12,15] [2,4,3013,4013,6013,7013,8013,6] Y0)))) (.step 6 false (.alt 1 (.step 2 false (.step 4 true (.step 5 true (IT.ref true [1,2,4,6,16] [2,4,3013,4013,6013,7013,8013,6] Y2)))) (.step 4 false (IT.ref false [1,2,4,6,12,15] [2,4,3013,4013,6013,7013,8013,6] Y0)))))))))))) ?_|apply Vbq ?_|apply Ua (c:=ow) (h:=?_)|apply Ub (c:=iv) (h:=?_)|apply Ub (c:=ic) (h:=?_)|apply Ub (c:=ap) (h:=?_)|refine jbd rfl (fun hc=>?_) (fun hc=>?_))
    all_goals first|(exfalso;omega)|(exfalso;simp at *;done)|skip
    all_goals refine Rat ?_
    all_goals rfl
   | false =>
    have ap:=joe d p k line nrep hbd (by rw [hr];simp);rw [hr,if_neg Yby] at he;simp only [Prod.mk.injEq,HD.mk.injEq] at he;obtain ⟨⟨rfl,rfl,rfl,rfl,rfl,rfl,rfl,rfl,rfl,rfl⟩,⟨rfl,rfl⟩,rfl⟩:=he;refine jao Tryz.func23 fun _=>?_;repeat' (first|(with_reducible apply jeq)|intro Y hY|((with_reducible apply jff);exact Yak;(·rfl);exact Ko;exact Ko)|((with_reducible apply jfg);(·rfl);exact Yai;exact Ybe;exact Yak)|refine jdr ?_ ?_|(refine jaa (.call ⟨.value (.func 52),_,_⟩) ?_;((apply jgx (fid:=52);exact Ybn;exact Ybr;(·exact ex);(·rfl);(·rfl);(·rfl))))|refine jcv 1 (fun i=>i == 2 || i == 7) (IT.lt (.step 7 false .nil) fun Y2=>(IT.lt (.step 6 false (IT.ref false [1,2,4,6,16] [2,4,3013,4013,6013,7013,8013,6] Y2)) fun Y1=>(IT.lt (.step 2 false (.step 5 true (IT.ref false [1,2,4,6,16] [2,4,3013,4013,6013,7013,8013,6] Y2))) fun Y0=>(.step 0 true (.step 1 true (.step 3 true (.alt 1 (.step 2 false (.step 4 true (.step 5 true (IT.ref true [1,2,4,6,16] [2,4,3013,4013,6013,7013,8013,6] Y1)))) (.alt 1 (.step 4 false (.alt 1 (.step 2 false (.step 5 true (IT.ref false [1,2,4,6,16] [2,4,3013,4013,6013,7013,8013,6] Y1))) (.step 6 false (IT.ref true [1,2,4,6,12,15] [2,4,3013,4013,6013,7013,8013,6] Y0)))) (.step 6 false (.alt 1 (.step 2 false (.step 4 true (.step 5 true (IT.ref true [1,2,4,6,16] [2,4,3013,4013,6013,7013,8013,6] Y2)))) (.step 4 false (IT.ref false [1,2,4,6,12,15] [2,4,3013,4013,6013,7013,8013,6] Y0)))))))))))) ?_|apply Vbq ?_|apply Ua (c:=ow) (h:=?_)|apply Ub (c:=iv) (h:=?_)|apply Ub (c:=ic) (h:=?_)|apply Ub (c:=ap) (h:=?_)|refine jbd rfl (fun hc=>?_) (fun hc=>?_))
    all_goals first|(exfalso;omega)|(exfalso;simp at *;done)|skip
    all_goals refine Rat ?_
    all_goals rfl
def repD (rp:Nat->Tx) (n:Nat):List D:=(List.range n).map fun i=>dT (rp i)
theorem repD_zero (rp:Nat->Tx):repD rp 0=[]:=rfl
theorem repD_succ (rp:Nat->Tx) (n:Nat):repD rp (n+1)=repD rp n++[dT (rp n)]:=by simp [repD,List.range_succ]
@[simp] theorem repD_len (rp : Nat -> Tx) (n : Nat) : (repD rp n).length = n := by simp [repD]
def rplL (rp:Nat->Tx) (n:Nat):List Tx:=(List.range n).map rp
@[simp] theorem rplL_len (rp : Nat -> Tx) (n : Nat) : (rplL rp n).length = n := by simp [rplL]
theorem repD_all (rp:Nat->Tx) (n:Nat):D.sl 1 n (repD rp n)=eT (rplL rp n):=by
 unfold eT;rw [rplL_len];simp [repD,rplL]
def scrB (text:Tx):Bool:=decide (text.length<=4000)&&decide ((splitT 10 text).length<=30)
theorem ExecuteCommandI_p (bx by_ bwh:Int) (bll:List (List Int)) (pl:List Int) (ev:Int) (cc:List (List Int)) (ss nu:List Int) (co:Int) (d p:Tx) (c:Int) (line:Tx) (hB:hallB bx by_ bwh bll pl ev cc ss nu co=true) (hV:validB d p c=true)
  (rx ry rwh:Int) (rll:List (List Int)) (rpl:List Int) (rev:Int) (rcc:List (List Int)) (rss rnu:List Int) (rco:Int) (rp:Tx) (rc:Int) (rep:Tx) (he:exeC ⟨bx,by_,bwh,bll,pl,ev,cc,ss,nu,co⟩ d p c line=(⟨rx,ry,rwh,rll,rpl,rev,rcc,rss,rnu,rco⟩,(rp,rc),rep)) :
  PC Tryz.prog 23 [.g [dI bx,dI by_,dI bwh,eII bll,eI pl,dI ev,eII cc,eI ss,eI nu,dI co,dT d,dT p,dI c],.c (dT line)] (.t [.g [dI rx,dI ry,dI rwh,eII rll,eI rpl,dI rev,eII rcc,eI rss,eI rnu,dI rco,dT d,dT rp,dI rc],.c (dT rep)]):=by
 obtain ⟨X,Y,rfl,rfl,-,-⟩:=jgg (jdu hB).box;have hev:=(jbv (jdu hB).sc).e0;obtain ⟨E,rfl⟩:=Int.eq_ofNat_of_zero_le hev;exact jlw X Y bwh bll pl E cc ss nu co d p c line hB hV rx ry rwh rll rpl rev rcc rss rnu rco rp rc rep he
theorem Vbs {G G':Prop} (h:G') (t:Laa G'->G:=by intro h;first|(first|apply zbr h.o|exact Wby h.o|apply zce h.o|exact Wbh h.o|exact Wbi h.o|exact jac h.o|exact Maa h.o|exact Wbe h.o|apply zcc h.o|exact Way h.o|exact Wbz h.o|exact Wct h.o|exact Wcb h.o|fail);done|fail):G:=t ⟨h⟩
theorem RunScript_no (bx by_ bwh:Int) (bll:List (List Int)) (pl:List Int) (ev:Int) (cc:List (List Int)) (ss nu:List Int) (co:Int) (d p:Tx) (c:Int) (text:Tx) (hl:text.length<=4000000) (hbd:(d.length:Int)+p.length<=1000000000) (hN:((hallB bx by_ bwh bll pl ev cc ss nu co&&validB d p c)&&scrB text)=false) :
  PC Tryz.prog 9 [.g [dI bx,dI by_,dI bwh,eII bll,eI pl,dI ev,eII cc,eI ss,eI nu,dI co,dT d,dT p,dI c],.c (dT text)] (.t [.c (eT []),.c (dB false)]):=by
 have iv:=IsValidConsole_p bx by_ bwh bll pl ev cc ss nu co d p c hbd;have sq:=split_p text 10 Kf;unfold scrB at hN;generalize (hallB bx by_ bwh bll pl ev cc ss nu co&&validB d p c)=Q at *;generalize splitT 10 text=ws at *;cases Q with
 | false =>
  refine jao Tryz.func9 fun _=>?_;repeat' (first|refine Vbs ?_|apply Ub (c:=sq) (h:=?_)|apply Ub (c:=iv) (h:=?_)|exact Qab|fail)
  all_goals (apply jat;apply jau;exact Yap)
  all_goals rfl
 | true =>
  rw [Bool.true_and,Bool.and_eq_false_iff,decide_eq_false_iff_not,decide_eq_false_iff_not] at hN;refine jao Tryz.func9 fun _=>?_;repeat' (first|refine Vbs ?_|apply Ub (c:=sq) (h:=?_)|apply Ub (c:=iv) (h:=?_)|refine jcc rfl rfl (fun hg=>?_) (fun hg=>?_)|refine jbd rfl (fun hc=>?_) (fun hc=>?_))
  all_goals first|(exfalso;omega)|(exfalso;simp at *;done)|skip
  all_goals (apply jat;apply jau;exact Yap)
  all_goals rfl
theorem RunScript_p (bx by_ bwh:Int) (bll:List (List Int)) (pl:List Int) (ev:Int) (cc:List (List Int)) (ss nu:List Int) (co:Int) (d p:Tx) (c:Int) (text:Tx) (hB:hallB bx by_ bwh bll pl ev cc ss nu co=true) (hV:validB d p c=true) (hS:scrB text=true) :
  PC Tryz.prog 9 [.g [dI bx,dI by_,dI bwh,eII bll,eI pl,dI ev,eII cc,eI ss,eI nu,dI co,dT d,dT p,dI c],.c (dT text)] (.t [.c (eT (rplL (replyS d (⟨bx,by_,bwh,bll,pl,ev,cc,ss,nu,co⟩,(p,c)) (splitT 10 text)) (splitT 10 text).length)),.c (dB true)]):=by
 have hv:=validB_p hV;have hbd:(d.length:Int)+p.length<=1000000000:=by have:=hv.len;omega
 have iv:=IsValidConsole_p bx by_ bwh bll pl ev cc ss nu co d p c hbd;rw [hB,hV] at iv;simp only [scrB,Bool.and_eq_true,decide_eq_true_eq] at hS;obtain ⟨hS1,hS2⟩:=hS;have sq:=split_p text 10 Kf;obtain ⟨fx,fy,fw,fl,fq,fe,fc,fs,fn,fo,fp,fk,h0,hF⟩:=jjo bx by_ bwh bll pl ev cc ss nu co d p c (splitT 10 text) hB hV;obtain ⟨e1,e2,e3,e4,e5,e6,e7,e8,e9,e10,e11,e12⟩:=h0;generalize replyS d (⟨bx,by_,bwh,bll,pl,ev,cc,ss,nu,co⟩,(p,c)) (splitT 10 text)=rp at *;generalize splitT 10 text=ws at *;have dz:=repD_zero rp;have ds:=repD_succ rp;rw [<- repD_all rp ws.length];clear hv;refine jao Tryz.func9 fun _=>?_;repeat' (first|refine Vbs ?_|apply Ub (c:=sq) (h:=?_)|apply Ub (c:=iv) (h:=?_)|refine jcc rfl rfl (fun hg=>?_) (fun hg=>?_)|refine jbd rfl (fun hc=>?_) (fun hc=>?_)|exact Qab|fail)
 apply jbe [2,7,27,28,29] [2,12,26,41,42,3036,4036,6036,7036,8036] rfl;exact Kk;exact Ybe;refine jbf [2,27,28] [12,3036,4036,6036,7036,8036,41,42] (fun i=>[(29,iN i),(7,.c (.ls 26 1 0 i))]) (fun i=>[(2,.box [.d (dI (fx i)),.d (dI (fy i)),.d (dI (fw i)),.d (eII (fl i)),.d (eI (fq i)),.d (dI (fe i)),.d (eII (fc i)),.d (eI (fs i)),.d (eI (fn i)),.d (dI (fo i)),.d (dT d),.d (dT (fp i)),.d (dI (fk i))]),(26,.row 1 (repD rp i))]) (fun i=>i<=ws.length) (fun i=>ws.length - i) (0) ?_ Kg (by (repeat(first|exact trivial|refine ⟨(by (first|(refine jbs rfl ?_;simp  [e1,e2,e3,e4,e5,e6,e7,e8,e9,e10,e11,e12,dz];done)|(refine jdn rfl ?_;simp  [e1,e2,e3,e4,e5,e6,e7,e8,e9,e10,e11,e12,dz];done))),?_⟩))) ?_
 ·omega
 intro i hi;have rl:=repD_len rp i;by_cases h:i < ws.length
 ·obtain ⟨hB2,hV2,hE⟩:=hF i;have dsi:=ds i;have ex:=ExecuteCommandI_p _ _ _ _ _ _ _ _ _ _ d _ _ _ hB2 hV2 _ _ _ _ _ _ _ _ _ _ _ _ _ hE;clear hF hB2 hV2 hE ds;repeat' (first|refine Vbs ?_|apply Ub (c:=ex) (h:=?_)|refine jbd rfl (fun hc=>?_) (fun hc=>?_)|exact Qaa|fail)
  refine bkL (i+1) ?_ ?_ (hB:=(by (repeat(first|exact trivial|refine ⟨(by (first|(refine jbs rfl ?_;simp  [dsi];done)|rfl)),?_⟩))))
  ·omega
  ·omega
 ·obtain rfl:i=ws.length:=by omega
  clear hF;repeat' (first|refine Vbs ?_|refine jbd rfl (fun hc=>?_) (fun hc=>?_)|exact Qaa|exact Rcd|fail)
end
end Go.Proofs.YtbhbkbnlpackdaaGreatDoor
