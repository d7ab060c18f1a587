/- What the functions that FnExactRunScript and FnExactReplayLog and FnExactExecuteCommand reaches return: part of its proof. No condition beyond those of its theorems. -/
import Derived.Test.YtbhbkbnlpackdaaGreatDoorKfnsB
import Derived.Test.YtbhbkbnlpackdaaGreatDoorKfnsA
import Derived.Test.YtbhbkbnlpackdaaGreatDoorKplainC
import Derived.Test.YtbhbkbnlpackdaaGreatDoorKfnsE
import Derived.Test.YtbhbkbnlpackdaaGreatDoorKplainA
import Derived.Test.YtbhbkbnlpackdaaGreatDoorKplainB
import Derived.Test.YtbhbkbnlpackdaaGreatDoorKfnsF
import Derived.Test.YtbhbkbnlpackdaaGreatDoorKfnsD
import Derived.WalkKit
set_option linter.unusedSectionVars false
set_option maxRecDepth 10000
set_option maxHeartbeats 4000000
set_option linter.unusedVariables false
set_option linter.unusedSimpArgs false
namespace Go.Proofs.YtbhbkbnlpackdaaGreatDoor
open Go.RowKit
section
variable [Glb]
abbrev csH (h:HD):List D:=[dI h.bx,dI h.by_,dI h.bwh,eII h.bll,eI h.pl,dI h.ev,eII h.cc,eI h.ss,eI h.nu,dI h.co]
def MK (P:Program) (F:FuncId) (h:HD) (k a:Int):Prop:=match callT h k a with
 | some h'=>PT P F [.g (csH h),.g [dI k,dI a]] (.t [.g (csH h'),.c (dB true)])
 | none => ∃ h':HD,PT P F [.g (csH h),.g [dI k,dI a]] (.t [.g (csH h'),.c (dB false)])
theorem jif {P:Program} {F:FuncId} {h:HD} {k a:Int} (h':HD) (e:callT h k a=some h') (t:PT P F [.g (csH h),.g [dI k,dI a]] (.t [.g (csH h'),.c (dB true)])):MK P F h k a:=by
 unfold MK; rw [e]; exact t
theorem jhd {P:Program} {F:FuncId} {h:HD} {k a:Int} (h':HD) (e:callT h k a=none) (t:PT P F [.g (csH h),.g [dI k,dI a]] (.t [.g (csH h'),.c (dB false)])):MK P F h k a:=by
 unfold MK;rw [e];exact ⟨h',t⟩
theorem l1OwnD_p (l:List Int) (m:Nat) (ds:List D) (h:l.length<=1000000) (hm:m=l.length) (hd:ds=cI l):PC Tryz.prog 67 [.c (.sl 1 m ds)] (.p (.c (eI l))):=by
 subst hm hd;exact l1Own_p l h
theorem Vae {G G':Prop} (h:G') (t:Laa G'->G:=by intro h;first|(first|apply zbm h.o|exact Wby h.o|exact Wbi h.o|exact jac h.o|exact Maa h.o|exact Wbc h.o|exact Wbw h.o|apply zed h.o|apply zee h.o|exact Wbx h.o|exact Wag h.o|exact Wam h.o|apply zbo h.o|apply zbs h.o|exact Waq h.o|exact War h.o|exact Wah h.o|fail);done|fail):G:=t ⟨h⟩
theorem box1_t (bx by_ bwh:Int) (bll:List (List Int)) (pl:List Int) (ev:Int) (cc:List (List Int)) (ss nu:List Int) (co:Int) (a:Int) (hb:boxB bx by_ bwh bll=true) (hp:bitsB pl (bx+by_)=true) (hs:sceneB ev cc ss=true) (hu:bitsB nu ev=true):MK Tryz.prog 215 ⟨bx,by_,bwh,bll,pl,ev,cc,ss,nu,co⟩ 1 a:=by
 have hl:=jce hp;have hn:=jce hu;have b:=jbo hb;have x1:=b.x1;have y1:=b.y1;have x3:=b.x3;have y3:=b.y3;have n1:=b.n1;have n2:=b.n2;have s:=jbv hs;have e0:=s.e0;have e12:=s.e12;have hbl:=b.len;have hm:=jds (jct.2 ⟨⟨x1,x3⟩,y1,y3⟩);clear b s;have hP:=spPlayBox_p bx by_ pl a;have hM:=spMixBoxes_p bx by_ bwh bll bx by_ a (playL pl bx by_ a);cases h1:playB bx by_ pl a with
 | false =>
  rw [h1] at hP;refine jhd ⟨bx,by_,bwh,bll,pl,ev,cc,ss,nu,co⟩ (by simp [callT,mixOK,h1]) ?_;simp only [csH];refine jdt Tryz.func215 fun _=>?_;repeat' (first|refine Vae ?_|apply Ub (c:=hP) (h:=?_)|exact Qab|fail)
  all_goals refine Rai ?_
  all_goals first|rfl|(simp_all;done)
 | true =>
  rw [h1] at hP;cases h2:bmixB bx by_ bwh bll bx by_ a (playL pl bx by_ a) with
  | false =>
   rw [h2] at hM;refine jhd ⟨0,0,0,[],pl,ev,cc,ss,nu,co⟩ (by simp [callT,mixOK,h1,h2]) ?_;simp only [csH];refine jdt Tryz.func215 fun _=>?_;repeat' (first|refine Vae ?_|apply Ub (c:=hP) (h:=?_)|apply Ua (c:=hM) (h:=?_)|exact Qab|fail)
   all_goals refine Rai ?_
   all_goals first|rfl|(simp_all;done)
  | true =>
   rw [h2] at hM;refine jif ⟨bx,by_,bwh+a,bmixL bll (playL pl bx by_ a) bx by_,pl,ev,cc,ss,nu,co⟩ (by simp [callT,mixOK,h1,h2]) ?_;simp only [csH];refine jdt Tryz.func215 fun _=>?_;repeat' (first|refine Vae ?_|apply Ub (c:=hP) (h:=?_)|apply Ua (c:=hM) (h:=?_)|exact Qab|fail)
   all_goals refine Rai ?_
   all_goals first|rfl|(simp_all;done)
theorem box3_t (bx by_ bwh:Int) (bll:List (List Int)) (pl:List Int) (ev:Int) (cc:List (List Int)) (ss nu:List Int) (co:Int) (a:Int) (hb:boxB bx by_ bwh bll=true) (hp:bitsB pl (bx+by_)=true) (hs:sceneB ev cc ss=true) (hu:bitsB nu ev=true):MK Tryz.prog 215 ⟨bx,by_,bwh,bll,pl,ev,cc,ss,nu,co⟩ 3 a:=by
 have hl:=jce hp;have hn:=jce hu;have b:=jbo hb;have x1:=b.x1;have y1:=b.y1;have x3:=b.x3;have y3:=b.y3;have n1:=b.n1;have n2:=b.n2;have s:=jbv hs;have e0:=s.e0;have e12:=s.e12;have hbl:=b.len;have hm:=jds (jct.2 ⟨⟨x1,x3⟩,y1,y3⟩);clear b s;cases hA:inB a 0 (pl.length - 1) with
 | false =>
  refine jhd ⟨bx,by_,bwh,bll,pl,ev,cc,ss,nu,co⟩ (by simp [callT,hA]) ?_;simp only [csH];refine jdt Tryz.func215 fun _=>?_;repeat' (first|refine jav 12 (fun i=>i == 13) [0,1,2,3,4,5,6,-8,-9,9,10,11,12,-14,14] ?_|refine Vae ?_|apply Ub (c:=l1In_p _ _ _) (h:=?_)|refine jcu rfl (fun hc=>?_) (fun hc=>?_)|exact Qab|fail)
  all_goals refine Rai ?_
  all_goals first|rfl|(simp_all;done)
 | true =>
  have h3:=jcx.1 hA;have h4:bitsB (oneL pl.length a) (bx+by_)=true:=by rw [<- hl];exact oneL_bits _ _
  have hO:=l12One_p pl.length a hA Kf;rw [Int.toNat_natCast] at hO;refine jif ⟨bx,by_,bwh,bflL bll bx by_ (oneL pl.length a),pl,ev,cc,ss,nu,co⟩ (by simp [callT,hA]) ?_;simp only [csH];refine jdt Tryz.func215 fun _=>?_;repeat' (first|refine jav 12 (fun i=>i == 13) [0,1,2,3,4,5,6,-8,-9,9,10,11,12,-14,14] ?_|refine Vae ?_|apply Ub (c:=l1In_p _ _ _) (h:=?_)|apply Ub (c:=hO) (h:=?_)|apply Ua (c:=FlipAnswers_p _ _ _ _ (oneL pl.length a) hb h4) (h:=?_)|refine jcu rfl (fun hc=>?_) (fun hc=>?_)|exact Qab|fail)
  all_goals refine Rai ?_
  all_goals first|rfl|(simp_all;done)
theorem box4_t (bx by_ bwh:Int) (bll:List (List Int)) (pl:List Int) (ev:Int) (cc:List (List Int)) (ss nu:List Int) (co:Int) (a:Int) (hb:boxB bx by_ bwh bll=true) (hp:bitsB pl (bx+by_)=true) (hs:sceneB ev cc ss=true) (hu:bitsB nu ev=true):MK Tryz.prog 215 ⟨bx,by_,bwh,bll,pl,ev,cc,ss,nu,co⟩ 4 a:=by
 have hl:=jce hp;have hn:=jce hu;have b:=jbo hb;have x1:=b.x1;have y1:=b.y1;have x3:=b.x3;have y3:=b.y3;have n1:=b.n1;have n2:=b.n2;have s:=jbv hs;have e0:=s.e0;have e12:=s.e12;have hbl:=b.len;have hm:=jds (jct.2 ⟨⟨x1,x3⟩,y1,y3⟩);clear b s;have hz:(partZ pl bx pl.length).length=pl.length - bx.toNat:=by rw [jph]
 have hz2:(partZ pl 0 bx).length=bx.toNat:=by rw [jdb];omega
 have hc:=fun m ds=>l1OwnD_p (partZ pl bx pl.length) m ds Kf;have hz3:List.take (bx.toNat*1) (List.drop 0 (cI pl))=cI (partZ pl 0 bx):=by simpa using jjz pl dI 0 bx
 have hz4:List.take bx.toNat (cI pl)=List.map dI (partZ pl 0 bx):=by simpa using hz3
 by_cases h0:a=0
 ·refine jif ⟨by_,bx,bwh,swapL bll bx by_,partZ pl bx pl.length++partZ pl 0 bx,ev,cc,ss,nu,co⟩ (by simp [callT,h0]) ?_;simp only [csH];refine jdt Tryz.func215 fun _=>?_;repeat' (first|(refine jaa (.call ⟨.value (.func 67),_,_⟩) ?_;(apply jbl (fid:=67);(·(repeat(first|exact SeA.nil|apply SeA.cons (.c (.row _ _ _ _ _ rfl Ybo)))));(·exact hc _ _ Kf (by simpa using jjz pl _ bx pl.length));(·rfl);(·rfl)))|refine jav 14 (fun i=>i == 13 || i == 15) [0,1,2,3,4,5,7,8,9,10,11,12,-7,-14,14,-16] ?_|refine Vae ?_|apply Ua (c:=SwapPlayers_p _ _ _ _ hb) (h:=?_)|exact Qab|fail)
  all_goals refine Raj ?_
  all_goals simp [hz4,hz2,hz,h0]
 ·refine jhd ⟨by_,bx,bwh,swapL bll bx by_,partZ pl bx pl.length++partZ pl 0 bx,ev,cc,ss,nu,co⟩ (by simp [callT,h0]) ?_;simp only [csH];refine jdt Tryz.func215 fun _=>?_;repeat' (first|(refine jaa (.call ⟨.value (.func 67),_,_⟩) ?_;(apply jbl (fid:=67);(·(repeat(first|exact SeA.nil|apply SeA.cons (.c (.row _ _ _ _ _ rfl Ybo)))));(·exact hc _ _ Kf (by simpa using jjz pl _ bx pl.length));(·rfl);(·rfl)))|refine jav 14 (fun i=>i == 13 || i == 15) [0,1,2,3,4,5,7,8,9,10,11,12,-7,-14,14,-16] ?_|refine Vae ?_|apply Ua (c:=SwapPlayers_p _ _ _ _ hb) (h:=?_)|exact Qab|fail)
  all_goals refine Raj ?_
  all_goals simp [hz4,hz2,hz,h0]
theorem box5_t (bx by_ bwh:Int) (bll:List (List Int)) (pl:List Int) (ev:Int) (cc:List (List Int)) (ss nu:List Int) (co:Int) (a:Int) (hb:boxB bx by_ bwh bll=true) (hp:bitsB pl (bx+by_)=true) (hs:sceneB ev cc ss=true) (hu:bitsB nu ev=true):MK Tryz.prog 215 ⟨bx,by_,bwh,bll,pl,ev,cc,ss,nu,co⟩ 5 a:=by
 have hl:=jce hp;have hn:=jce hu;have b:=jbo hb;have x1:=b.x1;have y1:=b.y1;have x3:=b.x3;have y3:=b.y3;have n1:=b.n1;have n2:=b.n2;have s:=jbv hs;have e0:=s.e0;have e12:=s.e12;have hbl:=b.len;have hm:=jds (jct.2 ⟨⟨x1,x3⟩,y1,y3⟩);clear b s;have hR:=spReduceBox_p _ _ _ _ hb;by_cases h0:a=0
 ·refine jif ⟨bx,by_,bwh / gcdL bwh bll,redL bll bx by_ (gcdL bwh bll),pl,ev,cc,ss,nu,co⟩ (by simp [callT,h0]) ?_;simp only [csH];refine jdt Tryz.func215 fun _=>?_;repeat' (first|refine Vae ?_|apply Ua (c:=hR) (h:=?_)|exact Qab|fail)
  all_goals refine Rai ?_
  all_goals first|rfl|(simp_all;done)
 ·refine jhd ⟨bx,by_,bwh / gcdL bwh bll,redL bll bx by_ (gcdL bwh bll),pl,ev,cc,ss,nu,co⟩ (by simp [callT,h0]) ?_;simp only [csH];refine jdt Tryz.func215 fun _=>?_;repeat' (first|refine Vae ?_|apply Ua (c:=hR) (h:=?_)|exact Qab|fail)
  all_goals refine Rai ?_
  all_goals first|rfl|(simp_all;done)
theorem boxO_t (bx by_ bwh:Int) (bll:List (List Int)) (pl:List Int) (ev:Int) (cc:List (List Int)) (ss nu:List Int) (co:Int) (a:Int) (k:Int) (hk:¬ (k=1∨k=2∨k=3∨k=4∨k=5∨k=6∨k=7)) (hb:boxB bx by_ bwh bll=true) (hp:bitsB pl (bx+by_)=true) (hs:sceneB ev cc ss=true) (hu:bitsB nu ev=true):MK Tryz.prog 215 ⟨bx,by_,bwh,bll,pl,ev,cc,ss,nu,co⟩ k a:=by
 have hl:=jce hp;have hn:=jce hu;have b:=jbo hb;have x1:=b.x1;have y1:=b.y1;have x3:=b.x3;have y3:=b.y3;have n1:=b.n1;have n2:=b.n2;have s:=jbv hs;have e0:=s.e0;have e12:=s.e12;have hbl:=b.len;have hm:=jds (jct.2 ⟨⟨x1,x3⟩,y1,y3⟩);clear b s
 ·refine jhd ⟨bx,by_,bwh,bll,pl,ev,cc,ss,nu,co⟩ Yaz ?_;simp only [csH];refine jdt Tryz.func215 fun _=>?_;repeat' (first|refine jav 14 (fun i=>i == 13 || i == 15) [0,1,2,3,4,5,7,8,9,10,11,12,-7,-14,14,-16] ?_|refine Vae ?_|refine jbd rfl (fun hc=>?_) (fun hc=>?_)|exact Qab|fail)
  all_goals refine Rai ?_
  all_goals first|rfl|(simp_all;done)
theorem Vaf {G G':Prop} (h:G') (t:Laa G'->G:=by intro h;first|(first|apply zbm h.o|apply zca h.o|exact Wby h.o|exact jac h.o|exact Maa h.o|exact Wbc h.o|exact Wbw h.o|exact Wab h.o|exact Wak h.o|apply zbo h.o|apply zbs h.o|exact Waq h.o|apply zcn h.o|exact War h.o|exact Wan h.o|fail);done|fail):G:=t ⟨h⟩
theorem make2_t (bx by_ bwh:Int) (bll:List (List Int)) (pl:List Int) (ev:Int) (cc:List (List Int)) (ss nu:List Int) (co:Int) (a:Int) (hb:boxB bx by_ bwh bll=true) (hp:bitsB pl (bx+by_)=true) (hs:sceneB ev cc ss=true) (hu:bitsB nu ev=true):MK Tryz.prog 157 ⟨bx,by_,bwh,bll,pl,ev,cc,ss,nu,co⟩ 2 a:=by
 have hl:=jce hp;have hn:=jce hu;have b:=jbo hb;have x1:=b.x1;have y1:=b.y1;have x3:=b.x3;have y3:=b.y3;have n1:=b.n1;have n2:=b.n2;have s:=jbv hs;have e0:=s.e0;have e12:=s.e12;have hbl:=b.len;have hm:=jds (jct.2 ⟨⟨x1,x3⟩,y1,y3⟩);clear b s;have hat:∀ h:inB a 0 (pl.length - 1)=true,0<=atZ pl a/\atZ pl a<=1:=fun h=>jdd hp (by have:=jcx.1 h;omega) (by have:=jcx.1 h;omega);cases hA:inB a 0 (pl.length - 1) with
 | false =>
  refine jhd ⟨bx,by_,bwh,bll,pl,ev,cc,ss,nu,co⟩ (by simp [callT,hA]) ?_;simp only [csH];refine jdt Tryz.func157 fun _=>?_;repeat' (first|refine jav 5 (fun i=>i == 12) [0,1,2,3,4,5,6,7,8,9,10,11,-13] ?_|refine Vaf ?_|apply Ub (c:=l1In_p _ _ _) (h:=?_)|refine jcu rfl (fun hc=>?_) (fun hc=>?_)|exact Qab|fail)
  all_goals refine Rai ?_
  all_goals first|rfl|(simp_all;done)
 | true =>
  have h2:=hat hA;have h3:=jcx.1 hA;refine jif ⟨bx,by_,bwh,bll,pl.set a.toNat (1 - atZ pl a),ev,cc,ss,nu,co⟩ (by simp [callT,hA]) ?_;simp only [csH];refine jdt Tryz.func157 fun _=>?_;repeat' (first|(refine jaa (.load 3 _) ?_;(first|refine jab (jag rfl rfl Kb rfl) rfl ?_|refine jab (jdi rfl rfl Kb Kf Kf) rfl ?_))|refine jav 5 (fun i=>i == 12) [0,1,2,3,4,5,6,7,8,9,10,11,-13] ?_|refine Vaf ?_|apply Ub (c:=l1In_p _ _ _) (h:=?_)|refine jcu rfl (fun hc=>?_) (fun hc=>?_)|exact Qab|fail)
  all_goals refine Rai ?_
  all_goals simp_all [List.map_set]
theorem make6_t (bx by_ bwh:Int) (bll:List (List Int)) (pl:List Int) (ev:Int) (cc:List (List Int)) (ss nu:List Int) (co:Int) (a:Int) (hb:boxB bx by_ bwh bll=true) (hp:bitsB pl (bx+by_)=true) (hs:sceneB ev cc ss=true) (hu:bitsB nu ev=true):MK Tryz.prog 157 ⟨bx,by_,bwh,bll,pl,ev,cc,ss,nu,co⟩ 6 a:=by
 have hl:=jce hp;have hn:=jce hu;have b:=jbo hb;have x1:=b.x1;have y1:=b.y1;have x3:=b.x3;have y3:=b.y3;have n1:=b.n1;have n2:=b.n2;have s:=jbv hs;have e0:=s.e0;have e12:=s.e12;have hbl:=b.len;have hm:=jds (jct.2 ⟨⟨x1,x3⟩,y1,y3⟩);clear b s;have hat:∀ h:inB a 0 (nu.length - 1)=true,0<=atZ nu a/\atZ nu a<=1:=fun h=>jdd hu (by have:=jcx.1 h;omega) (by have:=jcx.1 h;omega);cases hA:inB a 0 (nu.length - 1) with
 | false =>
  refine jhd ⟨bx,by_,bwh,bll,pl,ev,cc,ss,nu,co⟩ (by simp [callT,hA]) ?_;simp only [csH];refine jdt Tryz.func157 fun _=>?_;repeat' (first|refine jav 10 (fun i=>i == 12) [0,1,2,3,4,5,6,7,8,9,10,11,-13] ?_|refine Vaf ?_|apply Ub (c:=l1In_p _ _ _) (h:=?_)|refine jcu rfl (fun hc=>?_) (fun hc=>?_)|exact Qab|fail)
  all_goals refine Rai ?_
  all_goals first|rfl|(simp_all;done)
 | true =>
  have h2:=hat hA;have h3:=jcx.1 hA;refine jif ⟨bx,by_,bwh,bll,pl,ev,cc,ss,nu.set a.toNat (1 - atZ nu a),co⟩ (by simp [callT,hA]) ?_;simp only [csH];refine jdt Tryz.func157 fun _=>?_;repeat' (first|(refine jaa (.load 3 _) ?_;(first|refine jab (jag rfl rfl Kb rfl) rfl ?_|refine jab (jdi rfl rfl Kb Kf Kf) rfl ?_))|refine jav 10 (fun i=>i == 12) [0,1,2,3,4,5,6,7,8,9,10,11,-13] ?_|refine Vaf ?_|apply Ub (c:=l1In_p _ _ _) (h:=?_)|refine jcu rfl (fun hc=>?_) (fun hc=>?_)|exact Qab|fail)
  all_goals refine Rai ?_
  all_goals simp_all [List.map_set]
theorem make7_t (bx by_ bwh:Int) (bll:List (List Int)) (pl:List Int) (ev:Int) (cc:List (List Int)) (ss nu:List Int) (co:Int) (a:Int) (hb:boxB bx by_ bwh bll=true) (hp:bitsB pl (bx+by_)=true) (hs:sceneB ev cc ss=true) (hu:bitsB nu ev=true):MK Tryz.prog 157 ⟨bx,by_,bwh,bll,pl,ev,cc,ss,nu,co⟩ 7 a:=by
 have hl:=jce hp;have hn:=jce hu;have b:=jbo hb;have x1:=b.x1;have y1:=b.y1;have x3:=b.x3;have y3:=b.y3;have n1:=b.n1;have n2:=b.n2;have s:=jbv hs;have e0:=s.e0;have e12:=s.e12;have hbl:=b.len;have hm:=jds (jct.2 ⟨⟨x1,x3⟩,y1,y3⟩);clear b s;cases hA:inB a 0 (ev - 1) with
 | false =>
  refine jhd ⟨bx,by_,bwh,bll,pl,0,[],[],nu,co⟩ (by simp [callT,hA]) ?_;simp only [csH];refine jdt Tryz.func157 fun _=>?_;repeat' (first|refine Vaf ?_|apply Ua (c:=joi _ _ _ _ Ybp) (h:=?_)|exact Qab|fail)
  all_goals refine Rai ?_
  all_goals first|rfl|(simp_all;done)
 | true =>
  refine jif ⟨bx,by_,bwh,bll,pl,ev,cc,evL cc ss a,nu,co⟩ (by simp [callT,hA]) ?_;simp only [csH];refine jdt Tryz.func157 fun _=>?_;repeat' (first|refine Vaf ?_|apply Ua (c:=spFlipEvent_p _ _ _ _ hs hA) (h:=?_)|exact Qab|fail)
  all_goals refine Rai ?_
  all_goals first|rfl|(simp_all;done)
theorem jnk (bx by_ bwh:Int) (bll:List (List Int)) (pl:List Int) (ev:Int) (cc:List (List Int)) (ss nu:List Int) (co:Int) (a:Int) (k:Int) (hk:¬ (k=2∨k=6∨k=7)) (hM:MK Tryz.prog 215 ⟨bx,by_,bwh,bll,pl,ev,cc,ss,nu,co⟩ k a) (hb:boxB bx by_ bwh bll=true) (hp:bitsB pl (bx+by_)=true) (hs:sceneB ev cc ss=true) (hu:bitsB nu ev=true):MK Tryz.prog 157 ⟨bx,by_,bwh,bll,pl,ev,cc,ss,nu,co⟩ k a:=by
 have hl:=jce hp;have hn:=jce hu;have b:=jbo hb;have x1:=b.x1;have y1:=b.y1;have x3:=b.x3;have y3:=b.y3;have n1:=b.n1;have n2:=b.n2;have s:=jbv hs;have e0:=s.e0;have e12:=s.e12;have hbl:=b.len;have hm:=jds (jct.2 ⟨⟨x1,x3⟩,y1,y3⟩);clear b s;unfold MK at hM;cases hc:callT ⟨bx,by_,bwh,bll,pl,ev,cc,ss,nu,co⟩ k a with
 | some h' =>
  obtain ⟨bx', by'', bwh', bll', pl', ev', cc', ss', nu', co'⟩ := h';rw [hc] at hM;simp only [csH] at hM;refine jif _ hc ?_;simp only [csH];refine jdt Tryz.func157 fun _=>?_;repeat' (first|(refine jaa (.call ⟨.value (.func 215),_,_⟩) ?_;(apply jgx (fid:=215);exact Ybq;exact Ybr;(·exact hM);(·rfl);(·rfl);(·rfl)))|refine Vaf ?_|refine jbd rfl (fun hc=>?_) (fun hc=>?_)|exact Qab|fail)
  all_goals refine Rai ?_
  all_goals first|rfl|(simp_all;done)
 | none =>
  rw [hc] at hM;obtain ⟨⟨bx', by'', bwh', bll', pl', ev', cc', ss', nu', co'⟩, hM⟩ := hM;simp only [csH] at hM;refine jhd ⟨bx', by'', bwh', bll', pl', ev', cc', ss', nu', co'⟩ hc ?_;simp only [csH];refine jdt Tryz.func157 fun _=>?_;repeat' (first|(refine jaa (.call ⟨.value (.func 215),_,_⟩) ?_;(apply jgx (fid:=215);exact Ybq;exact Ybr;(·exact hM);(·rfl);(·rfl);(·rfl)))|refine Vaf ?_|refine jbd rfl (fun hc=>?_) (fun hc=>?_)|exact Qab|fail)
  all_goals refine Rai ?_
  all_goals first|rfl|(simp_all;done)
theorem l12Make_t (bx by_ bwh:Int) (bll:List (List Int)) (pl:List Int) (ev:Int) (cc:List (List Int)) (ss nu:List Int) (co:Int) (a:Int) (k:Int) (hv:HV ⟨bx,by_,bwh,bll,pl,ev,cc,ss,nu,co⟩):MK Tryz.prog 157 ⟨bx,by_,bwh,bll,pl,ev,cc,ss,nu,co⟩ k a:=by
 obtain ⟨hb,hp,hs,hu⟩:=hv;by_cases hk:k=1∨k=2∨k=3∨k=4∨k=5∨k=6∨k=7
 ·rcases hk with rfl|rfl|rfl|rfl|rfl|rfl|rfl
  ·exact jnk bx by_ bwh bll pl ev cc ss nu co a 1 Ybr (box1_t bx by_ bwh bll pl ev cc ss nu co a hb hp hs hu) hb hp hs hu
  ·exact make2_t bx by_ bwh bll pl ev cc ss nu co a hb hp hs hu
  ·exact jnk bx by_ bwh bll pl ev cc ss nu co a 3 Ybr (box3_t bx by_ bwh bll pl ev cc ss nu co a hb hp hs hu) hb hp hs hu
  ·exact jnk bx by_ bwh bll pl ev cc ss nu co a 4 Ybr (box4_t bx by_ bwh bll pl ev cc ss nu co a hb hp hs hu) hb hp hs hu
  ·exact jnk bx by_ bwh bll pl ev cc ss nu co a 5 Ybr (box5_t bx by_ bwh bll pl ev cc ss nu co a hb hp hs hu) hb hp hs hu
  ·exact make6_t bx by_ bwh bll pl ev cc ss nu co a hb hp hs hu
  ·exact make7_t bx by_ bwh bll pl ev cc ss nu co a hb hp hs hu
 ·exact jnk bx by_ bwh bll pl ev cc ss nu co a k Kf (boxO_t bx by_ bwh bll pl ev cc ss nu co a k hk hb hp hs hu) hb hp hs hu
theorem Vah {G G':Prop} (h:G') (t:Laa G'->G:=by intro h;first|(first|exact Wby h.o|exact Wbh h.o|exact Wbi h.o|exact jac h.o|exact jcv 1 (fun i=>i == 1 || i == 3 || i == 8) (IT.lt (.step 8 false (.step 9 true .nil)) fun Y3=>(IT.lt (.step 3 false (.step 4 true (.step 5 true (.step 6 true (IT.ref false [2,4,6,7,13,14] [2,3,4,3010,4010,6010,7010,8010,3012,4012,6012,7012,8012,6] Y3))))) fun Y2=>(IT.lt (.alt 1 (.step 3 false (.step 4 true (.step 5 true (.step 6 true (.step 7 false (IT.ref true [2,4,6,7,13,14] [2,3,4,3010,4010,6010,7010,8010,3012,4012,6012,7012,8012,6] Y3)))))) (.step 7 false (IT.ref false [2,4,6,7,10,11] [2,3,4,3010,4010,6010,7010,8010,3012,4012,6012,7012,8012,6] Y2))) fun Y1=>(IT.lt (.step 1 false (IT.ref false [2,4,6,7,10,11] [2,3,4,3010,4010,6010,7010,8010,3012,4012,6012,7012,8012,6] Y2)) fun Y0=>(.step 0 true (.alt 1 (.step 1 false (.step 2 true (IT.ref true [2,4,6,7,10,11] [2,3,4,3010,4010,6010,7010,8010,3012,4012,6012,7012,8012,6] Y1))) (.alt 1 (.step 2 false (.alt 1 (.step 1 false (IT.ref false [2,4,6,7,10,11] [2,3,4,3010,4010,6010,7010,8010,3012,4012,6012,7012,8012,6] Y1)) (.step 7 false (IT.ref true [2,4,6,7,9,11] [2,3,4,3010,4010,6010,7010,8010,3012,4012,6012,7012,8012,6] Y0)))) (.step 7 false (.alt 1 (.step 1 false (.step 2 true (IT.ref true [2,4,6,7,10,11] [2,3,4,3010,4010,6010,7010,8010,3012,4012,6012,7012,8012,6] Y2))) (.step 2 false (IT.ref false [2,4,6,7,9,11] [2,3,4,3010,4010,6010,7010,8010,3012,4012,6012,7012,8012,6] Y0))))))))))) h.o|exact Maa h.o|exact Wbc h.o|exact Wbw h.o|exact Wad h.o|apply zdp h.o|exact Waq h.o|apply zcn h.o|exact War h.o|apply zde h.o|fail);done|fail):G:=t ⟨h⟩
theorem l12Do_p (bx by_ bwh:Int) (bll:List (List Int)) (pl:List Int) (ev:Int) (cc:List (List Int)) (ss nu:List Int) (co k a:Int) (rx ry rwh:Int) (rll:List (List Int)) (rpl:List Int) (rev:Int) (rcc:List (List Int)) (rss rnu:List Int) (rco:Int) (ok:Bool) (hB:hallB bx by_ bwh bll pl ev cc ss nu co=true) (hN:nextT ⟨bx,by_,bwh,bll,pl,ev,cc,ss,nu,co⟩ k a=(⟨rx,ry,rwh,rll,rpl,rev,rcc,rss,rnu,rco⟩,ok)):PC Tryz.prog 105 [.g [dI bx,dI by_,dI bwh,eII bll,eI pl,dI ev,eII cc,eI ss,eI nu,dI co],.g [dI k,dI a]] (.t [.g [dI rx,dI ry,dI rwh,eII rll,eI rpl,dI rev,eII rcc,eI rss,eI rnu,dI rco],.c (dB ok)]):=by
 have d:=jgk hB;have bl:=d.bl;have br:=d.br;have cl:=d.cl;have cr:=d.cr;have sl:=d.sl;have pl6:=d.pl6;have nl:=d.nl;have hco:=jcx.1 (jdu hB).co;have hM:=l12Make_t bx by_ bwh bll pl ev cc ss nu co a k (hallB_hv hB co);unfold MK at hM;cases hcT:callT ⟨bx,by_,bwh,bll,pl,ev,cc,ss,nu,co⟩ k a with
 | none =>
  rw [hcT] at hM;obtain ⟨⟨tx,ty,twh,tll,tpl,tev,tcc,tss,tnu,tco⟩,hM⟩:=hM;simp only [csH] at hM;simp only [nextT,hcT,zeroH,Prod.mk.injEq,HD.mk.injEq] at hN;obtain ⟨⟨rfl,rfl,rfl,rfl,rfl,rfl,rfl,rfl,rfl,rfl⟩,rfl⟩:=hN;refine jao Tryz.func105 fun _=>?_;repeat' (first|(with_reducible apply jeq)|intro Y hY|((with_reducible apply jff);exact Yak;(·rfl);exact Ko;exact Ko)|((with_reducible apply jfg);(·rfl);exact Yai;exact Ybe;exact Yak)|refine jdr ?_ ?_|(refine jaa (.call ⟨.value (.func 157),_,_⟩) ?_;(apply jgx (fid:=157);exact Ybq;exact Ybr;(·exact hM);(·rfl);(·rfl);(·rfl)))|apply Vah ?_|apply Ua (c:=l12Own_p _ _ _ _ _ _ _ _ _ _ Kf br Kf cr Kf Kf Kf) (h:=?_)|exact Qab|exact Rbi|fail)
 | some r =>
  obtain ⟨tx,ty,twh,tll,tpl,tev,tcc,tss,tnu,tco⟩:=r;rw [hcT] at hM;simp only [csH] at hM;simp only [nextT,hcT] at hN;cases hT:hallB tx ty twh tll tpl tev tcc tss tnu (co+1) with
  | false =>
   simp only [hT,Bool.false_eq_true,if_false,zeroH,Prod.mk.injEq,HD.mk.injEq] at hN;obtain ⟨⟨rfl,rfl,rfl,rfl,rfl,rfl,rfl,rfl,rfl,rfl⟩,rfl⟩:=hN;refine jao Tryz.func105 fun _=>?_;repeat' (first|(with_reducible apply jeq)|intro Y hY|((with_reducible apply jff);exact Yak;(·rfl);exact Ko;exact Ko)|((with_reducible apply jfg);(·rfl);exact Yai;exact Ybe;exact Yak)|refine jdr ?_ ?_|(refine jaa (.call ⟨.value (.func 157),_,_⟩) ?_;(apply jgx (fid:=157);exact Ybq;exact Ybr;(·exact hM);(·rfl);(·rfl);(·rfl)))|apply Vah ?_|apply Ua (c:=l12Own_p _ _ _ _ _ _ _ _ _ _ Kf br Kf cr Kf Kf Kf) (h:=?_)|apply Ub (c:=l12Good_p _ _ _ _ _ _ _ _ _ _) (h:=?_)|refine jcu rfl (fun hc=>?_) (fun hc=>?_)|exact Qab|exact Rbi|fail)
  | true =>
   simp only [hT,if_true,Prod.mk.injEq,HD.mk.injEq] at hN;obtain ⟨⟨rfl,rfl,rfl,rfl,rfl,rfl,rfl,rfl,rfl,rfl⟩,rfl⟩:=hN;have e:=jgk hT;have tbl:=e.bl;have tbr:=e.br;have tcl:=e.cl;have tcr:=e.cr;have tsl:=e.sl;have tpl6:=e.pl6;have tnl:=e.nl;refine jao Tryz.func105 fun _=>?_;repeat' (first|(with_reducible apply jeq)|intro Y hY|((with_reducible apply jff);exact Yak;(·rfl);exact Ko;exact Ko)|((with_reducible apply jfg);(·rfl);exact Yai;exact Ybe;exact Yak)|refine jdr ?_ ?_|(refine jaa (.call ⟨.value (.func 157),_,_⟩) ?_;(apply jgx (fid:=157);exact Ybq;exact Ybr;(·exact hM);(·rfl);(·rfl);(·rfl)))|apply Vah ?_|(first|apply Ua (d:=10) (c:=l12Own_p _ _ _ _ _ _ _ _ _ _ Kf br Kf cr Kf Kf Kf) (h:=?_)|apply Ua (d:=28) (c:=l12Own_p _ _ _ _ _ _ _ _ _ _ Kf tbr Kf tcr Kf Kf Kf) (h:=?_))|apply Ub (c:=l12Good_p _ _ _ _ _ _ _ _ _ _) (h:=?_)|refine jcu rfl (fun hc=>?_) (fun hc=>?_)|exact Qab|exact Rbk|fail)
end
section
variable [Glb]
variable [GTab Tryz.prog tabNm]
theorem decimals_p (l:List Int) (b:UInt8) (h:jgh l) (hl:l.length<=1000):PC Tryz.prog 249 [.c (eI l),.c (dT [b])] (.p (.c (dT (joinT b (l.map txtZ))))):=by
 have jp:=joinZ_p l b h hl;refine jao Tryz.func249 fun _=>?_;repeat' (first|refine jac ?_|refine Maa ?_|refine Wcb ?_|exact Qac|fail)
 apply jbe [1,5,9,10,11] [8,18,19] rfl;exact Kr;exact Yah;refine jbf [1,9,10] [18,19] (fun k=>[(11,iN k),(5,.c (.ls 8 1 0 k))]) (fun k=>[(8,.row 1 (txtD l k))]) (fun k=>k<=l.length) (fun k=>l.length - k) (0) ?_ Kg (by (repeat(first|exact trivial|refine ⟨(by ((refine jbs rfl ?_;simp  [txtD_zero];done))),?_⟩))) ?_
 ·omega
 intro k hk;have hlk:=txtD_len hk;by_cases h2:k < l.length
 ·have hs:=h.at h2;repeat' (first|refine jac ?_|refine Maa ?_|refine Wbz ?_|refine Wca ?_|apply Ub (c:=itoaZ_p (atZ l (k:Int)) hs) (h:=?_)|refine jbd rfl (fun hc=>?_) (fun hc=>?_)|exact Qab|fail)
  refine bkL (k+1) ?_ ?_ (hB:=(by (repeat(first|exact trivial|refine ⟨(by ((refine jbs rfl ?_;simp  [txtD_succ h2];done))),?_⟩))))
  ·omega
  ·omega
 ·obtain rfl:k=l.length:=by omega
  repeat' (first|refine jac ?_|refine Maa ?_|apply Ub (c:=jp) (h:=?_)|refine jbd rfl (fun hc=>?_) (fun hc=>?_)|exact Qab|exact Rav|fail)
def boxD (x y:Int) (ll:List (List Int)) (k:Nat):List D:=dT (txtZ x) :: dT (txtZ y) :: (ll.take k).map fun r=>dT (rowT r)
theorem boxD_zero (x y:Int) (ll:List (List Int)):boxD x y ll 0=[dT (txtZ x),dT (txtZ y)]:=rfl
theorem boxD_succ (x y:Int) {ll:List (List Int)} {k:Nat} (h:k < ll.length):boxD x y ll (k+1)=boxD x y ll k++[dT (rowT (atZ ll (k:Int)))]:=by
 unfold boxD;rw [List.take_succ_eq_append_getElem h,List.map_append,jby h];rfl
theorem boxD_len (x y:Int) {ll:List (List Int)} {k:Nat} (h:k<=ll.length):(boxD x y ll k).length=k+2:=by simp [boxD]; omega
theorem boxD_all (x y:Int) (ll:List (List Int)):boxD x y ll ll.length=(txtZ x :: txtZ y :: ll.map rowT).map dT:=by
 unfold boxD;rw [List.take_length,List.map_cons,List.map_cons,List.map_map];rfl
theorem jmf {x y n:Int} {ll:List (List Int)} (h:boxB x y n ll=true) {k:Nat} (hk:k < ll.length):(atZ ll (k:Int)).length=4/\jgh (atZ ll (k:Int)):=by
 have b:=jbo h;have n2:=b.n2;have r:=jfj (b.row k hk);rw [jby hk];refine ⟨r.1,fun v hv=>?_⟩;obtain ⟨j,hj,rfl⟩:=List.getElem_of_mem hv;have:=r.2 j hj;omega
theorem boxText_p (x y n:Int) (ll:List (List Int)) (h:boxB x y n ll=true):PC Tryz.prog 190 [.g [dI x,dI y,dI n,eII ll]] (.p (.c (dT (boxT x y ll)))):=by
 have b:=jbo h;have x1:=b.x1;have x3:=b.x3;have y1:=b.y1;have y3:=b.y3;have l9:ll.length<=9:=by
  have e:=b.len;clear b;rcases (by omega:x=1∨x=2∨x=3) with rfl|rfl|rfl <;> omega
 clear b;have jp:PC Tryz.prog 186 [.c (.sl 1 (ll.length+2) (boxD x y ll ll.length)),.c (dT [32])] (.p (.c (dT (boxT x y ll)))):=by
  have hb:=jic 32 (m:=32) (l:=txtZ x :: txtZ y :: ll.map rowT) fun t ht=>by
   rcases List.mem_cons.1 ht with rfl|ht
   ·have:=(jew (n:=x) Kf).2;omega
   rcases List.mem_cons.1 ht with rfl|ht
   ·have:=(jew (n:=y) Kf).2;omega
   obtain ⟨r,hr,rfl⟩:=List.mem_map.1 ht;obtain ⟨k,hk,rfl⟩:=List.getElem_of_mem hr;have:=jmf h hk;rw [jby hk] at this;exact rowT_len this.1 this.2
  have j:=join_p (txtZ x :: txtZ y :: ll.map rowT) 32 Ybw (by simp only [List.length_cons,List.length_map] at hb;omega);rw [boxD_all];have e:(txtZ x :: txtZ y :: ll.map rowT).length=ll.length+2:=by simp
  unfold eT at j;rw [e] at j;exact j
 refine jao Tryz.func190 fun _=>?_;repeat' (first|refine jac ?_|refine jav 1 (fun _=>false) [0,1,3,4,-3,-6,-7,7] ?_|refine Maa ?_|refine Wba ?_|(refine jaa (.buildSlice 35 2 _) ?_;(apply jaw (sz:=1) (by_:=16);exact Kb;exact Ybr;exact Kl;exact Ybr;(·rfl);(·rfl);(·rfl)))|(first|apply Ub (c:=itoaZ_p x Kf) (h:=?_)|apply Ub (c:=itoaZ_p y Kf) (h:=?_))|exact Qac|fail)
 apply jbe [3,14,15,16] [1,12,23,24] rfl;exact Kr;exact Ybe;refine jbf [14,15] [1,23,24] (fun k=>[(16,iN k),(3,.c (.ls 12 1 0 (k+2)))]) (fun k=>[(12,.row 1 (boxD x y ll k))]) (fun k=>k<=ll.length) (fun k=>ll.length - k) (0) ?_ Kg (by (repeat(first|exact trivial|refine ⟨(by ((refine jbs rfl ?_;simp  [boxD_zero];done))),?_⟩))) ?_
 ·omega
 intro k hk;have hlk:=boxD_len x y hk;by_cases h2:k < ll.length
 ·have br:=jmf h h2;have dp:=decimals_p (atZ ll (k:Int)) 44 br.2 Kf;repeat' (first|refine jac ?_|refine Maa ?_|refine Wbz ?_|refine Wca ?_|apply Ub (c:=dp) (h:=?_)|refine jbd rfl (fun hc=>?_) (fun hc=>?_)|exact Qab|fail)
  refine bkL (k+1) ?_ ?_ (hB:=(by (repeat(first|exact trivial|refine ⟨(by ((refine jbs rfl ?_;simp  [boxD_succ x y h2,rowT];done))),?_⟩))))
  ·omega
  ·omega
 ·obtain rfl:k=ll.length:=by omega
  repeat' (first|refine jac ?_|refine Maa ?_|apply Ub (c:=jp) (h:=?_)|refine jbd rfl (fun hc=>?_) (fun hc=>?_)|exact Qab|exact Rav|fail)
theorem BoxText_p (x y n:Int) (ll:List (List Int)) (h:boxB x y n ll=true):PC Tryz.prog 129 [.g [dI x,dI y,dI n,eII ll]] (.t [.c (dT (boxT x y ll)),.c (dB true)]):=by
 have q:=IsBox_p x y n ll;rw [h] at q;refine jao Tryz.func129 fun _=>?_;repeat' (first|refine jac ?_|refine Maa ?_|refine Wba ?_|apply Ub (c:=q) (h:=?_)|apply Ub (c:=boxText_p x y n ll h) (h:=?_)|exact Qac|exact Rbl|fail)
end
section
variable [Glb]
theorem AgreementsOf_p (x y n:Int) (ll:List (List Int)) (h:boxB x y n ll=true):PC Tryz.prog 127 [.g [dI x,dI y,dI n,eII ll]] (.t [.c (eI (agrsL ll)),.c (dB true)]):=by
 have w:=IsBox_p x y n ll;rw [h] at w;have b:=jbo h;have lq:=box_len9 h;have bl:=b.len;have n2:=b.n2;refine jao Tryz.func127 fun _=>?_;repeat' (first|refine jac ?_|refine Maa ?_|refine Wba ?_|refine Wbq ?_|apply Ub (c:=w) (h:=?_)|exact Qac|fail)
 apply jbe [4,12,13,14] [1,10,21,22] rfl;exact Kr;exact Ybe;refine jbf [12,13] [1,21,22] (fun k=>[(14,iN k),(4,.c (.ls 10 1 0 k))]) (fun k=>[(10,.row 1 (cI (rowF (agrK ll) k)))]) (fun k=>k<=ll.length) (fun k=>ll.length - k) (0) ?_ Kg Kg ?_
 ·omega
 intro k hk;by_cases hk2:k < ll.length
 ·have hr:=jev h (q:=(k:Int)) Kf Kf;have ag:=agreement_p (atZ ll (k:Int)) hr.1 fun p h1 h2=>by have:=hr.2 p h1 h2;omega
  have ae:agrZ (atZ ll (k:Int))=agrK ll k:=rfl;repeat' (first|refine jac ?_|refine Maa ?_|refine Wbr ?_|refine Wbs ?_|apply Ub (c:=ag) (h:=?_)|refine jbd rfl (fun hc=>?_) (fun hc=>?_)|exact Qaa|fail)
  refine bkL (k+1) ?_ ?_ (hB:=(by (repeat(first|exact trivial|refine ⟨(by ((refine jbs rfl ?_;simp  [jdz,<- ae];done))),?_⟩))))
  ·omega
  ·omega
 ·exact Dbi
end
section
variable [Glb]
variable [GTab Tryz.prog tabNm]
theorem l2Text_p (x y n:Int) (ll:List (List Int)) (h:boxB x y n ll=true):PC Tryz.prog 109 [.g [dI x,dI y,dI n,eII ll]] (.p (.c (dT (boxT x y ll)))):=by
 have b:=jbo h;have x1:=b.x1;have x3:=b.x3;have y1:=b.y1;have y3:=b.y3;have l9:ll.length<=9:=by
  have e:=b.len;clear b;rcases (by omega:x=1∨x=2∨x=3) with rfl|rfl|rfl <;> omega
 clear b;have tx:=jew (n:=x) Kf;have ty:=jew (n:=y) Kf;have b0:=boxT_zero x y ll;have bs:=fun k hk=>boxT_snoc x y (ll:=ll) (k:=k) hk;have bl:∀ k,k<=ll.length->(boxT x y (ll.take k)).length<=15+33*k:=fun k=>by
  induction k with
  | zero=>intro _;rw [b0];simp;omega
  | succ k ih =>
   intro hk;have i1:=ih Kf;have r:=jmf h (k:=k) Kf;have r2:=rowT_len r.1 r.2;rw [bs k Kf];simp;omega
 have fin:boxT x y (ll.take ll.length)=boxT x y ll:=by rw [List.take_length]
 rw [<- fin];have tk:∀ k,∃ f,f=boxT x y (ll.take k):=fun k=>⟨_,rfl⟩;obtain ⟨F,hF⟩:∃ F:Nat->Tx,∀ k,boxT x y (ll.take k)=F k:=⟨fun k=>boxT x y (ll.take k),fun k=>rfl⟩;simp only [hF] at bs bl b0 ⊢;clear tk fin hF;refine jao Tryz.func109 fun _=>?_;repeat' (first|refine jac ?_|refine jav 1 (fun _=>false) [0,1,4,5,-3,3,-7,7,8] ?_|refine Maa ?_|refine Wba ?_|(first|apply Ub (c:=l1NumZ_p x Kf) (h:=?_)|apply Ub (c:=l1NumZ_p y Kf) (h:=?_))|exact Qac|fail)
 apply jbe [1,3,4] [1] rfl;exact Kh;exact Ybi;refine jbf [1] [1] (fun k=>[(4,iN k),(3,.c (.d (dT (F k))))]) (fun _=>[]) (fun k=>k<=ll.length) (fun k=>ll.length - k) (0) ?_ (by (repeat(first|exact trivial|refine ⟨(by (first|rfl|(refine jjk rfl ?_;((simp  [b0];done))))),?_⟩))) Kv ?_
 ·omega
 intro k hk;have blk:=bl k hk;by_cases h2:k < ll.length
 ·have br:=jmf h h2;have bsk:=bs k h2;have ex:=partB_row br.1;have p0:=jpi 44 (atZ ll (k:Int));have p1:=partB_one 44 (l:=atZ ll (k:Int)) Kf;have ps:=fun j=>fun hj h0=>jpj 44 (l:=atZ ll (k:Int)) (k:=j) hj h0;have pl:=fun j=>partB_len 44 br.2 j;have ns:=fun j=>fun (hj:j < (atZ ll (k:Int)).length)=>l1NumZ_p (atZ (atZ ll (k:Int)) (j:Int)) (br.2.at hj);have ts:=fun j=>fun (hj:j < (atZ ll (k:Int)).length)=>jew (br.2.at hj);have b4:=br.1;rw [<- ex] at bsk;clear bs bl ex;generalize F k=Fk at *;repeat' (first|refine jac ?_|refine Maa ?_|refine jbd rfl (fun hc=>?_) (fun hc=>?_)|exact Qaa|fail)
  apply jbe [1,3,4,5] [1] rfl;exact Kh;exact Ybi;refine jbf [1,4] [1] (fun j=>[(5,iN j),(3,.c (.d (dT (Fk++[32]++partB 44 (atZ ll (k:Int)) j))))]) (fun _=>[]) (fun j=>j<=4) (fun j=>4 - j) (0) ?_ (by (repeat(first|exact trivial|refine ⟨(by (first|rfl|(refine jjk rfl ?_;((simp  [p0];done))))),?_⟩))) Kv ?_
  ·omega
  intro j hj;have plj:=pl j;by_cases hj2:j < 4
  ·have nj:=ns j Kf;have tj:=ts j Kf;have psj:=ps j Kf;have pj1:=pl (j+1);clear ns ts ps pl;by_cases h0:0 < j
   ·have e:=psj h0;clear psj;repeat' (first|apply zei (jdm rfl rfl (by (first|omega|(simp at *;omega)))) ?_|refine jac ?_|refine Maa ?_|apply Ub (c:=nj) (h:=?_)|refine jbd rfl (fun hc=>?_) (fun hc=>?_)|exact Qaa|fail)
    refine bkL (j+1) ?_ ?_ (hV:=(by (repeat(first|exact trivial|refine ⟨(by (first|rfl|(refine jjk rfl ?_;((simp  [e];done))))),?_⟩))))
    ·omega
    ·omega
   ·obtain rfl:j=0:=by omega
    rw [show ((0:Nat):Int)=0 from rfl] at nj tj;repeat' (first|refine jac ?_|refine Maa ?_|apply Ub (c:=nj) (h:=?_)|exact Qaa|fail)
    refine bkL 1 ?_ ?_ (hV:=(by (repeat(first|exact trivial|refine ⟨(by (first|rfl|(refine jjk rfl ?_;((simp  [p1,p0];done))))),?_⟩))))
    ·omega
    ·omega
  ·obtain rfl:j=4:=by omega
   repeat' (first|refine jac ?_|refine Maa ?_|exact Qaa|fail)
   refine bkL (k+1) ?_ ?_ (hV:=(by (repeat(first|exact trivial|refine ⟨(by (first|rfl|(refine jjk rfl ?_;((simp  [bsk];done))))),?_⟩))))
   ·omega
   ·omega
 ·obtain rfl:k=ll.length:=by omega
  repeat' (first|apply zda ?_|refine jac ?_|refine Maa ?_|refine jbd rfl (fun hc=>?_) (fun hc=>?_)|exact Qaa|exact Rav|fail)
end
section
variable [Glb]
theorem jlk {X Y:Nat} {n:Int} {ll:List (List Int)} (h:boxB X Y n ll=true) {i k:Nat} (hi:i < X) (hk:k < Y) :
  PV Tryz.prog 166 [.g [dI X,dI Y,dI n,eII ll],.c (dI i),.c (dI k)] (.p (.c (eI (atZ ll ((i:Int)*Y+k))))):=by
 have b:=jbo h;have x3:=b.x3;have y3:=b.y3;have ix:=jno (i:=(i:Int)) (k:=(k:Int)) (X:=X) (Y:=Y) Kf Kf Kf Kf;have e:=b.len;have m:i*Y<=3*3:=Nat.mul_le_mul Kf Kf;have m2:(i:Int)*(Y:Int)=((i*Y:Nat):Int):=by push_cast;rfl
 clear b;exact l2Row_v X Y n ll i k Kf Kf Kf Kf Kf
theorem oneN_p {X Y:Nat} {n:Int} {ll:List (List Int)} (h:boxB X Y n ll=true) {i k:Nat} (hi:i < X) (hk:k < Y) :
  PC Tryz.prog 269 [.c (eI (atZ ll ((i:Int)*Y+k))),.c (dI 0)] (.p (.c (dI (onG ll Y 0 i k))))/\PC Tryz.prog 269 [.c (eI (atZ ll ((i:Int)*Y+k))),.c (dI 1)] (.p (.c (dI (onG ll Y 1 k i)))):=by
 have ix:=jno (i:=(i:Int)) (k:=(k:Int)) (X:=X) (Y:=Y) Kf Kf Kf Kf;have n2:=(jbo h).n2;obtain ⟨r1,r2⟩:=jev h ix.1 ix.2.1;have a:=l2One_p (atZ ll ((i:Int)*Y+k)) 0 Kf r1 fun p hp=>by have:=r2 p Kf Kf;omega
 have b:=l2One_p (atZ ll ((i:Int)*Y+k)) 1 Kf r1 fun p hp=>by have:=r2 p Kf Kf;omega
 exact ⟨a,b⟩
theorem l2LoudG_p (X Y:Nat) (n:Int) (ll:List (List Int)) (h:boxB X Y n ll=true):PE Tryz.prog 216 [.g [dI X,dI Y,dI n,eII ll]] (fun res => ∃ u v:Int,decide (u < 0)=quietG ll X Y/\res = .t [.c (dI u),.c (dI v)]):=by
  have b:=jbo h;have x1:=b.x1;have x3:=b.x3;have y1:=b.y1;have y3:=b.y3;clear b;have rv:=fun i k:Nat=>fun hi hk=>jlk h (i:=i) (k:=k) hi hk;have ov:=fun i k:Nat=>fun hi hk=>oneN_p h (i:=i) (k:=k) hi hk;refine jho Tryz.func216 fun _=>?_;repeat' (first|refine jac ?_|refine Maa ?_|refine Wba ?_|fail)
  apply jbe [1,4] [1,23,27,46,50] rfl;exact Kh;exact Ybf;refine jbf [1] [1,23,27,46,50] (fun q=>[(4,iN q)]) (fun _=>[]) (fun q=>q<=X /\ ∀ r j:Nat,r < q->j < Y->onG ll Y 0 r j=onG ll Y 0 r 0) (fun q=>X - q) (0) ?_ Kg Kv ?_
  · exact ⟨by omega,fun u j hu=>by omega⟩
  rintro q ⟨hq,hQ⟩;by_cases hq2:q < X
  · repeat' (first|refine zaa ?_|refine zab ?_|refine zbb ?_|refine zaf ?_|refine zac ?_|refine jai ?_|refine jaj ?_|refine jah ?_|refine jaq rfl ?_|refine jam ?_|refine jac ?_|refine jbd rfl (fun hc => ?_) (fun hc => ?_))
    all_goals try exact Qaa
    apply jbe [1,4,5] [1,23,27,46,50] rfl;exact Kh;exact Ybf;refine jbf [1,4] [1,23,27,46,50] (fun j=>[(5,iN j)]) (fun _=>[]) (fun j=>(1<=j/\j<=Y) /\ ∀ t:Nat,t < j->onG ll Y 0 q t=onG ll Y 0 q 0) (fun j=>Y - j) (1) ?_ Kg Kv ?_
    · exact ⟨by omega,fun u hu=>by rw [show u=0 by omega]⟩
    rintro j ⟨hj,hJ⟩;by_cases hj2:j < Y
    · have v1 := rv q j hq2 hj2
      have v2:=rv q 0 hq2 Kf;have o1:=(ov q j hq2 hj2).1;have o2:=(ov q 0 hq2 Kf).1;have no:=fun he=>jjs (ll:=ll) (X:=X) (Y:=Y) (w:=0) (q:=q) (j:=j) Kf (by simp only [szG,if_true];exact hq2) (by simp only [szG,Nat.sub_zero,Nat.one_ne_zero,if_false];exact hj2) he;rw [show ((0:Nat):Int)=0 from rfl] at v2 o2;by_cases he:onG ll Y 0 q j=onG ll Y 0 q 0
      · repeat' (first|refine zaa ?_|refine zab ?_|refine zaf ?_|refine zac ?_|refine zbd ?_|refine zae ?_|refine zbk ?_|refine zad ?_|(first|apply Uc (c := v1) (h := ?_)|apply Uc (c := v2) (h := ?_))|(first|apply Ub (c := o1) (h := ?_)|apply Ub (c := o2) (h := ?_))|refine jai ?_|refine jaj ?_|refine jah ?_|refine jaz ?_|refine jaq rfl ?_|refine jam ?_|refine jac ?_|refine jav 7 (fun _ => false) [0, 1, 2, 5, 6, -4, -5, -8, -9, 9] ?_|refine jbd rfl (fun hc => ?_) (fun hc => ?_))
        all_goals try exact Qab
        refine bkL (j+1) ?_ ?_
        · refine ⟨by omega, fun t ht => ?_⟩
          by_cases h3:t=j
          · subst h3; exact he
          · exact hJ t Kf
        · omega
      · have nz := no he
        repeat' (first|refine jac ?_|refine jav 7 (fun _=>false) [0,1,2,5,6,-4,-5,-8,-9,9] ?_|refine Maa ?_|(first|apply Uc (c:=v1) (h:=?_)|apply Uc (c:=v2) (h:=?_))|(first|apply Ub (c:=o1) (h:=?_)|apply Ub (c:=o2) (h:=?_))|refine jbd rfl (fun hc=>?_) (fun hc=>?_)|exact Qab|fail)
        (apply jgp;exact Kd)
        exact ⟨_,_,by rw [nz];rfl,rfl⟩
    · repeat' (first|refine zaa ?_|refine zab ?_|refine zaf ?_|refine zac ?_|refine zbd ?_|refine zae ?_|refine zad ?_|refine jai ?_|refine jaj ?_|refine jah ?_|refine jaz ?_|refine jaq rfl ?_|refine jam ?_|refine jac ?_|refine jav 7 (fun _ => false) [0, 1, 2, 5, 6, -4, -5, -8, -9, 9] ?_|refine jbd rfl (fun hc => ?_) (fun hc => ?_))
      all_goals try exact Qaa
      refine bkL (q+1) ?_ ?_
      · refine ⟨by omega, fun r t hr ht => ?_⟩
        by_cases h3:r=q
        · subst h3;exact hJ t Kf
        · exact hQ r t Kf ht
      · omega
  · repeat' (first|refine zaa ?_|refine zab ?_|refine zbb ?_|refine zaf ?_|refine zac ?_|refine jai ?_|refine jaj ?_|refine jah ?_|refine jaq rfl ?_|refine jam ?_|refine jac ?_|refine jbd rfl (fun hc => ?_) (fun hc => ?_))
    all_goals try exact Qaa
    apply jbe [1,6] [1,23,27,46,50] rfl;exact Kh;exact Ybf;refine jbf [1] [1,23,27,46,50] (fun q=>[(6,iN q)]) (fun _=>[]) (fun q=>q<=Y /\ ∀ r j:Nat,r < q->j < X->onG ll Y 1 r j=onG ll Y 1 r 0) (fun q=>Y - q) (0) ?_ Kg Kv ?_
    · exact ⟨by omega,fun u j hu=>by omega⟩
    rintro p ⟨hp,hP⟩;by_cases hp2:p < Y
    · repeat' (first|refine zaa ?_|refine zab ?_|refine zaf ?_|refine zac ?_|refine zbd ?_|refine jai ?_|refine jaj ?_|refine jah ?_|refine jaq rfl ?_|refine jam ?_|refine jac ?_|refine jbd rfl (fun hc => ?_) (fun hc => ?_))
      all_goals try exact Qaa
      apply jbe [1,6,7] [1,23,27,46,50] rfl;exact Kh;exact Ybf;refine jbf [1,6] [1,23,27,46,50] (fun j=>[(7,iN j)]) (fun _=>[]) (fun j=>(1<=j/\j<=X) /\ ∀ t:Nat,t < j->onG ll Y 1 p t=onG ll Y 1 p 0) (fun j=>X - j) (1) ?_ Kg Kv ?_
      · exact ⟨by omega,fun u hu=>by rw [show u=0 by omega]⟩
      rintro j ⟨hj,hJ⟩;by_cases hj2:j < X
      · have v1 := rv j p hj2 hp2
        have v2:=rv 0 p Kf hp2;have o1:=(ov j p hj2 hp2).2;have o2:=(ov 0 p Kf hp2).2;have no:=fun he=>jjs (ll:=ll) (X:=X) (Y:=Y) (w:=1) (q:=p) (j:=j) Kf (by simp only [szG,Nat.one_ne_zero,if_false];exact hp2) (by simp only [szG,Nat.sub_self,if_true];exact hj2) he;rw [show ((0:Nat):Int)=0 from rfl] at v2 o2;by_cases he:onG ll Y 1 p j=onG ll Y 1 p 0
        · repeat' (first|refine zaa ?_|refine zab ?_|refine zbb ?_|refine zaf ?_|refine zac ?_|refine zae ?_|refine zbk ?_|refine zad ?_|(first|apply Uc (c := v1) (h := ?_)|apply Uc (c := v2) (h := ?_))|(first|apply Ub (c := o1) (h := ?_)|apply Ub (c := o2) (h := ?_))|refine jai ?_|refine jaj ?_|refine jah ?_|refine jaz ?_|refine jaq rfl ?_|refine jam ?_|refine jac ?_|refine jav 15 (fun _ => false) [0, 1, 2, 5, 6, -4, -5, -8, -9, 9] ?_|refine jbd rfl (fun hc => ?_) (fun hc => ?_))
          all_goals try exact Qab
          refine bkL (j+1) ?_ ?_
          · refine ⟨by omega, fun t ht => ?_⟩
            by_cases h3:t=j
            · subst h3;exact he
            · exact hJ t Kf
          · omega
        · have nz := no he
          repeat' (first|refine jac ?_|refine jav 15 (fun _=>false) [0,1,2,5,6,-4,-5,-8,-9,9] ?_|refine Maa ?_|(first|apply Uc (c:=v1) (h:=?_)|apply Uc (c:=v2) (h:=?_))|(first|apply Ub (c:=o1) (h:=?_)|apply Ub (c:=o2) (h:=?_))|refine jbd rfl (fun hc=>?_) (fun hc=>?_)|exact Qab|fail)
          (apply jgp;exact Kd)
          exact ⟨_,_,by rw [nz];rfl,rfl⟩
      · repeat' (first|refine zaa ?_|refine zab ?_|refine zbb ?_|refine zaf ?_|refine zac ?_|refine zae ?_|refine zad ?_|refine jai ?_|refine jaj ?_|refine jah ?_|refine jaz ?_|refine jaq rfl ?_|refine jam ?_|refine jac ?_|refine jav 15 (fun _ => false) [0, 1, 2, 5, 6, -4, -5, -8, -9, 9] ?_|refine jbd rfl (fun hc => ?_) (fun hc => ?_))
        all_goals try exact Qaa
        refine bkL (p+1) ?_ ?_
        · refine ⟨by omega, fun r t hr ht => ?_⟩
          by_cases h3:r=p
          · subst h3;exact hJ t Kf
          · exact hP r t Kf ht
        · omega
    · have yes:quietG ll X Y=true:=jpd fun w r j hw hr hj=>by
        rcases (by omega:w=0∨w=1) with rfl|rfl
        · simp only [szG, if_true, Nat.sub_zero, Nat.one_ne_zero, if_false] at hr hj
          exact hQ r j Kf hj
        · simp only [szG, if_true, Nat.sub_self, Nat.one_ne_zero, if_false] at hr hj
          exact hP r j Kf hj
      repeat' (first|refine jac ?_|refine Maa ?_|refine jbd rfl (fun hc=>?_) (fun hc=>?_)|exact Qaa|fail)
      (apply jgp;exact Kd)
      exact ⟨_,_,by rw [yes];rfl,rfl⟩
theorem l2QuietG_p (X Y:Nat) (n:Int) (ll:List (List Int)) (h:boxB X Y n ll=true):PC Tryz.prog 161 [.g [dI X,dI Y,dI n,eII ll]] (.p (.c (dB (quietG ll X Y)))):=by
 have q:=l2LoudG_p X Y n ll h;generalize quietG ll X Y=Q at *;refine jao Tryz.func161 fun _=>?_;repeat' (first|refine Wby ?_|refine jac ?_|refine Maa ?_|refine Wba ?_|(refine jaa (.call ⟨.value (.func 216),_,_⟩) ?_;(apply jep (fid:=216);exact Yac;(·exact q);(·rfl);(rintro _ ⟨u,v,hu,rfl⟩)))|fail)
 all_goals refine Rad ?_
 all_goals rw [<- hu]
theorem spIsQuietG_p (X Y:Nat) (n:Int) (ll:List (List Int)) (h:boxB X Y n ll=true):PC Tryz.prog 112 [.g [dI X,dI Y,dI n,eII ll]] (.t [.c (dB (quietG ll X Y)),.c (dB true)]):=by
 have w:=l2Box_p X Y n ll;rw [h] at w;have q:=l2QuietG_p X Y n ll h;generalize quietG ll X Y=Q at *;refine jao Tryz.func112 fun _=>?_;repeat' (first|refine jac ?_|refine Maa ?_|refine Wba ?_|apply Ub (c:=w) (h:=?_)|apply Ub (c:=q) (h:=?_)|exact Qac|exact Rbl|fail)
theorem l7Ones_p (l nu:List Int) (h0:l.length<=1000) (h1:∀ j:Nat,j < l.length->0<=atZ l (j:Int)/\atZ l (j:Int) < nu.length) (h2:∀ j:Nat,j < l.length->0<=atZ nu (atZ l (j:Int))/\atZ nu (atZ l (j:Int))<=1):PC Tryz.prog 159 [.c (eI l),.c (eI nu)] (.p (.c (dI (onesK l nu l.length)))):=by
 have bd:=onesK_bd h2;refine jao Tryz.func159 fun _=>?_;repeat' (first|refine jac ?_|refine Maa ?_|fail)
 apply jbe [0,1,5,6] [] rfl;exact Ky;exact Yar;refine jbf [0,1] [] (fun k=>[(6,iN k),(5,iZ (onesK l nu k))]) (fun _=>[]) (fun k=>k<=l.length) (fun k=>l.length - k) (0) ?_ Kg Kv ?_
 ·omega
 intro k hk;have b:=bd k hk;by_cases h:k < l.length
 ·have a1:=h1 k h;have a2:=h2 k h;have e:onesK l nu (k+1)=onesK l nu k+atZ nu (atZ l (k:Int)):=rfl;repeat' (first|refine jac ?_|refine Maa ?_|refine jbd rfl (fun hc=>?_) (fun hc=>?_)|exact Qaa|fail)
  refine bkL (k+1) ?_ ?_
  ·omega
  ·omega
 ·have hk2:k=l.length:=by omega
  subst hk2;repeat' (first|refine jac ?_|refine Maa ?_|refine jbd rfl (fun hc=>?_) (fun hc=>?_)|exact Qaa|fail)
  refine Rad ?_;rfl
theorem ones_at {ev:Int} {cc:List (List Int)} {ss nu:List Int} (hs:sceneB ev cc ss=true) (hn:bitsB nu ev=true) {i:Nat} (hi:i < cc.length) :
  PC Tryz.prog 159 [.c (eI (atZ cc (i:Int))),.c (eI nu)] (.p (.c (dI (onesK (atZ cc (i:Int)) nu (atZ cc (i:Int)).length))))/\0<=onesK (atZ cc (i:Int)) nu (atZ cc (i:Int)).length/\onesK (atZ cc (i:Int)) nu (atZ cc (i:Int)).length<=1000:=by
 have s:=jbv hs;have c:ctxB ev (atZ cc (i:Int))=true:=by rw [jby hi];exact s.ctx i hi
 simp only [ctxB,Bool.and_eq_true] at c;have rl:=jmt c.2;have hl:=jce hn;have e12:=s.e12;have hlen:(atZ cc (i:Int)).length<=1000:=by
  exact (jhq (n:=ev) Kf (show ctxB ev (atZ cc (i:Int))=true by simp only [ctxB,Bool.and_eq_true];exact c)).1
 have h2:∀ j:Nat,j < (atZ cc (i:Int)).length->0<=atZ nu (atZ (atZ cc (i:Int)) (j:Int))/\atZ nu (atZ (atZ cc (i:Int)) (j:Int))<=1:=fun j hj=>by
  have:=rl j hj;exact jdd hn Kf Kf
 refine ⟨l7Ones_p _ _ hlen (fun j hj=>by have:=rl j hj;omega) h2,?_⟩;have:=onesK_bd h2 _ (Nat.le_refl _);omega
theorem Vax {G G':Prop} (h:G') (t:Laa G'->G:=by intro h;first|(first|exact Wbk h.o|exact jac h.o|exact Maa h.o|exact Wbb h.o|exact Wbq h.o|exact Wbr h.o|exact Wbs h.o|fail);done|fail):G:=t ⟨h⟩
theorem l7Kept_p (ev:Int) (cc:List (List Int)) (ss nu:List Int) (hs:sceneB ev cc ss=true) (hn:bitsB nu ev=true):PC Tryz.prog 108 [.g [dI ev,eII cc,eI ss],.c (eI nu)] (.p (.c (eI (keptK cc ss nu cc.length)))):=by
 have s:=jbv hs;have sl:=s.sl;have n10:=s.c10;have kl:=fun k=>jfn cc ss nu k;have on:=fun (i:Nat) (hi:i < cc.length)=>ones_at hs hn hi;have ko:∀ i:Nat,i < cc.length->keepB cc ss nu i=decide (onesK (atZ cc (i:Int)) nu (atZ cc (i:Int)).length%2=atZ ss (i:Int)):=fun i hi=>by
  unfold keepB;rw [ctx_ones hs hn hi]
 clear s;refine jao Tryz.func108 fun _=>?_;repeat' (first|refine Vax ?_|fail)
 apply jbe [1,2,5,6] [2,7,31,32] rfl;exact Kk;exact Ybe;refine jbf [1,2] [2,31,32] (fun k=>[(6,iN k),(5,.c (.ls 7 1 0 (keptK cc ss nu k).length))]) (fun k=>[(7,.row 1 (cI (keptK cc ss nu k)))]) (fun k=>k<=cc.length) (fun k=>cc.length - k) (0) ?_ Kg Kg ?_
 ·omega
 intro k hk;have kk:=kl k;by_cases h:k < cc.length
 ·obtain ⟨o,o0,o1⟩:=on k h;have kq:=ko k h;have e:=jkv cc ss nu k;generalize onesK (atZ cc (k:Int)) nu (atZ cc (k:Int)).length=z at *;by_cases hz:z%2=atZ ss (k:Int)
  ·rw [kq,decide_eq_true hz,if_pos rfl] at e;repeat' (first|refine jav 5 (fun _=>false) [0,1,2,3,4,5,8,9,10,11,12,-7,7,13] ?_|refine Vax ?_|apply Ub (c:=o) (h:=?_)|refine jbd rfl (fun hc=>?_) (fun hc=>?_)|exact Qaa|fail)
   refine bkL (k+1) ?_ ?_ (hV:=(by (repeat(first|exact trivial|refine ⟨(by (first|rfl|(refine jks rfl ?_;((simp  [e];done))))),?_⟩)))) (hB:=(by (repeat(first|exact trivial|refine ⟨(by ((refine jbs rfl ?_;simp  [e];done))),?_⟩))))
   ·omega
   ·omega
  ·rw [kq,decide_eq_false hz,if_neg Yby] at e;repeat' (first|refine jav 5 (fun _=>false) [0,1,2,3,4,5,8,9,10,11,12,-7,7,13] ?_|refine Vax ?_|apply Ub (c:=o) (h:=?_)|refine jbd rfl (fun hc=>?_) (fun hc=>?_)|exact Qaa|fail)
   refine bkL (k+1) ?_ ?_ (hV:=(by (repeat(first|exact trivial|refine ⟨(by (first|rfl|(refine jks rfl ?_;((simp  [e];done))))),?_⟩)))) (hB:=(by (repeat(first|exact trivial|refine ⟨(by ((refine jbs rfl ?_;simp  [e];done))),?_⟩))))
   ·omega
   ·omega
 ·have hk2:k=cc.length:=by omega
  subst hk2;repeat' (first|refine jav 5 (fun _=>false) [0,1,2,3,4,5,8,9,10,11,12,-7,7,13] ?_|refine Vax ?_|refine jbd rfl (fun hc=>?_) (fun hc=>?_)|exact Qaa|fail)
  refine Raa ?_;rfl
theorem l7Solves_p (ev:Int) (cc:List (List Int)) (ss nu:List Int) (hs:sceneB ev cc ss=true) (hn:bitsB nu ev=true):PC Tryz.prog 221 [.g [dI ev,eII cc,eI ss],.c (eI nu)] (.p (.c (dB (decide ((keptK cc ss nu cc.length).length=cc.length))))):=by
 have k:=l7Kept_p ev cc ss nu hs hn;have c10:=(jbv hs).c10;have kl:=jfn cc ss nu cc.length;refine jao Tryz.func221 fun _=>?_;repeat' (first|refine jac ?_|refine jav 1 (fun _=>false) [0,1,4,5,6,-3,3,7,8] ?_|refine Maa ?_|refine Wbb ?_|apply Ub (c:=k) (h:=?_)|exact Qaa|fail)
 refine Rad ?_;simp;exact ⟨fun h=>by omega,fun h=>by omega⟩
theorem spSolvesScene_p (ev:Int) (cc:List (List Int)) (ss nu:List Int) (hs:sceneB ev cc ss=true) (hn:bitsB nu ev=true):PC Tryz.prog 169 [.g [dI ev,eII cc,eI ss],.c (eI nu)] (.t [.c (dB (decide ((keptK cc ss nu cc.length).length=cc.length))),.c (dB true)]):=by
 have g:=l7Good_p ev cc ss;rw [hs] at g;have b:=l2Bits_p nu ev;rw [hn] at b;have k:=l7Solves_p ev cc ss nu hs hn;refine jao Tryz.func169 fun _=>?_;repeat' (first|refine Wbi ?_|refine jac ?_|refine Maa ?_|refine Wbb ?_|apply Ub (c:=g) (h:=?_)|apply Ub (c:=b) (h:=?_)|apply Ub (c:=k) (h:=?_)|exact Qac|exact Rbl|fail)
theorem Vay {G G':Prop} (h:G') (t:Laa G'->G:=by intro h;first|(first|exact Maa h.o|exact Wbb h.o|apply zcv h.o|fail);done|fail):G:=t ⟨h⟩
theorem spMostKept_p (E:Nat) (cc:List (List Int)) (ss:List Int) (hs:sceneB E cc ss=true):PE Tryz.prog 171 [.g [dI E,eII cc,eI ss]] (fun res => ∃ l:List Int,res = .t [.c (dI (mostF cc ss E (2^E)).1),.c (eI l),.c (dB true)]):=by
 have g:=l7Good_p E cc ss;rw [hs] at g;have e12:=(jbv hs).e12;have c10:=(jbv hs).c10;have pw:2^E<=2^12:=Nat.pow_le_pow_right Kf Kf;have p1:1<=2^E:=Nat.one_le_two_pow;have st:∀ c t,mostF cc ss E c=((keptN cc ss E t:Int),bitsM E t)->mostF cc ss E (c+1)=if keptN cc ss E t < keptN cc ss E c then ((keptN cc ss E c:Int),bitsM E c) else ((keptN cc ss E t:Int),bitsM E t):=fun c t h=>by
  rw [mostF,h];by_cases hh:keptN cc ss E t < keptN cc ss E c
  ·rw [if_pos hh,if_pos (by dsimp only;omega)]
  ·rw [if_neg hh,if_neg (by dsimp only;omega)]
 have s0:mostF cc ss E 1=((keptN cc ss E 0:Int),bitsM E 0):=by
  obtain ⟨t,ht,e⟩:=mostF_at cc ss E 0;obtain rfl:t=0:=by omega
  exact e
 have hp:∀ c:Nat,c < 2^E->PC Tryz.prog 224 [.c (dI E),.c (dI c)] (.p (.c (eI (bitsM E c)))):=fun c hc=>l7Assignment_p E c Kf Kf;have hk:=fun c=>l7Kept_p E cc ss (bitsM E c) hs (jez E c);have kl:=fun c=>jfn cc ss (bitsM E c) cc.length;have kn:∀ c,keptN cc ss E c=(keptK cc ss (bitsM E c) cc.length).length:=fun c=>rfl;have bl:=fun c=>bitsM_len E c;obtain ⟨N,hN⟩:∃ N:Nat,N=2^E:=⟨_,rfl⟩;have e1:(1:Int)*2^((E:Int)).toNat=N:=by rw [Int.toNat_natCast,hN,Int.natCast_pow];simp
 rw [<- hN] at pw hp p1 ⊢;have a0:=hp 0 Kf;have b0:=bl 0;rw [show ((0:Nat):Int)=0 from rfl] at a0;refine jho Tryz.func171 fun _=>?_;repeat' (first|refine jac ?_|refine Vay ?_|apply Ub (c:=g) (h:=?_)|apply Ua (c:=a0) (h:=?_)|exact Qac|fail)
 apply jbe [1,5,6] [1,11,14,25,28,32,38] rfl;exact Kk;exact Ybe;refine jbf [1] [1,11,25,28,32,38] (fun (g:Nat×List Int)=>[(6,iN g.1),(5,.c (.ls 14 1 0 g.2.length))]) (fun g=>[(14,.row 1 (cI g.2))]) (fun g=>(1<=g.1/\g.1<=N) /\ ∃ t,mostF cc ss E g.1=((keptN cc ss E t:Int),bitsM E t)/\g.2=bitsM E t) (fun g=>N - g.1) ((1,bitsM E 0)) ?_ Kg Kt ?_
 ·exact ⟨⟨by simp,p1⟩,0,s0,rfl⟩
 rintro ⟨c,L⟩ ⟨⟨hc1,hc⟩,t,hm,hL⟩;dsimp only at hc1 hc hm hL ⊢;subst hL;have kt:=hk t;have klt:=kl t;have knt:=kn t;by_cases hc2:c < N
 ·have ap:=hp c hc2;have kc:=hk c;have klc:=kl c;have knc:=kn c;have sc:=st c t hm;clear hp hk kl kn st;have blc:=bl c;have blt:=bl t;clear bl;by_cases hq:keptN cc ss E t < keptN cc ss E c
  ·rw [if_pos hq] at sc;have nx:∃ s,mostF cc ss E (c+1)=((keptN cc ss E s:Int),bitsM E s)/\bitsM E c=bitsM E s:=⟨c,sc,rfl⟩;rw [knt,knc] at hq;clear hm sc knt knc;generalize keptK cc ss (bitsM E t) cc.length=KT at *;generalize keptK cc ss (bitsM E c) cc.length=KC at *;generalize bitsM E t=BT at *;generalize bitsM E c=BC at *;repeat' (first|refine jac (id:=5) ?_|refine jac (id:=7) ?_|refine jav 8 (fun _=>false) [0,1,4,5,-3,3,-7,7,8] ?_|refine jac (id:=6) ?_|refine jac (id:=10) ?_|refine Vay ?_|apply Ua (c:=ap) (h:=?_)|(first|apply Ub (c:=kt) (h:=?_)|apply Ub (c:=kc) (h:=?_))|refine jbd rfl (fun hc=>?_) (fun hc=>?_)|exact Qaa|fail)
   refine jcy (jfr 14) ?_;refine jcy (jja 25 14 rfl rfl rfl rfl) ?_;repeat' (first|refine jac ?_|refine Vay ?_|fail)
   refine bkL (c+1,BC) ?_ ?_
   ·exact ⟨⟨by dsimp only;omega,by dsimp only;omega⟩,nx⟩
   ·dsimp only; omega
  ·rw [if_neg hq] at sc;have nx:∃ s,mostF cc ss E (c+1)=((keptN cc ss E s:Int),bitsM E s)/\bitsM E t=bitsM E s:=⟨t,sc,rfl⟩;rw [knt,knc] at hq;clear hm sc knt knc;generalize keptK cc ss (bitsM E t) cc.length=KT at *;generalize keptK cc ss (bitsM E c) cc.length=KC at *;generalize bitsM E t=BT at *;generalize bitsM E c=BC at *;repeat' (first|refine jac ?_|refine jav 8 (fun _=>false) [0,1,4,5,-3,3,-7,7,8] ?_|refine Vay ?_|apply Ua (c:=ap) (h:=?_)|(first|apply Ub (c:=kt) (h:=?_)|apply Ub (c:=kc) (h:=?_))|refine jbd rfl (fun hc=>?_) (fun hc=>?_)|exact Qaa|fail)
   refine bkL (c+1,BT) ?_ ?_
   ·exact ⟨⟨by dsimp only;omega,by dsimp only;omega⟩,nx⟩
   ·dsimp only; omega
 ·obtain rfl:c=N:=by omega
  rw [hm];dsimp only;rw [knt];clear hp hk kl kn st hm knt;generalize keptK cc ss (bitsM E t) cc.length=KT at *;generalize bitsM E t=BT at *;repeat' (first|refine jac ?_|refine Vay ?_|apply Ub (c:=kt) (h:=?_)|refine jbd rfl (fun hc=>?_) (fun hc=>?_)|exact Qaa|fail)
  (apply jgp;(·apply jbc.t;(·(apply GvA.cons;exact Ybu;exact Ybs);(apply GvA.cons;exact Ybu;(·(exact GvP.c (.row _ _ _ _ rfl Ybt))));(apply GvA.cons;exact Ybu;exact Ybs);exact GvA.nil);(·rfl);exact Ybr))
  exact ⟨_,rfl⟩
end
section
variable [Glb]
open Go
def parN (k:Nat):Nat:=(k / 4+k / 2+k)%2
def agrT (ll:List (List Int)) (q:Nat):Int:=accT (fun k=>at2 ll q k*(1 - 2*(parN k:Int))) 8
def agrL (ll:List (List Int)):List Int:=rowF (agrT ll) 8
def sumF3 (odd:List Int) (q k:Nat):Int:=if (parN k:Int)=atZ odd (q:Int) then 1 else 0
@[simp] theorem agrL_len (ll : List (List Int)) : (agrL ll).length = 8 := by simp [agrL]
def sumRow (odd:List Int) (q k:Nat):List Int:=rowF (fun j=>if j < k then sumF3 odd q j else 0) 8
@[simp] theorem sumRow_len (odd : List Int) (q k : Nat) : (sumRow odd q k).length = 8 := by simp [sumRow]
end
end Go.Proofs.YtbhbkbnlpackdaaGreatDoor
