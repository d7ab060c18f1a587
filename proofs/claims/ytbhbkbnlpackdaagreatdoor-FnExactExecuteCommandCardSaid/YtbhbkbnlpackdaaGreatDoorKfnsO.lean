/- What the functions that FnExactRunScript and FnExactReplayLog and FnExactExecuteCommand reaches return: part of its proof. No condition beyond those of its theorems. -/
import Derived.Test.YtbhbkbnlpackdaaGreatDoorKfnsB
import Derived.Test.YtbhbkbnlpackdaaGreatDoorKplainC
import Derived.Test.YtbhbkbnlpackdaaGreatDoorKfnsD
import Derived.Test.YtbhbkbnlpackdaaGreatDoorKfnsI
import Derived.Test.YtbhbkbnlpackdaaGreatDoorKfnsG
import Derived.Test.YtbhbkbnlpackdaaGreatDoorKfnsK
import Derived.Test.YtbhbkbnlpackdaaGreatDoorKfnsH
import Derived.Test.YtbhbkbnlpackdaaGreatDoorKfnsJ
import Derived.Test.YtbhbkbnlpackdaaGreatDoorKfnsA
import Derived.Test.YtbhbkbnlpackdaaGreatDoorKplainA
import Derived.Test.YtbhbkbnlpackdaaGreatDoorKfnsC
import Derived.Shelf.Strings.Search3
import Derived.Shelf.Strings.IndexAnyAll
import Derived.Test.YtbhbkbnlpackdaaGreatDoorKfnsF
set_option linter.unusedSectionVars false
set_option maxRecDepth 10000
set_option maxHeartbeats 4000000
set_option linter.unusedVariables false
set_option linter.unusedSimpArgs false
namespace Go.Proofs.YtbhbkbnlpackdaaGreatDoor
open Go.RowKit
section
variable [Glb]
variable [GTab Tryz.prog tabNm]
structure HBd (X Y : Nat) (wh : Int) (bll : List (List Int)) (pl : List Int) (E : Nat) (cc : List (List Int)) (ss nu : List Int) : Prop where
 hbox:boxB X Y wh bll=true
 hpl:bitsB pl ((X:Int)+Y)=true
 hsc:sceneB E cc ss=true
 hnu:bitsB nu E=true
 n1 : 1 <= wh
 n2:wh<=1000
 l9:bll.length<=9
 c10:cc.length<=10
 e12:E<=12
 p6:pl.length<=6
 x3 : X <= 3
 y3 : Y <= 3
theorem jcz {X Y:Nat} {wh:Int} {bll:List (List Int)} {pl:List Int} {E:Nat} {cc:List (List Int)} {ss nu:List Int} {co:Int} (h:hallB X Y wh bll pl E cc ss nu co=true):HBd X Y wh bll pl E cc ss nu:=by
 have s:=jdu h;have b:=jbo s.box;have c:=jbv s.sc;have x1:=b.x1;have x3:=b.x3;have y1:=b.y1;have y3:=b.y3;have l:=jce s.pl;have e12:=c.e12;refine ⟨s.box,s.pl,s.sc,s.nu,b.n1,b.n2,?_,c.c10,by omega,by omega,by omega,by omega⟩;have e:=b.len;rcases (by omega:(X:Int)=1∨(X:Int)=2∨(X:Int)=3) with h|h|h <;> rw [h] at e <;> omega
theorem chain_lo {wh:Int} (bll:List (List Int)) (h:boxB 2 2 wh bll=true) (hn:wh<=100) : -999999<=chainM bll wh:=by
 have nn:∀ k i:Nat,i < 4->0<=chainR bll wh k i:=fun k i hi=>(chF_bd h hn k i hi 32).1;have:=least_ge (v:=0) (m:=chainR bll wh 0 0) (f:=fun j=>chainR bll wh (j / 4) (j%4)) (nn 0 0 Kf) (n:=64) fun j hj=>nn _ _ Kf;unfold chainM;omega
theorem Vas {G G':Prop} (h:G') (t:Laa G'->G:=by intro h;first|(first|exact Wby h.o|exact jac h.o|exact Maa h.o|exact Wbc h.o|apply zau h.o|fail);done|fail):G:=t ⟨h⟩
theorem asked0 (X Y:Nat) (wh:Int) (bll:List (List Int)) (pl:List Int) (E:Nat) (cc:List (List Int)) (ss nu:List Int) (co:Int) (hB:hallB X Y wh bll pl E cc ss nu co=true):PC Tryz.prog 81 [.g [dI X,dI Y,dI wh,eII bll,eI pl,dI E,eII cc,eI ss,eI nu,dI co],.c (dT [98,111,120])] (.t [.c (dT (boxT X Y bll)),.c (dB true)]):=by
 have hb:=jcz hB;have n2:=hb.n2;have l9:=hb.l9;have c10:=hb.c10;have p6:=hb.p6;refine jao Tryz.func81 fun _=>?_;repeat' (first|refine Vas ?_|apply Ub (c:=BoxText_p X Y wh bll hb.hbox) (h:=?_))
 all_goals refine Ral ?_
 all_goals rfl
theorem asked1 (X Y:Nat) (wh:Int) (bll:List (List Int)) (pl:List Int) (E:Nat) (cc:List (List Int)) (ss nu:List Int) (co:Int) (hB:hallB X Y wh bll pl E cc ss nu co=true):PC Tryz.prog 81 [.g [dI X,dI Y,dI wh,eII bll,eI pl,dI E,eII cc,eI ss,eI nu,dI co],.c (dT [112,108,97,121])] (.t [.c (dT (sayL pl)),.c (dB true)]):=by
 have hb:=jcz hB;have n2:=hb.n2;have l9:=hb.l9;have c10:=hb.c10;have p6:=hb.p6;refine jao Tryz.func81 fun _=>?_;repeat' (first|refine Vas ?_|apply Ub (c:=listReply_p pl (jip hb.hpl) Kf) (h:=?_))
 all_goals refine Ral ?_
 all_goals rfl
theorem asked2 (X Y:Nat) (wh:Int) (bll:List (List Int)) (pl:List Int) (E:Nat) (cc:List (List Int)) (ss nu:List Int) (co:Int) (hB:hallB X Y wh bll pl E cc ss nu co=true):PC Tryz.prog 81 [.g [dI X,dI Y,dI wh,eII bll,eI pl,dI E,eII cc,eI ss,eI nu,dI co],.c (dT [115,104,97,114,101])] (.t [.c (dT (txtZ (leastN wh (chanceF Y X bll pl) (Y*X)))),.c (dB true)]):=by
 have hb:=jcz hB;have n2:=hb.n2;have l9:=hb.l9;have c10:=hb.c10;have p6:=hb.p6;have p:=PlayChance_p X Y wh bll pl E cc ss nu co;rw [hB] at p;simp only [whenN,if_true,Int.toNat_natCast] at p;have q:=numberReply_p _ (jlt hb.hbox hb.hpl);generalize leastN wh (chanceF Y X bll pl) (Y*X)=v at *;refine jao Tryz.func81 fun _=>?_;repeat' (first|refine Vas ?_|apply Ub (c:=p) (h:=?_)|apply Ub (c:=q) (h:=?_))
 all_goals refine Ral ?_
 all_goals rfl
theorem asked3 (X Y:Nat) (wh:Int) (bll:List (List Int)) (pl:List Int) (E:Nat) (cc:List (List Int)) (ss nu:List Int) (co:Int) (hB:hallB X Y wh bll pl E cc ss nu co=true):PC Tryz.prog 81 [.g [dI X,dI Y,dI wh,eII bll,eI pl,dI E,eII cc,eI ss,eI nu,dI co],.c (dT [113,117,105,101,116])] (.t [.c (dT (sayB (quietG bll X Y))),.c (dB true)]):=by
 have hb:=jcz hB;have n2:=hb.n2;have l9:=hb.l9;have c10:=hb.c10;have p6:=hb.p6;have p:=IsQuietG_p X Y wh bll hb.hbox;generalize quietG bll X Y=v at *;refine jao Tryz.func81 fun _=>?_;repeat' (first|refine Vas ?_|apply Ub (c:=p) (h:=?_)|apply Ub (c:=reportReply_p v true) (h:=?_))
 all_goals refine Ral ?_
 all_goals rfl
theorem asked4 (X Y:Nat) (wh:Int) (bll:List (List Int)) (pl:List Int) (E:Nat) (cc:List (List Int)) (ss nu:List Int) (co:Int) (hB:hallB X Y wh bll pl E cc ss nu co=true):PC Tryz.prog 81 [.g [dI X,dI Y,dI wh,eII bll,eI pl,dI E,eII cc,eI ss,eI nu,dI co],.c (dT [97,103,114,101,101])] (.t [.c (dT (sayL (agrsL bll))),.c (dB true)]):=by
 have hb:=jcz hB;have n2:=hb.n2;have l9:=hb.l9;have c10:=hb.c10;have p6:=hb.p6;have p:=AgreementsOf_p X Y wh bll hb.hbox;have q:=listReply_p _ (jit hb.hbox) (by unfold agrsL;rw [rowF_len];omega);generalize agrsL bll=v at *;refine jao Tryz.func81 fun _=>?_;repeat' (first|refine Vas ?_|apply Ub (c:=q) (h:=?_)|apply Ub (c:=p) (h:=?_))
 all_goals refine Ral ?_
 all_goals rfl
theorem asked5 (X Y:Nat) (wh:Int) (bll:List (List Int)) (pl:List Int) (E:Nat) (cc:List (List Int)) (ss nu:List Int) (co:Int) (hB:hallB X Y wh bll pl E cc ss nu co=true):PC Tryz.prog 81 [.g [dI X,dI Y,dI wh,eII bll,eI pl,dI E,eII cc,eI ss,eI nu,dI co],.c (dT [103,114,101,97,116])] (.t [.c (dT (txtZ (greatI bll X Y))),.c (dB true)]):=by
 have hb:=jcz hB;have n2:=hb.n2;have l9:=hb.l9;have c10:=hb.c10;have p6:=hb.p6;have p:=GreatestSum_p X Y wh bll hb.hbox;have q:=numberReply_p _ (jnq hb.hbox);generalize greatI bll X Y=v at *;refine jao Tryz.func81 fun _=>?_;repeat' (first|refine Vas ?_|apply Ub (c:=q) (h:=?_)|apply Ub (c:=p) (h:=?_))
 all_goals refine Ral ?_
 all_goals rfl
theorem asked6 (X Y:Nat) (wh:Int) (bll:List (List Int)) (pl:List Int) (E:Nat) (cc:List (List Int)) (ss nu:List Int) (co:Int) (hB:hallB X Y wh bll pl E cc ss nu co=true):PC Tryz.prog 81 [.g [dI X,dI Y,dI wh,eII bll,eI pl,dI E,eII cc,eI ss,eI nu,dI co],.c (dT [108,111,99,97,108])] (.t [.c (dT (sayB (localB bll X Y wh))),.c (dB true)]):=by
 have hb:=jcz hB;have n2:=hb.n2;have l9:=hb.l9;have c10:=hb.c10;have p6:=hb.p6;have p:=IsLocal_p X Y wh bll hb.hbox;generalize localB bll X Y wh=v at *;refine jao Tryz.func81 fun _=>?_;repeat' (first|refine Vas ?_|apply Ub (c:=reportReply_p v true) (h:=?_)|apply Ub (c:=p) (h:=?_))
 all_goals refine Ral ?_
 all_goals rfl
theorem asked7 (X Y:Nat) (wh:Int) (bll:List (List Int)) (pl:List Int) (E:Nat) (cc:List (List Int)) (ss nu:List Int) (co:Int) (hB:hallB X Y wh bll pl E cc ss nu co=true):PC Tryz.prog 81 [.g [dI X,dI Y,dI wh,eII bll,eI pl,dI E,eII cc,eI ss,eI nu,dI co],.c (dT [107,101,112,116])] (.t [.c (dT (sayL (keptK cc ss nu cc.length))),.c (dB true)]):=by
 have hb:=jcz hB;have n2:=hb.n2;have l9:=hb.l9;have c10:=hb.c10;have p6:=hb.p6;have p:=KeptBy_p E cc ss nu hb.hsc hb.hnu;have q:=listReply_p _ (jil (cc:=cc) (ss:=ss) (nu:=nu) c10) (by have:=jfn cc ss nu cc.length;omega);generalize keptK cc ss nu cc.length=v at *;refine jao Tryz.func81 fun _=>?_;repeat' (first|refine Vas ?_|apply Ub (c:=q) (h:=?_)|apply Ub (c:=p) (h:=?_))
 all_goals refine Ral ?_
 all_goals rfl
theorem asked8 (X Y:Nat) (wh:Int) (bll:List (List Int)) (pl:List Int) (E:Nat) (cc:List (List Int)) (ss nu:List Int) (co:Int) (hB:hallB X Y wh bll pl E cc ss nu co=true):PC Tryz.prog 81 [.g [dI X,dI Y,dI wh,eII bll,eI pl,dI E,eII cc,eI ss,eI nu,dI co],.c (dT [115,111,108,118,101,100])] (.t [.c (dT (sayB (decide ((keptK cc ss nu cc.length).length=cc.length)))),.c (dB true)]):=by
 have hb:=jcz hB;have n2:=hb.n2;have l9:=hb.l9;have c10:=hb.c10;have p6:=hb.p6;have p:=SolvesScene_p E cc ss nu hb.hsc hb.hnu;generalize decide ((keptK cc ss nu cc.length).length=cc.length)=v at *;refine jao Tryz.func81 fun _=>?_;repeat' (first|refine Vas ?_|apply Ub (c:=reportReply_p v true) (h:=?_)|apply Ub (c:=p) (h:=?_))
 all_goals refine Ral ?_
 all_goals rfl
theorem asked9y (X Y:Nat) (wh:Int) (bll:List (List Int)) (pl:List Int) (E:Nat) (cc:List (List Int)) (ss nu:List Int) (co:Int) (hB:hallB X Y wh bll pl E cc ss nu co=true) (hx:bestF cc ss (2^cc.length)≠[]):PC Tryz.prog 81 [.g [dI X,dI Y,dI wh,eII bll,eI pl,dI E,eII cc,eI ss,eI nu,dI co],.c (dT [112,114,111,111,102])] (.t [.c (dT (sayL (bestF cc ss (2^cc.length)))),.c (dB true)]):=by
 have hb:=jcz hB;have n2:=hb.n2;have l9:=hb.l9;have c10:=hb.c10;have p6:=hb.p6;have p:=FindParityProof_p E cc ss hb.hsc;rw [decide_eq_true hx] at p;have q:=listReply_p _ (best_small (cc:=cc) (ss:=ss) c10 (2^cc.length)) (by have:=jkf cc ss (2^cc.length);omega);generalize bestF cc ss (2^cc.length)=v at *;refine jao Tryz.func81 fun _=>?_;repeat' (first|refine Vas ?_|apply Ub (c:=q) (h:=?_)|apply Ub (c:=p) (h:=?_))
 all_goals refine Ral ?_
 all_goals rfl
theorem asked9n (X Y:Nat) (wh:Int) (bll:List (List Int)) (pl:List Int) (E:Nat) (cc:List (List Int)) (ss nu:List Int) (co:Int) (hB:hallB X Y wh bll pl E cc ss nu co=true) (hx:bestF cc ss (2^cc.length)=[]):PC Tryz.prog 81 [.g [dI X,dI Y,dI wh,eII bll,eI pl,dI E,eII cc,eI ss,eI nu,dI co],.c (dT [112,114,111,111,102])] (.t [.c (dT []),.c (dB false)]):=by
 have hb:=jcz hB;have n2:=hb.n2;have l9:=hb.l9;have c10:=hb.c10;have p6:=hb.p6;have p:=FindParityProof_p E cc ss hb.hsc;rw [decide_eq_false (fun h=>h hx),hx] at p;have q:=jln [];refine jao Tryz.func81 fun _=>?_;repeat' (first|refine Vas ?_|apply Ub (c:=q) (h:=?_)|apply Ub (c:=p) (h:=?_))
 all_goals refine Ral ?_
 all_goals rfl
theorem asked10 (X Y:Nat) (wh:Int) (bll:List (List Int)) (pl:List Int) (E:Nat) (cc:List (List Int)) (ss nu:List Int) (co:Int) (hB:hallB X Y wh bll pl E cc ss nu co=true):PC Tryz.prog 81 [.g [dI X,dI Y,dI wh,eII bll,eI pl,dI E,eII cc,eI ss,eI nu,dI co],.c (dT [109,111,115,116])] (.t [.c (dT (txtZ (mostF cc ss E (2^E)).1)),.c (dB true)]):=by
 have hb:=jcz hB;have n2:=hb.n2;have l9:=hb.l9;have c10:=hb.c10;have p6:=hb.p6;have p:=MostKept_p E cc ss hb.hsc;have q:=numberReply_p _ (most_small (cc:=cc) (ss:=ss) c10 E (2^E));generalize (mostF cc ss E (2^E)).1=v at *;refine jao Tryz.func81 fun _=>?_;repeat' (first|(refine jaa (.call ⟨.value (.func 137),_,_⟩) ?_;((apply jep (fid:=137);exact Yac;(·exact p);(·rfl);(rintro _ ⟨l,rfl⟩))))|refine Vas ?_|apply Ub (c:=q) (h:=?_))
 all_goals refine Ral ?_
 all_goals rfl
theorem asked11 (X Y:Nat) (wh:Int) (bll:List (List Int)) (pl:List Int) (E:Nat) (cc:List (List Int)) (ss nu:List Int) (co:Int) (hB:hallB X Y wh bll pl E cc ss nu co=true):PC Tryz.prog 81 [.g [dI X,dI Y,dI wh,eII bll,eI pl,dI E,eII cc,eI ss,eI nu,dI co],.c (dT [114,97,110,107])] (.t [.c (dT (txtZ ((basM (masksM cc)).length:Nat))),.c (dB true)]):=by
 have hb:=jcz hB;have n2:=hb.n2;have l9:=hb.l9;have c10:=hb.c10;have p6:=hb.p6;have p:PC Tryz.prog 138 [.g [dI E,eII cc,eI ss]] (.t [.c (dI ((basM (masksM cc)).length:Nat)),.c (dB true)]):=RankOfScene_p E cc ss hb.hsc;have q:=numberReply_p _ (jpc (cc:=cc) c10);generalize (basM (masksM cc)).length=v at *;refine jao Tryz.func81 fun _=>?_;repeat' (first|refine Vas ?_|apply Ub (c:=q) (h:=?_)|apply Ub (c:=p) (h:=?_))
 all_goals refine Ral ?_
 all_goals rfl
theorem asked12 (X Y:Nat) (wh:Int) (bll:List (List Int)) (pl:List Int) (E:Nat) (cc:List (List Int)) (ss nu:List Int) (co:Int) (hB:hallB X Y wh bll pl E cc ss nu co=true):PC Tryz.prog 81 [.g [dI X,dI Y,dI wh,eII bll,eI pl,dI E,eII cc,eI ss,eI nu,dI co],.c (dT [112,105,99,107,115])] (.t [.c (dT (txtZ (pickF cc E (2^E):Nat))),.c (dB true)]):=by
 have hb:=jcz hB;have n2:=hb.n2;have l9:=hb.l9;have c10:=hb.c10;have p6:=hb.p6;have p:=CountPicks_p E cc ss hb.hsc;have q:=numberReply_p _ (jpg cc hb.e12);generalize pickF cc E (2^E)=v at *;refine jao Tryz.func81 fun _=>?_;repeat' (first|refine Vas ?_|apply Ub (c:=q) (h:=?_)|apply Ub (c:=p) (h:=?_))
 all_goals refine Ral ?_
 all_goals rfl
theorem asked13y (X Y:Nat) (wh:Int) (bll:List (List Int)) (pl:List Int) (E:Nat) (cc:List (List Int)) (ss nu:List Int) (co:Int) (hB:hallB X Y wh bll pl E cc ss nu co=true) (hx:X=2/\Y=2):PC Tryz.prog 81 [.g [dI X,dI Y,dI wh,eII bll,eI pl,dI E,eII cc,eI ss,eI nu,dI co],.c (dT [99,111,100,101])] (.t [.c (dT (sayL (codeM bll))),.c (dB true)]):=by
 have hb:=jcz hB;have n2:=hb.n2;have l9:=hb.l9;have c10:=hb.c10;have p6:=hb.p6;obtain ⟨rfl,rfl⟩:=hx;have p:PC Tryz.prog 140 [.g [dI ((2:Nat):Int),dI ((2:Nat):Int),dI wh,eII bll]] (.t [.c (eI (codeM bll)),.c (dB true)]):=BoxCode_p wh bll hb.hbox;have q:=listReply_p _ (code_small (n:=wh) hb.hbox) (by simp [codeM]);generalize codeM bll=v at *;refine jao Tryz.func81 fun _=>?_;repeat' (first|refine Vas ?_|apply Ub (c:=q) (h:=?_)|apply Ub (c:=p) (h:=?_))
 all_goals refine Ral ?_
 all_goals rfl
theorem asked13n (X Y:Nat) (wh:Int) (bll:List (List Int)) (pl:List Int) (E:Nat) (cc:List (List Int)) (ss nu:List Int) (co:Int) (hB:hallB X Y wh bll pl E cc ss nu co=true) (hx:¬ (X=2/\Y=2)):PC Tryz.prog 81 [.g [dI X,dI Y,dI wh,eII bll,eI pl,dI E,eII cc,eI ss,eI nu,dI co],.c (dT [99,111,100,101])] (.t [.c (dT []),.c (dB false)]):=by
 have hb:=jcz hB;have n2:=hb.n2;have l9:=hb.l9;have c10:=hb.c10;have p6:=hb.p6;have p:=BoxCode_no X Y wh bll hx;have q:=jln [];refine jao Tryz.func81 fun _=>?_;repeat' (first|refine Vas ?_|apply Ub (c:=q) (h:=?_)|apply Ub (c:=p) (h:=?_))
 all_goals refine Ral ?_
 all_goals rfl
theorem asked14y (X Y:Nat) (wh:Int) (bll:List (List Int)) (pl:List Int) (E:Nat) (cc:List (List Int)) (ss nu:List Int) (co:Int) (hB:hallB X Y wh bll pl E cc ss nu co=true) (hx:chainB bll X Y wh=true) (hv:chainM bll wh<=999999):PC Tryz.prog 81 [.g [dI X,dI Y,dI wh,eII bll,eI pl,dI E,eII cc,eI ss,eI nu,dI co],.c (dT [99,104,97,105,110])] (.t [.c (dT (txtZ (chainM bll wh))),.c (dB true)]):=by
 have hb:=jcz hB;have n2:=hb.n2;have l9:=hb.l9;have c10:=hb.c10;have p6:=hb.p6;have hx2:=hx;simp only [chainB,Bool.and_eq_true,decide_eq_true_eq] at hx2;obtain ⟨⟨hq,rfl,rfl⟩,hn⟩:=hx2;have p:PC Tryz.prog 141 [.g [dI ((2:Nat):Int),dI ((2:Nat):Int),dI wh,eII bll]] (.t [.c (dI (chainM bll wh)),.c (dB true)]):=ChainLeast_p wh bll hb.hbox hq hn;have q:=numberReply_p (chainM bll wh) ⟨chain_lo bll hb.hbox hn,hv⟩;generalize chainM bll wh=v at *;refine jao Tryz.func81 fun _=>?_;repeat' (first|refine Vas ?_|apply Ub (c:=q) (h:=?_)|apply Ub (c:=p) (h:=?_))
 all_goals refine Ral ?_
 all_goals rfl
theorem asked14b (X Y:Nat) (wh:Int) (bll:List (List Int)) (pl:List Int) (E:Nat) (cc:List (List Int)) (ss nu:List Int) (co:Int) (hB:hallB X Y wh bll pl E cc ss nu co=true) (hx:chainB bll X Y wh=true) (hv:¬ chainM bll wh<=999999):PC Tryz.prog 81 [.g [dI X,dI Y,dI wh,eII bll,eI pl,dI E,eII cc,eI ss,eI nu,dI co],.c (dT [99,104,97,105,110])] (.t [.c (dT []),.c (dB false)]):=by
 have hb:=jcz hB;have n2:=hb.n2;have l9:=hb.l9;have c10:=hb.c10;have p6:=hb.p6;have hx2:=hx;simp only [chainB,Bool.and_eq_true,decide_eq_true_eq] at hx2;obtain ⟨⟨hq,rfl,rfl⟩,hn⟩:=hx2;have p:PC Tryz.prog 141 [.g [dI ((2:Nat):Int),dI ((2:Nat):Int),dI wh,eII bll]] (.t [.c (dI (chainM bll wh)),.c (dB true)]):=ChainLeast_p wh bll hb.hbox hq hn;have q:=jne (chainM bll wh) (.inr Kf);generalize chainM bll wh=v at *;refine jao Tryz.func81 fun _=>?_;repeat' (first|refine Vas ?_|apply Ub (c:=q) (h:=?_)|apply Ub (c:=p) (h:=?_))
 all_goals refine Ral ?_
 all_goals rfl
theorem asked14n (X Y:Nat) (wh:Int) (bll:List (List Int)) (pl:List Int) (E:Nat) (cc:List (List Int)) (ss nu:List Int) (co:Int) (hB:hallB X Y wh bll pl E cc ss nu co=true) (hx:chainB bll X Y wh=false):PC Tryz.prog 81 [.g [dI X,dI Y,dI wh,eII bll,eI pl,dI E,eII cc,eI ss,eI nu,dI co],.c (dT [99,104,97,105,110])] (.t [.c (dT []),.c (dB false)]):=by
 have hb:=jcz hB;have n2:=hb.n2;have l9:=hb.l9;have c10:=hb.c10;have p6:=hb.p6;have p:=ChainLeast_no X Y wh bll hb.hbox hx;have q:=jon 0;refine jao Tryz.func81 fun _=>?_;repeat' (first|refine Vas ?_|apply Ub (c:=q) (h:=?_)|apply Ub (c:=p) (h:=?_))
 all_goals refine Ral ?_
 all_goals rfl
theorem asked_no (X Y:Nat) (wh:Int) (bll:List (List Int)) (pl:List Int) (E:Nat) (cc:List (List Int)) (ss nu:List Int) (co:Int) (w:Tx) (hw:w ∉ quesW):PC Tryz.prog 81 [.g [dI X,dI Y,dI wh,eII bll,eI pl,dI E,eII cc,eI ss,eI nu,dI co],.c (dT w)] (.t [.c (dT []),.c (dB false)]):=by
 simp only [quesW,List.mem_cons,List.not_mem_nil,or_false,not_or] at hw;obtain ⟨h0,h1,h2,h3,h4,h5,h6,h7,h8,h9,h10,h11,h12,h13,h14⟩:=hw;refine jao Tryz.func81 fun _=>?_;repeat' (first|refine Vas ?_|refine jbd rfl (fun hc=>absurd hc Yak) (fun _=>?_))
 all_goals refine Ral ?_
 all_goals rfl
theorem askedH_p (X Y:Nat) (wh:Int) (bll:List (List Int)) (pl:List Int) (E:Nat) (cc:List (List Int)) (ss nu:List Int) (co:Int) (hB:hallB X Y wh bll pl E cc ss nu co=true) (w:Tx):PC Tryz.prog 81 [.g [dI X,dI Y,dI wh,eII bll,eI pl,dI E,eII cc,eI ss,eI nu,dI co],.c (dT w)] (.t [.c (dT ((quesO ⟨(X:Int),(Y:Int),wh,bll,pl,(E:Int),cc,ss,nu,co⟩ w).getD [])),.c (dB (quesO ⟨(X:Int),(Y:Int),wh,bll,pl,(E:Int),cc,ss,nu,co⟩ w).isSome)]):=by
  by_cases hw:w∈quesW
  · obtain ⟨j,hj,rfl⟩:∃ j,j < 15/\w=quesW.getD j []:=by
      obtain ⟨j,hj,rfl⟩:=List.getElem_of_mem hw;exact ⟨j,hj,by rw [List.getD_eq_getElem?_getD,List.getElem?_eq_getElem hj];rfl⟩
    rw [quesO_at _ j hj];clear hw;rcases (by omega:j=0∨j=1∨j=2∨j=3∨j=4∨j=5∨j=6∨j=7∨j=8∨j=9∨j=10∨j=11∨j=12∨j=13∨j=14) with rfl|rfl|rfl|rfl|rfl|rfl|rfl|rfl|rfl|rfl|rfl|rfl|rfl|rfl|rfl
    · exact asked0 X Y wh bll pl E cc ss nu co hB
    · exact asked1 X Y wh bll pl E cc ss nu co hB
    · exact asked2 X Y wh bll pl E cc ss nu co hB
    · exact asked3 X Y wh bll pl E cc ss nu co hB
    · exact asked4 X Y wh bll pl E cc ss nu co hB
    · exact asked5 X Y wh bll pl E cc ss nu co hB
    · exact asked6 X Y wh bll pl E cc ss nu co hB
    · exact asked7 X Y wh bll pl E cc ss nu co hB
    · exact asked8 X Y wh bll pl E cc ss nu co hB
    · by_cases hx : bestF cc ss (2 ^ cc.length) = []
      · have e : quesQ ⟨(X : Int), (Y : Int), wh, bll, pl, (E : Int), cc, ss, nu, co⟩ 9 = none := if_pos hx
        rw [e];exact asked9n X Y wh bll pl E cc ss nu co hB hx
      · have e : quesQ ⟨(X : Int), (Y : Int), wh, bll, pl, (E : Int), cc, ss, nu, co⟩ 9 = some (sayL (bestF cc ss (2 ^ cc.length))) := if_neg hx
        rw [e];exact asked9y X Y wh bll pl E cc ss nu co hB hx
    · exact asked10 X Y wh bll pl E cc ss nu co hB
    · exact asked11 X Y wh bll pl E cc ss nu co hB
    · exact asked12 X Y wh bll pl E cc ss nu co hB
    · by_cases hx : X = 2 /\ Y = 2
      · have e : quesQ ⟨(X : Int), (Y : Int), wh, bll, pl, (E : Int), cc, ss, nu, co⟩ 13 = some (sayL (codeM bll)) := if_pos hx
        rw [e];exact asked13y X Y wh bll pl E cc ss nu co hB hx
      · have e : quesQ ⟨(X : Int), (Y : Int), wh, bll, pl, (E : Int), cc, ss, nu, co⟩ 13 = none := if_neg hx
        rw [e];exact asked13n X Y wh bll pl E cc ss nu co hB hx
    · by_cases hx : chainB bll X Y wh = true
      · by_cases hv : chainM bll wh <= 999999
        · have e : quesQ ⟨(X : Int), (Y : Int), wh, bll, pl, (E : Int), cc, ss, nu, co⟩ 14 = some (txtZ (chainM bll wh)) := if_pos ⟨hx, hv⟩
          rw [e];exact asked14y X Y wh bll pl E cc ss nu co hB hx hv
        · have e : quesQ ⟨(X : Int), (Y : Int), wh, bll, pl, (E : Int), cc, ss, nu, co⟩ 14 = none := if_neg fun h => hv h.2
          rw [e];exact asked14b X Y wh bll pl E cc ss nu co hB hx hv
      · have e : quesQ ⟨(X : Int), (Y : Int), wh, bll, pl, (E : Int), cc, ss, nu, co⟩ 14 = none := if_neg fun h => hx h.1
        rw [e];exact asked14n X Y wh bll pl E cc ss nu co hB (by simpa using hx)
  · rw [quesO_no hw]
    exact asked_no X Y wh bll pl E cc ss nu co w hw
end
section
variable [Glb]
def ixW (w:Tx) (l:List Tx):Int:=if wordJ w l < l.length then (wordJ w l:Int) else -1
theorem wordJ_at {w:Tx}:∀ {l:List Tx} {k:Nat} (h:k < l.length),w ∉ l.take k->w=l[k]->wordJ w l=k
 | x :: r,0,_,_,e=>by unfold wordJ;rw [if_pos (by simpa using e)]
 | x :: r,k+1,h,hn,e=>by
  rw [List.take_succ_cons,List.mem_cons,not_or] at hn;unfold wordJ;rw [if_neg hn.1,wordJ_at (l:=r) (k:=k) (by simpa using h) hn.2 (by simpa using e)]
theorem slIndexW_p (l:List Tx) (x:Tx) (hl:l.length<=1000):PC Tryz.prog 123 [.c (eT l),.c (dT x)] (.p (.c (dI (ixW x l)))):=by
  refine jao Tryz.func123 fun _=>?_;repeat' (first|apply zaa ?_|apply zab ?_|apply zce ?_|refine jai ?_|refine jaj ?_|refine jah ?_|refine jac ?_)
  apply jbe [0,1,7,8] [] rfl;exact Ky;exact Yar;refine jbf [0,1,7] [] (fun k=>[(8,iN k)]) (fun _=>[]) (fun k=>k<=l.length/\x ∉ l.take k) (fun k=>l.length - k) (0) ?_ Kg Kv ?_
  · simp
  rintro k ⟨hk,ht⟩;by_cases h:k < l.length
  · by_cases he : x = l[k]
    · have e : ixW x l = (k : Int) := by unfold ixW;rw [wordJ_at h ht he, if_pos h]
      have ea:x=atZ l (k:Int):=by rw [jby h];exact he
      rw [e];repeat' (first|apply zaa ?_|apply zab ?_|apply zac ?_|apply zcc ?_|apply zbr ?_|apply zau ?_|apply zad ?_|refine jai ?_|refine jaj ?_|refine jah ?_|refine jaz ?_|refine jaq rfl ?_|refine jam ?_|refine jac ?_|refine jbd rfl (fun hc=>?_) (fun hc=>?_))
      all_goals first|(exfalso;omega)|contradiction|skip
      all_goals refine Rad ?_
      all_goals rfl
    · have hn:x ∉ l.take (k+1):=by
        rw [List.take_succ_eq_append_getElem h,List.mem_append,List.mem_singleton,not_or];exact ⟨ht,he⟩
      have ea:x≠atZ l (k:Int):=by rw [jby h];exact he
      repeat' (first|apply zaa ?_|apply zab ?_|apply zac ?_|apply zcc ?_|apply zbr ?_|apply zau ?_|apply zad ?_|refine jai ?_|refine jaj ?_|refine jah ?_|refine jaz ?_|refine jaq rfl ?_|refine jam ?_|refine jac ?_|refine jbd rfl (fun hc=>?_) (fun hc=>?_))
      all_goals first|(exfalso;omega)|contradiction|skip
      refine bkL (k+1) ?_ ?_
      · exact ⟨by omega,hn⟩
      · omega
  · obtain rfl : k = l.length := by omega
    rw [List.take_length] at ht;have e:ixW x l = -1:=by unfold ixW;rw [wordJ_no ht,if_neg Kf]
    rw [e];repeat' (first|apply zaa ?_|apply zab ?_|apply zac ?_|apply zcc ?_|apply zbr ?_|apply zau ?_|apply zad ?_|refine jai ?_|refine jaj ?_|refine jah ?_|refine jaz ?_|refine jaq rfl ?_|refine jam ?_|refine jac ?_|refine jbd rfl (fun hc=>?_) (fun hc=>?_)|exact Qaa|exact Rav|fail)
theorem callOf_c (w:Tx) (ns:List Int) (k a:Int) (ok:Bool) (hl:ns.length<=1000000) (h:callO w ns=if ok=true then some (k,a) else none) (hz:ok=false->k=0/\a=0):PC Tryz.prog 78 [.c (dT w),.c (eI ns)] (.t [.g [dI k,dI a],.c (dB ok)]):=by
 have e:ixW w callW+1=(kindN w:Int):=by
  unfold ixW kindN;have:callW.length=7:=rfl;rw [this];split <;> omega
 have k7:kindN w<=7:=by unfold kindN;split <;> omega
 have ip:=slIndexW_p callW w Ybr;have ix:ixW w callW=(kindN w:Int) - 1:=by omega
 rw [ix] at ip;clear e ix;unfold callO at h;generalize kindN w=K at *;by_cases h0:K=0
 ·rw [if_pos h0] at h;cases ok with
  | true=>cases h
  | false =>
   obtain ⟨rfl,rfl⟩:=hz rfl;refine jao Tryz.func78 fun _=>?_;repeat' (first|(refine jaa (.alloc 110) ?_;refine jbi (zs:=[.int .i64 0,.int .i64 0]) Kb rfl ?_)|apply zaa ?_|(refine jaa (.buildSlice 35 7 _) ?_;(apply jaw (sz:=1) (by_:=16);exact Kb;exact Ybr;exact Kl;exact Ybr;(·rfl);(·rfl);(·rfl)))|apply zab ?_|apply zad ?_|apply zai ?_|apply zah ?_|apply zas ?_|apply zcy ?_|(refine jaa (.store 110 _ _) ?_;(refine jan rfl rfl rfl Kb rfl rfl ?_))|apply zag ?_|apply zal ?_|apply zap ?_|apply Ub (c:=ip) (h:=?_)|refine jai ?_|refine jbn rfl rfl rfl rfl ?_|refine jbj rfl rfl rfl rfl ?_|refine jcc rfl rfl (fun hg=>?_) (fun hg=>?_)|refine jdf rfl rfl (fun hg=>?_) (fun hg=>?_)|refine jaj ?_|refine jah ?_|refine jaz ?_|refine jam ?_|refine jac ?_|refine jay rfl ?_|refine jbd rfl (fun hc=>?_) (fun hc=>?_)|exact Qab|exact Rfe|fail)
 ·rw [if_neg h0] at h;by_cases h4:K=4∨K=5
  ·rw [if_pos h4] at h;by_cases hn:ns.length=0
   ·exact Dac
   ·exact Dae
  ·rw [if_neg h4] at h;by_cases hn:ns.length=1
   ·exact Dac
   ·exact Dae
end
section
variable [Glb]
variable [GTab Tryz.prog tabNm]
theorem called_p (X Y:Nat) (wh:Int) (bll:List (List Int)) (pl:List Int) (E:Nat) (cc:List (List Int)) (ss nu:List Int) (co:Int) (hB:hallB X Y wh bll pl E cc ss nu co=true) (k:Int):PC Tryz.prog 80 [.g [dI X,dI Y,dI wh,eII bll,eI pl,dI E,eII cc,eI ss,eI nu,dI co],.c (dI k)] (.t [.c (dT (toldH ⟨X,Y,wh,bll,pl,E,cc,ss,nu,co⟩ k)),.c (dB true)]):=by
 have hb:=jcz hB;have n1:=hb.n1;have n2:=hb.n2;have l9:=hb.l9;have c10:=hb.c10;have p6:=hb.p6;unfold toldH;dsimp only;by_cases h1:k=1∨k=5
 ·rw [if_pos h1];have q:=numberReply_p wh Kf;refine jao Tryz.func80 fun _=>?_;repeat' (first|(refine jaa (.box 41 _) ?_;refine jax rfl rfl ?_)|apply zaa ?_|apply zab ?_|apply zai ?_|apply zay ?_|apply zbh ?_|apply zaf ?_|apply zaj ?_|apply zae ?_|apply zbj ?_|apply zam ?_|apply zbl ?_|apply zax ?_|apply zbg ?_|apply Ub (c:=q) (h:=?_)|refine jai ?_|refine jaj ?_|refine jah ?_|refine jaz ?_|refine jam ?_|refine jac ?_|refine jbd rfl (fun hc=>?_) (fun hc=>?_)|exact Qaa|exact Rbl|fail)
 ·rw [if_neg h1];by_cases h3:k=3
  ·rw [if_pos h3];have p:=AgreementsOf_p X Y wh bll hb.hbox;have q:=listReply_p _ (jit hb.hbox) (by unfold agrsL;rw [rowF_len];omega);generalize agrsL bll=v at *;refine jao Tryz.func80 fun _=>?_;repeat' (first|(refine jaa (.box 41 _) ?_;refine jax rfl rfl ?_)|apply zaa ?_|apply zab ?_|apply zai ?_|apply zay ?_|apply zbh ?_|apply zaf ?_|apply zaj ?_|apply zae ?_|apply zbj ?_|apply zam ?_|apply zbl ?_|apply zax ?_|apply zbg ?_|apply Ub (c:=p) (h:=?_)|apply Ub (c:=q) (h:=?_)|refine jai ?_|refine jaj ?_|refine jah ?_|refine jaz ?_|refine jam ?_|refine jac ?_|refine jbd rfl (fun hc=>?_) (fun hc=>?_)|exact Qaa|exact Rbl|fail)
  ·rw [if_neg h3];by_cases h6:k=6∨k=7
   ·rw [if_pos h6];have p:=KeptBy_p E cc ss nu hb.hsc hb.hnu;have q:=listReply_p _ (jil (cc:=cc) (ss:=ss) (nu:=nu) c10) (by have:=jfn cc ss nu cc.length;omega);generalize keptK cc ss nu cc.length=v at *;refine jao Tryz.func80 fun _=>?_;repeat' (first|(refine jaa (.box 41 _) ?_;refine jax rfl rfl ?_)|apply zaa ?_|apply zab ?_|apply zai ?_|apply zay ?_|apply zbh ?_|apply zaf ?_|apply zaj ?_|apply zae ?_|apply zbj ?_|apply zam ?_|apply zbl ?_|apply zax ?_|apply zbg ?_|apply Ub (c:=q) (h:=?_)|apply Ub (c:=p) (h:=?_)|refine jai ?_|refine jaj ?_|refine jah ?_|refine jaz ?_|refine jam ?_|refine jac ?_|refine jbd rfl (fun hc=>?_) (fun hc=>?_)|exact Qaa|exact Rbl|fail)
   ·rw [if_neg h6];have q:=listReply_p pl (jip hb.hpl) Kf;refine jao Tryz.func80 fun _=>?_;repeat' (first|(refine jaa (.box 41 _) ?_;refine jax rfl rfl ?_)|apply zaa ?_|apply zab ?_|apply zai ?_|apply zay ?_|apply zbh ?_|apply zaf ?_|apply zaj ?_|apply zae ?_|apply zbj ?_|apply zam ?_|apply zbl ?_|apply zax ?_|apply zbg ?_|apply Ub (c:=q) (h:=?_)|refine jai ?_|refine jaj ?_|refine jah ?_|refine jaz ?_|refine jam ?_|refine jac ?_|refine jbd rfl (fun hc=>?_) (fun hc=>?_)|exact Qaa|exact Rbl|fail)
end
section
variable [Glb]
open Go.Shelf Go.Proofs
def Tryz.lays144_ren_strings_Contains_one:Go.Shelf.Ren:=⟨fun | 144=>206 | 143=>94 | 219=>150 | 217=>210 | 225=>211 | 224=>212 | 267=>213 | 266=>259 | 314=>260 | n=>n,fun | 9=>9 | 4=>4 | 3=>3 | 5=>5 | 46=>180 | 146=>250 | 51=>249 | n=>n,fun | 1=>0 | n=>n⟩
theorem Tryz.lays144_strings_Contains_one:Go.Proofs.Lays.n144 Tryz.prog Tryz.lays144_ren_strings_Contains_one:={
 mixed:=by kernel_rfl
 f143:=Tryz.func94.trans (congrArg some Kb)
 f144:=Tryz.func206.trans (congrArg some Kb)
 f217:=Tryz.func210.trans (congrArg some Kb)
 f219:=Tryz.func150.trans (congrArg some Kb)
 f224:=Tryz.func212.trans (congrArg some Kb)
 f225:=Tryz.func211.trans (congrArg some Kb)
 f266:=Tryz.func259.trans (congrArg some Kb)
 f267:=Tryz.func213.trans (congrArg some Kb)
 f314:=Tryz.func260.trans (congrArg some Kb)
 t3:=Tryz.underlying3
 a3:=Tryz.isAgg3
 z3:=Tryz.sizeOf3
 v3:=Tryz.zeroValue3
 t4:=Tryz.underlying4
 a4:=Tryz.isAgg4
 z4:=Tryz.sizeOf4
 v4:=Tryz.zeroValue4
 t5:=Tryz.underlying5
 a5:=Tryz.isAgg5
 z5:=Tryz.sizeOf5
 v5:=Tryz.zeroValue5
 t9:=Tryz.underlying9
 a9:=Tryz.isAgg9
 z9:=Tryz.sizeOf9
 v9:=Tryz.zeroValue9
 t46:=Tryz.underlying180
 a46:=Tryz.isAgg180
 z46:=Tryz.sizeOf180
 v46:=Tryz.zeroValue180
 t51:=Tryz.underlying249
 a51:=Tryz.isAgg249
 z51:=Tryz.sizeOf249
 v51:=Tryz.zeroValue249
 t146:=Tryz.underlying250
 a146:=Tryz.isAgg250
 z146:=Tryz.sizeOf250
 v146:=Tryz.zeroValue250
 g1:=by kernel_rfl }
open Go.RowKit Go.Lib in
theorem Tryz.strings_Contains_one (s:ByteArray) (c:UInt8) (w:World) :
  Calls Tryz.prog 206 #[.string s,.string ⟨#[c]⟩] w fun e w'=>e = .returned (.bool (decide (0<=Lib.indexByte s.data.toList c)))/\w'=w:=Any.strings_Contains_one Tryz.lays144_strings_Contains_one s c w
end
section
variable [Glb]
theorem strContains_p (s:Tx) (c:UInt8):PC Tryz.prog 206 [.c (dT s),.c (dT [c])] (.p (.c (dB (s.contains c)))) :=
 pc_lit2 (Go.Proofs.enters_of Tryz.func206 Kb rfl) rfl fun w _=>(Tryz.strings_Contains_one (bsT s) c w).mono (by
  rintro e w' ⟨rfl,rfl⟩;rw [jgl,ixB_has];exact ⟨rfl,.refl _ _⟩)
theorem checksum_p (s:Tx):PC Tryz.prog 207 [.c (dT s)] (.p (.c (dI (sumN s)))):=by
 refine jao Tryz.func207 ?_;rintro ⟨hl,-⟩;have hl:=FitT hl;repeat' (first|refine jac ?_|refine Maa ?_|fail)
 apply jbe [0,3,6,7] [] rfl;exact Ky;exact Yar;refine jbf [0,6] [] (fun k=>[(3,iN (sumN (s.take k))),(7,iN k)]) (fun _=>[]) (fun k=>k<=s.length) (fun k=>s.length - k) (0) ?_ Kg Kv ?_
 ·simp
 rintro k hk;have h0:=jmk (s.take k);have hb:=byt_lt s k;by_cases h:k < s.length
 ·exact Dax
 ·exact Dbd
end
section
variable [Glb]
variable [GTab Tryz.prog tabNm]
def acOK (s:Tx):Bool:=decide (s.length<=4000) && !s.contains 35&&decide ((sealT s).length<=4000)
def acT (s:Tx):Tx:=if acOK s=true then sealT s else []
theorem AppendChecksum_p (s:Tx):PC Tryz.prog 142 [.c (dT s)] (.t [.c (dT (acT s)),.c (dB (acOK s))]):=by
 have h0:=jmk s;have h1:=(numS s).2;refine jao Tryz.func142 fun _=>?_;by_cases hk:s.length<=4000
 ·by_cases hc:35∈s
  ·have e:acOK s=false:=by simp [acOK,hc]
   repeat' (first|refine Wbh ?_|refine Wbi ?_|refine jac ?_|refine Maa ?_|apply Ub (c:=strContains_p _ 35) (h:=?_)|apply Ub (c:=checksum_p _) (h:=?_)|apply Ub (c:=itoa_p _ Kf) (h:=?_)|refine jcc rfl rfl (fun hg=>?_) (fun hg=>?_)|refine jbd rfl (fun hc=>?_) (fun hc=>?_)|refine jeh rfl (fun hc=>?_) (fun hc=>?_))
   all_goals first|(exfalso;simp_all;done)|(exfalso;omega)|skip
   all_goals refine Ral ?_
   all_goals simp [acT,e,jnz]
  ·by_cases hs:(sealT s).length<=4000
   ·have e:acOK s=true:=by simp [acOK,hc,hk,hs]
    repeat' (first|refine Wbh ?_|refine Wbi ?_|refine jac ?_|refine Maa ?_|apply Ub (c:=strContains_p _ 35) (h:=?_)|apply Ub (c:=checksum_p _) (h:=?_)|apply Ub (c:=itoa_p _ Kf) (h:=?_)|refine jcc rfl rfl (fun hg=>?_) (fun hg=>?_)|refine jbd rfl (fun hc=>?_) (fun hc=>?_)|refine jeh rfl (fun hc=>?_) (fun hc=>?_))
    all_goals first|(exfalso;simp_all;done)|(exfalso;simp_all [sealT];omega)|skip
    all_goals refine Ral ?_
    all_goals simp [acT,e,sealT]
   ·have e:acOK s=false:=by simp [acOK,hs]
    repeat' (first|refine Wbh ?_|refine Wbi ?_|refine jac ?_|refine Maa ?_|apply Ub (c:=strContains_p _ 35) (h:=?_)|apply Ub (c:=checksum_p _) (h:=?_)|apply Ub (c:=itoa_p _ Kf) (h:=?_)|refine jcc rfl rfl (fun hg=>?_) (fun hg=>?_)|refine jbd rfl (fun hc=>?_) (fun hc=>?_)|refine jeh rfl (fun hc=>?_) (fun hc=>?_))
    all_goals first|(exfalso;simp_all;done)|(exfalso;simp [sealT] at *;omega)|skip
    all_goals refine Ral ?_
    all_goals simp [acT,e,jnz]
 ·have e:acOK s=false:=by simp [acOK,hk]
  repeat' (first|refine Wbh ?_|refine Wbi ?_|refine jac ?_|refine Maa ?_|refine jcc rfl rfl (fun hg=>?_) (fun hg=>?_))
  all_goals first|(exfalso;simp_all;done)|(exfalso;omega)|skip
  all_goals refine Ral ?_
  all_goals simp [acT,e,jnz]
def vcOK (l:Tx):Bool:=acOK (bef 35 l)&&decide (acT (bef 35 l)=l)
def vcT (l:Tx):Tx:=if vcOK l=true then bef 35 l else []
theorem VerifyChecksum_p (l:Tx):PC Tryz.prog 104 [.c (dT l)] (.t [.c (dT (vcT l)),.c (dB (vcOK l))]):=by
 refine jao Tryz.func104 fun _=>?_;repeat' (first|refine Wby ?_|refine Wbh ?_|refine Wbi ?_|refine jac ?_|refine Maa ?_|apply Ub (c:=cut_p _ 35) (h:=?_)|apply Ub (c:=AppendChecksum_p _) (h:=?_)|refine jdf rfl rfl (fun hg=>?_) (fun hg=>?_)|refine jbd rfl (fun hc=>?_) (fun hc=>?_))
 all_goals refine Ral ?_
 all_goals simp_all [vcT,vcOK,jnz]
end
section
variable [Glb]
open Go.Shelf Go.Proofs
def Tryz.lays150_ren_strings_ContainsAny_laid:Go.Shelf.Ren:=⟨fun | 150=>120 | 153=>175 | 152=>227 | 226=>228 | 227=>229 | 228=>230 | 137=>274 | 119=>275 | 224=>212 | 225=>211 | 217=>210 | 266=>259 | n=>n,fun | 9=>9 | 4=>4 | 3=>3 | 5=>5 | 21=>21 | 117=>220 | 116=>219 | 0=>0 | 46=>180 | 124=>257 | n=>n,fun | n=>n⟩
theorem Tryz.lays150_strings_ContainsAny_laid:Go.Proofs.Lays.n150 Tryz.prog Tryz.lays150_ren_strings_ContainsAny_laid:={
 mixed:=by kernel_rfl
 f119:=Tryz.func275.trans (congrArg some Kb)
 f137:=Tryz.func274.trans (congrArg some Kb)
 f150:=Tryz.func120.trans (congrArg some Kb)
 f152:=Tryz.func227.trans (congrArg some Kb)
 f153:=Tryz.func175.trans (congrArg some Kb)
 f217:=Tryz.func210.trans (congrArg some Kb)
 f224:=Tryz.func212.trans (congrArg some Kb)
 f225:=Tryz.func211.trans (congrArg some Kb)
 f226:=Tryz.func228.trans (congrArg some Kb)
 f227:=Tryz.func229.trans (congrArg some Kb)
 f228:=Tryz.func230.trans (congrArg some Kb)
 f266:=Tryz.func259.trans (congrArg some Kb)
 t0:=Tryz.underlying0
 a0:=Tryz.isAgg0
 z0:=Tryz.sizeOf0
 v0:=Tryz.zeroValue0
 t3:=Tryz.underlying3
 a3:=Tryz.isAgg3
 z3:=Tryz.sizeOf3
 v3:=Tryz.zeroValue3
 t4:=Tryz.underlying4
 a4:=Tryz.isAgg4
 z4:=Tryz.sizeOf4
 v4:=Tryz.zeroValue4
 t5:=Tryz.underlying5
 a5:=Tryz.isAgg5
 z5:=Tryz.sizeOf5
 v5:=Tryz.zeroValue5
 t9:=Tryz.underlying9
 a9:=Tryz.isAgg9
 z9:=Tryz.sizeOf9
 v9:=Tryz.zeroValue9
 t21:=Tryz.underlying21
 a21:=Tryz.isAgg21
 z21:=Tryz.sizeOf21
 v21:=Tryz.zeroValue21
 t46:=Tryz.underlying180
 a46:=Tryz.isAgg180
 z46:=Tryz.sizeOf180
 v46:=Tryz.zeroValue180
 t116:=Tryz.underlying219
 a116:=Tryz.isAgg219
 z116:=Tryz.sizeOf219
 t117:=Tryz.underlying220
 a117:=Tryz.isAgg220
 z117:=Tryz.sizeOf220
 v117:=Tryz.zeroValue220
 t124:=Tryz.underlying257
 a124:=Tryz.isAgg257
 z124:=Tryz.sizeOf257
 v124:=Tryz.zeroValue257 }
open Go.RowKit Go.Lib in
theorem Tryz.strings_ContainsAny_laid (s chars:ByteArray) (w:World) (hs:s.size < 4294967281) (hcs:chars.size < 4294967281) (has:∀ (j:Nat) b,s.data.toList[j]? = some b->b.toNat < 128) (hac:∀ (j:Nat) b,chars.data.toList[j]? = some b->b.toNat < 128) :
  Calls Tryz.prog 120 #[.string s,.string chars] w fun e w'=>e = .returned (.bool (Lib.containsAny s.data.toList chars.data.toList))/\Below w.heap.size w w':=Any.strings_ContainsAny_laid Tryz.lays150_strings_ContainsAny_laid Kb s chars w hs hcs has hac
end
section
variable [Glb]
theorem ixA_has (o : Tx) : ∀ s : Tx, Go.Lib.containsAny s o = s.any fun b => o.contains b
 | [] => rfl
 | x :: r=>by
  have ih:=ixA_has o r;unfold Go.Lib.containsAny at ih;rw [List.any_cons,<- ih];show decide (0<=(if o.contains x then 0 else if Go.Lib.indexAny r o == -1 then -1 else Go.Lib.indexAny r o+1))=_;have:=Go.Lib.indexAny_ge o r;cases h:o.contains x with
  | true=>simp
  | false =>
   rw [Bool.false_or];by_cases h3:Go.Lib.indexAny r o = -1
   ·simp [h3]
   ·have h4:(Go.Lib.indexAny r o == -1)=false:=by simpa using h3
    rw [h4];simp only [Bool.false_eq_true,if_false];exact decide_eq_decide.2 ⟨fun _=>by omega,fun _=>by omega⟩
theorem containsAny_p (s o:Tx) (h1:s.length<=4000000) (h2:o.length<=100) (h3:∀ b∈s,b.toNat < 128) (h4:∀ b∈o,b.toNat < 128):PC Tryz.prog 120 [.c (dT s),.c (dT o)] (.p (.c (dB (s.any fun b=>o.contains b)))) :=
 pc_lit2 (Go.Proofs.enters_of Tryz.func120 Kb rfl) rfl fun w _=>(Tryz.strings_ContainsAny_laid (bsT s) (bsT o) w (by rw [jeb];omega) (by rw [jeb];omega) (fun j b hb=>h3 b (by rw [jgl] at hb;exact List.mem_of_getElem? hb)) (fun j b hb=>h4 b (by rw [jgl] at hb;exact List.mem_of_getElem? hb))).mono (by
  rintro e w' ⟨rfl,hb⟩;rw [jgl,jgl,ixA_has];exact ⟨rfl,hb⟩)
theorem plB_f {s:Tx} {k:Nat} {most:Int} {o:Tx} (h:k < s.length) (e:byt s k < 32∨126 < byt s k):plainB s most o=false:=by
 have:s.all plB=false:=by
  refine jlu h ?_;rw [jfw h] at e;simp [plB]; omega
 unfold plainB;rw [this];rfl
theorem plB_go {s:Tx} {k:Nat} (h:k < s.length) (e:¬ byt s k < 32) (e2:¬ 126 < byt s k) (ht:(s.take k).all plB=true):(s.take (k+1)).all plB=true:=by
 rw [jdw _ _ _ h,ht,Bool.true_and];rw [jfw h] at e e2;simp [plB]; omega
theorem Vbl {G G':Prop} (h:G') (t:Laa G'->G:=by intro h;first|(first|exact Wbh h.o|exact Wbi h.o|exact jac h.o|exact Maa h.o|apply zcb h.o|apply zdb h.o|apply zdc h.o|fail);done|fail):G:=t ⟨h⟩
theorem isPlain_p (s o:Tx) (most:Int) (h1:most<=4000000) (h2:o.length<=100) (h4:∀ b∈o,b.toNat < 128):PC Tryz.prog 76 [.c (dT s),.c (dI most),.c (dT o)] (.p (.c (dB (plainB s most o)))):=by
 refine jao Tryz.func76 ?_;rintro ⟨hl,-⟩;have hl:=FitT hl;repeat' (first|refine Vbl ?_|fail)
 apply jbe [0,1,2,9,10] [] rfl;exact Ky;exact Yar;refine jbf [0,1,2,9] [] (fun k=>[(10,iN k)]) (fun _=>[]) (fun k=>k<=s.length/\(s.take k).all plB=true) (fun k=>s.length - k) (0) ?_ Kg Kv ?_
 ·simp
 rintro k ⟨hk,ht⟩;have hb:=byt_lt s k;by_cases h:k < s.length
 ·repeat' (first|refine Vbl ?_|refine jcc rfl rfl (fun hg=>?_) (fun hg=>?_)|refine jbd rfl (fun hc=>?_) (fun hc=>?_)|exact Qaa|fail)
  ·refine Rad ?_;rw [plB_f h (.inl Yak)]
  ·refine Rad ?_;rw [plB_f h (.inr Kf)]
  ·refine bkL (k+1) ?_ ?_
   ·exact ⟨by omega,plB_go h Yak Kf ht⟩
   ·omega
 ·have:k=s.length:=by omega
  subst this;rw [List.take_length] at ht;have h3:∀ b∈s,b.toNat < 128:=fun b hb=>by
   have:=List.all_eq_true.1 ht b hb;simp [plB] at this;omega
  by_cases hm:(s.length:Int)<=most
  ·have h5:s.length<=4000000:=by omega
   repeat' (first|refine Vbl ?_|apply Ub (c:=containsAny_p _ _ Yak Yak Yak Yak) (h:=?_)|refine jcc rfl rfl (fun hg=>?_) (fun hg=>?_)|refine jbd rfl (fun hc=>?_) (fun hc=>?_)|exact Qaa|fail)
   all_goals refine Rad ?_
   all_goals simp [plainB,ht,hm]
  ·repeat' (first|refine Vbl ?_|refine jcc rfl rfl (fun hg=>?_) (fun hg=>?_)|refine jbd rfl (fun hc=>?_) (fun hc=>?_)|exact Qaa|fail)
   all_goals refine Rad ?_
   all_goals simp [plainB,ht,hm]
theorem isCommand_p (s:Tx):PC Tryz.prog 51 [.c (dT s)] (.p (.c (dB (decide (s≠[])&&plainB s 160 [35,64])))):=by
 refine jao Tryz.func51 fun _=>?_;repeat' (first|refine Wbh ?_|refine Wbi ?_|refine jac ?_|refine Maa ?_|apply Ub (c:=isPlain_p _ [35,64] _ Ybr Ybr Ybr) (h:=?_)|refine jcc rfl rfl (fun hg=>?_) (fun hg=>?_))
 all_goals refine Rad ?_
 all_goals simp_all
theorem IsValidRecord_p (c r:Tx):PC Tryz.prog 82 [.g [dT c,dT r]] (.p (.c (dB (recB c r)))):=by
 refine jao Tryz.func82 fun _=>?_;repeat' (first|refine Wbh ?_|refine Wbi ?_|refine jac ?_|refine Maa ?_|refine Wcu ?_|apply zdm ?_|apply zdr ?_|apply Ub (c:=isCommand_p _) (h:=?_)|apply Ub (c:=isPlain_p _ [35] _ Ybr Ybr Ybr) (h:=?_)|refine jdf rfl rfl (fun hg=>?_) (fun hg=>?_))
 all_goals refine Rad ?_
 all_goals rw [<- recB_eq]
 all_goals simp_all
end
section
variable [Glb]
variable [GTab Tryz.prog tabNm]
theorem ac_line {k:Nat} {c r:Tx} (hk:k < 60) (h:RecP c r):acT (textT k c r)=lineT k c r:=by
 have h1:=jig hk h;have h2:=jhj (textT k c r);have h3:=jos (k:=k) h;have:acOK (textT k c r)=true:=by simp [acOK,h3];omega
 simp [acT,this,lineT]
theorem Vbm {G G':Prop} (h:G') (t:Laa G'->G:=by intro h;first|(first|exact Wby h.o|exact Wbh h.o|exact Wbi h.o|exact jac h.o|exact jav 3 (fun _=>false) [0,3,4,7,8,-2,2,5,6,9,-11,11,12,13,14,15] h.o|exact Maa h.o|exact Wcu h.o|apply zdr h.o|apply zct h.o|apply zdm h.o|fail);done|fail):G:=t ⟨h⟩
theorem jod (k:Int) (c r:Tx) (h:(inB k 0 59&&recB c r)=false):PC Tryz.prog 83 [.c (dI k),.g [dT c,dT r]] (.t [.c (dT []),.c (dB false)]):=by
 refine jao Tryz.func83 fun _=>?_;repeat' (first|refine Vbm ?_|apply Ub (c:=within_p _ _ _) (h:=?_)|apply Ub (c:=IsValidRecord_p _ _) (h:=?_)|refine jdf rfl rfl (fun hg=>?_) (fun hg=>?_)|refine jcu rfl (fun hc=>?_) (fun hc=>?_)|exact Qac|fail)
 all_goals refine Ral ?_
 all_goals simp_all [jnz]
theorem EncodeRecord_p (k:Nat) (c r:Tx) (h:k < 60) (hr:recB c r=true):PC Tryz.prog 83 [.c (dI k),.g [dT c,dT r]] (.t [.c (dT (lineT k c r++[10])),.c (dB true)]):=by
 have hp:=recB_p hr;have h1:=jig h hp;have h2:=jhj (textT k c r);have h3:=(num60 h).2;have h4:=hp.cl;have h5:=hp.rl;have h6:inB (k:Int) 0 59=true:=by rw [jcx];omega
 have e:=ac_line h hp;have h7:(acT (textT k c r)).length<=4000:=by rw [e];unfold lineT;omega
 unfold textT at h7;refine jao Tryz.func83 fun _=>?_;repeat' (first|refine Vbm ?_|apply Ub (c:=within_p _ _ _) (h:=?_)|apply Ub (c:=IsValidRecord_p _ _) (h:=?_)|apply Ub (c:=itoa_p _ Kf) (h:=?_)|apply Ub (c:=AppendChecksum_p _) (h:=?_)|refine jdf rfl rfl (fun hg=>?_) (fun hg=>?_)|refine jcu rfl (fun hc=>?_) (fun hc=>?_)|exact Qac|fail)
 all_goals refine Ral ?_
 all_goals rw [show acT (numT k++[32]++c++[64]++r)=lineT k c r from e]
theorem bef_no (b:UInt8) (s:Tx):b ∉ bef b s:=by
 by_cases h:b∈s
 ·exact (jex h).2
 ·rw [jiq h]; exact h
theorem vc_eq (l:Tx):vcT l=vtxT l:=by
 unfold vcT vtxT;have:vcOK l=verT l:=by
  unfold vcOK verT acT;have h:=bef_no 35 l;have e:acOK (bef 35 l)=(decide ((bef 35 l).length<=4000)&&decide ((sealT (bef 35 l)).length<=4000)):=by simp [acOK,h]
  rw [<- e];cases acOK (bef 35 l) <;> simp
 rw [this]
theorem Vbn {G G':Prop} (h:G') (t:Laa G'->G:=by intro h;first|(first|exact Wby h.o|apply zdh h.o|exact Wbh h.o|exact Wbi h.o|exact jac h.o|exact Maa h.o|(refine jaa (.buildSlice 73 1 _) ?_;(apply jaw (sz:=2) (by_:=32);exact Kb;exact Ybr;exact Yan;exact Ybr;(·rfl);(·rfl);(·rfl));exact h.o)|(refine jaa (.buildSlice 73 0 _) ?_;(apply jaw (sz:=2) (by_:=32);exact Kb;exact Ybr;exact Yab;exact Ybr;(·rfl);(·rfl);(·rfl));exact h.o)|exact Wbr h.o|apply zcx h.o|exact Wcv h.o|exact Wcw h.o|apply zct h.o|apply zcg h.o|fail);done|fail):G:=t ⟨h⟩
theorem readRecords_p (s:Tx) (hs:s.length<=1000000):PC Tryz.prog 65 [.c (dT s)] (.t [.c (eR (recsT s)),.c (eI (endsL s (numR s)))]):=by
 refine jao Tryz.func65 fun _=>?_;repeat' (first|refine Vbn ?_|fail)
 apply jbe [0,4,5,6] [15,18,19,75,76,79,80] rfl;exact Kr;exact Yah;refine jbf [0] [15,75,76,79,80] (fun j=>[(4,.c (.ls 18 2 0 j)),(5,.c (.ls 19 1 0 (j+1))),(6,iN (endsT s j))]) (fun j=>[(18,.row 2 (recD ((recsT s).take j))),(19,.row 1 (cI (endsL s j)))]) (fun j=>j<=numR s) (fun j=>60 - j) (0) ?_ Kg (by (repeat(first|exact trivial|refine ⟨(by ((refine jbs rfl ?_;simp  [jid,recD,endsL_zero];done))),?_⟩))) ?_
 ·omega
 intro j hj;have h60:=jfv s;have hle:=ends_le s j;have hlr:((recsT s).take j).length=j:=by rw [List.length_take,jei];omega
 have hrl:(recD ((recsT s).take j)).length=j*2:=by rw [recD_len,hlr]
 have hel:(cI (endsL s j)).length=(j+1)*1:=by simp
 have hrest:partZ s (endsT s j) s.length=s.drop (endsT s j):=jhh s _ hle;have hfin:numR s=j->(recsT s).take j=recsT s/\(recsT s).length=j:=fun e=>⟨List.take_of_length_le (by rw [jei];omega),(jei s).trans e⟩;have hpl:=jij s (endsT s j) s.length;have hbl:=jlc 10 (partZ s (endsT s j) s.length);by_cases h:j < 60
 ·by_cases hm:10∈partZ s (endsT s j) s.length
  ·have hd:=decI (l:=bef 10 (partZ s (endsT s j) s.length)) h;rw [<- vc_eq] at hd;by_cases hr:recB (bef 64 (aft 32 (vcT (bef 10 (partZ s (endsT s j) s.length))))) (aft 64 (aft 32 (vcT (bef 10 (partZ s (endsT s j) s.length)))))=true
   ·by_cases hl:lineT j (bef 64 (aft 32 (vcT (bef 10 (partZ s (endsT s j) s.length))))) (aft 64 (aft 32 (vcT (bef 10 (partZ s (endsT s j) s.length)))))=bef 10 (partZ s (endsT s j) s.length)
    ·rw [if_pos ⟨hr,hl⟩] at hd;have hst:stepT j (s.drop (endsT s j))=some ((bef 64 (aft 32 (vcT (bef 10 (partZ s (endsT s j) s.length)))),aft 64 (aft 32 (vcT (bef 10 (partZ s (endsT s j) s.length))))),(bef 10 (s.drop (endsT s j))).length+1):=jmo (by rw [<- hrest];exact hm) (by rw [<- hrest];exact hd);obtain ⟨g1,g2,g3⟩:=log_go hj h hst;rw [<- hrest] at g3;clear hfin hrest hst hd;repeat' (first|(refine jaa (.call ⟨.builtin .append,_,#[73,73]⟩) ?_;((apply jbx (sz:=2) (by_:=32);(·rfl);(·rfl);(·(assumption));exact Kn;exact Ybr;exact Kb;exact Ybr;exact Kf;exact Kf;(·rfl);(·rfl);(·rfl))))|(refine jaa (.call ⟨.builtin .append,_,#[25,25]⟩) ?_;((apply jbx (sz:=1) (by_:=8);(·rfl);(·rfl);(·(assumption));exact Kn;exact Ybr;exact Kb;exact Ybr;exact Kf;exact Kf;(·rfl);(·rfl);(·rfl))))|refine Vbn ?_|(first|apply Ub (d:=27) (c:=cut_p _ 10) (h:=?_)|apply Ub (d:=40) (c:=cut_p _ 32) (h:=?_)|apply Ub (d:=46) (c:=cut_p _ 64) (h:=?_))|apply Ub (c:=VerifyChecksum_p _) (h:=?_)|apply Ub (c:=EncodeRecord_p _ _ _ h hr) (h:=?_)|refine jbd rfl (fun hc=>?_) (fun hc=>?_)|refine jcu rfl (fun hc=>?_) (fun hc=>?_)|exact Qab|fail)
     refine bkL (j+1) ?_ ?_ (hB:=(by (repeat(first|exact trivial|refine ⟨(by ((refine jbs rfl ?_;simp  [recs_snoc g2,endsL_snoc,g3,Nat.add_assoc];done))),?_⟩))))
     ·omega
     ·omega
    ·rw [if_neg (fun h=>hl h.2)] at hd;have hst:=jha hj (jmp (by rw [<- hrest];exact hd));obtain ⟨f1,f2⟩:=hfin hst;clear hfin hrest hd;repeat' (first|(refine jaa (.call ⟨.builtin .append,_,#[73,73]⟩) ?_;((apply jbx (sz:=2) (by_:=32);(·rfl);(·rfl);(·(assumption));exact Kn;exact Ybr;exact Kb;exact Ybr;exact Kf;exact Kf;(·rfl);(·rfl);(·rfl))))|(refine jaa (.call ⟨.builtin .append,_,#[25,25]⟩) ?_;((apply jbx (sz:=1) (by_:=8);(·rfl);(·rfl);(·(assumption));exact Kn;exact Ybr;exact Kb;exact Ybr;exact Kf;exact Kf;(·rfl);(·rfl);(·rfl))))|refine Vbn ?_|(first|apply Ub (d:=27) (c:=cut_p _ 10) (h:=?_)|apply Ub (d:=40) (c:=cut_p _ 32) (h:=?_)|apply Ub (d:=46) (c:=cut_p _ 64) (h:=?_))|apply Ub (c:=VerifyChecksum_p _) (h:=?_)|apply Ub (c:=EncodeRecord_p _ _ _ h hr) (h:=?_)|refine jbd rfl (fun hc=>?_) (fun hc=>?_)|refine jcu rfl (fun hc=>?_) (fun hc=>?_)|exact Qab|fail)
     all_goals (apply jat;apply jau;exact Ybm)
     all_goals simp only [eR,eI,f1,f2,hst,endsL_len]
   ·rw [if_neg (fun h=>hr h.1)] at hd;have hst:=jha hj (jmp (by rw [<- hrest];exact hd));obtain ⟨f1,f2⟩:=hfin hst;clear hfin hrest hd;repeat' (first|refine Vbn ?_|(first|apply Ub (d:=27) (c:=cut_p _ 10) (h:=?_)|apply Ub (d:=40) (c:=cut_p _ 32) (h:=?_)|apply Ub (d:=46) (c:=cut_p _ 64) (h:=?_))|apply Ub (c:=VerifyChecksum_p _) (h:=?_)|apply Ub (c:=jod _ _ _ Ybp) (h:=?_)|refine jbd rfl (fun hc=>?_) (fun hc=>?_)|refine jcu rfl (fun hc=>?_) (fun hc=>?_)|exact Qab|fail)
    all_goals (apply jat;apply jau;exact Ybm)
    all_goals simp only [eR,eI,f1,f2,hst,endsL_len]
  ·have hst:=jha hj (step_no (by rw [<- hrest];exact hm));obtain ⟨f1,f2⟩:=hfin hst;clear hfin hrest;repeat' (first|refine Vbn ?_|apply Ub (d:=27) (c:=cut_p _ 10) (h:=?_)|refine jbd rfl (fun hc=>?_) (fun hc=>?_)|refine jcu rfl (fun hc=>?_) (fun hc=>?_)|exact Qab|fail)
   all_goals (apply jat;apply jau;exact Ybm)
   all_goals simp only [eR,eI,f1,f2,hst,endsL_len]
 ·have hst:numR s=j:=by omega
  obtain ⟨f1,f2⟩:=hfin hst;clear hfin hrest;repeat' (first|refine Vbn ?_|refine jbd rfl (fun hc=>?_) (fun hc=>?_)|exact Qab|fail)
  all_goals (apply jat;apply jau;exact Ybm)
  all_goals simp only [eR,eI,f1,f2,hst,endsL_len]
theorem Vbo {G G':Prop} (h:G') (t:Laa G'->G:=by intro h;first|(first|exact Wbl h.o|apply zda h.o|apply zdd h.o|exact Wby h.o|exact Wbh h.o|exact Wbi h.o|exact jac h.o|exact jav 4 (fun _=>false) [0,1,2,3,4,5,6,7,8,9,10,11,12,13,14,15,16,17,18,19,20,21,22,23,24,-26,26,27] h.o|exact Maa h.o|exact Wbd h.o|apply zdf h.o|fail);done|fail):G:=t ⟨h⟩
theorem IsValidLog_p (d p:Tx) (c:Int) (hb:(d.length:Int)+p.length<=1000000000):PC Tryz.prog 58 [.g [dT d,dT p,dI c]] (.p (.c (dB (validB d p c)))):=by
 refine jao Tryz.func58 ?_;rintro ⟨hf,-⟩;have hf0:=FitT (hf (dT d) Yby);have hf1:=FitT (hf (dT p) Yby);clear hf;by_cases h:(d.length:Int)+p.length<=30000
 ·have h1:=jei (d++p);have h2:((d++p).length:Int)=d.length+p.length:=by simp
  have h3:=endsL_len (d++p) (numR (d++p));repeat' (first|refine Vbo ?_|apply Ub (c:=readRecords_p _ Ybw) (h:=?_)|apply Ub (c:=containsI_p _ _) (h:=?_)|refine jcc rfl rfl (fun hg=>?_) (fun hg=>?_)|refine jbd rfl (fun hc=>?_) (fun hc=>?_)|exact Qaa|fail)
  all_goals refine Rad ?_
  all_goals refine dB_eq (Bool.eq_iff_iff.2 ?_)
  all_goals rw [valid_iff h]
  all_goals try rw [endsL_at] at *
  ·have hv:=part_valid (x:=d) (y:=p) Kf;rw [endsL_has,hv,decide_eq_true_eq];omega
  ·exact Dbs
  ·exact Dbs
 ·repeat' (first|refine Vbo ?_|apply Ub (c:=readRecords_p _ Ybw) (h:=?_)|refine jcc rfl rfl (fun hg=>?_) (fun hg=>?_)|refine jbd rfl (fun hc=>?_) (fun hc=>?_)|exact Qaa|fail)
  all_goals refine Rad ?_
  all_goals rw [joq h]
theorem IsValidConsole_p (bx by_ bwh:Int) (bll:List (List Int)) (pl:List Int) (ev:Int) (cc:List (List Int)) (ss nu:List Int) (co:Int) (d p:Tx) (n:Int) (hb:(d.length:Int)+p.length<=1000000000) :
  PC Tryz.prog 28 [.g [dI bx,dI by_,dI bwh,eII bll,eI pl,dI ev,eII cc,eI ss,eI nu,dI co,dT d,dT p,dI n]] (.p (.c (dB (hallB bx by_ bwh bll pl ev cc ss nu co&&validB d p n)))):=by
 refine jao Tryz.func28 fun _=>?_;repeat' (first|refine Wbh ?_|refine Wbi ?_|refine jac ?_|refine Maa ?_|refine Wbe ?_|apply Ub (c:=IsHall_p _ _ _ _ _ _ _ _ _ _) (h:=?_)|apply Ub (c:=IsValidLog_p _ _ _ Kf) (h:=?_)|refine jdf rfl rfl (fun hg=>?_) (fun hg=>?_))
 all_goals refine Rad ?_
 all_goals simp_all
theorem Vbp {G G':Prop} (h:G') (t:Laa G'->G:=by intro h;first|(first|exact Wby h.o|exact Wbh h.o|exact Wbi h.o|exact jac h.o|exact Maa h.o|exact Wbd h.o|exact Wcu h.o|(refine jaa (.build 42 _) ?_;refine jab (jbt (cs:=[_,_,_]) [(0,1),(1,1),(2,1)] [.string ByteArray.empty,.string ByteArray.empty,.int .i64 0] Kb Kb rfl) rfl ?_;exact h.o)|exact Wat h.o|exact Wau h.o|apply zct h.o|apply zdf h.o|fail);done|fail):G:=t ⟨h⟩
theorem joe (d p:Tx) (n:Int) (c r:Tx) (hb:(d.length:Int)+p.length<=1000000000) (h:(validB d p n&&recB c r)=false):PC Tryz.prog 53 [.g [dT d,dT p,dI n],.g [dT c,dT r]] (.t [.g [dT d,dT p,dI n],.c (dI 1)]):=by
 refine jao Tryz.func53 fun _=>?_;repeat' (first|refine Vbp ?_|apply Ub (c:=IsValidLog_p _ _ _ Kf) (h:=?_)|apply Ub (c:=IsValidRecord_p _ _) (h:=?_)|refine jdf rfl rfl (fun hg=>?_) (fun hg=>?_)|refine jcu rfl (fun hc=>?_) (fun hc=>?_)|exact Qac|exact Rfc|fail)
theorem AppendRecord_p (d p:Tx) (k:Nat) (c r:Tx) (hb:(d.length:Int)+p.length<=1000000000) (h:validB d p k=true) (h2:recB c r=true) (h3:k < 60):PC Tryz.prog 53 [.g [dT d,dT p,dI k],.g [dT c,dT r]] (.t [.g [dT d,dT (p++(lineT k c r++[10])),dI (k+1)],.c (dI 0)]):=by
 have h4:=(validB_p h).len;have h5:=jig h3 (recB_p h2);have h6:=jhj (textT k c r);have h7:(lineT k c r).length<=500:=by unfold lineT;omega
 have h8:=(recB_p h2).cl;have h9:=(recB_p h2).rl;clear h5 h6;refine jao Tryz.func53 fun _=>?_;repeat' (first|refine Vbp ?_|apply Ub (c:=IsValidLog_p _ _ _ Kf) (h:=?_)|apply Ub (c:=IsValidRecord_p _ _) (h:=?_)|apply Ub (c:=EncodeRecord_p _ _ _ h3 h2) (h:=?_)|refine jdf rfl rfl (fun hg=>?_) (fun hg=>?_)|refine jcu rfl (fun hc=>?_) (fun hc=>?_))
 all_goals first|(exfalso;simp_all;done)|(exfalso;omega)|skip
 all_goals refine Ras ?_
 all_goals rfl
end
end Go.Proofs.YtbhbkbnlpackdaaGreatDoor
