/- What the functions that FnExactRunScript and FnExactReplayLog and FnExactExecuteCommand reaches return: part of its proof. No condition beyond those of its theorems. -/
import Derived.Test.YtbhbkbnlpackdaaGreatDoorKfnsB
import Derived.Test.YtbhbkbnlpackdaaGreatDoorKplainC
import Derived.Test.YtbhbkbnlpackdaaGreatDoorKfnsD
import Derived.Test.YtbhbkbnlpackdaaGreatDoorKfnsO
import Derived.Test.YtbhbkbnlpackdaaGreatDoorKfnsF
import Derived.Test.YtbhbkbnlpackdaaGreatDoorKfnsI
import Derived.Test.YtbhbkbnlpackdaaGreatDoorKfnsG
import Derived.Test.YtbhbkbnlpackdaaGreatDoorKfnsK
import Derived.Test.YtbhbkbnlpackdaaGreatDoorKfnsM
import Derived.Test.YtbhbkbnlpackdaaGreatDoorKfnsL
import Derived.Test.YtbhbkbnlpackdaaGreatDoorKfnsA
import Derived.Test.YtbhbkbnlpackdaaGreatDoorKplainA
import Derived.Test.YtbhbkbnlpackdaaGreatDoorKfnsC
import Derived.Test.YtbhbkbnlpackdaaGreatDoorKplainB
import Derived.Test.YtbhbkbnlpackdaaGreatDoorKfnsN
set_option linter.unusedSectionVars false
set_option maxRecDepth 10000
set_option maxHeartbeats 4000000
set_option linter.unusedVariables false
set_option linter.unusedSimpArgs false
namespace Go.Proofs.YtbhbkbnlpackdaaGreatDoor
open Go.RowKit
section
variable [Glb]
variable [GTab Tryz.prog tabNm]
theorem l12ListT_p (l:List Int) (h:jgh l) (hl:l.length<=1000):PC Tryz.prog 106 [.c (eI l),.c (dB true)] (.p (.c (dT (sayL l)))):=l12List_p l true h hl
theorem l12ListF_p (l:List Int) (h:jgh l) (hl:l.length<=1000):PC Tryz.prog 106 [.c (eI l),.c (dB false)] (.p (.c (dT qT))):=l12List_p l false h hl
theorem l12YesT_p (b:Bool):PC Tryz.prog 111 [.c (dB b),.c (dB true)] (.p (.c (dT (sayB b)))):=l12Yes_p b true
theorem Vbd {G G':Prop} (h:G') (t:Laa G'->G:=by intro h;first|(first|exact jac h.o|exact Maa h.o|exact Wbc h.o|apply zau h.o|fail);done|fail):G:=t ⟨h⟩
theorem spasked0 (X Y:Nat) (wh:Int) (bll:List (List Int)) (pl:List Int) (E:Nat) (cc:List (List Int)) (ss nu:List Int) (co:Int) (hB:hallB X Y wh bll pl E cc ss nu co=true):PC Tryz.prog 71 [.g [dI X,dI Y,dI wh,eII bll,eI pl,dI E,eII cc,eI ss,eI nu,dI co],.c (dT [98,111,120])] (.p (.c (dT (boxT X Y bll)))):=by
 have hb:=jcz hB;have n2:=hb.n2;have l9:=hb.l9;have c10:=hb.c10;have p6:=hb.p6;have p:=l2Text_p X Y wh bll hb.hbox;refine jao Tryz.func71 fun _=>?_;repeat' (first|refine Vbd ?_|apply Ub (c:=p) (h:=?_))
 all_goals refine Rad ?_
 all_goals rfl
theorem spasked1 (X Y:Nat) (wh:Int) (bll:List (List Int)) (pl:List Int) (E:Nat) (cc:List (List Int)) (ss nu:List Int) (co:Int) (hB:hallB X Y wh bll pl E cc ss nu co=true):PC Tryz.prog 71 [.g [dI X,dI Y,dI wh,eII bll,eI pl,dI E,eII cc,eI ss,eI nu,dI co],.c (dT [112,108,97,121])] (.p (.c (dT (sayL pl)))):=by
 have hb:=jcz hB;have n2:=hb.n2;have l9:=hb.l9;have c10:=hb.c10;have p6:=hb.p6;refine jao Tryz.func71 fun _=>?_;repeat' (first|refine Vbd ?_|apply Ub (c:=l12ListT_p pl (jip hb.hpl) Kf) (h:=?_))
 all_goals refine Rad ?_
 all_goals rfl
theorem spasked2 (X Y:Nat) (wh:Int) (bll:List (List Int)) (pl:List Int) (E:Nat) (cc:List (List Int)) (ss nu:List Int) (co:Int) (hB:hallB X Y wh bll pl E cc ss nu co=true):PC Tryz.prog 71 [.g [dI X,dI Y,dI wh,eII bll,eI pl,dI E,eII cc,eI ss,eI nu,dI co],.c (dT [115,104,97,114,101])] (.p (.c (dT (txtZ (leastN wh (chanceF Y X bll pl) (Y*X)))))):=by
 have hb:=jcz hB;have n2:=hb.n2;have l9:=hb.l9;have c10:=hb.c10;have p6:=hb.p6;have p:=l12Chance_p X Y wh bll pl E cc ss nu co hB;have q:=l1NumZ_p _ (jlt hb.hbox hb.hpl);generalize leastN wh (chanceF Y X bll pl) (Y*X)=v at *;refine jao Tryz.func71 fun _=>?_;repeat' (first|refine Vbd ?_|apply Ub (c:=p) (h:=?_)|apply Ub (c:=q) (h:=?_))
 all_goals refine Rad ?_
 all_goals rfl
theorem spasked3 (X Y:Nat) (wh:Int) (bll:List (List Int)) (pl:List Int) (E:Nat) (cc:List (List Int)) (ss nu:List Int) (co:Int) (hB:hallB X Y wh bll pl E cc ss nu co=true):PC Tryz.prog 71 [.g [dI X,dI Y,dI wh,eII bll,eI pl,dI E,eII cc,eI ss,eI nu,dI co],.c (dT [113,117,105,101,116])] (.p (.c (dT (sayB (quietG bll X Y))))):=by
 have hb:=jcz hB;have n2:=hb.n2;have l9:=hb.l9;have c10:=hb.c10;have p6:=hb.p6;have p:=spIsQuietG_p X Y wh bll hb.hbox;generalize quietG bll X Y=v at *;refine jao Tryz.func71 fun _=>?_;repeat' (first|refine Vbd ?_|apply Ub (c:=p) (h:=?_)|apply Ub (c:=l12YesT_p v) (h:=?_))
 all_goals refine Rad ?_
 all_goals rfl
theorem spasked4 (X Y:Nat) (wh:Int) (bll:List (List Int)) (pl:List Int) (E:Nat) (cc:List (List Int)) (ss nu:List Int) (co:Int) (hB:hallB X Y wh bll pl E cc ss nu co=true):PC Tryz.prog 71 [.g [dI X,dI Y,dI wh,eII bll,eI pl,dI E,eII cc,eI ss,eI nu,dI co],.c (dT [97,103,114,101,101])] (.p (.c (dT (sayL (agrsL bll))))):=by
 have hb:=jcz hB;have n2:=hb.n2;have l9:=hb.l9;have c10:=hb.c10;have p6:=hb.p6;have p:=spAgreementsOf_p X Y wh bll hb.hbox;have q:=l12ListT_p _ (jit hb.hbox) (by unfold agrsL;rw [rowF_len];omega);generalize agrsL bll=v at *;refine jao Tryz.func71 fun _=>?_;repeat' (first|refine Vbd ?_|apply Ub (c:=q) (h:=?_)|apply Ub (c:=p) (h:=?_))
 all_goals refine Rad ?_
 all_goals rfl
theorem spasked5 (X Y:Nat) (wh:Int) (bll:List (List Int)) (pl:List Int) (E:Nat) (cc:List (List Int)) (ss nu:List Int) (co:Int) (hB:hallB X Y wh bll pl E cc ss nu co=true):PC Tryz.prog 71 [.g [dI X,dI Y,dI wh,eII bll,eI pl,dI E,eII cc,eI ss,eI nu,dI co],.c (dT [103,114,101,97,116])] (.p (.c (dT (txtZ (greatI bll X Y))))):=by
 have hb:=jcz hB;have n2:=hb.n2;have l9:=hb.l9;have c10:=hb.c10;have p6:=hb.p6;have p:=spGreatestSum_p X Y wh bll hb.hbox;have q:=l12Say_p _ (jnq hb.hbox);generalize greatI bll X Y=v at *;refine jao Tryz.func71 fun _=>?_;repeat' (first|refine Vbd ?_|apply Ub (c:=p) (h:=?_)|apply Ub (c:=q) (h:=?_))
 all_goals refine Rad ?_
 all_goals rfl
theorem spasked6 (X Y:Nat) (wh:Int) (bll:List (List Int)) (pl:List Int) (E:Nat) (cc:List (List Int)) (ss nu:List Int) (co:Int) (hB:hallB X Y wh bll pl E cc ss nu co=true):PC Tryz.prog 71 [.g [dI X,dI Y,dI wh,eII bll,eI pl,dI E,eII cc,eI ss,eI nu,dI co],.c (dT [108,111,99,97,108])] (.p (.c (dT (sayB (localB bll X Y wh))))):=by
 have hb:=jcz hB;have n2:=hb.n2;have l9:=hb.l9;have c10:=hb.c10;have p6:=hb.p6;have p:=spIsLocal_p X Y wh bll hb.hbox;generalize localB bll X Y wh=v at *;refine jao Tryz.func71 fun _=>?_;repeat' (first|refine Vbd ?_|apply Ub (c:=l12YesT_p v) (h:=?_)|apply Ub (c:=p) (h:=?_))
 all_goals refine Rad ?_
 all_goals rfl
theorem Vbe {G G':Prop} (h:G') (t:Laa G'->G:=by intro h;first|(first|exact Wby h.o|exact jac h.o|exact Maa h.o|exact Wbc h.o|apply zau h.o|fail);done|fail):G:=t ⟨h⟩
theorem spasked7 (X Y:Nat) (wh:Int) (bll:List (List Int)) (pl:List Int) (E:Nat) (cc:List (List Int)) (ss nu:List Int) (co:Int) (hB:hallB X Y wh bll pl E cc ss nu co=true):PC Tryz.prog 118 [.g [dI X,dI Y,dI wh,eII bll,eI pl,dI E,eII cc,eI ss,eI nu,dI co],.c (dT [107,101,112,116])] (.p (.c (dT (sayL (keptK cc ss nu cc.length))))):=by
 have hb:=jcz hB;have n2:=hb.n2;have l9:=hb.l9;have c10:=hb.c10;have p6:=hb.p6;have p:=l7Kept_p E cc ss nu hb.hsc hb.hnu;have q:=l12ListT_p _ (jil (cc:=cc) (ss:=ss) (nu:=nu) c10) (by have:=jfn cc ss nu cc.length;omega);generalize keptK cc ss nu cc.length=v at *;refine jao Tryz.func118 fun _=>?_;repeat' (first|refine Vbe ?_|apply Ub (c:=p) (h:=?_)|apply Ub (c:=q) (h:=?_))
 all_goals refine Rad ?_
 all_goals rfl
theorem spTasked7 (X Y:Nat) (wh:Int) (bll:List (List Int)) (pl:List Int) (E:Nat) (cc:List (List Int)) (ss nu:List Int) (co:Int) (hB:hallB X Y wh bll pl E cc ss nu co=true):PC Tryz.prog 71 [.g [dI X,dI Y,dI wh,eII bll,eI pl,dI E,eII cc,eI ss,eI nu,dI co],.c (dT [107,101,112,116])] (.p (.c (dT (sayL (keptK cc ss nu cc.length))))):=by
 have sc:=spasked7 X Y wh bll pl E cc ss nu co hB;generalize (sayL (keptK cc ss nu cc.length))=v at *;refine jao Tryz.func71 fun _=>?_;repeat' (first|refine Vbd ?_|apply Ub (c:=sc) (h:=?_))
 all_goals refine Rad ?_
 all_goals rfl
theorem spasked8 (X Y:Nat) (wh:Int) (bll:List (List Int)) (pl:List Int) (E:Nat) (cc:List (List Int)) (ss nu:List Int) (co:Int) (hB:hallB X Y wh bll pl E cc ss nu co=true):PC Tryz.prog 118 [.g [dI X,dI Y,dI wh,eII bll,eI pl,dI E,eII cc,eI ss,eI nu,dI co],.c (dT [115,111,108,118,101,100])] (.p (.c (dT (sayB (decide ((keptK cc ss nu cc.length).length=cc.length)))))):=by
 have hb:=jcz hB;have n2:=hb.n2;have l9:=hb.l9;have c10:=hb.c10;have p6:=hb.p6;have p:=spSolvesScene_p E cc ss nu hb.hsc hb.hnu;generalize decide ((keptK cc ss nu cc.length).length=cc.length)=v at *;refine jao Tryz.func118 fun _=>?_;repeat' (first|refine Vbe ?_|apply Ub (c:=p) (h:=?_)|apply Ub (c:=l12YesT_p v) (h:=?_))
 all_goals refine Rad ?_
 all_goals rfl
theorem spTasked8 (X Y:Nat) (wh:Int) (bll:List (List Int)) (pl:List Int) (E:Nat) (cc:List (List Int)) (ss nu:List Int) (co:Int) (hB:hallB X Y wh bll pl E cc ss nu co=true):PC Tryz.prog 71 [.g [dI X,dI Y,dI wh,eII bll,eI pl,dI E,eII cc,eI ss,eI nu,dI co],.c (dT [115,111,108,118,101,100])] (.p (.c (dT (sayB (decide ((keptK cc ss nu cc.length).length=cc.length)))))):=by
 have sc:=spasked8 X Y wh bll pl E cc ss nu co hB;generalize (sayB (decide ((keptK cc ss nu cc.length).length=cc.length)))=v at *;refine jao Tryz.func71 fun _=>?_;repeat' (first|refine Vbd ?_|apply Ub (c:=sc) (h:=?_))
 all_goals refine Rad ?_
 all_goals rfl
theorem spasked9y (X Y:Nat) (wh:Int) (bll:List (List Int)) (pl:List Int) (E:Nat) (cc:List (List Int)) (ss nu:List Int) (co:Int) (hB:hallB X Y wh bll pl E cc ss nu co=true) (hx:bestF cc ss (2^cc.length)≠[]):PC Tryz.prog 118 [.g [dI X,dI Y,dI wh,eII bll,eI pl,dI E,eII cc,eI ss,eI nu,dI co],.c (dT [112,114,111,111,102])] (.p (.c (dT (sayL (bestF cc ss (2^cc.length)))))):=by
 have hb:=jcz hB;have n2:=hb.n2;have l9:=hb.l9;have c10:=hb.c10;have p6:=hb.p6;have p:=spFindParityProof_p E cc ss hb.hsc;rw [decide_eq_true hx] at p;have q:=l12ListT_p _ (best_small (cc:=cc) (ss:=ss) c10 (2^cc.length)) (by have:=jkf cc ss (2^cc.length);omega);generalize bestF cc ss (2^cc.length)=v at *;refine jao Tryz.func118 fun _=>?_;repeat' (first|refine Vbe ?_|apply Ub (c:=q) (h:=?_)|apply Ub (c:=p) (h:=?_))
 all_goals refine Rad ?_
 all_goals rfl
theorem spTasked9y (X Y:Nat) (wh:Int) (bll:List (List Int)) (pl:List Int) (E:Nat) (cc:List (List Int)) (ss nu:List Int) (co:Int) (hB:hallB X Y wh bll pl E cc ss nu co=true) (hx:bestF cc ss (2^cc.length)≠[]):PC Tryz.prog 71 [.g [dI X,dI Y,dI wh,eII bll,eI pl,dI E,eII cc,eI ss,eI nu,dI co],.c (dT [112,114,111,111,102])] (.p (.c (dT (sayL (bestF cc ss (2^cc.length)))))):=by
 have sc:=spasked9y X Y wh bll pl E cc ss nu co hB hx;generalize (sayL (bestF cc ss (2^cc.length)))=v at *;refine jao Tryz.func71 fun _=>?_;repeat' (first|refine Vbd ?_|apply Ub (c:=sc) (h:=?_))
 all_goals refine Rad ?_
 all_goals rfl
theorem spasked9n (X Y:Nat) (wh:Int) (bll:List (List Int)) (pl:List Int) (E:Nat) (cc:List (List Int)) (ss nu:List Int) (co:Int) (hB:hallB X Y wh bll pl E cc ss nu co=true) (hx:bestF cc ss (2^cc.length)=[]):PC Tryz.prog 118 [.g [dI X,dI Y,dI wh,eII bll,eI pl,dI E,eII cc,eI ss,eI nu,dI co],.c (dT [112,114,111,111,102])] (.p (.c (dT qT))):=by
 have hb:=jcz hB;have n2:=hb.n2;have l9:=hb.l9;have c10:=hb.c10;have p6:=hb.p6;have p:=spFindParityProof_p E cc ss hb.hsc;rw [decide_eq_false (fun h=>h hx),hx] at p;have q:=l12ListF_p [] (by intro x hx;cases hx) Yby
 refine jao Tryz.func118 fun _=>?_;repeat' (first|refine Vbe ?_|apply Ub (c:=q) (h:=?_)|apply Ub (c:=p) (h:=?_))
 all_goals refine Rad ?_
 all_goals rfl
theorem spTasked9n (X Y:Nat) (wh:Int) (bll:List (List Int)) (pl:List Int) (E:Nat) (cc:List (List Int)) (ss nu:List Int) (co:Int) (hB:hallB X Y wh bll pl E cc ss nu co=true) (hx:bestF cc ss (2^cc.length)=[]):PC Tryz.prog 71 [.g [dI X,dI Y,dI wh,eII bll,eI pl,dI E,eII cc,eI ss,eI nu,dI co],.c (dT [112,114,111,111,102])] (.p (.c (dT qT))):=by
 have sc:=spasked9n X Y wh bll pl E cc ss nu co hB hx;generalize qT=v at *;refine jao Tryz.func71 fun _=>?_;repeat' (first|refine Vbd ?_|apply Ub (c:=sc) (h:=?_))
 all_goals refine Rad ?_
 all_goals rfl
theorem spasked10 (X Y:Nat) (wh:Int) (bll:List (List Int)) (pl:List Int) (E:Nat) (cc:List (List Int)) (ss nu:List Int) (co:Int) (hB:hallB X Y wh bll pl E cc ss nu co=true):PC Tryz.prog 118 [.g [dI X,dI Y,dI wh,eII bll,eI pl,dI E,eII cc,eI ss,eI nu,dI co],.c (dT [109,111,115,116])] (.p (.c (dT (txtZ (mostF cc ss E (2^E)).1)))):=by
 have hb:=jcz hB;have n2:=hb.n2;have l9:=hb.l9;have c10:=hb.c10;have p6:=hb.p6;have p:=spMostKept_p E cc ss hb.hsc;have q:=l12Say_p _ (most_small (cc:=cc) (ss:=ss) c10 E (2^E));generalize (mostF cc ss E (2^E)).1=v at *;refine jao Tryz.func118 fun _=>?_;repeat' (first|(refine jaa (.call ⟨.value (.func 171),_,_⟩) ?_;((apply jep (fid:=171);exact Yac;(·exact p);(·rfl);(rintro _ ⟨l,rfl⟩))))|refine Vbe ?_|apply Ub (c:=q) (h:=?_))
 all_goals refine Rad ?_
 all_goals rfl
theorem spTasked10 (X Y:Nat) (wh:Int) (bll:List (List Int)) (pl:List Int) (E:Nat) (cc:List (List Int)) (ss nu:List Int) (co:Int) (hB:hallB X Y wh bll pl E cc ss nu co=true):PC Tryz.prog 71 [.g [dI X,dI Y,dI wh,eII bll,eI pl,dI E,eII cc,eI ss,eI nu,dI co],.c (dT [109,111,115,116])] (.p (.c (dT (txtZ (mostF cc ss E (2^E)).1)))):=by
 have sc:=spasked10 X Y wh bll pl E cc ss nu co hB;generalize (txtZ (mostF cc ss E (2^E)).1)=v at *;refine jao Tryz.func71 fun _=>?_;repeat' (first|refine Vbd ?_|apply Ub (c:=sc) (h:=?_))
 all_goals refine Rad ?_
 all_goals rfl
theorem spasked11 (X Y:Nat) (wh:Int) (bll:List (List Int)) (pl:List Int) (E:Nat) (cc:List (List Int)) (ss nu:List Int) (co:Int) (hB:hallB X Y wh bll pl E cc ss nu co=true):PC Tryz.prog 118 [.g [dI X,dI Y,dI wh,eII bll,eI pl,dI E,eII cc,eI ss,eI nu,dI co],.c (dT [114,97,110,107])] (.p (.c (dT (txtZ ((basM (masksM cc)).length:Nat))))):=by
 have hb:=jcz hB;have n2:=hb.n2;have l9:=hb.l9;have c10:=hb.c10;have p6:=hb.p6;have p:=spRankOfScene_p E cc ss hb.hsc;have q:=l12Say_p _ (jpc (cc:=cc) c10);generalize (basM (masksM cc)).length=v at *;refine jao Tryz.func118 fun _=>?_;repeat' (first|refine Vbe ?_|apply Ub (c:=q) (h:=?_)|apply Ub (c:=p) (h:=?_))
 all_goals refine Rad ?_
 all_goals rfl
theorem spTasked11 (X Y:Nat) (wh:Int) (bll:List (List Int)) (pl:List Int) (E:Nat) (cc:List (List Int)) (ss nu:List Int) (co:Int) (hB:hallB X Y wh bll pl E cc ss nu co=true):PC Tryz.prog 71 [.g [dI X,dI Y,dI wh,eII bll,eI pl,dI E,eII cc,eI ss,eI nu,dI co],.c (dT [114,97,110,107])] (.p (.c (dT (txtZ ((basM (masksM cc)).length:Nat))))):=by
 have sc:=spasked11 X Y wh bll pl E cc ss nu co hB;generalize (txtZ ((basM (masksM cc)).length:Nat))=v at *;refine jao Tryz.func71 fun _=>?_;repeat' (first|refine Vbd ?_|apply Ub (c:=sc) (h:=?_))
 all_goals refine Rad ?_
 all_goals rfl
theorem spasked12 (X Y:Nat) (wh:Int) (bll:List (List Int)) (pl:List Int) (E:Nat) (cc:List (List Int)) (ss nu:List Int) (co:Int) (hB:hallB X Y wh bll pl E cc ss nu co=true):PC Tryz.prog 118 [.g [dI X,dI Y,dI wh,eII bll,eI pl,dI E,eII cc,eI ss,eI nu,dI co],.c (dT [112,105,99,107,115])] (.p (.c (dT (txtZ (pickF cc E (2^E):Nat))))):=by
 have hb:=jcz hB;have n2:=hb.n2;have l9:=hb.l9;have c10:=hb.c10;have p6:=hb.p6;have p:=spCountPicks_p E cc ss hb.hsc;have q:=l12Say_p _ (jpg cc hb.e12);generalize pickF cc E (2^E)=v at *;refine jao Tryz.func118 fun _=>?_;repeat' (first|refine Vbe ?_|apply Ub (c:=q) (h:=?_)|apply Ub (c:=p) (h:=?_))
 all_goals refine Rad ?_
 all_goals rfl
theorem spTasked12 (X Y:Nat) (wh:Int) (bll:List (List Int)) (pl:List Int) (E:Nat) (cc:List (List Int)) (ss nu:List Int) (co:Int) (hB:hallB X Y wh bll pl E cc ss nu co=true):PC Tryz.prog 71 [.g [dI X,dI Y,dI wh,eII bll,eI pl,dI E,eII cc,eI ss,eI nu,dI co],.c (dT [112,105,99,107,115])] (.p (.c (dT (txtZ (pickF cc E (2^E):Nat))))):=by
 have sc:=spasked12 X Y wh bll pl E cc ss nu co hB;generalize (txtZ (pickF cc E (2^E):Nat))=v at *;refine jao Tryz.func71 fun _=>?_;repeat' (first|refine Vbd ?_|apply Ub (c:=sc) (h:=?_))
 all_goals refine Rad ?_
 all_goals rfl
theorem spasked13y (X Y:Nat) (wh:Int) (bll:List (List Int)) (pl:List Int) (E:Nat) (cc:List (List Int)) (ss nu:List Int) (co:Int) (hB:hallB X Y wh bll pl E cc ss nu co=true) (hx:X=2/\Y=2):PC Tryz.prog 71 [.g [dI X,dI Y,dI wh,eII bll,eI pl,dI E,eII cc,eI ss,eI nu,dI co],.c (dT [99,111,100,101])] (.p (.c (dT (sayL (codeM bll))))):=by
 have hb:=jcz hB;have n2:=hb.n2;have l9:=hb.l9;have c10:=hb.c10;have p6:=hb.p6;obtain ⟨rfl,rfl⟩:=hx;have p:PC Tryz.prog 116 [.g [dI ((2:Nat):Int),dI ((2:Nat):Int),dI wh,eII bll]] (.t [.c (eI (codeM bll)),.c (dB true)]):=spBoxCode_p wh bll hb.hbox;have q:=l12ListT_p _ (code_small (n:=wh) hb.hbox) (by simp [codeM]);generalize codeM bll=v at *;refine jao Tryz.func71 fun _=>?_;repeat' (first|refine Vbd ?_|apply Ub (c:=q) (h:=?_)|apply Ub (c:=p) (h:=?_))
 all_goals refine Rad ?_
 all_goals rfl
theorem spasked13n (X Y:Nat) (wh:Int) (bll:List (List Int)) (pl:List Int) (E:Nat) (cc:List (List Int)) (ss nu:List Int) (co:Int) (hB:hallB X Y wh bll pl E cc ss nu co=true) (hx:¬ (X=2/\Y=2)):PC Tryz.prog 71 [.g [dI X,dI Y,dI wh,eII bll,eI pl,dI E,eII cc,eI ss,eI nu,dI co],.c (dT [99,111,100,101])] (.p (.c (dT qT))):=by
 have hb:=jcz hB;have n2:=hb.n2;have l9:=hb.l9;have c10:=hb.c10;have p6:=hb.p6;have p:=spBoxCode_no X Y wh bll hb.hbox hx;have q:=l12ListF_p [] (by intro x hx;cases hx) Yby
 refine jao Tryz.func71 fun _=>?_;repeat' (first|refine Vbd ?_|apply Ub (c:=q) (h:=?_)|apply Ub (c:=p) (h:=?_))
 all_goals refine Rad ?_
 all_goals rfl
theorem spasked14y (X Y:Nat) (wh:Int) (bll:List (List Int)) (pl:List Int) (E:Nat) (cc:List (List Int)) (ss nu:List Int) (co:Int) (hB:hallB X Y wh bll pl E cc ss nu co=true) (hx:chainB bll X Y wh=true) (hv:chainM bll wh<=999999):PC Tryz.prog 71 [.g [dI X,dI Y,dI wh,eII bll,eI pl,dI E,eII cc,eI ss,eI nu,dI co],.c (dT [99,104,97,105,110])] (.p (.c (dT (txtZ (chainM bll wh))))):=by
 have hb:=jcz hB;have n2:=hb.n2;have l9:=hb.l9;have c10:=hb.c10;have p6:=hb.p6;have hx2:=hx;simp only [chainB,Bool.and_eq_true,decide_eq_true_eq] at hx2;obtain ⟨⟨hq,rfl,rfl⟩,hn⟩:=hx2;have p:PC Tryz.prog 117 [.g [dI ((2:Nat):Int),dI ((2:Nat):Int),dI wh,eII bll]] (.t [.c (dI (chainM bll wh)),.c (dB true)]):=spChainLeast_p wh bll hb.hbox hq hn;have q:=l12Say_p (chainM bll wh) ⟨chain_lo bll hb.hbox hn,hv⟩;generalize chainM bll wh=v at *;refine jao Tryz.func71 fun _=>?_;repeat' (first|refine Vbd ?_|apply Ub (c:=q) (h:=?_)|apply Ub (c:=p) (h:=?_))
 all_goals refine Rad ?_
 all_goals rfl
theorem spasked14b (X Y:Nat) (wh:Int) (bll:List (List Int)) (pl:List Int) (E:Nat) (cc:List (List Int)) (ss nu:List Int) (co:Int) (hB:hallB X Y wh bll pl E cc ss nu co=true) (hx:chainB bll X Y wh=true) (hv:¬ chainM bll wh<=999999):PC Tryz.prog 71 [.g [dI X,dI Y,dI wh,eII bll,eI pl,dI E,eII cc,eI ss,eI nu,dI co],.c (dT [99,104,97,105,110])] (.p (.c (dT qT))):=by
 have hb:=jcz hB;have n2:=hb.n2;have l9:=hb.l9;have c10:=hb.c10;have p6:=hb.p6;have hx2:=hx;simp only [chainB,Bool.and_eq_true,decide_eq_true_eq] at hx2;obtain ⟨⟨hq,rfl,rfl⟩,hn⟩:=hx2;have p:PC Tryz.prog 117 [.g [dI ((2:Nat):Int),dI ((2:Nat):Int),dI wh,eII bll]] (.t [.c (dI (chainM bll wh)),.c (dB true)]):=spChainLeast_p wh bll hb.hbox hq hn;have q:=l12Say_big (chainM bll wh) (.inr Kf);generalize chainM bll wh=v at *;refine jao Tryz.func71 fun _=>?_;repeat' (first|refine Vbd ?_|apply Ub (c:=q) (h:=?_)|apply Ub (c:=p) (h:=?_))
 all_goals refine Rad ?_
 all_goals rfl
theorem spasked14n (X Y:Nat) (wh:Int) (bll:List (List Int)) (pl:List Int) (E:Nat) (cc:List (List Int)) (ss nu:List Int) (co:Int) (hB:hallB X Y wh bll pl E cc ss nu co=true) (hx:chainB bll X Y wh=false):PC Tryz.prog 71 [.g [dI X,dI Y,dI wh,eII bll,eI pl,dI E,eII cc,eI ss,eI nu,dI co],.c (dT [99,104,97,105,110])] (.p (.c (dT qT))):=by
 have hb:=jcz hB;have n2:=hb.n2;have l9:=hb.l9;have c10:=hb.c10;have p6:=hb.p6;have p:=jmr X Y wh bll hb.hbox hx;have q:=l12Say_no 0 Kf;refine jao Tryz.func71 fun _=>?_;repeat' (first|refine Vbd ?_|apply Ub (c:=q) (h:=?_)|apply Ub (c:=p) (h:=?_))
 all_goals refine Rad ?_
 all_goals rfl
theorem spscene_no (X Y:Nat) (wh:Int) (bll:List (List Int)) (pl:List Int) (E:Nat) (cc:List (List Int)) (ss nu:List Int) (co:Int) (w:Tx) (hw:w ∉ quesW):PC Tryz.prog 118 [.g [dI X,dI Y,dI wh,eII bll,eI pl,dI E,eII cc,eI ss,eI nu,dI co],.c (dT w)] (.p (.c (dT qT))):=by
 simp only [quesW,List.mem_cons,List.not_mem_nil,or_false,not_or] at hw;obtain ⟨h0,h1,h2,h3,h4,h5,h6,h7,h8,h9,h10,h11,h12,h13,h14⟩:=hw;refine jao Tryz.func118 fun _=>?_;repeat' (first|refine Vbe ?_|refine jbd rfl (fun hc=>absurd hc Yak) (fun _=>?_))
 all_goals refine Rad ?_
 all_goals rfl
theorem spasked_no (X Y:Nat) (wh:Int) (bll:List (List Int)) (pl:List Int) (E:Nat) (cc:List (List Int)) (ss nu:List Int) (co:Int) (w:Tx) (hw:w ∉ quesW):PC Tryz.prog 71 [.g [dI X,dI Y,dI wh,eII bll,eI pl,dI E,eII cc,eI ss,eI nu,dI co],.c (dT w)] (.p (.c (dT qT))):=by
 have sc:=spscene_no X Y wh bll pl E cc ss nu co w hw;simp only [quesW,List.mem_cons,List.not_mem_nil,or_false,not_or] at hw;obtain ⟨h0,h1,h2,h3,h4,h5,h6,h7,h8,h9,h10,h11,h12,h13,h14⟩:=hw;refine jao Tryz.func71 fun _=>?_;repeat' (first|refine Vbd ?_|apply Ub (c:=sc) (h:=?_)|refine jbd rfl (fun hc=>absurd hc Yak) (fun _=>?_))
 all_goals refine Rad ?_
 all_goals rfl
theorem l12Tell_p (X Y:Nat) (wh:Int) (bll:List (List Int)) (pl:List Int) (E:Nat) (cc:List (List Int)) (ss nu:List Int) (co:Int) (hB:hallB X Y wh bll pl E cc ss nu co=true) (w:Tx):PC Tryz.prog 71 [.g [dI X,dI Y,dI wh,eII bll,eI pl,dI E,eII cc,eI ss,eI nu,dI co],.c (dT w)] (.p (.c (dT ((quesO ⟨(X:Int),(Y:Int),wh,bll,pl,(E:Int),cc,ss,nu,co⟩ w).getD qT)))):=by
  by_cases hw:w∈quesW
  · obtain ⟨j,hj,rfl⟩:∃ j,j < 15/\w=quesW.getD j []:=by
      obtain ⟨j,hj,rfl⟩:=List.getElem_of_mem hw;exact ⟨j,hj,by rw [List.getD_eq_getElem?_getD,List.getElem?_eq_getElem hj];rfl⟩
    rw [quesO_at _ j hj];clear hw;rcases (by omega:j=0∨j=1∨j=2∨j=3∨j=4∨j=5∨j=6∨j=7∨j=8∨j=9∨j=10∨j=11∨j=12∨j=13∨j=14) with rfl|rfl|rfl|rfl|rfl|rfl|rfl|rfl|rfl|rfl|rfl|rfl|rfl|rfl|rfl
    · exact spasked0 X Y wh bll pl E cc ss nu co hB
    · exact spasked1 X Y wh bll pl E cc ss nu co hB
    · exact spasked2 X Y wh bll pl E cc ss nu co hB
    · exact spasked3 X Y wh bll pl E cc ss nu co hB
    · exact spasked4 X Y wh bll pl E cc ss nu co hB
    · exact spasked5 X Y wh bll pl E cc ss nu co hB
    · exact spasked6 X Y wh bll pl E cc ss nu co hB
    · exact spTasked7 X Y wh bll pl E cc ss nu co hB
    · exact spTasked8 X Y wh bll pl E cc ss nu co hB
    · by_cases hx : bestF cc ss (2 ^ cc.length) = []
      · have e : quesQ ⟨(X : Int), (Y : Int), wh, bll, pl, (E : Int), cc, ss, nu, co⟩ 9 = none := if_pos hx
        rw [e];exact spTasked9n X Y wh bll pl E cc ss nu co hB hx
      · have e : quesQ ⟨(X : Int), (Y : Int), wh, bll, pl, (E : Int), cc, ss, nu, co⟩ 9 = some (sayL (bestF cc ss (2 ^ cc.length))) := if_neg hx
        rw [e];exact spTasked9y X Y wh bll pl E cc ss nu co hB hx
    · exact spTasked10 X Y wh bll pl E cc ss nu co hB
    · exact spTasked11 X Y wh bll pl E cc ss nu co hB
    · exact spTasked12 X Y wh bll pl E cc ss nu co hB
    · by_cases hx : X = 2 /\ Y = 2
      · have e : quesQ ⟨(X : Int), (Y : Int), wh, bll, pl, (E : Int), cc, ss, nu, co⟩ 13 = some (sayL (codeM bll)) := if_pos hx
        rw [e];exact spasked13y X Y wh bll pl E cc ss nu co hB hx
      · have e : quesQ ⟨(X : Int), (Y : Int), wh, bll, pl, (E : Int), cc, ss, nu, co⟩ 13 = none := if_neg hx
        rw [e];exact spasked13n X Y wh bll pl E cc ss nu co hB hx
    · by_cases hx : chainB bll X Y wh = true
      · by_cases hv : chainM bll wh <= 999999
        · have e : quesQ ⟨(X : Int), (Y : Int), wh, bll, pl, (E : Int), cc, ss, nu, co⟩ 14 = some (txtZ (chainM bll wh)) := if_pos ⟨hx, hv⟩
          rw [e];exact spasked14y X Y wh bll pl E cc ss nu co hB hx hv
        · have e : quesQ ⟨(X : Int), (Y : Int), wh, bll, pl, (E : Int), cc, ss, nu, co⟩ 14 = none := if_neg fun h => hv h.2
          rw [e];exact spasked14b X Y wh bll pl E cc ss nu co hB hx hv
      · have e : quesQ ⟨(X : Int), (Y : Int), wh, bll, pl, (E : Int), cc, ss, nu, co⟩ 14 = none := if_neg fun h => hx h.1
        rw [e];exact spasked14n X Y wh bll pl E cc ss nu co hB (by simpa using hx)
  · rw [quesO_no hw]
    exact spasked_no X Y wh bll pl E cc ss nu co w hw
theorem Vbf {G G':Prop} (h:G') (t:Laa G'->G:=by intro h;first|(first|exact Wby h.o|exact jac h.o|exact Maa h.o|exact Wbc h.o|exact Wbw h.o|apply zbo h.o|exact Waq h.o|apply zcn h.o|exact War h.o|fail);done|fail):G:=t ⟨h⟩
theorem jnm (X Y:Nat) (wh:Int) (bll:List (List Int)) (pl:List Int) (E:Nat) (cc:List (List Int)) (ss nu:List Int) (co:Int) (hB:hallB X Y wh bll pl E cc ss nu co=true) (k a:Int)
  (rx ry rwh:Int) (rll:List (List Int)) (rpl:List Int) (rev:Int) (rcc:List (List Int)) (rss rnu:List Int) (rco:Int) (rep:Tx) (he:(if (nextT ⟨X,Y,wh,bll,pl,E,cc,ss,nu,co⟩ k a).2=true then ((nextT ⟨X,Y,wh,bll,pl,E,cc,ss,nu,co⟩ k a).1,toldH (nextT ⟨X,Y,wh,bll,pl,E,cc,ss,nu,co⟩ k a).1 k) else (⟨X,Y,wh,bll,pl,E,cc,ss,nu,co⟩,qT))=(⟨rx,ry,rwh,rll,rpl,rev,rcc,rss,rnu,rco⟩,rep)) :
  PV Tryz.prog 70 [.g [dI X,dI Y,dI wh,eII bll,eI pl,dI E,eII cc,eI ss,eI nu,dI co],.g [dI k,dI a]] (.t [.g [dI rx,dI ry,dI rwh,eII rll,eI rpl,dI rev,eII rcc,eI rss,eI rnu,dI rco],.c (dT rep)]):=by
 have nok:=nextT_ok ⟨(X:Int),(Y:Int),wh,bll,pl,(E:Int),cc,ss,nu,co⟩ k a;obtain ⟨⟨⟨nx,ny,nwh,nll,npl,nev,ncc,nss,nnu,nco⟩,ok⟩,hN⟩:∃ z,nextT ⟨(X:Int),(Y:Int),wh,bll,pl,(E:Int),cc,ss,nu,co⟩ k a=z:=⟨_,rfl⟩;rw [hN] at he nok;have dw:=l12Do_p X Y wh bll pl E cc ss nu co k a nx ny nwh nll npl nev ncc nss nnu nco ok hB hN;dsimp only at he nok;clear hN;cases ok with
 | false =>
  rw [if_neg Yby] at he;simp only [Prod.mk.injEq,HD.mk.injEq] at he;obtain ⟨⟨rfl,rfl,rfl,rfl,rfl,rfl,rfl,rfl,rfl,rfl⟩,rfl⟩:=he;refine jfd Tryz.func70 fun X c0 _=>?_;repeat' (first|refine Vbf ?_|apply Ub (c:=dw) (h:=?_))
  all_goals first|(exfalso;omega)|(exfalso;simp at *;done)|skip
  all_goals refine Rap ?_
  all_goals rfl
 | true =>
  rw [if_pos rfl] at he;have hNB:=nok.val rfl;dsimp only at hNB;have hs:=jdu hNB;obtain ⟨X',Y',rfl,rfl,-,-⟩:=jgg hs.box;have hev:=(jbv hs.sc).e0;obtain ⟨E',rfl⟩:=Int.eq_ofNat_of_zero_le hev;have hb:=jcz hNB;have n1:=hb.n1;have n2:=hb.n2;have l9:=hb.l9;have c10:=hb.c10;have p6:=hb.p6;simp only [Prod.mk.injEq,HD.mk.injEq] at he;obtain ⟨⟨rfl,rfl,rfl,rfl,rfl,rfl,rfl,rfl,rfl,rfl⟩,he⟩:=he;unfold toldH at he;dsimp only at he;clear nok hs hNB;by_cases h1:k=1∨k=5
  ·rw [if_pos h1] at he;subst he;have q:=l1NumZ_p nwh Kf;refine jfd Tryz.func70 fun X c0 _=>?_;repeat' (first|refine jav 7 (fun i=>i == 5) [0,1,2,3,-5,-6,6] ?_|refine jav 9 (fun i=>i == 7) [0,1,2,-4,4,5,-7,-8,8] ?_|refine jav 12 (fun i=>i == 7) [0,1,2,3,4,-6,-7,-8,8] ?_|refine jav 13 (fun i=>i == 4) [0,1,2,-4,-5,5] ?_|refine Vbf ?_|apply Ub (c:=dw) (h:=?_)|apply Ub (c:=q) (h:=?_)|refine jbd rfl (fun hc=>?_) (fun hc=>?_)|exact Qaa|exact Rej|fail)
  ·rw [if_neg h1] at he;by_cases h3:k=3
   ·rw [if_pos h3] at he;subst he;have p:=spAgreementsOf_p X' Y' nwh nll hb.hbox;have q:=l12ListT_p _ (jit hb.hbox) (by unfold agrsL;rw [rowF_len];omega);generalize agrsL nll=v at *;refine jfd Tryz.func70 fun X c0 _=>?_;repeat' (first|refine jav 7 (fun i=>i == 5) [0,1,2,3,-5,-6,6] ?_|refine jav 9 (fun i=>i == 7) [0,1,2,-4,4,5,-7,-8,8] ?_|refine jav 12 (fun i=>i == 7) [0,1,2,3,4,-6,-7,-8,8] ?_|refine jav 13 (fun i=>i == 4) [0,1,2,-4,-5,5] ?_|refine Vbf ?_|apply Ub (c:=dw) (h:=?_)|apply Ub (c:=p) (h:=?_)|apply Ub (c:=q) (h:=?_)|refine jbd rfl (fun hc=>?_) (fun hc=>?_)|exact Qaa|exact Rej|fail)
   ·rw [if_neg h3] at he;by_cases h6:k=6∨k=7
    ·rw [if_pos h6] at he;subst he;have p:=l7Kept_p E' ncc nss nnu hb.hsc hb.hnu;have q:=l12ListT_p _ (jil (cc:=ncc) (ss:=nss) (nu:=nnu) c10) (by have:=jfn ncc nss nnu ncc.length;omega);generalize keptK ncc nss nnu ncc.length=v at *;refine jfd Tryz.func70 fun X c0 _=>?_;repeat' (first|refine jav 7 (fun i=>i == 5) [0,1,2,3,-5,-6,6] ?_|refine jav 9 (fun i=>i == 7) [0,1,2,-4,4,5,-7,-8,8] ?_|refine jav 12 (fun i=>i == 7) [0,1,2,3,4,-6,-7,-8,8] ?_|refine jav 13 (fun i=>i == 4) [0,1,2,-4,-5,5] ?_|refine Vbf ?_|apply Ub (c:=dw) (h:=?_)|apply Ub (c:=q) (h:=?_)|apply Ub (c:=p) (h:=?_)|refine jbd rfl (fun hc=>?_) (fun hc=>?_)|exact Qaa|exact Rej|fail)
    ·rw [if_neg h6] at he;subst he;have q:=l12ListT_p npl (jip hb.hpl) Kf;refine jfd Tryz.func70 fun X c0 _=>?_;repeat' (first|refine jav 7 (fun i=>i == 5) [0,1,2,3,-5,-6,6] ?_|refine jav 9 (fun i=>i == 7) [0,1,2,-4,4,5,-7,-8,8] ?_|refine jav 12 (fun i=>i == 7) [0,1,2,3,4,-6,-7,-8,8] ?_|refine jav 13 (fun i=>i == 4) [0,1,2,-4,-5,5] ?_|refine Vbf ?_|apply Ub (c:=dw) (h:=?_)|apply Ub (c:=q) (h:=?_)|refine jbd rfl (fun hc=>?_) (fun hc=>?_)|exact Qaa|exact Rej|fail)
end
section
variable [Glb]
variable [GTab Tryz.prog tabNm]
variable [GErr Tryz.prog]
theorem l12ExecT_v (X Y:Nat) (wh:Int) (bll:List (List Int)) (pl:List Int) (E:Nat) (cc:List (List Int)) (ss nu:List Int) (co:Int) (hB:hallB X Y wh bll pl E cc ss nu co=true) (line:Tx) (hl:line.length<=1000)
  (rx ry rwh:Int) (rll:List (List Int)) (rpl:List Int) (rev:Int) (rcc:List (List Int)) (rss rnu:List Int) (rco:Int) (rep:Tx) (he:exeH ⟨(X:Int),(Y:Int),wh,bll,pl,(E:Int),cc,ss,nu,co⟩ line=(⟨rx,ry,rwh,rll,rpl,rev,rcc,rss,rnu,rco⟩,rep)) :
  PV Tryz.prog 48 [.g [dI X,dI Y,dI wh,eII bll,eI pl,dI E,eII cc,eI ss,eI nu,dI co],.c (dT line)] (.t [.g [dI rx,dI ry,dI rwh,eII rll,eI rpl,dI rev,eII rcc,eI rss,eI rnu,dI rco],.c (dT rep)]):=by
 have sp:=l1Split_p line 32 Kf;have s0:atZ (splitT 32 line) 0=bef 32 line:=split0 32 line;have spos:0 < (splitT 32 line).length:=List.length_pos_iff.2 (jgn 32 line);have slen:(splitT 32 line).length<=1001:=by
  have:=jhv 32 line;have:line.count 32<=line.length:=List.count_le_length;omega
 by_cases hsw:line=[115,119,97,112]
 ·subst hsw;rw [exe_swap] at he;have dv:=jnm X Y wh bll pl E cc ss nu co hB 4 0 rx ry rwh rll rpl rev rcc rss rnu rco rep he;clear he sp s0 spos slen;refine jfd Tryz.func48 fun X c0 _=>?_;repeat' (first|(refine jaa (.box 41 _) ?_;refine jax rfl rfl ?_)|(refine jaa (.alloc 41) ?_;refine jbi (zs:=[.int .i64 0,.int .i64 0,.int .i64 0,.slice none 0 0,.slice none 0 0,.int .i64 0,.slice none 0 0,.slice none 0 0,.slice none 0 0,.int .i64 0]) Kb rfl ?_)|apply zaa ?_|apply zab ?_|apply zau ?_|apply zan ?_|apply zcy ?_|apply zaj ?_|(refine jaa (.store 41 _ _) ?_;(refine jan rfl rfl rfl Kb rfl rfl ?_))|apply Uc (c:=dv) (h:=?_)|refine jai ?_|refine jaj ?_|refine jah ?_|refine jac ?_|refine jbg rfl ?_)
  all_goals refine Rap ?_
  all_goals rfl
 by_cases hre:line=[114,101,100,117,99,101]
 ·subst hre;rw [exe_reduce] at he;have dv:=jnm X Y wh bll pl E cc ss nu co hB 5 0 rx ry rwh rll rpl rev rcc rss rnu rco rep he;clear he sp s0 spos slen;refine jfd Tryz.func48 fun X c0 _=>?_;repeat' (first|(refine jaa (.box 41 _) ?_;refine jax rfl rfl ?_)|(refine jaa (.alloc 41) ?_;refine jbi (zs:=[.int .i64 0,.int .i64 0,.int .i64 0,.slice none 0 0,.slice none 0 0,.int .i64 0,.slice none 0 0,.slice none 0 0,.slice none 0 0,.int .i64 0]) Kb rfl ?_)|apply zaa ?_|apply zab ?_|apply zau ?_|apply zan ?_|apply zcy ?_|apply zaj ?_|(refine jaa (.store 41 _ _) ?_;(refine jan rfl rfl rfl Kb rfl rfl ?_))|apply Uc (c:=dv) (h:=?_)|refine jai ?_|refine jaj ?_|refine jah ?_|refine jac ?_|refine jbg rfl ?_|refine jay rfl ?_)
  all_goals refine Rap ?_
  all_goals rfl
 by_cases h1:(splitT 32 line).length=1
 ·rw [exe_tell _ h1 hsw hre] at he;have tp:=l12Tell_p X Y wh bll pl E cc ss nu co hB line;simp only [Prod.mk.injEq,HD.mk.injEq] at he;obtain ⟨⟨rfl,rfl,rfl,rfl,rfl,rfl,rfl,rfl,rfl,rfl⟩,rfl⟩:=he;generalize (quesO ⟨(X:Int),(Y:Int),wh,bll,pl,(E:Int),cc,ss,nu,co⟩ line).getD qT=r at *;generalize splitT 32 line=ws at *;refine jfd Tryz.func48 fun X c0 _=>?_;repeat' (first|(refine jaa (.box 41 _) ?_;refine jax rfl rfl ?_)|(refine jaa (.alloc 41) ?_;refine jbi (zs:=[.int .i64 0,.int .i64 0,.int .i64 0,.slice none 0 0,.slice none 0 0,.int .i64 0,.slice none 0 0,.slice none 0 0,.slice none 0 0,.int .i64 0]) Kb rfl ?_)|apply zaa ?_|apply zab ?_|apply zau ?_|apply zan ?_|(refine jaa (.store 41 _ _) ?_;(refine jan rfl rfl rfl Kb rfl rfl ?_))|apply zce ?_|apply zai ?_|apply zcc ?_|apply zbr ?_|apply Ub (c:=sp) (h:=?_)|apply Ub (c:=tp) (h:=?_)|refine jai ?_|refine jaj ?_|refine jah ?_|refine jaz ?_|refine jam ?_|refine jac ?_|refine jav 8 (fun i=>i == 4) [0,1,2,-4,-5,5] ?_|refine jbd rfl (fun hc=>absurd hc Yak) (fun _=>?_)|refine jbd rfl (fun hc=>?_) (fun hc=>?_)|exact Qaa|exact Rej|fail)
 have lr:=l1Read_p (atZ (splitT 32 line) 1);have wl:(atZ (splitT 32 line) 1).length<=4000000:=by
  have:=split_at_len 32 line (i:=1) Kf;rw [show ((1:Nat):Int)=1 from rfl] at this;omega
 have lr:=lr wl;cases hr:readB (atZ (splitT 32 line) 1) with
 | false =>
  rw [exe_no _ Kf hr] at he;rw [hr] at lr;simp only [Prod.mk.injEq,HD.mk.injEq] at he;obtain ⟨⟨rfl,rfl,rfl,rfl,rfl,rfl,rfl,rfl,rfl,rfl⟩,rfl⟩:=he;generalize splitT 32 line=ws at *;refine jfd Tryz.func48 fun X c0 _=>?_;repeat' (first|(refine jaa (.box 41 _) ?_;refine jax rfl rfl ?_)|(refine jaa (.alloc 41) ?_;refine jbi (zs:=[.int .i64 0,.int .i64 0,.int .i64 0,.slice none 0 0,.slice none 0 0,.int .i64 0,.slice none 0 0,.slice none 0 0,.slice none 0 0,.int .i64 0]) Kb rfl ?_)|apply zaa ?_|(refine jaa (.move _) ?_;(first|refine jab (jal rfl) rfl ?_|refine jab (jcn rfl) rfl ?_))|apply zau ?_|apply zan ?_|apply zaj ?_|(refine jaa (.store 41 _ _) ?_;(refine jan rfl rfl rfl Kb rfl rfl ?_))|apply zce ?_|apply zai ?_|apply zcc ?_|apply zbr ?_|apply zag ?_|apply zah ?_|apply Ub (c:=sp) (h:=?_)|apply Ub (c:=lr) (h:=?_)|refine jai ?_|refine jbn rfl rfl rfl rfl ?_|refine jaj ?_|refine jah ?_|refine jaz ?_|refine jam ?_|refine jac ?_|refine jav 8 (fun i=>i == 4) [0,1,2,-4,-5,5] ?_|refine jbg rfl ?_|refine jbd rfl (fun hc=>absurd hc Yak) (fun _=>?_)|refine jbd rfl (fun hc=>?_) (fun hc=>?_)|exact Qab|exact Rej|fail)
 | true =>
  rw [hr,if_pos rfl] at lr;by_cases h2:2 < (splitT 32 line).length
  ·rw [exe_many _ h2] at he;simp only [Prod.mk.injEq,HD.mk.injEq] at he;obtain ⟨⟨rfl,rfl,rfl,rfl,rfl,rfl,rfl,rfl,rfl,rfl⟩,rfl⟩:=he;generalize splitT 32 line=ws at *;refine jfd Tryz.func48 fun X c0 _=>?_;repeat' (first|(refine jaa (.box 41 _) ?_;refine jax rfl rfl ?_)|(refine jaa (.alloc 41) ?_;refine jbi (zs:=[.int .i64 0,.int .i64 0,.int .i64 0,.slice none 0 0,.slice none 0 0,.int .i64 0,.slice none 0 0,.slice none 0 0,.slice none 0 0,.int .i64 0]) Kb rfl ?_)|apply zaa ?_|(refine jaa (.move _) ?_;(first|refine jab (jal rfl) rfl ?_|refine jab (jcn rfl) rfl ?_))|apply zau ?_|apply zan ?_|apply zaj ?_|(refine jaa (.store 41 _ _) ?_;(refine jan rfl rfl rfl Kb rfl rfl ?_))|apply zce ?_|apply zai ?_|apply zcc ?_|apply zbr ?_|apply zag ?_|apply zbc ?_|apply zah ?_|(refine jaa (.buildSlice 35 5 _) ?_;(apply jaw (sz:=1) (by_:=16);exact Kb;exact Ybr;exact Kl;exact Ybr;(·rfl);(·rfl);(·rfl)))|(refine jaa (.buildSlice 25 5 _) ?_;(apply jaw (sz:=1) (by_:=8);exact Kb;exact Ybr;exact Kl;exact Ybr;(·rfl);(·rfl);(·rfl)))|apply Ub (c:=sp) (h:=?_)|apply Ub (c:=lr) (h:=?_)|refine jai ?_|refine jbj rfl rfl rfl rfl ?_|refine jaj ?_|refine jah ?_|refine jaz ?_|refine jam ?_|refine jac ?_|refine jav 8 (fun i=>i == 4) [0,1,2,-4,-5,5] ?_|refine jbd rfl (fun hc=>absurd hc Yak) (fun _=>?_)|refine jbd rfl (fun hc=>?_) (fun hc=>?_)|exact Qab|exact Rej|fail)
  ·rw [exe_call _ Kf hr,<- s0] at he;have kw:=kind_word (atZ (splitT 32 line) 0);have kn:=fun h1 h2 h3 h6 h7=>kind_none (w:=atZ (splitT 32 line) 0) h1 h2 h3 h6 h7;generalize splitT 32 line=ws at *;generalize candZ (atZ ws 1)=a at *;obtain ⟨k1,k2,k3,k6,k7⟩:=kw;have dv:=fun k hk=>jnm X Y wh bll pl E cc ss nu co hB k a rx ry rwh rll rpl rev rcc rss rnu rco rep hk;have hq:∀ k:Nat,kindN (atZ ws 0)=k->k=1∨k=2∨k=3∨k=6∨k=7->exeR ⟨(X:Int),(Y:Int),wh,bll,pl,(E:Int),cc,ss,nu,co⟩ (k:Int) a=(⟨rx,ry,rwh,rll,rpl,rev,rcc,rss,rnu,rco⟩,rep):=fun k hk h=>by
    rw [hk,if_neg Kf] at he;exact he
   have hz:kindN (atZ ws 0)=0∨kindN (atZ ws 0)=4∨kindN (atZ ws 0)=5->(⟨(X:Int),(Y:Int),wh,bll,pl,(E:Int),cc,ss,nu,co⟩,qT)=((⟨rx,ry,rwh,rll,rpl,rev,rcc,rss,rnu,rco⟩,rep):HD×Tx):=fun h=>by
    rw [if_pos h] at he;exact he
   clear he s0 hr;generalize kindN (atZ ws 0)=kd at *;refine jfd Tryz.func48 fun X c0 _=>?_;repeat' (first|(refine jaa (.box 41 _) ?_;refine jax rfl rfl ?_)|(refine jaa (.alloc 41) ?_;refine jbi (zs:=[.int .i64 0,.int .i64 0,.int .i64 0,.slice none 0 0,.slice none 0 0,.int .i64 0,.slice none 0 0,.slice none 0 0,.slice none 0 0,.int .i64 0]) Kb rfl ?_)|apply zaa ?_|(refine jaa (.move _) ?_;(first|refine jab (jal rfl) rfl ?_|refine jab (jcn rfl) rfl ?_))|apply zau ?_|apply zan ?_|apply zaj ?_|(refine jaa (.store 41 _ _) ?_;(refine jan rfl rfl rfl Kb rfl rfl ?_))|apply zce ?_|apply zai ?_|apply zcc ?_|apply zbr ?_|apply zag ?_|apply zbc ?_|apply zah ?_|(refine jaa (.buildSlice 35 5 _) ?_;(apply jaw (sz:=1) (by_:=16);exact Kb;exact Ybr;exact Kl;exact Ybr;(·rfl);(·rfl);(·rfl)))|(refine jaa (.buildSlice 25 5 _) ?_;(apply jaw (sz:=1) (by_:=8);exact Kb;exact Ybr;exact Kl;exact Ybr;(·rfl);(·rfl);(·rfl)))|apply Ub (c:=sp) (h:=?_)|apply Ub (c:=lr) (h:=?_)|refine jai ?_|refine jbj rfl rfl rfl rfl ?_|refine jaj ?_|refine jah ?_|refine jaz ?_|refine jam ?_|refine jac ?_|refine jav 8 (fun i=>i == 4) [0,1,2,-4,-5,5] ?_|refine jbd rfl (fun hc=>absurd hc Yak) (fun _=>?_)|refine jbd rfl (fun hc=>?_) (fun hc=>?_)|exact Qab|fail)
   apply jbe [2,4,6,7,9,10,11] [2,4,28,51,52,3017,3024,3074,4017,4024,4074,6017,6024,6074,7017,7024,7074,8017,8024,8074,900000000] rfl;exact Kk;(·(repeat(first|exact Pb.nil|apply Pb.cons (.row rfl)|(apply Pb.cons;exact Kc)|apply Pb.cons (.any rfl)|apply Pb.skip)))
   refine jbf [2,4,6,7,9,10] [2,4,3017,4017,6017,7017,8017,3024,4024,6024,7024,8024,28,51,52,3074,4074,6074,7074,8074,900000000] (fun j=>[(11,iN j)]) (fun _=>[]) (fun j=>j<=5 /\ ∀ i:Nat,i < j->atZ ws 0≠([[109,105,120],[97,110,115,119,101,114],[102,108,105,112],[110,117,109,98,101,114],[101,118,101,110,116]]:List Tx).getD i []) (fun j=>5 - j) (0) ?_ Kg Kv ?_
   ·exact ⟨by omega,fun i hi=>by omega⟩
   rintro j ⟨hj,hn⟩;rcases (by omega:j=0∨j=1∨j=2∨j=3∨j=4∨j=5) with rfl|rfl|rfl|rfl|rfl|rfl
   ·by_cases hw:atZ ws 0=[109,105,120]
    ·have dk:=dv 1 (hq 1 (k1 hw) Kf);clear dv hq hz kn k1 k2 k3 k6 k7 hn;repeat' (first|apply zaa ?_|apply zab ?_|apply zau ?_|apply zan ?_|apply zcy ?_|apply zaj ?_|(refine jaa (.store 41 _ _) ?_;(refine jan rfl rfl rfl Kb rfl rfl ?_))|apply zcm ?_|(refine jaa (.indexAddr 35 _ _) ?_;(first|refine jab (jdl rfl rfl Kb Kf Kf) rfl ?_|refine jab (jca rfl rfl (by kernel_rfl:tSl _ 35 1=true) Kf Kf) rfl ?_))|(refine jaa (.load 9 _) ?_;(first|refine jab (jap rfl Kb rfl) rfl ?_|refine jab (jcq rfl rfl Kb (by rfl)) rfl ?_))|apply zac ?_|apply zca ?_|apply zeh ?_|apply zad ?_|apply Uc (c:=dk) (h:=?_)|refine jai ?_|refine jaj ?_|refine jah ?_|refine jaz ?_|refine jam ?_|refine jac ?_|refine jav 17 (fun _=>false) [0,1,2,3,4,5,6,7] ?_|refine jav 18 (fun i=>i == 10) [0,1,2,3,4,5,6,-8,8,9,-11,11] ?_|refine jbg rfl ?_|refine jbd rfl (fun hc=>?_) (fun hc=>?_))
     all_goals first|(exfalso;omega)|(exfalso;exact absurd hw Yak)|skip
     all_goals refine Rap ?_
     all_goals rfl
    ·have dk:=dv;clear dv hq hz kn k1 k2 k3 k6 k7;repeat' (first|apply zaa ?_|apply zab ?_|apply zau ?_|apply zcm ?_|(refine jaa (.indexAddr 35 _ _) ?_;(first|refine jab (jdl rfl rfl Kb Kf Kf) rfl ?_|refine jab (jca rfl rfl (by kernel_rfl:tSl _ 35 1=true) Kf Kf) rfl ?_))|(refine jaa (.load 9 _) ?_;(first|refine jab (jap rfl Kb rfl) rfl ?_|refine jab (jcq rfl rfl Kb (by rfl)) rfl ?_))|apply zac ?_|apply zad ?_|refine jai ?_|refine jaj ?_|refine jah ?_|refine jaz ?_|refine jam ?_|refine jac ?_|refine jav 17 (fun _=>false) [0,1,2,3,4,5,6,7] ?_|refine jbg rfl ?_|refine jbd rfl (fun hc=>absurd hc Yak) (fun _=>?_))
     all_goals first|(exfalso;omega)|(exfalso;exact hw Yak)|skip
     refine bkL 1 ?_ ?_
     ·refine ⟨by omega,fun i hi=>?_⟩;by_cases hi2:i < 0
      ·exact hn i hi2
      ·obtain rfl:i=0:=by omega
       exact hw
     ·omega
   ·by_cases hw:atZ ws 0=[97,110,115,119,101,114]
    ·have dk:=dv 2 (hq 2 (k2 hw) Kf);clear dv hq hz kn k1 k2 k3 k6 k7 hn;repeat' (first|apply zaa ?_|apply zab ?_|apply zau ?_|apply zan ?_|apply zcy ?_|apply zaj ?_|(refine jaa (.store 41 _ _) ?_;(refine jan rfl rfl rfl Kb rfl rfl ?_))|apply zcm ?_|(refine jaa (.indexAddr 35 _ _) ?_;(first|refine jab (jdl rfl rfl Kb Kf Kf) rfl ?_|refine jab (jca rfl rfl (by kernel_rfl:tSl _ 35 1=true) Kf Kf) rfl ?_))|(refine jaa (.load 9 _) ?_;(first|refine jab (jap rfl Kb rfl) rfl ?_|refine jab (jcq rfl rfl Kb (by rfl)) rfl ?_))|apply zac ?_|apply zca ?_|apply zeh ?_|apply zad ?_|apply Uc (c:=dk) (h:=?_)|refine jai ?_|refine jaj ?_|refine jah ?_|refine jaz ?_|refine jam ?_|refine jac ?_|refine jav 17 (fun _=>false) [0,1,2,3,4,5,6,7] ?_|refine jav 18 (fun i=>i == 10) [0,1,2,3,4,5,6,-8,8,9,-11,11] ?_|refine jbg rfl ?_|refine jbd rfl (fun hc=>?_) (fun hc=>?_))
     all_goals first|(exfalso;omega)|(exfalso;exact absurd hw Yak)|skip
     all_goals refine Rap ?_
     all_goals rfl
    ·have dk:=dv;clear dv hq hz kn k1 k2 k3 k6 k7;repeat' (first|apply zaa ?_|apply zab ?_|apply zau ?_|apply zcm ?_|(refine jaa (.indexAddr 35 _ _) ?_;(first|refine jab (jdl rfl rfl Kb Kf Kf) rfl ?_|refine jab (jca rfl rfl (by kernel_rfl:tSl _ 35 1=true) Kf Kf) rfl ?_))|(refine jaa (.load 9 _) ?_;(first|refine jab (jap rfl Kb rfl) rfl ?_|refine jab (jcq rfl rfl Kb (by rfl)) rfl ?_))|apply zac ?_|apply zad ?_|refine jai ?_|refine jaj ?_|refine jah ?_|refine jaz ?_|refine jam ?_|refine jac ?_|refine jav 17 (fun _=>false) [0,1,2,3,4,5,6,7] ?_|refine jbg rfl ?_|refine jbd rfl (fun hc=>absurd hc Yak) (fun _=>?_))
     all_goals first|(exfalso;omega)|(exfalso;exact hw Yak)|skip
     refine bkL 2 ?_ ?_
     ·refine ⟨by omega,fun i hi=>?_⟩;by_cases hi2:i < 1
      ·exact hn i hi2
      ·obtain rfl:i=1:=by omega
       exact hw
     ·omega
   ·by_cases hw:atZ ws 0=[102,108,105,112]
    ·have dk:=dv 3 (hq 3 (k3 hw) Kf);clear dv hq hz kn k1 k2 k3 k6 k7 hn;repeat' (first|apply zaa ?_|apply zab ?_|apply zau ?_|apply zan ?_|apply zcy ?_|apply zaj ?_|(refine jaa (.store 41 _ _) ?_;(refine jan rfl rfl rfl Kb rfl rfl ?_))|apply zcm ?_|(refine jaa (.indexAddr 35 _ _) ?_;(first|refine jab (jdl rfl rfl Kb Kf Kf) rfl ?_|refine jab (jca rfl rfl (by kernel_rfl:tSl _ 35 1=true) Kf Kf) rfl ?_))|(refine jaa (.load 9 _) ?_;(first|refine jab (jap rfl Kb rfl) rfl ?_|refine jab (jcq rfl rfl Kb (by rfl)) rfl ?_))|apply zac ?_|apply zca ?_|apply zeh ?_|apply zad ?_|apply Uc (c:=dk) (h:=?_)|refine jai ?_|refine jaj ?_|refine jah ?_|refine jaz ?_|refine jam ?_|refine jac ?_|refine jav 17 (fun _=>false) [0,1,2,3,4,5,6,7] ?_|refine jav 18 (fun i=>i == 10) [0,1,2,3,4,5,6,-8,8,9,-11,11] ?_|refine jbg rfl ?_|refine jbd rfl (fun hc=>?_) (fun hc=>?_))
     all_goals first|(exfalso;omega)|(exfalso;exact absurd hw Yak)|skip
     all_goals refine Rap ?_
     all_goals rfl
    ·have dk:=dv;clear dv hq hz kn k1 k2 k3 k6 k7;repeat' (first|apply zaa ?_|apply zab ?_|apply zau ?_|apply zcm ?_|(refine jaa (.indexAddr 35 _ _) ?_;(first|refine jab (jdl rfl rfl Kb Kf Kf) rfl ?_|refine jab (jca rfl rfl (by kernel_rfl:tSl _ 35 1=true) Kf Kf) rfl ?_))|(refine jaa (.load 9 _) ?_;(first|refine jab (jap rfl Kb rfl) rfl ?_|refine jab (jcq rfl rfl Kb (by rfl)) rfl ?_))|apply zac ?_|apply zad ?_|refine jai ?_|refine jaj ?_|refine jah ?_|refine jaz ?_|refine jam ?_|refine jac ?_|refine jav 17 (fun _=>false) [0,1,2,3,4,5,6,7] ?_|refine jbg rfl ?_|refine jbd rfl (fun hc=>absurd hc Yak) (fun _=>?_))
     all_goals first|(exfalso;omega)|(exfalso;exact hw Yak)|skip
     refine bkL 3 ?_ ?_
     ·refine ⟨by omega,fun i hi=>?_⟩;by_cases hi2:i < 2
      ·exact hn i hi2
      ·obtain rfl:i=2:=by omega
       exact hw
     ·omega
   ·by_cases hw:atZ ws 0=[110,117,109,98,101,114]
    ·have dk:=dv 6 (hq 6 (k6 hw) Kf);clear dv hq hz kn k1 k2 k3 k6 k7 hn;repeat' (first|apply zaa ?_|apply zab ?_|apply zau ?_|apply zan ?_|apply zcy ?_|apply zaj ?_|(refine jaa (.store 41 _ _) ?_;(refine jan rfl rfl rfl Kb rfl rfl ?_))|apply zcm ?_|(refine jaa (.indexAddr 35 _ _) ?_;(first|refine jab (jdl rfl rfl Kb Kf Kf) rfl ?_|refine jab (jca rfl rfl (by kernel_rfl:tSl _ 35 1=true) Kf Kf) rfl ?_))|(refine jaa (.load 9 _) ?_;(first|refine jab (jap rfl Kb rfl) rfl ?_|refine jab (jcq rfl rfl Kb (by rfl)) rfl ?_))|apply zac ?_|apply zca ?_|apply zeh ?_|apply zad ?_|apply Uc (c:=dk) (h:=?_)|refine jai ?_|refine jaj ?_|refine jah ?_|refine jaz ?_|refine jam ?_|refine jac ?_|refine jav 17 (fun _=>false) [0,1,2,3,4,5,6,7] ?_|refine jav 18 (fun i=>i == 10) [0,1,2,3,4,5,6,-8,8,9,-11,11] ?_|refine jbg rfl ?_|refine jbd rfl (fun hc=>?_) (fun hc=>?_))
     all_goals first|(exfalso;omega)|(exfalso;exact absurd hw Yak)|skip
     all_goals refine Rap ?_
     all_goals rfl
    ·have dk:=dv;clear dv hq hz kn k1 k2 k3 k6 k7;repeat' (first|apply zaa ?_|apply zab ?_|apply zau ?_|apply zcm ?_|(refine jaa (.indexAddr 35 _ _) ?_;(first|refine jab (jdl rfl rfl Kb Kf Kf) rfl ?_|refine jab (jca rfl rfl (by kernel_rfl:tSl _ 35 1=true) Kf Kf) rfl ?_))|(refine jaa (.load 9 _) ?_;(first|refine jab (jap rfl Kb rfl) rfl ?_|refine jab (jcq rfl rfl Kb (by rfl)) rfl ?_))|apply zac ?_|apply zad ?_|refine jai ?_|refine jaj ?_|refine jah ?_|refine jaz ?_|refine jam ?_|refine jac ?_|refine jav 17 (fun _=>false) [0,1,2,3,4,5,6,7] ?_|refine jbg rfl ?_|refine jbd rfl (fun hc=>absurd hc Yak) (fun _=>?_))
     all_goals first|(exfalso;omega)|(exfalso;exact hw Yak)|skip
     refine bkL 4 ?_ ?_
     ·refine ⟨by omega,fun i hi=>?_⟩;by_cases hi2:i < 3
      ·exact hn i hi2
      ·obtain rfl:i=3:=by omega
       exact hw
     ·omega
   ·by_cases hw:atZ ws 0=[101,118,101,110,116]
    ·have dk:=dv 7 (hq 7 (k7 hw) Kf);clear dv hq hz kn k1 k2 k3 k6 k7 hn;repeat' (first|apply zaa ?_|apply zab ?_|apply zau ?_|apply zan ?_|apply zcy ?_|apply zaj ?_|(refine jaa (.store 41 _ _) ?_;(refine jan rfl rfl rfl Kb rfl rfl ?_))|apply zcm ?_|(refine jaa (.indexAddr 35 _ _) ?_;(first|refine jab (jdl rfl rfl Kb Kf Kf) rfl ?_|refine jab (jca rfl rfl (by kernel_rfl:tSl _ 35 1=true) Kf Kf) rfl ?_))|(refine jaa (.load 9 _) ?_;(first|refine jab (jap rfl Kb rfl) rfl ?_|refine jab (jcq rfl rfl Kb (by rfl)) rfl ?_))|apply zac ?_|apply zca ?_|apply zeh ?_|apply zad ?_|apply Uc (c:=dk) (h:=?_)|refine jai ?_|refine jaj ?_|refine jah ?_|refine jaz ?_|refine jam ?_|refine jac ?_|refine jav 17 (fun _=>false) [0,1,2,3,4,5,6,7] ?_|refine jav 18 (fun i=>i == 10) [0,1,2,3,4,5,6,-8,8,9,-11,11] ?_|refine jbg rfl ?_|refine jbd rfl (fun hc=>?_) (fun hc=>?_))
     all_goals first|(exfalso;omega)|(exfalso;exact absurd hw Yak)|skip
     all_goals refine Rap ?_
     all_goals rfl
    ·have dk:=dv;clear dv hq hz kn k1 k2 k3 k6 k7;repeat' (first|apply zaa ?_|apply zab ?_|apply zau ?_|apply zcm ?_|(refine jaa (.indexAddr 35 _ _) ?_;(first|refine jab (jdl rfl rfl Kb Kf Kf) rfl ?_|refine jab (jca rfl rfl (by kernel_rfl:tSl _ 35 1=true) Kf Kf) rfl ?_))|(refine jaa (.load 9 _) ?_;(first|refine jab (jap rfl Kb rfl) rfl ?_|refine jab (jcq rfl rfl Kb (by rfl)) rfl ?_))|apply zac ?_|apply zad ?_|refine jai ?_|refine jaj ?_|refine jah ?_|refine jaz ?_|refine jam ?_|refine jac ?_|refine jav 17 (fun _=>false) [0,1,2,3,4,5,6,7] ?_|refine jbg rfl ?_|refine jbd rfl (fun hc=>absurd hc Yak) (fun _=>?_))
     all_goals first|(exfalso;omega)|(exfalso;exact hw Yak)|skip
     refine bkL 5 ?_ ?_
     ·refine ⟨by omega,fun i hi=>?_⟩;by_cases hi2:i < 4
      ·exact hn i hi2
      ·obtain rfl:i=4:=by omega
       exact hw
     ·omega
   ·have e:=hz (kn (hn 0 Kf) (hn 1 Kf) (hn 2 Kf) (hn 3 Kf) (hn 4 Kf));clear dv hq hz kn k1 k2 k3 k6 k7 hn;simp only [Prod.mk.injEq,HD.mk.injEq] at e;obtain ⟨⟨rfl,rfl,rfl,rfl,rfl,rfl,rfl,rfl,rfl,rfl⟩,rfl⟩:=e;repeat' (first|apply zaa ?_|apply zab ?_|apply zan ?_|(refine jaa (.store 41 _ _) ?_;(refine jan rfl rfl rfl Kb rfl rfl ?_))|apply zcm ?_|apply zac ?_|refine jai ?_|refine jaj ?_|refine jaq rfl ?_|refine jac ?_|refine jay rfl ?_|exact Qaa|exact Rej|fail)
end
end Go.Proofs.YtbhbkbnlpackdaaGreatDoor
