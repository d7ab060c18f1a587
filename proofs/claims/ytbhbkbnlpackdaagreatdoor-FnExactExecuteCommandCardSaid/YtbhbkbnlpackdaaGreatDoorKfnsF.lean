/- What the functions that FnExactRunScript and FnExactReplayLog and FnExactExecuteCommand reaches return: part of its proof. No condition beyond those of its theorems. -/
import Derived.Test.YtbhbkbnlpackdaaGreatDoorKfnsB
import Derived.Test.YtbhbkbnlpackdaaGreatDoorKfnsA
import Derived.Test.YtbhbkbnlpackdaaGreatDoorKplainC
import Derived.Test.YtbhbkbnlpackdaaGreatDoorKplainA
import Derived.Test.YtbhbkbnlpackdaaGreatDoorKplainB
import Derived.WalkKit
import Derived.Test.YtbhbkbnlpackdaaGreatDoorKfnsC
set_option linter.unusedSectionVars false
set_option maxRecDepth 10000
set_option maxHeartbeats 4000000
set_option linter.unusedVariables false
set_option linter.unusedSimpArgs false
namespace Go.Proofs.YtbhbkbnlpackdaaGreatDoor
open Go.RowKit
section
variable [Glb]
theorem Vag {G G':Prop} (h:G') (t:Laa G'->G:=by intro h;first|(first|exact Wbk h.o|exact jac h.o|exact Maa h.o|exact Wbc h.o|exact Waf h.o|exact Wam h.o|exact Wbm h.o|exact Wbn h.o|exact Wbv h.o|exact Waq h.o|exact War h.o|exact Wbo h.o|fail);done|fail):G:=t ⟨h⟩
theorem l12Own_p (bx by_ bwh:Int) (bll:List (List Int)) (pl:List Int) (ev:Int) (cc:List (List Int)) (ss nu:List Int) (co:Int) (h1:bll.length<=1000000) (h2:∀ r∈bll,r.length<=1000000) (h3:cc.length<=1000000) (h4:∀ r∈cc,r.length<=1000000)
  (h5:pl.length<=1000000) (h6:ss.length<=1000000) (h7:nu.length<=1000000) :
  PC Tryz.prog 46 [.g [dI bx,dI by_,dI bwh,eII bll,eI pl,dI ev,eII cc,eI ss,eI nu,dI co]] (.p (.g [dI bx,dI by_,dI bwh,eII bll,eI pl,dI ev,eII cc,eI ss,eI nu,dI co])):=by
 refine jao Tryz.func46 fun _=>?_;repeat' (first|refine Vag ?_|fail)
 apply jbe [1,2,3,4] [1,2,3,7,27,28,29,34,36,56,57,58,64,69] rfl;exact Kh;exact Ki;refine jbf [1,2,3] [1,2,27,28,29,34,36,56,57,58,64,69] (fun i=>[(4,iN i)]) (fun i=>[(3,.box [.d (dI bx),.d (dI by_),.d (dI bwh),.ls 7 1 0 i,.d (eI pl),.d (dI ev),.d (eII cc),.d (eI ss),.d (eI nu),.d (dI co)]),(7,.row 1 (cII (bll.take i)))]) (fun i=>i<=bll.length) (fun i=>bll.length - i) (0) ?_ Kg Yag ?_
 ·omega
 intro i hi;have L0:(bll.take i).length=i:=by simp;omega
 by_cases hi2:i < bll.length
 ·have hr:=h2 _ (jfm hi2);have e:=List.take_succ_eq_append_getElem hi2;rw [<- jby hi2] at e;repeat' (first|refine jav 6 (fun i=>i == 11 || i == 14) [0,1,2,3,4,5,6,7,8,-10,-11,-12,12,13,-15] ?_|refine Vag ?_|apply Ua (c:=l1Own_p _ Kf) (h:=?_)|refine jbd rfl (fun hc=>?_) (fun hc=>?_)|exact Qaa|fail)
  refine bkL (i+1) ?_ ?_ (hB:=(by (repeat(first|exact trivial|refine ⟨(by (first|(refine jbs rfl ?_;simp  [e];done)|rfl)),?_⟩))))
  ·omega
  ·omega
 ·have h8:i=bll.length:=by omega
  subst h8;rw [List.take_length];repeat' (first|refine jav 6 (fun i=>i == 11 || i == 14) [0,1,2,3,4,5,6,7,8,-10,-11,-12,12,13,-15] ?_|refine Vag ?_|apply Ua (c:=l1Own_p _ Kf) (h:=?_)|refine jbd rfl (fun hc=>?_) (fun hc=>?_)|exact Qaa|fail)
  apply jbe [1,2,3,5] [1,2,3,7,27,28,29,34,36,56,57,58,64,69] rfl;exact Kh;exact Ki;refine jbf [1,2,3] [1,2,7,27,28,29,34,56,57,58,64,69] (fun i=>[(5,iN i)]) (fun i=>[(3,.box [.d (dI bx),.d (dI by_),.d (dI bwh),.ls 7 1 0 bll.length,.ls 34 1 0 pl.length,.d (dI ev),.ls 36 1 0 i,.d (eI ss),.d (eI nu),.d (dI co)]),(36,.row 1 (cII (cc.take i)))]) (fun i=>i<=cc.length) (fun i=>cc.length - i) (0) ?_ Kg Yag ?_
  ·omega
  intro i hi;have L0:(cc.take i).length=i:=by simp;omega
  by_cases hi2:i < cc.length
  ·have hr:=h4 _ (jfm hi2);have e:=List.take_succ_eq_append_getElem hi2;rw [<- jby hi2] at e;repeat' (first|refine jav 12 (fun i=>i == 11 || i == 14) [0,1,2,3,4,5,6,7,8,-10,-11,-12,12,13,-15] ?_|refine Vag ?_|apply Ua (c:=l1Own_p _ Kf) (h:=?_)|refine jbd rfl (fun hc=>?_) (fun hc=>?_)|exact Qaa|fail)
   refine bkL (i+1) ?_ ?_ (hB:=(by (repeat(first|exact trivial|refine ⟨(by (first|(refine jbs rfl ?_;simp  [e];done)|rfl)),?_⟩))))
   ·omega
   ·omega
  ·have h8:i=cc.length:=by omega
   subst h8;rw [List.take_length];repeat' (first|refine jav 12 (fun i=>i == 11 || i == 14) [0,1,2,3,4,5,6,7,8,-10,-11,-12,12,13,-15] ?_|refine Vag ?_|apply Ua (c:=l1Own_p _ Kf) (h:=?_)|refine jbd rfl (fun hc=>?_) (fun hc=>?_)|exact Qaa|fail)
   refine Rac ?_;rfl
theorem agreement_p (row:List Int) (h:row.length=4) (hb:∀ k:Int,0<=k->k < 4 -> -1000000000<=atZ row k/\atZ row k<=1000000000):PC Tryz.prog 187 [.c (eI row)] (.p (.c (dI (agrZ row)))):=by
 have b0:=hb 0 Kf Kf;have b1:=hb 1 Kf Kf;have b2:=hb 2 Kf Kf;have b3:=hb 3 Kf Kf;refine jao Tryz.func187 fun _=>?_;repeat' (first|refine jac ?_|refine jav 1 (fun _=>false) [0,1,2,3,4,5,6,7,8,9,10,11,12,13,14,15] ?_|refine Maa ?_|fail)
 ·refine Rad ?_;rfl
theorem at_p (X Y n:Int) (ll:List (List Int)) (h:boxB X Y n ll=true) (x y a c:Int) (x0:0<=x) (x1:x < X) (y0:0<=y) (y1:y < Y) (a0:0<=a) (a1:a<=1) (c0:0<=c) (c1:c<=1) :
  PC Tryz.prog 191 [.g [dI X,dI Y,dI n,eII ll],.c (dI x),.c (dI y),.c (dI a),.c (dI c)] (.p (.c (dI (atB ll Y x y (2*a+c))))):=by
 have hb:=jbo h;have hi:=jno x0 x1 y0 y1;have hr:=(jev h hi.1 hi.2.1).1;have hm:=jds (x:=X) (y:=Y) (jct.2 ⟨⟨hb.x1,hb.x3⟩,hb.y1,hb.y3⟩);have hl:=hb.len;refine jao Tryz.func191 fun _=>?_;repeat' (first|refine Wbl ?_|refine jac ?_|refine Maa ?_|refine Wba ?_|fail)
 ·refine Rad ?_;rfl
theorem newBox_p (x y:Nat) (wh:Int) (fid:FuncId) (caps:List D) (f:Nat->Nat->Nat->Int) (hx:x<=3) (hy:y<=3)
  (hf:∀ i k p:Nat,i < x->k < y->p < 4->PC Tryz.prog fid ([.c (dI i),.c (dI k),.c (dI ((p / 2:Nat):Int)),.c (dI ((p%2:Nat):Int))]++caps.map RP.c) (.p (.c (dI (f i k p))))) :
  PC Tryz.prog 239 [.c (dI x),.c (dI y),.c (dI wh),.c (.fn (.func fid) caps)] (.p (.g [dI x,dI y,dI wh,eII (boxF f y (y*x))])):=by
 have hxy:y*x<=3*3:=Nat.mul_le_mul hy hx;refine jao Tryz.func239 fun _=>?_;repeat' (first|refine jac ?_|refine Maa ?_|refine Wah ?_|apply zcd ?_|refine Wag ?_|fail)
 refine jcy (sim_nil_box 9 3 46 1 rfl Ybr rfl rfl rfl) ?_;apply jbe [1,3,8,9,18,19] [8,9,26,39,40,45,46] rfl;exact Kh;exact Ki;refine jbf [1,3,8,9,18] [8,26,39,40,45] (fun i=>[(19,iN i)]) (fun i=>[(9,.box [.d (dI x),.d (dI y),.d (dI wh),.ls 46 1 0 (y*i)]),(46,.row 1 (cII (boxF f y (y*i))))]) (fun i=>i<=x) (fun i=>x - i) (0) ?_ Kg Yay ?_
 ·omega
 intro i hi;repeat' (first|refine jac ?_|refine Maa ?_|refine Wag ?_|refine jbd rfl (fun hc=>?_) (fun hc=>?_))
 ·apply jbe [1,3,8,9,10,18,19,22,23] [8,9,26,39,40,45,46] rfl;exact Kh;exact Ki;refine jbf [1,3,8,9,10,18,19,22] [8,26,39,40,45] (fun k=>[(23,iN k)]) (fun k=>[(9,.box [.d (dI x),.d (dI y),.d (dI wh),.ls 46 1 0 (y*i+k)]),(46,.row 1 (cII (boxF f y (y*i+k))))]) (fun k=>k<=y) (fun k=>y - k) (0) ?_ Kg Yag ?_
  ·omega
  intro k hk;repeat' (first|refine jac ?_|refine Maa ?_|refine Wbq ?_|refine jbd rfl (fun hc=>?_) (fun hc=>?_))
  ·have hik:=idx_ltN (i:=i) (k:=k) (X:=x) (Y:=y) Kf Kf;apply jbe [1,3,8,9,10,11,12,18,19,22,23,27] [8,9,26,39,40,45,46] rfl;exact Kk;exact Ki;refine jbf [1,3,8,9,10,11,18,19,22,23] [8,9,39,40,45,46] (fun p=>[(27,iN p),(12,.c (.ls 26 1 0 p))]) (fun p=>[(26,.row 1 (cI (rowF (f i k) p)))]) (fun p=>p<=4) (fun p=>4 - p) (0) ?_ Kg Kg ?_
   ·omega
   intro p hp;repeat' (first|refine jac ?_|refine Maa ?_|apply zbw ?_|refine Wbr ?_|refine Wbs ?_|refine Wbm ?_|refine Wbn ?_|refine Waf ?_|(refine jaa (.call ⟨.value (.tmp 31),_,_⟩) ?_;(apply jhb;(·(exact .c (.d _)));exact Yav;(·exact hf i k p Kf Kf Kf);(·rfl)))|refine jbd rfl (fun hc=>?_) (fun hc=>?_))
   ·refine bkL (p+1) ?_ ?_ (hB:=(by (repeat(first|exact trivial|refine ⟨(by ((refine jbs rfl ?_;simp  [jdz];done))),?_⟩))))
    ·omega
    ·omega
   ·have h4:p=4:=by omega
    subst h4;refine bkL (k+1) ?_ ?_ (hB:=(by (repeat(first|exact trivial|refine ⟨(by (first|(refine jbs rfl ?_;simp  [jie _ _ _ _ (show k < y by omega)];done)|rfl)),?_⟩))))
    ·omega
    ·omega
  ·have h4:k=y:=by omega
   subst h4;refine bkL (i+1) ?_ ?_
   ·omega
   ·omega
 ·have h4:i=x:=by omega
  subst h4;refine Rab ?_;simp
theorem isSet_p (l:List Int) (n:Int) (h0:0<=n) (h1:n<=1000):PC Tryz.prog 154 [.c (eI l),.c (dI n)] (.p (.c (dB (riseB l 0 (n - 1))))):=by
 refine jao Tryz.func154 ?_;rintro ⟨hl,-⟩;have hl:=hl.len;repeat' (first|refine jac ?_|refine Maa ?_|fail)
 apply jbe [0,1,7,8,9] [] rfl;exact Ky;exact Yar;refine jbf [0,1,7,8] [] (fun k=>[(9,iN k)]) (fun _=>[]) (fun k=>k<=l.length/\(List.range k).all (riseAt l 0 (n - 1))=true) (fun k=>l.length - k) (0) ?_ Kg Kv ?_
 ·simp
 rintro k ⟨hk,ha⟩;repeat' (first|refine jgc rfl rfl rfl rfl rfl ?_|refine Wbh ?_|refine Wbi ?_|refine jac ?_|refine Maa ?_|apply zcs ?_|apply Ub (c:=within_p _ _ _) (h:=?_)|refine jcc rfl rfl (fun hg=>?_) (fun hg=>?_)|refine jdf rfl rfl (fun hg=>?_) (fun hg=>?_)|refine jbd rfl (fun hc=>?_) (fun hc=>?_)|exact Qaa|fail)
 ·refine Rad ?_;rw [rise_no (k:=k) Yak (.inl Ybp)]
 ·refine Rad ?_;rw [rise_no (k:=k) Kf (.inr ⟨by assumption,by assumption⟩)]
 ·refine bkL (k+1) ?_ ?_
  ·exact ⟨by omega,jlz ha Ybp (.inr Yak)⟩
  ·omega
 ·refine bkL (k+1) ?_ ?_
  ·exact ⟨by omega,jlz ha Ybp (.inl Yak)⟩
  ·omega
 ·have:k=l.length:=by omega
  subst this;refine Rad ?_;unfold riseB; rw [ha]
theorem isAssignment_p (ev:Int) (cc:List (List Int)) (ss nu:List Int):PC Tryz.prog 98 [.g [dI ev,eII cc,eI ss],.c (eI nu)] (.p (.c (dB (bitsB nu ev)))):=by
 refine jao Tryz.func98 fun _=>?_;repeat' (first|refine Wbh ?_|refine Wbi ?_|refine jac ?_|refine Maa ?_|refine Wbb ?_|apply Ub (c:=allWithin_p _ _ _) (h:=?_)|refine jcc rfl rfl (fun hg=>?_) (fun hg=>?_))
 all_goals refine Rad ?_
 all_goals ((simp_all [bitsB];done))
theorem IsScene_p (ev:Int) (cc:List (List Int)) (ss:List Int):PC Tryz.prog 97 [.g [dI ev,eII cc,eI ss]] (.p (.c (dB (sceneB ev cc ss)))):=by
 have hev:=fun h=>jcx.1 (h:inB ev 0 12=true);refine jao Tryz.func97 ?_;rintro ⟨hl,-⟩;have hl:=(hl _ (List.mem_cons_of_mem _ (List.mem_cons_self ..))).len;repeat' (first|refine Wbh ?_|refine Wbi ?_|refine jac ?_|refine Maa ?_|refine Wbb ?_|apply Ub (c:=within_p _ _ _) (h:=?_)|apply Ub (c:=allWithin_p _ _ _) (h:=?_)|refine jcc rfl rfl (fun hg=>?_) (fun hg=>?_)|refine jdf rfl rfl (fun hg=>?_) (fun hg=>?_)|refine jcu rfl (fun hc=>?_) (fun hc=>?_))
 ·refine Rad ?_;have:inB ev 0 12=false:=by simp_all
  simp [sceneB,this]
 ·refine Rad ?_;have:¬ cc.length<=10:=by omega
  simp [sceneB,this]
 ·refine Rad ?_;have:¬ (ss.length:Int)=cc.length:=by omega
  simp [sceneB,bitsB,this]
 ·refine Rad ?_;have:allB ss 0 1=false:=by assumption
  simp [sceneB,bitsB,this]
 have h1:inB ev 0 12=true:=by simp_all
 have hev:=hev h1;have h2:cc.length<=10:=by omega
 have h3:bitsB ss cc.length=true:=by
  have h4:(ss.length:Int)=cc.length:=by omega
  have h5:allB ss 0 1=true:=by assumption
  simp [bitsB,h4,h5]
 clear hc;apply jbe [1,31,32,33] [1] rfl;exact Kh;exact Ybi;refine jbf [1,31,32] [1] (fun k=>[(33,iN k)]) (fun _=>[]) (fun k=>k<=cc.length/\(cc.take k).all (ctxB ev)=true) (fun k=>cc.length - k) (0) ?_ Kg Kv ?_
 ·simp
 rintro k ⟨hk,ha⟩;repeat' (first|refine Wbh ?_|refine Wbi ?_|refine jac ?_|refine Maa ?_|apply Ub (c:=isSet_p _ _ Kf Kf) (h:=?_)|refine jcc rfl rfl (fun hg=>?_) (fun hg=>?_)|refine jbd rfl (fun hc=>?_) (fun hc=>?_)|refine jcu rfl (fun hc=>?_) (fun hc=>?_))
 ·have hk2:k < cc.length:=by omega
  refine Rad ?_;have h9:ctxB ev cc[k]=false:=by rw [<- jby hk2];simp [ctxB];omega
  simp only [sceneB,jlu (p:=ctxB ev) hk2 h9];simp
 ·have hk2:k < cc.length:=by omega
  refine Rad ?_;have h9:ctxB ev cc[k]=false:=by rw [<- jby hk2];simp [ctxB,hc]
  simp only [sceneB,jlu (p:=ctxB ev) hk2 h9];simp
 ·have hk2:k < cc.length:=by omega
  have h9:ctxB ev cc[k]=true:=by rw [<- jby hk2];simp [ctxB,hc];omega
  refine bkL (k+1) ?_ ?_
  ·exact ⟨by omega,by rw [jdw _ _ _ hk2,ha,h9];rfl⟩
  ·omega
 ·have:k=cc.length:=by omega
  subst this;rw [List.take_length] at ha;refine Rad ?_;simp [sceneB,h1,h2,h3,ha]
theorem shifted0_p (ev:Int) (cc:List (List Int)) (ss:List Int) (h1:cc.length<=1000000) (h2:∀ r∈cc,r.length<=1000000) (h3:∀ r∈cc,allB r 0 1000=true):PC Tryz.prog 75 [.g [dI ev,eII cc,eI ss],.c (dI 0)] (.p (.c (eII cc))):=by
 refine jao Tryz.func75 fun _=>?_;repeat' (first|refine jac ?_|refine Maa ?_|refine Wbb ?_|refine Wbo ?_|fail)
 apply jbe [1,5,13,14,15] [2,11,19,30,31,35,36] rfl;exact Kr;exact Ybe;refine jbf [1,13,14] [2,19,30,31,35,36] (fun i=>[(15,iN i),(5,.c (.ls 11 1 0 i))]) (fun i=>[(11,.row 1 (cII (cc.take i)))]) (fun i=>i<=cc.length) (fun i=>cc.length - i) (0) ?_ Kg Kt ?_
 ·omega
 intro i hi;have L0:(cc.take i).length=i:=by simp;omega
 by_cases hi2:i < cc.length
 ·have hr:=h2 _ (jfm hi2);have hb:=h3 _ (jfm hi2);repeat' (first|refine jac ?_|refine Maa ?_|refine Wbq ?_|refine jbd rfl (fun hc=>?_) (fun hc=>?_))
  ·apply jbe [1,5,8,13,14,15,20,21,22] [2,11,19,30,31,35,36] rfl;exact Kr;exact Ybe;refine jbf [1,5,13,14,15,20,21] [2,11,30,31,35,36] (fun k=>[(22,iN k),(8,.c (.ls 19 1 0 k))]) (fun k=>[(19,.row 1 (cI ((atZ cc i).take k)))]) (fun k=>k<=(atZ cc i).length) (fun k=>(atZ cc i).length - k) (0) ?_ Kg Kt ?_
   ·omega
   intro k hk;have L1:((atZ cc i).take k).length=k:=by simp;omega
   by_cases hk2:k < (atZ cc i).length
   ·exact Dar
   ·exact Daf
  ·exfalso; omega
 ·exact Das
def ixI (x:Int):List Int->Int
 | [] => -1
 | z :: r=>if z=x then 0 else if ixI x r = -1 then -1 else ixI x r+1
theorem ixI_none {x:Int}:∀ {l:List Int},x ∉ l->ixI x l = -1
 | [],_=>rfl
 | z :: r,h=>by
  rw [List.mem_cons,not_or] at h;rw [ixI,if_neg (Ne.symm h.1),ixI_none h.2,if_pos rfl]
theorem ixI_at {x:Int}:∀ {l:List Int} {k:Nat} (h:k < l.length),l[k]=x->x ∉ l.take k->ixI x l=k
 | z :: r,0,_,e,_=>by rw [ixI,if_pos (by simpa using e)];rfl
 | z :: r,k+1,h,e,ht=>by
  rw [List.take_succ_cons,List.mem_cons,not_or] at ht;have:=ixI_at (l:=r) (k:=k) (by simpa using h) (by simpa using e) ht.2;rw [ixI,if_neg (Ne.symm ht.1),this,if_neg Kf];omega
theorem ixI_has (x:Int):∀ l:List Int,-1<=ixI x l/\decide (ixI x l ≥ 0)=l.contains x
 | []=>⟨by simp [ixI],rfl⟩
 | z :: r=>by
  obtain ⟨h1,h2⟩:=ixI_has x r;rw [ixI];by_cases hz:z=x
  ·rw [if_pos hz];simp [hz]
  ·rw [if_neg hz];have:(z :: r).contains x=r.contains x:=by
    rw [List.contains_cons];simp [Ne.symm hz]
   rw [this,<- h2];split
   ·rename_i e;rw [e];exact ⟨by omega,rfl⟩
   ·exact ⟨by omega,decide_eq_decide.2 ⟨fun _=>by omega,fun _=>by omega⟩⟩
theorem slIndex_p (l:List Int) (x:Int):PC Tryz.prog 155 [.c (eI l),.c (dI x)] (.p (.c (dI (ixI x l)))):=by
 refine jao Tryz.func155 ?_;rintro ⟨hl,-⟩;have hl:=hl.len;repeat' (first|refine jac ?_|refine Maa ?_|fail)
 apply jbe [0,1,7,8] [] rfl;exact Ky;exact Yar;refine jbf [0,1,7] [] (fun k=>[(8,iN k)]) (fun _=>[]) (fun k=>k<=l.length/\x ∉ l.take k) (fun k=>l.length - k) (0) ?_ Kg Kv ?_
 ·simp
 rintro k ⟨hk,ht⟩;by_cases h:k < l.length
 ·repeat' (first|refine jac ?_|refine Maa ?_|refine jbd rfl (fun hc=>?_) (fun hc=>?_)|exact Qaa|fail)
  ·refine Rad ?_;have e:l[k]=x:=by rw [<- jby h];apply Eq.symm;assumption
   rw [ixI_at h e ht]
  ·refine bkL (k+1) ?_ ?_
   ·refine ⟨by omega,?_⟩;rw [List.take_succ_eq_append_getElem h,List.mem_append,not_or,List.mem_singleton,<- jby h];exact ⟨ht,by assumption⟩
   ·omega
 ·repeat' (first|refine jac ?_|refine Maa ?_|refine jbd rfl (fun hc=>?_) (fun hc=>?_)|exact Qaa|fail)
  have:k=l.length:=by omega
  subst this;rw [List.take_length] at ht;refine Rad ?_;rw [ixI_none ht]
theorem containsI_p (l:List Int) (x:Int):PC Tryz.prog 100 [.c (eI l),.c (dI x)] (.p (.c (dB (l.contains x)))):=by
 have h:=(ixI_has x l).2;refine jao Tryz.func100 fun _=>?_;repeat' (first|refine jac ?_|refine Maa ?_|apply zcs ?_|apply Ub (c:=slIndex_p _ _) (h:=?_))
 refine Rad ?_;rw [<- h]
theorem plays_p (x y:Nat) (h:x+y<=6):PC Tryz.prog 292 [.c (dI x),.c (dI y)] (.p (.c (eII (playsF (x+y))))):=by
 have e2:(2:Nat)^(x+y)<=64:=Nat.le_trans (Nat.pow_le_pow_right Kf h) Ybr;obtain ⟨N,hN⟩:∃ N:Nat,N=2^(x+y):=⟨_,rfl⟩;rw [<- hN] at e2;have e1:(1:Int)*2^((x:Int)+y).toNat=N:=by
  rw [show ((x:Int)+y).toNat=x+y by omega,hN,Int.natCast_pow];simp
 refine jao Tryz.func292 fun _=>?_;repeat' (first|refine jac ?_|refine Maa ?_|refine Wbo ?_|apply zcv ?_|fail)
 apply jbe [0,1,5,13,14] [9,17,34,35,39,40] rfl;exact Kr;exact Yah;refine jbf [0,1,13] [17,34,35,39,40] (fun c=>[(14,iN c),(5,.c (.ls 9 1 0 c))]) (fun c=>[(9,.row 1 (cII ((List.range c).map (bitsM (x+y)))))]) (fun c=>c<=N) (fun c=>N - c) (0) ?_ Kg Kt ?_
 ·omega
 intro c hc;repeat' (first|refine jac ?_|refine Maa ?_|refine Wbq ?_|refine jbd rfl (fun hc=>?_) (fun hc=>?_))
 ·apply jbe [0,1,5,6,7,13,14,20,21] [9,17,34,35,39,40] rfl;exact Kr;exact Yah;refine jbf [0,1,5,6,13,14,20] [9,34,35,39,40] (fun i=>[(21,iN i),(7,.c (.ls 17 1 0 i))]) (fun i=>[(17,.row 1 (cI (rowF (fun i=>(bitN c (x+y - 1 - i):Int)) i)))]) (fun i=>i<=x+y) (fun i=>x+y - i) (0) ?_ Kg Kg ?_
  ·omega
  intro i hi;have e3:i < x+y->(c:Int) / 2^((x:Int)+y - 1 - i).toNat%2=(bitN c (x+y - 1 - i):Int):=fun h=>by
   rw [show ((x:Int)+y - 1 - i).toNat=x+y - 1 - i by omega,jhc]
  repeat' (first|refine jac ?_|refine Maa ?_|apply zbt ?_|refine Wbr ?_|refine Wbs ?_|refine Wbm ?_|refine Wbn ?_|refine jbd rfl (fun hc=>?_) (fun hc=>?_))
  ·have e3:=e3 Kf;simp at e3;refine bkL (i+1) ?_ ?_ (hB:=(by (repeat(first|exact trivial|refine ⟨(by ((refine jbs rfl ?_;simp  [jdz,e3];done))),?_⟩))))
   ·omega
   ·omega
  ·have h8:i=x+y:=by omega
   subst h8;refine bkL (c+1) ?_ ?_ (hB:=(by (repeat(first|exact trivial|refine ⟨(by ((refine jbs rfl ?_;simp  [plays_snoc,bitsM];done))),?_⟩))))
   ·omega
   ·omega
 ·have h8:c=N:=by omega
  subst h8;subst hN;refine Raa ?_;simp [playsF]
end
section
variable [Glb]
open Go
def partB (b:UInt8) (l:List Int) (k:Nat):Tx:=joinT b ((l.take k).map txtZ)
theorem jpi (b:UInt8) (l:List Int):partB b l 0=[]:=rfl
theorem partB_one (b:UInt8) {l:List Int} (h:0 < l.length):partB b l 1=txtZ (atZ l 0):=by
 have e:atZ l 0=l[0]:=jby (l:=l) (k:=0) h;rw [e];cases l with
 | nil=>simp at h
 | cons a r=>rfl
theorem jpj (b:UInt8) {l:List Int} {k:Nat} (hk:k < l.length) (h0:0 < k):partB b l (k+1)=partB b l k++[b]++txtZ (atZ l (k:Int)):=by
 unfold partB;rw [List.take_succ_eq_append_getElem hk,List.map_append,List.map_singleton,jkw _ _ (by
  intro e;have:=congrArg List.length e;rw [List.length_map,List.length_take,List.length_nil] at this;omega),jby hk]
theorem partB_all (l:List Int):partB 32 l l.length=joinN l:=by unfold partB joinN; rw [List.take_length]
theorem partB_row {r:List Int} (h:r.length=4):partB 44 r 4=rowT r:=by unfold partB rowT; rw [List.take_of_length_le Kf]
theorem partB_len (b:UInt8) {l:List Int} (h:jgh l) (k:Nat):(partB b l k).length<=8*l.length:=by
 have:=jic b (m:=7) (l:=(l.take k).map txtZ) fun x hx=>by
  obtain ⟨n,hn,rfl⟩:=List.mem_map.1 hx;exact (jew (h n (List.mem_of_mem_take hn))).2
 unfold partB;rw [List.length_map,List.length_take] at this;have h2:min k l.length<=l.length:=Nat.min_le_right ..;have h3:(7+1)*min k l.length<=8*l.length:=by omega
 omega
theorem sayL_if (l:List Int) (h:l≠[]):sayL l=joinN l:=if_neg h
end
section
variable [Glb]
theorem l1Num_p:∀ n:Nat,n<=9223372036854775807->PC Tryz.prog 102 [.c (dI n)] (.p (.c (dT (numT n)))):=by
 intro n;induction n using Nat.strongRecOn with
 | ind n ih =>
  intro hn;refine jao Tryz.func102 fun _=>?_;by_cases h:n < 10
  ·repeat' (first|refine jac ?_|refine Wcq ?_|refine Maa ?_|refine Wcp ?_|apply zbw ?_|refine jbd rfl (fun hc=>?_) (fun hc=>?_)|exact Qaa|fail)
   have e:=jgz n;rw [if_pos h,<- dig_at h] at e;refine Rad ?_;rw [e];simp [partZ,digT]
  ·have hlen:(numT (n / 10)).length<=19:=(jgi 18 _ Kf).2;have ih2:=ih (n / 10) Kf Kf;rw [show ((n / 10:Nat):Int)=(n:Int) / 10 by omega] at ih2;clear ih;repeat' (first|apply zei (jdm rfl rfl (addP Ybo)) ?_|refine jac ?_|refine Wcq ?_|refine Maa ?_|refine Wcp ?_|apply zbw ?_|apply Ub (c:=ih2) (h:=?_)|refine jbd rfl (fun hc=>?_) (fun hc=>?_)|exact Qaa|fail)
   have e:=jgz n;rw [if_neg h,<- dig_at (n:=n%10) Kf] at e;have h2:((n:Int)%10).toNat=n%10:=by omega
   have h3:((n:Int)%10+1).toNat=n%10+1:=by omega
   all_goals refine Rad ?_
   rw [e];simp [partZ,digT,h2,h3]
theorem l1NumZ_p (n:Int) (h : -999999<=n/\n<=999999):PC Tryz.prog 102 [.c (dI n)] (.p (.c (dT (txtZ n)))):=by
 by_cases hn:n < 0
 ·have q:=l1Num_p (-n).toNat Kf;rw [show (((-n).toNat:Nat):Int) = -n by omega] at q;have hl:=jgi 5 (-n).toNat Kf;have e:txtZ n=[45]++numT (-n).toNat:=by unfold txtZ;rw [if_pos hn];rfl
  rw [e];refine jao Tryz.func102 fun _=>?_;repeat' (first|refine jac ?_|refine Wcq ?_|refine Maa ?_|apply zby ?_|refine Wcr ?_|apply zbw ?_|apply Ub (c:=q) (h:=?_)|refine jbd rfl (fun hc=>?_) (fun hc=>?_)|exact Qaa|exact Rav|fail)
 ·obtain ⟨k,rfl⟩:=Int.eq_ofNat_of_zero_le (by omega:0<=n);rw [txtZ_nat];exact l1Num_p k Kf
theorem l12List_p (l:List Int) (ok:Bool) (h:jgh l) (hl:l.length<=1000):PC Tryz.prog 106 [.c (eI l),.c (dB ok)] (.p (.c (dT (if ok=true then sayL l else qT)))):=by
 have pl:=fun k=>partB_len 32 h k;refine jao Tryz.func106 fun _=>?_;repeat' (first|refine jac ?_|refine Maa ?_|fail)
 apply jbe [0,1,5,6] [] rfl;exact Ky;exact Yar;refine jbf [0,1] [] (fun k=>[(6,iN k),(5,.c (.d (dT (partB 32 l k))))]) (fun _=>[]) (fun k=>k<=l.length) (fun k=>l.length - k) (0) ?_ Kg Kv ?_
 ·omega
 intro k hk;have plk:=pl k;by_cases h2:k < l.length
 ·have hs:=h.at h2;have tz:=jew hs;by_cases h0:0 < k
  ·have e:=jpj 32 h2 h0;repeat' (first|apply zei (jdm rfl rfl (by (first|omega|(simp at *;omega)))) ?_|refine jac ?_|refine Maa ?_|apply zau ?_|apply Ub (c:=l1NumZ_p (atZ l (k:Int)) hs) (h:=?_)|refine jbd rfl (fun hc=>?_) (fun hc=>?_)|refine jcu rfl (fun hc=>?_) (fun hc=>?_)|exact Qab|fail)
   refine bkL (k+1) ?_ ?_ (hV:=(by (repeat(first|exact trivial|refine ⟨(by (first|rfl|(refine jjk rfl ?_;((simp  [e];done))))),?_⟩))))
   ·omega
   ·omega
  ·obtain rfl:k=0:=by omega
   have e:=partB_one 32 h2;have e0:=jpi 32 l;repeat' (first|apply zda ?_|refine jac ?_|refine Maa ?_|apply zau ?_|apply Ub (c:=l1NumZ_p (atZ l ((0:Nat):Int)) hs) (h:=?_)|refine jbd rfl (fun hc=>?_) (fun hc=>?_)|refine jcu rfl (fun hc=>?_) (fun hc=>?_)|exact Qab|fail)
   refine bkL 1 ?_ ?_ (hV:=(by (repeat(first|exact trivial|refine ⟨(by (first|rfl|(refine jjk rfl ?_;((simp  [e,e0];done))))),?_⟩))))
   ·omega
   ·omega
 ·obtain rfl:k=l.length:=by omega
  rw [partB_all] at plk ⊢;cases ok with
  | false =>
   repeat' (first|apply zda ?_|refine jac ?_|refine Maa ?_|refine jbd rfl (fun hc=>?_) (fun hc=>?_)|exact Qab|exact Rav|fail)
  | true =>
   by_cases hn:l=[]
   ·subst hn;rw [joinN_nil];repeat' (first|refine jac ?_|refine Maa ?_|apply zau ?_|exact Qab|exact Rav|fail)
   ·have hj:=joinN_ne hn;have hy:=sayL_if l hn;repeat' (first|apply zda ?_|refine jac ?_|refine Maa ?_|apply zau ?_|refine jbd rfl (fun hc=>?_) (fun hc=>?_)|exact Qab|fail)
    all_goals refine Rad ?_
    all_goals rw [if_pos rfl,hy]
theorem spFormatInt_p (n:Int) (h : -999999<=n/\n<=999999):PC Tryz.prog 162 [.c (dI n)] (.t [.c (dT (txtZ n)),.c (dB true)]):=by
 have hi:inB n (-999999) 999999=true:=jcx.2 h;refine jao Tryz.func162 fun _=>?_;repeat' (first|refine jac ?_|refine Maa ?_|apply Ub (c:=l1In_p _ _ _) (h:=?_)|apply Ub (c:=l1NumZ_p n h) (h:=?_)|refine jcu rfl (fun hc=>?_) (fun hc=>?_)|exact Qac|exact Rbl|fail)
theorem joh (n:Int) (h:n < -999999∨999999 < n):PC Tryz.prog 162 [.c (dI n)] (.t [.c (dT []),.c (dB false)]):=by
 have hi:inB n (-999999) 999999=false:=jim.2 h;refine jao Tryz.func162 fun _=>?_;repeat' (first|refine jac ?_|refine Maa ?_|apply Ub (c:=l1In_p _ _ _) (h:=?_)|refine jcu rfl (fun hc=>?_) (fun hc=>?_)|exact Qac|exact Rbl|fail)
theorem l12Say_p (n:Int) (h : -999999<=n/\n<=999999):PC Tryz.prog 113 [.c (dI n),.c (dB true)] (.p (.c (dT (txtZ n)))):=by
 refine jao Tryz.func113 fun _=>?_;repeat' (first|refine Wby ?_|refine Wbi ?_|refine jac ?_|refine Maa ?_|apply Ub (c:=spFormatInt_p n h) (h:=?_)|exact Qac|exact Rav|fail)
theorem l12Say_big (n:Int) (h:n < -999999∨999999 < n):PC Tryz.prog 113 [.c (dI n),.c (dB true)] (.p (.c (dT qT))):=by
 refine jao Tryz.func113 fun _=>?_;repeat' (first|refine Wby ?_|refine Wbi ?_|refine jac ?_|refine Maa ?_|apply Ub (c:=joh n h) (h:=?_)|exact Qac|exact Rav|fail)
theorem l12Say_no (n:Int) (h : -999999<=n/\n<=999999):PC Tryz.prog 113 [.c (dI n),.c (dB false)] (.p (.c (dT qT))):=by
 refine jao Tryz.func113 fun _=>?_;repeat' (first|refine Wby ?_|refine Wbh ?_|refine jac ?_|refine Maa ?_|apply Ub (c:=spFormatInt_p n h) (h:=?_)|exact Qac|exact Rav|fail)
theorem l2Agree_p (row:List Int) (h:row.length=4) (hb:∀ k:Int,0<=k->k < 4 -> -1000000000<=atZ row k/\atZ row k<=1000000000):PC Tryz.prog 158 [.c (eI row)] (.p (.c (dI (agrZ row)))):=by
 have b0:=hb 0 Kf Kf;have b1:=hb 1 Kf Kf;have b2:=hb 2 Kf Kf;have b3:=hb 3 Kf Kf;refine jao Tryz.func158 fun _=>?_;repeat' (first|refine jac ?_|refine jav 1 (fun _=>false) [0,1,2,3,4,5,6,7,8,9,10,11,12,13,14,15] ?_|refine Maa ?_|fail)
 ·refine Rad ?_;rfl
theorem l1Most_p (a b:Int):PC Tryz.prog 219 [.c (dI a),.c (dI b)] (.p (.c (dI (max a b)))):=by
 refine jao Tryz.func219 fun _=>?_;repeat' (first|refine jac ?_|refine Maa ?_|refine jbd rfl (fun hc=>?_) (fun hc=>?_))
 all_goals refine Rad ?_
 all_goals simp
 all_goals omega
end
section
variable [Glb]
open Go
def zL (l:List Nat):List Int:=l.map fun n:Nat=>(n:Int)
@[simp] theorem zL_len (l : List Nat) : (zL l).length = l.length := by simp [zL]
theorem zL_at {l:List Nat} {i:Nat} (h:i < l.length):atZ (zL l) (i:Int)=(rw0 l i:Int):=by
 rw [jby (by simpa using h),jgq h];simp [zL]
theorem bit_test (x e:Nat):x.testBit e=decide (bitN x e=1):=by
 rw [Nat.testBit_eq_decide_div_mod_eq];rfl
theorem bit_no {x e:Nat} (h:bitN x e=0):x.testBit e=false:=by rw [bit_test,h]; rfl
theorem bit_yes {x e:Nat} (h:bitN x e=1):x.testBit e=true:=by rw [bit_test,h]; rfl
theorem bitN_01 (x e:Nat):bitN x e=0∨bitN x e=1:=by unfold bitN; omega
theorem mask_ltE {l:List Int} {E:Nat}:∀ {k:Nat},(∀ j:Nat,j < k->0<=atZ l (j:Int)/\atZ l (j:Int) < E)->maskK l k < 2^E
 | 0,_=>by simp [maskK];exact Nat.two_pow_pos E
 | k+1,h=>by
  have b:=h k Kf;exact Nat.or_lt_two_pow (mask_ltE fun j hj=>h j Kf) (Nat.pow_lt_pow_right Kf Kf)
end
section
variable [Glb]
theorem l1Least_p (a b:Int):PC Tryz.prog 160 [.c (dI a),.c (dI b)] (.p (.c (dI (min a b)))):=by
 refine jao Tryz.func160 fun _=>?_;repeat' (first|refine jac ?_|refine Maa ?_|refine jbd rfl (fun hc=>?_) (fun hc=>?_))
 all_goals refine Rad ?_
 all_goals simp [Int.min_def]
 all_goals omega
theorem l12Chance_p (x y:Nat) (bwh:Int) (bll:List (List Int)) (pl:List Int) (ev:Int) (cc:List (List Int)) (ss nu:List Int) (co:Int) (hB:hallB x y bwh bll pl ev cc ss nu co=true) :
  PC Tryz.prog 110 [.g [dI x,dI y,dI bwh,eII bll,eI pl,dI ev,eII cc,eI ss,eI nu,dI co]] (.p (.c (dI (leastN bwh (chanceF y x bll pl) (y*x))))):=by
 have hH:=jdu hB;have hb:=jbo hH.box;have g1:=hb.x1;have g2:=hb.x3;have g3:=hb.y1;have g4:=hb.y3;have g5:=hb.len;have hpl:=hH.pl;have hl:=jce hpl;have hn:bll.length=y*x:=Int.ofNat_inj.1 (by rw [g5,Int.natCast_mul,Int.mul_comm]);have hm:=jds (jct.2 ⟨⟨g1,g2⟩,g3,g4⟩);refine jao Tryz.func110 fun _=>?_;repeat' (first|refine jac ?_|refine Maa ?_|refine Wbc ?_|fail)
 apply jbe [1,3,4] [1] rfl;exact Kh;exact Ybi;refine jbf [1] [1] (fun i=>[(4,iN i),(3,iZ (leastN bwh (chanceF y x bll pl) i))]) (fun _=>[]) (fun i=>i<=bll.length) (fun i=>bll.length - i) (0) ?_ Kg Kv ?_
 ·omega
 intro i hi;by_cases hi2:i < bll.length
 ·obtain ⟨a,m,c1,c2,d1,d2,e⟩:=jls (X:=x) (Y:=y) bll pl (i:=i) Kf Kf;have b1:=jdd hpl (i:=a) Kf Kf;have b2:=jdd hpl (i:=x+m) Kf Kf;have r:=jev hH.box (q:=i) Kf Kf;rw [<- c1] at b1;rw [<- c2] at b2;repeat' (first|refine Wbl ?_|refine Wbk ?_|refine jac ?_|refine jav 5 (fun _=>false) [0,1,2,3,4,5,6,7,8,9,10,11,12,13,14,15,16,17,18,19,20,21,22,23,24] ?_|refine Maa ?_|apply zbw ?_|apply Ub (c:=l1Least_p _ _) (h:=?_)|refine jbd rfl (fun hc=>?_) (fun hc=>?_))
  ·refine bkL (i+1) ?_ ?_
   ·omega
   ·omega
  ·exfalso; omega
 ·have h8:i=bll.length:=by omega
  subst h8;repeat' (first|refine Wbl ?_|refine Wbk ?_|refine jac ?_|refine jav 5 (fun _=>false) [0,1,2,3,4,5,6,7,8,9,10,11,12,13,14,15,16,17,18,19,20,21,22,23,24] ?_|refine Maa ?_|apply zbw ?_|refine jbd rfl (fun hc=>?_) (fun hc=>?_))
  ·exfalso; omega
  ·refine Rad ?_;rw [hn]
theorem l12Yes_p (a b:Bool):PC Tryz.prog 111 [.c (dB a),.c (dB b)] (.p (.c (dT (if b=true then sayB a else qT)))):=by
 refine jao Tryz.func111 fun _=>?_;cases b <;> cases a
 all_goals
  repeat' (first|refine jac ?_|refine Maa ?_|fail)
  all_goals refine Rad ?_
  all_goals rfl
end
section
open Go
end
section
variable [Glb]
theorem part_nil (s:Tx) (i:Int):partZ s i i=[]:=by simp [partZ]
theorem part_snoc {s:Tx} {f i:Nat} (h:f<=i) (h2:i < s.length):partZ s f (i+1)=partZ s f i++[s[i]]:=by
 unfold partZ;have e1:((i:Int)+1).toNat - (f:Int).toNat=(i - f)+1:=by omega
 have e2:(i:Int).toNat - (f:Int).toNat=i - f:=by omega
 rw [e1, e2];have h3:i - f < (s.drop (f:Int).toNat).length:=by simp;omega
 rw [List.take_succ_eq_append_getElem h3];congr 2;rw [List.getElem_drop];congr 1;omega
theorem l1Split_p (s:Tx) (b:UInt8) (hs:s.length<=4000000):PC Tryz.prog 26 [.c (dT s),.c (.lit (.int .u8 b.toNat))] (.p (.c (eT (splitT b s)))):=by
 refine jao Tryz.func26 fun _=>?_;repeat' (first|refine jac ?_|refine Maa ?_|refine Wcb ?_|fail)
 apply jbe [0,1,5,6,7] [8,25,26,33,34] rfl;exact Kr;exact Yah;refine jbf [0,1] [25,26,33,34] (fun (g:List Tx×Nat×Nat)=>[(5,.c (.ls 8 1 0 g.1.length)),(6,iN g.2.1),(7,iN g.2.2)]) (fun g=>[(8,.row 1 (g.1.map dT))]) (fun g=>g.1.length<=g.2.2/\g.2.1<=g.2.2/\g.2.2<=s.length/\g.1++preT (partZ s g.2.1 g.2.2) (splitT b (s.drop g.2.2))=splitT b s) (fun g=>s.length - g.2.2) (([],0,0)) ?_ Kg Kt ?_
 ·simp [partZ,preT_nil (jgn b s)]
 rintro ⟨out,f,i⟩ ⟨h0,h1,h2,h3⟩;simp only at h0 h1 h2 h3 ⊢;by_cases h:i < s.length
 ·repeat' (first|refine jac ?_|refine Maa ?_|apply zcb ?_|apply zdq ?_|refine Wcr ?_|refine Wbz ?_|refine Wct ?_|apply zcg ?_|refine jbd rfl (fun hc=>?_) (fun hc=>?_)|exact Qaa|fail)
  ·have e:s[i]=b:=UInt8.toNat_inj.1 (by have:=jfw h;omega);refine bkL (out++[partZ s f i],i+1,i+1) ?_ ?_ (hV:=Yaw)
   ·rw [split_hit h e,<- List.append_assoc] at h3;refine ⟨by simp;omega,Nat.le_refl _,by simp only;omega,?_⟩;simp only [part_nil];exact h3
   ·simp only; omega
  ·have e:s[i]≠b:=fun e=>by have:=jfw h;rw [e] at this;contradiction
   refine bkL (out,f,i+1) ?_ ?_
   ·rw [split_no h e,<- part_snoc h1 h] at h3;refine ⟨by simp only;omega,by simp only;omega,by simp only;omega,?_⟩;simpa using h3
   ·simp only; omega
 ·have hi:i=s.length:=by omega
  subst hi;rw [List.drop_length,show splitT b []=[[]] from rfl,show ∀ p:Tx,preT p [[]]=[p++[]] from fun _=>rfl,List.append_nil] at h3;repeat' (first|refine jac ?_|refine Maa ?_|apply zcb ?_|apply zdq ?_|refine Wcr ?_|refine Wbz ?_|refine Wct ?_|apply zcg ?_|refine jbd rfl (fun hc=>?_) (fun hc=>?_)|exact Qaa|fail)
  all_goals refine Raa ?_
  all_goals rw [<- h3]
  all_goals simp
theorem l1Sum_p (s:Tx):PC Tryz.prog 174 [.c (dT s)] (.p (.c (dI (sumN s)))):=by
 refine jao Tryz.func174 ?_;rintro ⟨hl,-⟩;have hl:=FitT hl;repeat' (first|refine jac ?_|refine Maa ?_|fail)
 apply jbe [0,3,4] [] rfl;exact Ky;exact Yar;refine jbf [0] [] (fun k=>[(3,iN (sumN (s.take k))),(4,iN k)]) (fun _=>[]) (fun k=>k<=s.length) (fun k=>s.length - k) (0) ?_ Kg Kv ?_
 ·simp
 rintro k hk;have h0:=jmk (s.take k);have hb:=byt_lt s k;by_cases h:k < s.length
 ·exact Dax
 ·exact Dbd
theorem l1Seal_p (s:Tx) (h:s.length<=4000000):PC Tryz.prog 119 [.c (dT s)] (.p (.c (dT (sealT s)))):=by
 have h0:=jmk s;have h1:=(numS s).2;refine jao Tryz.func119 fun _=>?_;repeat' (first|refine jac ?_|refine Maa ?_|apply Ub (c:=l1Sum_p _) (h:=?_)|apply Ub (c:=l1Num_p _ Kf) (h:=?_))
 refine Rad ?_;simp [sealT]
theorem l12Line_p (k:Nat) (c r:Tx) (hk:k < 60) (h1:c.length<=1000000) (h2:r.length<=1000000):PC Tryz.prog 73 [.c (dI k),.g [dT c,dT r]] (.p (.c (dT (lineT k c r++[10])))):=by
 have h3:=(num60 hk).2;have h4:=jhj (textT k c r);have h5:(textT k c r).length<=2000004:=by simp [textT];omega
 have h6:(sealT (numT k++[32]++c++[64]++r)).length<=2000011:=by
  have:sealT (numT k++[32]++c++[64]++r)=sealT (textT k c r):=rfl;rw [this]; omega
 refine jao Tryz.func73 fun _=>?_;repeat' (first|refine jac ?_|refine jav 1 (fun _=>false) [0,3,4,7,8,-2,2,5,6,9,-11,11,12] ?_|refine Maa ?_|refine Wcu ?_|apply zdm ?_|apply zdr ?_|apply Ub (c:=l1Num_p _ Kf) (h:=?_)|apply Ub (c:=l1Seal_p _ Ybw) (h:=?_))
 refine Rad ?_;simp [lineT,textT]
theorem bytB_f {s:Tx} {most:Int} {k:Nat} (h:k < s.length) (e:inB (byt s k) 32 126=false∨byt s k=35):bytB s most=false:=by
 have:(s.all fun b=>plB b&&b != 35)=false:=by
  refine jlu h ?_;rw [jfw h] at e;rcases e with e | e
  ·rw [jim] at e;simp [plB]; omega
  ·have:s[k]=35:=UInt8.toNat_inj.1 (by show s[k].toNat=35;omega);simp [this]
 unfold bytB; rw [this]; rfl
theorem bytB_go {s:Tx} {k:Nat} (h:k < s.length) (e:inB (byt s k) 32 126=true) (e2:byt s k≠35) (ht:((s.take k).all fun b=>plB b&&b != 35)=true):((s.take (k+1)).all fun b=>plB b&&b != 35)=true:=by
 rw [jdw _ _ _ h,ht,Bool.true_and];rw [jfw h] at e e2;rw [jcx] at e;simp [plB];refine ⟨by omega,fun h=>e2 ?_⟩;rw [h]; rfl
theorem l12Bytes_p (s:Tx) (most:Int):PC Tryz.prog 68 [.c (dT s),.c (dI most)] (.p (.c (dB (bytB s most)))):=by
 refine jao Tryz.func68 ?_;rintro ⟨hl,-⟩;have hl:=FitT hl;repeat' (first|refine jac ?_|refine Maa ?_|fail)
 apply jbe [0,1,5] [] rfl;exact Ky;exact Yar;refine jbf [0,1] [] (fun k=>[(5,iN k)]) (fun _=>[]) (fun k=>k<=s.length/\((s.take k).all fun b=>plB b&&b != 35)=true) (fun k=>s.length - k) (0) ?_ Kg Kv ?_
 ·simp
 rintro k ⟨hk,ht⟩;have hb:=byt_lt s k;by_cases h:k < s.length
 ·repeat' (first|refine Wbh ?_|refine Wbi ?_|refine jac ?_|refine Maa ?_|apply zcb ?_|apply zcq ?_|apply zdq ?_|apply Ub (c:=l1In_p _ _ _) (h:=?_)|refine jdf rfl rfl (fun hg=>?_) (fun hg=>?_)|refine jbd rfl (fun hc=>?_) (fun hc=>?_)|exact Qaa|fail)
  ·refine Rad ?_;rw [bytB_f h (.inl Ybp)]
  ·refine Rad ?_;rw [bytB_f h (.inr Yak)]
  ·refine bkL (k+1) ?_ ?_
   ·exact ⟨by omega,bytB_go h Ybp Yak ht⟩
   ·omega
 ·repeat' (first|refine jac ?_|refine Maa ?_|apply zcb ?_|apply zcq ?_|refine jbd rfl (fun hc=>?_) (fun hc=>?_)|exact Qaa|fail)
  have:k=s.length:=by omega
  subst this;rw [List.take_length] at ht;refine Rad ?_;simp [bytB,ht]
theorem stands_no {s:Tx} {c:UInt8} {k:Nat} (h:k < s.length) (e:byt s k=(c.toNat:Int)):s.contains c=true:=by
 rw [jfw h] at e;have:s[k]=c:=UInt8.toNat_inj.1 Kf;rw [List.contains_iff_mem,<- this];exact List.getElem_mem h
theorem stands_go {s:Tx} {c:UInt8} {k:Nat} (h:k < s.length) (e:byt s k≠(c.toNat:Int)) (ht:c ∉ s.take k):c ∉ s.take (k+1):=by
 rw [List.take_succ_eq_append_getElem h,List.mem_append,not_or];refine ⟨ht,fun hm=>e ?_⟩;rw [List.mem_singleton] at hm;rw [jfw h,hm]
theorem l1Stands_p (s:Tx) (c:UInt8):PC Tryz.prog 69 [.c (dT s),.c (.lit (.int .u8 c.toNat))] (.p (.c (dB (s.contains c)))):=by
 refine jao Tryz.func69 ?_;rintro ⟨hl,-⟩;have hl:=FitT hl;repeat' (first|refine jac ?_|refine Maa ?_|fail)
 apply jbe [0,1,5] [] rfl;exact Ky;exact Yar;refine jbf [0,1] [] (fun k=>[(5,iN k)]) (fun _=>[]) (fun k=>k<=s.length/\c ∉ s.take k) (fun k=>s.length - k) (0) ?_ Kg Kv ?_
 ·simp
 rintro k ⟨hk,ht⟩;by_cases h:k < s.length
 ·repeat' (first|refine jac ?_|refine Maa ?_|apply zcb ?_|apply zdq ?_|refine jbd rfl (fun hc=>?_) (fun hc=>?_)|exact Qaa|fail)
  ·refine Rad ?_;rw [stands_no h Yak]
  ·refine bkL (k+1) ?_ ?_
   ·exact ⟨by omega,stands_go h Yak ht⟩
   ·omega
 ·repeat' (first|refine jac ?_|refine Maa ?_|apply zcb ?_|apply zdq ?_|refine jbd rfl (fun hc=>?_) (fun hc=>?_)|exact Qaa|fail)
  have:k=s.length:=by omega
  subst this;rw [List.take_length] at ht;refine Rad ?_;simp [ht]
theorem l12Record_p (c r:Tx):PC Tryz.prog 47 [.g [dT c,dT r]] (.p (.c (dB (recB c r)))):=by
 refine jao Tryz.func47 fun _=>?_;repeat' (first|refine Wbh ?_|refine Wbi ?_|refine jac ?_|refine Maa ?_|refine Wcu ?_|apply zdm ?_|apply zdr ?_|apply Ub (c:=l12Bytes_p _ _) (h:=?_)|apply Ub (c:=l1Stands_p _ 64) (h:=?_)|refine jcc rfl rfl (fun hg=>?_) (fun hg=>?_)|refine jdf rfl rfl (fun hg=>?_) (fun hg=>?_))
 all_goals refine Rad ?_
 all_goals simp_all [recB]
theorem jlc (b:UInt8) (s:Tx):(bef b s).length<=s.length:=by
 by_cases h:b∈s
 ·have:=congrArg List.length (jex h).1;simp at this; omega
 ·rw [jiq h]; omega
theorem ahd_len {k:Nat} (h:k < 60):(ahdT k).length<=3:=by have:=num60 h; simp [ahdT]; omega
theorem part_to (s:Tx) (n:Nat):partZ s 0 n=s.take n:=by simp [partZ]
theorem jhh (s:Tx) (n:Nat) (h:n<=s.length):partZ s n s.length=s.drop n:=by
 unfold partZ;rw [List.take_of_length_le Yby];simp
def restS (k:Nat) (l:Tx):Tx:=(rstT k l).drop ((bef 64 (rstT k l)).length+1)
theorem Vbg {G G':Prop} (h:G') (t:Laa G'->G:=by intro h;first|(first|apply zei (jdm rfl rfl Ybg) h.o|apply zbr h.o|exact Wbh h.o|exact Wbi h.o|exact jac h.o|exact Maa h.o|apply zdx h.o|apply zcx h.o|exact Wcv h.o|exact Wcw h.o|apply zct h.o|apply zcg h.o|apply zau h.o|apply zdy h.o|fail);done|fail):G:=t ⟨h⟩
theorem dec_1 (k:Nat) (l:Tx) (hk:k < 60) (hl:l.length<=1000000) (h:(bef 35 l).length < (ahdT k).length∨(bef 35 l).take (ahdT k).length≠ahdT k):PC Tryz.prog 63 [.c (dT l),.c (dI k)] (.t [.g [dT [],dT []],.c (dB false)]):=by
 have b1:=jlc 35 l;have h3:=ahd_len hk;have h4:=num60 hk;unfold ahdT at h h3;rw [<- part_to] at h;refine jao Tryz.func63 fun _=>?_;repeat' (first|refine Vbg ?_|apply Ub (c:=l1Num_p _ Kf) (h:=?_)|apply Ub (c:=l1Split_p _ 35 Kf) (h:=?_)|refine jcc rfl rfl (fun hg=>?_) (fun hg=>?_)|refine jbd rfl (fun hc=>?_) (fun hc=>?_))
 all_goals first|(exfalso;rcases h with h|h;(omega);(exact absurd h Yak))|skip
 all_goals refine Raq ?_
 all_goals rfl
theorem dec_2 (k:Nat) (l:Tx) (hk:k < 60) (hl:l.length<=1000000) (h:¬ ((bef 35 l).length < (ahdT k).length∨(bef 35 l).take (ahdT k).length≠ahdT k)) (h2:(bef 64 (rstT k l)).length=(rstT k l).length):PC Tryz.prog 63 [.c (dT l),.c (dI k)] (.t [.g [dT [],dT []],.c (dB false)]):=by
 have b1:=jlc 35 l;have h3:=ahd_len hk;have h4:=num60 hk;rw [not_or] at h;unfold rstT at h2;unfold ahdT at h h3 h2;rw [<- jhh _ _ Kf] at h2;rw [<- part_to] at h;have b2:=jij (bef 35 l) (numT k++[32]).length (bef 35 l).length;refine jao Tryz.func63 fun _=>?_;repeat' (first|refine jav 10 (fun i=>i == 11) [0,1,-3,3,4,5,7,8,-7,9,10,-12,12] ?_|refine Vbg ?_|(first|apply Ub (d:=15) (c:=l1Split_p _ 35 Kf) (h:=?_)|apply Ub (d:=37) (c:=l1Split_p _ 64 Kf) (h:=?_))|apply Ub (c:=l1Num_p _ Kf) (h:=?_)|refine jcc rfl rfl (fun hg=>?_) (fun hg=>?_)|refine jbd rfl (fun hc=>?_) (fun hc=>?_))
 all_goals first|(exfalso;omega)|(exfalso;exact absurd Yak h.2)|skip
 all_goals refine Raq ?_
 all_goals rfl
theorem dec_3 (k:Nat) (l:Tx) (hk:k < 60) (hl:l.length<=1000000) (h:¬ ((bef 35 l).length < (ahdT k).length∨(bef 35 l).take (ahdT k).length≠ahdT k)) (h2:(bef 64 (rstT k l)).length≠(rstT k l).length):PC Tryz.prog 63 [.c (dT l),.c (dI k)] (.t [.g [dT (bef 64 (rstT k l)),dT (restS k l)],.c (dB (recB (bef 64 (rstT k l)) (restS k l)&&decide (lineT k (bef 64 (rstT k l)) (restS k l)=l)))]):=by
 have b1:=jlc 35 l;have h3:=ahd_len hk;have h4:=num60 hk;rw [not_or] at h;have b3:=jlc 64 (rstT k l);unfold restS;rw [<- jhh (rstT k l) _ Kf];unfold rstT at h2 b3 ⊢;unfold ahdT at h h3 h2 b3 ⊢;rw [<- jhh _ _ Kf] at h2 b3 ⊢;rw [<- part_to] at h;have hc1:∀ n:Nat,((n+1:Nat):Int)=(n:Int)+1:=fun n=>by omega
 simp only [hc1];clear hc1;have b2:=jij (bef 35 l) (numT k++[32]).length (bef 35 l).length;have b4:=jij (partZ (bef 35 l) (numT k++[32]).length (bef 35 l).length) (((bef 64 (partZ (bef 35 l) (numT k++[32]).length (bef 35 l).length)).length:Int)+1) (partZ (bef 35 l) (numT k++[32]).length (bef 35 l).length).length;refine jao Tryz.func63 fun _=>?_;repeat' (first|apply zei (jdm rfl rfl (by (first|(simp only [List.length_map,List.length_append,List.length_replicate,fillL_len,rowF_len,gridF_len,mkI_len,mkII_len,jdb] at *;omega)|(simp at *;omega)))) ?_|refine jav 10 (fun i=>i == 11) [0,1,-3,3,4,5,7,8,-7,9,10,-12,12] ?_|refine Vbg ?_|(first|apply Ub (d:=15) (c:=l1Split_p _ 35 Kf) (h:=?_)|apply Ub (d:=37) (c:=l1Split_p _ 64 Kf) (h:=?_))|apply Ub (c:=l1Num_p _ Kf) (h:=?_)|apply Ub (c:=l12Record_p _ _) (h:=?_)|apply Ub (c:=l12Line_p _ _ _ hk Kf Kf) (h:=?_)|refine jcc rfl rfl (fun hg=>?_) (fun hg=>?_)|refine jdf rfl rfl (fun hg=>?_) (fun hg=>?_)|refine jbd rfl (fun hc=>?_) (fun hc=>?_))
 all_goals first|(exfalso;omega)|(exfalso;exact absurd Yak h.2)|skip
 all_goals refine Raq ?_
 all_goals simp_all
end
end Go.Proofs.YtbhbkbnlpackdaaGreatDoor
