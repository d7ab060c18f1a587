/- What the functions that FnExactRunScript alone reaches return: part of its proof. No condition beyond those of its theorems. -/
import Derived.Test.YtbhbkbnlpackdaaGreatDoorKfnsB
import Derived.Test.YtbhbkbnlpackdaaGreatDoorKplainC
import Derived.Test.YtbhbkbnlpackdaaGreatDoorKplainA
import Derived.Test.YtbhbkbnlpackdaaGreatDoorKplainB
import Derived.Test.YtbhbkbnlpackdaaGreatDoorKfnsA
import Derived.Test.YtbhbkbnlpackdaaGreatDoorKfnsD
import Derived.Test.YtbhbkbnlpackdaaGreatDoorKfnsR
import Derived.Test.YtbhbkbnlpackdaaGreatDoorKfnsQ
set_option linter.unusedSectionVars false
set_option maxRecDepth 10000
set_option maxHeartbeats 4000000
set_option linter.unusedVariables false
set_option linter.unusedSimpArgs false
namespace Go.Proofs.YtbhbkbnlpackdaaGreatDoor
open Go.RowKit
section
variable [Glb]
theorem markText_p (k:Nat) (h0:1<=k) (h:k < 10^13):PC Tryz.prog 31 [.c (dI k)] (.p (.c (dT (mtT k)))):=by
 refine jao Tryz.func31 fun _=>?_;repeat' (first|refine jac ?_|refine Maa ?_|refine jbd rfl (fun hc=>?_) (fun hc=>?_))
 ·exfalso; omega
 apply jbe [0,3] [12] rfl;exact Ky;(·(repeat(first|exact Pb.nil|apply Pb.skip)))
 refine jbf [] [12] (fun j=>[(0,iN (k / 10^j)),(3,.c (.d (dT (tailT k j))))]) (fun _=>[]) (fun j=>j<=13 /\ ∀ i,i < j->k / 10^i≠0) (fun j=>13 - j) (0) ?_ Ybj Kv ?_
 ·exact ⟨by omega,fun i hi=>absurd hi Kf⟩
 intro j hj;obtain ⟨hj,hnz⟩:=hj;have hl:=tail_len k j;have hp:=pow_next k j;obtain ⟨m,hm⟩:∃ m,m=k / 10^j:=⟨_,rfl⟩;have hmk:m<=10000000000000:=by have:=Nat.div_le_self k (10^j);omega
 rw [<- hm] at hp ⊢;repeat' (first|refine jac ?_|refine Maa ?_|(refine jaa (.convert 3 5 _) ?_;(refine jab (jec (k':=.u8) rfl Kb Kb (by (exact wrapU8 Kf))) rfl ?_))|(refine jaa (.buildSlice 98 1 _) ?_;(apply jaw (sz:=1) (by_:=1);exact Kb;exact Ybr;exact Kl;exact Ybr;(·rfl);(·rfl);(·rfl)))|(refine jaa (.convert 98 9 _) ?_;(refine so_convB1 rfl rfl Kf Kf Kb rfl ?_))|apply zbw ?_|refine jbd rfl (fun hc=>?_) (fun hc=>?_))
 ·have hz:k / 10^j≠0:=by rw [<- hm];omega
  have hd:(48+(m:Int)%10).toNat=48+m%10:=by omega
  refine bkL (j+1) ?_ ?_ (hV:=(by (repeat(first|exact trivial|refine ⟨(by (first|(refine jcd rfl ?_;(omega))|(refine jjk rfl ?_;((simp  [hp,tailT,<- hm,hd];done))))),?_⟩))))
  ·refine ⟨Nat.lt_of_le_of_ne hj fun e=>?_,fun i hi=>?_⟩
   ·rw [e,Nat.div_eq_of_lt h] at hz;exact hz rfl
   ·rcases Nat.lt_or_ge i j with h2|h2
    ·exact hnz i h2
    ·rw [show i=j by omega];exact hz
  ·have:j≠13:=fun e=>by rw [e,Nat.div_eq_of_lt h] at hz;exact hz rfl
   omega
 ·have hz:k / 10^j=0:=by rw [<- hm];omega
  obtain ⟨i,rfl⟩:∃ i,j=i+1:=by
   cases j with
   | zero=>simp at hz;omega
   | succ i=>exact ⟨i,rfl⟩
  have e:=tail_all hz (hnz i Kf);refine Rad ?_;simp [mtT,e]
theorem markTextZ_p (z:Int) (k:Nat) (e:z=k) (h0:1<=k) (h:k < 10^13):PC Tryz.prog 31 [.c (dI z)] (.p (.c (dT (mtT k)))):=by
 subst e;exact markText_p k h0 h
def mkT (k n:Nat):List Tx:=(List.range n).map fun j=>mtT (k+j)
@[simp] theorem mkT_len (k n : Nat) : (mkT k n).length = n := by simp [mkT]
theorem mkT_at {k n j:Nat} (h:j < n):atZ (mkT k n) (j:Int)=mtT (k+j):=by
 rw [jby (by simpa using h)];simp [mkT]
def mkTL (l:List Tx) (k j:Nat):List Tx:=mkT k j++l.drop j
theorem mkTL_zero (l:List Tx) (k:Nat):mkTL l k 0=l:=rfl
theorem mkTL_len {l:List Tx} (k:Nat) {j:Nat} (h:j<=l.length):(mkTL l k j).length=l.length:=by simp [mkTL]; omega
theorem mkTL_all (l:List Tx) (k:Nat):mkTL l k l.length=mkT k l.length:=by simp [mkTL]
theorem mkTL_set {l:List Tx} {k j:Nat} (h:j < l.length):(mkTL l k j).set j (mtT (k+j))=mkTL l k (j+1):=by
 unfold mkTL;rw [List.drop_eq_getElem_cons h];have e:mkT k (j+1)=mkT k j++[mtT (k+j)]:=by simp [mkT,List.range_succ]
 have hl:(mkT k j).length=j:=mkT_len k j;rw [e,List.append_assoc,List.singleton_append];conv=>lhs;arg 2;rw [<- hl]
 rw [List.set_append_right _ _ (Nat.le_refl _),Nat.sub_self,List.set_cons_zero]
theorem markStringS_m (l:List Tx) (k:Nat) (h0:1<=k) (h1:k+l.length < 1000000):PM Tryz.prog 13 [.c (eT l),.c (dI k)] [.sl 1 l.length ((mkT k l.length).map dT),dI k] (.c (dI (k+l.length))):=by
 refine jhn Tryz.func13 fun _=>?_;repeat' (first|refine jac ?_|refine Maa ?_|fail)
 apply jbe [0,1,5] [1000000] rfl;exact Kr;exact Ybd;refine jbf [0] [] (fun j=>[(5,iN j),(1,iZ (k+j))]) (fun j=>[(1000000,.row 1 ((mkTL l k j).map dT))]) (fun j=>j<=l.length) (fun j=>l.length - j) (0) ?_ Kg (by (repeat(first|exact trivial|refine ⟨(by ((refine jbs rfl ?_;simp  [mkTL_zero];done))),?_⟩))) ?_
 ·simp
 intro j hj;have hL:=mkTL_len (l:=l) k hj;have hl2:=mtT_len (k:=k+j) Kf;repeat' (first|apply zcm ?_|refine jac ?_|refine Maa ?_|refine Wbf ?_|refine Wbg ?_|apply Ub (c:=markTextZ_p _ (k+j) Kf Kf Kf) (h:=?_)|refine jbd rfl (fun hc=>?_) (fun hc=>?_))
 ·have hj':j < l.length:=by omega
  refine bkL (j+1) ?_ ?_ (hB:=(by (repeat(first|exact trivial|refine ⟨(by ((refine jbs rfl ?_;simp  [<- List.map_set,mkTL_set hj',Int.add_assoc];done))),?_⟩))))
  ·omega
  ·omega
 ·have:j=l.length:=by omega
  subst this;rw [mkTL_all]
  (refine jiz rfl ?_ ?_;rotate_left;exact Yba)
  rfl
theorem heldStringS_p (n k:Nat) (h0:1<=k) (h1:k+n < 1000000):PC Tryz.prog 14 [.c (.sl 1 n ((mkT k n).map dT)),.c (dI k)] (.p (.c (dI (k+n)))):=by
 have hn:=mkT_len k n;have e:D.sl 1 n ((mkT k n).map dT)=eT (mkT k n):=by rw [eT,hn]
 rw [e];refine jao Tryz.func14 fun _=>?_;repeat' (first|refine jac ?_|refine Maa ?_|fail)
 apply jbe [0,1,5] [] rfl;exact Ky;exact Yar;refine jbf [0] [] (fun j=>[(5,iN j),(1,iZ (k+j))]) (fun _=>[]) (fun j=>j<=n) (fun j=>n - j) (0) ?_ Kg Kv ?_
 ·simp
 intro j hj;by_cases h:j < n
 ·have e1:=mkT_at (k:=k) h;repeat' (first|apply zce ?_|apply zbr ?_|refine jac ?_|refine jav 4 (fun _=>false) [0,1,2,3,4,-6,6] ?_|refine Maa ?_|apply zcc ?_|apply Ub (c:=markTextZ_p _ (k+j) Kf Kf Kf) (h:=?_)|refine jbd rfl (fun hc=>?_) (fun hc=>?_)|exact Qab|fail)
  refine bkL (j+1) ?_ ?_
  ·omega
  ·omega
 ·have hjn:j=n:=by omega
  subst hjn;repeat' (first|apply zce ?_|apply zbr ?_|refine jac ?_|refine jav 4 (fun _=>false) [0,1,2,3,4,-6,6] ?_|refine Maa ?_|apply zcc ?_|refine jbd rfl (fun hc=>?_) (fun hc=>?_)|exact Qaa|fail)
  refine Rad ?_;rfl
theorem joo (l:List Tx):PC Tryz.prog 10 [.c (eT l),.c (eT l)] (.p (.c (dB true))):=by
 refine jao Tryz.func10 ?_;rintro ⟨hf,-⟩;have hl:=hf.len;clear hf;repeat' (first|apply zce ?_|apply zdi ?_|refine jac ?_|refine Maa ?_|fail)
 apply jbe [0,1,5] [] rfl;exact Ky;exact Yar;refine jbf [0,1] [] (fun j=>[(5,iN j)]) (fun _=>[]) (fun j=>j<=l.length) (fun j=>l.length - j) (0) ?_ Kg Kv ?_
 ·omega
 intro j hj;repeat' (first|apply zce ?_|apply zbr ?_|(refine jaa (.binOp .neq 9 _ _ _) ?_;(refine jab (jhy rfl rfl) rfl ?_))|refine jac ?_|refine jav 6 (fun _=>false) [0,1,2,3,4,5,6,7,8] ?_|refine Maa ?_|apply zcc ?_|refine jbd rfl (fun hc=>?_) (fun hc=>?_))
 ·refine bkL (j+1) ?_ ?_
  ·omega
  ·omega
 ·refine Rad ?_;rfl
end
section
variable [Glb]
variable [GTab Tryz.prog tabNm]
variable [GErr Tryz.prog]
theorem script_both (bx by_ bwh:Int) (bll:List (List Int)) (pl:List Int) (ev:Int) (cc:List (List Int)) (ss nu:List Int) (co:Int) (d p:Tx) (c:Int) (text:Tx) (hl:text.length<=4000000) (hbd:(d.length:Int)+p.length<=1000000000) :
  ∃ (L:List Tx) (ok:Bool),PC Tryz.prog 9 [.g [dI bx,dI by_,dI bwh,eII bll,eI pl,dI ev,eII cc,eI ss,eI nu,dI co,dT d,dT p,dI c],.c (dT text)] (.t [.c (eT L),.c (dB ok)])/\PC Tryz.prog 7 [.g [dI bx,dI by_,dI bwh,eII bll,eI pl,dI ev,eII cc,eI ss,eI nu,dI co,dT d,dT p,dI c],.c (dT text)] (.t [.c (eT L),.c (dB ok)])/\L.length<=30:=by
 cases hN:((hallB bx by_ bwh bll pl ev cc ss nu co&&validB d p c)&&scrB text) with
 | false=>exact ⟨[],false,RunScript_no bx by_ bwh bll pl ev cc ss nu co d p c text hl hbd hN,jof bx by_ bwh bll pl ev cc ss nu co d p c text hl hbd hN,by simp⟩
 | true =>
  simp only [Bool.and_eq_true] at hN;obtain ⟨⟨hB,hV⟩,hS⟩:=hN;refine ⟨_,true,RunScript_p bx by_ bwh bll pl ev cc ss nu co d p c text hB hV hS,spRunScript_p bx by_ bwh bll pl ev cc ss nu co d p c text hB hV hS,?_⟩;rw [rplL_len];simp only [scrB,Bool.and_eq_true,decide_eq_true_eq] at hS;exact hS.2
theorem Vbu {G G':Prop} (h:G') (t:Laa G'->G:=by intro h;first|(first|exact Wby h.o|exact Wbi h.o|exact Maa h.o|exact Wax h.o|apply zdz h.o|exact Way h.o|exact Waz h.o|fail);done|fail):G:=t ⟨h⟩
theorem FnExactRunScript_p (bx by_ bwh:Int) (bll:List (List Int)) (pl:List Int) (ev:Int) (cc:List (List Int)) (ss nu:List Int) (co:Int) (d p:ByteArray) (n:Int) (text:ByteArray):PC Tryz.prog 3 [.g [dI bx,dI by_,dI bwh,eII bll,eI pl,dI ev,eII cc,eI ss,eI nu,dI co,dS d,dS p,dI n],.c (dS text)] (.p (.c (dB true))):=by
 obtain ⟨d,rfl⟩:=exT d;obtain ⟨p,rfl⟩:=exT p;obtain ⟨text,rfl⟩:=exT text;by_cases ht:1048576 < text.length
 ·refine jao Tryz.func3 fun _=>?_;repeat' (first|refine jac ?_|refine Vbu ?_|refine jbd rfl (fun hc=>?_) (fun hc=>?_)|exact Qaa|exact Rav|fail)
 by_cases hz:1048576 < bll.length+cnt bll+pl.length+cc.length+cnt cc+ss.length+nu.length+d.length+p.length
 ·refine jao Tryz.func3 fun _=>?_;repeat' (first|refine jac (id:=0) ?_|refine jac (id:=1) ?_|refine jac (id:=2) ?_|refine jac (id:=3) ?_|refine jac (id:=4) ?_|(apply jdg 5 [1,2,5] [2] rfl;exact Kh;exact Ybi;refine jac (id:=5) ?_)|refine jac (id:=6) ?_|refine Vbu ?_|apply Ub (c:=jlh _ _ _ _ _ _ _ _ _ _ _ _ _ _ Kf Kf Kf) (h:=?_)|refine jbd rfl (fun hc=>?_) (fun hc=>?_)|exact Qaa|exact Rav|fail)
 ·obtain ⟨L,ok,c1,c2,hL⟩:=script_both bx by_ bwh bll pl ev cc ss nu co d p n text Kf Kf;refine jao Tryz.func3 fun _=>?_;repeat' (first|(refine jaa (.binOp .neq 4 _ _ _) ?_;(refine jab (jlm Kb rfl rfl) rfl ?_))|apply zdi ?_|(refine jaa (.call ⟨.value (.func 12),_,_⟩) ?_;((apply jfi (fid:=12);exact Ybn;exact Ybr;(·exact jjy _ _ _ _ _ _ _ _ _ _ _ _ _ _ Kf Kf);(·rfl);(·rfl))))|(refine jaa (.call ⟨.value (.func 13),_,_⟩) ?_;((apply jfi (fid:=13);exact Yaq;exact Ybr;(·exact markStringS_m _ 1 Kf Kf);(·rfl);(·rfl))))|refine jac (id:=0) ?_|refine jac (id:=1) ?_|refine jac (id:=2) ?_|refine jac (id:=3) ?_|refine jac (id:=4) ?_|(apply jdg 5 [1,2,5] [2] rfl;exact Kh;exact Ybi;refine jac (id:=5) ?_)|refine jac (id:=6) ?_|refine jac (id:=7) ?_|(apply jdg 8 [1,2,6,7] [2,3026,4026,6026,7026,8026,28] rfl;exact Kh;exact Ybe;refine jac (id:=8) ?_)|refine jac (id:=9) ?_|(apply jdg 10 [1,2,6,7,8,9,10] [2,3026,4026,6026,7026,8026,28,3032,4032,6032,7032,8032,8,36] rfl;exact Kk;exact Ki;refine jac (id:=10) ?_)|(apply jdg 12 [1,2,6,7,8,9,10] [2,3026,4026,6026,7026,8026,28,3032,4032,6032,7032,8032,8,36] rfl;exact Kk;exact Ki;refine jav 12 (fun _=>false) [0,1,-3,-4,4] ?_)|refine jac (id:=14) ?_|refine jac (id:=15) ?_|(apply jdg 16 [1,2,6,7,9,10,11] [2,3026,4026,6026,7026,8026,28,3032,4032,6032,7032,8032,8,36,3050,4050,6050,7050,8050] rfl;exact Kk;exact Ki;refine jac (id:=16) ?_)|refine jac (id:=18) ?_|refine jac (id:=19) ?_|refine jac (id:=20) ?_|refine jac (id:=21) ?_|(apply jdg 22 [1,2,6,7,9,12,13] [2,3026,4026,6026,7026,8026,28,3032,4032,6032,7032,8032,8,36,3050,4050,6050,7050,8050] rfl;exact Kk;exact Ki;refine jac (id:=22) ?_)|refine jac (id:=24) ?_|(apply jdg 26 [1,2,6,7,9,12] [2,3026,4026,6026,7026,8026,28,3032,4032,6032,7032,8032,8,36,3050,4050,6050,7050,8050] rfl;exact Kk;exact Ki;refine jac (id:=26) ?_)|(apply jdg 27 [6,7,9,12,14,15] [2,3026,4026,6026,7026,8026,28,3032,4032,6032,7032,8032,8,36,3050,4050,6050,7050,8050,3082,4082,6082,7082,8082,84] rfl;exact Kr;exact Ki;refine jac (id:=27) ?_)|refine jac (id:=29) ?_|(apply jdg 30 [9,12,13] [2,3026,4026,6026,7026,8026,28,3032,4032,6032,7032,8032,8,36,3050,4050,6050,7050,8050,3082,4082,6082,7082,8082,84] rfl;exact Kr;exact Ki;refine jac (id:=30) ?_)|refine jac (id:=31) ?_|refine jac (id:=33) ?_|refine jac (id:=35) ?_|refine Vbu ?_|apply Ub (c:=jlg _ _ _ _ _ _ _ _ _ _ _ _ _ _ Kf Kf) (h:=?_)|apply Ua (c:=toConsole_p _ _ _ _ _ _ _ _ _ _ _ _ _ Kf) (h:=?_)|apply Ub (c:=c2) (h:=?_)|apply Ua (c:=c1) (h:=?_)|apply Ub (c:=joo _) (h:=?_)|apply Ub (c:=jiu _ _ _ _ _ _ _ _ _ _ _ _ _) (h:=?_)|apply Ub (c:=heldStringS_p _ 1 Kf Kf) (h:=?_)|refine jbd rfl (fun hc=>?_) (fun hc=>?_)|exact Qaa|exact Rav|fail)
end
end Go.Proofs.YtbhbkbnlpackdaaGreatDoor
