/- What the functions that FnExactRunScript and FnExactReplayLog and FnExactExecuteCommand reaches return: part of its proof. No condition beyond those of its theorems. -/
import Derived.Test.YtbhbkbnlpackdaaGreatDoorKfnsB
import Derived.Test.YtbhbkbnlpackdaaGreatDoorKplainC
import Derived.Test.YtbhbkbnlpackdaaGreatDoorKfnsD
import Derived.Test.YtbhbkbnlpackdaaGreatDoorKfnsC
import Derived.Test.YtbhbkbnlpackdaaGreatDoorKfnsH
import Derived.Test.YtbhbkbnlpackdaaGreatDoorKfnsA
import Derived.Test.YtbhbkbnlpackdaaGreatDoorKfnsK
import Derived.Test.YtbhbkbnlpackdaaGreatDoorKfnsI
import Derived.Test.YtbhbkbnlpackdaaGreatDoorKplainA
import Derived.Test.YtbhbkbnlpackdaaGreatDoorKfnsE
import Derived.Test.YtbhbkbnlpackdaaGreatDoorKfnsF
import Derived.Test.YtbhbkbnlpackdaaGreatDoorKfnsJ
import Derived.Test.YtbhbkbnlpackdaaGreatDoorKfnsL
import Derived.Test.YtbhbkbnlpackdaaGreatDoorKplainB
set_option linter.unusedSectionVars false
set_option maxRecDepth 10000
set_option maxHeartbeats 4000000
set_option linter.unusedVariables false
set_option linter.unusedSimpArgs false
namespace Go.Proofs.YtbhbkbnlpackdaaGreatDoor
open Go.RowKit
section
variable [Glb]
theorem l3Most_p (n:Int) (ll:List (List Int)) (hb:boxB 3 3 n ll=true):PC Tryz.prog 220 [.g [dI 3,dI 3,dI n,eII ll]] (.p (.c (dI (tripM ll)))):=by
 have sp:=SwapPlayers_p 3 3 n ll hb;have op:=l3Orders_p;have tp:=l3Triple_p n ll hb;have t0:tripW ll 0=tripI ll:=rfl;have te:=fun a b=>fun hb=>tripW_even ll (a:=a) (b:=b) hb;have td:=fun a b=>fun hb=>tripW_odd ll (a:=a) (b:=b) hb;have hbs:=swap_box3 hb;have b0:∀ a b:Nat,becL ll 0 a b=askdL ll (atZ orderL (a:Int)) (atZ orderL (b:Int)):=fun _ _=>rfl;have b1:∀ a b:Nat,becL ll 1 a b=askdL (swapL ll 3 3) (atZ orderL (a:Int)) (atZ orderL (b:Int)):=fun _ _=>rfl;have ap:=fun a b:Nat=>fun (ha:a < 6) (hb2:b < 6)=>l3Asked_p n ll (atZ orderL (a:Int)) (atZ orderL (b:Int)) hb (ord3 ha) (ord3 hb2);have aq:=fun a b:Nat=>fun (ha:a < 6) (hb2:b < 6)=>l3Asked_p n (swapL ll 3 3) (atZ orderL (a:Int)) (atZ orderL (b:Int)) hbs (ord3 ha) (ord3 hb2);have fp:=fun a b:Nat=>fun (ha:a < 6) (hb2:b < 6)=>l3Flipped_p n (becL ll 0 a b) (becL_box hb 0 ha hb2);have fq:=fun a b:Nat=>fun (ha:a < 6) (hb2:b < 6)=>l3Flipped_p n (becL ll 1 a b) (becL_box hb 1 ha hb2);have olen:orderL.length=6:=rfl;rw [<- tripW_all];generalize swapL ll 3 3=SW at *;generalize orderL=OL at *;generalize tripW ll=W at *;refine jao Tryz.func220 fun _=>?_;repeat' (first|(refine jaa (.move _) ?_;(refine jab (jcn rfl) rfl ?_))|refine jac ?_|refine Maa ?_|refine Wba ?_|refine Wah ?_|refine Wag ?_|apply Ub (c:=sp) (h:=?_)|apply Ub (c:=op) (h:=?_)|apply Ub (c:=tp) (h:=?_)|exact Qaa|fail)
 apply jbe [1,3,5,6,7] [1,3,14,3011,3039,3052] rfl;exact Kh;exact Ybf;refine jbf [1,3,5] [1,3011,3,14,3039,3052] (fun (a:Nat)=>[(7,iN a),(6,iZ (W (a*6*2)))]) (fun _=>[]) (fun a=>a<=6) (fun a=>6 - a) (0) ?_ (by (repeat(first|exact trivial|refine ⟨(by (first|rfl|(refine jcd rfl ?_;((simp  [t0];done))))),?_⟩))) Kv ?_
 ·omega
 intro a ha;by_cases ha2:a < 6
 ·repeat' (first|refine jac ?_|refine Maa ?_|refine jbd rfl (fun hc=>?_) (fun hc=>?_)|exact Qaa|fail)
  apply jbe [1,3,5,6,7,8] [1,3,14,3011,3039,3052] rfl;exact Kh;exact Ybf;refine jbf [1,3,5,7] [1,3011,3,14,3039,3052] (fun (b:Nat)=>[(8,iN b),(6,iZ (W ((a*6+b)*2)))]) (fun _=>[]) (fun b=>b<=6) (fun b=>6 - b) (0) ?_ Kg Kv ?_
  ·omega
  intro b hb2;by_cases hb3:b < 6
  ·have e1:=te a b hb3;have e2:=td a b hb3;have p1:=ap a b ha2 hb3;have p2:=fp a b ha2 hb3;have q1:=aq a b ha2 hb3;have q2:=fq a b ha2 hb3;rw [b0] at e1 p2;rw [b1] at e2 q2;clear te td ap aq fp fq b0 b1;generalize askdL ll (atZ OL (a:Int)) (atZ OL (b:Int))=L0 at *;generalize askdL SW (atZ OL (a:Int)) (atZ OL (b:Int))=L1 at *;generalize flipM L0 64=z0 at *;generalize flipM L1 64=z1 at *;have e3:W ((a*6+(b+1))*2)=max (max (W ((a*6+b)*2)) z0) z1:=by
    rw [show (a*6+(b+1))*2=(a*6+b)*2+2 by omega,e2,e1]
   clear e1 e2;repeat' (first|refine jac ?_|refine jav 10 (fun _=>false) [0,1,2,3,4,5,6,7,8,9,-11,-12,-13,13] ?_|refine jav 11 (fun _=>false) [0,1,2,3,4,5,6,7,8,9,-11,-12,-13,13] ?_|refine Maa ?_|(first|apply Ub (c:=p1) (h:=?_)|apply Ub (c:=q1) (h:=?_))|(first|apply Ub (c:=p2) (h:=?_)|apply Ub (c:=q2) (h:=?_))|apply Ub (c:=l1Most_p _ _) (h:=?_)|refine jbd rfl (fun hc=>?_) (fun hc=>?_)|exact Qaa|fail)
   refine bkL (b+1) ?_ ?_
   ·omega
   ·omega
  ·obtain rfl:b=6:=by omega
   have e3:W ((a+1)*6*2)=W ((a*6+6)*2):=by congr 1;omega
   repeat' (first|refine jac ?_|refine jav 10 (fun _=>false) [0,1,2,3,4,5,6,7,8,9,-11,-12,-13,13] ?_|refine Maa ?_|refine jbd rfl (fun hc=>?_) (fun hc=>?_)|exact Qaa|fail)
   refine bkL (a+1) ?_ ?_
   ·omega
   ·omega
 ·obtain rfl:a=6:=by omega
  repeat' (first|refine jac ?_|refine Maa ?_|refine jbd rfl (fun hc=>?_) (fun hc=>?_)|exact Qaa|exact Rav|fail)
theorem Vaw {G G':Prop} (h:G') (t:Laa G'->G:=by intro h;first|(first|exact Wbh h.o|exact Wbi h.o|exact jac h.o|exact jav 1 (fun _=>false) [0,-2,2,3,4,7,8,9,-6,6,10,11] h.o|exact Maa h.o|exact Wba h.o|exact Wcs h.o|fail);done|fail):G:=t ⟨h⟩
theorem l3Local_p (X Y:Nat) (n:Int) (ll:List (List Int)) (h:boxB X Y n ll=true):PC Tryz.prog 164 [.g [dI X,dI Y,dI n,eII ll]] (.p (.c (dB (localB ll X Y n)))):=by
 have q:=l2QuietG_p X Y n ll h;have g:=l3Greatest_p X Y n ll h;have gb:=jnr h;have b:=jbo h;have n2:=b.n2;have n1:=b.n1;have x3:=b.x3;have y3:=b.y3;clear b;have gt:X=3->Y=3->PC Tryz.prog 220 [.g [dI X,dI Y,dI n,eII ll]] (.p (.c (dI (tripM ll)))):=fun hx hy=>by subst hx hy;exact l3Most_p n ll h
 unfold localB;generalize quietG ll X Y=Q at *;generalize greatI ll X Y=G at *;generalize tripM ll=M at *;cases Q with
 | false =>
  clear gt;refine jao Tryz.func164 fun _=>?_;repeat' (first|refine Vaw ?_|apply Ub (c:=q) (h:=?_)|exact Qab|exact Rav|fail)
 | true =>
  by_cases hg:G<=2*n
  ·by_cases h3:X=3/\Y=3
   ·have gt:=gt h3.1 h3.2;have e:(true&&(decide (G<=2*n)&&(!decide (X=3/\Y=3) || decide (M<=0))))=decide (M<=0):=by simp [hg,h3]
    rw [e];refine jao Tryz.func164 fun _=>?_;repeat' (first|(refine jaa (.call ⟨.value (.func 163),_,_⟩) ?_;((apply jep (fid:=163);exact Yac;(·exact g);(·rfl);(rintro _ ⟨a,b,c,d,e,f,rfl⟩))))|refine Vaw ?_|apply Ub (c:=q) (h:=?_)|apply Ub (c:=gt) (h:=?_)|refine jcc rfl rfl (fun hg=>?_) (fun hg=>?_)|refine jbd rfl (fun hc=>?_) (fun hc=>?_)|exact Qab|fail)
    all_goals refine Rad ?_
    all_goals simp
   ·have e:(true&&(decide (G<=2*n)&&(!decide (X=3/\Y=3) || decide (M<=0))))=true:=by simp [hg,h3]
    rw [e];clear gt;refine jao Tryz.func164 fun _=>?_;repeat' (first|(refine jaa (.call ⟨.value (.func 163),_,_⟩) ?_;((apply jep (fid:=163);exact Yac;(·exact g);(·rfl);(rintro _ ⟨a,b,c,d,e,f,rfl⟩))))|refine Vaw ?_|apply Ub (c:=q) (h:=?_)|refine jcc rfl rfl (fun hg=>?_) (fun hg=>?_)|refine jbd rfl (fun hc=>?_) (fun hc=>?_)|exact Qab|exact Rav|fail)
  ·have e:(true&&(decide (G<=2*n)&&(!decide (X=3/\Y=3) || decide (M<=0))))=false:=by simp [hg]
   rw [e];clear gt;refine jao Tryz.func164 fun _=>?_;repeat' (first|(refine jaa (.call ⟨.value (.func 163),_,_⟩) ?_;((apply jep (fid:=163);exact Yac;(·exact g);(·rfl);(rintro _ ⟨a,b,c,d,e,f,rfl⟩))))|refine Vaw ?_|apply Ub (c:=q) (h:=?_)|refine jcc rfl rfl (fun hg=>?_) (fun hg=>?_)|refine jbd rfl (fun hc=>?_) (fun hc=>?_)|exact Qab|exact Rav|fail)
theorem spIsLocal_p (X Y:Nat) (n:Int) (ll:List (List Int)) (h:boxB X Y n ll=true):PC Tryz.prog 115 [.g [dI X,dI Y,dI n,eII ll]] (.t [.c (dB (localB ll X Y n)),.c (dB true)]):=by
 have w:=l2Box_p X Y n ll;rw [h] at w;have q:=l3Local_p X Y n ll h;generalize localB ll X Y n=Q at *;refine jao Tryz.func115 fun _=>?_;repeat' (first|refine jac ?_|refine Maa ?_|refine Wba ?_|apply Ub (c:=w) (h:=?_)|apply Ub (c:=q) (h:=?_)|exact Qac|exact Rbl|fail)
theorem l9Two_p (X Y:Nat) (n:Int) (ll:List (List Int)) (h:boxB X Y n ll=true):PC Tryz.prog 165 [.g [dI X,dI Y,dI n,eII ll]] (.p (.c (dB (decide (X=2/\Y=2))))):=by
 have w:=l2Box_p X Y n ll;rw [h] at w;have ex:decide (X=2/\Y=2)=(decide ((X:Int)=2)&&decide ((Y:Int)=2)):=by
  rw [<- Bool.decide_and];exact decide_eq_decide.2 ⟨fun h=>by omega,fun h=>by omega⟩
 rw [ex];by_cases hx:(X:Int)=2
 ·rw [decide_eq_true hx];refine jao Tryz.func165 fun _=>?_;repeat' (first|refine Wbh ?_|refine Wbi ?_|refine jac ?_|refine Maa ?_|refine Wba ?_|apply Ub (c:=w) (h:=?_)|refine jcc rfl rfl (fun hg=>?_) (fun hg=>?_)|exact Qab|exact Rav|fail)
 ·rw [decide_eq_false hx];refine jao Tryz.func165 fun _=>?_;repeat' (first|refine Wbh ?_|refine Wbi ?_|refine jac ?_|refine Maa ?_|refine Wba ?_|apply Ub (c:=w) (h:=?_)|refine jcc rfl rfl (fun hg=>?_) (fun hg=>?_)|exact Qab|exact Rav|fail)
theorem Vbc {G G':Prop} (h:G') (t:Laa G'->G:=by intro h;first|(first|exact Maa h.o|exact Wba h.o|exact Wbq h.o|(refine jaa (.binOp .shr 3 _ _ _) ?_;(first|refine jab (jci (c:=2) rfl rfl Ybr) rfl ?_|refine jab (jcw rfl rfl Kf Kf) rfl ?_);exact h.o)|apply zco h.o|exact Wbr h.o|exact Wbt h.o|apply zbi h.o|fail);done|fail):G:=t ⟨h⟩
theorem spBoxCode_no (X Y:Nat) (n:Int) (ll:List (List Int)) (h:boxB X Y n ll=true) (hc:¬ (X=2/\Y=2)):PC Tryz.prog 116 [.g [dI X,dI Y,dI n,eII ll]] (.t [.c (eI []),.c (dB false)]):=by
 have ip:=l9Two_p X Y n ll h;rw [decide_eq_false hc] at ip;refine jao Tryz.func116 fun _=>?_;repeat' (first|refine jac ?_|refine Vbc ?_|apply Ub (c:=ip) (h:=?_)|exact Qac|exact Rcd|fail)
theorem spBoxCode_p (n:Int) (ll:List (List Int)) (h:boxB 2 2 n ll=true):PC Tryz.prog 116 [.g [dI 2,dI 2,dI n,eII ll]] (.t [.c (eI (codeL ll 8)),.c (dB true)]):=by
 have n2:=(jbo h).n2;have n1:=(jbo h).n1;have ip:=l9Two_p 2 2 n ll h;rw [decide_eq_true Ybr] at ip;have rv:∀ w i:Nat,w < 2->i < 2->PV Tryz.prog 166 [.g [dI 2,dI 2,dI n,eII ll],.c (dI w),.c (dI i)] (.p (.c (eI (atZ ll ((2*w+i:Nat):Int)))))/\(atZ ll ((2*w+i:Nat):Int)).length=4 /\ ∀ p:Nat,p < 4->0<=atZ (atZ ll ((2*w+i:Nat):Int)) (p:Int)/\atZ (atZ ll ((2*w+i:Nat):Int)) (p:Int)<=n:=fun w i hw hi=>Dbb
 have cs:=fun k i=>fun hk hi=>code_sum ll (k:=k) (i:=i) hk hi;refine jao Tryz.func116 fun _=>?_;repeat' (first|refine jac ?_|refine Vbc ?_|apply Ub (c:=ip) (h:=?_)|exact Qac|fail)
 apply jbe [1,4,5] [1,12,34,59,60] rfl;exact Kk;exact Ybe;refine jbf [1] [1,34,59,60] (fun k=>[(5,iN k),(4,.c (.ls 12 1 0 (2*k)))]) (fun k=>[(12,.row 1 (cI (codeL ll (2*k))))]) (fun k=>k<=4) (fun k=>4 - k) (0) ?_ Kg Kg ?_
 ·omega
 intro k hk;by_cases hk2:k < 4
 ·have cs2:=fun i=>fun hi=>cs k i hk2 hi;clear cs;obtain ⟨s,hsd⟩:∃ s,k%2=s:=⟨_,rfl⟩;obtain ⟨t,htd⟩:∃ t,k / 2=t:=⟨_,rfl⟩;have hs:s < 2:=by omega
  have ht:t < 2:=by omega
  have hst:=jeo hs ht;have e6:(k:Int)%2=(s:Int):=by omega
  have e7:(k:Int) / 2=(t:Int):=by omega
  rw [hsd,htd] at cs2;repeat' (first|refine jac (id:=5) ?_|refine jac (id:=7) ?_|refine jac (id:=19) ?_|refine Vbc ?_|refine jbd rfl (fun hc=>?_) (fun hc=>?_)|exact Qaa|fail)
  rw [e6, e7];repeat' (first|refine jac ?_|refine Vbc ?_|fail)
  apply jbe [1,4,5,6,7,8] [1,12,34,59,60] rfl;exact Kk;exact Ybe;refine jbf [1,5,6,7] [1,34,59,60] (fun i=>[(8,iN i),(4,.c (.ls 12 1 0 (2*k+i)))]) (fun i=>[(12,.row 1 (cI (codeL ll (2*k+i))))]) (fun i=>i<=2) (fun i=>2 - i) (0) ?_ Kg Kt ?_
  ·omega
  intro i hi;have cl:(codeL ll (2*k+i)).length=2*k+i:=by simp [codeL]
  by_cases hi2:i < 2
  ·obtain ⟨v,r4,rb⟩:=rv (s^^^t) i hst hi2;have c0:=cs2 i hi2;have cc:codeL ll (2*k+(i+1))=codeL ll (2*k+i)++[codeV ll k i]:=by
    unfold codeL;rw [<- Nat.add_assoc,jdz,show (2*k+i) / 2=k by omega,show (2*k+i)%2=i by omega]
   rw [<- c0] at cc;clear c0 cs2 rv;have e3:(k:Int) / 2^((i:Int)).toNat%2=((k / 2^i%2:Nat):Int):=by rw [Int.toNat_natCast,jhc];rfl
   generalize k / 2^i%2=B0 at *;generalize atZ ll ((2*(s^^^t)+i:Nat):Int)=R0 at *;have cv:∀ a:Nat,(fun t=>if s^^^(t / 2)^^^(t%2)=B0 then atZ R0 (t:Int) else 0) a=if s^^^(a / 2)^^^(a%2)=B0 then atZ R0 (a:Int) else 0:=fun a=>rfl;generalize (fun t:Nat=>if s^^^(t / 2)^^^(t%2)=B0 then atZ R0 (t:Int) else 0)=F at *;have fb:∀ a:Nat,a<=4->0<=accT F a/\accT F a<=1000*a:=fun a=>by
    induction a with
    | zero=>intro _;simp [accT]
    | succ a ih =>
     intro ha;have i1:=ih Kf;have i2:=rb a Kf;have i3:=cv a;show 0<=accT F a+F a/\accT F a+F a<=_;split at i3 <;> omega
   have fs:∀ a:Nat,accT F (a+1)=accT F a+F a:=fun a=>rfl;repeat' (first|(refine jaa (.binOp .xor 3 _ _ _) ?_;((refine jab (qt_xorB rfl rfl hs ht) rfl ?_)))|refine jac ?_|refine Vbc ?_|apply Uc (c:=v) (h:=?_)|refine jbd rfl (fun hc=>?_) (fun hc=>?_)|exact Qaa|fail)
   apply jbe [1,4,5,6,7,8,9,10,11] [1,12,34,59,60] rfl;exact Kk;exact Ybe;refine jbf [1,4,5,6,7,8,9] [1,12,34,59,60] (fun a=>[(11,iN a),(10,iZ (accT F a))]) (fun _=>[]) (fun a=>a<=4) (fun a=>4 - a) (0) ?_ Kg Kv ?_
   ·omega
   intro a ha;have fa:=fb a ha;by_cases ha2:a < 4
   ·have rba:=rb a ha2;have fsa:=fs a;rw [cv a] at fsa;clear fb fs cv rb;obtain ⟨u,hu⟩:∃ u,a / 2=u:=⟨_,rfl⟩;obtain ⟨w,hw⟩:∃ w,a%2=w:=⟨_,rfl⟩;rw [hu,hw] at fsa;have u2:u < 2:=by omega
    have w2:w < 2:=by omega
    have r1:(a:Int) / 2=(u:Int):=by omega
    have r2:(a:Int)%2=(w:Int):=by omega
    have x2:=jeo hs u2;have key:bits .xor .i64 (bits .xor .i64 (s:Int) ((a:Int) / 2)) ((a:Int)%2)=((s^^^u^^^w:Nat):Int):=by rw [r1,r2,jer hs u2,jer x2 w2]
    by_cases hq:s^^^u^^^w=B0
    ·rw [if_pos hq] at fsa;rw [hq] at key;repeat' (first|refine jac ?_|refine Vbc ?_|refine jbd rfl (fun hc=>?_) (fun hc=>?_))
     all_goals first | (exfalso; omega) | (exfalso; rw [key,e3] at hc; first | exact hc rfl | exact hq (Int.ofNat.inj hc)) | skip
     refine bkL (a+1) ?_ ?_
     ·omega
     ·omega
    ·rw [if_neg hq] at fsa;repeat' (first|refine jac ?_|refine Vbc ?_|refine jbd rfl (fun hc=>?_) (fun hc=>?_))
     all_goals first | (exfalso; omega) | (exfalso; rw [key,e3] at hc; first | exact hc rfl | exact hq (Int.ofNat.inj hc)) | skip
     refine bkL (a+1) ?_ ?_
     ·omega
     ·omega
   ·obtain rfl:a=4:=by omega
    clear cv fb fs;repeat' (first|refine jac ?_|refine Vbc ?_|exact Qaa|fail)
    refine bkL (i+1) ?_ ?_ (hB:=(by (repeat(first|exact trivial|refine ⟨(by ((refine jbs rfl ?_;simp  [cc];done))),?_⟩))))
    ·omega
    ·omega
  ·obtain rfl:i=2:=by omega
   repeat' (first|refine jac ?_|refine Vbc ?_|exact Qaa|fail)
   refine bkL (k+1) ?_ ?_ (hB:=(by (repeat(first|exact trivial|refine ⟨(by ((refine jbs rfl ?_;simp  [Nat.mul_add];done))),?_⟩))))
   ·omega
   ·omega
 ·obtain rfl:k=4:=by omega
  repeat' (first|refine jac ?_|refine Vbc ?_|exact Qaa|fail)
  all_goals refine Rao ?_
  all_goals simp [codeL]
theorem rowB_v {n:Int} {ll:List (List Int)} (h:boxB 2 2 n ll=true) {w i:Nat} (hw:w < 2) (hi:i < 2):PV Tryz.prog 166 [.g [dI 2,dI 2,dI n,eII ll],.c (dI w),.c (dI i)] (.p (.c (eI (atZ ll ((2*w+i:Nat):Int)))))/\(atZ ll ((2*w+i:Nat):Int)).length=4 /\ ∀ p:Nat,p < 4->0<=atZ (atZ ll ((2*w+i:Nat):Int)) (p:Int)/\atZ (atZ ll ((2*w+i:Nat):Int)) (p:Int)<=n:=Dbb
theorem jfx {F:Nat->Int} {M:Int}:∀ {m:Nat},(∀ j,j < m->0<=F j/\F j<=M)->0<=accT F m/\accT F m<=M*m
 | 0,_=>by simp [accT]
 | m+1,h=>by
  have ih:=jfx (m:=m) fun j hj=>h j Kf;have:=h m Kf;show 0<=accT F m+F m/\accT F m+F m<=M*((m+1:Nat):Int);rw [Int.natCast_add,Int.mul_add];omega
set_option maxHeartbeats 8000000 in
theorem spchain0_p (n:Int) (ll:List (List Int)) (h:boxB 2 2 n ll=true) (hn:n<=100) (k:Nat) (hk:k < 16):PC Tryz.prog 168 [.g [dI 2,dI 2,dI n,eII ll],.c (dI k),.c (dI 0)] (.p (.c (dI (chainR ll n k 0)))):=by
 have rv:=fun w i=>fun hw hi=>rowB_v h (w:=w) (i:=i) hw hi;have n1:=(jbo h).n1;have ct:=fun a c d e f=>jfo ll n k 0 a c d e f (s:=kBit k 0) (t:=kBit k 1) (u:=kBit k 2) (v:=kBit k 3) rfl rfl rfl rfl;have i1:0%2=0:=rfl;have i2:0 / 2=0:=rfl;rw [i1,i2] at ct;have cb:=fun a c d e f=>fun ha hc hd he hf=>jke h hn k 0 a c d e f Kf ha hc hd he hf;have k0:=jde k 0;have k1:=jde k 1;have k2:=jde k 2;have k3:=jde k 3;have g0:kBit k 0=k%2:=by simp [kBit]
 have g1:kBit k 1=k / 2%2:=rfl;have g2:kBit k 2=k / 4%2:=rfl;have g3:kBit k 3=k / 8%2:=rfl;have cr:chainR ll n k 0=sumFS (chainT ll n k 0):=sumF_IS _;rw [cr];clear cr;generalize chainT ll n k 0=T at *;generalize kBit k 0=b0 at *;generalize kBit k 1=b1 at *;generalize kBit k 2=b2 at *;generalize kBit k 3=b3 at *;obtain ⟨C,hC⟩:∃ C:Nat->Nat->Nat->Int,C=fun t d u=>T (t / 2) (t%2) d (u / 2) (u%2):=⟨_,rfl⟩;obtain ⟨B,hB⟩:∃ B:Nat->Nat->Int,B=fun t d=>accT (C t d) 4:=⟨_,rfl⟩;obtain ⟨A,hA⟩:∃ A:Nat->Int,A=fun t=>accT (B t) 2:=⟨_,rfl⟩;have cr:sumFS T=accT A 4:=by rw [hA,hB,hC];rfl
 rw [cr];have Cb:∀ t d u,t < 4->d < 2->u < 4->0<=C t d u/\C t d u<=1000000:=fun t d u ht hd hu=>Dbw
 have Ca:∀ t d u,t < 4->d < 2->u<=4->0<=accT (C t d) u/\accT (C t d) u<=1000000*u:=fun t d u ht hd hu=>jfx fun j hj=>Cb t d j ht hd Kf;have Bb:∀ t d,t < 4->d < 2->0<=B t d/\B t d<=4000000:=fun t d ht hd=>Dbp
 have Ba:∀ t d,t < 4->d<=2->0<=accT (B t) d/\accT (B t) d<=4000000*d:=fun t d ht hd=>jfx fun j hj=>Bb t j ht Kf;have Ab:∀ t,t < 4->0<=A t/\A t<=8000000:=fun t ht=>Dbu
 have Aa:∀ t,t<=4->0<=accT A t/\accT A t<=8000000*t:=fun t ht=>jfx fun j hj=>Ab j Kf;have As:∀ t,accT A (t+1)=accT A t+accT (B t) 2:=fun t=>by show accT A t+A t=_;rw [hA]
 have Bs:∀ t d,accT (B t) (d+1)=accT (B t) d+accT (C t d) 4:=fun t d=>by show accT (B t) d+B t d=_;rw [hB]
 have Cs:∀ t d u,accT (C t d) (u+1)=accT (C t d) u+T (t / 2) (t%2) d (u / 2) (u%2):=fun t d u=>by show accT (C t d) u+C t d u=_;rw [hC]
 have A0:accT A 0=0:=rfl;have B0:∀ t,accT (B t) 0=0:=fun t=>rfl;have C0:∀ t d,accT (C t d) 0=0:=fun t d=>rfl;clear hA hB hC Cb Bb Ab cb cr;have hst:=jeo k0 k1;have huv:=jeo k2 k3;obtain ⟨v1,l1,w1⟩:=rv (b0^^^b1) 0 hst Kf;obtain ⟨v2,l2,w2⟩:=rv (b2^^^b3) 0 huv Kf;rw [<- jer k0 k1] at v1;rw [<- jer k2 k3] at v2;rw [Nat.add_zero] at v2 l2 w2;generalize hr1:atZ ll ((2*(b0^^^b1)+0:Nat):Int)=R1 at *;generalize hr2:atZ ll ((2*(b2^^^b3):Nat):Int)=R2 at *;have q0:(k:Int)%2=(b0:Int):=by omega
 have q1:(k:Int) / 2%2=(b1:Int):=by omega
 have q2:(k:Int) / 4%2=(b2:Int):=by omega
 have q3:(k:Int) / 8%2=(b3:Int):=by omega
 have qs:(k:Int) / 2^Int.toNat (2*0)%2=(b0:Int):=by
  have w:(2:Int)^Int.toNat (2*0)=1:=by decide
  rw [w]; omega
 have qt:(k:Int) / 2^Int.toNat (2*0+1)%2=(b1:Int):=by
  have w:(2:Int)^Int.toNat (2*0+1)=2:=by decide
  rw [w]; omega
 have qu:(k:Int) / 2^Int.toNat (2 - 2*0)%2=(b2:Int):=by
  have w:(2:Int)^Int.toNat (2 - 2*0)=4:=by decide
  rw [w]; omega
 have qv:(k:Int) / 2^Int.toNat (3 - 2*0)%2=(b3:Int):=by
  have w:(2:Int)^Int.toNat (3 - 2*0)=8:=by decide
  rw [w]; omega
 have sh:(k:Int) / 2^Int.toNat 0%2=(b0:Int):=by
  have w:(2:Int)^Int.toNat 0=1:=by decide
  rw [w]; omega
 refine jao Tryz.func168 fun _=>?_;repeat' (first|(refine jaa (.box 38 _) ?_;refine jax rfl rfl ?_)|apply zaa ?_|apply zab ?_|apply zco ?_|refine jai ?_|refine jaj ?_|refine jac (id:=0) ?_|refine jac (id:=1) ?_)
 refine jcy (jdy 7 (.c (.d (dI 0))) rfl rfl) ?_;repeat' (first|apply zaa ?_|apply zab ?_|(refine jaa (.binOp .shr 3 _ _ _) ?_;(first|refine jab (jci (c:=2) rfl rfl Ybr) rfl ?_|refine jab (jcw rfl rfl Kf Kf) rfl ?_))|apply zbe ?_|apply zaz ?_|apply zad ?_|apply zav ?_|refine jai ?_|refine jaj ?_|refine jav 2 (fun _=>false) [0,1,2,3,4,5,6,7,8,9,10,11,12] ?_|refine jav 3 (fun _=>false) [0,1,2,3,4,5,6,7,8,9,10,11,12,13] ?_)
 try rw [qs]
 try rw [qt]
 try rw [qu]
 try rw [qv]
 try rw [q0]
 try rw [q1]
 try rw [q2]
 try rw [q3]
 repeat' (first|apply zaa ?_|apply zab ?_|apply zaz ?_|apply zae ?_|apply zbi ?_|(first|apply Uc (c:=v1) (h:=?_)|apply Uc (c:=v2) (h:=?_))|refine jai ?_|refine jaj ?_|refine jah ?_|refine jac ?_|refine jav 4 (fun _=>false) [0,1,2,3,4,5,7,8,9,10,-7,-12,12,13] ?_|exact Qaa|fail)
 clear v1 v2;apply jbe [1,2,3,7,8,9,11,13,14,15] [3,54,59,80] rfl;exact Kh;exact Ybf;refine jbf [1,2,3,7,9,11,13,14] [3,54,59,80] (fun t=>[(15,iN t),(8,iZ (accT A t))]) (fun _=>[]) (fun t=>t<=4) (fun t=>4 - t) (0) ?_ Kg Kv ?_
 ·omega
 intro t ht;have Aat:=Aa t ht;by_cases ht2:t < 4
 ·have Ast:=As t;have Bat:=fun d=>Ba t d ht2;have Bst:=Bs t;have Cat:=fun d u=>fun hd=>Ca t d u ht2 hd;have Cst:=Cs t;have B0t:=B0 t;have C0t:=C0 t;clear Aa As Ba Bs Ca Cs B0 C0;generalize B t=Bt at *;generalize C t=Ct at *;generalize accT A t=S0 at *;obtain ⟨a,wa⟩:∃ a,t / 2=a:=⟨_,rfl⟩;obtain ⟨c,wc⟩:∃ c,t%2=c:=⟨_,rfl⟩;rw [wa,wc] at Cst;have ha:a < 2:=by omega
  have hc0:c < 2:=by omega
  have r1:(t:Int) / 2=(a:Int):=by omega
  have r2:(t:Int)%2=(c:Int):=by omega
  have nt:=w1 t ht2;rw [show (t:Int)=((2*a+c:Nat):Int) by omega] at nt;repeat' (first|apply zaa ?_|apply zab ?_|apply zac ?_|refine jai ?_|refine jaj ?_|refine jah ?_|refine jaq rfl ?_|refine jam ?_|refine jac ?_|refine jbd rfl (fun hc=>?_) (fun hc=>?_)|exact Qaa|fail)
  apply jbe [1,2,3,7,8,9,11,13,14,15,16] [3,54,59,80] rfl;exact Kh;exact Ybf;refine jbf [1,2,3,7,9,11,13,14,15] [3,54,59,80] (fun d=>[(16,iN d),(8,iZ (S0+accT Bt d))]) (fun _=>[]) (fun d=>d<=2) (fun d=>2 - d) (0) ?_ Ybj Kv ?_
  ·omega
  intro d hd;have Bad:=Bat d hd;by_cases hd2:d < 2
  ·have Bsd:=Bst d;have Cad:=fun u=>Cat d u hd2;have Csd:=Cst d;have C0d:=C0t d;clear Bat Bst Cat Cst C0t;generalize Ct d=Cd at *;generalize accT Bt d=S2 at *;have o1:=w2 (2*d) Kf;have o2:=w2 (2*d+1) Kf;have hm:=jeo k0 ha;have hn0:=jeo k2 hd2;obtain ⟨m0,hm0⟩:∃ m0,b0^^^a=m0:=⟨_,rfl⟩;obtain ⟨n0,hn1⟩:∃ n0,b2^^^d=n0:=⟨_,rfl⟩;have km:bits .xor .i64 (b0:Int) ((t:Int) / 2)=(m0:Int):=by rw [r1,jer k0 ha,hm0]
   have kn:bits .xor .i64 (b2:Int) (d:Int)=(n0:Int):=by rw [jer k2 hd2,hn1]
   rw [hm0] at hm;rw [hn1] at hn0;obtain ⟨v3,l3,w3⟩:=rv (m0^^^n0) 0 (jeo hm hn0) Kf;rw [<- jer hm hn0] at v3;have ctd:=fun e f=>ct a c d e f;rw [hm0,hn1] at ctd;clear ct rv;generalize hr3:atZ ll ((2*(m0^^^n0)+0:Nat):Int)=R3 at *;have gs:∀ x y:Nat,(if 0=1 then x else y)=y:=fun x y=>if_neg Kf;rw [gs] at ctd;repeat' (first|apply zaa ?_|apply zab ?_|apply zco ?_|apply zad ?_|apply zbi ?_|apply zac ?_|refine jai ?_|refine jaj ?_|refine jah ?_|refine jaz ?_|refine jaq rfl ?_|refine jam ?_|refine jac (id:=9) ?_|refine jac (id:=11) ?_|refine jac (id:=7) ?_|refine jbd rfl (fun hc=>?_) (fun hc=>?_)|exact Qaa|fail)
   rw [km, kn];repeat' (first|apply zaa ?_|apply zab ?_|apply zae ?_|apply zbi ?_|apply zai ?_|apply Uc (c:=v3) (h:=?_)|refine jai ?_|refine jaj ?_|refine jah ?_|refine jam ?_|refine jac ?_|refine jay rfl ?_|exact Qaa|fail)
   apply jbe [1,2,3,7,8,9,11,13,14,15,16,19,20,21] [3,54,59,80] rfl;exact Kh;exact Ybf;refine jbf [1,2,3,7,9,11,13,14,15,16,19,20] [3,54,59,80] (fun u=>[(21,iN u),(8,iZ (S0+S2+accT Cd u))]) (fun _=>[]) (fun u=>u<=4) (fun u=>4 - u) (0) ?_ Ybj Kv ?_
   ·omega
   intro u hu;have Cau:=Cad u hu;by_cases hu2:u < 4
   ·have Csu:=Csd u;clear Cad Csd;generalize accT Cd u=S4 at *;obtain ⟨e,we⟩:∃ e,u / 2=e:=⟨_,rfl⟩;obtain ⟨f,wf⟩:∃ f,u%2=f:=⟨_,rfl⟩;have he:e < 2:=by omega
    have hf:f < 2:=by omega
    have r3:(u:Int) / 2=(e:Int):=by omega
    have r4:(u:Int)%2=(f:Int):=by omega
    rw [we,wf,ctd e f] at Csu;have tp:=w3 u hu2;have key:bits .xor .i64 (bits .xor .i64 (bits .xor .i64 (m0:Int) ((u:Int) / 2)) ((u:Int)%2)) ((t:Int)%2)=((m0^^^e^^^f^^^c:Nat):Int):=by
     rw [r2,r3,r4,jer hm he,jer (jeo hm he) hf,jer (jeo (jeo hm he) hf) hc0]
    have eu:((2*e+f:Nat):Int)=(u:Int):=by omega
    have et:((2*a+c:Nat):Int)=(t:Int):=by omega
    have ed:((2*d:Nat):Int)=2*(d:Int):=by omega
    have ed1:((2*d+1:Nat):Int)=2*(d:Int)+1:=by omega
    rw [eu,et,ed,ed1] at Csu;have e5:S0+S2+accT Cd (u+1)=S0+S2+S4+(if m0^^^e^^^f^^^c=b0 then atZ R1 (t:Int)*(atZ R2 (2*(d:Int))+atZ R2 (2*(d:Int)+1))*atZ R3 (u:Int) else 0):=by rw [Csu,Int.add_assoc (S0+S2)]
    clear Csu;rw [et] at nt;rw [ed] at o1;rw [ed1] at o2;clear ctd w1 w2 w3;have os:atZ R2 (2*(d:Int))+atZ R2 (2*(d:Int)+1)<=100:=Dbk
    have mb:=jhp (a:=atZ R1 (t:Int)) (b:=atZ R2 (2*(d:Int))+atZ R2 (2*(d:Int)+1)) (c:=atZ R3 (u:Int)) ⟨nt.1,by omega⟩ ⟨by omega,os⟩ ⟨tp.1,by omega⟩;by_cases hq:m0^^^e^^^f^^^c=b0
    ·exact Dab
    ·exact Daa
   ·exact Dad
  ·exact Dag
 ·exact Dan
set_option maxHeartbeats 8000000 in
theorem spchain1_p (n:Int) (ll:List (List Int)) (h:boxB 2 2 n ll=true) (hn:n<=100) (k:Nat) (hk:k < 16):PC Tryz.prog 168 [.g [dI 2,dI 2,dI n,eII ll],.c (dI k),.c (dI 1)] (.p (.c (dI (chainR ll n k 1)))):=by
 have rv:=fun w i=>fun hw hi=>rowB_v h (w:=w) (i:=i) hw hi;have n1:=(jbo h).n1;have ct:=fun a c d e f=>jfo ll n k 1 a c d e f (s:=kBit k 0) (t:=kBit k 1) (u:=kBit k 2) (v:=kBit k 3) rfl rfl rfl rfl;have i1:1%2=1:=rfl;have i2:1 / 2=0:=rfl;rw [i1,i2] at ct;have cb:=fun a c d e f=>fun ha hc hd he hf=>jke h hn k 1 a c d e f Kf ha hc hd he hf;have k0:=jde k 0;have k1:=jde k 1;have k2:=jde k 2;have k3:=jde k 3;have g0:kBit k 0=k%2:=by simp [kBit]
 have g1:kBit k 1=k / 2%2:=rfl;have g2:kBit k 2=k / 4%2:=rfl;have g3:kBit k 3=k / 8%2:=rfl;have cr:chainR ll n k 1=sumFS (chainT ll n k 1):=sumF_IS _;rw [cr];clear cr;generalize chainT ll n k 1=T at *;generalize kBit k 0=b0 at *;generalize kBit k 1=b1 at *;generalize kBit k 2=b2 at *;generalize kBit k 3=b3 at *;obtain ⟨C,hC⟩:∃ C:Nat->Nat->Nat->Int,C=fun t d u=>T (t / 2) (t%2) d (u / 2) (u%2):=⟨_,rfl⟩;obtain ⟨B,hB⟩:∃ B:Nat->Nat->Int,B=fun t d=>accT (C t d) 4:=⟨_,rfl⟩;obtain ⟨A,hA⟩:∃ A:Nat->Int,A=fun t=>accT (B t) 2:=⟨_,rfl⟩;have cr:sumFS T=accT A 4:=by rw [hA,hB,hC];rfl
 rw [cr];have Cb:∀ t d u,t < 4->d < 2->u < 4->0<=C t d u/\C t d u<=1000000:=fun t d u ht hd hu=>Dbw
 have Ca:∀ t d u,t < 4->d < 2->u<=4->0<=accT (C t d) u/\accT (C t d) u<=1000000*u:=fun t d u ht hd hu=>jfx fun j hj=>Cb t d j ht hd Kf;have Bb:∀ t d,t < 4->d < 2->0<=B t d/\B t d<=4000000:=fun t d ht hd=>Dbp
 have Ba:∀ t d,t < 4->d<=2->0<=accT (B t) d/\accT (B t) d<=4000000*d:=fun t d ht hd=>jfx fun j hj=>Bb t j ht Kf;have Ab:∀ t,t < 4->0<=A t/\A t<=8000000:=fun t ht=>Dbu
 have Aa:∀ t,t<=4->0<=accT A t/\accT A t<=8000000*t:=fun t ht=>jfx fun j hj=>Ab j Kf;have As:∀ t,accT A (t+1)=accT A t+accT (B t) 2:=fun t=>by show accT A t+A t=_;rw [hA]
 have Bs:∀ t d,accT (B t) (d+1)=accT (B t) d+accT (C t d) 4:=fun t d=>by show accT (B t) d+B t d=_;rw [hB]
 have Cs:∀ t d u,accT (C t d) (u+1)=accT (C t d) u+T (t / 2) (t%2) d (u / 2) (u%2):=fun t d u=>by show accT (C t d) u+C t d u=_;rw [hC]
 have A0:accT A 0=0:=rfl;have B0:∀ t,accT (B t) 0=0:=fun t=>rfl;have C0:∀ t d,accT (C t d) 0=0:=fun t d=>rfl;clear hA hB hC Cb Bb Ab cb cr;have hst:=jeo k0 k1;have huv:=jeo k2 k3;obtain ⟨v1,l1,w1⟩:=rv (b0^^^b1) 1 hst Kf;obtain ⟨v2,l2,w2⟩:=rv (b2^^^b3) 0 huv Kf;rw [<- jer k0 k1] at v1;rw [<- jer k2 k3] at v2;rw [Nat.add_zero] at v2 l2 w2;generalize hr1:atZ ll ((2*(b0^^^b1)+1:Nat):Int)=R1 at *;generalize hr2:atZ ll ((2*(b2^^^b3):Nat):Int)=R2 at *;have q0:(k:Int)%2=(b0:Int):=by omega
 have q1:(k:Int) / 2%2=(b1:Int):=by omega
 have q2:(k:Int) / 4%2=(b2:Int):=by omega
 have q3:(k:Int) / 8%2=(b3:Int):=by omega
 have qs:(k:Int) / 2^Int.toNat (2*0)%2=(b0:Int):=by
  have w:(2:Int)^Int.toNat (2*0)=1:=by decide
  rw [w]; omega
 have qt:(k:Int) / 2^Int.toNat (2*0+1)%2=(b1:Int):=by
  have w:(2:Int)^Int.toNat (2*0+1)=2:=by decide
  rw [w]; omega
 have qu:(k:Int) / 2^Int.toNat (2 - 2*0)%2=(b2:Int):=by
  have w:(2:Int)^Int.toNat (2 - 2*0)=4:=by decide
  rw [w]; omega
 have qv:(k:Int) / 2^Int.toNat (3 - 2*0)%2=(b3:Int):=by
  have w:(2:Int)^Int.toNat (3 - 2*0)=8:=by decide
  rw [w]; omega
 have sh:(k:Int) / 2^Int.toNat 1%2=(b1:Int):=by
  have w:(2:Int)^Int.toNat 1=2:=by decide
  rw [w]; omega
 refine jao Tryz.func168 fun _=>?_;repeat' (first|(refine jaa (.box 38 _) ?_;refine jax rfl rfl ?_)|apply zaa ?_|apply zab ?_|apply zco ?_|refine jai ?_|refine jaj ?_|refine jac (id:=0) ?_|refine jac (id:=1) ?_)
 refine jcy (jdy 7 (.c (.d (dI 0))) rfl rfl) ?_;repeat' (first|apply zaa ?_|apply zab ?_|(refine jaa (.binOp .shr 3 _ _ _) ?_;(first|refine jab (jci (c:=2) rfl rfl Ybr) rfl ?_|refine jab (jcw rfl rfl Kf Kf) rfl ?_))|apply zbe ?_|apply zaz ?_|apply zad ?_|apply zav ?_|refine jai ?_|refine jaj ?_|refine jav 2 (fun _=>false) [0,1,2,3,4,5,6,7,8,9,10,11,12] ?_|refine jav 3 (fun _=>false) [0,1,2,3,4,5,6,7,8,9,10,11,12,13] ?_)
 try rw [qs]
 try rw [qt]
 try rw [qu]
 try rw [qv]
 try rw [q0]
 try rw [q1]
 try rw [q2]
 try rw [q3]
 repeat' (first|apply zaa ?_|apply zab ?_|apply zaz ?_|apply zae ?_|apply zbi ?_|(first|apply Uc (c:=v1) (h:=?_)|apply Uc (c:=v2) (h:=?_))|refine jai ?_|refine jaj ?_|refine jah ?_|refine jac ?_|refine jav 4 (fun _=>false) [0,1,2,3,4,5,7,8,9,10,-7,-12,12,13] ?_|exact Qaa|fail)
 clear v1 v2;apply jbe [1,2,3,7,8,9,11,13,14,15] [3,54,59,80] rfl;exact Kh;exact Ybf;refine jbf [1,2,3,7,9,11,13,14] [3,54,59,80] (fun t=>[(15,iN t),(8,iZ (accT A t))]) (fun _=>[]) (fun t=>t<=4) (fun t=>4 - t) (0) ?_ Kg Kv ?_
 ·omega
 intro t ht;have Aat:=Aa t ht;by_cases ht2:t < 4
 ·have Ast:=As t;have Bat:=fun d=>Ba t d ht2;have Bst:=Bs t;have Cat:=fun d u=>fun hd=>Ca t d u ht2 hd;have Cst:=Cs t;have B0t:=B0 t;have C0t:=C0 t;clear Aa As Ba Bs Ca Cs B0 C0;generalize B t=Bt at *;generalize C t=Ct at *;generalize accT A t=S0 at *;obtain ⟨a,wa⟩:∃ a,t / 2=a:=⟨_,rfl⟩;obtain ⟨c,wc⟩:∃ c,t%2=c:=⟨_,rfl⟩;rw [wa,wc] at Cst;have ha:a < 2:=by omega
  have hc0:c < 2:=by omega
  have r1:(t:Int) / 2=(a:Int):=by omega
  have r2:(t:Int)%2=(c:Int):=by omega
  have nt:=w1 t ht2;rw [show (t:Int)=((2*a+c:Nat):Int) by omega] at nt;repeat' (first|apply zaa ?_|apply zab ?_|apply zac ?_|refine jai ?_|refine jaj ?_|refine jah ?_|refine jaq rfl ?_|refine jam ?_|refine jac ?_|refine jbd rfl (fun hc=>?_) (fun hc=>?_)|exact Qaa|fail)
  apply jbe [1,2,3,7,8,9,11,13,14,15,16] [3,54,59,80] rfl;exact Kh;exact Ybf;refine jbf [1,2,3,7,9,11,13,14,15] [3,54,59,80] (fun d=>[(16,iN d),(8,iZ (S0+accT Bt d))]) (fun _=>[]) (fun d=>d<=2) (fun d=>2 - d) (0) ?_ Ybj Kv ?_
  ·omega
  intro d hd;have Bad:=Bat d hd;by_cases hd2:d < 2
  ·have Bsd:=Bst d;have Cad:=fun u=>Cat d u hd2;have Csd:=Cst d;have C0d:=C0t d;clear Bat Bst Cat Cst C0t;generalize Ct d=Cd at *;generalize accT Bt d=S2 at *;have o1:=w2 (2*d) Kf;have o2:=w2 (2*d+1) Kf;have hm:=jeo k0 ha;have hn0:=jeo k2 hd2;obtain ⟨m0,hm0⟩:∃ m0,b0^^^a=m0:=⟨_,rfl⟩;obtain ⟨n0,hn1⟩:∃ n0,b2^^^d=n0:=⟨_,rfl⟩;have km:bits .xor .i64 (b0:Int) ((t:Int) / 2)=(m0:Int):=by rw [r1,jer k0 ha,hm0]
   have kn:bits .xor .i64 (b2:Int) (d:Int)=(n0:Int):=by rw [jer k2 hd2,hn1]
   rw [hm0] at hm;rw [hn1] at hn0;obtain ⟨v3,l3,w3⟩:=rv (m0^^^n0) 0 (jeo hm hn0) Kf;rw [<- jer hm hn0] at v3;have ctd:=fun e f=>ct a c d e f;rw [hm0,hn1] at ctd;clear ct rv;generalize hr3:atZ ll ((2*(m0^^^n0)+0:Nat):Int)=R3 at *;have gs:∀ x y:Nat,(if 0=1 then x else y)=y:=fun x y=>if_neg Kf;rw [gs] at ctd;repeat' (first|apply zaa ?_|apply zab ?_|apply zco ?_|apply zad ?_|apply zbi ?_|apply zac ?_|refine jai ?_|refine jaj ?_|refine jah ?_|refine jaz ?_|refine jaq rfl ?_|refine jam ?_|refine jac (id:=9) ?_|refine jac (id:=11) ?_|refine jac (id:=7) ?_|refine jbd rfl (fun hc=>?_) (fun hc=>?_)|exact Qaa|fail)
   rw [km, kn];repeat' (first|apply zaa ?_|apply zab ?_|apply zae ?_|apply zbi ?_|apply zai ?_|apply Uc (c:=v3) (h:=?_)|refine jai ?_|refine jaj ?_|refine jah ?_|refine jam ?_|refine jac ?_|refine jay rfl ?_|exact Qaa|fail)
   apply jbe [1,2,3,7,8,9,11,13,14,15,16,19,20,21] [3,54,59,80] rfl;exact Kh;exact Ybf;refine jbf [1,2,3,7,9,11,13,14,15,16,19,20] [3,54,59,80] (fun u=>[(21,iN u),(8,iZ (S0+S2+accT Cd u))]) (fun _=>[]) (fun u=>u<=4) (fun u=>4 - u) (0) ?_ Ybj Kv ?_
   ·omega
   intro u hu;have Cau:=Cad u hu;by_cases hu2:u < 4
   ·have Csu:=Csd u;clear Cad Csd;generalize accT Cd u=S4 at *;obtain ⟨e,we⟩:∃ e,u / 2=e:=⟨_,rfl⟩;obtain ⟨f,wf⟩:∃ f,u%2=f:=⟨_,rfl⟩;have he:e < 2:=by omega
    have hf:f < 2:=by omega
    have r3:(u:Int) / 2=(e:Int):=by omega
    have r4:(u:Int)%2=(f:Int):=by omega
    rw [we,wf,ctd e f] at Csu;have tp:=w3 u hu2;have key:bits .xor .i64 (bits .xor .i64 (bits .xor .i64 (m0:Int) ((u:Int) / 2)) ((u:Int)%2)) ((t:Int)%2)=((m0^^^e^^^f^^^c:Nat):Int):=by
     rw [r2,r3,r4,jer hm he,jer (jeo hm he) hf,jer (jeo (jeo hm he) hf) hc0]
    have eu:((2*e+f:Nat):Int)=(u:Int):=by omega
    have et:((2*a+c:Nat):Int)=(t:Int):=by omega
    have ed:((2*d:Nat):Int)=2*(d:Int):=by omega
    have ed1:((2*d+1:Nat):Int)=2*(d:Int)+1:=by omega
    rw [eu,et,ed,ed1] at Csu;have e5:S0+S2+accT Cd (u+1)=S0+S2+S4+(if m0^^^e^^^f^^^c=b1 then atZ R1 (t:Int)*(atZ R2 (2*(d:Int))+atZ R2 (2*(d:Int)+1))*atZ R3 (u:Int) else 0):=by rw [Csu,Int.add_assoc (S0+S2)]
    clear Csu;rw [et] at nt;rw [ed] at o1;rw [ed1] at o2;clear ctd w1 w2 w3;have os:atZ R2 (2*(d:Int))+atZ R2 (2*(d:Int)+1)<=100:=Dbk
    have mb:=jhp (a:=atZ R1 (t:Int)) (b:=atZ R2 (2*(d:Int))+atZ R2 (2*(d:Int)+1)) (c:=atZ R3 (u:Int)) ⟨nt.1,by omega⟩ ⟨by omega,os⟩ ⟨tp.1,by omega⟩;by_cases hq:m0^^^e^^^f^^^c=b1
    ·rw [if_pos hq] at e5;rw [hq] at key;repeat' (first|apply zaa ?_|apply zab ?_|apply zco ?_|apply zbe ?_|apply zaz ?_|apply zad ?_|apply zbi ?_|apply zac ?_|apply zai ?_|apply zal ?_|apply zap ?_|refine jai ?_|refine jaj ?_|refine jah ?_|refine jaz ?_|refine jaq rfl ?_|refine jam ?_|refine jac ?_|refine jav 21 (fun _=>false) [0,1,2,3,4,5,6,7,8,9,10,11,12,13,14,15,16,17,18,19,20,21,22,23,24] ?_|refine jbd rfl (fun hc=>?_) (fun hc=>?_))
     all_goals first|(exfalso;omega)|(exfalso;rw [key,sh] at hc;exact hc rfl)|skip
     all_goals
      refine bkL (u+1) ?_ ?_
      ·omega
      ·omega
    ·rw [if_neg hq,Int.add_zero] at e5;repeat' (first|apply zaa ?_|apply zab ?_|apply zco ?_|apply zbe ?_|apply zaz ?_|apply zad ?_|apply zbi ?_|apply zac ?_|apply zai ?_|apply zal ?_|apply zap ?_|refine jai ?_|refine jaj ?_|refine jah ?_|refine jaz ?_|refine jaq rfl ?_|refine jam ?_|refine jac ?_|refine jav 21 (fun _=>false) [0,1,2,3,4,5,6,7,8,9,10,11,12,13,14,15,16,17,18,19,20,21,22,23,24] ?_|refine jbd rfl (fun hc=>?_) (fun hc=>?_))
     all_goals first | (exfalso; omega) | (exfalso; rw [key,sh] at hc; exact hq (Int.ofNat.inj hc)) | skip
     all_goals
      refine bkL (u+1) ?_ ?_
      ·omega
      ·omega
   ·exact Dad
  ·exact Dag
 ·exact Dan
set_option maxHeartbeats 8000000 in
theorem spchain2_p (n:Int) (ll:List (List Int)) (h:boxB 2 2 n ll=true) (hn:n<=100) (k:Nat) (hk:k < 16):PC Tryz.prog 168 [.g [dI 2,dI 2,dI n,eII ll],.c (dI k),.c (dI 2)] (.p (.c (dI (chainR ll n k 2)))):=by
 have rv:=fun w i=>fun hw hi=>rowB_v h (w:=w) (i:=i) hw hi;have n1:=(jbo h).n1;have ct:=fun a c d e f=>jfo ll n k 2 a c d e f (s:=kBit k 2) (t:=kBit k 3) (u:=kBit k 0) (v:=kBit k 1) rfl rfl rfl rfl;have i1:2%2=0:=rfl;have i2:2 / 2=1:=rfl;rw [i1,i2] at ct;have cb:=fun a c d e f=>fun ha hc hd he hf=>jke h hn k 2 a c d e f Kf ha hc hd he hf;have k0:=jde k 0;have k1:=jde k 1;have k2:=jde k 2;have k3:=jde k 3;have g0:kBit k 0=k%2:=by simp [kBit]
 have g1:kBit k 1=k / 2%2:=rfl;have g2:kBit k 2=k / 4%2:=rfl;have g3:kBit k 3=k / 8%2:=rfl;have cr:chainR ll n k 2=sumFS (chainT ll n k 2):=sumF_IS _;rw [cr];clear cr;generalize chainT ll n k 2=T at *;generalize kBit k 0=b0 at *;generalize kBit k 1=b1 at *;generalize kBit k 2=b2 at *;generalize kBit k 3=b3 at *;obtain ⟨C,hC⟩:∃ C:Nat->Nat->Nat->Int,C=fun t d u=>T (t / 2) (t%2) d (u / 2) (u%2):=⟨_,rfl⟩;obtain ⟨B,hB⟩:∃ B:Nat->Nat->Int,B=fun t d=>accT (C t d) 4:=⟨_,rfl⟩;obtain ⟨A,hA⟩:∃ A:Nat->Int,A=fun t=>accT (B t) 2:=⟨_,rfl⟩;have cr:sumFS T=accT A 4:=by rw [hA,hB,hC];rfl
 rw [cr];have Cb:∀ t d u,t < 4->d < 2->u < 4->0<=C t d u/\C t d u<=1000000:=fun t d u ht hd hu=>Dbw
 have Ca:∀ t d u,t < 4->d < 2->u<=4->0<=accT (C t d) u/\accT (C t d) u<=1000000*u:=fun t d u ht hd hu=>jfx fun j hj=>Cb t d j ht hd Kf;have Bb:∀ t d,t < 4->d < 2->0<=B t d/\B t d<=4000000:=fun t d ht hd=>Dbp
 have Ba:∀ t d,t < 4->d<=2->0<=accT (B t) d/\accT (B t) d<=4000000*d:=fun t d ht hd=>jfx fun j hj=>Bb t j ht Kf;have Ab:∀ t,t < 4->0<=A t/\A t<=8000000:=fun t ht=>Dbu
 have Aa:∀ t,t<=4->0<=accT A t/\accT A t<=8000000*t:=fun t ht=>jfx fun j hj=>Ab j Kf;have As:∀ t,accT A (t+1)=accT A t+accT (B t) 2:=fun t=>by show accT A t+A t=_;rw [hA]
 have Bs:∀ t d,accT (B t) (d+1)=accT (B t) d+accT (C t d) 4:=fun t d=>by show accT (B t) d+B t d=_;rw [hB]
 have Cs:∀ t d u,accT (C t d) (u+1)=accT (C t d) u+T (t / 2) (t%2) d (u / 2) (u%2):=fun t d u=>by show accT (C t d) u+C t d u=_;rw [hC]
 have A0:accT A 0=0:=rfl;have B0:∀ t,accT (B t) 0=0:=fun t=>rfl;have C0:∀ t d,accT (C t d) 0=0:=fun t d=>rfl;clear hA hB hC Cb Bb Ab cb cr;have hst:=jeo k2 k3;have huv:=jeo k0 k1;obtain ⟨v1,l1,w1⟩:=rv (b2^^^b3) 0 hst Kf;obtain ⟨v2,l2,w2⟩:=rv (b0^^^b1) 0 huv Kf;rw [<- jer k2 k3] at v1;rw [<- jer k0 k1] at v2;rw [Nat.add_zero] at v2 l2 w2;generalize hr1:atZ ll ((2*(b2^^^b3)+0:Nat):Int)=R1 at *;generalize hr2:atZ ll ((2*(b0^^^b1):Nat):Int)=R2 at *;have q0:(k:Int)%2=(b0:Int):=by omega
 have q1:(k:Int) / 2%2=(b1:Int):=by omega
 have q2:(k:Int) / 4%2=(b2:Int):=by omega
 have q3:(k:Int) / 8%2=(b3:Int):=by omega
 have qs:(k:Int) / 2^Int.toNat (2*1)%2=(b2:Int):=by
  have w:(2:Int)^Int.toNat (2*1)=4:=by decide
  rw [w]; omega
 have qt:(k:Int) / 2^Int.toNat (2*1+1)%2=(b3:Int):=by
  have w:(2:Int)^Int.toNat (2*1+1)=8:=by decide
  rw [w]; omega
 have qu:(k:Int) / 2^Int.toNat (2 - 2*1)%2=(b0:Int):=by
  have w:(2:Int)^Int.toNat (2 - 2*1)=1:=by decide
  rw [w]; omega
 have qv:(k:Int) / 2^Int.toNat (3 - 2*1)%2=(b1:Int):=by
  have w:(2:Int)^Int.toNat (3 - 2*1)=2:=by decide
  rw [w]; omega
 have sh:(k:Int) / 2^Int.toNat 2%2=(b2:Int):=by
  have w:(2:Int)^Int.toNat 2=4:=by decide
  rw [w]; omega
 refine jao Tryz.func168 fun _=>?_;repeat' (first|(refine jaa (.box 38 _) ?_;refine jax rfl rfl ?_)|apply zaa ?_|apply zab ?_|apply zco ?_|refine jai ?_|refine jaj ?_|refine jac (id:=0) ?_|refine jac (id:=1) ?_)
 refine jcy (jdy 7 (.c (.d (dI 1))) rfl rfl) ?_;repeat' (first|apply zaa ?_|apply zab ?_|(refine jaa (.binOp .shr 3 _ _ _) ?_;(first|refine jab (jci (c:=2) rfl rfl Ybr) rfl ?_|refine jab (jcw rfl rfl Kf Kf) rfl ?_))|apply zbe ?_|apply zaz ?_|apply zad ?_|apply zav ?_|refine jai ?_|refine jaj ?_|refine jav 2 (fun _=>false) [0,1,2,3,4,5,6,7,8,9,10,11,12] ?_|refine jav 3 (fun _=>false) [0,1,2,3,4,5,6,7,8,9,10,11,12,13] ?_)
 try rw [qs]
 try rw [qt]
 try rw [qu]
 try rw [qv]
 try rw [q0]
 try rw [q1]
 try rw [q2]
 try rw [q3]
 repeat' (first|apply zaa ?_|apply zab ?_|apply zaz ?_|apply zae ?_|apply zbi ?_|(first|apply Uc (c:=v1) (h:=?_)|apply Uc (c:=v2) (h:=?_))|refine jai ?_|refine jaj ?_|refine jah ?_|refine jac ?_|refine jav 4 (fun _=>false) [0,1,2,3,4,5,7,8,9,10,-7,-12,12,13] ?_|exact Qaa|fail)
 clear v1 v2;apply jbe [1,2,3,7,8,9,11,13,14,15] [3,54,59,80] rfl;exact Kh;exact Ybf;refine jbf [1,2,3,7,9,11,13,14] [3,54,59,80] (fun t=>[(15,iN t),(8,iZ (accT A t))]) (fun _=>[]) (fun t=>t<=4) (fun t=>4 - t) (0) ?_ Kg Kv ?_
 ·omega
 intro t ht;have Aat:=Aa t ht;by_cases ht2:t < 4
 ·have Ast:=As t;have Bat:=fun d=>Ba t d ht2;have Bst:=Bs t;have Cat:=fun d u=>fun hd=>Ca t d u ht2 hd;have Cst:=Cs t;have B0t:=B0 t;have C0t:=C0 t;clear Aa As Ba Bs Ca Cs B0 C0;generalize B t=Bt at *;generalize C t=Ct at *;generalize accT A t=S0 at *;obtain ⟨a,wa⟩:∃ a,t / 2=a:=⟨_,rfl⟩;obtain ⟨c,wc⟩:∃ c,t%2=c:=⟨_,rfl⟩;rw [wa,wc] at Cst;have ha:a < 2:=by omega
  have hc0:c < 2:=by omega
  have r1:(t:Int) / 2=(a:Int):=by omega
  have r2:(t:Int)%2=(c:Int):=by omega
  have nt:=w1 t ht2;rw [show (t:Int)=((2*a+c:Nat):Int) by omega] at nt;repeat' (first|apply zaa ?_|apply zab ?_|apply zac ?_|refine jai ?_|refine jaj ?_|refine jah ?_|refine jaq rfl ?_|refine jam ?_|refine jac ?_|refine jbd rfl (fun hc=>?_) (fun hc=>?_)|exact Qaa|fail)
  apply jbe [1,2,3,7,8,9,11,13,14,15,16] [3,54,59,80] rfl;exact Kh;exact Ybf;refine jbf [1,2,3,7,9,11,13,14,15] [3,54,59,80] (fun d=>[(16,iN d),(8,iZ (S0+accT Bt d))]) (fun _=>[]) (fun d=>d<=2) (fun d=>2 - d) (0) ?_ Ybj Kv ?_
  ·omega
  intro d hd;have Bad:=Bat d hd;by_cases hd2:d < 2
  ·have Bsd:=Bst d;have Cad:=fun u=>Cat d u hd2;have Csd:=Cst d;have C0d:=C0t d;clear Bat Bst Cat Cst C0t;generalize Ct d=Cd at *;generalize accT Bt d=S2 at *;have o1:=w2 (2*d) Kf;have o2:=w2 (2*d+1) Kf;have hm:=jeo k2 ha;have hn0:=jeo k0 hd2;obtain ⟨m0,hm0⟩:∃ m0,b2^^^a=m0:=⟨_,rfl⟩;obtain ⟨n0,hn1⟩:∃ n0,b0^^^d=n0:=⟨_,rfl⟩;have km:bits .xor .i64 (b2:Int) ((t:Int) / 2)=(m0:Int):=by rw [r1,jer k2 ha,hm0]
   have kn:bits .xor .i64 (b0:Int) (d:Int)=(n0:Int):=by rw [jer k0 hd2,hn1]
   rw [hm0] at hm;rw [hn1] at hn0;obtain ⟨v3,l3,w3⟩:=rv (m0^^^n0) 1 (jeo hm hn0) Kf;rw [<- jer hm hn0] at v3;have ctd:=fun e f=>ct a c d e f;rw [hm0,hn1] at ctd;clear ct rv;generalize hr3:atZ ll ((2*(m0^^^n0)+1:Nat):Int)=R3 at *;have gs:∀ x y:Nat,(if 1=1 then x else y)=x:=fun x y=>if_pos rfl;rw [gs] at ctd;repeat' (first|apply zaa ?_|apply zab ?_|apply zco ?_|apply zad ?_|apply zbi ?_|apply zac ?_|refine jai ?_|refine jaj ?_|refine jah ?_|refine jaz ?_|refine jaq rfl ?_|refine jam ?_|refine jac (id:=9) ?_|refine jac (id:=11) ?_|refine jac (id:=7) ?_|refine jbd rfl (fun hc=>?_) (fun hc=>?_)|exact Qaa|fail)
   rw [km, kn];repeat' (first|apply zaa ?_|apply zab ?_|apply zae ?_|apply zbi ?_|apply zai ?_|apply Uc (c:=v3) (h:=?_)|refine jai ?_|refine jaj ?_|refine jah ?_|refine jac ?_|refine jbg rfl ?_|exact Qaa|fail)
   apply jbe [1,2,3,7,8,9,11,13,14,15,16,19,20,21] [3,54,59,80] rfl;exact Kh;exact Ybf;refine jbf [1,2,3,7,9,11,13,14,15,16,19,20] [3,54,59,80] (fun u=>[(21,iN u),(8,iZ (S0+S2+accT Cd u))]) (fun _=>[]) (fun u=>u<=4) (fun u=>4 - u) (0) ?_ Ybj Kv ?_
   ·omega
   intro u hu;have Cau:=Cad u hu;by_cases hu2:u < 4
   ·have Csu:=Csd u;clear Cad Csd;generalize accT Cd u=S4 at *;obtain ⟨e,we⟩:∃ e,u / 2=e:=⟨_,rfl⟩;obtain ⟨f,wf⟩:∃ f,u%2=f:=⟨_,rfl⟩;have he:e < 2:=by omega
    have hf:f < 2:=by omega
    have r3:(u:Int) / 2=(e:Int):=by omega
    have r4:(u:Int)%2=(f:Int):=by omega
    rw [we,wf,ctd e f] at Csu;have tp:=w3 u hu2;have key:bits .xor .i64 (bits .xor .i64 (bits .xor .i64 (n0:Int) ((u:Int) / 2)) ((u:Int)%2)) ((t:Int)%2)=((n0^^^e^^^f^^^c:Nat):Int):=by
     rw [r2,r3,r4,jer hn0 he,jer (jeo hn0 he) hf,jer (jeo (jeo hn0 he) hf) hc0]
    have eu:((2*e+f:Nat):Int)=(u:Int):=by omega
    have et:((2*a+c:Nat):Int)=(t:Int):=by omega
    have ed:((2*d:Nat):Int)=2*(d:Int):=by omega
    have ed1:((2*d+1:Nat):Int)=2*(d:Int)+1:=by omega
    rw [eu,et,ed,ed1] at Csu;have e5:S0+S2+accT Cd (u+1)=S0+S2+S4+(if n0^^^e^^^f^^^c=b2 then atZ R1 (t:Int)*(atZ R2 (2*(d:Int))+atZ R2 (2*(d:Int)+1))*atZ R3 (u:Int) else 0):=by rw [Csu,Int.add_assoc (S0+S2)]
    clear Csu;rw [et] at nt;rw [ed] at o1;rw [ed1] at o2;clear ctd w1 w2 w3;have os:atZ R2 (2*(d:Int))+atZ R2 (2*(d:Int)+1)<=100:=Dbk
    have mb:=jhp (a:=atZ R1 (t:Int)) (b:=atZ R2 (2*(d:Int))+atZ R2 (2*(d:Int)+1)) (c:=atZ R3 (u:Int)) ⟨nt.1,by omega⟩ ⟨by omega,os⟩ ⟨tp.1,by omega⟩;by_cases hq:n0^^^e^^^f^^^c=b2
    ·exact Dab
    ·exact Daa
   ·exact Dad
  ·exact Dag
 ·exact Dan
set_option maxHeartbeats 8000000 in
theorem spchain3_p (n:Int) (ll:List (List Int)) (h:boxB 2 2 n ll=true) (hn:n<=100) (k:Nat) (hk:k < 16):PC Tryz.prog 168 [.g [dI 2,dI 2,dI n,eII ll],.c (dI k),.c (dI 3)] (.p (.c (dI (chainR ll n k 3)))):=by
 have rv:=fun w i=>fun hw hi=>rowB_v h (w:=w) (i:=i) hw hi;have n1:=(jbo h).n1;have ct:=fun a c d e f=>jfo ll n k 3 a c d e f (s:=kBit k 2) (t:=kBit k 3) (u:=kBit k 0) (v:=kBit k 1) rfl rfl rfl rfl;have i1:3%2=1:=rfl;have i2:3 / 2=1:=rfl;rw [i1,i2] at ct;have cb:=fun a c d e f=>fun ha hc hd he hf=>jke h hn k 3 a c d e f Kf ha hc hd he hf;have k0:=jde k 0;have k1:=jde k 1;have k2:=jde k 2;have k3:=jde k 3;have g0:kBit k 0=k%2:=by simp [kBit]
 have g1:kBit k 1=k / 2%2:=rfl;have g2:kBit k 2=k / 4%2:=rfl;have g3:kBit k 3=k / 8%2:=rfl;have cr:chainR ll n k 3=sumFS (chainT ll n k 3):=sumF_IS _;rw [cr];clear cr;generalize chainT ll n k 3=T at *;generalize kBit k 0=b0 at *;generalize kBit k 1=b1 at *;generalize kBit k 2=b2 at *;generalize kBit k 3=b3 at *;obtain ⟨C,hC⟩:∃ C:Nat->Nat->Nat->Int,C=fun t d u=>T (t / 2) (t%2) d (u / 2) (u%2):=⟨_,rfl⟩;obtain ⟨B,hB⟩:∃ B:Nat->Nat->Int,B=fun t d=>accT (C t d) 4:=⟨_,rfl⟩;obtain ⟨A,hA⟩:∃ A:Nat->Int,A=fun t=>accT (B t) 2:=⟨_,rfl⟩;have cr:sumFS T=accT A 4:=by rw [hA,hB,hC];rfl
 rw [cr];have Cb:∀ t d u,t < 4->d < 2->u < 4->0<=C t d u/\C t d u<=1000000:=fun t d u ht hd hu=>Dbw
 have Ca:∀ t d u,t < 4->d < 2->u<=4->0<=accT (C t d) u/\accT (C t d) u<=1000000*u:=fun t d u ht hd hu=>jfx fun j hj=>Cb t d j ht hd Kf;have Bb:∀ t d,t < 4->d < 2->0<=B t d/\B t d<=4000000:=fun t d ht hd=>Dbp
 have Ba:∀ t d,t < 4->d<=2->0<=accT (B t) d/\accT (B t) d<=4000000*d:=fun t d ht hd=>jfx fun j hj=>Bb t j ht Kf;have Ab:∀ t,t < 4->0<=A t/\A t<=8000000:=fun t ht=>Dbu
 have Aa:∀ t,t<=4->0<=accT A t/\accT A t<=8000000*t:=fun t ht=>jfx fun j hj=>Ab j Kf;have As:∀ t,accT A (t+1)=accT A t+accT (B t) 2:=fun t=>by show accT A t+A t=_;rw [hA]
 have Bs:∀ t d,accT (B t) (d+1)=accT (B t) d+accT (C t d) 4:=fun t d=>by show accT (B t) d+B t d=_;rw [hB]
 have Cs:∀ t d u,accT (C t d) (u+1)=accT (C t d) u+T (t / 2) (t%2) d (u / 2) (u%2):=fun t d u=>by show accT (C t d) u+C t d u=_;rw [hC]
 have A0:accT A 0=0:=rfl;have B0:∀ t,accT (B t) 0=0:=fun t=>rfl;have C0:∀ t d,accT (C t d) 0=0:=fun t d=>rfl;clear hA hB hC Cb Bb Ab cb cr;have hst:=jeo k2 k3;have huv:=jeo k0 k1;obtain ⟨v1,l1,w1⟩:=rv (b2^^^b3) 1 hst Kf;obtain ⟨v2,l2,w2⟩:=rv (b0^^^b1) 0 huv Kf;rw [<- jer k2 k3] at v1;rw [<- jer k0 k1] at v2;rw [Nat.add_zero] at v2 l2 w2;generalize hr1:atZ ll ((2*(b2^^^b3)+1:Nat):Int)=R1 at *;generalize hr2:atZ ll ((2*(b0^^^b1):Nat):Int)=R2 at *;have q0:(k:Int)%2=(b0:Int):=by omega
 have q1:(k:Int) / 2%2=(b1:Int):=by omega
 have q2:(k:Int) / 4%2=(b2:Int):=by omega
 have q3:(k:Int) / 8%2=(b3:Int):=by omega
 have qs:(k:Int) / 2^Int.toNat (2*1)%2=(b2:Int):=by
  have w:(2:Int)^Int.toNat (2*1)=4:=by decide
  rw [w]; omega
 have qt:(k:Int) / 2^Int.toNat (2*1+1)%2=(b3:Int):=by
  have w:(2:Int)^Int.toNat (2*1+1)=8:=by decide
  rw [w]; omega
 have qu:(k:Int) / 2^Int.toNat (2 - 2*1)%2=(b0:Int):=by
  have w:(2:Int)^Int.toNat (2 - 2*1)=1:=by decide
  rw [w]; omega
 have qv:(k:Int) / 2^Int.toNat (3 - 2*1)%2=(b1:Int):=by
  have w:(2:Int)^Int.toNat (3 - 2*1)=2:=by decide
  rw [w]; omega
 have sh:(k:Int) / 2^Int.toNat 3%2=(b3:Int):=by
  have w:(2:Int)^Int.toNat 3=8:=by decide
  rw [w]; omega
 refine jao Tryz.func168 fun _=>?_;repeat' (first|(refine jaa (.box 38 _) ?_;refine jax rfl rfl ?_)|apply zaa ?_|apply zab ?_|apply zco ?_|refine jai ?_|refine jaj ?_|refine jac (id:=0) ?_|refine jac (id:=1) ?_)
 refine jcy (jdy 7 (.c (.d (dI 1))) rfl rfl) ?_;repeat' (first|apply zaa ?_|apply zab ?_|(refine jaa (.binOp .shr 3 _ _ _) ?_;(first|refine jab (jci (c:=2) rfl rfl Ybr) rfl ?_|refine jab (jcw rfl rfl Kf Kf) rfl ?_))|apply zbe ?_|apply zaz ?_|apply zad ?_|apply zav ?_|refine jai ?_|refine jaj ?_|refine jav 2 (fun _=>false) [0,1,2,3,4,5,6,7,8,9,10,11,12] ?_|refine jav 3 (fun _=>false) [0,1,2,3,4,5,6,7,8,9,10,11,12,13] ?_)
 try rw [qs]
 try rw [qt]
 try rw [qu]
 try rw [qv]
 try rw [q0]
 try rw [q1]
 try rw [q2]
 try rw [q3]
 repeat' (first|apply zaa ?_|apply zab ?_|apply zaz ?_|apply zae ?_|apply zbi ?_|(first|apply Uc (c:=v1) (h:=?_)|apply Uc (c:=v2) (h:=?_))|refine jai ?_|refine jaj ?_|refine jah ?_|refine jac ?_|refine jav 4 (fun _=>false) [0,1,2,3,4,5,7,8,9,10,-7,-12,12,13] ?_|exact Qaa|fail)
 clear v1 v2;apply jbe [1,2,3,7,8,9,11,13,14,15] [3,54,59,80] rfl;exact Kh;exact Ybf;refine jbf [1,2,3,7,9,11,13,14] [3,54,59,80] (fun t=>[(15,iN t),(8,iZ (accT A t))]) (fun _=>[]) (fun t=>t<=4) (fun t=>4 - t) (0) ?_ Kg Kv ?_
 ·omega
 intro t ht;have Aat:=Aa t ht;by_cases ht2:t < 4
 ·have Ast:=As t;have Bat:=fun d=>Ba t d ht2;have Bst:=Bs t;have Cat:=fun d u=>fun hd=>Ca t d u ht2 hd;have Cst:=Cs t;have B0t:=B0 t;have C0t:=C0 t;clear Aa As Ba Bs Ca Cs B0 C0;generalize B t=Bt at *;generalize C t=Ct at *;generalize accT A t=S0 at *;obtain ⟨a,wa⟩:∃ a,t / 2=a:=⟨_,rfl⟩;obtain ⟨c,wc⟩:∃ c,t%2=c:=⟨_,rfl⟩;rw [wa,wc] at Cst;have ha:a < 2:=by omega
  have hc0:c < 2:=by omega
  have r1:(t:Int) / 2=(a:Int):=by omega
  have r2:(t:Int)%2=(c:Int):=by omega
  have nt:=w1 t ht2;rw [show (t:Int)=((2*a+c:Nat):Int) by omega] at nt;repeat' (first|apply zaa ?_|apply zab ?_|apply zac ?_|refine jai ?_|refine jaj ?_|refine jah ?_|refine jaq rfl ?_|refine jam ?_|refine jac ?_|refine jbd rfl (fun hc=>?_) (fun hc=>?_)|exact Qaa|fail)
  apply jbe [1,2,3,7,8,9,11,13,14,15,16] [3,54,59,80] rfl;exact Kh;exact Ybf;refine jbf [1,2,3,7,9,11,13,14,15] [3,54,59,80] (fun d=>[(16,iN d),(8,iZ (S0+accT Bt d))]) (fun _=>[]) (fun d=>d<=2) (fun d=>2 - d) (0) ?_ Ybj Kv ?_
  ·omega
  intro d hd;have Bad:=Bat d hd;by_cases hd2:d < 2
  ·have Bsd:=Bst d;have Cad:=fun u=>Cat d u hd2;have Csd:=Cst d;have C0d:=C0t d;clear Bat Bst Cat Cst C0t;generalize Ct d=Cd at *;generalize accT Bt d=S2 at *;have o1:=w2 (2*d) Kf;have o2:=w2 (2*d+1) Kf;have hm:=jeo k2 ha;have hn0:=jeo k0 hd2;obtain ⟨m0,hm0⟩:∃ m0,b2^^^a=m0:=⟨_,rfl⟩;obtain ⟨n0,hn1⟩:∃ n0,b0^^^d=n0:=⟨_,rfl⟩;have km:bits .xor .i64 (b2:Int) ((t:Int) / 2)=(m0:Int):=by rw [r1,jer k2 ha,hm0]
   have kn:bits .xor .i64 (b0:Int) (d:Int)=(n0:Int):=by rw [jer k0 hd2,hn1]
   rw [hm0] at hm;rw [hn1] at hn0;obtain ⟨v3,l3,w3⟩:=rv (m0^^^n0) 1 (jeo hm hn0) Kf;rw [<- jer hm hn0] at v3;have ctd:=fun e f=>ct a c d e f;rw [hm0,hn1] at ctd;clear ct rv;generalize hr3:atZ ll ((2*(m0^^^n0)+1:Nat):Int)=R3 at *;have gs:∀ x y:Nat,(if 1=1 then x else y)=x:=fun x y=>if_pos rfl;rw [gs] at ctd;repeat' (first|apply zaa ?_|apply zab ?_|apply zco ?_|apply zad ?_|apply zbi ?_|apply zac ?_|refine jai ?_|refine jaj ?_|refine jah ?_|refine jaz ?_|refine jaq rfl ?_|refine jam ?_|refine jac (id:=9) ?_|refine jac (id:=11) ?_|refine jac (id:=7) ?_|refine jbd rfl (fun hc=>?_) (fun hc=>?_)|exact Qaa|fail)
   rw [km, kn];repeat' (first|apply zaa ?_|apply zab ?_|apply zae ?_|apply zbi ?_|apply zai ?_|apply Uc (c:=v3) (h:=?_)|refine jai ?_|refine jaj ?_|refine jah ?_|refine jac ?_|refine jbg rfl ?_|exact Qaa|fail)
   apply jbe [1,2,3,7,8,9,11,13,14,15,16,19,20,21] [3,54,59,80] rfl;exact Kh;exact Ybf;refine jbf [1,2,3,7,9,11,13,14,15,16,19,20] [3,54,59,80] (fun u=>[(21,iN u),(8,iZ (S0+S2+accT Cd u))]) (fun _=>[]) (fun u=>u<=4) (fun u=>4 - u) (0) ?_ Ybj Kv ?_
   ·omega
   intro u hu;have Cau:=Cad u hu;by_cases hu2:u < 4
   ·have Csu:=Csd u;clear Cad Csd;generalize accT Cd u=S4 at *;obtain ⟨e,we⟩:∃ e,u / 2=e:=⟨_,rfl⟩;obtain ⟨f,wf⟩:∃ f,u%2=f:=⟨_,rfl⟩;have he:e < 2:=by omega
    have hf:f < 2:=by omega
    have r3:(u:Int) / 2=(e:Int):=by omega
    have r4:(u:Int)%2=(f:Int):=by omega
    rw [we,wf,ctd e f] at Csu;have tp:=w3 u hu2;have key:bits .xor .i64 (bits .xor .i64 (bits .xor .i64 (n0:Int) ((u:Int) / 2)) ((u:Int)%2)) ((t:Int)%2)=((n0^^^e^^^f^^^c:Nat):Int):=by
     rw [r2,r3,r4,jer hn0 he,jer (jeo hn0 he) hf,jer (jeo (jeo hn0 he) hf) hc0]
    have eu:((2*e+f:Nat):Int)=(u:Int):=by omega
    have et:((2*a+c:Nat):Int)=(t:Int):=by omega
    have ed:((2*d:Nat):Int)=2*(d:Int):=by omega
    have ed1:((2*d+1:Nat):Int)=2*(d:Int)+1:=by omega
    rw [eu,et,ed,ed1] at Csu;have e5:S0+S2+accT Cd (u+1)=S0+S2+S4+(if n0^^^e^^^f^^^c=b3 then atZ R1 (t:Int)*(atZ R2 (2*(d:Int))+atZ R2 (2*(d:Int)+1))*atZ R3 (u:Int) else 0):=by rw [Csu,Int.add_assoc (S0+S2)]
    clear Csu;rw [et] at nt;rw [ed] at o1;rw [ed1] at o2;clear ctd w1 w2 w3;have os:atZ R2 (2*(d:Int))+atZ R2 (2*(d:Int)+1)<=100:=Dbk
    have mb:=jhp (a:=atZ R1 (t:Int)) (b:=atZ R2 (2*(d:Int))+atZ R2 (2*(d:Int)+1)) (c:=atZ R3 (u:Int)) ⟨nt.1,by omega⟩ ⟨by omega,os⟩ ⟨tp.1,by omega⟩;by_cases hq:n0^^^e^^^f^^^c=b3
    ·exact Dab
    ·exact Daa
   ·exact Dad
  ·exact Dag
 ·exact Dan
theorem l9Right_p (n:Int) (ll:List (List Int)) (h:boxB 2 2 n ll=true) (hn:n<=100) (k i:Nat) (hk:k < 16) (hi:i < 4):PC Tryz.prog 168 [.g [dI 2,dI 2,dI n,eII ll],.c (dI k),.c (dI i)] (.p (.c (dI (chainR ll n k i)))):=by
 rcases (by omega:i=0∨i=1∨i=2∨i=3) with rfl|rfl|rfl|rfl
 ·exact spchain0_p n ll h hn k hk
 ·exact spchain1_p n ll h hn k hk
 ·exact spchain2_p n ll h hn k hk
 ·exact spchain3_p n ll h hn k hk
theorem l9Chained_p (X Y:Nat) (n:Int) (ll:List (List Int)) (h:boxB X Y n ll=true):PC Tryz.prog 167 [.g [dI X,dI Y,dI n,eII ll]] (.p (.c (dB ((quietG ll X Y&&decide (X=2/\Y=2))&&decide (n<=100))))):=by
 have t:=l9Two_p X Y n ll h;have q:=l2QuietG_p X Y n ll h;generalize quietG ll X Y=Q at *;generalize decide (X=2/\Y=2)=W at *;cases Q <;> cases W
 all_goals
  refine jao Tryz.func167 fun _=>?_;repeat' (first|refine Wbh ?_|refine Wbi ?_|refine jac ?_|refine Maa ?_|refine Wba ?_|apply Ub (c:=t) (h:=?_)|apply Ub (c:=q) (h:=?_)|exact Qac|fail)
  all_goals refine Rad ?_
  all_goals simp
theorem spChainLeast_p (n:Int) (ll:List (List Int)) (h:boxB 2 2 n ll=true) (hq:quietG ll 2 2=true) (hn:n<=100):PC Tryz.prog 117 [.g [dI 2,dI 2,dI n,eII ll]] (.t [.c (dI (chainI ll n)),.c (dB true)]):=by
 have ic:=l9Chained_p 2 2 n ll h;rw [hq,decide_eq_true (show (2:Nat)=2/\(2:Nat)=2 from ⟨rfl,rfl⟩),decide_eq_true hn] at ic;have cp:=fun k i hk hi=>l9Right_p n ll h hn k i hk hi;have cj:∀ k i,i < 4->chainR ll n k i=chainJ ll n (4*k+i):=fun k i hi=>by
  unfold chainJ;rw [show (4*k+i) / 4=k by omega,show (4*k+i)%4=i by omega]
 have c0:=cp 0 0 Kf Kf;rw [cj 0 0 Kf,show ((0:Nat):Int)=0 from rfl] at c0;have ls:∀ j,leastN (chainJ ll n 0) (chainJ ll n) (j+1)=min (leastN (chainJ ll n 0) (chainJ ll n) j) (chainJ ll n j):=fun j=>rfl;have l0:leastN (chainJ ll n 0) (chainJ ll n) 0=chainJ ll n 0:=rfl;have fin:chainI ll n=leastN (chainJ ll n 0) (chainJ ll n) 64:=rfl;rw [fin];generalize leastN (chainJ ll n 0) (chainJ ll n)=F at *;refine jao Tryz.func117 fun _=>?_;repeat' (first|refine jac ?_|refine Maa ?_|refine Wba ?_|apply Ub (c:=ic) (h:=?_)|apply Ub (c:=c0) (h:=?_)|exact Qac|fail)
 apply jbe [1,4,5] [1] rfl;exact Kh;exact Ybi;refine jbf [1] [1] (fun k=>[(5,iN k),(4,iZ (F (4*k)))]) (fun _=>[]) (fun k=>k<=16) (fun k=>16 - k) (0) ?_ (by (repeat(first|exact trivial|refine ⟨(by (first|rfl|(refine jcd rfl ?_;((simp  [l0];done))))),?_⟩))) Kv ?_
 ·omega
 intro k hk;by_cases hk2:k < 16
 ·repeat' (first|refine jac ?_|refine Maa ?_|refine jbd rfl (fun hc=>?_) (fun hc=>?_)|exact Qaa|fail)
  apply jbe [1,4,5,6] [1] rfl;exact Kh;exact Ybi;refine jbf [1,5] [1] (fun i=>[(6,iN i),(4,iZ (F (4*k+i)))]) (fun _=>[]) (fun i=>i<=4) (fun i=>4 - i) (0) ?_ Kg Kv ?_
  ·omega
  intro i hi;by_cases hi2:i < 4
  ·have c:=cp k i hk2 hi2;rw [cj k i hi2] at c;have lsi:=ls (4*k+i);rw [Nat.add_assoc] at lsi;clear cp cj ls;generalize chainJ ll n (4*k+i)=z at *;repeat' (first|refine jac ?_|refine Maa ?_|apply Ub (c:=c) (h:=?_)|apply Ub (c:=l1Least_p _ _) (h:=?_)|refine jbd rfl (fun hc=>?_) (fun hc=>?_)|exact Qaa|fail)
   refine bkL (i+1) ?_ ?_
   ·omega
   ·omega
  ·obtain rfl:i=4:=by omega
   repeat' (first|refine jac ?_|refine Maa ?_|exact Qaa|fail)
   refine bkL (k+1) ?_ ?_
   ·omega
   ·omega
 ·obtain rfl:k=16:=by omega
  repeat' (first|refine jac ?_|refine Maa ?_|exact Qaa|exact Rbl|fail)
theorem jmr (X Y:Nat) (n:Int) (ll:List (List Int)) (h:boxB X Y n ll=true) (hc:((quietG ll X Y&&decide (X=2/\Y=2))&&decide (n<=100))=false):PC Tryz.prog 117 [.g [dI X,dI Y,dI n,eII ll]] (.t [.c (dI 0),.c (dB false)]):=by
 have ic:=l9Chained_p X Y n ll h;rw [hc] at ic;refine jao Tryz.func117 fun _=>?_;repeat' (first|refine jac ?_|refine Maa ?_|refine Wba ?_|apply Ub (c:=ic) (h:=?_)|exact Qac|exact Rbl|fail)
end
end Go.Proofs.YtbhbkbnlpackdaaGreatDoor
