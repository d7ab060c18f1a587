/- What the functions that FnExactRunScript and FnExactReplayLog and FnExactExecuteCommand reaches return: part of its proof. No condition beyond those of its theorems. -/
import Derived.Test.YtbhbkbnlpackdaaGreatDoorKfnsB
import Derived.Test.YtbhbkbnlpackdaaGreatDoorKplainC
import Derived.Test.YtbhbkbnlpackdaaGreatDoorKfnsD
import Derived.Test.YtbhbkbnlpackdaaGreatDoorKfnsC
import Derived.Test.YtbhbkbnlpackdaaGreatDoorKfnsA
import Derived.Test.YtbhbkbnlpackdaaGreatDoorKfnsG
import Derived.Test.YtbhbkbnlpackdaaGreatDoorKfnsF
import Derived.Test.YtbhbkbnlpackdaaGreatDoorKplainA
import Derived.Test.YtbhbkbnlpackdaaGreatDoorKplainB
import Derived.Test.YtbhbkbnlpackdaaGreatDoorKfnsE
import Derived.Test.YtbhbkbnlpackdaaGreatDoorKfnsI
import Derived.Test.YtbhbkbnlpackdaaGreatDoorKfnsH
set_option linter.unusedSectionVars false
set_option maxRecDepth 10000
set_option maxHeartbeats 4000000
set_option linter.unusedVariables false
set_option linter.unusedSimpArgs false
namespace Go.Proofs.YtbhbkbnlpackdaaGreatDoor
open Go.RowKit
section
variable [Glb]
def coG (ll:List (List Int)) (X Y j:Nat):Int:=if j < X then onG ll Y 0 j 0 else onG ll Y 1 (j - X) 0
def coL (ll:List (List Int)) (X Y:Nat):List Int:=rowF (coG ll X Y) (X+Y)
theorem counts_p (X Y:Nat) (n:Int) (ll:List (List Int)) (h:boxB X Y n ll=true):PC Tryz.prog 310 [.g [dI X,dI Y,dI n,eII ll]] (.p (.c (eI (coL ll X Y)))):=by
 have b:=jbo h;have x1:=b.x1;have x3:=b.x3;have y1:=b.y1;have y3:=b.y3;clear b;have op:=onesG_p X Y n ll h;refine jao Tryz.func310 fun _=>?_;repeat' (first|refine jac ?_|refine Maa ?_|refine Wba ?_|refine Wbq ?_|refine Wcc ?_|refine Wcd ?_|apply Ub (c:=questions_p _ _ _ _) (h:=?_))
 apply jbe [1,3,4,10] [1,4,7,24,25] rfl;exact Kk;exact Ybe;refine jbf [1,4] [1,4,24,25] (fun (g:Nat×Nat)=>[(10,iN g.1),(3,.c (.ls 7 1 0 g.2))]) (fun g=>[(7,.row 1 (cI (rowF (coG ll X Y) g.2)))]) (fun g=>g.1<=2/\g.2=(if g.1=0 then 0 else if g.1=1 then X else X+Y)) (fun g=>2 - g.1) ((0,0)) ?_ Kg Kg ?_
 ·exact ⟨by simp,rfl⟩
 rintro ⟨w,t⟩ ⟨hw,ht⟩;dsimp only at hw ht ⊢;rcases (by omega:w=0∨w=1∨w=2) with rfl|rfl|rfl
 ·simp only [if_true] at ht;subst ht;repeat' (first|refine jac ?_|refine Maa ?_|apply zbp ?_|exact Qaa|fail)
  apply jbe [1,3,4,5,10,15,16] [1,4,7,24,25] rfl;exact Kk;exact Ybe;refine jbf [1,4,5,10,15] [1,4,24,25] (fun (q:Nat)=>[(16,iN q),(3,.c (.ls 7 1 0 q))]) (fun q=>[(7,.row 1 (cI (rowF (coG ll X Y) q)))]) (fun q=>q<=X) (fun q=>X - q) (0) ?_ Kg Kt ?_
  ·omega
  intro q hq;by_cases hq2:q < X
  ·have o:=op 0 q 0 Kf (by simp [szG];omega) (by simp [szG];omega);have e:onG ll Y 0 q 0=coG ll X Y q:=by simp [coG,hq2]
   rw [e] at o;repeat' (first|refine jac ?_|refine Maa ?_|refine Wbr ?_|refine Wbs ?_|apply Ub (c:=o) (h:=?_)|refine jbd rfl (fun hc=>?_) (fun hc=>?_)|exact Qaa|fail)
   refine bkL (q+1) ?_ ?_ (hB:=(by (repeat(first|exact trivial|refine ⟨(by ((refine jbs rfl ?_;simp  [jdz];done))),?_⟩))))
   ·omega
   ·omega
  ·repeat' (first|refine jac ?_|refine Maa ?_|refine jbd rfl (fun hc=>?_) (fun hc=>?_)|exact Qaa|fail)
   refine bkL (1,q) ?_ ?_
   ·exact ⟨by simp,by simp;omega⟩
   ·simp
 ·simp only [Nat.one_ne_zero,if_false,if_true] at ht;repeat' (first|refine jac ?_|refine Maa ?_|apply zbp ?_|exact Qaa|fail)
  apply jbe [1,3,4,5,10,15,16] [1,4,7,24,25] rfl;exact Kk;exact Ybe;refine jbf [1,4,5,10,15] [1,4,24,25] (fun (q:Nat)=>[(16,iN q),(3,.c (.ls 7 1 0 (X+q)))]) (fun q=>[(7,.row 1 (cI (rowF (coG ll X Y) (X+q))))]) (fun q=>q<=Y) (fun q=>Y - q) (0) ?_ (by (repeat(first|exact trivial|refine ⟨(by (first|rfl|(refine jks rfl ?_;(omega)))),?_⟩))) (by (repeat(first|exact trivial|refine ⟨(by ((refine jbs rfl ?_;simp  [ht];done))),?_⟩))) ?_
  ·omega
  intro q hq;by_cases hq2:q < Y
  ·have o:=op 1 q 0 Kf (by simp [szG];omega) (by simp [szG];omega);have e:onG ll Y 1 q 0=coG ll X Y (X+q):=by unfold coG;rw [if_neg Kf,Nat.add_sub_cancel_left]
   rw [e] at o;repeat' (first|refine jac ?_|refine Maa ?_|refine Wbr ?_|refine Wbs ?_|apply Ub (c:=o) (h:=?_)|refine jbd rfl (fun hc=>?_) (fun hc=>?_)|exact Qaa|fail)
   refine bkL (q+1) ?_ ?_ (hB:=(by (repeat(first|exact trivial|refine ⟨(by ((refine jbs rfl ?_;simp  [jdz,<- Nat.add_assoc];done))),?_⟩))))
   ·omega
   ·omega
  ·repeat' (first|refine jac ?_|refine Maa ?_|refine jbd rfl (fun hc=>?_) (fun hc=>?_)|exact Qaa|fail)
   refine bkL (2,X+q) ?_ ?_
   ·exact ⟨by simp,by simp;omega⟩
   ·simp
 ·rw [if_neg Kf,if_neg Kf] at ht;subst ht;repeat' (first|refine jac ?_|refine Maa ?_|exact Qaa|fail)
  all_goals refine Raa ?_
  all_goals simp [coL]
theorem triple1_p (n:Int) (ll:List (List Int)) (h:boxB 3 3 n ll=true) (i k:Nat) (hi:i < 3) (hk:k < 3):PC Tryz.prog 309 [.c (dI i),.c (dI k),.c (.pt [dI 3,dI 3,dI n,eII ll])] (.p (.c (dI (atB ll 3 i k 3)))):=by
 have a:=at_p 3 3 n ll h i k 1 1 Kf Kf Kf Kf Kf Kf Kf Kf;simp only [Int.reduceMul,Int.reduceAdd] at a;refine jao Tryz.func309 fun _=>?_;repeat' (first|apply zdu ?_|refine jac ?_|refine Maa ?_|apply Ub (c:=a) (h:=?_))
 all_goals refine Rad ?_
 all_goals rfl
theorem triple_p (n:Int) (ll:List (List Int)) (h:boxB 3 3 n ll=true):PC Tryz.prog 290 [.g [dI 3,dI 3,dI n,eII ll]] (.p (.c (dI (tripI ll)))):=by
 have n2:=(jbo h).n2;have cp:=counts_p 3 3 n ll h;have bd:∀ i k:Nat,i < 3->k < 3->0<=atB ll 3 i k 3/\atB ll 3 i k 3<=n:=fun i k hi hk=>by
  obtain ⟨b,-⟩:=jfq h hi hk;exact b 3 Kf
 have t00:=triple1_p n ll h 0 0 Kf Kf;have b00:=bd 0 0 Kf Kf;have t01:=triple1_p n ll h 0 1 Kf Kf;have b01:=bd 0 1 Kf Kf;have t02:=triple1_p n ll h 0 2 Kf Kf;have b02:=bd 0 2 Kf Kf;have t10:=triple1_p n ll h 1 0 Kf Kf;have b10:=bd 1 0 Kf Kf;have t11:=triple1_p n ll h 1 1 Kf Kf;have b11:=bd 1 1 Kf Kf;have t12:=triple1_p n ll h 1 2 Kf Kf;have b12:=bd 1 2 Kf Kf;have t20:=triple1_p n ll h 2 0 Kf Kf;have b20:=bd 2 0 Kf Kf;have t21:=triple1_p n ll h 2 1 Kf Kf;have b21:=bd 2 1 Kf Kf;have o0:=onG_bd h (w:=0) (q:=0) (j:=0) Kf (by simp [szG]) (by simp [szG]);have o3:=onG_bd h (w:=1) (q:=0) (j:=0) Kf (by simp [szG]) (by simp [szG]);have o4:=onG_bd h (w:=1) (q:=1) (j:=0) Kf (by simp [szG]) (by simp [szG]);have cl:(coL ll 3 3).length=6:=by simp [coL]
 have c0:atZ (coL ll 3 3) 0=onG ll 3 0 0 0:=rfl;have c3:atZ (coL ll 3 3) 3=onG ll 3 1 0 0:=rfl;have c4:atZ (coL ll 3 3) 4=onG ll 3 1 1 0:=rfl;have tr:tripI ll=atB ll 3 (0:Nat) (0:Nat) 3+atB ll 3 (0:Nat) (1:Nat) 3+atB ll 3 (0:Nat) (2:Nat) 3+atB ll 3 (1:Nat) (0:Nat) 3+atB ll 3 (1:Nat) (1:Nat) 3 - atB ll 3 (1:Nat) (2:Nat) 3+atB ll 3 (2:Nat) (0:Nat) 3 - atB ll 3 (2:Nat) (1:Nat) 3 - onG ll 3 0 0 0 - 2*onG ll 3 1 0 0 - onG ll 3 1 1 0:=rfl;rw [<- c0] at o0 tr;rw [<- c3] at o3 tr;rw [<- c4] at o4 tr;rw [tr];clear tr c0 c3 c4 bd;generalize coL ll 3 3=C at *;generalize atB ll 3 (0:Nat) (0:Nat) 3=v00 at *;generalize atB ll 3 (0:Nat) (1:Nat) 3=v01 at *;generalize atB ll 3 (0:Nat) (2:Nat) 3=v02 at *;generalize atB ll 3 (1:Nat) (0:Nat) 3=v10 at *;generalize atB ll 3 (1:Nat) (1:Nat) 3=v11 at *;generalize atB ll 3 (1:Nat) (2:Nat) 3=v12 at *;generalize atB ll 3 (2:Nat) (0:Nat) 3=v20 at *;generalize atB ll 3 (2:Nat) (1:Nat) 3=v21 at *;refine jao Tryz.func290 fun _=>?_;repeat' (first|refine jac ?_|refine jav 3 (fun _=>false) [0,2,5,8,11,14,17,20,23,24,25,27,28,29,30,32,33,34,-2,-4,4,-7,7,-10,10,-13,13,-16,16,-19,19,-22,22,26,31,35,36] ?_|refine Maa ?_|refine Wba ?_|(refine jaa (.makeFunc _ _ _) ?_;(apply jab;exact Yas;(·rfl)))|(refine jaa (.call ⟨.value (.tmp 8),_,_⟩) ?_;((apply jhb;exact Yaf;exact Yav;(·exact t00);(·rfl))))|(refine jaa (.call ⟨.value (.tmp 10),_,_⟩) ?_;((apply jhb;exact Yaf;exact Yav;(·exact t01);(·rfl))))|(refine jaa (.call ⟨.value (.tmp 13),_,_⟩) ?_;((apply jhb;exact Yaf;exact Yav;(·exact t02);(·rfl))))|(refine jaa (.call ⟨.value (.tmp 16),_,_⟩) ?_;((apply jhb;exact Yaf;exact Yav;(·exact t10);(·rfl))))|(refine jaa (.call ⟨.value (.tmp 19),_,_⟩) ?_;((apply jhb;exact Yaf;exact Yav;(·exact t11);(·rfl))))|(refine jaa (.call ⟨.value (.tmp 22),_,_⟩) ?_;((apply jhb;exact Yaf;exact Yav;(·exact t12);(·rfl))))|(refine jaa (.call ⟨.value (.tmp 25),_,_⟩) ?_;((apply jhb;exact Yaf;exact Yav;(·exact t20);(·rfl))))|(refine jaa (.call ⟨.value (.tmp 28),_,_⟩) ?_;((apply jhb;exact Yaf;exact Yav;(·exact t21);(·rfl))))|apply Ub (c:=cp) (h:=?_))
 all_goals refine Rad ?_
 all_goals rfl
structure Ord3 (f : List Int) : Prop where
 len:f.length=3
 bd:∀ i:Nat,i < 3->0<=atZ f (i:Int)/\atZ f (i:Int) < 3
theorem ord3 {a:Nat} (h:a < 6):Ord3 (atZ orderL (a:Int)):=by
 have key:∀ a:Nat,a < 6->(atZ orderL (a:Int)).length=3 /\ ∀ i:Nat,i < 3->0<=atZ (atZ orderL (a:Int)) (i:Int)/\atZ (atZ orderL (a:Int)) (i:Int) < 3:=by decide +kernel
 exact ⟨(key a h).1,(key a h).2⟩
theorem again1_p (n:Int) (ll:List (List Int)) (f s:List Int) (hb:boxB 3 3 n ll=true) (hf:Ord3 f) (hs:Ord3 s) (i k p:Nat) (hi:i < 3) (hk:k < 3) (hp:p < 4) :
  PC Tryz.prog 311 [.c (dI i),.c (dI k),.c (dI ((p / 2:Nat):Int)),.c (dI ((p%2:Nat):Int)),.c (.pt [dI 3,dI 3,dI n,eII ll]),.c (.pt [eI f]),.c (.pt [eI s])] (.p (.c (dI (askdF ll f s i k p)))):=by
 have lf:=hf.len;have ls:=hs.len;have bf:=hf.bd i hi;have bs:=hs.bd k hk;have pa:=at_p 3 3 n ll hb (atZ f (i:Int)) (atZ s (k:Int)) ((p / 2:Nat):Int) ((p%2:Nat):Int) Kf Kf Kf Kf Kf Kf Kf Kf;have e:2*((p / 2:Nat):Int)+((p%2:Nat):Int)=(p:Int):=by omega
 rw [e] at pa;obtain ⟨a,ha'⟩:∃ a,a=((p / 2:Nat):Int):=⟨_,rfl⟩;obtain ⟨c,hc'⟩:∃ c,c=((p%2:Nat):Int):=⟨_,rfl⟩;rw [<- ha',<- hc'] at pa ⊢;clear e;unfold askdF;refine jao Tryz.func311 fun _=>?_;repeat' (first|apply zdu ?_|refine jac ?_|refine jav 1 (fun _=>false) [0,1,2,3,4,5,6,7,8,9,10,-12,12] ?_|refine Maa ?_|apply Ub (c:=pa) (h:=?_))
 all_goals refine Rad ?_
 all_goals rfl
theorem again_p (n:Int) (ll:List (List Int)) (f s:List Int) (hb:boxB 3 3 n ll=true) (hf:Ord3 f) (hs:Ord3 s):PC Tryz.prog 291 [.g [dI 3,dI 3,dI n,eII ll],.c (eI f),.c (eI s)] (.p (.g [dI 3,dI 3,dI n,eII (askdL ll f s)])):=by
 have lf:=hf.len;have ls:=hs.len;have nb:=newBox_p f.length s.length n 311 [.pt [dI 3,dI 3,dI n,eII ll],.pt [eI f],.pt [eI s]] (askdF ll f s) Kf Kf (fun i k p hi hk hp=>again1_p n ll f s hb hf hs i k p Kf Kf hp);refine jao Tryz.func291 fun _=>?_;repeat' (first|refine jac ?_|refine Maa ?_|refine Wba ?_|(refine jaa (.box 25 _) ?_;refine jax rfl rfl ?_)|refine Wah ?_|(refine jaa (.makeFunc _ _ _) ?_;(apply jab;exact Yas;(·rfl)))|refine Wag ?_|apply Ua (c:=nb) (h:=?_))
 all_goals refine Rab ?_
 all_goals simp [askdL,lf,ls]
theorem askd_box {n:Int} {ll:List (List Int)} {f s:List Int} (hb:boxB 3 3 n ll=true) (hf:Ord3 f) (hs:Ord3 s):boxB 3 3 n (askdL ll f s)=true:=by
 have b:=jbo hb;have a5:=b.n1;have a6:=b.n2;have R:=jly (x:=3) (y:=3) (n:=n) (f:=askdF ll f s) Kf Kf Kf Kf (fun i k hi hk=>by
  have bf:=hf.bd i hi;have bs:=hs.bd k hk;obtain ⟨u,hu⟩:=Int.eq_ofNat_of_zero_le bf.1;obtain ⟨v,hv⟩:=Int.eq_ofNat_of_zero_le bs.1;obtain ⟨b7,b8⟩:=jfq (x:=3) (y:=3) hb (i:=u) (k:=v) Kf Kf;unfold askdF;rw [hu, hv];exact ⟨fun p hp=>(b7 p hp).1,b8⟩)
 unfold askdL;rw [decide_eq_true a6] at R;exact R
theorem swap_box3 {n:Int} {ll:List (List Int)} (hb:boxB 3 3 n ll=true):boxB 3 3 n (swapL ll 3 3)=true:=by
 have b:=jbo hb;have a5:=b.n1;have a6:=b.n2;have R:=jly (x:=3) (y:=3) (n:=n) (f:=swapF ll 3) Kf Kf Kf Kf (fun i k hi hk=>by
  obtain ⟨b7,b8⟩:=jfq (x:=3) (y:=3) hb (i:=k) (k:=i) Kf Kf;unfold swapF;refine ⟨fun p hp=>(b7 (2*(p%2)+p / 2) Kf).1,?_⟩;have e:∀ p:Nat,p < 4->2*(p%2)+p / 2 < 4:=by decide
  show atB ll 3 k i ((0:Nat):Int)+atB ll 3 k i ((2:Nat):Int)+atB ll 3 k i ((1:Nat):Int)+atB ll 3 k i ((3:Nat):Int)=n;have this:=b8;simp only [Int.natCast_zero,Int.natCast_one,Int.cast_ofNat_Int] at this ⊢;omega)
 unfold swapL;rw [decide_eq_true a6] at R;exact R
theorem start_box {n:Int} {ll:List (List Int)} (hb:boxB 3 3 n ll=true) (i:Nat):boxB 3 3 n (startL ll i)=true:=by
 unfold startL;split
 ·exact hb
 ·exact swap_box3 hb
theorem becL_box {n:Int} {ll:List (List Int)} (hb:boxB 3 3 n ll=true) (i:Nat) {a b:Nat} (ha:a < 6) (hb2:b < 6):boxB 3 3 n (becL ll i a b)=true :=
 askd_box (start_box hb i) (ord3 ha) (ord3 hb2)
theorem trip_bd {n:Int} {ll:List (List Int)} (hb:boxB 3 3 n ll=true) : -(10*n)<=tripI ll/\tripI ll<=10*n:=by
 have bd:∀ i k:Nat,i < 3->k < 3->(∀ p:Nat,p < 4->0<=atB ll 3 i k p/\atB ll 3 i k p<=n)/\atB ll 3 i k ((0:Nat):Int)+atB ll 3 i k ((1:Nat):Int)+atB ll 3 i k ((2:Nat):Int)+atB ll 3 i k ((3:Nat):Int)=n:=fun i k hi hk=>jfq (x:=3) (y:=3) hb hi hk;obtain ⟨p00,s00⟩:=bd 0 0 Kf Kf;obtain ⟨p01,s01⟩:=bd 0 1 Kf Kf;have a:=(bd 0 2 Kf Kf).1 3 Kf;have b:=(bd 1 0 Kf Kf).1 3 Kf;have c:=(bd 1 1 Kf Kf).1 3 Kf;have d:=(bd 1 2 Kf Kf).1 3 Kf;have e:=(bd 2 0 Kf Kf).1 3 Kf;have f:=(bd 2 1 Kf Kf).1 3 Kf;have q0:=p00 0 Kf;have q1:=p00 1 Kf;have q2:=p00 2 Kf;have q3:=p00 3 Kf;have r0:=p01 0 Kf;have r1:=p01 1 Kf;have r2:=p01 2 Kf;have r3:=p01 3 Kf;simp only [Int.natCast_zero,Int.natCast_one,Int.cast_ofNat_Int] at *;unfold tripI;omega
theorem Vak {G G':Prop} (h:G') (t:Laa G'->G:=by intro h;first|(first|exact Wbh h.o|exact Wbi h.o|exact jac h.o|exact Maa h.o|exact Wba h.o|fail);done|fail):G:=t ⟨h⟩
theorem isTriple_p (X Y:Nat) (n:Int) (ll:List (List Int)) (h:boxB X Y n ll=true):PC Tryz.prog 253 [.g [dI X,dI Y,dI n,eII ll]] (.p (.c (dB (quietG ll X Y&&decide (X=3/\Y=3))))):=by
 have q:=isQuietG_p X Y n ll h;generalize quietG ll X Y=Q at *;have ex:decide ((X:Int)=3)=decide (X=3):=decide_eq_decide.2 ⟨fun h=>by omega,fun h=>by omega⟩;have ey:decide ((Y:Int)=3)=decide (Y=3):=decide_eq_decide.2 ⟨fun h=>by omega,fun h=>by omega⟩;cases Q with
 | false =>
  refine jao Tryz.func253 fun _=>?_;repeat' (first|refine Vak ?_|apply Ub (c:=q) (h:=?_)|exact Qac|exact Rav|fail)
 | true =>
  by_cases hx:(X:Int)=3
  ·by_cases hy:(Y:Int)=3
   ·have e:(true&&decide (X=3/\Y=3))=true:=by simp;omega
    rw [e];refine jao Tryz.func253 fun _=>?_;repeat' (first|refine Vak ?_|apply Ub (c:=q) (h:=?_)|refine jcc rfl rfl (fun hg=>?_) (fun hg=>?_)|exact Qab|fail)
    all_goals refine Rad ?_
    all_goals simp [hx,hy]
   ·have e:(true&&decide (X=3/\Y=3))=false:=by simp;omega
    rw [e];refine jao Tryz.func253 fun _=>?_;repeat' (first|refine Vak ?_|apply Ub (c:=q) (h:=?_)|refine jcc rfl rfl (fun hg=>?_) (fun hg=>?_)|exact Qab|fail)
    all_goals refine Rad ?_
    all_goals simp [hx,hy]
  ·have e:(true&&decide (X=3/\Y=3))=false:=by simp;omega
   rw [e];refine jao Tryz.func253 fun _=>?_;repeat' (first|refine Vak ?_|apply Ub (c:=q) (h:=?_)|refine jcc rfl rfl (fun hg=>?_) (fun hg=>?_)|exact Qab|fail)
   all_goals refine Rad ?_
   all_goals simp [hx]
theorem orders_row:(D.sl 1 6 [.sl 1 3 [dI 0,dI 1,dI 2],.sl 1 3 [dI 0,dI 2,dI 1],.sl 1 3 [dI 1,dI 0,dI 2],.sl 1 3 [dI 1,dI 2,dI 0],.sl 1 3 [dI 2,dI 0,dI 1],.sl 1 3 [dI 2,dI 1,dI 0]])=eII orderL:=rfl
theorem Val {G G':Prop} (h:G') (t:Laa G'->G:=by intro h;first|(first|exact Maa h.o|exact Wba h.o|exact Wci h.o|exact Wcj h.o|(refine jaa (.build 274 _) ?_;refine jab (jbt (cs:=[_,_,_,_,_,_,_,_]) [(0,4),(4,4)] [.int .i64 0,.int .i64 0,.int .i64 0,.slice none 0 0,.int .i64 0,.int .i64 0,.int .i64 0,.slice none 0 0] Kb Kb rfl) rfl ?_;exact h.o)|exact Wag h.o|apply zef h.o|exact Wah h.o|fail);done|fail):G:=t ⟨h⟩
set_option maxHeartbeats 4000000 in
theorem greatestTriple_p (n:Int) (ll:List (List Int)) (h:boxB 3 3 n ll=true):PC Tryz.prog 254 [.g [dI 3,dI 3,dI n,eII ll]] (.p (.c (dI (tripM ll)))):=by
 have tp:=triple_p n ll h;have sw:=swapped_p 3 3 n ll h;have hs:=fun i=>start_box h i;have hbc:=fun i a b ha hb=>becL_box h i (a:=a) (b:=b) ha hb;have ks:=fun i a b c=>tripK_succ ll (i:=i) (a:=a) (b:=b) (c:=c);have tm:tripM ll=tripK ll 4608:=rfl;have t0:tripK ll 0=tripI ll:=rfl;have s0:startL ll 0=ll:=rfl;have s1:startL ll 1=swapL ll 3 3:=rfl;have olen:orderL.length=6:=rfl;have hb0:∀ a b:Nat,becL ll 0 a b=askdL ll (atZ orderL (a:Int)) (atZ orderL (b:Int)):=fun _ _=>rfl;have hb1:∀ a b:Nat,becL ll 1 a b=askdL (swapL ll 3 3) (atZ orderL (a:Int)) (atZ orderL (b:Int)):=fun _ _=>rfl;have ho:∀ a:Nat,a < 6->Ord3 (atZ orderL (a:Int)):=fun a ha=>ord3 ha;have hsw:=hs 1;rw [s1] at hsw;have pp:=plays_p 3 3 Kf;have pl:(playsF (3+3)).length=64:=by simp
 have pa:∀ c:Nat,c < 64->atZ (playsF (3+3)) (c:Int)=bitsM 6 c:=fun c hc=>by rw [jby (by simpa using hc)];simp [playsF]
 have bv:∀ i a b c:Nat,becV ll i a b c=tripI (bflL (becL ll i a b) 3 3 (bitsM 6 c)):=fun _ _ _ _=>rfl;generalize playsF (3+3)=PL at *;refine jao Tryz.func254 fun _=>?_;repeat' (first|refine jac (id:=0) ?_|refine jac (id:=1) ?_|refine jac (id:=2) ?_|refine Val ?_|apply Ub (c:=tp) (h:=?_))
 refine jcy (sim_dem 20 1 rfl) ?_;refine jcy (jdy 3 (.c (.d (eII orderL))) rfl (by rw [<- orders_row];rfl)) ?_;generalize orderL=OL at *;repeat' (first|refine jav 3 (fun _=>false) [0,1,4,-3,3] ?_|refine Val ?_|apply Ub (c:=sw) (h:=?_))
 apply jbe [3,4,26,27] [1,6,11,14,15,16,17,18,19,20,46,3025,3045,3055] rfl;(·(repeat(first|exact Pf.nil|apply Pf.cons (.c rfl (.d rfl))|(apply Pf.cons;(·apply Nv.g rfl;(repeat(first|exact Ncs.nil rfl|(apply Ncs.cons rfl;(·(exact .d rfl))))))))));exact Ybf
 refine jbf [3,26] [1,14,15,16,17,18,19,20,3025,6,3045,11,46,3055] (fun (g:Nat×Int)=>[(27,iN g.1),(4,iZ g.2)]) (fun _=>[]) (fun g=>g.1<=2/\g.2=tripK ll (g.1*2304)) (fun g=>2 - g.1) ((0,tripI ll)) ?_ Kg Kv ?_
 ·exact ⟨by simp,by dsimp only;rw [Nat.zero_mul];exact t0.symm⟩
 rintro ⟨i,v⟩ ⟨hi,hv⟩;dsimp only at hi hv ⊢;rcases (by omega:i=0∨i=1∨i=2) with rfl|rfl|rfl
 ·have hB:boxB 3 3 n ll=true:=h;have hX:=fun a b ha hb=>hbc 0 a b ha hb;have hK:=fun a b c ha hb hc=>ks 0 a b c ha hb hc;have hV:=fun a b c=>bv 0 a b c;clear hbc ks bv s0 s1 hs;repeat' (first|(refine jaa (.index 274 _ _) ?_;((refine jab (jmy (n:=2) (m:=4) rfl rfl Kb Kf Kf Kb) rfl ?_)))|refine jac ?_|refine Val ?_|exact Qaa|fail)
  apply jbe [3,4,6,26,27,30,31,32] [1,6,11,14,15,16,17,18,19,20,46,3025,3045,3055] rfl;exact Kx;exact Ybf;refine jbf [3,6,26,27,30,31] [1,14,15,16,17,18,19,20,3025,6,3045,11,46,3055] (fun (g:Nat×Int)=>[(32,iN g.1),(4,iZ g.2)]) (fun _=>[]) (fun g=>g.1<=6/\g.2=tripK ll ((0*6+g.1)*384)) (fun g=>6 - g.1) ((0,v)) ?_ Kg Kv ?_
  ·exact ⟨by simp,by dsimp only;rw [hv]⟩
  clear hv;rintro ⟨a,v⟩ ⟨ha,hv⟩;dsimp only at ha hv ⊢;by_cases ha2:a < 6
  ·repeat' (first|refine jac ?_|refine Val ?_|refine jbd rfl (fun hc=>?_) (fun hc=>?_)|exact Qaa|fail)
   apply jbe [3,4,6,8,26,27,30,31,32,36,37,38] [1,6,11,14,15,16,17,18,19,20,46,3025,3045,3055] rfl;exact Kx;exact Ybf;refine jbf [3,6,8,26,27,30,31,32,36,37] [1,14,15,16,17,18,19,20,3025,6,3045,11,46,3055] (fun (g:Nat×Int)=>[(38,iN g.1),(4,iZ g.2)]) (fun _=>[]) (fun g=>g.1<=6/\g.2=tripK ll (((0*6+a)*6+g.1)*64)) (fun g=>6 - g.1) ((0,v)) ?_ Kg Kv ?_
   ·exact ⟨by simp,by dsimp only;rw [hv];congr 1;omega⟩
   clear hv;rintro ⟨b,v⟩ ⟨hb,hv⟩;dsimp only at hb hv ⊢;by_cases hb2:b < 6
   ·have ag:=again_p n ll (atZ OL (a:Int)) (atZ OL (b:Int)) hB (ho a ha2) (ho b hb2);rw [<- hb0 a b] at ag;have hX2:=hX a b ha2 hb2;have hK2:=fun c hc=>hK a b c ha2 hb2 hc;have hV2:=hV a b;clear hX hK hV;generalize becL ll 0 a b=BL at *;repeat' (first|refine jac ?_|refine Val ?_|apply Ub (c:=ag) (h:=?_)|apply Ub (c:=pp) (h:=?_)|refine jbd rfl (fun hc=>?_) (fun hc=>?_)|exact Qaa|fail)
    apply jbe [3,4,6,8,11,26,27,30,31,32,36,37,38,46,47,48] [1,6,11,14,15,16,17,18,19,20,46,3025,3045,3055] rfl;exact Kx;exact Ybf;refine jbf [3,6,8,11,26,27,30,31,32,36,37,38,46,47] [1,14,15,16,17,18,19,20,3025,6,3045,11,46,3055] (fun (g:Nat×Int)=>[(48,iN g.1),(4,iZ g.2)]) (fun _=>[]) (fun g=>g.1<=64/\g.2=tripK ll (((0*6+a)*6+b)*64+g.1)) (fun g=>64 - g.1) ((0,v)) ?_ Kg Kv ?_
    ·exact ⟨by simp,by dsimp only;rw [hv];congr 1⟩
    clear hv;rintro ⟨c,v⟩ ⟨hc2,hv⟩;dsimp only at hc2 hv ⊢;by_cases hc3:c < 64
    ·exact Daj
    ·exact Dbf
   ·exact Dbg
  ·repeat' (first|refine jac ?_|refine Val ?_|refine jbd rfl (fun hc=>?_) (fun hc=>?_)|exact Qaa|fail)
   refine bkL (0+1,v) ?_ ?_
   ·exact Daw
   ·dsimp only; omega
 ·have hB:boxB 3 3 n (swapL ll 3 3)=true:=hsw;have hX:=fun a b ha hb=>hbc 1 a b ha hb;have hK:=fun a b c ha hb hc=>ks 1 a b c ha hb hc;have hV:=fun a b c=>bv 1 a b c;clear hbc ks bv s0 s1 hs;repeat' (first|(refine jaa (.index 274 _ _) ?_;((refine jab (jmy (n:=2) (m:=4) rfl rfl Kb Kf Kf Kb) rfl ?_)))|refine jac ?_|refine Val ?_|exact Qaa|fail)
  apply jbe [3,4,6,26,27,30,31,32] [1,6,11,14,15,16,17,18,19,20,46,3025,3045,3055] rfl;exact Kx;exact Ybf;refine jbf [3,6,26,27,30,31] [1,14,15,16,17,18,19,20,3025,6,3045,11,46,3055] (fun (g:Nat×Int)=>[(32,iN g.1),(4,iZ g.2)]) (fun _=>[]) (fun g=>g.1<=6/\g.2=tripK ll ((1*6+g.1)*384)) (fun g=>6 - g.1) ((0,v)) ?_ Kg Kv ?_
  ·exact ⟨by simp,by dsimp only;rw [hv]⟩
  clear hv;rintro ⟨a,v⟩ ⟨ha,hv⟩;dsimp only at ha hv ⊢;by_cases ha2:a < 6
  ·repeat' (first|refine jac ?_|refine Val ?_|refine jbd rfl (fun hc=>?_) (fun hc=>?_)|exact Qaa|fail)
   apply jbe [3,4,6,8,26,27,30,31,32,36,37,38] [1,6,11,14,15,16,17,18,19,20,46,3025,3045,3055] rfl;exact Kx;exact Ybf;refine jbf [3,6,8,26,27,30,31,32,36,37] [1,14,15,16,17,18,19,20,3025,6,3045,11,46,3055] (fun (g:Nat×Int)=>[(38,iN g.1),(4,iZ g.2)]) (fun _=>[]) (fun g=>g.1<=6/\g.2=tripK ll (((1*6+a)*6+g.1)*64)) (fun g=>6 - g.1) ((0,v)) ?_ Kg Kv ?_
   ·exact ⟨by simp,by dsimp only;rw [hv];congr 1;omega⟩
   clear hv;rintro ⟨b,v⟩ ⟨hb,hv⟩;dsimp only at hb hv ⊢;by_cases hb2:b < 6
   ·have ag:=again_p n (swapL ll 3 3) (atZ OL (a:Int)) (atZ OL (b:Int)) hB (ho a ha2) (ho b hb2);rw [<- hb1 a b] at ag;have hX2:=hX a b ha2 hb2;have hK2:=fun c hc=>hK a b c ha2 hb2 hc;have hV2:=hV a b;clear hX hK hV;generalize becL ll 1 a b=BL at *;repeat' (first|refine jac ?_|refine Val ?_|apply Ub (c:=ag) (h:=?_)|apply Ub (c:=pp) (h:=?_)|refine jbd rfl (fun hc=>?_) (fun hc=>?_)|exact Qaa|fail)
    apply jbe [3,4,6,8,11,26,27,30,31,32,36,37,38,46,47,48] [1,6,11,14,15,16,17,18,19,20,46,3025,3045,3055] rfl;exact Kx;exact Ybf;refine jbf [3,6,8,11,26,27,30,31,32,36,37,38,46,47] [1,14,15,16,17,18,19,20,3025,6,3045,11,46,3055] (fun (g:Nat×Int)=>[(48,iN g.1),(4,iZ g.2)]) (fun _=>[]) (fun g=>g.1<=64/\g.2=tripK ll (((1*6+a)*6+b)*64+g.1)) (fun g=>64 - g.1) ((0,v)) ?_ Kg Kv ?_
    ·exact ⟨by simp,by dsimp only;rw [hv];congr 1⟩
    clear hv;rintro ⟨c,v⟩ ⟨hc2,hv⟩;dsimp only at hc2 hv ⊢;by_cases hc3:c < 64
    ·exact Daj
    ·exact Dbf
   ·exact Dbg
  ·repeat' (first|refine jac ?_|refine Val ?_|refine jbd rfl (fun hc=>?_) (fun hc=>?_)|exact Qaa|fail)
   refine bkL (1+1,v) ?_ ?_
   ·exact Daw
   ·dsimp only; omega
 ·repeat' (first|refine jac ?_|refine Val ?_|exact Qaa|fail)
  all_goals refine Rad ?_
  all_goals rw [hv,tm]
theorem Vam {G G':Prop} (h:G') (t:Laa G'->G:=by intro h;first|(first|exact Wby h.o|exact jgc rfl rfl rfl rfl rfl h.o|exact Wbh h.o|exact Wbi h.o|exact jac h.o|exact Maa h.o|exact Wba h.o|exact Wcc h.o|exact Wcd h.o|fail);done|fail):G:=t ⟨h⟩
theorem isLocal_p (X Y:Nat) (n:Int) (ll:List (List Int)) (h:boxB X Y n ll=true):PC Tryz.prog 194 [.g [dI X,dI Y,dI n,eII ll]] (.p (.c (dB (localB ll X Y n)))):=by
 have q:=isQuietG_p X Y n ll h;have g:=greatest_p X Y n ll h;have t:=isTriple_p X Y n ll h;have gb:=jnr h;have b:=jbo h;have n2:=b.n2;have n1:=b.n1;clear b;have gt:X=3->Y=3->PC Tryz.prog 254 [.g [dI X,dI Y,dI n,eII ll]] (.p (.c (dI (tripM ll)))):=fun hx hy=>by subst hx hy;exact greatestTriple_p n ll h
 unfold localB;generalize quietG ll X Y=Q at *;generalize greatI ll X Y=G at *;generalize tripM ll=M at *;cases Q with
 | false =>
  refine jao Tryz.func194 fun _=>?_;repeat' (first|(refine jaa (.call ⟨.value (.func 193),_,_⟩) ?_;((apply jep (fid:=193);exact Yac;(·exact g);(·rfl);(rintro _ ⟨a,b,c,d,e,f,rfl⟩))))|refine Vam ?_|apply Ub (c:=q) (h:=?_)|exact Qab|exact Rav|fail)
 | true =>
  by_cases hg:G<=2*n
  ·by_cases h3:X=3/\Y=3
   ·have gt:=gt h3.1 h3.2;have e:(true&&(decide (G<=2*n)&&(!decide (X=3/\Y=3) || decide (M<=0))))=decide (M<=0):=by simp [hg,h3]
    have e3:(true&&decide (X=3/\Y=3))=true:=by simp [h3]
    rw [e];rw [e3] at t;refine jao Tryz.func194 fun _=>?_;repeat' (first|(refine jaa (.call ⟨.value (.func 193),_,_⟩) ?_;((apply jep (fid:=193);exact Yac;(·exact g);(·rfl);(rintro _ ⟨a,b,c,d,e,f,rfl⟩))))|refine Vam ?_|apply Ub (c:=q) (h:=?_)|apply Ub (c:=t) (h:=?_)|apply Ub (c:=gt) (h:=?_)|refine jcc rfl rfl (fun hg=>?_) (fun hg=>?_)|exact Qab|fail)
    all_goals refine Rad ?_
    all_goals simp
   ·have e:(true&&(decide (G<=2*n)&&(!decide (X=3/\Y=3) || decide (M<=0))))=true:=by simp [hg,h3]
    have e3:(true&&decide (X=3/\Y=3))=false:=by simp [h3]
    rw [e];rw [e3] at t;clear gt;refine jao Tryz.func194 fun _=>?_;repeat' (first|(refine jaa (.call ⟨.value (.func 193),_,_⟩) ?_;((apply jep (fid:=193);exact Yac;(·exact g);(·rfl);(rintro _ ⟨a,b,c,d,e,f,rfl⟩))))|refine Vam ?_|apply Ub (c:=q) (h:=?_)|apply Ub (c:=t) (h:=?_)|refine jcc rfl rfl (fun hg=>?_) (fun hg=>?_)|exact Qab|fail)
    all_goals refine Rad ?_
    all_goals simp [hg]
  ·have e:(true&&(decide (G<=2*n)&&(!decide (X=3/\Y=3) || decide (M<=0))))=false:=by simp [hg]
   rw [e];clear gt;refine jao Tryz.func194 fun _=>?_;repeat' (first|(refine jaa (.call ⟨.value (.func 193),_,_⟩) ?_;((apply jep (fid:=193);exact Yac;(·exact g);(·rfl);(rintro _ ⟨a,b,c,d,e,f,rfl⟩))))|refine Vam ?_|apply Ub (c:=q) (h:=?_)|apply Ub (c:=t) (h:=?_)|refine jcc rfl rfl (fun hg=>?_) (fun hg=>?_)|refine jdf rfl rfl (fun hg=>?_) (fun hg=>?_)|exact Qab|fail)
   all_goals refine Rad ?_
   all_goals simp [hg]
theorem IsLocal_p (X Y:Nat) (n:Int) (ll:List (List Int)) (h:boxB X Y n ll=true):PC Tryz.prog 134 [.g [dI X,dI Y,dI n,eII ll]] (.t [.c (dB (localB ll X Y n)),.c (dB true)]):=by
 have w:=IsBox_p X Y n ll;rw [h] at w;refine jao Tryz.func134 fun _=>?_;repeat' (first|refine jac ?_|refine Maa ?_|refine Wba ?_|apply Ub (c:=w) (h:=?_)|apply Ub (c:=isLocal_p X Y n ll h) (h:=?_)|exact Qac|exact Rbl|fail)
theorem l3Pairs_p (n:Nat) (h:n<=3):PC Tryz.prog 217 [.c (dI n)] (.p (.c (eP (prL n)))):=by
 refine jao Tryz.func217 fun _=>?_;repeat' (first|refine jac ?_|refine Maa ?_|refine Wce ?_|fail)
 apply jbe [0,3,4] [6,23,24] rfl;exact Kr;exact Yah;refine jbf [0] [23,24] (fun (g:Nat×List (Nat×Nat))=>[(4,iN g.1),(3,.c (.ls 6 2 0 g.2.length))]) (fun g=>[(6,.row 2 (prD g.2))]) (fun g=>g.1<=n/\g.2=prI n g.1) (fun g=>n - g.1) ((0,[])) ?_ Kg Kg ?_
 ·exact ⟨by simp,rfl⟩
 rintro ⟨i,l⟩ ⟨hi,hl⟩;dsimp only at hi hl ⊢;have hll:l.length<=n*i:=by rw [hl];exact prI_len n i
 have hni:n*i<=3*3:=Nat.mul_le_mul h Kf;by_cases h2:i < n
 ·repeat' (first|refine jac ?_|refine Maa ?_|refine jbd rfl (fun hc=>?_) (fun hc=>?_)|exact Qab|fail)
  apply jbe [0,3,4,5] [6,23,24] rfl;exact Kr;exact Yah;refine jbf [0,4] [23,24] (fun (g:Nat×List (Nat×Nat))=>[(5,iN g.1),(3,.c (.ls 6 2 0 g.2.length))]) (fun g=>[(6,.row 2 (prD g.2))]) (fun g=>(i+1<=g.1/\g.1<=n)/\g.2=prT n i g.1) (fun g=>n - g.1) ((i+1,l)) ?_ Kg Kt ?_
  ·exact ⟨by dsimp only;omega,by dsimp only;rw [prT_zero];exact hl⟩
  rintro ⟨k,m⟩ ⟨hk,hm⟩;dsimp only at hk hm ⊢;have hml:m.length<=n*i+k:=by rw [hm];exact prT_len n i k
  have hpd:=jia m;by_cases h3:k < n
  ·exact Dah
  ·exact Dap
 ·exact Dbc
theorem agN_p {X Y:Nat} {n:Int} {ll:List (List Int)} (h:boxB X Y n ll=true) {i k:Nat} (hi:i < X) (hk:k < Y) :
  PC Tryz.prog 158 [.c (eI (atZ ll ((i:Int)*Y+k)))] (.p (.c (dI (agQ ll Y i k)))):=by
 have ix:=jno (i:=(i:Int)) (k:=(k:Int)) (X:=X) (Y:=Y) Kf Kf Kf Kf;have n2:=(jbo h).n2;obtain ⟨r1,r2⟩:=jev h ix.1 ix.2.1;exact l2Agree_p (atZ ll ((i:Int)*Y+k)) r1 fun p p0 p1=>by have:=r2 p Kf Kf;omega
theorem Vat {G G':Prop} (h:G') (t:Laa G'->G:=by intro h;first|(first|exact jac h.o|exact Maa h.o|exact Wba h.o|exact Wcg h.o|apply zby h.o|apply zbw h.o|apply zbp h.o|fail);done|fail):G:=t ⟨h⟩
theorem l3Sum_p (X Y:Nat) (n:Int) (ll:List (List Int)) (h:boxB X Y n ll=true) (p q:Nat×Nat) (m:Nat) (hp:p.1 < X/\p.2 < X) (hq:q.1 < Y/\q.2 < Y) :
  PC Tryz.prog 218 [.g [dI X,dI Y,dI n,eII ll],.g [dI p.1,dI p.2],.g [dI q.1,dI q.2],.c (dI m)] (.p (.c (dI (sumQ ll Y p q m)))):=by
 have n2:=(jbo h).n2;have bd:=fun (i k:Nat) (hi:i < X) (hk:k < Y)=>agQ_bd h hi hk;obtain ⟨p1,p2⟩:=p;obtain ⟨q1,q2⟩:=q;dsimp only at hp hq ⊢;have v0:=jlk h (i:=p1) (k:=q1) hp.1 hq.1;have a0:=agN_p h (i:=p1) (k:=q1) hp.1 hq.1;have b0:=bd p1 q1 hp.1 hq.1;have v1:=jlk h (i:=p1) (k:=q2) hp.1 hq.2;have a1:=agN_p h (i:=p1) (k:=q2) hp.1 hq.2;have b1:=bd p1 q2 hp.1 hq.2;have v2:=jlk h (i:=p2) (k:=q1) hp.2 hq.1;have a2:=agN_p h (i:=p2) (k:=q1) hp.2 hq.1;have b2:=bd p2 q1 hp.2 hq.1;have v3:=jlk h (i:=p2) (k:=q2) hp.2 hq.2;have a3:=agN_p h (i:=p2) (k:=q2) hp.2 hq.2;have b3:=bd p2 q2 hp.2 hq.2;have s0:=jge (m:=m) (t:=0) b0;have s1:=jge (m:=m) (t:=1) b1;have s2:=jge (m:=m) (t:=2) b2;have s3:=jge (m:=m) (t:=3) b3;clear bd;have t1:sumK4 ll Y (p1,p2) (q1,q2) m 1=sumK4 ll Y (p1,p2) (q1,q2) m 0+sgnM m 0 (agQ ll Y p1 q1):=by simp [sumK4]
 have t2:sumK4 ll Y (p1,p2) (q1,q2) m 2=sumK4 ll Y (p1,p2) (q1,q2) m 1+sgnM m 1 (agQ ll Y p1 q2):=by rfl
 have t3:sumK4 ll Y (p1,p2) (q1,q2) m 3=sumK4 ll Y (p1,p2) (q1,q2) m 2+sgnM m 2 (agQ ll Y p2 q1):=by rfl
 have t4:sumK4 ll Y (p1,p2) (q1,q2) m 4=sumK4 ll Y (p1,p2) (q1,q2) m 3+sgnM m 3 (agQ ll Y p2 q2):=by rfl
 have t0:sumK4 ll Y (p1,p2) (q1,q2) m 0=0:=rfl;have t5:sumK4 ll Y (p1,p2) (q1,q2) m 4=sumQ ll Y (p1,p2) (q1,q2) m:=rfl;generalize sumK4 ll Y (p1,p2) (q1,q2) m=F at *;generalize atZ ll ((p1:Int)*Y+q1)=r0 at *;generalize agQ ll Y p1 q1=g0 at *;generalize atZ ll ((p1:Int)*Y+q2)=r1 at *;generalize agQ ll Y p1 q2=g1 at *;generalize atZ ll ((p2:Int)*Y+q1)=r2 at *;generalize agQ ll Y p2 q1=g2 at *;generalize atZ ll ((p2:Int)*Y+q2)=r3 at *;generalize agQ ll Y p2 q2=g3 at *;refine jao Tryz.func218 fun _=>?_;repeat' (first|refine Vat ?_|fail)
 apply jbe [3,4,5,6,9,10] [4,5,6,25] rfl;exact Kh;exact Ybf;refine jbf [3,4,5,6] [4,5,6,25] (fun k=>[(10,iN k),(9,iZ (F k))]) (fun _=>[]) (fun k=>k<=4) (fun k=>4 - k) (0) ?_ Ybj Kv ?_
 ·omega
 intro k hk;rcases (by omega:k=0∨k=1∨k=2∨k=3∨k=4) with rfl|rfl|rfl|rfl|rfl
 ·by_cases hm:0=m
  ·subst hm;have e:F 1=F 0 + -g0:=by rw [t1];unfold sgnM;rw [if_pos rfl]
   skip
   repeat' (first|refine jav 5 (fun _=>false) [0,1,2,3,4,5,6,7,8,-10,-11,11] ?_|refine Vat ?_|apply Uc (c:=v0) (h:=?_)|apply Ub (c:=a0) (h:=?_)|exact Qaa|fail)
   all_goals
    refine bkL 1 ?_ ?_
    ·omega
    ·omega
  ·have e:F 1=F 0+g0:=by rw [t1];unfold sgnM;rw [if_neg hm]
   repeat' (first|refine jav 5 (fun _=>false) [0,1,2,3,4,5,6,7,8,-10,-11,11] ?_|refine Vat ?_|apply Uc (c:=v0) (h:=?_)|apply Ub (c:=a0) (h:=?_)|refine jbd rfl (fun hc=>?_) (fun hc=>?_)|exact Qaa|fail)
   all_goals
    refine bkL 1 ?_ ?_
    ·omega
    ·omega
 ·by_cases hm:1=m
  ·subst hm;have e:F 2=F 1 + -g1:=by rw [t2];unfold sgnM;rw [if_pos rfl]
   skip
   repeat' (first|refine jav 5 (fun _=>false) [0,1,2,3,4,5,6,7,8,-10,-11,11] ?_|refine Vat ?_|apply Uc (c:=v1) (h:=?_)|apply Ub (c:=a1) (h:=?_)|exact Qaa|fail)
   all_goals
    refine bkL 2 ?_ ?_
    ·omega
    ·omega
  ·have e:F 2=F 1+g1:=by rw [t2];unfold sgnM;rw [if_neg hm]
   repeat' (first|refine jav 5 (fun _=>false) [0,1,2,3,4,5,6,7,8,-10,-11,11] ?_|refine Vat ?_|apply Uc (c:=v1) (h:=?_)|apply Ub (c:=a1) (h:=?_)|refine jbd rfl (fun hc=>?_) (fun hc=>?_)|exact Qaa|fail)
   all_goals
    refine bkL 2 ?_ ?_
    ·omega
    ·omega
 ·by_cases hm:2=m
  ·subst hm;have e:F 3=F 2 + -g2:=by rw [t3];unfold sgnM;rw [if_pos rfl]
   skip
   repeat' (first|refine jav 5 (fun _=>false) [0,1,2,3,4,5,6,7,8,-10,-11,11] ?_|refine Vat ?_|apply Uc (c:=v2) (h:=?_)|apply Ub (c:=a2) (h:=?_)|exact Qaa|fail)
   all_goals
    refine bkL 3 ?_ ?_
    ·omega
    ·omega
  ·have e:F 3=F 2+g2:=by rw [t3];unfold sgnM;rw [if_neg hm]
   repeat' (first|refine jav 5 (fun _=>false) [0,1,2,3,4,5,6,7,8,-10,-11,11] ?_|refine Vat ?_|apply Uc (c:=v2) (h:=?_)|apply Ub (c:=a2) (h:=?_)|refine jbd rfl (fun hc=>?_) (fun hc=>?_)|exact Qaa|fail)
   all_goals
    refine bkL 3 ?_ ?_
    ·omega
    ·omega
 ·by_cases hm:3=m
  ·subst hm;have e:F 4=F 3 + -g3:=by rw [t4];unfold sgnM;rw [if_pos rfl]
   skip
   repeat' (first|refine jav 5 (fun _=>false) [0,1,2,3,4,5,6,7,8,-10,-11,11] ?_|refine Vat ?_|apply Uc (c:=v3) (h:=?_)|apply Ub (c:=a3) (h:=?_)|exact Qaa|fail)
   all_goals
    refine bkL 4 ?_ ?_
    ·omega
    ·omega
  ·have e:F 4=F 3+g3:=by rw [t4];unfold sgnM;rw [if_neg hm]
   repeat' (first|refine jav 5 (fun _=>false) [0,1,2,3,4,5,6,7,8,-10,-11,11] ?_|refine Vat ?_|apply Uc (c:=v3) (h:=?_)|apply Ub (c:=a3) (h:=?_)|refine jbd rfl (fun hc=>?_) (fun hc=>?_)|exact Qaa|fail)
   all_goals
    refine bkL 4 ?_ ?_
    ·omega
    ·omega
 ·repeat' (first|refine Vat ?_|exact Qaa|fail)
  all_goals refine Rad ?_
  all_goals rw [t5]
theorem Vau {G G':Prop} (h:G') (t:Laa G'->G:=by intro h;first|(first|apply zdw h.o|exact Wbh h.o|exact Wbi h.o|exact jac h.o|exact Maa h.o|exact Wba h.o|(refine jaa (.alloc 178) ?_;refine jbi (zs:=[.int .i64 0,.int .i64 0,.int .i64 0,.int .i64 0,.int .i64 0,.int .i64 0,.bool false]) Kb rfl ?_;exact h.o)|(refine jaa (.build 178 _) ?_;refine jab (jbt (cs:=[_,_,_,_,_,_,_]) [(0,1),(1,2),(3,2),(5,1),(6,1)] [.int .i64 0,.int .i64 0,.int .i64 0,.int .i64 0,.int .i64 0,.int .i64 0,.bool false] Kb Kb rfl) rfl ?_;exact h.o)|(refine jaa (.store 178 _ _) ?_;(refine jan rfl rfl rfl Kb rfl rfl ?_);exact h.o)|(refine jaa (.load 178 _) ?_;(refine jab (jae rfl rfl (by kernel_rfl:tAgg _ 178 7=true) rfl) rfl ?_);exact h.o)|exact Wch h.o|(refine jaa (.fieldAddr 178 _ 0) ?_;(refine jab (jad (off:=0) rfl Kb) rfl ?_);exact h.o)|apply zby h.o|(refine jaa (.fieldAddr 178 _ 4) ?_;(refine jab (jad (off:=6) rfl Kb) rfl ?_);exact h.o)|(refine jaa (.load 4 _) ?_;(refine jab (jag rfl rfl Kb rfl) rfl ?_);exact h.o)|fail);done|fail):G:=t ⟨h⟩
theorem l3Greatest_p (X Y:Nat) (n:Int) (ll:List (List Int)) (h:boxB X Y n ll=true):PE Tryz.prog 163 [.g [dI X,dI Y,dI n,eII ll]] (fun res => ∃ a b c d e:Int,∃ f:Bool,res = .p (.g [dI (greatI ll X Y),dI a,dI b,dI c,dI d,dI e,dB f])):=by
 have b:=jbo h;have x1:=b.x1;have x3:=b.x3;have y1:=b.y1;have y3:=b.y3;have n2:=b.n2;have n1:=b.n1;clear b;have px:=l3Pairs_p X Kf;have py:=l3Pairs_p Y Kf;have lx:=prL_len X;have ly:=prL_len Y;have kg:=jia (prL X);have kh:=jia (prL Y);have hn:=fun i k m:Nat=>fun hk hm=>sumV_at ll (X:=X) (Y:=Y) (i:=i) (k:=k) (m:=m) hk hm;refine jho Tryz.func163 fun _=>?_;repeat' (first|refine jav 2 (fun _=>false) [0,1,3,4,-3,-6,6,7] ?_|refine Vau ?_|(first|apply Ub (c:=px) (h:=?_)|apply Ub (c:=py) (h:=?_)))
 apply jbe [1,2,3,4,5,6] [1,2,3,13,16] rfl;exact Kh;exact Ybf;refine jbf [1,2,3,4,5] [1,2,13,16] (fun (g:(Nat×Int)×(Int×Int×Int×Int×Int)×Bool)=>[(6,iN g.1.1)]) (fun g=>[(3,.box [.d (dI g.1.2),.d (dI g.2.1.1),.d (dI g.2.1.2.1),.d (dI g.2.1.2.2.1),.d (dI g.2.1.2.2.2.1),.d (dI g.2.1.2.2.2.2),.d (dB g.2.2)])]) (fun g=>g.1.1<=(prL X).length/\g.1.2=greatK ll X Y (g.1.1*(prL Y).length*4)/\g.2.2=decide (0 < g.1.1*(prL Y).length*4)) (fun g=>(prL X).length - g.1.1) (((0,0),(0,0,0,0,0),false)) ?_ Kg Yat ?_
 ·refine ⟨by simp,?_,by simp⟩;dsimp only;rw [Nat.zero_mul,Nat.zero_mul];rfl
 rintro ⟨⟨i,v⟩,⟨a,b,c,d,q⟩,f⟩ ⟨hi,hv,hf⟩;dsimp only at hi hv hf ⊢;by_cases hi2:i < (prL X).length
 ·have pa:=jpf hi2;repeat' (first|refine Vau ?_|refine jbd rfl (fun hc=>?_) (fun hc=>?_)|exact Qaa|fail)
  apply jbe [1,2,3,4,5,6,7] [1,2,3,13,16] rfl;exact Kh;exact Ybf;refine jbf [1,2,3,4,5,6] [1,2,13,16] (fun (g:(Nat×Int)×(Int×Int×Int×Int×Int)×Bool)=>[(7,iN g.1.1)]) (fun g=>[(3,.box [.d (dI g.1.2),.d (dI g.2.1.1),.d (dI g.2.1.2.1),.d (dI g.2.1.2.2.1),.d (dI g.2.1.2.2.2.1),.d (dI g.2.1.2.2.2.2),.d (dB g.2.2)])]) (fun g=>g.1.1<=(prL Y).length/\g.1.2=greatK ll X Y ((i*(prL Y).length+g.1.1)*4)/\g.2.2=decide (0 < (i*(prL Y).length+g.1.1)*4)) (fun g=>(prL Y).length - g.1.1) (((0,v),(a,b,c,d,q),f)) ?_ Kg Yat ?_
  ·exact ⟨by simp,hv,hf⟩
  clear hv hf;rintro ⟨⟨k,v⟩,⟨a,b,c,d,q⟩,f⟩ ⟨hk,hv,hf⟩;dsimp only at hk hv hf ⊢;by_cases hk2:k < (prL Y).length
  ·have pb:=jpf hk2;have sp:=fun m=>l3Sum_p X Y n ll h (prA X i) (prA Y k) m ⟨by omega,pa.2⟩ ⟨by omega,pb.2⟩;have sb:=fun m=>sumQ_bd h (p:=prA X i) (q:=prA Y k) ⟨by omega,pa.2⟩ ⟨by omega,pb.2⟩ m;repeat' (first|refine Vau ?_|refine jbd rfl (fun hc=>?_) (fun hc=>?_)|exact Qaa|fail)
   apply jbe [1,2,3,4,5,6,7,8] [1,2,3,13,16] rfl;exact Kh;exact Ybf;refine jbf [1,2,3,4,5,6,7] [1,2,13,16] (fun (g:(Nat×Int)×(Int×Int×Int×Int×Int)×Bool)=>[(8,iN g.1.1)]) (fun g=>[(3,.box [.d (dI g.1.2),.d (dI g.2.1.1),.d (dI g.2.1.2.1),.d (dI g.2.1.2.2.1),.d (dI g.2.1.2.2.2.1),.d (dI g.2.1.2.2.2.2),.d (dB g.2.2)])]) (fun g=>g.1.1<=4/\g.1.2=greatK ll X Y ((i*(prL Y).length+k)*4+g.1.1)/\g.2.2=decide (0 < (i*(prL Y).length+k)*4+g.1.1)) (fun g=>4 - g.1.1) (((0,v),(a,b,c,d,q),f)) ?_ Kg Yat ?_
   ·exact ⟨by simp,hv,hf⟩
   clear hv hf;rintro ⟨⟨m,v⟩,⟨a,b,c,d,q⟩,f⟩ ⟨hm,hv,hf⟩;dsimp only at hm hv hf ⊢;by_cases hm2:m < 4
   ·have s:=sp m;have t:=sb m;have e1:greatK ll X Y ((i*(prL Y).length+k)*4+m+1)=max (greatK ll X Y ((i*(prL Y).length+k)*4+m)) (max (sumQ ll Y (prA X i) (prA Y k) m) (-(sumQ ll Y (prA X i) (prA Y k) m))):=by
     rw [jje,hn i k m hk2 hm2];rfl
    have e0:(i*(prL Y).length+k)*4+m=0->v=0:=fun e=>by rw [hv,e];rfl
    rw [<- hv] at e1;clear sp sb;have dT:decide (0 < (i*(prL Y).length+k)*4+(m+1))=true:=decide_eq_true Kf;generalize hs:sumQ ll Y (prA X i) (prA Y k) m=z at *;have lm:=l1Most_p z (-z);cases f with
    | false =>
     have z0:v=0:=e0 (by have:=hf.symm;simp at this;omega);repeat' (first|(refine jaa (.indexAddr 209 _ _) ?_;((first|refine jab (jhz rfl rfl Kb hi2) rfl ?_|refine jab (jhz rfl rfl Kb hk2) rfl ?_)))|refine jav 12 (fun _=>false) [0,1,2,3,4,5,6,7,8,9,-11,11] ?_|refine jav 15 (fun i=>i == 11) [0,1,2,3,4,5,6,7,8,9,10,-12] ?_|refine Vau ?_|apply Ub (c:=s) (h:=?_)|apply Ub (c:=lm) (h:=?_)|refine jbd rfl (fun hc=>?_) (fun hc=>?_)|exact Qab|fail)
     all_goals
      refine bkL ((m+1,max z (-z)),(((prA X i).1:Int),((prA X i).2:Int),((prA Y k).1:Int),((prA Y k).2:Int),(m:Int)),true) ?_ ?_
      ·exact Dat
      ·dsimp only;omega
    | true =>
     by_cases hz:v < max z (-z)
     ·repeat' (first|(refine jaa (.indexAddr 209 _ _) ?_;((first|refine jab (jhz rfl rfl Kb hi2) rfl ?_|refine jab (jhz rfl rfl Kb hk2) rfl ?_)))|refine jav 12 (fun _=>false) [0,1,2,3,4,5,6,7,8,9,-11,11] ?_|refine jav 15 (fun i=>i == 11) [0,1,2,3,4,5,6,7,8,9,10,-12] ?_|refine Vau ?_|apply Ub (c:=s) (h:=?_)|apply Ub (c:=lm) (h:=?_)|refine jbd rfl (fun hc=>?_) (fun hc=>?_)|exact Qab|fail)
      all_goals
       refine bkL ((m+1,max z (-z)),(((prA X i).1:Int),((prA X i).2:Int),((prA Y k).1:Int),((prA Y k).2:Int),(m:Int)),true) ?_ ?_
       ·exact Dat
       ·dsimp only;omega
     ·repeat' (first|(refine jaa (.indexAddr 209 _ _) ?_;((first|refine jab (jhz rfl rfl Kb hi2) rfl ?_|refine jab (jhz rfl rfl Kb hk2) rfl ?_)))|refine jav 12 (fun _=>false) [0,1,2,3,4,5,6,7,8,9,-11,11] ?_|refine jav 15 (fun i=>i == 11) [0,1,2,3,4,5,6,7,8,9,10,-12] ?_|refine Vau ?_|apply Ub (c:=s) (h:=?_)|apply Ub (c:=lm) (h:=?_)|refine jbd rfl (fun hc=>?_) (fun hc=>?_)|exact Qab|fail)
      all_goals
       refine bkL ((m+1,v),(a,b,c,d,q),true) ?_ ?_
       ·exact Dat
       ·dsimp only;omega
   ·have m4:m=4:=by omega
    repeat' (first|(refine jaa (.indexAddr 209 _ _) ?_;(((exfalso;omega))))|refine jav 12 (fun _=>false) [0,1,2,3,4,5,6,7,8,9,-11,11] ?_|refine Vau ?_|refine jbd rfl (fun hc=>?_) (fun hc=>?_)|exact Qaa|fail)
    refine bkL ((k+1,v),(a,b,c,d,q),f) ?_ ?_
    ·exact Dbj
    ·dsimp only; omega
  ·have k4:k=(prL Y).length:=by omega
   repeat' (first|refine Vau ?_|refine jbd rfl (fun hc=>?_) (fun hc=>?_)|exact Qaa|fail)
   refine bkL ((i+1,v),(a,b,c,d,q),f) ?_ ?_
   ·exact Dbe
   ·dsimp only; omega
 ·have i4:i=(prL X).length:=by omega
  have hv2:v=greatI ll X Y:=by rw [hv,i4];rfl
  repeat' (first|refine Vau ?_|refine jbd rfl (fun hc=>?_) (fun hc=>?_)|exact Qaa|fail)
  (apply jgp;(·apply jbc.p;(·(apply GvA.cons;(·(apply RV.cellN (n:=7);(·rfl);(·rfl);exact Kb;(·rfl)));(·(apply GvP.g;(·(apply GvL.cons (.lit _));(apply GvL.cons (.lit _));(apply GvL.cons (.lit _));(apply GvL.cons (.lit _));(apply GvL.cons (.lit _));(apply GvL.cons (.lit _));(apply GvL.cons (.lit _));exact GvL.nil))));exact GvA.nil);exact Ybr))
  exact ⟨a,b,c,d,q,f,by rw [hv2]⟩
theorem spGreatestSum_p (X Y:Nat) (n:Int) (ll:List (List Int)) (h:boxB X Y n ll=true):PC Tryz.prog 114 [.g [dI X,dI Y,dI n,eII ll]] (.t [.c (dI (greatI ll X Y)),.c (dB true)]):=by
 have w:=l2Box_p X Y n ll;rw [h] at w;have g:=l3Greatest_p X Y n ll h;refine jao Tryz.func114 fun _=>?_;repeat' (first|refine jac ?_|refine Maa ?_|refine Wba ?_|refine Wcs ?_|(refine jaa (.call ⟨.value (.func 163),_,_⟩) ?_;((apply jep (fid:=163);exact Yac;(·exact g);(·rfl);(rintro _ ⟨a,b,c,d,e,f,rfl⟩))))|apply Ub (c:=w) (h:=?_)|exact Qac|exact Rbl|fail)
def sgT (k:Nat):Int:=if k=5∨k=7 then -1 else if k=8 then 0 else 1
def tripT (ll:List (List Int)):Nat->Int
 | 0 => -onG ll 3 0 0 0 - 2*onG ll 3 1 0 0 - onG ll 3 1 1 0
 | k+1=>tripT ll k+sgT k*atZ (atZ ll (k:Int)) 3
theorem tripT_all (ll:List (List Int)):tripT ll 9=tripI ll:=by
 have e:∀ i k p:Int,atB ll 3 i k p=atZ (atZ ll (i*3+k)) p:=fun _ _ _=>rfl;simp [tripT,tripI,onG,e,sgT];omega
theorem Vav {G G':Prop} (h:G') (t:Laa G'->G:=by intro h;first|(first|(refine jaa (.load 3 _) ?_;(first|refine jab (jap rfl Kb rfl) rfl ?_|refine jab (jcq rfl rfl Kb (by rfl)) rfl ?_);exact h.o)|apply zdg h.o|apply zdl h.o|exact jac h.o|exact Maa h.o|exact Wba h.o|(refine jaa (.buildSlice 25 9 _) ?_;(apply jaw (sz:=1) (by_:=8);exact Kb;exact Ybr;exact Kl;exact Ybr;(·rfl);(·rfl);(·rfl));exact h.o)|apply zby h.o|fail);done|fail):G:=t ⟨h⟩
theorem l3Triple_p (n:Int) (ll:List (List Int)) (h:boxB 3 3 n ll=true):PC Tryz.prog 271 [.g [dI 3,dI 3,dI n,eII ll]] (.p (.c (dI (tripI ll)))):=by
 have b:=jbo h;have n2:=b.n2;have l9:(ll.length:Int)=3*3:=b.len;clear b;have rw9:∀ k:Int,0<=k->k < 9->(atZ ll k).length=4/\0<=atZ (atZ ll k) 3/\atZ (atZ ll k) 3<=1000:=fun k h0 h1=>by
  obtain ⟨r1,r2⟩:=jev h (q:=k) h0 Kf;have:=r2 3 Kf Kf;exact ⟨r1,by omega,by omega⟩
 have q1:=(oneN_p (X:=3) (Y:=3) h (i:=0) (k:=0) Kf Kf).1;have q2:=(oneN_p (X:=3) (Y:=3) h (i:=0) (k:=0) Kf Kf).2;have q3:=(oneN_p (X:=3) (Y:=3) h (i:=0) (k:=1) Kf Kf).2;rw [show ((0:Nat):Int)*((3:Nat):Int)+((0:Nat):Int)=0 from rfl] at q1 q2;rw [show ((0:Nat):Int)*((3:Nat):Int)+((1:Nat):Int)=1 from rfl] at q3;have z1:=onG_bd (X:=3) (Y:=3) h (w:=0) (q:=0) (j:=0) Kf Ybr Ybr;have z2:=onG_bd (X:=3) (Y:=3) h (w:=1) (q:=0) (j:=0) Kf Ybr Ybr;have z3:=onG_bd (X:=3) (Y:=3) h (w:=1) (q:=1) (j:=0) Kf Ybr Ybr;have t0:tripT ll 0 = -onG ll 3 0 0 0 - 2*onG ll 3 1 0 0 - onG ll 3 1 1 0:=rfl;have t1:tripT ll 1=tripT ll 0+1*atZ (atZ ll 0) 3:=rfl;obtain ⟨L0,w0⟩:=rw9 0 Kf Kf;have t2:tripT ll 2=tripT ll 1+1*atZ (atZ ll 1) 3:=rfl;obtain ⟨L1,w1⟩:=rw9 1 Kf Kf;have t3:tripT ll 3=tripT ll 2+1*atZ (atZ ll 2) 3:=rfl;obtain ⟨L2,w2⟩:=rw9 2 Kf Kf;have t4:tripT ll 4=tripT ll 3+1*atZ (atZ ll 3) 3:=rfl;obtain ⟨L3,w3⟩:=rw9 3 Kf Kf;have t5:tripT ll 5=tripT ll 4+1*atZ (atZ ll 4) 3:=rfl;obtain ⟨L4,w4⟩:=rw9 4 Kf Kf;have t6:tripT ll 6=tripT ll 5 + -1*atZ (atZ ll 5) 3:=rfl;obtain ⟨L5,w5⟩:=rw9 5 Kf Kf;have t7:tripT ll 7=tripT ll 6+1*atZ (atZ ll 6) 3:=rfl;obtain ⟨L6,w6⟩:=rw9 6 Kf Kf;have t8:tripT ll 8=tripT ll 7 + -1*atZ (atZ ll 7) 3:=rfl;obtain ⟨L7,w7⟩:=rw9 7 Kf Kf;have t9:tripT ll 9=tripT ll 8+0*atZ (atZ ll 8) 3:=rfl;obtain ⟨L8,w8⟩:=rw9 8 Kf Kf;rw [<- tripT_all];clear rw9;generalize tripT ll=F at *;generalize onG ll 3 0 0 0=y1 at *;generalize onG ll 3 1 0 0=y2 at *;generalize onG ll 3 1 1 0=y3 at *;refine jao Tryz.func271 fun _=>?_;repeat' (first|refine jav 2 (fun _=>false) [0,1,2,3,6,7,8,9,13,14,15,16,-5,5,-11,11,12,-18,18,19] ?_|refine Vav ?_|(first|apply Ub (c:=q1) (h:=?_)|apply Ub (c:=q2) (h:=?_)|apply Ub (c:=q3) (h:=?_))|exact Qaa|fail)
 apply jbe [1,3,4,5] [1,6] rfl;exact Kk;exact Ybl;refine jbf [1,3] [1,6] (fun k=>[(5,iN k),(4,iZ (F k))]) (fun _=>[]) (fun k=>k<=9) (fun k=>9 - k) (0) ?_ Ybj Kv ?_
 ·omega
 intro k hk;rcases (by omega:k=0∨k=1∨k=2∨k=3∨k=4∨k=5∨k=6∨k=7∨k=8∨k=9) with rfl|rfl|rfl|rfl|rfl|rfl|rfl|rfl|rfl|rfl
 ·skip
  repeat' (first|refine jav 6 (fun _=>false) [0,1,2,3,4,5,6,7,8,9,10,11,12,13,14] ?_|refine Vav ?_|(refine jaa (.indexAddr 25 _ _) ?_;(first|refine jab (jbw rfl rfl Kb Kf Ybb) rfl ?_|refine jab (jca rfl rfl (by kernel_rfl:tSl _ 25 1=true) Kf Kf) rfl ?_))|exact Qaa|fail)
  all_goals
   refine bkL 1 ?_ ?_ (hV:=(by (repeat(first|exact trivial|refine ⟨(by (first|rfl|(refine jcd rfl ?_;((simp  [t1];done))))),?_⟩))))
   ·omega
   ·omega
 ·skip
  repeat' (first|refine jav 6 (fun _=>false) [0,1,2,3,4,5,6,7,8,9,10,11,12,13,14] ?_|refine Vav ?_|(refine jaa (.indexAddr 25 _ _) ?_;(first|refine jab (jbw rfl rfl Kb Kf Ybb) rfl ?_|refine jab (jca rfl rfl (by kernel_rfl:tSl _ 25 1=true) Kf Kf) rfl ?_))|exact Qaa|fail)
  all_goals
   refine bkL 2 ?_ ?_ (hV:=(by (repeat(first|exact trivial|refine ⟨(by (first|rfl|(refine jcd rfl ?_;((simp  [t2];done))))),?_⟩))))
   ·omega
   ·omega
 ·skip
  repeat' (first|refine jav 6 (fun _=>false) [0,1,2,3,4,5,6,7,8,9,10,11,12,13,14] ?_|refine Vav ?_|(refine jaa (.indexAddr 25 _ _) ?_;(first|refine jab (jbw rfl rfl Kb Kf Ybb) rfl ?_|refine jab (jca rfl rfl (by kernel_rfl:tSl _ 25 1=true) Kf Kf) rfl ?_))|exact Qaa|fail)
  all_goals
   refine bkL 3 ?_ ?_ (hV:=(by (repeat(first|exact trivial|refine ⟨(by (first|rfl|(refine jcd rfl ?_;((simp  [t3];done))))),?_⟩))))
   ·omega
   ·omega
 ·skip
  repeat' (first|refine jav 6 (fun _=>false) [0,1,2,3,4,5,6,7,8,9,10,11,12,13,14] ?_|refine Vav ?_|(refine jaa (.indexAddr 25 _ _) ?_;(first|refine jab (jbw rfl rfl Kb Kf Ybb) rfl ?_|refine jab (jca rfl rfl (by kernel_rfl:tSl _ 25 1=true) Kf Kf) rfl ?_))|exact Qaa|fail)
  all_goals
   refine bkL 4 ?_ ?_ (hV:=(by (repeat(first|exact trivial|refine ⟨(by (first|rfl|(refine jcd rfl ?_;((simp  [t4];done))))),?_⟩))))
   ·omega
   ·omega
 ·skip
  repeat' (first|refine jav 6 (fun _=>false) [0,1,2,3,4,5,6,7,8,9,10,11,12,13,14] ?_|refine Vav ?_|(refine jaa (.indexAddr 25 _ _) ?_;(first|refine jab (jbw rfl rfl Kb Kf Ybb) rfl ?_|refine jab (jca rfl rfl (by kernel_rfl:tSl _ 25 1=true) Kf Kf) rfl ?_))|exact Qaa|fail)
  all_goals
   refine bkL 5 ?_ ?_ (hV:=(by (repeat(first|exact trivial|refine ⟨(by (first|rfl|(refine jcd rfl ?_;((simp  [t5];done))))),?_⟩))))
   ·omega
   ·omega
 ·skip
  repeat' (first|refine jav 6 (fun _=>false) [0,1,2,3,4,5,6,7,8,9,10,11,12,13,14] ?_|refine Vav ?_|(refine jaa (.indexAddr 25 _ _) ?_;(first|refine jab (jbw rfl rfl Kb Kf Ybb) rfl ?_|refine jab (jca rfl rfl (by kernel_rfl:tSl _ 25 1=true) Kf Kf) rfl ?_))|exact Qaa|fail)
  all_goals
   refine bkL 6 ?_ ?_ (hV:=(by (repeat(first|exact trivial|refine ⟨(by (first|rfl|(refine jcd rfl ?_;((simp  [t6];done))))),?_⟩))))
   ·omega
   ·omega
 ·skip
  repeat' (first|refine jav 6 (fun _=>false) [0,1,2,3,4,5,6,7,8,9,10,11,12,13,14] ?_|refine Vav ?_|(refine jaa (.indexAddr 25 _ _) ?_;(first|refine jab (jbw rfl rfl Kb Kf Ybb) rfl ?_|refine jab (jca rfl rfl (by kernel_rfl:tSl _ 25 1=true) Kf Kf) rfl ?_))|exact Qaa|fail)
  all_goals
   refine bkL 7 ?_ ?_ (hV:=(by (repeat(first|exact trivial|refine ⟨(by (first|rfl|(refine jcd rfl ?_;((simp  [t7];done))))),?_⟩))))
   ·omega
   ·omega
 ·skip
  repeat' (first|refine jav 6 (fun _=>false) [0,1,2,3,4,5,6,7,8,9,10,11,12,13,14] ?_|refine Vav ?_|(refine jaa (.indexAddr 25 _ _) ?_;(first|refine jab (jbw rfl rfl Kb Kf Ybb) rfl ?_|refine jab (jca rfl rfl (by kernel_rfl:tSl _ 25 1=true) Kf Kf) rfl ?_))|exact Qaa|fail)
  all_goals
   refine bkL 8 ?_ ?_ (hV:=(by (repeat(first|exact trivial|refine ⟨(by (first|rfl|(refine jcd rfl ?_;((simp  [t8];done))))),?_⟩))))
   ·omega
   ·omega
 ·skip
  repeat' (first|refine jav 6 (fun _=>false) [0,1,2,3,4,5,6,7,8,9,10,11,12,13,14] ?_|refine Vav ?_|(refine jaa (.indexAddr 25 _ _) ?_;(first|refine jab (jbw rfl rfl Kb Kf Ybb) rfl ?_|refine jab (jca rfl rfl (by kernel_rfl:tSl _ 25 1=true) Kf Kf) rfl ?_))|exact Qaa|fail)
  all_goals
   refine bkL 9 ?_ ?_
   ·omega
   ·omega
 ·repeat' (first|refine Vav ?_|exact Qaa|exact Rav|fail)
theorem l3Orders_p:PC Tryz.prog 270 [] (.p (.c (eII orderL))):=by
 refine jao Tryz.func270 fun _=>?_;repeat' (first|refine jac ?_|refine Maa ?_|refine Wci ?_|refine Wcj ?_|fail)
 all_goals refine Raa ?_
 all_goals rfl
theorem askd_row {n:Int} {ll:List (List Int)} {f s:List Int} (hb:boxB 3 3 n ll=true) (hf:Ord3 f) (hs:Ord3 s) {i k:Nat} (hi:i < 3) (hk:k < 3) :
  PV Tryz.prog 166 [.g [dI 3,dI 3,dI n,eII ll],.c (dI (atZ f (i:Int))),.c (dI (atZ s (k:Int)))] (.p (.c (eI (atZ ll (atZ f (i:Int)*3+atZ s (k:Int))))))/\rowF (askdF ll f s i k) 4=atZ ll (atZ f (i:Int)*3+atZ s (k:Int))/\(atZ ll (atZ f (i:Int)*3+atZ s (k:Int))).length=4:=by
 have h1:=hf.bd i hi;have h2:=hs.bd k hk;obtain ⟨a,ea⟩:=Int.eq_ofNat_of_zero_le h1.1;obtain ⟨b,eb⟩:=Int.eq_ofNat_of_zero_le h2.1;have v:=jlk (X:=3) (Y:=3) hb (i:=a) (k:=b) Kf Kf;obtain ⟨r,-⟩:=jev hb (q:=atZ f (i:Int)*3+atZ s (k:Int)) Kf Kf;refine ⟨by rw [ea,eb];exact v,?_,r⟩;have:=rowF_self r;rw [<- this];rfl
theorem l3Asked_p (n:Int) (ll:List (List Int)) (f s:List Int) (hb:boxB 3 3 n ll=true) (hf:Ord3 f) (hs:Ord3 s):PC Tryz.prog 273 [.g [dI 3,dI 3,dI n,eII ll],.c (eI f),.c (eI s)] (.p (.g [dI 3,dI 3,dI n,eII (askdL ll f s)])):=by
 have ar:=fun i k=>fun hi hk=>askd_row hb hf hs (i:=i) (k:=k) hi hk;have fl:=hf.len;have sl:=hs.len;have hP:askdL ll f s=boxF (askdF ll f s) 3 (3*3):=rfl;rw [hP];refine jao Tryz.func273 fun _=>?_;repeat' (first|refine jac ?_|refine Maa ?_|refine Wba ?_|refine Wah ?_|refine Wbo ?_|apply zcd ?_|refine Wag ?_|fail)
 apply jbe [1,2,3,6,7,8] [3,6,7,16,41,42,43,44] rfl;exact Kh;exact Ki;refine jbf [1,2,3,6,7] [3,6,41,42,43,44] (fun i=>[(8,iN i)]) (fun i=>[(7,.box [.d (dI 3),.d (dI 3),.d (dI n),.ls 16 1 0 (3*i)]),(16,.row 1 (cII (boxF (askdF ll f s) 3 (3*i))))]) (fun i=>i<=3) (fun i=>3 - i) (0) ?_ Kg Yay ?_
 ·omega
 intro i hi;by_cases h:i < 3
 ·repeat' (first|refine jac ?_|refine Maa ?_|refine Wag ?_|refine jbd rfl (fun hc=>?_) (fun hc=>?_)|exact Qaa|fail)
  apply jbe [1,2,3,6,7,8,9] [3,6,7,16,41,42,43,44] rfl;exact Kh;exact Ki;refine jbf [1,2,3,6,7,8] [3,6,41,42,43,44] (fun k=>[(9,iN k)]) (fun k=>[(7,.box [.d (dI 3),.d (dI 3),.d (dI n),.ls 16 1 0 (3*i+k)]),(16,.row 1 (cII (boxF (askdF ll f s) 3 (3*i+k))))]) (fun k=>k<=3) (fun k=>3 - k) (0) ?_ Kg Yag ?_
  ·omega
  intro k hk;by_cases hk2:k < 3
  ·obtain ⟨v,hrow,r4⟩:=ar i k h hk2;clear ar;generalize atZ ll (atZ f (i:Int)*3+atZ s (k:Int))=R0 at *;repeat' (first|refine jac ?_|refine jav 8 (fun i=>i == 14 || i == 16) [0,1,2,3,4,5,6,7,8,9,10,-12,-13,-14,-15,15,-17] ?_|refine Maa ?_|refine Wbm ?_|refine Wbn ?_|refine Waf ?_|apply Uc (c:=v) (h:=?_)|apply Ua (c:=l1Own_p R0 Kf) (h:=?_)|refine jbd rfl (fun hc=>?_) (fun hc=>?_)|exact Qaa|fail)
   refine bkL (k+1) ?_ ?_ (hB:=(by (repeat(first|exact trivial|refine ⟨(by (first|(refine jbs rfl ?_;simp  [jie _ _ _ _ hk2,hrow];done)|rfl)),?_⟩))))
   ·omega
   ·omega
  ·obtain rfl:k=3:=by omega
   repeat' (first|refine jac ?_|refine jav 8 (fun i=>i == 14 || i == 16) [0,1,2,3,4,5,6,7,8,9,10,-12,-13,-14,-15,15,-17] ?_|refine Maa ?_|refine jbd rfl (fun hc=>?_) (fun hc=>?_)|exact Qaa|fail)
   refine bkL (i+1) ?_ ?_ (hB:=(by (repeat(first|exact trivial|refine ⟨(by (first|(refine jbs rfl ?_;simp  [Nat.mul_add];done)|(refine jdn rfl ?_;simp  [Nat.mul_add];done))),?_⟩))))
   ·omega
   ·omega
 ·obtain rfl:i=3:=by omega
  repeat' (first|refine jac ?_|refine Maa ?_|refine Wag ?_|refine jbd rfl (fun hc=>?_) (fun hc=>?_)|exact Qaa|exact Rdn|fail)
theorem low_bitsB (c:Nat):bitsB (lowB c) ((3:Nat)+(3:Nat):Int)=true:=by
 unfold bitsB lowB;simp;unfold allB;rw [List.all_eq_true];intro x hx;unfold rowF at hx;obtain ⟨i,hi,rfl⟩:=List.mem_map.1 hx;exact jcx.2 ⟨by unfold bitN;omega,by unfold bitN;omega⟩
theorem l3Flipped_p (n:Int) (ll:List (List Int)) (hb:boxB 3 3 n ll=true):PC Tryz.prog 272 [.g [dI 3,dI 3,dI n,eII ll]] (.p (.c (dI (flipM ll 64)))):=by
 have n2:=(jbo hb).n2;have n1:=(jbo hb).n1;have fb:=fun c=>flip_box (x:=3) (y:=3) (fl:=lowB c) hb (low_bitsB c);have fp:=fun c=>l2Flip_p 3 3 n ll (lowB c) hb (low_bitsB c);have tp:=fun c=>l3Triple_p n (bflL ll 3 3 (lowB c)) (fb c);have tb:=fun c=>trip_bd (fb c);have fv:∀ c,flipV ll c=tripI (bflL ll 3 3 (lowB c)):=fun c=>rfl;have fs:=flipM_succ ll;have f1:=flipM_one ll;have lb:∀ c,rowF (fun i=>(bitN c i:Int)) 6=lowB c:=fun c=>rfl;have ll6:∀ c,(lowB c).length=6:=fun c=>by simp [lowB]
 refine jao Tryz.func272 fun _=>?_;repeat' (first|refine jac ?_|refine Maa ?_|refine Wba ?_|fail)
 apply jbe [1,3,4] [1,12,22,23,3026] rfl;exact Kh;exact Ybf;refine jbf [1] [1,12,22,23,3026] (fun (g:Nat×Int)=>[(4,iN g.1),(3,iZ g.2)]) (fun _=>[]) (fun g=>g.1<=64/\(0 < g.1->g.2=flipM ll g.1)) (fun g=>64 - g.1) ((0,0)) ?_ Kg Kv ?_
 ·exact ⟨by simp,fun h=>by simp at h⟩
 rintro ⟨c,v⟩ ⟨hc,hv⟩;dsimp only at hc hv ⊢;by_cases hc2:c < 64
 ·have fpc:=fp c;have tpc:=tp c;have tbc:=tb c;have fvc:=fv c;have fsc:=fs c;have lbc:=lb c;have llc:=ll6 c;clear fp tp tb fv fs lb fb ll6;rw [fvc] at fsc;unfold eI at fpc;rw [llc] at fpc;repeat' (first|refine jac ?_|refine Maa ?_|refine Wbq ?_|refine jbd rfl (fun hc=>?_) (fun hc=>?_)|exact Qaa|fail)
  apply jbe [1,3,4,5,6] [1,12,22,23,3026] rfl;exact Kk;exact Ybe;refine jbf [1,3,4] [1,22,23,3026] (fun i=>[(6,iN i),(5,.c (.ls 12 1 0 i))]) (fun i=>[(12,.row 1 (cI (rowF (fun i=>(bitN c i:Int)) i)))]) (fun i=>i<=6) (fun i=>6 - i) (0) ?_ Kg Kg ?_
  ·omega
  intro i hi;by_cases hi2:i < 6
  ·have e3:(c:Int) / 2^((i:Int)).toNat%2=(bitN c i:Int):=by rw [Int.toNat_natCast,jhc]
   repeat' (first|refine jac ?_|refine Maa ?_|apply zbt ?_|refine Wbr ?_|refine Wbs ?_|refine jbd rfl (fun hc=>?_) (fun hc=>?_)|exact Qaa|fail)
   simp at e3;refine bkL (i+1) ?_ ?_ (hB:=(by (repeat(first|exact trivial|refine ⟨(by ((refine jbs rfl ?_;simp  [jdz,e3];done))),?_⟩))))
   ·omega
   ·omega
  ·obtain rfl:i=6:=by omega
   rw [lbc];generalize bflL ll 3 3 (lowB c)=BL at *;generalize tripI BL=z at *;generalize lowB c=LB at *;by_cases h0:c=0
   ·subst h0;have f1c:z=flipM ll 1:=by rw [f1,fvc]
    clear hv fsc f1 fvc;repeat' (first|refine Wbh ?_|refine jac ?_|refine Maa ?_|apply Ub (c:=fpc) (h:=?_)|apply Ub (c:=tpc) (h:=?_)|exact Qaa|fail)
    refine bkL (1,z) ?_ ?_
    ·exact ⟨by simp,fun _=>f1c⟩
    ·simp
   ·have hv2:=hv Kf;rw [<- hv2] at fsc;by_cases hz:v < z
    ·have e:z=flipM ll (c+1):=by rw [fsc];omega
     clear hv hv2 fsc f1 fvc;repeat' (first|refine Wbh ?_|refine Wbi ?_|refine jac ?_|refine Maa ?_|apply Ub (c:=fpc) (h:=?_)|apply Ub (c:=tpc) (h:=?_)|refine jcc rfl rfl (fun hg=>?_) (fun hg=>?_)|refine jbd rfl (fun hc=>?_) (fun hc=>?_)|exact Qaa|fail)
     refine bkL (c+1,z) ?_ ?_
     ·exact ⟨by dsimp only;omega,fun _=>e⟩
     ·dsimp only; omega
    ·have e:v=flipM ll (c+1):=by rw [fsc];omega
     clear hv hv2 fsc f1 fvc;repeat' (first|refine Wbh ?_|refine Wbi ?_|refine jac ?_|refine Maa ?_|apply Ub (c:=fpc) (h:=?_)|apply Ub (c:=tpc) (h:=?_)|refine jcc rfl rfl (fun hg=>?_) (fun hg=>?_)|refine jbd rfl (fun hc=>?_) (fun hc=>?_)|exact Qaa|fail)
     refine bkL (c+1,v) ?_ ?_
     ·exact ⟨by dsimp only;omega,fun _=>e⟩
     ·dsimp only; omega
 ·obtain rfl:c=64:=by omega
  have hv2:=hv Kf;rw [<- hv2];repeat' (first|refine jac ?_|refine Maa ?_|exact Qaa|exact Rav|fail)
end
end Go.Proofs.YtbhbkbnlpackdaaGreatDoor
