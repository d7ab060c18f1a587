/- What the functions that FnExactRunScript and FnExactReplayLog and FnExactExecuteCommand reaches return: part of its proof. No condition beyond those of its theorems. -/
import Derived.Test.YtbhbkbnlpackdaaGreatDoorKfnsB
import Derived.Test.YtbhbkbnlpackdaaGreatDoorKplainC
import Derived.Test.YtbhbkbnlpackdaaGreatDoorKfnsD
import Derived.Test.YtbhbkbnlpackdaaGreatDoorKfnsC
import Derived.Test.YtbhbkbnlpackdaaGreatDoorKfnsA
import Derived.Test.YtbhbkbnlpackdaaGreatDoorKfnsF
import Derived.Test.YtbhbkbnlpackdaaGreatDoorKfnsG
import Derived.Test.YtbhbkbnlpackdaaGreatDoorKplainA
import Derived.Test.YtbhbkbnlpackdaaGreatDoorKplainB
import Derived.Shelf.Strings.Search2
set_option linter.unusedSectionVars false
set_option maxRecDepth 10000
set_option maxHeartbeats 4000000
set_option linter.unusedVariables false
set_option linter.unusedSimpArgs false
namespace Go.Proofs.YtbhbkbnlpackdaaGreatDoor
open Go.RowKit
section
variable [Glb]
section
variable {P:Program} {st:St} {dst:Option Tmp} {ty:TypeId} {pos:String} {af:Array Edge} {x y:Operand}
theorem jer {m n:Nat} (hm:m < 2) (hn:n < 2):bits .xor .i64 (m:Int) (n:Int)=((m^^^n:Nat):Int):=by
 rcases (by omega:m=0∨m=1) with rfl|rfl <;> rcases (by omega:n=0∨n=1) with rfl|rfl <;> rfl
theorem qt_xorB {T T':TypeId} {m n:Nat} (hx:st.ev x = .c (.d (dI (m:Int)))) (hy:st.ev y = .c (.d (dI (n:Int)))) (hm:m < 2) (hn:n < 2):Qt P ⟨dst,.binOp .xor T x y T',ty,pos,af,none⟩ st (.c (.d (dI ((m^^^n:Nat):Int)))):=by
 rw [<- jer hm hn];exact jco hx hy Yby
end
theorem jeo {a b:Nat} (ha:a < 2) (hb:b < 2):a^^^b < 2:=Nat.xor_lt_two_pow (n:=1) ha hb
def codeL (ll:List (List Int)) (m:Nat):List Int:=rowF (fun j=>codeV ll (j / 2) (j%2)) m
theorem job {n:Int} {ll:List (List Int)} (h:boxB 2 2 n ll=true) (x y a c:Nat) (hx:x < 2) (hy:y < 2) (ha:a < 2) (hc:c < 2) :
  PC Tryz.prog 191 [.g [dI 2,dI 2,dI n,eII ll],.c (dI x),.c (dI y),.c (dI a),.c (dI c)] (.p (.c (dI (atZ (atZ ll ((2*x+y:Nat):Int)) ((2*a+c:Nat):Int)))))/\0<=atZ (atZ ll ((2*x+y:Nat):Int)) ((2*a+c:Nat):Int)/\atZ (atZ ll ((2*x+y:Nat):Int)) ((2*a+c:Nat):Int)<=n:=by
 have p:=at_p 2 2 n ll h x y a c Kf Kf Kf Kf Kf Kf Kf Kf;have b:=(jfq (x:=2) (y:=2) h (i:=x) (k:=y) hx hy).1 (2*a+c) Kf;unfold atB at p b;have e:(x:Int)*2+(y:Int)=((2*x+y:Nat):Int):=by omega
 have e2:2*(a:Int)+(c:Int)=((2*a+c:Nat):Int):=by omega
 have e3:(x:Int)*((2:Nat):Int)+(y:Int)=((2*x+y:Nat):Int):=by omega
 rw [e,e2] at p;rw [e3] at b;exact ⟨p,b⟩
theorem Var {G G':Prop} (h:G') (t:Laa G'->G:=by intro h;first|(first|exact Maa h.o|exact Wba h.o|exact Wbq h.o|apply zco h.o|exact Wbr h.o|exact Wbt h.o|apply zcj h.o|apply zbi h.o|fail);done|fail):G:=t ⟨h⟩
theorem BoxCode_p (n:Int) (ll:List (List Int)) (h:boxB 2 2 n ll=true):PC Tryz.prog 140 [.g [dI 2,dI 2,dI n,eII ll]] (.t [.c (eI (codeL ll 8)),.c (dB true)]):=by
 have n2:=(jbo h).n2;have ip:=isPair_p 2 2 n ll;have pb:pairB 2 2 n ll=true:=by simp [pairB,h]
 rw [pb] at ip;have ar:=fun x y a c hx hy ha hc=>job h x y a c hx hy ha hc;refine jao Tryz.func140 fun _=>?_;repeat' (first|refine jac ?_|refine Var ?_|apply Ub (c:=ip) (h:=?_)|exact Qac|fail)
 apply jbe [1,4,14] [1,13,48,49] rfl;exact Kk;exact Ybe;refine jbf [1] [1,48,49] (fun k=>[(14,iN k),(4,.c (.ls 13 1 0 (2*k)))]) (fun k=>[(13,.row 1 (cI (codeL ll (2*k))))]) (fun k=>k<=4) (fun k=>4 - k) (0) ?_ Kg Kg ?_
 ·omega
 intro k hk;by_cases hk2:k < 4
 ·have hsd:k%2 < 2:=by omega
  have htd:k / 2 < 2:=by omega
  obtain ⟨s,hsd⟩:∃ s,k%2=s:=⟨_,rfl⟩;obtain ⟨t,htd⟩:∃ t,k / 2=t:=⟨_,rfl⟩;have hs:s < 2:=by omega
  have ht:t < 2:=by omega
  have hst:=jeo hs ht;have e6:(k:Int)%2=(s:Int):=by omega
  have e7:(k:Int) / 2=(t:Int):=by omega
  repeat' (first|refine jac (id:=5) ?_|refine jac (id:=6) ?_|refine jac (id:=7) ?_|refine jac (id:=15) ?_|refine Var ?_|refine jbd rfl (fun hc=>?_) (fun hc=>?_)|exact Qaa|fail)
  rw [e6, e7];repeat' (first|refine jac ?_|refine Var ?_|fail)
  apply jbe [1,4,6,7,14,21] [1,13,48,49] rfl;exact Kk;exact Ybe;refine jbf [1,6,7,14] [1,48,49] (fun i=>[(21,iN i),(4,.c (.ls 13 1 0 (2*k+i)))]) (fun i=>[(13,.row 1 (cI (codeL ll (2*k+i))))]) (fun i=>i<=2) (fun i=>2 - i) (0) ?_ Kg Kt ?_
  ·omega
  intro i hi;have cl:(codeL ll (2*k+i)).length=2*k+i:=by simp [codeL]
  rcases (by omega:i=0∨i=1∨i=2) with rfl|rfl|rfl
  ·have skip0:True:=trivial;have hw:s^^^s < 2:=jeo hs hs;obtain ⟨p1,b1⟩:=ar (s^^^t) 0 0 (s^^^s) hst Kf Kf hw;obtain ⟨p2,b2⟩:=ar (s^^^t) 0 1 (1 - (s^^^s)) hst Kf Kf Kf;rw [show ((1 - (s^^^s):Nat):Int)=1 - ((s^^^s:Nat):Int) by omega] at p2;have cv:codeV ll k 0=atZ (atZ ll ((2*(s^^^t)+0:Nat):Int)) ((2*0+(s^^^s):Nat):Int)+atZ (atZ ll ((2*(s^^^t)+0:Nat):Int)) ((2*1+(1 - (s^^^s)):Nat):Int):=by
    unfold codeV;rw [hsd,htd,Nat.mul_zero,Nat.zero_add];rfl
   have cs:codeL ll (2*k+1)=codeL ll (2*k)++[codeV ll k 0]:=by
    unfold codeL;rw [jdz,show (2*k) / 2=k by omega,show (2*k)%2=0 by omega]
   rw [cv] at cs;clear cv ar;generalize atZ (atZ ll ((2*(s^^^t)+0:Nat):Int)) ((2*0+(s^^^s):Nat):Int)=z1 at *;generalize atZ (atZ ll ((2*(s^^^t)+0:Nat):Int)) ((2*1+(1 - (s^^^s)):Nat):Int)=z2 at *;have xe:=jer hs ht;rw [<- jer hs ht] at p1 p2;repeat' (first|(refine jaa (.index 176 _ _) ?_;refine jab (jel (n:=2) rfl rfl Kb Kf Kf rfl) rfl ?_)|(refine jaa (.binOp .xor 3 _ _ _) ?_;(first|(refine jab (qt_xorB rfl rfl hs hs) rfl ?_)|refine jab (jco rfl rfl Yby) rfl ?_))|refine jac ?_|refine jav 12 (fun i=>i == 18) [0,1,2,3,4,5,6,8,9,10,11,12,13,14,-8,-16,16,-18,-19,19] ?_|refine Var ?_|(first|apply Ub (c:=p1) (h:=?_)|apply Ub (c:=p2) (h:=?_))|exact Qaa|fail)
   all_goals
    refine bkL 1 ?_ ?_ (hB:=(by (repeat(first|exact trivial|refine ⟨(by ((refine jbs rfl ?_;simp  [cs];done))),?_⟩))))
    ·omega
    ·omega
  ·have skip0:True:=trivial;have hw:s^^^t < 2:=jeo hs ht;obtain ⟨p1,b1⟩:=ar (s^^^t) 1 0 (s^^^t) hst Kf Kf hw;obtain ⟨p2,b2⟩:=ar (s^^^t) 1 1 (1 - (s^^^t)) hst Kf Kf Kf;rw [show ((1 - (s^^^t):Nat):Int)=1 - ((s^^^t:Nat):Int) by omega] at p2;have cv:codeV ll k 1=atZ (atZ ll ((2*(s^^^t)+1:Nat):Int)) ((2*0+(s^^^t):Nat):Int)+atZ (atZ ll ((2*(s^^^t)+1:Nat):Int)) ((2*1+(1 - (s^^^t)):Nat):Int):=by
    unfold codeV;rw [hsd,htd,Nat.mul_zero,Nat.zero_add];rfl
   have cs:codeL ll (2*k+1+1)=codeL ll (2*k+1)++[codeV ll k 1]:=by
    unfold codeL;rw [jdz,show (2*k+1) / 2=k by omega,show (2*k+1)%2=1 by omega]
   rw [cv] at cs;clear cv ar;generalize atZ (atZ ll ((2*(s^^^t)+1:Nat):Int)) ((2*0+(s^^^t):Nat):Int)=z1 at *;generalize atZ (atZ ll ((2*(s^^^t)+1:Nat):Int)) ((2*1+(1 - (s^^^t)):Nat):Int)=z2 at *;have xe:=jer hs ht;rw [<- jer hs ht] at p1 p2;repeat' (first|(refine jaa (.index 176 _ _) ?_;refine jab (jel (n:=2) rfl rfl Kb Kf Kf rfl) rfl ?_)|refine jac ?_|refine jav 12 (fun i=>i == 18) [0,1,2,3,4,5,6,8,9,10,11,12,13,14,-8,-16,16,-18,-19,19] ?_|refine Var ?_|(first|apply Ub (c:=p1) (h:=?_)|apply Ub (c:=p2) (h:=?_))|exact Qaa|fail)
   all_goals
    refine bkL 2 ?_ ?_ (hB:=(by (repeat(first|exact trivial|refine ⟨(by ((refine jbs rfl ?_;simp  [cs];done))),?_⟩))))
    ·omega
    ·omega
  ·repeat' (first|refine jac ?_|refine Var ?_|exact Qaa|fail)
   refine bkL (k+1) ?_ ?_
   ·omega
   ·omega
 ·obtain rfl:k=4:=by omega
  repeat' (first|refine jac ?_|refine Var ?_|exact Qaa|fail)
  all_goals refine Rao ?_
  all_goals simp [codeL]
theorem jde (k i:Nat):kBit k i < 2:=by unfold kBit; omega
theorem jfo (ll:List (List Int)) (n:Int) (k i a c d e f:Nat) {s t u v:Nat} (hs:kBit k (2*(i / 2))=s) (ht:kBit k (2*(i / 2)+1)=t) (hu:kBit k (2 - 2*(i / 2))=u) (hv:kBit k (3 - 2*(i / 2))=v) :
  chainT ll n k i a c d e f=if (if i / 2=1 then u^^^d else s^^^a)^^^e^^^f^^^c=kBit k i then atZ (atZ ll ((2*(s^^^t)+i%2:Nat):Int)) ((2*a+c:Nat):Int)*(atZ (atZ ll ((2*(u^^^v):Nat):Int)) ((2*d:Nat):Int)+atZ (atZ ll ((2*(u^^^v):Nat):Int)) ((2*d+1:Nat):Int))*atZ (atZ ll ((2*((s^^^a)^^^(u^^^d))+i / 2:Nat):Int)) ((2*e+f:Nat):Int) else 0:=by
 subst hs ht hu hv;rfl
theorem jhp {a b c:Int} (ha:0<=a/\a<=100) (hb:0<=b/\b<=100) (hc:0<=c/\c<=100):(0<=a*b/\a*b<=10000)/\(0<=a*b*c/\a*b*c<=1000000):=by
 have h1:0<=a*b:=Int.mul_nonneg ha.1 hb.1;have h2:a*b<=100*100:=Int.mul_le_mul ha.2 hb.2 hb.1 Kf;have h3:0<=a*b*c:=Int.mul_nonneg h1 hc.1;have h4:a*b*c<=10000*100:=Int.mul_le_mul Kf hc.2 hc.1 Kf;omega
theorem jhm {n:Int} {ll:List (List Int)} (h:boxB 2 2 n ll=true) {q d:Nat} (hq:q < 2) (hd:d < 2):0<=atZ (atZ ll ((2*q:Nat):Int)) ((2*d:Nat):Int)+atZ (atZ ll ((2*q:Nat):Int)) ((2*d+1:Nat):Int)/\atZ (atZ ll ((2*q:Nat):Int)) ((2*d:Nat):Int)+atZ (atZ ll ((2*q:Nat):Int)) ((2*d+1:Nat):Int)<=n /\
  atZ (atZ ll ((2*q:Nat):Int)) ((2*d:Nat):Int)+atZ (atZ ll ((2*q:Nat):Int)) ((2*d+1:Nat):Int)=if d=0 then n - onG ll 2 0 q 0 else onG ll 2 0 q 0:=by
 obtain ⟨b,s⟩:=jfq (x:=2) (y:=2) h (i:=q) (k:=0) hq Kf;have e3:(q:Int)*((2:Nat):Int)+((0:Nat):Int)=((2*q:Nat):Int):=by omega
 unfold onG;rw [if_pos rfl];simp only [atB,e3] at b s ⊢;have b0:=b 0 Kf;have b1:=b 1 Kf;have b2:=b 2 Kf;have b3:=b 3 Kf;clear b;simp only [Int.natCast_zero,Int.natCast_one,Int.cast_ofNat_Int] at b0 b1 b2 b3 s;rcases (by omega:d=0∨d=1) with rfl|rfl
 ·rw [if_pos rfl];have w0:((2*0:Nat):Int)=0:=rfl;have w1:((2*0+1:Nat):Int)=1:=rfl;rw [w0, w1];omega
 ·rw [if_neg Kf];have w0:((2*1:Nat):Int)=2:=rfl;have w1:((2*1+1:Nat):Int)=3:=rfl;rw [w0, w1];omega
theorem jke {n:Int} {ll:List (List Int)} (h:boxB 2 2 n ll=true) (hn:n<=100) (k i a c d e f:Nat) (hi:i < 4) (ha:a < 2) (hc:c < 2) (hd:d < 2) (he:e < 2) (hf:f < 2):0<=chainT ll n k i a c d e f/\chainT ll n k i a c d e f<=1000000:=by
 rw [jfo ll n k i a c d e f rfl rfl rfl rfl];have k1:=jde k (2*(i / 2));have k2:=jde k (2*(i / 2)+1);have k3:=jde k (2 - 2*(i / 2));have k4:=jde k (3 - 2*(i / 2));have h1:=(job h (kBit k (2*(i / 2))^^^kBit k (2*(i / 2)+1)) (i%2) a c (jeo k1 k2) Kf ha hc).2;have h2:=jhm h (q:=kBit k (2 - 2*(i / 2))^^^kBit k (3 - 2*(i / 2))) (d:=d) (jeo k3 k4) hd;have h3:=(job h ((kBit k (2*(i / 2))^^^a)^^^(kBit k (2 - 2*(i / 2))^^^d)) (i / 2) e f (jeo (jeo k1 ha) (jeo k3 hd)) Kf he hf).2;have m:=jhp (a:=_) (b:=_) (c:=_) ⟨h1.1,Int.le_trans h1.2 hn⟩ ⟨h2.1,Int.le_trans h2.2.1 hn⟩ ⟨h3.1,Int.le_trans h3.2 hn⟩;have key:∀ (P:Prop) [Decidable P] (z:Int),(0<=z/\z<=1000000)->0<=(if P then z else 0)/\(if P then z else 0)<=1000000:=fun P _ z hz=>by
  split
  ·exact hz
  ·omega
 exact key _ _ m.2
def chF (ll:List (List Int)) (n:Int) (k i c:Nat):Int:=chainT ll n k i (c%2) (c / 2%2) (c / 4%2) (c / 8%2) (c / 16%2)
theorem chF_bd {n:Int} {ll:List (List Int)} (h:boxB 2 2 n ll=true) (hn:n<=100) (k i:Nat) (hi:i < 4):∀ c:Nat,0<=accT (chF ll n k i) c/\accT (chF ll n k i) c<=1000000*c
 | 0=>by simp [accT]
 | c+1=>by
  have ih:=chF_bd h hn k i hi c;have b:=jke h hn k i (c%2) (c / 2%2) (c / 4%2) (c / 8%2) (c / 16%2) hi Kf Kf Kf Kf Kf;show 0<=accT (chF ll n k i) c+chF ll n k i c/\accT (chF ll n k i) c+chF ll n k i c<=_;unfold chF at *;omega
theorem chain0_p (n:Int) (ll:List (List Int)) (h:boxB 2 2 n ll=true) (hn:n<=100) (k:Nat) (hk:k < 16):PC Tryz.prog 204 [.g [dI 2,dI 2,dI n,eII ll],.c (dI k),.c (dI 0)] (.p (.c (dI (chainR ll n k 0)))):=by
 have ar:=fun x y a c hx hy ha hc=>job h x y a c hx hy ha hc;have on:=fun q hq=>onesG_p 2 2 n ll h 0 q 0 Kf hq (by simp [szG]);have rt:=fun q d hq hd=>jhm h (q:=q) (d:=d) hq hd;have n1:=(jbo h).n1;have ct:=fun a c d e f=>jfo ll n k 0 a c d e f (s:=kBit k 0) (t:=kBit k 1) (u:=kBit k 2) (v:=kBit k 3) rfl rfl rfl rfl;have cb:=chF_bd h hn k 0 Kf;have cf:∀ c,chF ll n k 0 c=chainT ll n k 0 (c%2) (c / 2%2) (c / 4%2) (c / 8%2) (c / 16%2):=fun c=>rfl;have cr:chainR ll n k 0=accT (chF ll n k 0) 32:=rfl;have cs:∀ c,accT (chF ll n k 0) (c+1)=accT (chF ll n k 0) c+chF ll n k 0 c:=fun c=>rfl;have k0:=jde k 0;have k1:=jde k 1;have k2:=jde k 2;have k3:=jde k 3;have e0:kBit k 0=k / 1%2:=rfl;have e1:kBit k 1=k / 2%2:=rfl;have e2:kBit k 2=k / 4%2:=rfl;have e3:kBit k 3=k / 8%2:=rfl;rw [cr];clear cr;generalize kBit k 0=b0 at *;generalize kBit k 1=b1 at *;generalize kBit k 2=b2 at *;generalize kBit k 3=b3 at *;have q0:(k:Int)%2=(b0:Int):=by omega
 have q1:(k:Int) / 2%2=(b1:Int):=by omega
 have q2:(k:Int) / 4%2=(b2:Int):=by omega
 have q3:(k:Int) / 8%2=(b3:Int):=by omega
 generalize chF ll n k 0=CF at *;refine jao Tryz.func204 fun _=>?_;repeat' (first|(refine jaa (.box 38 _) ?_;refine jax rfl rfl ?_)|apply zaa ?_|apply zab ?_|apply zaz ?_|(refine jaa (.binOp .shr 3 _ _ _) ?_;(first|refine jab (jci (c:=2) rfl rfl Ybr) rfl ?_|refine jab (jci (c:=4) rfl rfl Ybr) rfl ?_|refine jab (jci (c:=8) rfl rfl Ybr) rfl ?_))|apply zcj ?_|(refine jaa (.build 243 _) ?_;refine jab (jbt (cs:=[_,_,_,_]) [(0,2),(2,2)] [.int .i64 0,.int .i64 0,.int .i64 0,.int .i64 0] Kb Kb rfl) rfl ?_)|(refine jaa (.alloc 243) ?_;refine jbi (zs:=[.int .i64 0,.int .i64 0,.int .i64 0,.int .i64 0]) Kb rfl ?_)|(refine jaa (.store 243 _ _) ?_;(refine jan rfl rfl rfl Kb rfl rfl ?_))|apply zbw ?_|apply zav ?_|refine jai ?_|refine jaj ?_|refine jac (id:=0) ?_|refine jac (id:=1) ?_|refine jac (id:=2) ?_)
 rw [q0,q1,q2,q3];refine jcy (jdy 8 (.c (.d (dI 0))) rfl rfl) ?_;refine jcy (jdy 9 (.c (.d (dI 1))) rfl rfl) ?_;repeat' (first|apply zaa ?_|apply zab ?_|refine jai ?_|refine jaj ?_|refine jah ?_|refine jac ?_)
 apply jbe [1,2,3,7,8,9,10,39] [3,7,17] rfl;exact Kh;exact Ybf;refine jbf [1,2,3,7,8,9] [3,7,17] (fun c=>[(39,iN c),(10,iZ (accT CF c))]) (fun _=>[]) (fun c=>c<=32) (fun c=>32 - c) (0) ?_ Kg Kv ?_
 ·omega
 intro c hc;by_cases hc2:c < 32
 ·have cbc:=cb c;have csc:=cs c;rw [cf,ct] at csc;obtain ⟨a,wa⟩:∃ a,c%2=a:=⟨_,rfl⟩;obtain ⟨x,wx⟩:∃ x,c / 2%2=x:=⟨_,rfl⟩;obtain ⟨d,wd⟩:∃ d,c / 4%2=d:=⟨_,rfl⟩;obtain ⟨e,we⟩:∃ e,c / 8%2=e:=⟨_,rfl⟩;obtain ⟨f,wf⟩:∃ f,c / 16%2=f:=⟨_,rfl⟩;rw [wa,wx,wd,we,wf] at csc;have ha:a < 2:=by omega
  have hx:x < 2:=by omega
  have hd:d < 2:=by omega
  have he:e < 2:=by omega
  have hf:f < 2:=by omega
  have r1:(c:Int)%2=(a:Int):=by omega
  have r2:(c:Int) / 2%2=(x:Int):=by omega
  have r3:(c:Int) / 4%2=(d:Int):=by omega
  have r4:(c:Int) / 8%2=(e:Int):=by omega
  have r5:(c:Int) / 16%2=(f:Int):=by omega
  have v0:=jeo k0 ha;have v1:=jeo k2 hd;have z0:=jer k0 ha;have z1:=jer k2 hd;have hst:=jeo k0 k1;have huv:=jeo k2 k3;have hmn:=jeo v0 v1;obtain ⟨p1,g1⟩:=ar (b0^^^b1) 0 a x hst Kf ha hx;obtain ⟨p3,g3⟩:=ar ((b0^^^a)^^^(b2^^^d)) 0 e f hmn Kf he hf;have po:=on (b2^^^b3) huv;have ro:=rt (b2^^^b3) d huv hd;have hcm:(b0^^^a)^^^(b2^^^d)=(b0^^^a)^^^(b2^^^d):=rfl;rw [hcm] at csc;have gs:(if 0 / 2=1 then b2^^^d else b0^^^a)=(b0^^^a):=rfl;rw [gs] at csc;clear ar on rt cb cs ct cf;have i1:0%2=0:=rfl;have i2:0 / 2=0:=rfl;rw [i1,i2] at csc;generalize hN:atZ (atZ ll ((2*(b0^^^b1)+0:Nat):Int)) ((2*a+x:Nat):Int)=N at *;generalize hO:atZ (atZ ll ((2*(b2^^^b3):Nat):Int)) ((2*d:Nat):Int)+atZ (atZ ll ((2*(b2^^^b3):Nat):Int)) ((2*d+1:Nat):Int)=O at *;generalize hT:atZ (atZ ll ((2*((b0^^^a)^^^(b2^^^d))+0:Nat):Int)) ((2*e+f:Nat):Int)=T at *;generalize hG:onG ll 2 0 (b2^^^b3) 0=G at *;rw [<- jer k0 k1] at p1;rw [<- jer k2 k3] at po;have mb:=jhp (a:=N) (b:=O) (c:=T) ⟨g1.1,by omega⟩ ⟨ro.1,by omega⟩ ⟨g3.1,by omega⟩;have zm:=jer v0 v1;rw [<- zm] at p3;repeat' (first|apply zaa ?_|apply zab ?_|apply zaz ?_|(refine jaa (.binOp .shr 3 _ _ _) ?_;(first|refine jab (jci (c:=2) rfl rfl Ybr) rfl ?_|refine jab (jci (c:=4) rfl rfl Ybr) rfl ?_|refine jab (jci (c:=8) rfl rfl Ybr) rfl ?_|refine jab (jci (c:=16) rfl rfl Ybr) rfl ?_))|apply zac ?_|refine jai ?_|refine jaj ?_|refine jah ?_|refine jaq rfl ?_|refine jam ?_|refine jac (id:=5) ?_|refine jac (id:=6) ?_|refine jac (id:=7) ?_|refine jac (id:=17) ?_|refine jbd rfl (fun hc=>?_) (fun hc=>?_)|exact Qaa|fail)
  rw [r1,r2,r3,r4,r5];repeat' (first|(with_reducible apply jeq)|intro Y hY|((with_reducible apply jff);exact Yak;(·rfl);exact Ko;exact Ko)|((with_reducible apply jfg);(·rfl);exact Kh;exact Ybi;exact Yak)|refine jdr ?_ ?_|apply zab ?_|apply zcj ?_|(refine jaa (.alloc 176) ?_;refine jbi (zs:=[.int .i64 0,.int .i64 0]) Kb rfl ?_)|(refine jaa (.store 176 _ _) ?_;(refine jan rfl rfl rfl Kb rfl rfl ?_))|apply zcw ?_|apply zbp ?_|apply zaf ?_|apply zbi ?_|(refine jaa (.store 3 _ _) ?_;(refine jbk rfl rfl rfl rfl Kb rfl rfl ?_))|refine jai ?_|refine jaj ?_|refine jac (id:=8) ?_|refine jcv 9 (fun i=>i == 15 || i == 17) (IT.lt (.step 17 false .nil) fun Y0=>(.step 0 true (.step 1 true (.step 2 true (.step 3 true (.step 4 true (.step 5 true (.step 6 true (.step 7 true (.step 8 true (.step 9 true (.step 10 true (.step 12 true (.step 14 true (.alt 9 (.step 11 false (.step 13 true (.step 15 false (.step 16 true (IT.ref true [1,2,3,7,8,9,10,12,13,14,15,16,17,39,70,72] [3,7,17] Y0))))) (.step 15 false (.step 11 true (.step 13 true (.step 16 true (IT.ref false [1,2,3,7,8,9,10,12,13,14,15,16,17,39,70,72] [3,7,17] Y0)))))))))))))))))))) ?_)
  rw [z0, z1];have x1:=jer v0 he;have x2:=jer (jeo v0 he) hf;have x3:=jer (jeo (jeo v0 he) hf) hx;repeat' (first|apply zaa ?_|apply zab ?_|apply zbp ?_|apply zaf ?_|apply zbi ?_|refine jai ?_|refine jaj ?_|refine jac (id:=10) ?_)
  rw [x1,x2,x3];have sh:(k:Int) / 2^Int.toNat 0%2=(b0:Int):=by
   have w:(2:Int)^Int.toNat 0=1:=by decide
   rw [w]; omega
  by_cases hq:(b0^^^a)^^^e^^^f^^^x=b0
  ·rw [if_pos hq] at csc;rw [hq];by_cases hd0:d=0
   ·rw [if_pos hd0] at ro;rw [ro.2.2] at csc mb;repeat' (first|apply zaa ?_|apply zab ?_|apply zaz ?_|apply zbt ?_|apply zav ?_|apply zcw ?_|apply zbp ?_|apply zaf ?_|apply zbi ?_|apply zbk ?_|apply zae ?_|apply zai ?_|apply zbh ?_|apply zbn ?_|apply zbe ?_|apply zad ?_|apply Ub (c:=po) (h:=?_)|(first|apply Ub (c:=p1) (h:=?_)|apply Ub (c:=p3) (h:=?_))|refine jai ?_|refine jaj ?_|refine jaz ?_|refine jaq rfl ?_|refine jam ?_|refine jac ?_|refine jav 12 (fun _=>false) [0,1,2,3,4,5,6,7,8,9,-11,11] ?_|refine jav 15 (fun _=>false) [0,1,2,3,4,5,6,7,8,9,10,11,12,13,14,16,18,19,20,21,22,23,24,25,26,-16,17,-28,28,29,30] ?_|refine jbd rfl (fun hc=>?_) (fun hc=>?_)|exact Qaa|fail)
    all_goals
     refine bkL (c+1) ?_ ?_
     ·omega
     ·omega
   ·rw [if_neg hd0] at ro;rw [ro.2.2] at csc mb;repeat' (first|apply zaa ?_|apply zab ?_|apply zaz ?_|apply zbt ?_|apply zav ?_|apply zcw ?_|apply zbp ?_|apply zaf ?_|apply zbi ?_|apply zbk ?_|apply zae ?_|apply zai ?_|apply zbh ?_|apply zbn ?_|apply zbe ?_|apply zad ?_|apply Ub (c:=po) (h:=?_)|(first|apply Ub (c:=p1) (h:=?_)|apply Ub (c:=p3) (h:=?_))|refine jai ?_|refine jaj ?_|refine jaz ?_|refine jaq rfl ?_|refine jam ?_|refine jac ?_|refine jav 12 (fun _=>false) [0,1,2,3,4,5,6,7,8,9,-11,11] ?_|refine jav 15 (fun _=>false) [0,1,2,3,4,5,6,7,8,9,10,11,12,13,14,16,18,19,20,21,22,23,24,25,26,-16,17,-28,28,29,30] ?_|refine jbd rfl (fun hc=>?_) (fun hc=>?_)|exact Qaa|fail)
    all_goals
     refine bkL (c+1) ?_ ?_
     ·omega
     ·omega
  ·rw [if_neg hq] at csc;repeat' (first|apply zab ?_|apply zaz ?_|apply zbt ?_|apply zbk ?_|apply zad ?_|refine jai ?_|refine jaj ?_|refine jaq rfl ?_|refine jam ?_|refine jac (id:=11) ?_|refine jac (id:=16) ?_|refine jbd rfl (fun hc=>?_) (fun hc=>?_)|exact Qaa|fail)
   all_goals
    repeat' fail
    refine bkL (c+1) ?_ ?_
    ·omega
    ·omega
 ·exact Dam
theorem chain1_p (n:Int) (ll:List (List Int)) (h:boxB 2 2 n ll=true) (hn:n<=100) (k:Nat) (hk:k < 16):PC Tryz.prog 204 [.g [dI 2,dI 2,dI n,eII ll],.c (dI k),.c (dI 1)] (.p (.c (dI (chainR ll n k 1)))):=by
 have ar:=fun x y a c hx hy ha hc=>job h x y a c hx hy ha hc;have on:=fun q hq=>onesG_p 2 2 n ll h 0 q 0 Kf hq (by simp [szG]);have rt:=fun q d hq hd=>jhm h (q:=q) (d:=d) hq hd;have n1:=(jbo h).n1;have ct:=fun a c d e f=>jfo ll n k 1 a c d e f (s:=kBit k 0) (t:=kBit k 1) (u:=kBit k 2) (v:=kBit k 3) rfl rfl rfl rfl;have cb:=chF_bd h hn k 1 Kf;have cf:∀ c,chF ll n k 1 c=chainT ll n k 1 (c%2) (c / 2%2) (c / 4%2) (c / 8%2) (c / 16%2):=fun c=>rfl;have cr:chainR ll n k 1=accT (chF ll n k 1) 32:=rfl;have cs:∀ c,accT (chF ll n k 1) (c+1)=accT (chF ll n k 1) c+chF ll n k 1 c:=fun c=>rfl;have k0:=jde k 0;have k1:=jde k 1;have k2:=jde k 2;have k3:=jde k 3;have e0:kBit k 0=k / 1%2:=rfl;have e1:kBit k 1=k / 2%2:=rfl;have e2:kBit k 2=k / 4%2:=rfl;have e3:kBit k 3=k / 8%2:=rfl;rw [cr];clear cr;generalize kBit k 0=b0 at *;generalize kBit k 1=b1 at *;generalize kBit k 2=b2 at *;generalize kBit k 3=b3 at *;have q0:(k:Int)%2=(b0:Int):=by omega
 have q1:(k:Int) / 2%2=(b1:Int):=by omega
 have q2:(k:Int) / 4%2=(b2:Int):=by omega
 have q3:(k:Int) / 8%2=(b3:Int):=by omega
 generalize chF ll n k 1=CF at *;refine jao Tryz.func204 fun _=>?_;repeat' (first|(refine jaa (.box 38 _) ?_;refine jax rfl rfl ?_)|apply zaa ?_|apply zab ?_|apply zaz ?_|(refine jaa (.binOp .shr 3 _ _ _) ?_;(first|refine jab (jci (c:=2) rfl rfl Ybr) rfl ?_|refine jab (jci (c:=4) rfl rfl Ybr) rfl ?_|refine jab (jci (c:=8) rfl rfl Ybr) rfl ?_))|apply zcj ?_|(refine jaa (.build 243 _) ?_;refine jab (jbt (cs:=[_,_,_,_]) [(0,2),(2,2)] [.int .i64 0,.int .i64 0,.int .i64 0,.int .i64 0] Kb Kb rfl) rfl ?_)|(refine jaa (.alloc 243) ?_;refine jbi (zs:=[.int .i64 0,.int .i64 0,.int .i64 0,.int .i64 0]) Kb rfl ?_)|(refine jaa (.store 243 _ _) ?_;(refine jan rfl rfl rfl Kb rfl rfl ?_))|apply zbw ?_|apply zav ?_|refine jai ?_|refine jaj ?_|refine jac (id:=0) ?_|refine jac (id:=1) ?_|refine jac (id:=2) ?_)
 rw [q0,q1,q2,q3];refine jcy (jdy 8 (.c (.d (dI 0))) rfl rfl) ?_;refine jcy (jdy 9 (.c (.d (dI 1))) rfl rfl) ?_;repeat' (first|apply zaa ?_|apply zab ?_|refine jai ?_|refine jaj ?_|refine jah ?_|refine jac ?_)
 apply jbe [1,2,3,7,8,9,10,39] [3,7,17] rfl;exact Kh;exact Ybf;refine jbf [1,2,3,7,8,9] [3,7,17] (fun c=>[(39,iN c),(10,iZ (accT CF c))]) (fun _=>[]) (fun c=>c<=32) (fun c=>32 - c) (0) ?_ Kg Kv ?_
 ·omega
 intro c hc;by_cases hc2:c < 32
 ·have cbc:=cb c;have csc:=cs c;rw [cf,ct] at csc;obtain ⟨a,wa⟩:∃ a,c%2=a:=⟨_,rfl⟩;obtain ⟨x,wx⟩:∃ x,c / 2%2=x:=⟨_,rfl⟩;obtain ⟨d,wd⟩:∃ d,c / 4%2=d:=⟨_,rfl⟩;obtain ⟨e,we⟩:∃ e,c / 8%2=e:=⟨_,rfl⟩;obtain ⟨f,wf⟩:∃ f,c / 16%2=f:=⟨_,rfl⟩;rw [wa,wx,wd,we,wf] at csc;have ha:a < 2:=by omega
  have hx:x < 2:=by omega
  have hd:d < 2:=by omega
  have he:e < 2:=by omega
  have hf:f < 2:=by omega
  have r1:(c:Int)%2=(a:Int):=by omega
  have r2:(c:Int) / 2%2=(x:Int):=by omega
  have r3:(c:Int) / 4%2=(d:Int):=by omega
  have r4:(c:Int) / 8%2=(e:Int):=by omega
  have r5:(c:Int) / 16%2=(f:Int):=by omega
  have v0:=jeo k0 ha;have v1:=jeo k2 hd;have z0:=jer k0 ha;have z1:=jer k2 hd;have hst:=jeo k0 k1;have huv:=jeo k2 k3;have hmn:=jeo v0 v1;obtain ⟨p1,g1⟩:=ar (b0^^^b1) 1 a x hst Kf ha hx;obtain ⟨p3,g3⟩:=ar ((b0^^^a)^^^(b2^^^d)) 0 e f hmn Kf he hf;have po:=on (b2^^^b3) huv;have ro:=rt (b2^^^b3) d huv hd;have hcm:(b0^^^a)^^^(b2^^^d)=(b0^^^a)^^^(b2^^^d):=rfl;rw [hcm] at csc;have gs:(if 1 / 2=1 then b2^^^d else b0^^^a)=(b0^^^a):=rfl;rw [gs] at csc;clear ar on rt cb cs ct cf;have i1:1%2=1:=rfl;have i2:1 / 2=0:=rfl;rw [i1,i2] at csc;generalize hN:atZ (atZ ll ((2*(b0^^^b1)+1:Nat):Int)) ((2*a+x:Nat):Int)=N at *;generalize hO:atZ (atZ ll ((2*(b2^^^b3):Nat):Int)) ((2*d:Nat):Int)+atZ (atZ ll ((2*(b2^^^b3):Nat):Int)) ((2*d+1:Nat):Int)=O at *;generalize hT:atZ (atZ ll ((2*((b0^^^a)^^^(b2^^^d))+0:Nat):Int)) ((2*e+f:Nat):Int)=T at *;generalize hG:onG ll 2 0 (b2^^^b3) 0=G at *;rw [<- jer k0 k1] at p1;rw [<- jer k2 k3] at po;have mb:=jhp (a:=N) (b:=O) (c:=T) ⟨g1.1,by omega⟩ ⟨ro.1,by omega⟩ ⟨g3.1,by omega⟩;have zm:=jer v0 v1;rw [<- zm] at p3;repeat' (first|apply zaa ?_|apply zab ?_|apply zaz ?_|(refine jaa (.binOp .shr 3 _ _ _) ?_;(first|refine jab (jci (c:=2) rfl rfl Ybr) rfl ?_|refine jab (jci (c:=4) rfl rfl Ybr) rfl ?_|refine jab (jci (c:=8) rfl rfl Ybr) rfl ?_|refine jab (jci (c:=16) rfl rfl Ybr) rfl ?_))|apply zac ?_|refine jai ?_|refine jaj ?_|refine jah ?_|refine jaq rfl ?_|refine jam ?_|refine jac (id:=5) ?_|refine jac (id:=6) ?_|refine jac (id:=7) ?_|refine jac (id:=17) ?_|refine jbd rfl (fun hc=>?_) (fun hc=>?_)|exact Qaa|fail)
  rw [r1,r2,r3,r4,r5];repeat' (first|(with_reducible apply jeq)|intro Y hY|((with_reducible apply jff);exact Yak;(·rfl);exact Ko;exact Ko)|((with_reducible apply jfg);(·rfl);exact Kh;exact Ybi;exact Yak)|refine jdr ?_ ?_|apply zab ?_|apply zcj ?_|(refine jaa (.alloc 176) ?_;refine jbi (zs:=[.int .i64 0,.int .i64 0]) Kb rfl ?_)|(refine jaa (.store 176 _ _) ?_;(refine jan rfl rfl rfl Kb rfl rfl ?_))|apply zcw ?_|apply zbp ?_|apply zaf ?_|apply zbi ?_|(refine jaa (.store 3 _ _) ?_;(refine jbk rfl rfl rfl rfl Kb rfl rfl ?_))|refine jai ?_|refine jaj ?_|refine jac (id:=8) ?_|refine jcv 9 (fun i=>i == 15 || i == 17) (IT.lt (.step 17 false .nil) fun Y0=>(.step 0 true (.step 1 true (.step 2 true (.step 3 true (.step 4 true (.step 5 true (.step 6 true (.step 7 true (.step 8 true (.step 9 true (.step 10 true (.step 12 true (.step 14 true (.alt 9 (.step 11 false (.step 13 true (.step 15 false (.step 16 true (IT.ref true [1,2,3,7,8,9,10,12,13,14,15,16,17,39,70,72] [3,7,17] Y0))))) (.step 15 false (.step 11 true (.step 13 true (.step 16 true (IT.ref false [1,2,3,7,8,9,10,12,13,14,15,16,17,39,70,72] [3,7,17] Y0)))))))))))))))))))) ?_)
  rw [z0, z1];have x1:=jer v0 he;have x2:=jer (jeo v0 he) hf;have x3:=jer (jeo (jeo v0 he) hf) hx;repeat' (first|apply zaa ?_|apply zab ?_|apply zbp ?_|apply zaf ?_|apply zbi ?_|refine jai ?_|refine jaj ?_|refine jac (id:=10) ?_)
  rw [x1,x2,x3];have sh:(k:Int) / 2^Int.toNat 1%2=(b1:Int):=by
   have w:(2:Int)^Int.toNat 1=2:=by decide
   rw [w]; omega
  by_cases hq:(b0^^^a)^^^e^^^f^^^x=b1
  ·rw [if_pos hq] at csc;rw [hq];by_cases hd0:d=0
   ·rw [if_pos hd0] at ro;rw [ro.2.2] at csc mb;repeat' (first|apply zaa ?_|apply zab ?_|apply zaz ?_|apply zco ?_|apply zav ?_|apply zcw ?_|apply zbp ?_|apply zaf ?_|apply zbi ?_|apply zbk ?_|apply zae ?_|apply zai ?_|apply zbh ?_|apply zbn ?_|apply zbe ?_|apply zad ?_|apply Ub (c:=po) (h:=?_)|(first|apply Ub (c:=p1) (h:=?_)|apply Ub (c:=p3) (h:=?_))|refine jai ?_|refine jaj ?_|refine jaz ?_|refine jaq rfl ?_|refine jam ?_|refine jac ?_|refine jav 12 (fun _=>false) [0,1,2,3,4,5,6,7,8,9,-11,11] ?_|refine jav 15 (fun _=>false) [0,1,2,3,4,5,6,7,8,9,10,11,12,13,14,16,18,19,20,21,22,23,24,25,26,-16,17,-28,28,29,30] ?_|refine jbd rfl (fun hc=>?_) (fun hc=>?_)|exact Qaa|fail)
    all_goals
     refine bkL (c+1) ?_ ?_
     ·omega
     ·omega
   ·rw [if_neg hd0] at ro;rw [ro.2.2] at csc mb;repeat' (first|apply zaa ?_|apply zab ?_|apply zaz ?_|apply zco ?_|apply zav ?_|apply zcw ?_|apply zbp ?_|apply zaf ?_|apply zbi ?_|apply zbk ?_|apply zae ?_|apply zai ?_|apply zbh ?_|apply zbn ?_|apply zbe ?_|apply zad ?_|apply Ub (c:=po) (h:=?_)|(first|apply Ub (c:=p1) (h:=?_)|apply Ub (c:=p3) (h:=?_))|refine jai ?_|refine jaj ?_|refine jaz ?_|refine jaq rfl ?_|refine jam ?_|refine jac ?_|refine jav 12 (fun _=>false) [0,1,2,3,4,5,6,7,8,9,-11,11] ?_|refine jav 15 (fun _=>false) [0,1,2,3,4,5,6,7,8,9,10,11,12,13,14,16,18,19,20,21,22,23,24,25,26,-16,17,-28,28,29,30] ?_|refine jbd rfl (fun hc=>?_) (fun hc=>?_)|exact Qaa|fail)
    all_goals
     refine bkL (c+1) ?_ ?_
     ·omega
     ·omega
  ·rw [if_neg hq] at csc;repeat' (first|apply zab ?_|apply zaz ?_|apply zco ?_|apply zbk ?_|apply zad ?_|refine jai ?_|refine jaj ?_|refine jaq rfl ?_|refine jam ?_|refine jac (id:=11) ?_|refine jac (id:=16) ?_|refine jbd rfl (fun hc=>?_) (fun hc=>?_)|exact Qaa|fail)
   all_goals
    repeat' fail
    refine bkL (c+1) ?_ ?_
    ·omega
    ·omega
 ·exact Dam
theorem chain2_p (n:Int) (ll:List (List Int)) (h:boxB 2 2 n ll=true) (hn:n<=100) (k:Nat) (hk:k < 16):PC Tryz.prog 204 [.g [dI 2,dI 2,dI n,eII ll],.c (dI k),.c (dI 2)] (.p (.c (dI (chainR ll n k 2)))):=by
 have ar:=fun x y a c hx hy ha hc=>job h x y a c hx hy ha hc;have on:=fun q hq=>onesG_p 2 2 n ll h 0 q 0 Kf hq (by simp [szG]);have rt:=fun q d hq hd=>jhm h (q:=q) (d:=d) hq hd;have n1:=(jbo h).n1;have ct:=fun a c d e f=>jfo ll n k 2 a c d e f (s:=kBit k 2) (t:=kBit k 3) (u:=kBit k 0) (v:=kBit k 1) rfl rfl rfl rfl;have cb:=chF_bd h hn k 2 Kf;have cf:∀ c,chF ll n k 2 c=chainT ll n k 2 (c%2) (c / 2%2) (c / 4%2) (c / 8%2) (c / 16%2):=fun c=>rfl;have cr:chainR ll n k 2=accT (chF ll n k 2) 32:=rfl;have cs:∀ c,accT (chF ll n k 2) (c+1)=accT (chF ll n k 2) c+chF ll n k 2 c:=fun c=>rfl;have k0:=jde k 0;have k1:=jde k 1;have k2:=jde k 2;have k3:=jde k 3;have e0:kBit k 0=k / 1%2:=rfl;have e1:kBit k 1=k / 2%2:=rfl;have e2:kBit k 2=k / 4%2:=rfl;have e3:kBit k 3=k / 8%2:=rfl;rw [cr];clear cr;generalize kBit k 0=b0 at *;generalize kBit k 1=b1 at *;generalize kBit k 2=b2 at *;generalize kBit k 3=b3 at *;have q0:(k:Int)%2=(b0:Int):=by omega
 have q1:(k:Int) / 2%2=(b1:Int):=by omega
 have q2:(k:Int) / 4%2=(b2:Int):=by omega
 have q3:(k:Int) / 8%2=(b3:Int):=by omega
 generalize chF ll n k 2=CF at *;refine jao Tryz.func204 fun _=>?_;repeat' (first|(refine jaa (.box 38 _) ?_;refine jax rfl rfl ?_)|apply zaa ?_|apply zab ?_|apply zaz ?_|(refine jaa (.binOp .shr 3 _ _ _) ?_;(first|refine jab (jci (c:=2) rfl rfl Ybr) rfl ?_|refine jab (jci (c:=4) rfl rfl Ybr) rfl ?_|refine jab (jci (c:=8) rfl rfl Ybr) rfl ?_))|apply zcj ?_|(refine jaa (.build 243 _) ?_;refine jab (jbt (cs:=[_,_,_,_]) [(0,2),(2,2)] [.int .i64 0,.int .i64 0,.int .i64 0,.int .i64 0] Kb Kb rfl) rfl ?_)|(refine jaa (.alloc 243) ?_;refine jbi (zs:=[.int .i64 0,.int .i64 0,.int .i64 0,.int .i64 0]) Kb rfl ?_)|(refine jaa (.store 243 _ _) ?_;(refine jan rfl rfl rfl Kb rfl rfl ?_))|apply zbw ?_|apply zav ?_|refine jai ?_|refine jaj ?_|refine jac (id:=0) ?_|refine jac (id:=1) ?_|refine jac (id:=2) ?_)
 rw [q0,q1,q2,q3];refine jcy (jdy 8 (.c (.d (dI 1))) rfl rfl) ?_;refine jcy (jdy 9 (.c (.d (dI 0))) rfl rfl) ?_;repeat' (first|apply zaa ?_|apply zab ?_|refine jai ?_|refine jaj ?_|refine jah ?_|refine jac ?_)
 apply jbe [1,2,3,7,8,9,10,39] [3,7,17] rfl;exact Kh;exact Ybf;refine jbf [1,2,3,7,8,9] [3,7,17] (fun c=>[(39,iN c),(10,iZ (accT CF c))]) (fun _=>[]) (fun c=>c<=32) (fun c=>32 - c) (0) ?_ Kg Kv ?_
 ·omega
 intro c hc;by_cases hc2:c < 32
 ·have cbc:=cb c;have csc:=cs c;rw [cf,ct] at csc;obtain ⟨a,wa⟩:∃ a,c%2=a:=⟨_,rfl⟩;obtain ⟨x,wx⟩:∃ x,c / 2%2=x:=⟨_,rfl⟩;obtain ⟨d,wd⟩:∃ d,c / 4%2=d:=⟨_,rfl⟩;obtain ⟨e,we⟩:∃ e,c / 8%2=e:=⟨_,rfl⟩;obtain ⟨f,wf⟩:∃ f,c / 16%2=f:=⟨_,rfl⟩;rw [wa,wx,wd,we,wf] at csc;have ha:a < 2:=by omega
  have hx:x < 2:=by omega
  have hd:d < 2:=by omega
  have he:e < 2:=by omega
  have hf:f < 2:=by omega
  have r1:(c:Int)%2=(a:Int):=by omega
  have r2:(c:Int) / 2%2=(x:Int):=by omega
  have r3:(c:Int) / 4%2=(d:Int):=by omega
  have r4:(c:Int) / 8%2=(e:Int):=by omega
  have r5:(c:Int) / 16%2=(f:Int):=by omega
  have v0:=jeo k0 hd;have v1:=jeo k2 ha;have z0:=jer k0 hd;have z1:=jer k2 ha;have hst:=jeo k2 k3;have huv:=jeo k0 k1;have hmn:=jeo v0 v1;obtain ⟨p1,g1⟩:=ar (b2^^^b3) 0 a x hst Kf ha hx;obtain ⟨p3,g3⟩:=ar ((b0^^^d)^^^(b2^^^a)) 1 e f hmn Kf he hf;have po:=on (b0^^^b1) huv;have ro:=rt (b0^^^b1) d huv hd;have hcm:(b2^^^a)^^^(b0^^^d)=(b0^^^d)^^^(b2^^^a):=Nat.xor_comm _ _;rw [hcm] at csc;have gs:(if 2 / 2=1 then b0^^^d else b2^^^a)=(b0^^^d):=rfl;rw [gs] at csc;clear ar on rt cb cs ct cf;have i1:2%2=0:=rfl;have i2:2 / 2=1:=rfl;rw [i1,i2] at csc;generalize hN:atZ (atZ ll ((2*(b2^^^b3)+0:Nat):Int)) ((2*a+x:Nat):Int)=N at *;generalize hO:atZ (atZ ll ((2*(b0^^^b1):Nat):Int)) ((2*d:Nat):Int)+atZ (atZ ll ((2*(b0^^^b1):Nat):Int)) ((2*d+1:Nat):Int)=O at *;generalize hT:atZ (atZ ll ((2*((b0^^^d)^^^(b2^^^a))+1:Nat):Int)) ((2*e+f:Nat):Int)=T at *;generalize hG:onG ll 2 0 (b0^^^b1) 0=G at *;rw [<- jer k2 k3] at p1;rw [<- jer k0 k1] at po;have mb:=jhp (a:=N) (b:=O) (c:=T) ⟨g1.1,by omega⟩ ⟨ro.1,by omega⟩ ⟨g3.1,by omega⟩;have zm:=jer v0 v1;rw [<- zm] at p3;repeat' (first|apply zaa ?_|apply zab ?_|apply zaz ?_|(refine jaa (.binOp .shr 3 _ _ _) ?_;(first|refine jab (jci (c:=2) rfl rfl Ybr) rfl ?_|refine jab (jci (c:=4) rfl rfl Ybr) rfl ?_|refine jab (jci (c:=8) rfl rfl Ybr) rfl ?_|refine jab (jci (c:=16) rfl rfl Ybr) rfl ?_))|apply zac ?_|refine jai ?_|refine jaj ?_|refine jah ?_|refine jaq rfl ?_|refine jam ?_|refine jac (id:=5) ?_|refine jac (id:=6) ?_|refine jac (id:=7) ?_|refine jac (id:=17) ?_|refine jbd rfl (fun hc=>?_) (fun hc=>?_)|exact Qaa|fail)
  rw [r1,r2,r3,r4,r5];repeat' (first|(with_reducible apply jeq)|intro Y hY|((with_reducible apply jff);exact Yak;(·rfl);exact Ko;exact Ko)|((with_reducible apply jfg);(·rfl);exact Kh;exact Ybi;exact Yak)|refine jdr ?_ ?_|apply zab ?_|apply zcj ?_|(refine jaa (.alloc 176) ?_;refine jbi (zs:=[.int .i64 0,.int .i64 0]) Kb rfl ?_)|(refine jaa (.store 176 _ _) ?_;(refine jan rfl rfl rfl Kb rfl rfl ?_))|apply zcw ?_|apply zbp ?_|apply zaf ?_|apply zbi ?_|(refine jaa (.store 3 _ _) ?_;(refine jbk rfl rfl rfl rfl Kb rfl rfl ?_))|refine jai ?_|refine jaj ?_|refine jac (id:=8) ?_|refine jcv 9 (fun i=>i == 15 || i == 17) (IT.lt (.step 17 false .nil) fun Y0=>(.step 0 true (.step 1 true (.step 2 true (.step 3 true (.step 4 true (.step 5 true (.step 6 true (.step 7 true (.step 8 true (.step 9 true (.step 10 true (.step 12 true (.step 14 true (.alt 9 (.step 11 false (.step 13 true (.step 15 false (.step 16 true (IT.ref true [1,2,3,7,8,9,10,12,13,14,15,16,17,39,70,72] [3,7,17] Y0))))) (.step 15 false (.step 11 true (.step 13 true (.step 16 true (IT.ref false [1,2,3,7,8,9,10,12,13,14,15,16,17,39,70,72] [3,7,17] Y0)))))))))))))))))))) ?_)
  rw [z0, z1];have x1:=jer v0 he;have x2:=jer (jeo v0 he) hf;have x3:=jer (jeo (jeo v0 he) hf) hx;repeat' (first|apply zaa ?_|apply zab ?_|apply zbp ?_|apply zaf ?_|apply zbi ?_|refine jai ?_|refine jaj ?_|refine jac (id:=10) ?_)
  rw [x1,x2,x3];have sh:(k:Int) / 2^Int.toNat 2%2=(b2:Int):=by
   have w:(2:Int)^Int.toNat 2=4:=by decide
   rw [w]; omega
  by_cases hq:(b0^^^d)^^^e^^^f^^^x=b2
  ·rw [if_pos hq] at csc;rw [hq];by_cases hd0:d=0
   ·rw [if_pos hd0] at ro;rw [ro.2.2] at csc mb;repeat' (first|apply zaa ?_|apply zab ?_|apply zaz ?_|refine zej (jci (c:=4) rfl rfl Ybr) ?_|apply zav ?_|apply zcw ?_|apply zbp ?_|apply zaf ?_|apply zbi ?_|apply zbk ?_|apply zae ?_|apply zai ?_|apply zbh ?_|apply zbn ?_|apply zbe ?_|apply zad ?_|apply Ub (c:=po) (h:=?_)|(first|apply Ub (c:=p1) (h:=?_)|apply Ub (c:=p3) (h:=?_))|refine jai ?_|refine jaj ?_|refine jaz ?_|refine jaq rfl ?_|refine jam ?_|refine jac ?_|refine jav 12 (fun _=>false) [0,1,2,3,4,5,6,7,8,9,-11,11] ?_|refine jav 15 (fun _=>false) [0,1,2,3,4,5,6,7,8,9,10,11,12,13,14,16,18,19,20,21,22,23,24,25,26,-16,17,-28,28,29,30] ?_|refine jbd rfl (fun hc=>?_) (fun hc=>?_)|exact Qaa|fail)
    all_goals
     refine bkL (c+1) ?_ ?_
     ·omega
     ·omega
   ·rw [if_neg hd0] at ro;rw [ro.2.2] at csc mb;repeat' (first|apply zaa ?_|apply zab ?_|apply zaz ?_|refine zej (jci (c:=4) rfl rfl Ybr) ?_|apply zav ?_|apply zcw ?_|apply zbp ?_|apply zaf ?_|apply zbi ?_|apply zbk ?_|apply zae ?_|apply zai ?_|apply zbh ?_|apply zbn ?_|apply zbe ?_|apply zad ?_|apply Ub (c:=po) (h:=?_)|(first|apply Ub (c:=p1) (h:=?_)|apply Ub (c:=p3) (h:=?_))|refine jai ?_|refine jaj ?_|refine jaz ?_|refine jaq rfl ?_|refine jam ?_|refine jac ?_|refine jav 12 (fun _=>false) [0,1,2,3,4,5,6,7,8,9,-11,11] ?_|refine jav 15 (fun _=>false) [0,1,2,3,4,5,6,7,8,9,10,11,12,13,14,16,18,19,20,21,22,23,24,25,26,-16,17,-28,28,29,30] ?_|refine jbd rfl (fun hc=>?_) (fun hc=>?_)|exact Qaa|fail)
    all_goals
     refine bkL (c+1) ?_ ?_
     ·omega
     ·omega
  ·rw [if_neg hq] at csc;repeat' (first|apply zab ?_|apply zaz ?_|refine zej (jci (c:=4) rfl rfl Ybr) ?_|apply zbk ?_|apply zad ?_|refine jai ?_|refine jaj ?_|refine jaq rfl ?_|refine jam ?_|refine jac (id:=11) ?_|refine jac (id:=16) ?_|refine jbd rfl (fun hc=>?_) (fun hc=>?_)|exact Qaa|fail)
   all_goals
    repeat' fail
    refine bkL (c+1) ?_ ?_
    ·omega
    ·omega
 ·exact Dam
theorem chain3_p (n:Int) (ll:List (List Int)) (h:boxB 2 2 n ll=true) (hn:n<=100) (k:Nat) (hk:k < 16):PC Tryz.prog 204 [.g [dI 2,dI 2,dI n,eII ll],.c (dI k),.c (dI 3)] (.p (.c (dI (chainR ll n k 3)))):=by
 have ar:=fun x y a c hx hy ha hc=>job h x y a c hx hy ha hc;have on:=fun q hq=>onesG_p 2 2 n ll h 0 q 0 Kf hq (by simp [szG]);have rt:=fun q d hq hd=>jhm h (q:=q) (d:=d) hq hd;have n1:=(jbo h).n1;have ct:=fun a c d e f=>jfo ll n k 3 a c d e f (s:=kBit k 2) (t:=kBit k 3) (u:=kBit k 0) (v:=kBit k 1) rfl rfl rfl rfl;have cb:=chF_bd h hn k 3 Kf;have cf:∀ c,chF ll n k 3 c=chainT ll n k 3 (c%2) (c / 2%2) (c / 4%2) (c / 8%2) (c / 16%2):=fun c=>rfl;have cr:chainR ll n k 3=accT (chF ll n k 3) 32:=rfl;have cs:∀ c,accT (chF ll n k 3) (c+1)=accT (chF ll n k 3) c+chF ll n k 3 c:=fun c=>rfl;have k0:=jde k 0;have k1:=jde k 1;have k2:=jde k 2;have k3:=jde k 3;have e0:kBit k 0=k / 1%2:=rfl;have e1:kBit k 1=k / 2%2:=rfl;have e2:kBit k 2=k / 4%2:=rfl;have e3:kBit k 3=k / 8%2:=rfl;rw [cr];clear cr;generalize kBit k 0=b0 at *;generalize kBit k 1=b1 at *;generalize kBit k 2=b2 at *;generalize kBit k 3=b3 at *;have q0:(k:Int)%2=(b0:Int):=by omega
 have q1:(k:Int) / 2%2=(b1:Int):=by omega
 have q2:(k:Int) / 4%2=(b2:Int):=by omega
 have q3:(k:Int) / 8%2=(b3:Int):=by omega
 generalize chF ll n k 3=CF at *;refine jao Tryz.func204 fun _=>?_;repeat' (first|(refine jaa (.box 38 _) ?_;refine jax rfl rfl ?_)|apply zaa ?_|apply zab ?_|apply zaz ?_|(refine jaa (.binOp .shr 3 _ _ _) ?_;(first|refine jab (jci (c:=2) rfl rfl Ybr) rfl ?_|refine jab (jci (c:=4) rfl rfl Ybr) rfl ?_|refine jab (jci (c:=8) rfl rfl Ybr) rfl ?_))|apply zcj ?_|(refine jaa (.build 243 _) ?_;refine jab (jbt (cs:=[_,_,_,_]) [(0,2),(2,2)] [.int .i64 0,.int .i64 0,.int .i64 0,.int .i64 0] Kb Kb rfl) rfl ?_)|(refine jaa (.alloc 243) ?_;refine jbi (zs:=[.int .i64 0,.int .i64 0,.int .i64 0,.int .i64 0]) Kb rfl ?_)|(refine jaa (.store 243 _ _) ?_;(refine jan rfl rfl rfl Kb rfl rfl ?_))|apply zbw ?_|apply zav ?_|refine jai ?_|refine jaj ?_|refine jac (id:=0) ?_|refine jac (id:=1) ?_|refine jac (id:=2) ?_)
 rw [q0,q1,q2,q3];refine jcy (jdy 8 (.c (.d (dI 1))) rfl rfl) ?_;refine jcy (jdy 9 (.c (.d (dI 0))) rfl rfl) ?_;repeat' (first|apply zaa ?_|apply zab ?_|refine jai ?_|refine jaj ?_|refine jah ?_|refine jac ?_)
 apply jbe [1,2,3,7,8,9,10,39] [3,7,17] rfl;exact Kh;exact Ybf;refine jbf [1,2,3,7,8,9] [3,7,17] (fun c=>[(39,iN c),(10,iZ (accT CF c))]) (fun _=>[]) (fun c=>c<=32) (fun c=>32 - c) (0) ?_ Kg Kv ?_
 ·omega
 intro c hc;by_cases hc2:c < 32
 ·have cbc:=cb c;have csc:=cs c;rw [cf,ct] at csc;obtain ⟨a,wa⟩:∃ a,c%2=a:=⟨_,rfl⟩;obtain ⟨x,wx⟩:∃ x,c / 2%2=x:=⟨_,rfl⟩;obtain ⟨d,wd⟩:∃ d,c / 4%2=d:=⟨_,rfl⟩;obtain ⟨e,we⟩:∃ e,c / 8%2=e:=⟨_,rfl⟩;obtain ⟨f,wf⟩:∃ f,c / 16%2=f:=⟨_,rfl⟩;rw [wa,wx,wd,we,wf] at csc;have ha:a < 2:=by omega
  have hx:x < 2:=by omega
  have hd:d < 2:=by omega
  have he:e < 2:=by omega
  have hf:f < 2:=by omega
  have r1:(c:Int)%2=(a:Int):=by omega
  have r2:(c:Int) / 2%2=(x:Int):=by omega
  have r3:(c:Int) / 4%2=(d:Int):=by omega
  have r4:(c:Int) / 8%2=(e:Int):=by omega
  have r5:(c:Int) / 16%2=(f:Int):=by omega
  have v0:=jeo k0 hd;have v1:=jeo k2 ha;have z0:=jer k0 hd;have z1:=jer k2 ha;have hst:=jeo k2 k3;have huv:=jeo k0 k1;have hmn:=jeo v0 v1;obtain ⟨p1,g1⟩:=ar (b2^^^b3) 1 a x hst Kf ha hx;obtain ⟨p3,g3⟩:=ar ((b0^^^d)^^^(b2^^^a)) 1 e f hmn Kf he hf;have po:=on (b0^^^b1) huv;have ro:=rt (b0^^^b1) d huv hd;have hcm:(b2^^^a)^^^(b0^^^d)=(b0^^^d)^^^(b2^^^a):=Nat.xor_comm _ _;rw [hcm] at csc;have gs:(if 3 / 2=1 then b0^^^d else b2^^^a)=(b0^^^d):=rfl;rw [gs] at csc;clear ar on rt cb cs ct cf;have i1:3%2=1:=rfl;have i2:3 / 2=1:=rfl;rw [i1,i2] at csc;generalize hN:atZ (atZ ll ((2*(b2^^^b3)+1:Nat):Int)) ((2*a+x:Nat):Int)=N at *;generalize hO:atZ (atZ ll ((2*(b0^^^b1):Nat):Int)) ((2*d:Nat):Int)+atZ (atZ ll ((2*(b0^^^b1):Nat):Int)) ((2*d+1:Nat):Int)=O at *;generalize hT:atZ (atZ ll ((2*((b0^^^d)^^^(b2^^^a))+1:Nat):Int)) ((2*e+f:Nat):Int)=T at *;generalize hG:onG ll 2 0 (b0^^^b1) 0=G at *;rw [<- jer k2 k3] at p1;rw [<- jer k0 k1] at po;have mb:=jhp (a:=N) (b:=O) (c:=T) ⟨g1.1,by omega⟩ ⟨ro.1,by omega⟩ ⟨g3.1,by omega⟩;have zm:=jer v0 v1;rw [<- zm] at p3;repeat' (first|apply zaa ?_|apply zab ?_|apply zaz ?_|(refine jaa (.binOp .shr 3 _ _ _) ?_;(first|refine jab (jci (c:=2) rfl rfl Ybr) rfl ?_|refine jab (jci (c:=4) rfl rfl Ybr) rfl ?_|refine jab (jci (c:=8) rfl rfl Ybr) rfl ?_|refine jab (jci (c:=16) rfl rfl Ybr) rfl ?_))|apply zac ?_|refine jai ?_|refine jaj ?_|refine jah ?_|refine jaq rfl ?_|refine jam ?_|refine jac (id:=5) ?_|refine jac (id:=6) ?_|refine jac (id:=7) ?_|refine jac (id:=17) ?_|refine jbd rfl (fun hc=>?_) (fun hc=>?_)|exact Qaa|fail)
  rw [r1,r2,r3,r4,r5];repeat' (first|(with_reducible apply jeq)|intro Y hY|((with_reducible apply jff);exact Yak;(·rfl);exact Ko;exact Ko)|((with_reducible apply jfg);(·rfl);exact Kh;exact Ybi;exact Yak)|refine jdr ?_ ?_|apply zab ?_|apply zcj ?_|(refine jaa (.alloc 176) ?_;refine jbi (zs:=[.int .i64 0,.int .i64 0]) Kb rfl ?_)|(refine jaa (.store 176 _ _) ?_;(refine jan rfl rfl rfl Kb rfl rfl ?_))|apply zcw ?_|apply zbp ?_|apply zaf ?_|apply zbi ?_|(refine jaa (.store 3 _ _) ?_;(refine jbk rfl rfl rfl rfl Kb rfl rfl ?_))|refine jai ?_|refine jaj ?_|refine jac (id:=8) ?_|refine jcv 9 (fun i=>i == 15 || i == 17) (IT.lt (.step 17 false .nil) fun Y0=>(.step 0 true (.step 1 true (.step 2 true (.step 3 true (.step 4 true (.step 5 true (.step 6 true (.step 7 true (.step 8 true (.step 9 true (.step 10 true (.step 12 true (.step 14 true (.alt 9 (.step 11 false (.step 13 true (.step 15 false (.step 16 true (IT.ref true [1,2,3,7,8,9,10,12,13,14,15,16,17,39,70,72] [3,7,17] Y0))))) (.step 15 false (.step 11 true (.step 13 true (.step 16 true (IT.ref false [1,2,3,7,8,9,10,12,13,14,15,16,17,39,70,72] [3,7,17] Y0)))))))))))))))))))) ?_)
  rw [z0, z1];have x1:=jer v0 he;have x2:=jer (jeo v0 he) hf;have x3:=jer (jeo (jeo v0 he) hf) hx;repeat' (first|apply zaa ?_|apply zab ?_|apply zbp ?_|apply zaf ?_|apply zbi ?_|refine jai ?_|refine jaj ?_|refine jac (id:=10) ?_)
  rw [x1,x2,x3];have sh:(k:Int) / 2^Int.toNat 3%2=(b3:Int):=by
   have w:(2:Int)^Int.toNat 3=8:=by decide
   rw [w]; omega
  by_cases hq:(b0^^^d)^^^e^^^f^^^x=b3
  ·rw [if_pos hq] at csc;rw [hq];by_cases hd0:d=0
   ·rw [if_pos hd0] at ro;rw [ro.2.2] at csc mb;repeat' (first|apply zaa ?_|apply zab ?_|apply zaz ?_|refine zej (jci (c:=8) rfl rfl Ybr) ?_|apply zav ?_|apply zcw ?_|apply zbp ?_|apply zaf ?_|apply zbi ?_|apply zbk ?_|apply zae ?_|apply zai ?_|apply zbh ?_|apply zbn ?_|apply zbe ?_|apply zad ?_|apply Ub (c:=po) (h:=?_)|(first|apply Ub (c:=p1) (h:=?_)|apply Ub (c:=p3) (h:=?_))|refine jai ?_|refine jaj ?_|refine jaz ?_|refine jaq rfl ?_|refine jam ?_|refine jac ?_|refine jav 12 (fun _=>false) [0,1,2,3,4,5,6,7,8,9,-11,11] ?_|refine jav 15 (fun _=>false) [0,1,2,3,4,5,6,7,8,9,10,11,12,13,14,16,18,19,20,21,22,23,24,25,26,-16,17,-28,28,29,30] ?_|refine jbd rfl (fun hc=>?_) (fun hc=>?_)|exact Qaa|fail)
    all_goals
     refine bkL (c+1) ?_ ?_
     ·omega
     ·omega
   ·rw [if_neg hd0] at ro;rw [ro.2.2] at csc mb;repeat' (first|apply zaa ?_|apply zab ?_|apply zaz ?_|refine zej (jci (c:=8) rfl rfl Ybr) ?_|apply zav ?_|apply zcw ?_|apply zbp ?_|apply zaf ?_|apply zbi ?_|apply zbk ?_|apply zae ?_|apply zai ?_|apply zbh ?_|apply zbn ?_|apply zbe ?_|apply zad ?_|apply Ub (c:=po) (h:=?_)|(first|apply Ub (c:=p1) (h:=?_)|apply Ub (c:=p3) (h:=?_))|refine jai ?_|refine jaj ?_|refine jaz ?_|refine jaq rfl ?_|refine jam ?_|refine jac ?_|refine jav 12 (fun _=>false) [0,1,2,3,4,5,6,7,8,9,-11,11] ?_|refine jav 15 (fun _=>false) [0,1,2,3,4,5,6,7,8,9,10,11,12,13,14,16,18,19,20,21,22,23,24,25,26,-16,17,-28,28,29,30] ?_|refine jbd rfl (fun hc=>?_) (fun hc=>?_)|exact Qaa|fail)
    all_goals
     refine bkL (c+1) ?_ ?_
     ·omega
     ·omega
  ·rw [if_neg hq] at csc;repeat' (first|apply zab ?_|apply zaz ?_|refine zej (jci (c:=8) rfl rfl Ybr) ?_|apply zbk ?_|apply zad ?_|refine jai ?_|refine jaj ?_|refine jaq rfl ?_|refine jam ?_|refine jac (id:=11) ?_|refine jac (id:=16) ?_|refine jbd rfl (fun hc=>?_) (fun hc=>?_)|exact Qaa|fail)
   all_goals
    repeat' fail
    refine bkL (c+1) ?_ ?_
    ·omega
    ·omega
 ·exact Dam
theorem chainRight_p (n:Int) (ll:List (List Int)) (h:boxB 2 2 n ll=true) (hn:n<=100) (k i:Nat) (hk:k < 16) (hi:i < 4):PC Tryz.prog 204 [.g [dI 2,dI 2,dI n,eII ll],.c (dI k),.c (dI i)] (.p (.c (dI (chainR ll n k i)))):=by
 rcases (by omega:i=0∨i=1∨i=2∨i=3) with rfl|rfl|rfl|rfl
 ·exact chain0_p n ll h hn k hk
 ·exact chain1_p n ll h hn k hk
 ·exact chain2_p n ll h hn k hk
 ·exact chain3_p n ll h hn k hk
theorem isQuietPair_p (X Y:Nat) (n:Int) (ll:List (List Int)) (h:boxB X Y n ll=true):PC Tryz.prog 257 [.g [dI X,dI Y,dI n,eII ll]] (.p (.c (dB (quietG ll X Y&&decide (X=2/\Y=2))))):=by
 have q:=isQuietG_p X Y n ll h;have t:=hasTwo_p (X:Int) (Y:Int);have e:(decide ((X:Int)=2)&&decide ((Y:Int)=2))=decide (X=2/\Y=2):=by
  rw [<- Bool.decide_and];exact decide_eq_decide.2 ⟨fun h=>by omega,fun h=>by omega⟩
 rw [e] at t;generalize quietG ll X Y=Q at *;generalize decide (X=2/\Y=2)=T at *;cases Q with
 | false =>
  refine jao Tryz.func257 fun _=>?_;repeat' (first|refine Wbh ?_|refine jac ?_|refine Maa ?_|refine Wba ?_|apply Ub (c:=q) (h:=?_)|exact Qac|exact Rav|fail)
 | true =>
  refine jao Tryz.func257 fun _=>?_;repeat' (first|refine Wbi ?_|refine jac ?_|refine Maa ?_|refine Wba ?_|apply Ub (c:=q) (h:=?_)|apply Ub (c:=t) (h:=?_)|exact Qac|exact Rav|fail)
theorem isChain_p (X Y:Nat) (n:Int) (ll:List (List Int)) (h:boxB X Y n ll=true):PC Tryz.prog 203 [.g [dI X,dI Y,dI n,eII ll]] (.p (.c (dB ((quietG ll X Y&&decide (X=2/\Y=2))&&decide (n<=100))))):=by
 have q:=isQuietPair_p X Y n ll h;generalize (quietG ll X Y&&decide (X=2/\Y=2))=Q at *;cases Q with
 | false =>
  refine jao Tryz.func203 fun _=>?_;repeat' (first|refine Wbh ?_|refine jac ?_|refine Maa ?_|refine Wba ?_|apply Ub (c:=q) (h:=?_)|exact Qac|exact Rav|fail)
 | true =>
  refine jao Tryz.func203 fun _=>?_;repeat' (first|refine Wbi ?_|refine jac ?_|refine Maa ?_|refine Wba ?_|apply Ub (c:=q) (h:=?_)|exact Qac|fail)
  all_goals refine Rad ?_
  all_goals simp
theorem least_p (l:List Int) (h:0 < l.length) (hl:l.length<=1000):PC Tryz.prog 205 [.c (eI l)] (.p (.c (dI (leastN (atZ l 0) (fun j=>atZ l (j:Int)) l.length)))):=by
 refine jao Tryz.func205 fun _=>?_;repeat' (first|refine jac ?_|refine Maa ?_|fail)
 apply jbe [3,9,10,11] [] rfl;exact Ky;exact Yar;refine jbf [9,10] [] (fun k=>[(11,iN k),(3,iZ (leastN (atZ l 0) (fun j=>atZ l (j:Int)) k))]) (fun _=>[]) (fun k=>k<=l.length) (fun k=>l.length - k) (0) ?_ Kg Kv ?_
 ·omega
 intro k hk;by_cases hk2:k < l.length
 ·repeat' (first|refine jac ?_|refine Maa ?_|refine Wco ?_|refine jbd rfl (fun hc=>?_) (fun hc=>?_)|exact Qaa|fail)
  refine bkL (k+1) ?_ ?_
  ·omega
  ·omega
 ·obtain rfl:k=l.length:=by omega
  repeat' (first|refine jac ?_|refine Maa ?_|refine Wco ?_|refine jbd rfl (fun hc=>?_) (fun hc=>?_)|exact Qaa|exact Rav|fail)
def chainJ (ll:List (List Int)) (n:Int) (j:Nat):Int:=chainR ll n (j / 4) (j%4)
def chainI (ll:List (List Int)) (n:Int):Int:=leastN (chainJ ll n 0) (chainJ ll n) 64
theorem jlo {m:Int} {f g:Nat->Int}:∀ {n:Nat},(∀ j,j < n->f j=g j)->leastN m f n=leastN m g n
 | 0,_=>rfl
 | n+1,h=>by
  unfold leastN;rw [h n Kf,jlo fun j hj=>h j Kf]
theorem ChainLeast_p (n:Int) (ll:List (List Int)) (h:boxB 2 2 n ll=true) (hq:quietG ll 2 2=true) (hn:n<=100):PC Tryz.prog 141 [.g [dI 2,dI 2,dI n,eII ll]] (.t [.c (dI (chainI ll n)),.c (dB true)]):=by
 have ic:=isChain_p 2 2 n ll h;rw [hq,decide_eq_true (show (2:Nat)=2/\(2:Nat)=2 from ⟨rfl,rfl⟩),decide_eq_true hn] at ic;have cp:=fun k i hk hi=>chainRight_p n ll h hn k i hk hi;have fin:leastN (atZ (rowF (chainJ ll n) 64) 0) (fun j=>atZ (rowF (chainJ ll n) 64) (j:Int)) (rowF (chainJ ll n) 64).length=chainI ll n:=by
  rw [rowF_len];have a:∀ j:Nat,j < 64->atZ (rowF (chainJ ll n) 64) (j:Int)=chainJ ll n j:=fun j hj=>rowF_atZ _ hj;have a0:=a 0 Kf;rw [show ((0:Nat):Int)=0 from rfl] at a0;rw [a0];exact jlo a
 have lp:=least_p (rowF (chainJ ll n) 64) Yby Yby
 rw [fin] at lp;clear fin;have cj:∀ k i,i < 4->chainR ll n k i=chainJ ll n (4*k+i):=fun k i hi=>by
  unfold chainJ;rw [show (4*k+i) / 4=k by omega,show (4*k+i)%4=i by omega]
 generalize chainI ll n=R at *;refine jao Tryz.func141 fun _=>?_;repeat' (first|refine jac ?_|refine Maa ?_|refine Wba ?_|refine Wbq ?_|apply Ub (c:=ic) (h:=?_)|exact Qac|fail)
 apply jbe [1,4,11] [1,10,22,23] rfl;exact Kk;exact Ybe;refine jbf [1] [1,22,23] (fun k=>[(11,iN k),(4,.c (.ls 10 1 0 (4*k)))]) (fun k=>[(10,.row 1 (cI (rowF (chainJ ll n) (4*k))))]) (fun k=>k<=16) (fun k=>16 - k) (0) ?_ Kg Kg ?_
 ·omega
 intro k hk;by_cases hk2:k < 16
 ·repeat' (first|refine jac ?_|refine Maa ?_|refine jbd rfl (fun hc=>?_) (fun hc=>?_)|exact Qaa|fail)
  apply jbe [1,4,5,11,14] [1,10,22,23] rfl;exact Kk;exact Ybe;refine jbf [1,5,11] [1,22,23] (fun i=>[(14,iN i),(4,.c (.ls 10 1 0 (4*k+i)))]) (fun i=>[(10,.row 1 (cI (rowF (chainJ ll n) (4*k+i))))]) (fun i=>i<=4) (fun i=>4 - i) (0) ?_ Kg Kt ?_
  ·omega
  intro i hi;by_cases hi2:i < 4
  ·have c:=cp k i hk2 hi2;rw [cj k i hi2] at c;repeat' (first|refine jac ?_|refine Maa ?_|refine Wbr ?_|refine Wbs ?_|apply Ub (c:=c) (h:=?_)|refine jbd rfl (fun hc=>?_) (fun hc=>?_)|exact Qaa|fail)
   refine bkL (i+1) ?_ ?_ (hB:=(by (repeat(first|exact trivial|refine ⟨(by ((refine jbs rfl ?_;simp  [jdz,<- Nat.add_assoc];done))),?_⟩))))
   ·omega
   ·omega
  ·obtain rfl:i=4:=by omega
   repeat' (first|refine jac ?_|refine Maa ?_|exact Qaa|fail)
   refine bkL (k+1) ?_ ?_ (hB:=(by (repeat(first|exact trivial|refine ⟨(by ((refine jbs rfl ?_;simp  [Nat.mul_add];done))),?_⟩))))
   ·omega
   ·omega
 ·obtain rfl:k=16:=by omega
  repeat' (first|refine jac ?_|refine Maa ?_|apply Ub (c:=lp) (h:=?_)|exact Qaa|exact Rbl|fail)
theorem ChainLeast_no (X Y:Nat) (n:Int) (ll:List (List Int)) (h:boxB X Y n ll=true) (hc:((quietG ll X Y&&decide (X=2/\Y=2))&&decide (n<=100))=false):PC Tryz.prog 141 [.g [dI X,dI Y,dI n,eII ll]] (.t [.c (dI 0),.c (dB false)]):=by
 have ic:=isChain_p X Y n ll h;rw [hc] at ic;refine jao Tryz.func141 fun _=>?_;repeat' (first|refine jac ?_|refine Maa ?_|refine Wba ?_|apply Ub (c:=ic) (h:=?_)|exact Qac|exact Rbl|fail)
theorem BoxCode_no (X Y:Nat) (n:Int) (ll:List (List Int)) (hc:¬ (X=2/\Y=2)):PC Tryz.prog 140 [.g [dI X,dI Y,dI n,eII ll]] (.t [.c (eI []),.c (dB false)]):=by
 have ip:=isPair_p X Y n ll;have pb:pairB X Y n ll=false:=by
  simp only [pairB,Bool.and_eq_false_iff,decide_eq_false_iff_not];omega
 rw [pb] at ip;refine jao Tryz.func140 fun _=>?_;repeat' (first|refine jac ?_|refine Maa ?_|refine Wba ?_|apply Ub (c:=ip) (h:=?_)|exact Qac|fail)
 all_goals (apply jat;apply jau;exact Yap)
 all_goals rfl
end
section
variable [Glb]
open Go.Shelf Go.Proofs
def Tryz.lays219_ren_stringslite_Index_one:Go.Shelf.Ren:=⟨fun | 219=>150 | 217=>210 | 225=>211 | 224=>212 | 267=>213 | 266=>259 | 314=>260 | n=>n,fun | 9=>9 | 3=>3 | 4=>4 | 5=>5 | 46=>180 | 146=>250 | 51=>249 | n=>n,fun | 1=>0 | n=>n⟩
theorem Tryz.lays219_stringslite_Index_one:Go.Proofs.Lays.n219 Tryz.prog Tryz.lays219_ren_stringslite_Index_one:={
 mixed:=by kernel_rfl
 f217:=Tryz.func210.trans (congrArg some Kb)
 f219:=Tryz.func150.trans (congrArg some Kb)
 f224:=Tryz.func212.trans (congrArg some Kb)
 f225:=Tryz.func211.trans (congrArg some Kb)
 f266:=Tryz.func259.trans (congrArg some Kb)
 f267:=Tryz.func213.trans (congrArg some Kb)
 f314:=Tryz.func260.trans (congrArg some Kb)
 t3:=Tryz.underlying3
 a3:=Tryz.isAgg3
 z3:=Tryz.sizeOf3
 v3:=Tryz.zeroValue3
 t4:=Tryz.underlying4
 a4:=Tryz.isAgg4
 z4:=Tryz.sizeOf4
 v4:=Tryz.zeroValue4
 t5:=Tryz.underlying5
 a5:=Tryz.isAgg5
 z5:=Tryz.sizeOf5
 v5:=Tryz.zeroValue5
 t9:=Tryz.underlying9
 a9:=Tryz.isAgg9
 z9:=Tryz.sizeOf9
 v9:=Tryz.zeroValue9
 t46:=Tryz.underlying180
 a46:=Tryz.isAgg180
 z46:=Tryz.sizeOf180
 v46:=Tryz.zeroValue180
 t51:=Tryz.underlying249
 a51:=Tryz.isAgg249
 z51:=Tryz.sizeOf249
 v51:=Tryz.zeroValue249
 t146:=Tryz.underlying250
 a146:=Tryz.isAgg250
 z146:=Tryz.sizeOf250
 v146:=Tryz.zeroValue250
 g1:=by kernel_rfl }
open Go.RowKit Go.Lib in
theorem Tryz.stringslite_Index_one (s:ByteArray) (c:UInt8) (w:World) :
  Calls Tryz.prog 150 #[.string s,.string ⟨#[c]⟩] w fun e w'=>e = .returned (.int .i64 (Lib.indexByte s.data.toList c))/\w'=w:=Any.stringslite_Index_one Tryz.lays219_stringslite_Index_one s c w
end
section
variable [Glb]
theorem strIndex_p (s:Tx) (c:UInt8):PC Tryz.prog 150 [.c (dT s),.c (dT [c])] (.p (.c (dI (Go.Lib.indexByte s c)))) :=
 pc_lit2 (Go.Proofs.enters_of Tryz.func150 Kb rfl) rfl fun w _=>(Tryz.stringslite_Index_one (bsT s) c w).mono (by
  rintro e w' ⟨rfl,rfl⟩;rw [jgl];exact ⟨rfl,.refl _ _⟩)
theorem cut_hit {s:Tx} {c:UInt8} (h:c∈s):partZ s 0 ((bef c s).length:Int)=bef c s/\partZ s ((bef c s).length+1) s.length=aft c s:=by
 obtain ⟨e,-⟩:=jex h;have e2:=congrArg List.length e;generalize bef c s=x at *;generalize aft c s=y at *;subst e;simp only [List.length_append,List.length_cons] at e2;constructor
 ·simp [partZ]
 ·have:((x.length:Int)+1).toNat=x.length+1:=by omega
  have h2:(x++c :: y).drop (x.length+1)=y:=by
   rw [show (x++c :: y)=(x++[c])++y by simp];exact List.drop_left' Yby
  simp only [partZ,this];rw [h2,List.take_of_length_le];simp; omega
theorem cut0_p (s:Tx) (c:UInt8):PC Tryz.prog 156 [.c (dT s),.c (dT [c])] (.t [.c (dT (bef c s)),.c (dT (aft c s)),.c (dB (s.contains c))]):=by
 refine jao Tryz.func156 ?_;rintro ⟨hl,hc,-⟩;have hl:=FitT hl;have hc:=FitT hc;by_cases h:c∈s
 ·obtain ⟨e,-⟩:=jex h;have e2:=congrArg List.length e;have e3:=ixB_hit h;obtain ⟨e4,e5⟩:=cut_hit h;have e6:s.contains c=true:=by simp [h]
  simp only [List.length_append,List.length_cons] at e2;clear e;repeat' (first|(refine jaa (.binOp .add 3 _ _ _) ?_;refine jab (jas rfl rfl (by ((simp at *;omega)))) rfl ?_)|refine jac ?_|refine jav 3 (fun _=>false) [0,1,2,3,4,5,6,7,8,9,10,11] ?_|refine Maa ?_|apply zcs ?_|apply zdy ?_|refine Wcx ?_|apply Ub (c:=strIndex_p _ _) (h:=?_)|refine jbd rfl (fun hc=>?_) (fun hc=>?_)|exact Qaa|fail)
  all_goals (apply jat;apply jau;exact Yae)
  all_goals rw [e3] at *
  all_goals simp [e4,e5,h]
 ·have e3:=ixB_miss h;have e4:=jiq h;have e5:=aft_miss h;repeat' (first|refine jac ?_|refine jav 3 (fun _=>false) [0,1,2,3,4,5,6,7,8,9,10,11] ?_|refine Maa ?_|apply zcs ?_|apply zdy ?_|apply zcg ?_|apply Ub (c:=strIndex_p _ _) (h:=?_)|refine jbd rfl (fun hc=>?_) (fun hc=>?_)|exact Qaa|fail)
  all_goals (apply jat;apply jau;exact Yae)
  all_goals simp [e4,e5,h]
  all_goals rfl
theorem cut_p (s:Tx) (c:UInt8):PC Tryz.prog 103 [.c (dT s),.c (dT [c])] (.t [.c (dT (bef c s)),.c (dT (aft c s)),.c (dB (s.contains c))]):=by
 refine jao Tryz.func103 fun _=>?_;repeat' (first|refine jac ?_|refine Maa ?_|apply Ub (c:=cut0_p _ _) (h:=?_))
 (apply jat;apply jau;exact Yae)
 rfl
end
end Go.Proofs.YtbhbkbnlpackdaaGreatDoor
