/- What the functions that FnExactRunScript and FnExactReplayLog and FnExactExecuteCommand reaches return: part of its proof. No condition beyond those of its theorems. -/
import Derived.WalkKit
import Derived.Test.YtbhbkbnlpackdaaGreatDoorKplainC
import Derived.Test.YtbhbkbnlpackdaaGreatDoorKfnsA
import Derived.Test.YtbhbkbnlpackdaaGreatDoorKfnsC
import Derived.Test.YtbhbkbnlpackdaaGreatDoorKfnsB
import Derived.Test.YtbhbkbnlpackdaaGreatDoorKplainA
import Derived.Lib.Join
import Derived.Test.YtbhbkbnlpackdaaGreatDoorKplainB
set_option linter.unusedSectionVars false
set_option maxRecDepth 10000
set_option maxHeartbeats 4000000
set_option linter.unusedVariables false
set_option linter.unusedSimpArgs false
namespace Go.Proofs.YtbhbkbnlpackdaaGreatDoor
open Go.RowKit
section
variable [Glb]
open Go
def keptN (cc:List (List Int)) (ss:List Int) (ev c:Nat):Nat:=(keptK cc ss (bitsM ev c) cc.length).length
def mostF (cc:List (List Int)) (ss:List Int) (ev:Nat):Nat->Int×List Int
 | 0=>(-1,[])
 | c+1=>if (mostF cc ss ev c).1 < (keptN cc ss ev c:Int) then ((keptN cc ss ev c:Int),bitsM ev c) else mostF cc ss ev c
theorem keptN_le (cc:List (List Int)) (ss:List Int) (ev c:Nat):keptN cc ss ev c<=cc.length:=jfn ..
theorem mostF_bd (cc:List (List Int)) (ss:List Int) (ev:Nat):∀ c,-1<=(mostF cc ss ev c).1/\(mostF cc ss ev c).1<=cc.length
 | 0=>by show -1<=(-1:Int)/\(-1:Int)<=_;omega
 | c+1=>by
  have ih:=mostF_bd cc ss ev c;have k:=keptN_le cc ss ev c;unfold mostF;split
  ·dsimp only; omega
  ·exact ih
theorem mostF_at (cc:List (List Int)) (ss:List Int) (ev:Nat):∀ c,∃ t,t<=c/\mostF cc ss ev (c+1)=((keptN cc ss ev t:Int),bitsM ev t)
 | 0=>⟨0,Nat.le_refl _,by unfold mostF;rw [if_pos (by show (-1:Int) < _;omega)]⟩
 | c+1=>by
  obtain ⟨t,ht,e⟩:=mostF_at cc ss ev c;by_cases h:(mostF cc ss ev (c+1)).1 < (keptN cc ss ev (c+1):Int)
  ·exact ⟨c+1,Nat.le_refl _,by rw [mostF,if_pos h]⟩
  ·exact ⟨t,by omega,by rw [mostF,if_neg h,e]⟩
def pickAt (cc:List (List Int)) (nu:List Int) (i:Nat):Bool:=decide (pop (maskK (atZ cc (i:Int)) (atZ cc (i:Int)).length &&& setK nu nu.length)=1)
def picksB (cc:List (List Int)) (nu:List Int):Bool:=(List.range cc.length).all (pickAt cc nu)
def pickF (cc:List (List Int)) (ev:Nat):Nat->Nat
 | 0 => 0
 | c+1=>if picksB cc (bitsM ev c)=true then pickF cc ev c+1 else pickF cc ev c
theorem pickF_le (cc:List (List Int)) (ev:Nat):∀ c,pickF cc ev c<=c
 | 0=>Nat.le_refl _
 | c+1=>by have:=pickF_le cc ev c;unfold pickF;split <;> omega
theorem ctx_ones {ev:Int} {cc:List (List Int)} {ss nu:List Int} (hs:sceneB ev cc ss=true) (hn:bitsB nu ev=true) {i:Nat} (hi:i < cc.length) :
  ((pop (maskK (atZ cc (i:Int)) (atZ cc (i:Int)).length &&& setK nu nu.length):Nat):Int)=onesK (atZ cc (i:Int)) nu (atZ cc (i:Int)).length:=by
 have s:=jbv hs;have c:ctxB ev (atZ cc (i:Int))=true:=by rw [jby hi];exact s.ctx i hi
 simp only [ctxB,Bool.and_eq_true] at c;have rl:=jmt c.2;have hl:=jce hn;have e12:=s.e12;refine pop_ones Kf (fun j hj=>jdd hn Kf Kf) (fun j hj=>by have:=rl j hj;omega) (fun a b hab hb=>?_) _ (Nat.le_refl _);have up:∀ d a,a+d+1 < (atZ cc (i:Int)).length->atZ (atZ cc (i:Int)) (a:Int) < atZ (atZ cc (i:Int)) ((a+d+1:Nat):Int):=fun d=>by
  induction d with
  | zero =>
   intro a ha;have:=List.all_eq_true.1 c.2 (a+1) (List.mem_range.2 ha);simp only [riseAt,Bool.and_eq_true,Bool.or_eq_true,decide_eq_true_eq] at this;rcases this.2 with h | h
   ·omega
   ·rwa [show ((a+1:Nat):Int) - 1=(a:Int) by omega] at h
  | succ d ih =>
   intro a ha;have h1:=ih a Kf;have:=List.all_eq_true.1 c.2 (a+(d+1)+1) (List.mem_range.2 ha);simp only [riseAt,Bool.and_eq_true,Bool.or_eq_true,decide_eq_true_eq] at this;rcases this.2 with h | h
   ·omega
   ·rw [show ((a+(d+1)+1:Nat):Int) - 1=((a+d+1:Nat):Int) by omega] at h;omega
 have:=up (b - a - 1) a Kf;rwa [show a+(b - a - 1)+1=b by omega] at this
theorem onesK_bd {l nu:List Int} (h:∀ j:Nat,j < l.length->0<=atZ nu (atZ l (j:Int))/\atZ nu (atZ l (j:Int))<=1):∀ k:Nat,k<=l.length->0<=onesK l nu k/\onesK l nu k<=(k:Int)
 | 0,_=>by simp [onesK]
 | k+1,hk=>by
  have ih:=onesK_bd h k Kf;have:=h k Kf;unfold onesK;omega
def xorK (cc:List (List Int)) (l:List Int):Nat->Nat
 | 0 => 0
 | k+1=>xorK cc l k^^^maskK (atZ cc (atZ l (k:Int))) (atZ cc (atZ l (k:Int))).length
def sumK (ss l:List Int):Nat->Int
 | 0 => 0
 | k+1=>sumK ss l k+atZ ss (atZ l (k:Int))
def proofB (cc:List (List Int)) (ss l:List Int):Bool:=decide (xorK cc l l.length=0)&&decide (sumK ss l l.length%2=1)
theorem sumK_bd {ss l:List Int} {n:Int} (hs:bitsB ss n=true) (hl:∀ j:Nat,j < l.length->0<=atZ l (j:Int)/\atZ l (j:Int) < n):∀ k:Nat,k<=l.length->0<=sumK ss l k/\sumK ss l k<=(k:Int)
 | 0,_=>by simp [sumK]
 | k+1,hk=>by
  have ih:=sumK_bd hs hl k Kf;have b:=hl k Kf;have:=jdd hs b.1 b.2;unfold sumK;omega
def subL (code n:Nat):List Int:=((List.range n).filter fun i=>decide (bitN code i=1)).map fun i:Nat=>(i:Int)
theorem jmm (code n:Nat):subL code (n+1)=if bitN code n=1 then subL code n++[(n:Int)] else subL code n:=by
 unfold subL;rw [List.range_succ,List.filter_append,List.map_append];by_cases h:bitN code n=1
 ·simp [List.filter,h]
 ·simp [List.filter,h]
theorem jgw (code n:Nat):(subL code n).length<=n:=by
 unfold subL;rw [List.length_map];exact Nat.le_trans (List.length_filter_le _ _) Yby
theorem subL_mem {code n:Nat} {x:Int} (h:x∈subL code n):0<=x/\x < n:=by
 unfold subL at h;obtain ⟨i,hi,rfl⟩:=List.mem_map.1 h;have:=List.mem_range.1 (List.mem_filter.1 hi).1;omega
theorem subL_at {code n j:Nat} (h:j < (subL code n).length):0<=atZ (subL code n) (j:Int)/\atZ (subL code n) (j:Int) < n:=by
 rw [jby h];exact subL_mem (List.getElem_mem h)
def lexC:List Int->List Int->Int
 | [],[]=>0
 | [],_ :: _ => -1
 | _ :: _,[]=>1
 | a :: r,b :: s=>if a < b then -1 else if b < a then 1 else lexC r s
def befB (a b:List Int):Bool:=decide (a.length < b.length) || (decide (a.length=b.length)&&decide (lexC a b < 0))
theorem jnl:∀ {a b:List Int} {k:Nat},k < a.length->k < b.length->a.take k=b.take k->atZ a (k:Int)≠atZ b (k:Int)->lexC a b=if atZ a (k:Int) < atZ b (k:Int) then -1 else 1
 | [],b,k,h,_,_,_=>by simp at h
 | _,[],k,_,h,_,_=>by simp at h
 | x :: r,y :: s,0,_,_,_,hn=>by
  have e1:atZ (x :: r) ((0:Nat):Int)=x:=by simp [atZ]
  have e2:atZ (y :: s) ((0:Nat):Int)=y:=by simp [atZ]
  rw [e1,e2] at hn ⊢;unfold lexC;by_cases h:x < y
  ·rw [if_pos h,if_pos h]
  ·rw [if_neg h,if_neg h,if_pos Kf]
 | x :: r,y :: s,k+1,h1,h2,ht,hn=>by
  have tl:∀ (w:Int) (r:List Int) (j:Nat),atZ (w :: r) ((j+1:Nat):Int)=atZ r (j:Int):=fun w r j=>by
   unfold atZ;rw [Int.toNat_natCast,Int.toNat_natCast];simp
  rw [tl,tl] at hn ⊢;rw [List.take_succ_cons,List.take_succ_cons,List.cons.injEq] at ht;obtain ⟨rfl,ht⟩:=ht;have ih:=jnl (a:=r) (b:=s) (k:=k) (by simpa using h1) (by simpa using h2) ht hn;unfold lexC;rw [if_neg Kf,if_neg Kf,ih]
theorem jkt:∀ {a b:List Int},a.length<=b.length->a=b.take a.length->lexC a b=if a.length < b.length then -1 else 0
 | [],[],_,_=>by simp [lexC]
 | [],y :: s,_,_=>by simp [lexC]
 | x :: r,[],h,_=>by simp at h
 | x :: r,y :: s,h,e=>by
  rw [List.length_cons,List.take_succ_cons,List.cons.injEq] at e;obtain ⟨rfl,e⟩:=e;have ih:=jkt (a:=r) (b:=s) (by simpa using h) e;unfold lexC;rw [if_neg Kf,if_neg Kf,ih];simp
theorem lexC_long:∀ {a b:List Int},b.length < a.length->b=a.take b.length->lexC a b=1
 | [],b,h,_=>by simp at h
 | x :: r,[],_,_=>by simp [lexC]
 | x :: r,y :: s,h,e=>by
  rw [List.length_cons,List.take_succ_cons,List.cons.injEq] at e;obtain ⟨rfl,e⟩:=e;have ih:=lexC_long (a:=r) (b:=s) (by simpa using h) e;unfold lexC;rw [if_neg Kf,if_neg Kf,ih]
def bestF (cc:List (List Int)) (ss:List Int):Nat->List Int
 | 0 => []
 | c+1=>if proofB cc ss (subL c cc.length)=true/\(bestF cc ss c=[]∨befB (subL c cc.length) (bestF cc ss c)=true) then subL c cc.length else bestF cc ss c
theorem jnc (cc:List (List Int)) (ss:List Int):proofB cc ss []=false:=by simp [proofB,sumK]
theorem joa (cc:List (List Int)) (ss:List Int):∀ c,bestF cc ss c=[] ∨ ∃ t,bestF cc ss c=subL t cc.length
 | 0 => .inl rfl
 | c+1=>by
  unfold bestF;split
  ·exact .inr ⟨c,rfl⟩
  ·exact joa cc ss c
theorem bestF_small (cc:List (List Int)) (ss:List Int) (c:Nat):∀ x∈bestF cc ss c,0<=x/\x < cc.length:=by
 rcases joa cc ss c with e|⟨t,e⟩
 ·rw [e];intro x hx;cases hx
 ·rw [e];exact fun x hx=>subL_mem hx
theorem jkf (cc:List (List Int)) (ss:List Int) (c:Nat):(bestF cc ss c).length<=cc.length:=by
 rcases joa cc ss c with e|⟨t,e⟩
 ·rw [e]; simp
 ·rw [e]; exact jgw _ _
theorem bestF_one (cc:List (List Int)) (ss:List Int):bestF cc ss 1=[]:=by
 unfold bestF;rw [if_neg]
 ·rfl
 ·rintro ⟨h,-⟩;have e:subL 0 cc.length=[]:=by
   unfold subL;have:((List.range cc.length).filter fun i=>decide (bitN 0 i=1))=[]:=by
    rw [List.filter_eq_nil_iff];intro a _;simp [bitN]
   rw [this]; rfl
  rw [e,jnc] at h;cases h
def sumFI (T:Nat->Nat->Nat->Nat->Nat->Int):Int:=accT (fun c=>T (c%2) (c / 2%2) (c / 4%2) (c / 8%2) (c / 16%2)) 32
def sumFS (T:Nat->Nat->Nat->Nat->Nat->Int):Int:=accT (fun t=>accT (fun d=>accT (fun u=>T (t / 2) (t%2) d (u / 2) (u%2)) 4) 2) 4
theorem sumF_IS (T:Nat->Nat->Nat->Nat->Nat->Int):sumFI T=sumFS T:=by
 simp only [sumFI,sumFS,accT,Nat.reduceMod,Nat.reduceDiv,Nat.zero_mod,Nat.zero_div];omega
def kBit (k i:Nat):Nat:=k / 2^i%2
def chainT (ll:List (List Int)) (wh:Int) (k i:Nat) (a c d e f:Nat):Int :=
 let p:=i / 2
 let s:=kBit k (2*p);let t:=kBit k (2*p+1);let u:=kBit k (2 - 2*p);let v:=kBit k (3 - 2*p)
 let m:=s^^^a;let n:=u^^^d
 if (if p=1 then n else m)^^^e^^^f^^^c=kBit k i then
  atZ (atZ ll ((2*(s^^^t)+i%2:Nat):Int)) ((2*a+c:Nat):Int)*(atZ (atZ ll ((2*(u^^^v):Nat):Int)) ((2*d:Nat):Int)+atZ (atZ ll ((2*(u^^^v):Nat):Int)) ((2*d+1:Nat):Int))*atZ (atZ ll ((2*(m^^^n)+p:Nat):Int)) ((2*e+f:Nat):Int)
 else 0
def chainR (ll:List (List Int)) (wh:Int) (k i:Nat):Int:=sumFI (chainT ll wh k i)
def codeV (ll:List (List Int)) (k i:Nat):Int :=
 let s:=k%2;let t:=k / 2
 let w:=s^^^(if i=0 then s else t)
 atZ (atZ ll ((2*(s^^^t)+i:Nat):Int)) (w:Int)+atZ (atZ ll ((2*(s^^^t)+i:Nat):Int)) ((2+(1 - w):Nat):Int)
theorem code_sum (ll:List (List Int)) {k i:Nat} (hk:k < 4) (hi:i < 2) :
  accT (fun t=>if (k%2)^^^(t / 2)^^^(t%2)=k / 2^i%2 then atZ (atZ ll ((2*((k%2)^^^(k / 2))+i:Nat):Int)) (t:Int) else 0) 4=codeV ll k i:=by
 unfold codeV;rcases (by omega:k=0∨k=1∨k=2∨k=3) with rfl|rfl|rfl|rfl <;> rcases (by omega:i=0∨i=1) with rfl|rfl <;> simp [accT]
def onG (ll:List (List Int)) (Y w q j:Nat):Int:=if w=0 then atB ll Y q j 2+atB ll Y q j 3 else atB ll Y j q 1+atB ll Y j q 3
def szG (X Y w:Nat):Nat:=if w=0 then X else Y
def stillG (ll:List (List Int)) (X Y w q:Nat):Bool:=(List.range (szG X Y (1 - w))).all fun j=>decide (onG ll Y w q j=onG ll Y w q 0)
def quietG (ll:List (List Int)) (X Y:Nat):Bool:=(List.range 2).all fun w=>(List.range (szG X Y w)).all fun q=>stillG ll X Y w q
theorem stillG_no {ll:List (List Int)} {X Y w q j:Nat} (hj:j < szG X Y (1 - w)) (h:onG ll Y w q j≠onG ll Y w q 0):stillG ll X Y w q=false:=jft hj (decide_eq_false h)
theorem jjs {ll:List (List Int)} {X Y w q j:Nat} (hw:w < 2) (hq:q < szG X Y w) (hj:j < szG X Y (1 - w)) (h:onG ll Y w q j≠onG ll Y w q 0):quietG ll X Y=false:=by
 have s:=stillG_no hj h;exact jft hw (jft hq s)
theorem jpd {ll:List (List Int)} {X Y:Nat} (h:∀ w q j,w < 2->q < szG X Y w->j < szG X Y (1 - w)->onG ll Y w q j=onG ll Y w q 0):quietG ll X Y=true:=by
 unfold quietG stillG;simp only [List.all_eq_true,List.mem_range,decide_eq_true_eq];exact fun w hw q hq j hj=>h w q j hw hq hj
theorem onG_bd {X Y:Nat} {n:Int} {ll:List (List Int)} (h:boxB X Y n ll=true) {w q j:Nat} (hw:w < 2) (hq:q < szG X Y w) (hj:j < szG X Y (1 - w)):0<=onG ll Y w q j/\onG ll Y w q j<=n:=by
 unfold onG szG at *;rcases (by omega:w=0∨w=1) with rfl|rfl
 ·simp only [if_true,Nat.sub_zero] at hq hj ⊢;rw [if_neg Kf] at hj;obtain ⟨a,b⟩:=jfq h hq hj;have b0:=a 0 Kf;have b1:=a 1 Kf;have b2:=a 2 Kf;have b3:=a 3 Kf;simp only [Int.natCast_zero,Int.natCast_one,Int.cast_ofNat_Int] at b b0 b1 b2 b3;omega
 ·rw [if_neg Kf] at hq ⊢;rw [if_pos rfl] at hj;obtain ⟨a,b⟩:=jfq h hj hq;have b0:=a 0 Kf;have b1:=a 1 Kf;have b2:=a 2 Kf;have b3:=a 3 Kf;simp only [Int.natCast_zero,Int.natCast_one,Int.cast_ofNat_Int] at b b0 b1 b2 b3;omega
def prL (n:Nat):List (Nat×Nat):=if n=2 then [(0,1)] else if n=3 then [(0,1),(0,2),(1,2)] else []
def prA (n j:Nat):Nat×Nat:=(prL n).getD j (0,0)
theorem jpf {n j:Nat} (h:j < (prL n).length):(prA n j).1 < (prA n j).2/\(prA n j).2 < n:=by
 unfold prL at h;split at h
 ·rename_i e; subst e;have:j=0:=by simpa using h
  subst this; decide
 ·split at h
  ·rename_i e; subst e;have:j=0∨j=1∨j=2:=by simp at h;omega
   rcases this with rfl|rfl|rfl <;> decide
  ·simp at h
theorem prL_len (n:Nat):(prL n).length<=3:=by
 unfold prL; split
 ·decide
 ·split <;> decide
def agQ (ll:List (List Int)) (Y i k:Nat):Int:=agrZ (atZ ll ((i:Int)*(Y:Int)+(k:Int)))
def sgnM (m t:Nat) (x:Int):Int:=if t=m then -x else x
def sumQ (ll:List (List Int)) (Y:Nat) (p q:Nat×Nat) (m:Nat):Int :=
 sgnM m 0 (agQ ll Y p.1 q.1)+sgnM m 1 (agQ ll Y p.1 q.2)+sgnM m 2 (agQ ll Y p.2 q.1)+sgnM m 3 (agQ ll Y p.2 q.2)
def absI (n:Int):Int:=max n (-n)
def sumV (ll:List (List Int)) (X Y t:Nat):Int:=absI (sumQ ll Y (prA X (t / 4 / (prL Y).length)) (prA Y (t / 4%(prL Y).length)) (t%4))
def sumsN (X Y:Nat):Nat:=(prL X).length*(prL Y).length*4
def greatK (ll:List (List Int)) (X Y n:Nat):Int:=maxF (sumV ll X Y) 0 n
def greatI (ll:List (List Int)) (X Y:Nat):Int:=greatK ll X Y (sumsN X Y)
theorem sumV_at (ll:List (List Int)) {X Y i k m:Nat} (hk:k < (prL Y).length) (hm:m < 4):sumV ll X Y ((i*(prL Y).length+k)*4+m)=absI (sumQ ll Y (prA X i) (prA Y k) m):=by
 unfold sumV;rw [show ((i*(prL Y).length+k)*4+m) / 4=i*(prL Y).length+k by omega,show ((i*(prL Y).length+k)*4+m)%4=m by omega];rw [Nat.add_comm (i*_),Nat.add_mul_div_right _ _ Kf,Nat.div_eq_of_lt hk,Nat.add_mul_mod_self_right,Nat.mod_eq_of_lt hk,Nat.zero_add]
theorem jje (ll:List (List Int)) (X Y n:Nat):greatK ll X Y (n+1)=max (greatK ll X Y n) (sumV ll X Y n):=rfl
theorem greatK_nn (ll:List (List Int)) (X Y n:Nat):0<=greatK ll X Y n:=maxF_ge _ _ _
theorem agQ_bd {X Y:Nat} {n:Int} {ll:List (List Int)} (h:boxB X Y n ll=true) {i k:Nat} (hi:i < X) (hk:k < Y) : -n<=agQ ll Y i k/\agQ ll Y i k<=n:=by
 obtain ⟨b,e⟩:=jfq h hi hk;have b0:=b 0 Kf;have b1:=b 1 Kf;have b2:=b 2 Kf;have b3:=b 3 Kf;unfold agQ agrZ;unfold atB at b0 b1 b2 b3 e;simp only [Int.natCast_zero,Int.natCast_one,Int.cast_ofNat_Int] at b0 b1 b2 b3 e;omega
theorem jge {m t:Nat} {x n:Int} (h : -n<=x/\x<=n) : -n<=sgnM m t x/\sgnM m t x<=n:=by unfold sgnM; split <;> omega
theorem sumQ_bd {X Y:Nat} {n:Int} {ll:List (List Int)} (h:boxB X Y n ll=true) {p q:Nat×Nat} (hp:p.1 < X/\p.2 < X) (hq:q.1 < Y/\q.2 < Y) (m:Nat) : -(4*n)<=sumQ ll Y p q m/\sumQ ll Y p q m<=4*n:=by
 have a:=jge (m:=m) (t:=0) (agQ_bd h hp.1 hq.1);have b:=jge (m:=m) (t:=1) (agQ_bd h hp.1 hq.2);have c:=jge (m:=m) (t:=2) (agQ_bd h hp.2 hq.1);have d:=jge (m:=m) (t:=3) (agQ_bd h hp.2 hq.2);unfold sumQ;omega
theorem jnr {X Y:Nat} {n:Int} {ll:List (List Int)} (h:boxB X Y n ll=true):greatI ll X Y<=4*n:=by
 have n1:=(jbo h).n1;have key:∀ t,t<=sumsN X Y->greatK ll X Y t<=4*n:=fun t=>by
  induction t with
  | zero=>intro _;show (0:Int)<=_;omega
  | succ t ih =>
   intro ht;rw [jje];have i:=ih Kf;have hy:0 < (prL Y).length:=by
    rcases Nat.eq_zero_or_pos (prL Y).length with e|e
    ·unfold sumsN at ht;rw [e] at ht;simp at ht
    ·exact e
   have hq:t / 4%(prL Y).length < (prL Y).length:=Nat.mod_lt _ hy;have hp:t / 4 / (prL Y).length < (prL X).length:=by
    rw [Nat.div_lt_iff_lt_mul hy];unfold sumsN at ht;omega
   have a:=jpf hp;have b:=jpf hq;have s:=sumQ_bd h (p:=prA X (t / 4 / (prL Y).length)) (q:=prA Y (t / 4%(prL Y).length)) ⟨by omega,a.2⟩ ⟨by omega,b.2⟩ (t%4);unfold sumV absI;omega
 exact key _ (Nat.le_refl _)
def tripI (ll:List (List Int)):Int :=
 atB ll 3 0 0 3 + atB ll 3 0 1 3 + atB ll 3 0 2 3 + atB ll 3 1 0 3 + atB ll 3 1 1 3 - atB ll 3 1 2 3 + atB ll 3 2 0 3 - atB ll 3 2 1 3
  - (atB ll 3 0 0 2+atB ll 3 0 0 3) - 2*(atB ll 3 0 0 1+atB ll 3 0 0 3) - (atB ll 3 0 1 1+atB ll 3 0 1 3)
def orderL:List (List Int):=[[0,1,2],[0,2,1],[1,0,2],[1,2,0],[2,0,1],[2,1,0]]
def askdF (ll:List (List Int)) (f s:List Int) (i k p:Nat):Int:=atB ll 3 (atZ f (i:Int)) (atZ s (k:Int)) p
def askdL (ll:List (List Int)) (f s:List Int):List (List Int):=boxF (askdF ll f s) 3 9
def startL (ll:List (List Int)) (i:Nat):List (List Int):=if i=0 then ll else swapL ll 3 3
def becL (ll:List (List Int)) (i a b:Nat):List (List Int):=askdL (startL ll i) (atZ orderL (a:Int)) (atZ orderL (b:Int))
def becV (ll:List (List Int)) (i a b c:Nat):Int:=tripI (bflL (becL ll i a b) 3 3 (bitsM 6 c))
def tripK (ll:List (List Int)) (n:Nat):Int:=maxF (fun t=>becV ll (t / 2304) (t / 384%6) (t / 64%6) (t%64)) (tripI ll) n
def tripM (ll:List (List Int)):Int:=tripK ll 4608
theorem tripK_succ (ll:List (List Int)) {i a b c:Nat} (ha:a < 6) (hb:b < 6) (hc:c < 64):tripK ll (((i*6+a)*6+b)*64+c+1)=max (tripK ll (((i*6+a)*6+b)*64+c)) (becV ll i a b c):=by
 show max (tripK ll (((i*6+a)*6+b)*64+c)) (becV ll ((((i*6+a)*6+b)*64+c) / 2304) ((((i*6+a)*6+b)*64+c) / 384%6) ((((i*6+a)*6+b)*64+c) / 64%6) ((((i*6+a)*6+b)*64+c)%64))=_;rw [show (((i*6+a)*6+b)*64+c) / 2304=i by omega,show (((i*6+a)*6+b)*64+c) / 384%6=a by omega,show (((i*6+a)*6+b)*64+c) / 64%6=b by omega,show (((i*6+a)*6+b)*64+c)%64=c by omega]
def localB (ll:List (List Int)) (X Y:Nat) (n:Int):Bool:=quietG ll X Y&&(decide (greatI ll X Y<=2*n)&&(!decide (X=3/\Y=3) || decide (tripM ll<=0)))
def TripS (i a b c:Nat):Prop:=i < 2/\a < 6/\b < 6/\c < 64
theorem tripM_most (ll:List (List Int)):Most (tripM ll) (tripI ll) TripS (becV ll):=by
 refine ⟨maxF_ge _ _ _,fun i a b c ⟨hi,ha,hb,hc⟩=>?_,?_⟩
 ·have:=maxF_le (fun t=>becV ll (t / 2304) (t / 384%6) (t / 64%6) (t%64)) (tripI ll) (n:=4608) (k:=((i*6+a)*6+b)*64+c) Kf;rw [show (((i*6+a)*6+b)*64+c) / 2304=i by omega,show (((i*6+a)*6+b)*64+c) / 384%6=a by omega,show (((i*6+a)*6+b)*64+c) / 64%6=b by omega,show (((i*6+a)*6+b)*64+c)%64=c by omega] at this;exact this
 ·rcases maxF_at (fun t=>becV ll (t / 2304) (t / 384%6) (t / 64%6) (t%64)) (tripI ll) 4608 with h|⟨t,ht,h⟩
  ·exact .inl h
  ·exact .inr ⟨t / 2304,t / 384%6,t / 64%6,t%64,⟨by omega,by omega,by omega,by omega⟩,h⟩
end
section
variable [Glb]
def funL (ws:List Int) (wi:List (List Int)):List (List Int):=gridF (fun i k=>atZ (atZ wi (i:Int)) (k:Int)*atZ ws (i:Int)) wi.length 4
@[simp] theorem funL_len (ws : List Int) (wi : List (List Int)) : (funL ws wi).length = wi.length := by simp [funL]
end
section
variable [Glb]
open Go
end
section
variable [Glb]
end
section
variable [Glb]
open Go
def agrK (ll:List (List Int)) (k:Nat):Int:=agrZ (atZ ll (k:Int))
def agrsL (ll:List (List Int)):List Int:=rowF (agrK ll) ll.length
theorem agrR_bd {x y n:Int} {ll:List (List Int)} (h:boxB x y n ll=true) {j:Nat} (hj:j < ll.length) : -n<=agrK ll j/\agrK ll j<=n:=by
 have b:=jbo h;have hl:=b.len;have hb:=jev h (q:=(j:Int)) Kf Kf;have b4:=box4 h (q:=(j:Int)) Kf Kf;have v0:=hb.2 0 Kf Kf;have v1:=hb.2 1 Kf Kf;have v2:=hb.2 2 Kf Kf;have v3:=hb.2 3 Kf Kf;unfold agrK agrZ; omega
def masksM (cc:List (List Int)):List Nat:=(List.range cc.length).map fun i:Nat=>maskK (atZ cc (i:Int)) (atZ cc (i:Int)).length
def codeM (ll:List (List Int)):List Int:=rowF (fun j=>codeV ll (j / 2) (j%2)) 8
def chainM (ll:List (List Int)) (n:Int):Int:=leastN (chainR ll n 0 0) (fun j=>chainR ll n (j / 4) (j%4)) 64
def chainB (ll:List (List Int)) (X Y:Nat) (n:Int):Bool:=(quietG ll X Y&&decide (X=2/\Y=2))&&decide (n<=100)
def quesQ (h:HD):Nat->Option Tx
 | 0=>some (boxT h.bx h.by_ h.bll)
 | 1=>some (sayL h.pl)
 | 2=>some (txtZ (leastN h.bwh (chanceF h.by_.toNat h.bx.toNat h.bll h.pl) (h.by_.toNat*h.bx.toNat)))
 | 3=>some (sayB (quietG h.bll h.bx.toNat h.by_.toNat))
 | 4=>some (sayL (agrsL h.bll))
 | 5=>some (txtZ (greatI h.bll h.bx.toNat h.by_.toNat))
 | 6=>some (sayB (localB h.bll h.bx.toNat h.by_.toNat h.bwh))
 | 7=>some (sayL (keptK h.cc h.ss h.nu h.cc.length))
 | 8=>some (sayB (decide ((keptK h.cc h.ss h.nu h.cc.length).length=h.cc.length)))
 | 9=>if bestF h.cc h.ss (2^h.cc.length)=[] then none else some (sayL (bestF h.cc h.ss (2^h.cc.length)))
 | 10=>some (txtZ (mostF h.cc h.ss h.ev.toNat (2^h.ev.toNat)).1)
 | 11=>some (txtZ ((basM (masksM h.cc)).length:Nat))
 | 12=>some (txtZ (pickF h.cc h.ev.toNat (2^h.ev.toNat):Nat))
 | 13=>if h.bx.toNat=2/\h.by_.toNat=2 then some (sayL (codeM h.bll)) else none
 | 14=>if chainB h.bll h.bx.toNat h.by_.toNat h.bwh=true/\chainM h.bll h.bwh<=999999 then some (txtZ (chainM h.bll h.bwh)) else none
 | _ => none
def quesW:List Tx:=[[98,111,120],[112,108,97,121],[115,104,97,114,101],[113,117,105,101,116],[97,103,114,101,101],[103,114,101,97,116],[108,111,99,97,108],[107,101,112,116],[115,111,108,118,101,100],[112,114,111,111,102],[109,111,115,116],[114,97,110,107],[112,105,99,107,115],[99,111,100,101],[99,104,97,105,110]]
def wordJ (w:Tx):List Tx->Nat
 | [] => 0
 | x :: r=>if w=x then 0 else wordJ w r+1
def quesO (h:HD) (w:Tx):Option Tx:=quesQ h (wordJ w quesW)
theorem wordJ_no {w:Tx}:∀ {l:List Tx},w ∉ l->wordJ w l=l.length
 | [],_=>rfl
 | x :: r,h=>by
  rw [List.mem_cons,not_or] at h;unfold wordJ;rw [if_neg h.1,wordJ_no h.2];rfl
theorem quesO_no {h:HD} {w:Tx} (hw:w ∉ quesW):quesO h w=none:=by
 unfold quesO;rw [wordJ_no hw]; rfl
theorem quesO_at (h:HD) (j:Nat) (hj:j < 15):quesO h (quesW.getD j [])=quesQ h j:=by
 unfold quesO;congr 1;have key:∀ j,j < 15->wordJ (quesW.getD j []) quesW=j:=by decide +kernel
 exact key j hj
def callW:List Tx:=[[109,105,120],[97,110,115,119,101,114],[102,108,105,112],[115,119,97,112],[114,101,100,117,99,101],[110,117,109,98,101,114],[101,118,101,110,116]]
def kindN (w:Tx):Nat:=if wordJ w callW < 7 then wordJ w callW+1 else 0
def callO (w:Tx) (ns:List Int):Option (Int×Int) :=
 if kindN w=0 then none
 else if kindN w=4∨kindN w=5 then (if ns.length=0 then some ((kindN w:Int),0) else none)
 else if ns.length=1 then some ((kindN w:Int),atZ ns 0) else none
def toldH (n:HD) (k:Int):Tx :=
 if k=1∨k=5 then txtZ n.bwh else if k=3 then sayL (agrsL n.bll) else if k=6∨k=7 then sayL (keptK n.cc n.ss n.nu n.cc.length) else sayL n.pl
def exeH (h:HD) (line:Tx):HD×Tx :=
 match numsO ((splitT 32 line).drop 1) with
 | none=>(h,qT)
 | some ns =>
  match callO (bef 32 line) ns with
  | some (k,a)=>if (nextT h k a).2=true then ((nextT h k a).1,toldH (nextT h k a).1 k) else (h,qT)
  | none=>if ns.length=0 then (h,(quesO h (bef 32 line)).getD qT) else (h,qT)
def cmdB (s:Tx):Bool:=decide (s≠[])&&plainB s 160 [35,64]
def badT:Tx:=[98,97,100]
def fullT:Tx:=[102,117,108,108]
def appR (p:Tx) (c:Int) (line rep:Tx):Tx×Int:=if recB line rep=true then (p++(lineT c.toNat line rep++[10]),c+1) else (p,c)
def exeC (h:HD) (d p:Tx) (c:Int) (line:Tx):HD×(Tx×Int)×Tx :=
 if (hallB h.bx h.by_ h.bwh h.bll h.pl h.ev h.cc h.ss h.nu h.co&&validB d p c)=true then
  if cmdB line=true then
   if c=60 then (h,(p,c),fullT)
   else ((exeH h line).1,appR p c line (exeH h line).2,(exeH h line).2)
  else (h,(p,c),badT)
 else (h,(p,c),noT)
def exeR (h:HD) (k a:Int):HD×Tx:=if (nextT h k a).2=true then ((nextT h k a).1,toldH (nextT h k a).1 k) else (h,qT)
theorem wordJ_atX {w:Tx}:∀ {l:List Tx},wordJ w l < l.length->w=l.getD (wordJ w l) []
 | [],h=>by simp at h
 | x :: r,h=>by
  unfold wordJ at h ⊢;by_cases e:w=x
  ·rw [if_pos e];subst e;rfl
  ·rw [if_neg e] at h ⊢;have:=wordJ_atX (w:=w) (l:=r) (by simpa using h);rw [List.getD_cons_succ];exact this
theorem jjd {w:Tx} {j:Nat} (hj:j < 7) (h:kindN w=j+1):w=callW.getD j []:=by
 unfold kindN at h;split at h
 ·rename_i hl;have e:wordJ w callW=j:=by omega
  have:=wordJ_atX (w:=w) (l:=callW) (by rw [e];exact hj);rwa [e] at this
 ·omega
theorem kind_bd (w:Tx):kindN w<=7:=by unfold kindN; split <;> omega
theorem exe_swap (h:HD):exeH h [115,119,97,112]=exeR h 4 0:=by
 have e1:numsO ((splitT 32 ([115,119,97,112]:Tx)).drop 1)=some []:=by decide +kernel
 have e2:callO (bef 32 [115,119,97,112]) []=some (4,0):=by decide +kernel
 unfold exeH;rw [e1];dsimp only;rw [e2];rfl
theorem exe_reduce (h:HD):exeH h [114,101,100,117,99,101]=exeR h 5 0:=by
 have e1:numsO ((splitT 32 ([114,101,100,117,99,101]:Tx)).drop 1)=some []:=by decide +kernel
 have e2:callO (bef 32 [114,101,100,117,99,101]) []=some (5,0):=by decide +kernel
 unfold exeH;rw [e1];dsimp only;rw [e2];rfl
theorem exe_tell (h:HD) {line:Tx} (h1:(splitT 32 line).length=1) (hs:line≠[115,119,97,112]) (hr:line≠[114,101,100,117,99,101]):exeH h line=(h,(quesO h line).getD qT):=by
 have hb:bef 32 line=line:=jiq ((jhe 32 line).1 Kf);have hd:(splitT 32 line).drop 1=[]:=List.drop_of_length_le Kf;have hc:callO line []=none:=by
  unfold callO;by_cases k0:kindN line=0
  ·rw [if_pos k0]
  ·rw [if_neg k0];by_cases k4:kindN line=4∨kindN line=5
   ·rcases k4 with k4 | k4
    ·exact absurd (jjd (j:=3) Kf k4) hs
    ·exact absurd (jjd (j:=4) Kf k4) hr
   ·rw [if_neg k4,if_neg Yby]
 unfold exeH;rw [hd, hb];show (match callO line [] with|some (k,a)=>_|none=>_)=_;rw [hc];rfl
theorem exe_no (h:HD) {line:Tx} (h1:1 < (splitT 32 line).length) (hr:readB (atZ (splitT 32 line) 1)=false):exeH h line=(h,qT):=by
 have e:numsO ((splitT 32 line).drop 1)=none:=by
  refine numsO_no (k:=0) (by rw [List.length_drop];omega) ?_;have:atZ ((splitT 32 line).drop 1) ((0:Nat):Int)=atZ (splitT 32 line) 1:=by
   rw [jby (by rw [List.length_drop];omega)];have e2:atZ (splitT 32 line) ((1:Nat):Int)=(splitT 32 line)[1]:=jby h1;rw [show ((1:Nat):Int)=1 from rfl] at e2;rw [e2,List.getElem_drop]
  rw [this]; exact hr
 unfold exeH;rw [e]
theorem exe_many (h:HD) {line:Tx} (h1:2 < (splitT 32 line).length):exeH h line=(h,qT):=by
 unfold exeH;cases e:numsO ((splitT 32 line).drop 1) with
 | none=>rfl
 | some ns =>
  have hl:=numsO_len e;rw [List.length_drop] at hl;have hc:callO (bef 32 line) ns=none:=by
   unfold callO;split
   ·rfl
   ·split
    ·rw [if_neg Kf]
    ·rw [if_neg Kf]
  dsimp only;rw [hc];dsimp only;rw [if_neg Kf]
theorem exe_call (h:HD) {line:Tx} (h2:(splitT 32 line).length=2) (hr:readB (atZ (splitT 32 line) 1)=true) :
  exeH h line=if kindN (bef 32 line)=0∨kindN (bef 32 line)=4∨kindN (bef 32 line)=5 then (h,qT) else exeR h (kindN (bef 32 line):Int) (candZ (atZ (splitT 32 line) 1)):=by
 obtain ⟨w0,w1,hw⟩:∃ w0 w1,splitT 32 line=[w0,w1]:=by
  match hh:splitT 32 line,h2 with
  | [a,b],_=>exact ⟨a,b,rfl⟩
 have e1:atZ (splitT 32 line) 1=w1:=by rw [hw];rfl
 have e:numsO ((splitT 32 line).drop 1)=some [candZ w1]:=by
  rw [hw];show (if readB w1=true then (numsO []).map (candZ w1 :: ·) else none)=_;rw [e1] at hr;rw [if_pos hr]; rfl
 rw [e1];unfold exeH;rw [e];dsimp only;unfold callO;by_cases k0:kindN (bef 32 line)=0
 ·have g:kindN (bef 32 line)=0∨kindN (bef 32 line)=4∨kindN (bef 32 line)=5:=.inl k0;rw [if_pos g,if_pos k0];rfl
 ·rw [if_neg k0];by_cases k4:kindN (bef 32 line)=4∨kindN (bef 32 line)=5
  ·have g:kindN (bef 32 line)=0∨kindN (bef 32 line)=4∨kindN (bef 32 line)=5:=.inr k4;have l1:¬ ([candZ w1]:List Int).length=0:=by simp
   rw [if_pos g,if_pos k4,if_neg l1];dsimp only;rw [if_neg l1]
  ·have g:¬ (kindN (bef 32 line)=0∨kindN (bef 32 line)=4∨kindN (bef 32 line)=5):=fun h=>h.elim k0 k4;have l1:([candZ w1]:List Int).length=1:=rfl;rw [if_neg g,if_neg k4,if_pos l1];rfl
theorem kind_word (w:Tx):(w=[109,105,120]->kindN w=1)/\(w=[97,110,115,119,101,114]->kindN w=2)/\(w=[102,108,105,112]->kindN w=3)/\(w=[110,117,109,98,101,114]->kindN w=6)/\(w=[101,118,101,110,116]->kindN w=7):=by
 refine ⟨fun h=>?_,fun h=>?_,fun h=>?_,fun h=>?_,fun h=>?_⟩ <;> (subst h;decide +kernel)
theorem kind_none {w:Tx} (h1:w≠[109,105,120]) (h2:w≠[97,110,115,119,101,114]) (h3:w≠[102,108,105,112]) (h6:w≠[110,117,109,98,101,114]) (h7:w≠[101,118,101,110,116]):kindN w=0∨kindN w=4∨kindN w=5:=by
 have b:=kind_bd w;rcases (by omega:kindN w=0∨kindN w=1∨kindN w=2∨kindN w=3∨kindN w=4∨kindN w=5∨kindN w=6∨kindN w=7) with h|h|h|h|h|h|h|h
 ·exact .inl h
 ·exact absurd (jjd (j:=0) Kf h) h1
 ·exact absurd (jjd (j:=1) Kf h) h2
 ·exact absurd (jjd (j:=2) Kf h) h3
 ·exact .inr (.inl h)
 ·exact .inr (.inr h)
 ·exact absurd (jjd (j:=5) Kf h) h6
 ·exact absurd (jjd (j:=6) Kf h) h7
theorem jox (b:UInt8):∀ (s:Tx),∀ x∈splitT b s,x.length<=s.length
 | [],x,h=>by
  rw [show splitT b []=[[]] from rfl,List.mem_singleton] at h;subst h; simp
 | c :: r,x,h=>by
  have ih:=jox b r;unfold splitT at h;split at h
  ·rcases List.mem_cons.1 h with rfl|h
   ·simp
   ·have:=ih x h;rw [List.length_cons];omega
  ·split at h
   ·rw [List.mem_singleton] at h;subst h;simp
   ·rename_i hd tl e;rw [e] at ih;rcases List.mem_cons.1 h with rfl|h
    ·have:=ih hd (List.mem_cons_self ..);rw [List.length_cons,List.length_cons];omega
    ·have:=ih x (List.mem_cons_of_mem _ h);rw [List.length_cons];omega
theorem split_at_len (b:UInt8) (s:Tx) {i:Nat} (h:i < (splitT b s).length):(atZ (splitT b s) (i:Int)).length<=s.length:=by
 rw [jby h];exact jox b s _ (List.getElem_mem h)
theorem cmd_rec (line:Tx):recB line []=cmdB line:=by
 rw [<- recB_eq];have:plainB [] 250 [35]=true:=rfl;rw [this,Bool.and_true];rfl
theorem exeH_ok {h:HD} (line:Tx) (hb:hallV h=true):hallV (exeH h line).1=true:=by
 unfold exeH;split
 ·exact hb
 ·split
  ·rename_i k a _;have nok:=nextT_ok h k a;split
   ·rename_i hk;have:=nok.val hk;exact this
   ·exact hb
  ·split <;> exact hb
section
variable {xa ya na:Int} {la:List (List Int)} {xb yb nb:Int} {lb:List (List Int)} {l1 l2:List RuleE}
end
def q2:Nat->Int
 | 0 => 0
 | _+1=>2
theorem exeC_val {h:HD} {d p:Tx} {c:Int} (line:Tx) (hB:hallV h=true) (hV:validB d p c=true):hallV (exeC h d p c line).1=true/\validB d (exeC h d p c line).2.1.1 (exeC h d p c line).2.1.2=true:=by
 have v:=validB_p hV;have lb:=jfv (d++p);unfold exeC;have hb:(hallB h.bx h.by_ h.bwh h.bll h.pl h.ev h.cc h.ss h.nu h.co&&validB d p c)=true:=by rw [hV,Bool.and_true];exact hB
 rw [if_pos hb];by_cases hc:cmdB line=true
 ·rw [if_pos hc];by_cases h60:c=60
  ·rw [if_pos h60];exact ⟨hB,hV⟩
  ·rw [if_neg h60];refine ⟨exeH_ok line hB,?_⟩;dsimp only;unfold appR;by_cases hr:recB line (exeH h line).2=true
   ·rw [if_pos hr];dsimp only;have hk:numR (d++p)=c.toNat:=by have:=v.cnt;omega
    have l6:c.toNat < 60:=by have:=v.cnt;omega
    obtain ⟨a1,a2,-⟩:=log_append (s:=d++p) v.all hk l6 hr;have e:d++(p++(lineT c.toNat line (exeH h line).2++[10]))=d++p++(lineT c.toNat line (exeH h line).2++[10]):=(List.append_assoc ..).symm;have b:=ends_bd (s:=d++p++(lineT c.toNat line (exeH h line).2++[10])) (j:=numR (d++p++(lineT c.toNat line (exeH h line).2++[10]))) (Nat.le_refl _);have b2:endT (d++p++(lineT c.toNat line (exeH h line).2++[10]))=endsT (d++p++(lineT c.toNat line (exeH h line).2++[10])) (numR (d++p++(lineT c.toNat line (exeH h line).2++[10]))):=rfl;have b3:=jfv (d++p++(lineT c.toNat line (exeH h line).2++[10]));unfold validB;rw [e,a2,v.dur,a1];have len:(d++p++(lineT c.toNat line (exeH h line).2++[10])).length=d.length+(p++(lineT c.toNat line (exeH h line).2++[10])).length:=by rw [<- e,List.length_append]
    have q1:((d.length:Int)+((p++(lineT c.toNat line (exeH h line).2++[10])).length:Int)<=30000):=by omega
    have q2:c+1=((c.toNat+1:Nat):Int):=by have:=v.cnt;omega
    rw [decide_eq_true q1,decide_eq_true rfl,decide_eq_true rfl,decide_eq_true q2];rfl
   ·rw [if_neg hr];exact hV
 ·rw [if_neg hc];exact ⟨hB,hV⟩
def stS (d:Tx) (s0:HD×(Tx×Int)) (ls:List Tx):Nat->HD×(Tx×Int)
 | 0 => s0
 | k+1=>((exeC (stS d s0 ls k).1 d (stS d s0 ls k).2.1 (stS d s0 ls k).2.2 (atZ ls (k:Int))).1,(exeC (stS d s0 ls k).1 d (stS d s0 ls k).2.1 (stS d s0 ls k).2.2 (atZ ls (k:Int))).2.1)
def replyS (d:Tx) (s0:HD×(Tx×Int)) (ls:List Tx) (k:Nat):Tx:=(exeC (stS d s0 ls k).1 d (stS d s0 ls k).2.1 (stS d s0 ls k).2.2 (atZ ls (k:Int))).2.2
theorem stS_val {d:Tx} {s0:HD×(Tx×Int)} (ls:List Tx) (hB:hallV s0.1=true) (hV:validB d s0.2.1 s0.2.2=true):∀ k,hallV (stS d s0 ls k).1=true/\validB d (stS d s0 ls k).2.1 (stS d s0 ls k).2.2=true
 | 0=>⟨hB,hV⟩
 | k+1=>by
  have ih:=stS_val ls hB hV k;exact exeC_val (atZ ls (k:Int)) ih.1 ih.2
theorem jjo (bx by_ bwh:Int) (bll:List (List Int)) (pl:List Int) (ev:Int) (cc:List (List Int)) (ss nu:List Int) (co:Int) (d p:Tx) (c:Int) (ls:List Tx) (hB:hallB bx by_ bwh bll pl ev cc ss nu co=true) (hV:validB d p c=true) :
  ∃ (fx fy fw : Nat -> Int) (fl : Nat -> List (List Int)) (fq : Nat -> List Int) (fe : Nat -> Int) (fc : Nat -> List (List Int)) (fs fn : Nat -> List Int) (fo : Nat -> Int) (fp : Nat -> Tx) (fk : Nat -> Int),
   (fx 0=bx/\fy 0=by_/\fw 0=bwh/\fl 0=bll/\fq 0=pl/\fe 0=ev/\fc 0=cc/\fs 0=ss/\fn 0=nu/\fo 0=co/\fp 0=p/\fk 0=c) /\
   ∀ i : Nat, hallB (fx i) (fy i) (fw i) (fl i) (fq i) (fe i) (fc i) (fs i) (fn i) (fo i) = true /\ validB d (fp i) (fk i) = true /\
    exeC ⟨fx i,fy i,fw i,fl i,fq i,fe i,fc i,fs i,fn i,fo i⟩ d (fp i) (fk i) (atZ ls (i:Int))=(⟨fx (i+1),fy (i+1),fw (i+1),fl (i+1),fq (i+1),fe (i+1),fc (i+1),fs (i+1),fn (i+1),fo (i+1)⟩,(fp (i+1),fk (i+1)),replyS d (⟨bx,by_,bwh,bll,pl,ev,cc,ss,nu,co⟩,(p,c)) ls i):=by
 have v:=stS_val (d:=d) (s0:=(⟨bx,by_,bwh,bll,pl,ev,cc,ss,nu,co⟩,(p,c))) ls hB hV;refine ⟨fun i=>(stS d (⟨bx,by_,bwh,bll,pl,ev,cc,ss,nu,co⟩,(p,c)) ls i).1.bx,fun i=>(stS d (⟨bx,by_,bwh,bll,pl,ev,cc,ss,nu,co⟩,(p,c)) ls i).1.by_,fun i=>(stS d (⟨bx,by_,bwh,bll,pl,ev,cc,ss,nu,co⟩,(p,c)) ls i).1.bwh,fun i=>(stS d (⟨bx,by_,bwh,bll,pl,ev,cc,ss,nu,co⟩,(p,c)) ls i).1.bll,fun i=>(stS d (⟨bx,by_,bwh,bll,pl,ev,cc,ss,nu,co⟩,(p,c)) ls i).1.pl,fun i=>(stS d (⟨bx,by_,bwh,bll,pl,ev,cc,ss,nu,co⟩,(p,c)) ls i).1.ev,fun i=>(stS d (⟨bx,by_,bwh,bll,pl,ev,cc,ss,nu,co⟩,(p,c)) ls i).1.cc,fun i=>(stS d (⟨bx,by_,bwh,bll,pl,ev,cc,ss,nu,co⟩,(p,c)) ls i).1.ss,fun i=>(stS d (⟨bx,by_,bwh,bll,pl,ev,cc,ss,nu,co⟩,(p,c)) ls i).1.nu,fun i=>(stS d (⟨bx,by_,bwh,bll,pl,ev,cc,ss,nu,co⟩,(p,c)) ls i).1.co,fun i=>(stS d (⟨bx,by_,bwh,bll,pl,ev,cc,ss,nu,co⟩,(p,c)) ls i).2.1,fun i=>(stS d (⟨bx,by_,bwh,bll,pl,ev,cc,ss,nu,co⟩,(p,c)) ls i).2.2,⟨rfl,rfl,rfl,rfl,rfl,rfl,rfl,rfl,rfl,rfl,rfl,rfl⟩,fun i=>⟨(v i).1,(v i).2,rfl⟩⟩
def firstF (f:Nat->Bool):Nat->Nat
 | 0 => 0
 | n+1=>if firstF f n < n then firstF f n else if f n=true then n+1 else n
theorem jin {f:Nat->Bool}:∀ {n:Nat},(∀ i,i < n->f i=true)->firstF f n=n
 | 0,_=>rfl
 | n+1,h=>by
  have ih:=jin (f:=f) (n:=n) fun i hi=>h i Kf;unfold firstF;rw [if_neg Kf,if_pos (h n Kf)]
theorem jnt {f:Nat->Bool} {i:Nat} (h:∀ j,j < i->f j=true) (hf:f i=false):∀ {n:Nat},i < n->firstF f n=i
 | 0,hi=>by omega
 | n+1,hi=>by
  by_cases e:i=n
  ·subst e;unfold firstF;rw [jin h,if_neg Kf,if_neg (by rw [hf];simp)]
  ·have ih:=jnt h hf (n:=n) Kf;unfold firstF;rw [ih,if_pos Kf]
def mixPl (X Y j k i:Nat):Nat:=2*bitN i (X+Y - 1 - j)+bitN i (Y - 1 - k)
def mixV (sh:List Int) (X Y j k i p:Nat):Int:=accN (mixPl X Y j k) (fun t=>atZ sh (t:Int)) i p
def mixM (sh:List Int) (X Y i q:Nat):List (List Int):=(List.range (Y*X)).map fun t=>rowF (mixV sh X Y (t / Y) (t%Y) (if t < q then i+1 else i)) 4
@[simp] theorem mixM_len (sh : List Int) (X Y i q : Nat) : (mixM sh X Y i q).length = Y * X := by simp [mixM]
theorem least_ge {v m:Int} {f:Nat->Int} (h:v<=m):∀ {n:Nat},(∀ j,j < n->v<=f j)->v<=leastN m f n
 | 0, _ => h
 | n+1,hf=>by
  have:=least_ge (f:=f) h (n:=n) fun j hj=>hf j Kf;have:=hf n Kf;unfold leastN; omega
theorem jip {l:List Int} {n:Int} (h:bitsB l n=true):jgh l:=fun x hx=>by
 simp only [bitsB,allB,Bool.and_eq_true,List.all_eq_true] at h;have:=jcx.1 (h.2 x hx);omega
theorem jit {x y n:Int} {ll:List (List Int)} (h:boxB x y n ll=true):jgh (agrsL ll):=fun v hv=>by
 have n2:=(jbo h).n2;unfold agrsL rowF at hv;obtain ⟨j,hj,rfl⟩:=List.mem_map.1 hv;have:=agrR_bd h (List.mem_range.1 hj);omega
theorem jil {cc:List (List Int)} {ss nu:List Int} {k:Nat} (hk:k<=10):jgh (keptK cc ss nu k):=fun v hv=>by
 unfold keptK at hv;obtain ⟨i,hi,rfl⟩:=List.mem_map.1 hv;have:=List.mem_range.1 (List.mem_filter.1 hi).1;omega
theorem best_small {cc:List (List Int)} {ss:List Int} (hk:cc.length<=10) (c:Nat):jgh (bestF cc ss c):=fun v hv=>by
 have:=bestF_small cc ss c v hv;omega
theorem codeV_bd {n:Int} {ll:List (List Int)} (h:boxB 2 2 n ll=true) {k i:Nat} (hk:k < 4) (hi:i < 2):0<=codeV ll k i/\codeV ll k i<=2*n:=by
 have bd:∀ x y p:Nat,x < 2->y < 2->p < 4->0<=atZ (atZ ll ((2*x+y:Nat):Int)) (p:Int)/\atZ (atZ ll ((2*x+y:Nat):Int)) (p:Int)<=n:=fun x y p hx hy hp=>by
  have b:=(jfq (x:=2) (y:=2) h (i:=x) (k:=y) hx hy).1 p hp;unfold atB at b;have e3:(x:Int)*((2:Nat):Int)+(y:Int)=((2*x+y:Nat):Int):=by omega
  rwa [e3] at b
 have x2:∀ {a b:Nat},a < 2->b < 2->a^^^b < 2:=fun ha hb=>Nat.xor_lt_two_pow (n:=1) ha hb;have hs:k%2 < 2:=by omega
 have ht:k / 2 < 2:=by omega
 have hw:(k%2)^^^(if i=0 then k%2 else k / 2) < 2:=x2 hs (by split <;> omega);have b1:=bd ((k%2)^^^(k / 2)) i ((k%2)^^^(if i=0 then k%2 else k / 2)) (x2 hs ht) hi Kf;have b2:=bd ((k%2)^^^(k / 2)) i (2+(1 - ((k%2)^^^(if i=0 then k%2 else k / 2)))) (x2 hs ht) hi Kf;show 0<=atZ (atZ ll ((2*((k%2)^^^(k / 2))+i:Nat):Int)) (((k%2)^^^(if i=0 then k%2 else k / 2):Nat):Int)+atZ (atZ ll ((2*((k%2)^^^(k / 2))+i:Nat):Int)) ((2+(1 - ((k%2)^^^(if i=0 then k%2 else k / 2))):Nat):Int)/\atZ (atZ ll ((2*((k%2)^^^(k / 2))+i:Nat):Int)) (((k%2)^^^(if i=0 then k%2 else k / 2):Nat):Int)+atZ (atZ ll ((2*((k%2)^^^(k / 2))+i:Nat):Int)) ((2+(1 - ((k%2)^^^(if i=0 then k%2 else k / 2))):Nat):Int)<=2*n;omega
theorem code_small {n:Int} {ll:List (List Int)} (h:boxB 2 2 n ll=true):jgh (codeM ll):=fun v hv=>by
 have n2:=(jbo h).n2;unfold codeM rowF at hv;obtain ⟨j,hj,rfl⟩:=List.mem_map.1 hv;have hj:=List.mem_range.1 hj;have:=codeV_bd h (k:=j / 2) (i:=j%2) Kf Kf;omega
theorem jnq {X Y:Nat} {n:Int} {ll:List (List Int)} (h:boxB X Y n ll=true) : -999999<=greatI ll X Y/\greatI ll X Y<=999999:=by
 have:=jnr h;have:=greatK_nn ll X Y (sumsN X Y);have n2:=(jbo h).n2;unfold greatI at *;omega
theorem most_small {cc:List (List Int)} {ss:List Int} (hk:cc.length<=10) (ev c:Nat) : -999999<=(mostF cc ss ev c).1/\(mostF cc ss ev c).1<=999999:=by
 have:=mostF_bd cc ss ev c;omega
theorem bas_len (ms:List Nat):(basM ms).length<=ms.length:=by
 have gen:∀ (ms rows:List Nat),(ms.foldl addM rows).length<=rows.length+ms.length:=fun ms=>by
  induction ms with
  | nil=>intro rows; simp
  | cons m ms ih =>
   intro rows;have a:(addM rows m).length<=rows.length+1:=by unfold addM;split <;> simp
   have:=ih (addM rows m);simp only [List.foldl_cons,List.length_cons];omega
 have:=gen ms [];simpa [basM] using this
theorem jpc {cc:List (List Int)} (hk:cc.length<=10) : -999999<=((basM (masksM cc)).length:Int)/\((basM (masksM cc)).length:Int)<=999999:=by
 have:=bas_len (masksM cc);have e:(masksM cc).length=cc.length:=by simp [masksM]
 omega
theorem jpg (cc:List (List Int)) {ev:Nat} (he:ev<=12) : -999999<=((pickF cc ev (2^ev):Nat):Int)/\((pickF cc ev (2^ev):Nat):Int)<=999999:=by
 have:=pickF_le cc ev (2^ev);have:2^ev<=2^12:=Nat.pow_le_pow_right Kf he;omega
theorem jlt {X Y:Nat} {n:Int} {ll:List (List Int)} {pl:List Int} (h:boxB X Y n ll=true) (hp:bitsB pl ((X:Int)+Y)=true) : -999999<=leastN n (chanceF Y X ll pl) (Y*X)/\leastN n (chanceF Y X ll pl) (Y*X)<=999999:=by
 have b:=jbo h;have n1:=b.n1;have n2:=b.n2;have y1:=b.y1;have bl:=b.len;have nn:∀ j,j < Y*X->0<=chanceF Y X ll pl j:=fun j hj=>by
  obtain ⟨a,m,-,-,ha,hm,e⟩:=jls (X:=X) ll pl (by omega:1<=Y) hj;rw [e];have f1:=jdd hp (i:=(a:Int)) Kf Kf;have f2:=jdd hp (i:=(X:Int)+m) Kf Kf;have hl:j < ll.length:=by
   have:((Y*X:Nat):Int)=(X:Int)*(Y:Int):=by rw [Int.natCast_mul,Int.mul_comm]
   omega
  have r:=jfj (b.row j hl);obtain ⟨q,hq⟩:=Int.eq_ofNat_of_zero_le (show 0<=2*atZ pl (a:Int)+atZ pl ((X:Int)+m) by omega);rw [hq,jby hl,jby (by rw [r.1];omega)];exact (r.2 q (by rw [r.1];omega)).1
 have lo:=least_ge (v:=0) (m:=n) (f:=chanceF Y X ll pl) Kf nn;have hi:∀ k,leastN n (chanceF Y X ll pl) k<=n:=fun k=>by
  induction k with
  | zero=>exact Int.le_refl _
  | succ k ih=>unfold leastN;omega
 have:=hi (Y*X);omega
end
section
variable [Glb]
variable [GTab Tryz.prog tabNm]
theorem itoa_txt (n:Int):Go.Lib.itoa n=txtZ n:=by
 unfold txtZ;by_cases h:n < 0
 ·rw [if_pos h];obtain ⟨u,rfl⟩:∃ u:Nat,n = -(u:Int):=⟨n.natAbs,by omega⟩;rw [Go.Lib.itoa_neg u Kf,show (- -(u:Int)).toNat=u by omega];rfl
 ·rw [if_neg h];obtain ⟨u,rfl⟩:∃ u:Nat,n=(u:Int):=⟨n.toNat,by omega⟩;rw [Go.Lib.itoa_nonneg];rfl
theorem itoaZ_p (n:Int) (h : -999999<=n/\n<=999999):PC Tryz.prog 122 [.c (dI n)] (.p (.c (dT (txtZ n)))) :=
 pc_lit1 (Go.Proofs.enters_of Tryz.func122 Kb rfl) (by
  have:=(jew h).2;simp [sc,jeb];omega) fun w ok=>(Tryz.strconv_Itoa n Kf Kf w (GTab.tab w ok)).mono (by
  rintro e w' ⟨rfl,k,os,rfl⟩;refine ⟨by rw [itoa_txt];rfl,⟨rfl,rfl,rfl,?_,fun g hg=>?_⟩⟩
  ·simp [Go.Sort.grow,World.drewN]
  ·simp only [Go.Sort.grow,World.drewN];rw [Array.getElem?_append_left hg])
end
section
variable [Glb]
theorem join_lib (b:UInt8):∀ l:List Tx,Go.Lib.join l [b]=joinT b l
 | [] => rfl
 | [x]=>by simp [joinT,Go.Lib.join_one]
 | x :: y :: r=>by
  have ih:=join_lib b (y :: r);rw [jhi b x Yby,<- ih,Go.Lib.join_cons,Go.Lib.join_cons];simp [Go.Lib.joinTail]
theorem map_txt (l:List Tx):(l.map bsT).map (·.data.toList)=l:=by
 rw [List.map_map];conv=>rhs;rw [<- List.map_id l]
 exact List.map_congr_left fun x _=>by simp [bsT]
theorem join_p (l:List Tx) (b:UInt8) (hl:l.length<=1000000) (hj:(joinT b l).length<=1000000000):PC Tryz.prog 186 [.c (eT l),.c (dT [b])] (.p (.c (dT (joinT b l)))):=by
 have hsc:sc (.string (bsT (joinT b l)))=true:=by simp [sc,jeb];omega
 refine ⟨Go.Proofs.enters_of Tryz.func186 Kb rfl,fun w vs ok hv=>?_⟩;obtain ⟨x,y,rfl,h1,h2⟩:=hv.two;rw [h2.lit_inv];obtain ⟨q,hq⟩:∃ q,q=RP.c (eT l):=⟨_,rfl⟩;rw [<- hq] at h1;cases h1 with
 | g=>cases hq
 | c v z F h =>
  obtain rfl:=RP.c.inj hq;obtain ⟨q2,hq2⟩:∃ q2,q2=eT l:=⟨_,rfl⟩;rw [<- hq2] at h;cases h with
  | lit=>cases hq2
  | pt=>cases hq2
  | fn=>cases hq2
  | bf=>cases hq2
  | same=>cases hq2
  | any=>cases hq2
  | sl ao n cap sz ds us Fs hn hz hle hs hc hr =>
   simp only [eT,D.sl.injEq] at hq2;obtain ⟨rfl,rfl,rfl⟩:=hq2;have hus:∀ k (hk:k < l.length),us k = .string (bsT l[k]):=fun k hk=>by
    have h2:=hr k (by simpa using hk);rw [List.getElem_map] at h2;generalize us k=u at h2;generalize Fs k=F at h2;cases h2; rfl
   have fin:∀ {e:Ending} {w':World},e = .returned (.string (bsT (joinT b l)))->Below w.heap.size w w' -> ∃ v F,e = .returned v/\OwR w' v (.p (.c (dT (joinT b l)))) F/\F.Nodup/\(∀ g∈F,w.heap.size<=g)/\Below w.heap.size w w':=fun {e w'} he hb =>
    ⟨_,[],he,.p (.c (.lit _ hsc)),List.nodup_nil,(fun g hg=>by cases hg),hb⟩
   by_cases h0:l=[]
   ·subst h0;refine Calls.mono (Tryz.strings_Join_none ao cap (bsT [b]) w) ?_;rintro e w' ⟨rfl,rfl⟩;exact fin rfl (.refl _ _)
   ·have hp:0 < l.length:=List.length_pos_iff.2 h0;have hso:=hs hp;obtain ⟨⟨bk,o,sp⟩,rfl⟩:=Option.isSome_iff_exists.1 hso;have hsp:sp=none:=by
     have h:=hc 0 (by simpa using hp);unfold World.cell? at h;cases sp with
     | none=>rfl
     | some x=>simp [Addr.add,adrO] at h;split at h <;> simp at h
    subst hsp;have hcell:∀ (j:Nat) (x:ByteArray),(l.map bsT)[j]? = some x->w.cell? ⟨bk,o+j,none⟩=some (.string x):=fun j x hx=>by
     have hj:j < l.length:=by have:=(List.getElem?_eq_some_iff.1 hx).1;simpa using this
     have h:=hc j (by simpa using hj);rw [hus j hj,adrO_some,jgu] at h;rw [h];rw [List.getElem?_map,List.getElem?_eq_getElem hj] at hx;simp only [Option.map_some,Option.some.injEq] at hx;rw [hx]
    have hlt:bk < w.heap.size:=by
     have h:=hc 0 (by simpa using hp);rw [adrO_some,jgu] at h;exact World.block_lt_of_cell? w _ h
    have J:=Tryz.strings_Join bk o cap (l.map bsT) (bsT [b]) w hcell hlt (by rw [List.length_map];omega) (by rw [List.length_map];exact hle.2) (by rw [map_txt,jgl,join_lib];omega);rw [List.length_map] at J;refine Calls.mono J ?_;rintro e w' ⟨rfl,hb⟩;refine fin ?_ hb;rw [map_txt,jgl,join_lib];rfl
theorem areQuestions_p (x y:Int):PC Tryz.prog 151 [.c (dI x),.c (dI y)] (.p (.c (dB (sizeB x y)))):=by
 refine jao Tryz.func151 fun _=>?_;repeat' (first|refine Wbh ?_|refine Wbi ?_|refine jac ?_|refine Maa ?_|apply Ub (c:=within_p _ _ _) (h:=?_)|refine jdf rfl rfl (fun hg=>?_) (fun hg=>?_))
 all_goals refine Rad ?_
 all_goals ((simp_all [sizeB];done))
theorem total_p (l:List Int):PC Tryz.prog 153 [.c (eI l)] (.p (.c (dI (sum64 l)))):=by
 refine jao Tryz.func153 ?_;rintro ⟨hl,-⟩;have hl:=hl.len;repeat' (first|refine jac ?_|refine Maa ?_|fail)
 apply jbe [3,6,7,8] [] rfl;exact Ky;exact Yar;refine jbf [6,7] [] (fun k=>[(8,iN k),(3,iZ (sum64 (l.take k)))]) (fun _=>[]) (fun k=>k<=l.length) (fun k=>l.length - k) (0) ?_ Kg Kv ?_
 ·simp
 intro k hk;repeat' (first|refine jac ?_|refine Maa ?_|refine Wbj ?_|refine jbd rfl (fun hc=>?_) (fun hc=>?_))
 ·have hk2:k < l.length:=by omega
  refine bkL (k+1) ?_ ?_ (hV:=(by (repeat(first|exact trivial|refine ⟨(by (first|rfl|(refine jcd rfl ?_;((simp  [jov hk2,jby hk2];done))))),?_⟩))))
  ·omega
  ·omega
 ·have:k=l.length:=by omega
  subst this;refine Rad ?_;simp
theorem IsBox_p (x y n:Int) (ll:List (List Int)):PC Tryz.prog 95 [.g [dI x,dI y,dI n,eII ll]] (.p (.c (dB (boxB x y n ll)))):=by
 refine jao Tryz.func95 ?_;rintro ⟨hl,-⟩;have hl:=(hl _ (List.mem_cons_of_mem _ (List.mem_cons_of_mem _ (List.mem_cons_of_mem _ (List.mem_cons_self ..))))).len;repeat' (first|refine Wbh ?_|refine Wbi ?_|refine jac ?_|refine Maa ?_|refine Wba ?_|(refine jaa (.binOp .mul 3 _ _ _) ?_;(refine jab (qt_mul rfl rfl) rfl ?_))|apply Ub (c:=areQuestions_p _ _) (h:=?_)|apply Ub (c:=within_p _ _ _) (h:=?_)|refine jdf rfl rfl (fun hg=>?_) (fun hg=>?_)|refine jbd rfl (fun hc=>?_) (fun hc=>?_))
 ·refine Rad ?_;have h9:sizeB x y=false:=by simpa using hg
  simp [boxB,h9]
 ·refine Rad ?_;have h9:inB n 1 1000=false:=by simpa using hg
  simp [boxB,h9]
 ·exact Dbn
 have hs:sizeB x y=true:=by simp_all
 have hn:inB n 1 1000=true:=by simp_all
 have hlen:(ll.length:Int)=x*y:=by rw [<- jjg hs];omega
 apply jbe [1,29,30,31] [1] rfl;exact Kh;exact Ybi;refine jbf [1,29,30] [1] (fun k=>[(31,iN k)]) (fun _=>[]) (fun k=>k<=ll.length/\(ll.take k).all (row4B n)=true) (fun k=>ll.length - k) (0) ?_ Kg Kv ?_
 ·simp
 rintro k ⟨hk,ha⟩;repeat' (first|refine Wbh ?_|refine Wbi ?_|refine jac ?_|refine jav 6 (fun _=>false) [0,1,2,3,4,5,6,-8,8,9,10,11,13,14,-13,15,16] ?_|refine Maa ?_|apply Ub (c:=allWithin_p _ _ _) (h:=?_)|apply Ub (c:=total_p _) (h:=?_)|refine jcc rfl rfl (fun hg=>?_) (fun hg=>?_)|refine jdf rfl rfl (fun hg=>?_) (fun hg=>?_)|refine jbd rfl (fun hc=>?_) (fun hc=>?_))
 ·have hk2:k < ll.length:=by omega
  rw [jby hk2] at hg;refine Rad ?_;have h9:row4B n ll[k]=false:=by simp [row4B];omega
  rw [boxB,jlu hk2 h9];simp
 ·rename_i hk';have hk2:k < ll.length:=by omega
  rw [jby hk2] at hg;refine Rad ?_;have h9:row4B n ll[k]=false:=by simp at hg;simp [row4B,hg]
  rw [boxB,jlu hk2 h9];simp
 ·rename_i hk';have hk2:k < ll.length:=by omega
  rw [jby hk2] at hg hc;refine Rad ?_;have h9:row4B n ll[k]=false:=by simp [row4B,hc]
  rw [boxB,jlu hk2 h9];simp
 ·rename_i hk' hg';have hk2:k < ll.length:=by omega
  rw [jby hk2] at hg hc hg';have h9:row4B n ll[k]=true:=by simp at hg hc hg';simp [row4B,hg,hc];omega
  refine bkL (k+1) ?_ ?_
  ·exact ⟨by omega,by rw [jdw _ _ _ hk2,ha,h9];rfl⟩
  ·omega
 ·exact Dbv
end
section
variable [Glb]
variable [GTab Tryz.prog tabNm]
theorem FormatInt_p (n:Int) (h : -999999<=n/\n<=999999):PC Tryz.prog 185 [.c (dI n)] (.t [.c (dT (txtZ n)),.c (dB true)]):=by
 have hi:inB n (-999999) 999999=true:=jcx.2 h;refine jao Tryz.func185 fun _=>?_;repeat' (first|refine jac ?_|refine Maa ?_|apply Ub (c:=within_p _ _ _) (h:=?_)|apply Ub (c:=itoaZ_p n h) (h:=?_)|refine jcu rfl (fun hc=>?_) (fun hc=>?_)|exact Qac|exact Rbl|fail)
theorem FormatInt_no (n:Int) (h:n < -999999∨999999 < n):PC Tryz.prog 185 [.c (dI n)] (.t [.c (dT []),.c (dB false)]):=by
 have hi:inB n (-999999) 999999=false:=jim.2 h;refine jao Tryz.func185 fun _=>?_;repeat' (first|refine jac ?_|refine Maa ?_|apply Ub (c:=within_p _ _ _) (h:=?_)|refine jcu rfl (fun hc=>?_) (fun hc=>?_)|exact Qac|exact Rbl|fail)
theorem numberReply_p (n:Int) (h : -999999<=n/\n<=999999):PC Tryz.prog 125 [.c (dI n),.c (dB true)] (.t [.c (dT (txtZ n)),.c (dB true)]):=by
 refine jao Tryz.func125 fun _=>?_;repeat' (first|refine jac ?_|refine Maa ?_|apply Ub (c:=FormatInt_p n h) (h:=?_)|exact Qac|exact Rbl|fail)
theorem jne (n:Int) (h:n < -999999∨999999 < n):PC Tryz.prog 125 [.c (dI n),.c (dB true)] (.t [.c (dT []),.c (dB false)]):=by
 refine jao Tryz.func125 fun _=>?_;repeat' (first|refine jac ?_|refine Maa ?_|apply Ub (c:=FormatInt_no n h) (h:=?_)|exact Qac|exact Rbl|fail)
theorem jon (n:Int):PC Tryz.prog 125 [.c (dI n),.c (dB false)] (.t [.c (dT []),.c (dB false)]):=by
 refine jao Tryz.func125 fun _=>?_;repeat' (first|refine jac ?_|refine Maa ?_|exact Qac|exact Rbl|fail)
theorem jln (l:List Int):PC Tryz.prog 126 [.c (eI l),.c (dB false)] (.t [.c (dT []),.c (dB false)]):=by
 refine jao Tryz.func126 fun _=>?_;repeat' (first|refine jac ?_|refine Maa ?_|exact Qac|exact Rbl|fail)
def txtD (l:List Int) (k:Nat):List D:=(l.take k).map fun n=>dT (txtZ n)
theorem txtD_zero (l:List Int):txtD l 0=[]:=rfl
theorem txtD_succ {l:List Int} {k:Nat} (h:k < l.length):txtD l (k+1)=txtD l k++[dT (txtZ (atZ l (k:Int)))]:=by
 unfold txtD;rw [List.take_succ_eq_append_getElem h,List.map_append,jby h];rfl
theorem txtD_all (l:List Int):txtD l l.length=(l.map txtZ).map dT:=by
 unfold txtD;rw [List.take_length,List.map_map];rfl
@[simp] theorem txtD_len {l : List Int} {k : Nat} (h : k <= l.length) : (txtD l k).length = k := by simp [txtD]; omega
theorem joinZ_p (l:List Int) (b:UInt8) (h:jgh l) (hl:l.length<=1000):PC Tryz.prog 186 [.c (.sl 1 l.length (txtD l l.length)),.c (dT [b])] (.p (.c (dT (joinT b (l.map txtZ))))):=by
 have hj:=jic b (m:=7) (l:=l.map txtZ) fun x hx=>by
  obtain ⟨n,hn,rfl⟩:=List.mem_map.1 hx;exact (jew (h n hn)).2
 rw [List.length_map] at hj;have jp:=join_p (l.map txtZ) b (by rw [List.length_map];omega) Kf;unfold eT at jp;rw [List.length_map] at jp;rw [txtD_all];exact jp
theorem listReply_p (l:List Int) (h:jgh l) (hl:l.length<=1000):PC Tryz.prog 126 [.c (eI l),.c (dB true)] (.t [.c (dT (sayL l)),.c (dB true)]):=by
 have jp:=joinZ_p l 32 h hl;refine jao Tryz.func126 fun _=>?_;repeat' (first|refine jac ?_|refine Maa ?_|refine Wcb ?_|exact Qac|fail)
 apply jbe [6,14,15,16] [13,29,30] rfl;exact Kr;exact Yah;refine jbf [14,15] [29,30] (fun k=>[(16,iN k),(6,.c (.ls 13 1 0 k))]) (fun k=>[(13,.row 1 (txtD l k))]) (fun k=>k<=l.length) (fun k=>l.length - k) (0) ?_ Kg (by (repeat(first|exact trivial|refine ⟨(by ((refine jbs rfl ?_;simp  [txtD_zero];done))),?_⟩))) ?_
 ·omega
 intro k hk;have hlk:=txtD_len hk;by_cases h2:k < l.length
 ·have hs:=h.at h2;repeat' (first|refine Wby ?_|apply zcm ?_|refine jac ?_|refine Maa ?_|refine Wbz ?_|refine Wca ?_|apply Ub (c:=FormatInt_p (atZ l (k:Int)) hs) (h:=?_)|refine jbd rfl (fun hc=>?_) (fun hc=>?_)|exact Qab|fail)
  refine bkL (k+1) ?_ ?_ (hB:=(by (repeat(first|exact trivial|refine ⟨(by ((refine jbs rfl ?_;simp  [txtD_succ h2];done))),?_⟩))))
  ·omega
  ·omega
 ·obtain rfl:k=l.length:=by omega
  by_cases h0:l=[]
  ·subst h0;repeat' (first|apply zcm ?_|refine jac ?_|refine Maa ?_|exact Qab|exact Rbl|fail)
  ·have hp:0 < l.length:=List.length_pos_iff.2 h0;have hsay:sayL l=joinT 32 (l.map txtZ):=if_neg h0;repeat' (first|apply zcm ?_|refine jac ?_|refine Maa ?_|apply Ub (c:=jp) (h:=?_)|refine jbd rfl (fun hc=>?_) (fun hc=>?_)|exact Qab|fail)
   all_goals refine Ral ?_
   all_goals rw [hsay]
theorem reportReply_p (b ok:Bool):PC Tryz.prog 131 [.c (dB b),.c (dB ok)] (.t [.c (dT (sayB b)),.c (dB ok)]):=by
 cases b <;> cases ok
 all_goals
  refine jao Tryz.func131 fun _=>?_;repeat' (first|refine jac ?_|refine Maa ?_|exact Qac|exact Rbl|fail)
end
section
variable [Glb]
theorem hasTwo_p (x y:Int):PC Tryz.prog 256 [.c (dI x),.c (dI y)] (.p (.c (dB (decide (x=2)&&decide (y=2))))):=by
 refine jao Tryz.func256 fun _=>?_;repeat' (first|refine Wbh ?_|refine Wbi ?_|refine jac ?_|refine Maa ?_|refine jcc rfl rfl (fun hg=>?_) (fun hg=>?_))
 all_goals refine Rad ?_
 all_goals ((simp_all [hasTwo_p];done))
theorem isPair_p (x y n:Int) (ll:List (List Int)):PC Tryz.prog 202 [.g [dI x,dI y,dI n,eII ll]] (.p (.c (dB (pairB x y n ll)))):=by
 refine jao Tryz.func202 fun _=>?_;repeat' (first|refine Wbh ?_|refine Wbi ?_|refine jac ?_|refine Maa ?_|refine Wba ?_|apply Ub (c:=IsBox_p _ _ _ _) (h:=?_)|apply Ub (c:=hasTwo_p _ _) (h:=?_)|refine jdf rfl rfl (fun hg=>?_) (fun hg=>?_))
 all_goals refine Rad ?_
 all_goals ((simp_all [pairB];done))
theorem l2One_p (row:List Int) (w:Nat) (hw:w < 2) (h:row.length=4) (hb:∀ k:Nat,k < 4->0<=atZ row (k:Int)/\atZ row (k:Int)<=1000000):PC Tryz.prog 269 [.c (eI row),.c (dI w)] (.p (.c (dI (if w=0 then atZ row 2+atZ row 3 else atZ row 1+atZ row 3)))):=by
 have b1:=hb 1 Kf;have b2:=hb 2 Kf;have b3:=hb 3 Kf;simp only [Int.natCast_one,Int.cast_ofNat_Int] at b1 b2 b3;clear hb;rcases (by omega:w=0∨w=1) with rfl|rfl
 all_goals
  refine jao Tryz.func269 fun _=>?_;repeat' (first|refine jac ?_|refine jav 2 (fun _=>false) [0,1,2,3,4,5,6,7] ?_|refine jav 3 (fun _=>false) [0,1,2,3,4,5,6,7] ?_|refine Maa ?_|exact Qab|exact Rav|fail)
theorem l7Assignment_p (ev c:Nat) (h:ev<=12) (hc:c < 4096):PC Tryz.prog 224 [.c (dI ev),.c (dI c)] (.p (.c (eI (bitsM ev c)))):=by
  refine jao Tryz.func224 fun _=>?_;repeat' (first|refine jac ?_|refine Maa ?_|refine Wbq ?_|fail)
  apply jbe [0,1,5,6] [7,21,22] rfl;exact Kr;exact Yah;refine jbf [0,1] [21,22] (fun i=>[(6,iN i),(5,.c (.ls 7 1 0 i))]) (fun i=>[(7,.row 1 (cI (rowF (fun i=>(bitN c (ev - 1 - i):Int)) i)))]) (fun i=>i<=ev) (fun i=>ev - i) (0) ?_ Kg Kg ?_
  · omega
  intro i hi;by_cases h2:i < ev
  ·exact Daq
  ·exact Dba
end
end Go.Proofs.YtbhbkbnlpackdaaGreatDoor
