/- What the functions that FnExactRunScript and FnExactReplayLog and FnExactExecuteCommand reaches return: part of its proof. No condition beyond those of its theorems. -/
import Derived.Test.YtbhbkbnlpackdaaGreatDoorKfnsB
import Derived.Test.YtbhbkbnlpackdaaGreatDoorKplainC
import Derived.Test.YtbhbkbnlpackdaaGreatDoorKfnsA
import Derived.Test.YtbhbkbnlpackdaaGreatDoorKfnsF
import Derived.Test.YtbhbkbnlpackdaaGreatDoorKfnsC
import Derived.Test.YtbhbkbnlpackdaaGreatDoorKfnsD
import Derived.Test.YtbhbkbnlpackdaaGreatDoorKplainA
import Derived.Test.YtbhbkbnlpackdaaGreatDoorKplainB
import Derived.WalkKit
set_option linter.unusedSectionVars false
set_option maxRecDepth 10000
set_option maxHeartbeats 4000000
set_option linter.unusedVariables false
set_option linter.unusedSimpArgs false
namespace Go.Proofs.YtbhbkbnlpackdaaGreatDoor
open Go.RowKit
section
variable [Glb]
abbrev cW (l:List Nat):List D:=l.map fun n:Nat=>dU (n:Int)
abbrev eW (l:List Nat):D:=.sl 1 l.length (cW l)
section
variable {P:Program} {st:St} {dst:Option Tmp} {ty:TypeId} {pos:String} {af:Array Edge} {x y:Operand}
theorem jmz {T:TypeId} {l:List Nat} {k:IntKind} {i:Int} (hx:st.ev x = .c (.d (eW l))) (hy:st.ev y = .c (.d (.lit (.int k i)))) (ht:tSl P T 1=true) (h0:0<=i) (h1:i < l.length):Qt P ⟨dst,.indexAddr T x y,ty,pos,af,none⟩ st (.c (.d (.pt [dU ((atZ l i:Nat):Int)]))) :=
 jna hx hy ht h0 h1 (map_at (jis h0 h1))
theorem wrapW {n:Nat} (h:n < 18446744073709551616):IntKind.u64.wrap (n:Int)=n:=wrapU64 ⟨by omega,by omega⟩
theorem borU_nat (a b:Nat) (ha:a < 4096) (hb:b < 4096):bits .or .u64 (a:Int) (b:Int)=((a ||| b:Nat):Int):=by
 have e:bits .or .u64 (a:Int) (b:Int)=IntKind.u64.wrap (((BitVec.ofInt 64 (a:Int) ||| BitVec.ofInt 64 (b:Int)).toNat:Nat):Int):=rfl;have o:=or12 ha hb;rw [e,jfa,jfa,BitVec.toNat_or,BitVec.toNat_ofNat,BitVec.toNat_ofNat,Nat.mod_eq_of_lt Kf,Nat.mod_eq_of_lt Kf];exact wrapW Kf
theorem bandU_nat (a b:Nat) (ha:a < 4096) (hb:b < 4096):bits .and .u64 (a:Int) (b:Int)=((a &&& b:Nat):Int):=by
 have e:bits .and .u64 (a:Int) (b:Int)=IntKind.u64.wrap (((BitVec.ofInt 64 (a:Int) &&& BitVec.ofInt 64 (b:Int)).toNat:Nat):Int):=rfl;have o:a &&& b<=a:=Nat.and_le_left;rw [e,jfa,jfa,BitVec.toNat_and,BitVec.toNat_ofNat,BitVec.toNat_ofNat,Nat.mod_eq_of_lt Kf,Nat.mod_eq_of_lt Kf];exact wrapW Kf
theorem qt_orW {T T':TypeId} {m n:Nat} (hx:st.ev x = .c (.d (dU (m:Int)))) (hy:st.ev y = .c (.d (dU (n:Int)))) (hm:m < 4096) (hn:n < 4096):Qt P ⟨dst,.binOp .or T x y T',ty,pos,af,none⟩ st (.c (.d (dU ((m ||| n:Nat):Int)))):=by
 rw [<- borU_nat m n hm hn];exact jco hx hy Yby
theorem qt_andW {T T':TypeId} {m n:Nat} (hx:st.ev x = .c (.d (dU (m:Int)))) (hy:st.ev y = .c (.d (dU (n:Int)))) (hm:m < 4096) (hn:n < 4096):Qt P ⟨dst,.binOp .and T x y T',ty,pos,af,none⟩ st (.c (.d (dU ((m &&& n:Nat):Int)))):=by
 rw [<- bandU_nat m n hm hn];exact jco hx hy Yby
theorem qt_shlW {T T':TypeId} {m:Int} {c:Nat} {n:Int} (M:Nat) (hx:st.ev x = .c (.d (dU m))) (hM:m=(M:Int)) (hy:st.ev y = .c (.d (.lit (.int .i64 n)))) (hn:n=(c:Int)) (hc:c < 12) (hm:M<=1):Qt P ⟨dst,.binOp .shl T x y T',ty,pos,af,none⟩ st (.c (.d (dU ((M*2^c:Nat):Int)))):=by
 subst hM hn;have e:IntKind.u64.wrap ((M:Int)*2^(min (c:Int).toNat IntKind.u64.bits))=((M*2^c:Nat):Int):=by
  have:min (c:Int).toNat IntKind.u64.bits=c:=by
   rw [Int.toNat_natCast];exact Nat.min_eq_left (by show c<=64;omega)
  rw [this];have p:=pow12 hc;have q:M*2^c < 4096:=by
   rcases (by omega:M=0∨M=1) with rfl|rfl
   ·simp
   ·simpa using p
  rw [show (M:Int)*2^c=((M*2^c:Nat):Int) by simp];exact wrapW Kf
 rw [<- e];exact qt_shl hx hy Kf
end
theorem setOf_p (ev:Int) (nu:List Int) (h:bitsB nu ev=true) (he:ev<=12):PC Tryz.prog 189 [.c (eI nu)] (.p (.c (dU ((setK nu nu.length:Nat):Int)))):=by
 have hl:=jce h;have hb:∀ j:Nat,j < nu.length->0<=atZ nu (j:Int)/\atZ nu (j:Int)<=1:=fun j hj=>jdd h Kf Kf;refine jao Tryz.func189 fun _=>?_;repeat' (first|refine jac ?_|refine Maa ?_|fail)
 apply jbe [3,6,7,8] [] rfl;exact Ky;exact Yar;refine jbf [6,7] [] (fun k=>[(8,iN k),(3,.c (.d (dU ((setK nu k:Nat):Int))))]) (fun _=>[]) (fun k=>k<=nu.length) (fun k=>nu.length - k) (0) ?_ Kg Kv ?_
 ·omega
 intro k hk;by_cases hk2:k < nu.length
 ·have b:=hb k hk2;have s:=setK_lt (nu:=nu) (k:=k) Kf fun j hj=>hb j Kf;have p:=pow12 (e:=k) Kf;have q:(atZ nu (k:Int)).toNat*2^k < 4096:=by
   rcases (by omega:atZ nu (k:Int)=0∨atZ nu (k:Int)=1) with e|e <;> rw [e]
   ·simp
   ·simpa using p
  repeat' (first|refine jac ?_|refine Maa ?_|(refine jaa (.convert 3 180 _) ?_;(refine jab (jec (k':=.u64) rfl Kb Kb (by (exact wrapU64 Kf))) rfl ?_))|(refine jaa (.binOp .shl 180 _ _ _) ?_;((first|refine jab (qt_shlW (c:=k) (atZ nu (k:Int)).toNat rfl Kf rfl rfl Kf Kf) rfl ?_|refine jab (qt_orW rfl rfl s q) rfl ?_)))|(refine jaa (.binOp .or 180 _ _ _) ?_;((first|refine jab (qt_shlW (c:=k) (atZ nu (k:Int)).toNat rfl Kf rfl rfl Kf Kf) rfl ?_|refine jab (qt_orW rfl rfl s q) rfl ?_)))|refine jbd rfl (fun hc=>?_) (fun hc=>?_)|exact Qaa|fail)
  refine bkL (k+1) ?_ ?_
  ·omega
  ·omega
 ·have e:k=nu.length:=by omega
  subst e;repeat' (first|refine jac ?_|refine Maa ?_|(refine jaa (.convert 3 180 _) ?_;(refine jab (jec (k':=.u64) rfl Kb Kb (by (exact wrapU64 Kf))) rfl ?_))|(refine jaa (.binOp .shl 180 _ _ _) ?_;refine jab (qt_shl rfl rfl Kf) rfl ?_)|(refine jaa (.binOp .or 180 _ _ _) ?_;refine jab (jco rfl rfl Yby) rfl ?_)|refine jbd rfl (fun hc=>?_) (fun hc=>?_)|exact Qaa|exact Rav|fail)
theorem all4096 {P:Nat->Prop} (h:∀ a,a < 64 -> ∀ b,b < 64->P (64*a+b)):∀ n,n < 4096->P n:=fun n hn=>by
 have:=h (n / 64) Kf (n%64) Kf;rwa [show 64*(n / 64)+n%64=n by omega] at this
theorem OnesCount64B_p (n:Nat) (h:n < 4096):PC Tryz.prog 287 [.c (dU n)] (.p (.c (dI ((pop n:Nat):Int)))):=by
 refine jao Tryz.func287 ?_;rintro ⟨-,-⟩;repeat' (first|(refine jaa (.binOp .and 3 _ _ _) ?_;refine jab (jch 7 (c:=128) rfl rfl Ybr) rfl ?_)|refine jac ?_|refine Maa ?_|(refine jaa (.binOp .shr 258 _ _ _) ?_;(first|refine jab (jci (c:=2) rfl rfl Ybr) rfl ?_|refine jab (jci (c:=4) rfl rfl Ybr) rfl ?_|refine jab (jci (c:=16) rfl rfl Ybr) rfl ?_|refine jab (jci (c:=256) rfl rfl Ybr) rfl ?_|refine jab (jci (c:=65536) rfl rfl Ybr) rfl ?_|refine jab (jci (c:=4294967296) rfl rfl Ybr) rfl ?_))|(refine jaa (.binOp .and 258 _ _ _) ?_;refine jab (jco rfl rfl Yby) rfl ?_)|(refine jaa (.binOp .add 258 _ _ _) ?_;refine jab (jpe rfl rfl) rfl ?_)|(refine jaa (.convert 258 3 _) ?_;(refine jab (qt_conv (k':=.i64) rfl Kb Kb) rfl ?_))|fail)
 refine Rad ?_;refine congrArg (fun z=>Res.p (RP.c (D.lit (Value.int IntKind.i64 z)))) ?_;revert h
 revert n
 refine all4096 ?_;decide +kernel
theorem OnesCountB_p (n:Nat) (h:n < 4096):PC Tryz.prog 248 [.c (dU n)] (.p (.c (dI ((pop n:Nat):Int)))):=by
 refine jao Tryz.func248 fun _=>?_;repeat' (first|refine jac ?_|refine Maa ?_|apply Ub (c:=OnesCount64B_p n h) (h:=?_))
 all_goals refine Rad ?_
 all_goals rfl
def masksL (cc:List (List Int)) (k:Nat):List Nat:=(List.range k).map fun i:Nat=>maskK (atZ cc (i:Int)) (atZ cc (i:Int)).length
theorem jni (cc:List (List Int)) (k:Nat):masksL cc (k+1)=masksL cc k++[maskK (atZ cc (k:Int)) (atZ cc (k:Int)).length]:=by simp [masksL,List.range_succ]
@[simp] theorem masksL_len (cc : List (List Int)) (k : Nat) : (masksL cc k).length = k := by simp [masksL]
theorem jjx (cc:List (List Int)) {k i:Nat} (h:i < k):atZ (masksL cc k) (i:Int)=maskK (atZ cc (i:Int)) (atZ cc (i:Int)).length:=by
 rw [jby (by simpa using h)];simp [masksL]
theorem jlr {ev:Int} {cc:List (List Int)} {ss:List Int} (hs:sceneB ev cc ss=true) {i:Nat} (hi:i < cc.length):∀ j:Nat,j < (atZ cc (i:Int)).length->0<=atZ (atZ cc (i:Int)) (j:Int)/\atZ (atZ cc (i:Int)) (j:Int) < 12:=fun j hj=>by
 have s:=jbv hs;have c:ctxB ev (atZ cc (i:Int))=true:=by rw [jby hi];exact s.ctx i hi
 simp only [ctxB,Bool.and_eq_true] at c;have:=jmt c.2 j hj;have:=s.e12;omega
theorem masks_p (ev:Int) (cc:List (List Int)) (ss:List Int) (hs:sceneB ev cc ss=true):PC Tryz.prog 199 [.g [dI ev,eII cc,eI ss]] (.p (.c (eW (masksL cc cc.length)))):=by
 have c10:=(jbv hs).c10;refine jao Tryz.func199 fun _=>?_;repeat' (first|refine jac ?_|refine Maa ?_|refine Wbb ?_|refine Wcm ?_|fail)
 apply jbe [3,11,12,13] [1,9,30,31] rfl;exact Kr;exact Ybe;refine jbf [11,12] [1,30,31] (fun i=>[(13,iN i),(3,.c (.ls 9 1 0 i))]) (fun i=>[(9,.row 1 (cW (masksL cc i)))]) (fun i=>i<=cc.length) (fun i=>cc.length - i) (0) ?_ Kg (by (repeat(first|exact trivial|refine ⟨(by ((refine jbs rfl ?_;simp  [masksL];done))),?_⟩))) ?_
 ·omega
 intro i hi;by_cases hi2:i < cc.length
 ·have cb:=jlr hs hi2;have cl:(atZ cc (i:Int)).length<=1000:=Dbo
  repeat' (first|refine jac ?_|refine Maa ?_|refine jbd rfl (fun hc=>?_) (fun hc=>?_)|exact Qaa|fail)
  apply jbe [3,6,11,12,13,17,18,19] [1,9,30,31] rfl;exact Kr;exact Ybe;refine jbf [3,11,12,13,17,18] [1,9,30,31] (fun j=>[(19,iN j),(6,.c (.d (dU ((maskK (atZ cc (i:Int)) j:Nat):Int))))]) (fun _=>[]) (fun j=>j<=(atZ cc (i:Int)).length) (fun j=>(atZ cc (i:Int)).length - j) (0) ?_ Kg Kv ?_
  ·omega
  intro j hj;by_cases hj2:j < (atZ cc (i:Int)).length
  ·have b:=cb j hj2;have s:=jgj (l:=atZ cc (i:Int)) (k:=j) fun t ht=>cb t Kf;have q:1*2^(atZ (atZ cc (i:Int)) (j:Int)).toNat < 4096:=by rw [Nat.one_mul];exact pow12 Kf
   repeat' (first|refine jac ?_|refine Maa ?_|(refine jaa (.binOp .shl 180 _ _ _) ?_;((first|refine jab (qt_shlW (c:=(atZ (atZ cc (i:Int)) (j:Int)).toNat) 1 rfl rfl rfl Kf Kf Kf) rfl ?_|refine jab (qt_orW rfl rfl s q) rfl ?_)))|(refine jaa (.binOp .or 180 _ _ _) ?_;((first|refine jab (qt_shlW (c:=(atZ (atZ cc (i:Int)) (j:Int)).toNat) 1 rfl rfl rfl Kf Kf Kf) rfl ?_|refine jab (qt_orW rfl rfl s q) rfl ?_)))|refine Wck ?_|refine Wcl ?_|refine jbd rfl (fun hc=>?_) (fun hc=>?_)|exact Qaa|fail)
   refine bkL (j+1) ?_ ?_ (hV:=(by (repeat(first|exact trivial|refine ⟨(by (first|rfl|(refine jcd rfl ?_;((simp  [maskK];done))))),?_⟩))))
   ·omega
   ·omega
  ·have e:j=(atZ cc (i:Int)).length:=by omega
   subst e;repeat' (first|refine jac ?_|refine Maa ?_|(refine jaa (.binOp .shl 180 _ _ _) ?_;refine jab (qt_shl rfl rfl Kf) rfl ?_)|(refine jaa (.binOp .or 180 _ _ _) ?_;refine jab (jco rfl rfl Yby) rfl ?_)|refine Wck ?_|refine Wcl ?_|refine jbd rfl (fun hc=>?_) (fun hc=>?_)|exact Qaa|fail)
   refine bkL (i+1) ?_ ?_ (hB:=(by (repeat(first|exact trivial|refine ⟨(by ((refine jbs rfl ?_;simp  [jni];done))),?_⟩))))
   ·omega
   ·omega
 ·have e:i=cc.length:=by omega
  subst e;repeat' (first|refine jac ?_|refine Maa ?_|refine jbd rfl (fun hc=>?_) (fun hc=>?_)|exact Qaa|fail)
  all_goals refine Raa ?_
  all_goals simp
theorem kept_p (ev:Int) (cc:List (List Int)) (ss nu:List Int) (hs:sceneB ev cc ss=true) (hn:bitsB nu ev=true):PC Tryz.prog 188 [.g [dI ev,eII cc,eI ss],.c (dU ((setK nu nu.length:Nat):Int))] (.p (.c (eI (keptK cc ss nu cc.length)))):=by
 have s:=jbv hs;have c10:=s.c10;have e12:=s.e12;have sl:=s.sl;have hl:=jce hn;have sk:=setK_lt (nu:=nu) (k:=nu.length) Kf fun j hj=>jdd hn Kf Kf;have mp:=masks_p ev cc ss hs;have ma:∀ i:Nat,i < cc.length->atZ (masksL cc cc.length) (i:Int)=maskK (atZ cc (i:Int)) (atZ cc (i:Int)).length:=fun i hi=>jjx cc hi;have mlen:(masksL cc cc.length).length=cc.length:=by simp
 generalize masksL cc cc.length=M at *;have kb:∀ i:Nat,i < cc.length->keepB cc ss nu i=decide ((((pop (atZ M (i:Int) &&& setK nu nu.length):Nat):Int).tmod 2)=atZ ss (i:Int)):=fun i hi=>by rw [ma i hi,Int.tmod_eq_emod_of_nonneg Kf];rfl
 have mb:∀ i:Nat,i < cc.length->atZ M (i:Int) < 4096:=fun i hi=>by rw [ma i hi];exact jgj (jlr hs hi)
 clear ma;generalize setK nu nu.length=SK0 at *;refine jao Tryz.func188 fun _=>?_;repeat' (first|refine Wcn ?_|refine jac ?_|refine Maa ?_|refine Wbb ?_|refine Wbq ?_|apply Ub (c:=mp) (h:=?_))
 apply jbe [1,2,5,10,11,12] [2,8,10,30,31] rfl;exact Kk;exact Ybe;refine jbf [1,2,10,11] [2,10,30,31] (fun i=>[(12,iN i),(5,.c (.ls 8 1 0 (keptK cc ss nu i).length))]) (fun i=>[(8,.row 1 (cI (keptK cc ss nu i)))]) (fun i=>i<=cc.length) (fun i=>cc.length - i) (0) ?_ Kg (by (repeat(first|exact trivial|refine ⟨(by ((refine jbs rfl ?_;simp  [keptK];done))),?_⟩))) ?_
 ·omega
 intro i hi;by_cases hi2:i < cc.length
 ·have b:=mb i hi2;have kq:=kb i hi2;have kl:=jfn cc ss nu i;have ab:atZ M (i:Int) &&& SK0 < 4096:=Nat.lt_of_le_of_lt Nat.and_le_left b;have oc:=OnesCountB_p _ ab;repeat' (first|(refine jaa (.binOp .rem 3 _ _ _) ?_;(refine jab (qt_rem rfl rfl Kf) rfl ?_))|refine jac ?_|refine jav 5 (fun _=>false) [0,1,2,5,6,7,8,9,-4,4,10] ?_|refine Maa ?_|(refine jaa (.indexAddr 202 _ _) ?_;((refine jab (jmz rfl rfl Kb Kf Kf) rfl ?_)))|apply zeg ?_|(refine jaa (.binOp .and 180 _ _ _) ?_;((refine jab (qt_andW rfl rfl b sk) rfl ?_)))|refine Wbr ?_|refine Wbs ?_|apply Ub (c:=oc) (h:=?_)|refine jbd rfl (fun hc=>?_) (fun hc=>?_)|exact Qaa|fail)
  all_goals
   by_cases hz:((pop (atZ M (i:Int) &&& SK0):Nat):Int).tmod 2=atZ ss (i:Int)
   ·have e:keptK cc ss nu (i+1)=keptK cc ss nu i++[(i:Int)]:=by rw [jkv,if_pos (by rw [kq];simpa using hz)]
    first|contradiction|skip
    all_goals
     refine bkL (i+1) ?_ ?_ (hV:=(by (repeat(first|exact trivial|refine ⟨(by (first|rfl|(refine jks rfl ?_;((simp  [e];done))))),?_⟩)))) (hB:=(by (repeat(first|exact trivial|refine ⟨(by ((refine jbs rfl ?_;simp  [e];done))),?_⟩))))
     ·omega
     ·omega
   ·have e:keptK cc ss nu (i+1)=keptK cc ss nu i:=by rw [jkv,if_neg (by rw [kq];simpa using hz)]
    first|contradiction|skip
    all_goals
     refine bkL (i+1) ?_ ?_ (hV:=(by (repeat(first|exact trivial|refine ⟨(by (first|rfl|(refine jks rfl ?_;((simp  [e];done))))),?_⟩)))) (hB:=(by (repeat(first|exact trivial|refine ⟨(by ((refine jbs rfl ?_;simp  [e];done))),?_⟩))))
     ·omega
     ·omega
 ·have e:i=cc.length:=by omega
  subst e;repeat' (first|refine jac ?_|refine Maa ?_|(refine jaa (.indexAddr 202 _ _) ?_;(refine jab (jna rfl rfl (by kernel_rfl:tSl _ 202 1=true) Kf Kf rfl) rfl ?_))|refine jbd rfl (fun hc=>?_) (fun hc=>?_)|exact Qaa|exact Rcc|fail)
theorem KeptBy_p (ev:Int) (cc:List (List Int)) (ss nu:List Int) (hs:sceneB ev cc ss=true) (hn:bitsB nu ev=true):PC Tryz.prog 128 [.g [dI ev,eII cc,eI ss],.c (eI nu)] (.t [.c (eI (keptK cc ss nu cc.length)),.c (dB true)]):=by
 have q1:=IsScene_p ev cc ss;have q2:=isAssignment_p ev cc ss nu;rw [hs] at q1;rw [hn] at q2;have q3:=setOf_p ev nu hn (jbv hs).e12;have q4:=kept_p ev cc ss nu hs hn;generalize keptK cc ss nu cc.length=L at *;generalize setK nu nu.length=SK0 at *;refine jao Tryz.func128 fun _=>?_;repeat' (first|refine Wbi ?_|refine jac ?_|refine jav 3 (fun _=>false) [0,1,-3,-4,4,5] ?_|refine Maa ?_|refine Wbb ?_|apply Ub (c:=q1) (h:=?_)|apply Ub (c:=q2) (h:=?_)|apply Ub (c:=q3) (h:=?_)|apply Ua (c:=q4) (h:=?_)|exact Qac|exact Rcd|fail)
theorem assignment_p (ev c:Nat) (cc:List (List Int)) (ss:List Int) (h:ev<=12) (hc:c < 4096):PC Tryz.prog 198 [.g [dI ev,eII cc,eI ss],.c (dI c)] (.p (.c (eI (bitsM ev c)))):=by
  refine jao Tryz.func198 fun _=>?_;repeat' (first|refine jac ?_|refine Maa ?_|refine Wbb ?_|refine Wbq ?_|fail)
  apply jbe [1,2,5,9,10] [2,7,22,23] rfl;exact Kk;exact Ybe;refine jbf [1,2,9] [2,22,23] (fun i=>[(10,iN i),(5,.c (.ls 7 1 0 i))]) (fun i=>[(7,.row 1 (cI (rowF (fun i=>(bitN c (ev - 1 - i):Int)) i)))]) (fun i=>i<=ev) (fun i=>ev - i) (0) ?_ Kg Kg ?_
  · omega
  intro i hi;by_cases h2:i < ev
  ·exact Daq
  ·exact Dba
theorem solves_p (ev:Int) (cc:List (List Int)) (ss nu:List Int) (hs:sceneB ev cc ss=true) (hn:bitsB nu ev=true):PC Tryz.prog 195 [.g [dI ev,eII cc,eI ss],.c (dU ((setK nu nu.length:Nat):Int))] (.p (.c (dB (decide ((keptK cc ss nu cc.length).length=cc.length))))):=by
 have k:=kept_p ev cc ss nu hs hn;have kl:=jfn cc ss nu cc.length;generalize keptK cc ss nu cc.length=L at *;generalize setK nu nu.length=SK0 at *;refine jao Tryz.func195 fun _=>?_;repeat' (first|refine jac ?_|refine jav 1 (fun _=>false) [0,1,4,5,6,-3,3,7,8] ?_|refine Maa ?_|refine Wbb ?_|apply Ub (c:=k) (h:=?_))
 all_goals refine Rad ?_
 all_goals (refine congrArg (fun z=>Res.p (RP.c (D.lit (Value.bool z)))) (decide_eq_decide.2 ?_);omega)
theorem SolvesScene_p (ev:Int) (cc:List (List Int)) (ss nu:List Int) (hs:sceneB ev cc ss=true) (hn:bitsB nu ev=true):PC Tryz.prog 135 [.g [dI ev,eII cc,eI ss],.c (eI nu)] (.t [.c (dB (decide ((keptK cc ss nu cc.length).length=cc.length))),.c (dB true)]):=by
 have q1:=IsScene_p ev cc ss;have q2:=isAssignment_p ev cc ss nu;rw [hs] at q1;rw [hn] at q2;have q3:=setOf_p ev nu hn (jbv hs).e12;have q4:=solves_p ev cc ss nu hs hn;generalize decide ((keptK cc ss nu cc.length).length=cc.length)=b at *;generalize setK nu nu.length=SK0 at *;refine jao Tryz.func135 fun _=>?_;repeat' (first|refine Wbi ?_|refine jac ?_|refine jav 3 (fun _=>false) [0,1,-3,3,4,5,-7,-8,8,9,10] ?_|refine Maa ?_|refine Wbb ?_|apply Ub (c:=q1) (h:=?_)|apply Ub (c:=q2) (h:=?_)|apply Ub (c:=q3) (h:=?_)|apply Ub (c:=q4) (h:=?_)|exact Qac|exact Rbl|fail)
theorem pow_le12 {e:Nat} (h:e<=12):2^e<=4096:=Nat.pow_le_pow_right Kf h
theorem Van {G G':Prop} (h:G') (t:Laa G'->G:=by intro h;first|(first|exact Maa h.o|exact Wbb h.o|apply zcv h.o|fail);done|fail):G:=t ⟨h⟩
theorem MostKept_p (ev:Nat) (cc:List (List Int)) (ss:List Int) (hs:sceneB ev cc ss=true):PE Tryz.prog 137 [.g [dI ev,eII cc,eI ss]] (fun res => ∃ l:List Int,res = .t [.c (dI (mostF cc ss ev (2^ev)).1),.c (eI l),.c (dB true)]):=by
 have sc:=jbv hs;have e12:=sc.e12;have c10:=sc.c10;have q1:=IsScene_p ev cc ss;rw [hs] at q1;have p12:=pow_le12 (e:=ev) Kf;obtain ⟨N,hN⟩:∃ N:Nat,N=2^ev:=⟨_,rfl⟩;have e1:(1:Int)*2^((ev:Int)).toNat=N:=by rw [Int.toNat_natCast,hN,Int.natCast_pow];simp
 rw [<- hN] at p12 ⊢;refine jho Tryz.func137 fun _=>?_;repeat' (first|refine jac (id:=0) ?_|refine jac (id:=1) ?_|refine jac (id:=3) ?_|refine Van ?_|apply Ub (c:=q1) (h:=?_)|exact Qac|fail)
 refine jcy (jli 6 900 1 rfl Ybr rfl rfl) ?_;repeat' (first|refine jac ?_|refine Van ?_|fail)
 apply jbe [1,5,6,15,16] [1,21,25,900] rfl;exact Kk;exact Ybe;refine jbf [1,15] [1,21,25] (fun (g:Nat×Int×List Int)=>[(16,iN g.1),(5,iZ g.2.1),(6,.c (.ls 900 1 0 g.2.2.length))]) (fun g=>[(900,.row 1 (cI g.2.2))]) (fun g=>g.1<=N/\g.2.1=(mostF cc ss ev g.1).1) (fun g=>N - g.1) ((0,-1,[])) ?_ Kg Kt ?_
 ·exact ⟨by simp,rfl⟩
 rintro ⟨c,m,l⟩ ⟨hc,hm⟩;dsimp only at hc hm ⊢;by_cases hc2:c < N
 ·have hb:=jez ev c;have ap:=assignment_p ev c cc ss Kf Kf;have so:=setOf_p ev (bitsM ev c) hb Kf;have kp:=kept_p ev cc ss (bitsM ev c) hs hb;have st:(mostF cc ss ev (c+1)).1=if m < ((keptK cc ss (bitsM ev c) cc.length).length:Int) then ((keptK cc ss (bitsM ev c) cc.length).length:Int) else m:=by
   rw [hm];show (if (mostF cc ss ev c).1 < (keptN cc ss ev c:Int) then ((keptN cc ss ev c:Int),bitsM ev c) else mostF cc ss ev c).1=_;unfold keptN;split <;> rfl
  have kl:=jfn cc ss (bitsM ev c) cc.length;clear hm;generalize keptK cc ss (bitsM ev c) cc.length=KL at *;generalize setK (bitsM ev c) (bitsM ev c).length=SK0 at *;have bl:=bitsM_len ev c;generalize bitsM ev c=BM at *;by_cases hq:m < (KL.length:Int)
  ·rw [if_pos hq] at st;repeat' (first|refine jac (id:=5) ?_|refine jac (id:=6) ?_|refine jac (id:=7) ?_|refine jav 8 (fun _=>false) [0,1,-3,-4,4,5] ?_|refine jac (id:=9) ?_|refine jac (id:=10) ?_|refine jac (id:=12) ?_|refine Van ?_|apply Ua (c:=ap) (h:=?_)|apply Ub (c:=so) (h:=?_)|apply Ub (c:=kp) (h:=?_)|refine jbd rfl (fun hc=>?_) (fun hc=>?_)|exact Qaa|fail)
   refine jcy (jfr 900) ?_;refine jcy (jja 21 900 rfl rfl rfl rfl) ?_;repeat' (first|refine jac ?_|refine Van ?_|fail)
   refine bkL (c+1,(KL.length:Int),BM) ?_ ?_
   ·exact ⟨by dsimp only;omega,st.symm⟩
   ·dsimp only; omega
  ·rw [if_neg hq] at st;repeat' (first|refine jac ?_|refine jav 8 (fun _=>false) [0,1,-3,-4,4,5] ?_|refine Van ?_|apply Ua (c:=ap) (h:=?_)|apply Ub (c:=so) (h:=?_)|apply Ub (c:=kp) (h:=?_)|refine jbd rfl (fun hc=>?_) (fun hc=>?_)|exact Qaa|fail)
   refine bkL (c+1,m,l) ?_ ?_
   ·exact ⟨by dsimp only;omega,st.symm⟩
   ·dsimp only; omega
 ·obtain rfl:c=N:=by omega
  repeat' (first|refine jac ?_|refine Van ?_|refine jbd rfl (fun hc=>?_) (fun hc=>?_)|exact Qaa|fail)
  (apply jgp;(·apply jbc.t;(·(apply GvA.cons;exact Ybu;exact Ybs);(apply GvA.cons;exact Ybu;(·(exact GvP.c (.row _ _ _ _ rfl Ybt))));(apply GvA.cons;exact Ybu;exact Ybs);exact GvA.nil);(·rfl);exact Ybr))
  exact ⟨l,by rw [hm]⟩
theorem masks_bd {ev:Int} {cc:List (List Int)} {ss:List Int} (hs:sceneB ev cc ss=true):∀ x∈masksL cc cc.length,x < 4096:=fun x hx=>by
 unfold masksL at hx;obtain ⟨i,hi,rfl⟩:=List.mem_map.1 hx;exact jgj (jlr hs (List.mem_range.1 hi))
section
variable {P:Program} {st:St} {dst:Option Tmp} {ty:TypeId} {pos:String} {af:Array Edge} {x y:Operand}
theorem bxorU_nat (a b:Nat) (ha:a < 4096) (hb:b < 4096):bits .xor .u64 (a:Int) (b:Int)=((a^^^b:Nat):Int):=by
 have e:bits .xor .u64 (a:Int) (b:Int)=IntKind.u64.wrap (((BitVec.ofInt 64 (a:Int)^^^BitVec.ofInt 64 (b:Int)).toNat:Nat):Int):=rfl;have o:a^^^b < 4096:=Nat.xor_lt_two_pow (n:=12) ha hb;rw [e,jfa,jfa,BitVec.toNat_xor,BitVec.toNat_ofNat,BitVec.toNat_ofNat,Nat.mod_eq_of_lt Kf,Nat.mod_eq_of_lt Kf];exact wrapW Kf
theorem qt_xorW {T T':TypeId} {m n:Nat} (hx:st.ev x = .c (.d (dU (m:Int)))) (hy:st.ev y = .c (.d (dU (n:Int)))) (hm:m < 4096) (hn:n < 4096):Qt P ⟨dst,.binOp .xor T x y T',ty,pos,af,none⟩ st (.c (.d (dU ((m^^^n:Nat):Int)))):=by
 rw [<- bxorU_nat m n hm hn];exact jco hx hy Yby
theorem qt_load_W {T:TypeId} {b:Nat} {l:List Nat} {j:Nat} {off:Nat} (hx:st.ev x = .c (.lp b off)) (hb:st.bl b=some (.row 1 (cW l))) (ht:tOne P T=true) (ho:off=j) (hj:j < l.length):Qt P ⟨dst,.load T x,ty,pos,af,none⟩ st (.c (.d (dU ((rw0 l j:Nat):Int)))) :=
 jcq hx hb ht (by subst ho;rw [List.getElem?_map,List.getElem?_eq_getElem hj,jgq hj];rfl)
end
theorem xor12 {a b:Nat} (ha:a < 4096) (hb:b < 4096):a^^^b < 4096:=Nat.xor_lt_two_pow (n:=12) ha hb
theorem redM_take {rows:List Nat} {m j:Nat} (h:j < rows.length):redM (rows.take (j+1)) m=min (redM (rows.take j) m) (redM (rows.take j) m^^^rw0 rows j):=by
 unfold redM;rw [List.take_succ_eq_append_getElem h,List.foldl_append,jgq h];rfl
theorem redM_lt {rows:List Nat} {m:Nat} (hm:m < 4096):redM rows m < 4096:=by
 induction rows generalizing m with
 | nil=>exact hm
 | cons r rs ih =>
  show redM rs (min m (m^^^r)) < 4096;exact ih Kf
theorem basM_take {ms:List Nat} {i:Nat} (h:i < ms.length):basM (ms.take (i+1))=addM (basM (ms.take i)) (rw0 ms i):=by
 unfold basM;rw [List.take_succ_eq_append_getElem h,List.foldl_append,jgq h];rfl
theorem Vao {G G':Prop} (h:G') (t:Laa G'->G:=by intro h;first|(first|(refine jaa (.call ⟨.builtin .len,_,#[202]⟩) ?_;(refine jab (jbz rfl Kb) rfl ?_);exact h.o)|exact Wcn h.o|exact jac h.o|exact Maa h.o|exact Wbb h.o|(refine jaa (.binOp .neq 180 _ _ _) ?_;refine jab (jdh rfl rfl) rfl ?_;exact h.o)|(refine jaa (.binOp .neq 180 _ _ _) ?_;(refine jab (jdh rfl rfl) rfl ?_);exact h.o)|exact Wck h.o|exact Wcl h.o|(refine jaa (.indexAddr 202 _ _) ?_;(refine jab (jca rfl rfl (by kernel_rfl:tSl _ 202 1=true) Kf Kf) rfl ?_);exact h.o)|(refine jaa (.call ⟨.builtin .min,_,#[180,180]⟩) ?_;refine jab (qt_min rfl rfl) rfl ?_;exact h.o)|apply zeg h.o|exact Wcm h.o|fail);done|fail):G:=t ⟨h⟩
theorem RankOfScene_p (ev:Int) (cc:List (List Int)) (ss:List Int) (hs:sceneB ev cc ss=true):PC Tryz.prog 138 [.g [dI ev,eII cc,eI ss]] (.t [.c (dI ((basM (masksL cc cc.length)).length:Nat)),.c (dB true)]):=by
 have q1:=IsScene_p ev cc ss;rw [hs] at q1;have mp:=masks_p ev cc ss hs;have mb:=masks_bd hs;have ml:(masksL cc cc.length).length=cc.length:=by simp
 have c10:=(jbv hs).c10;generalize masksL cc cc.length=M at *;refine jao Tryz.func138 fun _=>?_;repeat' (first|refine Vao ?_|apply Ub (c:=q1) (h:=?_)|apply Ub (c:=mp) (h:=?_)|exact Qac|fail)
 apply jbe [4,14,15,16] [1,12,14,36,37] rfl;exact Kr;exact Ybe;refine jbf [14,15] [1,14,36,37] (fun (g:Nat×List Nat)=>[(16,iN g.1),(4,.c (.ls 12 1 0 g.2.length))]) (fun g=>[(12,.row 1 (cW g.2))]) (fun g=>(g.1<=M.length/\g.2.length<=g.1)/\g.2=basM (M.take g.1) /\ ∀ r∈g.2,r < 4096) (fun g=>M.length - g.1) ((0,[])) ?_ Kg Kt ?_
 ·exact ⟨by simp,rfl,by simp⟩
 rintro ⟨i,l⟩ ⟨hi,hl,hb⟩;dsimp only at hi hl hb ⊢;by_cases hi2:i < M.length
 ·have hM:rw0 M i < 4096:=mb _ (jhk hi2);have az:atZ M (i:Int)=rw0 M i:=by rw [jby hi2,jgq hi2]
  have ba:=basM_take hi2;rw [<- hl] at ba;repeat' (first|(refine jaa (.indexAddr 202 _ _) ?_;((refine jab (jmz rfl rfl Kb Kf Kf) rfl ?_)))|refine Vao ?_|refine jbd rfl (fun hc=>?_) (fun hc=>?_)|exact Qaa|fail)
  rw [az];generalize rw0 M i=m0 at *;apply jbe [4,6,14,15,16,20,21,22] [1,12,14,36,37] rfl;exact Kr;exact Ybe;refine jbf [4,14,15,16,20,21] [1,12,14,36,37] (fun (j:Nat)=>[(22,iN j),(6,.c (.d (dU ((redM (l.take j) m0:Nat):Int))))]) (fun _=>[]) (fun j=>j<=l.length) (fun j=>l.length - j) (0) ?_ Kg Kv ?_
  ·omega
  intro j hj;by_cases hj2:j < l.length
  ·have e:=redM_take (m:=m0) hj2;have r1:=redM_lt (rows:=l.take j) hM;have r2:=hb _ (jhk hj2);generalize hR:redM (l.take j) m0=R at *;repeat' (first|(refine jaa (.load 180 _) ?_;((refine jab (qt_load_W (j:=j) rfl rfl Kb Kf hj2) rfl ?_)))|(refine jaa (.binOp .xor 180 _ _ _) ?_;((refine jab (qt_xorW rfl rfl r1 r2) rfl ?_)))|refine Vao ?_|refine jbd rfl (fun hc=>?_) (fun hc=>?_)|exact Qaa|fail)
   refine bkL (j+1) ?_ ?_
   ·omega
   ·omega
  ·have e:redM (l.take j) m0=redM l m0:=by rw [List.take_of_length_le Kf]
   rw [e];by_cases hz:redM l m0=0
   ·have ba2:basM (M.take (i+1))=l:=by rw [ba];unfold addM;rw [if_pos hz]
    repeat' (first|(refine jaa (.load 180 _) ?_;(((exfalso;omega))))|refine Vao ?_|refine jbd rfl (fun hc=>?_) (fun hc=>?_)|exact Qaa|fail)
    refine bkL (i+1,l) ?_ ?_
    ·exact ⟨⟨by dsimp only;omega,by dsimp only;omega⟩,ba2.symm,hb⟩
    ·dsimp only; omega
   ·have ba2:basM (M.take (i+1))=l++[redM l m0]:=by rw [ba];unfold addM;rw [if_neg hz]
    have hb2:∀ r∈l++[redM l m0],r < 4096:=fun r h=>by
     rcases List.mem_append.1 h with h|h
     ·exact hb r h
     ·rw [List.mem_singleton.1 h];exact redM_lt hM
    generalize redM l m0=R at *;repeat' (first|(refine jaa (.load 180 _) ?_;(((exfalso;omega))))|refine Vao ?_|refine jbd rfl (fun hc=>?_) (fun hc=>?_)|exact Qaa|fail)
    refine bkL (i+1,l++[R]) ?_ ?_ (hV:=Yaw)
    ·exact ⟨⟨by dsimp only;omega,by dsimp only;simp;omega⟩,ba2.symm,hb2⟩
    ·dsimp only; omega
 ·obtain rfl:i=M.length:=by omega
  rw [List.take_length] at hl;repeat' (first|(refine jaa (.indexAddr 202 _ _) ?_;(((exfalso;omega))))|refine Vao ?_|refine jbd rfl (fun hc=>?_) (fun hc=>?_)|exact Qaa|fail)
  all_goals refine Ral ?_
  all_goals rw [hl]
theorem picks_p (ev:Int) (cc:List (List Int)) (ss nu:List Int) (hs:sceneB ev cc ss=true) (hn:bitsB nu ev=true):PC Tryz.prog 201 [.g [dI ev,eII cc,eI ss],.c (dU ((setK nu nu.length:Nat):Int))] (.p (.c (dB (picksB cc nu)))):=by
 have s:=jbv hs;have c10:=s.c10;have e12:=s.e12;have hl:=jce hn;have sk:=setK_lt (nu:=nu) (k:=nu.length) Kf fun j hj=>jdd hn Kf Kf;have mp:=masks_p ev cc ss hs;have ma:∀ i:Nat,i < cc.length->atZ (masksL cc cc.length) (i:Int)=maskK (atZ cc (i:Int)) (atZ cc (i:Int)).length:=fun i hi=>jjx cc hi;have mlen:(masksL cc cc.length).length=cc.length:=by simp
 generalize masksL cc cc.length=M at *;have kb:∀ i:Nat,i < cc.length->pickAt cc nu i=decide (pop (atZ M (i:Int) &&& setK nu nu.length)=1):=fun i hi=>by rw [ma i hi];rfl
 have mb:∀ i:Nat,i < cc.length->atZ M (i:Int) < 4096:=fun i hi=>by rw [ma i hi];exact jgj (jlr hs hi)
 clear ma;generalize setK nu nu.length=SK0 at *;refine jao Tryz.func201 fun _=>?_;repeat' (first|refine Wcn ?_|refine jac ?_|refine Maa ?_|refine Wbb ?_|apply Ub (c:=mp) (h:=?_))
 apply jbe [1,8,9,10] [2,8] rfl;exact Ky;exact Ybf;refine jbf [1,8,9] [2,8] (fun i=>[(10,iN i)]) (fun _=>[]) (fun i=>i<=cc.length/\(List.range i).all (pickAt cc nu)=true) (fun i=>cc.length - i) (0) ?_ Kg Kv ?_
 ·exact ⟨by omega,by simp⟩
 rintro i ⟨hi,ha⟩;by_cases hi2:i < cc.length
 ·have b:=mb i hi2;have kq:=kb i hi2;have ab:atZ M (i:Int) &&& SK0 < 4096:=Nat.lt_of_le_of_lt Nat.and_le_left b;have oc:=OnesCountB_p _ ab;by_cases hz:pop (atZ M (i:Int) &&& SK0)=1
  ·have e:(List.range (i+1)).all (pickAt cc nu)=true:=by rw [jmv,ha,kq];simp [hz]
   repeat' (first|refine jac ?_|refine Maa ?_|(refine jaa (.indexAddr 202 _ _) ?_;((refine jab (jmz rfl rfl Kb Kf Kf) rfl ?_)))|apply zeg ?_|(refine jaa (.binOp .and 180 _ _ _) ?_;((refine jab (qt_andW rfl rfl b sk) rfl ?_)))|apply Ub (c:=oc) (h:=?_)|refine jbd rfl (fun hc=>?_) (fun hc=>?_)|exact Qaa|fail)
   refine bkL (i+1) ?_ ?_
   ·exact ⟨by omega,e⟩
   ·omega
  ·have e:picksB cc nu=false:=jft hi2 (by rw [kq];simp [hz]);rw [e];repeat' (first|refine jac ?_|refine Maa ?_|(refine jaa (.indexAddr 202 _ _) ?_;((refine jab (jmz rfl rfl Kb Kf Kf) rfl ?_)))|apply zeg ?_|(refine jaa (.binOp .and 180 _ _ _) ?_;((refine jab (qt_andW rfl rfl b sk) rfl ?_)))|apply Ub (c:=oc) (h:=?_)|refine jbd rfl (fun hc=>?_) (fun hc=>?_)|exact Qaa|exact Rav|fail)
 ·obtain rfl:i=cc.length:=by omega
  repeat' (first|refine jac ?_|refine Maa ?_|(refine jaa (.indexAddr 202 _ _) ?_;(((exfalso;omega))))|refine jbd rfl (fun hc=>?_) (fun hc=>?_)|exact Qaa|fail)
  all_goals refine Rad ?_
  all_goals (unfold picksB;rw [ha])
def cntP (p:Nat->Bool):Nat->Nat
 | 0 => 0
 | c+1=>if p c=true then cntP p c+1 else cntP p c
theorem cntP_le (p:Nat->Bool):∀ c,cntP p c<=c
 | 0=>Nat.le_refl _
 | c+1=>by have:=cntP_le p c;unfold cntP;split <;> omega
theorem Vap {G G':Prop} (h:G') (t:Laa G'->G:=by intro h;first|(first|exact Maa h.o|exact Wbb h.o|apply zcv h.o|fail);done|fail):G:=t ⟨h⟩
theorem first_p (ev:Nat) (cc:List (List Int)) (ss:List Int) (hs:sceneB ev cc ss=true) (fid:FuncId) (p:Nat->Bool)
  (hp:∀ c:Nat,c < 2^ev->PC Tryz.prog fid [.g [dI ev,eII cc,eI ss],.c (dU ((setK (bitsM ev c) (bitsM ev c).length:Nat):Int))] (.p (.c (dB (p c))))) :
  PE Tryz.prog 200 [.g [dI ev,eII cc,eI ss],.c (.bf (.func fid) [dI ev,eII cc,eI ss])] (fun res => ∃ l:List Int,res = .t [.c (eI l),.c (dI (cntP p (2^ev):Nat))]):=by
 have sc:=jbv hs;have e12:=sc.e12;have p12:=pow_le12 (e:=ev) Kf;obtain ⟨N,hN⟩:∃ N:Nat,N=2^ev:=⟨_,rfl⟩;have e1:(1:Int)*2^((ev:Int)).toNat=N:=by rw [Int.toNat_natCast,hN,Int.natCast_pow];simp
 rw [<- hN] at p12 hp ⊢;refine jho Tryz.func200 fun _=>?_;repeat' (first|refine jac (id:=0) ?_|refine jac (id:=1) ?_|refine Vap ?_|fail)
 refine jcy (jli 6 900 1 rfl Ybr rfl rfl) ?_;repeat' (first|refine jac ?_|refine Vap ?_|fail)
 apply jbe [1,2,6,7,12,13] [2,18,900] rfl;exact Kk;exact Ybe;refine jbf [1,2,12] [2,18] (fun (g:Nat×Nat×List Int)=>[(13,iN g.1),(7,iN g.2.1),(6,.c (.ls 900 1 0 g.2.2.length))]) (fun g=>[(900,.row 1 (cI g.2.2))]) (fun g=>g.1<=N/\g.2.1=cntP p g.1) (fun g=>N - g.1) ((0,0,[])) ?_ Kg Kt ?_
 ·exact ⟨by simp,rfl⟩
 rintro ⟨c,m,l⟩ ⟨hc,hm⟩;dsimp only at hc hm ⊢;have ml:=cntP_le p c;rw [<- hm] at ml;by_cases hc2:c < N
 ·have hb:=jez ev c;have ap:=assignment_p ev c cc ss Kf Kf;have so:=setOf_p ev (bitsM ev c) hb Kf;have kp:=hp c hc2;generalize setK (bitsM ev c) (bitsM ev c).length=SK0 at *;have bl:=bitsM_len ev c;generalize bitsM ev c=BM at *;by_cases hq:p c=true
  ·have st:cntP p (c+1)=m+1:=by rw [hm];show (if p c=true then _ else _)=_;rw [if_pos hq]
   rw [hq] at kp;by_cases h0:m=0
   ·repeat' (first|(refine jaa (.call ⟨.value (.tmp 19),_,_⟩) ?_;((refine so_callB rfl (.cons (.c (.d _)) .nil) kp rfl ?_)))|refine jac (id:=3) ?_|refine jac (id:=4) ?_|refine jac (id:=5) ?_|refine jac (id:=6) ?_|refine jac (id:=7) ?_|refine jac (id:=8) ?_|refine jac (id:=11) ?_|refine Vap ?_|apply Ua (c:=ap) (h:=?_)|apply Ub (c:=so) (h:=?_)|refine jbd rfl (fun hc=>?_) (fun hc=>?_)|exact Qab|fail)
    refine jcy (jfr 900) ?_;refine jcy (jja 18 900 rfl rfl rfl rfl) ?_;repeat' (first|refine jac ?_|refine Vap ?_|fail)
    refine bkL (c+1,m+1,BM) ?_ ?_
    ·exact ⟨by dsimp only;omega,st.symm⟩
    ·dsimp only; omega
   ·repeat' (first|(refine jaa (.call ⟨.value (.tmp 19),_,_⟩) ?_;((refine so_callB rfl (.cons (.c (.d _)) .nil) kp rfl ?_)))|refine jac ?_|refine Vap ?_|apply Ua (c:=ap) (h:=?_)|apply Ub (c:=so) (h:=?_)|refine jbd rfl (fun hc=>?_) (fun hc=>?_)|exact Qab|fail)
    refine bkL (c+1,m+1,l) ?_ ?_
    ·exact ⟨by dsimp only;omega,st.symm⟩
    ·dsimp only; omega
  ·have hq:p c=false:=by simpa using hq
   have st:cntP p (c+1)=m:=by rw [hm];show (if p c=true then _ else _)=_;rw [if_neg (by rw [hq];simp)]
   rw [hq] at kp;repeat' (first|(refine jaa (.call ⟨.value (.tmp 19),_,_⟩) ?_;((refine so_callB rfl (.cons (.c (.d _)) .nil) kp rfl ?_)))|refine jac ?_|refine Vap ?_|apply Ua (c:=ap) (h:=?_)|apply Ub (c:=so) (h:=?_)|refine jbd rfl (fun hc=>?_) (fun hc=>?_)|exact Qab|fail)
   refine bkL (c+1,m,l) ?_ ?_
   ·exact ⟨by dsimp only;omega,st.symm⟩
   ·dsimp only; omega
 ·obtain rfl:c=N:=by omega
  repeat' (first|(refine jaa (.call ⟨.value (.func 198),_,_⟩) ?_;((exfalso;omega)))|refine jac ?_|refine Vap ?_|refine jbd rfl (fun hc=>?_) (fun hc=>?_)|exact Qaa|fail)
  (apply jgp;exact Kw)
  exact ⟨l,by rw [hm]⟩
theorem pick_cnt (cc : List (List Int)) (ev : Nat) : ∀ c, cntP (fun c => picksB cc (bitsM ev c)) c = pickF cc ev c
 | 0 => rfl
 | c+1=>by
  have ih:=pick_cnt cc ev c;unfold cntP pickF;rw [ih]
theorem CountPicks_p (ev:Nat) (cc:List (List Int)) (ss:List Int) (hs:sceneB ev cc ss=true):PC Tryz.prog 139 [.g [dI ev,eII cc,eI ss]] (.t [.c (dI (pickF cc ev (2^ev):Nat)),.c (dB true)]):=by
 have q1:=IsScene_p ev cc ss;rw [hs] at q1;have f:=first_p ev cc ss hs 201 (fun c=>picksB cc (bitsM ev c)) (fun c hc=>picks_p ev cc ss (bitsM ev c) hs (jez ev c));rw [pick_cnt] at f;generalize pickF cc ev (2^ev)=n at *;refine jao Tryz.func139 fun _=>?_;repeat' (first|refine Wby ?_|refine jac ?_|refine Maa ?_|refine Wbb ?_|(refine jaa (.makeFunc _ _ _) ?_;((refine jab (qt_makeBound (ds:=[dI ev,eII cc,eI ss]) rfl) rfl ?_)))|(refine jaa (.call ⟨.value (.func 200),_,_⟩) ?_;((apply jep (fid:=200);(·(repeat(first|exact SeA.nil|apply SeA.cons (.c (.d _))|(apply SeA.cons;(·(apply SeP.g;(repeat(first|exact SeL.nil|apply SeL.cons (.d _)))))))));(·exact f);(·rfl);(rintro _ ⟨l,rfl⟩))))|apply Ub (c:=q1) (h:=?_)|exact Qab|exact Rbl|fail)
theorem isNaN_p (n:Int):PC Tryz.prog 293 [.c (dI n)] (.p (.c (dB false))):=by
 refine jao Tryz.func293 fun _=>?_;repeat' (first|refine jac ?_|refine Maa ?_|fail)
 all_goals refine Rad ?_
 all_goals simp
theorem cmpInt_p (a b:Int):PC Tryz.prog 255 [.c (dI a),.c (dI b)] (.p (.c (dI (if a < b then -1 else if b < a then 1 else 0)))):=by
 by_cases h1:a < b
 ·rw [if_pos h1];refine jao Tryz.func255 fun _=>?_;repeat' (first|refine jac ?_|refine Maa ?_|apply Ub (c:=isNaN_p _) (h:=?_)|refine jbd rfl (fun hc=>?_) (fun hc=>?_)|exact Qab|exact Rav|fail)
 ·rw [if_neg h1];by_cases h2:b < a
  ·rw [if_pos h2];refine jao Tryz.func255 fun _=>?_;repeat' (first|refine jac ?_|refine Maa ?_|apply Ub (c:=isNaN_p _) (h:=?_)|refine jbd rfl (fun hc=>?_) (fun hc=>?_)|exact Qab|exact Rav|fail)
  ·rw [if_neg h2];refine jao Tryz.func255 fun _=>?_;repeat' (first|refine jac ?_|refine Maa ?_|apply Ub (c:=isNaN_p _) (h:=?_)|refine jbd rfl (fun hc=>?_) (fun hc=>?_)|exact Qab|exact Rav|fail)
theorem slCompare_p (a b:List Int) (ha:a.length<=1000) (hb:b.length<=1000):PC Tryz.prog 197 [.c (eI a),.c (eI b)] (.p (.c (dI (lexC a b)))):=by
  refine jao Tryz.func197 fun _=>?_;repeat' (first|refine jac ?_|refine Maa ?_|fail)
  apply jbe [0,1,9,10,11] [] rfl;exact Ky;exact Yar;refine jbf [0,1,9,10] [] (fun k=>[(11,iN k)]) (fun _=>[]) (fun k=>(k<=a.length/\k<=b.length)/\a.take k=b.take k) (fun k=>a.length - k) (0) ?_ Kg Kv ?_
  · exact ⟨by omega,by simp⟩
  rintro k ⟨hk,ht⟩;by_cases h1:k < a.length
  · by_cases h2 : k < b.length
    · have cp := cmpInt_p (atZ a (k : Int)) (atZ b (k : Int))
      by_cases he:atZ a (k:Int)=atZ b (k:Int)
      · have e:a.take (k+1)=b.take (k+1):=by
          rw [List.take_succ_eq_append_getElem h1,List.take_succ_eq_append_getElem h2,ht];rw [jby h1,jby h2] at he;rw [he]
        rw [if_neg Kf,if_neg Kf] at cp;repeat' (first|refine jac ?_|refine Maa ?_|apply zcs ?_|apply Ub (c:=cp) (h:=?_)|refine jbd rfl (fun hc=>?_) (fun hc=>?_)|exact Qab|fail)
        refine bkL (k+1) ?_ ?_
        · exact ⟨by omega,e⟩
        · omega
      · have e := jnl h1 h2 ht he
        by_cases hl:atZ a (k:Int) < atZ b (k:Int)
        · rw [if_pos hl] at cp e
          rw [e];repeat' (first|refine jac ?_|refine Maa ?_|apply zcs ?_|apply Ub (c:=cp) (h:=?_)|refine jbd rfl (fun hc=>?_) (fun hc=>?_)|exact Qab|exact Rav|fail)
        · rw [if_neg hl, if_pos Kf] at cp
          rw [if_neg hl] at e;rw [e];repeat' (first|refine jac ?_|refine Maa ?_|apply zcs ?_|apply Ub (c:=cp) (h:=?_)|refine jbd rfl (fun hc=>?_) (fun hc=>?_)|exact Qab|exact Rav|fail)
    · have hkb : k = b.length := by omega
      subst hkb;rw [List.take_length] at ht;have e:=lexC_long h1 ht.symm;clear ht;rw [e];repeat' (first|refine jac ?_|refine Maa ?_|apply zcs ?_|refine jbd rfl (fun hc=>?_) (fun hc=>?_)|exact Qab|exact Rav|fail)
  · have hka : k = a.length := by omega
    subst hka;rw [List.take_length] at ht;have e:=jkt hk.2 ht;clear ht;by_cases hl:a.length < b.length
    · rw [if_pos hl] at e
      rw [e];repeat' (first|refine jac ?_|refine Maa ?_|apply zcs ?_|refine jbd rfl (fun hc=>?_) (fun hc=>?_)|exact Qab|exact Rav|fail)
    · rw [if_neg hl] at e
      rw [e];repeat' (first|refine jac ?_|refine Maa ?_|apply zcs ?_|refine jbd rfl (fun hc=>?_) (fun hc=>?_)|exact Qab|exact Rav|fail)
theorem xorK_lt {ev:Int} {cc:List (List Int)} {ss l:List Int} (hs:sceneB ev cc ss=true) (hl:∀ j:Nat,j < l.length->0<=atZ l (j:Int)/\atZ l (j:Int) < cc.length):∀ k:Nat,k<=l.length->xorK cc l k < 4096
 | 0,_=>by simp [xorK]
 | k+1,hk=>by
  have b:=hl k Kf;obtain ⟨i,hi⟩:=Int.eq_ofNat_of_zero_le b.1;unfold xorK;rw [hi];exact xor12 (xorK_lt hs hl k Kf) (jgj (jlr hs Kf))
theorem isProof_p (ev:Int) (cc:List (List Int)) (ss l:List Int) (hs:sceneB ev cc ss=true) (hl:∀ j:Nat,j < l.length->0<=atZ l (j:Int)/\atZ l (j:Int) < cc.length) (hn:l.length<=1000):PC Tryz.prog 196 [.g [dI ev,eII cc,eI ss],.c (eI l)] (.p (.c (dB (proofB cc ss l)))):=by
 have s:=jbv hs;have c10:=s.c10;have sl:=s.sl;have mp:=masks_p ev cc ss hs;have mlen:(masksL cc cc.length).length=cc.length:=by simp
 have ma:∀ j:Nat,j < l.length->atZ (masksL cc cc.length) (atZ l (j:Int))=maskK (atZ cc (atZ l (j:Int))) (atZ cc (atZ l (j:Int))).length:=fun j hj=>by
  have b:=hl j hj;obtain ⟨i,hi⟩:=Int.eq_ofNat_of_zero_le b.1;rw [hi];exact jjx cc Kf
 have mb:∀ j:Nat,j < l.length->atZ (masksL cc cc.length) (atZ l (j:Int)) < 4096:=fun j hj=>by
  have b:=hl j hj;obtain ⟨i,hi⟩:=Int.eq_ofNat_of_zero_le b.1;rw [ma j hj,hi];exact jgj (jlr hs Kf)
 have xl:=xorK_lt hs hl;have sb:=sumK_bd s.sb hl;have sx:∀ j:Nat,j < l.length->xorK cc l (j+1)=xorK cc l j^^^atZ (masksL cc cc.length) (atZ l (j:Int)):=fun j hj=>by rw [ma j hj];rfl
 have ssx:∀ j:Nat,sumK ss l (j+1)=sumK ss l j+atZ ss (atZ l (j:Int)):=fun j=>rfl;have bs:∀ j:Nat,j < l.length->0<=atZ ss (atZ l (j:Int))/\atZ ss (atZ l (j:Int))<=1:=fun j hj=>jdd s.sb (hl j hj).1 (by have:=(hl j hj).2;omega);clear ma;generalize masksL cc cc.length=M at *;refine jao Tryz.func196 fun _=>?_;repeat' (first|refine jac ?_|refine Maa ?_|refine Wbb ?_|apply Ub (c:=mp) (h:=?_))
 apply jbe [2,5,6,7,12,13,14] [2,11] rfl;exact Kh;exact Ybf;refine jbf [2,7,12,13] [2,11] (fun j=>[(14,iN j),(5,.c (.d (dU ((xorK cc l j:Nat):Int)))),(6,iZ (sumK ss l j))]) (fun _=>[]) (fun j=>j<=l.length) (fun j=>l.length - j) (0) ?_ Kg Kv ?_
 ·omega
 intro j hj;by_cases hj2:j < l.length
 ·have h1:=hl j hj2;have h2:=mb j hj2;have h3:=xl j Kf;have h4:=sb j Kf;have h5:=bs j hj2;have e1:=sx j hj2;have e2:=ssx j;clear hl mb xl sb bs sx ssx;generalize sumK ss l j=S0 at *;generalize xorK cc l j=X0 at *;repeat' (first|refine Wbh ?_|refine Wbi ?_|refine jac ?_|refine Maa ?_|apply zeg ?_|(refine jaa (.binOp .xor 180 _ _ _) ?_;((refine jab (qt_xorW rfl rfl h3 h2) rfl ?_)))|(refine jaa (.binOp .eql 180 _ _ _) ?_;(refine jab (jbq rfl rfl) rfl ?_))|(refine jaa (.indexAddr 202 _ _) ?_;((refine jab (jmz rfl rfl Kb h1.1 Kf) rfl ?_)))|refine jcc rfl rfl (fun hg=>?_) (fun hg=>?_)|refine jbd rfl (fun hc=>?_) (fun hc=>?_)|exact Qaa|fail)
  refine bkL (j+1) ?_ ?_
  ·omega
  ·omega
 ·obtain rfl:j=l.length:=by omega
  have h4:=sb l.length Kf;have pb:proofB cc ss l=(decide (((xorK cc l l.length:Nat):Int)=0)&&decide ((sumK ss l l.length).tmod 2=1)):=Dbr
  clear sb sx ssx bs xl mb;generalize sumK ss l l.length=S0 at *;generalize xorK cc l l.length=X0 at *;rw [pb];by_cases hz:((X0:Nat):Int)=0
  ·have hz2:X0=0:=by omega
   repeat' (first|(refine jaa (.indexAddr 25 _ _) ?_;(((exfalso;omega))))|refine Wbh ?_|refine Wbi ?_|refine jac ?_|refine Maa ?_|(refine jaa (.binOp .eql 180 _ _ _) ?_;refine jab (jbq rfl rfl) rfl ?_)|refine jcc rfl rfl (fun hg=>?_) (fun hg=>?_)|refine jbd rfl (fun hc=>?_) (fun hc=>?_)|exact Qab|fail)
   all_goals refine Rad ?_
   all_goals simp [hz2,Int.tmod_eq_emod_of_nonneg h4.1]
  ·have hz2:¬ X0=0:=by omega
   repeat' (first|(refine jaa (.indexAddr 25 _ _) ?_;(((exfalso;omega))))|refine Wbh ?_|refine Wbi ?_|refine jac ?_|refine Maa ?_|(refine jaa (.binOp .eql 180 _ _ _) ?_;refine jab (jbq rfl rfl) rfl ?_)|refine jcc rfl rfl (fun hg=>?_) (fun hg=>?_)|refine jbd rfl (fun hc=>?_) (fun hc=>?_)|exact Qab|fail)
   all_goals refine Rad ?_
   all_goals simp [hz2]
theorem Vaq {G G':Prop} (h:G') (t:Laa G'->G:=by intro h;first|(first|apply zbm h.o|exact jgc rfl rfl rfl rfl rfl h.o|exact Wbh h.o|exact Wbi h.o|exact Maa h.o|exact Wbb h.o|(refine jaa (.binOp .eql 25 _ _ _) ?_;(refine jab (jnb rfl rfl Kb Kf) rfl ?_);exact h.o)|(refine jaa (.binOp .eql 25 _ _ _) ?_;(refine jab (qt_eql_nil0 rfl rfl Kb) rfl ?_);exact h.o)|apply zcv h.o|exact Wbq h.o|(refine jaa (.binOp .neq 25 _ _ _) ?_;(refine jab (jmw rfl rfl Kb Kf) rfl ?_);exact h.o)|(refine jaa (.binOp .neq 25 _ _ _) ?_;(refine jab (jmx rfl rfl Kb) rfl ?_);exact h.o)|apply zbt h.o|exact Wbr h.o|exact Wbs h.o|fail);done|fail):G:=t ⟨h⟩
theorem FindParityProof_p (ev:Int) (cc:List (List Int)) (ss:List Int) (hs:sceneB ev cc ss=true):PC Tryz.prog 136 [.g [dI ev,eII cc,eI ss]] (.t [.c (eI (bestF cc ss (2^cc.length))),.c (dB (decide (bestF cc ss (2^cc.length)≠[])))]):=by
 have sc:=jbv hs;have c10:=sc.c10;have q1:=IsScene_p ev cc ss;rw [hs] at q1;have p10:2^cc.length<=1024:=(Nat.pow_le_pow_right (n:=2) Kf c10:2^cc.length<=2^10);obtain ⟨N,hN⟩:∃ N:Nat,N=2^cc.length:=⟨_,rfl⟩;have e1:(1:Int)*2^((cc.length:Int)).toNat=N:=by rw [Int.toNat_natCast,hN,Int.natCast_pow];simp
 rw [<- hN] at p10 ⊢;refine jao Tryz.func136 fun _=>?_;repeat' (first|refine jac (id:=0) ?_|refine jac (id:=1) ?_|refine jac (id:=3) ?_|refine Vaq ?_|apply Ub (c:=q1) (h:=?_)|exact Qac|fail)
 refine jcy (sim_empty 900 1 rfl Ybr) ?_;repeat' (first|refine jac ?_|refine Vaq ?_|fail)
 apply jbe [1,4,14,15] [1,18,32,33,900] rfl;exact Kh;exact Ybe;refine jbf [1,14] [1,18,32,33] (fun (g:Nat×List Int)=>[(15,iN g.1),(4,nilOr 900 g.2)]) (fun g=>[(900,.row 1 (cI g.2))]) (fun g=>g.1<=N/\g.2=bestF cc ss g.1) (fun g=>N - g.1) ((0,[])) ?_ Kg Kt ?_
 ·exact ⟨by simp,rfl⟩
 rintro ⟨c,l⟩ ⟨hc,hl⟩;dsimp only at hc hl ⊢;have ll:=jkf cc ss c;rw [<- hl] at ll;by_cases hc2:c < N
 ·have st:bestF cc ss (c+1)=if proofB cc ss (subL c cc.length)=true/\(l=[]∨befB (subL c cc.length) l=true) then subL c cc.length else l:=by rw [hl];rfl
  have ip:=isProof_p ev cc ss (subL c cc.length) hs (fun j hj=>subL_at hj) (by have:=jgw c cc.length;omega);have sn:=jgw c cc.length;cases l with
  | nil =>
   show SK _ _ _ _;repeat' (first|refine jac ?_|refine Vaq ?_|refine jbd rfl (fun hc=>?_) (fun hc=>?_)|exact Qaa|fail)
   apply jbe [1,4,5,6,14,15,21,22] [1,18,32,33,900] rfl;exact Kk;exact Ybe;refine jbf [1,4,5,14,15,21] [1,32,33] (fun (g:Nat×List Int)=>[(22,iN g.1),(6,.c (.ls 18 1 0 g.2.length))]) (fun g=>[(18,.row 1 (cI g.2)),(900,.row 1 (cI []))]) (fun g=>g.1<=cc.length/\g.2=subL c g.1) (fun g=>cc.length - g.1) ((0,[])) ?_ Kg Kt ?_
   ·exact ⟨by simp,rfl⟩
   rintro ⟨k,L⟩ ⟨hk,hL⟩;dsimp only at hk hL ⊢;have kL:=jgw c k;rw [<- hL] at kL;by_cases hk2:k < cc.length
   ·exact Dai
   ·have hkc:k=cc.length:=by omega
    rw [hkc] at hL;rw [<- hL] at st ip;by_cases hp:proofB cc ss L=true
    ·rw [if_pos ⟨hp,.inl rfl⟩] at st;rw [hp] at ip;cases L with
     | nil=>rw [jnc] at hp;cases hp
     | cons y L =>
      repeat' (first|refine jac (id:=9) ?_|refine jac (id:=10) ?_|refine jac (id:=11) ?_|refine jac (id:=12) ?_|refine jac (id:=13) ?_|refine jac (id:=14) ?_|refine jac (id:=15) ?_|refine Vaq ?_|apply Ub (c:=ip) (h:=?_)|refine jbd rfl (fun hc=>?_) (fun hc=>?_)|exact Qab|fail)
      refine jcy (jfr 900) ?_;refine jcy (jja 18 900 rfl rfl rfl rfl) ?_;repeat' (first|refine jac ?_|refine Vaq ?_|fail)
      refine bkL (c+1,y :: L) ?_ ?_
      ·exact ⟨by dsimp only;omega,st.symm⟩
      ·dsimp only;omega
    ·have hp:proofB cc ss L=false:=by simpa using hp
     rw [if_neg (by rw [hp];simp)] at st;rw [hp] at ip;repeat' (first|refine jac ?_|refine Vaq ?_|apply Ub (c:=ip) (h:=?_)|refine jbd rfl (fun hc=>?_) (fun hc=>?_)|exact Qab|fail)
     refine bkL (c+1,[]) ?_ ?_
     ·exact ⟨by dsimp only;omega,st.symm⟩
     ·dsimp only; omega
  | cons x l =>
   show SK _ _ _ _;repeat' (first|refine jac ?_|refine Vaq ?_|refine jbd rfl (fun hc=>?_) (fun hc=>?_)|exact Qaa|fail)
   apply jbe [1,4,5,6,14,15,21,22] [1,18,32,33,900] rfl;exact Kk;exact Ybe;refine jbf [1,4,5,14,15,21] [1,32,33] (fun (g:Nat×List Int)=>[(22,iN g.1),(6,.c (.ls 18 1 0 g.2.length))]) (fun g=>[(18,.row 1 (cI g.2)),(900,.row 1 (cI (x :: l)))]) (fun g=>g.1<=cc.length/\g.2=subL c g.1) (fun g=>cc.length - g.1) ((0,[])) ?_ Kg Kt ?_
   ·exact ⟨by simp,rfl⟩
   rintro ⟨k,L⟩ ⟨hk,hL⟩;dsimp only at hk hL ⊢;have kL:=jgw c k;rw [<- hL] at kL;by_cases hk2:k < cc.length
   ·exact Dai
   ·have hkc:k=cc.length:=by omega
    rw [hkc] at hL;rw [<- hL] at st ip;have sp:=slCompare_p L (x :: l) Kf Kf;by_cases hp:proofB cc ss L=true
    ·rw [hp] at ip;cases L with
     | nil=>rw [jnc] at hp;cases hp
     | cons y L =>
      have hy:(y :: L).length=L.length+1:=rfl;have hx:(x :: l).length=l.length+1:=rfl;by_cases hq:befB (y :: L) (x :: l)=true
      ·rw [if_pos ⟨hp,.inr hq⟩] at st;unfold befB at hq;simp only [Bool.or_eq_true,Bool.and_eq_true,decide_eq_true_eq] at hq;repeat' (first|refine jac (id:=9) ?_|refine jac (id:=10) ?_|refine jac (id:=11) ?_|refine jac (id:=12) ?_|refine jac (id:=13) ?_|refine jac (id:=14) ?_|refine jac (id:=15) ?_|refine Vaq ?_|apply Ub (c:=ip) (h:=?_)|apply Ub (c:=sp) (h:=?_)|refine jcc rfl rfl (fun hg=>?_) (fun hg=>?_)|refine jbd rfl (fun hc=>?_) (fun hc=>?_)|exact Qab|fail)
       all_goals
        refine jcy (jfr 900) ?_;refine jcy (jja 18 900 rfl rfl rfl rfl) ?_;repeat' (first|refine jac ?_|refine Vaq ?_|fail)
        refine bkL (c+1,y :: L) ?_ ?_
        ·exact ⟨by dsimp only;omega,st.symm⟩
        ·dsimp only;omega
      ·rw [if_neg (by rintro ⟨-,h|h⟩;cases h;exact hq h)] at st;unfold befB at hq;simp only [Bool.or_eq_true,Bool.and_eq_true,decide_eq_true_eq] at hq;repeat' (first|refine jac ?_|refine Vaq ?_|apply Ub (c:=ip) (h:=?_)|apply Ub (c:=sp) (h:=?_)|refine jcc rfl rfl (fun hg=>?_) (fun hg=>?_)|refine jbd rfl (fun hc=>?_) (fun hc=>?_)|exact Qab|fail)
       all_goals
        refine bkL (c+1,x :: l) ?_ ?_
        ·exact ⟨by dsimp only;omega,st.symm⟩
        ·dsimp only;omega
    ·have hp:proofB cc ss L=false:=by simpa using hp
     rw [if_neg (by rw [hp];simp)] at st;rw [hp] at ip;repeat' (first|refine jac ?_|refine Vaq ?_|apply Ub (c:=ip) (h:=?_)|refine jbd rfl (fun hc=>?_) (fun hc=>?_)|exact Qab|fail)
     refine bkL (c+1,x :: l) ?_ ?_
     ·exact ⟨by dsimp only;omega,st.symm⟩
     ·dsimp only; omega
 ·obtain rfl:c=N:=by omega
  rw [<- hl];cases l with
  | nil =>
   show SK _ _ _ _;repeat' (first|refine jac ?_|refine Vaq ?_|refine jbd rfl (fun hc=>?_) (fun hc=>?_)|exact Qaa|fail)
   all_goals (apply jat;apply jau;exact Yap)
   all_goals rfl
  | cons x l =>
   show SK _ _ _ _;repeat' (first|refine jac ?_|refine Vaq ?_|refine jbd rfl (fun hc=>?_) (fun hc=>?_)|exact Qaa|fail)
   all_goals refine Ram ?_
   all_goals simp
theorem IsHall_p (bx by_ bwh:Int) (bll:List (List Int)) (pl:List Int) (ev:Int) (cc:List (List Int)) (ss nu:List Int) (co:Int) :
  PC Tryz.prog 57 [.g [dI bx,dI by_,dI bwh,eII bll,eI pl,dI ev,eII cc,eI ss,eI nu,dI co]] (.p (.c (dB (hallB bx by_ bwh bll pl ev cc ss nu co)))):=by
 have hw:boxB bx by_ bwh bll=true->IntKind.i64.wrap (bx+by_)=bx+by_:=fun h=>by have:=jbo h;have a:=this.x1;have b:=this.x3;have c:=this.y1;have d:=this.y3;exact IntWalk.i64_in _ Kf
 refine jao Tryz.func57 fun _=>?_;repeat' (first|refine Wbh ?_|refine Wbi ?_|refine jac ?_|refine Maa ?_|refine Wbc ?_|apply zde ?_|apply Ub (c:=IsBox_p _ _ _ _) (h:=?_)|apply Ub (c:=isPlay_p _ _ _) (h:=?_)|apply Ub (c:=IsScene_p _ _ _) (h:=?_)|apply Ub (c:=isAssignment_p _ _ _ _) (h:=?_)|apply Ub (c:=within_p _ _ _) (h:=?_)|refine jdf rfl rfl (fun hg=>?_) (fun hg=>?_))
 all_goals refine Rad ?_
 all_goals simp_all [hallB]
theorem PlayChance_p (bx by_ bwh:Int) (bll:List (List Int)) (pl:List Int) (ev:Int) (cc:List (List Int)) (ss nu:List Int) (co:Int) :
  PC Tryz.prog 130 [.g [dI bx,dI by_,dI bwh,eII bll,eI pl,dI ev,eII cc,eI ss,eI nu,dI co]] (.t [.c (dI (whenN (hallB bx by_ bwh bll pl ev cc ss nu co) (leastN bwh (chanceF by_.toNat bx.toNat bll pl) (by_.toNat*bx.toNat)))),.c (dB (hallB bx by_ bwh bll pl ev cc ss nu co))]):=by
 cases hB:hallB bx by_ bwh bll pl ev cc ss nu co with
 | false =>
  refine jao Tryz.func130 fun _=>?_;repeat' (first|refine jac ?_|refine Maa ?_|refine Wbc ?_|apply Ub (c:=IsHall_p _ _ _ _ _ _ _ _ _ _) (h:=?_)|refine jcu rfl (fun hc=>?_) (fun hc=>?_)|exact Qac|fail)
  refine Ral ?_;simp [whenN]
 | true =>
  have hH:=jdu hB;have hb:=jbo hH.box;have g1:=hb.x1;have g2:=hb.x3;have g3:=hb.y1;have g4:=hb.y3;obtain ⟨x,rfl⟩:=Int.eq_ofNat_of_zero_le (by omega:0<=bx);obtain ⟨y,rfl⟩:=Int.eq_ofNat_of_zero_le (by omega:0<=by_);have hpl:=hH.pl;have hl:=jce hpl;obtain ⟨f,hf⟩:∃ f:Nat->Int,f=chanceF y x bll pl:=⟨_,rfl⟩;refine jao Tryz.func130 fun _=>?_;repeat' (first|refine jac ?_|refine Maa ?_|refine Wbc ?_|apply Ub (c:=IsHall_p _ _ _ _ _ _ _ _ _ _) (h:=?_)|refine jcu rfl (fun hc=>?_) (fun hc=>?_))
  ·exfalso; simp_all
  apply jbe [1,4,15,16] [1] rfl;exact Kh;exact Ybi;refine jbf [1,15] [1] (fun i=>[(16,iN i),(4,iZ (leastN bwh f (y*i)))]) (fun _=>[]) (fun i=>i<=x) (fun i=>x - i) (0) ?_ Kg Kv ?_
  ·omega
  intro i hi;repeat' (first|refine jac ?_|refine Maa ?_|refine jbd rfl (fun hc=>?_) (fun hc=>?_))
  ·have hi2:i < x:=by omega
   apply jbe [1,4,5,15,16,21,22] [1] rfl;exact Kh;exact Ybi;refine jbf [1,5,15,16,21] [1] (fun k=>[(22,iN k),(4,iZ (leastN bwh f (y*i+k)))]) (fun _=>[]) (fun k=>k<=y) (fun k=>y - k) (0) ?_ Kg Kv ?_
   ·omega
   intro k hk;by_cases hk2:k < y
   ·have b1:=jdd hpl (i:=i) Kf Kf;have b2:=jdd hpl (i:=x+k) Kf Kf;have ap:=at_p x y bwh bll hH.box i k (atZ pl i) (atZ pl (x+k)) Kf Kf Kf Kf Kf Kf Kf Kf;have e:=chance_at (X:=x) (ll:=bll) (pl:=pl) (i:=i) hk2;rw [<- hf] at e;repeat' (first|refine Wbl ?_|refine jac ?_|refine jav 10 (fun _=>false) [0,1,2,3,4,5,6,7,8,9,10,11,12,13,14,15,16,17,18,-20,20,21] ?_|refine Maa ?_|refine Wco ?_|apply Ub (c:=ap) (h:=?_)|refine jbd rfl (fun hc=>?_) (fun hc=>?_))
    ·refine bkL (k+1) ?_ ?_ (hV:=(by (repeat(first|exact trivial|refine ⟨(by (first|rfl|(refine jcd rfl ?_;((simp  [<- Nat.add_assoc,leastN,e];done))))),?_⟩))))
     ·omega
     ·omega
    ·exfalso; omega
   ·have h8:k=y:=by omega
    subst h8;repeat' (first|refine Wbl ?_|refine jac ?_|refine jav 10 (fun _=>false) [0,1,2,3,4,5,6,7,8,9,10,11,12,13,14,15,16,17,18,-20,20,21] ?_|refine Maa ?_|refine jbd rfl (fun hc=>?_) (fun hc=>?_))
    ·exfalso; omega
    ·refine bkL (i+1) ?_ ?_
     ·omega
     ·omega
  ·have h8:i=x:=by omega
   subst h8;refine Ral ?_;simp [whenN,hf]
end
section
variable [Glb]
open Go
theorem maxF_join (f:Nat->Int) (m:Int):∀ n,max m (maxF f (f 0) (n+1))=maxF f m (n+1)
 | 0=>by show max m (max (f 0) (f 0))=max m (f 0);omega
 | n+1=>by
  have ih:=maxF_join f m n;show max m (max (maxF f (f 0) (n+1)) (f (n+1)))=max (maxF f m (n+1)) (f (n+1));omega
theorem maxF_first (f:Nat->Int):maxF f (f 0) 1=f 0:=by show max (f 0) (f 0)=f 0; omega
def flipV (ll:List (List Int)) (c:Nat):Int:=tripI (bflL ll 3 3 (lowB c))
def flipM (ll:List (List Int)) (n:Nat):Int:=maxF (flipV ll) (flipV ll 0) n
def becW (ll:List (List Int)) (i a b c:Nat):Int:=flipV (becL ll i a b) c
def tripW (ll:List (List Int)):Nat->Int
 | 0=>tripI ll
 | t+1=>max (tripW ll t) (flipM (becL ll (t%2) (t / 12) (t / 2%6)) 64)
theorem jor (ll : List (List Int)) : ∀ t, t <= 72 -> Most (tripW ll t) (tripI ll) (fun i a b c => (a * 6 + b) * 2 + i < t /\ i < 2 /\ a < 6 /\ b < 6 /\ c < 64) (becW ll)
 | 0,_=>⟨Int.le_refl _,fun _ _ _ _ h=>by omega,.inl rfl⟩
 | t+1,h=>by
  have ih:=jor ll t Kf;have e:tripW ll (t+1)=maxF (becW ll (t%2) (t / 12) (t / 2%6)) (tripW ll t) 64:=maxF_join (becW ll (t%2) (t / 12) (t / 2%6)) (tripW ll t) 63;rw [e];refine most_more ih (t%2) (t / 12) (t / 2%6) 64 fun i a b c=>⟨fun h=>?_,fun h=>?_⟩
  ·by_cases h2:(a*6+b)*2+i < t
   ·exact .inl ⟨h2,h.2⟩
   ·exact .inr ⟨by omega,by omega,by omega,by omega⟩
  ·rcases h with h|⟨rfl,rfl,rfl,h⟩
   ·exact ⟨by omega,h.2⟩
   ·exact ⟨by omega,by omega,by omega,by omega,h⟩
theorem tripW_all (ll:List (List Int)):tripW ll 72=tripM ll:=by
 refine most_one (jor ll 72 (Nat.le_refl _)) (tripM_most ll) (fun i a b c h=>?_) fun i a b c h=>?_
 ·refine ⟨i,a,b,rev6B c,⟨h.2.1,h.2.2.1,h.2.2.2.1,rev6B_lt c⟩,?_⟩;show flipV (becL ll i a b) c=tripI (bflL (becL ll i a b) 3 3 (bitsM 6 (rev6B c)));rw [<- low_bits h.2.2.2.2];rfl
 ·obtain ⟨h1,h2,h3,h4⟩:=h;refine ⟨i,a,b,rev6B c,⟨by omega,h1,h2,h3,rev6B_lt c⟩,?_⟩;show tripI (bflL (becL ll i a b) 3 3 (bitsM 6 c))=flipV (becL ll i a b) (rev6B c);rw [jpa c h4]; rfl
theorem flipM_succ (ll:List (List Int)) (n:Nat):flipM ll (n+1)=max (flipM ll n) (flipV ll n):=rfl
theorem flipM_one (ll:List (List Int)):flipM ll 1=flipV ll 0:=maxF_first _
theorem tripW_even (ll:List (List Int)) {a b:Nat} (hb:b < 6):tripW ll ((a*6+b)*2+1)=max (tripW ll ((a*6+b)*2)) (flipM (becL ll 0 a b) 64):=by
 show max _ (flipM (becL ll (((a*6+b)*2)%2) (((a*6+b)*2) / 12) (((a*6+b)*2) / 2%6)) 64)=_;rw [show ((a*6+b)*2)%2=0 by omega,show ((a*6+b)*2) / 12=a by omega,show ((a*6+b)*2) / 2%6=b by omega]
theorem tripW_odd (ll:List (List Int)) {a b:Nat} (hb:b < 6):tripW ll ((a*6+b)*2+2)=max (tripW ll ((a*6+b)*2+1)) (flipM (becL ll 1 a b) 64):=by
 show max _ (flipM (becL ll (((a*6+b)*2+1)%2) (((a*6+b)*2+1) / 12) (((a*6+b)*2+1) / 2%6)) 64)=_;rw [show ((a*6+b)*2+1)%2=1 by omega,show ((a*6+b)*2+1) / 12=a by omega,show ((a*6+b)*2+1) / 2%6=b by omega]
end
end Go.Proofs.YtbhbkbnlpackdaaGreatDoor
