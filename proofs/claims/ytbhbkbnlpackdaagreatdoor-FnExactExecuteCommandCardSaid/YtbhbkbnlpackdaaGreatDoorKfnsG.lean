/- What the functions that FnExactRunScript and FnExactReplayLog and FnExactExecuteCommand reaches return: part of its proof. No condition beyond those of its theorems. -/
import Derived.Test.YtbhbkbnlpackdaaGreatDoorKfnsB
import Derived.Test.YtbhbkbnlpackdaaGreatDoorKfnsA
import Derived.Test.YtbhbkbnlpackdaaGreatDoorKfnsF
import Derived.Test.YtbhbkbnlpackdaaGreatDoorKfnsD
import Derived.Test.YtbhbkbnlpackdaaGreatDoorKplainC
import Derived.Test.YtbhbkbnlpackdaaGreatDoorKplainA
import Derived.Test.YtbhbkbnlpackdaaGreatDoorKfnsC
import Derived.Test.YtbhbkbnlpackdaaGreatDoorKfnsE
set_option linter.unusedSectionVars false
set_option maxRecDepth 10000
set_option maxHeartbeats 4000000
set_option linter.unusedVariables false
set_option linter.unusedSimpArgs false
namespace Go.Proofs.YtbhbkbnlpackdaaGreatDoor
open Go.RowKit
section
variable [Glb]
theorem MixBoxes1_p (x y:Nat) (n m:Int) (la lb:List (List Int)) (ha:boxB x y n la=true) (hb:boxB x y m lb=true) (i k p:Nat) (hi:i < x) (hk:k < y) (hp:p < 4) :
  PC Tryz.prog 240 [.c (dI i),.c (dI k),.c (dI ((p / 2:Nat):Int)),.c (dI ((p%2:Nat):Int)),.c (.pt [dI x,dI y,dI n,eII la]),.c (.pt [dI x,dI y,dI m,eII lb])] (.p (.c (dI (bmixF la lb y i k p)))):=by
 have pa:=at_p x y n la ha i k ((p / 2:Nat):Int) ((p%2:Nat):Int) Kf Kf Kf Kf Kf Kf Kf Kf;have pb:=at_p x y m lb hb i k ((p / 2:Nat):Int) ((p%2:Nat):Int) Kf Kf Kf Kf Kf Kf Kf Kf;have e:2*((p / 2:Nat):Int)+((p%2:Nat):Int)=(p:Int):=by omega
 rw [e] at pa pb;have va:=(jfq ha hi hk).1 p hp;have vb:=(jfq hb hi hk).1 p hp;have na:=(jbo ha).n2;have nb:=(jbo hb).n2;obtain ⟨a,ha'⟩:∃ a,a=((p / 2:Nat):Int):=⟨_,rfl⟩;obtain ⟨c,hc'⟩:∃ c,c=((p%2:Nat):Int):=⟨_,rfl⟩;rw [<- ha',<- hc'] at pa pb ⊢;clear e;unfold bmixF;refine jao Tryz.func240 fun _=>?_;repeat' (first|apply zaa ?_|apply zdu ?_|apply zab ?_|apply zad ?_|(first|apply Ub (c:=pa) (h:=?_)|apply Ub (c:=pb) (h:=?_))|refine jai ?_|refine jaj ?_|refine jac ?_|refine jav 1 (fun _=>false) [0,1,2,3,4,6,7,8,9,10,-6,-12,12,13] ?_)
 refine Rad ?_;rfl
theorem sameQuestions_p (x y n:Int) (la:List (List Int)) (x2 y2 m:Int) (lb:List (List Int)):PC Tryz.prog 238 [.g [dI x,dI y,dI n,eII la],.g [dI x2,dI y2,dI m,eII lb]] (.p (.c (dB (sameB x y n la x2 y2 m lb)))):=by
 refine jao Tryz.func238 fun _=>?_;repeat' (first|(refine jaa (.box 38 _) ?_;refine jax rfl rfl ?_)|apply zaa ?_|apply zae ?_|apply zab ?_|apply zah ?_|apply zbb ?_|apply zaf ?_|apply zai ?_|apply zbd ?_|apply Ub (c:=IsBox_p _ _ _ _) (h:=?_)|refine jai ?_|refine jbn rfl rfl rfl rfl ?_|refine jbj rfl rfl rfl rfl ?_|refine jcc rfl rfl (fun hg=>?_) (fun hg=>?_)|refine jdf rfl rfl (fun hg=>?_) (fun hg=>?_)|refine jaj ?_|refine jac ?_)
 all_goals refine Rad ?_
 all_goals simp_all [sameB]
theorem MixBoxes_p (x y n:Int) (la:List (List Int)) (x2 y2 m:Int) (lb:List (List Int)):PC Tryz.prog 180 [.g [dI x,dI y,dI n,eII la],.g [dI x2,dI y2,dI m,eII lb]]
  (.t [.g [dI (whenN (bmixB x y n la x2 y2 m lb) x),dI (whenN (bmixB x y n la x2 y2 m lb) y),dI (whenN (bmixB x y n la x2 y2 m lb) (n+m)),eII (whenL (bmixB x y n la x2 y2 m lb) (bmixL la lb x y))],.c (dB (bmixB x y n la x2 y2 m lb))]):=by
 cases hs:sameB x y n la x2 y2 m lb with
 | false =>
  have hB:bmixB x y n la x2 y2 m lb=false:=by simp [bmixB,hs]
  rw [hB];refine jao Tryz.func180 fun _=>?_;repeat' (first|(refine jaa (.box 38 _) ?_;refine jax rfl rfl ?_)|(refine jaa (.alloc 38) ?_;refine jbi (zs:=[.int .i64 0,.int .i64 0,.int .i64 0,.slice none 0 0]) Kb rfl ?_)|apply zaa ?_|apply zae ?_|apply zag ?_|apply zab ?_|apply zbh ?_|apply zaf ?_|apply zah ?_|apply zcd ?_|(refine jaa (.store 38 _ _) ?_;(refine jan rfl rfl rfl Kb rfl rfl ?_))|apply Ub (c:=sameQuestions_p _ _ _ _ _ _ _ _) (h:=?_)|refine jai ?_|refine jbn rfl rfl rfl rfl ?_|refine jbj rfl rfl rfl rfl ?_|refine jdf rfl rfl (fun hg=>?_) (fun hg=>?_)|refine jaj ?_|refine jac ?_|refine jbg rfl ?_|exact Qac|fail)
  all_goals refine Rae ?_
  all_goals simp [whenN,whenL]
 | true =>
  obtain ⟨ha,hb,rfl,rfl⟩:=joy hs;have na:=(jbo ha).n2;have nb:=(jbo hb).n2;have na1:=(jbo ha).n1;have nb1:=(jbo hb).n1;have hB:bmixB x2 y2 n la x2 y2 m lb=decide (n+m<=1000):=by simp [bmixB,hs]
  rw [hB];obtain ⟨x,y,rfl,rfl,hx,hy⟩:=jgg ha;have nb:=newBox_p x y (n+m) 240 [.pt [dI x,dI y,dI n,eII la],.pt [dI x,dI y,dI m,eII lb]] (bmixF la lb y) Kf Kf (fun i k p hi hk hp=>MixBoxes1_p x y n m la lb ha hb i k p hi hk hp);by_cases h1:n+m<=1000
  ·rw [decide_eq_true h1];refine jao Tryz.func180 fun _=>?_;repeat' (first|(refine jaa (.box 38 _) ?_;refine jax rfl rfl ?_)|(refine jaa (.alloc 38) ?_;refine jbi (zs:=[.int .i64 0,.int .i64 0,.int .i64 0,.slice none 0 0]) Kb rfl ?_)|apply zaa ?_|apply zae ?_|apply zag ?_|apply zab ?_|apply zbh ?_|apply zaf ?_|apply zad ?_|apply zbc ?_|apply zah ?_|apply zcd ?_|(refine jaa (.store 38 _ _) ?_;(refine jan rfl rfl rfl Kb rfl rfl ?_))|apply zbb ?_|apply zbd ?_|(refine jaa (.makeFunc _ _ _) ?_;(apply jab;exact Yas;(·rfl)))|apply Ub (c:=sameQuestions_p _ _ _ _ _ _ _ _) (h:=?_)|apply Ua (c:=nb) (h:=?_)|refine jai ?_|refine jbn rfl rfl rfl rfl ?_|refine jbj rfl rfl rfl rfl ?_|refine jdf rfl rfl (fun hg=>?_) (fun hg=>?_)|refine jaj ?_|refine jam ?_|refine jac ?_|refine jbg rfl ?_|refine jbd rfl (fun hc=>?_) (fun hc=>?_)|exact Qab|fail)
   all_goals refine Raf ?_
   all_goals simp [whenN,whenL,bmixL]
  ·rw [decide_eq_false h1];refine jao Tryz.func180 fun _=>?_;repeat' (first|(refine jaa (.box 38 _) ?_;refine jax rfl rfl ?_)|(refine jaa (.alloc 38) ?_;refine jbi (zs:=[.int .i64 0,.int .i64 0,.int .i64 0,.slice none 0 0]) Kb rfl ?_)|apply zaa ?_|apply zae ?_|apply zag ?_|apply zab ?_|apply zbh ?_|apply zaf ?_|apply zad ?_|apply zbc ?_|apply zah ?_|apply zcd ?_|(refine jaa (.store 38 _ _) ?_;(refine jan rfl rfl rfl Kb rfl rfl ?_))|apply zbb ?_|apply zbd ?_|(refine jaa (.makeFunc _ _ _) ?_;(apply jab;exact Yas;(·rfl)))|apply Ub (c:=sameQuestions_p _ _ _ _ _ _ _ _) (h:=?_)|apply Ua (c:=nb) (h:=?_)|refine jai ?_|refine jbn rfl rfl rfl rfl ?_|refine jbj rfl rfl rfl rfl ?_|refine jdf rfl rfl (fun hg=>?_) (fun hg=>?_)|refine jaj ?_|refine jam ?_|refine jac ?_|refine jbg rfl ?_|refine jbd rfl (fun hc=>?_) (fun hc=>?_)|exact Qab|fail)
   all_goals refine Rae ?_
   all_goals simp [whenN,whenL]
theorem playBox1_p (X:Nat) (n wh:Int) (pl:List Int) (hX:X<=3) (hb:bitsB pl n=true) (i k p:Nat) (hi:i < X) (hk:(X:Int)+k < n) (hn:n<=6) :
  PC Tryz.prog 283 [.c (dI i),.c (dI k),.c (dI ((p / 2:Nat):Int)),.c (dI ((p%2:Nat):Int)),.c (.pt [eI pl]),.c (.pt [dI X]),.c (.pt [dI wh])] (.p (.c (dI (playF pl X wh i k p)))):=by
 have hl:=jce hb;refine jao Tryz.func283 fun _=>?_;repeat' (first|apply zaa ?_|apply zat ?_|apply zab ?_|apply zal ?_|apply zap ?_|apply zai ?_|apply zad ?_|apply zah ?_|refine jai ?_|refine jbn rfl rfl rfl rfl ?_|refine jbj rfl rfl rfl rfl ?_|refine jcc rfl rfl (fun hg=>?_) (fun hg=>?_)|refine jaj ?_|refine jam ?_|refine jac ?_|refine jay rfl ?_|refine jbd rfl (fun hc=>?_) (fun hc=>?_))
 all_goals refine Rad ?_
 all_goals simp_all [playF]
theorem PlayBox_p (x y:Int) (pl:List Int) (wh:Int):PC Tryz.prog 179 [.c (dI x),.c (dI y),.c (eI pl),.c (dI wh)]
  (.t [.g [dI (whenN (playB x y pl wh) x),dI (whenN (playB x y pl wh) y),dI (whenN (playB x y pl wh) wh),eII (whenL (playB x y pl wh) (playL pl x y wh))],.c (dB (playB x y pl wh))]):=by
 cases hB:playB x y pl wh with
 | false =>
  have hw:sizeB x y=true->IntKind.i64.wrap (x+y)=x+y:=fun h=>by have:=jct.1 h;exact IntWalk.i64_in _ Kf
  refine jao Tryz.func179 fun _=>?_;repeat' (first|(refine jaa (.alloc 38) ?_;refine jbi (zs:=[.int .i64 0,.int .i64 0,.int .i64 0,.slice none 0 0]) Kb rfl ?_)|apply zaa ?_|apply zab ?_|apply zag ?_|apply zah ?_|apply zcd ?_|(refine jaa (.store 38 _ _) ?_;(refine jan rfl rfl rfl Kb rfl rfl ?_))|apply Ub (c:=areQuestions_p _ _) (h:=?_)|apply Ub (c:=isPlay_p _ _ _) (h:=?_)|apply Ub (c:=within_p _ _ _) (h:=?_)|refine jai ?_|refine jbn rfl rfl rfl rfl ?_|refine jbj rfl rfl rfl rfl ?_|refine jdf rfl rfl (fun hg=>?_) (fun hg=>?_)|refine jaj ?_|refine jam ?_|refine jac ?_|refine jbg rfl ?_|refine jcu rfl (fun hc=>?_) (fun hc=>?_))
  all_goals first|(exfalso;simp_all [playB];done)|skip
  all_goals refine Rae ?_
  all_goals simp [whenN,whenL]
 | true =>
  have hB2:=hB;simp only [playB,Bool.and_eq_true] at hB2;obtain ⟨h1,h2,h3⟩:=hB2;have hs:=jct.1 h1;have hw:IntKind.i64.wrap (x+y)=x+y:=IntWalk.i64_in _ Kf;obtain ⟨X,rfl⟩:=Int.eq_ofNat_of_zero_le (by omega:0<=x);obtain ⟨Y,rfl⟩:=Int.eq_ofNat_of_zero_le (by omega:0<=y);have nb:=newBox_p X Y wh 283 [.pt [eI pl],.pt [dI X],.pt [dI wh]] (playF pl X wh) Kf Kf (fun i k p hi hk hp=>playBox1_p X (X+Y) wh pl Kf h2 i k p hi Kf Kf);have pb:PC Tryz.prog 237 [.c (dI X),.c (dI Y),.c (eI pl),.c (dI wh)] (.p (.g [dI X,dI Y,dI wh,eII (boxF (playF pl X wh) Y (Y*X))])):=by
   refine jao Tryz.func237 fun _=>?_;repeat' (first|(refine jaa (.box 3 _) ?_;refine jax rfl rfl ?_)|(refine jaa (.box 25 _) ?_;refine jax rfl rfl ?_)|(refine jaa (.alloc 38) ?_;refine jbi (zs:=[.int .i64 0,.int .i64 0,.int .i64 0,.slice none 0 0]) Kb rfl ?_)|apply zaf ?_|apply zab ?_|(refine jaa (.makeFunc _ _ _) ?_;(apply jab;exact Yas;(·rfl)))|(refine jaa (.store 38 _ _) ?_;(refine jan rfl rfl rfl Kb rfl rfl ?_))|apply Ua (c:=nb) (h:=?_)|refine jai ?_|refine jaj ?_|refine jac ?_)
   refine Rab ?_;rfl
  refine jao Tryz.func179 fun _=>?_;repeat' (first|(refine jaa (.alloc 38) ?_;refine jbi (zs:=[.int .i64 0,.int .i64 0,.int .i64 0,.slice none 0 0]) Kb rfl ?_)|apply zaa ?_|apply zab ?_|apply zag ?_|apply zah ?_|apply zcd ?_|(refine jaa (.store 38 _ _) ?_;(refine jan rfl rfl rfl Kb rfl rfl ?_))|apply Ub (c:=areQuestions_p _ _) (h:=?_)|apply Ub (c:=isPlay_p _ _ _) (h:=?_)|apply Ub (c:=within_p _ _ _) (h:=?_)|apply Ua (c:=pb) (h:=?_)|refine jai ?_|refine jbn rfl rfl rfl rfl ?_|refine jbj rfl rfl rfl rfl ?_|refine jdf rfl rfl (fun hg=>?_) (fun hg=>?_)|refine jaj ?_|refine jam ?_|refine jac ?_|refine jbg rfl ?_|refine jcu rfl (fun hc=>?_) (fun hc=>?_)|exact Qac|fail)
  all_goals refine Raf ?_
  all_goals simp [whenN,whenL,playL]
theorem swapped1_p (x y:Nat) (n:Int) (ll:List (List Int)) (hb:boxB x y n ll=true) (i k p:Nat) (hi:i < y) (hk:k < x) (hp:p < 4) :
  PC Tryz.prog 242 [.c (dI i),.c (dI k),.c (dI ((p / 2:Nat):Int)),.c (dI ((p%2:Nat):Int)),.c (.pt [dI x,dI y,dI n,eII ll])] (.p (.c (dI (swapF ll y i k p)))):=by
 have pa:=at_p x y n ll hb k i ((p%2:Nat):Int) ((p / 2:Nat):Int) Kf Kf Kf Kf Kf Kf Kf Kf;have e:2*((p%2:Nat):Int)+((p / 2:Nat):Int)=((2*(p%2)+p / 2:Nat):Int):=by omega
 rw [e] at pa;obtain ⟨a,ha'⟩:∃ a,a=((p / 2:Nat):Int):=⟨_,rfl⟩;obtain ⟨c,hc'⟩:∃ c,c=((p%2:Nat):Int):=⟨_,rfl⟩;rw [<- ha',<- hc'] at pa ⊢;clear e;unfold swapF;refine jao Tryz.func242 fun _=>?_;repeat' (first|apply zaa ?_|apply zdu ?_|apply zab ?_|apply Ub (c:=pa) (h:=?_)|refine jai ?_|refine jaj ?_|refine jac ?_)
 refine Rad ?_;rfl
theorem swapped_p (x y n:Int) (ll:List (List Int)) (hb:boxB x y n ll=true):PC Tryz.prog 182 [.g [dI x,dI y,dI n,eII ll]] (.p (.g [dI y,dI x,dI n,eII (swapL ll x y)])):=by
 obtain ⟨x,y,rfl,rfl,hx,hy⟩:=jgg hb;have nb:=newBox_p y x n 242 [.pt [dI x,dI y,dI n,eII ll]] (swapF ll y) Kf Kf (fun i k p hi hk hp=>swapped1_p x y n ll hb i k p hi hk hp);refine jao Tryz.func182 fun _=>?_;repeat' (first|(refine jaa (.box 38 _) ?_;refine jax rfl rfl ?_)|(refine jaa (.alloc 38) ?_;refine jbi (zs:=[.int .i64 0,.int .i64 0,.int .i64 0,.slice none 0 0]) Kb rfl ?_)|apply zbd ?_|apply zaf ?_|apply zbb ?_|apply zbh ?_|(refine jaa (.makeFunc _ _ _) ?_;(apply jab;exact Yas;(·rfl)))|(refine jaa (.store 38 _ _) ?_;(refine jan rfl rfl rfl Kb rfl rfl ?_))|apply Ua (c:=nb) (h:=?_)|refine jai ?_|refine jaj ?_|refine jac ?_)
 refine Rab ?_;simp [swapL]
theorem flipped1_p (x y:Nat) (n:Int) (ll:List (List Int)) (fl:List Int) (hb:boxB x y n ll=true) (hf:bitsB fl ((x:Int)+y)=true) (i k p:Nat) (hi:i < x) (hk:k < y) (hp:p < 4) :
  PC Tryz.prog 241 [.c (dI i),.c (dI k),.c (dI ((p / 2:Nat):Int)),.c (dI ((p%2:Nat):Int)),.c (.pt [dI x,dI y,dI n,eII ll]),.c (.pt [eI fl])] (.p (.c (dI (bflF ll x y fl i k p)))):=by
 have hl:=jce hf;have hx3:=(jbo hb).x3;have hy3:=(jbo hb).y3;have f1:=jdd hf (i:=(i:Int)) Kf Kf;have f2:=jdd hf (i:=(x:Int)+k) Kf Kf;obtain ⟨⟨b1,b2⟩,b3⟩:=xor_pair hp f1 f2;have pa:=at_p x y n ll hb i k _ _ Kf Kf Kf Kf b1.1 b1.2 b2.1 b2.2;rw [b3] at pa;obtain ⟨a,ha'⟩:∃ a,a=((p / 2:Nat):Int):=⟨_,rfl⟩;obtain ⟨c,hc'⟩:∃ c,c=((p%2:Nat):Int):=⟨_,rfl⟩;rw [<- ha',<- hc'] at pa ⊢;clear b1 b2 b3;unfold bflF flipOf;refine jao Tryz.func241 fun _=>?_;repeat' (first|apply zaa ?_|apply zdu ?_|apply zab ?_|apply zat ?_|apply zal ?_|apply zap ?_|apply zbi ?_|(refine jaa (.fieldAddr 38 _ 0) ?_;(refine jab (jhg (off:=0) rfl Kb Yby) rfl ?_))|apply zad ?_|apply Ub (c:=pa) (h:=?_)|refine jai ?_|refine jaj ?_|refine jac ?_|refine jav 1 (fun _=>false) [0,1,2,3,4,5,6,7,8,9,10,11,12,13,14,15,16,17,-19,19] ?_)
 refine Rad ?_;rfl
theorem flipped_p (x y n:Int) (ll:List (List Int)) (fl:List Int) (hb:boxB x y n ll=true) (hf:bitsB fl (x+y)=true):PC Tryz.prog 181 [.g [dI x,dI y,dI n,eII ll],.c (eI fl)] (.p (.g [dI x,dI y,dI n,eII (bflL ll x y fl)])):=by
 obtain ⟨x,y,rfl,rfl,hx,hy⟩:=jgg hb;have nb:=newBox_p x y n 241 [.pt [dI x,dI y,dI n,eII ll],.pt [eI fl]] (bflF ll x y fl) Kf Kf (fun i k p hi hk hp=>flipped1_p x y n ll fl hb hf i k p hi hk hp);refine jao Tryz.func181 fun _=>?_;repeat' (first|(refine jaa (.box 38 _) ?_;refine jax rfl rfl ?_)|(refine jaa (.box 25 _) ?_;refine jax rfl rfl ?_)|(refine jaa (.alloc 38) ?_;refine jbi (zs:=[.int .i64 0,.int .i64 0,.int .i64 0,.slice none 0 0]) Kb rfl ?_)|apply zbb ?_|apply zaf ?_|apply zbd ?_|apply zbh ?_|(refine jaa (.makeFunc _ _ _) ?_;(apply jab;exact Yas;(·rfl)))|(refine jaa (.store 38 _ _) ?_;(refine jan rfl rfl rfl Kb rfl rfl ?_))|apply Ua (c:=nb) (h:=?_)|refine jai ?_|refine jaj ?_|refine jac ?_)
 refine Rab ?_;simp [bflL]
theorem divisor_p (a b:Int) (ha:1<=a/\a<=1000000) (hb:0<=b/\b<=1000000):PC Tryz.prog 243 [.c (dI a),.c (dI b)] (.p (.c (dI (gcdI a b)))):=by
 refine jao Tryz.func243 fun _=>?_;repeat' (first|apply zaa ?_|refine jai ?_|refine jaj ?_|refine jah ?_|refine jac ?_)
 apply jbe [0,1] [] rfl;exact Ky;exact Yar;refine jbf [] [] (fun g:Int×Int=>[(0,iZ g.1),(1,iZ g.2)]) (fun _=>[]) (fun g=>(1<=g.1/\g.1<=1000000)/\(0<=g.2/\g.2<=1000000)/\gcdI g.1 g.2=gcdI a b) (fun g=>g.2.toNat) ((a,b)) ?_ Kg Kv ?_
 ·exact ⟨ha,hb,rfl⟩
 rintro ⟨u,v⟩ ⟨hu,hv,hg⟩;dsimp only at hu hv hg ⊢;by_cases h0:v=0
 ·subst h0;rw [gcd_zero Kf] at hg;repeat' (first|apply zaa ?_|apply zab ?_|apply zbk ?_|refine jai ?_|refine jaj ?_|refine jaq rfl ?_|refine jac ?_|refine jay rfl ?_|exact Qaa|fail)
  refine Rad ?_;rw [hg]
 ·have h1:=emod_bd0 (x:=u) (n:=v) Kf Kf;have h2:=gcd_step (a:=u) (b:=v) Kf Kf;repeat' (first|apply zaa ?_|apply zab ?_|apply zbk ?_|apply zbn ?_|refine jai ?_|refine jaj ?_|refine jah ?_|refine jaz ?_|refine jaq rfl ?_|refine jam ?_|refine jac ?_|refine jav 2 (fun _=>false) [0,1,2,3,4,5] ?_|refine jbd rfl (fun hc=>?_) (fun hc=>?_)|exact Qaa|fail)
  refine bkL (v,u%v) ?_ ?_
  ·exact ⟨by dsimp only;omega,by dsimp only;omega,h2.trans hg⟩
  ·dsimp only; omega
theorem ReduceBox1_p (x y:Nat) (n d:Int) (ll:List (List Int)) (hb:boxB x y n ll=true) (hd:1<=d/\d<=1000) (i k p:Nat) (hi:i < x) (hk:k < y) (hp:p < 4) :
  PC Tryz.prog 244 [.c (dI i),.c (dI k),.c (dI ((p / 2:Nat):Int)),.c (dI ((p%2:Nat):Int)),.c (.pt [dI x,dI y,dI n,eII ll]),.c (.pt [dI d])] (.p (.c (dI (redF ll y d i k p)))):=by
 have pa:=at_p x y n ll hb i k ((p / 2:Nat):Int) ((p%2:Nat):Int) Kf Kf Kf Kf Kf Kf Kf Kf;have e:2*((p / 2:Nat):Int)+((p%2:Nat):Int)=(p:Int):=by omega
 rw [e] at pa;have va:=(jfq hb hi hk).1 p hp;have na:=(jbo hb).n2;obtain ⟨a,ha'⟩:∃ a,a=((p / 2:Nat):Int):=⟨_,rfl⟩;obtain ⟨c,hc'⟩:∃ c,c=((p%2:Nat):Int):=⟨_,rfl⟩;rw [<- ha',<- hc'] at pa ⊢;clear e;unfold redF;refine jao Tryz.func244 fun _=>?_;repeat' (first|apply zaa ?_|apply zdu ?_|apply zab ?_|apply zap ?_|apply zbw ?_|apply Ub (c:=pa) (h:=?_)|refine jai ?_|refine jaj ?_|refine jac ?_|refine jav 1 (fun _=>false) [0,1,2,3,4,6,-6,7,8] ?_)
 refine Rad ?_;rfl
theorem ReduceBox_p (x y n:Int) (ll:List (List Int)) (hb:boxB x y n ll=true):PC Tryz.prog 183 [.g [dI x,dI y,dI n,eII ll]] (.t [.g [dI x,dI y,dI (n / gcdL n ll),eII (redL ll x y (gcdL n ll))],.c (dB true)]):=by
 obtain ⟨x,y,rfl,rfl,hx,hy⟩:=jgg hb;have bs:=jbo hb;have n1:=bs.n1;have n2:=bs.n2;have hll:=bs.len;have hm:=jds (jct.2 ⟨⟨bs.x1,bs.x3⟩,bs.y1,bs.y3⟩);have hg:=jkb (ll:=ll) n1;have hdv:0<=n / gcdL n ll/\n / gcdL n ll<=n:=⟨Int.ediv_nonneg Kf Kf,Int.ediv_le_self _ Kf⟩;have nb:=newBox_p x y (n / gcdL n ll) 244 [.pt [dI x,dI y,dI n,eII ll],.pt [dI (gcdL n ll)]] (redF ll y (gcdL n ll)) Kf Kf (fun i k p hi hk hp=>ReduceBox1_p x y n _ ll hb Kf i k p hi hk hp);refine jao Tryz.func183 fun _=>?_;repeat' (first|(refine jaa (.box 38 _) ?_;refine jax rfl rfl ?_)|(refine jaa (.alloc 38) ?_;refine jbi (zs:=[.int .i64 0,.int .i64 0,.int .i64 0,.slice none 0 0]) Kb rfl ?_)|apply zaa ?_|apply zae ?_|apply zag ?_|apply zcd ?_|(refine jaa (.store 38 _ _) ?_;(refine jan rfl rfl rfl Kb rfl rfl ?_))|apply zbh ?_|apply zaf ?_|(refine jaa (.alloc 3) ?_;refine jbi (zs:=[.int .i64 0]) Kb rfl ?_)|(refine jaa (.store 3 _ _) ?_;(refine jbk rfl rfl rfl rfl Kb rfl rfl ?_))|apply zaw ?_|apply zak ?_|apply zaq ?_|apply zab ?_|apply Ub (c:=IsBox_p _ _ _ _) (h:=?_)|refine jai ?_|refine jaj ?_|refine jah ?_|refine jam ?_|refine jac ?_|refine jcu rfl (fun hc=>?_) (fun hc=>?_)|exact Qac|fail)
 apply jbe [1,2,4,16,17,18] [1,2,4,3042] rfl;exact Kh;exact Ybf;refine jbf [1,2,4,16,17] [1,2,3042] (fun i=>[(18,iN i)]) (fun i=>[(4,.box [.d (dI (gcdL n (ll.take i)))])]) (fun i=>i<=ll.length) (fun i=>ll.length - i) (0) ?_ Kg (by (repeat(first|exact trivial|refine ⟨(by ((refine jdn rfl ?_;simp  [gcdL];done))),?_⟩))) ?_
 ·omega
 intro i hi;have h1:=jkb (ll:=ll.take i) n1;by_cases h:i < ll.length
 ·have hr:=jfj (bs.row i h);rw [<- jby h] at hr;have h4:=gcdL_snoc (d:=n) h;repeat' (first|apply zaa ?_|apply zbh ?_|apply zaf ?_|apply zab ?_|apply zac ?_|apply zao ?_|apply zat ?_|apply zas ?_|apply zbb ?_|apply zbd ?_|apply zbw ?_|(refine jaa (.makeFunc _ _ _) ?_;(apply jab;exact Yas;(·rfl)))|refine jai ?_|refine jaj ?_|refine jah ?_|refine jaq rfl ?_|refine jam ?_|refine jac ?_|refine jav 13 (fun i=>i == 10) [0,1,2,3,4,5,6,7,8,-10,-11,11] ?_|refine jbd rfl (fun hc=>?_) (fun hc=>?_)|exact Qaa|fail)
  apply jbe [1,2,4,16,17,18,22,23,24] [1,2,4,3042] rfl;exact Kh;exact Ybf;refine jbf [1,2,4,16,17,18,22,23] [1,2,3042] (fun k=>[(24,iN k)]) (fun k=>[(4,.box [.d (dI (gcdR (gcdL n (ll.take i)) ((atZ ll i).take k)))])]) (fun k=>k<=4) (fun k=>4 - k) (0) ?_ Kg (by (repeat(first|exact trivial|refine ⟨(by ((refine jdn rfl ?_;simp  [gcdR];done))),?_⟩))) ?_
  ·omega
  intro k hk;have h2:=jmd (row:=(atZ ll i).take k) h1.1;by_cases hk4:k < 4
  ·have hk5:k < (atZ ll i).length:=by omega
   have hv:=hr.2 k hk5;rw [<- jby hk5] at hv;have h3:=gcdR_snoc (d:=gcdL n (ll.take i)) hk5;repeat' (first|apply zaa ?_|(refine jaa (.load 3 _) ?_;(first|refine jab (jag rfl rfl Kb rfl) rfl ?_|refine jab (jap rfl Kb rfl) rfl ?_))|(refine jaa (.store 3 _ _) ?_;(refine jbk rfl rfl rfl rfl Kb rfl rfl ?_))|apply zab ?_|apply zac ?_|apply zal ?_|apply zad ?_|apply Ub (c:=divisor_p _ _ Kf Kf) (h:=?_)|refine jai ?_|refine jaj ?_|refine jah ?_|refine jaz ?_|refine jaq rfl ?_|refine jam ?_|refine jac ?_|refine jbd rfl (fun hc=>?_) (fun hc=>?_)|exact Qaa|fail)
   refine bkL (k+1) ?_ ?_ (hB:=(by (repeat(first|exact trivial|refine ⟨(by ((refine jdn rfl ?_;simp  [h3,Res.cells,RP.cells];done))),?_⟩))))
   ·omega
   ·omega
  ·have e4:k=4:=by omega
   subst e4;have e5:(atZ ll i).take 4=atZ ll i:=List.take_of_length_le Kf;rw [e5];repeat' (first|apply zaa ?_|(refine jaa (.load 3 _) ?_;(first|refine jab (jag rfl rfl Kb rfl) rfl ?_|refine jab (jap rfl Kb rfl) rfl ?_))|apply zab ?_|apply zac ?_|apply zal ?_|apply zad ?_|refine jai ?_|refine jaj ?_|refine jah ?_|refine jaz ?_|refine jaq rfl ?_|refine jam ?_|refine jac ?_|refine jbd rfl (fun hc=>?_) (fun hc=>?_)|exact Qaa|fail)
   refine bkL (i+1) ?_ ?_ (hB:=(by (repeat(first|exact trivial|refine ⟨(by ((refine jdn rfl ?_;simp  [h4];done))),?_⟩))))
   ·omega
   ·omega
 ·have e:i=ll.length:=by omega
  subst e;rw [List.take_length];repeat' (first|apply zaa ?_|(refine jaa (.store 38 _ _) ?_;(refine jan rfl rfl rfl Kb rfl rfl ?_))|apply zbh ?_|apply zaf ?_|apply zab ?_|apply zac ?_|apply zao ?_|apply zat ?_|apply zas ?_|apply zbb ?_|apply zbd ?_|apply zbw ?_|(refine jaa (.makeFunc _ _ _) ?_;(apply jab;exact Yas;(·rfl)))|apply Ua (c:=nb) (h:=?_)|refine jai ?_|refine jaj ?_|refine jah ?_|refine jaq rfl ?_|refine jam ?_|refine jac ?_|refine jav 13 (fun i=>i == 10) [0,1,2,3,4,5,6,7,8,-10,-11,11] ?_|refine jbd rfl (fun hc=>?_) (fun hc=>?_)|exact Qaa|fail)
  refine Raf ?_;simp [redL]
theorem FlipEvent_no (ev:Int) (cc:List (List Int)) (ss:List Int) (e:Int) (h:(sceneB ev cc ss&&inB e 0 (ev - 1))=false):PC Tryz.prog 184 [.g [dI ev,eII cc,eI ss],.c (dI e)] (.t [.g [dI 0,eII [],eI []],.c (dB false)]):=by
 have hw:sceneB ev cc ss=true->IntKind.i64.wrap (ev - 1)=ev - 1:=fun h=>by have:=jbv h;have a:=this.e0;have b:=this.e12;exact IntWalk.i64_in _ Kf
 refine jao Tryz.func184 fun _=>?_;repeat' (first|(with_reducible apply jeq)|intro Y hY|refine jdr ?_ ?_|(refine jaa (.box 39 _) ?_;refine jax rfl rfl ?_)|(refine jaa (.alloc 39) ?_;refine jbi (zs:=[.int .i64 0,.slice none 0 0,.slice none 0 0]) Kb rfl ?_)|apply zaa ?_|apply zam ?_|apply zag ?_|apply zab ?_|apply zbv ?_|apply zaf ?_|(refine jaa (.binOp .sub 3 _ _ _) ?_;(refine jab (jhr rfl rfl) rfl ?_))|apply zah ?_|(refine jaa (.build 39 _) ?_;refine jab (jbt (cs:=[_,_,_]) [(0,1),(1,1),(2,1)] [.int .i64 0,.slice none 0 0,.slice none 0 0] Kb Kb rfl) rfl ?_)|(refine jaa (.store 39 _ _) ?_;(refine jan rfl rfl rfl Kb rfl rfl ?_))|apply zbq ?_|apply zax ?_|apply Ub (c:=IsScene_p _ _ _) (h:=?_)|apply Ub (c:=within_p _ _ _) (h:=?_)|refine jai ?_|refine jbn rfl rfl rfl rfl ?_|refine jbj rfl rfl rfl rfl ?_|refine jdf rfl rfl (fun hg=>?_) (fun hg=>?_)|refine jaj ?_|refine jam ?_|refine jac ?_|refine jcv 3 (fun i=>i == 9) (IT.lt (.step 9 false .nil) fun Y1=>(IT.lt (.step 6 false (.step 7 true (IT.ref false [1,2,4,6,28] [2,4,24,27,6] Y1))) fun Y0=>(.step 0 true (.step 1 true (.step 2 true (.step 4 true (.step 5 true (.alt 3 (.step 3 false (.alt 3 (.step 6 false (.step 7 true (.step 8 false (IT.ref true [1,2,4,6,28] [2,4,24,27,6] Y1)))) (.step 8 false (IT.ref true [1,2,4,6,22,24,26] [2,4,24,27,6] Y0)))) (.step 8 false (.step 3 false (IT.ref false [1,2,4,6,22,24,26] [2,4,24,27,6] Y0))))))))))) ?_|refine jbg rfl ?_|refine jcu rfl (fun hc=>?_) (fun hc=>?_)|exact Qac|fail)
 all_goals refine Rag ?_
 all_goals simp
theorem FlipEvent_p (ev:Int) (cc:List (List Int)) (ss:List Int) (e:Int) (hs:sceneB ev cc ss=true) (he:inB e 0 (ev - 1)=true):PC Tryz.prog 184 [.g [dI ev,eII cc,eI ss],.c (dI e)] (.t [.g [dI ev,eII cc,eI (evL cc ss e)],.c (dB true)]):=by
 have sp:=jbv hs;have e0:=sp.e0;have e12:=sp.e12;have c10:=sp.c10;have hsl:=sp.sl;have ctx:∀ r∈cc,r.length<=1000/\allB r 0 1000=true:=fun r hr=>by
  obtain ⟨i,hi,rfl⟩:=List.getElem_of_mem hr;exact jhq Kf (sp.ctx i hi)
 have hsb:∀ i:Nat,i < ss.length->0<=atZ ss i/\atZ ss i<=1:=fun i hi=>jdd sp.sb Kf Kf;refine jao Tryz.func184 fun _=>?_;repeat' (first|(with_reducible apply jeq)|intro Y hY|((with_reducible apply jff);exact Yak;(·rfl);exact Ko;exact Ko)|((with_reducible apply jfg);(·rfl);(·(repeat(first|exact Pf.nil|apply Pf.cons (.c rfl (.d rfl))|apply Pf.cons (.c rfl (.ls rfl))|apply Pf.cons (.c rfl (.lp rfl))|(apply Pf.cons;(·apply Nv.g rfl;(repeat(first|exact Ncs.nil rfl|(apply Ncs.cons rfl;(·(first|exact .d rfl|exact .ls rfl))))))))));exact Ybe;exact Yak)|refine jdr ?_ ?_|(refine jaa (.box 39 _) ?_;refine jax rfl rfl ?_)|(refine jaa (.alloc 39) ?_;refine jbi (zs:=[.int .i64 0,.slice none 0 0,.slice none 0 0]) Kb rfl ?_)|apply zaa ?_|apply zam ?_|apply zag ?_|apply zab ?_|apply zbv ?_|apply zaf ?_|apply zav ?_|apply zah ?_|(refine jaa (.build 39 _) ?_;refine jab (jbt (cs:=[_,_,_]) [(0,1),(1,1),(2,1)] [.int .i64 0,.slice none 0 0,.slice none 0 0] Kb Kb rfl) rfl ?_)|(refine jaa (.store 39 _ _) ?_;(refine jan rfl rfl rfl Kb rfl rfl ?_))|apply zbq ?_|apply zax ?_|apply zbf ?_|apply zak ?_|apply zaq ?_|apply Ub (c:=IsScene_p _ _ _) (h:=?_)|apply Ub (c:=within_p _ _ _) (h:=?_)|apply Ua (c:=shifted0_p _ _ _ Kf (fun r hr=>by have:=(ctx r hr).1;omega) (fun r hr=>(ctx r hr).2)) (h:=?_)|apply Ua (c:=copied_p _ Kf) (h:=?_)|refine jai ?_|refine jbn rfl rfl rfl rfl ?_|refine jbj rfl rfl rfl rfl ?_|refine jdf rfl rfl (fun hg=>?_) (fun hg=>?_)|refine jaj ?_|refine jah ?_|refine jam ?_|refine jac ?_|refine jcv 3 (fun i=>i == 9) (IT.lt (.step 9 false .nil) fun Y1=>(IT.lt (.step 6 false (.step 7 true (IT.ref false [1,2,4,6,28] [2,4,24,27,6] Y1))) fun Y0=>(.step 0 true (.step 1 true (.step 2 true (.step 4 true (.step 5 true (.alt 3 (.step 3 false (.alt 3 (.step 6 false (.step 7 true (.step 8 false (IT.ref true [1,2,4,6,28] [2,4,24,27,6] Y1)))) (.step 8 false (IT.ref true [1,2,4,6,22,24,26] [2,4,24,27,6] Y0)))) (.step 8 false (.step 3 false (IT.ref false [1,2,4,6,22,24,26] [2,4,24,27,6] Y0))))))))))) ?_|refine jbg rfl ?_|refine jcu rfl (fun hc=>?_) (fun hc=>?_)|exact Qac|fail)
 apply jbe [1,4,6,30,31,32] [2,4,6,24,27] rfl;exact Kh;exact Yaj;refine jbf [1,4,6,30,31] [2,4,24,6] (fun i=>[(32,iN i)]) (fun i=>[(27,.row 1 (cI (evM cc ss e i)))]) (fun i=>i<=cc.length) (fun i=>cc.length - i) (0) ?_ Kg (by (repeat(first|exact trivial|refine ⟨(by ((refine jbs rfl ?_;simp  [evM_zero];done))),?_⟩))) ?_
 ·omega
 intro i hi;by_cases h:i < cc.length
 ·have hl:=evM_len cc ss e i;have hat:=evM_at cc ss e (k:=i) Kf;have hb:=hsb i Kf;by_cases hcn:(atZ cc (i:Int)).contains e=true
  ·have h4:=evM_hit (ss:=ss) Kf hcn;repeat' (first|apply zaa ?_|apply zam ?_|apply zab ?_|apply zdj ?_|apply zav ?_|(refine jaa (.store 39 _ _) ?_;(refine jan rfl rfl rfl Kb rfl rfl ?_))|apply zbq ?_|(refine jaa (.load 25 _) ?_;(first|refine jab (jag rfl rfl Kb rfl) rfl ?_|refine jab (jap rfl Kb rfl) rfl ?_))|apply zac ?_|apply zao ?_|apply zca ?_|(refine jaa (.store 3 _ _) ?_;((refine jcp rfl rfl rfl rfl (.lit _) Yby Yby Kb Ybg rfl ?_;simp only [St.drop])))|apply zad ?_|apply Ub (c:=containsI_p _ _) (h:=?_)|refine jai ?_|refine jaj ?_|refine jah ?_|refine jaz ?_|refine jaq rfl ?_|refine jam ?_|refine jac ?_|refine jav 8 (fun i=>i == 10) [0,1,2,3,4,5,6,7,8,9,-11] ?_|refine jbd rfl (fun hc=>?_) (fun hc=>?_)|refine jeh rfl (fun hc=>?_) (fun hc=>?_)|exact Qab|fail)
   refine bkL (i+1) ?_ ?_ (hB:=(by (repeat(first|exact trivial|refine ⟨(by ((refine jbs rfl ?_;simp  [<- List.map_set,hat,h4];done))),?_⟩))))
   ·omega
   ·omega
  ·have h4:=evM_miss (ss:=ss) hcn;rw [h4];repeat' (first|apply zaa ?_|apply zam ?_|apply zab ?_|(refine jaa (.load 3 _) ?_;(refine jab (jdi rfl rfl Kb Kf Ybb) rfl ?_))|(refine jaa (.store 39 _ _) ?_;(refine jan rfl rfl rfl Kb rfl rfl ?_))|apply zbq ?_|(refine jaa (.load 25 _) ?_;(first|refine jab (jag rfl rfl Kb rfl) rfl ?_|refine jab (jap rfl Kb rfl) rfl ?_))|apply zac ?_|apply zao ?_|apply zca ?_|apply zad ?_|apply Ub (c:=containsI_p _ _) (h:=?_)|refine jai ?_|refine jaj ?_|refine jah ?_|refine jaz ?_|refine jaq rfl ?_|refine jam ?_|refine jac ?_|refine jav 8 (fun i=>i == 10) [0,1,2,3,4,5,6,7,8,9,-11] ?_|refine jbd rfl (fun hc=>?_) (fun hc=>?_)|refine jeh rfl (fun hc=>?_) (fun hc=>?_)|exact Qab|fail)
   refine bkL (i+1) ?_ ?_
   ·omega
   ·omega
 ·have e1:i=cc.length:=by omega
  subst e1;rw [<- hsl,evM_all];repeat' (first|apply zaa ?_|apply zam ?_|apply zab ?_|(refine jaa (.store 39 _ _) ?_;(refine jan rfl rfl rfl Kb rfl rfl ?_))|apply zat ?_|apply zac ?_|apply zao ?_|refine jai ?_|refine jaj ?_|refine jah ?_|refine jaq rfl ?_|refine jam ?_|refine jac ?_|refine jbd rfl (fun hc=>?_) (fun hc=>?_)|exact Qaa|fail)
  refine Rah ?_;simp [hsl]
theorem questions_p (n:Int) (ll:List (List Int)) (x y:Int):PC Tryz.prog 288 [.g [dI x,dI y,dI n,eII ll]] (.p (.g [dI x,dI y])):=by
 refine jao Tryz.func288 fun _=>?_;repeat' (first|refine jac ?_|refine Maa ?_|refine Wba ?_|refine Wcc ?_|apply zcj ?_|refine Wcd ?_|fail)
 (apply jat;apply jau;(·apply jbc.p;(·(apply GvA.cons;(·(apply RV.cellN (n:=2);(·rfl);(·rfl);exact Kb;(·rfl)));exact Yam);exact GvA.nil);exact Ybr))
 rfl
theorem onesG_p (X Y:Nat) (n:Int) (ll:List (List Int)) (h:boxB X Y n ll=true) (w q j:Nat) (hw:w < 2) (hq:q < szG X Y w) (hj:j < szG X Y (1 - w)) :
  PC Tryz.prog 258 [.g [dI X,dI Y,dI n,eII ll],.c (dI w),.c (dI q),.c (dI j)] (.p (.c (dI (onG ll Y w q j)))):=by
 have n2:=(jbo h).n2;rcases (by omega:w=0∨w=1) with rfl|rfl
 ·unfold szG at hq hj;simp only [if_true,Nat.sub_zero] at hq hj;rw [if_neg Kf] at hj;obtain ⟨b,-⟩:=jfq h hq hj;have b2:=b 2 Kf;have b3:=b 3 Kf;have p2:=at_p X Y n ll h q j 1 0 Kf Kf Kf Kf Kf Kf Kf Kf;have p3:=at_p X Y n ll h q j 1 1 Kf Kf Kf Kf Kf Kf Kf Kf;simp only [Int.reduceMul,Int.reduceAdd,Int.cast_ofNat_Int] at b2 b3 p2 p3;unfold onG;clear b;refine jao Tryz.func258 fun _=>?_;repeat' (first|refine jac ?_|refine jav 2 (fun _=>false) [0,1,2,4,5,6,-4,-8,8,9] ?_|refine Maa ?_|refine Wba ?_|(first|apply Ub (c:=p2) (h:=?_)|apply Ub (c:=p3) (h:=?_))|exact Qab|fail)
  all_goals refine Rad ?_
  all_goals simp_all
 ·unfold szG at hq hj;rw [if_neg Kf] at hq;simp only [Nat.sub_self,if_true] at hj;obtain ⟨b,-⟩:=jfq h hj hq;have b1:=b 1 Kf;have b3:=b 3 Kf;have p1:=at_p X Y n ll h j q 0 1 Kf Kf Kf Kf Kf Kf Kf Kf;have p3:=at_p X Y n ll h j q 1 1 Kf Kf Kf Kf Kf Kf Kf Kf;simp only [Int.reduceMul,Int.reduceAdd,Int.natCast_one,Int.cast_ofNat_Int] at b1 b3 p1 p3;unfold onG;clear b;refine jao Tryz.func258 fun _=>?_;repeat' (first|refine jac ?_|refine jav 3 (fun _=>false) [0,1,2,4,5,6,-4,-8,8,9] ?_|refine Maa ?_|refine Wba ?_|(first|apply Ub (c:=p1) (h:=?_)|apply Ub (c:=p3) (h:=?_))|exact Qab|fail)
  all_goals refine Rad ?_
  all_goals simp_all
theorem Vai {G G':Prop} (h:G') (t:Laa G'->G:=by intro h;first|(first|exact jac h.o|exact Maa h.o|exact Wba h.o|exact Wcc h.o|exact Wcd h.o|apply zbp h.o|fail);done|fail):G:=t ⟨h⟩
theorem loudG_p (X Y:Nat) (n:Int) (ll:List (List Int)) (h:boxB X Y n ll=true):PE Tryz.prog 250 [.g [dI X,dI Y,dI n,eII ll]] (fun res => ∃ u v:Int,res = .t [.c (dI u),.c (dI v),.c (dB (!quietG ll X Y))]):=by
 have b:=jbo h;have x1:=b.x1;have x3:=b.x3;have y1:=b.y1;have y3:=b.y3;clear b;refine jho Tryz.func250 fun _=>?_;repeat' (first|refine Vai ?_|apply Ub (c:=questions_p _ _ _ _) (h:=?_))
 apply jbe [1,5,11] [1,5] rfl;exact Kh;exact Ybi;refine jbf [1,5] [1,5] (fun w=>[(11,iN w)]) (fun _=>[]) (fun w=>w<=2 /\ ∀ w' q j:Nat,w' < w->q < szG X Y w'->j < szG X Y (1 - w')->onG ll Y w' q j=onG ll Y w' q 0) (fun w=>2 - w) (0) ?_ Kg Kv ?_
 ·exact ⟨by omega,fun u q j hu=>by omega⟩
 rintro w ⟨hw,hW⟩;rcases (by omega:w=0∨w=1∨w=2) with rfl|rfl|rfl
 ·have no:=fun q j:Nat=>fun hq hj=>jjs (ll:=ll) (X:=X) (Y:=Y) (w:=0) (q:=q) (j:=j) Kf hq hj;have on0:=fun q j:Nat=>fun hq hj=>onesG_p X Y n ll h 0 q j Kf hq hj;simp only [szG,if_true,Nat.sub_zero,Nat.one_ne_zero,if_false] at no on0;repeat' (first|refine Vai ?_|exact Qaa|fail)
  apply jbe [1,5,6,11,16,17] [1,5] rfl;exact Kh;exact Ybi;refine jbf [1,5,6,11,16] [1,5] (fun q=>[(17,iN q)]) (fun _=>[]) (fun q=>q<=X /\ ∀ r j:Nat,r < q->j < Y->onG ll Y 0 r j=onG ll Y 0 r 0) (fun q=>X - q) (0) ?_ Kg Kv ?_
  ·exact ⟨by omega,fun u j hu=>by omega⟩
  rintro q ⟨hq,hQ⟩;by_cases hq2:q < X
  ·have o0:=on0 q 0 hq2 Kf;repeat' (first|refine Vai ?_|refine jbd rfl (fun hc=>?_) (fun hc=>?_)|exact Qaa|fail)
   apply jbe [1,5,6,7,11,16,17,23,24] [1,5] rfl;exact Kh;exact Ybi;refine jbf [1,5,6,7,11,16,17,23] [1,5] (fun j=>[(24,iN j)]) (fun _=>[]) (fun j=>j<=Y /\ ∀ t:Nat,t < j->onG ll Y 0 q t=onG ll Y 0 q 0) (fun j=>Y - j) (0) ?_ Kg Kv ?_
   ·exact ⟨by omega,fun u hu=>by omega⟩
   rintro j ⟨hj,hJ⟩;by_cases hj2:j < Y
   ·have oj:=on0 q j hq2 hj2;have nj:=no q j hq2 hj2;by_cases he:onG ll Y 0 q j=onG ll Y 0 q 0
    ·exact Dau
    ·exact Day
   ·exact Dav
  ·repeat' (first|refine Vai ?_|refine jbd rfl (fun hc=>?_) (fun hc=>?_)|exact Qaa|fail)
   refine bkL 1 ?_ ?_
   ·refine ⟨by omega,fun w' r t hw' hr ht=>?_⟩;obtain rfl:w'=0:=by omega
    exact hQ r t (by simp only [szG,if_true] at hr;omega) (by simp only [szG,Nat.sub_zero,Nat.one_ne_zero,if_false] at ht;omega)
   ·omega
 ·have no:=fun q j:Nat=>fun hq hj=>jjs (ll:=ll) (X:=X) (Y:=Y) (w:=1) (q:=q) (j:=j) Kf hq hj;have on0:=fun q j:Nat=>fun hq hj=>onesG_p X Y n ll h 1 q j Kf hq hj;simp only [szG,if_true,Nat.sub_self,Nat.one_ne_zero,if_false] at no on0;repeat' (first|refine Vai ?_|exact Qaa|fail)
  apply jbe [1,5,6,11,16,17] [1,5] rfl;exact Kh;exact Ybi;refine jbf [1,5,6,11,16] [1,5] (fun q=>[(17,iN q)]) (fun _=>[]) (fun q=>q<=Y /\ ∀ r j:Nat,r < q->j < X->onG ll Y 1 r j=onG ll Y 1 r 0) (fun q=>Y - q) (0) ?_ Kg Kv ?_
  ·exact ⟨by omega,fun u j hu=>by omega⟩
  rintro q ⟨hq,hQ⟩;by_cases hq2:q < Y
  ·have o0:=on0 q 0 hq2 Kf;repeat' (first|refine Vai ?_|refine jbd rfl (fun hc=>?_) (fun hc=>?_)|exact Qaa|fail)
   apply jbe [1,5,6,7,11,16,17,23,24] [1,5] rfl;exact Kh;exact Ybi;refine jbf [1,5,6,7,11,16,17,23] [1,5] (fun j=>[(24,iN j)]) (fun _=>[]) (fun j=>j<=X /\ ∀ t:Nat,t < j->onG ll Y 1 q t=onG ll Y 1 q 0) (fun j=>X - j) (0) ?_ Kg Kv ?_
   ·exact ⟨by omega,fun u hu=>by omega⟩
   rintro j ⟨hj,hJ⟩;by_cases hj2:j < X
   ·have oj:=on0 q j hq2 hj2;have nj:=no q j hq2 hj2;by_cases he:onG ll Y 1 q j=onG ll Y 1 q 0
    ·exact Dau
    ·exact Day
   ·exact Dav
  ·repeat' (first|refine Vai ?_|refine jbd rfl (fun hc=>?_) (fun hc=>?_)|exact Qaa|fail)
   refine bkL 2 ?_ ?_
   ·refine ⟨by omega,fun w' r t hw' hr ht=>?_⟩;by_cases h0:w'=0
    ·subst h0;exact hW 0 r t Kf hr ht
    ·obtain rfl:w'=1:=by omega
     exact hQ r t (by simp only [szG,Nat.one_ne_zero,if_false] at hr;omega) (by simp only [szG,Nat.sub_self,if_true] at ht;omega)
   ·omega
 ·have yes:=jpd (ll:=ll) (X:=X) (Y:=Y) fun w q j hw hq hj=>hW w q j hw hq hj;repeat' (first|refine Vai ?_|exact Qaa|fail)
  (apply jgp;exact Yae)
  exact ⟨_,_,by rw [yes];rfl⟩
theorem isQuietG_p (X Y:Nat) (n:Int) (ll:List (List Int)) (h:boxB X Y n ll=true):PC Tryz.prog 192 [.g [dI X,dI Y,dI n,eII ll]] (.p (.c (dB (quietG ll X Y)))):=by
 have w:=IsBox_p X Y n ll;rw [h] at w;refine jao Tryz.func192 fun _=>?_;repeat' (first|refine Wby ?_|refine jac ?_|refine Maa ?_|refine Wba ?_|(refine jaa (.call ⟨.value (.func 250),_,_⟩) ?_;((apply jep (fid:=250);exact Yac;(·exact loudG_p X Y n ll h);(·rfl);(rintro _ ⟨u,v,rfl⟩))))|apply Ub (c:=w) (h:=?_)|exact Qac|fail)
 refine Rad ?_;simp
theorem IsQuietG_p (X Y:Nat) (n:Int) (ll:List (List Int)) (h:boxB X Y n ll=true):PC Tryz.prog 132 [.g [dI X,dI Y,dI n,eII ll]] (.t [.c (dB (quietG ll X Y)),.c (dB true)]):=by
 have w:=IsBox_p X Y n ll;rw [h] at w;refine jao Tryz.func132 fun _=>?_;repeat' (first|refine jac ?_|refine Maa ?_|refine Wba ?_|apply Ub (c:=w) (h:=?_)|apply Ub (c:=isQuietG_p X Y n ll h) (h:=?_)|exact Qac|fail)
 refine Ral ?_;rfl
def prI (n i:Nat):List (Nat×Nat):=(List.range i).flatMap fun a=>(List.range (n - (a+1))).map fun j=>(a,a+1+j)
def prT (n i k:Nat):List (Nat×Nat):=prI n i++(List.range (k - (i+1))).map fun j=>(i,i+1+j)
def prD (l:List (Nat×Nat)):List D:=l.flatMap fun p=>[dI (p.1:Int),dI (p.2:Int)]
theorem prI_zero (n:Nat):prI n 0=[]:=rfl
theorem prI_succ (n i:Nat):prI n (i+1)=prT n i n:=by simp [prI,prT,List.range_succ]
theorem prT_zero (n i:Nat):prT n i (i+1)=prI n i:=by simp [prT]
theorem prT_succ {n i k:Nat} (h:i+1<=k):prT n i (k+1)=prT n i k++[(i,k)]:=by
 unfold prT;rw [show k+1 - (i+1)=(k - (i+1))+1 by omega,List.range_succ,List.map_append,List.map_singleton,List.append_assoc,show i+1+(k - (i+1))=k by omega]
theorem jmb (l:List (Nat×Nat)) (p:Nat×Nat):prD (l++[p])=prD l++[dI (p.1:Int),dI (p.2:Int)]:=by simp [prD]
theorem jia (l:List (Nat×Nat)):(prD l).length=l.length*2:=by
 induction l with
 | nil=>rfl
 | cons p l ih=>simp [prD] at ih ⊢;omega
theorem prI_len (n i:Nat):(prI n i).length<=n*i:=by
 induction i with
 | zero=>simp [prI_zero]
 | succ i ih =>
  have:(prI n (i+1)).length=(prI n i).length+(n - (i+1)):=by rw [prI_succ];simp [prT]
  rw [this,Nat.mul_succ];omega
theorem prT_len (n i k:Nat):(prT n i k).length<=n*i+k:=by
 have:=prI_len n i;simp [prT]; omega
theorem prI_all {n:Nat} (h:n<=3):prI n n=prL n:=by
 rcases (by omega:n=0∨n=1∨n=2∨n=3) with rfl|rfl|rfl|rfl <;> rfl
abbrev eP (l:List (Nat×Nat)):D:=.sl 2 l.length (prD l)
theorem pairs_p (n:Nat) (h:n<=3):PC Tryz.prog 251 [.c (dI n)] (.p (.c (eP (prL n)))):=by
 refine jao Tryz.func251 fun _=>?_;repeat' (first|refine jac ?_|refine Maa ?_|refine Wce ?_|fail)
 apply jbe [0,3,7,8] [6,22,23] rfl;exact Kr;exact Yah;refine jbf [0,7] [22,23] (fun (g:Nat×List (Nat×Nat))=>[(8,iN g.1),(3,.c (.ls 6 2 0 g.2.length))]) (fun g=>[(6,.row 2 (prD g.2))]) (fun g=>g.1<=n/\g.2=prI n g.1) (fun g=>n - g.1) ((0,[])) ?_ Kg Kg ?_
 ·exact ⟨by simp,rfl⟩
 rintro ⟨i,l⟩ ⟨hi,hl⟩;dsimp only at hi hl ⊢;have hll:l.length<=n*i:=by rw [hl];exact prI_len n i
 have hni:n*i<=3*3:=Nat.mul_le_mul h Kf;by_cases h2:i < n
 ·repeat' (first|refine jac ?_|refine Maa ?_|refine jbd rfl (fun hc=>?_) (fun hc=>?_)|exact Qab|fail)
  apply jbe [0,3,4,5,7,8] [6,22,23] rfl;exact Kr;exact Yah;refine jbf [0,4,7,8] [22,23] (fun (g:Nat×List (Nat×Nat))=>[(5,iN g.1),(3,.c (.ls 6 2 0 g.2.length))]) (fun g=>[(6,.row 2 (prD g.2))]) (fun g=>(i+1<=g.1/\g.1<=n)/\g.2=prT n i g.1) (fun g=>n - g.1) ((i+1,l)) ?_ Kg Kt ?_
  ·exact ⟨by dsimp only;omega,by dsimp only;rw [prT_zero];exact hl⟩
  rintro ⟨k,m⟩ ⟨hk,hm⟩;dsimp only at hk hm ⊢;have hml:m.length<=n*i+k:=by rw [hm];exact prT_len n i k
  have hpd:=jia m;by_cases h3:k < n
  ·exact Dah
  ·exact Dap
 ·exact Dbc
theorem four_p (y p1 p2 q1 q2:Nat) (hy:y<=3) (h1:p1 < 3) (h2:p2 < 3) (h3:q1 < 3) (h4:q2 < 3):PC Tryz.prog 289 [.c (dI y),.g [dI p1,dI p2],.g [dI q1,dI q2]] (.p (.g [dI ((p1*y+q1:Nat):Int),dI ((p1*y+q2:Nat):Int),dI ((p2*y+q1:Nat):Int),dI ((p2*y+q2:Nat):Int)])):=by
 have m1:p1*y<=2*3:=Nat.mul_le_mul Kf hy;have m2:p2*y<=2*3:=Nat.mul_le_mul Kf hy;have e1:(p1:Int)*(y:Int)=((p1*y:Nat):Int):=by push_cast;rfl
 have e2:(p2:Int)*(y:Int)=((p2*y:Nat):Int):=by push_cast;rfl
 refine jao Tryz.func289 fun _=>?_;repeat' (first|refine jac ?_|refine Maa ?_|refine Wcg ?_|(refine jaa (.alloc 272) ?_;refine jbi (zs:=[.int .i64 0,.int .i64 0,.int .i64 0,.int .i64 0]) Kb rfl ?_)|apply zbp ?_|(refine jaa (.build 272 _) ?_;refine jab (jbt (cs:=[_,_,_,_]) [(0,1),(1,1),(2,1),(3,1)] [.int .i64 0,.int .i64 0,.int .i64 0,.int .i64 0] Kb Kb rfl) rfl ?_)|(refine jaa (.store 272 _ _) ?_;(refine jan rfl rfl rfl Kb rfl rfl ?_))|exact Qab|fail)
 all_goals (apply jat;apply jau;(·apply jbc.p;(·(apply GvA.cons;(·(apply RV.cellN (n:=4);(·rfl);(·rfl);exact Kb;(·rfl)));(·(apply GvP.g;(·(apply GvL.cons (.lit _));(apply GvL.cons (.lit _));(apply GvL.cons (.lit _));(apply GvL.cons (.lit _));exact GvL.nil))));exact GvA.nil);exact Ybr))
 all_goals simp
def sumK4 (ll:List (List Int)) (Y:Nat) (p q:Nat×Nat) (m:Nat):Nat->Int
 | 0 => 0
 | 1=>sgnM m 0 (agQ ll Y p.1 q.1)
 | 2=>sgnM m 0 (agQ ll Y p.1 q.1)+sgnM m 1 (agQ ll Y p.1 q.2)
 | 3=>sgnM m 0 (agQ ll Y p.1 q.1)+sgnM m 1 (agQ ll Y p.1 q.2)+sgnM m 2 (agQ ll Y p.2 q.1)
 | _=>sumQ ll Y p q m
theorem sum_p (X Y:Nat) (n:Int) (ll:List (List Int)) (h:boxB X Y n ll=true) (p q:Nat×Nat) (m:Nat) (hp:p.1 < X/\p.2 < X) (hq:q.1 < Y/\q.2 < Y) :
  PC Tryz.prog 252 [.g [dI X,dI Y,dI n,eII ll],.g [dI p.1,dI p.2],.g [dI q.1,dI q.2],.c (dI m)] (.p (.c (dI (sumQ ll Y p q m)))):=by
 have b:=jbo h;have x3:=b.x3;have y3:=b.y3;have n2:=b.n2;have n1:=b.n1;have bd:=fun (i k:Nat) (hi:i < X) (hk:k < Y)=>agQ_bd h hi hk;have ap:∀ i k:Nat,i < X->k < Y->(i*Y+k < ll.length)/\PC Tryz.prog 187 [.c (eI (atZ ll ((i*Y+k:Nat):Int)))] (.p (.c (dI (agQ ll Y i k)))):=fun i k hi hk=>by
  have hl:i*Y+k < ll.length:=by
   have e:=b.len;have:i*Y+k < X*Y:=by
    calc i * Y + k < i * Y + Y := by omega
     _=(i+1)*Y:=by rw [Nat.succ_mul]
     _<=X*Y:=Nat.mul_le_mul_right _ hi
   have e2:((X*Y:Nat):Int)=(X:Int)*(Y:Int):=by push_cast;rfl
   omega
  refine ⟨hl,?_⟩;have r:=jfj (b.row _ hl);have:=agreement_p (atZ ll ((i*Y+k:Nat):Int)) (by rw [jby hl];exact r.1) (fun j j0 j1=>by
   obtain ⟨j,rfl⟩:=Int.eq_ofNat_of_zero_le j0;rw [jby hl,jby (by rw [r.1];omega)];have:=r.2 j (by rw [r.1];omega);omega)
  have e:((i*Y+k:Nat):Int)=(i:Int)*(Y:Int)+(k:Int):=by push_cast;rfl
  unfold agQ;rwa [e] at this ⊢
 clear b;obtain ⟨p1,p2⟩:=p;obtain ⟨q1,q2⟩:=q;dsimp only at hp hq ⊢;obtain ⟨l0,a0⟩:=ap p1 q1 hp.1 hq.1;obtain ⟨l1,a1⟩:=ap p1 q2 hp.1 hq.2;obtain ⟨l2,a2⟩:=ap p2 q1 hp.2 hq.1;obtain ⟨l3,a3⟩:=ap p2 q2 hp.2 hq.2;have b0:=bd p1 q1 hp.1 hq.1;have b1:=bd p1 q2 hp.1 hq.2;have b2:=bd p2 q1 hp.2 hq.1;have b3:=bd p2 q2 hp.2 hq.2;have s0:=jge (m:=m) (t:=0) b0;have s1:=jge (m:=m) (t:=1) b1;have s2:=jge (m:=m) (t:=2) b2;have s3:=jge (m:=m) (t:=3) b3;clear ap bd;have fp:=four_p Y p1 p2 q1 q2 Kf Kf Kf Kf Kf;generalize hk0:p1*Y+q1=k0 at *;generalize hk1:p1*Y+q2=k1 at *;generalize hk2:p2*Y+q1=k2 at *;generalize hk3:p2*Y+q2=k3 at *;have t0:sumK4 ll Y (p1,p2) (q1,q2) m 0=0:=rfl;have t1:sumK4 ll Y (p1,p2) (q1,q2) m 1=sumK4 ll Y (p1,p2) (q1,q2) m 0+sgnM m 0 (agQ ll Y p1 q1):=by simp [sumK4]
 have t2:sumK4 ll Y (p1,p2) (q1,q2) m 2=sumK4 ll Y (p1,p2) (q1,q2) m 1+sgnM m 1 (agQ ll Y p1 q2):=rfl;have t3:sumK4 ll Y (p1,p2) (q1,q2) m 3=sumK4 ll Y (p1,p2) (q1,q2) m 2+sgnM m 2 (agQ ll Y p2 q1):=rfl;have t4:sumK4 ll Y (p1,p2) (q1,q2) m 4=sumK4 ll Y (p1,p2) (q1,q2) m 3+sgnM m 3 (agQ ll Y p2 q2):=rfl;have t5:sumK4 ll Y (p1,p2) (q1,q2) m 4=sumQ ll Y (p1,p2) (q1,q2) m:=rfl;generalize sumK4 ll Y (p1,p2) (q1,q2) m=F at *;refine jao Tryz.func252 fun _=>?_;repeat' (first|refine jac ?_|refine Maa ?_|refine Wba ?_|refine Wcg ?_|apply zdv ?_|apply Ub (c:=fp) (h:=?_))
 apply jbe [3,4,9,16,17] [4,5,6] rfl;exact Kx;exact Ybi;refine jbf [3,4,16] [4,5,6] (fun k=>[(17,iN k),(9,iZ (F k))]) (fun _=>[]) (fun k=>k<=4) (fun k=>4 - k) (0) ?_ Ybj Kv ?_
 ·omega
 intro k hk;rcases (by omega:k=0∨k=1∨k=2∨k=3∨k=4) with rfl|rfl|rfl|rfl|rfl
 ·by_cases hm:0=m
  ·subst hm;have e:F 1=F 0 - agQ ll Y p1 q1:=by rw [t1];unfold sgnM;rw [if_pos rfl];omega
   skip
   repeat' (first|refine jac ?_|refine Maa ?_|apply zdk ?_|apply Ub (c:=a0) (h:=?_)|exact Qaa|fail)
   all_goals
    refine bkL 1 ?_ ?_
    ·omega
    ·omega
  ·have e:F 1=F 0+agQ ll Y p1 q1:=by rw [t1];unfold sgnM;rw [if_neg hm]
   repeat' (first|refine jac ?_|refine Maa ?_|apply zdk ?_|apply Ub (c:=a0) (h:=?_)|refine jbd rfl (fun hc=>?_) (fun hc=>?_)|exact Qaa|fail)
   all_goals
    refine bkL 1 ?_ ?_
    ·omega
    ·omega
 ·by_cases hm:1=m
  ·subst hm;have e:F 2=F 1 - agQ ll Y p1 q2:=by rw [t2];unfold sgnM;rw [if_pos rfl];omega
   skip
   repeat' (first|refine jac ?_|refine Maa ?_|apply zdk ?_|apply Ub (c:=a1) (h:=?_)|exact Qaa|fail)
   all_goals
    refine bkL 2 ?_ ?_
    ·omega
    ·omega
  ·have e:F 2=F 1+agQ ll Y p1 q2:=by rw [t2];unfold sgnM;rw [if_neg hm]
   repeat' (first|refine jac ?_|refine Maa ?_|apply zdk ?_|apply Ub (c:=a1) (h:=?_)|refine jbd rfl (fun hc=>?_) (fun hc=>?_)|exact Qaa|fail)
   all_goals
    refine bkL 2 ?_ ?_
    ·omega
    ·omega
 ·by_cases hm:2=m
  ·subst hm;have e:F 3=F 2 - agQ ll Y p2 q1:=by rw [t3];unfold sgnM;rw [if_pos rfl];omega
   skip
   repeat' (first|refine jac ?_|refine Maa ?_|apply zdk ?_|apply Ub (c:=a2) (h:=?_)|exact Qaa|fail)
   all_goals
    refine bkL 3 ?_ ?_
    ·omega
    ·omega
  ·have e:F 3=F 2+agQ ll Y p2 q1:=by rw [t3];unfold sgnM;rw [if_neg hm]
   repeat' (first|refine jac ?_|refine Maa ?_|apply zdk ?_|apply Ub (c:=a2) (h:=?_)|refine jbd rfl (fun hc=>?_) (fun hc=>?_)|exact Qaa|fail)
   all_goals
    refine bkL 3 ?_ ?_
    ·omega
    ·omega
 ·by_cases hm:3=m
  ·subst hm;have e:F 4=F 3 - agQ ll Y p2 q2:=by rw [t4];unfold sgnM;rw [if_pos rfl];omega
   skip
   repeat' (first|refine jac ?_|refine Maa ?_|apply zdk ?_|apply Ub (c:=a3) (h:=?_)|exact Qaa|fail)
   all_goals
    refine bkL 4 ?_ ?_
    ·omega
    ·omega
  ·have e:F 4=F 3+agQ ll Y p2 q2:=by rw [t4];unfold sgnM;rw [if_neg hm]
   repeat' (first|refine jac ?_|refine Maa ?_|apply zdk ?_|apply Ub (c:=a3) (h:=?_)|refine jbd rfl (fun hc=>?_) (fun hc=>?_)|exact Qaa|fail)
   all_goals
    refine bkL 4 ?_ ?_
    ·omega
    ·omega
 ·repeat' (first|refine jac ?_|refine Maa ?_|exact Qaa|fail)
  all_goals refine Rad ?_
  all_goals rw [t5]
theorem prD_at {l:List (Nat×Nat)} {k:Nat} (h:k < l.length):((prD l).drop (k*2)).take 2=[dI (l[k].1:Int),dI (l[k].2:Int)]:=by
 unfold prD;have hc:∀ p:Nat×Nat,([dI (p.1:Int),dI (p.2:Int)]:List D).length=2:=fun _=>rfl;exact flatL_cut (c:=fun p:Nat×Nat=>[dI (p.1:Int),dI (p.2:Int)]) hc (List.getElem?_eq_getElem h)
section
variable {P:Program} {st:St} {dst:Option Tmp} {ty:TypeId} {pos:String} {af:Array Edge} {x y:Operand}
theorem jhz {T:TypeId} {l:List (Nat×Nat)} {k:IntKind} {i:Nat} (hx:st.ev x = .c (.d (eP l))) (hy:st.ev y = .c (.d (.lit (.int k i)))) (ht:tSl P T 2=true) (h1:i < l.length):Qt P ⟨dst,.indexAddr T x y,ty,pos,af,none⟩ st (.c (.d (.pt [dI ((l.getD i (0,0)).1:Int),dI ((l.getD i (0,0)).2:Int)]))) :=
 jna (n:=l.length) hx hy ht Kf Kf (by
  rw [Int.toNat_natCast,prD_at h1,List.getD_eq_getElem?_getD,List.getElem?_eq_getElem h1];rfl)
end
theorem Vaj {G G':Prop} (h:G') (t:Laa G'->G:=by intro h;first|(first|apply zdw h.o|exact Wbh h.o|exact Wbi h.o|exact jac h.o|exact Maa h.o|exact Wba h.o|(refine jaa (.load 176 _) ?_;(first|refine jab (jae rfl rfl (by kernel_rfl:tAgg _ 176 2=true) rfl) rfl ?_|refine jab (jdo rfl (by kernel_rfl:tAgg _ 176 2=true) Yby) rfl ?_);exact h.o)|apply zdv h.o|exact Wch h.o|apply zby h.o|apply zef h.o|exact Wcc h.o|apply zcj h.o|exact Wcd h.o|fail);done|fail):G:=t ⟨h⟩
theorem greatest_p (X Y:Nat) (n:Int) (ll:List (List Int)) (h:boxB X Y n ll=true):PE Tryz.prog 193 [.g [dI X,dI Y,dI n,eII ll]] (fun res => ∃ a b c d e:Int,∃ f:Bool,res = .t [.c (dI (greatI ll X Y)),.g [dI a,dI b],.g [dI c,dI d],.c (dI e),.c (dB f)]):=by
 have b:=jbo h;have x1:=b.x1;have x3:=b.x3;have y1:=b.y1;have y3:=b.y3;have n2:=b.n2;have n1:=b.n1;clear b;have px:=pairs_p X Kf;have py:=pairs_p Y Kf;have lx:=prL_len X;have ly:=prL_len Y;have kg:=jia (prL X);have kh:=jia (prL Y);have gn:=fun t=>greatK_nn ll X Y t;clear gn;have hx:X < 4:=by omega
 have hn:=fun i k m:Nat=>fun hk hm=>sumV_at ll (X:=X) (Y:=Y) (i:=i) (k:=k) (m:=m) hk hm;refine jho Tryz.func193 fun _=>?_;repeat' (first|refine Vaj ?_|apply Ub (c:=px) (h:=?_))
 apply jbe [1,3,4,7,8,9,10,11,22,23,24] [1,3,4,8,9,13,15,22,30] rfl;exact Kh;exact Ybf;refine jbf [1,3,4,8,9,22,23] [1,3,4,22,13,30,15] (fun (g:(Nat×Int×Int)×(Int×Int)×(Int×Int)×Bool)=>[(24,iN g.1.1),(7,iZ g.1.2.1),(10,iZ g.1.2.2),(11,.c (.d (dB g.2.2.2)))]) (fun g=>[(8,.box [.d (dI g.2.1.1),.d (dI g.2.1.2)]),(9,.box [.d (dI g.2.2.1.1),.d (dI g.2.2.1.2)])]) (fun g=>g.1.1<=(prL X).length/\g.1.2.1=greatK ll X Y (g.1.1*(prL Y).length*4)/\g.2.2.2=decide (0 < g.1.1*(prL Y).length*4)) (fun g=>(prL X).length - g.1.1) (((0,0,0),(0,0),(0,0),false)) ?_ Kg Yat ?_
 ·refine ⟨by simp,?_,by simp⟩;dsimp only;rw [Nat.zero_mul,Nat.zero_mul];rfl
 rintro ⟨⟨i,v,q⟩,⟨a,b⟩,⟨c,d⟩,f⟩ ⟨hi,hv,hf⟩;dsimp only at hi hv hf ⊢;by_cases hi2:i < (prL X).length
 ·have pa:=jpf hi2;repeat' (first|(with_reducible apply jeq)|intro Y hY|((with_reducible apply jff);exact Yak;(·rfl);exact Ko;exact Ko)|((with_reducible apply jfg);(·rfl);exact Yal;exact Ybf;exact Yak)|refine jdr ?_ ?_|(refine jaa (.indexAddr 209 _ _) ?_;((refine jab (jhz rfl rfl Kb hi2) rfl ?_)))|refine jcv 18 (fun i=>i == 6 || i == 7) (IT.lt (.step 7 false (.step 8 true (.step 9 true .nil))) fun Y0=>(.step 0 true (.step 1 true (.step 3 true (.step 4 true (.step 5 true (.alt 18 (.step 2 false (.step 6 false (IT.ref true [2,3,4,5,6,64,65,66] [1,3,4,8,9,22,13,30,15] Y0))) (.step 6 false (.step 2 true (IT.ref false [2,3,4,5,6,64,65,66] [1,3,4,8,9,22,13,30,15] Y0)))))))))) ?_|apply Vaj ?_|apply Ub (c:=py) (h:=?_)|refine jbd rfl (fun hc=>?_) (fun hc=>?_)|exact Qaa|fail)
  apply jbe [1,3,4,7,8,9,10,11,13,22,23,24,30,31,32] [1,3,4,8,9,13,15,22,30] rfl;exact Kh;exact Ybf;refine jbf [1,3,4,8,9,13,22,23,24,30,31] [1,3,4,22,13,30,15] (fun (g:(Nat×Int×Int)×(Int×Int)×(Int×Int)×Bool)=>[(32,iN g.1.1),(7,iZ g.1.2.1),(10,iZ g.1.2.2),(11,.c (.d (dB g.2.2.2)))]) (fun g=>[(8,.box [.d (dI g.2.1.1),.d (dI g.2.1.2)]),(9,.box [.d (dI g.2.2.1.1),.d (dI g.2.2.1.2)])]) (fun g=>g.1.1<=(prL Y).length/\g.1.2.1=greatK ll X Y ((i*(prL Y).length+g.1.1)*4)/\g.2.2.2=decide (0 < (i*(prL Y).length+g.1.1)*4)) (fun g=>(prL Y).length - g.1.1) (((0,v,q),(a,b),(c,d),f)) ?_ Kg Yat ?_
  ·exact ⟨by simp,hv,hf⟩
  clear hv hf;rintro ⟨⟨k,v,q⟩,⟨a,b⟩,⟨c,d⟩,f⟩ ⟨hk,hv,hf⟩;dsimp only at hk hv hf ⊢;by_cases hk2:k < (prL Y).length
  ·have pb:=jpf hk2;have sp:=fun m=>sum_p X Y n ll h (prA X i) (prA Y k) m ⟨by omega,pa.2⟩ ⟨by omega,pb.2⟩;have sb:=fun m=>sumQ_bd h (p:=prA X i) (q:=prA Y k) ⟨by omega,pa.2⟩ ⟨by omega,pb.2⟩ m;repeat' (first|(refine jaa (.indexAddr 209 _ _) ?_;((refine jab (jhz rfl rfl Kb hk2) rfl ?_)))|refine Vaj ?_|refine jbd rfl (fun hc=>?_) (fun hc=>?_)|exact Qaa|fail)
   apply jbe [1,3,4,7,8,9,10,11,13,15,22,23,24,30,31,32,36] [1,3,4,8,9,13,15,22,30] rfl;exact Kh;exact Ybf;refine jbf [1,3,4,8,9,13,15,22,23,24,30,31,32] [1,3,4,22,13,30,15] (fun (g:(Nat×Int×Int)×(Int×Int)×(Int×Int)×Bool)=>[(36,iN g.1.1),(7,iZ g.1.2.1),(10,iZ g.1.2.2),(11,.c (.d (dB g.2.2.2)))]) (fun g=>[(8,.box [.d (dI g.2.1.1),.d (dI g.2.1.2)]),(9,.box [.d (dI g.2.2.1.1),.d (dI g.2.2.1.2)])]) (fun g=>g.1.1<=4/\g.1.2.1=greatK ll X Y ((i*(prL Y).length+k)*4+g.1.1)/\g.2.2.2=decide (0 < (i*(prL Y).length+k)*4+g.1.1)) (fun g=>4 - g.1.1) (((0,v,q),(a,b),(c,d),f)) ?_ Kg Yat ?_
   ·exact ⟨by simp,hv,hf⟩
   clear hv hf;rintro ⟨⟨m,v,q⟩,⟨a,b⟩,⟨c,d⟩,f⟩ ⟨hm,hv,hf⟩;dsimp only at hm hv hf ⊢;by_cases hm2:m < 4
   ·have s:=sp m;have t:=sb m;have e1:greatK ll X Y ((i*(prL Y).length+k)*4+m+1)=max (greatK ll X Y ((i*(prL Y).length+k)*4+m)) (max (sumQ ll Y (prA X i) (prA Y k) m) (-(sumQ ll Y (prA X i) (prA Y k) m))):=by
     rw [jje,hn i k m hk2 hm2];rfl
    have e0:(i*(prL Y).length+k)*4+m=0->v=0:=fun e=>by rw [hv,e];rfl
    rw [<- hv] at e1;clear sp sb;have dT:decide (0 < (i*(prL Y).length+k)*4+(m+1))=true:=decide_eq_true Kf;generalize hs:sumQ ll Y (prA X i) (prA Y k) m=z at *;cases f with
    | false =>
     have z0:v=0:=e0 (by have:=hf.symm;simp at this;omega);repeat' (first|(with_reducible apply jeq)|intro Y hY|((with_reducible apply jff);exact Yak;(·rfl);exact Ko;exact Ko)|((with_reducible apply jfg);(·rfl);exact Kx;exact Ybf;exact Yak)|refine jdr ?_ ?_|refine jcv 14 (fun i=>i == 5 || i == 6) (IT.lt (.step 6 false (.step 7 true (.step 8 true .nil))) fun Y0=>(.step 0 true (.step 1 true (.step 3 true (.step 4 true (.alt 14 (.step 2 false (.step 5 false (IT.ref true [1,3,4,7,8,9,10,11,13,15,22,23,24,30,31,32,36,57,58] [1,3,4,8,9,22,13,30,15] Y0))) (.step 5 false (.step 2 true (IT.ref false [1,3,4,7,8,9,10,11,13,15,22,23,24,30,31,32,36,57,58] [1,3,4,8,9,22,13,30,15] Y0))))))))) ?_|apply Vaj ?_|apply Ub (c:=s) (h:=?_)|refine jbd rfl (fun hc=>?_) (fun hc=>?_)|exact Qab|fail)
     all_goals
      refine bkL ((m+1,max z (-z),(m:Int)),(((prA X i).1:Int),((prA X i).2:Int)),(((prA Y k).1:Int),((prA Y k).2:Int)),true) ?_ ?_
      ·exact Dat
      ·dsimp only;omega
    | true =>
     by_cases hz:v < max z (-z)
     ·repeat' (first|(with_reducible apply jeq)|intro Y hY|((with_reducible apply jff);exact Yak;(·rfl);exact Ko;exact Ko)|((with_reducible apply jfg);(·rfl);exact Kx;exact Ybf;exact Yak)|refine jdr ?_ ?_|refine jcv 14 (fun i=>i == 5 || i == 6) (IT.lt (.step 6 false (.step 7 true (.step 8 true .nil))) fun Y0=>(.step 0 true (.step 1 true (.step 3 true (.step 4 true (.alt 14 (.step 2 false (.step 5 false (IT.ref true [1,3,4,7,8,9,10,11,13,15,22,23,24,30,31,32,36,57,58] [1,3,4,8,9,22,13,30,15] Y0))) (.step 5 false (.step 2 true (IT.ref false [1,3,4,7,8,9,10,11,13,15,22,23,24,30,31,32,36,57,58] [1,3,4,8,9,22,13,30,15] Y0))))))))) ?_|apply Vaj ?_|apply Ub (c:=s) (h:=?_)|refine jbd rfl (fun hc=>?_) (fun hc=>?_)|exact Qab|fail)
      all_goals
       refine bkL ((m+1,max z (-z),(m:Int)),(((prA X i).1:Int),((prA X i).2:Int)),(((prA Y k).1:Int),((prA Y k).2:Int)),true) ?_ ?_
       ·exact Dat
       ·dsimp only;omega
     ·repeat' (first|(with_reducible apply jeq)|intro Y hY|((with_reducible apply jff);exact Yak;(·rfl);exact Ko;exact Ko)|((with_reducible apply jfg);(·rfl);exact Kx;exact Ybf;exact Yak)|refine jdr ?_ ?_|refine jcv 14 (fun i=>i == 5 || i == 6) (IT.lt (.step 6 false (.step 7 true (.step 8 true .nil))) fun Y0=>(.step 0 true (.step 1 true (.step 3 true (.step 4 true (.alt 14 (.step 2 false (.step 5 false (IT.ref true [1,3,4,7,8,9,10,11,13,15,22,23,24,30,31,32,36,57,58] [1,3,4,8,9,22,13,30,15] Y0))) (.step 5 false (.step 2 true (IT.ref false [1,3,4,7,8,9,10,11,13,15,22,23,24,30,31,32,36,57,58] [1,3,4,8,9,22,13,30,15] Y0))))))))) ?_|apply Vaj ?_|apply Ub (c:=s) (h:=?_)|refine jbd rfl (fun hc=>?_) (fun hc=>?_)|exact Qab|fail)
      all_goals
       refine bkL ((m+1,v,q),(a,b),(c,d),true) ?_ ?_
       ·exact Dat
       ·dsimp only;omega
   ·have m4:m=4:=by omega
    repeat' (first|refine Vaj ?_|refine jbd rfl (fun hc=>?_) (fun hc=>?_)|exact Qaa|fail)
    refine bkL ((k+1,v,q),(a,b),(c,d),f) ?_ ?_
    ·exact Dbj
    ·dsimp only; omega
  ·have k4:k=(prL Y).length:=by omega
   repeat' (first|(refine jaa (.indexAddr 209 _ _) ?_;(((exfalso;omega))))|refine Vaj ?_|refine jbd rfl (fun hc=>?_) (fun hc=>?_)|exact Qaa|fail)
   refine bkL ((i+1,v,q),(a,b),(c,d),f) ?_ ?_
   ·exact Dbe
   ·dsimp only; omega
 ·have i4:i=(prL X).length:=by omega
  have hv2:v=greatI ll X Y:=by rw [hv,i4];rfl
  repeat' (first|(with_reducible apply jeq)|intro Y hY|((with_reducible apply jff);exact Yak;(·rfl);exact Ko;exact Ko)|((with_reducible apply jfg);(·rfl);exact Yal;exact Ybf;exact Yak)|refine jdr ?_ ?_|(refine jaa (.indexAddr 209 _ _) ?_;(((exfalso;omega))))|refine jcv 18 (fun i=>i == 6 || i == 7) (IT.lt (.step 7 false (.step 8 true (.step 9 true .nil))) fun Y0=>(.step 0 true (.step 1 true (.step 3 true (.step 4 true (.step 5 true (.alt 18 (.step 2 false (.step 6 false (IT.ref true [2,3,4,5,6,64,65,66] [1,3,4,8,9,22,13,30,15] Y0))) (.step 6 false (.step 2 true (IT.ref false [2,3,4,5,6,64,65,66] [1,3,4,8,9,22,13,30,15] Y0)))))))))) ?_|apply Vaj ?_|refine jbd rfl (fun hc=>?_) (fun hc=>?_)|exact Qaa|fail)
  (apply jgp;(·apply jbc.t;(·(apply GvA.cons;exact Ybu;exact Ybs);(apply GvA.cons;(·(apply RV.cellN (n:=2);(·rfl);(·rfl);exact Kb;(·rfl)));exact Yam);(apply GvA.cons;(·(apply RV.cellN (n:=2);(·rfl);(·rfl);exact Kb;(·rfl)));exact Yam);(apply GvA.cons;exact Ybu;exact Ybs);(apply GvA.cons;exact Ybu;exact Ybs);exact GvA.nil);(·rfl);exact Ybr))
  exact ⟨a,b,c,d,q,f,by rw [hv2]⟩
theorem GreatestSum_p (X Y:Nat) (n:Int) (ll:List (List Int)) (h:boxB X Y n ll=true):PC Tryz.prog 133 [.g [dI X,dI Y,dI n,eII ll]] (.t [.c (dI (greatI ll X Y)),.c (dB true)]):=by
 have w:=IsBox_p X Y n ll;rw [h] at w;have g:=greatest_p X Y n ll h;refine jao Tryz.func133 fun _=>?_;repeat' (first|refine Wby ?_|refine jac ?_|refine Maa ?_|refine Wba ?_|refine Wcc ?_|refine Wcd ?_|(refine jaa (.call ⟨.value (.func 193),_,_⟩) ?_;((apply jep (fid:=193);exact Yac;(·exact g);(·rfl);(rintro _ ⟨a,b,c,d,e,f,rfl⟩))))|apply Ub (c:=w) (h:=?_)|exact Qac|exact Rbl|fail)
theorem spAgreementsOf_p (x y n:Int) (ll:List (List Int)) (h:boxB x y n ll=true):PC Tryz.prog 107 [.g [dI x,dI y,dI n,eII ll]] (.t [.c (eI (agrsL ll)),.c (dB true)]):=by
 have w:=l2Box_p x y n ll;rw [h] at w;have b:=jbo h;have lq:=box_len9 h;have bl:=b.len;have n2:=b.n2;refine jao Tryz.func107 fun _=>?_;repeat' (first|refine jac ?_|refine Maa ?_|refine Wba ?_|refine Wbq ?_|apply Ub (c:=w) (h:=?_)|exact Qac|fail)
 apply jbe [1,4,5] [1,6,25,26] rfl;exact Kk;exact Ybe;refine jbf [1] [1,25,26] (fun k=>[(5,iN k),(4,.c (.ls 6 1 0 k))]) (fun k=>[(6,.row 1 (cI (rowF (agrK ll) k)))]) (fun k=>k<=ll.length) (fun k=>ll.length - k) (0) ?_ Kg Kg ?_
 ·omega
 intro k hk;by_cases hk2:k < ll.length
 ·have hr:=jev h (q:=(k:Int)) Kf Kf;have ag:=l2Agree_p (atZ ll (k:Int)) hr.1 fun p h1 h2=>by have:=hr.2 p h1 h2;omega
  have ae:agrZ (atZ ll (k:Int))=agrK ll k:=rfl;repeat' (first|refine jac ?_|refine Maa ?_|refine Wbr ?_|refine Wbs ?_|apply Ub (c:=ag) (h:=?_)|refine jbd rfl (fun hc=>?_) (fun hc=>?_)|exact Qaa|fail)
  refine bkL (k+1) ?_ ?_ (hB:=(by (repeat(first|exact trivial|refine ⟨(by ((refine jbs rfl ?_;simp  [jdz,<- ae];done))),?_⟩))))
  ·omega
  ·omega
 ·exact Dbi
end
end Go.Proofs.YtbhbkbnlpackdaaGreatDoor
