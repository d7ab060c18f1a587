/- What the functions that FnExactRunScript and FnExactReplayLog and FnExactExecuteCommand reaches return: part of its proof. No condition beyond those of its theorems. -/
import Derived.Test.YtbhbkbnlpackdaaGreatDoorKfnsB
import Derived.Test.YtbhbkbnlpackdaaGreatDoorKfnsA
import Derived.Test.YtbhbkbnlpackdaaGreatDoorKplainA
import Derived.Test.YtbhbkbnlpackdaaGreatDoorKplainC
import Derived.Test.YtbhbkbnlpackdaaGreatDoorKplainB
set_option linter.unusedSectionVars false
set_option maxRecDepth 10000
set_option maxHeartbeats 4000000
set_option linter.unusedVariables false
set_option linter.unusedSimpArgs false
namespace Go.Proofs.YtbhbkbnlpackdaaGreatDoor
open Go.RowKit
section
variable [Glb]
theorem l2Sizes_p (x y:Int):PC Tryz.prog 144 [.c (dI x),.c (dI y)] (.p (.c (dB (sizeB x y)))):=by
 refine jao Tryz.func144 fun _=>?_;repeat' (first|refine Wbh ?_|refine Wbi ?_|refine jac ?_|refine Maa ?_|apply Ub (c:=l1In_p _ _ _) (h:=?_)|refine jdf rfl rfl (fun hg=>?_) (fun hg=>?_))
 all_goals refine Rad ?_
 all_goals ((simp_all [sizeB];done))
theorem l2Four_p (l:List Int) (n:Int):PC Tryz.prog 145 [.c (eI l),.c (dI n)] (.p (.c (dB (row4B n l)))):=by
 refine jao Tryz.func145 ?_;rintro ⟨hl,-⟩;have hl:=hl.len;repeat' (first|refine jac ?_|refine Maa ?_|fail)
 apply jbe [0,1,5,6] [] rfl;exact Ky;exact Yar;refine jbf [0,1] [] (fun k=>[(6,iN k),(5,iZ (sum64 (l.take k)))]) (fun _=>[]) (fun k=>k<=l.length/\k<=5/\(l.take k).all (fun m=>inB m 0 n)=true) (fun k=>l.length - k) (0) ?_ Kg Kv ?_
 ·simp
 rintro k ⟨hk,hk9,ha⟩;repeat' (first|refine Wbh ?_|refine Wbi ?_|refine jac ?_|refine Maa ?_|refine Wbj ?_|apply Ub (c:=l1In_p _ _ _) (h:=?_)|refine jcc rfl rfl (fun hg=>?_) (fun hg=>?_)|refine jbd rfl (fun hc=>?_) (fun hc=>?_)|refine jcu rfl (fun hc=>?_) (fun hc=>?_))
 ·rename_i hk';have hk2:k < l.length:=by omega
  rw [jby hk2] at hc;refine Rad ?_;rw [row4B,allB,jlu hk2 hc];simp
 ·rename_i hk';have hk2:k < l.length:=by omega
  rw [jby hk2] at hc;refine bkL (k+1) ?_ ?_ (hV:=(by (repeat(first|exact trivial|refine ⟨(by (first|rfl|(refine jcd rfl ?_;((simp  [jov hk2,jby hk2];done))))),?_⟩))))
  ·exact ⟨by omega,by omega,by rw [jdw _ _ _ hk2,ha,hc];rfl⟩
  ·omega
 all_goals refine Rad ?_
 all_goals simp only [row4B]
 ·have h8:l.length=4:=by omega
  rw [List.take_of_length_le Kf] at *;simp [h8,allB,ha]
 ·have h8:¬ l.length=4:=by omega
  simp [h8]
 ·have h8:l.length=4:=by omega
  have hk8:k=l.length:=by omega
  rw [List.take_of_length_le Kf] at *;simp [h8,allB,ha]
 ·have h8:¬ l.length=4:=by omega
  simp [h8]
theorem l2Box_p (x y n:Int) (ll:List (List Int)):PC Tryz.prog 87 [.g [dI x,dI y,dI n,eII ll]] (.p (.c (dB (boxB x y n ll)))):=by
 refine jao Tryz.func87 ?_;rintro ⟨hl,-⟩;have hl:=(hl _ (List.mem_cons_of_mem _ (List.mem_cons_of_mem _ (List.mem_cons_of_mem _ (List.mem_cons_self ..))))).len;repeat' (first|refine Wbh ?_|refine Wbi ?_|refine jac ?_|refine Maa ?_|refine Wba ?_|(refine jaa (.binOp .mul 3 _ _ _) ?_;(refine jab (qt_mul rfl rfl) rfl ?_))|apply Ub (c:=l2Sizes_p _ _) (h:=?_)|apply Ub (c:=l1In_p _ _ _) (h:=?_)|refine jdf rfl rfl (fun hg=>?_) (fun hg=>?_)|refine jbd rfl (fun hc=>?_) (fun hc=>?_))
 ·refine Rad ?_;have h9:sizeB x y=false:=by simpa using hg
  simp [boxB,h9]
 ·refine Rad ?_;have h9:inB n 1 1000=false:=by simpa using hg
  simp [boxB,h9]
 ·exact Dbn
 have hs:sizeB x y=true:=by simp_all
 have hn:inB n 1 1000=true:=by simp_all
 have hlen:(ll.length:Int)=x*y:=by rw [<- jjg hs];omega
 apply jbe [1,3] [1] rfl;exact Kh;exact Ybi;refine jbf [1] [1] (fun k=>[(3,iN k)]) (fun _=>[]) (fun k=>k<=ll.length/\(ll.take k).all (row4B n)=true) (fun k=>ll.length - k) (0) ?_ Kg Kv ?_
 ·simp
 rintro k ⟨hk,ha⟩;repeat' (first|refine jac ?_|refine jav 6 (fun _=>false) [0,1,2,3,4,5,6,-8,8] ?_|refine Maa ?_|apply Ub (c:=l2Four_p _ _) (h:=?_)|refine jbd rfl (fun hc=>?_) (fun hc=>?_)|refine jcu rfl (fun hc=>?_) (fun hc=>?_))
 ·have hk2:k < ll.length:=by omega
  rw [jby hk2] at hc;refine Rad ?_;rw [boxB,jlu hk2 hc];simp
 ·have hk2:k < ll.length:=by omega
  rw [jby hk2] at hc;refine bkL (k+1) ?_ ?_
  ·exact ⟨by omega,by rw [jdw _ _ _ hk2,ha,hc];rfl⟩
  ·omega
 ·exact Dbv
theorem l2Same_p (x y n:Int) (la:List (List Int)) (x2 y2 m:Int) (lb:List (List Int)):PC Tryz.prog 295 [.g [dI x,dI y,dI n,eII la],.g [dI x2,dI y2,dI m,eII lb]] (.p (.c (dB (sameB x y n la x2 y2 m lb)))):=by
 refine jao Tryz.func295 fun _=>?_;repeat' (first|(refine jaa (.box 38 _) ?_;refine jax rfl rfl ?_)|apply zaa ?_|apply zae ?_|apply zab ?_|apply zah ?_|apply zbb ?_|apply zaf ?_|apply zai ?_|apply zbd ?_|apply Ub (c:=l2Box_p _ _ _ _) (h:=?_)|refine jai ?_|refine jbn rfl rfl rfl rfl ?_|refine jbj rfl rfl rfl rfl ?_|refine jcc rfl rfl (fun hg=>?_) (fun hg=>?_)|refine jdf rfl rfl (fun hg=>?_) (fun hg=>?_)|refine jaj ?_|refine jac ?_)
 all_goals refine Rad ?_
 all_goals simp_all [sameB]
theorem l2Kept_t (x y n:Int) (ll:List (List Int)):PT Tryz.prog 296 [.g [dI x,dI y,dI n,eII ll]] (.t [.g [dI (whenN (boxB x y n ll) x),dI (whenN (boxB x y n ll) y),dI (whenN (boxB x y n ll) n),eII (whenL (boxB x y n ll) ll)],.c (dB (boxB x y n ll))]):=by
 cases h:boxB x y n ll;all_goals
  refine jdt Tryz.func296 fun _=>?_;repeat' (first|(refine jaa (.box 38 _) ?_;refine jax rfl rfl ?_)|(refine jaa (.alloc 38) ?_;refine jbi (zs:=[.int .i64 0,.int .i64 0,.int .i64 0,.slice none 0 0]) Kb rfl ?_)|apply zaa ?_|apply zae ?_|apply zag ?_|apply zcd ?_|(refine jaa (.store 38 _ _) ?_;(refine jan rfl rfl rfl Kb rfl rfl ?_))|apply Ub (c:=l2Box_p _ _ _ _) (h:=?_)|refine jai ?_|refine jaj ?_|refine jam ?_|refine jac ?_|refine jcu rfl (fun hc=>?_) (fun hc=>?_)|exact Qac|fail)
  all_goals (apply jat;apply jau;(·apply jbc.t;(·(apply GvA.cons;(·(apply RV.cellN (n:=4);(·rfl);(·rfl);exact Kb;(·rfl)));(·(apply GvP.g;(·(apply GvL.cons (.lit _));(apply GvL.cons (.lit _));(apply GvL.cons (.lit _));((first|apply GvL.cons (.nil 1 Ybr)|apply GvL.cons (.row _ _ _ _ rfl Ybt)));exact GvL.nil))));(apply GvA.cons;exact Ybu;exact Ybs);exact GvA.nil);(·rfl);exact Ybr))
  all_goals simp [whenN,whenL]
theorem l2Mix_p (x y:Nat) (n m:Int) (la lb:List (List Int)) (ha:boxB x y n la=true) (hb:boxB x y m lb=true):PC Tryz.prog 297 [.g [dI x,dI y,dI n,eII la],.g [dI x,dI y,dI m,eII lb]] (.p (.g [dI x,dI y,dI (n+m),eII (bmixL la lb x y)])):=by
 have a:=jbo ha;have b:=jbo hb;have a1:=a.x1;have a2:=a.x3;have a3:=a.y1;have a4:=a.y3;have a5:=a.n1;have a6:=a.n2;have b5:=b.n1;have b6:=b.n2;have al:=a.len;have bl:=b.len;have hxy:y*x<=3*3:=Nat.mul_le_mul Kf Kf;have hxe:((y*x:Nat):Int)=(x:Int)*y:=by rw [Int.natCast_mul,Int.mul_comm]
 rw [bmixL_rows];refine jao Tryz.func297 fun _=>?_;repeat' (first|(refine jaa (.box 38 _) ?_;refine jax rfl rfl ?_)|(refine jaa (.alloc 38) ?_;refine jbi (zs:=[.int .i64 0,.int .i64 0,.int .i64 0,.slice none 0 0]) Kb rfl ?_)|apply zbb ?_|apply zaf ?_|apply zbd ?_|apply zbh ?_|apply zad ?_|(refine jaa (.buildSlice 22 0 _) ?_;(apply jaw (sz:=1) (by_:=24);exact Kb;exact Ybr;exact Yab;exact Ybr;(·rfl);(·rfl);(·rfl)))|apply zcd ?_|(refine jaa (.store 38 _ _) ?_;(refine jan rfl rfl rfl Kb rfl rfl ?_))|apply zaa ?_|refine jai ?_|refine jaj ?_|refine jah ?_|refine jac ?_)
 apply jbe [2,3,4,5,6] [2,3,4,5,18,27,50,51,55,56] rfl;exact Kh;exact Ki;refine jbf [2,3,4,5] [2,3,4,27,50,51,55,56] (fun i=>[(6,iN i)]) (fun i=>[(5,.box [.d (dI x),.d (dI y),.d (dI (n+m)),.ls 18 1 0 i]),(18,.row 1 (cII (rowsF (mixR la lb) i)))]) (fun i=>i<=y*x) (fun i=>y*x - i) (0) ?_ Kg (by (repeat(first|exact trivial|refine ⟨(by (first|(refine jbs rfl ?_;simp  [rowsF];done)|(refine jdn rfl ?_;simp  [rowsF];done))),?_⟩))) ?_
 ·omega
 intro i hi;by_cases h:i < y*x
 ·obtain ⟨r1,r2⟩:=jev ha (q:=(i:Int)) Kf Kf;obtain ⟨s1,s2⟩:=jev hb (q:=(i:Int)) Kf Kf;repeat' (first|(refine jaa (.store 38 _ _) ?_;(refine jan rfl rfl rfl Kb rfl rfl ?_))|apply zaa ?_|apply zab ?_|apply zaw ?_|apply zak ?_|apply zaq ?_|apply zac ?_|(refine jaa (.buildSlice 25 0 _) ?_;(apply jaw (sz:=1) (by_:=8);exact Kb;exact Ybr;exact Yab;exact Ybr;(·rfl);(·rfl);(·rfl)))|apply zae ?_|refine jai ?_|refine jaj ?_|refine jah ?_|refine jaq rfl ?_|refine jam ?_|refine jac ?_|refine jbd rfl (fun hc=>?_) (fun hc=>?_)|exact Qaa|fail)
  apply jbe [2,3,4,5,6,7,8] [2,3,4,5,18,27,50,51,55,56] rfl;exact Kk;exact Ki;refine jbf [2,3,4,5,6] [2,3,4,18,5,50,51,55,56] (fun k=>[(8,iN k),(7,.c (.ls 27 1 0 k))]) (fun k=>[(27,.row 1 (cI (rowF (mixR la lb i) k)))]) (fun k=>k<=4) (fun k=>4 - k) (0) ?_ Kg Kg ?_
  ·omega
  intro k hk;by_cases hk4:k < 4
  ·have v1:=r2 k Kf Kf;have v2:=s2 k Kf Kf;repeat' (first|apply zap ?_|apply zad ?_|apply zaa ?_|apply zab ?_|apply zaw ?_|apply zak ?_|apply zac ?_|apply zao ?_|apply zat ?_|apply zal ?_|(refine jaa (.buildSlice 25 1 _) ?_;(apply jaw (sz:=1) (by_:=8);exact Kb;exact Ybr;exact Kl;exact Ybr;(·rfl);(·rfl);(·rfl)))|(refine jaa (.call ⟨.builtin .append,_,#[25,25]⟩) ?_;((apply jbx (sz:=1) (by_:=8);(·rfl);(·rfl);exact Ybt;exact Kn;exact Ybr;exact Kb;exact Ybr;exact Kf;exact Kf;(·rfl);(·rfl);(·rfl))))|(refine jaa (.buildSlice 22 1 _) ?_;(apply jaw (sz:=1) (by_:=24);exact Kb;exact Ybr;exact Ks;exact Ybr;(·rfl);(·rfl);(·rfl)))|(refine jaa (.call ⟨.builtin .append,_,#[22,22]⟩) ?_;((apply jbx (sz:=1) (by_:=24);(·rfl);(·rfl);exact Ybt;exact Kn;exact Ybr;exact Kb;exact Ybr;exact Kf;exact Kf;(·rfl);(·rfl);(·rfl))))|(refine jaa (.store 22 _ _) ?_;(refine jbk rfl rfl rfl rfl Kb rfl rfl ?_))|refine jai ?_|refine jaj ?_|refine jah ?_|refine jaz ?_|refine jaq rfl ?_|refine jam ?_|refine jac ?_|refine jav 9 (fun i=>i == 19) [0,1,2,3,4,5,6,7,8,9,10,11,12,13,14,15,16,17,-19,-20,20] ?_|refine jbd rfl (fun hc=>?_) (fun hc=>?_)|exact Qaa|fail)
   refine bkL (k+1) ?_ ?_ (hB:=(by (repeat(first|exact trivial|refine ⟨(by ((refine jbs rfl ?_;simp  [jdz,mixR];done))),?_⟩))))
   ·omega
   ·omega
  ·have e:k=4:=by omega
   subst e;repeat' (first|apply zad ?_|apply zaa ?_|apply zab ?_|apply zaw ?_|apply zak ?_|apply zac ?_|(refine jaa (.buildSlice 22 1 _) ?_;(apply jaw (sz:=1) (by_:=24);exact Kb;exact Ybr;exact Ks;exact Ybr;(·rfl);(·rfl);(·rfl)))|(refine jaa (.call ⟨.builtin .append,_,#[22,22]⟩) ?_;((apply jbx (sz:=1) (by_:=24);(·rfl);(·rfl);exact Ybt;exact Kn;exact Ybr;exact Kb;exact Ybr;exact Kf;exact Kf;(·rfl);(·rfl);(·rfl))))|(refine jaa (.store 22 _ _) ?_;(refine jbk rfl rfl rfl rfl Kb rfl rfl ?_))|refine jai ?_|refine jaj ?_|refine jaz ?_|refine jaq rfl ?_|refine jac ?_|refine jay rfl ?_|exact Qaa|fail)
   refine bkL (i+1) ?_ ?_ (hB:=(by (repeat(first|exact trivial|refine ⟨(by (first|(refine jbs rfl ?_;simp  [joz];done)|rfl)),?_⟩))))
   ·omega
   ·omega
 ·have e:i=y*x:=by omega
  subst e;repeat' (first|(refine jaa (.store 38 _ _) ?_;(refine jan rfl rfl rfl Kb rfl rfl ?_))|apply zaa ?_|apply zab ?_|apply zaw ?_|apply zak ?_|apply zaq ?_|apply zac ?_|(refine jaa (.buildSlice 25 0 _) ?_;(apply jaw (sz:=1) (by_:=8);exact Kb;exact Ybr;exact Yab;exact Ybr;(·rfl);(·rfl);(·rfl)))|apply zae ?_|refine jai ?_|refine jaj ?_|refine jah ?_|refine jaq rfl ?_|refine jam ?_|refine jac ?_|refine jbd rfl (fun hc=>?_) (fun hc=>?_)|exact Qaa|fail)
  refine Rab ?_;simp
theorem spMixBoxes_p (x y n:Int) (la:List (List Int)) (x2 y2 m:Int) (lb:List (List Int)):PC Tryz.prog 264 [.g [dI x,dI y,dI n,eII la],.g [dI x2,dI y2,dI m,eII lb]]
  (.t [.g [dI (whenN (bmixB x y n la x2 y2 m lb) x),dI (whenN (bmixB x y n la x2 y2 m lb) y),dI (whenN (bmixB x y n la x2 y2 m lb) (n+m)),eII (whenL (bmixB x y n la x2 y2 m lb) (bmixL la lb x y))],.c (dB (bmixB x y n la x2 y2 m lb))]):=by
 cases hs:sameB x y n la x2 y2 m lb with
 | false =>
  have hB:bmixB x y n la x2 y2 m lb=false:=by simp [bmixB,hs]
  rw [hB];refine jao Tryz.func264 fun _=>?_;repeat' (first|(refine jaa (.box 38 _) ?_;refine jax rfl rfl ?_)|(refine jaa (.alloc 38) ?_;refine jbi (zs:=[.int .i64 0,.int .i64 0,.int .i64 0,.slice none 0 0]) Kb rfl ?_)|apply zaa ?_|apply zae ?_|apply zag ?_|apply zcd ?_|(refine jaa (.store 38 _ _) ?_;(refine jan rfl rfl rfl Kb rfl rfl ?_))|apply Ub (c:=l2Same_p _ _ _ _ _ _ _ _) (h:=?_)|refine jai ?_|refine jaj ?_|refine jam ?_|refine jac ?_|refine jcu rfl (fun hc=>?_) (fun hc=>?_)|exact Qac|fail)
  all_goals refine Rae ?_
  all_goals simp [whenN,whenL]
 | true =>
  obtain ⟨ha,hb,rfl,rfl⟩:=joy hs;have hB:bmixB x2 y2 n la x2 y2 m lb=decide (n+m<=1000):=by simp [bmixB,hs]
  rw [hB];obtain ⟨x,y,rfl,rfl,hx,hy⟩:=jgg ha;have hM:=mix_box ha hb;have hK:=l2Kept_t x y (n+m) (bmixL la lb x y);rw [hM] at hK;refine jao Tryz.func264 fun _=>?_;repeat' (first|(refine jaa (.box 38 _) ?_;refine jax rfl rfl ?_)|(refine jaa (.alloc 38) ?_;refine jbi (zs:=[.int .i64 0,.int .i64 0,.int .i64 0,.slice none 0 0]) Kb rfl ?_)|apply zaa ?_|apply zae ?_|apply zag ?_|apply zcd ?_|(refine jaa (.store 38 _ _) ?_;(refine jan rfl rfl rfl Kb rfl rfl ?_))|apply zaj ?_|apply Ub (c:=l2Same_p _ _ _ _ _ _ _ _) (h:=?_)|apply Ua (c:=l2Mix_p _ _ _ _ _ _ ha hb) (h:=?_)|(refine jaa (.call ⟨.value (.func 296),_,_⟩) ?_;(apply jgx (fid:=296);exact Ybq;exact Ybr;(·exact hK);(·rfl);(·rfl);(·rfl)))|refine jai ?_|refine jaj ?_|refine jam ?_|refine jac ?_|refine jcu rfl (fun hc=>?_) (fun hc=>?_)|exact Qac|exact Rbg|fail)
theorem l2PlayBox_p (x y:Nat) (pl:List Int) (wh:Int) (hx:x<=3) (hy:y<=3) (hp:bitsB pl ((x:Int)+y)=true):PC Tryz.prog 294 [.c (dI x),.c (dI y),.c (eI pl),.c (dI wh)] (.p (.g [dI x,dI y,dI wh,eII (playL pl x y wh)])):=by
 have hl:=jce hp;have hxy:y*x<=3*3:=Nat.mul_le_mul Kf Kf;have hP:playL pl x y wh=boxF (playF pl x wh) y (y*x):=by unfold playL;simp
 rw [hP];refine jao Tryz.func294 fun _=>?_;repeat' (first|(refine jaa (.alloc 38) ?_;refine jbi (zs:=[.int .i64 0,.int .i64 0,.int .i64 0,.slice none 0 0]) Kb rfl ?_)|apply zab ?_|(refine jaa (.buildSlice 22 0 _) ?_;(apply jaw (sz:=1) (by_:=24);exact Kb;exact Ybr;exact Yab;exact Ybr;(·rfl);(·rfl);(·rfl)))|apply zcd ?_|(refine jaa (.store 38 _ _) ?_;(refine jan rfl rfl rfl Kb rfl rfl ?_))|apply zaa ?_|refine jai ?_|refine jaj ?_|refine jah ?_|refine jac ?_)
 apply jbe [0,1,2,3,8,9,10] [8,9,16,28,47,48] rfl;exact Kh;exact Ki;refine jbf [0,1,2,3,8,9] [8,28,47,48] (fun i=>[(10,iN i)]) (fun i=>[(9,.box [.d (dI x),.d (dI y),.d (dI wh),.ls 16 1 0 (y*i)]),(16,.row 1 (cII (boxF (playF pl x wh) y (y*i))))]) (fun i=>i<=x) (fun i=>x - i) (0) ?_ Kg Yay ?_
 ·omega
 intro i hi;by_cases h:i < x
 ·repeat' (first|apply zab ?_|(refine jaa (.store 38 _ _) ?_;(refine jan rfl rfl rfl Kb rfl rfl ?_))|apply zaa ?_|apply zac ?_|apply zae ?_|refine jai ?_|refine jaj ?_|refine jah ?_|refine jaq rfl ?_|refine jam ?_|refine jac ?_|refine jbd rfl (fun hc=>?_) (fun hc=>?_)|exact Qaa|fail)
  apply jbe [0,1,2,3,8,9,10,11] [8,9,16,28,47,48] rfl;exact Kh;exact Ki;refine jbf [0,1,2,3,8,9,10] [8,28,47,48] (fun k=>[(11,iN k)]) (fun k=>[(9,.box [.d (dI x),.d (dI y),.d (dI wh),.ls 16 1 0 (y*i+k)]),(16,.row 1 (cII (boxF (playF pl x wh) y (y*i+k))))]) (fun k=>k<=y) (fun k=>y - k) (0) ?_ Kg Yag ?_
  ·omega
  intro k hk;by_cases hk2:k < y
  ·have hik:=idx_ltN (i:=i) (k:=k) (X:=x) (Y:=y) Kf Kf;have f1:=jdd hp (i:=(i:Int)) Kf Kf;have f2:=jdd hp (i:=(x:Int)+k) Kf Kf;have hr:=play_row (wh:=wh) f1 f2;have hr2:rowF (playF pl x wh i k) 4=(List.replicate 4 (0:Int)).set (2*atZ pl i+atZ pl ((x:Int)+k)).toNat wh:=hr.symm;repeat' (first|apply zab ?_|apply zaa ?_|apply zac ?_|(refine jaa (.makeSlice 25 _ _) ?_;(refine jgo (by_:=8) (z:=.int .i64 0) (y:=.lit (.int .i64 0)) rfl rfl Kb Kb rfl (fun _ => .lit _ rfl) Kf Kf Kf rfl ?_))|(refine jaa (.indexAddr 25 _ _) ?_;(first|refine jab (jbw rfl rfl Kb Kf Kf) rfl ?_|refine jab (jca rfl rfl (by kernel_rfl:tSl _ 25 1=true) Kf Kf) rfl ?_))|apply zap ?_|apply zbe ?_|apply zad ?_|(refine jaa (.store 3 _ _) ?_;((refine jcp rfl rfl rfl rfl (.lit _) Yby Yby Kb Ybg rfl ?_;simp only [St.drop])))|apply zaw ?_|apply zak ?_|(refine jaa (.buildSlice 22 1 _) ?_;(apply jaw (sz:=1) (by_:=24);exact Kb;exact Ybr;exact Ks;exact Ybr;(·rfl);(·rfl);(·rfl)))|(refine jaa (.call ⟨.builtin .append,_,#[22,22]⟩) ?_;((apply jbx (sz:=1) (by_:=24);(·rfl);(·rfl);exact Ybt;exact Kn;exact Ybr;exact Kb;exact Ybr;exact Kf;exact Kf;(·rfl);(·rfl);(·rfl))))|(refine jaa (.store 22 _ _) ?_;(refine jbk rfl rfl rfl rfl Kb rfl rfl ?_))|refine jai ?_|refine jaj ?_|refine jah ?_|refine jaz ?_|refine jaq rfl ?_|refine jam ?_|refine jac ?_|refine jav 9 (fun i=>i == 15) [0,1,2,3,4,5,6,7,8,9,10,11,12,13,14,-16] ?_|refine jbd rfl (fun hc=>?_) (fun hc=>?_)|exact Qaa|fail)
   refine bkL (k+1) ?_ ?_ (hB:=(by (repeat(first|exact trivial|refine ⟨(by (first|(refine jbs rfl ?_;simp  [jie _ _ _ _ hk2,hr2,List.map_set];done)|rfl)),?_⟩))))
   ·omega
   ·omega
  ·have e:k=y:=by omega
   subst e;repeat' (first|apply zab ?_|apply zaa ?_|apply zac ?_|(refine jaa (.makeSlice 25 _ _) ?_;(refine jgo (by_:=8) (z:=.int .i64 0) (y:=.lit (.int .i64 0)) rfl rfl Kb Kb rfl (fun _ => .lit _ rfl) Kf Kf Kf rfl ?_))|(refine jaa (.indexAddr 25 _ _) ?_;(first|refine jab (jbw rfl rfl Kb Kf Kf) rfl ?_|refine jab (jca rfl rfl (by kernel_rfl:tSl _ 25 1=true) Kf Kf) rfl ?_))|apply zap ?_|apply zbe ?_|apply zad ?_|(refine jaa (.store 3 _ _) ?_;((refine jcp rfl rfl rfl rfl (.lit _) Yby Yby Kb Kf rfl ?_;simp only [St.drop])))|apply zaw ?_|apply zak ?_|(refine jaa (.buildSlice 22 1 _) ?_;(apply jaw (sz:=1) (by_:=24);exact Kb;exact Ybr;exact Ks;exact Ybr;(·rfl);(·rfl);(·rfl)))|(refine jaa (.call ⟨.builtin .append,_,#[22,22]⟩) ?_;((apply jbx (sz:=1) (by_:=24);(·rfl);(·rfl);exact Ybt;exact Kn;exact Ybr;exact Kb;exact Ybr;exact Kf;exact Kf;(·rfl);(·rfl);(·rfl))))|(refine jaa (.store 22 _ _) ?_;(refine jbk rfl rfl rfl rfl Kb rfl rfl ?_))|refine jai ?_|refine jaj ?_|refine jah ?_|refine jaz ?_|refine jaq rfl ?_|refine jam ?_|refine jac ?_|refine jav 9 (fun i=>i == 15) [0,1,2,3,4,5,6,7,8,9,10,11,12,13,14,-16] ?_|refine jbd rfl (fun hc=>?_) (fun hc=>?_)|exact Qaa|fail)
   refine bkL (i+1) ?_ ?_ (hB:=(by (repeat(first|exact trivial|refine ⟨(by (first|(refine jbs rfl ?_;simp  [Nat.mul_succ];done)|(refine jdn rfl ?_;simp  [Nat.mul_succ];done))),?_⟩))))
   ·omega
   ·omega
 ·have e:i=x:=by omega
  subst e;repeat' (first|apply zab ?_|(refine jaa (.store 38 _ _) ?_;(refine jan rfl rfl rfl Kb rfl rfl ?_))|apply zaa ?_|apply zac ?_|apply zae ?_|refine jai ?_|refine jaj ?_|refine jah ?_|refine jaq rfl ?_|refine jam ?_|refine jac ?_|refine jbd rfl (fun hc=>?_) (fun hc=>?_)|exact Qaa|fail)
  refine Rab ?_;simp
theorem l1Rising_p (l:List Int) (lo hi:Int):PC Tryz.prog 208 [.c (eI l),.c (dI lo),.c (dI hi)] (.p (.c (dB (riseB l lo hi)))):=by
 refine jao Tryz.func208 ?_;rintro ⟨hl,-⟩;have hl:=hl.len;repeat' (first|refine jac ?_|refine Maa ?_|fail)
 apply jbe [0,1,2,7] [] rfl;exact Ky;exact Yar;refine jbf [0,1,2] [] (fun k=>[(7,iN k)]) (fun _=>[]) (fun k=>k<=l.length/\(List.range k).all (riseAt l lo hi)=true) (fun k=>l.length - k) (0) ?_ Kg Kv ?_
 ·simp
 rintro k ⟨hk,ha⟩;repeat' (first|refine jgc rfl rfl rfl rfl rfl ?_|refine Wbh ?_|refine Wbi ?_|refine jac ?_|refine jav 4 (fun _=>false) [0,1,2,3,4,5,-7,7,8,9,10,11,12,13,14,15,16,17,18,19,20,21,22,23] ?_|refine Maa ?_|apply zcs ?_|apply Ub (c:=l1In_p _ _ _) (h:=?_)|refine jcc rfl rfl (fun hg=>?_) (fun hg=>?_)|refine jdf rfl rfl (fun hg=>?_) (fun hg=>?_)|refine jbd rfl (fun hc=>?_) (fun hc=>?_)|exact Qaa|fail)
 ·refine Rad ?_;rw [rise_no (k:=k) Yak (.inl Ybp)]
 ·refine Rad ?_;rw [rise_no (k:=k) Kf (.inr ⟨by assumption,by assumption⟩)]
 ·refine bkL (k+1) ?_ ?_
  ·exact ⟨by omega,jlz ha Ybp (.inr Yak)⟩
  ·omega
 ·refine bkL (k+1) ?_ ?_
  ·exact ⟨by omega,jlz ha Ybp (.inl Yak)⟩
  ·omega
 ·have:k=l.length:=by omega
  subst this;refine Rad ?_;unfold riseB; rw [ha]
theorem l7Context_p (n:Int) (l:List Int):PC Tryz.prog 146 [.c (dI n),.c (eI l)] (.p (.c (dB (ctxB (IntKind.i64.wrap (n - 1)+1) l)))):=by
 refine jao Tryz.func146 fun _=>?_;repeat' (first|refine Wbh ?_|refine Wbi ?_|refine jac ?_|refine Maa ?_|(refine jaa (.binOp .sub 3 _ _ _) ?_;(refine jab (jhr rfl rfl) rfl ?_))|apply Ub (c:=l1Rising_p _ _ _) (h:=?_)|refine jcc rfl rfl (fun hg=>?_) (fun hg=>?_))
 ·refine Rad ?_;simp [ctxB]; omega
 ·refine Rad ?_;simp [ctxB]; omega
theorem l7Good_p (ev:Int) (cc:List (List Int)) (ss:List Int):PC Tryz.prog 90 [.g [dI ev,eII cc,eI ss]] (.p (.c (dB (sceneB ev cc ss)))):=by
 have hev:inB ev 0 12=true->IntKind.i64.wrap (ev - 1)+1=ev:=fun h=>by have:=jcx.1 h;rw [IntWalk.i64_in _ Kf];omega
 refine jao Tryz.func90 ?_;rintro ⟨hl,-⟩;have hl:=(hl _ (List.mem_cons_of_mem _ (List.mem_cons_self ..))).len;repeat' (first|refine jac ?_|refine Maa ?_|refine Wbb ?_|fail)
 apply jbe [1,3] [1] rfl;exact Kh;exact Ybi;refine jbf [1] [1] (fun k=>[(3,iN k)]) (fun _=>[]) (fun k=>k<=cc.length/\(cc.take k).all (ctxB (IntKind.i64.wrap (ev - 1)+1))=true) (fun k=>cc.length - k) (0) ?_ Kg Kv ?_
 ·simp
 rintro k ⟨hk,ha⟩;repeat' (first|refine Wbk ?_|refine Wbh ?_|refine Wbi ?_|refine jac ?_|refine jav 4 (fun _=>false) [0,1,2,3,4,5,6,-8,8] ?_|refine Maa ?_|apply Ub (c:=l7Context_p _ _) (h:=?_)|apply Ub (c:=l1In_p _ _ _) (h:=?_)|apply Ub (c:=l2Bits_p _ _) (h:=?_)|refine jcc rfl rfl (fun hg=>?_) (fun hg=>?_)|refine jdf rfl rfl (fun hg=>?_) (fun hg=>?_)|refine jbd rfl (fun hc=>?_) (fun hc=>?_)|refine jcu rfl (fun hc=>?_) (fun hc=>?_))
 ·have hk2:k < cc.length:=by omega
  rw [jby hk2] at hc;refine Rad ?_;cases h0:inB ev 0 12 with
  | false=>simp [sceneB,h0]
  | true=>rw [hev h0] at hc;simp only [sceneB,jlu (p:=ctxB ev) hk2 hc];simp
 ·have hk2:k < cc.length:=by omega
  rw [jby hk2] at hc;refine bkL (k+1) ?_ ?_
  ·exact ⟨by omega,by rw [jdw _ _ _ hk2,ha,hc];rfl⟩
  ·omega
 all_goals
  have:k=cc.length:=by omega
  subst this;rw [List.take_length] at ha;refine Rad ?_
 ·cases h0:inB ev 0 12 with
  | false=>simp_all
  | true =>
   rw [hev h0] at ha;have h10:cc.length<=10:=by omega
   simp [sceneB,h0,h10,ha]
 ·have h10:¬ cc.length<=10:=by omega
  simp [sceneB,h10]
 ·simp [sceneB,hg]
theorem l2Play_p (x y:Int) (l:List Int):PC Tryz.prog 88 [.c (dI x),.c (dI y),.c (eI l)] (.p (.c (dB (sizeB x y&&bitsB l (IntKind.i64.wrap (x+y)))))):=by
 refine jao Tryz.func88 fun _=>?_;repeat' (first|refine Wbh ?_|refine Wbi ?_|refine jac ?_|refine Maa ?_|(refine jaa (.binOp .add 3 _ _ _) ?_;(refine jab (jpe rfl rfl) rfl ?_))|apply Ub (c:=l2Sizes_p _ _) (h:=?_)|apply Ub (c:=l2Bits_p _ _) (h:=?_)|refine jdf rfl rfl (fun hg=>?_) (fun hg=>?_))
 all_goals refine Rad ?_
 all_goals simp_all
theorem l12Good_p (bx by_ bwh:Int) (bll:List (List Int)) (pl:List Int) (ev:Int) (cc:List (List Int)) (ss nu:List Int) (co:Int) :
  PC Tryz.prog 55 [.g [dI bx,dI by_,dI bwh,eII bll,eI pl,dI ev,eII cc,eI ss,eI nu,dI co]] (.p (.c (dB (hallB bx by_ bwh bll pl ev cc ss nu co)))):=by
 have hw:boxB bx by_ bwh bll=true->IntKind.i64.wrap (bx+by_)=bx+by_/\sizeB bx by_=true:=fun h=>by have:=jbo h;have a:=this.x1;have b:=this.x3;have c:=this.y1;have d:=this.y3;exact ⟨IntWalk.i64_in _ Kf,jct.2 ⟨⟨a,b⟩,c,d⟩⟩
 refine jao Tryz.func55 fun _=>?_;repeat' (first|refine Wbh ?_|refine Wbi ?_|refine jac ?_|refine Maa ?_|refine Wbc ?_|apply zde ?_|apply Ub (c:=l2Box_p _ _ _ _) (h:=?_)|apply Ub (c:=l2Play_p _ _ _) (h:=?_)|apply Ub (c:=l1In_p _ _ _) (h:=?_)|apply Ub (c:=l7Good_p _ _ _) (h:=?_)|apply Ub (c:=l2Bits_p _ _) (h:=?_)|refine jdf rfl rfl (fun hg=>?_) (fun hg=>?_)|refine jcu rfl (fun hc=>?_) (fun hc=>?_))
 all_goals refine Rad ?_
 all_goals cases hb:boxB bx by_ bwh bll <;> simp_all [hallB]
theorem l2Row_v (X Y n:Int) (ll:List (List Int)) (x y:Int) (h0:0<=x*Y+y) (h1:x*Y+y < ll.length) (h2:0<=x*Y) (h3:x*Y<=1000) (h4:y<=1000) :
  PV Tryz.prog 166 [.g [dI X,dI Y,dI n,eII ll],.c (dI x),.c (dI y)] (.p (.c (eI (atZ ll (x*Y+y))))):=by
 refine jfd Tryz.func166 fun X c0 _=>?_;repeat' (first|refine jac ?_|refine Maa ?_|refine Wba ?_|fail)
 ·(apply jes;apply jet;(·apply jlv.p rfl;(·(apply RvA.cons;exact Ybu;(·(exact RvP.c (.d _))));exact RvA.nil)))
  rfl
theorem spPlayBox_p (x y:Int) (pl:List Int) (wh:Int):PC Tryz.prog 263 [.c (dI x),.c (dI y),.c (eI pl),.c (dI wh)]
  (.t [.g [dI (whenN (playB x y pl wh) x),dI (whenN (playB x y pl wh) y),dI (whenN (playB x y pl wh) wh),eII (whenL (playB x y pl wh) (playL pl x y wh))],.c (dB (playB x y pl wh))]):=by
 have hw:sizeB x y=true->IntKind.i64.wrap (x+y)=x+y:=fun h=>by have:=jct.1 h;exact IntWalk.i64_in _ Kf
 have hQ:(sizeB x y&&bitsB pl (IntKind.i64.wrap (x+y)))=(sizeB x y&&bitsB pl (x+y)):=by
  cases hz:sizeB x y with
  | false=>rfl
  | true=>rw [hw hz]
 have hpl:=l2Play_p x y pl;rw [hQ] at hpl;cases hB:playB x y pl wh with
 | false =>
  refine jao Tryz.func263 fun _=>?_;repeat' (first|refine Wbh ?_|refine Wbi ?_|refine jac ?_|refine Maa ?_|refine Wah ?_|apply zcd ?_|refine Wag ?_|apply Ub (c:=hpl) (h:=?_)|apply Ub (c:=l1In_p _ _ _) (h:=?_)|refine jdf rfl rfl (fun hg=>?_) (fun hg=>?_)|refine jcu rfl (fun hc=>?_) (fun hc=>?_))
  all_goals first|(exfalso;simp_all [playB];done)|skip
  all_goals refine Rae ?_
  all_goals simp [whenN,whenL]
 | true =>
  have hB2:=hB;simp only [playB,Bool.and_eq_true] at hB2;obtain ⟨h1,h2,h3⟩:=hB2;have hs:=jct.1 h1;obtain ⟨X,rfl⟩:=Int.eq_ofNat_of_zero_le (by omega:0<=x);obtain ⟨Y,rfl⟩:=Int.eq_ofNat_of_zero_le (by omega:0<=y);refine jao Tryz.func263 fun _=>?_;repeat' (first|refine Wbh ?_|refine Wbi ?_|refine jac ?_|refine Maa ?_|refine Wah ?_|apply zcd ?_|refine Wag ?_|apply Ub (c:=hpl) (h:=?_)|apply Ub (c:=l1In_p _ _ _) (h:=?_)|apply Ua (c:=l2PlayBox_p _ _ _ _ Kf Kf h2) (h:=?_)|refine jdf rfl rfl (fun hg=>?_) (fun hg=>?_)|refine jcu rfl (fun hc=>?_) (fun hc=>?_)|exact Qac|fail)
  all_goals refine Raf ?_
  all_goals simp [whenN,whenL]
theorem Vac {G G':Prop} (h:G') (t:Laa G'->G:=by intro h;first|(first|exact Wbl h.o|exact jac h.o|exact Maa h.o|exact Wba h.o|exact Waa h.o|exact Waf h.o|exact Wag h.o|exact Wbm h.o|exact Wbn h.o|apply zbi h.o|(refine jaa (.store 3 _ _) ?_;((refine jcp rfl rfl rfl rfl (.lit _) Yby Yby Kb Ybb rfl ?_;simp only [St.drop]));exact h.o)|exact Wbo h.o|apply zcd h.o|exact Wah h.o|fail);done|fail):G:=t ⟨h⟩
theorem l2Flip_p (x y:Nat) (n:Int) (ll:List (List Int)) (fl:List Int) (hb:boxB x y n ll=true) (hf:bitsB fl ((x:Int)+y)=true):PC Tryz.prog 298 [.g [dI x,dI y,dI n,eII ll],.c (eI fl)] (.p (.g [dI x,dI y,dI n,eII (bflL ll x y fl)])):=by
 have b:=jbo hb;have a1:=b.x1;have a2:=b.x3;have a3:=b.y1;have a4:=b.y3;have a5:=b.n1;have a6:=b.n2;have al:=b.len;have hl:=jce hf;have hxy:y*x<=3*3:=Nat.mul_le_mul Kf Kf;have hm9:=jds (x:=(x:Int)) (y:=(y:Int)) (jct.2 ⟨⟨by omega,by omega⟩,by omega,by omega⟩);have hP:bflL ll x y fl=boxF (bflF ll x y fl) y (y*x):=by unfold bflL;simp
 rw [hP];refine jao Tryz.func298 fun _=>?_;repeat' (first|refine Vac ?_|fail)
 apply jbe [1,2,4,5,6] [2,4,5,17,34,35,64,65] rfl;exact Kh;exact Ki;refine jbf [1,2,4,5] [2,4,34,35,64,65] (fun i=>[(6,iN i)]) (fun i=>[(5,.box [.d (dI x),.d (dI y),.d (dI n),.ls 17 1 0 (y*i)]),(17,.row 1 (cII (boxF (bflF ll x y fl) y (y*i))))]) (fun i=>i<=x) (fun i=>x - i) (0) ?_ Kg Yay ?_
 ·omega
 intro i hi;by_cases h:i < x
 ·repeat' (first|refine Vac ?_|refine jbd rfl (fun hc=>?_) (fun hc=>?_)|exact Qaa|fail)
  apply jbe [1,2,4,5,6,7] [2,4,5,17,34,35,64,65] rfl;exact Kh;exact Ki;refine jbf [1,2,4,5,6] [2,4,34,35,64,65] (fun k=>[(7,iN k)]) (fun k=>[(5,.box [.d (dI x),.d (dI y),.d (dI n),.ls 17 1 0 (y*i+k)]),(17,.row 1 (cII (boxF (bflF ll x y fl) y (y*i+k))))]) (fun k=>k<=y) (fun k=>y - k) (0) ?_ Kg Yag ?_
  ·omega
  intro k hk;by_cases hk2:k < y
  ·have hik:=idx_ltN (i:=i) (k:=k) (X:=x) (Y:=y) Kf Kf;have ix:=jno (i:=(i:Int)) (k:=(k:Int)) (X:=x) (Y:=y) Kf Kf Kf Kf;have f1:=jdd hf (i:=(i:Int)) Kf Kf;have f2:=jdd hf (i:=(x:Int)+k) Kf Kf;obtain ⟨r1,r2⟩:=jev hb ix.1 ix.2.1;have hm4:0<=flipOf fl x i k/\flipOf fl x i k < 4:=by unfold flipOf;omega
   have hall:=flM_all (atZ ll ((i:Int)*y+k)) hm4;have hrow:rowF (bflF ll x y fl i k) 4=flM (atZ ll ((i:Int)*y+k)) (flipOf fl x i k) 4:=by rw [hall];rfl
   repeat' (first|(with_reducible apply jeq)|intro Y hY|((with_reducible apply jff);exact Yak;(·rfl);exact Ko;exact Ko)|((with_reducible apply jfg);(·rfl);exact Kk;exact Ki;exact Yak)|refine jdr ?_ ?_|refine jcv 8 (fun _=>false) (IT.lt .nil fun Y0=>(.step 0 true (.step 1 true (.step 2 true (.alt 8 (.step 3 false (.step 5 true (.step 4 false (.step 6 true (IT.ref true [1,2,4,5,6,7,8,9] [2,4,17,5,34,35] Y0))))) (.step 4 false (.step 3 false (.step 5 true (.step 6 true (IT.ref false [1,2,4,5,6,7,8,9] [2,4,17,5,34,35] Y0)))))))))) ?_|apply Vac ?_|apply Uc (c:=l2Row_v _ _ _ _ _ _ Kf Kf Kf Kf Kf) (h:=?_)|refine jbd rfl (fun hc=>?_) (fun hc=>?_)|exact Qaa|fail)
   apply jbe [1,2,4,5,6,7,8,9,10] [2,4,5,17,34,35,64,65] rfl;exact Kk;exact Ki;refine jbf [1,2,4,5,6,7,8,9] [2,4,17,5,34,64,65] (fun p=>[(10,iN p)]) (fun p=>[(35,.row 1 (cI (flM (atZ ll ((i:Int)*y+k)) (flipOf fl x i k) p)))]) (fun p=>p<=4) (fun p=>4 - p) (0) ?_ Kg (by (repeat(first|exact trivial|refine ⟨(by ((refine jbs rfl ?_;simp  [flM_zero];done))),?_⟩))) ?_
   ·omega
   intro p hp;by_cases hp4:p < 4
   ·have xe:=xor4_eq hp4 hm4.1 hm4.2;have st:=flM_set (row:=atZ ll ((i:Int)*y+k)) hm4 hp4;unfold flipOf at xe st;repeat' (first|(refine jaa (.indexAddr 25 _ _) ?_;(first|refine jab (jbw rfl rfl Kb Kf Kf) rfl ?_|refine jab (jca rfl rfl (by kernel_rfl:tSl _ 25 1=true) Kf Kf) rfl ?_))|refine jav 12 (fun i=>i == 21) [0,1,2,3,4,5,6,7,8,9,10,11,12,13,14,15,16,17,18,19,20,-22] ?_|refine Vac ?_|refine jbd rfl (fun hc=>?_) (fun hc=>?_)|exact Qaa|fail)
    refine bkL (p+1) ?_ ?_ (hB:=(by (repeat(first|exact trivial|refine ⟨(by ((refine jbs rfl ?_;simp  [flipOf,xe.1,<- List.map_set,st];done))),?_⟩))))
    ·omega
    ·omega
   ·have e:p=4:=by omega
    subst e;repeat' (first|refine Vac ?_|exact Qaa|fail)
    refine bkL (k+1) ?_ ?_ (hB:=(by (repeat(first|exact trivial|refine ⟨(by (first|(refine jbs rfl ?_;simp  [jie _ _ _ _ hk2,hrow];done)|rfl)),?_⟩))))
    ·omega
    ·omega
  ·have e:k=y:=by omega
   subst e;repeat' (first|(with_reducible apply jeq)|intro Y hY|refine jdr ?_ ?_|refine jcv 8 (fun _=>false) (IT.lt .nil fun Y0=>(.step 0 true (.step 1 true (.step 2 true (.alt 8 (.step 3 false (.step 5 true (.step 4 false (.step 6 true (IT.ref true [1,2,4,5,6,7,8,9] [2,4,17,5,34,35] Y0))))) (.step 4 false (.step 3 false (.step 5 true (.step 6 true (IT.ref false [1,2,4,5,6,7,8,9] [2,4,17,5,34,35] Y0)))))))))) ?_|apply Vac ?_|refine jbd rfl (fun hc=>?_) (fun hc=>?_)|exact Qaa|fail)
   refine bkL (i+1) ?_ ?_ (hB:=(by (repeat(first|exact trivial|refine ⟨(by (first|(refine jbs rfl ?_;simp  [Nat.mul_succ];done)|(refine jdn rfl ?_;simp  [Nat.mul_succ];done))),?_⟩))))
   ·omega
   ·omega
 ·have e:i=x:=by omega
  subst e;repeat' (first|refine Vac ?_|refine jbd rfl (fun hc=>?_) (fun hc=>?_)|exact Qaa|fail)
  refine Rab ?_;simp
theorem FlipAnswers_p (x y n:Int) (ll:List (List Int)) (fl:List Int) (hb:boxB x y n ll=true) (hf:bitsB fl (x+y)=true):PC Tryz.prog 265 [.g [dI x,dI y,dI n,eII ll],.c (eI fl)] (.t [.g [dI x,dI y,dI n,eII (bflL ll x y fl)],.c (dB true)]):=by
 obtain ⟨x,y,rfl,rfl,hx,hy⟩:=jgg hb;refine jao Tryz.func265 fun _=>?_;repeat' (first|(refine jaa (.box 38 _) ?_;refine jax rfl rfl ?_)|(refine jaa (.alloc 38) ?_;refine jbi (zs:=[.int .i64 0,.int .i64 0,.int .i64 0,.slice none 0 0]) Kb rfl ?_)|apply zaa ?_|apply zae ?_|apply zag ?_|apply zab ?_|apply zbb ?_|apply zaf ?_|apply zbd ?_|apply zad ?_|apply zah ?_|apply zcd ?_|(refine jaa (.store 38 _ _) ?_;(refine jan rfl rfl rfl Kb rfl rfl ?_))|apply Ub (c:=l2Box_p _ _ _ _) (h:=?_)|apply Ub (c:=l2Bits_p _ _) (h:=?_)|apply Ua (c:=l2Flip_p _ _ _ _ _ hb hf) (h:=?_)|refine jai ?_|refine jbn rfl rfl rfl rfl ?_|refine jbj rfl rfl rfl rfl ?_|refine jdf rfl rfl (fun hg=>?_) (fun hg=>?_)|refine jaj ?_|refine jam ?_|refine jac ?_|refine jbg rfl ?_|refine jcu rfl (fun hc=>?_) (fun hc=>?_)|exact Qab|exact Rbg|fail)
theorem SwapPlayers_p (x y n:Int) (ll:List (List Int)) (hb:boxB x y n ll=true):PC Tryz.prog 267 [.g [dI x,dI y,dI n,eII ll]] (.t [.g [dI y,dI x,dI n,eII (swapL ll x y)],.c (dB true)]):=by
 obtain ⟨x,y,rfl,rfl,hx,hy⟩:=jgg hb;have b:=jbo hb;have a1:=b.x1;have a2:=b.x3;have a3:=b.y1;have a4:=b.y3;have a5:=b.n1;have a6:=b.n2;have al:=b.len;have hxy:x*y<=3*3:=Nat.mul_le_mul Kf Kf;have hm9:=jds (x:=(x:Int)) (y:=(y:Int)) (jct.2 ⟨⟨by omega,by omega⟩,by omega,by omega⟩);have hP:swapL ll x y=boxF (swapF ll y) x (x*y):=by unfold swapL;simp
 rw [hP];refine jao Tryz.func267 fun _=>?_;repeat' (first|(refine jaa (.box 38 _) ?_;refine jax rfl rfl ?_)|(refine jaa (.alloc 38) ?_;refine jbi (zs:=[.int .i64 0,.int .i64 0,.int .i64 0,.slice none 0 0]) Kb rfl ?_)|apply zaa ?_|apply zae ?_|apply zag ?_|apply zcd ?_|(refine jaa (.store 38 _ _) ?_;(refine jan rfl rfl rfl Kb rfl rfl ?_))|apply zbd ?_|apply zaf ?_|apply zbb ?_|apply zbh ?_|(refine jaa (.buildSlice 22 0 _) ?_;(apply jaw (sz:=1) (by_:=24);exact Kb;exact Ybr;exact Yab;exact Ybr;(·rfl);(·rfl);(·rfl)))|apply Ub (c:=l2Box_p _ _ _ _) (h:=?_)|refine jai ?_|refine jaj ?_|refine jah ?_|refine jam ?_|refine jac ?_|refine jcu rfl (fun hc=>?_) (fun hc=>?_)|exact Qac|fail)
 apply jbe [1,2,4,5] [1,2,4,18,35,50,51,52] rfl;exact Kh;exact Ki;refine jbf [1,2,4] [1,2,35,50,51,52] (fun i=>[(5,iN i)]) (fun i=>[(4,.box [.d (dI y),.d (dI x),.d (dI n),.ls 18 1 0 (x*i)]),(18,.row 1 (cII (boxF (swapF ll y) x (x*i))))]) (fun i=>i<=y) (fun i=>y - i) (0) ?_ Kg Yay ?_
 ·omega
 intro i hi;by_cases h:i < y
 ·repeat' (first|apply zaa ?_|apply zae ?_|(refine jaa (.store 38 _ _) ?_;(refine jan rfl rfl rfl Kb rfl rfl ?_))|apply zbd ?_|apply zaf ?_|apply zab ?_|apply zac ?_|refine jai ?_|refine jaj ?_|refine jah ?_|refine jaq rfl ?_|refine jam ?_|refine jac ?_|refine jbd rfl (fun hc=>?_) (fun hc=>?_)|exact Qaa|fail)
  apply jbe [1,2,4,5,6] [1,2,4,18,35,50,51,52] rfl;exact Kh;exact Ki;refine jbf [1,2,4,5] [1,2,35,50,51,52] (fun k=>[(6,iN k)]) (fun k=>[(4,.box [.d (dI y),.d (dI x),.d (dI n),.ls 18 1 0 (x*i+k)]),(18,.row 1 (cII (boxF (swapF ll y) x (x*i+k))))]) (fun k=>k<=x) (fun k=>x - k) (0) ?_ Kg Yag ?_
  ·omega
  intro k hk;by_cases hk2:k < x
  ·have hik:=idx_ltN (i:=i) (k:=k) (X:=y) (Y:=x) Kf Kf;have ix:=jno (i:=(k:Int)) (k:=(i:Int)) (X:=x) (Y:=y) Kf Kf Kf Kf;obtain ⟨r1,r2⟩:=jev hb ix.1 ix.2.1;have hrow:rowF (swapF ll y i k) 4=[atZ (atZ ll ((k:Int)*y+i)) 0,atZ (atZ ll ((k:Int)*y+i)) 2,atZ (atZ ll ((k:Int)*y+i)) 1,atZ (atZ ll ((k:Int)*y+i)) 3]:=rfl;repeat' (first|apply zaa ?_|apply zae ?_|(refine jaa (.load 3 _) ?_;(first|refine jab (jag rfl rfl Kb rfl) rfl ?_|refine jab (jap rfl Kb rfl) rfl ?_))|apply zbb ?_|apply zab ?_|apply zac ?_|apply zaw ?_|apply zak ?_|apply zal ?_|(refine jaa (.buildSlice 25 4 _) ?_;(apply jaw (sz:=1) (by_:=8);exact Kb;exact Ybr;exact Kl;exact Ybr;(·rfl);(·rfl);(·rfl)))|(refine jaa (.buildSlice 22 1 _) ?_;(apply jaw (sz:=1) (by_:=24);exact Kb;exact Ybr;exact Ks;exact Ybr;(·rfl);(·rfl);(·rfl)))|(refine jaa (.call ⟨.builtin .append,_,#[22,22]⟩) ?_;((apply jbx (sz:=1) (by_:=24);(·rfl);(·rfl);exact Ybt;exact Kn;exact Ybr;exact Kb;exact Ybr;exact Kf;exact Kf;(·rfl);(·rfl);(·rfl))))|(refine jaa (.store 22 _ _) ?_;(refine jbk rfl rfl rfl rfl Kb rfl rfl ?_))|apply zad ?_|apply Uc (c:=l2Row_v _ _ _ _ _ _ Kf Kf Kf Kf Kf) (h:=?_)|refine jai ?_|refine jaj ?_|refine jah ?_|refine jaz ?_|refine jaq rfl ?_|refine jam ?_|refine jac ?_|refine jav 11 (fun i=>i == 16 || i == 18) [0,1,2,3,4,5,6,7,8,9,10,11,12,13,-15,-16,-17,17,-19] ?_|refine jbd rfl (fun hc=>?_) (fun hc=>?_)|exact Qaa|fail)
   refine bkL (k+1) ?_ ?_ (hB:=(by (repeat(first|exact trivial|refine ⟨(by (first|(refine jbs rfl ?_;simp  [jie _ _ _ _ hk2,hrow];done)|rfl)),?_⟩))))
   ·omega
   ·omega
  ·have e:k=x:=by omega
   subst e;repeat' (first|apply zaa ?_|apply zae ?_|apply zaf ?_|apply zbb ?_|apply zab ?_|apply zac ?_|apply zad ?_|refine jai ?_|refine jaj ?_|refine jah ?_|refine jaz ?_|refine jaq rfl ?_|refine jam ?_|refine jac ?_|refine jbd rfl (fun hc=>?_) (fun hc=>?_)|exact Qaa|fail)
   refine bkL (i+1) ?_ ?_ (hB:=(by (repeat(first|exact trivial|refine ⟨(by (first|(refine jbs rfl ?_;simp  [Nat.mul_succ];done)|(refine jdn rfl ?_;simp  [Nat.mul_succ];done))),?_⟩))))
   ·omega
   ·omega
 ·have e:i=y:=by omega
  subst e;repeat' (first|apply zaa ?_|apply zae ?_|(refine jaa (.store 38 _ _) ?_;(refine jan rfl rfl rfl Kb rfl rfl ?_))|apply zbd ?_|apply zaf ?_|apply zab ?_|apply zac ?_|refine jai ?_|refine jaj ?_|refine jah ?_|refine jaq rfl ?_|refine jam ?_|refine jac ?_|refine jbd rfl (fun hc=>?_) (fun hc=>?_)|exact Qaa|fail)
  refine Raf ?_;simp
theorem l2Gcd_p (a b:Int) (ha:1<=a/\a<=1000000) (hb:0<=b/\b<=1000000):PC Tryz.prog 312 [.c (dI a),.c (dI b)] (.p (.c (dI (gcdI a b)))):=by
 refine jao Tryz.func312 fun _=>?_;repeat' (first|apply zaa ?_|refine jai ?_|refine jaj ?_|refine jah ?_|refine jac ?_)
 apply jbe [0,1] [] rfl;exact Ky;exact Yar;refine jbf [] [] (fun g:Int×Int=>[(0,iZ g.1),(1,iZ g.2)]) (fun _=>[]) (fun g=>(1<=g.1/\g.1<=1000000)/\(0<=g.2/\g.2<=1000000)/\gcdI g.1 g.2=gcdI a b) (fun g=>g.2.toNat) ((a,b)) ?_ Kg Kv ?_
 ·exact ⟨ha,hb,rfl⟩
 rintro ⟨u,v⟩ ⟨hu,hv,hg⟩;dsimp only at hu hv hg ⊢;by_cases h0:v=0
 ·subst h0;rw [gcd_zero Kf] at hg;repeat' (first|apply zaa ?_|apply zab ?_|apply zbc ?_|refine jai ?_|refine jaj ?_|refine jaq rfl ?_|refine jac ?_|refine jay rfl ?_|exact Qaa|fail)
  refine Rad ?_;rw [hg]
 ·have h1:=emod_bd0 (x:=u) (n:=v) Kf Kf;have h2:=gcd_step (a:=u) (b:=v) Kf Kf;repeat' (first|apply zaa ?_|apply zab ?_|apply zbc ?_|apply zbn ?_|refine jai ?_|refine jaj ?_|refine jah ?_|refine jaz ?_|refine jaq rfl ?_|refine jam ?_|refine jac ?_|refine jav 2 (fun _=>false) [0,1,2,3,4,5] ?_|refine jbd rfl (fun hc=>?_) (fun hc=>?_)|exact Qaa|fail)
  refine bkL (v,u%v) ?_ ?_
  ·exact ⟨by dsimp only;omega,by dsimp only;omega,h2.trans hg⟩
  ·dsimp only; omega
theorem l2Times_p (x y:Nat) (n d:Int) (ll:List (List Int)) (hb:boxB x y n ll=true) (hd:1<=d/\d<=1000):PC Tryz.prog 313 [.g [dI x,dI y,dI n,eII ll],.c (dI 1),.c (dI d)] (.p (.g [dI x,dI y,dI (n / d),eII (redL ll x y d)])):=by
 have b:=jbo hb;have a1:=b.x1;have a2:=b.x3;have a3:=b.y1;have a4:=b.y3;have a5:=b.n1;have a6:=b.n2;have al:=b.len;have hxy:y*x<=3*3:=Nat.mul_le_mul Kf Kf;have hxe:((y*x:Nat):Int)=(x:Int)*y:=by rw [Int.natCast_mul,Int.mul_comm]
 rw [redL_rows];refine jao Tryz.func313 fun _=>?_;repeat' (first|(with_reducible apply jeq)|intro Y hY|((with_reducible apply jff);exact Yak;(·rfl);exact Ko;exact Ko)|((with_reducible apply jfg);(·rfl);exact Kz;exact Ybl;exact Yak)|refine jdr ?_ ?_|(refine jaa (.box 38 _) ?_;refine jax rfl rfl ?_)|(refine jaa (.alloc 38) ?_;refine jbi (zs:=[.int .i64 0,.int .i64 0,.int .i64 0,.slice none 0 0]) Kb rfl ?_)|apply zbb ?_|apply zaf ?_|apply zbd ?_|apply zbh ?_|apply zab ?_|apply zbe ?_|apply zbw ?_|(refine jaa (.buildSlice 22 0 _) ?_;(apply jaw (sz:=1) (by_:=24);exact Kb;exact Ybr;exact Yab;exact Ybr;(·rfl);(·rfl);(·rfl)))|apply zcd ?_|(refine jaa (.store 38 _ _) ?_;(refine jan rfl rfl rfl Kb rfl rfl ?_))|apply zaa ?_|refine jai ?_|refine jaj ?_|refine jah ?_|refine jac ?_|refine jcv 1 (fun i=>i == 13) (IT.lt (.step 13 false .nil) fun Y0=>(.step 0 true (.step 1 true (.step 2 true (.step 3 true (.step 4 true (.step 5 true (.step 6 true (.step 7 true (.step 8 true (.step 9 true (.alt 1 (.step 10 false (.step 11 true (.step 12 false (IT.ref true [1,2,3,6,7,22] [3,6,21,7] Y0)))) (.step 12 false (.step 10 false (.step 11 true (IT.ref false [1,2,3,6,7,22] [3,6,21,7] Y0)))))))))))))))) ?_)
 apply jbe [1,2,3,6,7,8] [3,6,7,21,30,54,55,59,60] rfl;exact Kh;exact Ki;refine jbf [1,2,3,6,7] [3,6,30,54,55,59,60] (fun i=>[(8,iN i)]) (fun i=>[(7,.box [.d (dI x),.d (dI y),.d (dI (n / d)),.ls 21 1 0 i]),(21,.row 1 (cII (rowsF (redR ll d) i)))]) (fun i=>i<=y*x) (fun i=>y*x - i) (0) ?_ Kg (by (repeat(first|exact trivial|refine ⟨(by (first|(refine jbs rfl ?_;simp  [rowsF];done)|(refine jdn rfl ?_;simp  [rowsF];done))),?_⟩))) ?_
 ·omega
 intro i hi;by_cases h:i < y*x
 ·obtain ⟨r1,r2⟩:=jev hb (q:=(i:Int)) Kf Kf;repeat' (first|apply zab ?_|(refine jaa (.store 38 _ _) ?_;(refine jan rfl rfl rfl Kb rfl rfl ?_))|apply zaa ?_|apply zaw ?_|apply zak ?_|apply zaq ?_|apply zac ?_|(refine jaa (.buildSlice 25 0 _) ?_;(apply jaw (sz:=1) (by_:=8);exact Kb;exact Ybr;exact Yab;exact Ybr;(·rfl);(·rfl);(·rfl)))|apply zae ?_|refine jai ?_|refine jaj ?_|refine jah ?_|refine jaq rfl ?_|refine jam ?_|refine jac ?_|refine jbd rfl (fun hc=>?_) (fun hc=>?_)|exact Qaa|fail)
  apply jbe [1,2,3,6,7,8,9,10] [3,6,7,21,30,54,55,59,60] rfl;exact Kk;exact Ki;refine jbf [1,2,3,6,7,8] [3,6,21,7,54,55,59,60] (fun k=>[(10,iN k),(9,.c (.ls 30 1 0 k))]) (fun k=>[(30,.row 1 (cI (rowF (redR ll d i) k)))]) (fun k=>k<=4) (fun k=>4 - k) (0) ?_ Kg Kg ?_
  ·omega
  intro k hk;by_cases hk4:k < 4
  ·have v1:=r2 k Kf Kf;repeat' (first|apply zap ?_|apply zab ?_|apply zbe ?_|apply zbw ?_|apply zaa ?_|apply zaw ?_|apply zak ?_|apply zac ?_|apply zao ?_|apply zat ?_|apply zas ?_|apply zal ?_|(refine jaa (.buildSlice 25 1 _) ?_;(apply jaw (sz:=1) (by_:=8);exact Kb;exact Ybr;exact Kl;exact Ybr;(·rfl);(·rfl);(·rfl)))|(refine jaa (.call ⟨.builtin .append,_,#[25,25]⟩) ?_;((apply jbx (sz:=1) (by_:=8);(·rfl);(·rfl);exact Ybt;exact Kn;exact Ybr;exact Kb;exact Ybr;exact Kf;exact Kf;(·rfl);(·rfl);(·rfl))))|apply zad ?_|(refine jaa (.buildSlice 22 1 _) ?_;(apply jaw (sz:=1) (by_:=24);exact Kb;exact Ybr;exact Ks;exact Ybr;(·rfl);(·rfl);(·rfl)))|(refine jaa (.call ⟨.builtin .append,_,#[22,22]⟩) ?_;((apply jbx (sz:=1) (by_:=24);(·rfl);(·rfl);exact Ybt;exact Kn;exact Ybr;exact Kb;exact Ybr;exact Kf;exact Kf;(·rfl);(·rfl);(·rfl))))|(refine jaa (.store 22 _ _) ?_;(refine jbk rfl rfl rfl rfl Kb rfl rfl ?_))|refine jai ?_|refine jaj ?_|refine jah ?_|refine jaz ?_|refine jaq rfl ?_|refine jam ?_|refine jac ?_|refine jbd rfl (fun hc=>?_) (fun hc=>?_)|exact Qaa|fail)
   refine bkL (k+1) ?_ ?_ (hB:=(by (repeat(first|exact trivial|refine ⟨(by ((refine jbs rfl ?_;simp  [jdz,redR];done))),?_⟩))))
   ·omega
   ·omega
  ·have e:k=4:=by omega
   subst e;repeat' (first|apply zap ?_|apply zab ?_|apply zbe ?_|apply zbw ?_|apply zaa ?_|apply zaw ?_|apply zak ?_|apply zac ?_|apply zao ?_|apply zat ?_|apply zas ?_|apply zal ?_|(refine jaa (.buildSlice 25 1 _) ?_;(apply jaw (sz:=1) (by_:=8);exact Kb;exact Ybr;exact Kl;exact Ybr;(·rfl);(·rfl);(·rfl)))|(refine jaa (.call ⟨.builtin .append,_,#[25,25]⟩) ?_;((apply jbx (sz:=1) (by_:=8);(·rfl);(·rfl);exact Ybt;exact Kn;exact Ybr;exact Kb;exact Ybr;exact Kf;exact Kf;(·rfl);(·rfl);(·rfl))))|apply zad ?_|(refine jaa (.buildSlice 22 1 _) ?_;(apply jaw (sz:=1) (by_:=24);exact Kb;exact Ybr;exact Ks;exact Ybr;(·rfl);(·rfl);(·rfl)))|(refine jaa (.call ⟨.builtin .append,_,#[22,22]⟩) ?_;((apply jbx (sz:=1) (by_:=24);(·rfl);(·rfl);exact Ybt;exact Kn;exact Ybr;exact Kb;exact Ybr;exact Kf;exact Kf;(·rfl);(·rfl);(·rfl))))|(refine jaa (.store 22 _ _) ?_;(refine jbk rfl rfl rfl rfl Kb rfl rfl ?_))|refine jai ?_|refine jaj ?_|refine jah ?_|refine jaz ?_|refine jaq rfl ?_|refine jam ?_|refine jac ?_|refine jbd rfl (fun hc=>?_) (fun hc=>?_)|exact Qaa|fail)
   refine bkL (i+1) ?_ ?_ (hB:=(by (repeat(first|exact trivial|refine ⟨(by (first|(refine jbs rfl ?_;simp  [joz];done)|rfl)),?_⟩))))
   ·omega
   ·omega
 ·have e:i=y*x:=by omega
  subst e;repeat' (first|apply zab ?_|(refine jaa (.store 38 _ _) ?_;(refine jan rfl rfl rfl Kb rfl rfl ?_))|apply zaa ?_|apply zaw ?_|apply zak ?_|apply zaq ?_|apply zac ?_|(refine jaa (.buildSlice 25 0 _) ?_;(apply jaw (sz:=1) (by_:=8);exact Kb;exact Ybr;exact Yab;exact Ybr;(·rfl);(·rfl);(·rfl)))|apply zae ?_|refine jai ?_|refine jaj ?_|refine jah ?_|refine jaq rfl ?_|refine jam ?_|refine jac ?_|refine jbd rfl (fun hc=>?_) (fun hc=>?_)|exact Qaa|fail)
  refine Rab ?_;simp
theorem l2Reduced_p (x y:Nat) (n:Int) (ll:List (List Int)) (hb:boxB x y n ll=true):PC Tryz.prog 299 [.g [dI x,dI y,dI n,eII ll]] (.p (.g [dI x,dI y,dI (n / gcdL n ll),eII (redL ll x y (gcdL n ll))])):=by
 have bs:=jbo hb;have n1:=bs.n1;have n2:=bs.n2;have hll:=bs.len;have hm:=jds (jct.2 ⟨⟨bs.x1,bs.x3⟩,bs.y1,bs.y3⟩);have hg:=jkb (ll:=ll) n1;refine jao Tryz.func299 fun _=>?_;repeat' (first|(refine jaa (.box 38 _) ?_;refine jax rfl rfl ?_)|(refine jaa (.alloc 38) ?_;refine jbi (zs:=[.int .i64 0,.int .i64 0,.int .i64 0,.slice none 0 0]) Kb rfl ?_)|apply zbh ?_|apply zaf ?_|apply zaa ?_|refine jai ?_|refine jaj ?_|refine jah ?_|refine jac ?_)
 apply jbe [1,2,3,4] [1,2,3031] rfl;exact Kh;exact Ybf;refine jbf [1,2] [1,2,3031] (fun i=>[(4,iN i),(3,iZ (gcdL n (ll.take i)))]) (fun i=>[]) (fun i=>i<=ll.length) (fun i=>ll.length - i) (0) ?_ Kg Kv ?_
 ·omega
 intro i hi;have h1:=jkb (ll:=ll.take i) n1;by_cases h:i < ll.length
 ·have hr:=jfj (bs.row i h);rw [<- jby h] at hr;have h4:=gcdL_snoc (d:=n) h;repeat' (first|apply zaa ?_|apply zab ?_|apply zaw ?_|apply zak ?_|apply zaq ?_|apply zac ?_|apply zae ?_|refine jai ?_|refine jaj ?_|refine jah ?_|refine jaq rfl ?_|refine jam ?_|refine jac ?_|refine jbd rfl (fun hc=>?_) (fun hc=>?_)|exact Qaa|fail)
  apply jbe [1,2,3,4,5] [1,2,3031] rfl;exact Kh;exact Ybf;refine jbf [1,2,4] [1,2,3031] (fun k=>[(5,iN k),(3,iZ (gcdR (gcdL n (ll.take i)) ((atZ ll i).take k)))]) (fun k=>[]) (fun k=>k<=4) (fun k=>4 - k) (0) ?_ Kg Kv ?_
  ·omega
  intro k hk;have h2:=jmd (row:=(atZ ll i).take k) h1.1;by_cases hk4:k < 4
  ·have hk5:k < (atZ ll i).length:=by omega
   have hv:=hr.2 k hk5;rw [<- jby hk5] at hv;have h3:=gcdR_snoc (d:=gcdL n (ll.take i)) hk5;repeat' (first|apply zap ?_|apply zaa ?_|apply zab ?_|apply zaw ?_|apply zak ?_|apply zac ?_|apply zao ?_|apply zat ?_|apply zal ?_|apply zad ?_|apply Ub (c:=l2Gcd_p _ _ Kf Kf) (h:=?_)|refine jai ?_|refine jaj ?_|refine jah ?_|refine jaz ?_|refine jaq rfl ?_|refine jam ?_|refine jac ?_|refine jbd rfl (fun hc=>?_) (fun hc=>?_)|exact Qaa|fail)
   refine bkL (k+1) ?_ ?_
   ·omega
   ·omega
  ·have e4:k=4:=by omega
   subst e4;have e5:(atZ ll i).take 4=atZ ll i:=List.take_of_length_le Kf;rw [e5];repeat' (first|apply zaa ?_|apply zab ?_|apply zac ?_|apply zad ?_|refine jai ?_|refine jaj ?_|refine jaz ?_|refine jaq rfl ?_|refine jac ?_|refine jay rfl ?_|exact Qaa|fail)
   refine bkL (i+1) ?_ ?_
   ·omega
   ·omega
 ·have e:i=ll.length:=by omega
  subst e;rw [List.take_length];repeat' (first|apply zaa ?_|apply zab ?_|apply zaw ?_|apply zak ?_|apply zaq ?_|apply zac ?_|apply zae ?_|(refine jaa (.store 38 _ _) ?_;(refine jan rfl rfl rfl Kb rfl rfl ?_))|apply Ua (c:=l2Times_p _ _ _ _ _ hb Kf) (h:=?_)|refine jai ?_|refine jaj ?_|refine jah ?_|refine jaq rfl ?_|refine jam ?_|refine jac ?_|refine jbd rfl (fun hc=>?_) (fun hc=>?_)|exact Qaa|fail)
  refine Rab ?_;rfl
theorem spReduceBox_p (x y n:Int) (ll:List (List Int)) (hb:boxB x y n ll=true):PC Tryz.prog 268 [.g [dI x,dI y,dI n,eII ll]] (.t [.g [dI x,dI y,dI (n / gcdL n ll),eII (redL ll x y (gcdL n ll))],.c (dB true)]):=by
 obtain ⟨x,y,rfl,rfl,hx,hy⟩:=jgg hb;refine jao Tryz.func268 fun _=>?_;repeat' (first|(refine jaa (.box 38 _) ?_;refine jax rfl rfl ?_)|(refine jaa (.alloc 38) ?_;refine jbi (zs:=[.int .i64 0,.int .i64 0,.int .i64 0,.slice none 0 0]) Kb rfl ?_)|apply zaa ?_|apply zae ?_|apply zag ?_|apply zcd ?_|(refine jaa (.store 38 _ _) ?_;(refine jan rfl rfl rfl Kb rfl rfl ?_))|apply Ub (c:=l2Box_p _ _ _ _) (h:=?_)|apply Ua (c:=l2Reduced_p _ _ _ _ hb) (h:=?_)|refine jai ?_|refine jaj ?_|refine jam ?_|refine jac ?_|refine jcu rfl (fun hc=>?_) (fun hc=>?_)|exact Qac|fail)
 refine Raf ?_;rfl
theorem l1Has_p (l:List Int) (x:Int) (h0:l.length<=100000000):PC Tryz.prog 262 [.c (eI l),.c (dI x)] (.p (.c (dB (l.contains x)))):=by
  refine jao Tryz.func262 fun _=>?_;repeat' (first|refine jac ?_|refine Maa ?_|fail)
  apply jbe [0,1,5] [] rfl;exact Ky;exact Yar;refine jbf [0,1] [] (fun k=>[(5,iN k)]) (fun k=>[]) (fun k=>k<=l.length/\x ∉ l.take k) (fun k=>l.length - k) (0) ?_ Kg Kv ?_
  · simp
  intro k hk;obtain ⟨hk,ht⟩:=hk;by_cases h:k < l.length
  · have e := List.take_succ_eq_append_getElem h
    rw [<- jby h] at e;by_cases hx:atZ l k=x
    · have hm:l.contains x=true:=by
        rw [List.contains_iff_mem,<- hx];exact jfm h
      repeat' (first|refine jac ?_|refine Maa ?_|refine jbd rfl (fun hc=>?_) (fun hc=>?_)|exact Qab|fail)
      refine Rad ?_;rw [hm]
    · repeat' (first|refine zaa ?_|refine zab ?_|refine zas ?_|refine zac ?_|refine zal ?_|refine zap ?_|refine zai ?_|refine zad ?_|refine jai ?_|refine jaj ?_|refine jah ?_|refine jaz ?_|refine jaq rfl ?_|refine jam ?_|refine jac ?_|refine jbd rfl (fun hc => ?_) (fun hc => ?_))
      all_goals try exact Qab
      refine bkL (k+1) ?_ ?_
      · refine ⟨by omega, ?_⟩
        rw [e,List.mem_append,not_or,List.mem_singleton];exact ⟨ht,fun hh=>hx hh.symm⟩
      · omega
  · repeat' (first|refine zaa ?_|refine zab ?_|refine zas ?_|refine zac ?_|refine zal ?_|refine zap ?_|refine zai ?_|refine zad ?_|refine jai ?_|refine jaj ?_|refine jah ?_|refine jaz ?_|refine jaq rfl ?_|refine jam ?_|refine jac ?_|refine jbd rfl (fun hc => ?_) (fun hc => ?_))
    all_goals try exact Qaa
    have h8:k=l.length:=by omega
    subst h8;rw [List.take_length] at ht;refine Rad ?_;simp [ht]
theorem l7Lists_p (cc:List (List Int)) (h1:cc.length<=1000000) (h2:∀ r∈cc,r.length<=1000000) (h3:∀ r∈cc,allB r 0 1000=true):PC Tryz.prog 261 [.c (eII cc),.c (dI 0)] (.p (.c (eII cc))):=by
 refine jao Tryz.func261 fun _=>?_;repeat' (first|refine jac ?_|refine Maa ?_|refine Wbo ?_|fail)
 apply jbe [0,1,5,6] [9,16,36,37,40,41] rfl;exact Kr;exact Yah;refine jbf [0,1] [16,36,37,40,41] (fun i=>[(6,iN i),(5,.c (.ls 9 1 0 i))]) (fun i=>[(9,.row 1 (cII (cc.take i)))]) (fun i=>i<=cc.length) (fun i=>cc.length - i) (0) ?_ Kg Kt ?_
 ·omega
 intro i hi;have L0:(cc.take i).length=i:=by simp;omega
 by_cases hi2:i < cc.length
 ·have hr:=h2 _ (jfm hi2);have hb:=h3 _ (jfm hi2);repeat' (first|refine jac ?_|refine Maa ?_|refine Wbq ?_|refine jbd rfl (fun hc=>?_) (fun hc=>?_))
  ·apply jbe [0,1,5,6,7,8] [9,16,36,37,40,41] rfl;exact Kr;exact Yah;refine jbf [0,1,5,6] [9,36,37,40,41] (fun k=>[(8,iN k),(7,.c (.ls 16 1 0 k))]) (fun k=>[(16,.row 1 (cI ((atZ cc i).take k)))]) (fun k=>k<=(atZ cc i).length) (fun k=>(atZ cc i).length - k) (0) ?_ Kg Kt ?_
   ·omega
   intro k hk;have L1:((atZ cc i).take k).length=k:=by simp;omega
   by_cases hk2:k < (atZ cc i).length
   ·exact Dar
   ·exact Daf
  ·exfalso; omega
 ·exact Das
theorem Vad {G G':Prop} (h:G') (t:Laa G'->G:=by intro h;first|(first|apply zdj h.o|exact Wbk h.o|apply zca h.o|exact Wbh h.o|exact Wbi h.o|exact jac h.o|exact Maa h.o|exact Wbb h.o|exact Wab h.o|exact Wak h.o|(refine jaa (.build 39 _) ?_;refine jab (jbt (cs:=[_,_,_]) [(0,1),(1,1),(2,1)] [.int .i64 0,.slice none 0 0,.slice none 0 0] Kb Kb rfl) rfl ?_;exact h.o)|exact Wan h.o|(refine jaa (.binOp .sub 3 _ _ _) ?_;(refine jab (jhr rfl rfl) rfl ?_);exact h.o)|fail);done|fail):G:=t ⟨h⟩
theorem joi (ev:Int) (cc:List (List Int)) (ss:List Int) (e:Int) (h:(sceneB ev cc ss&&inB e 0 (ev - 1))=false):PC Tryz.prog 214 [.g [dI ev,eII cc,eI ss],.c (dI e)] (.t [.g [dI 0,eII [],eI []],.c (dB false)]):=by
 have hw:sceneB ev cc ss=true->IntKind.i64.wrap (ev - 1)=ev - 1:=fun h=>by have:=jbv h;have a:=this.e0;have b:=this.e12;exact IntWalk.i64_in _ Kf
 refine jao Tryz.func214 fun _=>?_;repeat' (first|(with_reducible apply jeq)|intro Y hY|refine jdr ?_ ?_|refine jcv 3 (fun i=>i == 10) (IT.lt (.step 10 false .nil) fun Y1=>(IT.lt (.step 7 false (.step 8 true (IT.ref false [1,2,4,6,28] [2,4,24,27,6] Y1))) fun Y0=>(.step 0 true (.step 1 true (.step 2 true (.step 3 true (.step 5 true (.step 6 true (.alt 3 (.step 4 false (.alt 3 (.step 7 false (.step 8 true (.step 9 false (IT.ref true [1,2,4,6,28] [2,4,24,27,6] Y1)))) (.step 9 false (IT.ref true [1,2,4,6,21,24,26] [2,4,24,27,6] Y0)))) (.step 9 false (.step 4 false (IT.ref false [1,2,4,6,21,24,26] [2,4,24,27,6] Y0)))))))))))) ?_|apply Vad ?_|apply Ub (c:=l7Good_p _ _ _) (h:=?_)|apply Ub (c:=l1In_p _ _ _) (h:=?_)|refine jdf rfl rfl (fun hg=>?_) (fun hg=>?_)|refine jcu rfl (fun hc=>?_) (fun hc=>?_)|exact Qac|fail)
 all_goals refine Rag ?_
 all_goals simp
theorem spFlipEvent_p (ev:Int) (cc:List (List Int)) (ss:List Int) (e:Int) (hs:sceneB ev cc ss=true) (he:inB e 0 (ev - 1)=true):PC Tryz.prog 214 [.g [dI ev,eII cc,eI ss],.c (dI e)] (.t [.g [dI ev,eII cc,eI (evL cc ss e)],.c (dB true)]):=by
 have sp:=jbv hs;have e0:=sp.e0;have e12:=sp.e12;have c10:=sp.c10;have hsl:=sp.sl;have ctx:∀ r∈cc,r.length<=1000/\allB r 0 1000=true:=fun r hr=>by
  obtain ⟨i,hi,rfl⟩:=List.getElem_of_mem hr;exact jhq Kf (sp.ctx i hi)
 have hsb:∀ i:Nat,i < ss.length->0<=atZ ss i/\atZ ss i<=1:=fun i hi=>jdd sp.sb Kf Kf;refine jao Tryz.func214 fun _=>?_;repeat' (first|(with_reducible apply jeq)|intro Y hY|((with_reducible apply jff);exact Yak;(·rfl);exact Ko;exact Ko)|((with_reducible apply jfg);(·rfl);(·(repeat(first|exact Pf.nil|apply Pf.cons (.c rfl (.d rfl))|apply Pf.cons (.c rfl (.ls rfl))|apply Pf.cons (.c rfl (.lp rfl))|(apply Pf.cons;(·apply Nv.g rfl;(repeat(first|exact Ncs.nil rfl|(apply Ncs.cons rfl;(·(first|exact .d rfl|exact .ls rfl))))))))));exact Ybe;exact Yak)|refine jdr ?_ ?_|refine jcv 3 (fun i=>i == 10) (IT.lt (.step 10 false .nil) fun Y1=>(IT.lt (.step 7 false (.step 8 true (IT.ref false [1,2,4,6,28] [2,4,24,27,6] Y1))) fun Y0=>(.step 0 true (.step 1 true (.step 2 true (.step 3 true (.step 5 true (.step 6 true (.alt 3 (.step 4 false (.alt 3 (.step 7 false (.step 8 true (.step 9 false (IT.ref true [1,2,4,6,28] [2,4,24,27,6] Y1)))) (.step 9 false (IT.ref true [1,2,4,6,21,24,26] [2,4,24,27,6] Y0)))) (.step 9 false (.step 4 false (IT.ref false [1,2,4,6,21,24,26] [2,4,24,27,6] Y0)))))))))))) ?_|apply Vad ?_|apply Ub (c:=l7Good_p _ _ _) (h:=?_)|apply Ub (c:=l1In_p _ _ _) (h:=?_)|apply Ua (c:=l7Lists_p _ Kf (fun r hr=>by have:=(ctx r hr).1;omega) (fun r hr=>(ctx r hr).2)) (h:=?_)|apply Ua (c:=l1Own_p _ Kf) (h:=?_)|refine jdf rfl rfl (fun hg=>?_) (fun hg=>?_)|refine jcu rfl (fun hc=>?_) (fun hc=>?_)|exact Qac|fail)
 apply jbe [1,2,4,6,7] [2,4,6,24,27] rfl;exact Kh;exact Yaj;refine jbf [1,2,4,6] [2,4,24,6] (fun i=>[(7,iN i)]) (fun i=>[(27,.row 1 (cI (evM cc ss e i)))]) (fun i=>i<=cc.length) (fun i=>cc.length - i) (0) ?_ Kg (by (repeat(first|exact trivial|refine ⟨(by ((refine jbs rfl ?_;simp  [evM_zero];done))),?_⟩))) ?_
 ·omega
 intro i hi;by_cases h:i < cc.length
 ·have hl:=evM_len cc ss e i;have hat:=evM_at cc ss e (k:=i) Kf;have hb:=hsb i Kf;have hcl:=(ctx _ (jfm h)).1;by_cases hcn:(atZ cc (i:Int)).contains e=true
  ·have h4:=evM_hit (ss:=ss) Kf hcn;repeat' (first|refine jav 8 (fun i=>i == 10) [0,1,2,3,4,5,6,7,8,9,-11] ?_|refine Vad ?_|apply Ub (c:=l1Has_p _ _ Kf) (h:=?_)|refine jbd rfl (fun hc=>?_) (fun hc=>?_)|refine jeh rfl (fun hc=>?_) (fun hc=>?_)|exact Qab|fail)
   refine bkL (i+1) ?_ ?_ (hB:=(by (repeat(first|exact trivial|refine ⟨(by ((refine jbs rfl ?_;simp  [<- List.map_set,hat,h4];done))),?_⟩))))
   ·omega
   ·omega
  ·have h4:=evM_miss (ss:=ss) hcn;rw [h4];repeat' (first|refine jav 8 (fun i=>i == 10) [0,1,2,3,4,5,6,7,8,9,-11] ?_|refine Vad ?_|(refine jaa (.load 3 _) ?_;(refine jab (jdi rfl rfl Kb Kf Ybb) rfl ?_))|apply Ub (c:=l1Has_p _ _ Kf) (h:=?_)|refine jbd rfl (fun hc=>?_) (fun hc=>?_)|refine jeh rfl (fun hc=>?_) (fun hc=>?_)|exact Qab|fail)
   refine bkL (i+1) ?_ ?_
   ·omega
   ·omega
 ·have e1:i=cc.length:=by omega
  subst e1;rw [<- hsl,evM_all];repeat' (first|refine Vad ?_|refine jbd rfl (fun hc=>?_) (fun hc=>?_)|exact Qaa|fail)
  refine Rah ?_;simp [hsl]
theorem l12One_p (n a:Int) (h:inB a 0 (n - 1)=true) (hn:n<=1000):PC Tryz.prog 266 [.c (dI n),.c (dI a)] (.p (.c (eI (oneL n.toNat a)))):=by
 have h3:=jcx.1 h;obtain ⟨m,rfl⟩:∃ m:Nat,n=m:=⟨n.toNat,by omega⟩;obtain ⟨k,rfl⟩:∃ k:Nat,a=k:=⟨a.toNat,by omega⟩;refine jao Tryz.func266 fun _=>?_;repeat' (first|apply zca ?_|refine jac ?_|refine Maa ?_|refine Waa ?_|refine Wab ?_|exact Qaa|fail)
 refine Raa ?_;simp [oneL,List.map_set]
end
end Go.Proofs.YtbhbkbnlpackdaaGreatDoor
