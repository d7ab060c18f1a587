/- What the functions that FnExactExecuteCommand alone reaches return: part of its proof. No condition beyond those of its theorems. -/
import Derived.Test.YtbhbkbnlpackdaaGreatDoorKfnsB
import Derived.Test.YtbhbkbnlpackdaaGreatDoorKplainA
import Derived.Test.YtbhbkbnlpackdaaGreatDoorKplainC
import Derived.Test.YtbhbkbnlpackdaaGreatDoorKfnsA
import Derived.Test.YtbhbkbnlpackdaaGreatDoorKfnsD
import Derived.Test.YtbhbkbnlpackdaaGreatDoorKfnsO
import Derived.Test.YtbhbkbnlpackdaaGreatDoorKfnsN
import Derived.Test.YtbhbkbnlpackdaaGreatDoorKfnsR
import Derived.Test.YtbhbkbnlpackdaaGreatDoorKfnsQ
set_option linter.unusedSectionVars false
set_option maxRecDepth 10000
set_option maxHeartbeats 4000000
set_option linter.unusedVariables false
set_option linter.unusedSimpArgs false
namespace Go.Proofs.YtbhbkbnlpackdaaGreatDoor
open Go.RowKit
section
variable [Glb]
def cz64 (n:Int):Int:=max (-9223372036854775808) (min n 9223372036854775807)
theorem cz64_bd (n:Int) : -9223372036854775808<=cz64 n/\cz64 n<=9223372036854775807:=by unfold cz64; omega
def cz64LL (ll:List (List Int)):List (List Int):=ll.map fun l=>l.map cz64
theorem cz64LL_bd (ll:List (List Int)):∀ r∈cz64LL ll,∀ k:Nat,k < r.length -> -9223372036854775808<=atZ r (k:Int)/\atZ r (k:Int)<=9223372036854775807:=fun r hr k hk=>by
 obtain ⟨l,hl,rfl⟩:=List.mem_map.1 hr;rw [jby hk,List.getElem_map];exact cz64_bd _
section
variable {P:Program} {T E F:TypeId}
theorem pr_cz (hT:P.underlying T=some (.int .i64)):PR P T fun n:Int=>[dI (cz64 n)]:=by
 intro H enc W fuel cs x h;obtain ⟨n,rfl,-,hw⟩:=DataW.trod_int hT h;have e:cz64 n=n:=by
  simp [Lit.wf,IntKind.min,IntKind.max,IntKind.signed,IntKind.bits] at hw;unfold cz64;omega
 exact ⟨n,by show VwD W _ [dI (cz64 n)];rw [e];exact .one (.lit _ rfl)⟩
theorem pr_wLL (hT:P.underlying T=some (.slice E)) (hE:P.underlying E=some (.slice F)) (hF:P.underlying F=some (.int .i64)) (cE:P.cellsOf E=1) (cF:P.cellsOf F=1):PR P T fun ll:List (List Int)=>[eII (cz64LL ll)]:=by
 have a:PR P T fun ll:List (List Int)=>[.sl 1 ll.length (ll.map fun l => .sl 1 l.length (l.map fun n=>dI (cz64 n)))]:=jnd hT (jnd hE (pr_cz hF) cF) cE;intro H enc W fuel cs x h;obtain ⟨y,hy⟩:=a enc W fuel cs x h;refine ⟨y,?_⟩;have e:eII (cz64LL y) = .sl 1 y.length (y.map fun l => .sl 1 l.length (l.map fun n=>dI (cz64 n))):=by
  unfold eII cz64LL cII;rw [List.length_map,List.map_map];congr 1;refine List.map_congr_left fun l _=>?_;show D.sl 1 (l.map cz64).length ((l.map cz64).map fun n=>dI n)=_;rw [List.length_map,List.map_map];rfl
 show VwD W cs [eII (cz64LL y)];rw [e];exact hy
end
theorem heldIntS_p (l:List Int) (n:Nat) (k:Int) (e:l=mkI k n) (h0:0<=k) (h1:k+n<=1099511627776):PC Tryz.prog 85 [.c (eI l),.c (dI k)] (.p (.c (dI (k+n)))):=by
 subst e;refine jao Tryz.func85 ?_;rintro -;repeat' (first|refine jac ?_|refine Maa ?_|fail)
 apply jbe [0,1,5] [] rfl;exact Ky;exact Yar;refine jbf [0] [] (fun j=>[(5,iN j),(1,iZ (k+j))]) (fun _=>[]) (fun j=>j<=n) (fun j=>n - j) (0) ?_ Ybj Kv ?_
 ·simp
 intro j hj;have hn:=mkI_len k n;repeat' (first|refine jac ?_|refine Maa ?_|refine jbd rfl (fun hc=>?_) (fun hc=>?_))
 ·rename_i hj';have hj2:j < n:=by simp at *;omega
  rw [jby (by simpa using hj2),mkI_get] at hc;exact absurd rfl hc
 ·rename_i hj';have hj2:j < n:=by simp at *;omega
  refine bkL (j+1) ?_ ?_
  ·omega
  ·omega
 ·have:j=n:=by simp at *;omega
  subst this;refine Rad ?_;rfl
theorem heldIntS_k (n:Nat) (k:Int) (h0:0<=k) (h1:k+n<=1099511627776):PC Tryz.prog 85 [.c (.sl 1 n (cI (mkI k n))),.c (dI k)] (.p (.c (dI (k+n)))):=by
 have:=heldIntS_p (mkI k n) n k rfl h0 h1;simp only [eI,mkI_len] at this;exact this
theorem mkII_atZ {ll:List (List Int)} {k:Int} {j:Nat} (h:j < ll.length):atZ (mkII k ll) (j:Int)=mkI (k+cnt (ll.take j)) ll[j].length:=by
 unfold atZ;rw [Int.toNat_natCast,List.getD_eq_getElem?_getD,mkII_at h];rfl
theorem heldIntSS_p (lk ll:List (List Int)) (k:Int) (e:lk=mkII k ll) (h0:0<=k) (h1:k+cnt ll<=1099511627776):PC Tryz.prog 143 [.c (eII lk),.c (dI k)] (.p (.c (dI (k+cnt ll)))):=by
 subst e;refine jao Tryz.func143 ?_;rintro ⟨hl,-⟩;have hl:=hl.len;rw [mkII_len] at hl;repeat' (first|refine jac ?_|refine Maa ?_|fail)
 apply jbe [0,1,5] [] rfl;exact Ky;exact Yar;refine jbf [0] [] (fun j=>[(5,iN j),(1,iZ (k+cnt (ll.take j)))]) (fun _=>[]) (fun j=>j<=ll.length) (fun j=>ll.length - j) (0) ?_ (by (repeat(first|exact trivial|refine ⟨(by (first|rfl|(refine jcd rfl ?_;((simp  [cnt];done))))),?_⟩))) Kv ?_
 ·simp
 intro j hj;have hn:=mkII_len k ll;have hle:=jny ll (j+1);have hst:∀ h:j < ll.length,_:=fun h=>cnt_take ll j h;repeat' (first|refine jac ?_|refine Maa ?_|apply Ub (c := heldIntS_p _ (ll[j]'Kf).length _ (mkII_atZ Kf) Kf (by have := hst Kf;omega)) (h := ?_)|refine jbd rfl (fun hc => ?_) (fun hc => ?_))
 ·rename_i hj';have:=hst Kf;exfalso; omega
 ·rename_i hj';have:=hst Kf;refine bkL (j+1) ?_ ?_
  ·omega
  ·omega
 ·have:j=ll.length:=by omega
  subst this;refine Rad ?_;simp
theorem jnp (ll:List (List Int)) (k:Int) (h0:0<=k) (h1:k+cnt ll<=1099511627776):PC Tryz.prog 143 [.c (.sl 1 ll.length (cII (mkII k ll))),.c (dI k)] (.p (.c (dI (k+cnt ll)))):=by
 have:=heldIntSS_p (mkII k ll) ll k rfl h0 h1;simp only [eII,mkII_len] at this;exact this
theorem heldBox_k (x:Int) (y:Int) (wh:Int) (ll:List (List Int)) (k:Int) (h0:0<=k) (h1:k+cnt ll<=1099511627776):PC Tryz.prog 84 [.g [dI x,dI y,dI wh,.sl 1 ll.length (cII (mkII (k) ll))],.c (dI k)] (.p (.c (dI (k+cnt ll)))):=by
 refine jao Tryz.func84 fun _=>?_;repeat' (first|refine jac ?_|refine Maa ?_|refine Wba ?_|apply Ub (c:=jnp _ _ Kf Kf) (h:=?_)|refine jbd rfl (fun hc=>?_) (fun hc=>?_)|exact Qaa|fail)
 ·refine Rad ?_;rfl
theorem heldScene_k (ev:Int) (cc:List (List Int)) (ss:List Int) (k:Int) (h0:0<=k) (h1:k+cnt cc+ss.length<=1099511627776):PC Tryz.prog 86 [.g [dI ev,.sl 1 cc.length (cII (mkII (k) cc)),.sl 1 ss.length (cI (mkI (k+cnt cc) ss.length))],.c (dI k)] (.p (.c (dI (k+cnt cc+ss.length)))):=by
 refine jao Tryz.func86 fun _=>?_;repeat' (first|refine jac ?_|refine Maa ?_|refine Wbb ?_|apply Ub (c:=jnp _ _ Kf Kf) (h:=?_)|apply Ub (c:=heldIntS_k _ _ Kf Kf) (h:=?_)|refine jbd rfl (fun hc=>?_) (fun hc=>?_)|exact Qaa|fail)
 ·refine Rad ?_;rfl
theorem heldHall_k (box:Int) (boy:Int) (bowh:Int) (boll:List (List Int)) (pl:List Int) (scev:Int) (sccc:List (List Int)) (scss:List Int) (nu:List Int) (co:Int) (k:Int) (h0:0<=k) (h1:k+cnt boll+pl.length+cnt sccc+scss.length+nu.length<=1099511627776):PC Tryz.prog 54 [.g [dI box,dI boy,dI bowh,.sl 1 boll.length (cII (mkII (k) boll)),.sl 1 pl.length (cI (mkI (k+cnt boll) pl.length)),dI scev,.sl 1 sccc.length (cII (mkII (k+cnt boll+pl.length) sccc)),.sl 1 scss.length (cI (mkI (k+cnt boll+pl.length+cnt sccc) scss.length)),.sl 1 nu.length (cI (mkI (k+cnt boll+pl.length+cnt sccc+scss.length) nu.length)),dI co],.c (dI k)] (.p (.c (dI (k+cnt boll+pl.length+cnt sccc+scss.length+nu.length)))):=by
 refine jao Tryz.func54 fun _=>?_;repeat' (first|refine jac ?_|refine Maa ?_|refine Wbc ?_|apply Ub (c:=heldBox_k _ _ _ _ _ Kf Kf) (h:=?_)|apply Ub (c:=heldIntS_k _ _ Kf Kf) (h:=?_)|apply Ub (c:=heldScene_k _ _ _ _ Kf Kf) (h:=?_)|refine jbd rfl (fun hc=>?_) (fun hc=>?_)|exact Qaa|fail)
 ·refine Rad ?_;rfl
theorem heldConsole_k (hbox:Int) (hboy:Int) (hbowh:Int) (hboll:List (List Int)) (hpl:List Int) (hscev:Int) (hsccc:List (List Int)) (hscss:List Int) (hnu:List Int) (hco:Int) (ldu:Tx) (lpe:Tx) (llc:Int) (k:Int) (h0:0<=k) (h1:k+cnt hboll+hpl.length+cnt hsccc+hscss.length+hnu.length<=1099511627776):PC Tryz.prog 24 [.g [dI hbox,dI hboy,dI hbowh,.sl 1 hboll.length (cII (mkII (k) hboll)),.sl 1 hpl.length (cI (mkI (k+cnt hboll) hpl.length)),dI hscev,.sl 1 hsccc.length (cII (mkII (k+cnt hboll+hpl.length) hsccc)),.sl 1 hscss.length (cI (mkI (k+cnt hboll+hpl.length+cnt hsccc) hscss.length)),.sl 1 hnu.length (cI (mkI (k+cnt hboll+hpl.length+cnt hsccc+hscss.length) hnu.length)),dI hco,dT ldu,dT lpe,dI llc],.c (dI k)] (.p (.c (dI (k+cnt hboll+hpl.length+cnt hsccc+hscss.length+hnu.length)))):=by
 refine jao Tryz.func24 fun _=>?_;repeat' (first|refine jac ?_|refine Maa ?_|refine Wbe ?_|apply Ub (c:=heldHall_k _ _ _ _ _ _ _ _ _ _ _ Kf Kf) (h:=?_)|refine jbd rfl (fun hc=>?_) (fun hc=>?_)|exact Qaa|fail)
 ·refine Rad ?_;rfl
theorem shiftedB_p (ev:Int) (cc:List (List Int)) (ss:List Int) (h1:cc.length<=1100000) (h2:∀ r∈cc,r.length<=1100000) (h3:∀ r∈cc,∀ k:Nat,k < r.length -> -9223372036854775808<=atZ r (k:Int)/\atZ r (k:Int)<=9223372036854775807):PC Tryz.prog 75 [.g [dI ev,eII cc,eI ss],.c (dI 0)] (.p (.c (eII cc))):=by
 refine jao Tryz.func75 fun _=>?_;repeat' (first|refine jac ?_|refine Maa ?_|refine Wbb ?_|refine Wbo ?_|fail)
 apply jbe [1,5,13,14,15] [2,11,19,30,31,35,36] rfl;exact Kr;exact Ybe;refine jbf [1,13,14] [2,19,30,31,35,36] (fun i=>[(15,iN i),(5,.c (.ls 11 1 0 i))]) (fun i=>[(11,.row 1 (cII (cc.take i)))]) (fun i=>i<=cc.length) (fun i=>cc.length - i) (0) ?_ Kg Kt ?_
 ·omega
 intro i hi;have L0:(cc.take i).length=i:=by simp;omega
 by_cases hi2:i < cc.length
 ·have hr:=h2 _ (jfm hi2);have hb:=h3 _ (jfm hi2);repeat' (first|refine jac ?_|refine Maa ?_|refine Wbq ?_|refine jbd rfl (fun hc=>?_) (fun hc=>?_))
  ·apply jbe [1,5,8,13,14,15,20,21,22] [2,11,19,30,31,35,36] rfl;exact Kr;exact Ybe;refine jbf [1,5,13,14,15,20,21] [2,11,30,31,35,36] (fun k=>[(22,iN k),(8,.c (.ls 19 1 0 k))]) (fun k=>[(19,.row 1 (cI ((atZ cc i).take k)))]) (fun k=>k<=(atZ cc i).length) (fun k=>(atZ cc i).length - k) (0) ?_ Kg Kt ?_
   ·omega
   intro k hk;have L1:((atZ cc i).take k).length=k:=by simp;omega
   by_cases hk2:k < (atZ cc i).length
   ·have e:=List.take_succ_eq_append_getElem hk2;rw [<- jby hk2] at e;have vb:=hb k hk2;repeat' (first|refine jac ?_|refine Maa ?_|refine Wbr ?_|refine Wbt ?_|refine Wbu ?_|refine Wbv ?_|refine jbd rfl (fun hc=>?_) (fun hc=>?_)|exact Qaa|fail)
    refine bkL (k+1) ?_ ?_ (hB:=(by (repeat(first|exact trivial|refine ⟨(by ((refine jbs rfl ?_;simp  [e];done))),?_⟩))))
    ·omega
    ·omega
   ·exact Daf
  ·exfalso; omega
 ·exact Das
theorem Vby {G G':Prop} (h:G') (t:Laa G'->G:=by intro h;first|(first|exact Wbk h.o|exact jac h.o|exact Maa h.o|exact Wbc h.o|exact Waf h.o|exact Wam h.o|exact Wbm h.o|exact Wbn h.o|exact Wbv h.o|exact Waq h.o|exact War h.o|exact Wbo h.o|fail);done|fail):G:=t ⟨h⟩
theorem ownB_p (bx by_ bwh:Int) (bll:List (List Int)) (pl:List Int) (ev:Int) (cc:List (List Int)) (ss nu:List Int) (co:Int) (h1:bll.length<=1100000) (h2:∀ r∈bll,r.length<=1100000) (h3:cc.length<=1100000) (h4:∀ r∈cc,r.length<=1100000)
  (h8:∀ r∈cc,∀ k:Nat,k < r.length -> -9223372036854775808<=atZ r (k:Int)/\atZ r (k:Int)<=9223372036854775807) (h5:pl.length<=1100000) (h6:ss.length<=1100000) (h7:nu.length<=1100000) :
  PC Tryz.prog 50 [.g [dI bx,dI by_,dI bwh,eII bll,eI pl,dI ev,eII cc,eI ss,eI nu,dI co]] (.p (.g [dI bx,dI by_,dI bwh,eII bll,eI pl,dI ev,eII cc,eI ss,eI nu,dI co])):=by
 refine jao Tryz.func50 fun _=>?_;repeat' (first|refine Vby ?_|fail)
 apply jbe [1,2,3,9,10,11] [1,2,6,17,18,19,26,30,37,40] rfl;exact Kk;exact Ybe;refine jbf [1,2,9,10] [1,2,17,18,19,26,30,37,40] (fun i=>[(11,iN i),(3,.c (.ls 6 1 0 i))]) (fun i=>[(6,.row 1 (cII (bll.take i)))]) (fun i=>i<=bll.length) (fun i=>bll.length - i) (0) ?_ Kg Kt ?_
 ·omega
 intro i hi;have L0:(bll.take i).length=i:=by simp;omega
 by_cases hi2:i < bll.length
 ·have hr:=h2 _ (jfm hi2);have e:=List.take_succ_eq_append_getElem hi2;rw [<- jby hi2] at e;repeat' (first|refine jav 8 (fun i=>i == 9 || i == 12) [0,1,3,4,5,-3,7,8,-7,-10,10,11,-13] ?_|refine Vby ?_|apply Ua (c:=copied_p _ Kf) (h:=?_)|refine jbd rfl (fun hc=>?_) (fun hc=>?_)|exact Qaa|fail)
  refine bkL (i+1) ?_ ?_ (hB:=(by (repeat(first|exact trivial|refine ⟨(by ((refine jbs rfl ?_;simp  [e];done))),?_⟩))))
  ·omega
  ·omega
 ·have h8:i=bll.length:=by omega
  subst h8;rw [List.take_length];repeat' (first|refine jav 8 (fun i=>i == 9 || i == 12) [0,1,3,4,5,-3,7,8,-7,-10,10,11,-13] ?_|refine jav 9 (fun i=>i == 7 || i == 9) [0,1,3,4,-3,6,-6,-8,8,-10] ?_|refine Vby ?_|apply Ua (c:=copied_p _ Kf) (h:=?_)|apply Ua (c:=shiftedB_p _ _ _ h3 h4 h8) (h:=?_)|refine jbd rfl (fun hc=>?_) (fun hc=>?_)|exact Qaa|fail)
  refine Rac ?_;rfl
theorem l1OwnB_p (l:List Int) (h:l.length<=1100000):PC Tryz.prog 67 [.c (eI l)] (.p (.c (eI l))):=Dbm
theorem Vbz {G G':Prop} (h:G') (t:Laa G'->G:=by intro h;first|(first|exact Wbk h.o|exact jac h.o|exact Maa h.o|exact Wbc h.o|exact Waf h.o|exact Wam h.o|exact Wbm h.o|exact Wbn h.o|exact Wbv h.o|exact Waq h.o|exact War h.o|exact Wbo h.o|fail);done|fail):G:=t ⟨h⟩
theorem l12OwnB_p (bx by_ bwh:Int) (bll:List (List Int)) (pl:List Int) (ev:Int) (cc:List (List Int)) (ss nu:List Int) (co:Int) (h1:bll.length<=1100000) (h2:∀ r∈bll,r.length<=1100000) (h3:cc.length<=1100000) (h4:∀ r∈cc,r.length<=1100000)
  (h5:pl.length<=1100000) (h6:ss.length<=1100000) (h7:nu.length<=1100000) :
  PC Tryz.prog 46 [.g [dI bx,dI by_,dI bwh,eII bll,eI pl,dI ev,eII cc,eI ss,eI nu,dI co]] (.p (.g [dI bx,dI by_,dI bwh,eII bll,eI pl,dI ev,eII cc,eI ss,eI nu,dI co])):=by
 refine jao Tryz.func46 fun _=>?_;repeat' (first|refine Vbz ?_|fail)
 apply jbe [1,2,3,4] [1,2,3,7,27,28,29,34,36,56,57,58,64,69] rfl;exact Kh;exact Ki;refine jbf [1,2,3] [1,2,27,28,29,34,36,56,57,58,64,69] (fun i=>[(4,iN i)]) (fun i=>[(3,.box [.d (dI bx),.d (dI by_),.d (dI bwh),.ls 7 1 0 i,.d (eI pl),.d (dI ev),.d (eII cc),.d (eI ss),.d (eI nu),.d (dI co)]),(7,.row 1 (cII (bll.take i)))]) (fun i=>i<=bll.length) (fun i=>bll.length - i) (0) ?_ Kg Yag ?_
 ·omega
 intro i hi;have L0:(bll.take i).length=i:=by simp;omega
 by_cases hi2:i < bll.length
 ·have hr:=h2 _ (jfm hi2);have e:=List.take_succ_eq_append_getElem hi2;rw [<- jby hi2] at e;repeat' (first|refine jav 6 (fun i=>i == 11 || i == 14) [0,1,2,3,4,5,6,7,8,-10,-11,-12,12,13,-15] ?_|refine Vbz ?_|apply Ua (c:=l1OwnB_p _ Kf) (h:=?_)|refine jbd rfl (fun hc=>?_) (fun hc=>?_)|exact Qaa|fail)
  refine bkL (i+1) ?_ ?_ (hB:=(by (repeat(first|exact trivial|refine ⟨(by (first|(refine jbs rfl ?_;simp  [e];done)|rfl)),?_⟩))))
  ·omega
  ·omega
 ·have h8:i=bll.length:=by omega
  subst h8;rw [List.take_length];repeat' (first|refine jav 6 (fun i=>i == 11 || i == 14) [0,1,2,3,4,5,6,7,8,-10,-11,-12,12,13,-15] ?_|refine Vbz ?_|apply Ua (c:=l1OwnB_p _ Kf) (h:=?_)|refine jbd rfl (fun hc=>?_) (fun hc=>?_)|exact Qaa|fail)
  apply jbe [1,2,3,5] [1,2,3,7,27,28,29,34,36,56,57,58,64,69] rfl;exact Kh;exact Ki;refine jbf [1,2,3] [1,2,7,27,28,29,34,56,57,58,64,69] (fun i=>[(5,iN i)]) (fun i=>[(3,.box [.d (dI bx),.d (dI by_),.d (dI bwh),.ls 7 1 0 bll.length,.ls 34 1 0 pl.length,.d (dI ev),.ls 36 1 0 i,.d (eI ss),.d (eI nu),.d (dI co)]),(36,.row 1 (cII (cc.take i)))]) (fun i=>i<=cc.length) (fun i=>cc.length - i) (0) ?_ Kg Yag ?_
  ·omega
  intro i hi;have L0:(cc.take i).length=i:=by simp;omega
  by_cases hi2:i < cc.length
  ·have hr:=h4 _ (jfm hi2);have e:=List.take_succ_eq_append_getElem hi2;rw [<- jby hi2] at e;repeat' (first|refine jav 12 (fun i=>i == 11 || i == 14) [0,1,2,3,4,5,6,7,8,-10,-11,-12,12,13,-15] ?_|refine Vbz ?_|apply Ua (c:=l1OwnB_p _ Kf) (h:=?_)|refine jbd rfl (fun hc=>?_) (fun hc=>?_)|exact Qaa|fail)
   refine bkL (i+1) ?_ ?_ (hB:=(by (repeat(first|exact trivial|refine ⟨(by (first|(refine jbs rfl ?_;simp  [e];done)|rfl)),?_⟩))))
   ·omega
   ·omega
  ·have h8:i=cc.length:=by omega
   subst h8;rw [List.take_length];repeat' (first|refine jav 12 (fun i=>i == 11 || i == 14) [0,1,2,3,4,5,6,7,8,-10,-11,-12,12,13,-15] ?_|refine Vbz ?_|apply Ua (c:=l1OwnB_p _ Kf) (h:=?_)|refine jbd rfl (fun hc=>?_) (fun hc=>?_)|exact Qaa|fail)
   refine Rac ?_;rfl
end
section
variable [Glb]
variable [GTab Tryz.prog tabNm]
theorem jlf (bx by_ bwh:Int) (bll:List (List Int)) (pl:List Int) (ev:Int) (cc:List (List Int)) (ss nu:List Int) (co:Int) (d p:Tx) (c:Int) (line:Tx) (h1:bll.length<=1100000) (h2:∀ r∈bll,r.length<=1100000) (h3:cc.length<=1100000) (h4:∀ r∈cc,r.length<=1100000)
  (h8:∀ r∈cc,∀ k:Nat,k < r.length -> -9223372036854775808<=atZ r (k:Int)/\atZ r (k:Int)<=9223372036854775807) (h5:pl.length<=1100000) (h6:ss.length<=1100000) (h7:nu.length<=1100000) (hbd:(d.length:Int)+p.length<=1000000000) (hN:(hallB bx by_ bwh bll pl ev cc ss nu co&&validB d p c)=false) :
  PC Tryz.prog 23 [.g [dI bx,dI by_,dI bwh,eII bll,eI pl,dI ev,eII cc,eI ss,eI nu,dI co,dT d,dT p,dI c],.c (dT line)] (.t [.g [dI bx,dI by_,dI bwh,eII bll,eI pl,dI ev,eII cc,eI ss,eI nu,dI co,dT d,dT p,dI c],.c (dT noT)]):=by
 have ow:=ownB_p bx by_ bwh bll pl ev cc ss nu co h1 h2 h3 h4 h8 h5 h6 h7;have iv:=IsValidConsole_p bx by_ bwh bll pl ev cc ss nu co d p c hbd;rw [hN] at iv;clear hN h2 h4 h8;refine jao Tryz.func23 fun _=>?_;repeat' (first|(with_reducible apply jeq)|intro Y hY|((with_reducible apply jff);exact Yak;(·rfl);exact Ko;exact Ko)|((with_reducible apply jfg);(·rfl);exact Kz;exact Ybl;exact Yak)|refine jdr ?_ ?_|refine jac ?_|apply Wcz ?_|apply Maa ?_|apply Wbe ?_|apply Waz ?_|apply zcr ?_|apply Way ?_|apply Ua (c:=ow) (h:=?_)|apply Ub (c:=iv) (h:=?_))
 all_goals first|(exfalso;omega)|(exfalso;simp at *;done)|skip
 all_goals refine Rat ?_
 all_goals rfl
theorem jiy (bx by_ bwh:Int) (bll:List (List Int)) (pl:List Int) (ev:Int) (cc:List (List Int)) (ss nu:List Int) (co:Int) (d p:Tx) (c:Int) (line:Tx) (h1:bll.length<=1100000) (h2:∀ r∈bll,r.length<=1100000) (h3:cc.length<=1100000) (h4:∀ r∈cc,r.length<=1100000)
  (h5:pl.length<=1100000) (h6:ss.length<=1100000) (h7:nu.length<=1100000) (hbd:(d.length:Int)+p.length<=1000000000) (hN:(hallB bx by_ bwh bll pl ev cc ss nu co&&validB d p c)=false) :
  PC Tryz.prog 22 [.g [dI bx,dI by_,dI bwh,eII bll,eI pl,dI ev,eII cc,eI ss,eI nu,dI co,dT d,dT p,dI c],.c (dT line)] (.t [.g [dI bx,dI by_,dI bwh,eII bll,eI pl,dI ev,eII cc,eI ss,eI nu,dI co,dT d,dT p,dI c],.c (dT noT)]):=by
 have ow:=l12OwnB_p bx by_ bwh bll pl ev cc ss nu co h1 h2 h3 h4 h5 h6 h7;have iv:=spIsValidConsole_p bx by_ bwh bll pl ev cc ss nu co d p c hbd;rw [hN] at iv;clear hN h2 h4;refine jao Tryz.func22 fun _=>?_;repeat' (first|(with_reducible apply jeq)|intro Y hY|((with_reducible apply jff);exact Yak;(·rfl);exact Ko;exact Ko)|((with_reducible apply jfg);(·rfl);exact Kz;exact Ybl;exact Yak)|refine jdr ?_ ?_|refine jac ?_|apply Wcz ?_|apply Maa ?_|apply Wbe ?_|apply Waz ?_|apply zcr ?_|apply Way ?_|apply Ua (c:=ow) (h:=?_)|apply Ub (c:=iv) (h:=?_))
 all_goals first|(exfalso;omega)|(exfalso;simp at *;done)|skip
 all_goals refine Rat ?_
 all_goals rfl
end
section
variable [Glb]
variable [GTab Tryz.prog tabNm]
variable [GErr Tryz.prog]
theorem row_cnt:∀ {ll:List (List Int)} {r:List Int},r∈ll->r.length<=cnt ll
 | [],_,h=>by cases h
 | a :: ll,r,h=>by
  have e:cnt (a :: ll)=a.length+cnt ll:=by simp [cnt]
  rcases List.mem_cons.1 h with rfl|h
  ·omega
  ·have:=row_cnt h; omega
theorem execute_both (bx by_ bwh:Int) (bll:List (List Int)) (pl:List Int) (ev:Int) (cc:List (List Int)) (ss nu:List Int) (co:Int) (d p:Tx) (c:Int) (line:Tx) (hcc:∀ r∈cc,∀ k:Nat,k < r.length -> -9223372036854775808<=atZ r (k:Int)/\atZ r (k:Int)<=9223372036854775807) (hz:bll.length+cnt bll+pl.length+cc.length+cnt cc+ss.length+nu.length+d.length+p.length<=1048576) :
  ∃ (rx ry rwh : Int) (rll : List (List Int)) (rpl : List Int) (rev : Int) (rcc : List (List Int)) (rss rnu : List Int) (rco : Int) (rp : Tx) (rc : Int) (rep : Tx), (rll.length + cnt rll + rpl.length + rcc.length + cnt rcc + rss.length + rnu.length <= 2000000) /\
   PC Tryz.prog 23 [.g [dI bx,dI by_,dI bwh,eII bll,eI pl,dI ev,eII cc,eI ss,eI nu,dI co,dT d,dT p,dI c],.c (dT line)] (.t [.g [dI rx,dI ry,dI rwh,eII rll,eI rpl,dI rev,eII rcc,eI rss,eI rnu,dI rco,dT d,dT rp,dI rc],.c (dT rep)]) /\
   PC Tryz.prog 22 [.g [dI bx,dI by_,dI bwh,eII bll,eI pl,dI ev,eII cc,eI ss,eI nu,dI co,dT d,dT p,dI c],.c (dT line)] (.t [.g [dI rx,dI ry,dI rwh,eII rll,eI rpl,dI rev,eII rcc,eI rss,eI rnu,dI rco,dT d,dT rp,dI rc],.c (dT rep)]):=by
 cases hN:(hallB bx by_ bwh bll pl ev cc ss nu co&&validB d p c) with
 | false =>
  have h2:∀ r∈bll,r.length<=1100000:=fun r hr=>by have:=row_cnt hr;omega
  have h4:∀ r∈cc,r.length<=1100000:=fun r hr=>by have:=row_cnt hr;omega
  exact ⟨bx,by_,bwh,bll,pl,ev,cc,ss,nu,co,p,c,noT,by omega,jlf bx by_ bwh bll pl ev cc ss nu co d p c line Kf h2 Kf h4 hcc Kf Kf Kf Kf hN,jiy bx by_ bwh bll pl ev cc ss nu co d p c line Kf h2 Kf h4 Kf Kf Kf Kf hN⟩
 | true =>
  simp only [Bool.and_eq_true] at hN;obtain ⟨hB,hV⟩:=hN;have hv:=exeC_val (h:=⟨bx,by_,bwh,bll,pl,ev,cc,ss,nu,co⟩) (d:=d) (p:=p) (c:=c) line hB hV;obtain ⟨⟨⟨rx,ry,rwh,rll,rpl,rev,rcc,rss,rnu,rco⟩,⟨rp,rc⟩,rep⟩,he⟩:∃ z,exeC ⟨bx,by_,bwh,bll,pl,ev,cc,ss,nu,co⟩ d p c line=z:=⟨_,rfl⟩;rw [he] at hv;obtain ⟨k1,k2,k3,k4,k5,k6,k7⟩:=next_cnt (bx:=rx) (by_:=ry) (bwh:=rwh) (bll:=rll) (pl:=rpl) (ev:=rev) (cc:=rcc) (ss:=rss) (nu:=rnu) (co:=rco) (ok:=true) ⟨fun _=>hv.1,fun h=>by simp at h⟩;exact ⟨rx,ry,rwh,rll,rpl,rev,rcc,rss,rnu,rco,rp,rc,rep,by omega,ExecuteCommandI_p bx by_ bwh bll pl ev cc ss nu co d p c line hB hV rx ry rwh rll rpl rev rcc rss rnu rco rp rc rep he,spExecuteCommandI_p bx by_ bwh bll pl ev cc ss nu co d p c line hB hV rx ry rwh rll rpl rev rcc rss rnu rco rp rc rep he⟩
theorem Vca {G G':Prop} (h:G') (t:Laa G'->G:=by intro h;first|(first|exact Wby h.o|exact Wbi h.o|exact Maa h.o|exact Wax h.o|apply zdz h.o|exact Way h.o|exact Waz h.o|fail);done|fail):G:=t ⟨h⟩
theorem FnExactExecuteCommand_p (bx by_ bwh:Int) (bll:List (List Int)) (pl:List Int) (ev:Int) (cc:List (List Int)) (ss nu:List Int) (co:Int) (d p:ByteArray) (n:Int) (line:ByteArray):PC Tryz.prog 5 [.g [dI bx,dI by_,dI bwh,eII (cz64LL bll),eI pl,dI ev,eII (cz64LL cc),eI ss,eI nu,dI co,dS d,dS p,dI n],.c (dS line)] (.p (.c (dB true))):=by
 obtain ⟨d,rfl⟩:=exT d;obtain ⟨p,rfl⟩:=exT p;obtain ⟨line,rfl⟩:=exT line;have hcc:=cz64LL_bd cc;generalize cz64LL cc=cc at *;generalize cz64LL bll=bll at *;by_cases ht:1048576 < line.length
 ·clear hcc;refine jao Tryz.func5 fun _=>?_;repeat' (first|refine jac ?_|refine Vca ?_|refine jbd rfl (fun hc=>?_) (fun hc=>?_)|exact Qaa|exact Rav|fail)
 by_cases hz:1048576 < bll.length+cnt bll+pl.length+cc.length+cnt cc+ss.length+nu.length+d.length+p.length
 ·clear hcc;refine jao Tryz.func5 fun _=>?_;repeat' (first|refine jac (id:=0) ?_|refine jac (id:=1) ?_|refine jac (id:=2) ?_|refine jac (id:=3) ?_|refine jac (id:=4) ?_|(apply jdg 5 [1,2,5] [2] rfl;exact Kh;exact Ybi;refine jac (id:=5) ?_)|refine jac (id:=6) ?_|refine Vca ?_|apply Ub (c:=jlh _ _ _ _ _ _ _ _ _ _ _ _ _ _ Kf Kf Kf) (h:=?_)|refine jbd rfl (fun hc=>?_) (fun hc=>?_)|exact Qaa|exact Rav|fail)
 ·obtain ⟨rx,ry,rwh,rll,rpl,rev,rcc,rss,rnu,rco,rp,rc,rep,hk,c1,c2⟩:=execute_both bx by_ bwh bll pl ev cc ss nu co d p n line hcc Kf;clear hcc;refine jao Tryz.func5 fun _=>?_;repeat' (first|(refine jaa (.binOp .neq 9 _ _ _) ?_;(refine jab (jhy rfl rfl) rfl ?_))|apply zdi ?_|(refine jaa (.call ⟨.value (.func 12),_,_⟩) ?_;((apply jfi (fid:=12);exact Ybn;exact Ybr;(·exact jjy _ _ _ _ _ _ _ _ _ _ _ _ _ _ Kf Kf);(·rfl);(·rfl))))|refine jac (id:=0) ?_|refine jac (id:=1) ?_|refine jac (id:=2) ?_|refine jac (id:=3) ?_|refine jac (id:=4) ?_|(apply jdg 5 [1,2,5] [2] rfl;exact Kh;exact Ybi;refine jac (id:=5) ?_)|refine jac (id:=6) ?_|(apply jdg 7 [1,2] [2] rfl;exact Kh;exact Ybi;refine jac (id:=7) ?_)|(apply jdg 8 [1,2,6,7] [2,3026,4026,6026,7026,8026,3028,4028,6028,7028,8028,6] rfl;exact Kh;exact Ybe;refine jac (id:=8) ?_)|(apply jdg 9 [1,2,6,7,8] [2,3026,4026,6026,7026,8026,3028,4028,6028,7028,8028,6,3032,4032,6032,7032,8032,8] rfl;exact Kh;exact Ki;refine jac (id:=9) ?_)|(apply jdg 10 [1,2,6,7,8,9,10] [2,3026,4026,6026,7026,8026,3028,4028,6028,7028,8028,6,3032,4032,6032,7032,8032,8,3036,4036,6036,7036,8036,9] rfl;exact Kh;exact Ki;refine jac (id:=10) ?_)|(apply jdg 12 [1,2,6,7,8,9,10] [2,3026,4026,6026,7026,8026,3028,4028,6028,7028,8028,6,3032,4032,6032,7032,8032,8,3036,4036,6036,7036,8036,9] rfl;exact Kh;exact Ki;refine jav 12 (fun _=>false) [0,1,-3,-4,4] ?_)|refine jac (id:=14) ?_|refine jac (id:=15) ?_|(apply jdg 16 [1,2,6,7,9,10,11] [2,3026,4026,6026,7026,8026,3028,4028,6028,7028,8028,6,3032,4032,6032,7032,8032,8,3036,4036,6036,7036,8036,9,3050,4050,6050,7050,8050] rfl;exact Kh;exact Ki;refine jac (id:=16) ?_)|refine jac (id:=18) ?_|refine jac (id:=19) ?_|refine jac (id:=20) ?_|refine jac (id:=21) ?_|(apply jdg 22 [1,2,6,7,9,12,13] [2,3026,4026,6026,7026,8026,3028,4028,6028,7028,8028,6,3032,4032,6032,7032,8032,8,3036,4036,6036,7036,8036,9,3050,4050,6050,7050,8050] rfl;exact Kh;exact Ki;refine jac (id:=22) ?_)|refine jac (id:=24) ?_|(apply jdg 26 [1,2,6,7,9,12] [2,3026,4026,6026,7026,8026,3028,4028,6028,7028,8028,6,3032,4032,6032,7032,8032,8,3036,4036,6036,7036,8036,9,3050,4050,6050,7050,8050] rfl;exact Kh;exact Ki;refine jac (id:=26) ?_)|(apply jdg 27 [6,7,9,12,14,15] [2,3026,4026,6026,7026,8026,3028,4028,6028,7028,8028,6,3032,4032,6032,7032,8032,8,3036,4036,6036,7036,8036,9,3050,4050,6050,7050,8050,3082,4082,6082,7082,8082,3084,4084,6084,7084,8084,14] rfl;exact Kh;exact Ki;refine jac (id:=27) ?_)|refine jac (id:=29) ?_|(apply jdg 30 [9,12,13] [2,3026,4026,6026,7026,8026,3028,4028,6028,7028,8028,6,3032,4032,6032,7032,8032,8,3036,4036,6036,7036,8036,9,3050,4050,6050,7050,8050,3082,4082,6082,7082,8082,3084,4084,6084,7084,8084,14] rfl;exact Kh;exact Ki;refine jac (id:=30) ?_)|refine jac (id:=31) ?_|refine jac (id:=33) ?_|refine jac (id:=35) ?_|refine Vca ?_|apply Ub (c:=jlg _ _ _ _ _ _ _ _ _ _ _ _ _ _ Kf Kf) (h:=?_)|apply Ua (c:=toConsole_p _ _ _ _ _ _ _ _ _ _ _ _ _ Kf) (h:=?_)|apply Ub (c:=c2) (h:=?_)|apply Ua (c:=c1) (h:=?_)|apply Ub (c:=jiu _ _ _ _ _ _ _ _ _ _ _ _ _) (h:=?_)|apply Ub (c:=heldConsole_k _ _ _ _ _ _ _ _ _ _ _ _ _ _ Kf Kf) (h:=?_)|refine jbd rfl (fun hc=>?_) (fun hc=>?_)|exact Qaa|exact Rav|fail)
end
end Go.Proofs.YtbhbkbnlpackdaaGreatDoor
