/- What the functions that FnExactRunScript and FnExactReplayLog and FnExactExecuteCommand reaches return: part of its proof. No condition beyond those of its theorems. -/
import Derived.Test.YtbhbkbnlpackdaaGreatDoorProg
import Derived.Test.YtbhbkbnlpackdaaGreatDoorKplainB
import Derived.Test.YtbhbkbnlpackdaaGreatDoorKplainC
import Derived.WalkKit
import Derived.Test.YtbhbkbnlpackdaaGreatDoorKplainA
import Derived.Test.YtbhbkbnlpackdaaGreatDoorRows
import Derived.Shelf.Strconv.Itoa3
import Derived.Shelf.Strings.OnBuilder
import Derived.Lib.Bytealg
set_option linter.unusedSectionVars false
set_option maxRecDepth 10000
set_option maxHeartbeats 4000000
set_option linter.unusedVariables false
set_option linter.unusedSimpArgs false
namespace Go.Proofs.YtbhbkbnlpackdaaGreatDoor
open Go.RowKit
section
variable [Glb]
abbrev dI (n:Int):D:=.lit (.int .i64 n)
abbrev dB (b:Bool):D:=.lit (.bool b)
abbrev dS (s:ByteArray):D:=.lit (.string s)
abbrev iN (k:Nat):FV:=.c (.d (dI k))
abbrev iZ (k:Int):FV:=.c (.d (dI k))
abbrev cI (l:List Int):List D:=l.map dI
abbrev eI (l:List Int):D:=.sl 1 l.length (cI l)
abbrev cII (l:List (List Int)):List D:=l.map fun x=>eI x
abbrev eII (l:List (List Int)):D:=.sl 1 l.length (cII l)
section
variable {P:Program} {st:St} {dst:Option Tmp} {ty:TypeId} {pos:String} {af:Array Edge} {T:TypeId} {x y:Operand} {k:IntKind} {i:Int}
theorem jbw {l:List Int} (hx:st.ev x = .c (.d (eI l))) (hy:st.ev y = .c (.d (.lit (.int k i)))) (ht:tSl P T 1=true) (h0:0<=i) (h1:i < l.length):Qt P ⟨dst,.indexAddr T x y,ty,pos,af,none⟩ st (.c (.d (.pt [dI (atZ l i)]))) :=
 jna hx hy ht h0 h1 (map_at (jis h0 h1))
theorem jbu {l:List (List Int)} (hx:st.ev x = .c (.d (eII l))) (hy:st.ev y = .c (.d (.lit (.int k i)))) (ht:tSl P T 1=true) (h0:0<=i) (h1:i < l.length):Qt P ⟨dst,.indexAddr T x y,ty,pos,af,none⟩ st (.c (.d (.pt [eI (atZ l i)]))) :=
 jna hx hy ht h0 h1 (map_at (jis h0 h1))
theorem jdi {l:List Int} {b:Nat} {i:Int} (hx:st.ev x = .c (.lp b (0+i.toNat*1))) (hb:st.bl b=some (.row 1 (cI l))) (ht:tOne P T=true) (h0:0<=i) (h1:i < l.length):Qt P ⟨dst,.load T x,ty,pos,af,none⟩ st (.c (.d (dI (atZ l i)))) :=
 jcq hx hb ht (by rw [List.getElem?_map,Nat.zero_add,Nat.mul_one,jis h0 h1];rfl)
end
end
theorem szR_ok:∀ (ll:List (List Int)) (left:Int),(cnt ll:Int)<=left->szR ll left=left - cnt ll
 | [],left,_=>by simp [szR,cnt]
 | l :: r,left,h=>by
  simp only [cnt] at h ⊢;have e:szI l.length left=left - l.length:=by unfold szI;rw [if_neg Kf]
  unfold szR;rw [e,if_neg Kf,szR_ok r _ Kf];omega
theorem szR_no:∀ (ll:List (List Int)) (left:Int),left < (cnt ll:Int)->0<=left->szR ll left = -1
 | [],left,h,h0=>by simp [cnt] at h;omega
 | l :: r,left,h,h0=>by
  simp only [cnt] at h;unfold szR;by_cases hl:left - l.length < 0
  ·have e:szI l.length left = -1:=by unfold szI;rw [if_pos hl]
   rw [e,if_pos Kf]
  ·have e:szI l.length left=left - l.length:=by unfold szI;rw [if_neg hl]
   rw [e,if_neg Kf,szR_no r _ Kf Kf]
theorem szL_ok {ll:List (List Int)} {left:Int} (h:(ll.length:Int)+cnt ll<=left):szL ll.length ll left=left - ll.length - cnt ll:=by
 unfold szL;rw [if_neg Kf,szR_ok _ _ Kf]
theorem szL_no {ll:List (List Int)} {left:Int} (h:left < (ll.length:Int)+cnt ll) (h0:0<=left):szL ll.length ll left = -1:=by
 unfold szL;split
 ·rfl
 ·exact szR_no _ _ Kf Kf
theorem cnt_mem:∀ {ll:List (List Int)} {l:List Int},l∈ll->l.length<=cnt ll
 | l' :: r,l,h=>by
  simp only [cnt];rcases List.mem_cons.1 h with rfl|h
  ·omega
  ·have:=cnt_mem h; omega
section
variable [Glb]
theorem toIntS_p (l:List Int) (h:l.length<=1048576):PC Tryz.prog 39 [.c (eI l)] (.p (.c (eI l))):=by
 refine jao Tryz.func39 fun _=>?_;repeat' (first|refine jac ?_|refine Maa ?_|refine Waa ?_|fail)
 apply jbe [0,3,4] [7] rfl;exact Kr;exact Ybd;refine jbf [0,3] [] (fun k=>[(4,iN k)]) (fun k=>[(7,.row 1 (cI (fillL l 0 k)))]) (fun k=>k<=l.length) (fun k=>l.length - k) (0) ?_ Kg (by (repeat(first|exact trivial|refine ⟨(by ((refine jbs rfl ?_;simp  [jkx,cI];done))),?_⟩))) ?_
 ·simp
 intro k hk;repeat' (first|(refine jaa (.indexAddr 25 _ _) ?_;(first|refine jab (jbw rfl rfl Kb Kf Kf) rfl ?_|refine jab (jca rfl rfl (by kernel_rfl:tSl _ 25 1=true) Kf Kf) rfl ?_))|refine jac ?_|refine Maa ?_|refine Wab ?_|refine jbd rfl (fun hc=>?_) (fun hc=>?_))
 ·have hk':k < l.length:=by omega
  refine bkL (k+1) ?_ ?_ (hB:=(by (repeat(first|exact trivial|refine ⟨(by ((refine jbs rfl ?_;simp  [jby hk',<- List.map_set,jkc 0 hk'];done))),?_⟩))))
  ·omega
  ·omega
 ·have:k=l.length:=by omega
  subst this;rw [jnu];refine Raa ?_;simp
theorem toIntSS_p (ll:List (List Int)) (h:ll.length<=1048576) (hr:∀ l∈ll,l.length<=1048576):PC Tryz.prog 64 [.c (eII ll)] (.p (.c (eII ll))):=by
 refine jao Tryz.func64 fun _=>?_;repeat' (first|refine jac ?_|refine Maa ?_|(refine jaa (.makeSlice 22 _ _) ?_;(refine jgo (by_:=24) (z:=.slice none 0 0) (y:=.sl 1 0 []) rfl rfl Kb Kb rfl (fun _ => .nil _ Ybr) Kf Kf Kf rfl ?_))|fail)
 apply jbe [0,3,4] [7,20] rfl;exact Kr;exact Yah;refine jbf [0,3] [20] (fun k=>[(4,iN k)]) (fun k=>[(7,.row 1 (cII (fillL ll [] k)))]) (fun k=>k<=ll.length) (fun k=>ll.length - k) (0) ?_ Kg (by (repeat(first|exact trivial|refine ⟨(by ((refine jbs rfl ?_;simp  [jkx];done))),?_⟩))) ?_
 ·simp
 intro k hk;repeat' (first|(refine jaa (.indexAddr 22 _ _) ?_;(first|refine jab (jbu rfl rfl Kb Kf Kf) rfl ?_|refine jab (jca rfl rfl (by kernel_rfl:tSl _ 22 1=true) Kf Kf) rfl ?_))|refine jac ?_|refine Maa ?_|(refine jaa (.store 25 _ _) ?_;(refine jcp rfl rfl rfl rfl (.row _ _ _ _ rfl Ybt) Ybr Ybr Kb Ybg rfl ?_))|apply Ua (c:=toIntS_p (atZ ll k) (by rw [jby Kf];exact hr _ (List.getElem_mem _))) (h:=?_)|refine jbd rfl (fun hc=>?_) (fun hc=>?_))
 ·have hk':k < ll.length:=by omega
  refine bkL (k+1) ?_ ?_ (hB:=(by (repeat(first|exact trivial|refine ⟨(by ((refine jbs rfl ?_;simp  [jby hk',<- jkc [] hk'];done))),?_⟩))))
  ·omega
  ·omega
 ·have:k=ll.length:=by omega
  subst this;rw [jnu];refine Raa ?_;simp
theorem toIntSS_z (ll:List (List Int)) (h:ll.length+cnt ll<=1048576):PC Tryz.prog 64 [.c (eII ll)] (.p (.c (eII ll))) :=
 toIntSS_p ll Kf fun l hl=>by have:=cnt_mem hl;omega
theorem toBox_p (x:Int) (y:Int) (wh:Int) (ll:List (List Int)) (h:ll.length+cnt ll<=1048576):PC Tryz.prog 38 [.g [dI x,dI y,dI wh,eII ll]] (.p (.g [dI x,dI y,dI wh,eII ll])):=by
 refine jao Tryz.func38 fun _=>?_;repeat' (first|refine jac (id:=0) ?_|refine jac (id:=1) ?_|refine jac (id:=2) ?_|refine jac (id:=3) ?_|(apply jdg 4 [1,2,3] [1,2,3] rfl;exact Yax;exact Ybi;refine jac (id:=4) ?_)|refine jac (id:=5) ?_|refine jac (id:=6) ?_|refine Maa ?_|refine Wac ?_|refine Wah ?_|(refine jaa (.fieldAddr 24 _ 0) ?_;(refine jab (jad (off:=0) rfl Kb) rfl ?_))|refine Wad ?_|(refine jaa (.fieldAddr 24 _ 1) ?_;(refine jab (jad (off:=1) rfl Kb) rfl ?_))|(refine jaa (.fieldAddr 24 _ 2) ?_;(refine jab (jad (off:=2) rfl Kb) rfl ?_))|refine Wae ?_|refine Waf ?_|refine Wag ?_|apply Ua (c:=toIntSS_z _ Kf) (h:=?_))
 ·refine Rab ?_;rfl
theorem toScene_p (ev:Int) (cc:List (List Int)) (ss:List Int) (h:cc.length+cnt cc+ss.length<=1048576):PC Tryz.prog 40 [.g [dI ev,eII cc,eI ss]] (.p (.g [dI ev,eII cc,eI ss])):=by
 refine jao Tryz.func40 fun _=>?_;repeat' (first|refine jac (id:=0) ?_|refine jac (id:=1) ?_|refine jac (id:=2) ?_|refine jac (id:=3) ?_|(apply jdg 4 [1,2,3] [1,2,3,9] rfl;exact Yax;exact Yaj;refine jac (id:=4) ?_)|refine jac (id:=5) ?_|refine Maa ?_|refine Wai ?_|refine Wan ?_|(refine jaa (.fieldAddr 27 _ 0) ?_;(refine jab (jad (off:=0) rfl Kb) rfl ?_))|refine Wad ?_|refine Waj ?_|refine Waf ?_|refine Wal ?_|refine Wam ?_|refine Wak ?_|apply Ua (c:=toIntSS_z _ Kf) (h:=?_)|apply Ua (c:=toIntS_p _ Kf) (h:=?_))
 ·(apply jat;apply jau;(·apply jbc.p;(·(apply GvA.cons;(·(apply RV.cellN (n:=3);(·rfl);(·rfl);exact Kb;(·rfl)));(·(apply GvP.g;(·(apply GvL.cons (.lit _));((apply GvL.cons (.row _ _ _ _ rfl Ybt)));((apply GvL.cons (.row _ _ _ _ rfl Ybt)));exact GvL.nil))));exact GvA.nil);exact Ybr))
  rfl
theorem toHall_p (box:Int) (boy:Int) (bowh:Int) (boll:List (List Int)) (pl:List Int) (scev:Int) (sccc:List (List Int)) (scss:List Int) (nu:List Int) (co:Int) (h:boll.length+cnt boll+pl.length+sccc.length+cnt sccc+scss.length+nu.length<=1048576):PC Tryz.prog 18 [.g [dI box,dI boy,dI bowh,eII boll,eI pl,dI scev,eII sccc,eI scss,eI nu,dI co]] (.p (.g [dI box,dI boy,dI bowh,eII boll,eI pl,dI scev,eII sccc,eI scss,eI nu,dI co])):=by
 refine jao Tryz.func18 fun _=>?_;repeat' (first|refine jac (id:=0) ?_|refine jac (id:=1) ?_|refine jac (id:=2) ?_|(apply jdg 3 [1,2,3] [1,2,3,3006] rfl;exact Yax;exact Yaj;refine jac (id:=3) ?_)|refine jac (id:=4) ?_|(apply jdg 5 [1,2,3] [1,2,3,3006,10,1014,2014] rfl;exact Yax;exact Yaj;refine jac (id:=5) ?_)|refine jac (id:=6) ?_|refine jac (id:=7) ?_|refine Maa ?_|refine Wao ?_|refine Waq ?_|apply zds ?_|apply zdt ?_|refine Wag ?_|apply zeb ?_|refine Wam ?_|(refine jaa (.fieldAddr 29 _ 2) ?_;(refine jab (jad (off:=5) rfl Kb) rfl ?_))|refine Wap ?_|refine Wak ?_|(refine jaa (.fieldAddr 29 _ 3) ?_;(refine jab (jad (off:=8) rfl Kb) rfl ?_))|(refine jaa (.fieldAddr 29 _ 4) ?_;(refine jab (jad (off:=9) rfl Kb) rfl ?_))|apply zde ?_|refine Wad ?_|refine War ?_|apply Ua (c:=toBox_p _ _ _ _ Kf) (h:=?_)|apply Ua (c:=toIntS_p _ Kf) (h:=?_)|apply Ua (c:=toScene_p _ _ _ Kf) (h:=?_))
 ·refine Rac ?_;rfl
theorem toLog_p (du:Tx) (pe:Tx) (lc:Int):PC Tryz.prog 19 [.g [dT du,dT pe,dI lc]] (.p (.g [dT du,dT pe,dI lc])):=by
 refine jao Tryz.func19 fun _=>?_;repeat' (first|refine jac (id:=0) ?_|refine jac (id:=1) ?_|refine jac (id:=2) ?_|refine jac (id:=3) ?_|(apply jdg 4 [1,2,3] [1,2,3] rfl;exact Yax;exact Ybi;refine jac (id:=4) ?_)|refine jac (id:=5) ?_|refine Maa ?_|refine Was ?_|refine Wat ?_|refine Wav ?_|apply zdf ?_|(refine jaa (.store 9 _ _) ?_;(refine jbk rfl rfl rfl rfl Kb rfl rfl ?_))|refine Waw ?_|(refine jaa (.fieldAddr 31 _ 2) ?_;(refine jab (jad (off:=2) rfl Kb) rfl ?_))|refine Wad ?_|refine Wau ?_|fail)
 ·(apply jat;apply jau;(·apply jbc.p;(·(apply GvA.cons;(·(apply RV.cellN (n:=3);(·rfl);(·rfl);exact Kb;(·rfl)));exact Yau);exact GvA.nil);exact Ybr))
  rfl
theorem toConsole_p (hbox:Int) (hboy:Int) (hbowh:Int) (hboll:List (List Int)) (hpl:List Int) (hscev:Int) (hsccc:List (List Int)) (hscss:List Int) (hnu:List Int) (hco:Int) (ldu:Tx) (lpe:Tx) (llc:Int) (h:hboll.length+cnt hboll+hpl.length+hsccc.length+cnt hsccc+hscss.length+hnu.length<=1048576):PC Tryz.prog 8 [.g [dI hbox,dI hboy,dI hbowh,eII hboll,eI hpl,dI hscev,eII hsccc,eI hscss,eI hnu,dI hco,dT ldu,dT lpe,dI llc]] (.p (.g [dI hbox,dI hboy,dI hbowh,eII hboll,eI hpl,dI hscev,eII hsccc,eI hscss,eI hnu,dI hco,dT ldu,dT lpe,dI llc])):=by
 refine jao Tryz.func8 fun _=>?_;repeat' (first|refine jac (id:=0) ?_|refine jac (id:=1) ?_|refine jac (id:=2) ?_|(apply jdg 3 [1,2,3] [1,2,3,3006,4006,6006,7006,8006] rfl;exact Yax;exact Yaj;refine jac (id:=3) ?_)|refine jac (id:=4) ?_|refine Maa ?_|refine Wax ?_|refine Waz ?_|(refine jaa (.fieldAddr 33 _ 0) ?_;(refine jab (jad (off:=0) rfl Kb) rfl ?_))|apply zdo ?_|refine War ?_|(refine jaa (.fieldAddr 33 _ 1) ?_;(refine jab (jad (off:=10) rfl Kb) rfl ?_))|apply zec ?_|refine Wau ?_|refine Way ?_|apply Ua (c:=toHall_p _ _ _ _ _ _ _ _ _ _ Kf) (h:=?_)|apply Ua (c:=toLog_p _ _ _) (h:=?_))
 ·(apply jat;apply jau;(·apply jbc.p;(·(apply GvA.cons;(·(apply RV.cellN (n:=13);(·rfl);(·rfl);exact Kb;(·rfl)));exact Kj);exact GvA.nil);exact Ybr))
  rfl
theorem szIntS_p (l:List Int) (left:Int) (h0:0<=left) (h1:left<=1048576):PC Tryz.prog 33 [.c (eI l),.c (dI left)] (.p (.c (dI (szI l.length left)))):=by
 refine jao Tryz.func33 ?_;rintro ⟨hl,-⟩;have hl:=hl.len;repeat' (first|refine jac ?_|refine Maa ?_|refine jbd rfl (fun hc=>?_) (fun hc=>?_))
 all_goals ((apply jat;apply jau;exact Ka))
 all_goals simp [szI]
 all_goals omega
theorem jji (l:List Int) (left:Int) (h:l.length<=left) (h1:left<=1048576):PC Tryz.prog 33 [.c (eI l),.c (dI left)] (.p (.c (dI (left - l.length)))):=by
 have:=szIntS_p l left Kf h1;rwa [show szI l.length left=left - l.length by unfold szI;rw [if_neg Kf]] at this
theorem jmj (l:List Int) (left:Int) (h:left < l.length) (h0:0<=left) (h1:left<=1048576):PC Tryz.prog 33 [.c (eI l),.c (dI left)] (.p (.c (dI (-1)))):=by
 have:=szIntS_p l left h0 h1;rwa [show szI l.length left = -1 by unfold szI;rw [if_pos Kf]] at this
theorem szR_take (ll:List (List Int)) (k:Nat) (left:Int) (h:k < ll.length):szR (ll.drop k) left=if szI ll[k].length left < 0 then -1 else szR (ll.drop (k+1)) (szI ll[k].length left):=by
 rw [List.drop_eq_getElem_cons h];rfl
theorem szIntSS_p (ll:List (List Int)) (left:Int) (h0:0<=left) (h1:left<=1048576):PC Tryz.prog 62 [.c (eII ll),.c (dI left)] (.p (.c (dI (szL ll.length ll left)))):=by
 refine jao Tryz.func62 ?_;rintro ⟨hl,-⟩;have hl:=hl.len;repeat' (first|refine jac ?_|refine Maa ?_|refine jbd rfl (fun hc=>?_) (fun hc=>?_))
 ·refine Rad ?_;simp [szL]; omega
 apply jbe [0,1,5] [] rfl;exact Ky;exact Yar;refine jbf [0] [] (fun g=>[(5,iN g.1),(1,iZ g.2)]) (fun _=>[]) (fun g=>g.1<=ll.length/\0<=g.2/\g.2<=1048576/\szR (ll.drop g.1) g.2=szR ll (left - ll.length)) (fun g=>ll.length - g.1) (((0:Nat),left - ll.length)) ?_ Kg Kv ?_
 ·simp; omega
 rintro ⟨k,c⟩ ⟨hk,hc0,hc1,hs⟩;simp only at hk hc0 hc1 hs;repeat' (first|refine jac ?_|refine Maa ?_|apply Ub (c:=szIntS_p _ _ hc0 hc1) (h:=?_)|refine jbd rfl (fun hc=>?_) (fun hc=>?_))
 ·rename_i hk';rw [jby Kf] at hc;have e:=szR_take ll k c Kf;rw [if_pos hc,hs] at e;refine Rad ?_;simp [szL,e]
 ·rename_i hk';rw [jby Kf] at hc;have e:=szR_take ll k c Kf;rw [if_neg hc,hs] at e;have h2:szI ll[k].length c<=c:=by unfold szI;split <;> omega
  refine bkL (k+1,szI ll[k].length c) ?_ ?_ (hV:=(by (repeat(first|exact trivial|refine ⟨(by (first|rfl|(refine jcd rfl ?_;((simp  [jby (show k < ll.length by omega)];done))))),?_⟩))))
  ·have h3:0<=szI ll[k].length c:=by simp only at hc;omega
   exact ⟨by simp only;omega,by simp only;omega,by simp only;omega,e.symm⟩
  ·simp only; omega
 ·have e:k=ll.length:=by omega
  subst e;rw [List.drop_length] at hs;refine Rad ?_;simp only [szR] at hs;have h9:¬ left - (ll.length:Int) < 0:=by simp at *;omega
  simp [szL,<- hs,h9]
theorem jkj (ll:List (List Int)) (left:Int) (h:ll.length+cnt ll<=left) (h1:left<=1048576):PC Tryz.prog 62 [.c (eII ll),.c (dI left)] (.p (.c (dI (left - ll.length - cnt ll)))):=by
 have:=szIntSS_p ll left Kf h1;rwa [szL_ok h] at this
theorem jou (ll:List (List Int)) (left:Int) (h:left < ll.length+cnt ll) (h0:0<=left) (h1:left<=1048576):PC Tryz.prog 62 [.c (eII ll),.c (dI left)] (.p (.c (dI (-1)))):=by
 have:=szIntSS_p ll left h0 h1;rwa [szL_no h h0] at this
theorem jlx (x:Int) (y:Int) (wh:Int) (ll:List (List Int)) (left:Int) (h:ll.length+cnt ll<=left) (h1:left<=1048576):PC Tryz.prog 32 [.g [dI x,dI y,dI wh,eII ll],.c (dI left)] (.p (.c (dI (left - ll.length - cnt ll)))):=by
 refine jao Tryz.func32 fun _=>?_;repeat' (first|refine jac ?_|refine Maa ?_|refine Wac ?_|refine Wae ?_|apply Ub (c:=jkj _ _ Kf Kf) (h:=?_)|refine jbd rfl (fun hc=>?_) (fun hc=>?_)|exact Qaa|fail)
 ·refine Rad ?_;rfl
theorem szBox_no (x:Int) (y:Int) (wh:Int) (ll:List (List Int)) (left:Int) (h:left < ll.length+cnt ll) (h0:0<=left) (h1:left<=1048576):PC Tryz.prog 32 [.g [dI x,dI y,dI wh,eII ll],.c (dI left)] (.p (.c (dI (-1)))):=by
 refine jao Tryz.func32 fun _=>?_;repeat' (first|refine jac ?_|refine Maa ?_|refine Wac ?_|refine Wae ?_|apply Ub (c:=jou _ _ Kf Kf Kf) (h:=?_)|exact Qaa|exact Rav|fail)
theorem jot (ev:Int) (cc:List (List Int)) (ss:List Int) (left:Int) (h:cc.length+cnt cc+ss.length<=left) (h1:left<=1048576):PC Tryz.prog 34 [.g [dI ev,eII cc,eI ss],.c (dI left)] (.p (.c (dI (left - cc.length - cnt cc - ss.length)))):=by
 refine jao Tryz.func34 fun _=>?_;repeat' (first|refine jac ?_|refine Maa ?_|refine Wai ?_|refine Waj ?_|refine Wal ?_|apply Ub (c:=jkj _ _ Kf Kf) (h:=?_)|apply Ub (c:=jji _ _ Kf Kf) (h:=?_)|refine jbd rfl (fun hc=>?_) (fun hc=>?_)|exact Qaa|fail)
 ·refine Rad ?_;rfl
theorem szScene_no (ev:Int) (cc:List (List Int)) (ss:List Int) (left:Int) (h:left < cc.length+cnt cc+ss.length) (h0:0<=left) (h1:left<=1048576):PC Tryz.prog 34 [.g [dI ev,eII cc,eI ss],.c (dI left)] (.p (.c (dI (-1)))):=by
 by_cases c0:left < cc.length+cnt cc
 ·refine jao Tryz.func34 fun _=>?_;repeat' (first|refine jac ?_|refine Maa ?_|refine Wai ?_|refine Waj ?_|apply Ub (c:=jou _ _ Kf Kf Kf) (h:=?_)|exact Qaa|exact Rav|fail)
 ·refine jao Tryz.func34 fun _=>?_;repeat' (first|refine jac ?_|refine Maa ?_|refine Wai ?_|refine Waj ?_|refine Wal ?_|apply Ub (c:=jkj _ _ Kf Kf) (h:=?_)|apply Ub (c:=jmj _ _ Kf Kf Kf) (h:=?_)|refine jbd rfl (fun hc=>?_) (fun hc=>?_)|exact Qaa|exact Rav|fail)
theorem Vaa {G G':Prop} (h:G') (t:Laa G'->G:=by intro h;first|(first|exact jac h.o|exact Maa h.o|exact Wao h.o|apply zeb h.o|(refine jaa (.fieldAddr 29 _ 2) ?_;(refine jab (jad (off:=5) rfl Kb) rfl ?_);exact h.o)|exact Wap h.o|(refine jaa (.fieldAddr 29 _ 3) ?_;(refine jab (jad (off:=8) rfl Kb) rfl ?_);exact h.o)|apply zds h.o|apply zdt h.o|fail);done|fail):G:=t ⟨h⟩
theorem jjj (box:Int) (boy:Int) (bowh:Int) (boll:List (List Int)) (pl:List Int) (scev:Int) (sccc:List (List Int)) (scss:List Int) (nu:List Int) (co:Int) (left:Int) (h:boll.length+cnt boll+pl.length+sccc.length+cnt sccc+scss.length+nu.length<=left) (h1:left<=1048576):PC Tryz.prog 15 [.g [dI box,dI boy,dI bowh,eII boll,eI pl,dI scev,eII sccc,eI scss,eI nu,dI co],.c (dI left)] (.p (.c (dI (left - boll.length - cnt boll - pl.length - sccc.length - cnt sccc - scss.length - nu.length)))):=by
 refine jao Tryz.func15 fun _=>?_;repeat' (first|refine Vaa ?_|apply Ub (c:=jlx _ _ _ _ _ Kf Kf) (h:=?_)|apply Ub (c:=jji _ _ Kf Kf) (h:=?_)|apply Ub (c:=jot _ _ _ _ Kf Kf) (h:=?_)|refine jbd rfl (fun hc=>?_) (fun hc=>?_)|exact Qaa|fail)
 ·refine Rad ?_;rfl
theorem szHall_no (box:Int) (boy:Int) (bowh:Int) (boll:List (List Int)) (pl:List Int) (scev:Int) (sccc:List (List Int)) (scss:List Int) (nu:List Int) (co:Int) (left:Int) (h:left < boll.length+cnt boll+pl.length+sccc.length+cnt sccc+scss.length+nu.length) (h0:0<=left) (h1:left<=1048576):PC Tryz.prog 15 [.g [dI box,dI boy,dI bowh,eII boll,eI pl,dI scev,eII sccc,eI scss,eI nu,dI co],.c (dI left)] (.p (.c (dI (-1)))):=by
 by_cases c0:left < boll.length+cnt boll
 ·refine jao Tryz.func15 fun _=>?_;repeat' (first|refine Vaa ?_|apply Ub (c:=szBox_no _ _ _ _ _ Kf Kf Kf) (h:=?_)|exact Qaa|exact Rav|fail)
 ·by_cases c1:left < boll.length+cnt boll+pl.length
  ·refine jao Tryz.func15 fun _=>?_;repeat' (first|refine Vaa ?_|apply Ub (c:=jlx _ _ _ _ _ Kf Kf) (h:=?_)|apply Ub (c:=jmj _ _ Kf Kf Kf) (h:=?_)|refine jbd rfl (fun hc=>?_) (fun hc=>?_)|exact Qaa|exact Rav|fail)
  ·by_cases c2:left < boll.length+cnt boll+pl.length+sccc.length+cnt sccc+scss.length
   ·refine jao Tryz.func15 fun _=>?_;repeat' (first|refine Vaa ?_|apply Ub (c:=jlx _ _ _ _ _ Kf Kf) (h:=?_)|apply Ub (c:=jji _ _ Kf Kf) (h:=?_)|apply Ub (c:=szScene_no _ _ _ _ Kf Kf Kf) (h:=?_)|refine jbd rfl (fun hc=>?_) (fun hc=>?_)|exact Qaa|exact Rav|fail)
   ·refine jao Tryz.func15 fun _=>?_;repeat' (first|refine Vaa ?_|apply Ub (c:=jlx _ _ _ _ _ Kf Kf) (h:=?_)|(first|apply Ub (c:=jji _ _ Kf Kf) (h:=?_)|apply Ub (c:=jmj _ _ Kf Kf Kf) (h:=?_))|apply Ub (c:=jot _ _ _ _ Kf Kf) (h:=?_)|refine jbd rfl (fun hc=>?_) (fun hc=>?_)|exact Qaa|exact Rav|fail)
theorem szLog_ok (du:Tx) (pe:Tx) (lc:Int) (left:Int) (h:du.length+pe.length<=left) (h1:left<=1048576):PC Tryz.prog 16 [.g [dT du,dT pe,dI lc],.c (dI left)] (.p (.c (dI (left - du.length - pe.length)))):=by
 refine jao Tryz.func16 ?_;rintro ⟨hf,-⟩;have hf0:=FitT (hf (dT du) Yby);have hf1:=FitT (hf (dT pe) Yby);clear hf;repeat' (first|refine jac ?_|refine Maa ?_|refine Was ?_|refine Wav ?_|refine Waw ?_|refine jbd rfl (fun hc=>?_) (fun hc=>?_)|exact Qaa|fail)
 ·refine Rad ?_;rfl
theorem szLog_no (du:Tx) (pe:Tx) (lc:Int) (left:Int) (h:left < du.length+pe.length) (h0:0<=left) (h1:left<=1048576):PC Tryz.prog 16 [.g [dT du,dT pe,dI lc],.c (dI left)] (.p (.c (dI (-1)))):=by
 by_cases c0:left < du.length
 ·exact Daz
 ·exact Daz
theorem Vab {G G':Prop} (h:G') (t:Laa G'->G:=by intro h;first|(first|exact jac h.o|exact Maa h.o|exact Wax h.o|(refine jaa (.fieldAddr 33 _ 1) ?_;(refine jab (jad (off:=10) rfl Kb) rfl ?_);exact h.o)|apply zec h.o|(refine jaa (.fieldAddr 33 _ 0) ?_;(refine jab (jad (off:=0) rfl Kb) rfl ?_);exact h.o)|apply zdo h.o|fail);done|fail):G:=t ⟨h⟩
theorem jlg (hbox:Int) (hboy:Int) (hbowh:Int) (hboll:List (List Int)) (hpl:List Int) (hscev:Int) (hsccc:List (List Int)) (hscss:List Int) (hnu:List Int) (hco:Int) (ldu:Tx) (lpe:Tx) (llc:Int) (left:Int) (h:hboll.length+cnt hboll+hpl.length+hsccc.length+cnt hsccc+hscss.length+hnu.length+ldu.length+lpe.length<=left) (h1:left<=1048576):PC Tryz.prog 6 [.g [dI hbox,dI hboy,dI hbowh,eII hboll,eI hpl,dI hscev,eII hsccc,eI hscss,eI hnu,dI hco,dT ldu,dT lpe,dI llc],.c (dI left)] (.p (.c (dI (left - hboll.length - cnt hboll - hpl.length - hsccc.length - cnt hsccc - hscss.length - hnu.length - ldu.length - lpe.length)))):=by
 refine jao Tryz.func6 fun _=>?_;repeat' (first|refine Vab ?_|apply Ub (c:=jjj _ _ _ _ _ _ _ _ _ _ _ Kf Kf) (h:=?_)|apply Ub (c:=szLog_ok _ _ _ _ Kf Kf) (h:=?_)|refine jbd rfl (fun hc=>?_) (fun hc=>?_)|exact Qaa|fail)
 ·refine Rad ?_;rfl
theorem jlh (hbox:Int) (hboy:Int) (hbowh:Int) (hboll:List (List Int)) (hpl:List Int) (hscev:Int) (hsccc:List (List Int)) (hscss:List Int) (hnu:List Int) (hco:Int) (ldu:Tx) (lpe:Tx) (llc:Int) (left:Int) (h:left < hboll.length+cnt hboll+hpl.length+hsccc.length+cnt hsccc+hscss.length+hnu.length+ldu.length+lpe.length) (h0:0<=left) (h1:left<=1048576):PC Tryz.prog 6 [.g [dI hbox,dI hboy,dI hbowh,eII hboll,eI hpl,dI hscev,eII hsccc,eI hscss,eI hnu,dI hco,dT ldu,dT lpe,dI llc],.c (dI left)] (.p (.c (dI (-1)))):=by
 by_cases c0:left < hboll.length+cnt hboll+hpl.length+hsccc.length+cnt hsccc+hscss.length+hnu.length
 ·refine jao Tryz.func6 fun _=>?_;repeat' (first|refine Vab ?_|apply Ub (c:=szHall_no _ _ _ _ _ _ _ _ _ _ _ Kf Kf Kf) (h:=?_)|exact Qaa|exact Rav|fail)
 ·refine jao Tryz.func6 fun _=>?_;repeat' (first|refine Vab ?_|apply Ub (c:=jjj _ _ _ _ _ _ _ _ _ _ _ Kf Kf) (h:=?_)|apply Ub (c:=szLog_no _ _ _ _ Kf Kf Kf) (h:=?_)|refine jbd rfl (fun hc=>?_) (fun hc=>?_)|exact Qaa|exact Rav|fail)
theorem eqIntS_p (a b:List Int):PC Tryz.prog 44 [.c (eI a),.c (eI b)] (.p (.c (dB (decide (a=b))))):=by
 refine jao Tryz.func44 ?_;rintro ⟨hl,hm,-⟩;have hl:=hl.len;have hm:=hm.len;repeat' (first|refine jac ?_|refine Maa ?_|refine jbd rfl (fun hc=>?_) (fun hc=>?_))
 ·refine Rad ?_;have:a≠b:=fun e=>by subst e;simp at *
  simp [this]
 have hab:a.length=b.length:=by simp at *;omega
 apply jbe [0,1,5] [] rfl;exact Ky;exact Yar;refine jbf [0,1] [] (fun k=>[(5,iN k)]) (fun _=>[]) (fun k=>k<=a.length/\a.take k=b.take k) (fun k=>a.length - k) (0) ?_ Kg Kv ?_
 ·simp
 rintro k ⟨hk,hs⟩;repeat' (first|refine jac ?_|refine jav 6 (fun _=>false) [0,1,2,3,4,5,6,7,8] ?_|refine Maa ?_|refine jbd rfl (fun hc=>?_) (fun hc=>?_))
 ·rename_i hk';rw [jby Kf,jby Kf] at hc;refine Rad ?_;have:a≠b:=fun e=>by subst e;exact hc rfl
  simp [this]
 ·rename_i hk';rw [jby Kf,jby Kf] at hc;refine bkL (k+1) ?_ ?_
  ·exact ⟨by omega,by rw [List.take_succ_eq_append_getElem Kf,List.take_succ_eq_append_getElem Kf,hs];simp at hc;rw [hc]⟩
  ·omega
 ·exact Dbt
theorem jnw (a:List Int):PC Tryz.prog 44 [.c (eI a),.c (eI a)] (.p (.c (dB true))):=by
 have:=eqIntS_p a a;rwa [decide_eq_true rfl] at this
theorem eqIntSS_p (a b:List (List Int)):PC Tryz.prog 66 [.c (eII a),.c (eII b)] (.p (.c (dB (decide (a=b))))):=by
 refine jao Tryz.func66 ?_;rintro ⟨hl,hm,-⟩;have hl:=hl.len;have hm:=hm.len;repeat' (first|refine jac ?_|refine Maa ?_|refine jbd rfl (fun hc=>?_) (fun hc=>?_))
 ·refine Rad ?_;have:a≠b:=fun e=>by subst e;simp at *
  simp [this]
 have hab:a.length=b.length:=by simp at *;omega
 apply jbe [0,1,5] [] rfl;exact Ky;exact Yar;refine jbf [0,1] [] (fun k=>[(5,iN k)]) (fun _=>[]) (fun k=>k<=a.length/\a.take k=b.take k) (fun k=>a.length - k) (0) ?_ Kg Kv ?_
 ·simp
 rintro k ⟨hk,hs⟩;repeat' (first|refine jac ?_|refine jav 6 (fun _=>false) [0,1,2,3,4,5,6,7,-9,9] ?_|refine Maa ?_|apply Ub (c:=eqIntS_p _ _) (h:=?_)|refine jbd rfl (fun hc=>?_) (fun hc=>?_)|refine sk_nif rfl (fun hc=>?_) (fun hc=>?_))
 ·rename_i hk';rw [jby Kf,jby Kf] at hc;refine Rad ?_;have:a≠b:=fun e=>by subst e;simp at hc
  simp [this]
 ·rename_i hk';rw [jby Kf,jby Kf] at hc;refine bkL (k+1) ?_ ?_
  ·exact ⟨by omega,by rw [List.take_succ_eq_append_getElem Kf,List.take_succ_eq_append_getElem Kf,hs,hc]⟩
  ·omega
 ·exact Dbt
theorem jlp (a:List (List Int)):PC Tryz.prog 66 [.c (eII a),.c (eII a)] (.p (.c (dB true))):=by
 have:=eqIntSS_p a a;rwa [decide_eq_true rfl] at this
theorem eqBox_same (x:Int) (y:Int) (wh:Int) (ll:List (List Int)):PC Tryz.prog 43 [.g [dI x,dI y,dI wh,eII ll],.g [dI x,dI y,dI wh,eII ll]] (.p (.c (dB true))):=by
 refine jao Tryz.func43 fun _=>?_;repeat' (first|apply zdi ?_|refine jac ?_|refine Maa ?_|refine Wba ?_|apply Ub (c:=jlp _) (h:=?_))
 ·refine Rad ?_;rfl
theorem eqScene_same (ev:Int) (cc:List (List Int)) (ss:List Int):PC Tryz.prog 45 [.g [dI ev,eII cc,eI ss],.g [dI ev,eII cc,eI ss]] (.p (.c (dB true))):=by
 refine jao Tryz.func45 fun _=>?_;repeat' (first|apply zdi ?_|refine jac ?_|refine Maa ?_|refine Wbb ?_|apply Ub (c:=jlp _) (h:=?_)|apply Ub (c:=jnw _) (h:=?_))
 ·refine Rad ?_;rfl
theorem jnx (box:Int) (boy:Int) (bowh:Int) (boll:List (List Int)) (pl:List Int) (scev:Int) (sccc:List (List Int)) (scss:List Int) (nu:List Int) (co:Int):PC Tryz.prog 21 [.g [dI box,dI boy,dI bowh,eII boll,eI pl,dI scev,eII sccc,eI scss,eI nu,dI co],.g [dI box,dI boy,dI bowh,eII boll,eI pl,dI scev,eII sccc,eI scss,eI nu,dI co]] (.p (.c (dB true))):=by
 refine jao Tryz.func21 fun _=>?_;repeat' (first|apply zdi ?_|refine jac ?_|refine Maa ?_|refine Wbc ?_|apply zde ?_|apply Ub (c:=eqBox_same _ _ _ _) (h:=?_)|apply Ub (c:=jnw _) (h:=?_)|apply Ub (c:=eqScene_same _ _ _) (h:=?_))
 ·refine Rad ?_;rfl
theorem eqLog_same (du:Tx) (pe:Tx) (lc:Int):PC Tryz.prog 29 [.g [dT du,dT pe,dI lc],.g [dT du,dT pe,dI lc]] (.p (.c (dB true))):=by
 refine jao Tryz.func29 fun _=>?_;repeat' (first|(refine jaa (.binOp .neq 9 _ _ _) ?_;(refine jab (jhy rfl rfl) rfl ?_))|apply zdi ?_|refine jac ?_|refine Maa ?_|refine Wbd ?_|apply zdf ?_|fail)
 ·refine Rad ?_;rfl
theorem jiu (hbox:Int) (hboy:Int) (hbowh:Int) (hboll:List (List Int)) (hpl:List Int) (hscev:Int) (hsccc:List (List Int)) (hscss:List Int) (hnu:List Int) (hco:Int) (ldu:Tx) (lpe:Tx) (llc:Int):PC Tryz.prog 11 [.g [dI hbox,dI hboy,dI hbowh,eII hboll,eI hpl,dI hscev,eII hsccc,eI hscss,eI hnu,dI hco,dT ldu,dT lpe,dI llc],.g [dI hbox,dI hboy,dI hbowh,eII hboll,eI hpl,dI hscev,eII hsccc,eI hscss,eI hnu,dI hco,dT ldu,dT lpe,dI llc]] (.p (.c (dB true))):=by
 refine jao Tryz.func11 fun _=>?_;repeat' (first|refine jac ?_|refine Maa ?_|refine Wbe ?_|apply Ub (c:=jnx _ _ _ _ _ _ _ _ _ _) (h:=?_)|apply Ub (c:=eqLog_same _ _ _) (h:=?_))
 ·refine Rad ?_;rfl
theorem jkr (l:List Int) (k:Int) (h0:0<=k) (h1:k+l.length<=1099511627776):PM Tryz.prog 60 [.c (eI l),.c (dI k)] [eI (mkI k l.length),dI k] (.c (dI (k+l.length))):=by
 refine jhn Tryz.func60 fun _=>?_;repeat' (first|refine jac ?_|refine Maa ?_|fail)
 apply jbe [0,1,5] [1000000] rfl;exact Kr;exact Ybd;refine jbf [0] [] (fun j=>[(5,iN j),(1,iZ (k+j))]) (fun j=>[(1000000,.row 1 (cI (mkL l k j)))]) (fun j=>j<=l.length) (fun j=>l.length - j) (0) ?_ Ybj (by (repeat(first|exact trivial|refine ⟨(by ((refine jbs rfl ?_;simp  [mkL_zero];done))),?_⟩))) ?_
 ·simp
 intro j hj;have hL:=mkL_len l k hj;repeat' (first|apply zbm ?_|apply zca ?_|refine jac ?_|refine Maa ?_|refine Wab ?_|refine jbd rfl (fun hc=>?_) (fun hc=>?_))
 ·have hj':j < l.length:=by omega
  refine bkL (j+1) ?_ ?_ (hB:=(by (repeat(first|exact trivial|refine ⟨(by ((refine jbs rfl ?_;simp  [<- List.map_set,mkL_set hj'];done))),?_⟩))))
  ·omega
  ·omega
 ·have:j=l.length:=by omega
  subst this;rw [mkL_all]
  (refine jiz rfl ?_ ?_;rotate_left;(·(repeat(first|exact .nil _|refine .lit ?_|refine .sl2 rfl Ybt Ybt ?_))))
  rfl
theorem jnj (ll:List (List Int)) (k:Int) (h0:0<=k) (h1:k+cnt ll<=1099511627776):PM Tryz.prog 101 [.c (eII ll),.c (dI k)] [eII (mkII k ll),dI k] (.c (dI (k+cnt ll))):=by
 refine jhn Tryz.func101 ?_;rintro hf;have hl:=(hf.at 0 rfl).len;repeat' (first|refine jac ?_|refine Maa ?_|fail)
 apply jbe [0,1,5] [1000000] rfl;exact Kr;exact Ybd;refine jbf [0] [] (fun j=>[(5,iN j),(1,iZ (k+cnt (ll.take j)))]) (fun j=>[(1000000,.row 1 (cII (mkLL ll k j)))]) (fun j=>j<=ll.length) (fun j=>ll.length - j) (0) ?_ (by (repeat(first|exact trivial|refine ⟨(by (first|rfl|(refine jcd rfl ?_;((simp  [mkLL_zero,cnt];done))))),?_⟩))) (by (repeat(first|exact trivial|refine ⟨(by ((refine jbs rfl ?_;simp  [mkLL_zero,cnt];done))),?_⟩))) ?_
 ·simp
 intro j hj;have hL:=mkLL_len ll k hj;have hle:=jny ll (j+1);have hst:∀ h:j < ll.length,_:=fun h=>cnt_take ll j h;repeat' (first|(refine jaa (.call ⟨.builtin .len,_,#[22]⟩) ?_;(refine jab (jbz rfl Kb) rfl ?_))|refine jac (id:=2) ?_|refine jac (id:=5) ?_|refine Maa ?_|refine jbd rfl (fun hc=>?_) (fun hc=>?_))
 ·refine jac (id:=4) ?_;all_goals ((refine jab (jal rfl) rfl ?_))
  all_goals ((refine jab (jal rfl) rfl ?_))
  all_goals ((refine jab (jca rfl rfl (by kernel_rfl:tSl _ 22 1=true) Kf Kf) rfl ?_))
  all_goals (refine so_thaw (c := 2000) (sz' := 1) (n := (ll[j]'Kf).length) (ds' := cI (ll[j]'Kf)) rfl rfl Kb (by simp [mkLL_get (show j < ll.length by omega)]) rfl rfl rfl ?_)
  all_goals ((refine jab (jal rfl) rfl ?_))
  all_goals ((apply jfi (fid:=60);exact Yaq;exact Ybr;(·exact jkr _ _ Kf (by have:=hst Kf;omega));(·rfl);(·rfl)))
  all_goals (refine so_ghost (sim_back (b:=1000000) (c:=2000) rfl rfl Yby rfl) ?_;refine jab (jak rfl) rfl ?_)
  all_goals refine jai ?_
  repeat' (first|refine jac ?_|refine Maa ?_|fail)
  have:=hst Kf;have hj1:j < ll.length:=by omega
  refine bkL (j+1) ?_ ?_ (hB:=(by (repeat(first|exact trivial|refine ⟨(by ((refine jbs rfl ?_;simp  [List.map_set,<- mkLL_set hj1,eI];done))),?_⟩))))
  ·omega
  ·omega
 ·have:j=ll.length:=by omega
  subst this;rw [mkLL_all,List.take_length]
  (refine jiz rfl ?_ ?_;rotate_left;(·(repeat(first|exact .nil _|refine .lit ?_|refine .sl2 rfl Ybt Ybt ?_))))
  rfl
theorem markBox_m (x:Int) (y:Int) (wh:Int) (ll:List (List Int)) (k:Int) (h0:0<=k) (h1:k+cnt ll<=1099511627776):PM Tryz.prog 59 [.g [dI x,dI y,dI wh,eII ll],.c (dI k)] [dI x,dI y,dI wh,.sl 1 ll.length (cII (mkII (k) ll)),dI k] (.c (dI (k+cnt ll))):=by
 refine jhn Tryz.func59 fun _=>?_;repeat' (first|refine jac ?_|refine Maa ?_|refine Wba ?_|(refine jaa (.call ⟨.value (.func 101),_,_⟩) ?_;(apply jfi (fid:=101);exact Yaq;exact Ybr;(·exact jnj _ _ Kf Kf);(·rfl);(·rfl)))|fail)
 ·exact Dbl
theorem markScene_m (ev:Int) (cc:List (List Int)) (ss:List Int) (k:Int) (h0:0<=k) (h1:k+cnt cc+ss.length<=1099511627776):PM Tryz.prog 61 [.g [dI ev,eII cc,eI ss],.c (dI k)] [dI ev,.sl 1 cc.length (cII (mkII (k) cc)),.sl 1 ss.length (cI (mkI (k+cnt cc) ss.length)),dI k] (.c (dI (k+cnt cc+ss.length))):=by
 refine jhn Tryz.func61 fun _=>?_;repeat' (first|refine jac ?_|refine Maa ?_|refine Wbb ?_|(refine jaa (.call ⟨.value (.func 101),_,_⟩) ?_;(apply jfi (fid:=101);exact Yaq;exact Ybr;(·exact jnj _ _ Kf Kf);(·rfl);(·rfl)))|(refine jaa (.call ⟨.value (.func 60),_,_⟩) ?_;(apply jfi (fid:=60);exact Yaq;exact Ybr;(·exact jkr _ _ Kf Kf);(·rfl);(·rfl)))|fail)
 ·exact Dbl
theorem markHall_m (box:Int) (boy:Int) (bowh:Int) (boll:List (List Int)) (pl:List Int) (scev:Int) (sccc:List (List Int)) (scss:List Int) (nu:List Int) (co:Int) (k:Int) (h0:0<=k) (h1:k+cnt boll+pl.length+cnt sccc+scss.length+nu.length<=1099511627776):PM Tryz.prog 30 [.g [dI box,dI boy,dI bowh,eII boll,eI pl,dI scev,eII sccc,eI scss,eI nu,dI co],.c (dI k)] [dI box,dI boy,dI bowh,.sl 1 boll.length (cII (mkII (k) boll)),.sl 1 pl.length (cI (mkI (k+cnt boll) pl.length)),dI scev,.sl 1 sccc.length (cII (mkII (k+cnt boll+pl.length) sccc)),.sl 1 scss.length (cI (mkI (k+cnt boll+pl.length+cnt sccc) scss.length)),.sl 1 nu.length (cI (mkI (k+cnt boll+pl.length+cnt sccc+scss.length) nu.length)),dI co,dI k] (.c (dI (k+cnt boll+pl.length+cnt sccc+scss.length+nu.length))):=by
 refine jhn Tryz.func30 fun _=>?_;repeat' (first|refine jac ?_|refine Maa ?_|refine Wbc ?_|(refine jaa (.call ⟨.value (.func 59),_,_⟩) ?_;(apply jfi (fid:=59);exact Ybn;exact Ybr;(·exact markBox_m _ _ _ _ _ Kf Kf);(·rfl);(·rfl)))|(refine jaa (.call ⟨.value (.func 60),_,_⟩) ?_;(apply jfi (fid:=60);exact Yaq;exact Ybr;(·exact jkr _ _ Kf Kf);(·rfl);(·rfl)))|(refine jaa (.call ⟨.value (.func 61),_,_⟩) ?_;(apply jfi (fid:=61);exact Ybn;exact Ybr;(·exact markScene_m _ _ _ _ Kf Kf);(·rfl);(·rfl)))|fail)
 ·exact Dbl
theorem jjy (hbox:Int) (hboy:Int) (hbowh:Int) (hboll:List (List Int)) (hpl:List Int) (hscev:Int) (hsccc:List (List Int)) (hscss:List Int) (hnu:List Int) (hco:Int) (ldu:Tx) (lpe:Tx) (llc:Int) (k:Int) (h0:0<=k) (h1:k+cnt hboll+hpl.length+cnt hsccc+hscss.length+hnu.length<=1099511627776):PM Tryz.prog 12 [.g [dI hbox,dI hboy,dI hbowh,eII hboll,eI hpl,dI hscev,eII hsccc,eI hscss,eI hnu,dI hco,dT ldu,dT lpe,dI llc],.c (dI k)] [dI hbox,dI hboy,dI hbowh,.sl 1 hboll.length (cII (mkII (k) hboll)),.sl 1 hpl.length (cI (mkI (k+cnt hboll) hpl.length)),dI hscev,.sl 1 hsccc.length (cII (mkII (k+cnt hboll+hpl.length) hsccc)),.sl 1 hscss.length (cI (mkI (k+cnt hboll+hpl.length+cnt hsccc) hscss.length)),.sl 1 hnu.length (cI (mkI (k+cnt hboll+hpl.length+cnt hsccc+hscss.length) hnu.length)),dI hco,dT ldu,dT lpe,dI llc,dI k] (.c (dI (k+cnt hboll+hpl.length+cnt hsccc+hscss.length+hnu.length))):=by
 refine jhn Tryz.func12 fun _=>?_;repeat' (first|refine jac ?_|refine Maa ?_|refine Wbe ?_|(refine jaa (.call ⟨.value (.func 30),_,_⟩) ?_;(apply jfi (fid:=30);exact Ybn;exact Ybr;(·exact markHall_m _ _ _ _ _ _ _ _ _ _ _ Kf Kf);(·rfl);(·rfl)))|fail)
 ·exact Dbl
theorem l1In_p (n lo hi:Int):PC Tryz.prog 89 [.c (dI n),.c (dI lo),.c (dI hi)] (.p (.c (dB (inB n lo hi)))):=by
 refine jao Tryz.func89 fun _=>?_;repeat' (first|refine Wbh ?_|refine Wbi ?_|refine jac ?_|refine Maa ?_|apply zcs ?_|refine jcc rfl rfl (fun hg=>?_) (fun hg=>?_))
 all_goals ((apply jat;apply jau;exact Ka))
 all_goals (simp [dB,inB, *];try omega)
theorem l2Bits_p (l:List Int) (n:Int):PC Tryz.prog 91 [.c (eI l),.c (dI n)] (.p (.c (dB (bitsB l n)))):=by
 refine jao Tryz.func91 ?_;rintro ⟨hl,-⟩;have hl:=hl.len;repeat' (first|refine jac ?_|refine Maa ?_|fail)
 apply jbe [0,1,5] [] rfl;exact Ky;exact Yar;refine jbf [0,1] [] (fun k=>[(5,iN k)]) (fun _=>[]) (fun k=>k<=l.length/\(l.take k).all (fun n=>inB n 0 1)=true) (fun k=>l.length - k) (0) ?_ Kg Kv ?_
 ·simp
 rintro k ⟨hk,ha⟩;repeat' (first|refine jac ?_|refine Maa ?_|apply Ub (c:=l1In_p _ _ _) (h:=?_)|refine jbd rfl (fun hc=>?_) (fun hc=>?_)|refine jcu rfl (fun hc=>?_) (fun hc=>?_))
 ·rename_i hk';rw [jby Kf] at hc;refine Rad ?_;rw [bitsB,allB,jlu Kf hc];simp
 ·exact Dbq
 ·refine Rad ?_;rw [bitsB,allB,all_t Kf ha];simp
theorem l1Own_p (l:List Int) (h:l.length<=1000000):PC Tryz.prog 67 [.c (eI l)] (.p (.c (eI l))):=Dbm
def tabNm:String:=(Rows.fnExactRunScriptRow.laid.getD 2 (default,.nil)).1
end
section
variable [Glb]
open Go.Shelf Go.Proofs
def Tryz.laysM171_ren_strconv_Itoa:Go.Shelf.Ren:=⟨fun | 171=>122 | 243=>178 | 246=>236 | 283=>279 | 284=>280 | 285=>281 | 286=>282 | 129=>303 | 317=>302 | 318=>304 | 319=>305 | 320=>306 | 337=>314 | 338=>315 | n=>n,fun | 3=>3 | 9=>9 | 2=>2 | 4=>4 | 171=>264 | 0=>0 | 53=>258 | 37=>98 | 5=>5 | 173=>267 | 212=>285 | 51=>249 | 20=>20 | 213=>286 | 46=>180 | 232=>292 | 233=>293 | n=>n,fun | 17=>5 | 18=>6 | 19=>7 | n=>n⟩
theorem Tryz.laysM171_strconv_Itoa:Go.Proofs.LaysM.n171 Tryz.prog Tryz.laysM171_ren_strconv_Itoa:={
 mixed:=by kernel_rfl
 f129:=Tryz.func303.trans (congrArg some Kb)
 f171:=Tryz.func122.trans (congrArg some Kb)
 f243:=Tryz.func178.trans (congrArg some Kb)
 f246:=Tryz.func236.trans (congrArg some Kb)
 f283:=Tryz.func279.trans (congrArg some Kb)
 f284:=Tryz.func280.trans (congrArg some Kb)
 f285:=Tryz.func281.trans (congrArg some Kb)
 f286:=Tryz.func282.trans (congrArg some Kb)
 f317:=Tryz.func302.trans (congrArg some Kb)
 f318:=Tryz.func304.trans (congrArg some Kb)
 f319:=Tryz.func305.trans (congrArg some Kb)
 f320:=Tryz.func306.trans (congrArg some Kb)
 f337:=Tryz.func314.trans (congrArg some Kb)
 f338:=Tryz.func315.trans (congrArg some Kb)
 t0:=Tryz.underlying0
 a0:=Tryz.isAgg0
 z0:=Tryz.sizeOf0
 v0:=Tryz.zeroValue0
 t2:=Tryz.underlying2
 a2:=Tryz.isAgg2
 z2:=Tryz.sizeOf2
 v2:=Tryz.zeroValue2
 t3:=Tryz.underlying3
 a3:=Tryz.isAgg3
 z3:=Tryz.sizeOf3
 v3:=Tryz.zeroValue3
 t4:=Tryz.underlying4
 a4:=Tryz.isAgg4
 z4:=Tryz.sizeOf4
 v4:=Tryz.zeroValue4
 t5:=Tryz.underlying5
 a5:=Tryz.isAgg5
 z5:=Tryz.sizeOf5
 v5:=Tryz.zeroValue5
 t9:=Tryz.underlying9
 a9:=Tryz.isAgg9
 z9:=Tryz.sizeOf9
 v9:=Tryz.zeroValue9
 t20:=Tryz.underlying20
 a20:=Tryz.isAgg20
 z20:=Tryz.sizeOf20
 v20:=Tryz.zeroValue20
 t37:=Tryz.underlying98
 a37:=Tryz.isAgg98
 z37:=Tryz.sizeOf98
 v37:=Tryz.zeroValue98
 t46:=Tryz.underlying180
 a46:=Tryz.isAgg180
 z46:=Tryz.sizeOf180
 v46:=Tryz.zeroValue180
 t51:=Tryz.underlying249
 a51:=Tryz.isAgg249
 z51:=Tryz.sizeOf249
 v51:=Tryz.zeroValue249
 t53:=Tryz.underlying258
 a53:=Tryz.isAgg258
 z53:=Tryz.sizeOf258
 v53:=Tryz.zeroValue258
 t171:=Tryz.underlying264
 a171:=Tryz.isAgg264
 z171:=Tryz.sizeOf264
 v171:=Tryz.zeroValue264
 t173:=Tryz.underlying267
 a173:=Tryz.isAgg267
 z173:=Tryz.sizeOf267
 v173:=Tryz.zeroValue267
 t212:=Tryz.underlying285
 a212:=Tryz.isAgg285
 z212:=Tryz.sizeOf285
 v212:=Tryz.zeroValue285
 t213:=Tryz.underlying286
 a213:=Tryz.isAgg286
 z213:=Tryz.sizeOf286
 t232:=Tryz.underlying292
 a232:=Tryz.isAgg292
 z232:=Tryz.sizeOf292
 v232:=Tryz.zeroValue292
 t233:=Tryz.underlying293
 a233:=Tryz.isAgg293
 z233:=Tryz.sizeOf293
 v233:=Tryz.zeroValue293
 g17:=by kernel_rfl
 g18:=by kernel_rfl
 g19:=by kernel_rfl
 i0:=by kernel_rfl
 i2:=by kernel_rfl
 i3:=by kernel_rfl
 i4:=by kernel_rfl
 i5:=by kernel_rfl
 i9:=by kernel_rfl
 i20:=by kernel_rfl
 i37:=by kernel_rfl
 i46:=by kernel_rfl
 i51:=by kernel_rfl
 i53:=by kernel_rfl
 i171:=by kernel_rfl
 i173:=by kernel_rfl
 i212:=by kernel_rfl
 i232:=by kernel_rfl
 i233:=by kernel_rfl
 m17:=by kernel_rfl
 m18:=by kernel_rfl
 m19:=by kernel_rfl }
open Go.RowKit Go.Sort Go.Lib in
theorem Tryz.strconv_Itoa (n:Int) (h0 : -9223372036854775808<=n) (h1:n<=9223372036854775807) (w:World) (htab:Lib.TabIs Tryz.prog w tabNm .u64 Lib.pow10Tab) :
  Calls Tryz.prog 122 #[.int .i64 n] w fun e w'=>e = .returned (.string ⟨(Lib.itoa n).toArray⟩) /\ ∃ k os,w'=grow (w.drewN k) os:=Any.strconv_Itoa Tryz.laysM171_strconv_Itoa n h0 h1 w htab
end
section
variable [Glb]
variable [GTab Tryz.prog tabNm]
theorem itoa_p (n:Nat) (h:n<=1000000):PC Tryz.prog 122 [.c (dI n)] (.p (.c (dT (numT n)))) :=
 pc_lit1 (Go.Proofs.enters_of Tryz.func122 Kb rfl) (by
  have:=(jgi 6 n Kf).2;simp [sc,jeb];omega) fun w ok=>(Tryz.strconv_Itoa (n:Int) Kf Kf w (GTab.tab w ok)).mono (by
  rintro e w' ⟨rfl,k,os,rfl⟩;refine ⟨by rw [Go.Lib.itoa_nonneg];rfl,⟨rfl,rfl,rfl,?_,fun g hg=>?_⟩⟩
  ·simp [Go.Sort.grow,World.drewN]
  ·simp only [Go.Sort.grow,World.drewN];rw [Array.getElem?_append_left hg])
end
section
variable [Glb]
open Go.Shelf Go.Proofs
def Tryz.lays156_ren_strings_Joinstrings_Join_none:Go.Shelf.Ren:=⟨fun | 156=>186 | 165=>245 | 166=>246 | 169=>247 | 240=>284 | 241=>285 | 276=>307 | 277=>308 | n=>n,fun | 31=>35 | 9=>9 | 3=>3 | 4=>4 | 0=>0 | 20=>20 | 72=>234 | 76=>150 | 70=>232 | 37=>98 | 75=>149 | 127=>269 | 164=>287 | 5=>5 | 80=>236 | n=>n,fun | n=>n⟩
theorem Tryz.lays156_strings_Joinstrings_Join_none:Go.Proofs.Lays.n156 Tryz.prog Tryz.lays156_ren_strings_Joinstrings_Join_none:={
 mixed:=by kernel_rfl
 f156:=Tryz.func186.trans (congrArg some Kb)
 f165:=Tryz.func245.trans (congrArg some Kb)
 f166:=Tryz.func246.trans (congrArg some Kb)
 f169:=Tryz.func247.trans (congrArg some Kb)
 f240:=Tryz.func284.trans (congrArg some Kb)
 f241:=Tryz.func285.trans (congrArg some Kb)
 f276:=Tryz.func307.trans (congrArg some Kb)
 f277:=Tryz.func308.trans (congrArg some Kb)
 t0:=Tryz.underlying0
 a0:=Tryz.isAgg0
 z0:=Tryz.sizeOf0
 v0:=Tryz.zeroValue0
 t3:=Tryz.underlying3
 a3:=Tryz.isAgg3
 z3:=Tryz.sizeOf3
 v3:=Tryz.zeroValue3
 t4:=Tryz.underlying4
 a4:=Tryz.isAgg4
 z4:=Tryz.sizeOf4
 v4:=Tryz.zeroValue4
 t9:=Tryz.underlying9
 a9:=Tryz.isAgg9
 z9:=Tryz.sizeOf9
 v9:=Tryz.zeroValue9
 t20:=Tryz.underlying20
 a20:=Tryz.isAgg20
 z20:=Tryz.sizeOf20
 v20:=Tryz.zeroValue20
 t31:=Tryz.underlying35
 a31:=Tryz.isAgg35
 z31:=Tryz.sizeOf35
 v31:=Tryz.zeroValue35
 t37:=Tryz.underlying98
 a37:=Tryz.isAgg98
 z37:=Tryz.sizeOf98
 v37:=Tryz.zeroValue98
 t70:=Tryz.underlying232
 a70:=Tryz.isAgg232
 z70:=Tryz.sizeOf232
 v70:=Tryz.zeroValue232
 t72:=Tryz.underlying234
 a72:=Tryz.isAgg234
 z72:=Tryz.sizeOf234
 v72:=Tryz.zeroValue234
 t75:=Tryz.underlying149
 a75:=Tryz.isAgg149
 z75:=Tryz.sizeOf149
 v75:=Tryz.zeroValue149
 t76:=Tryz.underlying150
 a76:=Tryz.isAgg150
 z76:=Tryz.sizeOf150
 v76:=Tryz.zeroValue150
 t127:=Tryz.underlying269
 a127:=Tryz.isAgg269
 z127:=Tryz.sizeOf269
 v127:=Tryz.zeroValue269
 t164:=Tryz.underlying287
 a164:=Tryz.isAgg287
 z164:=Tryz.sizeOf287
 v164:=Tryz.zeroValue287 }
theorem Tryz.Builder_Extra_156:Builder.Extra Tryz.prog Tryz.lays156_ren_strings_Joinstrings_Join_none:={
 sizeBuilder:=by kernel_rfl
 liesBuilder:=by kernel_rfl
 t5:=Tryz.underlying5
 a5:=Tryz.isAgg5
 z5:=Tryz.sizeOf5
 v5:=Tryz.zeroValue5
 infoByte:=by kernel_rfl
 cellsByte:=by kernel_rfl
 sizeByte:=by kernel_rfl
 neB5:=by decide }
open Go.RowKit in
theorem Tryz.strings_Join_none (a:Option Addr) (c:Nat) (sep:ByteArray) (w:World) :
  Calls Tryz.prog 186 #[.slice a 0 c,.string sep] w fun e w'=>e = .returned (.string ⟨#[]⟩)/\w'=w:=Any.strings_Join_none Tryz.lays156_strings_Joinstrings_Join_none Tryz.Builder_Extra_156 a c sep w
open Go.RowKit in
theorem Tryz.strings_Join (bk o c:Nat) (xs:List ByteArray) (sep:ByteArray) (w:World) (hcells:∀ (j:Nat) x,xs[j]? = some x->w.cell? ⟨bk,o+j,none⟩=some (.string x)) (hbk:bk < w.heap.size) (hN:xs.length<=140737488355328) (hcap:xs.length<=c) (hlen:(Lib.join (xs.map (·.data.toList)) sep.data.toList).length<=140737488355328) :
  Calls Tryz.prog 186 #[.slice (some ⟨bk,o,none⟩) xs.length c,.string sep] w fun e w'=>e = .returned (.string ⟨(Lib.join (xs.map (·.data.toList)) sep.data.toList).toArray⟩)/\Below w.heap.size w w':=Any.strings_Join Tryz.lays156_strings_Joinstrings_Join_none Tryz.Builder_Extra_156 bk o c xs sep w hcells hbk hN hcap hlen
end
section
variable [Glb]
theorem ixB_hit {c:UInt8}:∀ {s:Tx},c∈s->Go.Lib.indexByte s c=((bef c s).length:Int)
 | [],h=>by cases h
 | x :: r,h=>by
  unfold Go.Lib.indexByte;by_cases hx:x=c
  ·subst hx; simp [bef]
  ·have hr:c∈r:=by rcases List.mem_cons.1 h with e|e;exact absurd e.symm hx;exact e
   have:=ixB_hit hr;rw [if_neg (by simpa using hx),this,bef,if_neg hx];rw [if_neg (by rw [beq_iff_eq];omega),List.length_cons];omega
theorem ixB_miss {c:UInt8}:∀ {s:Tx},c ∉ s->Go.Lib.indexByte s c = -1
 | [],h=>rfl
 | x :: r,h=>by
  rw [List.mem_cons,not_or] at h;unfold Go.Lib.indexByte;rw [if_neg (by simpa using Ne.symm h.1),ixB_miss h.2];rfl
theorem ixB_has (c:UInt8) (s:Tx):decide (0<=Go.Lib.indexByte s c)=s.contains c:=by
 by_cases h:c∈s
 ·rw [ixB_hit h]; simp [h]
 ·rw [ixB_miss h]; simp [h]
theorem jgl (s:Tx):(bsT s).data.toList=s:=by simp [bsT]
theorem within_p (n lo hi:Int):PC Tryz.prog 99 [.c (dI n),.c (dI lo),.c (dI hi)] (.p (.c (dB (inB n lo hi)))):=by
 refine jao Tryz.func99 fun _=>?_;repeat' (first|refine Wbh ?_|refine Wbi ?_|refine jac ?_|refine Maa ?_|apply zcs ?_|refine jcc rfl rfl (fun hg=>?_) (fun hg=>?_))
 all_goals ((apply jat;apply jau;exact Ka))
 all_goals (simp [dB,inB, *];try omega)
theorem allWithin_p (l:List Int) (lo hi:Int):PC Tryz.prog 152 [.c (eI l),.c (dI lo),.c (dI hi)] (.p (.c (dB (allB l lo hi)))):=by
 refine jao Tryz.func152 ?_;rintro ⟨hl,-⟩;have hl:=hl.len;repeat' (first|refine jac ?_|refine Maa ?_|fail)
 apply jbe [1,2,9,10,11] [] rfl;exact Ky;exact Yar;refine jbf [1,2,9,10] [] (fun k=>[(11,iN k)]) (fun _=>[]) (fun k=>k<=l.length/\(l.take k).all (fun n=>inB n lo hi)=true) (fun k=>l.length - k) (0) ?_ Kg Kv ?_
 ·simp
 rintro k ⟨hk,ha⟩;repeat' (first|refine jac ?_|refine Maa ?_|apply Ub (c:=within_p _ _ _) (h:=?_)|refine jbd rfl (fun hc=>?_) (fun hc=>?_)|refine jcu rfl (fun hc=>?_) (fun hc=>?_))
 ·rename_i hk';rw [jby Kf] at hc;refine Rad ?_;rw [allB,jlu Kf hc]
 ·exact Dbq
 ·refine Rad ?_;rw [allB,all_t Kf ha]
theorem copied_p (l:List Int) (h:l.length<=10000000):PC Tryz.prog 74 [.c (eI l)] (.p (.c (eI l))):=by
 refine jao Tryz.func74 fun _=>?_;repeat' (first|refine jac ?_|refine Maa ?_|refine Wbq ?_|refine Wbp ?_|fail)
 ·refine Raa ?_;simp
theorem isPlay_p (x y:Int) (l:List Int):PC Tryz.prog 96 [.c (dI x),.c (dI y),.c (eI l)] (.p (.c (dB (bitsB l (IntKind.i64.wrap (x+y)))))):=by
 refine jao Tryz.func96 fun _=>?_;repeat' (first|refine Wbh ?_|refine Wbi ?_|refine jac ?_|refine Maa ?_|(refine jaa (.binOp .add 3 _ _ _) ?_;(refine jab (jpe rfl rfl) rfl ?_))|apply Ub (c:=allWithin_p _ _ _) (h:=?_)|refine jcc rfl rfl (fun hg=>?_) (fun hg=>?_))
 all_goals refine Rad ?_
 all_goals ((simp_all [bitsB];done))
abbrev dU (n:Int):D:=.lit (.int .u64 n)
end
end Go.Proofs.YtbhbkbnlpackdaaGreatDoor
