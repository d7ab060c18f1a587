/- What the functions that FnExactRunScript and FnExactReplayLog and FnExactExecuteCommand reaches return: part of its proof. No condition beyond those of its theorems. -/
import Derived.Test.YtbhbkbnlpackdaaGreatDoorKfnsB
import Derived.Test.YtbhbkbnlpackdaaGreatDoorKplainC
import Derived.Test.YtbhbkbnlpackdaaGreatDoorKfnsA
import Derived.Test.YtbhbkbnlpackdaaGreatDoorKfnsD
import Derived.Test.YtbhbkbnlpackdaaGreatDoorKfnsC
import Derived.Test.YtbhbkbnlpackdaaGreatDoorKfnsF
import Derived.Test.YtbhbkbnlpackdaaGreatDoorKfnsH
import Derived.Test.YtbhbkbnlpackdaaGreatDoorKplainA
import Derived.Test.YtbhbkbnlpackdaaGreatDoorKfnsE
import Derived.Test.YtbhbkbnlpackdaaGreatDoorKfnsI
import Derived.Test.YtbhbkbnlpackdaaGreatDoorKplainB
import Derived.WalkKit
import Derived.Shelf.Strconv.ErrVarAll
import Derived.Shelf.Strconv.Atoi
set_option linter.unusedSectionVars false
set_option maxRecDepth 10000
set_option maxHeartbeats 4000000
set_option linter.unusedVariables false
set_option linter.unusedSimpArgs false
namespace Go.Proofs.YtbhbkbnlpackdaaGreatDoor
open Go.RowKit
section
variable [Glb]
section
variable {P:Program} {st:St} {dst:Option Tmp} {ty:TypeId} {pos:String} {af:Array Edge} {x y:Operand}
theorem qt_orN {T T':TypeId} {m n:Nat} (hx:st.ev x = .c (.d (dI (m:Int)))) (hy:st.ev y = .c (.d (dI (n:Int)))) (hm:m < 4096) (hn:n < 4096):Qt P ⟨dst,.binOp .or T x y T',ty,pos,af,none⟩ st (.c (.d (dI ((m ||| n:Nat):Int)))):=by
 rw [<- bor_nat m n Kf Kf];exact jco hx hy Yby
theorem qt_xorN {T T':TypeId} {m n:Nat} (hx:st.ev x = .c (.d (dI (m:Int)))) (hy:st.ev y = .c (.d (dI (n:Int)))) (hm:m < 4096) (hn:n < 4096):Qt P ⟨dst,.binOp .xor T x y T',ty,pos,af,none⟩ st (.c (.d (dI ((m^^^n:Nat):Int)))):=by
 rw [<- bxor_nat m n Kf Kf];exact jco hx hy Yby
theorem qt_xorM {T T':TypeId} {a b:Int} (m n:Nat) (hx:st.ev x = .c (.d (dI a))) (ha:a=(m:Int)) (hy:st.ev y = .c (.d (dI b))) (hb:b=(n:Int)) (hm:m < 4096) (hn:n < 4096):Qt P ⟨dst,.binOp .xor T x y T',ty,pos,af,none⟩ st (.c (.d (dI ((m^^^n:Nat):Int)))):=by
 subst ha hb;exact qt_xorN hx hy hm hn
theorem qt_shlN {T T':TypeId} {m:Int} {c:Nat} {n:Int} (M:Nat) (hx:st.ev x = .c (.d (dI m))) (hM:m=(M:Int)) (hy:st.ev y = .c (.d (.lit (.int .i64 n)))) (hn:n=(c:Int)) (hc:c < 12) (hm:M<=1):Qt P ⟨dst,.binOp .shl T x y T',ty,pos,af,none⟩ st (.c (.d (dI ((M*2^c:Nat):Int)))):=by
 subst hM hn;have e:IntKind.i64.wrap ((M:Int)*2^(min (c:Int).toNat IntKind.i64.bits))=((M*2^c:Nat):Int):=by
  have:min (c:Int).toNat IntKind.i64.bits=c:=by
   rw [Int.toNat_natCast];exact Nat.min_eq_left (by show c<=64;omega)
  rw [this];have p:=pow12 hc;have q:M*2^c < 4096:=by
   rcases (by omega:M=0∨M=1) with rfl|rfl
   ·simp
   ·simpa using p
  rw [show (M:Int)*2^c=((M*2^c:Nat):Int) by simp];exact wrap_nat Kf
 rw [<- e];exact qt_shl hx hy Kf
end
theorem z_set (R:List Nat) (i v:Nat):(cI (zL R)).set (0+((i:Nat):Int).toNat*1) (D.lit (Value.int IntKind.i64 (v:Int)))=cI (zL (R.set i v)):=by
 simp [zL,List.map_set]
theorem zmask_succ (cc:List (List Int)) (k:Nat):zL (masksL cc (k+1))=zL (masksL cc k)++[((maskK (atZ cc (k:Int)) (atZ cc (k:Int)).length:Nat):Int)]:=by
 rw [jni]; simp [zL]
theorem l7Rows_p (ev:Int) (cc:List (List Int)) (ss:List Int) (hs:sceneB ev cc ss=true):PC Tryz.prog 225 [.g [dI ev,eII cc,eI ss]] (.p (.c (eI (zL (masksL cc cc.length))))):=by
 have c10:=(jbv hs).c10;refine jao Tryz.func225 fun _=>?_;repeat' (first|refine jac ?_|refine Maa ?_|refine Wbb ?_|refine Wbq ?_|fail)
 apply jbe [1,3,4] [1,7,38,39] rfl;exact Kk;exact Ybe;refine jbf [1] [1,38,39] (fun i=>[(4,iN i),(3,.c (.ls 7 1 0 i))]) (fun i=>[(7,.row 1 (cI (zL (masksL cc i))))]) (fun i=>i<=cc.length) (fun i=>cc.length - i) (0) ?_ Kg (by (repeat(first|exact trivial|refine ⟨(by ((refine jbs rfl ?_;simp  [masksL,zL];done))),?_⟩))) ?_
 ·omega
 intro i hi;have zl:(zL (masksL cc i)).length=i:=by simp
 by_cases hi2:i < cc.length
 ·have cb:=jlr hs hi2;have zs:=zmask_succ cc i;have cl:(atZ cc (i:Int)).length<=1000:=Dbo
  repeat' (first|refine jac ?_|refine Maa ?_|refine jbd rfl (fun hc=>?_) (fun hc=>?_)|exact Qaa|fail)
  apply jbe [1,3,4,5,6] [1,7,38,39] rfl;exact Kk;exact Ybe;refine jbf [1,3,4] [1,7,38,39] (fun j=>[(6,iN j),(5,.c (.d (dI ((maskK (atZ cc (i:Int)) j:Nat):Int))))]) (fun _=>[]) (fun j=>j<=(atZ cc (i:Int)).length) (fun j=>(atZ cc (i:Int)).length - j) (0) ?_ Kg Kv ?_
  ·omega
  intro j hj;by_cases hj2:j < (atZ cc (i:Int)).length
  ·have b:=cb j hj2;have s:=jgj (l:=atZ cc (i:Int)) (k:=j) fun t ht=>cb t Kf;have q:1*2^(atZ (atZ cc (i:Int)) (j:Int)).toNat < 4096:=by rw [Nat.one_mul];exact pow12 Kf
   repeat' (first|refine jac ?_|refine Maa ?_|(refine jaa (.binOp .shl 3 _ _ _) ?_;((first|refine jab (qt_shlN (c:=(atZ (atZ cc (i:Int)) (j:Int)).toNat) 1 rfl rfl rfl Kf Kf Kf) rfl ?_|refine jab (qt_orN rfl rfl s q) rfl ?_)))|(refine jaa (.binOp .or 3 _ _ _) ?_;((first|refine jab (qt_shlN (c:=(atZ (atZ cc (i:Int)) (j:Int)).toNat) 1 rfl rfl rfl Kf Kf Kf) rfl ?_|refine jab (qt_orN rfl rfl s q) rfl ?_)))|refine Wbr ?_|refine Wbs ?_|refine jbd rfl (fun hc=>?_) (fun hc=>?_)|exact Qaa|fail)
   refine bkL (j+1) ?_ ?_ (hV:=(by (repeat(first|exact trivial|refine ⟨(by (first|rfl|(refine jcd rfl ?_;((simp  [maskK];done))))),?_⟩))))
   ·omega
   ·omega
  ·obtain rfl:j=(atZ cc (i:Int)).length:=by omega
   repeat' (first|refine jac ?_|refine Maa ?_|(refine jaa (.binOp .shl 3 _ _ _) ?_;(((exfalso;omega))))|refine Wbr ?_|refine Wbs ?_|refine jbd rfl (fun hc=>?_) (fun hc=>?_)|exact Qaa|fail)
   refine bkL (i+1) ?_ ?_ (hB:=(by (repeat(first|exact trivial|refine ⟨(by ((refine jbs rfl ?_;simp  [zs];done))),?_⟩))))
   ·omega
   ·omega
 ·obtain rfl:i=cc.length:=by omega
  repeat' (first|refine jac ?_|refine Maa ?_|refine jbd rfl (fun hc=>?_) (fun hc=>?_)|exact Qaa|fail)
  all_goals refine Raa ?_
  all_goals exact congrArg (fun z=>Res.p (RP.c (D.sl 1 z (cI (zL (masksL cc cc.length)))))) zl.symm
theorem masks_E {E:Nat} {cc:List (List Int)} {ss:List Int} (hs:sceneB E cc ss=true):∀ x∈masksL cc cc.length,x < 2^E:=fun x hx=>by
 unfold masksL at hx;obtain ⟨i,hi,rfl⟩:=List.mem_map.1 hx;have hi:=List.mem_range.1 hi;have s:=jbv hs;have c:ctxB E (atZ cc (i:Int))=true:=by rw [jby hi];exact s.ctx i hi
 simp only [ctxB,Bool.and_eq_true] at c;have rl:=jmt c.2;exact mask_ltE fun j hj=>by have:=rl j hj;omega
theorem Vaz {G G':Prop} (h:G') (t:Laa G'->G:=by intro h;first|(first|apply zdj h.o|apply zbm h.o|apply zca h.o|exact Wbh h.o|exact Wbi h.o|exact jac h.o|exact Maa h.o|exact Wbb h.o|(refine jaa (.store 3 _ _) ?_;((refine jcp rfl rfl rfl rfl (.lit _) Yby Yby Kb Kf rfl ?_;simp only [St.drop]));exact h.o)|exact Wab h.o|apply zbt h.o|apply zbi h.o|fail);done|fail):G:=t ⟨h⟩
theorem spRankOfScene_p (E:Nat) (cc:List (List Int)) (ss:List Int) (hs:sceneB E cc ss=true):PC Tryz.prog 172 [.g [dI E,eII cc,eI ss]] (.t [.c (dI ((basM (masksM cc)).length:Nat)),.c (dB true)]):=by
  have g:=l7Good_p E cc ss;rw [hs] at g;have e12:=(jbv hs).e12;have c10:=(jbv hs).c10;have rp:=l7Rows_p E cc ss hs;have ms:masksM cc=masksL cc cc.length:=rfl;have mE:=masks_E hs;have mlen:(masksL cc cc.length).length=cc.length:=by simp
  rw [ms];generalize masksL cc cc.length=M at *;have p12:2^E<=2^12:=Nat.pow_le_pow_right Kf Kf;refine jao Tryz.func172 fun _=>?_;repeat' (first|refine Vaz ?_|apply Ub (c:=g) (h:=?_)|apply Ua (c:=rp) (h:=?_)|exact Qac|fail)
  apply jbe [1,4,5,6] [1,14] rfl;exact Kk;exact Ybl;refine jbf [1,4] [1] (fun (g:Nat×Nat×List Nat)=>[(6,iN g.1),(5,iN g.2.1)]) (fun g=>[(14,.row 1 (cI (zL g.2.2)))]) (fun g=>g.1<=E/\g.2.2.length=M.length/\Elim M g.2.2 E g.2.1 g.1) (fun g=>E - g.1) ((0,0,M)) ?_ Kg Kt ?_
  · exact ⟨by simp,rfl,elim_start mE⟩
  rintro ⟨e,r,R⟩ ⟨he,hR,hE⟩;dsimp only at he hR hE ⊢;have zr:(zL R).length=R.length:=zL_len R;have zm:(zL M).length=M.length:=zL_len M;have rk:=hE.rk;have lt:=hE.lt;by_cases he2:e < E
  · repeat' (first|refine zaa ?_|refine zab ?_|refine zbv ?_|refine zaf ?_|refine zac ?_|refine jai ?_|refine jaj ?_|refine jah ?_|refine jaq rfl ?_|refine jam ?_|refine jac ?_|refine jbd rfl (fun hc => ?_) (fun hc => ?_))
    all_goals try exact Qaa
    apply jbe [1,4,5,6,7] [1,14] rfl;exact Kk;exact Ybl;refine jbf [1,4,5,6] [1,14] (fun k=>[(7,iN k)]) (fun _=>[]) (fun k=>(r<=k/\k<=R.length) /\ ∀ j,r<=j->j < k->(rw0 R j).testBit e=false) (fun k=>R.length - k) (r) ?_ Kg Kv ?_
    · exact ⟨by omega,fun j h1 h2=>by omega⟩
    rintro k ⟨⟨hk1,hk⟩,hz⟩;by_cases hk2:k < R.length
    · have za := zL_at hk2
      have e3:atZ (zL R) (k:Int) / 2^((e:Int)).toNat%2=(bitN (rw0 R k) e:Int):=by rw [za,Int.toNat_natCast,jhc]
      rcases bitN_01 (rw0 R k) e with hb|hb
      · have hz2:∀ j,r<=j->j < k+1->(rw0 R j).testBit e=false:=fun j h1 h2=>by
          by_cases h3:j=k
          · subst h3;exact bit_no hb
          · exact hz j h1 Kf
        rw [hb] at e3;repeat' (first|refine Vaz ?_|refine jcc rfl rfl (fun hg=>?_) (fun hg=>?_)|refine jbd rfl (fun hc=>?_) (fun hc=>?_)|exact Qaa|fail)
        refine bkL (k+1) ?_ ?_
        · exact ⟨by omega,hz2⟩
        · omega
      · rw [hb] at e3
        repeat' (first|(refine jaa (.store 3 _ _) ?_;((refine jcp rfl rfl rfl rfl (.lit _) Yby Yby Kb (by (first|omega|(simp only [List.length_map,List.length_append,List.length_replicate,fillL_len,rowF_len,gridF_len,mkI_len,mkII_len,jdb] at *;omega)|(simp at *;omega))) rfl ?_;simp only [St.drop])))|refine Vaz ?_|refine jcc rfl rfl (fun hg=>?_) (fun hg=>?_)|refine jbd rfl (fun hc=>?_) (fun hc=>?_)|exact Qaa|fail)
        have zar:=zL_at (l:=R) (i:=r) Kf;rw [zar,za,z_set,z_set];have sw:=elim_swap hE hk1 hk2;obtain ⟨R2,hR2⟩:∃ R2,R2=(R.set k (rw0 R r)).set r (rw0 R k):=⟨_,rfl⟩;have l2:R2.length=R.length:=by rw [hR2];simp
        have x2:rw0 R2 r=rw0 R k:=by
          rw [hR2,jms Ybw,if_pos rfl]
        rw [<- hR2] at sw ⊢;have c0:Clear M R2 E r e (r+1):=⟨sw,by omega,by rw [x2];exact bit_yes hb,by omega,by omega,fun j h1 h2=>by omega⟩;obtain ⟨x0,hx0⟩:∃ x0,x0=rw0 R k:=⟨_,rfl⟩;have x12:x0 < 4096:=by
          have:=lt k hk2;omega
        rw [<- hx0] at x2 ⊢;clear hR2 sw zar za e3 hz hE hb lt hx0;apply jbe [1,4,5,6,8,9] [1,14] rfl;exact Kk;exact Ybl;refine jbf [1,4,5,6,8] [1] (fun (g:Nat×List Nat)=>[(9,iN g.1)]) (fun g=>[(14,.row 1 (cI (zL g.2)))]) (fun g=>Clear M g.2 E r e g.1/\rw0 g.2 r=x0/\g.2.length=R.length) (fun g=>R.length - g.1) ((r+1,R2)) ?_ Kg Kt ?_
        · exact ⟨c0,x2,l2⟩
        clear c0 x2 l2;rintro ⟨i,R3⟩ ⟨hC,x2,l2⟩;dsimp only at hC x2 l2 ⊢;have z2:(zL R3).length=R3.length:=zL_len R3;have i2:=hC.i2;by_cases hi2:i < R3.length
        · have za := zL_at hi2
          have e3:atZ (zL R3) (i:Int) / 2^((e:Int)).toNat%2=(bitN (rw0 R3 i) e:Int):=by rw [za,Int.toNat_natCast,jhc]
          have cs:=clear_step hC hi2;have l12:rw0 R3 i < 4096:=by have:=hC.el.lt i hi2;omega
          rw [x2] at cs;have nx:rw0 (if (rw0 R3 i).testBit e=true then R3.set i (rw0 R3 i^^^x0) else R3) r=x0:=by
            have:=hC.i1;split
            · rw [jms hi2,if_neg Kf];exact x2
            · exact x2
          rcases bitN_01 (rw0 R3 i) e with hb|hb
          · rw [bit_no hb, if_neg Yby] at cs nx
            rw [hb] at e3;repeat' (first|refine Vaz ?_|refine jbd rfl (fun hc=>?_) (fun hc=>?_)|exact Qaa|fail)
            refine bkL (i+1,R3) ?_ ?_
            · exact ⟨cs,x2,l2⟩
            · dsimp only;omega
          · rw [bit_yes hb, if_pos rfl] at cs nx
            rw [hb] at e3;have l3:(R3.set i (rw0 R3 i^^^x0)).length=R.length:=by simp;exact l2
            repeat' (first|(refine jaa (.binOp .xor 3 _ _ _) ?_;((refine jab (qt_xorM (rw0 R3 i) x0 rfl za rfl rfl l12 x12) rfl ?_)))|refine Vaz ?_|refine jbd rfl (fun hc=>?_) (fun hc=>?_)|exact Qaa|fail)
            rw [z_set];refine bkL (i+1,R3.set i (rw0 R3 i^^^x0)) ?_ ?_
            · exact ⟨cs,nx,l3⟩
            · dsimp only;omega
        · obtain rfl : i = R3.length := by omega
          have ce:=clear_end hC;repeat' (first|refine Vaz ?_|refine jbd rfl (fun hc=>?_) (fun hc=>?_)|exact Qaa|fail)
          refine bkL (e+1,r+1,R3) ?_ ?_
          · exact ⟨by dsimp only;omega,by dsimp only;omega,ce⟩
          · dsimp only; omega
    · obtain rfl : k = R.length := by omega
      have sk:=elim_skip hE hz;repeat' (first|refine Vaz ?_|refine jcc rfl rfl (fun hg=>?_) (fun hg=>?_)|refine jbd rfl (fun hc=>?_) (fun hc=>?_)|exact Qaa|fail)
      refine bkL (e+1,r,R) ?_ ?_
      · exact ⟨by dsimp only;omega,hR,sk⟩
      · dsimp only; omega
  · obtain rfl : e = E := by omega
    have fin:=elim_end hE;rw [fin];repeat' (first|refine Vaz ?_|refine jbd rfl (fun hc=>?_) (fun hc=>?_)|exact Qaa|exact Rbl|fail)
theorem l7Picks_p (ev:Int) (cc:List (List Int)) (ss nu:List Int) (hs:sceneB ev cc ss=true) (hn:bitsB nu ev=true):PC Tryz.prog 226 [.g [dI ev,eII cc,eI ss],.c (eI nu)] (.p (.c (dB (picksB cc nu)))):=by
 have c10:=(jbv hs).c10;have on:=fun (i:Nat) (hi:i < cc.length)=>ones_at hs hn hi;have po:∀ i:Nat,i < cc.length->pickAt cc nu i=decide (onesK (atZ cc (i:Int)) nu (atZ cc (i:Int)).length=1):=fun i hi=>by
  have:=ctx_ones hs hn hi;unfold pickAt;exact decide_eq_decide.2 ⟨fun h=>by omega,fun h=>by omega⟩
 have pf:∀ i:Nat,i < cc.length->pickAt cc nu i=false->picksB cc nu=false:=fun i hi h=>jft hi h;refine jao Tryz.func226 fun _=>?_;repeat' (first|refine jac ?_|refine Maa ?_|refine Wbb ?_|fail)
 apply jbe [1,2,5] [2] rfl;exact Kh;exact Ybi;refine jbf [1,2] [2] (fun k=>[(5,iN k)]) (fun _=>[]) (fun k=>k<=cc.length /\ ∀ j:Nat,j < k->pickAt cc nu j=true) (fun k=>cc.length - k) (0) ?_ Kg Kv ?_
 ·exact ⟨by omega,fun j hj=>by omega⟩
 rintro k ⟨hk,ht⟩;by_cases h:k < cc.length
 ·obtain ⟨o,o0,o1⟩:=on k h;have kq:=po k h;have kf:=pf k h;generalize onesK (atZ cc (k:Int)) nu (atZ cc (k:Int)).length=z at *;by_cases hz:z=1
  ·rw [decide_eq_true hz] at kq;clear kf pf po on;repeat' (first|refine jac ?_|refine Maa ?_|apply Ub (c:=o) (h:=?_)|refine jbd rfl (fun hc=>?_) (fun hc=>?_)|exact Qaa|fail)
   refine bkL (k+1) ?_ ?_
   ·refine ⟨by omega,fun j hj=>?_⟩;by_cases e:j=k
    ·subst e; exact kq
    ·exact ht j Kf
   ·omega
  ·rw [decide_eq_false hz] at kq;have kz:=kf kq;clear kf pf po on;repeat' (first|refine jac ?_|refine Maa ?_|apply Ub (c:=o) (h:=?_)|refine jbd rfl (fun hc=>?_) (fun hc=>?_)|exact Qaa|fail)
   refine Rad ?_;rw [kz]
 ·have hk2:k=cc.length:=by omega
  have yes:picksB cc nu=true:=by
   unfold picksB;rw [List.all_eq_true];exact fun j hj=>ht j (by have:=List.mem_range.1 hj;omega)
  clear pf po on;repeat' (first|refine jac ?_|refine Maa ?_|refine jbd rfl (fun hc=>?_) (fun hc=>?_)|exact Qaa|fail)
  refine Rad ?_;rw [yes]
theorem spCountPicks_p (E:Nat) (cc:List (List Int)) (ss:List Int) (hs:sceneB E cc ss=true):PC Tryz.prog 173 [.g [dI E,eII cc,eI ss]] (.t [.c (dI (pickF cc E (2^E):Nat)),.c (dB true)]):=by
 have g:=l7Good_p E cc ss;rw [hs] at g;have e12:=(jbv hs).e12;have pw:2^E<=2^12:=Nat.pow_le_pow_right Kf Kf;have pl:=pickF_le cc E;have st:∀ c,pickF cc E (c+1)=if picksB cc (bitsM E c)=true then pickF cc E c+1 else pickF cc E c:=fun c=>rfl;have hp:∀ c:Nat,c < 2^E->PC Tryz.prog 224 [.c (dI E),.c (dI c)] (.p (.c (eI (bitsM E c))))/\PC Tryz.prog 226 [.g [dI E,eII cc,eI ss],.c (eI (bitsM E c))] (.p (.c (dB (picksB cc (bitsM E c))))):=fun c hc=>⟨l7Assignment_p E c Kf Kf,l7Picks_p E cc ss (bitsM E c) hs (jez E c)⟩;have bl:=fun c=>bitsM_len E c;obtain ⟨N,hN⟩:∃ N:Nat,N=2^E:=⟨_,rfl⟩;have e1:(1:Int)*2^((E:Int)).toNat=N:=by rw [Int.toNat_natCast,hN,Int.natCast_pow];simp
 rw [<- hN] at pw hp ⊢;refine jao Tryz.func173 fun _=>?_;repeat' (first|refine jac ?_|refine Maa ?_|refine Wbb ?_|apply Ub (c:=g) (h:=?_)|exact Qac|fail)
 apply jbe [1,4,5] [1,20] rfl;exact Kh;exact Ybf;refine jbf [1] [1,20] (fun c=>[(5,iN c),(4,iN (pickF cc E c))]) (fun _=>[]) (fun c=>c<=N) (fun c=>N - c) (0) ?_ Kg Kv ?_
 ·omega
 intro c hc;have pc:=pl c;have sc:=st c;clear pl st;by_cases h:c < N
 ·obtain ⟨an,pk⟩:=hp c h;have bc:=bl c;clear hp bl;generalize bitsM E c=BM at *;cases hb:picksB cc BM with
  | true =>
   rw [hb] at pk sc;rw [if_pos rfl] at sc;repeat' (first|refine jac ?_|refine jav 7 (fun _=>false) [0,1,2,3,-5,-6] ?_|refine Maa ?_|apply zcv ?_|apply Ua (c:=an) (h:=?_)|apply Ub (c:=pk) (h:=?_)|refine jbd rfl (fun hc=>?_) (fun hc=>?_)|exact Qaa|fail)
   refine bkL (c+1) ?_ ?_
   ·omega
   ·omega
  | false =>
   rw [hb] at pk sc;rw [if_neg Yby] at sc;repeat' (first|refine jac ?_|refine jav 7 (fun _=>false) [0,1,2,3,-5,-6] ?_|refine Maa ?_|apply zcv ?_|apply Ua (c:=an) (h:=?_)|apply Ub (c:=pk) (h:=?_)|refine jbd rfl (fun hc=>?_) (fun hc=>?_)|exact Qaa|fail)
   refine bkL (c+1) ?_ ?_
   ·omega
   ·omega
 ·have hc2:c=N:=by omega
  subst hc2;repeat' (first|refine jac ?_|refine jav 7 (fun _=>false) [0,1,2,3,-5,-6] ?_|refine Maa ?_|apply zcv ?_|refine jbd rfl (fun hc=>?_) (fun hc=>?_)|exact Qaa|fail)
  refine Ral ?_;rfl
theorem l7Before_p (a b:List Int) (ha:a.length<=1000) (hb:b.length<=1000):PC Tryz.prog 223 [.c (eI a),.c (eI b)] (.p (.c (dB (befB a b)))):=by
  have e1:a.length≠b.length->befB a b=decide ((a.length:Int) < b.length):=fun h=>by
    unfold befB;rw [decide_eq_false h,Bool.false_and,Bool.or_false];exact decide_eq_decide.2 ⟨fun h=>by omega,fun h=>by omega⟩
  have e2:a.length=b.length->befB a b=decide (lexC a b < 0):=fun h=>by
    unfold befB;rw [decide_eq_true h,decide_eq_false (by omega:¬ a.length < b.length)];simp
  have e3:=fun k=>jnl (a:=a) (b:=b) (k:=k);have e4:=jkt (a:=a) (b:=b);refine jao Tryz.func223 fun _=>?_;by_cases hl:a.length=b.length
  · have f2 := e2 hl
    clear e1 e2;repeat' (first|refine jac ?_|refine Maa ?_|refine jbd rfl (fun hc=>?_) (fun hc=>?_)|exact Qaa|fail)
    apply jbe [0,1,5] [] rfl;exact Ky;exact Yar;refine jbf [0,1] [] (fun k=>[(5,iN k)]) (fun _=>[]) (fun k=>k<=a.length/\a.take k=b.take k) (fun k=>a.length - k) (0) ?_ Kg Kv ?_
    · exact ⟨by omega,by simp⟩
    rintro k ⟨hk,ht⟩;by_cases h:k < a.length
    · by_cases hn : atZ a (k : Int) = atZ b (k : Int)
      · have ht2:a.take (k+1)=b.take (k+1):=by
          rw [List.take_succ_eq_append_getElem h,List.take_succ_eq_append_getElem Kf,ht,<- jby h,<- jby Kf,hn]
        clear f2 e3 e4;repeat' (first|refine jac ?_|refine jav 6 (fun _=>false) [0,1,2,3,4,5,6,7,8] ?_|refine jav 7 (fun _=>false) [0,1,2,3,4,5,6,7,8,9] ?_|refine Maa ?_|refine jbd rfl (fun hc=>?_) (fun hc=>?_)|exact Qaa|fail)
        refine bkL (k+1) ?_ ?_
        · exact ⟨by omega,ht2⟩
        · omega
      · have f3 := e3 k h Kf ht hn
        have f5:befB a b=decide (atZ a (k:Int) < atZ b (k:Int)):=by
          rw [f2, f3];by_cases hh:atZ a (k:Int) < atZ b (k:Int)
          · rw [if_pos hh,decide_eq_true hh];decide
          · rw [if_neg hh,decide_eq_false hh];decide
        clear f2 e3 e4 f3;rw [f5];repeat' (first|refine jac ?_|refine jav 6 (fun _=>false) [0,1,2,3,4,5,6,7,8] ?_|refine jav 7 (fun _=>false) [0,1,2,3,4,5,6,7,8,9] ?_|refine Maa ?_|refine jbd rfl (fun hc=>?_) (fun hc=>?_)|exact Qaa|exact Rav|fail)
    · have hk2 : k = a.length := by omega
      have f4:=e4 Kf (by rw [hk2,List.take_length] at ht;exact ht);have f5:befB a b=false:=by rw [f2,f4,if_neg Kf];decide
      clear f2 e3 e4 f4;rw [f5];repeat' (first|refine jac ?_|refine jav 6 (fun _=>false) [0,1,2,3,4,5,6,7,8] ?_|refine jav 7 (fun _=>false) [0,1,2,3,4,5,6,7,8,9] ?_|refine Maa ?_|refine jbd rfl (fun hc=>?_) (fun hc=>?_)|exact Qaa|exact Rav|fail)
  · have f1 := e1 hl
    clear e1 e2 e3 e4;rw [f1];repeat' (first|refine jac ?_|refine Maa ?_|refine jbd rfl (fun hc=>?_) (fun hc=>?_)|exact Qaa|exact Rav|fail)
theorem Vba {G G':Prop} (h:G') (t:Laa G'->G:=by intro h;first|(first|exact Wbh h.o|exact Wbi h.o|exact jac h.o|exact Maa h.o|exact Wbb h.o|apply zbi h.o|fail);done|fail):G:=t ⟨h⟩
theorem l7Proof_p (ev:Int) (cc:List (List Int)) (ss l:List Int) (hs:sceneB ev cc ss=true) (hl:∀ j:Nat,j < l.length->0<=atZ l (j:Int)/\atZ l (j:Int) < cc.length) (hn:l.length<=1000):PC Tryz.prog 222 [.g [dI ev,eII cc,eI ss],.c (eI l)] (.p (.c (dB (proofB cc ss l)))):=by
 have s:=jbv hs;have c10:=s.c10;have sl:=s.sl;have rp:=l7Rows_p ev cc ss hs;have zlen:(zL (masksL cc cc.length)).length=cc.length:=by simp
 have ma:∀ j:Nat,j < l.length->atZ (zL (masksL cc cc.length)) (atZ l (j:Int))=((maskK (atZ cc (atZ l (j:Int))) (atZ cc (atZ l (j:Int))).length:Nat):Int)/\maskK (atZ cc (atZ l (j:Int))) (atZ cc (atZ l (j:Int))).length < 4096:=fun j hj=>by
  have b:=hl j hj;obtain ⟨i,hi⟩:=Int.eq_ofNat_of_zero_le b.1;rw [hi];have h1:i < cc.length:=by omega
  refine ⟨?_,jgj (jlr hs h1)⟩;rw [zL_at (by simpa using h1),<- jjx cc h1,jgq (by simpa using h1),jby (by simpa using h1)]
 have xl:=xorK_lt hs hl;have sb:=sumK_bd s.sb hl;have sx:∀ j:Nat,j < l.length->xorK cc l (j+1)=xorK cc l j^^^maskK (atZ cc (atZ l (j:Int))) (atZ cc (atZ l (j:Int))).length:=fun j hj=>rfl;have ssx:∀ j:Nat,sumK ss l (j+1)=sumK ss l j+atZ ss (atZ l (j:Int)):=fun j=>rfl;have bs:∀ j:Nat,j < l.length->0<=atZ ss (atZ l (j:Int))/\atZ ss (atZ l (j:Int))<=1:=fun j hj=>jdd s.sb (hl j hj).1 (by have:=(hl j hj).2;omega);generalize zL (masksL cc cc.length)=M at *;clear s;refine jao Tryz.func222 fun _=>?_;repeat' (first|refine Vba ?_|apply Ub (c:=rp) (h:=?_))
 apply jbe [1,2,5,6,7,8] [2,10] rfl;exact Kh;exact Ybf;refine jbf [1,2,5] [2,10] (fun j=>[(8,iN j),(6,.c (.d (dI ((xorK cc l j:Nat):Int)))),(7,iZ (sumK ss l j))]) (fun _=>[]) (fun j=>j<=l.length) (fun j=>l.length - j) (0) ?_ Kg Kv ?_
 ·omega
 intro j hj;by_cases hj2:j < l.length
 ·have h1:=hl j hj2;obtain ⟨h2,h6⟩:=ma j hj2;have h3:=xl j Kf;have h4:=sb j Kf;have h5:=bs j hj2;have e1:=sx j hj2;have e2:=ssx j;clear hl ma xl sb bs sx ssx;generalize sumK ss l j=S0 at *;generalize xorK cc l j=X0 at *;generalize maskK (atZ cc (atZ l (j:Int))) (atZ cc (atZ l (j:Int))).length=m0 at *;repeat' (first|(refine jaa (.binOp .xor 3 _ _ _) ?_;((refine jab (qt_xorM X0 m0 rfl rfl rfl h2 h3 h6) rfl ?_)))|refine jav 7 (fun _=>false) [0,1,2,3,4,5,6,7,8,9,10] ?_|refine Vba ?_|refine jcc rfl rfl (fun hg=>?_) (fun hg=>?_)|refine jbd rfl (fun hc=>?_) (fun hc=>?_)|exact Qaa|fail)
  refine bkL (j+1) ?_ ?_
  ·omega
  ·omega
 ·obtain rfl:j=l.length:=by omega
  have h4:=sb l.length Kf;have pb:proofB cc ss l=(decide (((xorK cc l l.length:Nat):Int)=0)&&decide ((sumK ss l l.length).tmod 2=1)):=Dbr
  clear sb sx ssx bs xl ma hl;generalize sumK ss l l.length=S0 at *;generalize xorK cc l l.length=X0 at *;rw [pb];by_cases hz:((X0:Nat):Int)=0
  ·have hz2:X0=0:=by omega
   repeat' (first|refine jav 7 (fun _=>false) [0,1,2,3,4,5,6,7,8,9,10] ?_|refine Vba ?_|refine jcc rfl rfl (fun hg=>?_) (fun hg=>?_)|refine jbd rfl (fun hc=>?_) (fun hc=>?_)|exact Qab|fail)
   all_goals refine Rad ?_
   all_goals simp [hz2,Int.tmod_eq_emod_of_nonneg h4.1]
  ·have hz2:¬ X0=0:=by omega
   repeat' (first|refine jav 7 (fun _=>false) [0,1,2,3,4,5,6,7,8,9,10] ?_|refine Vba ?_|refine jcc rfl rfl (fun hg=>?_) (fun hg=>?_)|refine jbd rfl (fun hc=>?_) (fun hc=>?_)|exact Qab|fail)
   all_goals refine Rad ?_
   all_goals simp [hz2,Int.tmod_eq_emod_of_nonneg h4.1]
theorem Vbb {G G':Prop} (h:G') (t:Laa G'->G:=by intro h;first|(first|apply zbm h.o|exact jgc rfl rfl rfl rfl rfl h.o|exact Wbh h.o|exact Wbi h.o|exact Maa h.o|exact Wbb h.o|apply zcv h.o|exact Wbq h.o|apply zbt h.o|exact Wbr h.o|exact Wbs h.o|fail);done|fail):G:=t ⟨h⟩
theorem spFindParityProof_p (E:Int) (cc:List (List Int)) (ss:List Int) (hs:sceneB E cc ss=true):PC Tryz.prog 170 [.g [dI E,eII cc,eI ss]] (.t [.c (eI (bestF cc ss (2^cc.length))),.c (dB (decide (bestF cc ss (2^cc.length)≠[])))]):=by
 have g:=l7Good_p E cc ss;rw [hs] at g;have c10:=(jbv hs).c10;have p10:2^cc.length<=1024:=(Nat.pow_le_pow_right (n:=2) Kf c10:2^cc.length<=2^10);have p1:1<=2^cc.length:=Nat.one_le_two_pow;obtain ⟨N,hN⟩:∃ N:Nat,N=2^cc.length:=⟨_,rfl⟩;have e1:(1:Int)*2^((cc.length:Int)).toNat=N:=by rw [Int.toNat_natCast,hN,Int.natCast_pow];simp
 rw [<- hN] at p10 p1 ⊢;refine jao Tryz.func170 fun _=>?_;repeat' (first|refine jac ?_|refine Vbb ?_|apply Ub (c:=g) (h:=?_)|exact Qac|fail)
 apply jbe [1,4,5] [1,8,21,36,37] rfl;exact Kk;exact Ybe;refine jbf [1] [1,21,36,37] (fun (g:Nat×List Int)=>[(5,iN g.1),(4,.c (.ls 8 1 0 g.2.length))]) (fun g=>[(8,.row 1 (cI g.2))]) (fun g=>(1<=g.1/\g.1<=N)/\g.2=bestF cc ss g.1) (fun g=>N - g.1) ((1,[])) ?_ Kg Kt ?_
 ·exact ⟨⟨by simp,p1⟩,(bestF_one cc ss).symm⟩
 rintro ⟨c,L⟩ ⟨⟨hc1,hc⟩,hL⟩;dsimp only at hc1 hc hL ⊢;have ll:=jkf cc ss c;rw [<- hL] at ll;by_cases hc2:c < N
 ·have st:bestF cc ss (c+1)=if proofB cc ss (subL c cc.length)=true/\(L=[]∨befB (subL c cc.length) L=true) then subL c cc.length else L:=by rw [hL];rfl
  have ip:=l7Proof_p E cc ss (subL c cc.length) hs (fun j hj=>subL_at hj) (by have:=jgw c cc.length;omega);have sn:=jgw c cc.length;have bp:=l7Before_p (subL c cc.length) L Kf Kf;repeat' (first|refine jac ?_|refine Vbb ?_|refine jbd rfl (fun hc=>?_) (fun hc=>?_)|exact Qaa|fail)
  apply jbe [1,4,5,6,7] [1,8,21,36,37] rfl;exact Kk;exact Ybe;refine jbf [1,4,5] [1,8,36,37] (fun (g:Nat×List Int)=>[(7,iN g.1),(6,.c (.ls 21 1 0 g.2.length))]) (fun g=>[(21,.row 1 (cI g.2))]) (fun g=>g.1<=cc.length/\g.2=subL c g.1) (fun g=>cc.length - g.1) ((0,[])) ?_ Kg Kt ?_
  ·exact ⟨by simp,rfl⟩
  rintro ⟨k,Q⟩ ⟨hk,hQ⟩;dsimp only at hk hQ ⊢;have kQ:=jgw c k;rw [<- hQ] at kQ;by_cases hk2:k < cc.length
  ·have e3:(c:Int) / 2^((k:Int)).toNat%2=(bitN c k:Int):=by rw [Int.toNat_natCast,jhc]
   have ss2:=jmm c k;by_cases hb:bitN c k=1
   ·rw [if_pos hb,<- hQ] at ss2;repeat' (first|refine jac ?_|refine Vbb ?_|refine jbd rfl (fun hc=>?_) (fun hc=>?_)|exact Qaa|fail)
    refine bkL (k+1,Q++[(k:Int)]) ?_ ?_ (hV:=Yaw)
    ·exact ⟨by dsimp only;omega,ss2.symm⟩
    ·dsimp only; omega
   ·rw [if_neg hb,<- hQ] at ss2;repeat' (first|refine jac ?_|refine Vbb ?_|refine jbd rfl (fun hc=>?_) (fun hc=>?_)|exact Qaa|fail)
    refine bkL (k+1,Q) ?_ ?_
    ·exact ⟨by dsimp only;omega,ss2.symm⟩
    ·dsimp only; omega
  ·have hkc:k=cc.length:=by omega
   rw [hkc] at hQ;rw [<- hQ] at st ip bp sn;clear hQ hkc;by_cases hp:proofB cc ss Q=true/\(L=[]∨befB Q L=true)
   ·rw [if_pos hp] at st;obtain ⟨hp1,hp2⟩:=hp;rw [hp1] at ip;by_cases h0:L=[]
    ·subst h0;repeat' (first|refine jac (id:=9) ?_|refine jac (id:=11) ?_|refine jac (id:=12) ?_|refine jac (id:=10) ?_|refine jac (id:=13) ?_|refine Vbb ?_|apply Ub (c:=ip) (h:=?_)|refine jbd rfl (fun hc=>?_) (fun hc=>?_)|exact Qab|fail)
     refine jcy (jfr 8) ?_;refine jcy (jja 21 8 rfl rfl rfl rfl) ?_;repeat' (first|refine jac ?_|refine Vbb ?_|fail)
     refine bkL (c+1,Q) ?_ ?_
     ·exact Dbh
     ·dsimp only; omega
    ·have lp:0 < L.length:=List.length_pos_iff.2 h0;rcases hp2 with h|h
     ·exact absurd h h0
     rw [h] at bp;repeat' (first|refine jac (id:=9) ?_|refine jac (id:=11) ?_|refine jac (id:=12) ?_|refine jac (id:=10) ?_|refine jac (id:=13) ?_|refine Vbb ?_|apply Ub (c:=ip) (h:=?_)|apply Ub (c:=bp) (h:=?_)|refine jcc rfl rfl (fun hg=>?_) (fun hg=>?_)|refine jbd rfl (fun hc=>?_) (fun hc=>?_)|exact Qab|fail)
     refine jcy (jfr 8) ?_;refine jcy (jja 21 8 rfl rfl rfl rfl) ?_;repeat' (first|refine jac ?_|refine Vbb ?_|fail)
     refine bkL (c+1,Q) ?_ ?_
     ·exact Dbh
     ·dsimp only; omega
   ·rw [if_neg hp] at st;cases hp1:proofB cc ss Q with
    | false =>
     rw [hp1] at ip;repeat' (first|refine jac ?_|refine Vbb ?_|apply Ub (c:=ip) (h:=?_)|refine jbd rfl (fun hc=>?_) (fun hc=>?_)|exact Qab|fail)
     refine bkL (c+1,L) ?_ ?_
     ·exact Dbh
     ·dsimp only; omega
    | true =>
     rw [hp1] at ip;have h0:L≠[]:=fun h=>hp ⟨hp1,.inl h⟩;have lp:0 < L.length:=List.length_pos_iff.2 h0;have h:befB Q L=false:=by
      cases hh:befB Q L with
      | false=>rfl
      | true=>exact absurd ⟨hp1,.inr hh⟩ hp
     rw [h] at bp;clear hp;repeat' (first|refine jac ?_|refine Vbb ?_|apply Ub (c:=ip) (h:=?_)|apply Ub (c:=bp) (h:=?_)|refine jcc rfl rfl (fun hg=>?_) (fun hg=>?_)|refine jbd rfl (fun hc=>?_) (fun hc=>?_)|exact Qab|fail)
     refine bkL (c+1,L) ?_ ?_
     ·exact Dbh
     ·dsimp only; omega
 ·obtain rfl:c=N:=by omega
  rw [<- hL];have fin:decide (L≠[])=decide ((L.length:Int) > 0):=by
   refine decide_eq_decide.2 ⟨fun h=>?_,fun h e=>?_⟩
   ·have:=List.length_pos_iff.2 h;omega
   ·subst e; simp at h
  rw [fin];repeat' (first|refine jac ?_|refine Vbb ?_|refine jbd rfl (fun hc=>?_) (fun hc=>?_)|exact Qaa|exact Rcd|fail)
end
section
variable [Glb]
open Go
def Sgn (x:Int):Prop:=x=1∨x = -1
theorem m16 {f0 f1 f2 f3 f4 f5 f6 f7 g0 g1 g2 g3 g4 g5 g6 g7 n α β α' β':Int} (hf0:0<=f0) (hg0:0<=g0) (hf1:0<=f1) (hg1:0<=g1) (hf2:0<=f2) (hg2:0<=g2) (hf3:0<=f3) (hg3:0<=g3) (hf4:0<=f4) (hg4:0<=g4) (hf5:0<=f5) (hg5:0<=g5) (hf6:0<=f6) (hg6:0<=g6) (hf7:0<=f7) (hg7:0<=g7) (e0:f0+f4=g0+g4) (e1:f1+f5=g1+g5) (e2:f2+f6=g2+g6) (e3:f3+f7=g3+g7) (hn:f0+f1+f2+f3+f4+f5+f6+f7=n)
  (ha:Sgn α) (hb:Sgn β) (ha':Sgn α') (hb':Sgn β') (h:α*α'*(β*β') = -1) :
  (f0+f1 - f2 - f3 - f4 - f5+f6+f7)*α+(f0 - f1+f2 - f3 - f4+f5 - f6+f7)*β+(g0+g1 - g2 - g3 - g4 - g5+g6+g7)*α'+(g0 - g1+g2 - g3 - g4+g5 - g6+g7)*β'<=2*n:=by
 rcases ha with rfl|rfl <;> rcases hb with rfl|rfl <;> rcases ha' with rfl|rfl <;> rcases hb' with rfl|rfl <;> first|(exfalso;revert h;decide)|(clear h;omega)
end
section
variable [Glb]
open Go.Shelf Go.Proofs
def Tryz.lays172_ren_strconv_Atoistrconv_Atoi_syntax_var:Go.Shelf.Ren:=⟨fun | 172=>121 | 244=>176 | 245=>177 | 247=>231 | 279=>232 | 280=>233 | 281=>234 | 282=>235 | 287=>276 | 316=>277 | 171=>122 | 205=>278 | 321=>300 | 322=>301 | 243=>178 | 246=>236 | 283=>279 | 284=>280 | 285=>281 | 286=>282 | 129=>303 | 317=>302 | 318=>304 | 319=>305 | 320=>306 | 337=>314 | 338=>315 | n=>n,fun | 9=>9 | 3=>3 | 75=>149 | 76=>150 | 4=>4 | 5=>5 | 167=>223 | 37=>98 | 0=>0 | 85=>224 | 2=>2 | 168=>226 | 53=>258 | 175=>259 | 46=>180 | 210=>262 | 127=>269 | 145=>283 | 143=>281 | 21=>21 | 171=>264 | 173=>267 | 212=>285 | 51=>249 | 20=>20 | 213=>286 | 232=>292 | 233=>293 | 80=>236 | n=>n,fun | 15=>3 | 16=>4 | 17=>5 | 18=>6 | 19=>7 | n=>n⟩
theorem Tryz.lays172_strconv_Atoistrconv_Atoi_syntax_var:Go.Proofs.Lays.n172 Tryz.prog Tryz.lays172_ren_strconv_Atoistrconv_Atoi_syntax_var:={
 mixed:=by kernel_rfl
 f129:=Tryz.func303.trans (congrArg some Kb)
 f171:=Tryz.func122.trans (congrArg some Kb)
 f172:=Tryz.func121.trans (congrArg some Kb)
 f205:=Tryz.func278.trans (congrArg some Kb)
 f243:=Tryz.func178.trans (congrArg some Kb)
 f244:=Tryz.func176.trans (congrArg some Kb)
 f245:=Tryz.func177.trans (congrArg some Kb)
 f246:=Tryz.func236.trans (congrArg some Kb)
 f247:=Tryz.func231.trans (congrArg some Kb)
 f279:=Tryz.func232.trans (congrArg some Kb)
 f280:=Tryz.func233.trans (congrArg some Kb)
 f281:=Tryz.func234.trans (congrArg some Kb)
 f282:=Tryz.func235.trans (congrArg some Kb)
 f283:=Tryz.func279.trans (congrArg some Kb)
 f284:=Tryz.func280.trans (congrArg some Kb)
 f285:=Tryz.func281.trans (congrArg some Kb)
 f286:=Tryz.func282.trans (congrArg some Kb)
 f287:=Tryz.func276.trans (congrArg some Kb)
 f316:=Tryz.func277.trans (congrArg some Kb)
 f317:=Tryz.func302.trans (congrArg some Kb)
 f318:=Tryz.func304.trans (congrArg some Kb)
 f319:=Tryz.func305.trans (congrArg some Kb)
 f320:=Tryz.func306.trans (congrArg some Kb)
 f321:=Tryz.func300.trans (congrArg some Kb)
 f322:=Tryz.func301.trans (congrArg some Kb)
 f337:=Tryz.func314.trans (congrArg some Kb)
 f338:=Tryz.func315.trans (congrArg some Kb)
 t0:=Tryz.underlying0
 a0:=Tryz.isAgg0
 z0:=Tryz.sizeOf0
 v0:=Tryz.zeroValue0
 t2:=Tryz.underlying2
 a2:=Tryz.isAgg2
 z2:=Tryz.sizeOf2
 v2:=Tryz.zeroValue2
 t3:=Tryz.underlying3
 a3:=Tryz.isAgg3
 z3:=Tryz.sizeOf3
 v3:=Tryz.zeroValue3
 t4:=Tryz.underlying4
 a4:=Tryz.isAgg4
 z4:=Tryz.sizeOf4
 v4:=Tryz.zeroValue4
 t5:=Tryz.underlying5
 a5:=Tryz.isAgg5
 z5:=Tryz.sizeOf5
 v5:=Tryz.zeroValue5
 t9:=Tryz.underlying9
 a9:=Tryz.isAgg9
 z9:=Tryz.sizeOf9
 v9:=Tryz.zeroValue9
 t20:=Tryz.underlying20
 a20:=Tryz.isAgg20
 z20:=Tryz.sizeOf20
 v20:=Tryz.zeroValue20
 t21:=Tryz.underlying21
 a21:=Tryz.isAgg21
 z21:=Tryz.sizeOf21
 v21:=Tryz.zeroValue21
 t37:=Tryz.underlying98
 a37:=Tryz.isAgg98
 z37:=Tryz.sizeOf98
 v37:=Tryz.zeroValue98
 t46:=Tryz.underlying180
 a46:=Tryz.isAgg180
 z46:=Tryz.sizeOf180
 v46:=Tryz.zeroValue180
 t51:=Tryz.underlying249
 a51:=Tryz.isAgg249
 z51:=Tryz.sizeOf249
 v51:=Tryz.zeroValue249
 t53:=Tryz.underlying258
 a53:=Tryz.isAgg258
 z53:=Tryz.sizeOf258
 v53:=Tryz.zeroValue258
 t75:=Tryz.underlying149
 a75:=Tryz.isAgg149
 z75:=Tryz.sizeOf149
 v75:=Tryz.zeroValue149
 t76:=Tryz.underlying150
 a76:=Tryz.isAgg150
 z76:=Tryz.sizeOf150
 v76:=Tryz.zeroValue150
 t85:=Tryz.underlying224
 a85:=Tryz.isAgg224
 z85:=Tryz.sizeOf224
 v85:=Tryz.zeroValue224
 t127:=Tryz.underlying269
 a127:=Tryz.isAgg269
 z127:=Tryz.sizeOf269
 v127:=Tryz.zeroValue269
 t143:=Tryz.underlying281
 a143:=Tryz.isAgg281
 z143:=Tryz.sizeOf281
 v143:=Tryz.zeroValue281
 t145:=Tryz.underlying283
 a145:=Tryz.isAgg283
 z145:=Tryz.sizeOf283
 v145:=Tryz.zeroValue283
 t167:=Tryz.underlying223
 a167:=Tryz.isAgg223
 z167:=Tryz.sizeOf223
 v167:=Tryz.zeroValue223
 t168:=Tryz.underlying226
 a168:=Tryz.isAgg226
 z168:=Tryz.sizeOf226
 v168:=Tryz.zeroValue226
 t171:=Tryz.underlying264
 a171:=Tryz.isAgg264
 z171:=Tryz.sizeOf264
 v171:=Tryz.zeroValue264
 t173:=Tryz.underlying267
 a173:=Tryz.isAgg267
 z173:=Tryz.sizeOf267
 v173:=Tryz.zeroValue267
 t175:=Tryz.underlying259
 a175:=Tryz.isAgg259
 z175:=Tryz.sizeOf259
 v175:=Tryz.zeroValue259
 t210:=Tryz.underlying262
 a210:=Tryz.isAgg262
 z210:=Tryz.sizeOf262
 v210:=Tryz.zeroValue262
 t212:=Tryz.underlying285
 a212:=Tryz.isAgg285
 z212:=Tryz.sizeOf285
 v212:=Tryz.zeroValue285
 t213:=Tryz.underlying286
 a213:=Tryz.isAgg286
 z213:=Tryz.sizeOf286
 t232:=Tryz.underlying292
 a232:=Tryz.isAgg292
 z232:=Tryz.sizeOf292
 v232:=Tryz.zeroValue292
 t233:=Tryz.underlying293
 a233:=Tryz.isAgg293
 z233:=Tryz.sizeOf293
 v233:=Tryz.zeroValue293
 g15:=by kernel_rfl
 g16:=by kernel_rfl
 g17:=by kernel_rfl
 g18:=by kernel_rfl
 g19:=by kernel_rfl }
open Go.RowKit in
theorem Tryz.strconv_Atoi (s:ByteArray) (n:Int) (hl:s.size<=18) (h:Lib.atoi s.data.toList=some n) (w:World) :
  Calls Tryz.prog 121 #[.string s] w fun e w'=>e = .returned (.tuple #[.int .i64 n,.nilIface]) /\ ∃ t,w'=Lib.bytesWorld w 5 t:=Any.strconv_Atoi Tryz.lays172_strconv_Atoistrconv_Atoi_syntax_var s n hl h w
def Tryz.laysC172_ren_strconv_Atoistrconv_Atoi_syntax_var:Go.Shelf.Ren:=⟨fun | 172=>121 | 244=>176 | 245=>177 | 247=>231 | 279=>232 | 280=>233 | 281=>234 | 282=>235 | 287=>276 | 316=>277 | 171=>122 | 205=>278 | 321=>300 | 322=>301 | 243=>178 | 246=>236 | 283=>279 | 284=>280 | 285=>281 | 286=>282 | 129=>303 | 317=>302 | 318=>304 | 319=>305 | 320=>306 | 337=>314 | 338=>315 | n=>n,fun | 9=>9 | 3=>3 | 75=>149 | 76=>150 | 4=>4 | 5=>5 | 167=>223 | 37=>98 | 0=>0 | 85=>224 | 2=>2 | 168=>226 | 53=>258 | 175=>259 | 46=>180 | 210=>262 | 127=>269 | 145=>283 | 143=>281 | 21=>21 | 171=>264 | 173=>267 | 212=>285 | 51=>249 | 20=>20 | 213=>286 | 232=>292 | 233=>293 | 80=>236 | n=>n,fun | 15=>3 | 16=>4 | 17=>5 | 18=>6 | 19=>7 | n=>n⟩
theorem Tryz.laysC172_strconv_Atoistrconv_Atoi_syntax_var:Go.Proofs.LaysC.n172 Tryz.prog Tryz.laysC172_ren_strconv_Atoistrconv_Atoi_syntax_var:={
 mixed:=by kernel_rfl
 f129:=Tryz.func303.trans (congrArg some Kb)
 f171:=Tryz.func122.trans (congrArg some Kb)
 f172:=Tryz.func121.trans (congrArg some Kb)
 f205:=Tryz.func278.trans (congrArg some Kb)
 f243:=Tryz.func178.trans (congrArg some Kb)
 f244:=Tryz.func176.trans (congrArg some Kb)
 f245:=Tryz.func177.trans (congrArg some Kb)
 f246:=Tryz.func236.trans (congrArg some Kb)
 f247:=Tryz.func231.trans (congrArg some Kb)
 f279:=Tryz.func232.trans (congrArg some Kb)
 f280:=Tryz.func233.trans (congrArg some Kb)
 f281:=Tryz.func234.trans (congrArg some Kb)
 f282:=Tryz.func235.trans (congrArg some Kb)
 f283:=Tryz.func279.trans (congrArg some Kb)
 f284:=Tryz.func280.trans (congrArg some Kb)
 f285:=Tryz.func281.trans (congrArg some Kb)
 f286:=Tryz.func282.trans (congrArg some Kb)
 f287:=Tryz.func276.trans (congrArg some Kb)
 f316:=Tryz.func277.trans (congrArg some Kb)
 f317:=Tryz.func302.trans (congrArg some Kb)
 f318:=Tryz.func304.trans (congrArg some Kb)
 f319:=Tryz.func305.trans (congrArg some Kb)
 f320:=Tryz.func306.trans (congrArg some Kb)
 f321:=Tryz.func300.trans (congrArg some Kb)
 f322:=Tryz.func301.trans (congrArg some Kb)
 f337:=Tryz.func314.trans (congrArg some Kb)
 f338:=Tryz.func315.trans (congrArg some Kb)
 t0:=Tryz.underlying0
 a0:=Tryz.isAgg0
 z0:=Tryz.sizeOf0
 v0:=Tryz.zeroValue0
 t2:=Tryz.underlying2
 a2:=Tryz.isAgg2
 z2:=Tryz.sizeOf2
 v2:=Tryz.zeroValue2
 t3:=Tryz.underlying3
 a3:=Tryz.isAgg3
 z3:=Tryz.sizeOf3
 v3:=Tryz.zeroValue3
 t4:=Tryz.underlying4
 a4:=Tryz.isAgg4
 z4:=Tryz.sizeOf4
 v4:=Tryz.zeroValue4
 t5:=Tryz.underlying5
 a5:=Tryz.isAgg5
 z5:=Tryz.sizeOf5
 v5:=Tryz.zeroValue5
 t9:=Tryz.underlying9
 a9:=Tryz.isAgg9
 z9:=Tryz.sizeOf9
 v9:=Tryz.zeroValue9
 t20:=Tryz.underlying20
 a20:=Tryz.isAgg20
 z20:=Tryz.sizeOf20
 v20:=Tryz.zeroValue20
 t21:=Tryz.underlying21
 a21:=Tryz.isAgg21
 z21:=Tryz.sizeOf21
 v21:=Tryz.zeroValue21
 t37:=Tryz.underlying98
 a37:=Tryz.isAgg98
 z37:=Tryz.sizeOf98
 v37:=Tryz.zeroValue98
 t46:=Tryz.underlying180
 a46:=Tryz.isAgg180
 z46:=Tryz.sizeOf180
 v46:=Tryz.zeroValue180
 t51:=Tryz.underlying249
 a51:=Tryz.isAgg249
 z51:=Tryz.sizeOf249
 v51:=Tryz.zeroValue249
 t53:=Tryz.underlying258
 a53:=Tryz.isAgg258
 z53:=Tryz.sizeOf258
 v53:=Tryz.zeroValue258
 t75:=Tryz.underlying149
 a75:=Tryz.isAgg149
 z75:=Tryz.sizeOf149
 v75:=Tryz.zeroValue149
 t76:=Tryz.underlying150
 a76:=Tryz.isAgg150
 z76:=Tryz.sizeOf150
 v76:=Tryz.zeroValue150
 t85:=Tryz.underlying224
 a85:=Tryz.isAgg224
 z85:=Tryz.sizeOf224
 v85:=Tryz.zeroValue224
 t127:=Tryz.underlying269
 a127:=Tryz.isAgg269
 z127:=Tryz.sizeOf269
 v127:=Tryz.zeroValue269
 t143:=Tryz.underlying281
 a143:=Tryz.isAgg281
 z143:=Tryz.sizeOf281
 v143:=Tryz.zeroValue281
 t145:=Tryz.underlying283
 a145:=Tryz.isAgg283
 z145:=Tryz.sizeOf283
 v145:=Tryz.zeroValue283
 t167:=Tryz.underlying223
 a167:=Tryz.isAgg223
 z167:=Tryz.sizeOf223
 v167:=Tryz.zeroValue223
 t168:=Tryz.underlying226
 a168:=Tryz.isAgg226
 z168:=Tryz.sizeOf226
 v168:=Tryz.zeroValue226
 t171:=Tryz.underlying264
 a171:=Tryz.isAgg264
 z171:=Tryz.sizeOf264
 v171:=Tryz.zeroValue264
 t173:=Tryz.underlying267
 a173:=Tryz.isAgg267
 z173:=Tryz.sizeOf267
 v173:=Tryz.zeroValue267
 t175:=Tryz.underlying259
 a175:=Tryz.isAgg259
 z175:=Tryz.sizeOf259
 v175:=Tryz.zeroValue259
 t210:=Tryz.underlying262
 a210:=Tryz.isAgg262
 z210:=Tryz.sizeOf262
 v210:=Tryz.zeroValue262
 t212:=Tryz.underlying285
 a212:=Tryz.isAgg285
 z212:=Tryz.sizeOf285
 v212:=Tryz.zeroValue285
 t213:=Tryz.underlying286
 a213:=Tryz.isAgg286
 z213:=Tryz.sizeOf286
 t232:=Tryz.underlying292
 a232:=Tryz.isAgg292
 z232:=Tryz.sizeOf292
 v232:=Tryz.zeroValue292
 t233:=Tryz.underlying293
 a233:=Tryz.isAgg293
 z233:=Tryz.sizeOf293
 v233:=Tryz.zeroValue293
 g15:=by kernel_rfl
 g16:=by kernel_rfl
 g17:=by kernel_rfl
 g18:=by kernel_rfl
 g19:=by kernel_rfl
 t80:=Tryz.underlying236
 a80:=Tryz.isAgg236
 z80:=Tryz.sizeOf236
 v80:=Tryz.zeroValue236
 i0:=by kernel_rfl
 i2:=by kernel_rfl
 i3:=by kernel_rfl
 i4:=by kernel_rfl
 i5:=by kernel_rfl
 i9:=by kernel_rfl
 i20:=by kernel_rfl
 i21:=by kernel_rfl
 i37:=by kernel_rfl
 i46:=by kernel_rfl
 i51:=by kernel_rfl
 i53:=by kernel_rfl
 i75:=by kernel_rfl
 i76:=by kernel_rfl
 i80:=by kernel_rfl
 i85:=by kernel_rfl
 i127:=by kernel_rfl
 i143:=by kernel_rfl
 i145:=by kernel_rfl
 i167:=by kernel_rfl
 i168:=by kernel_rfl
 i171:=by kernel_rfl
 i173:=by kernel_rfl
 i175:=by kernel_rfl
 i210:=by kernel_rfl
 i212:=by kernel_rfl
 i232:=by kernel_rfl
 i233:=by kernel_rfl
 m15:=by kernel_rfl
 m16:=by kernel_rfl
 m17:=by kernel_rfl
 m18:=by kernel_rfl
 m19:=by kernel_rfl
 c0:=by kernel_rfl
 c2:=by kernel_rfl
 c3:=by kernel_rfl
 c4:=by kernel_rfl
 c5:=by kernel_rfl
 c9:=by kernel_rfl
 c20:=by kernel_rfl
 c21:=by kernel_rfl
 c37:=by kernel_rfl
 c46:=by kernel_rfl
 c51:=by kernel_rfl
 c53:=by kernel_rfl
 c75:=by kernel_rfl
 c76:=by kernel_rfl
 c80:=by kernel_rfl
 c85:=by kernel_rfl
 c127:=by kernel_rfl
 c143:=by kernel_rfl
 c145:=by kernel_rfl
 c167:=by kernel_rfl
 c168:=by kernel_rfl
 c171:=by kernel_rfl
 c173:=by kernel_rfl
 c175:=by kernel_rfl
 c210:=by kernel_rfl
 c212:=by kernel_rfl
 c213:=by kernel_rfl
 c232:=by kernel_rfl
 c233:=by kernel_rfl }
open Go.RowKit in
theorem Tryz.strconv_Atoi_syntax_var (s : ByteArray) (hlim : s.size ≤ 281474976710656) (h : Lib.atoiAll s.data.toList = (Go.Lib.atoiAll [])) (tp : TypeId) (p : Value) (w : World) (hvar : w.var? Tryz.prog "strconv.ErrSyntax" = some #[.iface tp p]) :
  Calls Tryz.prog 121 #[.string s] w fun e w' => ∃ N,e = .returned (.tuple #[.int .i64 0,.iface 226 (.pointer (some ⟨N,0,none⟩))])/\w.heap.size<=N/\w'.heap[N]? = some (.cells #[.string ⟨#[65,116,111,105]⟩,.string s,.iface tp p] 262 (0,0))/\Below w.heap.size w w':=Any.strconv_Atoi_syntax_var Tryz.laysC172_strconv_Atoistrconv_Atoi_syntax_var s hlim h tp p w hvar
end
section
variable [Glb]
variable [GTab Tryz.prog tabNm]
variable [GErr Tryz.prog]
theorem digitVal_some {c:UInt8} (h:48<=c.toNat/\c.toNat<=57):Go.Lib.digitVal c=some (c.toNat - 48):=by unfold Go.Lib.digitVal; rw [if_pos h]
theorem jlq : ∀ {t : Tx} {n : Nat}, digsB t = true -> Go.Lib.decFrom n t = some (t.foldl (fun n c => 10 * n + (c.toNat - 48)) n)
 | [],n,_=>rfl
 | c :: t,n,h=>by
  unfold digsB at h;rw [List.all_cons,Bool.and_eq_true,decide_eq_true_eq] at h;have ih:=jlq (t:=t) (n:=n*10+(c.toNat - 48)) h.2;unfold Go.Lib.decFrom;rw [digitVal_some h.1];dsimp only;rw [ih,List.foldl_cons,Nat.mul_comm]
theorem decNat_num (n:Nat):Go.Lib.decNat (numT n)=some n:=by
 have d:digsB (numT n)=true:=by
  unfold digsB;rw [List.all_eq_true];exact fun c hc=>decide_eq_true (jjv n c hc)
 unfold Go.Lib.decNat;rw [if_neg (by simpa using numT_ne n),jlq d];congr 1;exact valD_num n
theorem atoi_cons (b:UInt8) (r:Tx):Go.Lib.atoi (b :: r)=if (b == 45)=true then (Go.Lib.decNat r).map fun (m:Nat) => -(m:Int) else if (b == 43)=true then (Go.Lib.decNat r).map fun (m:Nat)=>(m:Int) else (Go.Lib.decNat (b :: r)).map fun (m:Nat)=>(m:Int):=rfl
theorem atoi_txt (n:Int):Go.Lib.atoi (txtZ n)=some n:=by
 unfold txtZ;by_cases h:n < 0
 ·rw [if_pos h,atoi_cons,if_pos Ybr,decNat_num];show some (-((-n).toNat:Int))=some n;congr 1;omega
 ·rw [if_neg h];have d:=decNat_num n.toNat;have hd:=jjv n.toNat;cases e:numT n.toNat with
  | nil=>exact absurd e (numT_ne _)
  | cons c t =>
   rw [e] at d hd;have hc:=hd c (List.mem_cons_self ..);rw [atoi_cons,if_neg (by intro h;rw [beq_iff_eq] at h;subst h;exact absurd hc.1 Ybr),if_neg (by intro h;rw [beq_iff_eq] at h;subst h;exact absurd hc.1 Ybr),d];show some ((n.toNat:Int))=some n;congr 1;omega
theorem jjr {s:Tx} (h:readB s=true):Go.Lib.atoi s=some (candZ s) /\ -999999<=candZ s/\candZ s<=999999/\txtZ (candZ s)=s:=by
 obtain ⟨n,hn,rfl⟩:=(read_iff s).1 h;rw [(read_of hn).1];exact ⟨atoi_txt n,hn.1,hn.2,rfl⟩
theorem read_long {s:Tx} (h:7 < s.length):readB s=false:=by
 cases e:readB s with
 | false=>rfl
 | true =>
  obtain ⟨n,hn,rfl⟩:=(read_iff s).1 e;have:=(jew hn).2;omega
theorem atoi_syntax {s:Tx} (hl:s.length<=18) (h:Go.Lib.atoi s=none):Go.Lib.atoiAll s = (Go.Lib.atoiAll []) := by
 rw [Go.Lib.atoiAll_short s hl,h];rfl
theorem grow_below (w:World) (k:Nat) (os:Array Obj):Below w.heap.size w (Go.Sort.grow (w.drewN k) os):=by
 refine ⟨rfl,rfl,rfl,?_,fun g hg=>?_⟩
 ·simp [Go.Sort.grow,World.drewN]
 ·simp only [Go.Sort.grow,World.drewN];rw [Array.getElem?_append_left hg]
theorem jkh (n lo hi:Int) {w:World} (ok:Glb.ok w):Calls Tryz.prog 99 #[.int .i64 n,.int .i64 lo,.int .i64 hi] w fun e w'=>e = .returned (.bool (inB n lo hi))/\Below w.heap.size w w' :=
 PC.law (vs:=[.int .i64 n,.int .i64 lo,.int .i64 hi]) (within_p n lo hi) ok (VwL.lits (us:=[.int .i64 n,.int .i64 lo,.int .i64 hi]) (by simp [sc]))
theorem ParseInt_c (s:Tx) (w:World) (ok:Glb.ok w):Calls Tryz.prog 77 #[.string (bsT s)] w fun e w'=>e = .returned (.tuple #[.int .i64 (if readB s=true then candZ s else 0),.bool (readB s)])/\Below w.heap.size w w':=by
  by_cases h7:7 < s.length
  · have hr := read_long h7
    rw [hr];have hs:(7:Int) < ((bsT s).size:Int):=by rw [jeb];omega
    generalize bsT s=t at *;go_enter Tryz.func77, Tryz.ntmps77
    go_wp2
    go_ret2
    exact ⟨rfl,Below.refl _ _⟩
  · have hs : ¬ (7 : Int) < ((bsT s).size : Int) := by rw [jeb];omega
    have hs2:(bsT s).size<=18:=by rw [jeb];omega
    have hd:(bsT s).data.toList=s:=by simp [bsT]
    cases ha:Go.Lib.atoi s with
    | none =>
      have hr:readB s=false:=by
        cases e:readB s with
        | false=>rfl
        | true=>have:=(jjr e).1;rw [ha] at this;cases this
      rw [hr];obtain ⟨tp,p,hv⟩:=GErr.err (P:=Tryz.prog) w ok;have hx:=atoi_syntax (s:=s) Kf ha;rw [<- hd] at hx;generalize bsT s=t at *;go_enter Tryz.func77, Tryz.ntmps77
      go_wp2_with (go_at_call 121;refine (Tryz.strconv_Atoi_syntax_var t Kf hx tp p _ hv).mono ?_;rintro e w1 ⟨N, rfl, -, -, hb⟩)
      go_ret2
      exact ⟨rfl,hb⟩
    | some v =>
      have hy:Go.Lib.atoi (bsT s).data.toList=some v:=by rw [hd];exact ha
      by_cases hv : -999999<=v/\v<=999999
      · have hi : inB v (-999999) 999999 = true := jcx.2 hv
        by_cases hq:txtZ v=s
        · have hr : readB s = true := (read_iff s).2 ⟨v, hv, hq⟩
          have hc:candZ s=v:=by have:=(jjr hr).1;rw [ha] at this;exact (Option.some.inj this).symm
          rw [hr,if_pos rfl,hc];have hz:(⟨(Go.Lib.itoa v).toArray⟩:ByteArray)=bsT s:=by rw [itoa_txt,hq];rfl
          generalize bsT s=t at *;go_enter Tryz.func77, Tryz.ntmps77
          go_wp2_with (first|(go_at_call 121;refine (Tryz.strconv_Atoi t v hs2 hy _).mono ?_;rintro e w1 ⟨rfl, x, rfl⟩;have ok1 := Glb.ok_below ok (Go.Lib.bytesWorld_below w 5 x);have bl1 := Go.Lib.bytesWorld_below w 5 x;generalize Go.Lib.bytesWorld w 5 x = w1 at *)|(go_at_call 99;refine (jkh v _ _ ok1).mono ?_;rintro e w2 ⟨rfl, bl2⟩;rw [hi];have ok2 := Glb.ok_below ok1 bl2;have bl2 := bl2.mono bl1.size)|(go_at_call 122;refine (Tryz.strconv_Itoa v Kf Kf _ (GTab.tab _ ok2)).mono ?_;rintro e w3 ⟨rfl, k, os, rfl⟩;rw [hz];have bl3 := (grow_below w2 k os).mono (Nat.le_trans bl1.size bl2.size)))
          all_goals first|(go_ret2;exact ⟨rfl,(bl1.trans bl2).trans bl3⟩)|(exfalso;simp_all;done)
        · have hr:readB s=false:=by
            cases e:readB s with
            | false=>rfl
            | true =>
              have r:=jjr e;rw [ha] at r;obtain rfl:=Option.some.inj r.1;exact absurd r.2.2.2 hq
          rw [hr];obtain ⟨z,hz⟩:∃ z:ByteArray,(⟨(Go.Lib.itoa v).toArray⟩:ByteArray)=z:=⟨_,rfl⟩;have hne:z≠bsT s:=by rw [<- hz,itoa_txt];exact fun e=>hq (bsT_inj.1 e)
          generalize bsT s=t at *;have hnl:(z.toList == t.toList)=false:=by
            rw [ByteArray.toList_eq,ByteArray.toList_eq,beq_eq_false_iff_ne];exact fun e=>hne (by rw [<- bsT_data z,<- bsT_data t,e])
          go_enter Tryz.func77, Tryz.ntmps77
          go_wp2_with (first|(go_at_call 121;refine (Tryz.strconv_Atoi t v hs2 hy _).mono ?_;rintro e w1 ⟨rfl, x, rfl⟩;have ok1 := Glb.ok_below ok (Go.Lib.bytesWorld_below w 5 x);have bl1 := Go.Lib.bytesWorld_below w 5 x;generalize Go.Lib.bytesWorld w 5 x = w1 at *)|(go_at_call 99;refine (jkh v _ _ ok1).mono ?_;rintro e w2 ⟨rfl, bl2⟩;rw [hi];have ok2 := Glb.ok_below ok1 bl2;have bl2 := bl2.mono bl1.size)|(go_at_call 122;refine (Tryz.strconv_Itoa v Kf Kf _ (GTab.tab _ ok2)).mono ?_;rintro e w3 ⟨rfl, k, os, rfl⟩;rw [hz];have bl3 := (grow_below w2 k os).mono (Nat.le_trans bl1.size bl2.size)))
          all_goals first|(go_ret2;exact ⟨rfl,(bl1.trans bl2).trans bl3⟩)|(exfalso;simp_all;done)
      · have hi : inB v (-999999) 999999 = false := by rw [jim];omega
        have hr:readB s=false:=by
          cases e:readB s with
          | false=>rfl
          | true =>
            have r:=jjr e;rw [ha] at r;obtain rfl:=Option.some.inj r.1;exact absurd ⟨r.2.1,r.2.2.1⟩ hv
        rw [hr];generalize bsT s=t at *;go_enter Tryz.func77, Tryz.ntmps77
        go_wp2_with (first|(go_at_call 121;refine (Tryz.strconv_Atoi t v hs2 hy _).mono ?_;rintro e w1 ⟨rfl, x, rfl⟩;have ok1 := Glb.ok_below ok (Go.Lib.bytesWorld_below w 5 x);have bl1 := Go.Lib.bytesWorld_below w 5 x;generalize Go.Lib.bytesWorld w 5 x = w1 at *)|(go_at_call 99;refine (jkh v _ _ ok1).mono ?_;rintro e w2 ⟨rfl, bl2⟩;rw [hi];have ok2 := Glb.ok_below ok1 bl2;have bl2 := bl2.mono bl1.size))
        go_ret2
        exact ⟨rfl,bl1.trans bl2⟩
theorem ParseInt_p (s:Tx):PC Tryz.prog 77 [.c (dT s)] (.t [.c (dI (if readB s=true then candZ s else 0)),.c (dB (readB s))]) :=
 pc_lit12 (Go.Proofs.enters_of Tryz.func77 Kb rfl) rfl rfl fun w ok=>ParseInt_c s w ok
theorem valD_take {t:Tx} {i:Nat} (h:i < t.length):valD (t.take (i+1))=10*valD (t.take i)+(t[i].toNat - 48):=by
 rw [List.take_succ_eq_append_getElem h,jmh]
theorem digs_take {t:Tx} {i:Nat} (h:i < t.length):digsB (t.take (i+1))=(digsB (t.take i)&&decide (48<=t[i].toNat/\t[i].toNat<=57)):=by
 unfold digsB;rw [List.take_succ_eq_append_getElem h,List.all_append];simp
theorem digs_no {t:Tx} {i:Nat} (h:i < t.length) (hd:¬ (48<=t[i].toNat/\t[i].toNat<=57)):digsB t=false:=by
 unfold digsB;rw [List.all_eq_false];exact ⟨t[i],List.getElem_mem h,by simpa using hd⟩
theorem head_byt {s:Tx} (h:1 < s.length):s.head? = some 45↔byt s 0=45:=by
 cases s with
 | nil=>simp at h
 | cons c r =>
  have e:byt (c :: r) 0=(c.toNat:Int):=jfw (l:=c :: r) (k:=0) Yby
  rw [e];constructor
  ·intro h;simp at h;subst h;rfl
  ·intro h;have:c=45:=UInt8.toNat_inj.1 (by show c.toNat=45;omega);rw [this]; rfl
structure ReadT (s t : Tx) (z : Int) : Prop where
 no:¬ (1<=t.length/\t.length<=6)->readB s=false
 dig:∀ i:Nat,(h:i < t.length) -> ¬ (48<=t[i].toNat/\t[i].toNat<=57)->readB s=false
 yes:1<=t.length/\t.length<=6->digsB t=true->readB s=decide (txtZ z=s)
 cz:candZ s=z
theorem readT_of {s t:Tx} {z:Int} (hm:magT s=t) (hz:candZ s=z):ReadT s t z:=by
 refine ⟨fun h=>?_,fun i hi h=>?_,fun h hd=>?_,hz⟩
 ·unfold readB;rw [hm,decide_eq_false h];rfl
 ·unfold readB;rw [hm,digs_no hi h,Bool.and_false];rfl
 ·unfold readB;rw [hm,decide_eq_true h,hd,hz];rfl
theorem l1Read_p (s:Tx) (hs:s.length<=4000000):PC Tryz.prog 72 [.c (dT s)] (.t [.c (dI (if readB s=true then candZ s else 0)),.c (dB (readB s))]):=by
 by_cases hn:1 < s.length/\byt s 0=45
 ·obtain ⟨n1,n2⟩:=hn;have hc0:1 < s.length/\s.head? = some 45:=⟨n1,(head_byt n1).2 n2⟩;have hp:partZ s 1 s.length=s.drop 1:=jhh s 1 Kf;have hm:magT s=s.drop 1:=by unfold magT;rw [if_pos hc0]
  have hz:candZ s = -(valD (s.drop 1):Int):=by unfold candZ;rw [if_pos hc0,hm]
  have R:=readT_of hm hz;have tl:(s.drop 1).length+1=s.length:=by simp;omega
  clear hm hz hc0;rw [R.cz];have r1:=R.no;have r2:=R.dig;have r3:=R.yes;clear R;refine jao Tryz.func72 fun _=>?_;repeat' (first|apply zaa ?_|apply zab ?_|apply zba ?_|apply zbc ?_|apply zcb ?_|apply zdq ?_|apply zah ?_|apply zcg ?_|refine jai ?_|refine jbn rfl rfl rfl rfl ?_|refine jbj rfl rfl rfl rfl ?_|refine jcc rfl rfl (fun hg=>?_) (fun hg=>?_)|refine jaj ?_|refine jam ?_|refine jac (id:=0) ?_|refine jac (id:=1) ?_|refine jac (id:=2) ?_|refine jac (id:=3) ?_|refine jay rfl ?_|refine jbd rfl (fun hc=>?_) (fun hc=>?_)|exact Qaa|fail)
  rw [hp];clear hp n2;obtain ⟨t,ht⟩:∃ t,s.drop 1=t:=⟨_,rfl⟩;simp only [ht] at *;clear ht;by_cases hl:1<=t.length/\t.length<=6
  ·have r4:=r3 hl;have hin:inB (t.length:Int) 1 6=true:=jcx.2 Kf;clear r1 r3;repeat' (first|apply zaa ?_|apply zab ?_|apply zba ?_|apply zag ?_|apply Ub (c:=l1In_p _ _ _) (h:=?_)|refine jai ?_|refine jaj ?_|refine jah ?_|refine jam ?_|refine jac ?_|refine jcu rfl (fun hc=>?_) (fun hc=>?_)|exact Qab|fail)
   apply jbe [0,4,5,6] [] rfl;exact Ky;exact Yar;refine jbf [0,4] [] (fun i=>[(6,iN i),(5,iN (valD (t.take i)))]) (fun _=>[]) (fun i=>i<=t.length/\digsB (t.take i)=true) (fun i=>t.length - i) (0) ?_ Kg Kv ?_
   ·exact ⟨by omega,rfl⟩
   rintro i ⟨hi,hd⟩;have vl:=digs_lt hd;have vl2:10^(t.take i).length<=10^6:=Nat.pow_le_pow_right Kf Ybw;by_cases hi2:i < t.length
   ·have bi:=jfw hi2;have vt:=valD_take hi2;have dt:=digs_take hi2;have r5:=r2 i hi2;have bb:t[i].toNat < 256:=UInt8.toNat_lt _;clear r2 r4;generalize t[i].toNat=c at *;by_cases hc1:48<=c/\c<=57
    ·have hw:IntKind.u8.wrap (byt t (i:Int) - 48)=((c - 48:Nat):Int):=by rw [bi,wrapU8 Kf];omega
     rw [decide_eq_true hc1,Bool.and_true,hd] at dt;clear r5;repeat' (first|apply zaa ?_|apply zab ?_|apply zba ?_|apply zcb ?_|apply zah ?_|apply zac ?_|apply zdb ?_|apply zdc ?_|apply zbe ?_|apply zdn ?_|apply zcq ?_|apply zad ?_|apply zby ?_|refine jai ?_|refine jbn rfl rfl rfl rfl ?_|refine jbj rfl rfl rfl rfl ?_|refine jcc rfl rfl (fun hg=>?_) (fun hg=>?_)|refine jaj ?_|refine jah ?_|refine jaz ?_|refine jaq rfl ?_|refine jam ?_|refine jac ?_|refine jbg rfl ?_|refine jbd rfl (fun hc=>?_) (fun hc=>?_)|exact Qaa|fail)
     refine bkL (i+1) ?_ ?_
     ·exact ⟨by omega,dt⟩
     ·omega
    ·exact Dao
   ·obtain rfl:i=t.length:=by omega
    rw [List.take_length] at hd vl vl2 ⊢;have r5:=r4 hd;clear r2 r4;generalize valD t=v at *;have nz:=l1NumZ_p (-(v:Int)) Kf;have zl:=jew (n := -(v:Int)) Kf;by_cases hq:txtZ (-(v:Int))=s
    ·exact Dal
    ·exact Dak
  ·have r4:=r1 hl;have hin:inB (t.length:Int) 1 6=false:=jim.2 Kf;rw [r4];clear r1 r2 r3;repeat' (first|apply zaa ?_|apply zab ?_|apply zba ?_|apply zag ?_|apply Ub (c:=l1In_p _ _ _) (h:=?_)|refine jai ?_|refine jaj ?_|refine jah ?_|refine jam ?_|refine jac ?_|refine jcu rfl (fun hc=>?_) (fun hc=>?_)|exact Qab|exact Rbl|fail)
 ·have hc0:¬ (1 < s.length/\s.head? = some 45):=fun h=>hn ⟨h.1,(head_byt h.1).1 h.2⟩;have hm:magT s=s:=by unfold magT;rw [if_neg hc0]
  have hz:candZ s=(valD s:Int):=by unfold candZ;rw [if_neg hc0,hm]
  have R:=readT_of hm hz;clear hm hz hc0;rw [R.cz];have r1:=R.no;have r2:=R.dig;have r3:=R.yes;clear R;refine jao Tryz.func72 fun _=>?_;repeat' (first|apply zaa ?_|apply zab ?_|apply zba ?_|apply zbc ?_|apply zcb ?_|apply zdq ?_|apply zah ?_|apply zcg ?_|refine jai ?_|refine jbn rfl rfl rfl rfl ?_|refine jbj rfl rfl rfl rfl ?_|refine jcc rfl rfl (fun hg=>?_) (fun hg=>?_)|refine jaj ?_|refine jam ?_|refine jac (id:=0) ?_|refine jac (id:=1) ?_|refine jac (id:=2) ?_|refine jac (id:=3) ?_|refine jay rfl ?_|refine jbd rfl (fun hc=>?_) (fun hc=>?_)|exact Qaa|fail)
  all_goals clear hn
  all_goals
   by_cases hl:1<=s.length/\s.length<=6
   ·have r4:=r3 hl;have hin:inB (s.length:Int) 1 6=true:=jcx.2 Kf;clear r1 r3;repeat' (first|apply zaa ?_|apply zab ?_|apply zba ?_|apply zag ?_|apply Ub (c:=l1In_p _ _ _) (h:=?_)|refine jai ?_|refine jaj ?_|refine jah ?_|refine jam ?_|refine jac ?_|refine jcu rfl (fun hc=>?_) (fun hc=>?_)|exact Qab|fail)
    apply jbe [0,4,5,6] [] rfl;exact Ky;exact Yar;refine jbf [0,4] [] (fun i=>[(6,iN i),(5,iN (valD (s.take i)))]) (fun _=>[]) (fun i=>i<=s.length/\digsB (s.take i)=true) (fun i=>s.length - i) (0) ?_ Kg Kv ?_
    ·exact ⟨by omega,rfl⟩
    rintro i ⟨hi,hd⟩;have vl:=digs_lt hd;have vl2:10^(s.take i).length<=10^6:=Nat.pow_le_pow_right Kf Ybw;by_cases hi2:i < s.length
    ·have bi:=jfw hi2;have vt:=valD_take hi2;have dt:=digs_take hi2;have r5:=r2 i hi2;have bb:s[i].toNat < 256:=UInt8.toNat_lt _;clear r2 r4;generalize s[i].toNat=c at *;by_cases hc1:48<=c/\c<=57
     ·have hw:IntKind.u8.wrap (byt s (i:Int) - 48)=((c - 48:Nat):Int):=by rw [bi,wrapU8 Kf];omega
      rw [decide_eq_true hc1,Bool.and_true,hd] at dt;clear r5;repeat' (first|apply zaa ?_|apply zab ?_|apply zba ?_|apply zcb ?_|apply zah ?_|apply zac ?_|apply zdb ?_|apply zdc ?_|apply zbe ?_|apply zdn ?_|apply zcq ?_|apply zad ?_|apply zby ?_|refine jai ?_|refine jbn rfl rfl rfl rfl ?_|refine jbj rfl rfl rfl rfl ?_|refine jcc rfl rfl (fun hg=>?_) (fun hg=>?_)|refine jaj ?_|refine jah ?_|refine jaz ?_|refine jaq rfl ?_|refine jam ?_|refine jac ?_|refine jbg rfl ?_|refine jbd rfl (fun hc=>?_) (fun hc=>?_)|exact Qaa|fail)
      refine bkL (i+1) ?_ ?_
      ·exact ⟨by omega,dt⟩
      ·omega
     ·exact Dao
    ·obtain rfl:i=s.length:=by omega
     rw [List.take_length] at hd vl vl2 ⊢;have r5:=r4 hd;clear r2 r4;generalize valD s=v at *;have nz:=l1NumZ_p ((v:Int)) Kf;have zl:=jew (n:=(v:Int)) Kf;by_cases hq:txtZ ((v:Int))=s
     ·exact Dal
     ·exact Dak
   ·have r4:=r1 hl;have hin:inB (s.length:Int) 1 6=false:=jim.2 Kf;rw [r4];clear r1 r2 r3;repeat' (first|apply zaa ?_|apply zab ?_|apply zba ?_|apply zag ?_|apply Ub (c:=l1In_p _ _ _) (h:=?_)|refine jai ?_|refine jaj ?_|refine jah ?_|refine jam ?_|refine jac ?_|refine jcu rfl (fun hc=>?_) (fun hc=>?_)|exact Qab|exact Rbl|fail)
end
end Go.Proofs.YtbhbkbnlpackdaaGreatDoor
