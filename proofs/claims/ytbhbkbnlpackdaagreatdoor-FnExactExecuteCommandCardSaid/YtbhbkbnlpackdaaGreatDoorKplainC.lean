/- A way of walking over plain data: part of the proof of FnExactRunScript and FnExactReplayLog and FnExactExecuteCommand. No condition beyond those of its theorems. -/
import Derived.WalkKit
import Derived.Test.YtbhbkbnlpackdaaGreatDoorKplainA
import Derived.Test.YtbhbkbnlpackdaaGreatDoorKplainB
import Derived.Laws.MakeOwn
import Derived.Below
import Derived.Lib.ItoaNum
import Derived.Lib.LaidTab
import Derived.Laws.IdiomStrings
import Derived.Laws.BytesArg
import Derived.WalkSpells
set_option linter.unusedSectionVars false
set_option maxRecDepth 10000
set_option maxHeartbeats 4000000
set_option linter.unusedVariables false
set_option linter.unusedSimpArgs false
namespace Go.Proofs.YtbhbkbnlpackdaaGreatDoor
open Go.RowKit
section
variable [Glb]
open Go Go.RowKit
def tbl (T:List (Nat×Nat×Nat×Bool)) (i:Nat):Nat×Nat×Nat×Bool:=T.getD i (0,0,0,false)
def rdyQ (T:List (Nat×Nat×Nat×Bool)) (N m:Nat):List Nat:=(List.range N).filter fun i => !(m.testBit i)&&((tbl T i).1 &&& m == (tbl T i).1)
def canonQ (T:List (Nat×Nat×Nat×Bool)) (N:Nat):IT->Nat->Nat->Bool->Bool
 | .nil,0,m,s=>s&&rdyQ T N m == []
 | .step i true r,n+1,m,s=>s&&((rdyQ T N m).contains i&&(m ||| (tbl T i).2.1 == 2^N - 1)&&((tbl T i).2.2.2 || (m ||| (tbl T i).2.2.1 == 2^N - 1))&&canonQ T N r n (m ||| 1 <<< i) true)
 | .step i false r,n+1,m,s=>(bif s then rdyQ T N m == [i] else (rdyQ T N m).contains i)&&canonQ T N r n (m ||| 1 <<< i) true
 | .alt _ x y,n+1,m,s=>(bif s then (rdyQ T N m).all (fun i=>(x.heads++y.heads).contains i) else true)&&canonQ T N x (n+1) m false&&canonQ T N y (n+1) m false
 | _,_,_,_=>false
def preM (o:Oper):Nat:=o.after.toList.foldl (fun m e=>bif Region.binds .any e then m ||| 1 <<< e.on else m) 0
def freeOf (ops:Array Oper) (oi:Oper) (i j:Nat):Bool:=match ops[j]? with
 | some oj=>oj.after.any (fun e=>Region.binds .any e&&e.on == i) || oi.apart ops oj
 | none=>true
def rowOK (ops:Array Oper) (mu:Nat->Bool) (T:List (Nat×Nat×Nat×Bool)) (N i:Nat):Bool:=match ops[i]? with
  | none=>false
  | some o => (preM o == (tbl T i).1) && o.after.toList.all (fun e => Nat.blt e.on N) &&
      (List.range N).all (fun j => !((tbl T i).2.1.testBit j) || j == i || freeOf ops o i j)&&(List.range N).all (fun j => !((tbl T i).2.2.1.testBit j) || !mu j || j == i || depB .any ops N j i)&&(!(tbl T i).2.2.2 || memfree o.op)
def tabOK (ops:Array Oper) (mu:Nat->Bool) (T:List (Nat×Nat×Nat×Bool)) (N:Nat):Bool:=(List.range N).all (rowOK ops mu T N)
structure Rel (N : Nat) (listed : Array Bool) (m : Nat) : Prop where
 size:listed.size=N
 bit:∀ k,k < N -> ∀ d,listed.getD k d=m.testBit k
theorem Rel.set {N:Nat} {listed:Array Bool} {m i:Nat} (h:Rel N listed m) (hi:i < N):Rel N (listed.setIfInBounds i true) (m ||| 1 <<< i):=by
 refine ⟨by simpa using h.size,fun k hk d=>?_⟩;rw [Nat.testBit_or];by_cases e:i=k
 ·subst e;have:(1 <<< i).testBit i=true:=by rw [Nat.testBit_shiftLeft];simp
  rw [this,Bool.or_true];simp [h.size,hk]
 ·rw [getD_set_ne d e,h.bit k hk d];have:(1 <<< i).testBit k=false:=by
   rw [Nat.testBit_shiftLeft];by_cases hki:k ≥ i
   ·have:k - i≠0:=by omega
    obtain ⟨j,hj⟩:=Nat.exists_eq_succ_of_ne_zero this;rw [hj];simp [Nat.testBit_succ]
   ·simp [hki]
  rw [this,Bool.or_false]
theorem preM_bit (o:Oper) (k:Nat):(preM o).testBit k=true ↔ ∃ e∈o.after,Region.binds .any e=true/\e.on=k:=by
 have key:∀ (l:List Edge) (m:Nat),(l.foldl (fun m e=>bif Region.binds .any e then m ||| 1 <<< e.on else m) m).testBit k=true↔m.testBit k=true ∨ ∃ e∈l,Region.binds .any e=true/\e.on=k:=by
  intro l;induction l with
  | nil=>intro m; simp
  | cons e l ih =>
   intro m;rw [List.foldl_cons,ih];cases hb:Region.binds .any e with
   | false=>simp [hb]
   | true =>
    simp only [cond_true,Nat.testBit_or,Bool.or_eq_true];have:(1 <<< e.on).testBit k=true↔e.on=k:=by
     rw [Nat.testBit_shiftLeft];by_cases e1:e.on=k
     ·subst e1; simp
     ·simp only [e1,iff_false,Bool.and_eq_true,decide_eq_true_eq,not_and,Bool.not_eq_true];intro h1;obtain ⟨j,hj⟩:=Nat.exists_eq_succ_of_ne_zero (show k - e.on≠0 by omega);rw [hj];simp [Nat.testBit_succ]
    rw [this];constructor
    ·rintro ((h|h)|⟨e',h1,h2⟩)
     ·exact .inl h
     ·exact .inr ⟨e,List.mem_cons_self ..,hb,h⟩
     ·exact .inr ⟨e',List.mem_cons_of_mem _ h1,h2⟩
    ·rintro (h|⟨e',h1,h2⟩)
     ·exact .inl (.inl h)
     ·rcases List.mem_cons.1 h1 with rfl|h1
      ·exact .inl (.inr h2.2)
      ·exact .inr ⟨e',h1,h2⟩
 unfold preM;rw [key]; simp
theorem land_sub {p m:Nat}:(p &&& m == p)=true ↔ ∀ k,p.testBit k=true->m.testBit k=true:=by
 rw [beq_iff_eq];constructor
 ·intro h k hk;have:=congrArg (fun x=>x.testBit k) h;simp only [Nat.testBit_and,hk,Bool.true_and] at this;exact this
 ·intro h;refine Nat.eq_of_testBit_eq fun k=>?_;rw [Nat.testBit_and];cases hp:p.testBit k with
  | false=>rfl
  | true=>rw [h k hp]; rfl
theorem full_bits {x N:Nat} (h:(x == 2^N - 1)=true) {j:Nat} (hj:j < N):x.testBit j=true:=by
 rw [beq_iff_eq.1 h,Nat.testBit_two_pow_sub_one];simpa using hj
section
variable {os:List Oper} {mu:Nat->Bool} {T:List (Nat×Nat×Nat×Bool)}
theorem rowOK_of (h:tabOK ⟨os⟩ mu T os.length=true) {i:Nat} (hi:i < os.length):∃ o,(⟨os⟩:Array Oper)[i]? = some o/\preM o=(tbl T i).1/\(∀ e∈o.after,e.on < os.length) /\
  (∀ j,j < os.length->(tbl T i).2.1.testBit j=true->j=i∨freeOf ⟨os⟩ o i j=true)/\(∀ j,j < os.length->(tbl T i).2.2.1.testBit j=true->mu j=false∨j=i∨depB .any ⟨os⟩ os.length j i=true)/\((tbl T i).2.2.2=true->memfree o.op=true):=by
 have:=List.all_eq_true.1 h i (List.mem_range.2 hi);unfold rowOK at this;cases ho:(⟨os⟩:Array Oper)[i]? with
 | none=>rw [ho] at this;cases this
 | some o =>
  rw [ho] at this;simp only [Bool.and_eq_true,beq_iff_eq,List.all_eq_true,List.mem_range,Bool.or_eq_true,Bool.not_eq_true'] at this;obtain ⟨⟨⟨⟨h1,h2⟩,h3⟩,h4⟩,h5⟩:=this;refine ⟨o,rfl,h1,fun e he=>by simpa using h2 e (by simpa using he),fun j hj hb=>?_,fun j hj hb=>?_,fun hb=>?_⟩
  ·rcases h3 j hj with (h|h)|h
   ·rw [hb] at h; cases h
   ·exact .inl h
   ·exact .inr h
  ·rcases h4 j hj with ((h|h)|h)|h
   ·rw [hb] at h; cases h
   ·exact .inl h
   ·exact .inr (.inl h)
   ·exact .inr (.inr h)
  ·rcases h5 with h | h
   ·rw [hb] at h; cases h
   ·exact h
theorem rdyQ_eq (h:tabOK ⟨os⟩ mu T os.length=true) {listed:Array Bool} {m:Nat} (hr:Rel os.length listed m):Region.ready .any ⟨os⟩ listed=rdyQ T os.length m:=by
 have hmem:∀ i,i∈Region.ready .any ⟨os⟩ listed↔i∈rdyQ T os.length m:=fun i=>by
  rw [mem_ready];unfold rdyQ;rw [List.mem_filter,List.mem_range];constructor
  ·rintro ⟨h0,o,ho,hall⟩;have hi:i < os.length:=by simpa using (Array.getElem?_eq_some_iff.1 ho).1
   obtain ⟨o',ho',hp,hon,_⟩:=rowOK_of h hi;rw [ho] at ho';cases ho';refine ⟨hi,?_⟩;rw [hr.bit i hi true] at h0;rw [h0,<- hp];simp only [Bool.not_false,Bool.true_and];rw [land_sub];intro k hk;obtain ⟨e,he,hb,rfl⟩:=(preM_bit o k).1 hk;rw [<- hr.bit e.on (hon e he) false];exact hall e he hb
  ·rintro ⟨hi,h1⟩;obtain ⟨o,ho,hp,hon,_⟩:=rowOK_of h hi;simp only [Bool.and_eq_true,Bool.not_eq_true'] at h1;refine ⟨by rw [hr.bit i hi true];exact h1.1,o,ho,fun e he hb=>?_⟩;rw [hr.bit e.on (hon e he) false];exact land_sub.1 h1.2 e.on (by rw [<- hp];exact (preM_bit o e.on).2 ⟨e,he,hb,rfl⟩)
 have e1:∀ p q:Nat->Bool,(∀ i,i∈(List.range os.length).filter p↔i∈(List.range os.length).filter q)->(List.range os.length).filter p=(List.range os.length).filter q:=fun p q hpq=>by
  refine List.filter_congr fun i hi=>?_;have:=hpq i;rw [List.mem_filter,List.mem_filter] at this;rw [Bool.eq_iff_iff];simpa [hi] using this
 unfold Region.ready rdyQ at hmem ⊢;exact e1 _ _ hmem
theorem canonQ_sound (h:tabOK ⟨os⟩ mu T os.length=true):∀ (t:IT) (n m:Nat) (listed:Array Bool) (s:Bool),Rel os.length listed m->canonQ T os.length t n m s=true->canonT ⟨os⟩ mu t n listed s=true:=by
 intro t;induction t with
 | nil =>
  intro n m listed s hr hq;cases n with
  | zero=>simp only [canonQ,canonT,rdyQ_eq h hr] at hq ⊢;exact hq
  | succ n=>simp [canonQ] at hq
 | step i b r ih =>
  intro n m listed s hr hq;cases n with
  | zero=>simp [canonQ] at hq
  | succ n =>
   have hil:i∈rdyQ T os.length m->i < os.length:=fun hi=>List.mem_range.1 (List.mem_filter.1 hi).1;cases b with
   | true =>
    simp only [canonQ,canonT,rdyQ_eq h hr,Bool.and_eq_true] at hq ⊢;obtain ⟨hs,⟨⟨h1,h2⟩,h3⟩,h4⟩:=hq;have hi:=hil (by simpa using h1);obtain ⟨o,ho,hp,hon,hfr,hdp,hmf⟩:=rowOK_of h hi;refine ⟨hs,⟨⟨h1,?_⟩,?_⟩,ih n _ _ true (hr.set hi) h4⟩
    ·unfold Region.free;rw [ho];simp only [List.all_eq_true,List.mem_range];intro j hj;have hj':j < os.length:=by simpa using hj
     have hb:=full_bits h2 hj';rw [Nat.testBit_or,Bool.or_eq_true] at hb;rcases hb with hb|hb
     ·rw [hr.bit j hj' true,hb];simp
     ·rcases hfr j hj' hb with rfl|hf
      ·simp
      ·unfold freeOf at hf;simp only [Bool.or_eq_true];exact .inr hf
    ·rcases Bool.or_eq_true_iff.1 h3 with h3|h3
     ·rw [Bool.or_eq_true];left;rw [ho];exact hmf h3
     ·rw [Bool.or_eq_true];right
      simp only [List.all_eq_true,List.mem_range];intro j hj;have hj':j < os.length:=by simpa using hj
      have hb:=full_bits h3 hj';rw [Nat.testBit_or,Bool.or_eq_true] at hb;rcases hb with hb|hb
      ·rw [hr.bit j hj' true,hb];simp
      ·rcases hdp j hj' hb with hm|rfl|hd
       ·simp [hm]
       ·simp
       ·have:(⟨os⟩:Array Oper).size=os.length:=rfl;rw [this,hd];simp
   | false =>
    simp only [canonQ,canonT,rdyQ_eq h hr,Bool.and_eq_true] at hq ⊢;have hi:i < os.length:=by
     cases s with
     | true=>simp only [cond_true,beq_iff_eq] at hq;exact hil (by rw [hq.1];exact List.mem_singleton.2 rfl)
     | false=>simp only [cond_false] at hq;exact hil (by simpa using hq.1)
    exact ⟨hq.1,ih n _ _ true (hr.set hi) hq.2⟩
 | alt tag x y ihx ihy =>
  intro n m listed s hr hq;cases n with
  | zero=>simp [canonQ] at hq
  | succ n =>
   simp only [canonQ,canonT,rdyQ_eq h hr,Bool.and_eq_true] at hq ⊢;exact ⟨⟨hq.1.1,ihx (n+1) m listed false hr hq.1.2⟩,ihy (n+1) m listed false hr hq.2⟩
end
theorem sk_drawQ {P:Program} {R:St->Prop} {k:List Itm} {st:St} (id:Nat) (mu:Nat->Bool) (t:IT) (T:List (Nat×Nat×Nat×Bool)) {os:List Oper} (hm:P.follows .mixedOrders=true)
  (hB:(Region.noSelect ⟨os⟩&&tabOK ⟨os⟩ mu T os.length&&canonQ T os.length t os.length 0 true)=true)
  (h:SO P ⟨os⟩ mu (OT.of os t) st fun st'=>SK P k st' R):SK P (.code (.region id ⟨os⟩ true) :: k) st R:=by
 simp only [Bool.and_eq_true] at hB;refine sk_draw id mu t hm ?_ h;rw [Bool.and_eq_true];refine ⟨hB.1.1,canonQ_sound hB.1.2 t os.length 0 _ true ⟨by simp,fun k hk d=>?_⟩ hB.2⟩;rw [Array.getD_eq_getD_getElem?,Array.getElem?_replicate,if_pos hk];simp
def IT.ofL:List Int->IT
 | [] => .nil
 | .ofNat i :: r => .step i true (IT.ofL r)
 | .negSucc i :: r => .step i false (IT.ofL r)
def bitsQ (f:Nat->Bool):Nat->Nat
 | 0 => 0
 | n+1=>bif f n then bitsQ f n ||| 1 <<< n else bitsQ f n
def tabQ (ops:Array Oper) (mu:Nat->Bool) (N:Nat):List (Nat×Nat×Nat×Bool):=(List.range N).map fun i=>match ops[i]? with
 | none=>(0,0,0,false)
 | some o=>(preM o,bitsQ (fun j=>j == i || freeOf ops o i j) N,bitsQ (fun j => !mu j || j == i || depB .any ops N j i) N,memfree o.op)
theorem jcv {P : Program} {R : St -> Prop} {k : List Itm} {st : St} (id : Nat) (mu : Nat -> Bool) (t : IT) {os : List Oper} (h : SO P ⟨os⟩ mu (OT.of os t) st fun st' => SK P k st' R) (hm : P.follows .mixedOrders = true := by kernel_rfl)
  (hB:(Region.noSelect ⟨os⟩&&tabOK ⟨os⟩ mu (tabQ ⟨os⟩ mu os.length) os.length&&canonQ (tabQ ⟨os⟩ mu os.length) os.length t os.length 0 true)=true:=by kernel_rfl):SK P (.code (.region id ⟨os⟩ true) :: k) st R :=
 sk_drawQ id mu t (tabQ ⟨os⟩ mu os.length) hm hB h
theorem jav {P : Program} {R : St -> Prop} {k : List Itm} {st : St} (id : Nat) (mu : Nat -> Bool) (L : List Int) {os : List Oper} (h : SO P ⟨os⟩ mu (OT.of os (IT.ofL L)) st fun st' => SK P k st' R) (hm : P.follows .mixedOrders = true := by kernel_rfl)
  (hB:(Region.noSelect ⟨os⟩&&tabOK ⟨os⟩ mu (tabQ ⟨os⟩ mu os.length) os.length&&canonQ (tabQ ⟨os⟩ mu os.length) os.length (IT.ofL L) os.length 0 true)=true:=by kernel_rfl):SK P (.code (.region id ⟨os⟩ true) :: k) st R :=
 jcv id mu (IT.ofL L) h hm hB
mutual
def C.ren (b c:Nat):C->C
 | .ls b' sz off n=>bif Nat.beq b' b then .ls c sz off n else bif Nat.beq b' c then .junk else .ls b' sz off n
 | .lp b' off=>bif Nat.beq b' b then .lp c off else bif Nat.beq b' c then .junk else .lp b' off
 | .fn f cs => .fn f (C.renL b c cs)
 | .d x => .d x
 | .junk => .junk
termination_by structural x=>x
def C.renL (b c:Nat):List C->List C
 | [] => []
 | y :: r=>y.ren b c :: C.renL b c r
termination_by structural x=>x
end
mutual
def FV.ren (b c:Nat):FV->FV
 | .c x => .c (x.ren b c)
 | .g cs => .g (C.renL b c cs)
 | .t ps => .t (FV.renL b c ps)
termination_by structural x=>x
def FV.renL (b c:Nat):List FV->List FV
 | [] => []
 | y :: r=>y.ren b c :: FV.renL b c r
termination_by structural x=>x
end
def Blk.ren (b c:Nat):Blk->Blk
 | .box cs => .box (C.renL b c cs)
 | .row sz es => .row sz es
 | .rowX sz es i x => .rowX sz es i (x.ren b c)
 | .held X f => .held X f
theorem C.renL_eq (b c:Nat):∀ cs,C.renL b c cs=cs.map (C.ren b c)
 | [] => rfl
 | y :: r=>by simp only [C.renL,List.map_cons,C.renL_eq b c r]
theorem FV.renL_eq (b c:Nat):∀ cs,FV.renL b c cs=cs.map (FV.ren b c)
 | [] => rfl
 | y :: r=>by simp only [FV.renL,List.map_cons,FV.renL_eq b c r]
def St.ren (st:St) (b c:Nat):St:=⟨st.n,fun t=>(st.fr t).ren b c,fun k=>bif Nat.beq k c then (st.bl b).map (Blk.ren b c) else bif Nat.beq k b then none else (st.bl k).map (Blk.ren b c)⟩
section
variable {w:World} {ρ ρ':Nat->Option Nat} {Ψ Ψ':Nat->Prop} {b c:Nat}
theorem CR.ren {v:Value} {x:C} (h:CR w ρ Ψ v x) (h1:ρ' c=ρ b) (h2:∀ k,k≠b->k≠c->ρ' k=ρ k) (hΨ:∀ g,Ψ' g->Ψ g):CR w ρ' Ψ' v (x.ren b c):=by
 induction h with
 | d v x F h hF=>unfold C.ren;exact .d v x F h fun b hb h'=>hF b hb (hΨ b h')
 | ls0 b' sz h =>
  unfold C.ren;cases e:Nat.beq b' b with
  | true=>have:=Nat.eq_of_beq_eq_true e;subst this;exact .ls0 c sz (h1.trans h)
  | false =>
   cases e2:Nat.beq b' c with
   | true=>exact .junk _
   | false=>exact .ls0 b' sz ((h2 b' (Nat.ne_of_beq_eq_false e) (Nat.ne_of_beq_eq_false e2)).trans h)
 | ls b' g sz off n cap cs E h hnc hle hg hcap =>
  unfold C.ren;cases e:Nat.beq b' b with
  | true=>have:=Nat.eq_of_beq_eq_true e;subst this;exact .ls c g sz off n cap cs E (h1.trans h) hnc hle hg hcap
  | false =>
   cases e2:Nat.beq b' c with
   | true=>exact .junk _
   | false=>exact .ls b' g sz off n cap cs E ((h2 b' (Nat.ne_of_beq_eq_false e) (Nat.ne_of_beq_eq_false e2)).trans h) hnc hle hg hcap
 | lp b' g off h =>
  unfold C.ren;cases e:Nat.beq b' b with
  | true=>have:=Nat.eq_of_beq_eq_true e;subst this;exact .lp c g off (h1.trans h)
  | false =>
   cases e2:Nat.beq b' c with
   | true=>exact .junk _
   | false=>exact .lp b' g off ((h2 b' (Nat.ne_of_beq_eq_false e) (Nat.ne_of_beq_eq_false e2)).trans h)
 | fn f cs us hl hr ih =>
  show CR _ _ _ _ (.fn f (C.renL b c cs));rw [C.renL_eq];exact .fn f _ us (by simpa using hl) fun k hk=>by simp only [List.getElem_map];exact ih k (by simpa using hk)
 | junk v=>unfold C.ren;exact .junk v
theorem FR.ren {v:Value} {x:FV} (h:FR w ρ Ψ v x) (h1:ρ' c=ρ b) (h2:∀ k,k≠b->k≠c->ρ' k=ρ k) (hΨ:∀ g,Ψ' g->Ψ g):FR w ρ' Ψ' v (x.ren b c):=by
 induction h with
 | c v x h=>unfold FV.ren;exact .c v _ (h.ren h1 h2 hΨ)
 | g cs us hl hr=>show FR _ _ _ _ (.g (C.renL b c cs));rw [C.renL_eq];exact .g _ us (by simpa using hl) fun k hk=>by simp only [List.getElem_map];exact (hr k (by simpa using hk)).ren h1 h2 hΨ
 | t ps us hl hr ih=>show FR _ _ _ _ (.t (FV.renL b c ps));rw [FV.renL_eq];exact .t _ us (by simpa using hl) fun k hk=>by simp only [List.getElem_map];exact ih k (by simpa using hk)
theorem BR.ren {r:Option Nat} {x:Blk} {F:List Nat} (h:BR w ρ Ψ r x F) (h1:ρ' c=ρ b) (h2:∀ k,k≠b->k≠c->ρ' k=ρ k) (hΨ:∀ g,Ψ' g->Ψ g):BR w ρ' Ψ' r (x.ren b c) F:=by
 cases h with
 | box g us E cs hg hl hr=>show BR _ _ _ _ (.box (C.renL b c cs)) _;rw [C.renL_eq];exact .box g us E _ hg (by simpa using hl) fun k hk=>by simp only [List.getElem_map];exact (hr k (by simpa using hk)).ren h1 h2 hΨ
 | nil sz hz=>exact .nil sz hz
 | row g us E sz ds vs Fs hz hg hl hc hr=>exact .row g us E sz ds vs Fs hz hg hl hc hr
 | rowX g us E sz ds i x vs Fs hz hg hl hi hF hc hr hx=>exact .rowX g us E sz ds i _ vs Fs hz hg hl hi hF hc hr (hx.ren h1 h2 hΨ)
 | held X f hc hlt=>exact .held _ f hc hlt
end
theorem jja {st:St} (b c:Nat) (hb:Nat.blt b 1000000=true) (hc:Nat.blt c 1000000=true) (hn:st.bl c=none) (hbc:Nat.beq b c=false):∀ κ a w,Sim κ st a w->Sim κ (st.ren b c) a w:=by
 have hb:b < 1000000:=by simpa using hb
 have hc:c < 1000000:=by simpa using hc
 have hne:b≠c:=Nat.ne_of_beq_eq_false hbc;rintro κ a w ⟨ρ,Φ,hm⟩;let ρ':Nat->Option Nat:=fun k=>if k=c then ρ b else if k=b then none else ρ k
 let Φ':Nat->List Nat:=fun k=>if k=c then Φ b else if k=b then [] else Φ k
 have h1:ρ' c=ρ b:=by simp [ρ']
 have h2:∀ k,k≠b->k≠c->ρ' k=ρ k:=fun k e1 e2=>by simp [ρ',e1,e2]
 have src:∀ k g,g∈Φ' k->(k=c/\g∈Φ b)∨(k≠c/\k≠b/\g∈Φ k):=fun k g hg=>by
  simp only [Φ'] at hg;split at hg
  ·rename_i h;exact .inl ⟨h,hg⟩
  ·rename_i h;split at hg
   ·cases hg
   ·rename_i h3;exact .inr ⟨h,h3,hg⟩
 have hΨ:∀ g,InΦ Φ' g->InΦ Φ g:=fun g ⟨k,hk⟩=>by
  rcases src k g hk with ⟨_,h⟩|⟨_,_,h⟩
  ·exact ⟨b,h⟩
  ·exact ⟨k,h⟩
 refine ⟨ρ',Φ',hm.below,hm.size,hm.nb,fun k r hk=>?_,hm.defers,fun t=>(hm.fr t).ren h1 h2 hΨ,fun k x hx=>?_,fun k hk=>?_,fun k g hg=>?_,fun k=>?_,fun k k' g hg hg'=>?_⟩
 ·have e1:k≠c:=fun e=>by subst e;rw [κ.low k hc] at hk;cases hk
  have e2:k≠b:=fun e=>by subst e;rw [κ.low k hb] at hk;cases hk
  rw [h2 k e2 e1];exact hm.pin k r hk
 ·simp only [St.ren] at hx;cases e1:Nat.beq k c with
  | true =>
   have:=Nat.eq_of_beq_eq_true e1;subst this;rw [e1] at hx;simp only [cond_true] at hx;obtain ⟨z,hz,rfl⟩:=Option.map_eq_some_iff.1 hx;have e:Φ' k=Φ b:=by simp [Φ']
   rw [e,h1];exact (hm.bl b z hz).ren h1 h2 hΨ
  | false =>
   rw [e1] at hx;have n1:=Nat.ne_of_beq_eq_false e1;cases e2:Nat.beq k b with
   | true=>rw [e2] at hx;simp at hx
   | false =>
    rw [e2] at hx;have n2:=Nat.ne_of_beq_eq_false e2;simp only [cond_false] at hx;obtain ⟨z,hz,rfl⟩:=Option.map_eq_some_iff.1 hx;have e:Φ' k=Φ k:=by simp [Φ',n1,n2]
    rw [e,h2 k n2 n1];exact (hm.bl k z hz).ren h1 h2 hΨ
 ·simp only [St.ren] at hk;cases e1:Nat.beq k c with
  | true =>
   have:=Nat.eq_of_beq_eq_true e1;subst this;rw [e1] at hk;simp only [cond_true,Option.map_eq_none_iff] at hk;have e:Φ' k=Φ b:=by simp [Φ']
   rw [e];exact hm.emp b hk
  | false =>
   rw [e1] at hk;have n1:=Nat.ne_of_beq_eq_false e1;cases e2:Nat.beq k b with
   | true =>
    have:=Nat.eq_of_beq_eq_true e2;subst this;simp [Φ',hne]
   | false =>
    rw [e2] at hk;have n2:=Nat.ne_of_beq_eq_false e2;simp only [cond_false,Option.map_eq_none_iff] at hk;have e:Φ' k=Φ k:=by simp [Φ',n1,n2]
    rw [e];exact hm.emp k hk
 ·rcases src k g hg with ⟨_,h⟩|⟨_,_,h⟩
  ·exact hm.low b g h
  ·exact hm.low k g h
 ·simp only [Φ'];split
  ·exact hm.nd b
  ·split
   ·exact List.nodup_nil
   ·exact hm.nd k
 ·rcases src k g hg with ⟨e1,h1⟩|⟨e1,f1,h1⟩ <;> rcases src k' g hg' with ⟨e2,h2⟩|⟨e2,f2,h2⟩
  ·omega
  ·exact absurd (hm.dj b k' g h1 h2).symm f2
  ·exact absurd (hm.dj b k g h2 h1).symm f1
  ·exact hm.dj k k' g h1 h2
theorem jfr {st:St} (b:Nat):∀ κ a w,Sim κ st a w->Sim κ (st.setB b none) a w:=fun κ a w h =>
 h.le ⟨rfl,fun _ => .inr rfl,fun k=>by
  by_cases hk:k=b
  ·exact .inl (by simp [St.setB,hk])
  ·exact .inr (by simp [St.setB,hk])⟩
section
variable {P:Program} {ops:Array Oper} {mu:Nat->Bool} {r:OT} {st:St} {K:St->Prop} {i:Nat} {ty:TypeId} {pos:String} {af:Array Edge}
theorem OwC.get {w:World} {vs:List Value} {xs:List D} {Fs:List (List Nat)} (h:OwC w vs xs Fs):∀ k,(hk:k < xs.length)->Ow w (vs.getD k undef) xs[k] (Fs.getD k []):=by
 induction h with
 | nil=>intro k hk;simp at hk
 | cons h t ih =>
  intro k hk;cases k with
  | zero=>exact h
  | succ k=>simpa using ih k (by simpa using hk)
end
end
def inB (n lo hi:Int):Bool:=decide (lo<=n)&&decide (n<=hi)
theorem jcx {n lo hi:Int}:inB n lo hi=true↔lo<=n/\n<=hi:=by simp [inB]
theorem jim {n lo hi:Int}:inB n lo hi=false↔n < lo∨hi < n:=by rw [<- Bool.not_eq_true,jcx]; omega
def allB (l:List Int) (lo hi:Int):Bool:=l.all fun n=>inB n lo hi
theorem jdw {α:Type} (p:α->Bool) (l:List α) (k:Nat) (h:k < l.length):(l.take (k+1)).all p=((l.take k).all p&&p l[k]):=by
 rw [List.take_succ_eq_append_getElem h,List.all_append];simp
theorem jlu {α:Type} {p:α->Bool} {l:List α} {k:Nat} (h:k < l.length) (hp:p l[k]=false):l.all p=false:=by
 rw [<- Bool.not_eq_true,List.all_eq_true];intro H;have:=H _ (List.getElem_mem h);rw [hp] at this;cases this
theorem all_t {α:Type} {p:α->Bool} {l:List α} {k:Nat} (h:¬ k < l.length) (hp:(l.take k).all p=true):l.all p=true:=by
 rw [List.take_of_length_le Kf] at hp;exact hp
def rowF (f:Nat->Int) (m:Nat):List Int:=(List.range m).map f
def gridF (f:Nat->Nat->Int) (q m:Nat):List (List Int):=(List.range q).map fun i=>rowF (f i) m
theorem jdz (f:Nat->Int) (m:Nat):rowF f (m+1)=rowF f m++[f m]:=by simp [rowF,List.range_succ]
@[simp] theorem rowF_len (f : Nat -> Int) (m : Nat) : (rowF f m).length = m := by simp [rowF]
@[simp] theorem gridF_len (f : Nat -> Nat -> Int) (q m : Nat) : (gridF f q m).length = q := by simp [gridF]
theorem jii {f g:Nat->Int} {m:Nat} (h:∀ k,k < m->f k=g k):rowF f m=rowF g m:=by
 unfold rowF;exact List.map_congr_left fun k hk=>h k (List.mem_range.1 hk)
def whenL (b:Bool) (ll:List (List Int)):List (List Int):=if b=true then ll else []
def whenN (b:Bool) (n:Int):Int:=if b=true then n else 0
def szI (n left:Int):Int:=if left - n < 0 then -1 else left - n
def szR:List (List Int)->Int->Int
 | [],left=>left
 | l :: r,left=>if szI l.length left < 0 then -1 else szR r (szI l.length left)
def szL (n:Nat) (ll:List (List Int)) (left:Int):Int:=if left - n < 0 then -1 else szR ll (left - n)
def mkI (k:Int) (n:Nat):List Int:=(List.range n).map fun i:Nat=>k+(i:Int)
@[simp] theorem mkI_len (k : Int) (n : Nat) : (mkI k n).length = n := by simp [mkI]
def mkII (k:Int):List (List Int)->List (List Int)
 | [] => []
 | l :: r=>mkI k l.length :: mkII (k+l.length) r
def cnt:List (List Int)->Nat
 | [] => 0
 | l :: r=>l.length+cnt r
@[simp] theorem mkII_len : ∀ (k : Int) (ll : List (List Int)), (mkII k ll).length = ll.length
 | _,[]=>rfl
 | k,l :: r=>by simp [mkII,mkII_len]
theorem jky:∀ a b:List (List Int),cnt (a++b)=cnt a+cnt b
 | [],b=>by simp [cnt]
 | l :: a,b=>by simp [cnt,jky a b];omega
theorem jjc:∀ (a b:List (List Int)) (k:Int),mkII k (a++b)=mkII k a++mkII (k+cnt a) b
 | [],b,k=>by simp [mkII,cnt]
 | l :: a,b,k=>by simp [mkII,jjc a b,cnt];congr 1;omega
theorem cnt_take (ll:List (List Int)) (i:Nat) (h:i < ll.length):cnt (ll.take (i+1))=cnt (ll.take i)+ll[i].length:=by
 rw [List.take_succ_eq_append_getElem h,jky];simp [cnt]
theorem jny (ll:List (List Int)) (i:Nat):cnt (ll.take i)<=cnt ll:=by
 conv=>rhs;rw [<- List.take_append_drop i ll,jky]
 omega
theorem mkI_set {l:List Int} {k:Int} {j:Nat} (h:j < l.length):(mkI k j++l.drop j).set j (k+j)=mkI k (j+1)++l.drop (j+1):=by
 rw [List.set_append_right _ _ Yby,mkI_len,Nat.sub_self,List.drop_eq_getElem_cons h,List.set_cons_zero];simp [mkI,List.range_succ]
theorem mkI_get {k:Int} {n j:Nat} (h:j < (mkI k n).length):(mkI k n)[j]=k+j:=by simp [mkI]
def fillL {α:Type} (l:List α) (z:α) (k:Nat):List α:=l.take k++List.replicate (l.length - k) z
@[simp] theorem fillL_len {α : Type} (l : List α) (z : α) (k : Nat) : (fillL l z k).length = l.length := by simp [fillL]; omega
theorem jkx {α:Type} (l:List α) (z:α):fillL l z 0=List.replicate l.length z:=by simp [fillL]
theorem jnu {α:Type} (l:List α) (z:α):fillL l z l.length=l:=by simp [fillL]
theorem jkc {α:Type} {l:List α} (z:α) {k:Nat} (h:k < l.length):(fillL l z k).set k l[k]=fillL l z (k+1):=by
 unfold fillL;have e:l.length - k=(l.length - (k+1))+1:=by omega
 have hl:(l.take k).length=k:=by simp;omega
 rw [e,List.replicate_succ,List.set_append_right _ _ Kf,List.take_succ_eq_append_getElem h,hl,Nat.sub_self,List.set_cons_zero,List.append_assoc];rfl
def mkL (l:List Int) (k:Int) (j:Nat):List Int:=mkI k j++l.drop j
theorem mkL_zero (l:List Int) (k:Int):mkL l k 0=l:=by simp [mkL,mkI]
theorem mkL_all (l:List Int) (k:Int):mkL l k l.length=mkI k l.length:=by simp [mkL]
@[simp] theorem mkL_len (l : List Int) (k : Int) {j : Nat} (h : j <= l.length) : (mkL l k j).length = l.length := by simp [mkL]; omega
theorem mkL_set {l:List Int} {k:Int} {j:Nat} (h:j < l.length):(mkL l k j).set j (k+j)=mkL l k (j+1):=mkI_set h
def mkLL (ll:List (List Int)) (k:Int) (j:Nat):List (List Int):=mkII k (ll.take j)++ll.drop j
theorem mkLL_zero (ll:List (List Int)) (k:Int):mkLL ll k 0=ll:=by simp [mkLL,mkII]
theorem mkLL_all (ll:List (List Int)) (k:Int):mkLL ll k ll.length=mkII k ll:=by simp [mkLL]
theorem mkLL_len (ll:List (List Int)) (k:Int) {j:Nat} (h:j<=ll.length):(mkLL ll k j).length=ll.length:=by simp [mkLL]; omega
theorem mkLL_get {ll:List (List Int)} {k:Int} {j:Nat} (h:j < ll.length):(mkLL ll k j)[j]? = some ll[j]:=by
 unfold mkLL;rw [List.getElem?_append_right Ybw,mkII_len,List.length_take,Nat.min_eq_left Kf,Nat.sub_self,List.getElem?_drop];simp [h]
theorem mkLL_set {ll:List (List Int)} {k:Int} {j:Nat} (h:j < ll.length):(mkLL ll k j).set j (mkI (k+cnt (ll.take j)) ll[j].length)=mkLL ll k (j+1):=by
 unfold mkLL;have hl:(mkII k (ll.take j)).length=j:=by simp;omega
 rw [List.set_append_right _ _ Kf,hl,Nat.sub_self,List.drop_eq_getElem_cons h,List.set_cons_zero,List.take_succ_eq_append_getElem h,jjc];simp [mkII]
theorem mkII_at {ll:List (List Int)} {k:Int} {j:Nat} (h:j < ll.length):(mkII k ll)[j]? = some (mkI (k+cnt (ll.take j)) ll[j].length):=by
 have e:mkII k ll=mkII k (ll.take j)++mkII (k+cnt (ll.take j)) (ll.drop j):=by rw [<- jjc,List.take_append_drop]
 rw [e,List.getElem?_append_right Ybw,mkII_len,List.length_take,Nat.min_eq_left Kf,Nat.sub_self,List.drop_eq_getElem_cons h];simp [mkII]
def atZ {α:Type} [Inhabited α] (l:List α) (i:Int):α:=l.getD i.toNat default
theorem jby {α:Type} [Inhabited α] {l:List α} {k:Nat} (h:k < l.length):atZ l (k:Int)=l[k]:=by
 simp [atZ,h]
theorem jis {α:Type} [Inhabited α] {l:List α} {i:Int} (h0:0<=i) (h1:i < l.length):l[i.toNat]? = some (atZ l i):=by
 have:i.toNat < l.length:=by omega
 simp [atZ,this]
theorem map_at {α β:Type} {l:List α} {f:α->β} {n:Nat} {x:α} (h:l[n]? = some x):((l.map f).drop (n*1)).take 1=[f x]:=by
 obtain ⟨hlt,rfl⟩:=List.getElem?_eq_some_iff.1 h;rw [Nat.mul_one,List.drop_eq_getElem_cons (by simpa using hlt),List.take_succ_cons,List.take_zero];simp
def bitsB (l:List Int) (n:Int):Bool:=decide ((l.length:Int)=n)&&allB l 0 1
theorem jce {l:List Int} {n:Int} (h:bitsB l n=true):(l.length:Int)=n:=by
 unfold bitsB at h;simp at h;omega
theorem jdd {l:List Int} {n:Int} (h:bitsB l n=true) {i:Int} (h0:0<=i) (h1:i < n):0<=atZ l i/\atZ l i<=1:=by
 have hl:=jce h;unfold bitsB allB at h;simp only [Bool.and_eq_true,List.all_eq_true] at h;obtain ⟨k,rfl⟩:=Int.eq_ofNat_of_zero_le h0;rw [jby Kf];exact jcx.1 (h.2 (l[k]'Kf) (List.getElem_mem _))
section
variable [Glb]
open Go Go.RowKit
section
variable {P:Program} {st:St} {dst:Option Tmp} {ty:TypeId} {pos:String} {af:Array Edge}
def bndOK (v:Option (IntKind×Int)) (i z:Nat):Prop:=match v with | some (_,l)=>0<=l/\l.toNat=i | none=>i=z
theorem jkn {T:TypeId} {sz:Nat} (ht:tSl P T sz=true) (ao:Option Addr) (n cap:Nat) (lo hi:Option (IntKind×Int)) (i j:Nat)
  (hlo:bndOK lo i 0) (hhi:bndOK hi j n) (hij:i<=j) (hj:j<=n) (hnc:n<=cap) (w:World) :
  (Instr.sliceAt T (.slice ao n cap) (lo.map fun x => .int x.1 x.2) (hi.map fun x => .int x.1 x.2) none).run P w = .ok (.slice (if cap=i then ao else ao.map (·.add (i*sz))) (j - i) (cap - i)) w:=by
 obtain ⟨E,inf,hT,hE,rfl⟩:=tSl_spec ht;have hs:∀ w',(sizeOf E).run P w' = .ok inf.size w':=fun w'=>by simp [sizeOf,typeInfo,hE]
 cases lo with
 | none =>
  have hlo:i=0:=hlo;subst hlo;cases hi with
  | none =>
   have hhi:j=n:=hhi;subst hhi;simp [Instr.sliceAt,Instr.slice,underlying,hT,Instr.sliceBounds,hs]
  | some h =>
   obtain ⟨kh,h⟩:=h;obtain ⟨h0,rfl⟩:0<=h/\h.toNat=j:=hhi;simp [Instr.sliceAt,Instr.slice,underlying,hT,Instr.sliceBounds,Instr.sliceBound,asIntOf,hs,h0,show h<=cap by omega]
 | some l =>
  obtain ⟨kl,l⟩:=l;obtain ⟨l0,rfl⟩:0<=l/\l.toNat=i:=hlo;cases hi with
  | none =>
   have hhi:j=n:=hhi;subst hhi;simp [Instr.sliceAt,Instr.slice,underlying,hT,Instr.sliceBounds,Instr.sliceBound,asIntOf,hs,l0,show l<=j by omega]
  | some h =>
   obtain ⟨kh,h⟩:=h;obtain ⟨h0,rfl⟩:0<=h/\h.toNat=j:=hhi;simp [Instr.sliceAt,Instr.slice,underlying,hT,Instr.sliceBounds,Instr.sliceBound,asIntOf,hs,l0,h0,show h<=cap by omega,show l<=max h 0 by omega]
theorem vw_slice {w:World} {ao:Option Addr} {n cap sz:Nat} {ds:List D} {F:List Nat} (h:Vw w (.slice ao n cap) (.sl sz n ds) F) {i j:Nat} (hij:i<=j) (hj:j<=n) :
  ∃ F',Vw w (.slice (if cap=i then ao else ao.map (·.add (i*sz))) (j - i) (cap - i)) (.sl sz (j - i) ((ds.drop (i*sz)).take ((j - i)*sz))) F' /\ ∀ b∈F',b∈F:=by
 cases h with
 | sl _ _ _ _ _ us Fs hn hz hle hs hc hr =>
  have hb:i*sz+(j - i)*sz<=ds.length:=by rw [hn,<- Nat.add_mul];exact Nat.mul_le_mul_right _ Kf
  have hlen:((ds.drop (i*sz)).take ((j - i)*sz)).length=(j - i)*sz:=by simp;omega
  refine ⟨_,.sl _ _ _ _ _ (fun k=>us (i*sz+k)) (fun k=>Fs (i*sz+k)) hlen hz ⟨by omega,by omega⟩ (fun h0=>?_) (fun k hk=>?_) (fun k hk=>?_),fun b hb'=>?_⟩
  ·have:=hs Kf;split
   ·exact this
   ·cases ao with
    | none=>cases this
    | some a=>rfl
  ·rw [hlen] at hk;have h0:0 < j - i:=Nat.pos_of_ne_zero fun e=>by rw [e] at hk;simp at hk
   obtain ⟨a,rfl⟩:=Option.isSome_iff_exists.1 (hs Kf);rw [if_neg Kf];simp only [Option.map_some,adrO_some];rw [adr_add];exact hc _ Kf
  ·simp only [List.getElem_take,List.getElem_drop];exact hr _ (by rw [hlen] at hk;omega)
  ·by_cases h0:j - i=0
   ·rw [if_pos h0] at hb';cases hb'
   ·rw [if_neg h0] at hb';rw [if_neg Kf];obtain ⟨a,rfl⟩:=Option.isSome_iff_exists.1 (hs Kf);rw [if_neg Kf] at hb';rcases List.mem_cons.1 hb' with rfl|hb'
    ·simp only [Option.map_some,adrO_some];rw [jgv];exact List.mem_cons_self ..
    ·obtain ⟨k,hk,hb'⟩:=jcj.1 hb';rw [hlen] at hk;exact List.mem_cons_of_mem _ (jcj.2 ⟨i*sz+k,by omega,hb'⟩)
theorem qt_slice_d {T:TypeId} {x:Operand} {lo hi:Option Operand} {sz n m:Nat} {ds ds':List D} {vl vh:Option (IntKind×Int)} {i j:Nat} (hx:st.ev x = .c (.d (.sl sz n ds)))
  (hl:∀ a w ρ (Ψ:Nat->Prop),(∀ y,FR w ρ Ψ (Act.eval a y) (st.ev y))->lo.map a.eval=vl.map fun x => .int x.1 x.2) (hh:∀ a w ρ (Ψ:Nat->Prop),(∀ y,FR w ρ Ψ (Act.eval a y) (st.ev y))->hi.map a.eval=vh.map fun x => .int x.1 x.2) (ht:tSl P T sz=true)
  (hlo:bndOK vl i 0) (hhi:bndOK vh j n) (hij:i<=j) (hj:j<=n) (hm':j - i=m) (hd:(ds.drop (i*sz)).take (m*sz)=ds') :
  Qt P ⟨dst,.slice T x lo hi none,ty,pos,af,none⟩ st (.c (.d (.sl sz m ds'))):=fun w0 ρ Φ a w hm=>by
 subst hm' hd;have h:=hm.ev x;rw [hx] at h;obtain ⟨F,h',hF⟩:=h.d_inv;have e1:=hl a w ρ _ fun y=>hm.ev y;have e2:=hh a w ρ _ fun y=>hm.ev y;generalize hv:a.eval x=v at *;have h2:=h';cases h' with
 | sl ao _ cap _ _ us Fs hn hz hle hs hc hr =>
  obtain ⟨F',hF',hsub⟩:=vw_slice h2 hij hj;exact ⟨_,fun w' _=>by simp only [execOp,hv,Option.map_none,e1,e2,Sem.run_bind,jkn ht ao n cap vl vh i j hlo hhi hij hj hle.2,Result.andThen_ok,Sem.run_pure],.c _ _ (.d _ _ _ hF' fun b hb=>hF b (hsub b hb))⟩
theorem ev_some {y:Operand} {k:IntKind} {i:Int} (h:st.ev y = .c (.d (.lit (.int k i)))) (a:Act) (w:World) (ρ:Nat->Option Nat) (Ψ:Nat->Prop) (hm:∀ y,FR w ρ Ψ (a.eval y) (st.ev y)) :
  (some y).map a.eval=(some (k,i)).map fun x:IntKind×Int=>Value.int x.1 x.2:=by
 have:=hm y;rw [h] at this;simp [this.lit_inv]
theorem jll {T:TypeId} {x:Operand} {lo hi:Option Operand} {b sz off n:Nat} {vl vh:Option (IntKind×Int)} {i j:Nat} (hx:st.ev x = .c (.ls b sz off n))
  (hl:∀ a w ρ (Ψ:Nat->Prop),(∀ y,FR w ρ Ψ (Act.eval a y) (st.ev y))->lo.map a.eval=vl.map fun x => .int x.1 x.2) (hh:∀ a w ρ (Ψ:Nat->Prop),(∀ y,FR w ρ Ψ (Act.eval a y) (st.ev y))->hi.map a.eval=vh.map fun x => .int x.1 x.2) (ht:tSl P T sz=true)
  (hlo:bndOK vl i 0) (hhi:bndOK vh j n) (hij:i<=j) (hj:j<=n) (hlt:i=0∨i < n) :
  Qt P ⟨dst,.slice T x lo hi none,ty,pos,af,none⟩ st (.c (.ls b sz (off+i*sz) (j - i))):=fun w0 ρ Φ a w hm=>by
 have h:=hm.ev x;rw [hx] at h;have e1:=hl a w ρ _ fun y=>hm.ev y;have e2:=hh a w ρ _ fun y=>hm.ev y;generalize hv:a.eval x=v at *;rcases jgb h.c_inv with ⟨h0,rfl,rfl,rfl⟩|⟨g,cap,cs,E',hρ,rfl,hnc,hle,hg',hcap⟩
 ·have hi0:i=0:=by omega
  have hj0:j=0:=by omega
  subst hi0 hj0;refine ⟨.slice none 0 0,fun w' _=>by simp only [execOp,hv,Option.map_none,e1,e2,Sem.run_bind,jkn ht none 0 0 vl vh 0 0 hlo hhi hij hj (Nat.le_refl _),Result.andThen_ok,Sem.run_pure];rfl,.c _ _ ?_⟩;rw [Nat.zero_mul];exact .ls0 b sz h0
 ·refine ⟨.slice (if cap=i then some ⟨g,off,none⟩ else (some (⟨g,off,none⟩:Addr)).map (·.add (i*sz))) (j - i) (cap - i),fun w' _=>by simp only [execOp,hv,Option.map_none,e1,e2,Sem.run_bind,jkn ht (some ⟨g,off,none⟩) n cap vl vh i j hlo hhi hij hj hnc,Result.andThen_ok,Sem.run_pure],.c _ _ ?_⟩;have hcs:off+i*sz+(cap - i)*sz<=cs.size:=by
   have:i*sz+(cap - i)*sz=cap*sz:=by rw [<- Nat.add_mul];congr 1;omega
   omega
  by_cases hc:cap=i
  ·have hi0:i=0:=by omega
   rw [if_pos hc,hi0,Nat.zero_mul,Nat.add_zero];rw [hi0,Nat.zero_mul] at hcs;exact .ls b g sz off _ _ cs E' hρ Kf Kf hg' Kf
  ·rw [if_neg hc,Option.map_some,jgu];exact .ls b g sz _ _ _ cs E' hρ Kf Kf hg' hcs
theorem jfk {T:TypeId} {x lo:Operand} {b sz off n:Nat} {kl:IntKind} {i:Int} (hx:st.ev x = .c (.ls b sz off n)) (hl:st.ev lo = .c (.d (.lit (.int kl i)))) (ht:tSl P T sz=true) (h0:0<=i) (h1:i < n) :
  Qt P ⟨dst,.slice T x (some lo) none none,ty,pos,af,none⟩ st (.c (.ls b sz (off+i.toNat*sz) (n - i.toNat))) :=
 jll (vl:=some (kl,i)) (vh:=none) hx (ev_some hl) (fun _ _ _ _ _=>rfl) ht ⟨h0,rfl⟩ rfl Kf (Nat.le_refl _) Kf
theorem jej {T:TypeId} {x hi:Operand} {b sz off n:Nat} {kh:IntKind} {j:Int} (hx:st.ev x = .c (.ls b sz off n)) (hh:st.ev hi = .c (.d (.lit (.int kh j)))) (ht:tSl P T sz=true) (h0:0<=j) (h1:j<=n) :
  Qt P ⟨dst,.slice T x none (some hi) none,ty,pos,af,none⟩ st (.c (.ls b sz off j.toNat)):=by
 have:=jll (dst:=dst) (ty:=ty) (pos:=pos) (af:=af) (P:=P) (st:=st) (T:=T) (x:=x) (lo:=none) (hi:=some hi) (vl:=none) (vh:=some (kh,j)) (i:=0) (j:=j.toNat) hx (fun _ _ _ _ _=>rfl) (ev_some hh) ht rfl ⟨h0,rfl⟩ Kf Kf (.inl rfl);rwa [Nat.zero_mul,Nat.add_zero,Nat.sub_zero] at this
def partZ {α:Type} (l:List α) (i j:Int):List α:=(l.drop i.toNat).take (j.toNat - i.toNat)
theorem jjz {α β:Type} (l:List α) (f:α->β) (i j:Int):((l.map f).drop (i.toNat*1)).take ((j.toNat - i.toNat)*1)=(partZ l i j).map f:=by
 simp [partZ,List.map_take,List.map_drop]
end
section
variable {P:Program} {st:St} {dst:Option Tmp} {ty:TypeId} {pos:String} {af:Array Edge}
end
section
variable {P:Program} {st:St} {dst:Option Tmp} {ty:TypeId} {pos:String} {af:Array Edge}
theorem run_idxa {T:TypeId} {n sz:Nat} (ht:tArr P T n sz=true) {a:Addr} {k:IntKind} {i:Int} (h0:0<=i) (h1:i < n) (w:World) :
  (Instr.indexAt T (.pointer (some a)) (.int k i)).run P w = .ok (.pointer (some (a.add (i.toNat*sz)))) w:=by
 obtain ⟨E,inf,hT,hi,rfl⟩:=tArr_spec ht;simp [Instr.indexAt,asIntOf,underlying,hT,Instr.sureAddr,sizeOf,typeInfo,hi,h0,h1]
theorem jcb {T:TypeId} {x y:Operand} {b off n sz:Nat} {k:IntKind} {i:Int} (hx:st.ev x = .c (.lp b off)) (hy:st.ev y = .c (.d (.lit (.int k i)))) (ht:tArr P T n sz=true) (h0:0<=i) (h1:i < n) :
  Qt P ⟨dst,.indexAddr T x y,ty,pos,af,none⟩ st (.c (.lp b (off+i.toNat*sz))):=fun w0 ρ Φ a w hm=>by
 have h:=hm.ev x;rw [hx] at h;have hi:a.eval y = .int k i:=FR.lit_inv (by rw [<- hy];exact hm.ev y);obtain ⟨g,hρ,hv⟩:=jhs h.c_inv;exact ⟨.pointer (some ((⟨g,off,none⟩:Addr).add (i.toNat*sz))),fun w' _=>by simp [execOp,hv,hi,run_idxa ht h0 h1],by rw [jgu];exact .c _ _ (.lp b g _ hρ)⟩
end
attribute [irreducible] partZ
end
section
variable [Glb]
abbrev Tx:=List UInt8
def bsT (l:Tx):ByteArray:=⟨l.toArray⟩
theorem jeb (l:Tx):(bsT l).size=l.length:=by simp [bsT,ByteArray.size]
theorem bsT_data (s:ByteArray):bsT s.data.toList=s:=by cases s; simp [bsT]
theorem bsT_inj {a b:Tx}:bsT a=bsT b↔a=b:=by
 constructor
 ·intro h;have:(bsT a).data.toList=(bsT b).data.toList:=by rw [h]
  simpa [bsT] using this
 ·rintro rfl; rfl
theorem jnz:(⟨#[]⟩:ByteArray)=bsT []:=rfl
theorem bsT_append (a b:Tx):bsT a++bsT b=bsT (a++b):=by
 apply ByteArray.ext;rw [ByteArray.data_append];simp [bsT]
theorem jjf (a:Tx) (i j:Nat):(bsT a).extract i j=bsT ((a.take j).drop i):=by
 apply ByteArray.ext;rw [ByteArray.data_extract];simp [bsT,List.extract_eq_take_drop,List.drop_take]
def bef (b:UInt8):Tx->Tx
 | [] => []
 | x :: r=>if x=b then [] else x :: bef b r
def aft (b:UInt8):Tx->Tx
 | [] => []
 | x :: r=>if x=b then r else aft b r
theorem jiq {b:UInt8}:∀ {s:Tx},b ∉ s->bef b s=s
 | [],_=>rfl
 | x :: r,h=>by
  rw [List.mem_cons,not_or] at h;rw [bef,if_neg (Ne.symm h.1),jiq h.2]
theorem aft_miss {b:UInt8}:∀ {s:Tx},b ∉ s->aft b s=[]
 | [],_=>rfl
 | x :: r,h=>by
  rw [List.mem_cons,not_or] at h;rw [aft,if_neg (Ne.symm h.1),aft_miss h.2]
theorem jld {b:UInt8}:∀ {x y:Tx},b ∉ x->bef b (x++b :: y)=x
 | [],y,_=>by simp [bef]
 | z :: x,y,h=>by
  rw [List.mem_cons,not_or] at h;rw [List.cons_append,bef,if_neg (Ne.symm h.1),jld h.2]
theorem aft_app {b:UInt8}:∀ {x y:Tx},b ∉ x->aft b (x++b :: y)=y
 | [],y,_=>by simp [aft]
 | z :: x,y,h=>by
  rw [List.mem_cons,not_or] at h;rw [List.cons_append,aft,if_neg (Ne.symm h.1),aft_app h.2]
theorem jex {b:UInt8}:∀ {s:Tx},b∈s->s=bef b s++b :: aft b s/\b ∉ bef b s
 | [],h=>by cases h
 | x :: r,h=>by
  by_cases hx:x=b
  ·rw [bef,aft,if_pos hx,if_pos hx,hx];exact ⟨rfl,fun h=>by cases h⟩
  ·have hr:b∈r:=by rcases List.mem_cons.1 h with e|e;exact absurd e.symm hx;exact e
   obtain ⟨e,n⟩:=jex hr;rw [bef,aft,if_neg hx,if_neg hx];refine ⟨by rw [List.cons_append,<- e],fun hm=>?_⟩;rcases List.mem_cons.1 hm with e'|e'
   ·exact hx e'.symm
   ·exact n e'
def splitT (b:UInt8):Tx->List Tx
 | []=>[[]]
 | x :: r=>if x=b then [] :: splitT b r else match splitT b r with|[]=>[[x]]|h :: t=>(x :: h) :: t
theorem jey (b:UInt8):∀ s,∃ t,splitT b s=bef b s :: t
 | []=>⟨[],rfl⟩
 | x :: r=>by
  unfold splitT;by_cases hx:x=b
  ·rw [if_pos hx];exact ⟨splitT b r,by simp [bef,hx]⟩
  ·rw [if_neg hx];obtain ⟨t,e⟩:=jey b r;rw [e];exact ⟨t,by simp [bef,hx]⟩
theorem jgn (b:UInt8) (s:Tx):splitT b s≠[]:=by obtain ⟨t,e⟩:=jey b s; rw [e]; simp
theorem jhe (b:UInt8):∀ s,((splitT b s).length < 2↔b ∉ s)
 | []=>by simp [splitT]
 | x :: r=>by
  unfold splitT;by_cases hx:x=b
  ·rw [if_pos hx];obtain ⟨t,e⟩:=jey b r;rw [e]; simp [hx]
  ·rw [if_neg hx];have ih:=jhe b r;obtain ⟨t,e⟩:=jey b r;rw [e] at ih ⊢;simp only [List.length_cons,List.mem_cons,not_or] at ih ⊢;constructor
   ·intro h;exact ⟨fun h'=>hx h'.symm,ih.1 h⟩
   ·rintro ⟨_,h⟩;exact ih.2 h
def preT (p:Tx):List Tx->List Tx
 | [] => [p]
 | h :: t=>(p++h) :: t
theorem preT_nil {l:List Tx} (h:l≠[]):preT [] l=l:=by cases l; exact absurd rfl h; rfl
theorem split_hit {b:UInt8} {s p:Tx} {i:Nat} (h:i < s.length) (e:s[i]=b):preT p (splitT b (s.drop i))=[p]++preT [] (splitT b (s.drop (i+1))):=by
 rw [List.drop_eq_getElem_cons h,preT_nil (jgn b _)];simp [splitT,e,preT]
theorem split_no {b:UInt8} {s p:Tx} {i:Nat} (h:i < s.length) (e:s[i]≠b):preT p (splitT b (s.drop i))=preT (p++[s[i]]) (splitT b (s.drop (i+1))):=by
 rw [List.drop_eq_getElem_cons h];obtain ⟨t,e2⟩:=jey b (s.drop (i+1));simp [splitT,e,e2,preT]
def sumN (s:Tx):Nat:=s.foldl (fun h c=>(41*h+c.toNat+1)%999979) 7
theorem sumN_snoc (s:Tx) (c:UInt8):sumN (s++[c])=(41*sumN s+c.toNat+1)%999979:=by simp [sumN]
theorem sumN_take {s:Tx} {i:Nat} (h:i < s.length):sumN (s.take (i+1))=(41*sumN (s.take i)+s[i].toNat+1)%999979:=by
 rw [List.take_succ_eq_append_getElem h,sumN_snoc]
theorem jmk (s:Tx):sumN s < 999979:=by
 rcases List.eq_nil_or_concat s with rfl|⟨l,c,rfl⟩
 ·decide
 ·rw [List.concat_eq_append,sumN_snoc];omega
def numT (n:Nat):Tx:=Go.Lib.decDigits n
theorem jgz (n:Nat):numT n=if n < 10 then [UInt8.ofNat (48+n)] else numT (n / 10)++[UInt8.ofNat (48+n%10)]:=by
 unfold numT;rw [Go.Lib.decDigits];split <;> rfl
theorem dig_lt {n:Nat} (h:n < 10):(UInt8.ofNat (48+n)).toNat=48+n:=by
 rw [UInt8.toNat_ofNat']; omega
theorem jjv (n:Nat):∀ b∈numT n,48<=b.toNat/\b.toNat<=57:=by
 induction n using Nat.strongRecOn with
 | ind n ih =>
  rw [jgz];split
  ·intro b hb;rw [List.mem_singleton] at hb;subst hb;rw [dig_lt Yak];omega
  ·intro b hb;rcases List.mem_append.1 hb with hb|hb
   ·exact ih _ Kf b hb
   ·rw [List.mem_singleton] at hb;subst hb;rw [dig_lt (n:=n%10) Kf];omega
theorem jgi (m:Nat):∀ n,n < 10^(m+1)->1<=(numT n).length/\(numT n).length<=m+1:=by
 induction m with
 | zero=>intro n h;rw [jgz,if_pos Kf];simp
 | succ m ih =>
  intro n h;rw [jgz];split
  ·simp
  ·have:=ih (n / 10) (by rw [Nat.div_lt_iff_lt_mul Kf];rw [Nat.pow_succ] at h;exact h);simp; omega
def digT:Tx:=[48,49,50,51,52,53,54,55,56,57]
theorem dig_at {n:Nat} (h:n < 10):(digT.drop n).take 1=[UInt8.ofNat (48+n)]:=by
 have:∀ n:Fin 10,(digT.drop n.val).take 1=[UInt8.ofNat (48+n.val)]:=by decide
 exact this ⟨n,h⟩
def plB (b:UInt8):Bool:=decide (32<=b.toNat)&&decide (b.toNat<=126)
def bytB (s:Tx) (most:Int):Bool:=(s.all fun b=>plB b&&b != 35)&&decide ((s.length:Int)<=most)
def recB (c r:Tx):Bool:=decide (c≠[])&&bytB c 160 && !c.contains 64&&bytB r 250
def plainB (s:Tx) (most:Int) (o:Tx):Bool:=s.all plB&&(decide ((s.length:Int)<=most) && !(s.any fun b=>o.contains b))
theorem recB_eq (c r:Tx):(decide (c≠[])&&plainB c 160 [35,64]&&plainB r 250 [35])=recB c r:=by
 have h1:∀ s:Tx,(s.all plB && !(s.any fun b=>[35,64].contains b))=((s.all fun b=>plB b&&b != 35) && !s.contains 64):=by
  intro s; induction s with
  | nil=>rfl
  | cons x s ih =>
   simp only [List.all_cons,List.any_cons,List.contains_cons,List.contains_nil,Bool.or_false,Bool.not_or] at ih ⊢;rw [show (plB x&&s.all plB&&((!(x == 35) && !(x == 64)) && !s.any fun b=>b == 35 || b == 64))=(plB x&&(!(x == 35) && !(x == 64))&&(s.all plB && !s.any fun b=>b == 35 || b == 64)) by ac_rfl,ih];rw [show (64 == x)=(x == 64) by rw [Bool.beq_comm (α:=UInt8)]];simp only [bne];ac_rfl
 have h2:∀ s:Tx,(s.all plB && !(s.any fun b=>[35].contains b))=(s.all fun b=>plB b&&b != 35):=by
  intro s; induction s with
  | nil=>rfl
  | cons x s ih =>
   simp only [List.all_cons,List.any_cons,List.contains_cons,List.contains_nil,Bool.or_false,Bool.not_or] at ih ⊢;rw [<- ih];simp only [bne];ac_rfl
 unfold recB plainB bytB;rw [show ((c.all plB&&(decide ((c.length:Int)<=160) && !(c.any fun b=>[35,64].contains b))))=((c.all plB && !(c.any fun b=>[35,64].contains b))&&decide ((c.length:Int)<=160)) by ac_rfl,h1];rw [show ((r.all plB&&(decide ((r.length:Int)<=250) && !(r.any fun b=>[35].contains b))))=((r.all plB && !(r.any fun b=>[35].contains b))&&decide ((r.length:Int)<=250)) by ac_rfl,h2];ac_rfl
structure RecP (c r : Tx) : Prop where
 ne : c ≠ []
 cl:c.length<=160
 rl:r.length<=250
 c35:35 ∉ c
 c10:10 ∉ c
 c64:64 ∉ c
 r35:35 ∉ r
 r10:10 ∉ r
theorem bytB_p {s:Tx} {most:Int} (h:bytB s most=true):(s.length:Int)<=most/\35 ∉ s/\10 ∉ s:=by
 unfold bytB plB at h;simp only [Bool.and_eq_true,List.all_eq_true,decide_eq_true_eq,bne_iff_ne,ne_eq] at h;refine ⟨h.2,fun hm=>(h.1 _ hm).2 rfl,fun hm=>?_⟩;have:=(h.1 _ hm).1.1;simp at this
theorem recB_p {c r:Tx} (h:recB c r=true):RecP c r:=by
 unfold recB at h;simp only [Bool.and_eq_true,decide_eq_true_eq,Bool.not_eq_true',List.contains_eq_mem,decide_eq_false_iff_not] at h;obtain ⟨⟨⟨h1,h2⟩,h3⟩,h4⟩:=h;have a:=bytB_p h2;have b:=bytB_p h4;exact ⟨h1,by omega,by omega,a.2.1,a.2.2,h3,b.2.1,b.2.2⟩
def sealT (s:Tx):Tx:=s++[35]++numT (sumN s)
def textT (k:Nat) (c r:Tx):Tx:=numT k++[32]++c++[64]++r
def lineT (k:Nat) (c r:Tx):Tx:=sealT (textT k c r)
theorem numT_no {n:Nat} {b:UInt8} (h:b.toNat < 48∨57 < b.toNat):b ∉ numT n:=fun hm=>by have:=jjv n b hm; omega
theorem num60 {k:Nat} (h:k < 60):1<=(numT k).length/\(numT k).length<=2:=jgi 1 k Kf
theorem numS (s:Tx):1<=(numT (sumN s)).length/\(numT (sumN s)).length<=6:=jgi 5 _ (by have:=jmk s; omega)
theorem jos {k:Nat} {c r:Tx} (h:RecP c r):35 ∉ textT k c r:=by
 have:=numT_no (n:=k) (b:=35) Ybr;simp [textT,this,h.c35,h.r35]
theorem jig {k:Nat} {c r:Tx} (hk:k < 60) (h:RecP c r):(textT k c r).length<=414:=by
 have:=num60 hk;have:=h.cl;have:=h.rl;simp [textT]; omega
theorem jhj (s:Tx):s.length+2<=(sealT s).length/\(sealT s).length<=s.length+7:=by have:=numS s; simp [sealT]; omega
theorem jjn {s:Tx} (h:35 ∉ s):bef 35 (sealT s)=s:=by
 unfold sealT;rw [List.append_assoc];exact jld h
theorem line10 {k:Nat} {c r:Tx} (h:RecP c r):10 ∉ lineT k c r:=by
 have h1:=numT_no (n:=k) (b:=10) Ybr;have h2:=numT_no (n:=sumN (textT k c r)) (b:=10) Ybr;simp only [lineT,sealT,List.mem_append,not_or];refine ⟨⟨?_,by decide⟩,h2⟩;simp [textT,h1,h.c10,h.r10]
theorem text_parse {k:Nat} {c r:Tx} (h:RecP c r):aft 32 (textT k c r)=c++64 :: r/\bef 64 (c++64 :: r)=c/\aft 64 (c++64 :: r)=r:=by
 refine ⟨?_,jld h.c64,aft_app h.c64⟩;have:textT k c r=numT k++32 :: (c++64 :: r):=by simp [textT]
 rw [this];exact aft_app (numT_no Ybr)
def decT (k:Nat) (l:Tx):Option (Tx×Tx) :=
 let e:=aft 32 (bef 35 l)
 if recB (bef 64 e) (aft 64 e)=true/\lineT k (bef 64 e) (aft 64 e)=l then some (bef 64 e,aft 64 e) else none
theorem jme {k:Nat} {l c r:Tx}:decT k l=some (c,r)↔recB c r=true/\lineT k c r=l:=by
 constructor
 ·unfold decT;simp only;split
  ·rename_i h;intro e;simp only [Option.some.injEq,Prod.mk.injEq] at e;obtain ⟨rfl,rfl⟩:=e;exact h
  ·intro e; cases e
 ·rintro ⟨h1,rfl⟩;have h:=recB_p h1;have e1:bef 35 (lineT k c r)=textT k c r:=jjn (jos h);obtain ⟨e2,e3,e4⟩:=text_parse (k:=k) h;unfold decT;simp only [e1,e2,e3,e4,h1,and_self,if_true]
theorem jkd {k:Nat} {l:Tx} (h:∀ c r,recB c r=true->lineT k c r≠l):decT k l=none:=by
 cases e:decT k l with
 | none=>rfl
 | some x=>obtain ⟨c,r⟩:=x;obtain ⟨h1,h2⟩:=jme.1 e;exact absurd h2 (h c r h1)
def verT (l:Tx):Bool:=decide ((bef 35 l).length<=4000)&&decide ((sealT (bef 35 l)).length<=4000)&&decide (sealT (bef 35 l)=l)
def vtxT (l:Tx):Tx:=if verT l=true then bef 35 l else []
theorem ver_line {k:Nat} {c r:Tx} (hk:k < 60) (h:RecP c r):verT (lineT k c r)=true:=by
 have h1:=jig hk h;have h2:=jhj (textT k c r);unfold verT;rw [show bef 35 (lineT k c r)=textT k c r from jjn (jos h)];simp [lineT]; omega
theorem decI {k:Nat} {l:Tx} (hk:k < 60) :
  decT k l=if recB (bef 64 (aft 32 (vtxT l))) (aft 64 (aft 32 (vtxT l)))=true/\lineT k (bef 64 (aft 32 (vtxT l))) (aft 64 (aft 32 (vtxT l)))=l then some (bef 64 (aft 32 (vtxT l)),aft 64 (aft 32 (vtxT l))) else none:=by
 by_cases hv:verT l=true
 ·simp only [vtxT,hv,if_true];rfl
 ·split
  ·rename_i h;rw [<- h.2] at hv;exact absurd (ver_line hk (recB_p h.1)) hv
  ·exact jkd fun c r h e=>hv (by rw [<- e];exact ver_line hk (recB_p h))
def ahdT (k:Nat):Tx:=numT k++[32]
theorem decS1 {k:Nat} {l:Tx} (h:(bef 35 l).length < (ahdT k).length∨(bef 35 l).take (ahdT k).length≠ahdT k):decT k l=none:=by
 refine jkd fun c r h1 e=>?_;have e1:bef 35 l=ahdT k++(c++64 :: r):=by rw [<- e,show bef 35 (lineT k c r)=textT k c r from jjn (jos (recB_p h1))];simp [textT,ahdT]
 rw [e1] at h;rcases h with h | h
 ·rw [List.length_append] at h;omega
 ·exact h Yby
def rstT (k:Nat) (l:Tx):Tx:=(bef 35 l).drop (ahdT k).length
theorem decS2 {k:Nat} {l:Tx} (h:(bef 64 (rstT k l)).length=(rstT k l).length):decT k l=none:=by
 refine jkd fun c r h1 e=>?_;have e1:bef 35 l=ahdT k++(c++64 :: r):=by rw [<- e,show bef 35 (lineT k c r)=textT k c r from jjn (jos (recB_p h1))];simp [textT,ahdT]
 have e2:rstT k l=c++64 :: r:=by simp [rstT,e1]
 rw [e2,jld (recB_p h1).c64] at h;simp at h
theorem decS3 {k:Nat} {l:Tx}:(recB (bef 64 (rstT k l)) ((rstT k l).drop ((bef 64 (rstT k l)).length+1))=true/\lineT k (bef 64 (rstT k l)) ((rstT k l).drop ((bef 64 (rstT k l)).length+1))=l->decT k l=some (bef 64 (rstT k l),(rstT k l).drop ((bef 64 (rstT k l)).length+1))) /\
  (¬ (recB (bef 64 (rstT k l)) ((rstT k l).drop ((bef 64 (rstT k l)).length+1))=true/\lineT k (bef 64 (rstT k l)) ((rstT k l).drop ((bef 64 (rstT k l)).length+1))=l)->decT k l=none):=by
 refine ⟨fun h=>jme.2 h,fun h=>jkd fun c r h1 e=>h ?_⟩;have e1:bef 35 l=ahdT k++(c++64 :: r):=by rw [<- e,show bef 35 (lineT k c r)=textT k c r from jjn (jos (recB_p h1))];simp [textT,ahdT]
 have e2:rstT k l=c++64 :: r:=by simp [rstT,e1]
 rw [e2,jld (recB_p h1).c64];simp [h1,e]
def stepT (k:Nat) (s:Tx):Option ((Tx×Tx)×Nat):=if 10∈s then (decT k (bef 10 s)).map fun e=>(e,(bef 10 s).length+1) else none
def stepsT:Nat->Nat->Tx->List ((Tx×Tx)×Nat)
 | 0,_,_=>[]
 | f+1,k,s=>match stepT k s with
  | none=>[]
  | some (e,n)=>(e,n) :: stepsT f (k+1) (s.drop n)
def logT (s:Tx):List ((Tx×Tx)×Nat):=stepsT 60 0 s
def recsT (s:Tx):List (Tx×Tx):=(logT s).map Prod.fst
def endsT (s:Tx) (j:Nat):Nat:=(((logT s).take j).map Prod.snd).sum
def numR (s:Tx):Nat:=(logT s).length
def endT (s:Tx):Nat:=endsT s (numR s)
theorem stepT_le {k n:Nat} {s:Tx} {e:Tx×Tx} (h:stepT k s=some (e,n)):1<=n/\n<=s.length:=by
 unfold stepT at h;split at h
 ·rename_i hm;obtain ⟨x,_,hx⟩:=Option.map_eq_some_iff.1 h;simp only [Prod.mk.injEq] at hx;have:=congrArg List.length (jex hm).1;simp at this; omega
 ·cases h
theorem jow:∀ f k s,(stepsT f k s).length<=f
 | 0,_,_=>by simp [stepsT]
 | f+1,k,s=>by
  unfold stepsT; split
  ·simp
  ·simp; exact jow f _ _
theorem stepsT_le:∀ f k s,((stepsT f k s).map Prod.snd).sum<=s.length
 | 0,_,_=>by simp [stepsT]
 | f+1,k,s=>by
  unfold stepsT; split
  ·simp
  ·rename_i e n h;have:=stepsT_le f (k+1) (s.drop n);have:=stepT_le h;simp at *; omega
theorem jix {f k:Nat} {s:Tx} (h:stepT k s=none):stepsT (f+1) k s=[]:=by rw [stepsT,h]
theorem jiw {f k n:Nat} {s:Tx} {e:Tx×Tx} (h:stepT k s=some (e,n)):stepsT (f+1) k s=(e,n) :: stepsT f (k+1) (s.drop n):=by rw [stepsT,h]
theorem jmn:∀ (j f k:Nat) (s:Tx),j<=(stepsT f k s).length->(stepsT f k s).drop j=stepsT (f - j) (k+j) (s.drop (((stepsT f k s).take j).map Prod.snd).sum)
 | 0,f,k,s,_=>by simp
 | j+1,0,k,s,h=>by simp [stepsT] at h
 | j+1,f+1,k,s,h=>by
  cases e2:stepT k s with
  | none=>rw [jix e2] at h;simp at h
  | some en =>
   obtain ⟨e,n⟩:=en;rw [jiw e2] at h ⊢;simp only [List.length_cons] at h;simp only [List.drop_succ_cons,List.take_succ_cons,List.map_cons,List.sum_cons];rw [jmn j f (k+1) (s.drop n) Kf,List.drop_drop,Nat.add_sub_add_right,show k+1+j=k+(j+1) by omega]
theorem jfv (s:Tx):numR s<=60:=jow ..
theorem ends_le (s:Tx) (j:Nat):endsT s j<=s.length:=by
 have h:=stepsT_le 60 0 s;have:endsT s j<=((logT s).map Prod.snd).sum:=by
  unfold endsT;conv=>rhs;rw [<- List.take_append_drop j (logT s),List.map_append,List.sum_append]
  omega
 exact Nat.le_trans this h
theorem jid (s:Tx):endsT s 0=0:=by simp [endsT]
theorem jmc {s:Tx} {j:Nat} (h:j<=numR s):(logT s).drop j=stepsT (60 - j) j (s.drop (endsT s j)):=by
 have:=jmn j 60 0 s h;rwa [Nat.zero_add] at this
theorem jha {s:Tx} {j:Nat} (h:j<=numR s) (hs:stepT j (s.drop (endsT s j))=none):numR s=j:=by
 have e:=jmc h;have:(logT s).drop j=[]:=by
  rw [e]; cases 60 - j with
  | zero=>rfl
  | succ f=>simp [stepsT,hs]
 rw [List.drop_eq_nil_iff] at this;exact Nat.le_antisymm this h
theorem log_go {s:Tx} {j n:Nat} {e:Tx×Tx} (h:j<=numR s) (h6:j < 60) (hs:stepT j (s.drop (endsT s j))=some (e,n)):j < numR s/\(recsT s)[j]? = some e/\endsT s (j+1)=endsT s j+n:=by
 have e1:=jmc h;obtain ⟨f,hf⟩:∃ f,60 - j=f+1:=⟨60 - j - 1,by omega⟩;rw [hf] at e1;simp only [stepsT,hs] at e1;have hlt:j < (logT s).length:=by
  have:=congrArg List.length e1;simp at this;omega
 rw [List.drop_eq_getElem_cons hlt] at e1;have e2:(logT s)[j]=(e,n):=(List.cons.inj e1).1;refine ⟨hlt,by simp [recsT,hlt,e2],?_⟩;unfold endsT;rw [List.take_succ_eq_append_getElem hlt,List.map_append,List.sum_append,e2];simp
theorem jjh {α:Type} {l:List α} {j:Nat} {x:α} (h:l[j]? = some x):l.take (j+1)=l.take j++[x]:=by
 obtain ⟨hlt,rfl⟩:=List.getElem?_eq_some_iff.1 h;exact List.take_succ_eq_append_getElem hlt
theorem step_no {k:Nat} {s:Tx} (h:10 ∉ s):stepT k s=none:=by unfold stepT; rw [if_neg h]
theorem jmp {k:Nat} {s:Tx} (h:decT k (bef 10 s)=none):stepT k s=none:=by unfold stepT; split; rw [h]; rfl; rfl
theorem jmo {k:Nat} {s:Tx} {e:Tx×Tx} (hm:10∈s) (h:decT k (bef 10 s)=some e):stepT k s=some (e,(bef 10 s).length+1):=by unfold stepT; rw [if_pos hm,h]; rfl
theorem bef_appL {b:UInt8}:∀ {x y:Tx},b∈x->bef b (x++y)=bef b x
 | [],_,h=>by cases h
 | z :: x,y,h=>by
  by_cases hz:z=b
  ·simp [bef,hz]
  ·have hr:b∈x:=by rcases List.mem_cons.1 h with e|e;exact absurd e.symm hz;exact e
   simp [bef,hz,bef_appL hr]
theorem step_app {k n:Nat} {x y:Tx} {e:Tx×Tx} (h:stepT k x=some (e,n)):stepT k (x++y)=some (e,n):=by
 unfold stepT at h ⊢;split at h
 ·rename_i hm;rw [if_pos (List.mem_append_left _ hm),bef_appL hm];exact h
 ·cases h
theorem step_back {k n:Nat} {x y:Tx} {e:Tx×Tx} (h:stepT k (x++y)=some (e,n)) (hn:n<=x.length):stepT k x=some (e,n):=by
 unfold stepT at h ⊢;split at h
 ·rename_i hm;have hx:10∈x:=by
   refine Classical.byContradiction fun hx=>?_;obtain ⟨z,_,hz⟩:=Option.map_eq_some_iff.1 h;simp only [Prod.mk.injEq] at hz;have h2:x.length<=(bef 10 (x++y)).length:=by
    have:∀ (x y:Tx),(10:UInt8) ∉ x->x.length<=(bef 10 (x++y)).length:=by
     intro x;induction x with
     | nil=>intro y _;simp
     | cons z x ih =>
      intro y hx;rw [List.mem_cons,not_or] at hx;simp only [List.cons_append,bef,if_neg (Ne.symm hx.1),List.length_cons];have:=ih y hx.2;omega
    exact this x y hx
   omega
  rw [if_pos hx];rwa [bef_appL hx] at h
 ·cases h
theorem log_pre {x y:Tx}:∀ j,j<=numR (x++y)->endsT (x++y) j<=x.length->j<=numR x/\endsT x j=endsT (x++y) j/\(recsT x).take j=(recsT (x++y)).take j
 | 0,_,_=>⟨Nat.zero_le _,by simp [jid],by simp⟩
 | j+1,h,he=>by
  have hlt:j < (logT (x++y)).length:=h;have e1:endsT (x++y) (j+1)=endsT (x++y) j+((logT (x++y))[j]).2:=by
   unfold endsT;rw [List.take_succ_eq_append_getElem hlt,List.map_append,List.sum_append];simp
  obtain ⟨h1,h2,h3⟩:=log_pre (x:=x) (y:=y) j Kf Kf;have h6:j < 60:=by have:=jfv (x++y);omega
  have hst:stepT j ((x++y).drop (endsT (x++y) j))=some (((logT (x++y))[j]).1,((logT (x++y))[j]).2):=by
   have e2:=jmc (s:=x++y) (j:=j) Kf;rw [List.drop_eq_getElem_cons hlt] at e2;obtain ⟨f,hf⟩:∃ f,60 - j=f+1:=⟨60 - j - 1,by omega⟩;rw [hf] at e2;cases hs:stepT j ((x++y).drop (endsT (x++y) j)) with
   | none=>rw [jix hs] at e2;cases e2
   | some en=>rw [jiw hs] at e2;rw [(List.cons.inj e2).1]
  generalize hn:(logT (x++y))[j]=en at *;obtain ⟨e,n⟩:=en;simp only at hst e1;rw [List.drop_append_of_le_length Kf,<- h2] at hst;have hb:=step_back hst (by rw [List.length_drop];omega);obtain ⟨g1,g2,g3⟩:=log_go h1 h6 hb;refine ⟨g1,by omega,?_⟩;have g4:(recsT (x++y))[j]? = some e:=by simp [recsT,hlt,hn]
  rw [jjh g2,jjh g4,h3]
theorem log_ext {x y:Tx}:∀ j,j<=numR x->j<=numR (x++y)/\endsT (x++y) j=endsT x j
 | 0,_=>⟨Nat.zero_le _,by simp [jid]⟩
 | j+1,h=>by
  have hlt:j < (logT x).length:=h;have e1:endsT x (j+1)=endsT x j+((logT x)[j]).2:=by
   unfold endsT;rw [List.take_succ_eq_append_getElem hlt,List.map_append,List.sum_append];simp
  obtain ⟨h1,h2⟩:=log_ext (x:=x) (y:=y) j Kf;have h6:j < 60:=by have:=jfv x;omega
  have hst:stepT j (x.drop (endsT x j))=some (((logT x)[j]).1,((logT x)[j]).2):=by
   have e2:=jmc (s:=x) (j:=j) Kf;rw [List.drop_eq_getElem_cons hlt] at e2;obtain ⟨f,hf⟩:∃ f,60 - j=f+1:=⟨60 - j - 1,by omega⟩;rw [hf] at e2;cases hs:stepT j (x.drop (endsT x j)) with
   | none=>rw [jix hs] at e2;cases e2
   | some en=>rw [jiw hs] at e2;rw [(List.cons.inj e2).1]
  have hst2:=step_app (y:=y) hst;rw [<- List.drop_append_of_le_length (ends_le x j),<- h2] at hst2;obtain ⟨g1,g2,g3⟩:=log_go h1 h6 hst2;exact ⟨g1,by omega⟩
theorem part_valid {x y:Tx} (h:endT (x++y)=(x++y).length):((List.range (numR (x++y)+1)).any fun j=>endsT (x++y) j == x.length)=decide (endT x=x.length):=by
 rw [Bool.eq_iff_iff,decide_eq_true_eq,List.any_eq_true];constructor
 ·rintro ⟨j,hj,he⟩;rw [List.mem_range] at hj;have he:endsT (x++y) j=x.length:=by simpa using he
  obtain ⟨g1,g2,-⟩:=log_pre (x:=x) (y:=y) j Kf Kf;have hle:endsT x j<=endT x:=by
   unfold endT endsT;have e2:(logT x).take (numR x)=(logT x).take j++((logT x).take (numR x)).drop j:=by
    conv=>lhs;rw [<- List.take_append_drop j ((logT x).take (numR x)),List.take_take,Nat.min_eq_left g1]
   rw [e2,List.map_append,List.sum_append];omega
  have:=ends_le x (numR x);unfold endT at hle ⊢;omega
 ·intro he;obtain ⟨g1,g2⟩:=log_ext (y:=y) (numR x) (Nat.le_refl _);refine ⟨numR x,List.mem_range.2 Kf,?_⟩;rw [g2];simpa [endT] using he
def validB (d p:Tx) (c:Int):Bool:=decide ((d.length:Int)+p.length<=30000)&&(decide (endT (d++p)=(d++p).length)&&(decide (endT d=d.length)&&decide (c=numR (d++p))))
structure ValidP (d p : Tx) (c : Int) : Prop where
 len:d.length+p.length<=30000
 all:endT (d++p)=(d++p).length
 dur:endT d=d.length
 cnt:c=numR (d++p)
theorem validB_p {d p:Tx} {c:Int} (h:validB d p c=true):ValidP d p c:=by
 unfold validB at h;simp only [Bool.and_eq_true,decide_eq_true_eq] at h;exact ⟨by omega,h.2.1,h.2.2.1,h.2.2.2⟩
end
section
variable [Glb]
open Go Go.RowKit
abbrev dT (l:Tx):D:=.lit (.string (bsT l))
abbrev eT (l:List Tx):D:=.sl 1 l.length (l.map dT)
def byt (l:Tx) (j:Int):Int:=((l.getD j.toNat 0).toNat:Int)
theorem byt_lt (l:Tx) (j:Int):0<=byt l j/\byt l j<=255:=by
 have:=UInt8.toNat_lt (l.getD j.toNat 0);unfold byt;omega
theorem jij {α:Type} (l:List α) (i j:Int):(partZ l i j).length<=l.length:=by simp [partZ]; omega
theorem jdb {α:Type} (l:List α) (i j:Int):(partZ l i j).length=min (j.toNat - i.toNat) (l.length - i.toNat):=by simp [partZ]
theorem jph {α:Type} (l:List α) (i:Int):(partZ l i (l.length:Int)).length=l.length - i.toNat:=by simp [partZ]
theorem addP {a l:Tx} {i j:Int} (h:(a.length:Int)+l.length<=9223372036854775807):(a.length:Int)+(partZ l i j).length<=9223372036854775807:=by have:=jij l i j; omega
theorem jfw {l:Tx} {k:Nat} (h:k < l.length):byt l (k:Int)=(l[k].toNat:Int):=by simp [byt,h]
section
variable {P:Program} {st:St} {dst:Option Tmp} {ty:TypeId} {pos:String} {af:Array Edge} {T T':TypeId} {x y lo hi:Operand}
theorem FitT {l:Tx} (h:Fit (dT l)):l.length<=9223372036854775807:=by have:=h.str; rwa [jeb] at this
theorem jcl {l:Tx} (hx:st.ev x = .c (.d (dT l))) (ht:tStr P T=true):Qt P ⟨dst,.call { callee:=.builtin .len,args := #[x],argTypes := #[T] },ty,pos,af,none⟩ st (.c (.d (.lit (.int .i64 l.length)))):=by
 have:=qt_len_str (dst:=dst) (ty:=ty) (pos:=pos) (af:=af) hx ht;rwa [jeb] at this
theorem jdj {l:Tx} {k:IntKind} {j:Int} (hx:st.ev x = .c (.d (dT l))) (hy:st.ev y = .c (.d (.lit (.int k j)))) (ht:tStr P T=true) (h0:0<=j) (h1:j < l.length) :
  Qt P ⟨dst,.index T x y,ty,pos,af,none⟩ st (.c (.d (.lit (.int .u8 (byt l j))))):=by
 have:=qt_index_str (dst:=dst) (ty:=ty) (pos:=pos) (af:=af) hx hy ht h0 (by rw [jeb];exact h1);have e:(bsT l).get! j.toNat=l.getD j.toNat 0:=by
  have hl:j.toNat < l.length:=by omega
  show (bsT l).data[j.toNat]! = _;simp [bsT,hl]
 rwa [e] at this
theorem jgr {l:Tx} {kl kh:IntKind} {i j:Int} (hx:st.ev x = .c (.d (dT l))) (hl:st.ev lo = .c (.d (.lit (.int kl i)))) (hh:st.ev hi = .c (.d (.lit (.int kh j)))) (ht:tStr P T=true) (h0:0<=i) (h1:i<=j) (h2:j<=l.length) :
  Qt P ⟨dst,.slice T x (some lo) (some hi) none,ty,pos,af,none⟩ st (.c (.d (dT (partZ l i j)))):=by
 have:=jok (dst:=dst) (ty:=ty) (pos:=pos) (af:=af) hx hl hh ht h0 h1 (by rw [jeb];exact h2);unfold partZ;rwa [jjf,List.drop_take] at this
theorem jda {l:Tx} {kl:IntKind} {i:Int} (hx:st.ev x = .c (.d (dT l))) (hl:st.ev lo = .c (.d (.lit (.int kl i)))) (ht:tStr P T=true) (h0:0<=i) (h1:i<=l.length) :
  Qt P ⟨dst,.slice T x (some lo) none none,ty,pos,af,none⟩ st (.c (.d (dT (partZ l i l.length)))):=by
 have:=jol (dst:=dst) (ty:=ty) (pos:=pos) (af:=af) hx hl ht h0 (by rw [jeb];exact h1);unfold partZ;rw [jjf,jeb,List.drop_take] at this;exact this
theorem jfu {l:Tx} {kh:IntKind} {j:Int} (hx:st.ev x = .c (.d (dT l))) (hh:st.ev hi = .c (.d (.lit (.int kh j)))) (ht:tStr P T=true) (h0:0<=j) (h2:j<=l.length) :
  Qt P ⟨dst,.slice T x none (some hi) none,ty,pos,af,none⟩ st (.c (.d (dT (partZ l 0 j)))):=by
 have:=jom (dst:=dst) (ty:=ty) (pos:=pos) (af:=af) hx hh ht h0 (by rw [jeb];exact h2);unfold partZ;rwa [jjf,List.drop_take] at this
theorem jdm {a b:Tx} (hx:st.ev x = .c (.d (dT a))) (hy:st.ev y = .c (.d (dT b))) (h:(a.length:Int)+b.length<=9223372036854775807):Qt P ⟨dst,.binOp .add T x y T',ty,pos,af,none⟩ st (.c (.d (dT (a++b)))):=by
 have:=qt_addS (P:=P) (T:=T) (T':=T') (dst:=dst) (ty:=ty) (pos:=pos) (af:=af) hx hy (by rw [jeb,jeb];omega);rwa [bsT_append] at this
theorem jcf {a b:Tx} (hx:st.ev x = .c (.d (dT a))) (hy:st.ev y = .c (.d (dT b))):Qt P ⟨dst,.binOp .eql T x y T',ty,pos,af,none⟩ st (.c (.d (.lit (.bool (decide (a=b)))))):=by
 have:=qt_eqlS (P:=P) (T:=T) (T':=T') (dst:=dst) (ty:=ty) (pos:=pos) (af:=af) hx hy;rwa [decide_eq_decide.2 bsT_inj] at this
theorem jem {a b:Tx} (hx:st.ev x = .c (.d (dT a))) (hy:st.ev y = .c (.d (dT b))):Qt P ⟨dst,.binOp .neq T x y T',ty,pos,af,none⟩ st (.c (.d (.lit (.bool (decide (a≠b)))))):=by
 have:=qt_neqS (P:=P) (T:=T) (T':=T') (dst:=dst) (ty:=ty) (pos:=pos) (af:=af) hx hy;rwa [decide_eq_decide.2 (not_congr bsT_inj)] at this
theorem jhy {a:Tx} (hx:st.ev x = .c (.d (dT a))) (hy:st.ev y = .c (.d (dT a))):Qt P ⟨dst,.binOp .neq T x y T',ty,pos,af,none⟩ st (.c (.d (.lit (.bool false)))):=by
 have:=jem (P:=P) (T:=T) (T':=T') (dst:=dst) (ty:=ty) (pos:=pos) (af:=af) hx hy;rwa [show decide (a≠a)=false by simp] at this
theorem jdl {l:List Tx} {k:IntKind} {i:Int} (hx:st.ev x = .c (.d (eT l))) (hy:st.ev y = .c (.d (.lit (.int k i)))) (ht:tSl P T 1=true) (h0:0<=i) (h1:i < l.length):Qt P ⟨dst,.indexAddr T x y,ty,pos,af,none⟩ st (.c (.d (.pt [dT (atZ l i)]))) :=
 jna hx hy ht h0 h1 (map_at (jis h0 h1))
abbrev dY (b:UInt8):D:=.lit (.int .u8 b.toNat)
abbrev cY (l:Tx):List D:=l.map dY
def tByt (P:Program) (S T:TypeId):Bool:=(match P.underlying S with | some (.slice E)=>(match P.underlying E with | some (.int .u8)=>true | _=>false) | _=>false)&&tStr P T
theorem tByt_spec {S T:TypeId} (h:tByt P S T=true):∃ E,P.underlying S=some (.slice E)/\P.underlying E=some (.int .u8)/\P.underlying T=some .string:=by
 unfold tByt tStr at h;rw [Bool.and_eq_true] at h;obtain ⟨h1,h2⟩:=h;have h3:P.underlying T=some .string:=by
  cases hT:P.underlying T with
  | none=>simp [hT] at h2
  | some d=>cases d <;> simp [hT] at h2;rfl
 cases hS:P.underlying S with
 | none=>simp [hS] at h1
 | some d =>
  cases d with
  | slice E =>
   simp only [hS] at h1;cases hE:P.underlying E with
   | none=>simp [hE] at h1
   | some d2 =>
    cases d2 with
    | int k=>cases k <;> simp [hE] at h1;exact ⟨E,rfl,hE,h3⟩
    | _=>simp [hE] at h1
  | _=>simp [hS] at h1
theorem so_convBT {ops:Array Oper} {mu:Nat->Bool} {r:OT} {K:St->Prop} {i:Nat} {S T:TypeId} {b:Nat} {l:Tx} {n d:Nat} (hx:st.ev x = .c (.ls b 1 0 n)) (hb:st.bl b=some (.row 1 (cY l))) (hn:n=l.length) (ht:tByt P S T=true) (hd:Nat.blt d st.n=true) (h:SO P ops mu r (st.put d (.c (.d (dT l)))) K) :
  SO P ops mu (.cons (some ⟨some d,.convert S T x,ty,pos,af,none⟩,i,false) r) st K:=by
 obtain ⟨E,hS,hE,hT⟩:=tByt_spec ht;refine so_a fun w0 a w hs next Q hnx=>?_;obtain ⟨ρ,Φ,hm⟩:=hs;have h1:=hm.ev x;rw [hx] at h1;subst hn;have fin:l.length<=9223372036854775807->(convert S T (a.eval x)).run P w = .ok (.string (bsT l)) w->(⟨some d,.convert S T x,ty,pos,af,none⟩:Oper).wp P a w next Q:=fun hle hrun=>by
  have hsc:sc (.string (bsT l))=true:=by simp only [sc,jeb,decide_eq_true_eq];exact hle
  exact jir (w':=w) (v:=.string (bsT l)) (by simp [execOp,hrun]) (hnx _ _ (fun _=>jen.refl _) ⟨_,⟨ρ,Φ,hm.put (.litI hsc) d (by simpa using hd)⟩,h⟩)
 rcases jgb h1.c_inv with ⟨h0,hv,_,hl⟩|⟨g,cap,cs,E',hρ,hv,hnc,hle,hg',hcap⟩
 ·have:l=[]:=List.length_eq_zero_iff.1 hl;subst this;refine fin Yby ?_;rw [hv,Go.run_convert_bytes_nil w S E hS hE 0 0 T hT];rfl
 ·refine fin (Nat.le_trans hnc hle) ?_;rcases hm.rowN hb with ⟨h1,_⟩|⟨g',us,E2,vs,Fs,hρ',_,hz,hg,hlen,hcc,hr⟩
  ·rw [hρ] at h1; cases h1
  ·rw [hρ] at hρ';cases hρ';have hcell:∀ j (hj:j < l.length),w.cell? ((⟨g,0,none⟩:Addr).add j)=some (.int .u8 (l[j].toNat:Int)):=fun j hj=>by
    have hj':j < (cY l).length:=by simpa using hj
    have ho:=hr j hj';rw [List.getElem_map] at ho;have hvs:vs j = .int .u8 (l[j].toNat:Int):=by
     generalize Fs j=F at ho;generalize vs j=u at ho;cases ho with|lit _ h=>rfl
    have h1:w.cell? ⟨g,0+j,none⟩=some (.int .u8 (l[j].toNat:Int)):=by rw [Nat.zero_add,cell_of_row w g j us E2 (0,0) hg,hcc j hj',hvs]
    rw [jgu];exact h1
   rw [hv];exact Go.run_convert_bytes_back (P:=P) w S T E ⟨g,0,none⟩ cap l hS hE hT hcell
theorem so_convB1 {ops:Array Oper} {mu:Nat->Bool} {r:OT} {K:St->Prop} {i:Nat} {S T:TypeId} {b d:Nat} {m:Int} (hx:st.ev x = .c (.ls b 1 0 1)) (hb:st.bl b=some (.row 1 [.lit (.int .u8 m)])) (h0:0<=m) (h1:m < 256) (ht:tByt P S T=true) (hd:Nat.blt d st.n=true) (h:SO P ops mu r (st.put d (.c (.d (dT [UInt8.ofNat m.toNat])))) K) :
  SO P ops mu (.cons (some ⟨some d,.convert S T x,ty,pos,af,none⟩,i,false) r) st K:=by
 refine so_convBT (l:=[UInt8.ofNat m.toNat]) hx ?_ rfl ht hd h;rw [hb];have:((UInt8.ofNat m.toNat).toNat:Int)=m:=by rw [UInt8.toNat_ofNat']; omega
 show _=some (Blk.row 1 [D.lit (.int .u8 ((UInt8.ofNat m.toNat).toNat:Int))]);rw [this]
theorem split0 (b:UInt8) (s:Tx):atZ (splitT b s) 0=bef b s:=by
 obtain ⟨t,e⟩:=jey b s;rw [e]; rfl
theorem split_pos (b:UInt8) (s:Tx):(0:Int) < (splitT b s).length:=by
 obtain ⟨t,e⟩:=jey b s;rw [e]; simp
theorem jkq {l:Tx} {b:UInt8} {k:IntKind} (hx:st.ev x = .c (.d (eT (splitT b l)))) (hy:st.ev y = .c (.d (.lit (.int k 0)))) (ht:tSl P T 1=true):Qt P ⟨dst,.indexAddr T x y,ty,pos,af,none⟩ st (.c (.d (.pt [dT (bef b l)]))):=by
 have:=jdl (dst:=dst) (ty:=ty) (pos:=pos) (af:=af) hx hy ht Kf (split_pos b l);rwa [split0] at this
end
theorem exT (s:ByteArray):∃ l:Tx,s=bsT l:=⟨_,(bsT_data s).symm⟩
theorem VwP.lit_inv {w:World} {v u:Value} (h:VwP w v (.c (.lit u))):v=u:=by
 cases h with|c _ _ F h=>cases h;rfl
theorem VwL.one {w:World} {vs:List Value} {a:RP} (h:VwL w vs [a]):∃ v,vs=[v]/\VwP w v a:=by
 obtain ⟨hl,hr⟩:=h;match vs,hl with
 | [v],_=>exact ⟨v,rfl,by simpa using hr 0 Yby⟩
theorem VwL.two {w:World} {vs:List Value} {a b:RP} (h:VwL w vs [a,b]):∃ u v,vs=[u,v]/\VwP w u a/\VwP w v b:=by
 obtain ⟨hl,hr⟩:=h;match vs,hl with
 | [u,v],_=>exact ⟨u,v,rfl,by simpa using hr 0 Yby,by simpa using hr 1 Yby⟩
theorem pc_lit2 {P:Program} {f:FuncId} {a b u:Value} (he:∀ (args:Array Value) (W:World),(callFunc f args).run P W = .ok (.enter f args) W) (hu:sc u=true)
  (h:∀ w,Glb.ok w->Calls P f #[a,b] w fun e w'=>e = .returned u/\Below w.heap.size w w'):PC P f [.c (.lit a),.c (.lit b)] (.p (.c (.lit u))):=by
 refine ⟨he,fun w vs ok hv=>?_⟩;obtain ⟨x,y,rfl,h1,h2⟩:=hv.two;rw [h1.lit_inv,h2.lit_inv];refine (h w ok).mono ?_;rintro e w' ⟨rfl,hb⟩;exact ⟨u,[],rfl,.p (.c (.lit _ hu)),List.nodup_nil,(fun g hg=>by cases hg),hb⟩
theorem pc_lit1 {P:Program} {f:FuncId} {a u:Value} (he:∀ (args:Array Value) (W:World),(callFunc f args).run P W = .ok (.enter f args) W) (hu:sc u=true)
  (h:∀ w,Glb.ok w->Calls P f #[a] w fun e w'=>e = .returned u/\Below w.heap.size w w'):PC P f [.c (.lit a)] (.p (.c (.lit u))):=by
 refine ⟨he,fun w vs ok hv=>?_⟩;obtain ⟨x,rfl,h1⟩:=hv.one;rw [h1.lit_inv];refine (h w ok).mono ?_;rintro e w' ⟨rfl,hb⟩;exact ⟨u,[],rfl,.p (.c (.lit _ hu)),List.nodup_nil,(fun g hg=>by cases hg),hb⟩
class GTab (P : Program) (nm : String) : Prop where
 tab:∀ w:World,Glb.ok w->Go.Lib.TabIs P w nm .u64 Go.Lib.pow10Tab
def recD (l:List (Tx×Tx)):List D:=l.flatMap fun e=>[dT e.1,dT e.2]
@[simp] theorem recD_len (l : List (Tx × Tx)) : (recD l).length = l.length * 2 := by
 induction l with
 | nil=>rfl
 | cons x r ih=>simp [recD] at ih ⊢;omega
theorem recD_snoc (l:List (Tx×Tx)) (c r:Tx):recD (l++[(c,r)])=recD l++[dT c,dT r]:=by simp [recD]
abbrev eR (l:List (Tx×Tx)):D:=.sl 2 l.length (recD l)
def endsL (s:Tx) (j:Nat):List Int:=(List.range (j+1)).map fun i=>(endsT s i:Int)
@[simp] theorem endsL_len (s : Tx) (j : Nat) : (endsL s j).length = j + 1 := by simp [endsL]
theorem endsL_zero (s:Tx):endsL s 0=[0]:=by simp [endsL,endsT]
theorem endsL_snoc (s:Tx) (j:Nat):endsL s (j+1)=endsL s j++[(endsT s (j+1):Int)]:=by simp [endsL,List.range_succ]
theorem recs_snoc {s:Tx} {j:Nat} {c r:Tx} (h:(recsT s)[j]? = some (c,r)):recD ((recsT s).take (j+1))=recD ((recsT s).take j)++[dT c,dT r]:=by
 rw [jjh h,recD_snoc]
theorem jei (s:Tx):(recsT s).length=numR s:=by simp [recsT,numR]
theorem valid_iff {d p:Tx} {c:Int} (h:(d.length:Int)+p.length<=30000):validB d p c=true↔((endT (d++p):Int)=d.length+p.length/\(endT d:Int)=d.length/\c=((recsT (d++p)).length:Int)):=by
 unfold validB;rw [jei];simp only [Bool.and_eq_true,decide_eq_true_eq,List.length_append];constructor
 ·rintro ⟨_,a,b,e⟩;exact ⟨by omega,by omega,e⟩
 ·rintro ⟨a,b,e⟩;exact ⟨h,by omega,by omega,e⟩
theorem joq {d p:Tx} {c:Int} (h:¬ (d.length:Int)+p.length<=30000):validB d p c=false:=by
 unfold validB;rw [decide_eq_false h];rfl
theorem endsL_at (s:Tx):atZ (endsL s (numR s)) ((recsT s).length:Int)=endT s:=by
 rw [jei,jby Yby];simp [endsL,endT]
theorem endsL_has (s:Tx) (n:Nat):(endsL s (numR s)).contains (n:Int)=(List.range (numR s+1)).any fun j=>endsT s j == n:=by
 rw [Bool.eq_iff_iff,List.contains_iff_mem,List.any_eq_true];unfold endsL;rw [List.mem_map];constructor
 ·rintro ⟨j,hj,e⟩;exact ⟨j,hj,by simp;omega⟩
 ·rintro ⟨j,hj,e⟩;exact ⟨j,hj,by simp at e;omega⟩
theorem dB_eq {a b:Bool} (h:a=b):Res.p (RP.c (D.lit (Value.bool a)))=Res.p (RP.c (D.lit (Value.bool b))):=by rw [h]
def mtT (k:Nat):Tx:=109 :: numT k
theorem mtT_len {k:Nat} (h:k < 10^13):(mtT k).length<=14:=by have:=jgi 12 k h; simp [mtT]; omega
def mkR:Nat->Nat->List (Tx×Tx)
 | _,0=>[]
 | k,n+1=>(mtT k,mtT (k+1)) :: mkR (k+2) n
@[simp] theorem mkR_len : ∀ (k n : Nat), (mkR k n).length = n
 | _,0=>rfl
 | k,n+1=>by simp [mkR,mkR_len]
def tailT (k:Nat):Nat->Tx
 | 0 => []
 | j+1=>UInt8.ofNat (48+k / 10^j%10) :: tailT k j
theorem pow_next (k j:Nat):k / 10^(j+1)=k / 10^j / 10:=by rw [Nat.pow_succ,Nat.div_div_eq_div_mul]
theorem tail_num (k:Nat):∀ (j:Nat),k / 10^j≠0->numT k=numT (k / 10^j)++tailT k j
 | 0,_=>by simp [tailT]
 | j+1,h=>by
  rw [pow_next] at h ⊢;have ih:=tail_num k j;unfold tailT;generalize k / 10^j=m at *;rw [ih Kf,jgz m,if_neg Kf,List.append_assoc];rfl
theorem tail_all {k j:Nat} (h:k / 10^(j+1)=0) (h2:k / 10^j≠0):tailT k (j+1)=numT k:=by
 have ih:=tail_num k j h2;rw [pow_next] at h;unfold tailT;generalize k / 10^j=m at *;rw [ih,jgz m,if_pos Kf,Nat.mod_eq_of_lt Kf];rfl
theorem tail_len (k:Nat):∀ j,(tailT k j).length=j
 | 0 => rfl
 | j+1=>by simp [tailT,tail_len]
section
variable {P:Program} {st:St} {dst:Option Tmp} {ty:TypeId} {pos:String} {af:Array Edge} {T:TypeId} {x y:Operand}
theorem recD_cut {l:List (Tx×Tx)} {j:Nat} {e:Tx×Tx} (h:l[j]? = some e):((recD l).drop (j*2)).take 2=[dT e.1,dT e.2]:=by
 obtain ⟨hlt,rfl⟩:=List.getElem?_eq_some_iff.1 h;have e1:recD l=recD (l.take j)++(dT l[j].1 :: dT l[j].2 :: recD (l.drop (j+1))):=by
  conv=>lhs;rw [<- List.take_append_drop j l,List.drop_eq_getElem_cons hlt]
  simp only [recD,List.flatMap_append,List.flatMap_cons,List.cons_append,List.nil_append]
 have hl:(recD (l.take j)).length=j*2:=by rw [recD_len,List.length_take];omega
 rw [e1,<- hl,List.drop_left];rfl
theorem jkp {l:List (Tx×Tx)} {k:IntKind} {i:Int} (hx:st.ev x = .c (.d (eR l))) (hy:st.ev y = .c (.d (.lit (.int k i)))) (ht:tSl P T 2=true) (h0:0<=i) (h1:i < l.length):Qt P ⟨dst,.indexAddr T x y,ty,pos,af,none⟩ st (.c (.d (.pt [dT (atZ l i).1,dT (atZ l i).2]))) :=
 jna hx hy ht h0 h1 (recD_cut (jis h0 h1))
end
section
variable {P:Program} {st:St} {dst:Option Tmp} {ty:TypeId} {pos:String} {af:Array Edge} {T:TypeId} {x y:Operand}
end
inductive BC where
 | k (x : D)
 | o (x : D)
def BC.own:BC->List D
 | .k _=>[]
 | .o x=>[x]
def ownsB:List BC->List D
 | [] => []
 | .k _ :: r=>ownsB r
 | .o x :: r=>x :: ownsB r
inductive AM where
 | v (p:RP)
 | o (p:RP)
def ownsA:List AM->List D
 | [] => []
 | .v _ :: r=>ownsA r
 | .o p :: r=>p.cells++ownsA r
inductive BcW (w : World) (X : List Nat) : List Value -> List BC -> List Nat -> Prop
 | nil:BcW w X [] [] []
 | k {u:Value} {x:D} {us:List Value} {bs:List BC} {G:List Nat} (h:VwX w X u x) (t:BcW w X us bs G):BcW w X (u :: us) (.k x :: bs) G
 | o {u:Value} {x:D} {F:List Nat} {us:List Value} {bs:List BC} {G:List Nat} (h:Ow w u x F) (t:BcW w X us bs G):BcW w X (u :: us) (.o x :: bs) (F++G)
inductive AmW (w : World) (X : List Nat) : List Value -> List AM -> List Nat -> Prop
 | nil:AmW w X [] [] []
 | v {u:Value} {p:RP} {us:List Value} {as:List AM} {G:List Nat} (h:VxP w X u p) (t:AmW w X us as G):AmW w X (u :: us) (.v p :: as) G
 | o {u:Value} {p:RP} {F:List Nat} {us:List Value} {as:List AM} {G:List Nat} (h:OwP w u p F) (t:AmW w X us as G):AmW w X (u :: us) (.o p :: as) (F++G)
inductive BcN (w : World) : List Value -> List Value -> List BC -> List D -> List Nat -> Prop
 | nil:BcN w [] [] [] [] []
 | k {u:Value} {x:D} {us us':List Value} {bs:List BC} {ds:List D} {G:List Nat} (t:BcN w us us' bs ds G):BcN w (u :: us) (u :: us') (.k x :: bs) ds G
 | o {u u':Value} {x y:D} {F:List Nat} {us us':List Value} {bs:List BC} {ds:List D} {G:List Nat} (h:Ow w u' y F) (t:BcN w us us' bs ds G):BcN w (u :: us) (u' :: us') (.o x :: bs) (y :: ds) (F++G)
def PX (P:Program) (f:FuncId) (bs:List BC) (as:List AM) (R:List D->Res->Prop):Prop :=
 (∀ (args:Array Value) (W:World),(callFunc f args).run P W = .ok (.enter f args) W) /\
 ∀ (w : World) (g : Nat) (us : Array Value) (E : TypeId) (vs : List Value) (Fb Fa : List Nat), w.heap[g]? = some (.cells us E (0, 0)) ->
  BcW w (g :: (Fb++Fa)) us.toList bs Fb->AmW w (g :: (Fb++Fa)) vs as Fa->(g :: (Fb++Fa)).Nodup->(ok:Glb.ok w)->(gl:∀ h,Glb.bl h->h ∉ g :: (Fb++Fa)) ->
  Calls P f (.pointer (some ⟨g, 0, none⟩) :: vs).toArray w fun e w' => ∃ v us' E' ds res Gb F, R ds res /\ e = .returned v /\ w'.heap[g]? = some (.cells us' E' (0, 0)) /\ BcN w' us.toList us'.toList bs ds Gb /\ OwR w' v res F /\
   (g :: (Gb++F)).Nodup/\(∀ h∈Gb++F,h∈Fb++Fa∨w.heap.size<=h)/\Kp ⟨w,fun h=>h∈g :: (Fb++Fa),fun _=>none,fun _ _=>rfl,ok,gl⟩ w w'
theorem jgy:∀ (id:Nat) (xs ys:List D),ownCs id (xs++ys)=ownCs id xs++ownCs (id+1000*xs.length) ys
 | id,[],ys=>by simp [ownCs]
 | id,x :: xs,ys=>by
  simp only [List.cons_append,ownCs,List.length_cons];rw [jgy (id+1000) xs ys,show id+1000+1000*xs.length=id+1000*(xs.length+1) by omega]
def bcCs (kv:Nat->Value):Nat->List BC->List C->List C
 | j,.k x :: bs,cs => .d (.same (kv j) x) :: bcCs kv (j+1) bs cs
 | j,.o _ :: bs,c :: cs=>c :: bcCs kv (j+1) bs cs
 | _,_,_=>[]
def enterP:RP->FV
 | .c x => .c (.d x)
 | .g xs => .g (xs.map C.d)
def amFV:List AM->List C->Nat->FV
 | [],_,_ => .c .junk
 | .v p :: _,_,0=>enterP p
 | .o p :: _,cs,0=>p.shape cs
 | .v _ :: r,cs,t+1=>amFV r cs t
 | .o p :: r,cs,t+1=>amFV r (cs.drop p.cells.length) t
def St.enterX (n:Nat) (bs:List BC) (kv:Nat->Value) (as:List AM):St :=
 ⟨n, fun t => match t with | 0 => .c (.lp 800000000 0) | t + 1 => amFV as (ownCs (1000000 + 1000 * (ownsB bs).length) (ownsA as)) t,
  fun b=>bif Nat.beq b 800000000 then some (.box (bcCs kv 0 bs (ownCs 1000000 (ownsB bs)))) else getL (ownBs 1000000 (ownsB bs++ownsA as)) b⟩
inductive BxO (st : St) (kv : Nat -> Value) : Nat -> List C -> List BC -> List D -> List Nat -> Prop
 | nil (j:Nat):BxO st kv j [] [] [] []
 | k {j:Nat} {x y:D} {cs:List C} {bs:List BC} {ds:List D} {S:List Nat} (t:BxO st kv (j+1) cs bs ds S):BxO st kv j (.d (.same (kv j) x) :: cs) (.k y :: bs) ds S
 | o {j:Nat} {c:C} {x y:D} {S:List Nat} {cs:List C} {bs:List BC} {ds:List D} {S':List Nat} (h:Gv st c y S) (t:BxO st kv (j+1) cs bs ds S'):BxO st kv j (c :: cs) (.o x :: bs) (y :: ds) (S++S')
inductive RetX (P : Program) (vs : List ResultVar) (kv : Nat -> Value) (bs : List BC) : List D -> Res -> St -> Prop
 | p {st:St} {cs:List C} {ds:List D} {S:List Nat} {y:RP} {S':List Nat} (hb:st.bl 800000000=some (.box cs)) (hx:BxO st kv 0 cs bs ds S) (h:GvA P st vs [y] S') (hS:(S++S').Nodup):RetX P vs kv bs ds (.p y) st
 | t {st:St} {cs:List C} {ds:List D} {S:List Nat} {ys:List RP} {S':List Nat} (hb:st.bl 800000000=some (.box cs)) (hx:BxO st kv 0 cs bs ds S) (h:GvA P st vs ys S') (hl:(ys.length != 1)=true) (hS:(S++S').Nodup):RetX P vs kv bs ds (.t ys) st
theorem BcW.cr {w:World} {X:List Nat} {us:List Value} {bs:List BC} {G:List Nat} (h:BcW w X us bs G):∃ uo,OwL w uo (ownsB bs) G /\ ∀ (ρ:Nat->Option Nat) (Ψ:Nat->Prop) (cs:List C),(∀ g,Ψ g->g∈X)->cs.length=uo.length ->
  (∀ k (hk:k < cs.length),CR w ρ Ψ (uo.getD k undef) cs[k]) -> ∀ (kv:Nat->Value) (j:Nat),(∀ i,i < us.length->kv (j+i)=us.getD i undef)->(bcCs kv j bs cs).length=us.length /\ ∀ k (hk:k < (bcCs kv j bs cs).length),CR w ρ Ψ (us.getD k undef) (bcCs kv j bs cs)[k]:=by
 induction h with
 | nil=>exact ⟨[],.nil,fun ρ Ψ cs _ _ _ kv j _=>⟨rfl,fun k hk=>by simp [bcCs] at hk⟩⟩
 | k h t ih =>
  rename_i u x us bs G;obtain ⟨uo,h1,h2⟩:=ih;refine ⟨uo,h1,fun ρ Ψ cs hX hl hc kv j hkv=>?_⟩;obtain ⟨e1,e2⟩:=h2 ρ Ψ cs hX hl hc kv (j+1) (fun i hi=>by have:=hkv (i+1) (by simpa using hi);rw [show j+1+i=j+(i+1) by omega,this];simp);refine ⟨by simp [bcCs,e1],fun k hk=>?_⟩;cases k with
  | zero =>
   obtain ⟨F,hF,hn⟩:=h;have:=hkv 0 Yby
   simp only [Nat.add_zero,List.getD_cons_zero] at this;simp only [bcCs,List.getElem_cons_zero,List.getD_cons_zero];rw [this];exact .d _ _ F (.same _ _ _ hF) fun b hb hi=>hn b hb (hX b hi)
  | succ k =>
   have:=e2 k (by simpa [bcCs] using hk);simpa [bcCs] using this
 | o h t ih =>
  rename_i u x F us bs G;obtain ⟨uo,h1,h2⟩:=ih;refine ⟨u :: uo,.cons h h1,fun ρ Ψ cs hX hl hc kv j hkv=>?_⟩;cases cs with
  | nil=>simp at hl
  | cons c cs =>
   obtain ⟨e1,e2⟩:=h2 ρ Ψ cs hX (by simpa using hl) (fun k hk=>by have:=hc (k+1) (by simpa using hk);simpa using this) kv (j+1) (fun i hi=>by have:=hkv (i+1) (by simpa using hi);rw [show j+1+i=j+(i+1) by omega,this];simp);refine ⟨by simp [bcCs,e1],fun k hk=>?_⟩;cases k with
   | zero=>exact hc 0 Yby
   | succ k =>
    have:=e2 k (by simpa [bcCs] using hk);simpa [bcCs] using this
theorem VxP.frE {w:World} {ρ:Nat->Option Nat} {Ψ:Nat->Prop} {X:List Nat} (hX:∀ g,Ψ g->g∈X) {v:Value} {p:RP} (h:VxP w X v p):FR w ρ Ψ v (enterP p):=by
 cases h with
 | c h=>obtain ⟨F,h1,h2⟩:=h;exact .c _ _ (.d _ _ F h1 fun b hb hi=>h2 b hb (hX b hi))
 | g hl hr =>
  refine .g _ _ (by simpa using hl) fun k hk=>?_;obtain ⟨F,h1,h2⟩:=hr k (by simpa using hk);simp only [List.getElem_map];exact .d _ _ F h1 fun b hb hi=>h2 b hb (hX b hi)
theorem AmW.fr {w:World} {X:List Nat} {vs:List Value} {as:List AM} {G:List Nat} (h:AmW w X vs as G):∃ ua,OwL w ua (ownsA as) G /\ ∀ (ρ:Nat->Option Nat) (Ψ:Nat->Prop) (cs:List C),(∀ g,Ψ g->g∈X)->cs.length=ua.length ->
  (∀ k (hk:k < cs.length),CR w ρ Ψ (ua.getD k undef) cs[k]) -> ∀ t,FR w ρ Ψ (vs.getD t undef) (amFV as cs t):=by
 induction h with
 | nil=>exact ⟨[],.nil,fun ρ Ψ cs _ _ _ t=>FR.junkI _⟩
 | v h t ih =>
  rename_i u p us as G;obtain ⟨ua,h1,h2⟩:=ih;refine ⟨ua,h1,fun ρ Ψ cs hX hl hc t=>?_⟩;cases t with
  | zero=>exact h.frE hX
  | succ t=>have:=h2 ρ Ψ cs hX hl hc t;simpa [amFV] using this
 | o h t ih =>
  rename_i u p F us as G;obtain ⟨ua,h1,h2⟩:=ih;obtain ⟨up,g1,g2⟩:=h.open;have hlp:=g1.len;refine ⟨up++ua,g1.append h1,fun ρ Ψ cs hX hl hc t=>?_⟩;rw [List.length_append] at hl;cases t with
  | zero =>
   refine g2 ρ Ψ cs Kf fun k hk hk'=>?_;have:=hc k hk';rwa [getDL Kf] at this
  | succ t =>
   have:=h2 ρ Ψ (cs.drop p.cells.length) hX Ybw (fun k hk=>by
    have hk':p.cells.length+k < cs.length:=by simp at hk;omega
    have:=hc _ hk';rw [getDR Kf,show p.cells.length+k - up.length=k by omega] at this;simpa using this) t
   simpa [amFV] using this
theorem AmW.len {w:World} {X:List Nat} {vs:List Value} {as:List AM} {G:List Nat} (h:AmW w X vs as G):vs.length=as.length:=by
 induction h with
 | nil=>rfl
 | v h t ih=>simp [ih]
 | o h t ih=>simp [ih]
theorem Gv.rows {st:St} {c:C} {x:D} {S:List Nat} (h:Gv st c x S):∀ b∈S,∃ sz ds,st.bl b=some (.row sz ds):=by
 cases h with
 | lit=>intro b hb;cases hb
 | nil=>intro b hb;cases hb
 | row b' sz n ds hb hn=>intro b hb';obtain rfl:=List.mem_singleton.1 hb';exact ⟨_,_,hb⟩
theorem GvL.rows {st:St} {cs:List C} {xs:List D} {S:List Nat} (h:GvL st cs xs S):∀ b∈S,∃ sz ds,st.bl b=some (.row sz ds):=by
 induction h with
 | nil=>intro b hb;cases hb
 | cons h t ih=>intro b hb;rcases List.mem_append.1 hb with hb|hb;exact h.rows b hb;exact ih b hb
theorem GvP.rows {st:St} {x:FV} {y:RP} {S:List Nat} (h:GvP st x y S):∀ b∈S,∃ sz ds,st.bl b=some (.row sz ds):=by
 cases h with
 | c h=>exact h.rows
 | g h=>exact h.rows
theorem GvA.rows {P:Program} {st:St} {vs:List ResultVar} {ys:List RP} {S:List Nat} (h:GvA P st vs ys S):∀ b∈S,∃ sz ds,st.bl b=some (.row sz ds):=by
 induction h with
 | nil=>intro b hb;cases hb
 | cons hv h t ih=>intro b hb;rcases List.mem_append.1 hb with hb|hb;exact h.rows b hb;exact ih b hb
theorem BxO.rows {st:St} {kv:Nat->Value} {j:Nat} {cs:List C} {bs:List BC} {ds:List D} {S:List Nat} (h:BxO st kv j cs bs ds S):∀ b∈S,∃ sz ds,st.bl b=some (.row sz ds):=by
 induction h with
 | nil=>intro b hb;cases hb
 | k t ih=>exact ih
 | o h t ih=>intro b hb;rcases List.mem_append.1 hb with hb|hb;exact h.rows b hb;exact ih b hb
section
variable {P:Program} {st:St} {κ:Ctx} {w:World} {ρ:Nat->Option Nat} {Φ:Nat->List Nat} {a:Act}
theorem BxO.out (hm:Sm κ ρ Φ st a w) {kv:Nat->Value} {j:Nat} {cs:List C} {bs:List BC} {ds:List D} {S:List Nat} (h:BxO st kv j cs bs ds S):∀ (us us':List Value),us.length=bs.length->us'.length=cs.length->(∀ i,i < us.length->kv (j+i)=us.getD i undef) ->
  (∀ k (hk:k < cs.length),CR w ρ (InΦ Φ) (us'.getD k undef) cs[k])->BcN w us us' bs ds (S.flatMap Φ):=by
 induction h with
 | nil j=>intro us us' h1 h2 _ _;cases us <;> cases us' <;> first|exact .nil|(simp at h1 h2)
 | k t ih =>
  rename_i j x y cs bs ds S;intro us us' h1 h2 hkv hc;cases us with
  | nil=>simp at h1
  | cons u us =>
   cases us' with
   | nil=>simp at h2
   | cons u' us' =>
    have e:u'=u:=by
     have h0:=hc 0 Yby
     have h3:=hkv 0 Yby
     simp only [Nat.add_zero,List.getD_cons_zero,List.getElem_cons_zero] at h0 h3;cases h0 with
     | d _ _ F h _=>cases h with|same _ _ _ h=>exact h3
    subst e;exact .k (ih us us' (by simpa using h1) (by simpa using h2) (fun i hi=>by have:=hkv (i+1) (by simpa using hi);rw [show j+1+i=j+(i+1) by omega,this];simp) fun k hk=>by have:=hc (k+1) (by simpa using hk);simpa using this)
 | o h t ih =>
  rename_i j c x y S cs bs ds S';intro us us' h1 h2 hkv hc;cases us with
  | nil=>simp at h1
  | cons u us =>
   cases us' with
   | nil=>simp at h2
   | cons u' us' =>
    rw [List.flatMap_append];refine .o (Gv.ow hm (hc 0 Yby) h) (ih us us' (by simpa using h1) (by simpa using h2) (fun i hi=>by have:=hkv (i+1) (by simpa using hi);rw [show j+1+i=j+(i+1) by omega,this];simp) fun k hk=>by have:=hc (k+1) (by simpa using hk);simpa using this)
theorem RetX.run (hm:Sm κ ρ Φ st a w) {fn:Func} {vs:List ResultVar} (hvs:fn.results=⟨vs⟩) {kv:Nat->Value} {us:List Value} {bs:List BC} {ds:List D} {r:Res} (h:RetX P vs kv bs ds r st) (hl:us.length=bs.length) (hkv:∀ i,i < us.length->kv i=us.getD i undef) :
    ∃ v g us' E Gb F,ρ 800000000=some g/\(results fn a.tmps).run P w = .ok v w/\w.heap[g]? = some (.cells us' E (0,0))/\BcN w us us'.toList bs ds Gb/\OwR w v r F/\(g :: (Gb++F)).Nodup /\ ∀ h∈Gb++F,κ.lo h:=by
  have run : ∀ us : List Value, (vs.mapM (rvRun a) : Sem (List Value)).run P w = .ok us w ->
      (results fn a.tmps).run P w = .ok (if h:us.toArray.size=1 then us.toArray[0] else .tuple us.toArray) w:=by
    intro us hus;have e:results fn a.tmps=(do let vs <- fn.results.mapM (rvRun a);pure (if h:vs.size=1 then vs[0] else .tuple vs)):=by
      unfold results;congr 1
    rw [e,hvs,List.mapM_toArray];simp only [Sem.run_bind,Sem.run_map,hus,Result.andThen_ok,Sem.run_pure]
  have fin : ∀ {cs : List C} {S : List Nat} {ys : List RP} {S' : List Nat}, st.bl 800000000 = some (.box cs) -> BxO st kv 0 cs bs ds S -> GvA P st vs ys S' -> (S ++ S').Nodup ->
      ∃ g us' E ul,ρ 800000000=some g/\w.heap[g]? = some (.cells us' E (0,0))/\BcN w us us'.toList bs ds (S.flatMap Φ)/\(vs.mapM (rvRun a):Sem (List Value)).run P w = .ok ul w/\OwPL w ul ys (S'.flatMap Φ)/\(g :: (S.flatMap Φ++S'.flatMap Φ)).Nodup /\ ∀ h∈S.flatMap Φ++S'.flatMap Φ,κ.lo h:=by
    intro cs S ys S' hb hx h hS;obtain ⟨g,us',E,hρ,hΦ,hg,hul,hc⟩:=hm.box hb;obtain ⟨ul,hul2,hol⟩:=h.ow hm;have hB:800000000 ∉ S++S':=fun hin=>by
      have:∃ sz ds,st.bl 800000000=some (.row sz ds):=by
        rcases List.mem_append.1 hin with hin|hin
        · exact hx.rows _ hin
        · exact h.rows _ hin
      obtain ⟨sz,ds,e⟩:=this;rw [hb] at e; cases e
    have hnd:=jee hm.nd hm.dj (S:=800000000 :: (S++S')) (List.nodup_cons.2 ⟨hB,hS⟩);rw [List.flatMap_cons,hΦ,List.flatMap_append] at hnd;refine ⟨g,us',E,ul,hρ,hg,hx.out hm us us'.toList hl (by simpa using hul) (fun i hi=>by rw [Nat.zero_add];exact hkv i hi) (fun k hk=>by
      have:=hc k hk;rw [Array.getD_eq_getD_getElem?] at this;rw [List.getD_eq_getElem?_getD];simpa using this),hul2,hol,hnd,fun h hh=>?_⟩
    rw [<- List.flatMap_append] at hh;obtain ⟨b,_,hb'⟩:=List.mem_flatMap.1 hh;exact hm.low b h hb'
  cases h with
  | p hb hx h hS =>
    obtain ⟨g,us',E,ul,h1,h2,h3,h4,h5,h6,h7⟩:=fin hb hx h hS;generalize hF:List.flatMap Φ _=F0 at h3 h6 h7;generalize hF1:List.flatMap Φ _=F1 at h5 h6 h7;match ul,h5.len with
    | [u], _ =>
      cases h5 with
      | cons k1 k2 =>
        cases k2;exact ⟨u,g,us',E,F0,_,h1,by rw [run [u] h4];rfl,h2,h3,.p k1,by simpa using h6,fun h hh=>h7 h (by simpa using hh)⟩
  | t hb hx h hl2 hS =>
    obtain ⟨g,us',E,ul,h1,h2,h3,h4,h5,h6,h7⟩:=fin hb hx h hS;have:=h5.len;refine ⟨.tuple ul.toArray,g,us',E,_,_,h1,?_,h2,h3,.t h5,h6,h7⟩;rw [run ul h4,dif_neg];simp at hl2 ⊢; omega
end
theorem jfc {P : Program} {f : FuncId} {fn : Func} {c : Code} {n : Nat} {vs : List ResultVar} {bs : List BC} {as : List AM} {R : List D -> Res -> Prop} (hf : P.funcs[f]? = some fn) (h : ∀ kv, SK P [.code c] (St.enterX n bs kv as) (fun st' => ∃ ds res, R ds res /\ RetX P vs kv bs ds res st'))
    (hb:fn.body=some c:=by exact rfl) (hn:fn.ntmps=n:=by exact rfl) (hvs:fn.results=⟨vs⟩:=by exact rfl)
    (hname : (fn.name == "runtime.NumGoroutine") = false := by kernel_rfl) (hle : Nat.ble (as.length + 1) n = true := by exact rfl) (hnb : Nat.ble n 1000 = true := by exact rfl) (hlen : Nat.ble (ownsB bs ++ ownsA as).length 900 = true := by exact rfl) : PX P f bs as R := by
  refine ⟨fun args W=>by simp only [beq_eq_false_iff_ne] at hname;simp [callFunc,hf,hname,hb],fun w g us E va Fb Fa hg hbw haw hnd ok gl=>?_⟩;refine calls_of_wp hf hb ?_;rw [hn];obtain ⟨uo,ho1,ho2⟩:=hbw.cr;obtain ⟨ua,ha1,ha2⟩:=haw.fr;rw [List.nodup_cons] at hnd;obtain ⟨r,G,h1,h2,h3,h4⟩:=(ho1.append ha1).own hnd.2 1000000;generalize hxs:ownsB bs++ownsA as=xs at *;have hlen':xs.length<=900:=by simpa using hlen
  have hLlt:∀ b,inL (ownBs 1000000 xs) b=true->b < 800000000:=fun b hb=>by have:=jju hb;omega
  let kv:Nat->Value:=fun i=>us.toList.getD i undef
  let L:=ownBs 1000000 xs
  let κ:Ctx:=⟨w,fun h=>h∈g :: (Fb++Fa),fun b=>if b=800000000 then some (some g) else none,fun b hb=>by rw [if_neg Kf],ok,gl⟩
  let ρ:Nat->Option Nat:=fun b=>if b=800000000 then some g else if inL L b then r b else none
  let Φ:Nat->List Nat:=fun b=>if b=800000000 then [g] else if inL L b then G b else []
  have hρ:∀ b,inL L b=true->ρ b=r b:=fun b hb=>by
    have:=hLlt b hb;simp only [ρ];rw [if_neg Kf,if_pos hb]
  have src:∀ b h,h∈Φ b->b=800000000/\h=g∨b≠800000000/\inL L b=true/\h∈G b:=fun b h hh=>by
    simp only [Φ] at hh;split at hh
    · rename_i e;exact .inl ⟨e,by simpa using hh⟩
    · rename_i e
      split at hh
      · rename_i e2;exact .inr ⟨e,e2,hh⟩
      · cases hh
  have inX:∀ h,InΦ Φ h->h∈g :: (Fb++Fa):=fun h ⟨b,hh⟩=>by
    rcases src b h hh with ⟨_,e⟩|⟨_,e,e2⟩
    · rw [e];exact List.mem_cons_self ..
    · exact List.mem_cons_of_mem _ ((h2 b e).2 h e2)
  have hol:=(ho1.append ha1).len;rw [hxs,List.length_append] at hol;have hlo:=ho1.len;have hla:=ha1.len;have ecs:ownCs 1000000 xs=ownCs 1000000 (ownsB bs)++ownCs (1000000+1000*(ownsB bs).length) (ownsA as):=by rw [<- hxs,jgy]
  have hcr:∀ k (hk:k < (ownCs 1000000 xs).length),CR w ρ (InΦ Φ) ((uo++ua).getD k undef) (ownCs 1000000 xs)[k]:=fun k hk=>h4 ρ _ hρ k hk;have hcb:∀ k (hk:k < (ownCs 1000000 (ownsB bs)).length),CR w ρ (InΦ Φ) (uo.getD k undef) (ownCs 1000000 (ownsB bs))[k]:=fun k hk=>by
    have hk2:=hk;rw [jdp] at hk2;have:=hcr k (by rw [ecs,List.length_append];omega);simp only [ecs] at this;rw [List.getElem_append_left hk,getDL Kf] at this;exact this
  have hca:∀ k (hk:k < (ownCs (1000000+1000*(ownsB bs).length) (ownsA as)).length),CR w ρ (InΦ Φ) (ua.getD k undef) (ownCs (1000000+1000*(ownsB bs).length) (ownsA as))[k]:=fun k hk=>by
    have:=hcr ((ownCs 1000000 (ownsB bs)).length+k) (by rw [ecs,List.length_append];omega);simp only [ecs] at this;rw [List.getElem_append_right Kf,getDR (by rw [jdp];omega)] at this;have e1:(ownCs 1000000 (ownsB bs)).length+k - uo.length=k:=by rw [jdp];omega
    rw [e1] at this;simpa using this
  obtain ⟨b1,b2⟩:=ho2 ρ (InΦ Φ) _ inX (by rw [jdp];omega) hcb kv 0 (fun i _=>by simp [kv]);have a1:=ha2 ρ (InΦ Φ) _ inX (by rw [jdp];omega) hca;have hul:us.toList.length=us.size:=by simp
  have hle':as.length+1<=n:=by simpa using hle
  have hval:=haw.len;have sm:Sm κ ρ Φ (St.enterX n bs kv as) { tmps:=(.pointer (some ⟨g,0,none⟩) :: va).toArray++Array.replicate (n - (Value.pointer (some ⟨g,0,none⟩) :: va).toArray.size) undef,defers:=[] } w:=by
    refine ⟨Kp.refl _ _,by simp [St.enterX];omega,by simpa [St.enterX] using hnb,fun b r' hb=>?_,rfl,fun t=>?_,fun b x hx=>?_,fun b hb=>?_,fun b h hh => .inr (inX h ⟨b,hh⟩),fun b=>?_,fun b b' h hh hh'=>?_⟩
    · simp only [κ] at hb
      split at hb
      · rename_i e;cases hb;simp only [ρ];rw [if_pos e]
      · cases hb
    · have e:((Value.pointer (some ⟨g,0,none⟩) :: va).toArray++Array.replicate (n - (Value.pointer (some ⟨g,0,none⟩) :: va).toArray.size) undef).getD t undef=(Value.pointer (some ⟨g,0,none⟩) :: va).getD t undef:=by
        rw [Array.getD_eq_getD_getElem?,List.getD_eq_getElem?_getD];by_cases ht:t < (Value.pointer (some ⟨g,0,none⟩) :: va).length
        · rw [Array.getElem?_append_left (by simpa using ht)];simp
        · rw [Array.getElem?_append_right (by simpa using ht), Array.getElem?_replicate, List.getElem?_eq_none Kf]
          split <;> rfl
      show FR w ρ _ (((Value.pointer (some ⟨g,0,none⟩) :: va).toArray++Array.replicate (n - (Value.pointer (some ⟨g,0,none⟩) :: va).toArray.size) undef).getD t undef) ((St.enterX n bs kv as).fr t);rw [e];cases t with
      | zero=>exact .c _ _ (.lp 800000000 g 0 (by simp [ρ]))
      | succ t=>have:=a1 t;simpa [St.enterX] using this
    · simp only [St.enterX] at hx
      cases hbe:Nat.beq b 800000000 with
      | true =>
        rw [hbe] at hx;cases hx;have:=Nat.eq_of_beq_eq_true hbe;subst this;have e1:ρ 800000000=some g:=by simp [ρ]
        have e2:Φ 800000000=[g]:=by simp [Φ]
        rw [e1, e2];refine .box g us E _ hg (by rw [b1,hul]) fun k hk=>?_;have:=b2 k hk;rw [List.getD_eq_getElem?_getD] at this;rw [Array.getD_eq_getD_getElem?];simpa using this
      | false =>
        have hne:b≠800000000:=fun e=>by subst e;cases hbe
        rw [hbe] at hx;simp only [cond_false,hxs] at hx;have hi:inL L b=true:=by have:=jfe L b;rw [this];simp only [L];rw [hx];rfl
        rw [hρ b hi];have e:Φ b=G b:=by simp only [Φ];rw [if_neg hne,if_pos hi]
        rw [e];exact h1 b x hx ρ _
    · simp only [St.enterX] at hb
      cases hbe:Nat.beq b 800000000 with
      | true=>rw [hbe] at hb;cases hb
      | false =>
        have hne:b≠800000000:=fun e=>by subst e;cases hbe
        rw [hbe] at hb;simp only [cond_false,hxs] at hb;have hi:inL L b=false:=by have:=jfe L b;rw [this];simp only [L];rw [hb];rfl
        simp only [Φ];rw [if_neg hne,hi];rfl
    · simp only [Φ]; split
      · simp
      · split
        · rename_i hi;exact (h2 b hi).1
        · exact List.nodup_nil
    · rcases src b h hh with ⟨e1, e2⟩|⟨e0, e1, e2⟩
      · rcases src b' h hh' with ⟨e3, e4⟩|⟨_, e3, e4⟩
        · rw [e1,e3]
        · rw [e2] at e4;exact absurd ((h2 b' e3).2 g e4) hnd.1
      · rcases src b' h hh' with ⟨e3, e4⟩|⟨_, e3, e4⟩
        · rw [e4] at e2;exact absurd ((h2 b e1).2 g e2) hnd.1
        · exact h3 b b' h e1 e3 e2 e4
  refine Code.wp_mono ?_ ((h kv).lv κ _ w ⟨ρ,Φ,sm⟩);rintro e a' w' ⟨st',⟨ρ',Φ',hm⟩,hq⟩;have hbl:us.toList.length=bs.length:=by
    have gen:∀ {us:List Value} {bs:List BC} {G:List Nat},BcW w (g :: (Fb++Fa)) us bs G->us.length=bs.length:=by
      intro us bs G h;induction h with
      | nil=>rfl
      | k h t ih=>simp [ih]
      | o h t ih=>simp [ih]
    exact gen hbw
  have fin : (∃ ds res, R ds res /\ RetX P vs kv bs ds res st') -> bodyPost P fn (fun e w' => ∃ v us' E' ds res Gb F, R ds res /\ e = .returned v /\ w'.heap[g]? = some (.cells us' E' (0, 0)) /\ BcN w' us.toList us'.toList bs ds Gb /\ OwR w' v res F /\
      (g :: (Gb++F)).Nodup/\(∀ h∈Gb++F,h∈Fb++Fa∨w.heap.size<=h)/\Kp ⟨w,fun h=>h∈g :: (Fb++Fa),fun _=>none,fun _ _=>rfl,ok,gl⟩ w w') .normal a' w':=fun ⟨ds,res,hR,hr⟩=>by
    obtain ⟨v,g',us',E',Gb,F,k1,k2,k3,k4,k5,k6,k7⟩:=hr.run (us:=us.toList) hm hvs hbl (fun i hi=>rfl);have hgg:g'=g:=by
      have:=hm.pin 800000000 (some g) (by simp [κ]);rw [this] at k1;cases k1;rfl
    subst hgg;exact ⟨hm.defers,v,k2,v,us',E',ds,res,Gb,F,hR,rfl,k3,k4,k5,k6,fun h hh=>(k7 h hh).elim .inr fun hin=>by
      rcases List.mem_cons.1 hin with e|hin
      · subst e;rw [List.nodup_cons] at k6;exact absurd hh k6.1
      · exact .inl hin,⟨hm.below.os,hm.below.tape,hm.below.output,hm.below.size,hm.below.shp,fun h hh=>hm.below.block h hh⟩⟩
  cases e with
  | normal=>exact fin hq
  | ret=>exact fin (by rw [LV.ret] at hq;exact hq)
  | exit id=>exact (hq:False).elim
  | goto l=>exact (LV.bad trivial hq).elim
  | panic c=>exact (LV.bad trivial hq).elim
  | outgrown=>exact (LV.bad trivial hq).elim
theorem Sm.newU {w0:Ctx} {w w':World} {ρ:Nat->Option Nat} {Φ:Nat->List Nat} {st:St} {a:Act} (h:Sm w0 ρ Φ st a w) (b0 g0:Nat) (hb0:Φ b0=[g0]) (S:List Nat) (hbS:b0 ∉ S) (L:List (Nat×Blk)) (hbL:inL L b0=false) (r:Nat->Option Nat) (F:Nat->List Nat) (hbel:Kp w0 w w')
  (hw:∀ g,g≠g0->(∀ c∈S,g ∉ Φ c)->g < w.heap.size->w'.heap[g]? = w.heap[g]?) (hs:Shp w w')
  (hnd:∀ b,inL L b=true->(F b).Nodup) (hdj:∀ b b' g,inL L b=true->inL L b'=true->g∈F b->g∈F b'->b=b')
  (hF:∀ b,inL L b=true -> ∀ g∈F b,(∃ c∈S,g∈Φ c)∨w.heap.size<=g) (hL:∀ b,inL L b=true->b < 1000000) (hx:∀ (ρ':Nat->Option Nat) (Φ':Nat->Prop),(∀ b',inL L b'=false->ρ' b'=ρ b')->(∀ b,inL L b=true->ρ' b=r b)->(∀ g,Φ' g->InΦ Φ g∨w.heap.size<=g) -> ∀ (b:Nat) (x:Blk),getL L b=some x->BR w' ρ' Φ' (r b) x (F b))
  (x0:Blk) (hx0:∀ (ρ':Nat->Option Nat) (Φ':Nat->Prop),(∀ b',inL L b'=false->ρ' b'=ρ b')->(∀ b,inL L b=true->ρ' b=r b)->(∀ g,Φ' g->InΦ Φ g∨w.heap.size<=g)->BR w' ρ' Φ' (ρ b0) x0 [g0]) :
  ∃ ρ' Φ',Sm w0 ρ' Φ' (((st.drop S).new L).setB b0 (some x0)) a w'/\(∀ b,inL L b=true->ρ' b=r b)/\(∀ b',inL L b'=false->ρ' b'=ρ b') /\ ∀ g,InΦ Φ' g->InΦ Φ g∨w.heap.size<=g:=by
 let ρ':Nat->Option Nat:=fun k=>if inL L k then r k else ρ k
 let Φ':Nat->List Nat:=fun k=>if inL L k then F k else if k=b0 then [g0] else if k∈S then [] else Φ k
 have hg0:g0∈Φ b0:=by rw [hb0];exact List.mem_cons_self ..
 have hρ:∀ b',inL L b'=false->ρ' b'=ρ b':=fun b' hb'=>by simp [ρ',hb']
 have hρb:∀ b,inL L b=true->ρ' b=r b:=fun b hb=>if_pos hb;have src:∀ k g,g∈Φ' k->inL L k=true/\g∈F k∨inL L k=false/\(k=b0/\g=g0∨k≠b0/\k ∉ S/\g∈Φ k):=fun k g hk=>by
  simp only [Φ'] at hk;cases hkL:inL L k with
  | true=>rw [hkL,if_pos rfl] at hk;exact .inl ⟨rfl,hk⟩
  | false =>
   rw [hkL] at hk;simp only [Bool.false_eq_true,if_false] at hk;split at hk
   ·rename_i e;exact .inr ⟨rfl,.inl ⟨e,by simpa using hk⟩⟩
   ·rename_i e;split at hk
    ·cases hk
    ·rename_i e2;exact .inr ⟨rfl,.inr ⟨e,e2,hk⟩⟩
 have hΦF:∀ g,InΦ Φ' g->InΦ Φ g∨w.heap.size<=g:=by
  rintro g ⟨k,hk⟩;rcases src k g hk with ⟨h1,h2⟩|⟨_,⟨h1,h2⟩|⟨_,_,h2⟩⟩
  ·rcases hF k h1 g h2 with ⟨c,_,hc⟩|h
   ·exact .inl ⟨c,hc⟩
   ·exact .inr h
  ·rw [h2];exact .inl ⟨b0,hg0⟩
  ·exact .inl ⟨k,h2⟩
 have hout:∀ g,¬ InΦ Φ g->g < w.heap.size->w'.heap[g]? = w.heap[g]? := fun g hg hlt=>hw g (fun e=>hg ⟨b0,e ▸ hg0⟩) (fun c _ hc=>hg ⟨c,hc⟩) hlt;refine ⟨ρ',Φ',?_,hρb,hρ,hΦF⟩;refine ⟨h.below.trans hbel,?_,?_,fun b r' hb=>?_,h.defers,?_,?_,?_,?_,?_,?_⟩
 ·simpa [St.new,St.kill,St.setB,(jgt S st).2] using h.size
 ·simpa [St.new,St.kill,St.setB,(jgt S st).2] using h.nb
 ·cases hbL':inL L b with
  | true=>rw [w0.low b (hL b hbL')] at hb;cases hb
  | false=>rw [hρ b hbL'];exact h.pin b r' hb
 ·intro t;show FR _ _ _ _ (((st.drop S).fr t).kill (inL L));rw [(jgt S st).1];exact ((h.fr t).keep hout hs hΦF).kill (inL L) hρ
 ·intro k y hy;simp only [St.setB] at hy;by_cases hkb:k=b0
  ·subst hkb;rw [if_pos rfl] at hy;cases hy;have e1:Φ' k=[g0]:=by simp [Φ',hbL]
   rw [e1,hρ k hbL];exact hx0 ρ' (InΦ Φ') hρ hρb hΦF
  ·rw [if_neg hkb] at hy;simp only [St.new] at hy;have hgi:=jfe L k;cases hg:getL L k with
   | some x =>
    rw [hg] at hy hgi;cases hy;have hkL:inL L k=true:=by simpa using hgi
    simp only [Φ',if_pos hkL,hρb k hkL];exact hx ρ' (InΦ Φ') hρ hρb hΦF k _ hg
   | none =>
    rw [hg] at hy hgi;have hkL:inL L k=false:=by simpa using hgi
    obtain ⟨z,hz,rfl⟩:=Option.map_eq_some_iff.1 hy;by_cases hkS:k∈S
    ·rw [(jht S st k).1 hkS] at hz;cases hz
    ·rw [(jht S st k).2 hkS] at hz;have e1:Φ' k=Φ k:=by simp [Φ',hkL,hkS,hkb]
     rw [e1,hρ k hkL];refine BR.kill (inL L) (((h.bl k z hz).keep hout (fun g hg=>hw g (fun e=>hkb (h.dj k b0 g hg (e ▸ hg0))) (fun c hc hg'=>?_) (h.lt hg)) hs hΦF)) hρ;have:=h.dj k c g hg hg';subst this;exact hkS hc
 ·intro k hk;simp only [St.setB] at hk;by_cases hkb:k=b0
  ·rw [if_pos hkb] at hk;cases hk
  ·rw [if_neg hkb] at hk;simp only [St.new] at hk;have hgi:=jfe L k;cases hg:getL L k with
   | some x=>rw [hg] at hk;cases hk
   | none =>
    rw [hg] at hk hgi;have hkL:inL L k=false:=by simpa using hgi
    simp only [Φ',hkL,Bool.false_eq_true,if_false,if_neg hkb];split
    ·rfl
    ·rename_i hkS;rw [(jht S st k).2 hkS] at hk;exact h.emp k (by simpa using hk)
 ·intro k g hg;rcases src k g hg with ⟨h1,h2⟩|⟨_,⟨h1,h2⟩|⟨_,_,h2⟩⟩
  ·rcases hF k h1 g h2 with ⟨c,hc,hgc⟩|h'
   ·exact h.low c g hgc
   ·exact .inl (Nat.le_trans h.below.size h')
  ·rw [h2];exact h.low b0 g0 hg0
  ·exact h.low k g h2
 ·intro k;simp only [Φ'];split
  ·rename_i hkL;exact hnd k hkL
  ·split
   ·simp
   ·split
    ·exact List.nodup_nil
    ·exact h.nd k
 ·intro k k' g hg hg';have cross:∀ k k',inL L k=true->g∈F k->inL L k'=false->(k'=b0/\g=g0∨k'≠b0/\k' ∉ S/\g∈Φ k')->False:=fun k k' h1 h2 h3 h4=>by
   rcases hF k h1 g h2 with ⟨c,hc,hgc⟩|hge
   ·rcases h4 with ⟨_,e⟩|⟨_,e,e2⟩
    ·subst e;have:=h.dj c b0 g hgc hg0;subst this;exact hbS hc
    ·have:=h.dj c k' g hgc e2;subst this;exact e hc
   ·rcases h4 with ⟨_,e⟩|⟨_,e,e2⟩
    ·subst e;have:=h.lt hg0;omega
    ·have:=h.lt e2;omega
  rcases src k g hg with ⟨h1,h2⟩|⟨h1,h2⟩
  ·rcases src k' g hg' with ⟨h3,h4⟩|⟨h3,h4⟩
   ·exact hdj k k' g h1 h3 h2 h4
   ·exact (cross k k' h1 h2 h3 h4).elim
  ·rcases src k' g hg' with ⟨h3,h4⟩|⟨h3,h4⟩
   ·exact (cross k' k h3 h4 h1 h2).elim
   ·rcases h2 with ⟨e1,e2⟩|⟨e1,_,e2⟩
    ·rcases h4 with ⟨e3,e4⟩|⟨e3,_,e4⟩
     ·rw [e1,e3]
     ·rw [e2] at e4;exact absurd (h.dj k' b0 g0 e4 hg0) e3
    ·rcases h4 with ⟨e3,e4⟩|⟨e3,_,e4⟩
     ·rw [e4] at e2;exact absurd (h.dj k b0 g0 e2 hg0) e1
     ·exact h.dj k k' g e2 e4
inductive BxI (st : St) : List C -> List BC -> List Nat -> Prop
 | nil:BxI st [] [] []
 | k {x:D} {cs:List C} {bs:List BC} {S:List Nat} (t:BxI st cs bs S):BxI st (.d x :: cs) (.k x :: bs) S
 | ks {v:Value} {x:D} {cs:List C} {bs:List BC} {S:List Nat} (t:BxI st cs bs S):BxI st (.d (.same v x) :: cs) (.k x :: bs) S
 | o {c:C} {x:D} {S:List Nat} {cs:List C} {bs:List BC} {S':List Nat} (h:Gv st c x S) (t:BxI st cs bs S'):BxI st (c :: cs) (.o x :: bs) (S++S')
inductive Sx (st : St) : C -> D -> List Nat -> Prop
 | d (x:D):Sx st (.d x) x []
 | row (b sz n:Nat) (ds:List D) (hb:st.bl b=some (.row sz ds)) (hn:ds.length=n*sz):Sx st (.ls b sz 0 n) (.sl sz n ds) [b]
inductive SxL (st : St) : List C -> List D -> List Nat -> Prop
 | nil:SxL st [] [] []
 | cons {c:C} {x:D} {V:List Nat} {cs:List C} {xs:List D} {V':List Nat} (h:Sx st c x V) (t:SxL st cs xs V'):SxL st (c :: cs) (x :: xs) (V++V')
inductive SxP (st : St) : FV -> RP -> List Nat -> Prop
 | c {c:C} {x:D} {V:List Nat} (h:Sx st c x V):SxP st (.c c) (.c x) V
 | g {cs:List C} {xs:List D} {V:List Nat} (h:SxL st cs xs V):SxP st (.g cs) (.g xs) V
inductive ArX (st : St) : List Operand -> List AM -> List Nat -> List Nat -> Prop
 | nil:ArX st [] [] [] []
 | v {x:Operand} {p:RP} {V:List Nat} {xs:List Operand} {as:List AM} {S V':List Nat} (h:SxP st (st.ev x) p V) (t:ArX st xs as S V'):ArX st (x :: xs) (.v p :: as) S (V++V')
 | o {x:Operand} {p:RP} {S:List Nat} {xs:List Operand} {as:List AM} {S' V:List Nat} (h:GvP st (st.ev x) p S) (t:ArX st xs as S' V):ArX st (x :: xs) (.o p :: as) (S++S') V
def mixC:List C->List BC->List C->List C
 | c :: cs,.k _ :: bs,ns=>c :: mixC cs bs ns
 | _ :: cs,.o _ :: bs,n :: ns=>n :: mixC cs bs ns
 | _,_,_=>[]
section
variable {κ:Ctx} {st:St} {w:World} {ρ:Nat->Option Nat} {Φ:Nat->List Nat} {a:Act} {X:List Nat}
theorem Sx.vx (hm:Sm κ ρ Φ st a w) {c:C} {x:D} {V:List Nat} (h:Sx st c x V) (hX:∀ g∈X,InΦ Φ g) (hV:∀ b∈V,∀ g∈Φ b,g ∉ X) {v:Value} (hc:CR w ρ (InΦ Φ) v c):VwX w X v x:=by
 cases h with
 | d=>cases hc with|d _ _ F hF hav=>exact ⟨F,hF,fun b hb hbX=>hav b hb (hX b hbX)⟩
 | row b sz n ds hb hn =>
  obtain ⟨F,h1,h2⟩:=(Gv.ow hm hc (.row b sz n ds hb hn)).vw;refine ⟨F,h1,fun g hg=>hV b (List.mem_cons_self ..) g ?_⟩;have:=h2 g hg;simpa using this
theorem SxL.vx (hm:Sm κ ρ Φ st a w) {cs:List C} {xs:List D} {V:List Nat} (h:SxL st cs xs V) (hX:∀ g∈X,InΦ Φ g):(∀ b∈V,∀ g∈Φ b,g ∉ X) -> ∀ us:List Value,us.length=cs.length->(∀ k (hk:k < cs.length),CR w ρ (InΦ Φ) (us.getD k undef) cs[k]) ->
  us.length=xs.length /\ ∀ k (hk:k < xs.length),VwX w X (us.getD k undef) xs[k]:=by
 induction h with
 | nil=>intro _ us hl _;exact ⟨by simpa using hl,fun k hk=>by simp at hk⟩
 | cons h t ih =>
  intro hV us hl hr;cases us with
  | nil=>simp at hl
  | cons u us =>
   obtain ⟨h1,h2⟩:=ih (fun b hb=>hV b (List.mem_append_right _ hb)) us (by simpa using hl) fun k hk=>by have:=hr (k+1) (by simpa using hk);simpa using this
   refine ⟨by simpa using h1,fun k hk=>?_⟩;cases k with
   | zero=>simpa using h.vx hm hX (fun b hb=>hV b (List.mem_append_left _ hb)) (hr 0 Yby)
   | succ k=>simpa using h2 k (by simpa using hk)
theorem SxP.vx (hm:Sm κ ρ Φ st a w) {x:FV} {p:RP} {V:List Nat} (h:SxP st x p V) (hX:∀ g∈X,InΦ Φ g) (hV:∀ b∈V,∀ g∈Φ b,g ∉ X) {v:Value} (hv:FR w ρ (InΦ Φ) v x):VxP w X v p:=by
 cases h with
 | c h=>exact .c (h.vx hm hX hV hv.c_inv)
 | g h =>
  obtain ⟨us,rfl,hl,hr⟩:=hv.g_inv;obtain ⟨h1,h2⟩:=h.vx hm hX hV us hl hr;exact .g h1 h2
theorem ArX.am (hm:Sm κ ρ Φ st a w) {xs:List Operand} {as:List AM} {S V:List Nat} (h:ArX st xs as S V) (hX:∀ g∈X,InΦ Φ g):(∀ b∈V,∀ g∈Φ b,g ∉ X)->AmW w X (xs.map a.eval) as (S.flatMap Φ):=by
 induction h with
 | nil=>intro _; exact .nil
 | v h t ih=>intro hV;exact .v (h.vx hm hX (fun b hb=>hV b (List.mem_append_left _ hb)) (hm.ev _)) (ih fun b hb=>hV b (List.mem_append_right _ hb))
 | o h t ih=>intro hV;rw [List.flatMap_append];exact .o (h.ow hm (hm.ev _)) (ih hV)
theorem BxI.bc (hm:Sm κ ρ Φ st a w) (hX:∀ g∈X,InΦ Φ g) {cs:List C} {bs:List BC} {S:List Nat} (h:BxI st cs bs S):∀ us:List Value,us.length=cs.length->(∀ k (hk:k < cs.length),CR w ρ (InΦ Φ) (us.getD k undef) cs[k])->BcW w X us bs (S.flatMap Φ):=by
 induction h with
 | nil=>intro us hl _;cases us with|nil=>exact .nil|cons=>simp at hl
 | k t ih =>
  intro us hl hr;cases us with
  | nil=>simp at hl
  | cons u us =>
   refine .k ?_ (ih us (by simpa using hl) fun k hk=>by have:=hr (k+1) (by simpa using hk);simpa using this);have:=hr 0 Yby
   simp only [List.getD_cons_zero,List.getElem_cons_zero] at this;cases this with|d _ _ F hF hav=>exact ⟨F,hF,fun b hb hbX=>hav b hb (hX b hbX)⟩
 | ks t ih =>
  intro us hl hr;cases us with
  | nil=>simp at hl
  | cons u us =>
   refine .k ?_ (ih us (by simpa using hl) fun k hk=>by have:=hr (k+1) (by simpa using hk);simpa using this);have:=hr 0 Yby
   simp only [List.getD_cons_zero,List.getElem_cons_zero] at this;cases this with|d _ _ F hF hav=>cases hF with|same _ _ _ hF=>exact ⟨F,hF,fun b hb hbX=>hav b hb (hX b hbX)⟩
 | o h t ih =>
  intro us hl hr;cases us with
  | nil=>simp at hl
  | cons u us =>
   rw [List.flatMap_append];exact .o (Gv.ow hm (hr 0 Yby) h) (ih us (by simpa using hl) fun k hk=>by have:=hr (k+1) (by simpa using hk);simpa using this)
end
theorem GvL.nonbox {st:St} {b0:Nat} {cs:List C} (hb:st.bl b0=some (.box cs)) {S:List Nat} (h:∀ b∈S,∃ sz ds,st.bl b=some (.row sz ds)):b0 ∉ S:=fun hin=>by
 obtain ⟨sz,ds,e⟩:=h b0 hin;rw [hb] at e; cases e
theorem BxI.rows {st:St} {cs:List C} {bs:List BC} {S:List Nat} (h:BxI st cs bs S):∀ b∈S,∃ sz ds,st.bl b=some (.row sz ds):=by
 induction h with
 | nil=>intro b hb;cases hb
 | k t ih=>exact ih
 | ks t ih=>exact ih
 | o h t ih=>intro b hb;rcases List.mem_append.1 hb with hb|hb;exact h.rows b hb;exact ih b hb
theorem ArX.rows {st:St} {xs:List Operand} {as:List AM} {S V:List Nat} (h:ArX st xs as S V):∀ b∈S,∃ sz ds,st.bl b=some (.row sz ds):=by
 induction h with
 | nil=>intro b hb;cases hb
 | v h t ih=>exact ih
 | o h t ih=>intro b hb;rcases List.mem_append.1 hb with hb|hb;exact h.rows b hb;exact ih b hb
section
variable {P:Program} {ops:Array Oper} {mu:Nat->Bool} {r:OT} {st:St} {K:St->Prop} {j:Nat} {ty:TypeId} {pos:String} {af:Array Edge}
theorem so_callX {p:Operand} {xs:List Operand} {ts:Array TypeId} {d:Nat} {fid:FuncId} {b0:Nat} {cs:List C} {bs:List BC} {as:List AM} {S Sa V:List Nat} {R:List D->Res->Prop} (hp:st.ev p = .c (.lp b0 0)) (hb:st.bl b0=some (.box cs)) (hx:BxI st cs bs S) (ha:ArX st xs as Sa V)
    (hS:(S++Sa).Nodup) (hV:∀ b∈V,b ∉ b0 :: (S++Sa)) (hc:PX P fid bs as R) (hd:Nat.blt d st.n=true) (hlo:∀ b,d<=b->b < 1000000->b≠b0) (hmu:mu j=true)
    (h:∀ ds res,R ds res->Nat.ble (res.cells++ds).length 900=true/\SO P ops mu r ((((st.drop (S++Sa)).new (ownBs d (res.cells++ds))).setB b0 (some (.box (mixC cs bs (ownCs (d+1000*res.cells.length) ds))))).put d (res.shape (ownCs d res.cells))) K) :
    SO P ops mu (.cons (some ⟨some d,.call { callee:=.value (.func fid),args:=⟨p :: xs⟩,argTypes:=ts },ty,pos,af,none⟩,j,false) r) st K:=by
  refine so_m hmu fun κ a w hs next Q hn=>?_;obtain ⟨ρ,Φ,hm⟩:=hs;obtain ⟨g,us,E,hρ,hΦ,hg,hul,hcr⟩:=hm.box hb;have hb0:b0 ∉ S++Sa:=GvL.nonbox hb fun b hb=>by rcases List.mem_append.1 hb with hb|hb;exact hx.rows b hb;exact ha.rows b hb
  have hnd:=jee hm.nd hm.dj (S:=b0 :: (S++Sa)) (List.nodup_cons.2 ⟨hb0,hS⟩);rw [List.flatMap_cons,hΦ,List.flatMap_append] at hnd;have hX:∀ h∈g :: (S.flatMap Φ++Sa.flatMap Φ),InΦ Φ h:=fun h hh=>by
    rcases List.mem_cons.1 hh with e|hh
    · subst e;exact ⟨b0,by rw [hΦ];exact List.mem_cons_self ..⟩
    · rw [<- List.flatMap_append] at hh
      obtain ⟨b,_,hb⟩:=List.mem_flatMap.1 hh;exact ⟨b,hb⟩
  have hVX:∀ b∈V,∀ h∈Φ b,h ∉ g :: (S.flatMap Φ++Sa.flatMap Φ):=fun b hbV h hh hin=>by
    refine hV b hbV ?_;rcases List.mem_cons.1 hin with e|hin
    · subst e
      have:=hm.dj b b0 h hh (by rw [hΦ];exact List.mem_cons_self ..);rw [this];exact List.mem_cons_self ..
    · rw [<- List.flatMap_append] at hin
      obtain ⟨c,hc,hhc⟩:=List.mem_flatMap.1 hin;have:=hm.dj b c h hh hhc;rw [this];exact List.mem_cons_of_mem _ hc
  have hcrL:∀ k (hk:k < cs.length),CR w ρ (InΦ Φ) (us.toList.getD k undef) cs[k]:=fun k hk=>by
    have:=hcr k hk;rw [Array.getD_eq_getD_getElem?] at this;rw [List.getD_eq_getElem?_getD];simpa using this
  have hull:us.toList.length=cs.length:=by simpa using hul
  have hcall:=hc.2 w g us E (xs.map a.eval) _ _ hg (hx.bc hm hX us.toList hull hcrL) (ha.am hm hX hVX) hnd hm.below.ok (fun h hh hin=>Ctx.gln hh (by obtain ⟨b,hb⟩:=hX h hin;exact hm.low b h hb));have hpv:a.eval p = .pointer (some ⟨g,0,none⟩):=by
    have hv:=hm.ev p;rw [hp] at hv;obtain ⟨g',h1,h2⟩:=jhs hv.c_inv;rw [hρ] at h1;cases h1;exact h2
  have hex:∀ ys:List Operand,(execOp a.eval ⟨some d,.call { callee:=.value (.func fid),args:=⟨ys⟩,argTypes:=ts },ty,pos,af,none⟩).run P w = .ok (.enter fid (ys.map a.eval).toArray) w:=fun ys=>by
    simp only [execOp,resolve,Sem.run_bind,Act.eval];simp [Deferred.ofValue,invoke];exact hc.1 _ _
  have hex:=hex (p :: xs);rw [List.map_cons,hpv] at hex;unfold Oper.wp;rw [hex];refine Calls.mono hcall ?_;rintro e w' ⟨v,us',E',ds,res,Gb,F,hR,rfl,c1,c2,c3,c4,c5,c6⟩;have inlo:∀ h,h∈g :: (S.flatMap Φ++Sa.flatMap Φ)->κ.lo h:=fun h hh=>by obtain ⟨b,hb⟩:=hX h hh;exact hm.low b h hb
  have kp:Kp κ w w':=⟨c6.os,c6.tape,c6.output,c6.size,c6.shp,fun h hh=>c6.block h fun h'=>hh (by
    rcases h' with h' | h'
    · exact .inl (Nat.le_trans hm.below.size h')
    · exact inlo h h')⟩
  obtain ⟨hl9,hSO⟩:=h ds res hR;have hl9':(res.cells++ds).length<=900:=by simpa using hl9
  have hd':d < st.n:=by simpa using hd
  have hnn:=hm.nb;obtain ⟨ur,hol,hsh⟩:=c3.open;have hout:∀ h,¬ InΦ Φ h->h < w.heap.size->w'.heap[h]? = w.heap[h]? := fun h hh hlt=>c6.block h fun h'=>by
    rcases h' with h' | h'
    · exact absurd hlt (Nat.not_lt.2 h')
    · exact hh (hX h h')
  rw [List.nodup_cons,List.nodup_append] at c4;have hu2 : ∃ u2, OwL w' u2 ds Gb /\ ∀ (ρ' : Nat -> Option Nat) (Ψ' : Nat -> Prop), (∀ g, Ψ' g -> InΦ Φ g ∨ w.heap.size <= g) -> ∀ ns : List C, ns.length = u2.length -> (∀ k (hk : k < ns.length), CR w' ρ' Ψ' (u2.getD k undef) ns[k]) ->
      us'.toList.length=(mixC cs bs ns).length /\ ∀ k (hk:k < (mixC cs bs ns).length),CR w' ρ' Ψ' (us'.toList.getD k undef) (mixC cs bs ns)[k]:=by
    have uniq : ∀ {cs : List C} {us us' : List Value} {bs : List BC} {ds : List D} {G S : List Nat}, BxI st cs bs S -> BcN w' us us' bs ds G -> us.length = cs.length -> (∀ k (hk : k < cs.length), CR w ρ (InΦ Φ) (us.getD k undef) cs[k]) -> ∃ u2, OwL w' u2 ds G /\ ∀ (ρ' : Nat -> Option Nat) (Ψ' : Nat -> Prop), (∀ g, Ψ' g -> InΦ Φ g ∨ w.heap.size <= g) -> ∀ ns : List C, ns.length = u2.length -> (∀ k (hk : k < ns.length), CR w' ρ' Ψ' (u2.getD k undef) ns[k]) ->
      us'.length=(mixC cs bs ns).length /\ ∀ k (hk:k < (mixC cs bs ns).length),CR w' ρ' Ψ' (us'.getD k undef) (mixC cs bs ns)[k]:=by
      intro cs us us' bs ds G S hxx hn hl hr;have dk:∀ {ρ':Nat->Option Nat} {Ψ':Nat->Prop} {v:Value} {x:D},(∀ g,Ψ' g->InΦ Φ g∨w.heap.size<=g)->CR w ρ (InΦ Φ) v (.d x)->CR w' ρ' Ψ' v (.d x):=fun hΨ h=>by
        have:=h.keep hout c6.shp hΨ;cases this with|d _ _ F h1 h2=>exact .d _ _ F h1 h2
      induction hn generalizing cs S with
      | nil=>cases hxx;exact ⟨[],.nil,fun ρ' Ψ' _ ns _ _=>⟨rfl,fun k hk=>by simp [mixC] at hk⟩⟩
      | k tn ih =>
        cases hxx with
        | k t =>
          obtain ⟨u2,h1,h2⟩:=ih t (by simpa using hl) (fun k hk=>by have:=hr (k+1) (by simpa using hk);simpa using this);refine ⟨u2,h1,fun ρ' Ψ' hΨ ns hns hc=>?_⟩;obtain ⟨e1,e2⟩:=h2 ρ' Ψ' hΨ ns hns hc;refine ⟨by simp [mixC,e1],fun k hk=>?_⟩;cases k with
          | zero=>exact dk hΨ (hr 0 Yby)
          | succ k=>have:=e2 k (by simpa [mixC] using hk);simpa [mixC] using this
        | ks t =>
          obtain ⟨u2,h1,h2⟩:=ih t (by simpa using hl) (fun k hk=>by have:=hr (k+1) (by simpa using hk);simpa using this);refine ⟨u2,h1,fun ρ' Ψ' hΨ ns hns hc=>?_⟩;obtain ⟨e1,e2⟩:=h2 ρ' Ψ' hΨ ns hns hc;refine ⟨by simp [mixC,e1],fun k hk=>?_⟩;cases k with
          | zero=>exact dk hΨ (hr 0 Yby)
          | succ k=>have:=e2 k (by simpa [mixC] using hk);simpa [mixC] using this
      | o hOw tn ih =>
        cases hxx with
        | o hgv t =>
          obtain ⟨u2,h1,h2⟩:=ih t (by simpa using hl) (fun k hk=>by have:=hr (k+1) (by simpa using hk);simpa using this);refine ⟨_ :: u2,.cons hOw h1,fun ρ' Ψ' hΨ ns hns hc=>?_⟩;cases ns with
          | nil=>simp at hns
          | cons n ns =>
            obtain ⟨e1,e2⟩:=h2 ρ' Ψ' hΨ ns (by simpa using hns) (fun k hk=>by have:=hc (k+1) (by simpa using hk);simpa using this);refine ⟨by simp [mixC,e1],fun k hk=>?_⟩;cases k with
            | zero=>exact hc 0 Yby
            | succ k=>have:=e2 k (by simpa [mixC] using hk);simpa [mixC] using this
    exact uniq hx c2 hull hcrL
  obtain ⟨u2,ho2,hmx⟩:=hu2;have hndF:(F++Gb).Nodup:=List.nodup_append.2 ⟨c4.2.2.1,c4.2.1,fun x hx y hy e=>c4.2.2.2 y hy x hx e.symm⟩;obtain ⟨r0,G,k1,k2,k3,k4⟩:=(hol.append ho2).own hndF d;have hLlt:∀ b,inL (ownBs d (res.cells++ds)) b=true->b < 1000000:=fun b hb=>by have:=jju hb;omega
  have hbL:inL (ownBs d (res.cells++ds)) b0=false:=by
    cases hi:inL (ownBs d (res.cells++ds)) b0 with
    | false=>rfl
    | true=>exact absurd rfl (hlo b0 (jik hi) (hLlt b0 hi))
  have hrl:=hol.len;have h2l:=ho2.len;obtain ⟨ρ',Φ',hm',hr',_,_⟩:=hm.newU (w':=w') b0 g hΦ (S++Sa) hb0 (ownBs d (res.cells++ds)) hbL r0 G kp (fun h hne hns hlt=>c6.block h fun h'=>by
      rcases h' with h' | h'
      · exact absurd hlt (Nat.not_lt.2 h')
      · rcases List.mem_cons.1 h' with e|h'
        · exact hne e
        · rw [<- List.flatMap_append] at h'
          obtain ⟨c,hc,hhc⟩:=List.mem_flatMap.1 h';exact hns c hc hhc) c6.shp (fun b hb=>(k2 b hb).1) k3
    (fun b hb h hh=>by
      have hin:=(k2 b hb).2 h hh;rcases c5 h (by rcases List.mem_append.1 hin with hin|hin;exact List.mem_append_right _ hin;exact List.mem_append_left _ hin) with h'|h'
      · rw [<- List.flatMap_append] at h'
        obtain ⟨c,hc,hhc⟩:=List.mem_flatMap.1 h';exact .inl ⟨c,hc,hhc⟩
      · exact .inr h') hLlt (fun ρ' Φ' _ _ _ b x hx=>k1 b x hx ρ' Φ') (.box (mixC cs bs (ownCs (d+1000*res.cells.length) ds)))
    (fun ρ' Φ' _ hρr hΨ=>by
      have hcs:=k4 ρ' Φ' hρr;obtain ⟨e1,e2⟩:=hmx ρ' Φ' hΨ (ownCs (d+1000*res.cells.length) ds) (by rw [jdp];omega) (fun k hk=>by
        have:=hcs (res.cells.length+k) (by rw [jdp,List.length_append];rw [jdp] at hk;omega);simp only [jgy] at this;rw [List.getElem_append_right (by rw [jdp];omega),getDR Kf] at this;have e3:res.cells.length+k - ur.length=k:=by omega
        rw [e3] at this;simpa [jdp] using this)
      rw [hρ];refine .box g us' E' _ c1 (by simpa using e1) fun k hk=>?_;have:=e2 k hk;rw [List.getD_eq_getElem?_getD] at this;rw [Array.getD_eq_getD_getElem?];simpa using this)
  refine hn _ _ (fun h=>by cases h) ⟨_,⟨ρ',Φ',hm'.put (hsh ρ' _ _ (by rw [jdp];exact Nat.le_refl _) fun k hk hk'=>?_) d (by simpa [St.new,St.kill,St.setB,(jgt (S++Sa) st).2] using hd)⟩,hSO⟩;have:=k4 ρ' (InΦ Φ') hr' k (by rw [jdp,List.length_append];omega);simp only [jgy] at this;rw [List.getElem_append_left hk',getDL Kf] at this;exact this
end
theorem jgd {P:Program} {k:List Itm} {st:St} {vs:List ResultVar} {kv:Nat->Value} {bs:List BC} {R:List D->Res->Prop} {ds:List D} {res:Res} (h:RetX P vs kv bs ds res st) (hR:R ds res) :
  SK P (.code .ret :: k) st (fun st' => ∃ ds res,R ds res/\RetX P vs kv bs ds res st'):=jat ⟨ds,res,hR,h⟩
theorem PX.mono {P:Program} {f:FuncId} {bs:List BC} {as:List AM} {R R':List D->Res->Prop} (h:PX P f bs as R) (hR:∀ ds res,R ds res->R' ds res):PX P f bs as R' :=
 ⟨h.1,fun w g us E vs Fb Fa hg hb ha hnd ok gl=>(h.2 w g us E vs Fb Fa hg hb ha hnd ok gl).mono fun e w' ⟨v,us',E',ds,res,Gb,F,h0,h1,h2,h3,h4,h5,h6,h7⟩=>⟨v,us',E',ds,res,Gb,F,hR _ _ h0,h1,h2,h3,h4,h5,h6,h7⟩⟩
def PE (P:Program) (f:FuncId) (as:List RP) (Q:Res->Prop):Prop :=
 (∀ (args:Array Value) (W:World),(callFunc f args).run P W = .ok (.enter f args) W) /\
 ∀ (w:World) (vs:List Value),Glb.ok w->VwL w vs as->Calls P f vs.toArray w fun e w' => ∃ res v F,Q res/\e = .returned v/\OwR w' v res F/\F.Nodup/\(∀ g∈F,w.heap.size<=g)/\Below w.heap.size w w'
theorem PC.pe {P:Program} {f:FuncId} {as:List RP} {Q:Res->Prop} {res:Res} (h:PC P f as res) (hQ:Q res):PE P f as Q :=
 ⟨h.1,fun w vs ok hv=>(h.2 w vs ok hv).mono fun e w' ⟨v,F,h1,h2,h3,h4,h5⟩=>⟨res,v,F,hQ,h1,h2,h3,h4,h5⟩⟩
theorem PE.mono {P:Program} {f:FuncId} {as:List RP} {Q Q':Res->Prop} (h:PE P f as Q) (hQ:∀ r,Q r->Q' r):PE P f as Q' :=
 ⟨h.1,fun w vs ok hv=>(h.2 w vs ok hv).mono fun e w' ⟨res,v,F,h0,h1,h2,h3,h4,h5⟩=>⟨res,v,F,hQ _ h0,h1,h2,h3,h4,h5⟩⟩
theorem jho {P : Program} {f : FuncId} {fn : Func} {c : Code} {n : Nat} {vs : List ResultVar} {as : List RP} {Q : Res -> Prop} (hf : P.funcs[f]? = some fn) (h : FitL as -> SK P [.code c] (St.enter n as) (fun st' => ∃ res, Q res /\ jbc P vs res st'))
  (hb:fn.body=some c:=by exact rfl) (hn:fn.ntmps=n:=by exact rfl) (hvs:fn.results=⟨vs⟩:=by exact rfl)
  (hname : (fn.name == "runtime.NumGoroutine") = false := by kernel_rfl) (hle : Nat.ble as.length n = true := by exact rfl) (hnb : Nat.ble n 1000 = true := by exact rfl) : PE P f as Q := by
 refine ⟨fun args W=>by simp only [beq_eq_false_iff_ne] at hname;simp [callFunc,hf,hname,hb],fun w us ok hus=>?_⟩;have hsz:us.toArray.size=us.length:=rfl;refine calls_of_wp hf hb ?_;rw [hn];refine Code.wp_mono ?_ ((h hus.fit).lv ⟨w,fun _=>False,fun _=>none,fun _ _=>rfl,ok,fun _ _ h=>h⟩ _ w ⟨_,_,Sm.enter ok hus (by simpa using hle) (by simpa using hnb)⟩);rintro e a' w' ⟨st',⟨ρ,Φ,hm⟩,hq⟩;have fin:(∃ res,Q res/\jbc P vs res st')->bodyPost P fn (fun e w' => ∃ res v F,Q res/\e = .returned v/\OwR w' v res F/\F.Nodup/\(∀ g∈F,w.heap.size<=g)/\Below w.heap.size w w') .normal a' w':=fun ⟨res,hQ,hr⟩=>by
  obtain ⟨v,F,h1,h2,h3,h4⟩:=hr.run hm hvs;exact ⟨hm.defers,v,h1,res,v,F,hQ,rfl,h2,h3,fun g hg=>(h4 g hg).elim id False.elim,⟨hm.below.os,hm.below.tape,hm.below.output,hm.below.size,fun k hk=>hm.below.block k fun h=>h.elim (fun h=>Nat.lt_irrefl _ (Nat.lt_of_lt_of_le hk h)) id⟩⟩
 cases e with
 | normal=>exact fin hq
 | ret=>exact fin (by rw [LV.ret] at hq;exact hq)
 | exit id=>exact (hq:False).elim
 | goto l=>exact (LV.bad trivial hq).elim
 | panic c=>exact (LV.bad trivial hq).elim
 | outgrown=>exact (LV.bad trivial hq).elim
theorem jgp {P:Program} {k:List Itm} {st:St} {vs:List ResultVar} {Q:Res->Prop} {res:Res} (h:jbc P vs res st) (hQ:Q res) :
  SK P (.code .ret :: k) st (fun st' => ∃ res,Q res/\jbc P vs res st'):=jat ⟨res,hQ,h⟩
section
variable {P:Program} {ops:Array Oper} {mu:Nat->Bool} {r:OT} {st:St} {K:St->Prop} {i:Nat} {ty:TypeId} {pos:String} {af:Array Edge}
theorem callE_wp {xs:List Operand} {ts:Array TypeId} {dst:Option Tmp} {fid:FuncId} {as:List RP} {Q0:Res->Prop} {w0:Ctx} {w:World} {ρ:Nat->Option Nat} {Φ:Nat->List Nat} {a:Act} {next:Act->World->Prop} {Q:Exit->Act->World->Prop}
  (hm:Sm w0 ρ Φ st a w) (ha:SeA st xs as) (hc:PE P fid as Q0)
  (h:∀ res,Q0 res -> ∀ v w' F,OwR w' v res F->F.Nodup->(∀ g∈F,w.heap.size<=g)->Below w.heap.size w w'->next (a.put dst v) w') :
  Oper.wp P ⟨dst,.call { callee:=.value (.func fid),args:=⟨xs⟩,argTypes:=ts },ty,pos,af,none⟩ a w next Q:=by
 have hcalls:=hc.2 w _ hm.below.ok (SeA.vw hm ha);have hex:(execOp a.eval ⟨dst,.call { callee:=.value (.func fid),args:=⟨xs⟩,argTypes:=ts },ty,pos,af,none⟩).run P w = .ok (.enter fid (xs.map a.eval).toArray) w:=by
  simp only [execOp,resolve,Sem.run_bind,Act.eval];simp [Deferred.ofValue,invoke];exact hc.1 _ _
 unfold Oper.wp;rw [hex];refine Calls.mono hcalls ?_;rintro e w' ⟨res,v,F,h0,rfl,h1,h2,h3,h4⟩;exact h res h0 v w' F h1 h2 h3 h4
theorem jep {xs:List Operand} {ts:Array TypeId} {d:Nat} {fid:FuncId} {as:List RP} {Q0:Res->Prop} (ha:SeA st xs as) (hc:PE P fid as Q0)
  (hd:Nat.blt d st.n=true) (h:∀ res,Q0 res->SO P ops mu r (st.put d (res.shape (res.cells.map C.d))) K) :
  SO P ops mu (.cons (some ⟨some d,.call { callee:=.value (.func fid),args:=⟨xs⟩,argTypes:=ts },ty,pos,af,none⟩,i,false) r) st K:=by
 refine so_a fun w0 a w hs next Q hn=>?_;obtain ⟨ρ,Φ,hm⟩:=hs;refine callE_wp hm ha hc fun res hQ v w' F ho hnd hlow hb=>hn _ _ (fun _ => .of hb) ⟨_,⟨ρ,Φ,(hm.later hb).put ?_ d (by simpa using hd)⟩,h res hQ⟩;obtain ⟨us,hol,hsh⟩:=ho.open;refine hsh ρ (InΦ Φ) _ Yby fun k hk hk'=>?_;simp only [List.getElem_map];obtain ⟨Fs,hF,hOw⟩:=hol.split;obtain ⟨F',h1,h2⟩:=(hOw k hk).vw;refine .d _ _ F' h1 fun b hb' hi=>?_;have hbF:b∈F:=by rw [hF];exact jcj.2 ⟨k,hk,h2 b hb'⟩
 have:=hlow b hbF;obtain ⟨c,hc'⟩:=hi;have:=hm.lt hc';omega
end
section
variable {P:Program} {st:St} {dst:Option Tmp} {ty:TypeId} {pos:String} {af:Array Edge} {T T':TypeId} {x y:Operand}
theorem nil_cmp {E:TypeId} (hT:P.underlying T=some (.slice E)) (ao:Option Addr) (n c:Nat) (w:World) :
  (do eqGuard .eql T x y (.slice ao n c) (.slice none 0 0);binOp .eql T (.slice ao n c) (.slice none 0 0):Sem Value).run P w = .ok (.bool ao.isNone) w /\
  (do eqGuard .neq T x y (.slice ao n c) (.slice none 0 0);binOp .neq T (.slice ao n c) (.slice none 0 0):Sem Value).run P w = .ok (.bool (!ao.isNone)) w:=by
 have h1:=Go.Lib.run_eql_slice_nil (P:=P) w T E ao n c 0 0 hT;have h2:=Go.run_neq_slice_nil_any (P:=P) w T E ao n c 0 0 hT;constructor
 ·simp only [Sem.run_bind,eqGuard];simp [h1]
 ·simp only [Sem.run_bind,eqGuard];simp [h2]
theorem jjt {b:Bool} (hy:st.ev y = .c (.d (.lit (.slice none 0 0)))) (ht:tIsSl P T=true)
  (h:∀ (w0:Ctx) ρ Φ a w,Sm w0 ρ Φ st a w -> ∃ ao n c,a.eval x = .slice ao n c/\ao.isNone=b) :
  Qt P ⟨dst,.binOp .eql T x y T',ty,pos,af,none⟩ st (.c (.d (.lit (.bool b))))/\Qt P ⟨dst,.binOp .neq T x y T',ty,pos,af,none⟩ st (.c (.d (.lit (.bool (!b))))):=by
 obtain ⟨E,hT⟩:=jki ht;constructor
 ·intro w0 ρ Φ a w hm;obtain ⟨ao,n,c,hx,hb⟩:=h w0 ρ Φ a w hm;have hy':a.eval y = .slice none 0 0:=FR.lit_inv (by rw [<- hy];exact hm.ev y);refine ⟨.bool b,fun w' _=>?_,.litI rfl⟩;have:=(nil_cmp (x:=x) (y:=y) hT ao n c w').1;rw [hb] at this;simp only [Sem.run_bind] at this;simp only [execOp,hx,hy',Sem.run_bind];generalize Sem.run P (eqGuard .eql T x y (.slice ao n c) (.slice none 0 0)) w'=z at *;cases z with
  | ok _ w1=>simp only [Result.andThen_ok] at this ⊢;simp [this]
  | halt _ _=>simp [Result.andThen] at this
 ·intro w0 ρ Φ a w hm;obtain ⟨ao,n,c,hx,hb⟩:=h w0 ρ Φ a w hm;have hy':a.eval y = .slice none 0 0:=FR.lit_inv (by rw [<- hy];exact hm.ev y);refine ⟨.bool (!b),fun w' _=>?_,.litI rfl⟩;have:=(nil_cmp (x:=x) (y:=y) hT ao n c w').2;rw [hb] at this;simp only [Sem.run_bind] at this;simp only [execOp,hx,hy',Sem.run_bind];generalize Sem.run P (eqGuard .neq T x y (.slice ao n c) (.slice none 0 0)) w'=z at *;cases z with
  | ok _ w1=>simp only [Result.andThen_ok] at this ⊢;simp [this]
  | halt _ _=>simp [Result.andThen] at this
theorem qt_eql_nil0 (hx:st.ev x = .c (.d (.lit (.slice none 0 0)))) (hy:st.ev y = .c (.d (.lit (.slice none 0 0)))) (ht:tIsSl P T=true):Qt P ⟨dst,.binOp .eql T x y T',ty,pos,af,none⟩ st (.c (.d (.lit (.bool true)))) :=
 (jjt (b:=true) hy ht fun w0 ρ Φ a w hm=>⟨none,0,0,FR.lit_inv (by rw [<- hx];exact hm.ev x),rfl⟩).1
theorem jmx (hx:st.ev x = .c (.d (.lit (.slice none 0 0)))) (hy:st.ev y = .c (.d (.lit (.slice none 0 0)))) (ht:tIsSl P T=true):Qt P ⟨dst,.binOp .neq T x y T',ty,pos,af,none⟩ st (.c (.d (.lit (.bool false)))) :=
 (jjt (b:=true) hy ht fun w0 ρ Φ a w hm=>⟨none,0,0,FR.lit_inv (by rw [<- hx];exact hm.ev x),rfl⟩).2
theorem nil_ls {b sz off n:Nat} (hx:st.ev x = .c (.ls b sz off n)) (h0:0 < n) (w0:Ctx) (ρ:Nat->Option Nat) (Φ:Nat->List Nat) (a:Act) (w:World) (hm:Sm w0 ρ Φ st a w):∃ ao n c,a.eval x = .slice ao n c/\ao.isNone=false:=by
 have h:=hm.ev x;rw [hx] at h;rcases jgb h.c_inv with ⟨_,_,_,h1⟩|⟨g,cap,cs,E,hρ,hv,_⟩
 ·omega
 ·exact ⟨_,_,_,hv,rfl⟩
theorem jnb {b sz off n:Nat} (hx:st.ev x = .c (.ls b sz off n)) (hy:st.ev y = .c (.d (.lit (.slice none 0 0)))) (ht:tIsSl P T=true) (h0:0 < n):Qt P ⟨dst,.binOp .eql T x y T',ty,pos,af,none⟩ st (.c (.d (.lit (.bool false)))) :=
 (jjt (b:=false) hy ht (nil_ls hx h0)).1
theorem jmw {b sz off n:Nat} (hx:st.ev x = .c (.ls b sz off n)) (hy:st.ev y = .c (.d (.lit (.slice none 0 0)))) (ht:tIsSl P T=true) (h0:0 < n):Qt P ⟨dst,.binOp .neq T x y T',ty,pos,af,none⟩ st (.c (.d (.lit (.bool true)))) :=
 (jjt (b:=false) hy ht (nil_ls hx h0)).2
end
section
variable {w:World} {X:List Nat}
theorem Ow.vx {v:Value} {x:D} {F:List Nat} (h:Ow w v x F) (hF:∀ b∈F,b ∉ X):VwX w X v x:=by
 obtain ⟨F',h1,h2⟩:=h.vw;exact ⟨F',h1,fun b hb=>hF b (h2 b hb)⟩
theorem OwL.vx {us:List Value} {xs:List D} {F:List Nat} (h:OwL w us xs F):(∀ b∈F,b ∉ X)->us.length=xs.length /\ ∀ k (hk:k < xs.length),VwX w X (us.getD k undef) xs[k]:=by
 induction h with
 | nil=>exact fun _=>⟨rfl,fun k hk=>by simp at hk⟩
 | cons h t ih =>
  intro hF;obtain ⟨h1,h2⟩:=ih fun b hb=>hF b (List.mem_append_right _ hb);refine ⟨by simp [h1],fun k hk=>?_⟩;cases k with
  | zero=>simpa using h.vx fun b hb=>hF b (List.mem_append_left _ hb)
  | succ k=>simpa using h2 k (by simpa using hk)
theorem OwP.vx {v:Value} {p:RP} {F:List Nat} (h:OwP w v p F) (hF:∀ b∈F,b ∉ X):VxP w X v p:=by
 cases h with
 | c h=>exact .c (h.vx hF)
 | g h=>obtain ⟨h1,h2⟩:=h.vx hF;exact .g h1 h2
theorem OwPL.vx {us:List Value} {xs:List RP} {F:List Nat} (h:OwPL w us xs F):(∀ b∈F,b ∉ X)->VxL w X us xs:=by
 induction h with
 | nil=>exact fun _=>⟨rfl,fun k hk=>by simp at hk⟩
 | cons h t ih =>
  intro hF;obtain ⟨h1,h2⟩:=ih fun b hb=>hF b (List.mem_append_right _ hb);refine ⟨by simp [h1],fun k hk=>?_⟩;cases k with
  | zero=>simpa using h.vx fun b hb=>hF b (List.mem_append_left _ hb)
  | succ k=>simpa using h2 k (by simpa using hk)
theorem OwR.vx {v:Value} {r:Res} {F:List Nat} (h:OwR w v r F) (hF:∀ b∈F,b ∉ X):VxR w X v r:=by
 cases h with
 | p h=>exact .p (h.vx hF)
 | t h=>exact .t (h.vx hF)
end
theorem PC.pv {P:Program} {f:FuncId} {as:List RP} {r:Res} (h:PC P f as r):PV P f as r :=
 ⟨h.1,fun w vs X _ hlt ok _ hv=>(h.2 w vs ok hv.vw).mono fun e w' ⟨v,F,h1,h2,h3,h4,h5⟩=>⟨v,h1,h2.vx fun g hg hx=>Nat.not_lt.2 (h4 g hg) (hlt g hx),h5⟩⟩
section
variable {P:Program} {ops:Array Oper} {mu:Nat->Bool} {r:OT} {st:St} {K:St->Prop} {i:Nat} {ty:TypeId} {pos:String} {af:Array Edge} {xs:List Operand} {ts:Array TypeId} {d:Nat} {fid:FuncId} {as:List RP} {res:Res}
theorem Ua (ha:SeA st xs as:=by first|((repeat (first | exact SeA.nil | apply SeA.cons (.c (.d _)) | apply SeA.cons (.c (.all _ _ _ _ rfl Ybv)) | (apply SeA.cons; (· (apply SeP.g; (repeat (first | exact SeL.nil | apply SeL.cons (.d _) | apply SeL.cons (.all _ _ _ _ rfl Ybv) | (apply SeL.cons; exact Ybk)))))) | (apply SeA.cons; (· (apply SeP.c; apply Se.pt; (· rfl); (· rfl); (· (repeat (first | exact SeL.nil | apply SeL.cons (.d _) | apply SeL.cons (.all _ _ _ _ rfl Ybv) | (apply SeL.cons; exact Ybk))))))) | (apply SeA.cons; (· (apply SeP.c; apply Se.fn; (repeat (first | exact SeL.nil | apply SeL.cons (.d _) | apply SeL.cons (.all _ _ _ _ rfl Ybv) | (apply SeL.cons; exact Ybk)))))) | apply SeA.cons (.c (.nil _ Ybr))));done)|fail) (c:PC P fid as res) (h:SO P ops mu r ((st.new (ownBs d res.cells)).put d (res.shape (ownCs d res.cells))) K) (hd:Nat.blt d st.n=true:=by exact rfl) (hl:Nat.ble res.cells.length 900=true:=by exact rfl):SO P ops mu (.cons (some ⟨some d,.call { callee:=.value (.func fid),args:=⟨xs⟩,argTypes:=ts },ty,pos,af,none⟩,i,false) r) st K:=jbl ha c hd hl h
theorem Ub (ha:SeA st xs as:=by first|((repeat (first | exact SeA.nil | apply SeA.cons (.c (.d _)) | apply SeA.cons (.c (.all _ _ _ _ rfl Ybv)) | (apply SeA.cons; (· (apply SeP.g; (repeat (first | exact SeL.nil | apply SeL.cons (.d _) | apply SeL.cons (.all _ _ _ _ rfl Ybv) | (apply SeL.cons; exact Ybk)))))) | (apply SeA.cons; (· (apply SeP.c; apply Se.pt; (· rfl); (· rfl); (· (repeat (first | exact SeL.nil | apply SeL.cons (.d _) | apply SeL.cons (.all _ _ _ _ rfl Ybv) | (apply SeL.cons; exact Ybk))))))) | (apply SeA.cons; (· (apply SeP.c; apply Se.fn; (repeat (first | exact SeL.nil | apply SeL.cons (.d _) | apply SeL.cons (.all _ _ _ _ rfl Ybv) | (apply SeL.cons; exact Ybk)))))) | apply SeA.cons (.c (.nil _ Ybr))));done)|fail) (c:PC P fid as res) (h:SO P ops mu r (st.put d (res.shape (res.cells.map C.d))) K) (hd:Nat.blt d st.n=true:=by exact rfl):SO P ops mu (.cons (some ⟨some d,.call { callee:=.value (.func fid),args:=⟨xs⟩,argTypes:=ts },ty,pos,af,none⟩,i,false) r) st K:=jaf ha c hd h
theorem Uc (ha:SdA st xs as:=by first|((repeat (first | exact SdA.nil | apply SdA.c rfl | (apply SdA.g rfl; (· (repeat (first | exact SdL.nil | apply SdL.cons))))));done)|fail) (c:PV P fid as res) (h:SO P ops mu r (st.put d (res.shape (res.cells.map C.d))) K) (hd:Nat.blt d st.n=true:=by exact rfl):SO P ops mu (.cons (some ⟨some d,.call { callee:=.value (.func fid),args:=⟨xs⟩,argTypes:=ts },ty,pos,af,none⟩,i,false) r) st K:=jcr ha c hd h
end
structure Laa (G:Prop):Prop where o:G
theorem Maa {G G':Prop} (h:G') (t:Laa G'->G:=by intro h;first|(first|(refine jaa (.binOp _ _ _ _ _) ?_;first|apply zcf h.o|apply zad h.o|apply zac h.o|apply zav h.o|apply zbn h.o|apply zbe h.o|apply zbc h.o|apply zaz h.o|apply zai h.o|apply zcl h.o|apply zck h.o|apply zbk h.o)|(refine jaa (.call _) ?_;first|apply zas h.o|apply zaq h.o|apply zba h.o)|(refine jaa (.load _ _) ?_;first|apply zap h.o|apply zaf h.o|apply zak h.o|apply zae h.o|apply zax h.o|apply zam h.o|apply zat h.o|apply zbz h.o|apply zan h.o|apply zbu h.o|apply zbx h.o)|(refine jaa (.fieldAddr _ _ _) ?_;first|apply zbl h.o|apply zbv h.o|apply zbb h.o|apply zbd h.o|apply zbh h.o|apply zbf h.o|apply zbq h.o|apply zay h.o|apply zbg h.o|apply zcu h.o|apply zcp h.o|apply zci h.o|apply zch h.o|apply zbj h.o|apply zaw h.o)|(refine jaa (.indexAddr _ _ _) ?_;first|apply zal h.o|apply zao h.o)|apply zab h.o|apply zaa h.o|apply zag h.o|apply zah h.o|apply zaj h.o|apply jai h.o|apply jaj h.o|apply jah h.o|apply jaz h.o|apply jaq rfl h.o|apply jam h.o|exact jbg rfl h.o|exact jay rfl h.o|fail);done|fail):G:=t ⟨h⟩
theorem Wac {G G':Prop} (h:G') (t:Laa G'->G:=by intro h;refine jaa (.box 24 _) ?_;refine jax rfl rfl ?_;exact h.o):G:=t ⟨h⟩
theorem Wai {G G':Prop} (h:G') (t:Laa G'->G:=by intro h;refine jaa (.box 27 _) ?_;refine jax rfl rfl ?_;exact h.o):G:=t ⟨h⟩
theorem Wao {G G':Prop} (h:G') (t:Laa G'->G:=by intro h;refine jaa (.box 29 _) ?_;refine jax rfl rfl ?_;exact h.o):G:=t ⟨h⟩
theorem Was {G G':Prop} (h:G') (t:Laa G'->G:=by intro h;refine jaa (.box 31 _) ?_;refine jax rfl rfl ?_;exact h.o):G:=t ⟨h⟩
theorem Wax {G G':Prop} (h:G') (t:Laa G'->G:=by intro h;refine jaa (.box 33 _) ?_;refine jax rfl rfl ?_;exact h.o):G:=t ⟨h⟩
theorem Wba {G G':Prop} (h:G') (t:Laa G'->G:=by intro h;refine jaa (.box 38 _) ?_;refine jax rfl rfl ?_;exact h.o):G:=t ⟨h⟩
theorem Wbb {G G':Prop} (h:G') (t:Laa G'->G:=by intro h;refine jaa (.box 39 _) ?_;refine jax rfl rfl ?_;exact h.o):G:=t ⟨h⟩
theorem Wbc {G G':Prop} (h:G') (t:Laa G'->G:=by intro h;refine jaa (.box 41 _) ?_;refine jax rfl rfl ?_;exact h.o):G:=t ⟨h⟩
theorem Wbd {G G':Prop} (h:G') (t:Laa G'->G:=by intro h;refine jaa (.box 42 _) ?_;refine jax rfl rfl ?_;exact h.o):G:=t ⟨h⟩
theorem Wbe {G G':Prop} (h:G') (t:Laa G'->G:=by intro h;refine jaa (.box 44 _) ?_;refine jax rfl rfl ?_;exact h.o):G:=t ⟨h⟩
theorem Wbw {G G':Prop} (h:G') (t:Laa G'->G:=by intro h;refine jaa (.box 110 _) ?_;refine jax rfl rfl ?_;exact h.o):G:=t ⟨h⟩
theorem Wcg {G G':Prop} (h:G') (t:Laa G'->G:=by intro h;refine jaa (.box 176 _) ?_;refine jax rfl rfl ?_;exact h.o):G:=t ⟨h⟩
theorem Wcu {G G':Prop} (h:G') (t:Laa G'->G:=by intro h;refine jaa (.box 77 _) ?_;refine jax rfl rfl ?_;exact h.o):G:=t ⟨h⟩
theorem Wbp {G G':Prop} (h:G') (t:Laa G'->G:=by intro h;first|(refine jaa (.call ⟨.builtin .append,_,#[25,25]⟩) ?_;((apply jbx (sz:=1) (by_:=8);(·rfl);(·rfl);exact Ybt;(·exact .see _ _ _ (by (exact jle.map)));exact Ybr;exact Kb;exact Ybr;exact Kf;exact Kf;(·rfl);(·rfl);(·rfl)));exact h.o)|fail):G:=t ⟨h⟩
theorem Waa {G G':Prop} (h:G') (t:Laa G'->G:=by intro h;refine jaa (.makeSlice 25 _ _) ?_;(refine jgo (by_:=8) (z:=.int .i64 0) (y:=.lit (.int .i64 0)) rfl rfl Kb Kb rfl (fun _ => .lit _ rfl) Kf Kf Kf rfl ?_);exact h.o):G:=t ⟨h⟩
theorem Wcp {G G':Prop} (h:G') (t:Laa G'->G:=by intro h;first|(refine jaa (.slice 9 _ (some _) (some _) none) ?_;(refine jab (jgr rfl rfl rfl Kb Kf Kf (by (first|omega|(simp at *;omega)))) rfl ?_);exact h.o)|fail):G:=t ⟨h⟩
theorem Wck {G G':Prop} (h:G') (t:Laa G'->G:=by intro h;first|(refine jaa (.buildSlice 202 1 _) ?_;(apply jaw (sz:=1) (by_:=8);exact Kb;exact Ybr;exact Kl;exact Ybr;(·rfl);(·rfl);(·rfl));exact h.o)|fail):G:=t ⟨h⟩
theorem Wcl {G G':Prop} (h:G') (t:Laa G'->G:=by intro h;first|(refine jaa (.call ⟨.builtin .append,_,#[202,202]⟩) ?_;((apply jbx (sz:=1) (by_:=8);(·rfl);(·rfl);exact Ybt;exact Kn;exact Ybr;exact Kb;exact Ybr;exact Kf;exact Kf;(·rfl);(·rfl);(·rfl)));exact h.o)|fail):G:=t ⟨h⟩
theorem Wci {G G':Prop} (h:G') (t:Laa G'->G:=by intro h;first|(refine jaa (.buildSlice 25 3 _) ?_;(apply jaw (sz:=1) (by_:=8);exact Kb;exact Ybr;exact Kl;exact Ybr;(·rfl);(·rfl);(·rfl));exact h.o)|fail):G:=t ⟨h⟩
theorem Wcj {G G':Prop} (h:G') (t:Laa G'->G:=by intro h;first|(refine jaa (.buildSlice 22 6 _) ?_;(apply jaw (sz:=1) (by_:=24);exact Kb;exact Ybr;exact Ks;exact Ybr;(·rfl);(·rfl);(·rfl));exact h.o)|fail):G:=t ⟨h⟩
theorem Wce {G G':Prop} (h:G') (t:Laa G'->G:=by intro h;first|(refine jaa (.buildSlice 209 0 _) ?_;(apply jaw (sz:=2) (by_:=16);exact Kb;exact Ybr;exact Yab;exact Ybr;(·rfl);(·rfl);(·rfl));exact h.o)|fail):G:=t ⟨h⟩
theorem Wab {G G':Prop} (h:G') (t:Laa G'->G:=by intro h;refine jaa (.store 3 _ _) ?_;((refine jcp rfl rfl rfl rfl (.lit _) Yby Yby Kb Ybg rfl ?_;simp only [St.drop]));exact h.o):G:=t ⟨h⟩
theorem Wad {G G':Prop} (h:G') (t:Laa G'->G:=by intro h;refine jaa (.store 3 _ _) ?_;(refine jbk rfl rfl rfl rfl Kb rfl rfl ?_);exact h.o):G:=t ⟨h⟩
theorem Waj {G G':Prop} (h:G') (t:Laa G'->G:=by intro h;refine jaa (.fieldAddr 27 _ 1) ?_;(refine jab (jad (off:=1) rfl Kb) rfl ?_);exact h.o):G:=t ⟨h⟩
theorem Wae {G G':Prop} (h:G') (t:Laa G'->G:=by intro h;refine jaa (.fieldAddr 24 _ 3) ?_;(refine jab (jad (off:=3) rfl Kb) rfl ?_);exact h.o):G:=t ⟨h⟩
theorem Wak {G G':Prop} (h:G') (t:Laa G'->G:=by intro h;refine jaa (.store 39 _ _) ?_;(refine jan rfl rfl rfl Kb rfl rfl ?_);exact h.o):G:=t ⟨h⟩
theorem Waf {G G':Prop} (h:G') (t:Laa G'->G:=by intro h;refine jaa (.store 22 _ _) ?_;(refine jbk rfl rfl rfl rfl Kb rfl rfl ?_);exact h.o):G:=t ⟨h⟩
theorem Wal {G G':Prop} (h:G') (t:Laa G'->G:=by intro h;refine jaa (.fieldAddr 27 _ 2) ?_;(refine jab (jad (off:=2) rfl Kb) rfl ?_);exact h.o):G:=t ⟨h⟩
theorem Wch {G G':Prop} (h:G') (t:Laa G'->G:=by intro h;refine jaa (.load 176 _) ?_;(refine jab (jdo rfl (by kernel_rfl:tAgg _ 176 2=true) Yby) rfl ?_);exact h.o):G:=t ⟨h⟩
theorem Wbx {G G':Prop} (h:G') (t:Laa G'->G:=by intro h;first|(refine jaa (.call ⟨.builtin .append,_,#[25,25]⟩) ?_;((apply jbx (sz:=1) (by_:=8);(·rfl);(·rfl);exact Ybt;(·exact .part _ _ _ _ _ rfl Ybg (by (exact jle.take jle.map _)));exact Ybr;exact Kb;exact Ybr;exact Kf;exact Kf;(·rfl);(·rfl);(·rfl)));exact h.o)|fail):G:=t ⟨h⟩
theorem Wag {G G':Prop} (h:G') (t:Laa G'->G:=by intro h;refine jaa (.store 38 _ _) ?_;(refine jan rfl rfl rfl Kb rfl rfl ?_);exact h.o):G:=t ⟨h⟩
theorem Wam {G G':Prop} (h:G') (t:Laa G'->G:=by intro h;refine jaa (.store 25 _ _) ?_;(refine jbk rfl rfl rfl rfl Kb rfl rfl ?_);exact h.o):G:=t ⟨h⟩
theorem Wap {G G':Prop} (h:G') (t:Laa G'->G:=by intro h;refine jaa (.load 27 _) ?_;(refine jab (jae rfl rfl (by kernel_rfl:tAgg _ 27 3=true) rfl) rfl ?_);exact h.o):G:=t ⟨h⟩
theorem Wcs {G G':Prop} (h:G') (t:Laa G'->G:=by intro h;refine jaa (.field 178 _ 0) ?_;refine jab (jma (off:=0) (T:=3) rfl Kb Kb rfl) rfl ?_;exact h.o):G:=t ⟨h⟩
theorem Wcm {G G':Prop} (h:G') (t:Laa G'->G:=by intro h;first|(refine jaa (.buildSlice 202 0 _) ?_;(apply jaw (sz:=1) (by_:=8);exact Kb;exact Ybr;exact Yab;exact Ybr;(·rfl);(·rfl);(·rfl));exact h.o)|fail):G:=t ⟨h⟩
theorem Wcn {G G':Prop} (h:G') (t:Laa G'->G:=by intro h;refine jaa (.call ⟨.builtin .len,_,#[202]⟩) ?_;(refine jab (jbb rfl Kb) rfl ?_);exact h.o):G:=t ⟨h⟩
theorem Wbk {G G':Prop} (h:G') (t:Laa G'->G:=by intro h;first|(refine jaa (.load 25 _) ?_;(first|refine jab (jag rfl rfl Kb rfl) rfl ?_|refine jab (jap rfl Kb rfl) rfl ?_);exact h.o)|fail):G:=t ⟨h⟩
theorem Wbq {G G':Prop} (h:G') (t:Laa G'->G:=by intro h;first|(refine jaa (.buildSlice 25 0 _) ?_;(apply jaw (sz:=1) (by_:=8);exact Kb;exact Ybr;exact Yab;exact Ybr;(·rfl);(·rfl);(·rfl));exact h.o)|fail):G:=t ⟨h⟩
theorem Wbl {G G':Prop} (h:G') (t:Laa G'->G:=by intro h;first|(refine jaa (.load 3 _) ?_;(first|refine jab (jag rfl rfl Kb rfl) rfl ?_|refine jab (jap rfl Kb rfl) rfl ?_);exact h.o)|fail):G:=t ⟨h⟩
theorem Wcr {G G':Prop} (h:G') (t:Laa G'->G:=by intro h;refine jaa (.slice 9 _ (some _) (some _) none) ?_;(refine jab (jgr rfl rfl rfl Kb Kf Kf Kf) rfl ?_);exact h.o):G:=t ⟨h⟩
theorem Wbr {G G':Prop} (h:G') (t:Laa G'->G:=by intro h;first|(refine jaa (.buildSlice 25 1 _) ?_;(apply jaw (sz:=1) (by_:=8);exact Kb;exact Ybr;exact Kl;exact Ybr;(·rfl);(·rfl);(·rfl));exact h.o)|fail):G:=t ⟨h⟩
theorem Wbs {G G':Prop} (h:G') (t:Laa G'->G:=by intro h;first|(refine jaa (.call ⟨.builtin .append,_,#[25,25]⟩) ?_;((apply jbx (sz:=1) (by_:=8);(·rfl);(·rfl);exact Ybt;exact Kn;exact Ybr;exact Kb;exact Ybr;exact Kf;exact Kf;(·rfl);(·rfl);(·rfl)));exact h.o)|fail):G:=t ⟨h⟩
theorem Wbm {G G':Prop} (h:G') (t:Laa G'->G:=by intro h;first|(refine jaa (.buildSlice 22 1 _) ?_;(apply jaw (sz:=1) (by_:=24);exact Kb;exact Ybr;exact Ks;exact Ybr;(·rfl);(·rfl);(·rfl));exact h.o)|fail):G:=t ⟨h⟩
theorem Wbn {G G':Prop} (h:G') (t:Laa G'->G:=by intro h;first|(refine jaa (.call ⟨.builtin .append,_,#[22,22]⟩) ?_;((apply jbx (sz:=1) (by_:=24);(·rfl);(·rfl);exact Ybt;exact Kn;exact Ybr;exact Kb;exact Ybr;exact Kf;exact Kf;(·rfl);(·rfl);(·rfl)));exact h.o)|fail):G:=t ⟨h⟩
theorem Wbt {G G':Prop} (h:G') (t:Laa G'->G:=by intro h;first|(refine jaa (.call ⟨.builtin .append,_,#[25,25]⟩) ?_;((apply jbx (sz:=1) (by_:=8);(·rfl);(·rfl);exact Ybo;exact Kn;exact Ybr;exact Kb;exact Ybr;exact Kf;exact Kf;(·rfl);(·rfl);(·rfl)));exact h.o)|fail):G:=t ⟨h⟩
theorem Wbu {G G':Prop} (h:G') (t:Laa G'->G:=by intro h;first|(refine jaa (.buildSlice 22 1 _) ?_;(apply jaw (sz:=1) (by_:=24);exact Kb;exact Ybr;(·(repeat(first|exact GvS.nil _|apply GvS.c rfl rfl (.row _ _ _ _ rfl Ybo) rfl)));exact Ybr;(·rfl);(·rfl);(·rfl));exact h.o)|fail):G:=t ⟨h⟩
theorem Wbv {G G':Prop} (h:G') (t:Laa G'->G:=by intro h;first|(refine jaa (.call ⟨.builtin .append,_,#[22,22]⟩) ?_;((apply jbx (sz:=1) (by_:=24);(·rfl);(·rfl);exact Ybo;exact Kn;exact Ybr;exact Kb;exact Ybr;exact Kf;exact Kf;(·rfl);(·rfl);(·rfl)));exact h.o)|fail):G:=t ⟨h⟩
theorem Wcc {G G':Prop} (h:G') (t:Laa G'->G:=by intro h;refine jaa (.alloc 176) ?_;refine jbi (zs:=[.int .i64 0,.int .i64 0]) Kb rfl ?_;exact h.o):G:=t ⟨h⟩
theorem Wcf {G G':Prop} (h:G') (t:Laa G'->G:=by intro h;first|(refine jaa (.buildSlice 209 1 _) ?_;(apply jaw (sz:=2) (by_:=16);exact Kb;exact Ybr;exact Yan;exact Ybr;(·rfl);(·rfl);(·rfl));exact h.o)|fail):G:=t ⟨h⟩
theorem Wcd {G G':Prop} (h:G') (t:Laa G'->G:=by intro h;refine jaa (.store 176 _ _) ?_;(refine jan rfl rfl rfl Kb rfl rfl ?_);exact h.o):G:=t ⟨h⟩
theorem Waq {G G':Prop} (h:G') (t:Laa G'->G:=by intro h;refine jaa (.alloc 41) ?_;refine jbi (zs:=[.int .i64 0,.int .i64 0,.int .i64 0,.slice none 0 0,.slice none 0 0,.int .i64 0,.slice none 0 0,.slice none 0 0,.slice none 0 0,.int .i64 0]) Kb rfl ?_;exact h.o):G:=t ⟨h⟩
theorem War {G G':Prop} (h:G') (t:Laa G'->G:=by intro h;refine jaa (.store 41 _ _) ?_;(refine jan rfl rfl rfl Kb rfl rfl ?_);exact h.o):G:=t ⟨h⟩
theorem Wbo {G G':Prop} (h:G') (t:Laa G'->G:=by intro h;first|(refine jaa (.buildSlice 22 0 _) ?_;(apply jaw (sz:=1) (by_:=24);exact Kb;exact Ybr;exact Yab;exact Ybr;(·rfl);(·rfl);(·rfl));exact h.o)|fail):G:=t ⟨h⟩
theorem Wat {G G':Prop} (h:G') (t:Laa G'->G:=by intro h;refine jaa (.alloc 42) ?_;refine jbi (zs:=[.string ByteArray.empty,.string ByteArray.empty,.int .i64 0]) Kb rfl ?_;exact h.o):G:=t ⟨h⟩
theorem Wau {G G':Prop} (h:G') (t:Laa G'->G:=by intro h;refine jaa (.store 42 _ _) ?_;(refine jan rfl rfl rfl Kb rfl rfl ?_);exact h.o):G:=t ⟨h⟩
theorem Way {G G':Prop} (h:G') (t:Laa G'->G:=by intro h;refine jaa (.store 44 _ _) ?_;(refine jan rfl rfl rfl Kb rfl rfl ?_);exact h.o):G:=t ⟨h⟩
theorem Wbz {G G':Prop} (h:G') (t:Laa G'->G:=by intro h;first|(refine jaa (.buildSlice 35 1 _) ?_;(apply jaw (sz:=1) (by_:=16);exact Kb;exact Ybr;exact Kl;exact Ybr;(·rfl);(·rfl);(·rfl));exact h.o)|fail):G:=t ⟨h⟩
theorem Wct {G G':Prop} (h:G') (t:Laa G'->G:=by intro h;first|(refine jaa (.call ⟨.builtin .append,_,#[35,35]⟩) ?_;((apply jbx (sz:=1) (by_:=16);(·rfl);(·rfl);exact Ybt;exact Kn;exact Ybr;exact Kb;exact Ybr;exact Kf;exact Kf;(·rfl);(·rfl);(·rfl)));exact h.o)|fail):G:=t ⟨h⟩
theorem Wca {G G':Prop} (h:G') (t:Laa G'->G:=by intro h;first|(refine jaa (.call ⟨.builtin .append,_,#[35,35]⟩) ?_;((apply jbx (sz:=1) (by_:=16);(·rfl);(·rfl);exact Ybo;exact Kn;exact Ybr;exact Kb;exact Ybr;exact Kf;exact Kf;(·rfl);(·rfl);(·rfl)));exact h.o)|fail):G:=t ⟨h⟩
theorem Waz {G G':Prop} (h:G') (t:Laa G'->G:=by intro h;refine jaa (.alloc 44) ?_;refine jbi (zs:=[.int .i64 0,.int .i64 0,.int .i64 0,.slice none 0 0,.slice none 0 0,.int .i64 0,.slice none 0 0,.slice none 0 0,.slice none 0 0,.int .i64 0,.string ByteArray.empty,.string ByteArray.empty,.int .i64 0]) Kb rfl ?_;exact h.o):G:=t ⟨h⟩
theorem Wby {G G':Prop} (h:G') (t:Laa G'->G:=by intro h;first|(refine jaa (.move _) ?_;(first|refine jab (jal rfl) rfl ?_|refine jab (jcn rfl) rfl ?_);exact h.o)|fail):G:=t ⟨h⟩
theorem Wcv {G G':Prop} (h:G') (t:Laa G'->G:=by intro h;refine jaa (.alloc 77) ?_;refine jbi (zs:=[.string ByteArray.empty,.string ByteArray.empty]) Kb rfl ?_;exact h.o):G:=t ⟨h⟩
theorem Wcw {G G':Prop} (h:G') (t:Laa G'->G:=by intro h;refine jaa (.store 77 _ _) ?_;(refine jan rfl rfl rfl Kb rfl rfl ?_);exact h.o):G:=t ⟨h⟩
theorem Wcb {G G':Prop} (h:G') (t:Laa G'->G:=by intro h;first|(refine jaa (.buildSlice 35 0 _) ?_;(apply jaw (sz:=1) (by_:=16);exact Kb;exact Ybr;exact Yab;exact Ybr;(·rfl);(·rfl);(·rfl));exact h.o)|fail):G:=t ⟨h⟩
theorem Wav {G G':Prop} (h:G') (t:Laa G'->G:=by intro h;refine jaa (.fieldAddr 31 _ 0) ?_;(refine jab (jad (off:=0) rfl Kb) rfl ?_);exact h.o):G:=t ⟨h⟩
theorem Wan {G G':Prop} (h:G') (t:Laa G'->G:=by intro h;refine jaa (.alloc 39) ?_;refine jbi (zs:=[.int .i64 0,.slice none 0 0,.slice none 0 0]) Kb rfl ?_;exact h.o):G:=t ⟨h⟩
theorem Wah {G G':Prop} (h:G') (t:Laa G'->G:=by intro h;refine jaa (.alloc 38) ?_;refine jbi (zs:=[.int .i64 0,.int .i64 0,.int .i64 0,.slice none 0 0]) Kb rfl ?_;exact h.o):G:=t ⟨h⟩
theorem Wbf {G G':Prop} (h:G') (t:Laa G'->G:=by intro h;refine jaa (.indexAddr 35 _ _) ?_;(refine jab (jca rfl rfl (by kernel_rfl:tSl _ 35 1=true) Kf Kf) rfl ?_);exact h.o):G:=t ⟨h⟩
theorem Wcx {G G':Prop} (h:G') (t:Laa G'->G:=by intro h;refine jaa (.slice 9 _ (some _) none none) ?_;(refine jab (jda rfl rfl Kb Kf (by ((simp at *;omega)))) rfl ?_);exact h.o):G:=t ⟨h⟩
theorem Wbg {G G':Prop} (h:G') (t:Laa G'->G:=by intro h;refine jaa (.store 9 _ _) ?_;((refine jcp rfl rfl rfl rfl (.lit _) Yby Yby Kb Ybg rfl ?_;simp only [St.drop]));exact h.o):G:=t ⟨h⟩
theorem Wcy {G G':Prop} (h:G') (t:Laa G'->G:=by intro h;refine jaa (.slice 35 _ none (some _) none) ?_;(refine jab (jej rfl rfl Kb Kf Kf) rfl ?_);exact h.o):G:=t ⟨h⟩
theorem Wco {G G':Prop} (h:G') (t:Laa G'->G:=by intro h;refine jaa (.call ⟨.builtin .min,_,#[3,3]⟩) ?_;refine jab (qt_min rfl rfl) rfl ?_;exact h.o):G:=t ⟨h⟩
theorem Waw {G G':Prop} (h:G') (t:Laa G'->G:=by intro h;refine jaa (.fieldAddr 31 _ 1) ?_;(refine jab (jad (off:=1) rfl Kb) rfl ?_);exact h.o):G:=t ⟨h⟩
theorem Wbh {G G':Prop} (h:G') (t:Laa G'->G:=by intro h;exact jbn rfl rfl rfl rfl h.o):G:=t ⟨h⟩
theorem Wbi {G G':Prop} (h:G') (t:Laa G'->G:=by intro h;exact jbj rfl rfl rfl rfl h.o):G:=t ⟨h⟩
theorem Wcz {G G':Prop} (h:G') (t:Laa G'->G:=by intro h;exact jcv 1 (fun i=>i == 7) (IT.lt (.step 7 false .nil) fun Y0=>(.step 0 true (.step 1 true (.step 3 true (.step 4 true (.alt 1 (.step 2 false (.step 5 true (.step 6 false (IT.ref true [1,2,4,6,16] [2,4,3013,4013,6013,7013,8013,6] Y0)))) (.step 6 false (.step 2 false (.step 5 true (IT.ref false [1,2,4,6,16] [2,4,3013,4013,6013,7013,8013,6] Y0)))))))))) h.o):G:=t ⟨h⟩
theorem Wcq {G G':Prop} (h:G') (t:Laa G'->G:=by intro h;exact jav 5 (fun _=>false) [0,1,3,4,5,6,7,8,-3,9,10] h.o):G:=t ⟨h⟩
theorem Wbj {G G':Prop} (h:G') (t:Laa G'->G:=by intro h;first|(refine jaa (.binOp .add 3 _ _ _) ?_;(first|refine jab (jas rfl rfl Kf) rfl ?_|refine jab (jpe rfl rfl) rfl ?_);exact h.o)|fail):G:=t ⟨h⟩
theorem Raa {G G':Prop} (h:G') (t:Laa G'->G:=by intro h;apply jat;apply jau;exact Ku;exact h.o):G:=t ⟨h⟩
theorem Rab {G G':Prop} (h:G') (t:Laa G'->G:=by intro h;apply jat;apply jau;(·apply jbc.p;(·(apply GvA.cons;(·(apply RV.cellN (n:=4);(·rfl);(·rfl);exact Kb;(·rfl)));exact Kq);exact GvA.nil);exact Ybr);exact h.o):G:=t ⟨h⟩
theorem Rac {G G':Prop} (h:G') (t:Laa G'->G:=by intro h;apply jat;apply jau;(·apply jbc.p;(·(apply GvA.cons;(·(apply RV.cellN (n:=10);(·rfl);(·rfl);exact Kb;(·rfl)));exact Ke);exact GvA.nil);exact Ybr);exact h.o):G:=t ⟨h⟩
theorem Rad {G G':Prop} (h:G') (t:Laa G'->G:=by intro h;apply jat;apply jau;exact Ka;exact h.o):G:=t ⟨h⟩
theorem Rae {G G':Prop} (h:G') (t:Laa G'->G:=by intro h;apply jat;apply jau;(·apply jbc.t;(·(apply GvA.cons;(·(apply RV.cellN (n:=4);(·rfl);(·rfl);exact Kb;(·rfl)));exact Yao);(apply GvA.cons;exact Ybu;exact Ybs);exact GvA.nil);(·rfl);exact Ybr);exact h.o):G:=t ⟨h⟩
theorem Raf {G G':Prop} (h:G') (t:Laa G'->G:=by intro h;apply jat;apply jau;(·apply jbc.t;(·(apply GvA.cons;(·(apply RV.cellN (n:=4);(·rfl);(·rfl);exact Kb;(·rfl)));exact Kq);(apply GvA.cons;exact Ybu;exact Ybs);exact GvA.nil);(·rfl);exact Ybr);exact h.o):G:=t ⟨h⟩
theorem Rag {G G':Prop} (h:G') (t:Laa G'->G:=by intro h;apply jat;apply jau;(·apply jbc.t;(·(apply GvA.cons;(·(apply RV.cellN (n:=3);(·rfl);(·rfl);exact Kb;(·rfl)));(·(apply GvP.g;(·(apply GvL.cons (.lit _));((apply GvL.cons (.nil 1 Ybr)));((apply GvL.cons (.nil 1 Ybr)));exact GvL.nil))));(apply GvA.cons;exact Ybu;exact Ybs);exact GvA.nil);(·rfl);exact Ybr);exact h.o):G:=t ⟨h⟩
theorem Rah {G G':Prop} (h:G') (t:Laa G'->G:=by intro h;apply jat;apply jau;(·apply jbc.t;(·(apply GvA.cons;(·(apply RV.cellN (n:=3);(·rfl);(·rfl);exact Kb;(·rfl)));(·(apply GvP.g;(·(apply GvL.cons (.lit _));((apply GvL.cons (.row _ _ _ _ rfl Ybo)));((apply GvL.cons (.row _ _ _ _ rfl Ybt)));exact GvL.nil))));(apply GvA.cons;exact Ybu;exact Ybs);exact GvA.nil);(·rfl);exact Ybr);exact h.o):G:=t ⟨h⟩
theorem Rai {G G':Prop} (h:G') (t:Laa G'->G:=by intro h;apply jat;apply jau;(·apply jbc.t;(·(apply GvA.cons;(·(apply RV.cellN (n:=10);(·rfl);(·rfl);exact Kb;(·rfl)));exact Ke);(apply GvA.cons;exact Ybu;exact Ybs);exact GvA.nil);(·rfl);exact Ybr);exact h.o):G:=t ⟨h⟩
theorem Raj {G G':Prop} (h:G') (t:Laa G'->G:=by intro h;apply jat;apply jau;(·apply jbc.t;(·(apply GvA.cons;(·(apply RV.cellN (n:=10);(·rfl);(·rfl);exact Kb;(·rfl)));(·(apply GvP.g;(·(apply GvL.cons (.lit _));(apply GvL.cons (.lit _));(apply GvL.cons (.lit _));((apply GvL.cons (.row _ _ _ _ rfl Ybt)));((apply GvL.cons (.row _ _ _ _ rfl Ybo)));(apply GvL.cons (.lit _));((apply GvL.cons (.row _ _ _ _ rfl Ybt)));((apply GvL.cons (.row _ _ _ _ rfl Ybt)));((apply GvL.cons (.row _ _ _ _ rfl Ybt)));(apply GvL.cons (.lit _));exact GvL.nil))));(apply GvA.cons;exact Ybu;exact Ybs);exact GvA.nil);(·rfl);exact Ybr);exact h.o):G:=t ⟨h⟩
theorem Rak {G G':Prop} (h:G') (t:Laa G'->G:=by intro h;apply jat;apply jau;(·apply jbc.t;(·(apply GvA.cons;(·(apply RV.cellN (n:=10);(·rfl);(·rfl);exact Kb;(·rfl)));exact Yaa);(apply GvA.cons;exact Ybu;exact Ybs);exact GvA.nil);(·rfl);exact Ybr);exact h.o):G:=t ⟨h⟩
theorem Ral {G G':Prop} (h:G') (t:Laa G'->G:=by intro h;apply jat;apply jau;exact Kd;exact h.o):G:=t ⟨h⟩
theorem Ram {G G':Prop} (h:G') (t:Laa G'->G:=by intro h;apply jat;apply jau;exact Kw;exact h.o):G:=t ⟨h⟩
theorem Ran {G G':Prop} (h:G') (t:Laa G'->G:=by intro h;apply jat;apply jau;(·apply jbc.p;(·(apply GvA.cons;exact Ybu;exact Ybx);exact GvA.nil);exact Ybr);exact h.o):G:=t ⟨h⟩
theorem Rao {G G':Prop} (h:G') (t:Laa G'->G:=by intro h;apply jat;apply jau;(·apply jbc.t;(·(apply GvA.cons;exact Ybu;(·(exact GvP.c (.row _ _ _ _ rfl (by rfl)))));(apply GvA.cons;exact Ybu;exact Ybs);exact GvA.nil);(·rfl);exact Ybr);exact h.o):G:=t ⟨h⟩
theorem Rap {G G':Prop} (h:G') (t:Laa G'->G:=by intro h;apply jes;apply jet;(·apply jlv.t rfl;(·(apply RvA.cons;(·(apply RV.cellN (n:=10);(·rfl);(·rfl);exact Kb;(·rfl)));exact Km);(apply RvA.cons;exact Ybu;exact Ybc);exact RvA.nil);(·rfl));exact h.o):G:=t ⟨h⟩
theorem Raq {G G':Prop} (h:G') (t:Laa G'->G:=by intro h;apply jat;apply jau;(·apply jbc.t;(·(apply GvA.cons;(·(apply RV.cellN (n:=2);(·rfl);(·rfl);exact Kb;(·rfl)));exact Yam);(apply GvA.cons;exact Ybu;exact Ybs);exact GvA.nil);(·rfl);exact Ybr);exact h.o):G:=t ⟨h⟩
theorem Rar {G G':Prop} (h:G') (t:Laa G'->G:=by intro h;apply jat;apply jau;(·apply jbc.t;(·(apply GvA.cons;exact Ybu;exact Ybx);(apply GvA.cons;exact Ybu;exact Ybs);exact GvA.nil);(·rfl);exact Ybr);exact h.o):G:=t ⟨h⟩
theorem Ras {G G':Prop} (h:G') (t:Laa G'->G:=by intro h;apply jat;apply jau;(·apply jbc.t;(·(apply GvA.cons;(·(apply RV.cellN (n:=3);(·rfl);(·rfl);exact Kb;(·rfl)));exact Yau);(apply GvA.cons;exact Ybu;exact Ybs);exact GvA.nil);(·rfl);exact Ybr);exact h.o):G:=t ⟨h⟩
theorem Rat {G G':Prop} (h:G') (t:Laa G'->G:=by intro h;apply jat;apply jau;(·apply jbc.t;(·(apply GvA.cons;(·(apply RV.cellN (n:=13);(·rfl);(·rfl);exact Kb;(·rfl)));exact Kj);(apply GvA.cons;exact Ybu;exact Ybs);exact GvA.nil);(·rfl);exact Ybr);exact h.o):G:=t ⟨h⟩
theorem Rau {G G':Prop} (h:G') (t:Laa G'->G:=by intro h;apply jat;apply jau;(·apply jbc.t;(·(apply GvA.cons;(·(apply RV.cellN (n:=13);(·rfl);(·rfl);exact Kb;(·rfl)));(·(apply GvP.g;(·(apply GvL.cons (.lit _));(apply GvL.cons (.lit _));(apply GvL.cons (.lit _));((apply GvL.cons (.nil 1 Ybr)));((apply GvL.cons (.nil 1 Ybr)));(apply GvL.cons (.lit _));((apply GvL.cons (.nil 1 Ybr)));((apply GvL.cons (.nil 1 Ybr)));((apply GvL.cons (.nil 1 Ybr)));(apply GvL.cons (.lit _));(apply GvL.cons (.lit _));(apply GvL.cons (.lit _));(apply GvL.cons (.lit _));exact GvL.nil))));(apply GvA.cons;exact Ybu;exact Ybs);exact GvA.nil);(·rfl);exact Ybr);exact h.o):G:=t ⟨h⟩
def Qaa.{u} {P:Sort u} (h:P:=by first|(exfalso;omega)|fail):P:=h
def Qab.{u} {P:Sort u} (h:P:=by first|(exfalso;omega)|(exfalso;simp_all;done)|fail):P:=h
def Qac.{u} {P:Sort u} (h:P:=by first|(exfalso;simp_all;done)|fail):P:=h
theorem Rav {P:Prop} (h:P:=by first|(refine Rad ?_;rfl)|fail):P:=h
theorem Rbg {P:Prop} (h:P:=by first|(refine Raf ?_;rfl)|fail):P:=h
theorem Rbi {P:Prop} (h:P:=by first|(refine Rak ?_;rfl)|fail):P:=h
theorem Rbk {P:Prop} (h:P:=by first|(refine Rai ?_;rfl)|fail):P:=h
theorem Rbl {P:Prop} (h:P:=by first|(refine Ral ?_;rfl)|fail):P:=h
theorem Rbw {P:Prop} (h:P:=by first|(refine Ran ?_;rfl)|fail):P:=h
theorem Rcc {P:Prop} (h:P:=by first|(refine Raa ?_;rfl)|fail):P:=h
theorem Rcd {P:Prop} (h:P:=by first|(refine Ram ?_;rfl)|fail):P:=h
theorem Rdn {P:Prop} (h:P:=by first|(refine Rab ?_;rfl)|fail):P:=h
theorem Rej {P:Prop} (h:P:=by first|(refine Rap ?_;rfl)|fail):P:=h
theorem Rfc {P:Prop} (h:P:=by first|(refine Ras ?_;rfl)|fail):P:=h
theorem Rfe {P:Prop} (h:P:=by first|(refine Raq ?_;rfl)|fail):P:=h
theorem Daa {P:Prop} (h:P:=by
 rw [if_neg hq,Int.add_zero] at e5;repeat' (first|apply zaa ?_|apply zab ?_|(refine jaa (.binOp .shr 3 _ _ _) ?_;(first|refine jab (jci (c:=2) rfl rfl Ybr) rfl ?_|refine jab (jcw rfl rfl Kf Kf) rfl ?_))|apply zbe ?_|apply zaz ?_|apply zad ?_|apply zbi ?_|apply zac ?_|apply zai ?_|apply zal ?_|apply zap ?_|refine jai ?_|refine jaj ?_|refine jah ?_|refine jaz ?_|refine jaq rfl ?_|refine jam ?_|refine jac ?_|refine jav 21 (fun _=>false) [0,1,2,3,4,5,6,7,8,9,10,11,12,13,14,15,16,17,18,19,20,21,22,23,24] ?_|refine jbd rfl (fun hc=>?_) (fun hc=>?_))
 all_goals first | (exfalso; omega) | (exfalso; rw [key,sh] at hc; exact hq (Int.ofNat.inj hc)) | skip
 all_goals
  refine bkL (u+1) ?_ ?_
  ·omega
  ·omega):P:=h
theorem Dab {P:Prop} (h:P:=by
 rw [if_pos hq] at e5;rw [hq] at key;repeat' (first|apply zaa ?_|apply zab ?_|(refine jaa (.binOp .shr 3 _ _ _) ?_;(first|refine jab (jci (c:=2) rfl rfl Ybr) rfl ?_|refine jab (jcw rfl rfl Kf Kf) rfl ?_))|apply zbe ?_|apply zaz ?_|apply zad ?_|apply zbi ?_|apply zac ?_|apply zai ?_|apply zal ?_|apply zap ?_|refine jai ?_|refine jaj ?_|refine jah ?_|refine jaz ?_|refine jaq rfl ?_|refine jam ?_|refine jac ?_|refine jav 21 (fun _=>false) [0,1,2,3,4,5,6,7,8,9,10,11,12,13,14,15,16,17,18,19,20,21,22,23,24] ?_|refine jbd rfl (fun hc=>?_) (fun hc=>?_))
 all_goals first|(exfalso;omega)|(exfalso;rw [key,sh] at hc;exact hc rfl)|skip
 all_goals
  refine bkL (u+1) ?_ ?_
  ·omega
  ·omega):P:=h
theorem Dac {P:Prop} (h:P:=by
 rw [if_pos hn] at h;cases ok with
 | false=>cases h
 | true =>
  simp only [if_true,Option.some.injEq,Prod.mk.injEq] at h;obtain ⟨rfl,rfl⟩:=h;refine jao Tryz.func78 fun _=>?_;repeat' (first|(refine jaa (.alloc 110) ?_;refine jbi (zs:=[.int .i64 0,.int .i64 0]) Kb rfl ?_)|apply zaa ?_|(refine jaa (.buildSlice 35 7 _) ?_;(apply jaw (sz:=1) (by_:=16);exact Kb;exact Ybr;exact Kl;exact Ybr;(·rfl);(·rfl);(·rfl)))|apply zab ?_|apply zad ?_|apply zai ?_|apply zah ?_|apply zas ?_|apply zcy ?_|(refine jaa (.store 110 _ _) ?_;(refine jan rfl rfl rfl Kb rfl rfl ?_))|apply zag ?_|apply zal ?_|apply zap ?_|apply Ub (c:=ip) (h:=?_)|refine jai ?_|refine jbn rfl rfl rfl rfl ?_|refine jbj rfl rfl rfl rfl ?_|refine jcc rfl rfl (fun hg=>?_) (fun hg=>?_)|refine jdf rfl rfl (fun hg=>?_) (fun hg=>?_)|refine jaj ?_|refine jah ?_|refine jaz ?_|refine jam ?_|refine jac ?_|refine jay rfl ?_|refine jbd rfl (fun hc=>?_) (fun hc=>?_)|exact Qab|fail)
  all_goals refine Raq ?_
  all_goals simp):P:=h
theorem Dad {P:Prop} (h:P:=by
 obtain rfl:u=4:=by omega
 have e6:S0+accT Bt (d+1)=S0+S2+accT Cd 4:=by rw [Bsd,<- Int.add_assoc]
 repeat' (first|apply zaa ?_|apply zab ?_|apply zad ?_|apply zac ?_|refine jai ?_|refine jaj ?_|refine jaz ?_|refine jaq rfl ?_|refine jac ?_|refine jay rfl ?_|exact Qaa|fail)
 refine bkL (d+1) ?_ ?_
 ·omega
 ·omega):P:=h
theorem Dae {P:Prop} (h:P:=by
 rw [if_neg hn] at h;cases ok with
 | true=>cases h
 | false =>
  obtain ⟨rfl,rfl⟩:=hz rfl;refine jao Tryz.func78 fun _=>?_;repeat' (first|(refine jaa (.alloc 110) ?_;refine jbi (zs:=[.int .i64 0,.int .i64 0]) Kb rfl ?_)|apply zaa ?_|(refine jaa (.buildSlice 35 7 _) ?_;(apply jaw (sz:=1) (by_:=16);exact Kb;exact Ybr;exact Kl;exact Ybr;(·rfl);(·rfl);(·rfl)))|apply zab ?_|apply zad ?_|apply zai ?_|apply zah ?_|apply zas ?_|apply zcy ?_|(refine jaa (.store 110 _ _) ?_;(refine jan rfl rfl rfl Kb rfl rfl ?_))|apply zag ?_|apply zal ?_|apply zap ?_|apply Ub (c:=ip) (h:=?_)|refine jai ?_|refine jbn rfl rfl rfl rfl ?_|refine jbj rfl rfl rfl rfl ?_|refine jcc rfl rfl (fun hg=>?_) (fun hg=>?_)|refine jdf rfl rfl (fun hg=>?_) (fun hg=>?_)|refine jaj ?_|refine jah ?_|refine jaz ?_|refine jam ?_|refine jac ?_|refine jay rfl ?_|refine jbd rfl (fun hc=>?_) (fun hc=>?_)|exact Qab|exact Rfe|fail)):P:=h
theorem Daf {P:Prop} (h:P:=by
 have h8:k=(atZ cc i).length:=by omega
 subst h8;have e:=List.take_succ_eq_append_getElem hi2;rw [<- jby hi2] at e;rw [List.take_length] at L1 ⊢;repeat' (first|refine jac ?_|refine Maa ?_|refine Wbr ?_|refine Wbs ?_|refine Wbm ?_|refine Wbv ?_|refine jbd rfl (fun hc=>?_) (fun hc=>?_)|exact Qaa|fail)
 refine bkL (i+1) ?_ ?_ (hB:=(by (repeat(first|exact trivial|refine ⟨(by ((refine jbs rfl ?_;simp  [e];done))),?_⟩))))
 ·omega
 ·omega):P:=h
theorem Dag {P:Prop} (h:P:=by
 obtain rfl:d=2:=by omega
 repeat' (first|apply zaa ?_|apply zab ?_|apply zad ?_|apply zac ?_|refine jai ?_|refine jaj ?_|refine jaz ?_|refine jaq rfl ?_|refine jac ?_|refine jay rfl ?_|exact Qaa|fail)
 refine bkL (t+1) ?_ ?_
 ·omega
 ·omega):P:=h
theorem Dah {P:Prop} (h:P:=by
 repeat' (first|refine jac ?_|refine Maa ?_|apply zcj ?_|refine Wcf ?_|(refine jaa (.call ⟨.builtin .append,_,#[209,209]⟩) ?_;((apply jbx (sz:=2) (by_:=16);(·rfl);(·rfl);(·(assumption));exact Kn;exact Ybr;exact Kb;exact Ybr;exact Kf;exact Kf;(·rfl);(·rfl);(·rfl))))|refine jbd rfl (fun hc=>?_) (fun hc=>?_)|exact Qab|fail)
 refine bkL (k+1,m++[(i,k)]) ?_ ?_ (hV:=(by (repeat(first|exact trivial|refine ⟨(by (first|rfl|(refine jks rfl ?_;((simp  [jmb];done))))),?_⟩)))) (hB:=(by (repeat(first|exact trivial|refine ⟨(by ((refine jbs rfl ?_;simp  [jmb];done))),?_⟩))))
 ·exact ⟨by dsimp only;omega,by dsimp only;rw [prT_succ hk.1,hm]⟩
 ·dsimp only; omega):P:=h
theorem Dai {P:Prop} (h:P:=by
 have e3:(c:Int) / 2^((k:Int)).toNat%2=(bitN c k:Int):=by rw [Int.toNat_natCast,jhc]
 have ss2:=jmm c k;by_cases hb:bitN c k=1
 ·rw [if_pos hb,<- hL] at ss2;repeat' (first|refine jac ?_|refine Vaq ?_|refine jbd rfl (fun hc=>?_) (fun hc=>?_)|exact Qaa|fail)
  refine bkL (k+1,L++[(k:Int)]) ?_ ?_ (hV:=Yaw)
  ·exact ⟨by dsimp only;omega,ss2.symm⟩
  ·dsimp only; omega
 ·rw [if_neg hb,<- hL] at ss2;repeat' (first|refine jac ?_|refine Vaq ?_|refine jbd rfl (fun hc=>?_) (fun hc=>?_)|exact Qaa|fail)
  refine bkL (k+1,L) ?_ ?_
  ·exact ⟨by dsimp only;omega,ss2.symm⟩
  ·dsimp only; omega):P:=h
theorem Daj {P:Prop} (h:P:=by
 have fl:=flipped_p 3 3 n BL (atZ PL (c:Int)) hX2 (by rw [pa c hc3];exact jez 6 c);have tr:=triple_p n (bflL BL 3 3 (atZ PL (c:Int))) (flip_box (x:=3) (y:=3) hX2 (by rw [pa c hc3];exact jez 6 c));have hk:=hK2 c hc3;rw [<- hv,hV2 c,<- pa c hc3] at hk;generalize bflL BL 3 3 (atZ PL (c:Int))=FL at *;generalize tripI FL=z at *;clear hK2 hV2;repeat' (first|refine jac ?_|refine Val ?_|apply Ub (c:=tr) (h:=?_)|apply Ub (c:=fl) (h:=?_)|refine jbd rfl (fun hc=>?_) (fun hc=>?_)|exact Qaa|fail)
 refine bkL (c+1,max v z) ?_ ?_
 ·exact ⟨by dsimp only;omega,by dsimp only;rw [<- hk,Nat.add_assoc]⟩
 ·dsimp only; omega):P:=h
theorem Dak {P:Prop} (h:P:=by
 rw [decide_eq_false hq] at r5;rw [r5];repeat' (first|apply zaa ?_|apply zab ?_|apply zba ?_|apply zcb ?_|apply zah ?_|apply zac ?_|apply zdb ?_|apply zdc ?_|apply zbe ?_|apply zdn ?_|apply zcq ?_|apply zad ?_|apply zby ?_|apply zcf ?_|apply Ub (c:=nz) (h:=?_)|refine jai ?_|refine jbn rfl rfl rfl rfl ?_|refine jbj rfl rfl rfl rfl ?_|refine jcc rfl rfl (fun hg=>?_) (fun hg=>?_)|refine jaj ?_|refine jah ?_|refine jaz ?_|refine jaq rfl ?_|refine jam ?_|refine jac ?_|refine jbg rfl ?_|refine jbd rfl (fun hc=>?_) (fun hc=>?_)|exact Qab|exact Rbl|fail)):P:=h
theorem Dal {P:Prop} (h:P:=by
 rw [decide_eq_true hq] at r5;rw [r5];repeat' (first|apply zaa ?_|apply zab ?_|apply zba ?_|apply zcb ?_|apply zah ?_|apply zac ?_|apply zdb ?_|apply zdc ?_|apply zbe ?_|apply zdn ?_|apply zcq ?_|apply zad ?_|apply zby ?_|apply zcf ?_|apply Ub (c:=nz) (h:=?_)|refine jai ?_|refine jbn rfl rfl rfl rfl ?_|refine jbj rfl rfl rfl rfl ?_|refine jcc rfl rfl (fun hg=>?_) (fun hg=>?_)|refine jaj ?_|refine jah ?_|refine jaz ?_|refine jaq rfl ?_|refine jam ?_|refine jac ?_|refine jbg rfl ?_|refine jbd rfl (fun hc=>?_) (fun hc=>?_)|exact Qab|exact Rbl|fail)):P:=h
theorem Dam {P:Prop} (h:P:=by
 obtain rfl:c=32:=by omega
 repeat' (first|apply zaa ?_|apply zab ?_|apply zac ?_|refine jai ?_|refine jaj ?_|refine jaq rfl ?_|refine jac ?_|refine jay rfl ?_|exact Qaa|exact Rav|fail)):P:=h
theorem Dan {P:Prop} (h:P:=by
 obtain rfl:t=4:=by omega
 repeat' (first|apply zaa ?_|apply zab ?_|apply zac ?_|refine jai ?_|refine jaj ?_|refine jaq rfl ?_|refine jac ?_|refine jay rfl ?_|exact Qaa|exact Rav|fail)):P:=h
theorem Dao {P:Prop} (h:P:=by
 have rf:=r5 hc1;rw [rf];clear dt r5;repeat' (first|apply zaa ?_|apply zab ?_|apply zba ?_|apply zcb ?_|apply zah ?_|apply zac ?_|apply zdb ?_|apply zdc ?_|apply zbe ?_|apply zdn ?_|apply zcq ?_|apply zad ?_|apply zby ?_|refine jai ?_|refine jbn rfl rfl rfl rfl ?_|refine jbj rfl rfl rfl rfl ?_|refine jcc rfl rfl (fun hg=>?_) (fun hg=>?_)|refine jaj ?_|refine jah ?_|refine jaz ?_|refine jaq rfl ?_|refine jam ?_|refine jac ?_|refine jbg rfl ?_|refine jbd rfl (fun hc=>?_) (fun hc=>?_)|exact Qaa|exact Rbl|fail)):P:=h
theorem Dap {P:Prop} (h:P:=by
 repeat' (first|refine jac ?_|refine Maa ?_|apply zcj ?_|refine Wcf ?_|(refine jaa (.call ⟨.builtin .append,_,#[209,209]⟩) ?_;((apply jbx (sz:=2) (by_:=16);(·rfl);(·rfl);(·(assumption));exact Kn;exact Ybr;exact Kb;exact Ybr;exact Kf;exact Kf;(·rfl);(·rfl);(·rfl))))|refine jbd rfl (fun hc=>?_) (fun hc=>?_)|exact Qab|fail)
 refine bkL (i+1,m) ?_ ?_
 ·exact ⟨by dsimp only;omega,by dsimp only;rw [prI_succ,hm,show k=n by omega]⟩
 ·dsimp only; omega):P:=h
theorem Daq {P:Prop} (h:P:=by
  have e3:(c:Int) / 2^((ev:Int) - 1 - i).toNat%2=(bitN c (ev - 1 - i):Int):=by
    rw [show ((ev:Int) - 1 - i).toNat=ev - 1 - i by omega,jhc]
  repeat' (first|refine jac ?_|refine Maa ?_|apply zbt ?_|refine Wbr ?_|refine Wbs ?_|refine jbd rfl (fun hc=>?_) (fun hc=>?_)|exact Qaa|fail)
  simp at e3;refine bkL (i+1) ?_ ?_ (hB:=(by (repeat(first|exact trivial|refine ⟨(by ((refine jbs rfl ?_;simp  [jdz,e3];done))),?_⟩))))
  · omega
  · omega):P:=h
theorem Dar {P:Prop} (h:P:=by
 have e:=List.take_succ_eq_append_getElem hk2;rw [<- jby hk2] at e;have vb:=allB_at hb (i:=k) Kf Kf;repeat' (first|refine jac ?_|refine Maa ?_|refine Wbr ?_|refine Wbt ?_|refine Wbu ?_|refine Wbv ?_|refine jbd rfl (fun hc=>?_) (fun hc=>?_)|exact Qaa|fail)
 refine bkL (k+1) ?_ ?_ (hB:=(by (repeat(first|exact trivial|refine ⟨(by ((refine jbs rfl ?_;simp  [e];done))),?_⟩))))
 ·omega
 ·omega):P:=h
theorem Das {P:Prop} (h:P:=by
 have h8:i=cc.length:=by omega
 subst h8;rw [List.take_length];repeat' (first|refine jac ?_|refine Maa ?_|refine Wbq ?_|refine jbd rfl (fun hc=>?_) (fun hc=>?_)|exact Qaa|fail)
 refine Raa ?_;rfl):P:=h
theorem Dat {P:Prop} (h:P:=by
 exact ⟨by dsimp only;omega,by dsimp only;rw [<- Nat.add_assoc,e1];omega,dT.symm⟩):P:=h
theorem Dau {P:Prop} (h:P:=by
 repeat' (first|refine jav 11 (fun _=>false) [0,1,2,3,5,6,7,-5,-9,9] ?_|refine Vai ?_|(first|apply Ub (c:=oj) (h:=?_)|apply Ub (c:=o0) (h:=?_))|refine jbd rfl (fun hc=>?_) (fun hc=>?_)|exact Qab|fail)
 refine bkL (j+1) ?_ ?_
 ·refine ⟨by omega,fun t ht=>?_⟩;by_cases h3:t=j
  ·subst h3;exact he
  ·exact hJ t Kf
 ·omega):P:=h
theorem Dav {P:Prop} (h:P:=by
 repeat' (first|refine jav 11 (fun _=>false) [0,1,2,3,5,6,7,-5,-9,9] ?_|refine Vai ?_|refine jbd rfl (fun hc=>?_) (fun hc=>?_)|exact Qaa|fail)
 refine bkL (q+1) ?_ ?_
 ·refine ⟨by omega,fun r t hr ht=>?_⟩;by_cases h3:r=q
  ·subst h3;exact hJ t Kf
  ·exact hQ r t Kf ht
 ·omega):P:=h
theorem Daw {P:Prop} (h:P:=by
 exact ⟨by dsimp only;omega,by dsimp only;rw [hv];congr 1;omega⟩):P:=h
theorem Dax {P:Prop} (h:P:=by
 have e:((41*(sumN (s.take k):Int)+byt s k+1)%999979)=(sumN (s.take (k+1)):Int):=by rw [sumN_take h,jfw h];omega
 repeat' (first|refine jac ?_|refine Maa ?_|apply zcb ?_|apply zcq ?_|refine jbd rfl (fun hc=>?_) (fun hc=>?_)|exact Qaa|fail)
 refine bkL (k+1) ?_ ?_
 ·omega
 ·omega):P:=h
theorem Day {P:Prop} (h:P:=by
 have nz:=nj he;repeat' (first|refine jav 11 (fun _=>false) [0,1,2,3,5,6,7,-5,-9,9] ?_|refine Vai ?_|(first|apply Ub (c:=oj) (h:=?_)|apply Ub (c:=o0) (h:=?_))|refine jbd rfl (fun hc=>?_) (fun hc=>?_)|exact Qab|fail)
 (apply jgp;exact Yae)
 exact ⟨_,_,by rw [nz];rfl⟩):P:=h
theorem Daz {P:Prop} (h:P:=by
 refine jao Tryz.func16 ?_;rintro ⟨hf,-⟩;have hf0:=FitT (hf (dT du) Yby);have hf1:=FitT (hf (dT pe) Yby);clear hf;repeat' (first|refine jac ?_|refine Maa ?_|refine Was ?_|refine Wav ?_|refine Waw ?_|refine jbd rfl (fun hc=>?_) (fun hc=>?_)|exact Qaa|exact Rav|fail)):P:=h
theorem Dba {P:Prop} (h:P:=by
  obtain rfl : i = ev := by omega
  repeat' (first|refine jac ?_|refine Maa ?_|apply zbt ?_|refine Wbr ?_|refine Wbs ?_|refine jbd rfl (fun hc=>?_) (fun hc=>?_)|exact Qaa|fail)
  all_goals refine Raa ?_
  all_goals simp [bitsM]):P:=h
theorem Dbb {P:Prop} (h:P:=by
 have v:=jlk (X:=2) (Y:=2) h (i:=w) (k:=i) hw hi;have e:(w:Int)*((2:Nat):Int)+(i:Int)=((2*w+i:Nat):Int):=by omega
 rw [e] at v;obtain ⟨r1,r2⟩:=jev h (q:=((2*w+i:Nat):Int)) Kf Kf;exact ⟨v,r1,fun p hp=>r2 p Kf Kf⟩):P:=h
theorem Dbc {P:Prop} (h:P:=by
 have hpd:=jia l;have e:l=prL n:=by rw [hl,<- prI_all h,show i=n by omega]
 clear hl;subst e;repeat' (first|refine jac ?_|refine Maa ?_|refine jbd rfl (fun hc=>?_) (fun hc=>?_)|exact Qab|exact Rbw|fail)):P:=h
theorem Dbd {P:Prop} (h:P:=by
 repeat' (first|refine jac ?_|refine Maa ?_|apply zcb ?_|apply zcq ?_|refine jbd rfl (fun hc=>?_) (fun hc=>?_)|exact Qaa|fail)
 have:k=s.length:=by omega
 subst this;refine Rad ?_;simp):P:=h
theorem Dbe {P:Prop} (h:P:=by
 subst k4;have e:(i+1)*(prL Y).length*4=(i*(prL Y).length+(prL Y).length)*4:=by rw [Nat.succ_mul]
 exact ⟨by dsimp only;omega,by dsimp only;rw [hv,e],by dsimp only;rw [hf,e]⟩):P:=h
theorem Dbf {P:Prop} (h:P:=by
 repeat' (first|refine jac ?_|refine Val ?_|refine jbd rfl (fun hc=>?_) (fun hc=>?_)|exact Qaa|fail)
 refine bkL (b+1,v) ?_ ?_
 ·exact Daw
 ·dsimp only; omega):P:=h
theorem Dbg {P:Prop} (h:P:=by
 repeat' (first|refine jac ?_|refine Val ?_|refine jbd rfl (fun hc=>?_) (fun hc=>?_)|exact Qaa|fail)
 refine bkL (a+1,v) ?_ ?_
 ·exact Daw
 ·dsimp only; omega):P:=h
theorem Dbh {P:Prop} (h:P:=by
 exact ⟨⟨by dsimp only;omega,by dsimp only;omega⟩,st.symm⟩):P:=h
theorem Dbi {P:Prop} (h:P:=by
 have e:k=ll.length:=by omega
 subst e;repeat' (first|refine jac ?_|refine Maa ?_|refine jbd rfl (fun hc=>?_) (fun hc=>?_)|exact Qaa|fail)
 refine Ram ?_;simp [agrsL]):P:=h
theorem Dbj {P:Prop} (h:P:=by
 subst m4;exact ⟨by dsimp only;omega,by dsimp only;rw [hv];congr 1;omega,by dsimp only;rw [hf];congr 1;exact propext ⟨fun h=>by omega,fun h=>by omega⟩⟩):P:=h
theorem Dbk {P:Prop} (h:P:=by
 have rt:=(jhm h huv hd2).2.1;rw [ed,ed1,hr2] at rt;omega):P:=h
theorem Dbl {P:Prop} (h:P:=by
 (refine jiz rfl ?_ ?_;rotate_left;exact Yba)
 rfl):P:=h
theorem Dbm {P:Prop} (h:P:=by
 refine jao Tryz.func67 fun _=>?_;repeat' (first|refine jac ?_|refine Maa ?_|refine Wbq ?_|refine Wbp ?_|fail)
 ·refine Raa ?_;simp):P:=h
theorem Dbn {P:Prop} (h:P:=by
 refine Rad ?_;have hs:sizeB x y=true:=by simp_all
 rw [jjg hs] at hc;have h3:¬ (ll.length:Int)=x*y:=by omega
 simp [boxB,h3]):P:=h
theorem Dbo {P:Prop} (h:P:=by
 have c:ctxB ev (atZ cc (i:Int))=true:=by rw [jby hi2];exact (jbv hs).ctx i hi2
 exact (jhq (by have:=(jbv hs).e12;omega) c).1):P:=h
theorem Dbp {P:Prop} (h:P:=by
 rw [hB];have:=Ca t d 4 ht hd Kf;dsimp only;omega):P:=h
theorem Dbq {P:Prop} (h:P:=by
 rename_i hk';rw [jby Kf] at hc;refine bkL (k+1) ?_ ?_
 ·exact ⟨by omega,by rw [jdw _ _ _ Kf,ha,hc];rfl⟩
 ·omega):P:=h
theorem Dbr {P:Prop} (h:P:=by
 unfold proofB;rw [Int.tmod_eq_emod_of_nonneg h4.1];congr 1;exact decide_eq_decide.2 ⟨fun h=>by omega,fun h=>by omega⟩):P:=h
theorem Dbs {P:Prop} (h:P:=by
 simp only [Bool.false_eq_true,false_iff];omega):P:=h
theorem Dbt {P:Prop} (h:P:=by
 have e:k=a.length:=by omega
 subst e;rw [List.take_length,hab,List.take_length] at hs;refine Rad ?_;simp [hs]):P:=h
theorem Dbu {P:Prop} (h:P:=by
 rw [hA];have:=Ba t 2 ht Kf;dsimp only;omega):P:=h
theorem Dbv {P:Prop} (h:P:=by
 have:k=ll.length:=by omega
 subst this;rw [List.take_length] at ha;refine Rad ?_;simp [boxB,hs,hn,hlen,ha]):P:=h
theorem Dbw {P:Prop} (h:P:=by
 rw [hC];exact cb _ _ _ _ _ Kf Kf hd Kf Kf):P:=h
end
end Go.Proofs.YtbhbkbnlpackdaaGreatDoor
