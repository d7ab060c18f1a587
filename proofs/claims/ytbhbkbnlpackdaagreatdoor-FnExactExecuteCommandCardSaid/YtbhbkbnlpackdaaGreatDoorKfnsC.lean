/- What the functions that FnExactRunScript and FnExactReplayLog and FnExactExecuteCommand reaches return: part of its proof. No condition beyond those of its theorems. -/
import Derived.WalkKit
import Derived.Lib.LaidTab
import Derived.Lib.LaidIn
import Derived.Handed
import Derived.Test.YtbhbkbnlpackdaaGreatDoorKplainA
import Derived.Test.YtbhbkbnlpackdaaGreatDoorKplainC
import Derived.LaidLaws
import Derived.Test.YtbhbkbnlpackdaaGreatDoorKplainB
set_option linter.unusedSectionVars false
set_option maxRecDepth 10000
set_option maxHeartbeats 4000000
set_option linter.unusedVariables false
set_option linter.unusedSimpArgs false
namespace Go.Proofs.YtbhbkbnlpackdaaGreatDoor
open Go.RowKit
section
open Go Go.RowKit
theorem tab_in {P:Program} {W:World} {name:String} {k:IntKind} {zs:List Int} {g:Nat} {t e:TypeId} {n:Nat}
  (hg:P.globalNamed name=some g) (hty:(P.globals[g]?).map (·.type)=some t) (ht:P.underlying t=some (.array n e)) (he:P.underlying e=some (.int k)) (hce:P.cellsOf e=1) (hct:P.cellsOf t=n) :
  ∀ (l:List (String×DataW Unit)) (ps:List MemPlace),DataW.LaidVars P W l ps->(name,Go.Lib.tabData k zs)∈l->Go.Lib.TabIs P W name k zs
 | [],_,_,h=>by cases h
 | (n',d) :: r,ps,h,hm=>by
  obtain ⟨g',t',cs,fuel,p,q,hg',ht',hvar,hd,hr,_⟩:=h;rcases List.mem_cons.1 hm with e1|hm
  ·simp only [Prod.mk.injEq] at e1;obtain ⟨rfl,rfl⟩:=e1;obtain rfl:=Option.some.inj (hg.symm.trans hg');obtain rfl:=Option.some.inj (hty.symm.trans ht');unfold Go.Lib.TabIs;rw [hvar,<- Go.Lib.cells_of_tab ht he hce hct hd]
  ·exact tab_in hg hty ht he hce hct r q hr hm
theorem tab_keep {P:Program} {w w':World} {name:String} {k:IntKind} {zs:List Int} {g:Nat} (hg:P.globalNamed name=some g) (h:Go.Lib.TabIs P w name k zs) (hk:w'.heap[g]? = w.heap[g]?):Go.Lib.TabIs P w' name k zs:=by
 unfold Go.Lib.TabIs World.var? at h ⊢;rw [hg] at h ⊢;simpa [hk] using h
theorem tab_lt {P:Program} {w:World} {name:String} {k:IntKind} {zs:List Int} {g:Nat} (hg:P.globalNamed name=some g) (h:Go.Lib.TabIs P w name k zs):g < w.heap.size:=by
 unfold Go.Lib.TabIs World.var? at h;rw [hg] at h;refine Classical.byContradiction fun hn=>?_;rw [Option.bind_some,Array.getElem?_eq_none Kf] at h;cases h
end
section
variable [Glb]
open Go Go.RowKit
class GErr (P : Program) : Prop where
 err : ∀ w : World, Glb.ok w → ∃ tp p, w.var? P "strconv.ErrSyntax" = some #[.iface tp p]
theorem pc_lit12 {P:Program} {f:FuncId} {a u1 u2:Value} (he:∀ (args:Array Value) (W:World),(callFunc f args).run P W = .ok (.enter f args) W) (h1:sc u1=true) (h2:sc u2=true)
  (h:∀ w,Glb.ok w->Calls P f #[a] w fun e w'=>e = .returned (.tuple #[u1,u2])/\Below w.heap.size w w'):PC P f [.c (.lit a)] (.t [.c (.lit u1),.c (.lit u2)]):=by
 refine ⟨he,fun w vs ok hv=>?_⟩;obtain ⟨x,rfl,e1⟩:=hv.one;rw [e1.lit_inv];refine (h w ok).mono ?_;rintro e w' ⟨rfl,hb⟩;exact ⟨_,[],rfl,.t (us:=[u1,u2]) (.cons (F:=[]) (.c (.lit _ h1)) (.cons (F:=[]) (.c (.lit _ h2)) .nil)),List.nodup_nil,(fun g hg=>by cases hg),hb⟩
theorem VwL.lits:∀ {w:World} {us:List Value},(∀ u∈us,sc u=true)->VwL w us (us.map fun u=>RP.c (.lit u)):=fun {w us} h=>by
 refine ⟨by simp,fun k hk=>?_⟩;have hk':k < us.length:=by simpa using hk
 rw [List.getElem_map,List.getD_eq_getElem?_getD,List.getElem?_eq_getElem hk'];exact .c _ _ [] (.lit _ (h _ (List.getElem_mem hk')))
theorem Glb.ok_below {w w':World} (h:Glb.ok w) (b:Below w.heap.size w w'):Glb.ok w' :=
 Glb.keep h fun _ hg=>b.block _ (Glb.lt h hg)
end
section
open Go Go.RowKit
theorem err_in {P:Program} {W:World} {name:String} {g:Nat} {t:TypeId} {ms:Array (String×TypeId)} {nm:String} {d:DataW Unit}
  (hg:P.globalNamed name=some g) (hty:(P.globals[g]?).map (·.type)=some t) (hi:P.underlying t=some (.interface ms)) :
  ∀ (l:List (String×DataW Unit)) (ps:List MemPlace),DataW.LaidVars P W l ps->(name,DataW.iface nm d)∈l -> ∃ u v,W.var? P name=some #[.iface u v]
 | [],_,_,h=>by cases h
 | (n',d') :: r,ps,h,hm=>by
  obtain ⟨g',t',cs,fuel,p,q,hg',ht',hvar,hd,hr,_⟩:=h;rcases List.mem_cons.1 hm with e1|hm
  ·simp only [Prod.mk.injEq] at e1;obtain ⟨rfl,rfl⟩:=e1;obtain rfl:=Option.some.inj (hg.symm.trans hg');obtain rfl:=Option.some.inj (hty.symm.trans ht');obtain ⟨f1,u,v,e,_,_⟩:=iface_of_trod hi hd;refine ⟨u,v,?_⟩;rw [hvar];congr 1;cases cs;simpa using e
  ·exact err_in hg hty hi r q hr hm
theorem err_keep {P:Program} {w w':World} {name:String} {g:Nat} (hg:P.globalNamed name=some g) (h:∃ u v,w.var? P name=some #[.iface u v]) (hk:w'.heap[g]? = w.heap[g]?):∃ u v,w'.var? P name=some #[.iface u v]:=by
 obtain ⟨u,v,h⟩:=h;refine ⟨u,v,?_⟩;unfold World.var? at h ⊢;rw [hg] at h ⊢;simpa [hk] using h
theorem err_lt {P:Program} {w:World} {name:String} {g:Nat} (hg:P.globalNamed name=some g) (h:∃ u v,w.var? P name=some #[.iface u v]):g < w.heap.size:=by
 obtain ⟨u,v,h⟩:=h;unfold World.var? at h;rw [hg] at h;refine Classical.byContradiction fun hn=>?_;rw [Option.bind_some,Array.getElem?_eq_none Kf] at h;cases h
def litE:DataW Unit->Value
 | .lit (.int k n) => .int k n
 | _ => .nilFunc
def cellsE:DataW Unit->List Value
 | .agg ds=>ds.flatMap fun d=>match d with
  | .agg es=>es.map litE
  | x=>[litE x]
 | _ => []
def layAllE (P:Program) (tp te:TypeId):List (String×DataW Unit)->Array Obj->Array Obj
 | [],h=>h
 | (n,.iface _ (.ptr (.agg [.lit (.string s)]))) :: r,h=>layAllE P tp te r ((match P.globalNamed n with
  | some g => h.modify g fun
   | .cells _ t f => .cells #[.iface tp (.pointer (some ⟨h.size,0,none⟩))] t f
   | o => o
  | none=>h).push (.cells #[.string ⟨s.toArray⟩] te (0,0)))
 | (n,d) :: r,h=>layAllE P tp te r (match P.globalNamed n with
  | some g => h.modify g fun
   | .cells _ t f => .cells (cellsE d).toArray t f
   | o => o
  | none=>h)
end
section
variable [Glb]
open Go
theorem log_at {s:Tx} {j:Nat} (h:j < numR s):∃ e n,stepT j (s.drop (endsT s j))=some (e,n)/\(recsT s)[j]? = some e/\endsT s (j+1)=endsT s j+n:=by
 have h6:j < 60:=by have:=jfv s;omega
 cases hs:stepT j (s.drop (endsT s j)) with
 | none=>have:=jha (Nat.le_of_lt h) hs;omega
 | some en =>
  obtain ⟨e,n⟩:=en;obtain ⟨_,g2,g3⟩:=log_go (Nat.le_of_lt h) h6 hs;exact ⟨e,n,rfl,g2,g3⟩
theorem step_line {k n:Nat} {s:Tx} {e:Tx×Tx} (h:stepT k s=some (e,n)):recB e.1 e.2=true/\s.take n=lineT k e.1 e.2++[10]/\n=(lineT k e.1 e.2).length+1:=by
 unfold stepT at h;split at h
 ·rename_i hm;obtain ⟨x,hx,he⟩:=Option.map_eq_some_iff.1 h;simp only [Prod.mk.injEq] at he;obtain ⟨rfl,rfl⟩:=he;obtain ⟨c,r⟩:=x;obtain ⟨h1,h2⟩:=jme.1 hx;refine ⟨h1,?_,by rw [h2]⟩;have h3:=(jex hm).1;rw [h2];generalize bef 10 s=x at *;generalize aft 10 s=y at *;subst h3;rw [show x++10 :: y=(x++[10])++y by simp,show x.length+1=(x++[10]).length by simp,List.take_left]
 ·cases h
theorem ends_bd {s:Tx}:∀ {j:Nat},j<=numR s->endsT s j<=422*j
 | 0,_=>by simp [jid]
 | j+1,h=>by
  obtain ⟨e,n,h1,_,h3⟩:=log_at (show j < numR s by omega);have ih:=ends_bd (s:=s) (j:=j) Kf;obtain ⟨g1,_,g3⟩:=step_line h1;have h6:j < 60:=by have:=jfv s;omega
  have t1:=jig h6 (recB_p g1);have t2:(lineT j e.1 e.2).length<=(textT j e.1 e.2).length+7:=(jhj _).2;omega
theorem recs_all (s:Tx):(recsT s).take (numR s)=recsT s:=by rw [<- jei,List.take_length]
theorem log_append {s c r:Tx} {k:Nat} (h:endT s=s.length) (hk:numR s=k) (h6:k < 60) (hr:recB c r=true) :
  numR (s++(lineT k c r++[10]))=k+1/\endT (s++(lineT k c r++[10]))=(s++(lineT k c r++[10])).length/\recsT (s++(lineT k c r++[10]))=recsT s++[(c,r)]:=by
 obtain ⟨t,ht⟩:∃ t,t=lineT k c r++[10]:=⟨_,rfl⟩;have hend:endsT s k=s.length:=by rw [<- hk];exact h
 have h10:=line10 (k:=k) (recB_p hr);have hst:stepT k t=some ((c,r),t.length):=by
  have hb:bef 10 t=lineT k c r:=by rw [ht];exact jld h10
  have:=jmo (k:=k) (s:=t) (e:=(c,r)) (by rw [ht];simp) (by rw [hb];exact jme.2 ⟨hr,rfl⟩);rw [this,hb,ht]; simp
 rw [<- ht];obtain ⟨g1,g2⟩:=log_ext (x:=s) (y:=t) k Kf;rw [hend] at g2;have hs2:stepT k ((s++t).drop (endsT (s++t) k))=some ((c,r),t.length):=by rw [g2,List.drop_left];exact hst
 obtain ⟨h1,h2,h3⟩:=log_go g1 h6 hs2;rw [g2] at h3;have hN:numR (s++t)=k+1:=by
  by_cases h60:k+1 < 60
  ·refine jha h1 ?_;rw [h3,List.drop_of_length_le Yby];exact step_no Yby
  ·have:=jfv (s++t);omega
 refine ⟨hN,by unfold endT;rw [hN,h3,List.length_append],?_⟩;have hp:=(log_pre (x:=s) (y:=t) k Kf Kf).2.2;have e1:(recsT s).take k=recsT s:=by rw [<- hk];exact recs_all s
 rw [e1] at hp;rw [<- recs_all (s++t),hN,jjh h2,<- hp]
end
section
open Go
def spanL:List Nat->List Nat
 | [] => [0]
 | r :: rs=>spanL rs++(spanL rs).map fun x=>r^^^x
theorem jmq:∀ l:List Nat,(spanL l).length=2^l.length
 | [] => rfl
 | r :: rs=>by
  have:=jmq rs;simp only [spanL,List.length_append,List.length_map,List.length_cons,Nat.pow_succ];omega
theorem jhw:∀ l:List Nat,0∈spanL l
 | []=>by simp [spanL]
 | r :: rs=>List.mem_append_left _ (jhw rs)
theorem jmg (a b:Nat):a^^^(a^^^b)=b:=by rw [<- Nat.xor_assoc,Nat.xor_self,Nat.zero_xor]
theorem jjl {r x:Nat} {rs:List Nat}:x∈spanL (r :: rs)↔x∈spanL rs∨r^^^x∈spanL rs:=by
 simp only [spanL,List.mem_append,List.mem_map];constructor
 ·rintro (h | ⟨y,hy,rfl⟩)
  ·exact .inl h
  ·right; rwa [jmg]
 ·rintro (h | h)
  ·exact .inl h
  ·exact .inr ⟨_,h,jmg _ _⟩
theorem jfz:∀ {l:List Nat} {x y:Nat},x∈spanL l->y∈spanL l->x^^^y∈spanL l
 | [],x,y,hx,hy=>by
  simp only [spanL,List.mem_singleton] at *;subst hx hy; rfl
 | r :: rs,x,y,hx,hy=>by
  rw [jjl] at hx hy ⊢;rcases hx with hx|hx <;> rcases hy with hy|hy
  ·exact .inl (jfz hx hy)
  ·right
   have:=jfz hx hy;rwa [<- Nat.xor_assoc,Nat.xor_comm x r,Nat.xor_assoc] at this
  ·right
   have:=jfz hx hy;rwa [Nat.xor_assoc] at this
  ·left
   have:=jfz hx hy;rw [Nat.xor_comm r x,Nat.xor_assoc,<- Nat.xor_assoc r r y,Nat.xor_self,Nat.zero_xor] at this;exact this
theorem jfb:∀ {l:List Nat} {x:Nat},x∈l->x∈spanL l
 | r :: rs,x,h=>by
  rw [jjl];rcases List.mem_cons.1 h with rfl|h
  ·right;rw [Nat.xor_self];exact jhw rs
  ·exact .inl (jfb h)
theorem jga:∀ {l m:List Nat},(∀ x∈l,x∈spanL m) -> ∀ x∈spanL l,x∈spanL m
 | [],m,_,x,hx=>by
  simp only [spanL,List.mem_singleton] at hx;subst hx; exact jhw m
 | r :: rs,m,h,x,hx=>by
  have ih:=jga (l:=rs) (m:=m) fun x hx=>h x (List.mem_cons_of_mem _ hx);rw [jjl] at hx;rcases hx with hx | hx
  ·exact ih x hx
  ·have:=jfz (h r (List.mem_cons_self ..)) (ih _ hx);rwa [jmg] at this
def TriL:List Nat->Prop
 | []=>True
 | r :: rs=>(∃ b,r.testBit b=true /\ ∀ s∈rs,s.testBit b=false)/\TriL rs
theorem span_bit {b:Nat}:∀ {l:List Nat},(∀ s∈l,s.testBit b=false) -> ∀ x∈spanL l,x.testBit b=false
 | [],_,x,hx=>by
  simp only [spanL,List.mem_singleton] at hx;subst hx; simp
 | r :: rs,h,x,hx=>by
  have ih:=span_bit (b:=b) (l:=rs) fun s hs=>h s (List.mem_cons_of_mem _ hs);rw [jjl] at hx;rcases hx with hx | hx
  ·exact ih x hx
  ·have h1:=ih _ hx;have h2:=h r (List.mem_cons_self ..);rw [Nat.testBit_xor,h2] at h1;simpa using h1
theorem jmi:∀ {l:List Nat},TriL l->(spanL l).Nodup
 | [],_=>by simp [spanL]
 | r :: rs,⟨⟨b,hb,hs⟩,ht⟩=>by
  have ih:=jmi ht;have sb:=span_bit hs;simp only [spanL];rw [List.nodup_append];refine ⟨ih,?_,fun x hx y hy e=>?_⟩
  ·rw [List.nodup_iff_pairwise_ne] at ih ⊢;rw [List.pairwise_map];exact ih.imp fun h e=>h (by have:=congrArg (fun z=>r^^^z) e;simpa only [jmg] using this)
  ·subst e;obtain ⟨y,hy2,rfl⟩:=List.mem_map.1 hy;have h1:=sb _ hx;have h2:=sb _ hy2;rw [Nat.testBit_xor,hb,h2] at h1;simp at h1
theorem jnf:∀ {l m:List Nat},l.Nodup->(∀ x∈l,x∈m)->l.length<=m.length
 | [],_,_,_=>by simp
 | x :: l,m,hn,h=>by
  have hx:=h x (List.mem_cons_self ..);rw [List.nodup_cons] at hn;have ih:=jnf (l:=l) (m:=m.erase x) hn.2 fun y hy=>by
   have hne:y≠x:=fun e=>hn.1 (e ▸ hy);exact (List.mem_erase_of_ne hne).2 (h y (List.mem_cons_of_mem _ hy))
  rw [List.length_erase_of_mem hx] at ih;have:=List.length_pos_of_mem hx;simp only [List.length_cons];omega
theorem rank_unique {a b:List Nat} (ha:TriL a) (hb:TriL b) (h1:∀ x∈a,x∈spanL b) (h2:∀ x∈b,x∈spanL a):a.length=b.length:=by
 have l1:=jnf (jmi ha) (jga h1);have l2:=jnf (jmi hb) (jga h2);rw [jmq,jmq] at l1 l2;have e:2^a.length=2^b.length:=Nat.le_antisymm l1 l2;exact (Nat.pow_right_inj Kf).1 e
def redM (rows:List Nat) (m:Nat):Nat:=rows.foldl (fun m r=>min m (m^^^r)) m
def addM (rows:List Nat) (m:Nat):List Nat:=if redM rows m=0 then rows else rows++[redM rows m]
def basM (ms:List Nat):List Nat:=ms.foldl addM []
theorem jjq:∀ {rows all:List Nat} {m:Nat},(∀ r∈rows,r∈spanL all)->m^^^redM rows m∈spanL all
 | [],all,m,_=>by
  show m^^^m∈_;rw [Nat.xor_self];exact jhw all
 | r :: rs,all,m,h=>by
  have hr:=h r (List.mem_cons_self ..);have hs:∀ x∈rs,x∈spanL all:=fun x hx=>h x (List.mem_cons_of_mem _ hx);show m^^^redM rs (min m (m^^^r))∈_;rcases (by omega:min m (m^^^r)=m∨min m (m^^^r)=m^^^r) with e|e
  ·rw [e]; exact jjq hs
  ·rw [e];have:=jfz hr (jjq (m:=m^^^r) hs);rwa [<- Nat.xor_assoc,<- Nat.xor_assoc,Nat.xor_comm r m,Nat.xor_assoc m r r,Nat.xor_self,Nat.xor_zero] at this
theorem lt_bits {x y b:Nat} (h1:x.testBit b=true) (h2:y.testBit b=false) (h3:∀ j,b < j->x.testBit j=y.testBit j):y < x:=by
 have e:x / 2^(b+1)=y / 2^(b+1):=Nat.eq_of_testBit_eq fun i=>by
  rw [Nat.testBit_div_two_pow,Nat.testBit_div_two_pow];exact h3 _ Kf
 have hx:2^b<=x%2^(b+1):=by
  refine Nat.ge_two_pow_of_testBit ?_;rw [Nat.testBit_mod_two_pow,h1];simp
 have hy:y%2^(b+1) < 2^b:=by
  refine Nat.lt_pow_two_of_testBit _ fun i hi=>?_;rw [Nat.testBit_mod_two_pow];by_cases hb:i=b
  ·subst hb; rw [h2]; simp
  ·simp; omega
 have ex:=Nat.div_add_mod x (2^(b+1));have ey:=Nat.div_add_mod y (2^(b+1));rw [e] at ex;omega
theorem xor_lt {m r b:Nat} (hr:r.testBit b=true) (hb:r < 2^(b+1)):(min m (m^^^r)).testBit b=false:=by
 have key:∀ {x y:Nat},x.testBit b=true->y.testBit b=false->(∀ j,b < j->x.testBit j=y.testBit j)->y < x:=fun {x y} h1 h2 h3=>by
  exact lt_bits h1 h2 h3
 have hi:∀ j,b < j->r.testBit j=false:=fun j hj=>Nat.testBit_lt_two_pow (Nat.lt_of_lt_of_le hb (Nat.pow_le_pow_right Kf hj));by_cases hm:m.testBit b=true
 ·have h2:(m^^^r).testBit b=false:=by rw [Nat.testBit_xor,hm,hr];rfl
  have:=key hm h2 fun j hj=>by rw [Nat.testBit_xor,hi j hj];simp
  rw [Nat.min_eq_right Kf];exact h2
 ·have hm:m.testBit b=false:=by simpa using hm
  have h2:(m^^^r).testBit b=true:=by rw [Nat.testBit_xor,hm,hr];rfl
  have:=key h2 hm fun j hj=>by rw [Nat.testBit_xor,hi j hj];simp
  rw [Nat.min_eq_left Kf];exact hm
theorem top_bit {m:Nat} (h:m≠0):∃ b,m.testBit b=true/\m < 2^(b+1):=by
 refine ⟨Nat.log2 m,?_,Nat.lt_log2_self⟩;exact Nat.testBit_log2 h
def TopL:List Nat->Prop
 | []=>True
 | r :: rs=>(∃ b,r.testBit b=true/\r < 2^(b+1) /\ ∀ s∈rs,s.testBit b=false)/\TopL rs
theorem TopL.tri:∀ {l:List Nat},TopL l->TriL l
 | [],_=>trivial
 | r :: rs,⟨⟨b,h1,_,h3⟩,ht⟩=>⟨⟨b,h1,h3⟩,ht.tri⟩
theorem jpb {b:Nat}:∀ {rows:List Nat} {m:Nat},m.testBit b=false->(∀ s∈rows,s.testBit b=false)->(redM rows m).testBit b=false
 | [],m,h,_=>h
 | r :: rs,m,h,hs=>by
  have hr:=hs r (List.mem_cons_self ..);have hx:(m^^^r).testBit b=false:=by rw [Nat.testBit_xor,h,hr];rfl
  show (redM rs (min m (m^^^r))).testBit b=false;refine jpb ?_ fun s h=>hs s (List.mem_cons_of_mem _ h);rcases (by omega:min m (m^^^r)=m∨min m (m^^^r)=m^^^r) with e|e <;> rw [e] <;> assumption
theorem top_snoc:∀ {l:List Nat} {m:Nat},TopL l->redM l m≠0->TopL (l++[redM l m])
 | [],m,_,h=>by
  obtain ⟨b,h1,h2⟩:=top_bit h;exact ⟨⟨b,h1,h2,by simp⟩,trivial⟩
 | r :: rs,m,⟨⟨b,h1,h2,h3⟩,ht⟩,h=>by
  have e:redM (r :: rs) m=redM rs (min m (m^^^r)):=rfl;rw [e] at h ⊢;have c:=jpb (rows:=rs) (xor_lt (m:=m) h1 h2) h3;refine ⟨⟨b,h1,h2,fun s hs=>?_⟩,top_snoc ht h⟩;rcases List.mem_append.1 hs with hs|hs
  ·exact h3 s hs
  ·rw [List.mem_singleton.1 hs];exact c
theorem span_app {l m:List Nat}:∀ x∈spanL l,x∈spanL (l++m):=jga fun x hx=>jfb (List.mem_append_left _ hx)
theorem add_spec {rows:List Nat} {m:Nat} (h:TopL rows):TopL (addM rows m)/\(∀ x∈rows,x∈spanL (addM rows m))/\m∈spanL (addM rows m) /\ ∀ all:List Nat,(∀ x∈rows,x∈spanL all)->m∈spanL all -> ∀ x∈addM rows m,x∈spanL all:=by
 unfold addM;have R:=jjq (rows:=rows) (all:=rows) (m:=m) fun r hr=>jfb hr;by_cases hz:redM rows m=0
 ·rw [if_pos hz];refine ⟨h,fun x hx=>jfb hx,?_,fun all h1 _=>h1⟩;rwa [hz,Nat.xor_zero] at R
 ·rw [if_neg hz];refine ⟨top_snoc h hz,fun x hx=>jfb (List.mem_append_left _ hx),?_,fun all h1 h2 x hx=>?_⟩
  ·have:=jfz (span_app (m:=[redM rows m]) _ R) (jfb (List.mem_append_right rows (List.mem_singleton.2 rfl)));rwa [Nat.xor_assoc,Nat.xor_self,Nat.xor_zero] at this
  ·rcases List.mem_append.1 hx with hx|hx
   ·exact h1 x hx
   ·rw [List.mem_singleton.1 hx];have:=jfz h2 (jjq (rows:=rows) (all:=all) (m:=m) h1);rwa [jmg] at this
theorem bas_spec:∀ (ms:List Nat) (rows:List Nat),TopL rows->TopL (ms.foldl addM rows)/\(∀ x∈rows,x∈spanL (ms.foldl addM rows))/\(∀ m∈ms,m∈spanL (ms.foldl addM rows)) /\ ∀ all:List Nat,(∀ x∈rows,x∈spanL all)->(∀ m∈ms,m∈spanL all) -> ∀ x∈ms.foldl addM rows,x∈spanL all
 | [],rows,h=>⟨h,fun x hx=>jfb hx,by simp,fun all h1 _=>h1⟩
 | m :: ms,rows,h=>by
  obtain ⟨a1,a2,a3,a4⟩:=add_spec (m:=m) h;obtain ⟨b1,b2,b3,b4⟩:=bas_spec ms (addM rows m) a1;refine ⟨b1,fun x hx=>jga b2 _ (a2 x hx),fun y hy=>?_,fun all h1 h2=>b4 all (a4 all h1 (h2 m (List.mem_cons_self ..))) fun y hy=>h2 y (List.mem_cons_of_mem _ hy)⟩;rcases List.mem_cons.1 hy with rfl|hy
  ·exact jga b2 _ a3
  ·exact b3 y hy
theorem bas_rank {ms a:List Nat} (ha:TriL a) (h1:∀ x∈a,x∈spanL ms) (h2:∀ m∈ms,m∈spanL a):(basM ms).length=a.length:=by
 obtain ⟨b1,_,b3,b4⟩:=bas_spec ms [] trivial;refine rank_unique b1.tri ha (fun x hx=>?_) fun x hx=>?_
 ·exact b4 a Yby h2 x hx
 ·exact jga b3 _ (h1 x hx)
end
section
variable [Glb]
open Go Go.RowKit
section
variable {P:Program} {st:St} {dst:Option Tmp} {ty:TypeId} {pos:String} {af:Array Edge}
def tArrV (P:Program) (T:TypeId) (n:Nat):Bool:=match P.underlying T with
 | some (.array l E)=>l == n&&(tOne P E&&tSize P E 1)
 | _=>false
theorem jel {T:TypeId} {x y:Operand} {k:IntKind} {n:Nat} {j:Int} {cs:List C} {c:C} (hx:st.ev x = .g cs) (hy:st.ev y = .c (.d (.lit (.int k j)))) (ht:tArrV P T n=true) (h0:0<=j) (h1:j < n) (hc:cs[j.toNat]? = some c) :
  Qt P ⟨dst,.index T x y,ty,pos,af,none⟩ st (.c c):=fun w0 ρ Φ a w hm=>by
 have h:=hm.ev x;rw [hx] at h;have h2:a.eval y = .int k j:=FR.lit_inv (by rw [<- hy];exact hm.ev y);obtain ⟨us,hv,hl,hr⟩:=h.g_inv;obtain ⟨hlt,rfl⟩:=List.getElem?_eq_some_iff.1 hc;have e0:us[j.toNat]? = some (us.getD j.toNat undef):=by rw [List.getD_eq_getElem?_getD,List.getElem?_eq_getElem Kf];rfl
 have hr0:=hr j.toNat hlt;generalize us.getD j.toNat undef=gv at *;refine ⟨gv,fun w' _=>?_,.c _ _ hr0⟩;unfold tArrV at ht;cases hu:P.underlying T with
 | none=>simp [hu] at ht
 | some d =>
  cases d with
  | array l E =>
   simp only [hu,Bool.and_eq_true,beq_iff_eq] at ht;obtain ⟨rfl,t1,t2⟩:=ht;unfold tSize at t2;cases hi:P.info? E with
   | none=>simp [hi] at t2
   | some inf =>
    simp only [hi,beq_iff_eq] at t2;simp [execOp,Instr.index,asIntOf,underlying,hu,hv,h2,part,jhl t1,sizeOf,typeInfo,hi,t2,e0,h0,h1]
  | _=>simp [hu] at ht
def tArrN (P:Program) (T:TypeId) (n m:Nat):Bool:=match P.underlying T with
 | some (.array l E)=>l == n&&tAgg P E m
 | _=>false
theorem jmy {T:TypeId} {x y:Operand} {k:IntKind} {n m:Nat} {j:Int} {cs:List C} (hx:st.ev x = .g cs) (hy:st.ev y = .c (.d (.lit (.int k j)))) (ht:tArrN P T n m=true) (h0:0<=j) (h1:j < n) (hn:Nat.ble (j.toNat*m+m) cs.length=true) :
  Qt P ⟨dst,.index T x y,ty,pos,af,none⟩ st (.g ((cs.drop (j.toNat*m)).take m)):=fun w0 ρ Φ a w hm=>by
 have h:=hm.ev x;rw [hx] at h;have h2:a.eval y = .int k j:=FR.lit_inv (by rw [<- hy];exact hm.ev y);obtain ⟨us,hv,hl,hr⟩:=h.g_inv;have hn':j.toNat*m+m<=cs.length:=by simpa using hn
 unfold tArrN at ht;cases hu:P.underlying T with
 | none=>simp [hu] at ht
 | some d =>
  cases d with
  | array l E =>
   simp only [hu,Bool.and_eq_true,beq_iff_eq] at ht;obtain ⟨rfl,t1⟩:=ht;obtain ⟨⟨d',hu',hd'⟩,i,hi,hs⟩:=tAgg_spec t1;refine ⟨.agg ((us.drop (j.toNat*m)).take m).toArray,fun w' _=>?_,.g _ _ Ybw fun k hk=>?_⟩
   ·have ha:(isAgg E).run P w' = .ok true w':=by cases d' <;> simp_all [isAgg,underlying,TypeDesc.isRow]
    simp [execOp,Instr.index,asIntOf,underlying,hu,hv,h2,part,ha,sizeOf,typeInfo,hi,hs,List.extract_eq_take_drop,h0,h1]
   ·have hk':k < m:=by simp at hk;omega
    have e:((us.drop (j.toNat*m)).take m).getD k undef=us.getD (j.toNat*m+k) undef:=by
     rw [List.getD_eq_getElem?_getD,List.getD_eq_getElem?_getD,List.getElem?_take_of_lt hk',List.getElem?_drop]
    rw [e];have:=hr (j.toNat*m+k) Kf;simpa using this
  | _=>simp [hu] at ht
end
theorem jdy {st:St} (t:Nat) {x:FV} (x':FV) (hb:st.fr t=x) (e:x=x'):∀ w0 a w,Sim w0 st a w->Sim w0 (st.put t x') a w:=by
 subst e;have:st.put t x=st:=by
  unfold St.put;cases st with
  | mk n fr bl =>
   simp only [St.mk.injEq,and_true,true_and];funext k;split
   ·rename_i h;subst h;exact hb.symm
   ·rfl
 rw [this];exact fun _ _ _ h=>h
section
variable {P:Program} {st:St} {dst:Option Tmp} {ty:TypeId} {pos:String} {af:Array Edge}
end
end
theorem jfa (a:Nat):BitVec.ofInt 64 (a:Int)=BitVec.ofNat 64 a:=by simp
theorem wrap_nat {n:Nat} (h:n < 9223372036854775808):IntKind.i64.wrap (n:Int)=n:=IntWalk.i64_in _ ⟨by omega,by omega⟩
theorem bor_nat (a b:Nat) (ha:a < 9223372036854775808) (hb:b < 9223372036854775808):bits .or .i64 (a:Int) (b:Int)=((a ||| b:Nat):Int):=by
 have e:bits .or .i64 (a:Int) (b:Int)=IntKind.i64.wrap (((BitVec.ofInt 64 (a:Int) ||| BitVec.ofInt 64 (b:Int)).toNat:Nat):Int):=rfl;rw [e,jfa,jfa,BitVec.toNat_or,BitVec.toNat_ofNat,BitVec.toNat_ofNat,Nat.mod_eq_of_lt Kf,Nat.mod_eq_of_lt Kf];exact wrap_nat (Nat.or_lt_two_pow (n:=63) ha hb)
theorem bxor_nat (a b:Nat) (ha:a < 9223372036854775808) (hb:b < 9223372036854775808):bits .xor .i64 (a:Int) (b:Int)=((a^^^b:Nat):Int):=by
 have e:bits .xor .i64 (a:Int) (b:Int)=IntKind.i64.wrap (((BitVec.ofInt 64 (a:Int)^^^BitVec.ofInt 64 (b:Int)).toNat:Nat):Int):=rfl;rw [e,jfa,jfa,BitVec.toNat_xor,BitVec.toNat_ofNat,BitVec.toNat_ofNat,Nat.mod_eq_of_lt Kf,Nat.mod_eq_of_lt Kf];exact wrap_nat (Nat.xor_lt_two_pow (n:=63) ha hb)
section
variable [Glb]
open Go Go.RowKit
section
variable {P:Program} {st:St} {dst:Option Tmp} {ty:TypeId} {pos:String} {af:Array Edge}
theorem qt_makeBound {f:Fn} {x:Operand} {ds:List D} (hx:st.ev x = .g (ds.map C.d)):Qt P ⟨dst,.makeFunc f #[x] #[],ty,pos,af,none⟩ st (.c (.d (.bf f ds))):=fun w0 ρ Φ a w hm=>by
 have h:=hm.ev x;rw [hx] at h;obtain ⟨us,hv,hl,hr⟩:=h.g_inv;rw [List.length_map] at hl;obtain ⟨Fs,hF⟩:=jkz (n:=ds.length) (p:=fun k F => ∀ hk:k < ds.length,Vw w (us.getD k undef) ds[k] F /\ ∀ b∈F,¬ InΦ Φ b) (fun k hk=>by
  have:=hr k (by simpa using hk);rw [List.getElem_map] at this;generalize us.getD k undef=v at *;cases this with
  | d _ _ F h hF=>exact ⟨F,fun _=>⟨h,hF⟩⟩)
 refine ⟨.func f #[.agg us.toArray] #[],fun w' _=>by simp [execOp,Instr.makeFunc,hv],.c _ _ (.d _ _ _ (.bf f ds us Fs hl fun k hk=>(hF k hk hk).1) fun b hb=>?_)⟩;obtain ⟨k,hk,hb⟩:=jcj.1 hb;exact (hF k hk hk).2 b hb
end
section
variable {P:Program} {ops:Array Oper} {mu:Nat->Bool} {r:OT} {st:St} {K:St->Prop} {i:Nat} {ty:TypeId} {pos:String} {af:Array Edge}
theorem call_wpB {f:Operand} {xs:List Operand} {ts:Array TypeId} {dst:Option Tmp} {fid:FuncId} {caps:List D} {aa9:List RP} {res:Res} {w0:Ctx} {w:World} {ρ:Nat->Option Nat} {Φ:Nat->List Nat} {a:Act} {next:Act->World->Prop} {Q:Exit->Act->World->Prop}
  (hm:Sm w0 ρ Φ st a w) (hf:st.ev f = .c (.d (.bf (.func fid) caps))) (ha:SeA st xs aa9) (hc:PC P fid (.g caps :: aa9) res)
  (h:∀ v w' F,OwR w' v res F->F.Nodup->(∀ g∈F,w.heap.size<=g)->Below w.heap.size w w'->next (a.put dst v) w') :
  Oper.wp P ⟨dst,.call { callee:=.value f,args:=⟨xs⟩,argTypes:=ts },ty,pos,af,none⟩ a w next Q:=by
 have hfv:=hm.ev f;rw [hf] at hfv;have hfc:=hfv.c_inv;generalize hv:a.eval f=v at *;cases hfc with
 | d _ _ F hF _ =>
  cases hF with
  | bf _ _ us Fs hl hr =>
   have hargs:VwL w ([Value.agg us.toArray]++xs.map a.eval) ([.g caps]++aa9):=VwL.append (⟨rfl,fun k hk=>by
    have:k=0:=by simpa using hk
    subst this;exact .g _ _ hl fun k hk=>⟨_,hr k hk⟩⟩) (SeA.vw hm ha)
   have hcalls:=hc.2 w _ hm.below.ok hargs;have hex:(execOp a.eval ⟨dst,.call { callee:=.value f,args:=⟨xs⟩,argTypes:=ts },ty,pos,af,none⟩).run P w = .ok (.enter fid ([Value.agg us.toArray]++xs.map a.eval).toArray) w:=by
    simp only [execOp,resolve,hv,Sem.run_bind];simp [Deferred.ofValue,invoke];exact hc.1 _ _
   unfold Oper.wp;rw [hex];refine Calls.mono hcalls ?_;rintro e w' ⟨v,F,rfl,h1,h2,h3,h4⟩;exact h v w' F h1 h2 h3 h4
theorem so_callB {f:Operand} {xs:List Operand} {ts:Array TypeId} {d:Nat} {fid:FuncId} {caps:List D} {aa9:List RP} {res:Res} (hf:st.ev f = .c (.d (.bf (.func fid) caps))) (ha:SeA st xs aa9) (hc:PC P fid (.g caps :: aa9) res)
  (hd:Nat.blt d st.n=true) (h:SO P ops mu r (st.put d (res.shape (res.cells.map C.d))) K) :
  SO P ops mu (.cons (some ⟨some d,.call { callee:=.value f,args:=⟨xs⟩,argTypes:=ts },ty,pos,af,none⟩,i,false) r) st K:=by
 refine so_a fun w0 a w hs next Q hn=>?_;obtain ⟨ρ,Φ,hm⟩:=hs;refine call_wpB hm hf ha hc fun v w' F ho hnd hlow hb=>hn _ _ (fun _ => .of hb) ⟨_,⟨ρ,Φ,(hm.later hb).put ?_ d (by simpa using hd)⟩,h⟩;obtain ⟨us,hol,hsh⟩:=ho.open;refine hsh ρ (InΦ Φ) _ Yby fun k hk hk'=>?_;simp only [List.getElem_map];have gen:∀ {us:List Value} {xs:List D} {F:List Nat},OwL w' us xs F->(∀ g∈F,w.heap.size<=g) -> ∀ k (hk:k < xs.length),CR w' ρ (InΦ Φ) (us.getD k undef) (.d xs[k]):=by
  intro us xs F ho;induction ho with
  | nil=>intro _ k hk;simp at hk
  | cons h t ih =>
   intro hF k hk;cases k with
   | zero =>
    obtain ⟨F',h1,h2⟩:=h.vw;refine .d _ _ F' h1 fun b hb' hΦ=>?_;obtain ⟨c,hc⟩:=hΦ;have:=hF b (List.mem_append_left _ (h2 b hb'));have:=hm.lt hc;omega
   | succ k=>simpa using ih (fun g hg=>hF g (List.mem_append_right _ hg)) k (by simpa using hk)
 exact gen hol hlow k hk
end
end
section
open Go
def rw0 (l:List Nat) (i:Nat):Nat:=l.getD i 0
theorem jgq {l:List Nat} {i:Nat} (h:i < l.length):rw0 l i=l[i]:=by unfold rw0; rw [List.getD_eq_getElem?_getD,List.getElem?_eq_getElem h]; rfl
theorem jms {l:List Nat} {i:Nat} (h:i < l.length) (v j:Nat):rw0 (l.set i v) j=if j=i then v else rw0 l j:=by
 unfold rw0;rw [List.getD_eq_getElem?_getD,List.getD_eq_getElem?_getD];by_cases e:j=i
 ·subst e;rw [if_pos rfl,List.getElem?_set_self h];rfl
 ·rw [if_neg e,List.getElem?_set_ne (fun h=>e h.symm)]
theorem jhk {l:List Nat} {i:Nat} (h:i < l.length):rw0 l i∈l:=by rw [jgq h]; exact List.getElem_mem h
theorem jng {l:List Nat} {x:Nat} (h:x∈l):∃ i,i < l.length/\x=rw0 l i:=by
 obtain ⟨i,hi,rfl⟩:=List.getElem_of_mem h;exact ⟨i,hi,(jgq hi).symm⟩
structure Elim (ms rows : List Nat) (n rank e : Nat) : Prop where
 len:rows.length=ms.length
 rk:rank<=rows.length
 lt:∀ j,j < rows.length->rw0 rows j < 2^n
 tri:∀ i,i < rank -> ∃ b,(rw0 rows i).testBit b=true /\ ∀ j,i < j->j < rows.length->(rw0 rows j).testBit b=false
 low:∀ j,rank<=j->j < rows.length -> ∀ b,b < e->(rw0 rows j).testBit b=false
 s1:∀ x∈rows,x∈spanL ms
 s2:∀ m∈ms,m∈spanL rows
theorem elim_start {ms:List Nat} {n:Nat} (h:∀ m∈ms,m < 2^n):Elim ms ms n 0 0 :=
 ⟨rfl,by omega,fun j hj=>h _ (jhk hj),fun i hi=>by omega,fun j _ _ b hb=>by omega,fun x hx=>jfb hx,fun m hm=>jfb hm⟩
theorem elim_skip {ms rows:List Nat} {n rank e:Nat} (h:Elim ms rows n rank e) (hn:∀ j,rank<=j->j < rows.length->(rw0 rows j).testBit e=false):Elim ms rows n rank (e+1) :=
 ⟨h.len,h.rk,h.lt,h.tri,fun j h1 h2 b hb=>by
  by_cases hbe:b=e
  ·subst hbe;exact hn j h1 h2
  ·exact h.low j h1 h2 b Kf,h.s1,h.s2⟩
theorem elim_swap {ms rows:List Nat} {n rank e k:Nat} (h:Elim ms rows n rank e) (h1:rank<=k) (h2:k < rows.length):Elim ms ((rows.set k (rw0 rows rank)).set rank (rw0 rows k)) n rank e:=by
 have g:∀ j,rw0 ((rows.set k (rw0 rows rank)).set rank (rw0 rows k)) j=if j=rank then rw0 rows k else if j=k then rw0 rows rank else rw0 rows j:=fun j=>by
  rw [jms (by rw [List.length_set];omega),jms h2]
 have p:∀ j,rank<=j->j < rows.length -> ∃ j',rank<=j'/\j' < rows.length/\rw0 ((rows.set k (rw0 rows rank)).set rank (rw0 rows k)) j=rw0 rows j':=fun j a b=>by
  rw [g];by_cases e1:j=rank
  ·exact ⟨k,h1,h2,if_pos e1⟩
  ·rw [if_neg e1];by_cases e2:j=k
   ·exact ⟨rank,by omega,by omega,if_pos e2⟩
   ·exact ⟨j,a,b,if_neg e2⟩
 have q:∀ j,j < rank->rw0 ((rows.set k (rw0 rows rank)).set rank (rw0 rows k)) j=rw0 rows j:=fun j a=>by rw [g,if_neg Kf,if_neg Kf]
 have all:∀ j,j < rows.length -> ∃ j',j' < rows.length/\rw0 ((rows.set k (rw0 rows rank)).set rank (rw0 rows k)) j=rw0 rows j'/\(rank<=j->rank<=j')/\(j < rank->j'=j):=fun j a=>by
  by_cases c:rank<=j
  ·obtain ⟨j',a1,a2,a3⟩:=p j c a;exact ⟨j',a2,a3,fun _=>a1,fun h=>by omega⟩
  ·exact ⟨j,a,q j Kf,fun h=>absurd h c,fun _=>rfl⟩
 refine ⟨by simp [h.len],by simp;exact h.rk,fun j hj=>?_,fun i hi=>?_,fun j a b=>?_,fun x hx=>?_,fun m hm=>?_⟩
 ·obtain ⟨j',a1,a2,_⟩:=all j (by simpa using hj);rw [a2]; exact h.lt j' a1
 ·obtain ⟨b,b1,b2⟩:=h.tri i hi;refine ⟨b,by rw [q i hi];exact b1,fun j a c=>?_⟩;obtain ⟨j',a1,a2,a3,a4⟩:=all j (by simpa using c);rw [a2];refine b2 j' ?_ a1;by_cases d:rank<=j
  ·have:=a3 d; omega
  ·rw [a4 Kf];exact a
 ·obtain ⟨j',a1,a2,a3⟩:=p j a (by simpa using b);rw [a3];exact h.low j' a1 a2
 ·obtain ⟨j,a,rfl⟩:=jng hx;obtain ⟨j',a1,a2,_⟩:=all j (by simpa using a);rw [a2];exact h.s1 _ (jhk a1)
 ·refine jga (fun x hx=>?_) _ (h.s2 m hm);obtain ⟨j,a,rfl⟩:=jng hx;have inv:∃ j',j' < rows.length/\rw0 rows j=rw0 ((rows.set k (rw0 rows rank)).set rank (rw0 rows k)) j':=by
   by_cases e1:j=rank
   ·by_cases e3:k=rank
    ·exact ⟨j,a,by rw [g,if_pos e1,e1,e3]⟩
    ·exact ⟨k,h2,by rw [g,if_neg e3,if_pos rfl,e1]⟩
   ·by_cases e2:j=k
    ·exact ⟨rank,by omega,by rw [g,if_pos rfl,e2]⟩
    ·exact ⟨j,a,by rw [g,if_neg e1,if_neg e2]⟩
  obtain ⟨j',a1,a2⟩:=inv;rw [a2];exact jfb (jhk (by simpa using a1))
structure Clear (ms rows : List Nat) (n rank e i : Nat) : Prop where
 el:Elim ms rows n rank e
 rk:rank < rows.length
 pv:(rw0 rows rank).testBit e=true
 i1:rank < i
 i2:i<=rows.length
 cl:∀ j,rank < j->j < i->(rw0 rows j).testBit e=false
theorem clear_step {ms rows:List Nat} {n rank e i:Nat} (h:Clear ms rows n rank e i) (hi:i < rows.length):Clear ms (if (rw0 rows i).testBit e=true then rows.set i (rw0 rows i^^^rw0 rows rank) else rows) n rank e (i+1):=by
 obtain ⟨el,rk,pv,i1,i2,cl⟩:=h;by_cases hb:(rw0 rows i).testBit e=true
 ·rw [if_pos hb];have g:∀ j,rw0 (rows.set i (rw0 rows i^^^rw0 rows rank)) j=if j=i then rw0 rows i^^^rw0 rows rank else rw0 rows j:=fun j=>jms hi _ j;refine ⟨⟨by simp [el.len],by simp;exact el.rk,fun j hj=>?_,fun t ht=>?_,fun j a b c hc=>?_,fun x hx=>?_,fun m hm=>?_⟩,by simpa using rk,?_,by omega,by rw [List.length_set];exact hi,fun j a b=>?_⟩
  ·rw [g];have hj:j < rows.length:=by simpa using hj
   split
   ·exact Nat.xor_lt_two_pow (el.lt i hi) (el.lt rank rk)
   ·exact el.lt j hj
  ·obtain ⟨b,b1,b2⟩:=el.tri t ht;refine ⟨b,by rw [g,if_neg Kf];exact b1,fun j a c=>?_⟩;rw [g];split
   ·rw [Nat.testBit_xor,b2 i Kf hi,b2 rank Kf rk];rfl
   ·exact b2 j a (by simpa using c)
  ·rw [g];split
   ·rw [Nat.testBit_xor,el.low i Kf hi c hc,el.low rank Kf rk c hc];rfl
   ·exact el.low j a (by simpa using b) c hc
  ·obtain ⟨j,a,rfl⟩:=jng hx;rw [g];split
   ·exact jfz (el.s1 _ (jhk hi)) (el.s1 _ (jhk rk))
   ·exact el.s1 _ (jhk (by simpa using a))
  ·refine jga (fun x hx=>?_) _ (el.s2 m hm);obtain ⟨j,a,rfl⟩:=jng hx;have mem:∀ j,j < rows.length->(if j=i then rw0 rows i^^^rw0 rows rank else rw0 rows j)∈spanL (rows.set i (rw0 rows i^^^rw0 rows rank)):=fun j hj=>by
    rw [<- g];exact jfb (jhk (by simpa using hj))
   by_cases ej:j=i
   ·subst ej;have m1:=mem j hi;have m2:=mem rank rk;rw [if_pos rfl] at m1;rw [if_neg Kf] at m2;have:=jfz m1 m2;rwa [Nat.xor_assoc,Nat.xor_self,Nat.xor_zero] at this
   ·have:=mem j a;rwa [if_neg ej] at this
  ·rw [g,if_neg Kf];exact pv
  ·rw [g];split
   ·rw [Nat.testBit_xor,hb,pv];rfl
   ·exact cl j a Kf
 ·rw [if_neg hb];refine ⟨el,rk,pv,by omega,by omega,fun j a b=>?_⟩;by_cases ej:j=i
  ·subst ej; simpa using hb
  ·exact cl j a Kf
theorem clear_end {ms rows:List Nat} {n rank e:Nat} (h:Clear ms rows n rank e rows.length):Elim ms rows n (rank+1) (e+1):=by
 obtain ⟨el,rk,pv,i1,i2,cl⟩:=h;refine ⟨el.len,by omega,el.lt,fun i hi=>?_,fun j a b c hc=>?_,el.s1,el.s2⟩
 ·by_cases ei:i=rank
  ·subst ei;exact ⟨e,pv,fun j a b=>cl j a b⟩
  ·exact el.tri i Kf
 ·by_cases ec:c=e
  ·subst ec;exact cl j Kf b
  ·exact el.low j Kf b c Kf
theorem tri_take {rows:List Nat}:∀ {rank:Nat},rank<=rows.length->(∀ i,i < rank -> ∃ b,(rw0 rows i).testBit b=true /\ ∀ j,i < j->j < rows.length->(rw0 rows j).testBit b=false) -> ∀ k,k<=rank->TriL ((rows.take rank).drop (rank - k))
 | rank,hr,h,0,_=>by
  rw [List.drop_of_length_le Ybw];trivial
 | rank,hr,h,k+1,hk=>by
  have ih:=tri_take hr h k Kf;have hi:rank - (k+1) < (rows.take rank).length:=by rw [List.length_take];omega
  rw [List.drop_eq_getElem_cons hi,show rank - (k+1)+1=rank - k by omega];obtain ⟨b,b1,b2⟩:=h (rank - (k+1)) Kf;have eg:(rows.take rank)[rank - (k+1)]=rw0 rows (rank - (k+1)):=by rw [List.getElem_take,jgq Kf]
  refine ⟨⟨b,by rw [eg];exact b1,fun s hs=>?_⟩,ih⟩;obtain ⟨j,hj,rfl⟩:=List.getElem_of_mem hs;rw [List.getElem_drop,List.getElem_take];rw [List.length_drop,List.length_take] at hj;have:=b2 (rank - k+j) Kf Kf;rwa [jgq Kf] at this
theorem elim_end {ms rows:List Nat} {n rank:Nat} (h:Elim ms rows n rank n):rank=(basM ms).length:=by
 have t:=tri_take h.rk h.tri rank (Nat.le_refl _);rw [Nat.sub_self,List.drop_zero] at t;have z:∀ j,rank<=j->j < rows.length->rw0 rows j=0:=fun j a b=>by
  refine Nat.eq_of_testBit_eq fun i=>?_;rw [Nat.zero_testBit];by_cases hi:i < n
  ·exact h.low j a b i hi
  ·exact Nat.testBit_lt_two_pow (Nat.lt_of_lt_of_le (h.lt j b) (Nat.pow_le_pow_right Kf Kf))
 have e:=bas_rank (ms:=ms) t (fun x hx=>h.s1 x (List.mem_of_mem_take hx)) fun m hm=>by
  refine jga (fun x hx=>?_) _ (h.s2 m hm);obtain ⟨j,hj,rfl⟩:=jng hx;by_cases c:j < rank
  ·refine jfb ?_;rw [jgq hj,List.mem_take_iff_getElem];exact ⟨j,by omega,rfl⟩
  ·rw [z j Kf hj];exact jhw _
 rw [e,List.length_take,Nat.min_eq_left h.rk]
end
section
variable [Glb]
open Go Go.RowKit
theorem sim_empty {st:St} (b sz:Nat) (hbl:Nat.blt b 1000000=true) (hz:0 < sz):∀ w0 a w,Sim w0 st a w->Sim w0 (st.new [(b,.row sz [])]) a w:=by
 rintro w0 a w ⟨ρ,Φ,hm⟩;obtain ⟨ρ',Φ',hm',hρ⟩:=hm.nilRow b sz (by simpa using hbl) hz;exact ⟨ρ',Φ',hm'⟩
def nilOr (b:Nat):List Int->FV
 | [] => .c (.d (.lit (.slice none 0 0)))
 | _ :: l => .c (.ls b 1 0 (l.length+1))
end
end Go.Proofs.YtbhbkbnlpackdaaGreatDoor
