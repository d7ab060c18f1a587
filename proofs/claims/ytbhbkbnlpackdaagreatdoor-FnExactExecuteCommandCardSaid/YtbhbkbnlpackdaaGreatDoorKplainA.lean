/- A way of walking over plain data: part of the proof of FnExactRunScript and FnExactReplayLog and FnExactExecuteCommand. No condition beyond those of its theorems. -/
import Derived.WalkKit
import Derived.Below
import Derived.Deep.RegionHeld3
import Derived.Laws.Cells
import Derived.Laws.CopyRow
import Derived.Laws.IdiomRangeMap
import Derived.ArgAppend
import Derived.Laws.OwnMore
import Derived.Laws.MakeOwn
import Derived.OrdersHeld
import Derived.Deep.MidRow
import Derived.ProofKit
import Derived.Deep.Slices
set_option linter.unusedSectionVars false
set_option maxRecDepth 10000
set_option maxHeartbeats 4000000
set_option linter.unusedVariables false
set_option linter.unusedSimpArgs false
namespace Go.Proofs.YtbhbkbnlpackdaaGreatDoor
open Go.RowKit
open Go Go.RowKit
inductive D where
 | lit (v:Value)
 | sl (sz n:Nat) (ds:List D)
 | pt (ds:List D)
 | fn (f:Fn) (ds:List D)
 | bf (f:Fn) (ds:List D)
 | same (v:Value) (x:D)
 | any
instance : Inhabited D := ⟨.lit .nilFunc⟩
def adrO (ao:Option Addr):Addr:=ao.getD default
@[simp] theorem adrO_some (a : Addr) : adrO (some a) = a := rfl
def sc:Value->Bool
 | .int _ _=>true
 | .bool _=>true
 | .nilFunc=>true
 | .string s=>decide (s.size<=9223372036854775807)
 | .slice none 0 0=>true
 | .pointer none=>true
 | _=>false
theorem adr_add (a:Addr) (m j:Nat):(a.add m).add j=a.add (m+j):=by
 unfold Addr.add;by_cases hj:j=0
 ·subst hj; simp
 ·by_cases hm:m=0
  ·subst hm; simp [hj]
  ·have:m+j≠0:=by omega
   simp [hj,hm,this,Nat.add_assoc]
theorem jgv (a:Addr) (m:Nat):(a.add m).block=a.block:=by unfold Addr.add; split <;> rfl
theorem jgu (g o m:Nat):(⟨g,o,none⟩:Addr).add m=⟨g,o+m,none⟩:=by
 unfold Addr.add; split
 ·subst_vars; rfl
 ·rfl
def parts (n:Nat) (Fs:Nat->List Nat):List Nat:=(List.range n).flatMap Fs
theorem jcj {n:Nat} {Fs:Nat->List Nat} {b:Nat}:b∈parts n Fs ↔ ∃ k,k < n/\b∈Fs k:=by simp [parts]
inductive Vw (w : World) : Value -> D -> List Nat -> Prop
  | lit (v:Value) (h:sc v=true):Vw w v (.lit v) []
  | sl (ao : Option Addr) (n cap sz : Nat) (ds : List D) (us : Nat -> Value) (Fs : Nat -> List Nat)
      (hn:ds.length=n*sz) (hz:0 < sz) (hle:n<=9223372036854775807/\n<=cap) (hs:0 < n->ao.isSome=true)
      (hc:∀ k,k < ds.length->w.cell? ((adrO ao).add k)=some (us k))
      (hr:∀ k (hk:k < ds.length),Vw w (us k) ds[k] (Fs k)) :
      Vw w (.slice ao n cap) (.sl sz n ds) (if n=0 then [] else (adrO ao).block :: parts ds.length Fs)
  | pt (a : Addr) (ds : List D) (us : Nat -> Value) (Fs : Nat -> List Nat) (h0 : 0 < ds.length)
      (hc:∀ k,k < ds.length->w.cell? (a.add k)=some (us k)) (hr:∀ k (hk:k < ds.length),Vw w (us k) ds[k] (Fs k)) :
      Vw w (.pointer (some a)) (.pt ds) (a.block :: parts ds.length Fs)
  | fn (f : Fn) (ds : List D) (us : List Value) (Fs : Nat -> List Nat) (hl : us.length = ds.length)
      (hr:∀ k (hk:k < ds.length),Vw w (us.getD k undef) ds[k] (Fs k)):Vw w (.func f #[] us.toArray) (.fn f ds) (parts ds.length Fs)
  | bf (f : Fn) (ds : List D) (us : List Value) (Fs : Nat -> List Nat) (hl : us.length = ds.length)
      (hr:∀ k (hk:k < ds.length),Vw w (us.getD k undef) ds[k] (Fs k)):Vw w (.func f #[.agg us.toArray] #[]) (.bf f ds) (parts ds.length Fs)
  | same (v:Value) (x:D) (F:List Nat) (h:Vw w v x F):Vw w v (.same v x) F
  | any (v:Value) (h:v.oneCell'=true):Vw w v .any []
inductive Ow (w : World) : Value -> D -> List Nat -> Prop
  | lit (v:Value) (h:sc v=true):Ow w v (.lit v) []
  | nil (sz:Nat) (hz:0 < sz):Ow w (.slice none 0 0) (.sl sz 0 []) []
  | sl (g n cap sz : Nat) (E : TypeId) (cs : Array Value) (ds : List D) (us : Nat -> Value) (Fs : Nat -> List Nat)
      (hn:ds.length=n*sz) (hz:0 < sz) (hle:cap<=9223372036854775807) (hg:w.heap[g]? = some (.cells cs E (0,0))) (hnc:n<=cap) (hcap:cap*sz<=cs.size)
      (hc:∀ k,k < ds.length->cs[k]? = some (us k)) (hr:∀ k (hk:k < ds.length),Ow w (us k) ds[k] (Fs k)) :
      Ow w (.slice (some ⟨g,0,none⟩) n cap) (.sl sz n ds) (g :: parts ds.length Fs)
  | any (v:Value) (h:v.oneCell'=true):Ow w v .any []
theorem sc_one {v:Value} (h:sc v=true):v.oneCell'=true:=by
 cases v <;> first|rfl|(simp [sc] at h)
theorem Vw.one {w:World} {v:Value} {x:D} {F:List Nat} (h:Vw w v x F):v.oneCell'=true:=by
 induction h with
 | lit v h=>exact sc_one h
 | sl => rfl
 | pt => rfl
 | fn => rfl
 | bf => rfl
 | same v x F h ih=>exact ih
 | any v h=>exact h
theorem Ow.one {w:World} {v:Value} {x:D} {F:List Nat} (h:Ow w v x F):v.oneCell'=true:=by
 cases h with
 | lit v h=>exact sc_one h
 | nil=>rfl
 | sl => rfl
 | any v h=>exact h
theorem Vw.keep {w w':World} {v:Value} {x:D} {F:List Nat} (h:Vw w v x F) (hk:∀ b∈F,w'.heap[b]? = w.heap[b]?):Vw w' v x F:=by
 induction h with
 | lit v h=>exact .lit v h
 | sl ao n cap sz ds us Fs hn hz hle hs hc hr ih =>
  by_cases h0:n=0
  ·subst h0;exact .sl ao 0 cap sz ds us Fs hn hz hle hs (fun k hk'=>by omega) (fun k hk'=>by omega)
  ·rw [if_neg h0] at hk;refine .sl ao n cap sz ds us Fs hn hz hle hs (fun k hk'=>?_) (fun k hk'=>ih k hk' fun b hb=>hk b (List.mem_cons_of_mem _ (jcj.2 ⟨k,hk',hb⟩)));rw [World.cell?_of_block (w:=w) (by rw [jgv];exact hk _ (List.mem_cons_self ..))];exact hc k hk'
 | pt a ds us Fs h0 hc hr ih =>
  refine .pt a ds us Fs h0 (fun k hk'=>?_) (fun k hk'=>ih k hk' fun b hb=>hk b (List.mem_cons_of_mem _ (jcj.2 ⟨k,hk',hb⟩)));rw [World.cell?_of_block (w:=w) (by rw [jgv];exact hk _ (List.mem_cons_self ..))];exact hc k hk'
 | fn f ds us Fs hl hr ih=>exact .fn f ds us Fs hl fun k hk'=>ih k hk' fun b hb=>hk b (jcj.2 ⟨k,hk',hb⟩)
 | bf f ds us Fs hl hr ih=>exact .bf f ds us Fs hl fun k hk'=>ih k hk' fun b hb=>hk b (jcj.2 ⟨k,hk',hb⟩)
 | same v x F h ih=>exact .same v x F (ih hk)
 | any v h=>exact .any v h
theorem Vw.lt {w:World} {v:Value} {x:D} {F:List Nat} (h:Vw w v x F):∀ b∈F,b < w.heap.size:=by
 induction h with
 | lit v h=>intro b hb;cases hb
 | sl ao n cap sz ds us Fs hn hz hle hs hc hr ih =>
  intro b hb;split at hb
  ·cases hb
  ·rename_i h0;have hp:0 < ds.length:=by rw [hn];exact Nat.mul_pos (by omega) hz
   rcases List.mem_cons.1 hb with rfl|hb
   ·have:=World.block_lt_of_cell? w _ (hc 0 hp);rwa [jgv] at this
   ·obtain ⟨k,hk,hb⟩:=jcj.1 hb;exact ih k hk b hb
 | pt a ds us Fs h0 hc hr ih =>
  intro b hb;rcases List.mem_cons.1 hb with rfl|hb
  ·have:=World.block_lt_of_cell? w _ (hc 0 h0);rwa [jgv] at this
  ·obtain ⟨k,hk,hb⟩:=jcj.1 hb;exact ih k hk b hb
 | fn f ds us Fs hl hr ih=>intro b hb;obtain ⟨k,hk,hb⟩:=jcj.1 hb;exact ih k hk b hb
 | bf f ds us Fs hl hr ih=>intro b hb;obtain ⟨k,hk,hb⟩:=jcj.1 hb;exact ih k hk b hb
 | same v x F h ih=>exact ih
 | any v h=>intro b hb;cases hb
theorem Ow.keep {w w':World} {v:Value} {x:D} {F:List Nat} (h:Ow w v x F) (hk:∀ b∈F,w'.heap[b]? = w.heap[b]?):Ow w' v x F:=by
 induction h with
 | lit v h=>exact .lit v h
 | nil sz hz=>exact .nil sz hz
 | sl g n cap sz E cs ds us Fs hn hz hle hg hnc hcap hc hr ih =>
  exact .sl g n cap sz E cs ds us Fs hn hz hle (by rw [hk g (List.mem_cons_self ..)];exact hg) hnc hcap hc (fun k hk'=>ih k hk' fun b hb=>hk b (List.mem_cons_of_mem _ (jcj.2 ⟨k,hk',hb⟩)))
 | any v h=>exact .any v h
theorem Ow.lt {w:World} {v:Value} {x:D} {F:List Nat} (h:Ow w v x F):∀ b∈F,b < w.heap.size:=by
 induction h with
 | lit v h=>intro b hb;cases hb
 | nil=>intro b hb;cases hb
 | sl g n cap sz E cs ds us Fs hn hz hle hg hnc hcap hc hr ih =>
  intro b hb;rcases List.mem_cons.1 hb with rfl|hb
  ·exact (Array.getElem?_eq_some_iff.1 hg).1
  ·obtain ⟨k,hk,hb⟩:=jcj.1 hb;exact ih k hk b hb
 | any v h=>intro b hb;cases hb
theorem jkz {β:Type} [Inhabited β] {n:Nat} {p:Nat->β->Prop} (h:∀ k,k < n -> ∃ y,p k y):∃ f:Nat->β,∀ k,k < n->p k (f k):=by
 have:∀ k,∃ y,k < n->p k y:=fun k=>by
  by_cases hk:k < n
  ·obtain ⟨y,hy⟩:=h k hk;exact ⟨y,fun _=>hy⟩
  ·exact ⟨default,fun h'=>absurd h' hk⟩
 obtain ⟨f,hf⟩:=Classical.axiomOfChoice this;exact ⟨f,hf⟩
theorem Ow.vw {w:World} {v:Value} {x:D} {F:List Nat} (h:Ow w v x F):∃ F',Vw w v x F' /\ ∀ b∈F',b∈F:=by
 induction h with
 | lit v h=>exact ⟨[],.lit v h,fun b hb=>hb⟩
 | nil sz hz=>exact ⟨_,.sl none 0 0 sz [] (fun _=>undef) (fun _=>[]) (by simp) hz (by omega) (fun h=>absurd h (by omega)) (fun k hk=>by simp at hk) (fun k hk=>by simp at hk),fun b hb=>by simp at hb⟩
 | sl g n cap sz E cs ds us Fs hn hz hle hg hnc hcap hc hr ih =>
  obtain ⟨Gs,hG⟩:=jkz (n:=ds.length) (p:=fun k F' => ∀ hk:k < ds.length,Vw w (us k) ds[k] F' /\ ∀ b∈F',b∈Fs k) (fun k hk=>by obtain ⟨F',h1,h2⟩:=ih k hk;exact ⟨F',fun _=>⟨h1,h2⟩⟩);refine ⟨_,.sl (some ⟨g,0,none⟩) n cap sz ds us Gs hn hz ⟨Nat.le_trans hnc hle,hnc⟩ (fun _=>rfl) (fun k hk=>?_) (fun k hk=>(hG k hk hk).1),fun b hb=>?_⟩
  ·rw [adrO_some,jgu,Nat.zero_add,cell_of_row w g k cs E (0,0) hg];exact hc k hk
  ·split at hb
   ·cases hb
   ·rcases List.mem_cons.1 hb with rfl|hb
    ·exact List.mem_cons_self ..
    ·obtain ⟨k,hk,hb⟩:=jcj.1 hb;exact List.mem_cons_of_mem _ (jcj.2 ⟨k,hk,(hG k hk hk).2 b hb⟩)
 | any v h=>exact ⟨[],.any v h,fun b hb=>hb⟩
inductive C where
 | d (x : D)
 | ls (b sz off n:Nat)
 | lp (b off:Nat)
 | fn (f:Fn) (cs:List C)
 | junk
instance : Inhabited C := ⟨.junk⟩
inductive FV where
 | c (x : C)
 | g (cs:List C)
 | t (ps:List FV)
instance : Inhabited FV := ⟨.c .junk⟩
inductive Blk where
 | box (cs:List C)
 | row (sz:Nat) (ds:List D)
 | rowX (sz:Nat) (ds:List D) (i:Nat) (c:C)
 | held (X:List Nat) (f:Nat->Option Obj)
structure St where
 n : Nat
 fr:Nat->FV
 bl:Nat->Option Blk
mutual
def C.kill (p:Nat->Bool):C->C
 | .ls b sz off n=>bif p b then .junk else .ls b sz off n
 | .lp b off=>bif p b then .junk else .lp b off
 | .fn f cs => .fn f (C.killL p cs)
 | .d x => .d x
 | .junk => .junk
termination_by structural x=>x
def C.killL (p:Nat->Bool):List C->List C
 | [] => []
 | y :: r=>y.kill p :: C.killL p r
termination_by structural x=>x
end
mutual
def FV.kill (p:Nat->Bool):FV->FV
 | .c x => .c (x.kill p)
 | .g cs => .g (C.killL p cs)
 | .t ps => .t (FV.killL p ps)
termination_by structural x=>x
def FV.killL (p:Nat->Bool):List FV->List FV
 | [] => []
 | y :: r=>y.kill p :: FV.killL p r
termination_by structural x=>x
end
def Blk.kill (p:Nat->Bool):Blk->Blk
 | .box cs => .box (C.killL p cs)
 | .row sz ds => .row sz ds
 | .rowX sz ds i c => .rowX sz ds i (c.kill p)
 | .held X f => .held X f
theorem C.killL_eq (p:Nat->Bool):∀ cs,C.killL p cs=cs.map (C.kill p)
 | [] => rfl
 | y :: r=>by simp only [C.killL,List.map_cons,C.killL_eq p r]
theorem FV.killL_eq (p:Nat->Bool):∀ cs,FV.killL p cs=cs.map (FV.kill p)
 | [] => rfl
 | y :: r=>by simp only [FV.killL,List.map_cons,FV.killL_eq p r]
section
variable (w:World) (ρ:Nat->Option Nat) (Φ:Nat->Prop)
inductive CR : Value -> C -> Prop
  | d (v:Value) (x:D) (F:List Nat) (h:Vw w v x F) (hF:∀ b∈F,¬ Φ b):CR v (.d x)
  | ls0 (b sz:Nat) (h:ρ b=none):CR (.slice none 0 0) (.ls b sz 0 0)
  | ls (b g sz off n cap : Nat) (cs : Array Value) (E : TypeId) (h : ρ b = some g) (hnc : n <= cap) (hle : cap <= 9223372036854775807) (hg : w.heap[g]? = some (.cells cs E (0, 0))) (hcap : off + cap * sz <= cs.size) :
      CR (.slice (some ⟨g,off,none⟩) n cap) (.ls b sz off n)
  | lp (b g off:Nat) (h:ρ b=some g):CR (.pointer (some ⟨g,off,none⟩)) (.lp b off)
  | fn (f:Fn) (cs:List C) (us:List Value) (hl:us.length=cs.length) (hr:∀ k (hk:k < cs.length),CR (us.getD k undef) cs[k]):CR (.func f #[] us.toArray) (.fn f cs)
  | junk (v:Value):CR v .junk
inductive FR : Value -> FV -> Prop
 | c (v:Value) (x:C) (h:CR w ρ Φ v x):FR v (.c x)
 | g (cs:List C) (us:List Value) (hl:us.length=cs.length) (hr:∀ k (hk:k < cs.length),CR w ρ Φ (us.getD k undef) cs[k]):FR (.agg us.toArray) (.g cs)
 | t (ps:List FV) (us:List Value) (hl:us.length=ps.length) (hr:∀ k (hk:k < ps.length),FR (us.getD k undef) ps[k]):FR (.tuple us.toArray) (.t ps)
inductive BR : Option Nat -> Blk -> List Nat -> Prop
  | box (g : Nat) (us : Array Value) (E : TypeId) (cs : List C) (hg : w.heap[g]? = some (.cells us E (0, 0))) (hl : us.size = cs.length)
      (hr:∀ k (hk:k < cs.length),CR w ρ Φ (us.getD k undef) cs[k]):BR (some g) (.box cs) [g]
  | nil (sz:Nat) (hz:0 < sz):BR none (.row sz []) []
  | row (g : Nat) (us : Array Value) (E : TypeId) (sz : Nat) (ds : List D) (vs : Nat -> Value) (Fs : Nat -> List Nat) (hz : 0 < sz) (hg : w.heap[g]? = some (.cells us E (0, 0))) (hl : ds.length <= us.size)
      (hc:∀ k,k < ds.length->us[k]? = some (vs k)) (hr:∀ k (hk:k < ds.length),Ow w (vs k) ds[k] (Fs k)):BR (some g) (.row sz ds) (g :: parts ds.length Fs)
  | rowX (g : Nat) (us : Array Value) (E : TypeId) (sz : Nat) (ds : List D) (i : Nat) (c : C) (vs : Nat -> Value) (Fs : Nat -> List Nat) (hz : 0 < sz) (hg : w.heap[g]? = some (.cells us E (0, 0))) (hl : ds.length <= us.size) (hi : i < ds.length) (hF : Fs i = [])
      (hc:∀ k,k < ds.length->us[k]? = some (vs k)) (hr:∀ k (hk:k < ds.length),k≠i->Ow w (vs k) ds[k] (Fs k)) (hx:CR w ρ Φ (vs i) c):BR (some g) (.rowX sz ds i c) (g :: parts ds.length Fs)
  | held (X:List Nat) (f:Nat->Option Obj) (hc:∀ g∈X,w.heap[g]? = f g) (hlt:∀ g∈X,g < w.heap.size):BR none (.held X f) X
end
def InΦ (Φ:Nat->List Nat) (g:Nat):Prop := ∃ b,g∈Φ b
def Shp (w w':World):Prop := ∀ (g:Nat) (cs:Array Value) (E:TypeId),w.heap[g]? = some (.cells cs E (0,0)) -> ∃ cs',w'.heap[g]? = some (.cells cs' E (0,0))/\cs'.size=cs.size
theorem Shp.of_below {w w':World} (h:Below w.heap.size w w'):Shp w w':=fun g cs E hg=>⟨cs,by rw [h.block g (Array.getElem?_eq_some_iff.1 hg).1]; exact hg,rfl⟩
theorem Shp.trans {a b c:World} (h:Shp a b) (k:Shp b c):Shp a c:=fun g cs E hg=>by
 obtain ⟨c1,h1,e1⟩:=h g cs E hg;obtain ⟨c2,h2,e2⟩:=k g c1 E h1;exact ⟨c2,h2,e2.trans e1⟩
class Glb where
 ok:World->Prop
 bl:Nat->Prop
 keep:∀ {w w':World},ok w->(∀ g,bl g->w'.heap[g]? = w.heap[g]?)->ok w'
 lt:∀ {w:World} {g:Nat},ok w->bl g->g < w.heap.size
@[reducible] def Glb.none : Glb := ⟨fun _ => True, fun _ => False, fun _ _ => trivial, fun _ h => h.elim⟩
variable [Glb]
structure Ctx where
 w : World
 own:Nat->Prop
 pin:Nat->Option (Option Nat)
 low:∀ b,b < 1000000->pin b=none
 ok:Glb.ok w
 gl:∀ g,Glb.bl g -> ¬ own g
def Ctx.lo (κ:Ctx) (g:Nat):Prop:=κ.w.heap.size<=g∨κ.own g
structure Kp (κ : Ctx) (w w' : World) : Prop where
 os:w'.os=w.os
 tape:w'.tape=w.tape
 output:w'.output=w.output
 size:w.heap.size<=w'.heap.size
 shp:Shp w w'
 block:∀ g,¬ κ.lo g->w'.heap[g]? = w.heap[g]?
theorem Shp.refl (w:World):Shp w w:=fun g cs E hg=>⟨cs,hg,rfl⟩
theorem Kp.refl (κ:Ctx) (w:World):Kp κ w w:=⟨rfl,rfl,rfl,Nat.le_refl _,.refl w,fun _ _=>rfl⟩
theorem Kp.trans {κ:Ctx} {a b c:World} (h:Kp κ a b) (k:Kp κ b c):Kp κ a c:=⟨k.os.trans h.os,k.tape.trans h.tape,k.output.trans h.output,Nat.le_trans h.size k.size,h.shp.trans k.shp,fun g hg=>(k.block g hg).trans (h.block g hg)⟩
theorem Kp.of_below {κ:Ctx} {w w':World} (h:Below w.heap.size w w') (hs:κ.w.heap.size<=w.heap.size):Kp κ w w' :=
 ⟨h.os,h.tape,h.output,h.size,.of_below h,fun g hg=>h.block g (Nat.lt_of_lt_of_le (Nat.lt_of_not_le fun h'=>hg (.inl h')) hs)⟩
structure Sm (w0 : Ctx) (ρ : Nat -> Option Nat) (Φ : Nat -> List Nat) (st : St) (a : Act) (w : World) : Prop where
 below:Kp w0 w0.w w
 size:a.tmps.size=st.n
 nb:st.n<=1000
 pin:∀ b r,w0.pin b=some r->ρ b=r
 defers:a.defers=[]
 fr:∀ t,FR w ρ (InΦ Φ) (a.tmps.getD t undef) (st.fr t)
 bl:∀ b blk,st.bl b=some blk->BR w ρ (InΦ Φ) (ρ b) blk (Φ b)
 emp:∀ b,st.bl b=none->Φ b=[]
 low:∀ b g,g∈Φ b->w0.lo g
 nd:∀ b,(Φ b).Nodup
 dj:∀ b b' g,g∈Φ b->g∈Φ b'->b=b'
theorem Ctx.gln {κ:Ctx} {g:Nat} (h:Glb.bl g):¬ κ.lo g:=fun h'=>h'.elim (fun h'=>Nat.lt_irrefl _ (Nat.lt_of_lt_of_le (Glb.lt κ.ok h) h')) (κ.gl g h)
theorem Kp.ok {κ:Ctx} {w:World} (h:Kp κ κ.w w):Glb.ok w:=Glb.keep κ.ok fun _ hg=>h.block _ (Ctx.gln hg)
def Sim (w0:Ctx) (st:St) (a:Act) (w:World):Prop := ∃ ρ Φ,Sm w0 ρ Φ st a w
section
variable {w w':World} {ρ ρ':Nat->Option Nat} {Φ Φ':Nat->Prop}
theorem CR.keep {v:Value} {x:C} (h:CR w ρ Φ v x) (hw:∀ g,¬ Φ g->g < w.heap.size->w'.heap[g]? = w.heap[g]?) (hs:Shp w w') (hΦ:∀ g,Φ' g->Φ g∨w.heap.size<=g):CR w' ρ Φ' v x:=by
 induction h with
 | d v x F h hF =>
  refine .d v x F (h.keep fun b hb=>hw b (hF b hb) (h.lt b hb)) fun b hb h'=>?_;rcases hΦ b h' with h'|h'
  ·exact hF b hb h'
  ·have:=h.lt b hb; omega
 | ls0 b sz h=>exact .ls0 b sz h
 | ls b g sz off n cap cs E h hnc hle hg hcap =>
  obtain ⟨cs',h1,h2⟩:=hs g cs E hg;exact .ls b g sz off n cap cs' E h hnc hle h1 (by omega)
 | lp b g off h=>exact .lp b g off h
 | fn f cs us hl hr ih=>exact .fn f cs us hl fun k hk=>ih k hk
 | junk v=>exact .junk v
theorem FR.keep {v:Value} {x:FV} (h:FR w ρ Φ v x) (hw:∀ g,¬ Φ g->g < w.heap.size->w'.heap[g]? = w.heap[g]?) (hs:Shp w w') (hΦ:∀ g,Φ' g->Φ g∨w.heap.size<=g):FR w' ρ Φ' v x:=by
 induction h with
 | c v x h=>exact .c v x (h.keep hw hs hΦ)
 | g cs us hl hr=>exact .g cs us hl fun k hk=>(hr k hk).keep hw hs hΦ
 | t ps us hl hr ih=>exact .t ps us hl fun k hk=>ih k hk
theorem CR.kill {v:Value} {x:C} (p:Nat->Bool) (h:CR w ρ Φ v x) (hρ:∀ b',p b'=false->ρ' b'=ρ b'):CR w ρ' Φ v (x.kill p):=by
 induction h with
 | d v x F h hF=>unfold C.kill;exact .d v x F h hF
 | ls0 b' sz h =>
  unfold C.kill;cases hb:p b' with
  | true=>exact .junk _
  | false=>exact .ls0 b' sz ((hρ b' hb).trans h)
 | ls b' g sz off n cap cs E h hnc hle hg hcap =>
  unfold C.kill;cases hb:p b' with
  | true=>exact .junk _
  | false=>exact .ls b' g sz off n cap cs E ((hρ b' hb).trans h) hnc hle hg hcap
 | lp b' g off h =>
  unfold C.kill;cases hb:p b' with
  | true=>exact .junk _
  | false=>exact .lp b' g off ((hρ b' hb).trans h)
 | fn f cs us hl hr ih =>
  unfold C.kill;rw [C.killL_eq];exact .fn f _ us (by simpa using hl) fun k hk=>by simp only [List.getElem_map];exact ih k (by simpa using hk)
 | junk v=>unfold C.kill;exact .junk v
theorem FR.kill {v:Value} {x:FV} (p:Nat->Bool) (h:FR w ρ Φ v x) (hρ:∀ b',p b'=false->ρ' b'=ρ b'):FR w ρ' Φ v (x.kill p):=by
 induction h with
 | c v x h=>unfold FV.kill;exact .c v _ (h.kill p hρ)
 | g cs us hl hr=>show FR _ _ _ _ (.g (C.killL p cs));rw [C.killL_eq];exact .g _ us (by simpa using hl) fun k hk=>by simp only [List.getElem_map];exact (hr k (by simpa using hk)).kill p hρ
 | t ps us hl hr ih=>show FR _ _ _ _ (.t (FV.killL p ps));rw [FV.killL_eq];exact .t _ us (by simpa using hl) fun k hk=>by simp only [List.getElem_map];exact ih k (by simpa using hk)
theorem BR.keep {r:Option Nat} {x:Blk} {F:List Nat} (h:BR w ρ Φ r x F) (hw:∀ g,¬ Φ g->g < w.heap.size->w'.heap[g]? = w.heap[g]?) (hF:∀ g∈F,w'.heap[g]? = w.heap[g]?) (hs:Shp w w') (hΦ:∀ g,Φ' g->Φ g∨w.heap.size<=g):BR w' ρ Φ' r x F:=by
 cases h with
 | box g us E cs hg hl hr=>exact .box g us E cs (by rw [hF g (List.mem_cons_self ..)];exact hg) hl fun k hk=>(hr k hk).keep hw hs hΦ
 | nil sz hz=>exact .nil sz hz
 | row g us E sz ds vs Fs hz hg hl hc hr =>
  exact .row g us E sz ds vs Fs hz (by rw [hF g (List.mem_cons_self ..)];exact hg) hl hc fun k hk=>(hr k hk).keep fun b hb=>hF b (List.mem_cons_of_mem _ (jcj.2 ⟨k,hk,hb⟩))
 | rowX g us E sz ds i c vs Fs hz hg hl hi hFi hc hr hx =>
  exact .rowX g us E sz ds i c vs Fs hz (by rw [hF g (List.mem_cons_self ..)];exact hg) hl hi hFi hc (fun k hk hki=>(hr k hk hki).keep fun b hb=>hF b (List.mem_cons_of_mem _ (jcj.2 ⟨k,hk,hb⟩))) (hx.keep hw hs hΦ)
 | held X f hc hlt =>
  exact .held _ f (fun g hg=>by rw [hF g hg];exact hc g hg) fun g hg=>by
   have h1:=hF g hg;have h2:=hlt g hg;rw [Array.getElem?_eq_getElem h2] at h1;exact (Array.getElem?_eq_some_iff.1 h1).1
theorem BR.kill {r:Option Nat} {x:Blk} {F:List Nat} (p:Nat->Bool) (h:BR w ρ Φ r x F) (hρ:∀ b',p b'=false->ρ' b'=ρ b'):BR w ρ' Φ r (x.kill p) F:=by
 cases h with
 | box g us E cs hg hl hr=>show BR _ _ _ _ (.box (C.killL p cs)) _;rw [C.killL_eq];exact .box g us E _ hg (by simpa using hl) fun k hk=>by simp only [List.getElem_map];exact (hr k (by simpa using hk)).kill p hρ
 | nil sz hz=>exact .nil sz hz
 | row g us E sz ds vs Fs hz hg hl hc hr=>exact .row g us E sz ds vs Fs hz hg hl hc hr
 | rowX g us E sz ds i c vs Fs hz hg hl hi hFi hc hr hx=>exact .rowX g us E sz ds i _ vs Fs hz hg hl hi hFi hc hr (hx.kill p hρ)
 | held X f hc hlt=>exact .held _ f hc hlt
theorem BR.lt {r:Option Nat} {x:Blk} {F:List Nat} (h:BR w ρ Φ r x F):∀ g∈F,g < w.heap.size:=by
 cases h with
 | held X f hc hlt=>exact hlt
 | box g us E cs hg hl hr=>intro b hb;simp at hb;subst hb;exact (Array.getElem?_eq_some_iff.1 hg).1
 | nil=>intro b hb;cases hb
 | row g us E sz ds vs Fs hz hg hl hc hr =>
  intro b hb;rcases List.mem_cons.1 hb with rfl|hb
  ·exact (Array.getElem?_eq_some_iff.1 hg).1
  ·obtain ⟨k,hk,hb⟩:=jcj.1 hb;exact (hr k hk).lt b hb
 | rowX g us E sz ds i c vs Fs hz hg hl hi hFi hc hr hx =>
  intro b hb;rcases List.mem_cons.1 hb with rfl|hb
  ·exact (Array.getElem?_eq_some_iff.1 hg).1
  ·obtain ⟨k,hk,hb⟩:=jcj.1 hb;by_cases hki:k=i
   ·subst hki;rw [hFi] at hb;cases hb
   ·exact (hr k hk hki).lt b hb
end
def St.put (st:St) (t:Nat) (v:FV):St:={ st with fr:=fun k=>if k=t then v else st.fr k }
def St.setB (st:St) (b:Nat) (x:Option Blk):St:={ st with bl:=fun k=>if k=b then x else st.bl k }
def St.kill (st:St) (p:Nat->Bool):St:={ st with fr:=fun k=>(st.fr k).kill p,bl:=fun k=>(st.bl k).map (Blk.kill p) }
def inL (L:List (Nat×Blk)) (k:Nat):Bool:=L.any fun e=>e.1 == k
def getL:List (Nat×Blk)->Nat->Option Blk
 | [],_=>none
 | e :: r,k=>if e.1=k then some e.2 else getL r k
def St.new (st:St) (L:List (Nat×Blk)):St :=
 { st.kill (inL L) with bl:=fun k=>match getL L k with|some x=>some x|none=>(st.bl k).map (Blk.kill (inL L)) }
theorem jfe:∀ (L:List (Nat×Blk)) (k:Nat),inL L k=(getL L k).isSome
 | [],_=>rfl
 | e :: r,k=>by
  have:=jfe r k;simp only [inL,List.any_cons,getL] at *;by_cases h:e.1=k <;> simp [h,this]
def St.drop (st:St):List Nat->St
 | [] => st
 | b :: r=>(st.setB b none).drop r
section
variable {w0:Ctx} {w w':World} {ρ:Nat->Option Nat} {Φ:Nat->List Nat} {st:St} {a:Act}
theorem Sm.lt (h:Sm w0 ρ Φ st a w) {b g:Nat} (hg:g∈Φ b):g < w.heap.size:=by
 cases hb:st.bl b with
 | none=>rw [h.emp b hb] at hg;cases hg
 | some x=>exact (h.bl b x hb).lt g hg
theorem Sm.heldN (h:Sm w0 ρ Φ st a w) {b:Nat} {X:List Nat} {f:Nat->Option Obj} (hb:st.bl b=some (.held X f)):Φ b=X /\ ∀ g∈X,w.heap[g]? = f g:=by
 have:=h.bl b _ hb;generalize ρ b=r at this;generalize Φ b=F at this;cases this with|held _ _ hc _=>exact ⟨rfl,hc⟩
theorem Sm.put (h:Sm w0 ρ Φ st a w) {v:Value} {x:FV} (hx:FR w ρ (InΦ Φ) v x) (t:Nat) (ht:t < st.n):Sm w0 ρ Φ (st.put t x) (a.put (some t) v) w :=
 { h with
  size:=by simpa [Act.put,St.put] using h.size
  fr:=fun k=>by
   simp only [Act.put,St.put];by_cases hk:k=t
   ·subst hk;rw [if_pos rfl,Array.getD_eq_getD_getElem?,Array.getElem?_setIfInBounds_self,if_pos (by rw [h.size];exact ht)];exact hx
   ·rw [if_neg hk,Array.getD_eq_getD_getElem?,Array.getElem?_setIfInBounds_ne (Ne.symm hk),<- Array.getD_eq_getD_getElem?];exact h.fr k }
theorem Sm.later (h:Sm w0 ρ Φ st a w) (hb:Below w.heap.size w w'):Sm w0 ρ Φ st a w' :=
 { h with
  below:=h.below.trans (.of_below hb h.below.size)
  fr:=fun t=>(h.fr t).keep (fun g _ hg=>hb.block g hg) (.of_below hb) fun g hg => .inl hg
  bl:=fun b x hx=>(h.bl b x hx).keep (fun g _ hg=>hb.block g hg) (fun g hg=>hb.block g (h.lt hg)) (.of_below hb) fun g hg => .inl hg }
theorem jgt:∀ (S:List Nat) (st:St),(st.drop S).fr=st.fr/\(st.drop S).n=st.n
 | [],_=>⟨rfl,rfl⟩
 | c :: S,st=>⟨(jgt S _).1,(jgt S _).2⟩
theorem jht:∀ (S:List Nat) (st:St) (k:Nat),(k∈S->(st.drop S).bl k=none)/\(k ∉ S->(st.drop S).bl k=st.bl k)
 | [],_,_=>⟨fun h=>(by cases h),fun _=>rfl⟩
 | c :: S,st,k=>by
  refine ⟨fun hk=>?_,fun hk=>?_⟩
  ·by_cases hkS:k∈S
   ·exact (jht S _ k).1 hkS
   ·have:=(jht S (st.setB c none) k).2 hkS;rcases List.mem_cons.1 hk with rfl|hk
    ·rw [St.drop,this];simp [St.setB]
    ·exact absurd hk hkS
  ·rw [List.mem_cons,not_or] at hk;rw [St.drop,(jht S _ k).2 hk.2];simp [St.setB,hk.1]
theorem Sm.new (h:Sm w0 ρ Φ st a w) (S:List Nat) (L:List (Nat×Blk)) (r:Nat->Option Nat) (F:Nat->List Nat) (hbel:Kp w0 w w')
  (hw:∀ g,(∀ c∈S,g ∉ Φ c)->g < w.heap.size->w'.heap[g]? = w.heap[g]?) (hs:Shp w w')
  (hnd:∀ b,inL L b=true->(F b).Nodup) (hdj:∀ b b' g,inL L b=true->inL L b'=true->g∈F b->g∈F b'->b=b')
  (hF:∀ b,inL L b=true -> ∀ g∈F b,(∃ c∈S,g∈Φ c)∨w.heap.size<=g) (hL:∀ b,inL L b=true->b < 1000000) (hx:∀ (ρ':Nat->Option Nat) (Φ':Nat->Prop),(∀ b',inL L b'=false->ρ' b'=ρ b')->(∀ b,inL L b=true->ρ' b=r b)->(∀ g,Φ' g->InΦ Φ g∨w.heap.size<=g) -> ∀ (b:Nat) (x:Blk),getL L b=some x->BR w' ρ' Φ' (r b) x (F b)) :
  ∃ ρ' Φ',Sm w0 ρ' Φ' ((st.drop S).new L) a w'/\(∀ b,inL L b=true->ρ' b=r b)/\(∀ b',inL L b'=false->ρ' b'=ρ b') /\ ∀ g,InΦ Φ' g->InΦ Φ g∨w.heap.size<=g:=by
 let ρ':Nat->Option Nat:=fun k=>if inL L k then r k else ρ k
 let Φ':Nat->List Nat:=fun k=>if inL L k then F k else if k∈S then [] else Φ k
 have hρ:∀ b',inL L b'=false->ρ' b'=ρ b':=fun b' hb'=>by simp [ρ',hb']
 have hρb:∀ b,inL L b=true->ρ' b=r b:=fun b hb=>if_pos hb;have hΦF:∀ g,InΦ Φ' g->InΦ Φ g∨w.heap.size<=g:=by
  rintro g ⟨k,hk⟩;simp only [Φ'] at hk;split at hk
  ·rename_i hkL;rcases hF k hkL g hk with ⟨c,_,hc⟩|h
   ·exact .inl ⟨c,hc⟩
   ·exact .inr h
  ·split at hk
   ·cases hk
   ·exact .inl ⟨k,hk⟩
 have hout:∀ g,¬ InΦ Φ g->g < w.heap.size->w'.heap[g]? = w.heap[g]? := fun g hg hlt=>hw g (fun c _ hc=>hg ⟨c,hc⟩) hlt;refine ⟨ρ',Φ',?_,hρb,hρ,hΦF⟩;refine ⟨h.below.trans hbel,?_,?_,fun b r hb=>?_,h.defers,?_,?_,?_,?_,?_,?_⟩
 ·simpa [St.new,St.kill,(jgt S st).2] using h.size
 ·simpa [St.new,St.kill,(jgt S st).2] using h.nb
 ·cases hbL:inL L b with
  | true=>rw [w0.low b (hL b hbL)] at hb;cases hb
  | false=>rw [hρ b hbL];exact h.pin b r hb
 ·intro t;show FR _ _ _ _ (((st.drop S).fr t).kill (inL L));rw [(jgt S st).1];exact ((h.fr t).keep hout hs hΦF).kill (inL L) hρ
 ·intro k y hy;simp only [St.new] at hy;have hgi:=jfe L k;cases hg:getL L k with
  | some x =>
   rw [hg] at hy hgi;cases hy;have hkL:inL L k=true:=by simpa using hgi
   simp only [Φ',if_pos hkL,hρb k hkL];exact hx ρ' (InΦ Φ') hρ hρb hΦF k _ hg
  | none =>
   rw [hg] at hy hgi;have hkL:inL L k=false:=by simpa using hgi
   obtain ⟨z,hz,rfl⟩:=Option.map_eq_some_iff.1 hy;by_cases hkS:k∈S
   ·rw [(jht S st k).1 hkS] at hz;cases hz
   ·rw [(jht S st k).2 hkS] at hz;have e1:Φ' k=Φ k:=by simp [Φ',hkL,hkS]
    rw [e1,hρ k hkL];refine BR.kill (inL L) (((h.bl k z hz).keep hout (fun g hg=>hw g (fun c hc hg'=>?_) (h.lt hg)) hs hΦF)) hρ;have:=h.dj k c g hg hg';subst this;exact hkS hc
 ·intro k hk;simp only [St.new] at hk;have hgi:=jfe L k;cases hg:getL L k with
  | some x=>rw [hg] at hk;cases hk
  | none =>
   rw [hg] at hk hgi;have hkL:inL L k=false:=by simpa using hgi
   simp only [Φ',hkL,Bool.false_eq_true,if_false];split
   ·rfl
   ·rename_i hkS;rw [(jht S st k).2 hkS] at hk;exact h.emp k (by simpa using hk)
 ·intro k g hg;simp only [Φ'] at hg;split at hg
  ·rename_i hkL;rcases hF k hkL g hg with ⟨c,_,hc⟩|h'
   ·exact h.low c g hc
   ·exact .inl (Nat.le_trans h.below.size h')
  ·split at hg
   ·cases hg
   ·exact h.low k g hg
 ·intro k;simp only [Φ'];split
  ·rename_i hkL;exact hnd k hkL
  ·split
   ·exact List.nodup_nil
   ·exact h.nd k
 ·intro k k' g hg hg';simp only [Φ'] at hg hg';split at hg
  ·rename_i h1;split at hg'
   ·rename_i h2;exact hdj k k' g h1 h2 hg hg'
   ·split at hg'
    ·cases hg'
    ·rename_i h2 h3;rcases hF k h1 g hg with ⟨c,hc,hgc⟩|h'
     ·have:=h.dj c k' g hgc hg';subst this;exact absurd hc h3
     ·have:=h.lt hg';omega
  ·split at hg
   ·cases hg
   ·rename_i h1 h2;split at hg'
    ·rename_i h3;rcases hF k' h3 g hg' with ⟨c,hc,hgc⟩|h'
     ·have:=h.dj c k g hgc hg;subst this;exact absurd hc h2
     ·have:=h.lt hg;omega
    ·split at hg'
     ·cases hg'
     ·exact h.dj k k' g hg hg'
theorem Sm.upd (h:Sm w0 ρ Φ st a w) (b:Nat) (S:List Nat) (x:Blk) (F:List Nat) (g0:Nat) (hg0:g0∈Φ b) (hbS:b ∉ S) (hbel:Kp w0 w w')
    (hw:∀ g,g≠g0->w'.heap[g]? = w.heap[g]?) (hs:Shp w w') (hnd:F.Nodup) (hF:∀ g∈F,g∈Φ b ∨ ∃ c∈S,g∈Φ c)
    (hx:∀ Φ',(∀ g,Φ' g->InΦ Φ g)->BR w' ρ Φ' (ρ b) x F):∃ Φ',Sm w0 ρ Φ' ((st.drop S).setB b (some x)) a w':=by
  let Φ':Nat->List Nat:=fun k=>if k=b then F else if k∈S then [] else Φ k
  have hΦF:∀ g,InΦ Φ' g->InΦ Φ g:=by
    rintro g ⟨k,hk⟩;simp only [Φ'] at hk;split at hk
    · rcases hF g hk with h'|⟨c, _, hc⟩
      · exact ⟨b,h'⟩
      · exact ⟨c,hc⟩
    · split at hk
      · cases hk
      · exact ⟨k,hk⟩
  have hout:∀ g,¬ InΦ Φ g->g < w.heap.size->w'.heap[g]? = w.heap[g]? := fun g hg _=>hw g fun e=>hg ⟨b,e ▸ hg0⟩;refine ⟨Φ',h.below.trans hbel,?_,?_,h.pin,h.defers,?_,?_,?_,?_,?_,?_⟩
  · simpa [St.setB,(jgt S st).2] using h.size
  · simpa [St.setB,(jgt S st).2] using h.nb
  · intro t
    show FR _ _ _ _ ((st.drop S).fr t);rw [(jgt S st).1];exact (h.fr t).keep hout hs fun g hg => .inl (hΦF g hg)
  · intro k y hy
    simp only [St.setB] at hy;by_cases hkb:k=b
    · subst hkb
      rw [if_pos rfl] at hy;cases hy;simp only [Φ',if_pos];exact hx _ hΦF
    · rw [if_neg hkb] at hy
      by_cases hkS:k∈S
      · rw [(jht S st k).1 hkS] at hy;cases hy
      · rw [(jht S st k).2 hkS] at hy
        simp only [Φ',if_neg hkb,if_neg hkS];exact (h.bl k y hy).keep hout (fun g hg=>hw g fun e=>hkb (h.dj k b g hg (e ▸ hg0))) hs fun g hg => .inl (hΦF g hg)
  · intro k hk
    simp only [St.setB] at hk;by_cases hkb:k=b
    · rw [if_pos hkb] at hk;cases hk
    · rw [if_neg hkb] at hk
      simp only [Φ',if_neg hkb];split
      · rfl
      · rename_i hkS
        rw [(jht S st k).2 hkS] at hk;exact h.emp k hk
  · intro k g hg
    obtain ⟨c,hc⟩:=hΦF g ⟨k,hg⟩;exact h.low c g hc
  · intro k
    simp only [Φ'];split
    · exact hnd
    · split
      · exact List.nodup_nil
      · exact h.nd k
  · have key:∀ k g,k≠b->k ∉ S->g∈Φ k->g∈F->False:=fun k g h1 h2 h3 h4=>by
      rcases hF g h4 with h'|⟨c,hc,hgc⟩
      · exact h1 (h.dj k b g h3 h')
      · have:=h.dj c k g hgc h3;subst this;exact h2 hc
    intro k k' g hg hg';simp only [Φ'] at hg hg';split at hg
    · rename_i h1
      split at hg'
      · rename_i h2;exact h1.trans h2.symm
      · split at hg'
        · cases hg'
        · rename_i h2 h3;exact (key k' g h2 h3 hg' hg).elim
    · split at hg
      · cases hg
      · rename_i h1 h2
        split at hg'
        · exact (key k g h1 h2 hg hg').elim
        · split at hg'
          · cases hg'
          · exact h.dj k k' g hg hg'
end
end Go.Proofs.YtbhbkbnlpackdaaGreatDoor
namespace Go.Proofs.YtbhbkbnlpackdaaGreatDoor
open Go.RowKit
def jen (w w':World):Prop := ∀ p,(w.cell? p).isSome=true->w'.cell? p=w.cell? p
theorem jen.refl (w:World):jen w w:=fun _ _=>rfl
theorem jen.drew (w:World):jen w w.drew:=fun _ _=>rfl
theorem jen.of {w w':World} (h:Below w.heap.size w w'):jen w w':=fun p hp=>by
 obtain ⟨u,hu⟩:=Option.isSome_iff_exists.1 hp;exact h.cell (World.block_lt_of_cell? w p hu)
theorem jen.trans {a b c:World} (h:jen a b) (k:jen b c):jen a c:=fun p hp=>by
 rw [k p (by rw [h p hp];exact hp),h p hp]
section
variable {P:Program} {ops:Array Oper} {Q:Exit->Act->World->Prop} {md:Region.Mode} {mu:Nat->Bool}
def jeg (P:Program) (ops:Array Oper) (o:Oper) (v:Value) (a:Act) (w:World):Prop :=
 (Region.wanted o (yielded ops a.tmps)=true /\ ∀ w',jen w w'->(execOp a.eval o).run P w' = .ok (.value v) w') ∨
 (Region.wanted o (yielded ops a.tmps)=false/\v=undef)
theorem jeg.later {o:Oper} {v:Value} {a:Act} {w w':World} (h:jeg P ops o v a w) (hc:jen w w'):jeg P ops o v a w' :=
 h.imp (fun ⟨hw,hv⟩=>⟨hw,fun w2 h2=>hv w2 (hc.trans h2)⟩) id
theorem jeg.of_same {o:Oper} {v:Value} {a a':Act} {w:World} (hy:jeg P ops o v a w) (he:execOp a'.eval o=execOp a.eval o)
  (hw:Region.wanted o (yielded ops a'.tmps)=Region.wanted o (yielded ops a.tmps)):jeg P ops o v a' w:=by
 unfold jeg at *;rw [he, hw];exact hy
theorem jeg.wpOp {i:Nat} {o:Oper} {v:Value} {a:Act} {w:World} (hi:ops[i]? = some o) (hy:jeg P ops o v a w)
  {K:Act->World->Prop} (h:K (a.put o.dst v) w):wpOp P ops Q i K a w:=by
 unfold Go.wpOp;simp only [hi];rcases hy with ⟨hw,hv⟩|⟨hw,rfl⟩
 ·simp only [hw,if_true,Oper.wp,hv w (jen.refl w),Oper.upon];exact .inl h
 ·simp only [hw,Bool.false_eq_true,if_false];exact h
theorem wpOp_putE {j:Nat} {oi oj:Oper} {v:Value} (hj:ops[j]? = some oj) (hap:oi.apart ops oj=true)
  (hsi:∀ cs b,oi.op ≠ .select cs b) (hsj:∀ cs b,oj.op ≠ .select cs b)
  (hQ:∀ c a d v w,Q (.panic c) (Act.put a d v) w->Q (.panic c) a w) {K:Act->World->Prop} {a:Act} {w:World}
  (h:wpOp P ops Q j K (a.put oi.dst v) w) :
  wpOp P ops Q j (fun a' w'=>(∀ w2,jeg P ops oi v a w2->jeg P ops oi v a' w2)/\K (a'.put oi.dst v) w') a w:=by
 obtain ⟨h1,h2,h3⟩:=Oper.apart_spec hap;have keep:∀ u w2,jeg P ops oi v a w2->jeg P ops oi v (a.put oj.dst u) w2:=fun u w2 hy =>
  hy.of_same (execOp_put oi hsi a oj.dst u h3) (wanted_put oi a oj.dst u h3)
 have keepD:∀ d u w2,jeg P ops oi v a w2->jeg P ops oi v (({ a with defers:=d :: a.defers }:Act).put oj.dst u) w2:=fun d u w2 hy =>
  jeg.of_same (a:={ a with defers:=d :: a.defers }) (hy.of_same (a':={ a with defers:=d :: a.defers }) rfl rfl) (execOp_put oi hsi _ oj.dst u h3) (wanted_put oi _ oj.dst u h3)
 unfold wpOp at *;simp only [hj] at *;rw [wanted_put oj a oi.dst v h1] at h;split
 ·rename_i hw;simp only [hw,if_true] at h;rcases h with h|⟨hasks,hlets⟩
  case inr=>exact .inr ⟨by unfold Oper.asks at *;rw [execOp_put oj hsj a oi.dst v h1] at hasks;exact hasks,hlets⟩
  refine .inl ?_;unfold Oper.wp at *;rw [execOp_put oj hsj a oi.dst v h1] at h;generalize (execOp a.eval oj).run P w=r at *;cases r with
  | ok n w' =>
   cases n <;> simp only [Oper.upon] at h ⊢
   case value u=>exact ⟨keep u,by rw [<- Act.put_comm a v u h2];exact h⟩
   case skip=>exact ⟨keep _,by rw [<- Act.put_comm a v undef h2];exact h⟩
   case defer d =>
    refine ⟨keepD d _,?_⟩;rw [<- Act.put_comm _ v undef h2,<- Act.put_defers];exact h
   case enter f args =>
    refine Calls.mono h fun e w'' he => ?_;cases e with
    | returned u=>exact ⟨keep u,by rw [<- Act.put_comm a v u h2];exact he⟩
    | panicked c=>exact hQ _ _ _ _ _ he
    | outgrown=>exact he
   case row row args => exact Rows.mono h fun u w'' he => ⟨keep u, by rw [<- Act.put_comm a v u h2];exact he⟩
  | halt x w' =>
   cases x <;> simp only [Oper.upon] at h ⊢
   case panic u=>exact hQ _ _ _ _ _ h
 ·rename_i hw;simp only [hw] at h;exact ⟨keep _,by rw [<- Act.put_comm a v undef h2];exact h⟩
def wpAnyE (P:Program) (md:Region.Mode) (ops:Array Oper) (Q:Exit->Act->World->Prop) (mu:Nat->Bool):Nat->Array Bool->Act->World->Prop
 | 0,listed,a,w=>Region.ready md ops listed=[]/\Q .normal a w
 | fuel+1,listed,a,w =>
  (Region.ready md ops listed=[]->Q .normal a w) /\
  ∀ i∈Region.ready md ops listed,wpOp P ops Q i (fun a' w'=>(mu i=false->jen w w')/\wpAnyE P md ops Q mu fuel (listed.setIfInBounds i true) a' w') a w
theorem jop:∀ (fuel:Nat) (listed:Array Bool) (a:Act) (w:World),wpAnyE P md ops Q mu fuel listed a w->wpAny P md ops Q fuel listed a w
 | 0,_,_,_,h=>h
 | fuel+1,_,_,_,h=>⟨h.1,fun i hi=>wpOp_mono (fun a' w' h'=>jop fuel _ a' w' h'.2) (h.2 i hi)⟩
def depB (md:Region.Mode) (ops:Array Oper):Nat->Nat->Nat->Bool
 | 0,_,_=>false
 | n+1,j,i=>match ops[j]? with
  | none=>false
  | some o=>o.after.any fun e=>Region.binds md e&&(e.on == i || depB md ops n e.on i)
def ClosedL (md:Region.Mode) (ops:Array Oper) (listed:Array Bool):Prop :=
 ∀ j o,ops[j]? = some o->listed.getD j false=true -> ∀ e∈o.after,Region.binds md e=true->listed.getD e.on false=true
theorem dep_listed {listed:Array Bool} (hc:ClosedL md ops listed):∀ n j i,depB md ops n j i=true ->
  (∀ o,ops[j]? = some o -> ∀ e∈o.after,Region.binds md e=true->listed.getD e.on false=true)->listed.getD i false=true
 | 0,_,_,h,_=>by simp [depB] at h
 | n+1,j,i,h,ha=>by
  unfold depB at h;split at h
  ·cases h
  ·rename_i o ho;obtain ⟨e,he,hb⟩:=Array.any_eq_true'.1 h;simp only [Bool.and_eq_true,Bool.or_eq_true,beq_iff_eq] at hb;obtain ⟨hb1,hb2⟩:=hb;have hl:=ha o ho e he hb1;rcases hb2 with rfl | hd
   ·exact hl
   ·exact dep_listed hc n e.on i hd (fun o' ho'=>hc e.on o' ho' hl)
theorem jio {listed:Array Bool} {j:Nat} (hc:ClosedL md ops listed) (hj:j∈Region.ready md ops listed):ClosedL md ops (listed.setIfInBounds j true):=by
 intro k o ho hk e he hb;obtain ⟨_,oj,hoj,hall⟩:=mem_ready.1 hj;by_cases hkj:k=j
 ·subst hkj;rw [ho] at hoj; cases hoj;exact getD_set_true (hall e he hb)
 ·rw [getD_set_ne false (Ne.symm hkj)] at hk;exact getD_set_true (hc k o ho hk e he hb)
variable {i:Nat} {r:List (Option Oper×Nat×Bool)} {a:Act} {w:World} {o:Oper}
end
section
variable [Glb]
open Go Go.RowKit
inductive OT where
 | nil
 | cons (x:Option Oper×Nat×Bool) (r:OT)
 | alt (n:Nat) (x y:OT)
inductive IT where
 | nil
 | step (i:Nat) (b:Bool) (r:IT)
 | alt (n:Nat) (x y:IT)
def IT.ref (_:Bool) (_U _UB:List Nat) (t:IT):IT:=t
def IT.lt (T:IT) (C:IT->IT):IT:=C T
def look:List Oper->Nat->Option Oper
 | [],_=>none
 | o :: _,0=>some o
 | _ :: r,n+1=>look r n
theorem look_eq:∀ (l:List Oper) (i:Nat),look l i=l[i]?
 | [],_=>by simp [look]
 | o :: r,0=>by simp [look]
 | o :: r,n+1=>by simp [look,look_eq r n]
def OT.of (os:List Oper):IT->OT
 | .nil => .nil
 | .step i b r => .cons (look os i,i,b) (OT.of os r)
 | .alt n x y => .alt n (OT.of os x) (OT.of os y)
def memfree:Op->Bool
 | .move ..|.assign ..|.pick ..|.binOp ..|.unOp ..|.convert ..|.extract ..|.nilCheck ..|.fieldAddr ..|.field ..|.indexAddr ..|.index ..|.slice ..|.build ..|.makeFunc .. => true
 | .call ⟨.builtin .len,_,_⟩=>true
 | _=>false
def memfreeO:Option Oper->Bool
 | some o=>memfree o.op
 | none=>false
def YieldsM (P:Program) (ops:Array Oper) (o:Oper) (v:Value) (a:Act) (w:World):Prop:=jeg P ops o v a w/\(memfree o.op=true -> ∀ w2,jeg P ops o v a w2)
theorem wpAnyE_firstM {P:Program} {ops:Array Oper} {Q:Exit->Act->World->Prop} {md:Region.Mode} {mu:Nat->Bool} {i:Nat} {oi:Oper} {v:Value} (hi:ops[i]? = some oi) (hsel:∀ (j:Nat) (o:Oper) cs b,ops[j]? = some o->o.op ≠ .select cs b)
    (hQ:∀ c a d v w,Q (.panic c) (Act.put a d v) w->Q (.panic c) a w) :
    ∀ (fuel : Nat) (listed : Array Bool) (a : Act) (w : World), ClosedL md ops listed ->
      (∀ j oj,ops[j]? = some oj->j≠i->listed.getD j true=false->(∀ e∈oj.after,Region.binds md e=true->e.on≠i)->oi.apart ops oj=true) ->
      (memfree oi.op=true ∨ ∀ j,mu j=true->j≠i->j < ops.size->listed.getD j true=false -> ∃ n,depB md ops n j i=true) ->
      i∈Region.ready md ops listed->YieldsM P ops oi v a w ->
      wpAnyE P md ops Q mu fuel (listed.setIfInBounds i true) (a.put oi.dst v) w->wpAnyE P md ops Q mu (fuel+1) listed a w:=by
  intro fuel;induction fuel with
  | zero =>
    intro listed a w hcl _ _ hr hy H;refine ⟨fun h=>(by rw [h] at hr;cases hr),fun j hj=>?_⟩;by_cases hji:j=i
    · subst hji;exact hy.1.wpOp hi ⟨fun _=>jen.refl w,H⟩
    · have := ready_mono hj hji
      rw [H.1] at this;cases this
  | succ fuel ih =>
    intro listed a w hcl hfree hmu hr hy H;refine ⟨fun h=>(by rw [h] at hr;cases hr),fun j hj=>?_⟩;by_cases hji:j=i
    · subst hji;exact hy.1.wpOp hi ⟨fun _=>jen.refl w,H⟩
    · have h1 := H.2 j (ready_mono hj hji)
      obtain ⟨hjun,oj,hoj,hall⟩:=mem_ready.1 hj;have hiun:listed.getD i false=false:=by
        have h0:=(mem_ready.1 hr).1;rcases Nat.lt_or_ge i listed.size with h'|h'
        · simp [h'] at h0 ⊢;exact h0
        · simp [Array.getElem?_eq_none h'] at h0
      have hnot:∀ e∈oj.after,Region.binds md e=true->e.on≠i:=fun e he hb heq=>by
        have h1:=hall e he hb;rw [heq,hiun] at h1;cases h1
      have hmj:memfree oi.op=true∨mu j=false:=by
        rcases hmu with hm|hmu
        · exact .inl hm
        rcases hm:mu j with _|_
        · exact .inr rfl
        · exfalso
          obtain ⟨n,hn⟩:=hmu j hm hji (Array.getElem?_eq_some_iff.1 hoj).1 hjun;have:=dep_listed hcl n j i hn (fun o ho=>by rw [hoj] at ho;cases ho;exact hall);rw [hiun] at this;cases this
      have h2:=wpOp_putE hoj (hfree j oj hoj hji hjun hnot) (fun cs b=>hsel i oi cs b hi) (fun cs b=>hsel j oj cs b hoj) hQ h1;have hfree' : ∀ k ok, ops[k]? = some ok -> k ≠ i -> (listed.setIfInBounds j true).getD k true = false ->
          (∀ e∈ok.after,Region.binds md e=true->e.on≠i)->oi.apart ops ok=true:=fun k ok hk hki hun hno=>by
        refine hfree k ok hk hki ?_ hno;by_cases hjk:j=k
        · subst hjk;exact hjun
        · rw [getD_set_ne true hjk] at hun;exact hun
      have hmu':memfree oi.op=true ∨ ∀ k,mu k=true->k≠i->k < ops.size->(listed.setIfInBounds j true).getD k true=false -> ∃ n,depB md ops n k i=true:=hmu.imp id fun hmu k hk hki hks hun=>by
        refine hmu k hk hki hks ?_;by_cases hjk:j=k
        · subst hjk;exact hjun
        · rw [getD_set_ne true hjk] at hun;exact hun
      refine wpOp_mono (fun a' w' h3=>⟨h3.2.1,ih (listed.setIfInBounds j true) a' w' (jio hcl hj) hfree' hmu' (ready_mono hr (Ne.symm hji)) ⟨h3.1 w' ?_,fun hm w2=>h3.1 w2 (hy.2 hm w2)⟩ ?_⟩) h2
      · rw [Array.setIfInBounds_comm _ _ hji]
        exact h3.2.2
      · rcases hmj with hm|hmj
        · exact hy.2 hm w'
        · exact hy.1.later (h3.2.1 hmj)
def wpT (P:Program) (ops:Array Oper) (mu:Nat->Bool) (Q:Exit->Act->World->Prop):OT->Act->World->Prop
 | .nil,a,w=>Q .normal a w
 | .cons (none,_,_) _,_,_=>False
 | .cons (some o,_,true) r,a,w => ∃ v,YieldsM P ops o v a w/\wpT P ops mu Q r (a.put o.dst v) w
 | .cons (some o,i,false) r,a,w =>
  if Region.wanted o (yielded ops a.tmps) then o.wp P a w (fun a' w'=>(mu i=false->jen w w')/\wpT P ops mu Q r a' w') Q∨(o.asks P a w/\LetsOut Q) else wpT P ops mu Q r (a.put o.dst undef) w
 | .alt _ x y,a,w=>wpT P ops mu Q x a w/\wpT P ops mu Q y a w
theorem wpT_skip {P:Program} {ops:Array Oper} {mu:Nat->Bool} {Q:Exit->Act->World->Prop} {i:Nat} {r:OT} {a:Act} {w:World} {o:Oper} {b:Bool}
  (hw:Region.wanted o (yielded ops a.tmps)=false) (h:wpT P ops mu Q r (a.put o.dst undef) w):wpT P ops mu Q (.cons (some o,i,b) r) a w:=by
 cases b with
 | true=>exact ⟨undef,⟨.inr ⟨hw,rfl⟩,fun _ _ => .inr ⟨hw,rfl⟩⟩,h⟩
 | false =>
  unfold wpT;rw [if_neg (by rw [hw];exact Bool.false_ne_true)];exact h
def IT.heads:IT->List Nat
 | .nil=>[]
 | .step i _ _=>[i]
 | .alt _ x y=>x.heads++y.heads
def canonT (ops:Array Oper) (mu:Nat->Bool):IT->Nat->Array Bool->Bool->Bool
  | .nil,0,listed,s=>s&&Region.ready .any ops listed == []
  | .step i true r, n + 1, listed, s => s && ((Region.ready .any ops listed).contains i && Region.free .any ops listed i &&
      (memfreeO (ops[i]?) || (List.range ops.size).all (fun j => !mu j || j == i || listed.getD j true || depB .any ops ops.size j i))&&canonT ops mu r n (listed.setIfInBounds i true) true)
  | .step i false r,n+1,listed,s=>(bif s then Region.ready .any ops listed == [i] else (Region.ready .any ops listed).contains i)&&canonT ops mu r n (listed.setIfInBounds i true) true
  | .alt _ x y,n+1,listed,s=>(bif s then (Region.ready .any ops listed).all (fun i=>(x.heads++y.heads).contains i) else true)&&canonT ops mu x (n+1) listed false&&canonT ops mu y (n+1) listed false
  | _,_,_,_=>false
theorem wpAnyE_of_T {P:Program} {os:List Oper} {mu:Nat->Bool} {Q:Exit->Act->World->Prop} (hs:Region.noSelect ⟨os⟩=true) (hQ:∀ c a d v w,Q (.panic c) (Act.put a d v) w->Q (.panic c) a w) :
    ∀ (t:IT) (n:Nat) (listed:Array Bool) (a:Act) (w:World),ClosedL .any ⟨os⟩ listed->wpT P ⟨os⟩ mu Q (OT.of os t) a w ->
    (canonT ⟨os⟩ mu t n listed true=true->wpAnyE P .any ⟨os⟩ Q mu n listed a w) /\
    ∀ m,n=m+1->canonT ⟨os⟩ mu t n listed false=true -> ∀ i∈t.heads,wpOp P ⟨os⟩ Q i (fun a' w'=>(mu i=false->jen w w')/\wpAnyE P .any ⟨os⟩ Q mu m (listed.setIfInBounds i true) a' w') a w:=by
  intro t;induction t with
  | nil =>
    intro n listed a w hc h;refine ⟨fun hB=>?_,fun m hm hB i hi=>by cases hi⟩;cases n with
    | zero=>simp only [canonT,Bool.true_and,beq_iff_eq] at hB;exact ⟨hB,h⟩
    | succ n=>simp [canonT] at hB
  | step i b r ih =>
    intro n listed a w hc h;cases n with
    | zero=>exact ⟨fun hB=>by simp [canonT] at hB,fun m hm=>by cases hm⟩
    | succ n =>
      cases b with
      | true =>
        refine ⟨fun hB=>?_,fun m hm hB=>by simp [canonT] at hB⟩;simp only [canonT,Bool.true_and,Bool.and_eq_true] at hB;obtain ⟨⟨⟨hr,hf⟩,hm⟩,hB'⟩:=hB;unfold OT.of at h;cases ho:look os i with
        | none=>rw [ho] at h;exact h.elim
        | some o =>
          rw [ho] at h;obtain ⟨v,hy,h'⟩:=h;rw [look_eq] at ho;have hr':i∈Region.ready .any ⟨os⟩ listed:=by simpa using hr
          refine wpAnyE_firstM (ops := ⟨os⟩) (by simpa using ho) (Region.noSelect_spec hs) hQ n listed a w hc (Region.free_spec (by simpa using ho) hf) ?_ hr' hy
            ((ih n _ _ _ (jio hc hr') h').1 hB')
          rcases Bool.or_eq_true_iff.1 hm with hm|hm
          · left
            rw [show (⟨os⟩:Array Oper)[i]? = some o by simpa using ho] at hm;exact hm
          · refine .inr fun j hj hji hjs hun => ⟨os.length, ?_⟩
            have:=List.all_eq_true.1 hm j (List.mem_range.2 hjs);simp only [hj,hun,Bool.not_true,Bool.false_or,Bool.or_false,Bool.or_eq_true,beq_iff_eq] at this;exact this.resolve_left hji
      | false =>
        have key : ∀ hi : i ∈ Region.ready .any ⟨os⟩ listed, canonT ⟨os⟩ mu r n (listed.setIfInBounds i true) true = true ->
            wpOp P ⟨os⟩ Q i (fun a' w'=>(mu i=false->jen w w')/\wpAnyE P .any ⟨os⟩ Q mu n (listed.setIfInBounds i true) a' w') a w:=fun hi hB'=>by
          unfold OT.of at h;cases ho:look os i with
          | none=>rw [ho] at h;exact h.elim
          | some o =>
            rw [ho] at h;rw [look_eq] at ho;unfold wpT at h;unfold wpOp;simp only [List.getElem?_toArray,ho];split
            · rename_i hw
              rw [if_pos hw] at h;exact h.imp (Oper.wp_mono fun a' w' h3=>⟨h3.1,(ih n _ _ _ (jio hc hi) h3.2).1 hB'⟩) id
            · rename_i hw
              rw [if_neg hw] at h;exact ⟨fun _=>jen.refl w,(ih n _ _ _ (jio hc hi) h).1 hB'⟩
        refine ⟨fun hB=>?_,fun m hm hB j hj=>?_⟩
        · simp only [canonT, cond_true, Bool.and_eq_true, beq_iff_eq] at hB
          obtain ⟨hr,hB'⟩:=hB;have hi:i∈Region.ready .any ⟨os⟩ listed:=by rw [hr];exact List.mem_singleton.2 rfl
          refine ⟨fun h0=>(by rw [hr] at h0;cases h0),fun j hj=>?_⟩;rw [hr] at hj;have hji:=List.mem_singleton.1 hj;subst hji;exact key hi hB'
        · simp only [canonT, cond_false, Bool.and_eq_true] at hB
          cases hm;have hji:=List.mem_singleton.1 hj;subst hji;exact key (by simpa using hB.1) hB.2
  | alt tag x y ihx ihy =>
    intro n listed a w hc h;cases n with
    | zero=>exact ⟨fun hB=>by simp [canonT] at hB,fun m hm=>by cases hm⟩
    | succ n =>
      obtain ⟨hx,hy⟩:=h;have key : canonT ⟨os⟩ mu x (n + 1) listed false = true -> canonT ⟨os⟩ mu y (n + 1) listed false = true -> ∀ i ∈ (IT.alt tag x y).heads,
          wpOp P ⟨os⟩ Q i (fun a' w'=>(mu i=false->jen w w')/\wpAnyE P .any ⟨os⟩ Q mu n (listed.setIfInBounds i true) a' w') a w:=fun h1 h2 i hi=>by
        rcases List.mem_append.1 hi with hi|hi
        · exact (ihx (n+1) listed a w hc hx).2 n rfl h1 i hi
        · exact (ihy (n+1) listed a w hc hy).2 n rfl h2 i hi
      refine ⟨fun hB=>?_,fun m hm hB=>?_⟩
      · simp only [canonT, cond_true, Bool.and_eq_true] at hB
        obtain ⟨⟨h0,h1⟩,h2⟩:=hB;have hall:∀ i∈Region.ready .any ⟨os⟩ listed,i∈(IT.alt tag x y).heads:=fun i hi=>by
          have:=List.all_eq_true.1 h0 i hi;simpa [IT.heads] using this
        refine ⟨fun hr=>?_,fun i hi=>key h1 h2 i (hall i hi)⟩;exfalso;have hne:∀ t:IT,canonT ⟨os⟩ mu t (n+1) listed false=true->Region.ready .any ⟨os⟩ listed≠[]:=fun t=>by
          induction t with
          | nil=>intro h;simp [canonT] at h
          | step i b r _=>cases b with
            | true=>intro h;simp [canonT] at h
            | false=>intro h h';simp [canonT,h'] at h
          | alt tag x y ix _=>intro h;simp only [canonT,cond_false,Bool.true_and,Bool.and_eq_true] at h;exact ix h.1
        exact hne x h1 hr
      · simp only [canonT, cond_false, Bool.true_and, Bool.and_eq_true] at hB
        cases hm;exact key hB.1 hB.2
inductive Itm where
 | code (c:Code)
 | blk (id:Nat)
 | back (J:St->Prop)
def QN (w0:Ctx) (K:St->Prop):Exit->Act->World->Prop
 | .normal,a,w => ∃ st,Sim w0 st a w/\K st
 | _,_,_=>False
def QQ (w0:Ctx) (Q:Exit->St->Prop):Exit->Act->World->Prop:=fun e a w => ∃ st,Sim w0 st a w/\Q e st
def SW (P:Program) (c:Code) (st:St) (Q:Exit->St->Prop):Prop := ∀ w0 a w,Sim w0 st a w->c.wp P (QQ w0 Q) a w
def LV (P:Program) (R:St->Prop):List Itm->Exit->St->Prop
 | _,.ret,st=>R st
 | [],.normal,st=>R st
 | .code c :: k,.normal,st=>SW P c st (LV P R k)
 | .blk _ :: k,.normal,st=>LV P R k .normal st
 | .back J :: _,.normal,st=>J st
 | .blk id' :: k,.exit id,st=>if id'=id then LV P R k .normal st else LV P R k (.exit id) st
 | .code _ :: k,.exit id,st=>LV P R k (.exit id) st
 | .back _ :: k,.exit id,st=>LV P R k (.exit id) st
 | _,_,_=>False
structure SK (P : Program) (k : List Itm) (st : St) (R : St -> Prop) : Prop where
 lv:LV P R k .normal st
structure SO (P : Program) (ops : Array Oper) (mu : Nat -> Bool) (os : OT) (st : St) (K : St -> Prop) : Prop where
 run:∀ w0 a w,Sim w0 st a w->wpT P ops mu (NoPanic (QN w0 K)) os a w
def exitK (id:Nat):List Itm->Option (List Itm)
 | []=>none
 | .blk i :: k=>if i=id then some k else exitK id k
 | _ :: k=>exitK id k
section
variable {P:Program} {R:St->Prop} {k:List Itm} {st:St}
theorem jaj {x y:Code} (h:SK P (.code x :: .code y :: k) st R):SK P (.code (.seq x y) :: k) st R:=by
 refine ⟨fun w0 a w hs=>?_⟩;refine wp_seq (Code.wp_mono ?_ (h.lv w0 a w hs));rintro e a' w' ⟨st',h1,h2⟩;cases e with
 | normal=>exact h2 w0 a' w' h1
 | ret=>exact ⟨st',h1,by unfold LV at h2;unfold LV;exact h2⟩
 | exit id=>exact ⟨st',h1,h2⟩
 | goto l=>exact ⟨st',h1,by unfold LV at h2;exact h2.elim⟩
 | panic c=>exact ⟨st',h1,by unfold LV at h2;exact h2.elim⟩
 | outgrown=>exact ⟨st',h1,by unfold LV at h2;exact h2.elim⟩
theorem LV.bad {e:Exit} (he:match e with | .goto _ | .panic _ | .outgrown=>True | _=>False):∀ {k:List Itm},¬ LV P R k e st:=by
 intro k h;cases e <;> first|exact he|(cases k with|nil=>exact h|cons x k=>cases x <;> exact h)
theorem LV.ret:∀ {k:List Itm},LV P R k .ret st=R st:=by
 intro k; cases k with
 | nil=>rfl
 | cons x k=>cases x <;> rfl
theorem jah {id:Nat} {c:Code} (h:SK P (.code c :: .blk id :: k) st R):SK P (.code (.block id c) :: k) st R:=by
 refine ⟨fun w0 a w hs=>?_⟩;refine wp_block (Code.wp_mono ?_ (h.lv w0 a w hs));rintro e a' w' ⟨st',h1,h2⟩;cases e with
 | normal=>exact ⟨st',h1,h2⟩
 | ret=>exact ⟨st',h1,by rw [LV.ret] at *;exact h2⟩
 | exit id' =>
  unfold Exit.inBlock;have h2':if id=id' then LV P R k .normal st' else LV P R k (.exit id') st':=h2;by_cases hi:id'=id
  ·subst hi;simp only [if_pos] at h2' ⊢;exact ⟨st',h1,h2'⟩
  ·rw [if_neg (Ne.symm hi)] at h2';simp only [if_neg hi];exact ⟨st',h1,h2'⟩
 | goto l=>exact (LV.bad trivial h2).elim
 | panic c=>exact (LV.bad trivial h2).elim
 | outgrown=>exact (LV.bad trivial h2).elim
theorem LV.exit {id:Nat}:∀ {k k':List Itm},exitK id k=some k'->LV P R k' .normal st->LV P R k (.exit id) st
 | [],_,h,_=>by cases h
 | .blk i :: k,k',h,hs=>by
  unfold exitK at h;show if i=id then _ else _;split at h
  ·rename_i hi;rw [if_pos hi];cases h;exact hs
  ·rename_i hi;rw [if_neg hi];exact LV.exit h hs
 | .code _ :: k,k',h,hs=>LV.exit (k:=k) h hs
 | .back _ :: k,k',h,hs=>LV.exit (k:=k) h hs
theorem jaq {id:Nat} {k':List Itm} (h:exitK id k=some k') (hs:SK P k' st R):SK P (.code (.exit id) :: k) st R :=
 ⟨fun _ _ _ hsim=>wp_exit ⟨st,hsim,LV.exit h hs.lv⟩⟩
theorem jaz {id:Nat} (h:SK P k st R):SK P (.blk id :: k) st R:=⟨h.lv⟩
theorem jat (h:R st):SK P (.code .ret :: k) st R:=⟨fun _ _ _ hsim=>wp_ret ⟨st,hsim,by rw [LV.ret]; exact h⟩⟩
theorem jam (h:SK P k st R):SK P (.code .skip :: k) st R:=⟨fun _ _ _ hsim=>wp_skip ⟨st,hsim,h.lv⟩⟩
def litC (v:Value):C:=if sc v then .d (.lit v) else .junk
def constFV:Value->FV
 | .agg cs => .g (cs.toList.map litC)
 | .tuple _ => .c .junk
 | v => .c (litC v)
def St.ev (st:St):Operand->FV
 | .tmp t=>st.fr t
 | .const v=>constFV v
 | .global _ => .c .junk
 | .func f => .c (.d (.fn (.func f) []))
section
variable {w0:Ctx} {w:World} {ρ:Nat->Option Nat} {Φ:Nat->List Nat} {a:Act} {Ψ:Nat->Prop}
theorem CR.lit {v:Value}:CR w ρ Ψ v (litC v):=by
 unfold litC; split
 ·rename_i h;exact .d v _ [] (.lit v h) fun b hb=>by cases hb
 ·exact .junk v
theorem FR.const (v:Value):FR w ρ Ψ v (constFV v):=by
  cases v <;> first
    | exact .c _ _ CR.lit
    | exact .c _ _ (.junk _)
    | (rename_i cs
       refine .g (cs.toList.map litC) cs.toList (by simp) fun k hk=>?_;simp only [List.getElem_map];rw [List.getD_eq_getElem?_getD,List.getElem?_eq_getElem (by simpa using hk)];exact CR.lit)
theorem Sm.ev (h:Sm w0 ρ Φ st a w) (x:Operand):FR w ρ (InΦ Φ) (a.eval x) (st.ev x):=by
 cases x with
 | tmp t=>exact h.fr t
 | const v=>exact FR.const v
 | global g=>exact .c _ _ (.junk _)
 | func f =>
  refine .c _ _ (.d _ _ _ (Vw.fn (.func f) [] [] (fun _=>[]) rfl fun k hk=>by simp at hk) fun b hb=>by simp [parts] at hb)
theorem FR.c_inv {v:Value} {x:C} (h:FR w ρ Ψ v (.c x)):CR w ρ Ψ v x:=by cases h with | c _ _ h=>exact h
theorem FR.lit_inv {v u:Value} (h:FR w ρ Ψ v (.c (.d (.lit u)))):v=u:=by
 cases h with|c _ _ h=>cases h with|d _ _ F h hF=>cases h;rfl
theorem FR.lit_sc {v u:Value} (h:FR w ρ Ψ v (.c (.d (.lit u)))):sc u=true:=by
 cases h with|c _ _ h=>cases h with|d _ _ F h hF=>cases h;assumption
theorem FR.litI {v:Value} (h:sc v=true):FR w ρ Ψ v (.c (.d (.lit v))):=.c _ _ (.d v _ [] (.lit v h) fun b hb=>by cases hb)
theorem FR.d_inv {v:Value} {x:D} (h:FR w ρ Ψ v (.c (.d x))):∃ F,Vw w v x F /\ ∀ b∈F,¬ Ψ b:=by
 cases h with|c _ _ h=>cases h with|d _ _ F h hF=>exact ⟨F,h,hF⟩
theorem FR.g_inv {v:Value} {cs:List C} (h:FR w ρ Ψ v (.g cs)):∃ us:List Value,v = .agg us.toArray/\us.length=cs.length /\ ∀ k (hk:k < cs.length),CR w ρ Ψ (us.getD k undef) cs[k]:=by
 cases h with|g _ us hl hr=>exact ⟨us,rfl,hl,hr⟩
theorem FR.t_inv {v:Value} {ps:List FV} (h:FR w ρ Ψ v (.t ps)):∃ us:List Value,v = .tuple us.toArray/\us.length=ps.length /\ ∀ k (hk:k < ps.length),FR w ρ Ψ (us.getD k undef) ps[k]:=by
 cases h with|t _ us hl hr=>exact ⟨us,rfl,hl,hr⟩
theorem FR.junkI (v:Value):FR w ρ Ψ v (.c .junk):=.c _ _ (.junk v)
theorem FR.undefI:FR w ρ Ψ undef (.t []):=FR.t [] [] rfl fun k hk=>by simp at hk
theorem FR.undef_inv {v:Value} (h:FR w ρ Ψ v (.t [])):v=undef:=by cases h with | t _ us hl hr=>(have:us=[]:=List.eq_nil_of_length_eq_zero (by simpa using hl)); subst this; rfl
end
theorem jeh {c:Operand} {x y:Code} {b:Bool} (hc:st.ev c = .c (.d (.lit (.bool b)))) (ht:b=true->SK P (.code x :: k) st R) (hf:b=false->SK P (.code y :: k) st R) :
  SK P (.code (.cond c x y) :: k) st R:=by
 refine ⟨fun w0 a w hs=>?_⟩;obtain ⟨ρ,Φ,hm⟩:=id hs;have hv:a.eval c = .bool b:=FR.lit_inv (by rw [<- hc];exact hm.ev c);exact wp_cond_split hv (fun h=>(ht h).lv w0 a w hs) (fun h=>(hf h).lv w0 a w hs)
theorem jbd {c:Operand} {x y:Code} {p:Prop} [Decidable p] (hc:st.ev c = .c (.d (.lit (.bool (decide p))))) (ht:p->SK P (.code x :: k) st R) (hf:¬ p->SK P (.code y :: k) st R) :
  SK P (.code (.cond c x y) :: k) st R:=jeh hc (fun h=>ht (of_decide_eq_true h)) (fun h=>hf (of_decide_eq_false h))
theorem jcu {c:Operand} {x y:Code} {b:Bool} (hc:st.ev c = .c (.d (.lit (.bool (!b))))) (ht:b=false->SK P (.code x :: k) st R) (hf:b=true->SK P (.code y :: k) st R) :
  SK P (.code (.cond c x y) :: k) st R:=jeh hc (fun h=>ht (by simpa using h)) (fun h=>hf (by simpa using h))
theorem sk_nif {c:Operand} {x y:Code} {p:Prop} [Decidable p] (hc:st.ev c = .c (.d (.lit (.bool (!decide p))))) (ht:¬ p->SK P (.code x :: k) st R) (hf:p->SK P (.code y :: k) st R) :
  SK P (.code (.cond c x y) :: k) st R:=jeh hc (fun h=>ht (by simpa using h)) (fun h=>hf (by simpa using h))
theorem jbg {c:Operand} {x y:Code} (hc:st.ev c = .c (.d (.lit (.bool true)))) (ht:SK P (.code x :: k) st R):SK P (.code (.cond c x y) :: k) st R:=jeh hc (fun _=>ht) (fun h=>by cases h)
theorem jay {c:Operand} {x y:Code} (hc:st.ev c = .c (.d (.lit (.bool false)))) (ht:SK P (.code y :: k) st R):SK P (.code (.cond c x y) :: k) st R:=jeh hc (fun h=>by cases h) (fun _=>ht)
def FV.le (x y:FV):Prop:=y = .c .junk∨x=y
structure St.le (st st1 : St) : Prop where
 n:st.n=st1.n
 fr:∀ t,(st.fr t).le (st1.fr t)
 bl:∀ b,st1.bl b=none∨st.bl b=st1.bl b
theorem St.le.refl (st:St):st.le st:=⟨rfl,fun _ => .inr rfl,fun _ => .inr rfl⟩
theorem St.le.trans {a b c:St} (h:a.le b) (k:b.le c):a.le c :=
  ⟨h.n.trans k.n, fun t => by rcases k.fr t with e | e; exact .inl e; rcases h.fr t with f | f; exact .inl (e ▸ f); exact .inr (f.trans e),
   fun t=>by rcases k.bl t with e|e;exact .inl e;rcases h.bl t with f|f;exact .inl (e ▸ f);exact .inr (f.trans e)⟩
theorem Sim.le {w0:Ctx} {st st1:St} {a:Act} {w:World} (h:Sim w0 st a w) (hl:st.le st1):Sim w0 st1 a w:=by
 obtain ⟨ρ,Φ,h⟩:=h;let Φ':Nat->List Nat:=fun b=>match st1.bl b with|none=>[]|some _=>Φ b
 have hΦ:∀ g,InΦ Φ' g->InΦ Φ g:=by
  rintro g ⟨b,hb⟩;simp only [Φ'] at hb;split at hb
  ·cases hb
  ·exact ⟨b,hb⟩
 have sub:∀ b g,g∈Φ' b->g∈Φ b:=by
  intro b g hb;simp only [Φ'] at hb;split at hb
  ·cases hb
  ·exact hb
 refine ⟨ρ,Φ',h.below,h.size.trans hl.n,hl.n ▸ h.nb,h.pin,h.defers,fun t=>?_,fun b blk hb=>?_,fun b hb=>?_,fun b g hg=>h.low b g (sub b g hg),fun b=>?_,fun b b' g h1 h2=>h.dj b b' g (sub b g h1) (sub b' g h2)⟩
 ·rcases hl.fr t with e | e
  ·rw [e]; exact FR.junkI _
  ·rw [<- e];exact (h.fr t).keep (fun _ _ _=>rfl) (fun g cs E hg=>⟨cs,hg,rfl⟩) fun g hg => .inl (hΦ g hg)
 ·rcases hl.bl b with e | e
  ·rw [e] at hb; cases hb
  ·have:=(h.bl b blk (e.trans hb)).keep (fun _ _ _=>rfl) (fun _ _=>rfl) (fun g cs E hg=>⟨cs,hg,rfl⟩) fun g hg => .inl (hΦ g hg);simpa only [Φ',hb] using this
 ·simp only [Φ',hb]
 ·simp only [Φ'];split
  ·exact List.nodup_nil
  ·exact h.nd b
theorem SW.le {c:Code} {st st1:St} {Q:Exit->St->Prop} (hl:st.le st1) (h:SW P c st1 Q):SW P c st Q:=fun w0 a w hs=>h w0 a w (hs.le hl)
theorem sk_loop {c:Code} {G:Type} (I:G->St) (ok:G->Prop) (μ:G->Nat) (g0:G) (h0:ok g0) (hl:st.le (I g0))
  (round:∀ g,ok g->SK P (.code c :: .back (fun st' => ∃ g',ok g'/\μ g' < μ g/\st'.le (I g')) :: k) (I g) R):SK P (.code (.loop c) :: k) st R:=by
 refine ⟨fun w0 a w hs b k2 cs=>?_⟩;have key:∀ n a w g,μ g=n->ok g->Sim w0 (I g) a w -> ∃ e a' w',QQ w0 (LV P R k) e a' w'/\Arrives P (lone (b.at a (.code c :: .inLoop c :: k2)) cs w) b k2 cs e a' w':=by
  intro n;induction n using Nat.strongRecOn with
  | _ n ih =>
   intro a w g hn hg hsim;obtain ⟨e,a1,w1,⟨st1,hs1,hq⟩,harr⟩:=(round g hg).lv w0 a w hsim b (.inLoop c :: k2) cs;cases e with
   | normal =>
    obtain ⟨g',hg',hlt,hle⟩:=hq;obtain ⟨e2,a2,w2,hq2,harr2⟩:=ih (μ g') (hn ▸ hlt) a1 w1 g' rfl hg' (hs1.le hle);exact ⟨e2,a2,w2,hq2,.of_steps (Steps.trans harr (.one step_inLoop)) harr2⟩
   | exit id=>exact ⟨_,a1,w1,⟨st1,hs1,hq⟩,.pass (x:=.inLoop c) rfl (fun _ _ => .inl (by simp)) harr⟩
   | goto l=>exact (LV.bad trivial hq).elim
   | ret=>exact ⟨_,a1,w1,⟨st1,hs1,by rw [LV.ret] at *;exact hq⟩,.pass (x:=.inLoop c) rfl (fun _ _ => .inl (by simp)) harr⟩
   | panic ch=>exact (LV.bad trivial hq).elim
   | outgrown=>exact (LV.bad trivial hq).elim
 obtain ⟨e,a',w',hq,harr⟩:=key _ a w g0 rfl h0 (hs.le hl);exact ⟨e,a',w',hq,.of_steps (.one step_loop) harr⟩
def opsFrom:Nat->List Oper->OT
 | _,[] => .nil
 | i,o :: r => .cons (some o,i,false) (opsFrom (i+1) r)
theorem jkg {ops:Array Oper} {Q:Exit->Act->World->Prop}:∀ (l:List Oper) (i:Nat) (a:Act) (w:World),(∀ j,ops[i+j]? = l[j]?) ->
  wpT P ops (fun _=>true) Q (opsFrom i l) a w->wpOps P ops Q (List.range' i l.length) a w
 | [],_,_,_,_,h=>h
 | o :: r,i,a,w,hl,h=>by
  have h0:=hl 0;simp only [Nat.add_zero,List.getElem?_cons_zero] at h0;have hr:∀ j,ops[i+1+j]? = r[j]? := fun j=>by have:=hl (j+1);simpa [Nat.add_assoc,Nat.add_comm 1] using this
  rw [List.length_cons,List.range'_succ];unfold wpOps;unfold opsFrom wpT at h;simp only [h0];split
  ·rename_i hw;rw [if_pos hw] at h;exact h.imp (Oper.wp_mono fun a' w' h3=>jkg r _ _ _ hr h3.2) id
  ·rename_i hw;rw [if_neg hw] at h;exact jkg r _ _ _ hr h
theorem LV.of_QN {w0:Ctx} {k:List Itm}:∀ e a w,QN w0 (fun st'=>SK P k st' R) e a w->QQ w0 (LV P R k) e a w:=by
 intro e a w h;cases e with
 | normal=>obtain ⟨st,h1,h2⟩:=h;exact ⟨st,h1,h2.lv⟩
 | _=>exact h.elim
theorem jac {id:Nat} {os:List Oper} (h:SO P ⟨os⟩ (fun _=>true) (opsFrom 0 os) st fun st'=>SK P k st' R):SK P (.code (.region id ⟨os⟩ false) :: k) st R:=by
 refine ⟨fun w0 a w hs=>?_⟩;have:=jkg (ops:=⟨os⟩) os 0 a w (by simp) (h.run w0 a w hs);refine Code.wp_mono LV.of_QN (wp_region_noPanic (wp_region ?_));simpa [List.range_eq_range'] using this
theorem sk_draw (id:Nat) (mu:Nat->Bool) (t:IT) {os:List Oper} (hm:P.follows .mixedOrders=true)
  (hB:(Region.noSelect ⟨os⟩&&canonT ⟨os⟩ mu t os.length (Array.replicate os.length false) true)=true)
  (h:SO P ⟨os⟩ mu (OT.of os t) st fun st'=>SK P k st' R):SK P (.code (.region id ⟨os⟩ true) :: k) st R:=by
 refine ⟨fun w0 a w hs=>?_⟩;simp only [Bool.and_eq_true] at hB;have hs':Sim w0 st a w.drew:=by obtain ⟨ρ,Φ,h⟩:=hs;exact ⟨ρ,Φ,h.later ⟨rfl,rfl,rfl,Nat.le_refl _,fun _ _=>rfl⟩⟩
 have hc:ClosedL .any (⟨os⟩:Array Oper) (Array.replicate os.length false):=by
  intro j o ho hj;exfalso;rw [Array.getD_eq_getD_getElem?,Array.getElem?_replicate] at hj;split at hj <;> simp at hj
 have:=jop _ _ _ _ ((wpAnyE_of_T hB.1 (fun _ _ _ _ _ h=>h) t os.length _ a w.drew hc (h.run w0 a w.drew hs')).1 hB.2);exact Code.wp_mono LV.of_QN (wp_region_noPanic (wp_region_any hm this))
end
section
variable {P:Program} {ops:Array Oper} {mu:Nat->Bool} {r:OT} {st:St} {K:St->Prop} {i:Nat} {b:Bool}
theorem jai (h:K st):SO P ops mu .nil st K:=⟨fun _ _ _ hs=>⟨st,hs,h⟩⟩
theorem jdr {n:Nat} {x y:OT} (h:SO P ops mu x st K) (k:SO P ops mu y st K):SO P ops mu (.alt n x y) st K:=⟨fun w0 a w hs=>⟨h.run w0 a w hs,k.run w0 a w hs⟩⟩
def Qt (P:Program) (o:Oper) (st:St) (x:FV):Prop :=
 ∀ w0 ρ Φ a w,Sm w0 ρ Φ st a w -> ∃ v,(∀ w',memfree o.op=true∨jen w w'->(execOp a.eval o).run P w' = .ok (.value v) w')/\FR w ρ (InΦ Φ) v x
theorem jab {op:Op} {ty:TypeId} {pos:String} {af:Array Edge} {d:Nat} {x:FV} (hq:Qt P ⟨some d,op,ty,pos,af,none⟩ st x) (hd:Nat.blt d st.n=true) (h:SO P ops mu r (st.put d x) K) :
  SO P ops mu (.cons (some ⟨some d,op,ty,pos,af,none⟩,i,b) r) st K:=by
 refine ⟨fun w0 a w hs=>?_⟩;obtain ⟨ρ,Φ,hm⟩:=hs;obtain ⟨v,hv,hx⟩:=hq w0 ρ Φ a w hm;have h1:=h.run w0 _ w ⟨ρ,Φ,hm.put hx d (by simpa using hd)⟩;cases b with
 | true=>exact ⟨v,⟨.inl ⟨rfl,fun w' hw=>hv w' (.inr hw)⟩,fun hm w2 => .inl ⟨rfl,fun w' _=>hv w' (.inl hm)⟩⟩,h1⟩
 | false =>
  unfold wpT;rw [if_pos (show Region.wanted _ _=true from rfl)];refine .inl ?_;unfold Oper.wp;rw [hv w (.inr (jen.refl w))];exact ⟨fun _=>jen.refl w,h1⟩
def At (P:Program) (o:Oper) (cell:Bool) (st:St) (K:St->Prop):Prop :=
 ∀ w0 a w, Sim w0 st a w -> ∀ (next : Act -> World -> Prop) (Q : Exit -> Act -> World -> Prop),
  (∀ a' w',(cell=true->jen w w')->(∃ st',Sim w0 st' a' w'/\K st')->next a' w')->o.wp P a w next Q
theorem so_a {dst : Option Tmp} {op : Op} {ty : TypeId} {pos : String} {af : Array Edge} (hq : At P ⟨dst, op, ty, pos, af, none⟩ true st fun st' => SO P ops mu r st' K) :
  SO P ops mu (.cons (some ⟨dst,op,ty,pos,af,none⟩,i,false) r) st K:=by
 refine ⟨fun w0 a w hs=>?_⟩;unfold wpT;rw [if_pos (show Region.wanted _ _=true from rfl)];refine .inl (hq w0 a w hs _ _ fun a' w' hc ⟨st',h1,h2⟩=>⟨fun _=>hc rfl,h2.run w0 a' w' h1⟩)
theorem so_m {dst : Option Tmp} {op : Op} {ty : TypeId} {pos : String} {af : Array Edge} (hmu : mu i = true) (hq : At P ⟨dst, op, ty, pos, af, none⟩ false st fun st' => SO P ops mu r st' K) :
  SO P ops mu (.cons (some ⟨dst,op,ty,pos,af,none⟩,i,false) r) st K:=by
 refine ⟨fun w0 a w hs=>?_⟩;unfold wpT;rw [if_pos (show Region.wanted _ _=true from rfl)];refine .inl (hq w0 a w hs _ _ fun a' w' hc ⟨st',h1,h2⟩=>⟨fun h=>(by rw [hmu] at h;cases h),h2.run w0 a' w' h1⟩)
theorem so_guard {dst:Option Tmp} {op:Op} {ty:TypeId} {pos:String} {af:Array Edge} {j:Nat} {want x:Bool} {t d:Nat} (hdst:dst=some d) (hj:(ops[j]?).bind (·.dst)=some t) (ht:Nat.blt t st.n=true) (hd:Nat.blt d st.n=true)
  (hx:st.fr t = .c (.d (.lit (.bool x)))) (h1:x=want->SO P ops mu (.cons (some ⟨dst,op,ty,pos,af,none⟩,i,b) r) st K)
  (h2:x = !want->SO P ops mu r (st.put d (.t [])) K):SO P ops mu (.cons (some ⟨dst,op,ty,pos,af,some (j,want)⟩,i,b) r) st K:=by
 subst hdst;refine ⟨fun w0 a w hs=>?_⟩;obtain ⟨ρ,Φ,hm⟩:=id hs;have hv:a.tmps.getD t undef = .bool x:=FR.lit_inv (by rw [<- hx];exact hm.fr t);have htl:t < a.tmps.size:=by rw [hm.size];simpa using ht
 have hy:yielded ops a.tmps j=some x:=by
  unfold yielded;rw [hj];simp only [Option.bind_some,Array.getElem?_eq_getElem htl];have:a.tmps[t] = .bool x:=by rw [<- hv,Array.getD_eq_getD_getElem?,Array.getElem?_eq_getElem htl];rfl
  rw [this]
 have hw:Region.wanted ⟨some d,op,ty,pos,af,some (j,want)⟩ (yielded ops a.tmps)=(x == want):=by
  simp [Region.wanted,hy]
 by_cases hxw:x=want
 ·have h:=(h1 hxw).run w0 a w hs;have hw':Region.wanted ⟨some d,op,ty,pos,af,some (j,want)⟩ (yielded ops a.tmps)=true:=by rw [hw];simp [hxw]
  cases b with
  | true =>
   obtain ⟨v,⟨hy',hy2⟩,h'⟩:=h;have key:∀ w2,jeg P ops ⟨some d,op,ty,pos,af,none⟩ v a w2->jeg P ops ⟨some d,op,ty,pos,af,some (j,want)⟩ v a w2:=fun w2 h=>by
    rcases h with ⟨_,hv⟩|⟨hf,_⟩
    ·exact .inl ⟨hw',hv⟩
    ·cases hf
   exact ⟨v,⟨key _ hy',fun hm w2=>key _ (hy2 hm w2)⟩,h'⟩
  | false =>
   unfold wpT at h ⊢;rw [if_pos (show Region.wanted _ _=true from rfl)] at h;rw [if_pos hw'];exact h
 ·have hx2:x = !want:=by cases x <;> cases want <;> simp_all
  have h:=(h2 hx2).run w0 _ w ⟨ρ,Φ,hm.put FR.undefI d (by simpa using hd)⟩;exact wpT_skip (by rw [hw];simpa using hxw) h
theorem jgc {dst:Option Tmp} {op:Op} {ty:TypeId} {pos:String} {af:Array Edge} {j:Nat} {want:Bool} {t d:Nat} (hdst:dst=some d) (hj:(ops[j]?).bind (·.dst)=some t) (hx:st.fr t = .t []) (ht:Nat.blt t st.n=true) (hd:Nat.blt d st.n=true)
  (h:SO P ops mu r (st.put d (.t [])) K):SO P ops mu (.cons (some ⟨dst,op,ty,pos,af,some (j,want)⟩,i,b) r) st K:=by
 subst hdst;refine ⟨fun w0 a w hs=>?_⟩;obtain ⟨ρ,Φ,hm⟩:=id hs;have hv:a.tmps.getD t undef=undef:=FR.undef_inv (by rw [<- hx];exact hm.fr t);have htl:t < a.tmps.size:=by rw [hm.size];simpa using ht
 have hy:yielded ops a.tmps j=none:=by
  unfold yielded;rw [hj];simp only [Option.bind_some,Array.getElem?_eq_getElem htl];have:a.tmps[t]=undef:=by rw [<- hv,Array.getD_eq_getD_getElem?,Array.getElem?_eq_getElem htl];rfl
  rw [this]; rfl
 have hw:Region.wanted ⟨some d,op,ty,pos,af,some (j,want)⟩ (yielded ops a.tmps)=false:=by
  simp [Region.wanted,hy]
 exact wpT_skip hw (h.run w0 _ w ⟨ρ,Φ,hm.put FR.undefI d (by simpa using hd)⟩)
end
def tOne (P:Program) (T:TypeId):Bool:=match P.underlying T with | some (.struct _)=>false | some (.array _ _)=>false | some _=>true | none=>false
def tAgg (P:Program) (T:TypeId) (n:Nat):Bool:=(match P.underlying T with | some (.struct _)=>true | some (.array _ _)=>true | _=>false)&&(match P.info? T with | some i=>i.size == n | none=>false)
def tSize (P:Program) (T:TypeId) (n:Nat):Bool:=match P.info? T with | some i=>i.size == n | none=>false
def tFld (P:Program) (S:TypeId) (f off:Nat):Bool:=match P.underlying S with
 | some (.struct fs)=>match fs[f]? with
  | some fd=>fd.offset == off&&(match P.info? fd.type with|some i=>i.size != 0|none=>false)
  | none=>false
 | _=>false
def tFldT (P:Program) (S:TypeId) (f off:Nat) (T:TypeId):Bool:=match P.underlying S with
 | some (.struct fs)=>match fs[f]? with
  | some fd=>fd.offset == off&&fd.type == T
  | none=>false
 | _=>false
def tSl (P:Program) (T:TypeId) (sz:Nat):Bool:=match P.underlying T with
 | some (.slice E)=>tSize P E sz
 | _=>false
def tArr (P:Program) (T:TypeId) (len sz:Nat):Bool:=match P.underlying T with
 | some (.array l E)=>l == len&&tSize P E sz
 | _=>false
def tStr (P:Program) (T:TypeId):Bool:=match P.underlying T with | some .string=>true | _=>false
section
variable {P:Program} {T:TypeId} {w w':World}
theorem jhl (h:tOne P T=true) (w:World):(isAgg T).run P w = .ok false w:=by
 unfold tOne at h;cases hu:P.underlying T with
 | none=>simp [hu] at h
 | some d=>cases d <;> simp_all [isAgg,underlying]
theorem jjp (h:tOne P T=true) {a:Addr} {v:Value} (hc:w.cell? a=some v):(Instr.loadAt T (.pointer (some a))).run P w = .ok v w:=by
 simp only [Instr.loadAt,Instr.sureAddr,Sem.run_bind,Sem.run_pure,Result.andThen_ok,loadVar,jhl h];simp [load,Sem.run,hc]
theorem tAgg_spec {n:Nat} (h:tAgg P T n=true):(∃ d,P.underlying T=some d/\d.isRow=true) /\ ∃ i,P.info? T=some i/\i.size=n:=by
 unfold tAgg at h;simp only [Bool.and_eq_true] at h;refine ⟨?_,?_⟩
 ·cases hu:P.underlying T with
  | none=>simp [hu] at h
  | some d=>exact ⟨d,rfl,by cases d <;> simp_all [TypeDesc.isRow]⟩
 ·cases hi:P.info? T with
  | none=>simp [hi] at h
  | some i=>exact ⟨i,rfl,by simpa [hi] using h.2⟩
theorem run_loadN {n:Nat} (h:tAgg P T n=true) {a:Addr} (f:Nat->Value) (hc:∀ j,j < n->w.cell? (a.add j)=some (f j)):(Instr.loadAt T (.pointer (some a))).run P w = .ok (.agg ((List.range n).map f).toArray) w:=by
 obtain ⟨⟨d,hu,hd⟩,i,hi,hs⟩:=tAgg_spec h;have hl:=run_loadCells (P:=P) w a n f hc;have ha:(isAgg T).run P w = .ok true w:=by
  cases d <;> simp_all [isAgg,underlying,TypeDesc.isRow]
 simp only [Instr.loadAt,Instr.sureAddr,Sem.run_bind,Sem.run_pure,Result.andThen_ok,loadVar,ha];simp [sizeOf,typeInfo,hi,hs,hl]
theorem jgm {a:Addr} {v:Value} (hs:jen w w') (h:w.cell? a=some v):w'.cell? a=some v:=(hs a (by rw [h]; rfl)).trans h
end
section
variable {P:Program} {st:St} {dst:Option Tmp} {ty:TypeId} {pos:String} {af:Array Edge}
theorem qt_move {x:Operand}:Qt P ⟨dst,.move x,ty,pos,af,none⟩ st (st.ev x):=fun _ _ _ a _ hm=>⟨a.eval x,fun _ _=>rfl,hm.ev x⟩
theorem qt_assign {x:Operand}:Qt P ⟨dst,.assign x,ty,pos,af,none⟩ st (st.ev x):=fun _ _ _ a _ hm=>⟨a.eval x,fun _ _=>rfl,hm.ev x⟩
theorem qt_pick {c x y:Operand} {b:Bool} (hc:st.ev c = .c (.d (.lit (.bool b)))):Qt P ⟨dst,.pick c x y,ty,pos,af,none⟩ st (if b then st.ev x else st.ev y):=fun _ _ _ a _ hm=>by
 have hv:a.eval c = .bool b:=FR.lit_inv (by rw [<- hc];exact hm.ev c);refine ⟨if b then a.eval x else a.eval y,fun w' _=>?_,?_⟩
 ·simp [execOp,hv,asBool]
 ·cases b
  ·exact hm.ev y
  ·exact hm.ev x
theorem jfp {op:BinOp} {T T':TypeId} {x y:Operand} {u v r:Value} (hx:st.ev x = .c (.d (.lit u))) (hy:st.ev y = .c (.d (.lit v)))
  (hr:∀ w,(do eqGuard op T x y u v;binOp op T u v:Sem Value).run P w = .ok r w) (hs:sc r=true):Qt P ⟨dst,.binOp op T x y T',ty,pos,af,none⟩ st (.c (.d (.lit r))):=fun _ _ _ a _ hm=>by
 have h1:a.eval x=u:=FR.lit_inv (by rw [<- hx];exact hm.ev x);have h2:a.eval y=v:=FR.lit_inv (by rw [<- hy];exact hm.ev y);refine ⟨r,fun w' _=>?_,.litI hs⟩;have:=hr w';simp only [Sem.run_bind] at this;simp only [execOp,h1,h2,Sem.run_bind];generalize Sem.run P (eqGuard op T x y u v) w'=z at *;cases z with
 | ok _ w1=>simp only [Result.andThen_ok] at this ⊢;simp [this]
 | halt _ _=>simp [Result.andThen] at this
section
variable {T T':TypeId} {x y:Operand} {k:IntKind} {m n:Int} (hx:st.ev x = .c (.d (.lit (.int k m)))) (hy:st.ev y = .c (.d (.lit (.int k n))))
include hx hy
theorem jpe:Qt P ⟨dst,.binOp .add T x y T',ty,pos,af,none⟩ st (.c (.d (.lit (.int k (k.wrap (m+n)))))):=jfp hx hy (fun w=>by cases k <;> rfl) rfl
theorem jhr:Qt P ⟨dst,.binOp .sub T x y T',ty,pos,af,none⟩ st (.c (.d (.lit (.int k (k.wrap (m - n)))))):=jfp hx hy (fun w=>by cases k <;> rfl) rfl
theorem qt_mul:Qt P ⟨dst,.binOp .mul T x y T',ty,pos,af,none⟩ st (.c (.d (.lit (.int k (k.wrap (m*n)))))):=jfp hx hy (fun w=>by cases k <;> rfl) rfl
theorem jco {op:BinOp} (ho:op = .and∨op = .or∨op = .xor∨op = .andNot):Qt P ⟨dst,.binOp op T x y T',ty,pos,af,none⟩ st (.c (.d (.lit (.int k (bits op k m n))))) :=
 jfp hx hy (fun w=>by rcases ho with h|h|h|h <;> subst h <;> cases k <;> rfl) rfl
theorem qt_quo (h0:n≠0):Qt P ⟨dst,.binOp .quo T x y T',ty,pos,af,none⟩ st (.c (.d (.lit (.int k (k.wrap (m.tdiv n)))))):=jfp hx hy (fun w=>by cases k <;> simp [eqGuard,binOp,Op.intDiv,h0]) rfl
theorem qt_rem (h0:n≠0):Qt P ⟨dst,.binOp .rem T x y T',ty,pos,af,none⟩ st (.c (.d (.lit (.int k (m.tmod n))))):=jfp hx hy (fun w=>by cases k <;> simp [eqGuard,binOp,Op.intDiv,h0]) rfl
theorem jar:Qt P ⟨dst,.binOp .lss T x y T',ty,pos,af,none⟩ st (.c (.d (.lit (.bool (decide (m < n)))))):=jfp hx hy (fun w=>by cases k <;> rfl) rfl
theorem jgs:Qt P ⟨dst,.binOp .leq T x y T',ty,pos,af,none⟩ st (.c (.d (.lit (.bool (decide (m<=n)))))):=jfp hx hy (fun w=>by cases k <;> rfl) rfl
theorem jcs:Qt P ⟨dst,.binOp .gtr T x y T',ty,pos,af,none⟩ st (.c (.d (.lit (.bool (decide (m > n)))))):=jfp hx hy (fun w=>by cases k <;> rfl) rfl
theorem jhf:Qt P ⟨dst,.binOp .geq T x y T',ty,pos,af,none⟩ st (.c (.d (.lit (.bool (decide (m ≥ n)))))):=jfp hx hy (fun w=>by cases k <;> rfl) rfl
theorem jbq:Qt P ⟨dst,.binOp .eql T x y T',ty,pos,af,none⟩ st (.c (.d (.lit (.bool (decide (m=n)))))):=jfp hx hy (fun w=>by cases k <;> rfl) rfl
theorem jdh:Qt P ⟨dst,.binOp .neq T x y T',ty,pos,af,none⟩ st (.c (.d (.lit (.bool (decide (m≠n)))))) :=
 jfp hx hy (fun w=>by have:(m != n)=decide (m≠n):=(by by_cases h:m=n <;> simp [h]);rw [<- this];cases k <;> rfl) rfl
end
section
variable {T T':TypeId} {x y:Operand} {m n:Int} (hx:st.ev x = .c (.d (.lit (.int .i64 m)))) (hy:st.ev y = .c (.d (.lit (.int .i64 n))))
include hx hy
theorem jas (h : -9223372036854775808<=m+n/\m+n<=9223372036854775807):Qt P ⟨dst,.binOp .add T x y T',ty,pos,af,none⟩ st (.c (.d (.lit (.int .i64 (m+n))))):=by rw [<- IntWalk.i64_in (m+n) h]; exact jpe hx hy
theorem jcg (h : -9223372036854775808<=m - n/\m - n<=9223372036854775807):Qt P ⟨dst,.binOp .sub T x y T',ty,pos,af,none⟩ st (.c (.d (.lit (.int .i64 (m - n))))):=by rw [<- IntWalk.i64_in (m - n) h]; exact jhr hx hy
theorem jcm (h : -9223372036854775808<=m*n/\m*n<=9223372036854775807):Qt P ⟨dst,.binOp .mul T x y T',ty,pos,af,none⟩ st (.c (.d (.lit (.int .i64 (m*n))))):=by rw [<- IntWalk.i64_in (m*n) h]; exact qt_mul hx hy
end
section
variable {T T':TypeId} {x y:Operand} {k k':IntKind} {m n:Int} (hx:st.ev x = .c (.d (.lit (.int k m)))) (hy:st.ev y = .c (.d (.lit (.int k' n))))
include hx hy
theorem qt_shl (h0:0<=n):Qt P ⟨dst,.binOp .shl T x y T',ty,pos,af,none⟩ st (.c (.d (.lit (.int k (k.wrap (m*2^(min n.toNat k.bits))))))):=jfp hx hy (fun w=>by simp [eqGuard,binOp,Op.shift,show ¬ n < 0 by omega]) rfl
theorem qt_shr (h0:0<=n):Qt P ⟨dst,.binOp .shr T x y T',ty,pos,af,none⟩ st (.c (.d (.lit (.int k (m.fdiv (2^(min n.toNat k.bits))))))):=jfp hx hy (fun w=>by simp [eqGuard,binOp,Op.shift,show ¬ n < 0 by omega]) rfl
end
theorem jbm {T:TypeId} {x:Operand} {b:Bool} (hx:st.ev x = .c (.d (.lit (.bool b)))):Qt P ⟨dst,.unOp .not T x,ty,pos,af,none⟩ st (.c (.d (.lit (.bool !b)))):=fun _ _ _ a _ hm=>by
 have h1:a.eval x = .bool b:=FR.lit_inv (by rw [<- hx];exact hm.ev x);exact ⟨.bool !b,fun w' _=>by simp [execOp,h1,Op.unary],.litI rfl⟩
theorem qt_neg {T:TypeId} {x:Operand} {k:IntKind} {n:Int} (hx:st.ev x = .c (.d (.lit (.int k n)))):Qt P ⟨dst,.unOp .neg T x,ty,pos,af,none⟩ st (.c (.d (.lit (.int k (k.wrap (0 - n)))))):=fun _ _ _ a _ hm=>by
 have h1:a.eval x = .int k n:=FR.lit_inv (by rw [<- hx];exact hm.ev x);exact ⟨.int k (k.wrap (0 - n)),fun w' _=>by simp [execOp,h1,Op.unary,Op.intArith],.litI rfl⟩
theorem jdx {T:TypeId} {x:Operand} {n:Int} (hx:st.ev x = .c (.d (.lit (.int .i64 n)))) (h : -9223372036854775808 <= -n /\ -n<=9223372036854775807):Qt P ⟨dst,.unOp .neg T x,ty,pos,af,none⟩ st (.c (.d (.lit (.int .i64 (-n))))):=by
 have:=qt_neg (P:=P) (dst:=dst) (T:=T) (ty:=ty) (pos:=pos) (af:=af) hx;rwa [IntWalk.i64_in (0 - n) (by omega),Int.zero_sub] at this
theorem qt_conv {S T:TypeId} {x:Operand} {k k':IntKind} {n:Int} (hx:st.ev x = .c (.d (.lit (.int k n)))) (hS:(P.underlying S).isSome=true) (hT:P.underlying T=some (.int k')) :
  Qt P ⟨dst,.convert S T x,ty,pos,af,none⟩ st (.c (.d (.lit (.int k' (k'.wrap n))))):=fun _ _ _ a _ hm=>by
 have h1:a.eval x = .int k n:=FR.lit_inv (by rw [<- hx];exact hm.ev x);obtain ⟨s,hs⟩:=Option.isSome_iff_exists.1 hS;exact ⟨.int k' (k'.wrap n),fun w' _=>by simp [execOp,h1,convert,underlying,hs,hT,Conv.intToInt],.litI rfl⟩
theorem jbh {x:Operand} {ix:Nat} {ps:List FV} {y:FV} (hx:st.ev x = .t ps) (hy:ps[ix]? = some y):Qt P ⟨dst,.extract x ix,ty,pos,af,none⟩ st y:=fun w0 ρ Φ a w hm=>by
 have h:=hm.ev x;rw [hx] at h;obtain ⟨us,hu,hl,hr⟩:=h.t_inv;obtain ⟨hlt,rfl⟩:=List.getElem?_eq_some_iff.1 hy;refine ⟨us.getD ix undef,fun w' _=>?_,hr ix hlt⟩;simp [execOp,hu,Instr.extract,List.getElem?_eq_getElem (show ix < us.length by omega),List.getD_eq_getElem?_getD]
theorem jdk {x:Operand} {b off:Nat} (hx:st.ev x = .c (.lp b off)):Qt P ⟨dst,.nilCheck x,ty,pos,af,none⟩ st (.c (.lp b off)):=fun w0 ρ Φ a w hm=>by
 have h:=hm.ev x;rw [hx] at h;have h':=h.c_inv;generalize hv:a.eval x=v at *;cases h' with
 | lp b g off h=>exact ⟨_,fun w' _=>by simp only [execOp,hv];rfl,by rw [<- hv];rw [<- hx];exact hm.ev x⟩
theorem jap {T:TypeId} {x:Operand} {ds:List D} {y:D} (hx:st.ev x = .c (.d (.pt ds))) (ht:tOne P T=true) (hy:ds[0]? = some y):Qt P ⟨dst,.load T x,ty,pos,af,none⟩ st (.c (.d y)):=fun w0 ρ Φ a w hm=>by
 have h:=hm.ev x;rw [hx] at h;obtain ⟨F,h',hF⟩:=h.d_inv;obtain ⟨hlt,rfl⟩:=List.getElem?_eq_some_iff.1 hy;generalize hv:a.eval x=v at *;cases h' with
 | pt ad _ us Fs h0 hc hr =>
  have h1:=hc 0 hlt;refine ⟨us 0,fun w' hs0=>have hs:jen w w':=hs0.resolve_left (by simp [memfree]);?_,.c _ _ (.d _ _ _ (hr 0 hlt) fun b hb=>hF b (List.mem_cons_of_mem _ (jcj.2 ⟨0,hlt,hb⟩)))⟩;have h2:=jjp (P:=P) ht (jgm hs h1);simp only [Addr.add,if_pos] at h2;simp [execOp,hv,h2]
theorem jdo {T:TypeId} {x:Operand} {ds:List D} {n:Nat} (hx:st.ev x = .c (.d (.pt ds))) (ht:tAgg P T n=true) (hn:n<=ds.length):Qt P ⟨dst,.load T x,ty,pos,af,none⟩ st (.g ((ds.take n).map C.d)):=fun w0 ρ Φ a w hm=>by
 have h:=hm.ev x;rw [hx] at h;obtain ⟨F,h',hF⟩:=h.d_inv;generalize hv:a.eval x=v at *;cases h' with
 | pt ad _ us Fs h0 hc hr =>
  refine ⟨.agg ((List.range n).map us).toArray,fun w' hs0=>have hs:jen w w':=hs0.resolve_left (by simp [memfree]);?_,.g _ _ (by simp;omega) fun k hk=>?_⟩
  ·have h2:=run_loadN (P:=P) (w:=w') ht us (fun j hj=>jgm hs (hc j (by omega)));simp [execOp,hv,h2]
  ·have hk':k < n:=by simp at hk;omega
   have e:((List.range n).map us).getD k undef=us k:=by rw [List.getD_eq_getElem?_getD];simp [hk']
   rw [e];simp only [List.getElem_map,List.getElem_take];exact .d _ _ _ (hr k (by omega)) fun b hb=>hF b (List.mem_cons_of_mem _ (jcj.2 ⟨k,by omega,hb⟩))
theorem Sm.box {w0:Ctx} {w:World} {ρ:Nat->Option Nat} {Φ:Nat->List Nat} {a:Act} (hm:Sm w0 ρ Φ st a w) {b:Nat} {cs:List C} (hb:st.bl b=some (.box cs)) :
  ∃ g us E,ρ b=some g/\Φ b=[g]/\w.heap[g]? = some (.cells us E (0,0))/\us.size=cs.length /\ ∀ k (hk:k < cs.length),CR w ρ (InΦ Φ) (us.getD k undef) cs[k]:=by
 have h:=hm.bl b _ hb;generalize hr:ρ b=r at h;generalize hF:Φ b=F at h;cases h with
 | box g us E _ hg hl hk=>exact ⟨g,us,E,rfl,rfl,hg,hl,hk⟩
theorem Sm.rowN {w0:Ctx} {w:World} {ρ:Nat->Option Nat} {Φ:Nat->List Nat} {a:Act} (hm:Sm w0 ρ Φ st a w) {b sz:Nat} {ds:List D} (hb:st.bl b=some (.row sz ds)) :
  (ρ b=none/\ds=[]/\Φ b=[]/\0 < sz) ∨ ∃ (g:Nat) (us:Array Value) (E:TypeId) (vs:Nat->Value) (Fs:Nat->List Nat),ρ b=some g/\Φ b=g :: parts ds.length Fs/\0 < sz/\w.heap[g]? = some (.cells us E (0,0))/\ds.length<=us.size/\(∀ k,k < ds.length->us[k]? = some (vs k)) /\ ∀ k (hk:k < ds.length),Ow w (vs k) ds[k] (Fs k):=by
 have h:=hm.bl b _ hb;generalize hr:ρ b=r at h;generalize hF:Φ b=F at h;cases h with
 | nil _ hz=>exact .inl ⟨rfl,rfl,rfl,hz⟩
 | row g us E _ _ vs Fs hz hg hl hc hk=>exact .inr ⟨g,us,E,vs,Fs,rfl,rfl,hz,hg,hl,hc,hk⟩
theorem jhs {w:World} {ρ:Nat->Option Nat} {Ψ:Nat->Prop} {v:Value} {b off:Nat} (h:CR w ρ Ψ v (.lp b off)):∃ g,ρ b=some g/\v = .pointer (some ⟨g,off,none⟩):=by
 cases h with|lp _ g _ h=>exact ⟨g,h,rfl⟩
theorem jgb {w:World} {ρ:Nat->Option Nat} {Ψ:Nat->Prop} {v:Value} {b sz off n:Nat} (h:CR w ρ Ψ v (.ls b sz off n)) :
  (ρ b=none/\v = .slice none 0 0/\off=0/\n=0) ∨ ∃ g cap cs E,ρ b=some g/\v = .slice (some ⟨g,off,none⟩) n cap/\n<=cap/\cap<=9223372036854775807/\w.heap[g]? = some (.cells cs E (0,0))/\off+cap*sz<=cs.size:=by
 cases h with
 | ls0 _ _ h=>exact .inl ⟨h,rfl,rfl,rfl⟩
 | ls _ g _ _ _ cap cs E h hnc hle hg hcap=>exact .inr ⟨g,cap,cs,E,h,rfl,hnc,hle,hg,hcap⟩
theorem jag {T:TypeId} {x:Operand} {b off:Nat} {cs:List C} {c:C} (hx:st.ev x = .c (.lp b off)) (hb:st.bl b=some (.box cs)) (ht:tOne P T=true) (hc:cs[off]? = some c) :
  Qt P ⟨dst,.load T x,ty,pos,af,none⟩ st (.c c):=fun w0 ρ Φ a w hm=>by
 have h:=hm.ev x;rw [hx] at h;obtain ⟨g,hρ,hv⟩:=jhs h.c_inv;obtain ⟨g',us,E,hρ',_,hg,hl,hk⟩:=hm.box hb;rw [hρ] at hρ'; cases hρ';obtain ⟨hlt,rfl⟩:=List.getElem?_eq_some_iff.1 hc;refine ⟨us.getD off undef,fun w' hs0=>have hs:jen w w':=hs0.resolve_left (by simp [memfree]);?_,.c _ _ (hk off hlt)⟩;have h1:w.cell? ⟨g,off,none⟩=some (us.getD off undef):=by
  rw [cell_of_row w g off us E (0,0) hg,Array.getD_eq_getD_getElem?,Array.getElem?_eq_getElem (by omega)];rfl
 simp [execOp,hv,jjp (P:=P) ht (jgm hs h1)]
theorem jae {T:TypeId} {x:Operand} {b off n:Nat} {cs:List C} (hx:st.ev x = .c (.lp b off)) (hb:st.bl b=some (.box cs)) (ht:tAgg P T n=true) (hn:Nat.ble (off+n) cs.length=true) :
    Qt P ⟨dst,.load T x,ty,pos,af,none⟩ st (.g ((cs.drop off).take n)):=fun w0 ρ Φ a w hm=>by
  have h:=hm.ev x;rw [hx] at h;have hn':off+n<=cs.length:=by simpa using hn
  obtain ⟨g,hρ,hv⟩:=jhs h.c_inv;obtain ⟨g',us,E,hρ',_,hg,hl,hk⟩:=hm.box hb;rw [hρ] at hρ'; cases hρ';refine ⟨.agg ((List.range n).map fun j=>us.getD (off+j) undef).toArray,fun w' hs0=>have hs:jen w w':=hs0.resolve_left (by simp [memfree]);?_,.g _ _ (by simp;omega) fun k hk'=>?_⟩
  · have h2:=run_loadN (P:=P) (w:=w') ht (fun j=>us.getD (off+j) undef) (a:=⟨g,off,none⟩) (fun j hj=>jgm hs (by
      rw [jgu,cell_of_row w g _ us E (0,0) hg,Array.getD_eq_getD_getElem?,Array.getElem?_eq_getElem (by omega)];rfl))
    simp [execOp,hv,h2]
  · have hk2 : k < n := by simp at hk';omega
    have e:((List.range n).map fun j=>us.getD (off+j) undef).getD k undef=us.getD (off+k) undef:=by rw [List.getD_eq_getElem?_getD];simp [hk2]
    rw [e];simp only [List.getElem_take,List.getElem_drop];exact hk (off+k) (by omega)
theorem jcq {T:TypeId} {x:Operand} {b off sz:Nat} {ds:List D} {v:Value} (hx:st.ev x = .c (.lp b off)) (hb:st.bl b=some (.row sz ds)) (ht:tOne P T=true) (hc:ds[off]? = some (.lit v)) :
  Qt P ⟨dst,.load T x,ty,pos,af,none⟩ st (.c (.d (.lit v))):=fun w0 ρ Φ a w hm=>by
 have h:=hm.ev x;rw [hx] at h;obtain ⟨g,hρ,hv⟩:=jhs h.c_inv;obtain ⟨hlt,he⟩:=List.getElem?_eq_some_iff.1 hc;rcases hm.rowN hb with ⟨h0,_⟩|⟨g',us,E,vs,Fs,hρ',_,hz,hg,hl,hcc,hr⟩
 ·rw [hρ] at h0; cases h0
 ·rw [hρ] at hρ'; cases hρ';have ho:=hr off hlt;rw [he] at ho;have hvs:vs off=v/\sc v=true:=by
   generalize Fs off=F at ho;generalize vs off=u at ho;cases ho with|lit _ h=>exact ⟨rfl,h⟩
  refine ⟨v,fun w' hs0=>have hs:jen w w':=hs0.resolve_left (by simp [memfree]);?_,.litI hvs.2⟩;have h1:w.cell? ⟨g,off,none⟩=some v:=by rw [cell_of_row w g off us E (0,0) hg,hcc off hlt,hvs.1]
  simp [execOp,hv,jjp (P:=P) ht (jgm hs h1)]
theorem tFld_run {S:TypeId} {f off:Nat} (h:tFld P S f off=true) (a:Addr) (w:World):(Instr.fieldAt S (.pointer (some a)) f).run P w = .ok (.pointer (some (a.add off))) w:=by
 unfold tFld at h;cases hu:P.underlying S with
 | none=>simp [hu] at h
 | some d =>
  cases d with
  | struct fs =>
   simp only [hu] at h;cases hf:fs[f]? with
   | none=>simp [hf] at h
   | some fd =>
    simp only [hf,Bool.and_eq_true,beq_iff_eq] at h;cases hi:P.info? fd.type with
    | none=>simp [hi] at h
    | some i =>
     obtain ⟨rfl,h2⟩:=h;simp only [hi,bne_iff_ne] at h2;simp [Instr.fieldAt,underlying,hu,hf,Instr.sureAddr,fieldPlace,sizeOf,typeInfo,hi,h2]
  | _=>simp [hu] at h
theorem jhg {S:TypeId} {x:Operand} {f off:Nat} {ds:List D} (hx:st.ev x = .c (.d (.pt ds))) (ht:tFld P S f off=true) (hlt:off < ds.length):Qt P ⟨dst,.fieldAddr S x f,ty,pos,af,none⟩ st (.c (.d (.pt (ds.drop off)))):=fun w0 ρ Φ a w hm=>by
 have h:=hm.ev x;rw [hx] at h;obtain ⟨F,h',hF⟩:=h.d_inv;generalize hv:a.eval x=v at *;cases h' with
 | pt ad _ us Fs h0 hc hr =>
  refine ⟨.pointer (some (ad.add off)),fun w' _=>by simp [execOp,hv,tFld_run ht],.c _ _ (.d _ _ _ (Vw.pt (ad.add off) (ds.drop off) (fun k=>us (off+k)) (fun k=>Fs (off+k)) (by simp;omega) (fun k hk=>?_) (fun k hk=>?_)) fun b hb=>?_)⟩
  ·rw [adr_add];exact hc _ (by simp at hk;omega)
  ·simp only [List.getElem_drop];exact hr _ (by simp at hk;omega)
  ·rcases List.mem_cons.1 hb with rfl|hb
   ·rw [jgv];exact hF _ (List.mem_cons_self ..)
   ·obtain ⟨k,hk,hb⟩:=jcj.1 hb;exact hF b (List.mem_cons_of_mem _ (jcj.2 ⟨off+k,by simp at hk;omega,hb⟩))
theorem jad {S:TypeId} {x:Operand} {f off b o:Nat} (hx:st.ev x = .c (.lp b o)) (ht:tFld P S f off=true):Qt P ⟨dst,.fieldAddr S x f,ty,pos,af,none⟩ st (.c (.lp b (o+off))):=fun w0 ρ Φ a w hm=>by
 have h:=hm.ev x;rw [hx] at h;obtain ⟨g,hρ,hv⟩:=jhs h.c_inv;exact ⟨.pointer (some ((⟨g,o,none⟩:Addr).add off)),fun w' _=>by simp [execOp,hv,tFld_run ht],by rw [jgu];exact .c _ _ (.lp b g _ hρ)⟩
theorem tSl_spec {T:TypeId} {sz:Nat} (h:tSl P T sz=true):∃ E i,P.underlying T=some (.slice E)/\P.info? E=some i/\i.size=sz:=by
 unfold tSl at h;cases hu:P.underlying T with
 | none=>simp [hu] at h
 | some d =>
  cases d with
  | slice E =>
   simp only [hu,tSize] at h;cases hi:P.info? E with
   | none=>simp [hi] at h
   | some i=>exact ⟨E,i,rfl,hi,by simpa [hi] using h⟩
  | _=>simp [hu] at h
theorem run_idx {T:TypeId} {sz:Nat} (ht:tSl P T sz=true) {a:Addr} {n cap:Nat} {k:IntKind} {i:Int} (h0:0<=i) (h1:i < n) (w:World) :
  (Instr.indexAt T (.slice (some a) n cap) (.int k i)).run P w = .ok (.pointer (some (a.add (i.toNat*sz)))) w:=by
 obtain ⟨E,j,hu,hj,hs⟩:=tSl_spec ht;simp [Instr.indexAt,asIntOf,underlying,hu,h0,h1,sizeOf,typeInfo,hj,hs]
theorem jna {T:TypeId} {x y:Operand} {sz n:Nat} {ds e:List D} {k:IntKind} {i:Int} (hx:st.ev x = .c (.d (.sl sz n ds))) (hy:st.ev y = .c (.d (.lit (.int k i)))) (ht:tSl P T sz=true)
  (h0:0<=i) (h1:i < n) (he:(ds.drop (i.toNat*sz)).take sz=e):Qt P ⟨dst,.indexAddr T x y,ty,pos,af,none⟩ st (.c (.d (.pt e))):=fun w0 ρ Φ a w hm=>by
 have h:=hm.ev x;rw [hx] at h;have hi:a.eval y = .int k i:=FR.lit_inv (by rw [<- hy];exact hm.ev y);obtain ⟨F,h',hF⟩:=h.d_inv;generalize hv:a.eval x=v at *;cases h' with
 | sl ao _ cap _ _ us Fs hn hz hle hs hc hr =>
  have hnp:n≠0:=by omega
  obtain ⟨ad,rfl⟩:=Option.isSome_iff_exists.1 (hs (by omega));rw [if_neg hnp] at hF;have hb:i.toNat*sz+sz<=ds.length:=by rw [hn,<- Nat.succ_mul];exact Nat.mul_le_mul_right _ (by omega)
  subst he;have hlen:((ds.drop (i.toNat*sz)).take sz).length=sz:=by simp;omega
  refine ⟨.pointer (some (ad.add (i.toNat*sz))),fun w' _=>by simp [execOp,hv,hi,run_idx ht h0 h1],.c _ _ (.d _ _ _ (Vw.pt (ad.add (i.toNat*sz)) _ (fun j=>us (i.toNat*sz+j)) (fun j=>Fs (i.toNat*sz+j)) (by omega) (fun j hj=>?_) (fun j hj=>?_)) fun b hb'=>?_)⟩
  ·rw [adr_add];exact hc _ (by omega)
  ·simp only [List.getElem_take,List.getElem_drop];exact hr _ (by omega)
  ·rcases List.mem_cons.1 hb' with rfl|hb'
   ·rw [jgv];exact hF _ (List.mem_cons_self ..)
   ·obtain ⟨j,hj,hb'⟩:=jcj.1 hb';exact hF b (List.mem_cons_of_mem _ (jcj.2 ⟨i.toNat*sz+j,by omega,hb'⟩))
theorem jca {T:TypeId} {x y:Operand} {b sz off n:Nat} {k:IntKind} {i:Int} (hx:st.ev x = .c (.ls b sz off n)) (hy:st.ev y = .c (.d (.lit (.int k i)))) (ht:tSl P T sz=true)
  (h0:0<=i) (h1:i < n):Qt P ⟨dst,.indexAddr T x y,ty,pos,af,none⟩ st (.c (.lp b (off+i.toNat*sz))):=fun w0 ρ Φ a w hm=>by
 have h:=hm.ev x;rw [hx] at h;have hi:a.eval y = .int k i:=FR.lit_inv (by rw [<- hy];exact hm.ev y);rcases jgb h.c_inv with ⟨_,_,_,hn⟩|⟨g,cap,cs,E,hρ,hv,_⟩
 ·omega
 ·exact ⟨.pointer (some ((⟨g,off,none⟩:Addr).add (i.toNat*sz))),fun w' _=>by simp [execOp,hv,hi,run_idx ht h0 h1],by rw [jgu];exact .c _ _ (.lp b g _ hρ)⟩
theorem qt_len {T:TypeId} {x:Operand} {sz n:Nat} {ds:List D} (hx:st.ev x = .c (.d (.sl sz n ds))) (ht:(tSl P T sz || tSl P T 0 || true)=true) (hT:∃ E,P.underlying T=some (.slice E)) :
  Qt P ⟨dst,.call { callee:=.builtin .len,args := #[x],argTypes := #[T] },ty,pos,af,none⟩ st (.c (.d (.lit (.int .i64 n)))):=fun w0 ρ Φ a w hm=>by
 have h:=hm.ev x;rw [hx] at h;obtain ⟨F,h',hF⟩:=h.d_inv;obtain ⟨E,hu⟩:=hT;generalize hv:a.eval x=v at *;cases h' with
 | sl ao _ cap _ _ us Fs hn hz hle hs hc hr =>
  exact ⟨.int .i64 n,fun w' _=>by simp [execOp,resolve,invoke,hv,builtin,Builtin.len_,underlying,hu,goInt],.litI rfl⟩
def tIsSl (P:Program) (T:TypeId):Bool:=match P.underlying T with | some (.slice _)=>true | _=>false
theorem jki {T:TypeId} (h:tIsSl P T=true):∃ E,P.underlying T=some (.slice E):=by
 unfold tIsSl at h;cases hu:P.underlying T with
 | none=>simp [hu] at h
 | some d=>cases d <;> simp_all
theorem jbb {T:TypeId} {x:Operand} {sz n:Nat} {ds:List D} (hx:st.ev x = .c (.d (.sl sz n ds))) (ht:tIsSl P T=true) :
  Qt P ⟨dst,.call { callee:=.builtin .len,args := #[x],argTypes := #[T] },ty,pos,af,none⟩ st (.c (.d (.lit (.int .i64 n)))):=qt_len hx (by simp) (jki ht)
theorem jbz {T:TypeId} {x:Operand} {b sz off n:Nat} (hx:st.ev x = .c (.ls b sz off n)) (ht:tIsSl P T=true) :
  Qt P ⟨dst,.call { callee:=.builtin .len,args := #[x],argTypes := #[T] },ty,pos,af,none⟩ st (.c (.d (.lit (.int .i64 n)))):=fun w0 ρ Φ a w hm=>by
 have h:=hm.ev x;rw [hx] at h;obtain ⟨E,hu⟩:=jki ht;rcases jgb h.c_inv with ⟨_,hv,_,hn⟩|⟨g,cap,cs,E',hρ,hv,_⟩
 ·subst hn;exact ⟨.int .i64 0,fun w' _=>by simp [execOp,resolve,invoke,hv,builtin,Builtin.len_,underlying,hu,goInt],.litI rfl⟩
 ·exact ⟨.int .i64 n,fun w' _=>by simp [execOp,resolve,invoke,hv,builtin,Builtin.len_,underlying,hu,goInt],.litI rfl⟩
theorem jhu {T:TypeId} (h:tStr P T=true):P.underlying T=some .string:=by
 unfold tStr at h;cases hu:P.underlying T with
 | none=>simp [hu] at h
 | some d=>cases d <;> simp_all
theorem qt_len_str {T:TypeId} {x:Operand} {s:ByteArray} (hx:st.ev x = .c (.d (.lit (.string s)))) (ht:tStr P T=true) :
  Qt P ⟨dst,.call { callee:=.builtin .len,args := #[x],argTypes := #[T] },ty,pos,af,none⟩ st (.c (.d (.lit (.int .i64 s.size)))):=fun w0 ρ Φ a w hm=>by
 have hu:=jhu ht;have hv:a.eval x = .string s:=FR.lit_inv (by rw [<- hx];exact hm.ev x);exact ⟨.int .i64 s.size,fun w' _=>by simp [execOp,resolve,invoke,hv,builtin,Builtin.len_,underlying,hu,goInt],.litI rfl⟩
theorem qt_min {T T':TypeId} {x y:Operand} {k:IntKind} {m n:Int} (hx:st.ev x = .c (.d (.lit (.int k m)))) (hy:st.ev y = .c (.d (.lit (.int k n)))) :
  Qt P ⟨dst,.call { callee:=.builtin .min,args := #[x,y],argTypes := #[T,T'] },ty,pos,af,none⟩ st (.c (.d (.lit (.int k (min m n))))):=fun w0 ρ Φ a w hm=>by
 have h1:a.eval x = .int k m:=FR.lit_inv (by rw [<- hx];exact hm.ev x);have h2:a.eval y = .int k n:=FR.lit_inv (by rw [<- hy];exact hm.ev y);refine ⟨.int k (min m n),fun w' _=>?_,.litI rfl⟩;simp [execOp,resolve,invoke,h1,h2,builtin,Builtin.min_,Builtin.min2];omega
theorem qt_max {T T':TypeId} {x y:Operand} {k:IntKind} {m n:Int} (hx:st.ev x = .c (.d (.lit (.int k m)))) (hy:st.ev y = .c (.d (.lit (.int k n)))) :
  Qt P ⟨dst,.call { callee:=.builtin .max,args := #[x,y],argTypes := #[T,T'] },ty,pos,af,none⟩ st (.c (.d (.lit (.int k (max m n))))):=fun w0 ρ Φ a w hm=>by
 have h1:a.eval x = .int k m:=FR.lit_inv (by rw [<- hx];exact hm.ev x);have h2:a.eval y = .int k n:=FR.lit_inv (by rw [<- hy];exact hm.ev y);refine ⟨.int k (max m n),fun w' _=>?_,.litI rfl⟩;simp [execOp,resolve,invoke,h1,h2,builtin,Builtin.max_,Builtin.max2];omega
end
theorem jir {P:Program} {o:Oper} {a:Act} {w w':World} {next:Act->World->Prop} {Q:Exit->Act->World->Prop} {v:Value}
  (h:(execOp a.eval o).run P w = .ok (.value v) w') (hn:next (a.put o.dst v) w'):o.wp P a w next Q:=by
 unfold Oper.wp;rw [h];exact hn
theorem at_skip {P:Program} {o:Oper} {a:Act} {w w':World} {next:Act->World->Prop} {Q:Exit->Act->World->Prop}
  (h:(execOp a.eval o).run P w = .ok .skip w') (hn:next (a.put o.dst undef) w'):o.wp P a w next Q:=by
 unfold Oper.wp;rw [h];exact hn
theorem jlb (w:World) (o:Obj):Below w.heap.size w (w.alloc o):=(Below.refl _ _).alloc (Nat.le_refl _) _
def C.ok:C->Bool
 | .junk=>false
 | _ => true
def okL:List C->Bool
 | []=>true
 | c :: r=>c.ok&&okL r
theorem okL_get:∀ {cs:List C},okL cs=true -> ∀ k (hk:k < cs.length),cs[k].ok=true
 | c :: r,h,0,_=>by simp [okL] at h;exact h.1
 | c :: r,h,k+1,hk=>by simp [okL] at h;exact okL_get h.2 k (by simpa using hk)
def FV.cells:FV->Option (List C)
 | .c x=>if x.ok then some [x] else none
 | .g cs=>if okL cs then some cs else none
 | .t _=>none
section
variable {w w':World} {ρ:Nat->Option Nat} {Ψ:Nat->Prop}
theorem CR.one {v:Value} {x:C} (h:CR w ρ Ψ v x) (ho:x.ok=true):v.oneCell'=true:=by
 cases h with
 | d _ _ F h _=>exact h.one
 | junk=>cases ho
 | _ => rfl
theorem jla {v:Value} (h:v.oneCell'=true):v.cells = #[v]:=by cases v <;> first | rfl | cases h
theorem FR.cells {v:Value} {x:FV} {cs:List C} (h:FR w ρ Ψ v x) (hc:x.cells=some cs) :
  ∃ us:List Value,v.cells=us.toArray/\us.length=cs.length/\(∀ k (hk:k < cs.length),CR w ρ Ψ (us.getD k undef) cs[k]) /\ ∀ u∈us,u.oneCell'=true:=by
 cases h with
 | c _ x h =>
  have hc':(if x.ok then some [x] else none)=some cs:=hc;by_cases ho:x.ok=true
  ·rw [if_pos ho] at hc';cases hc';refine ⟨[v],jla (h.one ho),rfl,fun k hk=>?_,fun u hu=>by simp at hu;subst hu;exact h.one ho⟩;have:k=0:=by simpa using hk
   subst this; exact h
  ·rw [if_neg ho] at hc';cases hc'
 | g cs' us hl hr =>
  have hc':(if okL cs' then some cs' else none)=some cs:=hc;by_cases ho:okL cs'=true
  ·rw [if_pos ho] at hc';cases hc';refine ⟨us,rfl,hl,hr,fun u hu=>?_⟩;obtain ⟨k,hk,rfl⟩:=List.getElem_of_mem hu;have:=(hr k (by omega)).one (okL_get ho k (by omega));rwa [List.getD_eq_getElem?_getD,List.getElem?_eq_getElem hk] at this
  ·rw [if_neg ho] at hc';cases hc'
 | t=>cases hc
end
theorem tSize_spec {P:Program} {T:TypeId} {n:Nat} (h:tSize P T n=true):∃ i,P.info? T=some i/\i.size=n:=by
 unfold tSize at h;cases hi:P.info? T with
 | none=>simp [hi] at h
 | some i=>exact ⟨i,rfl,by simpa [hi] using h⟩
section
variable {P:Program} {ops:Array Oper} {mu:Nat->Bool} {r:OT} {st:St} {K:St->Prop} {i:Nat} {ty:TypeId} {pos:String} {af:Array Edge}
theorem Sm.newBox {w0:Ctx} {w:World} {ρ:Nat->Option Nat} {Φ:Nat->List Nat} {a:Act} (hm:Sm w0 ρ Φ st a w) (d:Nat) (hd:d < st.n) (T:TypeId) (cs:List C) (us:List Value)
    (hl:us.length=cs.length) (hr:∀ k (hk:k < cs.length),CR w ρ (InΦ Φ) (us.getD k undef) cs[k]) :
    ∃ ρ' Φ',Sm w0 ρ' Φ' (st.new [(d,.box (C.killL (inL [(d,.box [])]) cs))]) a (w.alloc (.cells us.toArray T))/\ρ' d=some w.heap.size:=by
  have hb:=jlb w (.cells us.toArray T);have hx : ∀ (ρ' : Nat -> Option Nat) (Φ' : Nat -> Prop), (∀ b', inL [(d, Blk.box (C.killL (inL [(d, .box [])]) cs))] b' = false -> ρ' b' = ρ b') -> (∀ b, inL [(d, Blk.box (C.killL (inL [(d, .box [])]) cs))] b = true -> ρ' b = some w.heap.size) ->
      (∀ g,Φ' g->InΦ Φ g∨w.heap.size<=g) -> ∀ (b:Nat) (x:Blk),getL [(d,Blk.box (C.killL (inL [(d,.box [])]) cs))] b=some x->BR (w.alloc (.cells us.toArray T)) ρ' Φ' (some w.heap.size) x [w.heap.size]:=by
    intro ρ' Φ' hρ hρb hΦ b x hx;simp only [getL] at hx;split at hx
    · cases hx
      rw [C.killL_eq];refine .box w.heap.size us.toArray T _ (heap_alloc_new w _) (by simpa using hl) fun k hk=>?_;simp only [List.getElem_map];have hk':k < cs.length:=by simpa using hk
      have:=((hr k hk').keep (w':=w.alloc (.cells us.toArray T)) (fun g _ hg=>hb.block g hg) (.of_below hb) hΦ).kill (ρ':=ρ') (inL [(d,.box [])]) (fun b' hb'=>hρ b' (by simpa [inL] using hb'));simpa [Array.getD_eq_getD_getElem?,List.getD_eq_getElem?_getD] using this
    · cases hx
  obtain ⟨ρ', Φ', h1, h2, h3, h4⟩ := hm.new (w' := w.alloc (.cells us.toArray T)) [] [(d, .box (C.killL (inL [(d, .box [])]) cs))] (fun _ => some w.heap.size) (fun _ => [w.heap.size])
    ((.of_below hb hm.below.size)) (fun g _ hg=>hb.block g hg) (.of_below hb) (fun _ _=>by simp) (fun b b' g h1 h2 _ _=>by
      simp [inL] at h1 h2;omega) (fun b _ g hg => .inr (by simp at hg;omega)) (fun b hb=>by have:=hm.nb;simp [inL] at hb;omega) hx
  exact ⟨ρ',Φ',h1,h2 d (by simp [inL])⟩
theorem jax {T:TypeId} {x:Operand} {d:Nat} {cs:List C} (hc:(st.ev x).cells=some cs) (hd:Nat.blt d st.n=true)
  (h:SO P ops mu r ((st.new [(d,.box (C.killL (inL [(d,.box [])]) cs))]).put d (.c (.lp d 0))) K) :
  SO P ops mu (.cons (some ⟨some d,.box T x,ty,pos,af,none⟩,i,false) r) st K:=by
 refine so_a fun w0 a w hs next Q hn=>?_;obtain ⟨ρ,Φ,hm⟩:=hs;obtain ⟨us,hv,hl,hr,h1⟩:=(hm.ev x).cells hc;obtain ⟨ρ',Φ',hm',hρ⟩:=hm.newBox d (by simpa using hd) T cs us hl hr;refine jir (w':=w.alloc (.cells us.toArray T)) (v:=.pointer (some ⟨w.heap.size,0,none⟩)) ?_ (hn _ _ (fun _ => .of (jlb _ _)) ⟨_,⟨ρ',Φ',hm'.put (.c _ _ (.lp d _ 0 hρ)) d (by simpa [St.new,St.kill] using hd)⟩,h⟩);simp [execOp,Instr.box,newVar,newRow,newObj,hv,Sem.run]
theorem jbi {T : TypeId} {d : Nat} {zs : List Value} (hz : (P.info? T).map (fun i => i.zero.map fun z => z.cells.toList) = some (some zs)) (hd : Nat.blt d st.n = true)
  (h:SO P ops mu r ((st.new [(d,.box (zs.map litC))]).put d (.c (.lp d 0))) K) :
  SO P ops mu (.cons (some ⟨some d,.alloc T,ty,pos,af,none⟩,i,false) r) st K:=by
 refine so_a fun w0 a w hs next Q hn=>?_;obtain ⟨ρ,Φ,hm⟩:=hs;have hk:C.killL (inL [(d,.box [])]) (zs.map litC)=zs.map litC:=by
  rw [C.killL_eq,List.map_map];refine List.map_congr_left fun z _=>?_;simp only [Function.comp,litC];split <;> rfl
 obtain ⟨ρ',Φ',hm',hρ⟩:=hm.newBox d (by simpa using hd) T (zs.map litC) zs (by simp) (fun k hk=>by
  simp only [List.getElem_map];rw [List.getD_eq_getElem?_getD,List.getElem?_eq_getElem (by simpa using hk)];exact CR.lit)
 rw [hk] at hm';cases hi:P.info? T with
 | none=>rw [hi] at hz;cases hz
 | some j =>
  rw [hi] at hz;cases hz0:j.zero with
  | none=>simp [hz0] at hz
  | some z =>
   simp only [hz0,Option.map_some,Option.some.injEq] at hz;refine jir (w':=w.alloc (.cells zs.toArray T)) (v:=.pointer (some ⟨w.heap.size,0,none⟩)) ?_ (hn _ _ (fun _ => .of (jlb _ _)) ⟨_,⟨ρ',Φ',hm'.put (.c _ _ (.lp d _ 0 hρ)) d (by simpa [St.new,St.kill] using hd)⟩,h⟩);have hz':z.cells=zs.toArray:=by rw [<- hz]
   simp [execOp,Instr.alloc,zeroValue,typeInfo,hi,hz0,newVar,newRow,newObj,hz',Sem.run]
theorem jfs {w:World} {g:Nat} {us cs:Array Value} {E:TypeId} (hg:w.heap[g]? = some (.cells us E (0,0))) (hl:cs.size=us.size):Shp w (w.setRow g cs):=by
 intro g' us' E' h;by_cases he:g'=g
 ·subst he;rw [hg] at h; cases h;exact ⟨cs,setRow_heap w g' us cs E (0,0) hg,hl⟩
 ·exact ⟨us',by rw [setRow_other w g g' cs he];exact h,rfl⟩
theorem jhx {w0:Ctx} {w:World} {g:Nat} {cs:Array Value} (hg:w0.lo g) (hs:Shp w (w.setRow g cs)):Kp w0 w (w.setRow g cs) :=
 ⟨rfl,rfl,rfl,by simp [World.setRow],hs,fun k hk=>setRow_other w g k cs fun e=>hk (e ▸ hg)⟩
theorem jlj {T:TypeId} {n:Nat} (ht:tSize P T n=true) {w:World} {g off:Nat} {us:Array Value} {E:TypeId} (hg:w.heap[g]? = some (.cells us E (0,0))) {v:Value} {vs:List Value}
  (hv:v.cells=vs.toArray) (hl:vs.length=n) (h1:∀ u∈vs,u.oneCell'=true) (hle:off+n<=us.size) :
  (Instr.storeAt T (.pointer (some ⟨g,off,none⟩)) v).run P w = .ok () (w.setRow g (us.toList.take off++vs++us.toList.drop (off+n)).toArray):=by
 obtain ⟨j,hj,hs⟩:=tSize_spec ht;have:=run_storeCells_at (P:=P) g off E vs 0 us w hg (by omega) h1;simp only [Nat.add_zero,hl] at this;simp [Instr.storeAt,Instr.sureAddr,storeVar,sizeOf,typeInfo,hj,hs,hv,hl,this]
theorem jih {α:Type} {l m:List α} {off k:Nat} (hle:off+m.length<=l.length) (hk:k < (l.take off++m++l.drop (off+m.length)).length) :
  (l.take off ++ m ++ l.drop (off + m.length))[k] = if h : off <= k /\ k < off + m.length then m[k - off]'(by omega) else l[k]'(by simp at hk;omega) := by
 by_cases h1:k < off
 ·rw [dif_neg (by omega),List.getElem_append_left (by simp;omega),List.getElem_append_left (by simp;omega),List.getElem_take]
 ·by_cases h2:k < off+m.length
  ·rw [dif_pos ⟨by omega,h2⟩,List.getElem_append_left (by simp;omega),List.getElem_append_right (by simp;omega)];congr 1; simp; try omega
  ·rw [dif_neg (by omega),List.getElem_append_right (by simp;omega),List.getElem_drop];congr 1; simp; try omega
theorem jan {T:TypeId} {p x:Operand} {b off:Nat} {cs vs:List C} (hp:st.ev p = .c (.lp b off)) (hb:st.bl b=some (.box cs)) (hv:(st.ev x).cells=some vs) (ht:tSize P T vs.length=true)
  (hle:Nat.ble (off+vs.length) cs.length=true) (hmu:mu i=true)
  (h:SO P ops mu r (st.setB b (some (.box (cs.take off++vs++cs.drop (off+vs.length))))) K) :
  SO P ops mu (.cons (some ⟨none,.store T p x,ty,pos,af,none⟩,i,false) r) st K:=by
 refine so_m hmu fun w0 a w hs next Q hn=>?_;obtain ⟨ρ,Φ,hm⟩:=hs;have hle':off+vs.length<=cs.length:=by simpa using hle
 have hp':=hm.ev p;rw [hp] at hp';obtain ⟨g,hρ,hpv⟩:=jhs hp'.c_inv;obtain ⟨g',us,E,hρ',hΦ,hg,hl,hk⟩:=hm.box hb;rw [hρ] at hρ'; cases hρ';obtain ⟨ns,hnv,hnl,hnr,hn1⟩:=(hm.ev x).cells hv;have hrun:=jlj (P:=P) (w:=w) (off:=off) ht hg hnv hnl hn1 (by omega);have hlow:w0.lo g:=hm.low b g (by rw [hΦ];exact List.mem_cons_self ..);have hsz:(us.toList.take off++ns++us.toList.drop (off+vs.length)).toArray.size=us.size:=by simp;omega
 obtain ⟨Φ', hm'⟩ := hm.upd (w' := w.setRow g (us.toList.take off ++ ns ++ us.toList.drop (off + vs.length)).toArray) b [] (.box (cs.take off ++ vs ++ cs.drop (off + vs.length))) [g] g (by rw [hΦ]; exact List.mem_cons_self ..) (by simp)
  (jhx hlow (jfs hg hsz)) (fun k hk=>setRow_other w g k _ hk) (jfs hg hsz) (by simp) (fun g' hg' => .inl (by rw [hΦ];exact hg')) (fun Φ' hΦ'=>by
   rw [hρ];refine .box g _ E _ (setRow_heap w g us _ E (0,0) hg) (by simp;omega) fun k hk'=>?_;have hkl:k < cs.length:=by simp at hk';omega
   have keep:∀ {v c},CR w ρ (InΦ Φ) v c->CR (w.setRow g (us.toList.take off++ns++us.toList.drop (off+vs.length)).toArray) ρ Φ' v c:=fun hc =>
    hc.keep (fun g2 hg2 _=>setRow_other w g g2 _ fun e=>hg2 ⟨b,by rw [hΦ,e];exact List.mem_cons_self ..⟩) (jfs hg hsz) fun g2 hg2 => .inl (hΦ' g2 hg2)
   rw [jih hle' hk'];have hk2:k < (us.toList.take off++ns++us.toList.drop (off+ns.length)).length:=by simp;omega
   have e:(us.toList.take off++ns++us.toList.drop (off+vs.length)).toArray.getD k undef=(us.toList.take off++ns++us.toList.drop (off+ns.length))[k]:=by
    rw [Array.getD_eq_getD_getElem?,List.getElem?_toArray,<- hnl,List.getElem?_eq_getElem hk2,Option.getD_some]
   rw [e,jih (by simp;omega) hk2];by_cases hin:off<=k/\k < off+vs.length
   ·rw [dif_pos hin,dif_pos (by omega)];have:=keep (hnr (k - off) (by omega));rwa [List.getD_eq_getElem?_getD,List.getElem?_eq_getElem (by omega),Option.getD_some] at this
   ·rw [dif_neg hin,dif_neg (by omega)];have:=keep (hk k hkl);rwa [Array.getD_eq_getD_getElem?,Array.getElem?_eq_getElem (by omega),Option.getD_some,<- Array.getElem_toList] at this)
 exact at_skip (by simp [execOp,hpv,hrun]) (hn _ _ (fun h=>by cases h) ⟨_,⟨ρ,Φ',hm'⟩,h⟩)
theorem jbk {T:TypeId} {p x:Operand} {b off:Nat} {cs:List C} {v:C} (hp:st.ev p = .c (.lp b off)) (hb:st.bl b=some (.box cs)) (hv:st.ev x = .c v) (ho:v.ok=true) (ht:tSize P T 1=true)
  (hle:Nat.blt off cs.length=true) (hmu:mu i=true) (h:SO P ops mu r (st.setB b (some (.box (cs.set off v)))) K) :
  SO P ops mu (.cons (some ⟨none,.store T p x,ty,pos,af,none⟩,i,false) r) st K:=by
 have hlt:off < cs.length:=by simpa using hle
 refine jan (vs:=[v]) hp hb (by rw [hv];simp [FV.cells,ho]) ht (by simp;omega) hmu ?_;have:cs.take off++[v]++cs.drop (off+[v].length)=cs.set off v:=by rw [List.set_eq_take_append_cons_drop,if_pos hlt];simp
 rw [this]; exact h
inductive Gv (st : St) : C -> D -> List Nat -> Prop
 | lit (v:Value):Gv st (.d (.lit v)) (.lit v) []
 | nil (sz:Nat) (hz:0 < sz):Gv st (.d (.lit (.slice none 0 0))) (.sl sz 0 []) []
 | row (b sz n:Nat) (ds:List D) (hb:st.bl b=some (.row sz ds)) (hn:ds.length=n*sz):Gv st (.ls b sz 0 n) (.sl sz n ds) [b]
theorem Gv.ow {w0:Ctx} {w:World} {ρ:Nat->Option Nat} {Φ:Nat->List Nat} {a:Act} (hm:Sm w0 ρ Φ st a w) {v:Value} {c:C} {x:D} {S:List Nat} (hc:CR w ρ (InΦ Φ) v c) (hg:Gv st c x S):Ow w v x (S.flatMap Φ):=by
 cases hg with
 | lit u =>
  cases hc with|d _ _ F h _=>cases h with|lit _ h=>exact .lit _ h
 | nil sz hz =>
  cases hc with|d _ _ F h _=>cases h with|lit _ h=>exact .nil sz hz
 | row b sz n ds hb hn =>
  simp only [List.flatMap_cons,List.flatMap_nil,List.append_nil];rcases hm.rowN hb with ⟨h0,rfl,hΦ,hz⟩|⟨g,us,E,vs,Fs,hρ,hΦ,hz,hg,hl,hcc,hr⟩
  ·rw [hΦ];have hn0:n=0:=by
    have h':n=0∨sz=0:=Nat.mul_eq_zero.1 hn.symm;omega
   subst hn0;rcases jgb hc with ⟨_,rfl,_⟩|⟨g,_,_,_,hρ,_⟩
   ·exact .nil sz hz
   ·rw [h0] at hρ;cases hρ
  ·rw [hΦ];rcases jgb hc with ⟨h0,_⟩|⟨g',cap,cs,E',hρ',rfl,hnc,hle,hg',hcap⟩
   ·rw [h0] at hρ;cases hρ
   ·rw [hρ] at hρ';cases hρ';rw [hg] at hg';cases hg';exact .sl g n cap sz E us ds vs Fs hn hz hle hg hnc (by omega) hcc hr
theorem jee {Φ:Nat->List Nat} (nd:∀ b,(Φ b).Nodup) (dj:∀ b b' g,g∈Φ b->g∈Φ b'->b=b'):∀ {S:List Nat},S.Nodup->(S.flatMap Φ).Nodup
 | [],_=>List.nodup_nil
 | b :: S,h=>by
  rw [List.nodup_cons] at h;rw [List.flatMap_cons];refine List.nodup_append.2 ⟨nd b,jee nd dj h.2,fun g hg g' hg' e=>?_⟩;subst e;obtain ⟨c,hc,hgc⟩:=List.mem_flatMap.1 hg';have:=dj b c g hg hgc;subst this; exact h.1 hc
theorem jcp {T:TypeId} {p x:Operand} {b sz off:Nat} {ds:List D} {v:C} {y:D} {S:List Nat} (hp:st.ev p = .c (.lp b off)) (hb:st.bl b=some (.row sz ds)) (hv:st.ev x = .c v) (ho:v.ok=true) (hg:Gv st v y S) (hbS:b ∉ S) (hS:S.Nodup) (ht:tSize P T 1=true)
  (hlt:off < ds.length) (hmu:mu i=true) (h:SO P ops mu r ((st.drop S).setB b (some (.row sz (ds.set off y)))) K) :
  SO P ops mu (.cons (some ⟨none,.store T p x,ty,pos,af,none⟩,i,false) r) st K:=by
 refine so_m hmu fun w0 a w hs next Q hn=>?_;obtain ⟨ρ,Φ,hm⟩:=hs;have hp':=hm.ev p;rw [hp] at hp';obtain ⟨g,hρ,hpv⟩:=jhs hp'.c_inv;have hx':=hm.ev x;rw [hv] at hx';have hcx:=hx'.c_inv;have hox:=Gv.ow hm hcx hg;have hone:=hcx.one ho;rcases hm.rowN hb with ⟨h0,_⟩|⟨g',us,E,vs,Fs,hρ',hΦ,hz,hgh,hl,hcc,hr⟩
 ·rw [hρ] at h0; cases h0
 ·rw [hρ] at hρ'; cases hρ';have hrun:=jlj (P:=P) (w:=w) (off:=off) (vs:=[a.eval x]) ht hgh (jla hone) rfl (fun u hu=>by simp at hu;subst hu;exact hone) (by omega);have hset:us.toList.take off++[a.eval x]++us.toList.drop (off+1)=us.toList.set off (a.eval x):=by rw [List.set_eq_take_append_cons_drop,if_pos (by simp;omega)];simp
  rw [hset] at hrun;have hgΦ:g∈Φ b:=by rw [hΦ];exact List.mem_cons_self ..
  have hlow:w0.lo g:=hm.low b g hgΦ;have hsz:(us.toList.set off (a.eval x)).toArray.size=us.size:=by simp
  have hndb:=hm.nd b;rw [hΦ,List.nodup_cons] at hndb;let Gs:Nat->List Nat:=fun k=>if k=off then S.flatMap Φ else Fs k
  have memS:∀ g2,g2∈S.flatMap Φ -> ∃ c∈S,g2∈Φ c:=fun g2 h2=>List.mem_flatMap.1 h2;have notb:∀ g2,g2∈S.flatMap Φ->g2 ∉ Φ b:=fun g2 h2 h3=>by
   obtain ⟨c,hc,hgc⟩:=memS g2 h2;have:=hm.dj b c g2 h3 hgc;subst this;exact hbS hc
  have ndparts:(parts ds.length Gs).Nodup:=by
   have hF:=hndb.2;have key:∀ (l:List Nat),l.Nodup->(l.flatMap Fs).Nodup->(∀ k∈l,k < ds.length)->(l.flatMap Gs).Nodup:=by
    intro l;induction l with
    | nil=>intro _ _ _;exact List.nodup_nil
    | cons k l ih =>
     intro h1 h2 h3;rw [List.nodup_cons] at h1;rw [List.flatMap_cons,List.nodup_append] at h2;rw [List.flatMap_cons];refine List.nodup_append.2 ⟨?_,ih h1.2 h2.2.1 (fun k hk=>h3 k (List.mem_cons_of_mem _ hk)),?_⟩
     ·simp only [Gs];split
      ·exact jee hm.nd hm.dj hS
      ·exact h2.1
     ·intro g2 hg2 g3 hg3 e;subst e;obtain ⟨k',hk',hg3⟩:=List.mem_flatMap.1 hg3;have inb:∀ k2,k2 < ds.length->g2∈Fs k2->g2∈Φ b:=fun k2 hk2 h=>by rw [hΦ];exact List.mem_cons_of_mem _ (jcj.2 ⟨k2,hk2,h⟩)
      simp only [Gs] at hg2 hg3;split at hg2
      ·rename_i hk;split at hg3
       ·rename_i hk2;subst hk;subst hk2;exact h1.1 hk'
       ·exact notb g2 hg2 (inb k' (h3 k' (List.mem_cons_of_mem _ hk')) hg3)
      ·split at hg3
       ·exact notb g2 hg3 (inb k (h3 k (List.mem_cons_self ..)) hg2)
       ·exact h2.2.2 g2 hg2 g2 (List.mem_flatMap.2 ⟨k',hk',hg3⟩) rfl
   exact key (List.range ds.length) List.nodup_range hF (fun k hk=>List.mem_range.1 hk)
  obtain ⟨Φ', hm'⟩ := hm.upd (w' := w.setRow g (us.toList.set off (a.eval x)).toArray) b S (.row sz (ds.set off y)) (g :: parts ds.length Gs) g hgΦ hbS
   (jhx hlow (jfs hgh hsz)) (fun k hk=>setRow_other w g k _ hk) (jfs hgh hsz) (List.nodup_cons.2 ⟨fun hmem=>by
    obtain ⟨k,hk,hgk⟩:=jcj.1 hmem;simp only [Gs] at hgk;split at hgk
    ·exact notb g hgk hgΦ
    ·exact hndb.1 (jcj.2 ⟨k,hk,hgk⟩),ndparts⟩) (fun g2 hg2=>by
    rcases List.mem_cons.1 hg2 with rfl|hg2
    ·exact .inl hgΦ
    ·obtain ⟨k,hk,hgk⟩:=jcj.1 hg2;simp only [Gs] at hgk;split at hgk
     ·exact .inr (memS g2 hgk)
     ·exact .inl (by rw [hΦ];exact List.mem_cons_of_mem _ (jcj.2 ⟨k,hk,hgk⟩))) (fun Φ' hΦ'=>by
    rw [hρ];have := BR.row (w := w.setRow g (us.toList.set off (a.eval x)).toArray) (ρ := ρ) (Φ := Φ') g (us.toList.set off (a.eval x)).toArray E sz (ds.set off y) (fun k => if k = off then a.eval x else vs k) Gs hz (setRow_heap w g us _ E (0, 0) hgh) (by simp; omega)
     (fun k hk=>by
      have hk':k < ds.length:=by simpa using hk
      by_cases hko:k=off
      ·subst hko;simp [show k < us.size by omega]
      ·simp only [List.getElem?_toArray,if_neg hko];rw [List.getElem?_set_ne (Ne.symm hko)];simpa using hcc k hk')
     (fun k hk=>by
      have hk':k < ds.length:=by simpa using hk
      by_cases hko:k=off
      ·subst hko;simp only [Gs,if_pos,List.getElem_set_self];exact hox.keep fun g2 hg2=>setRow_other w g g2 _ fun e=>notb g2 hg2 (e ▸ hgΦ)
      ·simp only [Gs,if_neg hko,List.getElem_set_ne (Ne.symm hko)];exact (hr k hk').keep fun g2 hg2=>setRow_other w g g2 _ fun e=>by
        subst e;exact hndb.1 (jcj.2 ⟨k,hk',hg2⟩))
    simpa using this)
  exact at_skip (by simp [execOp,hpv,hrun]) (hn _ _ (fun h=>by cases h) ⟨_,⟨ρ,Φ',hm'⟩,h⟩)
end
theorem getDL {α:Type} {l m:List α} {k:Nat} {z:α} (h:k < l.length):(l++m).getD k z=l.getD k z:=by
 rw [List.getD_eq_getElem?_getD,List.getD_eq_getElem?_getD,List.getElem?_append_left h]
theorem getDR {α:Type} {l m:List α} {k:Nat} {z:α} (h:l.length<=k):(l++m).getD k z=m.getD (k - l.length) z:=by
 rw [List.getD_eq_getElem?_getD,List.getD_eq_getElem?_getD,List.getElem?_append_right h]
inductive RP where
 | c (x : D)
 | g (xs:List D)
inductive Res where
 | p (x:RP)
 | t (xs:List RP)
inductive VwP (w : World) : Value -> RP -> Prop
 | c (v:Value) (x:D) (F:List Nat) (h:Vw w v x F):VwP w v (.c x)
 | g (xs:List D) (us:List Value) (hl:us.length=xs.length) (hr:∀ k (hk:k < xs.length),∃ F,Vw w (us.getD k undef) xs[k] F):VwP w (.agg us.toArray) (.g xs)
def VwL (w:World) (vs:List Value) (rs:List RP):Prop:=vs.length=rs.length /\ ∀ k (hk:k < rs.length),VwP w (vs.getD k undef) rs[k]
inductive OwL (w : World) : List Value -> List D -> List Nat -> Prop
 | nil:OwL w [] [] []
 | cons {v:Value} {x:D} {F:List Nat} {vs:List Value} {xs:List D} {G:List Nat} (h:Ow w v x F) (t:OwL w vs xs G):OwL w (v :: vs) (x :: xs) (F++G)
inductive OwP (w : World) : Value -> RP -> List Nat -> Prop
 | c {v:Value} {x:D} {F:List Nat} (h:Ow w v x F):OwP w v (.c x) F
 | g {us:List Value} {xs:List D} {F:List Nat} (h:OwL w us xs F):OwP w (.agg us.toArray) (.g xs) F
inductive OwPL (w : World) : List Value -> List RP -> List Nat -> Prop
 | nil:OwPL w [] [] []
 | cons {v:Value} {x:RP} {F:List Nat} {vs:List Value} {xs:List RP} {G:List Nat} (h:OwP w v x F) (t:OwPL w vs xs G):OwPL w (v :: vs) (x :: xs) (F++G)
inductive OwR (w : World) : Value -> Res -> List Nat -> Prop
 | p {v:Value} {x:RP} {F:List Nat} (h:OwP w v x F):OwR w v (.p x) F
 | t {us:List Value} {xs:List RP} {F:List Nat} (h:OwPL w us xs F):OwR w (.tuple us.toArray) (.t xs) F
def PC (P:Program) (f:FuncId) (as:List RP) (r:Res):Prop :=
 (∀ (args:Array Value) (W:World),(callFunc f args).run P W = .ok (.enter f args) W) /\
 ∀ (w:World) (vs:List Value),Glb.ok w->VwL w vs as->Calls P f vs.toArray w fun e w' => ∃ v F,e = .returned v/\OwR w' v r F/\F.Nodup/\(∀ g∈F,w.heap.size<=g)/\Below w.heap.size w w'
def RP.cells:RP->List D
 | .c x=>[x]
 | .g xs=>xs
def Res.cells:Res->List D
 | .p x=>x.cells
 | .t ps=>ps.flatMap RP.cells
def RP.shape (cs:List C):RP->FV
 | .c _ => .c (cs.headD .junk)
 | .g xs => .g (cs.take xs.length)
def shapeL:List RP->List C->List FV
 | [],_=>[]
 | p :: r,cs=>p.shape cs :: shapeL r (cs.drop p.cells.length)
def Res.shape:Res->List C->FV
 | .p x,cs=>x.shape cs
 | .t ps,cs => .t (shapeL ps cs)
theorem jkm:∀ (ps:List RP) (cs:List C),(shapeL ps cs).length=ps.length
 | [],_=>rfl
 | p :: r,cs=>by simp [shapeL,jkm r]
theorem OwL.len {w:World} {us:List Value} {xs:List D} {F:List Nat} (h:OwL w us xs F):us.length=xs.length:=by
 induction h with
 | nil=>rfl
 | cons h t ih=>simp [ih]
theorem OwL.append {w:World} {us:List Value} {xs:List D} {F:List Nat} (h:OwL w us xs F) {us':List Value} {xs':List D} {F':List Nat} (h':OwL w us' xs' F'):OwL w (us++us') (xs++xs') (F++F'):=by
 induction h with
 | nil=>exact h'
 | cons h t ih=>rw [List.append_assoc];exact .cons h ih
theorem OwP.open {w:World} {v:Value} {p:RP} {F:List Nat} (h:OwP w v p F):∃ us,OwL w us p.cells F /\ ∀ (ρ:Nat->Option Nat) (Φ:Nat->Prop) (cs:List C),p.cells.length<=cs.length->(∀ k (hk:k < p.cells.length) (hk':k < cs.length),CR w ρ Φ (us.getD k undef) cs[k])->FR w ρ Φ v (p.shape cs):=by
 cases h with
 | c h =>
  rename_i x;refine ⟨[v],by simpa [RP.cells] using OwL.cons h .nil,fun ρ Φ cs hl hr=>?_⟩;cases cs with
  | nil=>simp [RP.cells] at hl
  | cons c r=>exact .c _ _ (hr 0 (by simp [RP.cells]) (by simp))
 | g h =>
  rename_i us xs;refine ⟨us,h,fun ρ Φ cs hl hr => .g _ us (by have:=h.len;simp [RP.cells] at hl ⊢;omega) fun k hk=>?_⟩;have hk1:k < cs.length:=by simp at hk;omega
  have:=hr k (by simp [RP.cells] at hk ⊢;omega) hk1;simpa using this
theorem OwPL.open {w:World} {vs:List Value} {ps:List RP} {F:List Nat} (h:OwPL w vs ps F):∃ us,OwL w us (ps.flatMap RP.cells) F /\ ∀ (ρ:Nat->Option Nat) (Φ:Nat->Prop) (cs:List C),(ps.flatMap RP.cells).length<=cs.length->(∀ k (hk:k < (ps.flatMap RP.cells).length) (hk':k < cs.length),CR w ρ Φ (us.getD k undef) cs[k]) ->
  vs.length=ps.length /\ ∀ k (hk:k < (shapeL ps cs).length),FR w ρ Φ (vs.getD k undef) (shapeL ps cs)[k]:=by
 induction h with
 | nil=>exact ⟨[],.nil,fun ρ Φ cs _ _=>⟨rfl,fun k hk=>by simp [shapeL] at hk⟩⟩
 | cons h t ih =>
  rename_i v p F vs ps G;obtain ⟨us1,ho1,h1⟩:=h.open;obtain ⟨us2,ho2,h2⟩:=ih;have hl1:=ho1.len;refine ⟨us1++us2,by rw [List.flatMap_cons];exact ho1.append ho2,fun ρ Φ cs hl hr=>?_⟩;simp only [List.flatMap_cons,List.length_append] at hl hr;obtain ⟨e,h2'⟩:=h2 ρ Φ (cs.drop p.cells.length) (by rw [List.length_drop];omega) (fun k hk hk'=>by
   rw [List.length_drop] at hk';have:=hr (p.cells.length+k) (by omega) (by omega);rw [getDR (by omega),show p.cells.length+k - us1.length=k by omega] at this;simpa using this)
  refine ⟨by simp [e],fun k hk=>?_⟩;cases k with
  | zero =>
   simp only [shapeL,List.getElem_cons_zero];refine h1 ρ Φ cs (by omega) fun k hk hk'=>?_;have:=hr k (by omega) hk';rwa [getDL (by omega)] at this
  | succ k =>
   simp only [shapeL,List.getElem_cons_succ];exact h2' k (by simpa [shapeL] using hk)
theorem OwR.open {w:World} {v:Value} {r:Res} {F:List Nat} (h:OwR w v r F):∃ us,OwL w us r.cells F /\ ∀ (ρ:Nat->Option Nat) (Φ:Nat->Prop) (cs:List C),r.cells.length<=cs.length->(∀ k (hk:k < r.cells.length) (hk':k < cs.length),CR w ρ Φ (us.getD k undef) cs[k])->FR w ρ Φ v (r.shape cs):=by
 cases h with
 | p h=>exact h.open
 | t h =>
  obtain ⟨us,ho,hr⟩:=h.open;refine ⟨us,ho,fun ρ Φ cs hl hc=>?_⟩;obtain ⟨e,h'⟩:=hr ρ Φ cs hl hc;exact .t _ _ (by rw [jkm];exact e) h'
mutual
inductive Se (st : St) : C -> D -> Prop
 | d (x:D):Se st (.d x) x
 | nil (sz:Nat) (hz:0 < sz):Se st (.d (.lit (.slice none 0 0))) (.sl sz 0 [])
 | row (b sz off n:Nat) (ds:List D) (hb:st.bl b=some (.row sz ds)) (hle:off+n*sz<=ds.length):Se st (.ls b sz off n) (.sl sz n ((ds.drop off).take (n*sz)))
 | all (b sz n:Nat) (ds:List D) (hb:st.bl b=some (.row sz ds)) (hn:ds.length=n*sz):Se st (.ls b sz 0 n) (.sl sz n ds)
 | pt (b off:Nat) (cs:List C) (xs:List D) (hb:st.bl b=some (.box cs)) (h0:Nat.blt off cs.length=true) (h:SeL st (cs.drop off) xs):Se st (.lp b off) (.pt xs)
 | fn (f:Fn) (cs:List C) (xs:List D) (h:SeL st cs xs):Se st (.fn f cs) (.fn f xs)
inductive SeL (st : St) : List C -> List D -> Prop
 | nil:SeL st [] []
 | cons {c:C} {x:D} {cs:List C} {xs:List D} (h:Se st c x) (t:SeL st cs xs):SeL st (c :: cs) (x :: xs)
end
section
variable {st:St} {w0:Ctx} {w:World} {ρ:Nat->Option Nat} {Φ:Nat->List Nat} {a:Act}
theorem Sm.row_vw (hm:Sm w0 ρ Φ st a w) {b sz off n:Nat} {ds:List D} (hb:st.bl b=some (.row sz ds)) (hle:off+n*sz<=ds.length) {v:Value} (hc:CR w ρ (InΦ Φ) v (.ls b sz off n)):∃ F,Vw w v (.sl sz n ((ds.drop off).take (n*sz))) F:=by
 have hlen:((ds.drop off).take (n*sz)).length=n*sz:=by simp;omega
 rcases hm.rowN hb with ⟨h0,rfl,hΦ,hz⟩|⟨g,us,E,vs,Fs,hρ,hΦ,hz,hg,hl,hcc,hr⟩
 ·rcases jgb hc with ⟨_,rfl,rfl,rfl⟩|⟨g,_,_,_,hρ,_⟩
  ·exact ⟨_,.sl none 0 0 sz _ (fun _=>undef) (fun _=>[]) (by simp) hz (by omega) (fun h=>absurd h (by omega)) (fun k hk=>by simp at hk) (fun k hk=>by simp at hk)⟩
  ·rw [h0] at hρ; cases hρ
 ·rcases jgb hc with ⟨h0,_⟩|⟨g',cap,cs,E',hρ',rfl,hnc,hle',hg',hcap⟩
  ·rw [h0] at hρ; cases hρ
  ·rw [hρ] at hρ';cases hρ';obtain ⟨Gs,hG⟩:=jkz (n:=ds.length) (p:=fun k F' => ∀ hk:k < ds.length,Vw w (vs k) ds[k] F') (fun k hk=>by obtain ⟨F',h1,h2⟩:=(hr k hk).vw;exact ⟨F',fun _=>h1⟩);refine ⟨_,.sl (some ⟨g,off,none⟩) n cap sz _ (fun k=>vs (off+k)) (fun k=>Gs (off+k)) hlen hz ⟨Nat.le_trans hnc hle',hnc⟩ (fun _=>rfl) (fun k hk=>?_) (fun k hk=>?_)⟩
   ·rw [adrO_some,jgu,cell_of_row w g _ us E (0,0) hg];exact hcc _ (by omega)
   ·simp only [List.getElem_take,List.getElem_drop];exact hG _ (by omega) (by omega)
mutual
theorem Se.vw (hm:Sm w0 ρ Φ st a w):∀ {c:C} {x:D},Se st c x -> ∀ v,CR w ρ (InΦ Φ) v c -> ∃ F,Vw w v x F
 | _,_,.d x,v,hc=>by cases hc with|d _ _ F h _=>exact ⟨F,h⟩
 | _,_,.nil sz hz,v,hc=>by
  cases hc with
  | d _ _ F h _ =>
   cases h with
   | lit _ h=>exact ⟨_,.sl none 0 0 sz [] (fun _=>undef) (fun _=>[]) (by simp) hz (by omega) (fun h=>absurd h (by omega)) (fun k hk=>by simp at hk) (fun k hk=>by simp at hk)⟩
 | _,_,.row b sz off n ds hb hle,v,hc=>hm.row_vw hb hle hc
 | _,_,.all b sz n ds hb hn,v,hc=>by
  have:=hm.row_vw (off:=0) (n:=n) hb (by omega) hc;rwa [List.drop_zero,<- hn,List.take_length] at this
 | _,_,.pt b off cs xs hb h0 h,v,hc=>by
  obtain ⟨g,hρ,rfl⟩:=jhs hc;obtain ⟨g',us,E,hρ',_,hg,hl,hk⟩:=hm.box hb;rw [hρ] at hρ'; cases hρ';have h0':off < cs.length:=by simpa using h0
  obtain ⟨hlen,Fs,hF⟩:=SeL.vw hm h (us.toList.drop off) (by simp;omega) (fun k hk'=>by
   have hk2:off+k < cs.length:=by simp at hk';omega
   have:=hk (off+k) hk2;rw [Array.getD_eq_getD_getElem?,Array.getElem?_eq_getElem (by omega),Option.getD_some] at this;rw [List.getD_eq_getElem?_getD,List.getElem?_drop,List.getElem?_eq_getElem (by simp;omega),Option.getD_some];simpa using this)
  simp only [List.length_drop] at hlen;refine ⟨_,.pt ⟨g,off,none⟩ xs (fun k=>us.getD (off+k) undef) Fs (by omega) (fun k hk'=>?_) (fun k hk'=>?_)⟩
  ·rw [jgu,cell_of_row w g _ us E (0,0) hg,Array.getD_eq_getD_getElem?,Array.getElem?_eq_getElem (by omega)];rfl
  ·have:=hF k hk';rw [List.getD_eq_getElem?_getD,List.getElem?_drop] at this;rw [Array.getD_eq_getD_getElem?];simpa using this
 | _,_,.fn f cs xs h,v,hc=>by
  cases hc with
  | fn _ _ us hl hr =>
   obtain ⟨hlen,Fs,hF⟩:=SeL.vw hm h us hl hr;exact ⟨_,.fn f xs us Fs (by omega) hF⟩
theorem SeL.vw (hm:Sm w0 ρ Φ st a w):∀ {cs:List C} {xs:List D},SeL st cs xs -> ∀ (us:List Value),us.length=cs.length->(∀ k (hk:k < cs.length),CR w ρ (InΦ Φ) (us.getD k undef) cs[k]) ->
  cs.length=xs.length /\ ∃ Fs:Nat->List Nat,∀ k (hk:k < xs.length),Vw w (us.getD k undef) xs[k] (Fs k)
 | _,_,.nil,us,hl,hr=>⟨rfl,fun _=>[],fun k hk=>by simp at hk⟩
 | c :: cs,x :: xs,.cons h t,us,hl,hr=>by
  cases us with
  | nil=>simp at hl
  | cons u us =>
   obtain ⟨F,hF⟩:=Se.vw hm h u (hr 0 (by simp));obtain ⟨hlen,Gs,hG⟩:=SeL.vw hm t us (by simpa using hl) (fun k hk=>by have:=hr (k+1) (by simpa using hk);simpa using this);refine ⟨by simp [hlen],fun k=>match k with|0=>F|k+1=>Gs k,fun k hk=>?_⟩;cases k with
   | zero=>exact hF
   | succ k=>simpa using hG k (by simpa using hk)
end
end
inductive SeP (st : St) : FV -> RP -> Prop
 | c {c:C} {x:D} (h:Se st c x):SeP st (.c c) (.c x)
 | g {cs:List C} {xs:List D} (h:SeL st cs xs):SeP st (.g cs) (.g xs)
inductive SeA (st : St) : List Operand -> List RP -> Prop
 | nil:SeA st [] []
 | cons {x:Operand} {y:RP} {xs:List Operand} {ys:List RP} (h:SeP st (st.ev x) y) (t:SeA st xs ys):SeA st (x :: xs) (y :: ys)
section
variable {st:St} {w0:Ctx} {w:World} {ρ:Nat->Option Nat} {Φ:Nat->List Nat} {a:Act}
theorem SeP.vw (hm:Sm w0 ρ Φ st a w) {x:FV} {y:RP} (h:SeP st x y) {v:Value} (hv:FR w ρ (InΦ Φ) v x):VwP w v y:=by
 cases h with
 | c h=>obtain ⟨F,hF⟩:=Se.vw hm h v hv.c_inv;exact .c v _ F hF
 | g h =>
  obtain ⟨us,rfl,hl,hr⟩:=hv.g_inv;obtain ⟨hlen,Fs,hF⟩:=SeL.vw hm h us hl hr;exact .g _ us (by omega) fun k hk=>⟨_,hF k hk⟩
theorem SeA.vw (hm:Sm w0 ρ Φ st a w) {xs:List Operand} {ys:List RP} (h:SeA st xs ys):VwL w (xs.map a.eval) ys:=by
 induction h with
 | nil=>exact ⟨rfl,fun k hk=>by simp at hk⟩
 | cons h t ih =>
  rename_i x y xs ys;refine ⟨by simp [ih.1],fun k hk=>?_⟩;cases k with
  | zero=>exact h.vw hm (hm.ev x)
  | succ k=>simpa using ih.2 k (by simpa using hk)
end
theorem VwL.append {w:World} {vs vs':List Value} {rs rs':List RP} (h:VwL w vs rs) (h':VwL w vs' rs'):VwL w (vs++vs') (rs++rs'):=by
 refine ⟨by simp [h.1,h'.1],fun k hk=>?_⟩;by_cases hk1:k < rs.length
 ·rw [getDL (by rw [h.1];exact hk1),List.getElem_append_left hk1];exact h.2 k hk1
 ·rw [getDR (by rw [h.1];omega),List.getElem_append_right (by omega)];have e:=h.1;have:=h'.2 (k - rs.length) (by simp at hk;omega);rwa [e]
def ownC (id:Nat):D->C
 | .sl sz n _ => .ls id sz 0 n
 | x => .d x
def ownB (id:Nat):D->List (Nat×Blk)
 | .sl sz _ ds=>[(id,.row sz ds)]
 | _ => []
def ownCs:Nat->List D->List C
 | _,[]=>[]
 | id,x :: r=>ownC id x :: ownCs (id+1000) r
def ownBs:Nat->List D->List (Nat×Blk)
 | _,[]=>[]
 | id,x :: r=>ownB id x++ownBs (id+1000) r
theorem jdp:∀ (id:Nat) (xs:List D),(ownCs id xs).length=xs.length
 | _,[]=>rfl
 | id,x :: r=>by simp [ownCs,jdp _ r]
theorem jef (A B:List (Nat×Blk)) (b:Nat):inL (A++B) b=(inL A b || inL B b):=by simp [inL]
theorem jns : ∀ (A B : List (Nat × Blk)) (b : Nat), getL (A ++ B) b = match getL A b with | some x => some x | none => getL B b
 | [],_,_=>rfl
 | e :: A,B,b=>by
  simp only [List.cons_append,getL];by_cases h:e.1=b
  ·simp [h]
  ·simp [h,jns A B b]
theorem jjb {id b:Nat} {x:D} (h:inL (ownB id x) b=true):b=id:=by
 cases x <;> simp [ownB,inL] at h;exact h.symm
theorem jik:∀ {id:Nat} {xs:List D} {b:Nat},inL (ownBs id xs) b=true->id<=b
 | _,[],_,h=>by simp [ownBs,inL] at h
 | id,x :: r,b,h=>by
  rw [ownBs,jef,Bool.or_eq_true] at h;rcases h with h | h
  ·have:=jjb h; omega
  ·have:=jik h; omega
theorem jju:∀ {id:Nat} {xs:List D} {b:Nat},inL (ownBs id xs) b=true->b < id+1000*xs.length+1
 | _,[],_,h=>by simp [ownBs,inL] at h
 | id,x :: r,b,h=>by
  rw [ownBs,jef,Bool.or_eq_true] at h;simp only [List.length_cons];rcases h with h | h
  ·have:=jjb h; omega
  ·have:=jju h; omega
theorem OwL.own {w:World} {us:List Value} {xs:List D} {F:List Nat} (h:OwL w us xs F):F.Nodup -> ∀ id,∃ (r:Nat->Option Nat) (G:Nat->List Nat),
  (∀ b x,getL (ownBs id xs) b=some x -> ∀ ρ Φ,BR w ρ Φ (r b) x (G b)) /\
  (∀ b,inL (ownBs id xs) b=true->(G b).Nodup /\ ∀ g∈G b,g∈F) /\
  (∀ b b' g,inL (ownBs id xs) b=true->inL (ownBs id xs) b'=true->g∈G b->g∈G b'->b=b') /\
  (∀ ρ Φ,(∀ b,inL (ownBs id xs) b=true->ρ b=r b) -> ∀ k (hk:k < (ownCs id xs).length),CR w ρ Φ (us.getD k undef) (ownCs id xs)[k]):=by
 induction h with
 | nil=>exact fun _ id=>⟨fun _=>none,fun _=>[],fun b x hx=>by simp [ownBs,getL] at hx,fun b hb=>by simp [ownBs,inL] at hb,fun b b' g hb=>by simp [ownBs,inL] at hb,fun ρ Φ _ k hk=>by simp [ownCs] at hk⟩
 | cons h t ih =>
  rename_i v x F vs xs G0;intro hnd id;rw [List.nodup_append] at hnd;obtain ⟨r,G,h1,h2,h3,h4⟩:=ih hnd.2.1 (id+1000);have key:∃ (r0:Option Nat),(∀ y,getL (ownB id x) id=some y -> ∀ ρ Φ,BR w ρ Φ r0 y F)/\(∀ (ρ:Nat->Option Nat) (Φ:Nat->Prop),(inL (ownB id x) id=true->ρ id=r0)->CR w ρ Φ v (ownC id x)):=by
   cases h with
   | lit _ hs=>exact ⟨none,fun y hy=>by simp [ownB,getL] at hy,fun ρ Φ _ => .d _ _ [] (.lit _ hs) fun b hb=>by cases hb⟩
   | nil sz hz=>exact ⟨none,fun y hy ρ Φ=>by simp [ownB,getL] at hy;subst hy;exact .nil sz hz,fun ρ Φ hρ => .ls0 id sz (hρ (by simp [ownB,inL]))⟩
   | any _ hs=>exact ⟨none,fun y hy=>by simp [ownB,getL] at hy,fun ρ Φ _ => .d _ _ [] (.any _ hs) fun b hb=>by cases hb⟩
   | sl g n cap sz E cs ds us Fs hn hz hle hg hnc hcap hc hr =>
    have hle2:ds.length<=cs.size:=by rw [hn];exact Nat.le_trans (Nat.mul_le_mul_right _ hnc) hcap
    exact ⟨some g,fun y hy ρ Φ=>by simp [ownB,getL] at hy;subst hy;exact .row g cs E sz ds us Fs hz hg hle2 hc hr,fun ρ Φ hρ => .ls id g sz 0 n cap cs E (hρ (by simp [ownB,inL])) hnc hle hg (by omega)⟩
  obtain ⟨r0,k1,k2⟩:=key;have ne:∀ {b},inL (ownBs (id+1000) xs) b=true->b≠id:=fun hb=>by have:=jik hb;omega
  refine ⟨fun b=>if b=id then r0 else r b,fun b=>if b=id then F else G b,?_,?_,?_,?_⟩
  ·intro b y hy ρ Φ;rw [ownBs,jns] at hy;by_cases hb:b=id
   ·subst hb;simp only [if_pos];cases hg:getL (ownB b x) b with
    | some z=>rw [hg] at hy;cases hy;exact k1 _ hg ρ Φ
    | none =>
     rw [hg] at hy;have:=jfe (ownBs (b+1000) xs) b;simp only at hy;rw [hy] at this;exact absurd rfl (ne (by simpa using this))
   ·simp only [if_neg hb];have:getL (ownB id x) b=none:=by
     cases hg:getL (ownB id x) b with
     | none=>rfl
     | some z=>have:=jfe (ownB id x) b;rw [hg] at this;exact absurd (jjb (by simpa using this)) hb
    rw [this] at hy;exact h1 b y hy ρ Φ
  ·intro b hb;by_cases hbi:b=id
   ·simp only [if_pos hbi];exact ⟨hnd.1,fun g hg=>List.mem_append_left _ hg⟩
   ·simp only [if_neg hbi];rw [ownBs,jef,Bool.or_eq_true] at hb;rcases hb with hb | hb
    ·exact absurd (jjb hb) hbi
    ·exact ⟨(h2 b hb).1,fun g hg=>List.mem_append_right _ ((h2 b hb).2 g hg)⟩
  ·intro b b' g hb hb' hg hg';rw [ownBs,jef,Bool.or_eq_true] at hb hb';by_cases hbi:b=id
   ·by_cases hbi':b'=id
    ·omega
    ·simp only [if_pos hbi] at hg;simp only [if_neg hbi'] at hg';rcases hb' with hb'|hb'
     ·exact absurd (jjb hb') hbi'
     ·exact absurd rfl (hnd.2.2 g hg g ((h2 b' hb').2 g hg'))
   ·simp only [if_neg hbi] at hg;rcases hb with hb | hb
    ·exact absurd (jjb hb) hbi
    ·by_cases hbi':b'=id
     ·simp only [if_pos hbi'] at hg';exact absurd rfl (hnd.2.2 g hg' g ((h2 b hb).2 g hg))
     ·simp only [if_neg hbi'] at hg';rcases hb' with hb'|hb'
      ·exact absurd (jjb hb') hbi'
      ·exact h3 b b' g hb hb' hg hg'
  ·intro ρ Φ hρ k hk;cases k with
   | zero=>exact k2 ρ Φ fun hi=>by have:=hρ id (by rw [ownBs,jef,hi];rfl);simpa using this
   | succ k =>
    have:=h4 ρ Φ (fun b hb=>by have:=hρ b (by rw [ownBs,jef,hb,Bool.or_true]);simp only [if_neg (ne hb)] at this;exact this) k (by simpa [ownCs] using hk);simpa [ownCs] using this
section
variable {P:Program} {ops:Array Oper} {mu:Nat->Bool} {r:OT} {st:St} {K:St->Prop} {i:Nat} {ty:TypeId} {pos:String} {af:Array Edge}
theorem call_wp {f:Operand} {xs:List Operand} {ts:Array TypeId} {dst:Option Tmp} {fid:FuncId} {caps:List D} {as:List RP} {res:Res} {w0:Ctx} {w:World} {ρ:Nat->Option Nat} {Φ:Nat->List Nat} {a:Act} {next:Act->World->Prop} {Q:Exit->Act->World->Prop}
  (hm:Sm w0 ρ Φ st a w) (hf:SeP st (st.ev f) (.c (.fn (.func fid) caps))) (ha:SeA st xs as) (hc:PC P fid (as++caps.map RP.c) res)
  (h:∀ v w' F,OwR w' v res F->F.Nodup->(∀ g∈F,w.heap.size<=g)->Below w.heap.size w w'->next (a.put dst v) w') :
  Oper.wp P ⟨dst,.call { callee:=.value f,args:=⟨xs⟩,argTypes:=ts },ty,pos,af,none⟩ a w next Q:=by
 have hfv:=hf.vw hm (hm.ev f);generalize hv:a.eval f=v at *;cases hfv with
 | c _ _ F hF =>
  cases hF with
  | fn _ _ us Fs hl hr =>
   have hargs:VwL w (xs.map a.eval++us) (as++caps.map RP.c):=(SeA.vw hm ha).append ⟨by simpa using hl,fun k hk=>by
    simp only [List.getElem_map];exact .c _ _ _ (hr k (by simpa using hk))⟩
   have hcalls:=hc.2 w _ hm.below.ok hargs;have hex:(execOp a.eval ⟨dst,.call { callee:=.value f,args:=⟨xs⟩,argTypes:=ts },ty,pos,af,none⟩).run P w = .ok (.enter fid (xs.map a.eval++us).toArray) w:=by
    simp only [execOp,resolve,hv,Sem.run_bind];simp [Deferred.ofValue,invoke];exact hc.1 _ _
   unfold Oper.wp;rw [hex];refine Calls.mono hcalls ?_;rintro e w' ⟨v,F,rfl,h1,h2,h3,h4⟩;exact h v w' F h1 h2 h3 h4
theorem jhb {f:Operand} {xs:List Operand} {ts:Array TypeId} {d:Nat} {fid:FuncId} {caps:List D} {as:List RP} {res:Res} (hf:SeP st (st.ev f) (.c (.fn (.func fid) caps))) (ha:SeA st xs as) (hc:PC P fid (as++caps.map RP.c) res)
  (hd:Nat.blt d st.n=true) (h:SO P ops mu r (st.put d (res.shape (res.cells.map C.d))) K) :
  SO P ops mu (.cons (some ⟨some d,.call { callee:=.value f,args:=⟨xs⟩,argTypes:=ts },ty,pos,af,none⟩,i,false) r) st K:=by
 refine so_a fun w0 a w hs next Q hn=>?_;obtain ⟨ρ,Φ,hm⟩:=hs;refine call_wp hm hf ha hc fun v w' F ho hnd hlow hb=>hn _ _ (fun _ => .of hb) ⟨_,⟨ρ,Φ,(hm.later hb).put ?_ d (by simpa using hd)⟩,h⟩;obtain ⟨us,hol,hsh⟩:=ho.open;refine hsh ρ (InΦ Φ) _ (by simp) fun k hk hk'=>?_;simp only [List.getElem_map];have gen:∀ {us:List Value} {xs:List D} {F:List Nat},OwL w' us xs F->(∀ g∈F,w.heap.size<=g) -> ∀ k (hk:k < xs.length),CR w' ρ (InΦ Φ) (us.getD k undef) (.d xs[k]):=by
  intro us xs F ho;induction ho with
  | nil=>intro _ k hk;simp at hk
  | cons h t ih =>
   intro hF k hk;cases k with
   | zero =>
    obtain ⟨F',h1,h2⟩:=h.vw;refine .d _ _ F' h1 fun b hb' hΦ=>?_;obtain ⟨c,hc⟩:=hΦ;have:=hF b (List.mem_append_left _ (h2 b hb'));have:=hm.lt hc;omega
   | succ k=>simpa using ih (fun g hg=>hF g (List.mem_append_right _ hg)) k (by simpa using hk)
 exact gen hol hlow k hk
theorem jaf {xs:List Operand} {ts:Array TypeId} {d:Nat} {fid:FuncId} {as:List RP} {res:Res} (ha:SeA st xs as) (hc:PC P fid as res)
  (hd:Nat.blt d st.n=true) (h:SO P ops mu r (st.put d (res.shape (res.cells.map C.d))) K) :
  SO P ops mu (.cons (some ⟨some d,.call { callee:=.value (.func fid),args:=⟨xs⟩,argTypes:=ts },ty,pos,af,none⟩,i,false) r) st K :=
 jhb (caps:=[]) (.c (.d _)) ha (by simpa using hc) hd h
theorem so_callO {f:Operand} {xs:List Operand} {ts:Array TypeId} {d:Nat} {fid:FuncId} {caps:List D} {as:List RP} {res:Res} (hf:SeP st (st.ev f) (.c (.fn (.func fid) caps))) (ha:SeA st xs as) (hc:PC P fid (as++caps.map RP.c) res)
  (hd:Nat.blt d st.n=true) (hlen:Nat.ble res.cells.length 900=true) (h:SO P ops mu r ((st.new (ownBs d res.cells)).put d (res.shape (ownCs d res.cells))) K) :
  SO P ops mu (.cons (some ⟨some d,.call { callee:=.value f,args:=⟨xs⟩,argTypes:=ts },ty,pos,af,none⟩,i,false) r) st K:=by
 refine so_a fun w0 a w hs next Q hn=>?_;obtain ⟨ρ,Φ,hm⟩:=hs;refine call_wp hm hf ha hc fun v w' F ho hnd hlow hb=>?_;obtain ⟨us,hol,hsh⟩:=ho.open;obtain ⟨r0,G,h1,h2,h3,h4⟩:=hol.own hnd d;obtain ⟨ρ', Φ', hm', hr', _, _⟩ := hm.new (w' := w') [] (ownBs d res.cells) r0 G (.of_below hb hm.below.size) (fun g _ hg => hb.block g hg) (.of_below hb) (fun b hb => (h2 b hb).1) h3
  (fun b hb g hg => .inr (hlow g ((h2 b hb).2 g hg))) (fun b hb=>by
   have h1:=jju hb;have h2:=hm.nb;have h3:res.cells.length<=900:=by simpa using hlen
   have h4:d < st.n:=by simpa using hd
   omega) (fun ρ' Φ' _ _ _ b x hx=>h1 b x hx ρ' Φ')
 exact hn _ _ (fun _ => .of hb) ⟨_,⟨ρ',Φ',hm'.put (hsh ρ' _ _ (by rw [jdp];exact Nat.le_refl _) fun k hk hk'=>h4 ρ' _ hr' k hk') d (by simpa [St.new,St.kill,St.drop] using hd)⟩,h⟩
end
section
variable {P:Program} {ops:Array Oper} {mu:Nat->Bool} {r:OT} {st:St} {K:St->Prop} {i:Nat} {ty:TypeId} {pos:String} {af:Array Edge}
theorem jbl {xs:List Operand} {ts:Array TypeId} {d:Nat} {fid:FuncId} {as:List RP} {res:Res} (ha:SeA st xs as) (hc:PC P fid as res)
  (hd:Nat.blt d st.n=true) (hlen:Nat.ble res.cells.length 900=true) (h:SO P ops mu r ((st.new (ownBs d res.cells)).put d (res.shape (ownCs d res.cells))) K) :
  SO P ops mu (.cons (some ⟨some d,.call { callee:=.value (.func fid),args:=⟨xs⟩,argTypes:=ts },ty,pos,af,none⟩,i,false) r) st K :=
 so_callO (caps:=[]) (.c (.d _)) ha (by simpa using hc) hd hlen h
end
def enterFV:List RP->Nat->FV
 | [],_ => .c .junk
 | .c x :: _,0 => .c (.d x)
 | .g xs :: _,0 => .g (xs.map C.d)
 | _ :: r,t+1=>enterFV r t
def St.enter (n:Nat) (as:List RP):St:=⟨n,enterFV as,fun _=>none⟩
inductive RV (P : Program) (st : St) : ResultVar -> FV -> Prop
 | tmp (t:Tmp):RV P st (.tmp t) (st.fr t)
 | cell1 (t:Tmp) (T:TypeId) (b off:Nat) (cs:List C) (c:C) (hx:st.fr t = .c (.lp b off)) (hb:st.bl b=some (.box cs)) (ht:tOne P T=true) (hc:cs[off]? = some c):RV P st (.cell t T) (.c c)
 | cellN (t:Tmp) (T:TypeId) (b off n:Nat) (cs:List C) (hx:st.fr t = .c (.lp b off)) (hb:st.bl b=some (.box cs)) (ht:tAgg P T n=true) (hn:Nat.ble (off+n) cs.length=true):RV P st (.cell t T) (.g ((cs.drop off).take n))
inductive GvL (st : St) : List C -> List D -> List Nat -> Prop
 | nil:GvL st [] [] []
 | cons {c:C} {x:D} {S:List Nat} {cs:List C} {xs:List D} {S':List Nat} (h:Gv st c x S) (t:GvL st cs xs S'):GvL st (c :: cs) (x :: xs) (S++S')
inductive GvP (st : St) : FV -> RP -> List Nat -> Prop
 | c {c:C} {x:D} {S:List Nat} (h:Gv st c x S):GvP st (.c c) (.c x) S
 | g {cs:List C} {xs:List D} {S:List Nat} (h:GvL st cs xs S):GvP st (.g cs) (.g xs) S
inductive GvA (P : Program) (st : St) : List ResultVar -> List RP -> List Nat -> Prop
 | nil:GvA P st [] [] []
 | cons {v:ResultVar} {x:FV} {y:RP} {S:List Nat} {vs:List ResultVar} {ys:List RP} {S':List Nat} (hv:RV P st v x) (h:GvP st x y S) (t:GvA P st vs ys S'):GvA P st (v :: vs) (y :: ys) (S++S')
inductive jbc (P : Program) (vs : List ResultVar) : Res -> St -> Prop
 | p {st:St} {y:RP} {S:List Nat} (h:GvA P st vs [y] S) (hS:S.Nodup):jbc P vs (.p y) st
 | t {st:St} {ys:List RP} {S:List Nat} (h:GvA P st vs ys S) (hl:(ys.length != 1)=true) (hS:S.Nodup):jbc P vs (.t ys) st
def rvRun (a:Act):ResultVar->Sem Value
 | .tmp t=>pure (a.tmps.getD t undef)
 | .cell b t=>do loadVar t (<- asAddr (a.tmps.getD b undef))
section
variable {P:Program} {st:St} {w0:Ctx} {w:World} {ρ:Nat->Option Nat} {Φ:Nat->List Nat} {a:Act}
theorem RV.run (hm:Sm w0 ρ Φ st a w) {v:ResultVar} {x:FV} (h:RV P st v x) :
  ∃ u,(rvRun a v).run P w = .ok u w/\FR w ρ (InΦ Φ) u x:=by
 cases h with
 | tmp t=>exact ⟨_,rfl,hm.fr t⟩
 | cell1 t T b off cs c hx hb ht hc =>
  have h1:st.ev (.tmp t) = .c (.lp b off):=hx
  obtain ⟨u, hu, hr⟩ := jag (P := P) (dst := none) (ty := 0) (pos := "") (af := #[]) h1 hb ht hc w0 ρ Φ a w hm
  have h2:=hu w (.inr (jen.refl w));have hp:=hm.fr t;rw [hx] at hp;obtain ⟨g,_,hg⟩:=jhs hp.c_inv;have e:a.eval (.tmp t)=a.tmps.getD t undef:=rfl;refine ⟨u,?_,hr⟩;simp only [execOp,e,hg,Instr.loadAt,Instr.sureAddr,Sem.run_bind,Sem.run_pure,Result.andThen_ok] at h2;simp only [rvRun,hg,Sem.run_bind,asAddr,Sem.run_pure,Result.andThen_ok];generalize (loadVar T ⟨g,off,none⟩).run P w=z at *;cases z with
  | ok v w1=>simp at h2;rw [h2.1,h2.2]
  | halt _ _=>simp [Result.andThen] at h2
 | cellN t T b off n cs hx hb ht hn =>
  have h1:st.ev (.tmp t) = .c (.lp b off):=hx
  obtain ⟨u, hu, hr⟩ := jae (P := P) (dst := none) (ty := 0) (pos := "") (af := #[]) h1 hb ht hn w0 ρ Φ a w hm
  have h2:=hu w (.inr (jen.refl w));have hp:=hm.fr t;rw [hx] at hp;obtain ⟨g,_,hg⟩:=jhs hp.c_inv;have e:a.eval (.tmp t)=a.tmps.getD t undef:=rfl;refine ⟨u,?_,hr⟩;simp only [execOp,e,hg,Instr.loadAt,Instr.sureAddr,Sem.run_bind,Sem.run_pure,Result.andThen_ok] at h2;simp only [rvRun,hg,Sem.run_bind,asAddr,Sem.run_pure,Result.andThen_ok];generalize (loadVar T ⟨g,off,none⟩).run P w=z at *;cases z with
  | ok v w1=>simp at h2;rw [h2.1,h2.2]
  | halt _ _=>simp [Result.andThen] at h2
theorem GvL.ow (hm:Sm w0 ρ Φ st a w) {cs:List C} {xs:List D} {S:List Nat} (h:GvL st cs xs S):∀ us:List Value,us.length=cs.length->(∀ k (hk:k < cs.length),CR w ρ (InΦ Φ) (us.getD k undef) cs[k])->OwL w us xs (S.flatMap Φ):=by
 induction h with
 | nil=>intro us hl _;cases us with|nil=>exact .nil|cons=>simp at hl
 | cons h t ih =>
  intro us hl hr;cases us with
  | nil=>simp at hl
  | cons u us =>
   rw [List.flatMap_append];exact .cons (Gv.ow hm (hr 0 (by simp)) h) (ih us (by simpa using hl) fun k hk=>by have:=hr (k+1) (by simpa using hk);simpa using this)
theorem GvP.ow (hm:Sm w0 ρ Φ st a w) {x:FV} {y:RP} {S:List Nat} (h:GvP st x y S) {v:Value} (hv:FR w ρ (InΦ Φ) v x):OwP w v y (S.flatMap Φ):=by
 cases h with
 | c h=>exact .c (Gv.ow hm hv.c_inv h)
 | g h =>
  obtain ⟨us,rfl,hl,hr⟩:=hv.g_inv;exact .g (GvL.ow hm h us hl hr)
theorem GvA.ow (hm:Sm w0 ρ Φ st a w) {vs:List ResultVar} {ys:List RP} {S:List Nat} (h:GvA P st vs ys S) :
  ∃ us:List Value,(vs.mapM (rvRun a):Sem (List Value)).run P w = .ok us w/\OwPL w us ys (S.flatMap Φ):=by
 induction h with
 | nil=>exact ⟨[],rfl,.nil⟩
 | cons hv h t ih =>
  obtain ⟨u,hu,hfr⟩:=hv.run hm;obtain ⟨us,hus,hol⟩:=ih;refine ⟨u :: us,?_,by rw [List.flatMap_append];exact .cons (GvP.ow hm h hfr) hol⟩;rw [List.mapM_cons];simp only [Sem.run_bind,hu,Result.andThen_ok,hus,Sem.run_pure]
theorem OwPL.len {us:List Value} {ys:List RP} {F:List Nat} (h:OwPL w us ys F):us.length=ys.length:=by
 induction h with
 | nil=>rfl
 | cons h t ih=>simp [ih]
theorem jbc.run (hm:Sm w0 ρ Φ st a w) {fn:Func} {vs:List ResultVar} (hvs:fn.results=⟨vs⟩) {r:Res} (h:jbc P vs r st):∃ v F,(results fn a.tmps).run P w = .ok v w/\OwR w v r F/\F.Nodup /\ ∀ g∈F,w0.lo g:=by
  have low:∀ S:List Nat,∀ g∈S.flatMap Φ,w0.lo g:=fun S g hg=>by obtain ⟨b,_,hb⟩:=List.mem_flatMap.1 hg;exact hm.low b g hb
  have run : ∀ us : List Value, (vs.mapM (rvRun a) : Sem (List Value)).run P w = .ok us w ->
      (results fn a.tmps).run P w = .ok (if h:us.toArray.size=1 then us.toArray[0] else .tuple us.toArray) w:=by
    intro us hus;have e:results fn a.tmps=(do let vs <- fn.results.mapM (rvRun a);pure (if h:vs.size=1 then vs[0] else .tuple vs)):=by
      unfold results;congr 1
    rw [e,hvs,List.mapM_toArray];simp only [Sem.run_bind,Sem.run_map,hus,Result.andThen_ok,Sem.run_pure]
  cases h with
  | p h hS =>
    obtain ⟨us,hus,hol⟩:=h.ow hm;have hl:=hol.len;have hnd:=jee hm.nd hm.dj hS;generalize hF:List.flatMap Φ _=F0 at hol hnd;match us,hl with
    | [u], _ =>
      cases hol with
      | cons h1 t =>
        cases t;refine ⟨u,_,by rw [run [u] hus];rfl,.p h1,?_,?_⟩
        · simpa using hnd
        · intro g hg;exact low _ g (by rw [hF];simpa using hg)
  | t h hl hS =>
    obtain ⟨us,hus,hol⟩:=h.ow hm;have hlen:=hol.len;refine ⟨.tuple us.toArray,_,?_,.t hol,jee hm.nd hm.dj hS,low _⟩;rw [run us hus,dif_neg];simp at hl ⊢; omega
end
theorem Sm.enter {w:World} {vs:List Value} {as:List RP} (ok:Glb.ok w) (h:VwL w vs as) {n:Nat} (hn:as.length<=n) (hnb:n<=1000) :
  Sm ⟨w,fun _=>False,fun _=>none,fun _ _=>rfl,ok,fun _ _ h=>h⟩ (fun _=>none) (fun _=>[]) (St.enter n as) { tmps:=vs.toArray++Array.replicate (n - vs.toArray.size) undef,defers:=[] } w:=by
 refine ⟨Kp.refl _ _,by have:=h.1;simp [St.enter];omega,hnb,fun b r hb=>(by cases hb),rfl,fun t=>?_,fun b x hb=>(by simp [St.enter] at hb),fun _ _=>rfl,fun b g hg=>(by cases hg),fun _=>List.nodup_nil,fun b b' g hg=>(by cases hg)⟩;have gen:∀ (as:List RP) (vs:List Value) (t:Nat),(t < as.length -> ∀ hk:t < as.length,VwP w (vs.getD t undef) as[t])->FR w (fun _=>none) (InΦ fun _=>[]) (vs.getD t undef) (enterFV as t):=by
  intro as;induction as with
  | nil=>intro vs t _;exact FR.junkI _
  | cons y as ih =>
   intro vs t ht;cases t with
   | zero =>
    have:=ht (by simp) (by simp);simp only [List.getElem_cons_zero] at this;generalize vs.getD 0 undef=v at *;have out:∀ g,¬ InΦ (fun _=>([]:List Nat)) g:=fun g ⟨b,hb⟩=>by cases hb
    cases this with
    | c _ x F h=>exact .c _ _ (.d _ _ F h fun b _=>out b)
    | g xs us hl hr =>
     refine .g _ us (by simpa using hl) fun k hk=>?_;simp only [List.getElem_map];obtain ⟨F,hF⟩:=hr k (by simpa using hk);exact .d _ _ F hF fun b _=>out b
   | succ t =>
    have:=ih (vs.drop 1) t fun h1 h2=>by
     have:=ht (by simpa using h1) (by simpa using h2);simpa [List.getD_eq_getElem?_getD,Nat.add_comm] using this
    cases y <;> simpa [enterFV,List.getD_eq_getElem?_getD,Nat.add_comm] using this
 have e:(vs.toArray++Array.replicate (n - vs.toArray.size) undef).getD t undef=vs.getD t undef:=by
  rw [Array.getD_eq_getD_getElem?,List.getD_eq_getElem?_getD];by_cases ht:t < vs.length
  ·rw [Array.getElem?_append_left (by simpa using ht)];simp
  ·rw [Array.getElem?_append_right (by simp;omega),Array.getElem?_replicate,List.getElem?_eq_none (by omega)];split <;> rfl
 show FR w _ _ ((vs.toArray++Array.replicate (n - vs.toArray.size) undef).getD t undef) (enterFV as t);rw [e];exact gen as vs t fun _ hk=>h.2 t hk
def Fit (x:D):Prop := ∃ w v F,Vw w v x F
def FitP:RP->Prop
 | .c x=>Fit x
 | .g xs => ∀ x∈xs,Fit x
def FitL:List RP->Prop
 | []=>True
 | x :: r=>FitP x/\FitL r
theorem Fit.len {sz n:Nat} {ds:List D} (h:Fit (.sl sz n ds)):n<=9223372036854775807:=by
 obtain ⟨w,v,F,h⟩:=h;cases h with|sl _ _ _ _ _ _ _ _ _ hle=>exact hle.1
theorem Fit.mem {sz n:Nat} {ds:List D} (h:Fit (.sl sz n ds)) {x:D} (hx:x∈ds):Fit x:=by
 obtain ⟨w,v,F,h⟩:=h;obtain ⟨k,hk,rfl⟩:=List.getElem_of_mem hx;cases h with|sl _ _ _ _ _ us Fs hn hz hle hs hc hr=>exact ⟨w,us k,Fs k,hr k hk⟩
theorem Fit.str {s:ByteArray} (h:Fit (.lit (.string s))):s.size<=9223372036854775807:=by
 obtain ⟨w,v,F,h⟩:=h;cases h with|lit _ h=>simpa [sc] using h
theorem VwL.fit {w:World}:∀ {rs:List RP} {vs:List Value},VwL w vs rs->FitL rs
 | [],_,_=>trivial
 | r :: rs,vs,h=>by
  refine ⟨?_,VwL.fit (w:=w) (vs:=vs.drop 1) ⟨by have:=h.1;simp at this ⊢;omega,fun k hk=>?_⟩⟩
  ·have:=h.2 0 (by simp);simp only [List.getElem_cons_zero] at this;generalize vs.getD 0 undef=v at this;cases this with
   | c _ _ F hF=>exact ⟨w,_,F,hF⟩
   | g xs us hl hr =>
    intro x hx;obtain ⟨k,hk,rfl⟩:=List.getElem_of_mem hx;obtain ⟨F,hF⟩:=hr k hk;exact ⟨w,_,F,hF⟩
  ·have:=h.2 (k+1) (by simpa using hk);simpa [List.getD_eq_getElem?_getD,Nat.add_comm] using this
theorem jao {P:Program} {f:FuncId} {fn:Func} {c:Code} {n:Nat} {vs:List ResultVar} {as:List RP} {r:Res} (hf:P.funcs[f]? = some fn) (h:FitL as->SK P [.code c] (St.enter n as) (jbc P vs r))
  (hb:fn.body=some c:=by exact rfl) (hn:fn.ntmps=n:=by exact rfl) (hvs:fn.results=⟨vs⟩:=by exact rfl)
  (hname : (fn.name == "runtime.NumGoroutine") = false := by kernel_rfl) (hle : Nat.ble as.length n = true := by exact rfl) (hnb : Nat.ble n 1000 = true := by exact rfl) : PC P f as r := by
 refine ⟨fun args W=>by simp only [beq_eq_false_iff_ne] at hname;simp [callFunc,hf,hname,hb],fun w us ok hus=>?_⟩;have hsz:us.toArray.size=us.length:=rfl;refine calls_of_wp hf hb ?_;rw [hn];refine Code.wp_mono ?_ ((h hus.fit).lv ⟨w,fun _=>False,fun _=>none,fun _ _=>rfl,ok,fun _ _ h=>h⟩ _ w ⟨_,_,Sm.enter ok hus (by simpa using hle) (by simpa using hnb)⟩);rintro e a' w' ⟨st',⟨ρ,Φ,hm⟩,hq⟩;have fin:jbc P vs r st'->bodyPost P fn (fun e w' => ∃ v F,e = .returned v/\OwR w' v r F/\F.Nodup/\(∀ g∈F,w.heap.size<=g)/\Below w.heap.size w w') .normal a' w':=fun hr=>by
  obtain ⟨v,F,h1,h2,h3,h4⟩:=hr.run hm hvs;exact ⟨hm.defers,v,h1,v,F,rfl,h2,h3,fun g hg=>(h4 g hg).elim id False.elim,⟨hm.below.os,hm.below.tape,hm.below.output,hm.below.size,fun k hk=>hm.below.block k fun h=>h.elim (fun h=>Nat.lt_irrefl _ (Nat.lt_of_lt_of_le hk h)) id⟩⟩
 cases e with
 | normal=>exact fin hq
 | ret=>exact fin (by rw [LV.ret] at hq;exact hq)
 | exit id=>exact (hq:False).elim
 | goto l=>exact (LV.bad trivial hq).elim
 | panic c=>exact (LV.bad trivial hq).elim
 | outgrown=>exact (LV.bad trivial hq).elim
end
section
variable [Glb]
open Go Go.RowKit Go.Deep
def VwD (W:World) (cs:List Value) (xs:List D):Prop:=cs.length=xs.length /\ ∀ k (hk:k < xs.length),∃ F,Vw W (cs.getD k undef) xs[k] F
theorem VwD.nil {W:World}:VwD W [] []:=⟨rfl,fun k hk=>by simp at hk⟩
theorem VwD.append {W:World} {as bs:List Value} {xs ys:List D} (h:VwD W as xs) (k:VwD W bs ys):VwD W (as++bs) (xs++ys):=by
 refine ⟨by simp [h.1,k.1],fun i hi=>?_⟩;by_cases hx:i < xs.length
 ·obtain ⟨F,hF⟩:=h.2 i hx;refine ⟨F,?_⟩;rw [List.getElem_append_left hx,getDL (by rw [h.1];exact hx)];exact hF
 ·have hy:i - xs.length < ys.length:=by simp at hi;omega
  obtain ⟨F,hF⟩:=k.2 (i - xs.length) hy;refine ⟨F,?_⟩;rw [List.getElem_append_right (by omega),getDR (by rw [h.1];omega),h.1];exact hF
theorem VwD.one {W:World} {v:Value} {x:D} {F:List Nat} (h:Vw W v x F):VwD W [v] [x]:=⟨rfl,fun k hk=>by
 have:k=0:=by simp at hk;omega
 subst this; exact ⟨F,h⟩⟩
def PR (P:Program) (T:TypeId) {α:Type} (ds:α->List D):Prop :=
 ∀ {H : Type} (enc : TypeId × Value -> H) (W : World) (fuel : Nat) (cs : List Value) (x : DataW H × List MemPlace),
  DataW.trod enc P W 0 (fun _=>true) true fuel T cs=some x -> ∃ y:α,VwD W cs (ds y)
section
variable {P:Program} {T E:TypeId}
theorem pr_int (hT:P.underlying T=some (.int .i64)):PR P T fun n:Int=>[.lit (.int .i64 n)]:=by
 intro H enc W fuel cs x h;obtain ⟨n,rfl,-,-⟩:=DataW.trod_int hT h;exact ⟨n,.one (.lit _ rfl)⟩
theorem pr_str (hT:P.underlying T=some .string):PR P T fun s:ByteArray=>[.lit (.string s)]:=by
 intro H enc W fuel cs x h;obtain ⟨n,rfl,-,wx⟩:=DataW.trod_string hT h;exact ⟨n,.one (.lit _ (by unfold maxLen at wx;simp [sc];omega))⟩
theorem flat_get {α:Type} {ds:α->List D} {n:Nat}:∀ {l:List α},(∀ a∈l,(ds a).length=n)->(l.flatMap ds).length=l.length*n /\
  ∀ i j (hi:i < l.length) (hj:j < n),(l.flatMap ds)[i*n+j]? = (ds l[i])[j]?
 | [],_=>⟨by simp,fun i j hi _=>by simp at hi⟩
 | a :: l,h=>by
  have ha:=h a (List.mem_cons_self ..);obtain ⟨h1,h2⟩:=flat_get (l:=l) fun x hx=>h x (List.mem_cons_of_mem _ hx);refine ⟨by simp only [List.flatMap_cons,List.length_append,List.length_cons,ha,h1,Nat.add_mul];omega,fun i j hi hj=>?_⟩;rw [List.flatMap_cons];cases i with
  | zero=>rw [Nat.zero_mul,Nat.zero_add,List.getElem?_append_left (by omega)];rfl
  | succ i =>
   rw [List.getElem?_append_right (by rw [ha,Nat.add_mul];omega),ha,show (i+1)*n+j - n=i*n+j by rw [Nat.add_mul];omega];exact h2 i j (by simpa using hi) hj
theorem pr_sl {α:Type} {ds:α->List D} (n:Nat) (hn:0 < n) (hT:P.underlying T=some (.slice E)) (hE:PR P E ds) (hc:P.cellsOf E=n):PR P T fun l:List α=>[.sl n l.length (l.flatMap ds)]:=by
 intro H enc W fuel cs x h;rcases open_slice hT h with ⟨rfl,_⟩|⟨a,len,cap,m,fu,D,Pl,rfl,_,hl,hm,hmm,rfl,hx⟩
 ·exact ⟨[],.one (F:=_) (.sl none 0 0 n _ (fun _=>undef) (fun _=>[]) (by simp) hn (by omega) (fun h=>absurd h (by omega)) (fun k hk=>by simp at hk) (fun k hk=>by simp at hk))⟩
 ·simp only [if_true] at hmm;rw [hc] at hx;have each:∀ i,∃ (y:Option α),i < len -> ∃ z ck,y=some z/\W.cells? 0 (a.add (i*n)) n=some ck/\VwD W ck (ds z):=by
   intro i;by_cases hi:i < len
   ·obtain ⟨ck,h1,h2⟩:=hx i (by omega);obtain ⟨y,hr⟩:=hE enc W fu ck _ h2;exact ⟨some y,fun _=>⟨y,ck,rfl,h1,hr⟩⟩
   ·exact ⟨none,fun h=>absurd h hi⟩
  obtain ⟨Y,hY⟩:=Classical.axiomOfChoice each;obtain ⟨l,hll,hlk⟩:∃ l:List α,l.length=len /\ ∀ i (hi:i < l.length),Y i=some l[i]:=by
   by_cases h0:len=0
   ·exact ⟨[],by rw [h0];rfl,fun i hi=>absurd hi (Nat.not_lt_zero i)⟩
   ·obtain ⟨z0,_⟩:=hY 0 (by omega);refine ⟨(List.range len).map fun i=>(Y i).getD z0,by simp,fun i hi=>?_⟩;obtain ⟨z,_,hz,_⟩:=hY i (by simpa using hi);simp [hz]
  subst hll;have key:∀ i (hi:i < l.length),∃ ck,W.cells? 0 (a.add (i*n)) n=some ck/\VwD W ck (ds l[i]):=fun i hi=>by
   obtain ⟨z,ck,hz,h1,h2⟩:=hY i hi;have:z=l[i]:=by rw [hlk i hi] at hz;exact (Option.some.inj hz).symm
   subst this;exact ⟨ck,h1,h2⟩
  have hlen:∀ z∈l,(ds z).length=n:=fun z hz=>by
   obtain ⟨i,hi,rfl⟩:=List.getElem_of_mem hz;obtain ⟨ck,h1,h2⟩:=key i hi;rw [<- h2.1];exact (World.cells?_some h1).2.1
  obtain ⟨f1,f2⟩:=flat_get hlen;have cell:∀ k,k < (l.flatMap ds).length -> ∃ (u:Value) (F:List Nat),W.cell? (a.add k)=some u /\ ∀ hk:k < (l.flatMap ds).length,Vw W u (l.flatMap ds)[k] F:=fun k hk=>by
   rw [f1] at hk;have hi:k / n < l.length:=Nat.div_lt_of_lt_mul (by rw [Nat.mul_comm];exact hk);have hj:k%n < n:=Nat.mod_lt _ hn;have e:k / n*n+k%n=k:=by rw [Nat.mul_comm];exact Nat.div_add_mod k n
   obtain ⟨ck,h1,h2⟩:=key _ hi;obtain ⟨_,hlen',hcc⟩:=World.cells?_some h1;have hjd:k%n < (ds l[k / n]).length:=by rw [hlen _ (List.getElem_mem _)];exact hj
   obtain ⟨F,hF⟩:=h2.2 _ hjd;have h3:=hcc (k%n) hj;have hadd:(a.add (k / n*n)).add (k%n)=a.add (k / n*n+k%n):=Addr.add_add _ _ _;rw [hadd,e,List.getElem?_eq_getElem (by omega)] at h3;refine ⟨_,F,h3,fun hk'=>?_⟩;have h4:=f2 _ _ hi hj;rw [e,List.getElem?_eq_getElem hk',List.getElem?_eq_getElem hjd] at h4;rw [Option.some.inj h4];rw [List.getD_eq_getElem?_getD,List.getElem?_eq_getElem (by omega)] at hF;exact hF
  obtain ⟨us,hus⟩:=jkz (n:=(l.flatMap ds).length) (p:=fun k u => ∃ F:List Nat,W.cell? (a.add k)=some u /\ ∀ hk:k < (l.flatMap ds).length,Vw W u (l.flatMap ds)[k] F) (fun k hk=>cell k hk);obtain ⟨Fs,hFs⟩:=jkz (n:=(l.flatMap ds).length) (p:=fun k F=>W.cell? (a.add k)=some (us k) /\ ∀ hk:k < (l.flatMap ds).length,Vw W (us k) (l.flatMap ds)[k] F) (fun k hk=>hus k hk);exact ⟨l,.one (F:=_) (.sl (some a) l.length cap n _ us Fs f1 hn ⟨by unfold maxLen at hm;omega,hl⟩ (fun _=>rfl) (fun k hk=>(hFs k hk).1) (fun k hk=>(hFs k hk).2 hk))⟩
theorem flat_one {α : Type} {d : α -> D} : ∀ y : List α, y.flatMap (fun x => [d x]) = y.map d
 | [] => rfl
 | a :: y=>by rw [List.flatMap_cons,flat_one y];rfl
theorem jnd {α:Type} {d:α->D} (hT:P.underlying T=some (.slice E)) (hE:PR P E fun x=>[d x]) (hc:P.cellsOf E=1):PR P T fun l:List α=>[.sl 1 l.length (l.map d)]:=by
 have this:PR P T fun l:List α=>[.sl 1 l.length (l.flatMap fun x=>[d x])]:=pr_sl 1 (by decide) hT hE hc;intro H enc W fuel cs x h;obtain ⟨y,hy⟩:=this enc W fuel cs x h;exact ⟨y,by simp only [flat_one] at hy;exact hy⟩
def offsT (P:Program):Nat->List TypeId->List (TypeId×Nat)
 | _,[]=>[]
 | o,T :: Ts=>(T,o) :: offsT P (o+P.cellsOf T) Ts
def sumT (P:Program):List TypeId->Nat
 | [] => 0
 | T :: Ts=>P.cellsOf T+sumT P Ts
def PRL (P:Program) (Ts:List TypeId) {α:Type} (ds:α->List D):Prop :=
 ∀ {H : Type} (enc : TypeId × Value -> H) (W : World) (fuel o : Nat) (fs : List Field) (cs : List Value) (x : List (DataW H × List MemPlace)),
  fs.map (fun f=>(f.type,f.offset))=offsT P o Ts->o+sumT P Ts<=cs.length->(fs.mapM fun f=>DataW.trod enc P W 0 (fun _=>true) true fuel f.type ((cs.drop f.offset).take (P.cellsOf f.type)))=some x ->
  ∃ y:α,VwD W ((cs.drop o).take (sumT P Ts)) (ds y)
theorem jfl:PRL P [] fun _:Unit=>[]:=by
 intro H enc W fuel o fs cs x _ _ _;exact ⟨(),by simp only [sumT,List.take_zero];exact .nil⟩
theorem jck {Ts:List TypeId} {α β:Type} {ds:α->List D} {es:β->List D} (h:PR P T ds) (t:PRL P Ts es):PRL P (T :: Ts) fun y:α×β=>ds y.1++es y.2:=by
 intro H enc W fuel o fs cs x hfs hle hx;cases fs with
 | nil=>simp [offsT] at hfs
 | cons f fs =>
  simp only [offsT,List.map_cons,List.cons.injEq,Prod.mk.injEq] at hfs;obtain ⟨⟨e1,e2⟩,e3⟩:=hfs;simp only [sumT] at hle ⊢;rw [List.mapM_cons] at hx;cases ha:DataW.trod enc P W 0 (fun _=>true) true fuel f.type ((cs.drop f.offset).take (P.cellsOf f.type)) with
  | none=>simp [ha] at hx
  | some y0 =>
   cases hb:(fs.mapM fun f=>DataW.trod enc P W 0 (fun _=>true) true fuel f.type ((cs.drop f.offset).take (P.cellsOf f.type))) with
   | none=>simp [ha,hb] at hx
   | some ys =>
    rw [e1,e2] at ha;obtain ⟨y,hy⟩:=h enc W fuel _ _ ha;obtain ⟨z,hz⟩:=t enc W fuel (o+P.cellsOf T) fs cs ys e3 (by omega) hb;refine ⟨(y,z),?_⟩;rw [List.take_add,List.drop_drop];exact hy.append hz
theorem jed {Ts:List TypeId} {α:Type} {ds:α->List D} {fs:Array Field} (h:PRL P Ts ds) (hT:P.underlying T=some (.struct fs)) (hf:fs.toList.map (fun f=>(f.type,f.offset))=offsT P 0 Ts) (hc:P.cellsOf T=sumT P Ts):PR P T ds:=by
 intro H enc W fuel cs x hx;cases fuel with
 | zero=>simp [DataW.trod] at hx
 | succ n =>
  unfold DataW.trod at hx;rw [hT] at hx;simp only at hx;split at hx
  ·rename_i hlen;obtain ⟨xs,hxs,-⟩:=Option.map_eq_some_iff.1 hx;obtain ⟨y,hy⟩:=h enc W n 0 fs.toList cs xs hf (by omega) hxs;refine ⟨y,?_⟩;rw [List.drop_zero,List.take_of_length_le (by omega)] at hy;exact hy
  ·cases hx
end
theorem VwD.c {W:World} {v:Value} {x:D} (h:VwD W [v] [x]):VwP W v (.c x):=by
 obtain ⟨F,hF⟩:=h.2 0 (by simp);exact .c v x F hF
theorem VwD.g {W:World} {cs:Array Value} {xs:List D} (h:VwD W cs.toList xs):VwP W (.agg cs) (.g xs):=by
 have:=VwP.g (w:=W) xs cs.toList h.1 h.2;simpa using this
theorem VwL.nil {w:World}:VwL w [] []:=⟨rfl,fun k hk=>by simp at hk⟩
theorem VwL.cons {w:World} {v:Value} {x:RP} {vs:List Value} {xs:List RP} (h:VwP w v x) (t:VwL w vs xs):VwL w (v :: vs) (x :: xs):=by
 refine ⟨by simp [t.1],fun k hk=>?_⟩;cases k with
 | zero=>simpa using h
 | succ k=>simpa using t.2 k (by simpa using hk)
theorem PC.law {P:Program} {f:FuncId} {as:List RP} {v:Value} (h:PC P f as (.p (.c (.lit v)))) {w:World} {vs:List Value} (ok:Glb.ok w) (hv:VwL w vs as) :
  Calls P f vs.toArray w fun e w'=>e = .returned v/\Below w.heap.size w w':=by
 refine (h.2 w vs ok hv).mono ?_;rintro e w' ⟨v',F,rfl,ho,-,-,hb⟩;cases ho with
 | p h=>cases h with
  | c h=>cases h with
   | lit _ _=>exact ⟨rfl,hb⟩
end
end Go.Proofs.YtbhbkbnlpackdaaGreatDoor
