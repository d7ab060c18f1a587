/- What the functions that FnExactRunScript and FnExactReplayLog and FnExactExecuteCommand reaches return: part of its proof. No condition beyond those of its theorems. -/
import Derived.WalkKit
import Derived.Test.YtbhbkbnlpackdaaGreatDoorKplainC
import Derived.Test.YtbhbkbnlpackdaaGreatDoorKplainA
set_option linter.unusedSectionVars false
set_option maxRecDepth 10000
set_option maxHeartbeats 4000000
set_option linter.unusedVariables false
set_option linter.unusedSimpArgs false
namespace Go.Proofs.YtbhbkbnlpackdaaGreatDoor
open Go.RowKit
section
open Go
def sum64 (l:List Int):Int:=l.foldl (fun s n=>IntKind.i64.wrap (s+n)) 0
theorem jov {l:List Int} {k:Nat} (h:k < l.length):sum64 (l.take (k+1))=IntKind.i64.wrap (sum64 (l.take k)+l[k]):=by
 unfold sum64;rw [List.take_succ_eq_append_getElem h,List.foldl_append];rfl
theorem rowF_atZ (f:Nat->Int) {m k:Nat} (h:k < m):atZ (rowF f m) (k:Int)=f k:=by
 rw [jby (by simpa using h)];simp [rowF]
end
def bitN (c e:Nat):Nat:=c / 2^e%2
def bitsM (n c:Nat):List Int:=rowF (fun i=>(bitN c (n - 1 - i):Int)) n
def playsF (n:Nat):List (List Int):=(List.range (2^n)).map (bitsM n)
@[simp] theorem bitsM_len (n c : Nat) : (bitsM n c).length = n := by simp [bitsM]
@[simp] theorem playsF_len (n : Nat) : (playsF n).length = 2 ^ n := by simp [playsF]
theorem jez (n c:Nat):bitsB (bitsM n c) n=true:=by
 simp only [bitsB,bitsM_len,decide_true,Bool.true_and,allB,List.all_eq_true];intro x hx;unfold bitsM rowF at hx;obtain ⟨i,_,rfl⟩:=List.mem_map.1 hx;exact jcx.2 ⟨by unfold bitN;omega,by unfold bitN;omega⟩
theorem plays_snoc (n c:Nat):(List.range (c+1)).map (bitsM n)=(List.range c).map (bitsM n)++[bitsM n c]:=by simp [List.range_succ]
theorem jhc (c e:Nat):(c:Int) / 2^e%2=(bitN c e:Int):=by
 unfold bitN;rw [Int.natCast_emod,Int.natCast_ediv,Int.natCast_pow];rfl
theorem allB_at {l:List Int} {lo hi:Int} (h:allB l lo hi=true) {i:Int} (h0:0<=i) (h1:i < l.length):lo<=atZ l i/\atZ l i<=hi:=by
 unfold allB at h;rw [List.all_eq_true] at h;obtain ⟨k,rfl⟩:=Int.eq_ofNat_of_zero_le h0;rw [jby Kf];exact jcx.1 (h (l[k]'Kf) (List.getElem_mem _))
section
open Go
def row4B (n:Int) (row:List Int):Bool:=(decide (row.length=4)&&allB row 0 n)&&decide (sum64 row=n)
def sizeB (x y:Int):Bool:=inB x 1 3&&inB y 1 3
def boxB (x y n:Int) (ll:List (List Int)):Bool:=((sizeB x y&&inB n 1 1000)&&decide ((ll.length:Int)=x*y))&&ll.all (row4B n)
theorem jct {x y:Int}:sizeB x y=true↔(1<=x/\x<=3)/\(1<=y/\y<=3):=by simp [sizeB,jcx]
theorem jds {x y:Int} (h:sizeB x y=true):1<=x*y/\x*y<=9:=by
 obtain ⟨⟨a,b⟩,c,d⟩:=jct.1 h;rcases (by omega:x=1∨x=2∨x=3) with rfl|rfl|rfl <;> rcases (by omega:y=1∨y=2∨y=3) with rfl|rfl|rfl <;> decide
theorem jjg {x y:Int} (h:sizeB x y=true):IntKind.i64.wrap (x*y)=x*y:=IntWalk.i64_in _ (by have:=jds h; omega)
theorem jfj {n:Int} {row:List Int} (h:row4B n row=true):row.length=4 /\ ∀ k (hk:k < row.length),0<=row[k]/\row[k]<=n:=by
 simp only [row4B,Bool.and_eq_true,decide_eq_true_eq,allB,List.all_eq_true] at h;exact ⟨h.1.1,fun k hk=>jcx.1 (h.1.2 _ (List.getElem_mem hk))⟩
theorem row4B_sum {n:Int} {row:List Int} (h:row4B n row=true):sum64 row=n:=by simp [row4B] at h; exact h.2
structure BoxOK (x y n : Int) (ll : List (List Int)) : Prop where
 x1 : 1 <= x
 x3 : x <= 3
 y1 : 1 <= y
 y3 : y <= 3
 n1 : 1 <= n
 n2:n<=1000
 len:(ll.length:Int)=x*y
 row:∀ q,(hq:q < ll.length)->row4B n ll[q]=true
theorem jbo {x y n:Int} {ll:List (List Int)} (h:boxB x y n ll=true):BoxOK x y n ll:=by
 simp only [boxB,Bool.and_eq_true,decide_eq_true_eq,List.all_eq_true] at h;obtain ⟨⟨⟨h1,h2⟩,h3⟩,h4⟩:=h;have a:=jct.1 h1;have b:=jcx.1 h2;exact ⟨a.1.1,a.1.2,a.2.1,a.2.2,b.1,b.2,h3,fun q hq=>h4 _ (List.getElem_mem hq)⟩
theorem jev {x y n:Int} {ll:List (List Int)} (h:boxB x y n ll=true) {q:Int} (h0:0<=q) (h8:q < x*y):(atZ ll q).length=4 /\ ∀ k:Int,0<=k->k < 4->0<=atZ (atZ ll q) k/\atZ (atZ ll q) k<=n:=by
 have hb:=jbo h;obtain ⟨i,rfl⟩:=Int.eq_ofNat_of_zero_le h0;have hi:i < ll.length:=by have:=hb.len;omega
 rw [jby hi];obtain ⟨h5,h6⟩:=jfj (hb.row i hi);refine ⟨h5,fun k hk0 hk8=>?_⟩;obtain ⟨j,rfl⟩:=Int.eq_ofNat_of_zero_le hk0;rw [jby Kf];exact h6 j Kf
theorem jno {i k X Y:Int} (h0:0<=i) (h1:i < X) (h2:0<=k) (h3:k < Y):0<=i*Y+k/\i*Y+k < X*Y/\0<=i*Y/\i*Y < X*Y:=by
 have hY:0<=Y:=by omega
 have a:0<=i*Y:=Int.mul_nonneg h0 hY;have b:(i+1)*Y<=X*Y:=Int.mul_le_mul_of_nonneg_right Kf hY;rw [Int.add_mul,Int.one_mul] at b;omega
theorem idx_ltN {i k X Y:Nat} (h1:i < X) (h3:k < Y):Y*i+k < Y*X:=by
 rw [Nat.mul_comm Y i,Nat.mul_comm Y X];have b:(i+1)*Y<=X*Y:=Nat.mul_le_mul_right _ Kf;rw [Nat.add_mul,Nat.one_mul] at b;omega
def boxF (f:Nat->Nat->Nat->Int) (y n:Nat):List (List Int):=(List.range n).map fun j=>rowF (f (j / y) (j%y)) 4
@[simp] theorem boxF_len (f : Nat -> Nat -> Nat -> Int) (y n : Nat) : (boxF f y n).length = n := by simp [boxF]
theorem jie (f:Nat->Nat->Nat->Int) (y:Nat) (i k:Nat) (h:k < y):boxF f y (y*i+(k+1))=boxF f y (y*i+k)++[rowF (f i k) 4]:=by
 have e1:(y*i+k) / y=i:=by rw [Nat.mul_comm,Nat.add_comm,Nat.add_mul_div_right _ _ Kf,Nat.div_eq_of_lt h,Nat.zero_add]
 have e2:(y*i+k)%y=k:=by rw [Nat.mul_comm,Nat.add_comm,Nat.add_mul_mod_self_right,Nat.mod_eq_of_lt h]
 simp [boxF,<- Nat.add_assoc,List.range_succ,e1,e2]
def atB (ll:List (List Int)) (Y i k p:Int):Int:=atZ (atZ ll (i*Y+k)) p
def at2 (ll:List (List Int)) (q k:Nat):Int:=atZ (atZ ll (q:Int)) (k:Int)
theorem jft {f:Nat->Bool} {n k:Nat} (h:k < n) (hf:f k=false):(List.range n).all f=false:=by
 rw [<- Bool.not_eq_true,List.all_eq_true];intro H;have:=H k (List.mem_range.2 h);rw [hf] at this;cases this
theorem jmv {f:Nat->Bool} {k:Nat}:(List.range (k+1)).all f=((List.range k).all f&&f k):=by simp [List.range_succ]
end
section
variable [Glb]
open Go
def riseAt (l:List Int) (lo hi:Int) (i:Nat):Bool:=inB (atZ l i) lo hi&&(decide (i=0) || decide (atZ l ((i:Int) - 1) < atZ l i))
def riseB (l:List Int) (lo hi:Int):Bool:=(List.range l.length).all fun i=>riseAt l lo hi i
theorem riseB_f {l:List Int} {lo hi:Int} {k:Nat} (h:k < l.length) (hf:riseAt l lo hi k=false):riseB l lo hi=false:=jft h hf
def ctxB (n:Int) (l:List Int):Bool:=decide (0 < l.length)&&riseB l 0 (n - 1)
def sceneB (ev:Int) (cc:List (List Int)) (ss:List Int):Bool:=inB ev 0 12&&(decide (cc.length<=10)&&(bitsB ss cc.length&&cc.all (ctxB ev)))
structure SceneOK (ev : Int) (cc : List (List Int)) (ss : List Int) : Prop where
 e0 : 0 <= ev
 e12:ev<=12
 c10:cc.length<=10
 sl:ss.length=cc.length
 sb:bitsB ss cc.length=true
 ctx:∀ q,(hq:q < cc.length)->ctxB ev cc[q]=true
theorem jbv {ev:Int} {cc:List (List Int)} {ss:List Int} (h:sceneB ev cc ss=true):SceneOK ev cc ss:=by
 simp only [sceneB,Bool.and_eq_true,decide_eq_true_eq,List.all_eq_true] at h;obtain ⟨h1,h2,h3,h4⟩:=h;have a:=jcx.1 h1;have:=jce h3;exact ⟨a.1,a.2,h2,by omega,h3,fun q hq=>h4 _ (List.getElem_mem hq)⟩
def hallB (bx by_ bwh:Int) (bll:List (List Int)) (pl:List Int) (ev:Int) (cc:List (List Int)) (ss nu:List Int) (co:Int):Bool :=
 boxB bx by_ bwh bll&&(bitsB pl (bx+by_)&&(sceneB ev cc ss&&(bitsB nu ev&&inB co 0 1000)))
def leastN (m:Int) (f:Nat->Int):Nat->Int
 | 0 => m
 | k+1=>min (leastN m f k) (f k)
def chanceF (Y X:Nat) (ll:List (List Int)) (pl:List Int) (j:Nat):Int:=atZ (atZ ll j) (2*atZ pl ((j / Y:Nat):Int)+atZ pl ((X:Int)+(j%Y:Nat)))
theorem rise_no {l:List Int} {lo hi:Int} {k:Nat} (hk:(k:Int) < l.length) (h:inB (atZ l k) lo hi=false∨((k:Int) > 0/\atZ l ((k:Int) - 1) ≥ atZ l k)):riseB l lo hi=false:=by
 refine riseB_f (k:=k) Kf ?_;unfold riseAt;rcases h with h | ⟨h1,h2⟩
 ·simp [h]
 ·have:¬ k=0:=by omega
  have h3:¬ atZ l ((k:Int) - 1) < atZ l k:=by omega
  simp [this,h3]
theorem jlz {l:List Int} {lo hi:Int} {k:Nat} (ha:(List.range k).all (riseAt l lo hi)=true) (h:inB (atZ l k) lo hi=true) (h2:¬ (k:Int) > 0 ∨ ¬ atZ l ((k:Int) - 1) ≥ atZ l k):(List.range (k+1)).all (riseAt l lo hi)=true:=by
 rw [jmv,ha,Bool.true_and];unfold riseAt;rcases h2 with h2 | h2
 ·have:k=0:=by omega
  simp [h,this];subst this; simpa using h
 ·have h3:atZ l ((k:Int) - 1) < atZ l k:=by omega
  simp [h,h3]
structure HallOK (bx by_ bwh : Int) (bll : List (List Int)) (pl : List Int) (ev : Int) (cc : List (List Int)) (ss nu : List Int) (co : Int) : Prop where
 box:boxB bx by_ bwh bll=true
 pl:bitsB pl (bx+by_)=true
 sc:sceneB ev cc ss=true
 nu:bitsB nu ev=true
 co:inB co 0 1000=true
theorem jdu {bx by_ bwh:Int} {bll:List (List Int)} {pl:List Int} {ev:Int} {cc:List (List Int)} {ss nu:List Int} {co:Int} (h:hallB bx by_ bwh bll pl ev cc ss nu co=true):HallOK bx by_ bwh bll pl ev cc ss nu co:=by
 simp only [hallB,Bool.and_eq_true] at h;exact ⟨h.1,h.2.1,h.2.2.1,h.2.2.2.1,h.2.2.2.2⟩
theorem chance_at {X Y:Nat} {ll:List (List Int)} {pl:List Int} {i k:Nat} (hk:k < Y):chanceF Y X ll pl (Y*i+k)=atB ll Y i k (2*atZ pl i+atZ pl ((X:Int)+k)):=by
 have e1:(Y*i+k) / Y=i:=by rw [Nat.mul_comm,Nat.add_comm,Nat.add_mul_div_right _ _ Kf,Nat.div_eq_of_lt hk,Nat.zero_add]
 have e2:(Y*i+k)%Y=k:=by rw [Nat.mul_comm,Nat.add_comm,Nat.add_mul_mod_self_right,Nat.mod_eq_of_lt hk]
 unfold chanceF atB;rw [e1,e2,Int.natCast_add,Int.natCast_mul,Int.mul_comm]
theorem jls {X Y:Nat} (ll:List (List Int)) (pl:List Int) {i:Nat} (hY:1<=Y) (hi:i < Y*X) :
  ∃ a m:Nat,(i:Int) / Y=a/\(i:Int)%Y=m/\a < X/\m < Y/\chanceF Y X ll pl i=atZ (atZ ll i) (2*atZ pl a+atZ pl ((X:Int)+m)) :=
 ⟨i / Y,i%Y,by simp,by simp,Nat.div_lt_of_lt_mul hi,Nat.mod_lt _ hY,rfl⟩
def valD (t:Tx):Nat:=t.foldl (fun n c=>10*n+(c.toNat - 48)) 0
theorem jmh (t:Tx) (c:UInt8):valD (t++[c])=10*valD t+(c.toNat - 48):=by simp [valD,List.foldl_append]
theorem dig_nat {d:Nat} (h:d < 10):(UInt8.ofNat (48+d)).toNat=48+d:=by
 rw [UInt8.toNat_ofNat'];omega
theorem valD_num:∀ n:Nat,valD (numT n)=n:=by
 intro n;induction n using Nat.strongRecOn with
 | ind n ih =>
  rw [jgz];by_cases h:n < 10
  ·rw [if_pos h];have:=jmh [] (UInt8.ofNat (48+n));rw [List.nil_append] at this;rw [this,dig_nat h];show 10*0+_=_;omega
  ·rw [if_neg h,jmh,ih (n / 10) Kf,dig_nat Kf];omega
def txtZ (n:Int):Tx:=if n < 0 then 45 :: numT (-n).toNat else numT n.toNat
theorem numT_ne (n:Nat):numT n≠[]:=fun h=>by
 have l:n+1 < 10^(n+1):=Nat.lt_pow_self Kf;have:=(jgi n n Kf).1;rw [h] at this; simp at this
theorem numT_head {n:Nat} {c:UInt8} {t:Tx} (h:numT n=c :: t):c≠45:=fun e=>by
 have:=jjv n c (by rw [h];exact List.mem_cons_self ..);rw [e] at this;exact absurd this.1 Ybr
def magT (s:Tx):Tx:=if 1 < s.length/\s.head? = some 45 then s.drop 1 else s
def digsB (t:Tx):Bool:=t.all fun c=>decide (48<=c.toNat/\c.toNat<=57)
def candZ (s:Tx):Int:=if 1 < s.length/\s.head? = some 45 then -(valD (magT s):Int) else (valD (magT s):Int)
def readB (s:Tx):Bool:=(decide (1<=(magT s).length/\(magT s).length<=6)&&digsB (magT s))&&decide (txtZ (candZ s)=s)
theorem read_of {n:Int} (h : -999999<=n/\n<=999999):candZ (txtZ n)=n/\readB (txtZ n)=true:=by
 have lenN:∀ m:Nat,m<=999999->1<=(numT m).length/\(numT m).length<=6:=fun m hm=>jgi 5 m Kf;have digs:∀ m:Nat,digsB (numT m)=true:=fun m=>by
  unfold digsB;rw [List.all_eq_true];exact fun c hc=>decide_eq_true (jjv m c hc)
 by_cases hn:n < 0
 ·have e:txtZ n=45 :: numT (-n).toNat:=if_pos hn;have l:=lenN (-n).toNat Kf;have c:1 < (txtZ n).length/\(txtZ n).head? = some 45:=by rw [e];simp;omega
  have m:magT (txtZ n)=numT (-n).toNat:=by unfold magT;rw [if_pos c,e];rfl
  have cz:candZ (txtZ n)=n:=by unfold candZ;rw [if_pos c,m,valD_num];omega
  refine ⟨cz,?_⟩;unfold readB;rw [m,cz,digs];simp; omega
 ·have e:txtZ n=numT n.toNat:=if_neg hn;have l:=lenN n.toNat Kf;have c:¬ (1 < (txtZ n).length/\(txtZ n).head? = some 45):=fun h=>by
   rw [e] at h;cases hh:numT n.toNat with
   | nil=>rw [hh] at h;simp at h
   | cons c t=>rw [hh] at h;exact numT_head hh (by simpa using h.2)
  have m:magT (txtZ n)=numT n.toNat:=by unfold magT;rw [if_neg c,e]
  have cz:candZ (txtZ n)=n:=by unfold candZ;rw [if_neg c,m,valD_num];omega
  refine ⟨cz,?_⟩;unfold readB;rw [m,cz,digs];simp; omega
theorem digs_fold : ∀ {t : Tx} {n : Nat}, digsB t = true -> t.foldl (fun n c => 10 * n + (c.toNat - 48)) n < (n + 1) * 10 ^ t.length
 | [],n,_=>by simp
 | c :: t,n,h=>by
  unfold digsB at h;rw [List.all_cons,Bool.and_eq_true,decide_eq_true_eq] at h;have ih:=digs_fold (t:=t) (n:=10*n+(c.toNat - 48)) h.2;rw [List.foldl_cons,List.length_cons,Nat.pow_succ];refine Nat.lt_of_lt_of_le ih ?_;have:10*n+(c.toNat - 48)+1<=(n+1)*10:=by omega
  calc (10 * n + (c.toNat - 48) + 1) * 10 ^ t.length <= (n + 1) * 10 * 10 ^ t.length := Nat.mul_le_mul_right _ this
   _=(n+1)*(10^t.length*10):=by rw [Nat.mul_assoc,Nat.mul_comm 10]
theorem digs_lt {t:Tx} (h:digsB t=true):valD t < 10^t.length:=by
 have:=digs_fold (n:=0) h;rwa [Nat.zero_add,Nat.one_mul] at this
theorem read_iff (s:Tx):readB s=true ↔ ∃ n:Int,(-999999<=n/\n<=999999)/\txtZ n=s:=by
 constructor
 ·intro h;simp only [readB,Bool.and_eq_true,decide_eq_true_eq] at h;obtain ⟨⟨h1,h2⟩,h3⟩:=h;refine ⟨candZ s,?_,h3⟩;have b:=digs_lt h2;have:10^(magT s).length<=10^6:=Nat.pow_le_pow_right Kf h1.2;unfold candZ;split <;> omega
 ·rintro ⟨n,hn,rfl⟩;exact (read_of hn).2
end
section
open Go
def accN (s:Nat->Nat) (v:Nat->Int):Nat->Nat->Int
 | 0, _ => 0
 | m+1,p=>accN s v m p+if s m=p then v m else 0
def pairB (x y n:Int) (ll:List (List Int)):Bool:=boxB x y n ll&&(decide (x=2)&&decide (y=2))
def agrZ (row:List Int):Int:=atZ row 0 - atZ row 1 - atZ row 2+atZ row 3
end
section
variable [Glb]
open Go
def joinT (b:UInt8):List Tx->Tx
 | [] => []
 | [x] => x
 | x :: y :: r=>x++b :: joinT b (y :: r)
theorem jhi (b:UInt8) (x:Tx) {r:List Tx} (h:r≠[]):joinT b (x :: r)=x++b :: joinT b r:=by
 cases r with
 | nil=>exact absurd rfl h
 | cons y r=>rfl
theorem jkw (b:UInt8) (x:Tx):∀ {l:List Tx},l≠[]->joinT b (l++[x])=joinT b l++[b]++x
 | [],h=>absurd rfl h
 | [y],_=>by simp [joinT]
 | y :: z :: r,_=>by
  have ih:=jkw b x (l:=z :: r) Yby
  rw [List.cons_append,jhi b y Yby,ih,jhi b y Yby];simp
theorem jic (b:UInt8) {m:Nat}:∀ {l:List Tx},(∀ x∈l,x.length<=m)->(joinT b l).length<=(m+1)*l.length
 | [],_=>by simp [joinT]
 | x :: r,h=>by
  have hx:=h x (List.mem_cons_self ..);have ih:=jic b (m:=m) (l:=r) fun y hy=>h y (List.mem_cons_of_mem _ hy);rw [List.length_cons,Nat.mul_add,Nat.mul_one];by_cases hr:r=[]
  ·subst hr;simp [joinT];omega
  ·rw [jhi b x hr,List.length_append,List.length_cons];omega
theorem jew {n:Int} (h : -999999<=n/\n<=999999):1<=(txtZ n).length/\(txtZ n).length<=7:=by
 have lenN:∀ m:Nat,m<=999999->1<=(numT m).length/\(numT m).length<=6:=fun m hm=>jgi 5 m Kf;unfold txtZ;split
 ·have:=lenN (-n).toNat Kf;simp;omega
 ·have:=lenN n.toNat Kf;omega
theorem txtZ_nat (n:Nat):txtZ (n:Int)=numT n:=by unfold txtZ; rw [if_neg Kf]; rfl
def noneT:Tx:=[110,111,110,101]
def yesT:Tx:=[121,101,115]
def noT:Tx:=[110,111]
def qT:Tx:=[63]
def joinN (l:List Int):Tx:=joinT 32 (l.map txtZ)
def sayL (l:List Int):Tx:=if l=[] then noneT else joinN l
def sayB (b:Bool):Tx:=if b=true then yesT else noT
def jgh (l:List Int):Prop := ∀ n∈l,-999999<=n/\n<=999999
theorem jgh.at {l:List Int} (h:jgh l) {k:Nat} (hk:k < l.length) : -999999<=atZ l (k:Int)/\atZ l (k:Int)<=999999:=by
 rw [jby hk];exact h _ (List.getElem_mem hk)
theorem joinN_nil:joinN []=[]:=rfl
theorem joinN_ne {l:List Int} (h:l≠[]):joinN l≠[]:=by
 cases l with
 | nil=>exact absurd rfl h
 | cons a r =>
  have:txtZ a≠[]:=by
   unfold txtZ; split
   ·simp
   ·exact numT_ne _
  unfold joinN;rw [List.map_cons];by_cases hr:r=[]
  ·subst hr; exact this
  ·rw [jhi 32 _ (by simpa using hr)];simp
def rowT (r:List Int):Tx:=joinT 44 (r.map txtZ)
def boxT (x y:Int) (ll:List (List Int)):Tx:=joinT 32 (txtZ x :: txtZ y :: ll.map rowT)
theorem boxT_zero (x y:Int) (ll:List (List Int)):boxT x y (ll.take 0)=txtZ x++[32]++txtZ y:=by simp [boxT,joinT]
theorem boxT_snoc (x y:Int) {ll:List (List Int)} {k:Nat} (hk:k < ll.length):boxT x y (ll.take (k+1))=boxT x y (ll.take k)++[32]++rowT (atZ ll (k:Int)):=by
 unfold boxT;rw [List.take_succ_eq_append_getElem hk,List.map_append,List.map_singleton,jby hk,<- List.cons_append,<- List.cons_append,jkw _ _ Yby]
theorem rowT_len {r:List Int} (h:r.length=4) (hs:jgh r):(rowT r).length<=32:=by
 have:=jic 44 (m:=7) (l:=r.map txtZ) fun x hx=>by
  obtain ⟨n,hn,rfl⟩:=List.mem_map.1 hx;exact (jew (hs n hn)).2
 rw [List.length_map,h] at this;exact this
def numsO:List Tx->Option (List Int)
 | []=>some []
 | w :: r=>if readB w=true then (numsO r).map (candZ w :: ·) else none
theorem numsO_len:∀ {l:List Tx} {ns:List Int},numsO l=some ns->ns.length=l.length
 | [],ns,h=>by simp [numsO] at h;subst h;rfl
 | w :: r,ns,h=>by
  unfold numsO at h;split at h
  ·cases e:numsO r with
   | none=>rw [e] at h;simp at h
   | some m =>
    rw [e] at h;simp at h; subst h;simp [numsO_len e]
  ·cases h
def readK (ws:List Tx) (k:Nat):Prop := ∀ j:Nat,j < k->readB (atZ ws (j:Int))=true
def candL (ws:List Tx) (k:Nat):List Int:=(List.range k).map fun j:Nat=>candZ (atZ ws (j:Int))
@[simp] theorem candL_len (ws : List Tx) (k : Nat) : (candL ws k).length = k := by simp [candL]
theorem candL_snoc (ws:List Tx) (k:Nat):candL ws (k+1)=candL ws k++[candZ (atZ ws (k:Int))]:=by simp [candL,List.range_succ]
theorem at_tail (w:Tx) (r:List Tx) (j:Nat):atZ (w :: r) ((j+1:Nat):Int)=atZ r (j:Int):=by
 unfold atZ;rw [Int.toNat_natCast,Int.toNat_natCast];simp
theorem at_head (w:Tx) (r:List Tx):atZ (w :: r) ((0:Nat):Int)=w:=by simp [atZ]
theorem numsO_all:∀ {ws:List Tx},readK ws ws.length->numsO ws=some (candL ws ws.length)
 | [],_=>rfl
 | w :: r,h=>by
  have h0:=h 0 Yby
  rw [at_head] at h0;have ih:=numsO_all (ws:=r) fun j hj=>by
   have:=h (j+1) Ybw;rwa [at_tail] at this
  unfold numsO;rw [if_pos h0,ih];show some (candZ w :: candL r r.length)=_;congr 1;unfold candL;rw [List.length_cons,List.range_succ_eq_map,List.map_cons,List.map_map,at_head];congr 1
theorem numsO_no:∀ {ws:List Tx} {k:Nat},k < ws.length->readB (atZ ws (k:Int))=false->numsO ws=none
 | [],k,h,_=>by simp at h
 | w :: r,0,_,h=>by
  rw [at_head] at h;unfold numsO;rw [h];simp
 | w :: r,k+1,hk,h=>by
  rw [at_tail] at h;have ih:=numsO_no (ws:=r) (k:=k) (by simpa using hk) h;unfold numsO;rw [ih];split <;> rfl
end
section
open Go
def cntL (n:Nat):List Int:=(List.range n).map fun i:Nat=>(i:Int)
@[simp] theorem cntL_len (n : Nat) : (cntL n).length = n := by simp [cntL]
theorem jml {l:List Int} {m:Int} (hl:l.length<=1000) (hb:allB l 0 m=true) (hm:0<=m) (hm2:m<=1000000):sum64 l=l.sum/\0<=l.sum/\l.sum<=l.length*m:=by
 have key:∀ (l:List Int) (s:Int),0<=s->(∀ x∈l,0<=x/\x<=m)->s+l.length*m<=1000000000000->l.foldl (fun s n=>IntKind.i64.wrap (s+n)) s=s+l.sum/\0<=l.sum/\l.sum<=l.length*m:=by
  intro l;induction l with
  | nil=>intro s _ _ _;simp
  | cons x l ih =>
   intro s h0 hx hs;have h1:=hx x (List.mem_cons_self ..);simp only [List.length_cons,Int.natCast_add,Int.add_mul] at hs ⊢;have h2:0<=(l.length:Int)*m:=Int.mul_nonneg Kf hm;obtain ⟨e1,e2,e3⟩:=ih (s+x) Kf (fun y hy=>hx y (List.mem_cons_of_mem _ hy)) (by simp at hs;omega);rw [List.foldl_cons,IntWalk.i64_in _ (by simp at hs;omega),e1,List.sum_cons];simp at hs ⊢; omega
 unfold allB at hb;rw [List.all_eq_true] at hb;have hlm:(l.length:Int)*m<=1000*1000000:=Int.mul_le_mul Kf hm2 hm Kf;have:=key l 0 Kf (fun x hx=>jcx.1 (hb x hx)) Kf;unfold sum64; omega
theorem jfm {α:Type} [Inhabited α] {l:List α} {i:Nat} (h:i < l.length):atZ l (i:Int)∈l:=by rw [jby h]; exact List.getElem_mem _
def whenA {α:Type} (b:Bool) (l:List α):List α:=if b=true then l else []
def xor4 (k:Nat) (m:Int):Int:=((k^^^m.toNat:Nat):Int)
theorem xor4_eq {k:Nat} {m:Int} (hk:k < 4) (h0:0<=m) (h4:m < 4):bits .xor .i64 (k:Int) m=xor4 k m/\0<=xor4 k m/\xor4 k m < 4:=by
 rcases (by omega:k=0∨k=1∨k=2∨k=3) with rfl|rfl|rfl|rfl <;> rcases (by omega:m=0∨m=1∨m=2∨m=3) with rfl|rfl|rfl|rfl <;> exact ⟨rfl,by decide,by decide⟩
def flipOf (fl:List Int) (X x y:Int):Int:=2*atZ fl x+atZ fl (X+y)
def askR (X Y:Int) (wi:List (List Int)) (fl:List Int) (x y:Int):List Int:=rowF (fun k=>atZ (atZ wi (x*Y+y)) (xor4 k (flipOf fl X x y))) 4
@[simp] theorem askR_len (X Y : Int) (wi : List (List Int)) (fl : List Int) (x y : Int) : (askR X Y wi fl x y).length = 4 := by simp [askR]
end
section
variable [Glb]
open Go
structure RuleOK (f : List Int) (a s : List (List Int)) : Prop where
 fl:f.length=2
 al:a.length=2
 sl:s.length=2
 fb:∀ i:Int,0<=i->i < 2->0<=atZ f i/\atZ f i<=1
 ab:∀ i:Int,0<=i->i < 2->bitsB (atZ a i) 2=true
 sb:∀ i:Int,0<=i->i < 2->bitsB (atZ s i) 4=true
theorem RuleOK.say {f:List Int} {a s:List (List Int)} (h:RuleOK f a s) {x i:Int} (x0:0<=x) (x1:x < 2) (i0:0<=i) (i1:i < 4):(atZ s x).length=4/\0<=atZ (atZ s x) i/\atZ (atZ s x) i<=1:=by
 have hb:=h.sb x x0 x1;have hl:=jce hb;exact ⟨by omega,jdd hb i0 i1⟩
def accT (t:Nat->Int):Nat->Int
 | 0 => 0
 | m+1=>accT t m+t m
section
variable (la lb:List (List Int)) (f1:List Int) (a1 s1:List (List Int)) (f2:List Int) (a2 s2:List (List Int))
end
theorem box4 {X Y n:Int} {ll:List (List Int)} (h:boxB X Y n ll=true) {q:Int} (h0:0<=q) (h1:q < X*Y):atZ (atZ ll q) 0+atZ (atZ ll q) 1+atZ (atZ ll q) 2+atZ (atZ ll q) 3=n:=by
 have hb:=jbo h;obtain ⟨i,rfl⟩:=Int.eq_ofNat_of_zero_le h0;have hi:i < ll.length:=by have:=hb.len;omega
 rw [jby hi];have hr:=hb.row i hi;have hs:=row4B_sum hr;have hl:=(jfj hr).1;have hn:=hb.n2;have ha:allB ll[i] 0 n=true:=by simp only [row4B,Bool.and_eq_true] at hr;exact hr.1.2
 rw [(jml (l:=ll[i]) (m:=n) Kf ha (by have:=hb.n1;omega) Kf).1] at hs;generalize ll[i]=r at hs hl;match r,hl with
 | [a,b,c,d],_=>simp [atZ] at hs ⊢;omega
theorem rowF4_sum (f:Nat->Int) (h:∀ p,p < 4->0<=f p/\f p<=1000000):sum64 (rowF f 4)=f 0+f 1+f 2+f 3:=by
 have h0:=h 0 Kf;have h1:=h 1 Kf;have h2:=h 2 Kf;have h3:=h 3 Kf;have ha:allB (rowF f 4) 0 1000000=true:=by
  unfold allB;rw [List.all_eq_true];intro x hx;unfold rowF at hx;obtain ⟨p,hp,rfl⟩:=List.mem_map.1 hx;exact jcx.2 (h p (List.mem_range.1 hp))
 rw [(jml (l:=rowF f 4) (m:=1000000) Yby ha Kf Kf).1];simp [rowF,List.range,List.range.loop];omega
theorem jly {x y:Nat} {n:Int} {f:Nat->Nat->Nat->Int} (hx:1<=x/\x<=3) (hy:1<=y/\y<=3) (h0:1<=n) (h1:n<=1000000) (hf:∀ i k,i < x->k < y->(∀ p,p < 4->0<=f i k p)/\f i k 0+f i k 1+f i k 2+f i k 3=n) :
  boxB x y n (boxF f y (y*x))=decide (n<=1000):=by
 have hs:sizeB x y=true:=jct.2 ⟨⟨by omega,by omega⟩,by omega,by omega⟩;have hl:((boxF f y (y*x)).length:Int)=(x:Int)*y:=by rw [boxF_len,Int.natCast_mul,Int.mul_comm]
 have hr:(boxF f y (y*x)).all (row4B n)=true:=by
  rw [List.all_eq_true];intro r hr;unfold boxF at hr;obtain ⟨j,hj,rfl⟩:=List.mem_map.1 hr;have hj:=List.mem_range.1 hj;have hi:j / y < x:=Nat.div_lt_of_lt_mul hj;have hk:j%y < y:=Nat.mod_lt _ Kf;obtain ⟨a,b⟩:=hf _ _ hi hk;generalize f (j / y) (j%y)=g at a b;have a0:=a 0 Kf;have a1:=a 1 Kf;have a2:=a 2 Kf;have a3:=a 3 Kf;have bd:∀ p,p < 4->0<=g p/\g p<=n:=fun p hp=>by rcases (by omega:p=0∨p=1∨p=2∨p=3) with rfl|rfl|rfl|rfl <;> omega
  have hsum:=rowF4_sum g fun p hp=>by have:=bd p hp;omega
  simp only [row4B,rowF_len,decide_true,Bool.true_and,Bool.and_eq_true,decide_eq_true_eq,hsum,allB,List.all_eq_true];refine ⟨fun m hm=>?_,b⟩;unfold rowF at hm;obtain ⟨p,hp,rfl⟩:=List.mem_map.1 hm;exact jcx.2 (bd p (List.mem_range.1 hp))
 simp only [boxB,hs,hl,hr,decide_true,Bool.and_true,Bool.true_and,inB];simp; omega
section
variable {la lb:List (List Int)} {f1:List Int} {a1 s1:List (List Int)} {f2:List Int} {a2 s2:List (List Int)} {na nb:Int}
end
section
variable {la lb:List (List Int)} {f1:List Int} {a1 s1:List (List Int)} {f2:List Int} {a2 s2:List (List Int)} {na nb:Int}
end
def wireM (W:Nat->Nat->Nat->Nat->Int) (j0 m:Nat):List (List Int):=(List.range 4).map fun j=>rowF (W (j / 2) (j%2) (if j < j0 then 16 else if j=j0 then m else 0)) 4
@[simp] theorem wireM_len (W : Nat -> Nat -> Nat -> Nat -> Int) (j0 m : Nat) : (wireM W j0 m).length = 4 := by simp [wireM]
def zerosL (n:Nat):List Int:=List.replicate n 0
@[simp] theorem zerosL_len (n : Nat) : (zerosL n).length = n := by simp [zerosL]
theorem rowF_self {l:List Int} (h:l.length=4):rowF (fun k:Nat=>atZ l (k:Int)) 4=l:=by
 refine List.ext_getElem (by simp [h]) fun i h1 h2=>?_;simp [rowF,jby h2]
def newB (bx by_ bwh:Int) (bll:List (List Int)) (ev:Int) (cc:List (List Int)) (ss:List Int):Bool:=boxB bx by_ bwh bll&&sceneB ev cc ss
structure NewOK (bx by_ bwh : Int) (bll : List (List Int)) (ev : Int) (cc : List (List Int)) (ss : List Int) : Prop where
 x1 : 1 <= bx
 x3 : bx <= 3
 y1:1<=by_
 y3:by_<=3
 e0 : 0 <= ev
 e12:ev<=12
 bl:bll.length<=9
 br:∀ r∈bll,r.length<=1000000
 cl:cc.length<=10
 cr:∀ r∈cc,r.length<=1000000
 cb:∀ r∈cc,allB r 0 1000=true
 sl:ss.length<=10
theorem jmt {l:List Int} {lo hi:Int} (h:riseB l lo hi=true):∀ i:Nat,i < l.length->lo+i<=atZ l i/\atZ l i<=hi:=by
 intro i;induction i with
 | zero =>
  intro hi;unfold riseB at h;rw [List.all_eq_true] at h;have:=h 0 (List.mem_range.2 hi);simp only [riseAt,Bool.and_eq_true] at this;have:=jcx.1 this.1;simp at this ⊢; omega
 | succ i ih =>
  intro hi;have a:=ih Kf;unfold riseB at h;rw [List.all_eq_true] at h;have b:=h (i+1) (List.mem_range.2 hi);simp only [riseAt,Bool.and_eq_true,Bool.or_eq_true,decide_eq_true_eq] at b;have c:=jcx.1 b.1;rcases b.2 with e | e
  ·omega
  ·rw [show ((i+1:Nat):Int) - 1=(i:Int) by omega] at e;omega
theorem jhq {n:Int} {l:List Int} (hn:n<=1000) (h:ctxB n l=true):l.length<=1000/\allB l 0 1000=true:=by
 simp only [ctxB,Bool.and_eq_true] at h;have hr:=jmt h.2;constructor
 ·rcases Nat.eq_zero_or_pos l.length with e|e
  ·omega
  ·have:=hr (l.length - 1) Kf;omega
 ·unfold allB;rw [List.all_eq_true];intro x hx;obtain ⟨i,hi,rfl⟩:=List.getElem_of_mem hx;have:=hr i hi;rw [jby hi] at this;exact jcx.2 Kf
theorem newB_spec {bx by_ bwh:Int} {bll:List (List Int)} {ev:Int} {cc:List (List Int)} {ss:List Int} (h:newB bx by_ bwh bll ev cc ss=true):NewOK bx by_ bwh bll ev cc ss:=by
 simp only [newB,Bool.and_eq_true] at h;have b:=jbo h.1;have s:=jbv h.2;have m:=jds (jct.2 ⟨⟨b.x1,b.x3⟩,b.y1,b.y3⟩);have hl:=b.len;have c:∀ r∈cc,r.length<=1000/\allB r 0 1000=true:=fun r hr=>by
  obtain ⟨i,hi,rfl⟩:=List.getElem_of_mem hr;exact jhq (by have:=s.e12;omega) (s.ctx i hi)
 refine ⟨b.x1,b.x3,b.y1,b.y3,s.e0,s.e12,by omega,fun r hr=>?_,s.c10,fun r hr=>by have:=(c r hr).1;omega,fun r hr=>(c r hr).2,by have:=s.sl;have:=s.c10;omega⟩;obtain ⟨i,hi,rfl⟩:=List.getElem_of_mem hr;have:=(jfj (b.row i hi)).1;omega
theorem jku:∀ {cc:List (List Int)} {n m:Nat},cc.length<=n->(∀ r∈cc,r.length<=m)->cnt cc<=n*m
 | [],_,_,_,_=>by simp [cnt]
 | r :: cc,0,_,h,_=>by simp at h
 | r :: cc,n+1,m,h,h2=>by
  have a:=jku (n:=n) (m:=m) (cc:=cc) (by simpa using h) fun x hx=>h2 x (List.mem_cons_of_mem _ hx);have b:=h2 r (List.mem_cons_self ..);simp only [cnt,Nat.succ_mul];omega
structure HallBd (bll : List (List Int)) (pl : List Int) (cc : List (List Int)) (ss nu : List Int) : Prop where
 bl:bll.length<=9
 br:∀ r∈bll,r.length<=1000000
 cl:cc.length<=10
 cr:∀ r∈cc,r.length<=1000000
 cb:∀ r∈cc,allB r 0 1000=true
 sl:ss.length<=10
 pl6:pl.length<=6
 nl:nu.length<=12
theorem jgk {bx by_ bwh:Int} {bll:List (List Int)} {pl:List Int} {ev:Int} {cc:List (List Int)} {ss nu:List Int} {co:Int} (h:hallB bx by_ bwh bll pl ev cc ss nu co=true):HallBd bll pl cc ss nu:=by
 have hH:=jdu h;have hN:=newB_spec (bx:=bx) (by_:=by_) (bwh:=bwh) (bll:=bll) (ev:=ev) (cc:=cc) (ss:=ss) (by simp [newB,hH.box,hH.sc]);have a:=jce hH.pl;have b:=jce hH.nu;have x3:=hN.x3;have y3:=hN.y3;have e12:=hN.e12;exact ⟨hN.bl,hN.br,hN.cl,hN.cr,hN.cb,hN.sl,by omega,by omega⟩
theorem jfq {x y:Nat} {n:Int} {ll:List (List Int)} (h:boxB x y n ll=true) {i k:Nat} (hi:i < x) (hk:k < y):(∀ p:Nat,p < 4->0<=atB ll y i k p/\atB ll y i k p<=n)/\atB ll y i k ((0:Nat):Int)+atB ll y i k ((1:Nat):Int)+atB ll y i k ((2:Nat):Int)+atB ll y i k ((3:Nat):Int)=n:=by
 have ix:=jno (i:=(i:Int)) (k:=(k:Int)) (X:=x) (Y:=y) Kf Kf Kf Kf;exact ⟨fun p hp=>(jev h ix.1 ix.2.1).2 p Kf Kf,by have:=box4 h ix.1 ix.2.1;unfold atB;simpa using this⟩
theorem jgg {X Y n:Int} {ll:List (List Int)} (h:boxB X Y n ll=true):∃ x y:Nat,X=x/\Y=y/\(1<=x/\x<=3)/\(1<=y/\y<=3):=by
 have b:=jbo h;have a1:=b.x1;have a2:=b.x3;have a3:=b.y1;have a4:=b.y3;exact ⟨X.toNat,Y.toNat,by omega,by omega,by omega,by omega⟩
def bmixF (la lb:List (List Int)) (Y:Nat) (i k p:Nat):Int:=atB la Y i k p+atB lb Y i k p
def bmixL (la lb:List (List Int)) (X Y:Int):List (List Int):=boxF (bmixF la lb Y.toNat) Y.toNat (Y.toNat*X.toNat)
def sameB (x y n:Int) (la:List (List Int)) (x2 y2 m:Int) (lb:List (List Int)):Bool:=boxB x y n la&&(boxB x2 y2 m lb&&(decide (x=x2)&&decide (y=y2)))
def bmixB (x y n:Int) (la:List (List Int)) (x2 y2 m:Int) (lb:List (List Int)):Bool:=sameB x y n la x2 y2 m lb&&decide (n+m<=1000)
theorem joy {x y n:Int} {la:List (List Int)} {x2 y2 m:Int} {lb:List (List Int)} (h:sameB x y n la x2 y2 m lb=true):boxB x y n la=true/\boxB x y m lb=true/\x2=x/\y2=y:=by
 simp only [sameB,Bool.and_eq_true,decide_eq_true_eq] at h;obtain ⟨h1,h2,rfl,rfl⟩:=h;exact ⟨h1,h2,rfl,rfl⟩
theorem mix_box {x y:Nat} {n m:Int} {la lb:List (List Int)} (ha:boxB x y n la=true) (hb:boxB x y m lb=true):boxB x y (n+m) (bmixL la lb x y)=decide (n+m<=1000):=by
 have a:=jbo ha;have b:=jbo hb;have a1:=a.x1;have a2:=a.x3;have a3:=a.y1;have a4:=a.y3;have a5:=a.n1;have a6:=a.n2;have b5:=b.n1;have b6:=b.n2;unfold bmixL;simp only [Int.toNat_natCast];refine jly Kf Kf Kf Kf fun i k hi hk=>?_;obtain ⟨a7,a8⟩:=jfq ha hi hk;obtain ⟨b7,b8⟩:=jfq hb hi hk;exact ⟨fun p hp=>by have:=a7 p hp;have:=b7 p hp;unfold bmixF;omega,by unfold bmixF;omega⟩
def playF (pl:List Int) (X:Nat) (wh:Int) (i k p:Nat):Int:=if atZ pl i=((p / 2:Nat):Int)/\atZ pl ((X:Int)+k)=((p%2:Nat):Int) then wh else 0
def playL (pl:List Int) (X Y wh:Int):List (List Int):=boxF (playF pl X.toNat wh) Y.toNat (Y.toNat*X.toNat)
def playB (x y:Int) (pl:List Int) (wh:Int):Bool:=sizeB x y&&(bitsB pl (x+y)&&inB wh 1 1000)
def swapF (ll:List (List Int)) (Y:Nat) (i k p:Nat):Int:=atB ll Y k i ((2*(p%2)+p / 2:Nat):Int)
def swapL (ll:List (List Int)) (X Y:Int):List (List Int):=boxF (swapF ll Y.toNat) X.toNat (X.toNat*Y.toNat)
def bflF (ll:List (List Int)) (X Y:Nat) (fl:List Int) (i k p:Nat):Int:=atB ll Y i k (xor4 p (flipOf fl X i k))
def bflL (ll:List (List Int)) (X Y:Int) (fl:List Int):List (List Int):=boxF (bflF ll X.toNat Y.toNat fl) Y.toNat (Y.toNat*X.toNat)
def gcdI (a b:Int):Int:=((Nat.gcd a.toNat b.toNat:Nat):Int)
def gcdR (d:Int) (row:List Int):Int:=row.foldl gcdI d
def gcdL (d:Int) (ll:List (List Int)):Int:=ll.foldl gcdR d
theorem gcdI_pos {a b:Int} (ha:1<=a):1<=gcdI a b/\gcdI a b<=a:=by
 have h1:0 < Nat.gcd a.toNat b.toNat:=Nat.gcd_pos_of_pos_left _ Kf;have h2:Nat.gcd a.toNat b.toNat<=a.toNat:=Nat.gcd_le_left _ Kf;unfold gcdI; omega
theorem jmd:∀ {row:List Int} {d:Int},1<=d->1<=gcdR d row/\gcdR d row<=d
 | [],d,h=>⟨h,Int.le_refl _⟩
 | x :: row,d,h=>by
  have a:=gcdI_pos (b:=x) h;have b:=jmd (row:=row) a.1;unfold gcdR at *;rw [List.foldl_cons];omega
theorem jkb:∀ {ll:List (List Int)} {d:Int},1<=d->1<=gcdL d ll/\gcdL d ll<=d
 | [],d,h=>⟨h,Int.le_refl _⟩
 | x :: ll,d,h=>by
  have a:=jmd (row:=x) h;have b:=jkb (ll:=ll) a.1;unfold gcdL at *;rw [List.foldl_cons];omega
theorem gcdR_snoc {row:List Int} {d:Int} {k:Nat} (h:k < row.length):gcdR d (row.take (k+1))=gcdI (gcdR d (row.take k)) (atZ row k):=by
 unfold gcdR;rw [List.take_succ_eq_append_getElem h,List.foldl_append,jby h];rfl
theorem gcdL_snoc {ll:List (List Int)} {d:Int} {k:Nat} (h:k < ll.length):gcdL d (ll.take (k+1))=gcdR (gcdL d (ll.take k)) (atZ ll k):=by
 unfold gcdL;rw [List.take_succ_eq_append_getElem h,List.foldl_append,jby h];rfl
theorem gcd_step {a b:Int} (ha:0<=a) (hb:1<=b):gcdI b (a%b)=gcdI a b:=by
 have h0:=Int.emod_nonneg a (show b≠0 by omega);have e:(a%b).toNat=a.toNat%b.toNat:=by
  have h1:=Int.toNat_of_nonneg ha;have h2:=Int.toNat_of_nonneg (show 0<=b by omega);have:(a%b)=((a.toNat%b.toNat:Nat):Int):=by rw [Int.natCast_emod,h1,h2]
  omega
 unfold gcdI;rw [e,Nat.gcd_comm a.toNat b.toNat,Nat.gcd_rec b.toNat a.toNat,Nat.gcd_comm]
theorem gcd_zero {a:Int} (ha:0<=a):gcdI a 0=a:=by
 unfold gcdI; simp; omega
def redF (ll:List (List Int)) (Y:Nat) (d:Int) (i k p:Nat):Int:=atB ll Y i k p / d
def redL (ll:List (List Int)) (X Y:Int) (d:Int):List (List Int):=boxF (redF ll Y.toNat d) Y.toNat (Y.toNat*X.toNat)
def evF (cc:List (List Int)) (ss:List Int) (e:Int) (i:Nat):Int:=if (atZ cc (i:Int)).contains e=true then 1 - atZ ss i else atZ ss i
def evL (cc:List (List Int)) (ss:List Int) (e:Int):List Int:=rowF (evF cc ss e) ss.length
theorem xor_pair {p:Nat} {f g:Int} (hp:p < 4) (hf:0<=f/\f<=1) (hg:0<=g/\g<=1):((0<=bits .xor .i64 ((p / 2:Nat):Int) f/\bits .xor .i64 ((p / 2:Nat):Int) f<=1)/\0<=bits .xor .i64 ((p%2:Nat):Int) g/\bits .xor .i64 ((p%2:Nat):Int) g<=1) /\
  2*bits .xor .i64 ((p / 2:Nat):Int) f+bits .xor .i64 ((p%2:Nat):Int) g=xor4 p (2*f+g):=by
 rcases (by omega:p=0∨p=1∨p=2∨p=3) with rfl|rfl|rfl|rfl <;> rcases (by omega:f=0∨f=1) with rfl|rfl <;> rcases (by omega:g=0∨g=1) with rfl|rfl <;> exact ⟨by decide,rfl⟩
def evM (cc:List (List Int)) (ss:List Int) (e:Int) (k:Nat):List Int:=rowF (fun j=>if j < k then evF cc ss e j else atZ ss (j:Int)) ss.length
theorem evM_zero (cc:List (List Int)) (ss:List Int) (e:Int):evM cc ss e 0=ss:=by
 apply List.ext_getElem
 ·simp [evM]
 ·intro i h1 h2;simp [evM,rowF,jby h2]
theorem evM_all (cc:List (List Int)) (ss:List Int) (e:Int):evM cc ss e ss.length=evL cc ss e:=by
 unfold evM evL;exact jii fun k hk=>if_pos hk
@[simp] theorem evM_len (cc : List (List Int)) (ss : List Int) (e : Int) (k : Nat) : (evM cc ss e k).length = ss.length := by simp [evM]
@[simp] theorem evL_len (cc : List (List Int)) (ss : List Int) (e : Int) : (evL cc ss e).length = ss.length := by simp [evL]
theorem evM_at (cc:List (List Int)) (ss:List Int) (e:Int) {k:Nat} (h:k < ss.length):atZ (evM cc ss e k) (k:Int)=atZ ss (k:Int):=by
 rw [jby (by simpa using h)];simp [evM,rowF]
theorem evM_hit {cc:List (List Int)} {ss:List Int} {e:Int} {k:Nat} (h:k < ss.length) (hc:(atZ cc (k:Int)).contains e=true):(evM cc ss e k).set k (1 - atZ ss (k:Int))=evM cc ss e (k+1):=by
 apply List.ext_getElem
 ·simp
 ·intro i h1 h2;rw [List.getElem_set];simp only [evM,rowF,List.getElem_map,List.getElem_range];by_cases hi:k=i
  ·subst hi;rw [if_pos rfl,if_pos Kf,evF,if_pos hc]
  ·rw [if_neg hi];by_cases h3:i < k
   ·rw [if_pos h3,if_pos Kf]
   ·rw [if_neg h3,if_neg Kf]
theorem evM_miss {cc:List (List Int)} {ss:List Int} {e:Int} {k:Nat} (hc:¬ (atZ cc (k:Int)).contains e=true):evM cc ss e k=evM cc ss e (k+1):=by
 unfold evM;refine jii fun i hi=>?_;by_cases h3:i < k
 ·rw [if_pos h3,if_pos Kf]
 ·rw [if_neg h3];by_cases h4:i=k
  ·subst h4;rw [if_pos Kf,evF,if_neg hc]
  ·rw [if_neg Kf]
theorem emod_bd0 {x n:Int} (hx:0<=x) (hn:0 < n):0<=x%n/\x%n < n/\x%n<=x:=by
 refine ⟨Int.emod_nonneg _ Kf,Int.emod_lt_of_pos _ Kf,?_⟩;have h1:=Int.emod_add_mul_ediv x n;have h2:0<=n*(x / n):=Int.mul_nonneg Kf (Int.ediv_nonneg hx Kf);omega
structure HD where
 bx : Int
 by_ : Int
 bwh : Int
 bll:List (List Int)
 pl:List Int
 ev : Int
 cc:List (List Int)
 ss:List Int
 nu:List Int
 co : Int
structure HV (h : HD) : Prop where
 box:boxB h.bx h.by_ h.bwh h.bll=true
 pl:bitsB h.pl (h.bx+h.by_)=true
 sc:sceneB h.ev h.cc h.ss=true
 nu:bitsB h.nu h.ev=true
def oneL (n:Nat) (a:Int):List Int:=(List.replicate n (0:Int)).set a.toNat 1
@[simp] theorem oneL_len (n : Nat) (a : Int) : (oneL n a).length = n := by simp [oneL]
theorem oneL_bits (n:Nat) (a:Int):bitsB (oneL n a) n=true:=by
 simp only [bitsB,oneL_len,decide_true,Bool.true_and,allB,List.all_eq_true];intro x hx;unfold oneL at hx;rcases List.mem_or_eq_of_mem_set hx with h|h
 ·have:=List.eq_of_mem_replicate h;subst this;decide
 ·subst h; decide
theorem xor_one {v:Int} (h:0<=v/\v<=1):bits .xor .i64 v 1=1 - v:=by
 rcases (by omega:v=0∨v=1) with rfl|rfl <;> rfl
def mixOK (h:HD) (a:Int):Bool:=playB h.bx h.by_ h.pl a&&bmixB h.bx h.by_ h.bwh h.bll h.bx h.by_ a (playL h.pl h.bx h.by_ a)
def callT (h:HD) (k a:Int):Option HD :=
 if k=1 then if mixOK h a=true then some { h with bwh:=h.bwh+a,bll:=bmixL h.bll (playL h.pl h.bx h.by_ a) h.bx h.by_ } else none
 else if k=2 then if inB a 0 (h.pl.length - 1)=true then some { h with pl:=h.pl.set a.toNat (1 - atZ h.pl a) } else none
 else if k=3 then if inB a 0 (h.pl.length - 1)=true then some { h with bll:=bflL h.bll h.bx h.by_ (oneL h.pl.length a) } else none
 else if k=4 then if a=0 then some { h with bx:=h.by_,by_:=h.bx,bll:=swapL h.bll h.bx h.by_,pl:=partZ h.pl h.bx h.pl.length++partZ h.pl 0 h.bx } else none
 else if k=5 then if a=0 then some { h with bwh:=h.bwh / gcdL h.bwh h.bll,bll:=redL h.bll h.bx h.by_ (gcdL h.bwh h.bll) } else none
 else if k=6 then if inB a 0 (h.nu.length - 1)=true then some { h with nu:=h.nu.set a.toNat (1 - atZ h.nu a) } else none
 else if k=7 then if inB a 0 (h.ev - 1)=true then some { h with ss:=evL h.cc h.ss a } else none
 else none
def rowsF (g:Nat->Nat->Int) (n:Nat):List (List Int):=(List.range n).map fun j=>rowF (g j) 4
@[simp] theorem rowsF_len (g : Nat -> Nat -> Int) (n : Nat) : (rowsF g n).length = n := by simp [rowsF]
theorem joz (g:Nat->Nat->Int) (n:Nat):rowsF g (n+1)=rowsF g n++[rowF (g n) 4]:=by simp [rowsF,List.range_succ]
theorem boxF_rows {f:Nat->Nat->Nat->Int} {g:Nat->Nat->Int} {y n:Nat} (h:∀ j p,j < n->p < 4->f (j / y) (j%y) p=g j p):boxF f y n=rowsF g n:=by
 unfold boxF rowsF;exact List.map_congr_left fun j hj=>jii fun p hp=>h j p (List.mem_range.1 hj) hp
theorem atB_row (ll:List (List Int)) (y j:Nat) (p:Int):atB ll y ((j / y:Nat):Int) ((j%y:Nat):Int) p=atZ (atZ ll (j:Int)) p:=by
 unfold atB;have:((j / y:Nat):Int)*(y:Int)+((j%y:Nat):Int)=(j:Int):=by
  have:=Nat.div_add_mod j y;rw [<- Int.natCast_mul,<- Int.natCast_add,Nat.mul_comm,this]
 rw [this]
def mixR (la lb:List (List Int)) (j p:Nat):Int:=atZ (atZ la (j:Int)) (p:Int)+atZ (atZ lb (j:Int)) (p:Int)
theorem bmixL_rows {x y:Nat} (la lb:List (List Int)):bmixL la lb x y=rowsF (mixR la lb) (y*x):=by
 unfold bmixL;simp only [Int.toNat_natCast];exact boxF_rows fun j p _ _=>by unfold bmixF mixR;rw [atB_row,atB_row]
def redR (ll:List (List Int)) (d:Int) (j p:Nat):Int:=atZ (atZ ll (j:Int)) (p:Int) / d
theorem redL_rows {x y:Nat} (ll:List (List Int)) (d:Int):redL ll x y d=rowsF (redR ll d) (y*x):=by
 unfold redL;simp only [Int.toNat_natCast];exact boxF_rows fun j p _ _=>by unfold redF redR;rw [atB_row]
def flM (row:List Int) (m:Int) (k:Nat):List Int:=rowF (fun j=>if (xor4 j m).toNat < k then atZ row (xor4 j m) else 0) 4
@[simp] theorem flM_len (row : List Int) (m : Int) (k : Nat) : (flM row m k).length = 4 := by simp [flM]
theorem flM_zero (row:List Int) (m:Int):flM row m 0=List.replicate 4 0:=by simp [flM,rowF,List.range,List.range.loop]
theorem flM_set {row:List Int} {m:Int} {k:Nat} (hm:0<=m/\m < 4) (hk:k < 4):(flM row m k).set (xor4 k m).toNat (atZ row k)=flM row m (k+1):=by
 rcases (by omega:k=0∨k=1∨k=2∨k=3) with rfl|rfl|rfl|rfl <;> rcases (by omega:m=0∨m=1∨m=2∨m=3) with rfl|rfl|rfl|rfl <;> rfl
theorem flM_all (row:List Int) {m:Int} (hm:0<=m/\m < 4):flM row m 4=rowF (fun j=>atZ row (xor4 j m)) 4:=by
 unfold flM;refine jii fun j hj=>if_pos ?_;have:=(xor4_eq hj hm.1 hm.2).2;omega
theorem play_row {f g wh:Int} (hf:0<=f/\f<=1) (hg:0<=g/\g<=1):(List.replicate 4 (0:Int)).set (2*f+g).toNat wh=rowF (fun p=>if f=((p / 2:Nat):Int)/\g=((p%2:Nat):Int) then wh else 0) 4:=by
 rcases (by omega:f=0∨f=1) with rfl|rfl <;> rcases (by omega:g=0∨g=1) with rfl|rfl <;> simp [rowF,List.range,List.range.loop]
def zeroH:HD:=⟨0,0,0,[],[],0,[],[],[],0⟩
def nextT (h:HD) (k a:Int):HD×Bool:=match callT h k a with
 | some r=>if hallB r.bx r.by_ r.bwh r.bll r.pl r.ev r.cc r.ss r.nu (h.co+1)=true then ({ r with co:=h.co+1 },true) else (zeroH,false)
 | none=>(zeroH,false)
def nextH (h:HD) (k a:Int):HD×Bool:=if hallB h.bx h.by_ h.bwh h.bll h.pl h.ev h.cc h.ss h.nu h.co=true then nextT h k a else (zeroH,false)
theorem callT_co (h:HD) (c k a:Int):callT { h with co:=c } k a=(callT h k a).map fun r=>{ r with co:=c }:=by
 simp only [callT,apply_ite (Option.map _),Option.map_some,Option.map_none];rfl
structure NextOK (r : HD) (ok : Bool) : Prop where
 val:ok=true->hallB r.bx r.by_ r.bwh r.bll r.pl r.ev r.cc r.ss r.nu r.co=true
 zero:ok=false->r=zeroH
theorem nextT_ok (h:HD) (k a:Int):NextOK (nextT h k a).1 (nextT h k a).2:=by
 unfold nextT;cases callT h k a with
 | none=>exact ⟨fun h=>by simp at h,fun _=>rfl⟩
 | some r =>
  simp only;by_cases hB:hallB r.bx r.by_ r.bwh r.bll r.pl r.ev r.cc r.ss r.nu (h.co+1)=true
  ·rw [if_pos hB];exact ⟨fun _=>hB,fun h=>by simp at h⟩
  ·rw [if_neg hB];exact ⟨fun h=>by simp at h,fun _=>rfl⟩
theorem hallB_cnt {bx by_ bwh:Int} {bll:List (List Int)} {pl:List Int} {ev:Int} {cc:List (List Int)} {ss nu:List Int} {co:Int} (h:hallB bx by_ bwh bll pl ev cc ss nu co=true) :
  cnt bll<=9000/\pl.length<=6/\cnt cc<=10000/\ss.length<=10/\nu.length<=12/\bll.length<=9/\cc.length<=10:=by
 have d:=jgk h;have hH:=jdu h;have s:=jbv hH.sc;have b:=jbo hH.box;refine ⟨jku (m:=1000) d.bl fun r hr=>?_,d.pl6,jku (m:=1000) d.cl fun r hr=>?_,d.sl,d.nl,d.bl,d.cl⟩
 ·obtain ⟨i,hi,rfl⟩:=List.getElem_of_mem hr;have:=(jfj (b.row i hi)).1;omega
 ·obtain ⟨i,hi,rfl⟩:=List.getElem_of_mem hr;exact (jhq (by have:=s.e12;omega) (s.ctx i hi)).1
theorem next_cnt {bx by_ bwh:Int} {bll:List (List Int)} {pl:List Int} {ev:Int} {cc:List (List Int)} {ss nu:List Int} {co:Int} {ok:Bool} (h:NextOK ⟨bx,by_,bwh,bll,pl,ev,cc,ss,nu,co⟩ ok) :
  cnt bll<=9000/\pl.length<=6/\cnt cc<=10000/\ss.length<=10/\nu.length<=12/\bll.length<=9/\cc.length<=10:=by
 cases ok with
 | true=>exact hallB_cnt (h.val rfl)
 | false =>
  have:=h.zero rfl;simp only [zeroH,HD.mk.injEq] at this;obtain ⟨-,-,-,rfl,rfl,-,rfl,rfl,rfl,-⟩:=this;simp [cnt]
theorem hallB_hv {bx by_ bwh:Int} {bll:List (List Int)} {pl:List Int} {ev:Int} {cc:List (List Int)} {ss nu:List Int} {co:Int} (h:hallB bx by_ bwh bll pl ev cc ss nu co=true) (c:Int):HV ⟨bx,by_,bwh,bll,pl,ev,cc,ss,nu,c⟩ :=
 have hH:=jdu h
 ⟨hH.box,hH.pl,hH.sc,hH.nu⟩
end
section
variable [Glb]
open Go Go.RowKit
section
variable {α:Type} {c:α->List D} {n:Nat}
theorem flatL_len (hc:∀ a,(c a).length=n):∀ l:List α,(l.flatMap c).length=l.length*n
 | []=>by simp
 | a :: l=>by rw [List.flatMap_cons,List.length_append,hc,flatL_len hc l,List.length_cons,Nat.add_mul];omega
theorem flatL_split (hc:∀ a,(c a).length=n) {l:List α} {j:Nat} (h:j < l.length):l.flatMap c=(l.take j).flatMap c++(c l[j]++(l.drop (j+1)).flatMap c)/\((l.take j).flatMap c).length=j*n:=by
 refine ⟨?_,by rw [flatL_len hc,List.length_take];congr 1;omega⟩;conv=>lhs;rw [<- List.take_append_drop j l,List.drop_eq_getElem_cons h]
 simp only [List.flatMap_append,List.flatMap_cons]
theorem flatL_cut (hc:∀ a,(c a).length=n) {l:List α} {j:Nat} {e:α} (h:l[j]? = some e):((l.flatMap c).drop (j*n)).take n=c e:=by
 obtain ⟨hlt,rfl⟩:=List.getElem?_eq_some_iff.1 h;obtain ⟨h1,h2⟩:=flatL_split hc hlt;rw [h1,<- h2,List.drop_left,<- hc l[j],List.take_left]
end
def mkS {α:Type} (m:Int->α->α) (w:α->Nat):Int->List α->List α
 | _,[]=>[]
 | k,r :: l=>m k r :: mkS m w (k+w r) l
section
variable {α:Type} {m:Int->α->α} {w:α->Nat}
@[simp] theorem mkS_len : ∀ (k : Int) (l : List α), (mkS m w k l).length = l.length
 | _,[]=>rfl
 | k,r :: l=>by simp [mkS,mkS_len]
end
abbrev RuleE:=List Int×List (List Int)×List (List Int)×Unit
end
section
variable [Glb]
open Go
def hallV (h:HD):Bool:=hallB h.bx h.by_ h.bwh h.bll h.pl h.ev h.cc h.ss h.nu h.co
theorem nextH_T {h:HD} (hb:hallV h=true) (k a:Int):nextH h k a=nextT h k a:=if_pos hb
theorem flip_box {x y:Nat} {n:Int} {ll:List (List Int)} {fl:List Int} (hb:boxB x y n ll=true) (hf:bitsB fl ((x:Int)+y)=true):boxB x y n (bflL ll x y fl)=true:=by
 have b:=jbo hb;have a1:=b.x1;have a2:=b.x3;have a3:=b.y1;have a4:=b.y3;have a5:=b.n1;have a6:=b.n2;unfold bflL;simp only [Int.toNat_natCast];rw [jly Kf Kf Kf Kf,decide_eq_true Kf];intro i k hi hk;obtain ⟨b7,b8⟩:=jfq hb hi hk;have f1:=jdd hf (i:=(i:Int)) Kf Kf;have f2:=jdd hf (i:=(x:Int)+k) Kf Kf;have hm:0<=flipOf fl x i k/\flipOf fl x i k < 4:=by unfold flipOf;omega
 unfold bflF;generalize flipOf fl (x:Int) (i:Int) (k:Int)=m at *;refine ⟨fun p hp=>?_,?_⟩
 ·have x4:=xor4_eq hp hm.1 hm.2;obtain ⟨t,ht⟩:=Int.eq_ofNat_of_zero_le x4.2.1;rw [ht] at x4 ⊢;exact (b7 t Kf).1
 ·have e:∀ p:Nat,xor4 p m=((p^^^m.toNat:Nat):Int):=fun p=>rfl;rw [e,e,e,e];rcases (by omega:m=0∨m=1∨m=2∨m=3) with rfl|rfl|rfl|rfl
  ·simpa using b8
  ·have c:((0^^^(1:Int).toNat:Nat):Int)=((1:Nat):Int)/\((1^^^(1:Int).toNat:Nat):Int)=((0:Nat):Int)/\((2^^^(1:Int).toNat:Nat):Int)=((3:Nat):Int)/\((3^^^(1:Int).toNat:Nat):Int)=((2:Nat):Int):=by decide
   rw [c.1,c.2.1,c.2.2.1,c.2.2.2];omega
  ·have c:((0^^^(2:Int).toNat:Nat):Int)=((2:Nat):Int)/\((1^^^(2:Int).toNat:Nat):Int)=((3:Nat):Int)/\((2^^^(2:Int).toNat:Nat):Int)=((0:Nat):Int)/\((3^^^(2:Int).toNat:Nat):Int)=((1:Nat):Int):=by decide
   rw [c.1,c.2.1,c.2.2.1,c.2.2.2];omega
  ·have c:((0^^^(3:Int).toNat:Nat):Int)=((3:Nat):Int)/\((1^^^(3:Int).toNat:Nat):Int)=((2:Nat):Int)/\((2^^^(3:Int).toNat:Nat):Int)=((1:Nat):Int)/\((3^^^(3:Int).toNat:Nat):Int)=((0:Nat):Int):=by decide
   rw [c.1,c.2.1,c.2.2.1,c.2.2.2];omega
def oddR (n i:Nat):List Int:=if i+1=n then [0,1,1,0] else [1,0,0,1]
def oddL (n i:Nat):List (List Int):=(List.range i).map (oddR n)
@[simp] theorem oddL_len (n i : Nat) : (oddL n i).length = i := by simp [oddL]
theorem box_len9 {x y n:Int} {ll:List (List Int)} (h:boxB x y n ll=true):ll.length<=9:=by
 have b:=jbo h;have:=jds (jct.2 ⟨⟨b.x1,b.x3⟩,b.y1,b.y3⟩);have:=b.len;omega
def pop11 (m:Nat):Nat:=m%2+m / 2%2+m / 4%2+m / 8%2+m / 16%2+m / 32%2+m / 64%2+m / 128%2+m / 256%2+m / 512%2+m / 1024%2
def pop (n:Nat):Nat:=n%2+pop11 (n / 2)
def maskK (l:List Int):Nat->Nat
 | 0 => 0
 | k+1=>maskK l k ||| 2^(atZ l (k:Int)).toNat
def setK (nu:List Int):Nat->Nat
 | 0 => 0
 | k+1=>setK nu k ||| (atZ nu (k:Int)).toNat*2^k
theorem or12 {a b:Nat} (ha:a < 4096) (hb:b < 4096):a ||| b < 4096:=Nat.or_lt_two_pow (n:=12) ha hb
theorem pow12 {e:Nat} (h:e < 12):2^e < 4096:=Nat.pow_lt_pow_right Kf h
theorem jgj {l:List Int}:∀ {k:Nat},(∀ j:Nat,j < k->0<=atZ l (j:Int)/\atZ l (j:Int) < 12)->maskK l k < 4096
 | 0,_=>by simp [maskK]
 | k+1,h=>by
  have:=h k Kf;exact or12 (jgj fun j hj=>h j Kf) (pow12 Kf)
theorem setK_lt {nu:List Int}:∀ {k:Nat},k<=12->(∀ j:Nat,j < k->0<=atZ nu (j:Int)/\atZ nu (j:Int)<=1)->setK nu k < 4096
 | 0,_,_=>by simp [setK]
 | k+1,hk,h=>by
  have hb:=h k Kf;refine or12 (setK_lt Kf fun j hj=>h j Kf) ?_;rcases (by omega:atZ nu (k:Int)=0∨atZ nu (k:Int)=1) with e|e <;> rw [e]
  ·simp
  ·have:=pow12 (e:=k) Kf;simpa using this
def keepB (cc:List (List Int)) (ss nu:List Int) (i:Nat):Bool:=decide (((pop (maskK (atZ cc (i:Int)) (atZ cc (i:Int)).length &&& setK nu nu.length):Nat):Int)%2=atZ ss (i:Int))
def keptK (cc:List (List Int)) (ss nu:List Int) (k:Nat):List Int:=((List.range k).filter (keepB cc ss nu)).map fun i:Nat=>(i:Int)
theorem jkv (cc:List (List Int)) (ss nu:List Int) (k:Nat):keptK cc ss nu (k+1)=if keepB cc ss nu k=true then keptK cc ss nu k++[(k:Int)] else keptK cc ss nu k:=by
 unfold keptK;rw [List.range_succ,List.filter_append,List.map_append];by_cases h:keepB cc ss nu k=true
 ·simp [List.filter,h]
 ·simp [List.filter,h]
theorem jfn (cc:List (List Int)) (ss nu:List Int) (k:Nat):(keptK cc ss nu k).length<=k:=by
 unfold keptK;rw [List.length_map];exact Nat.le_trans (List.length_filter_le _ _) Yby
def bitB1 (n i:Nat):Nat:=(n.testBit i).toNat
theorem bitB1_eq (n i:Nat):bitB1 n i=n / 2^i%2:=by unfold bitB1; exact Nat.toNat_testBit n i
def popK (n:Nat):Nat->Nat
 | 0 => 0
 | k+1=>popK n k+bitB1 n k
theorem pop_popK (n:Nat):pop n=popK n 12:=by
 simp only [popK,bitB1_eq,pop,pop11];simp only [Nat.div_div_eq_div_mul,Nat.reducePow,Nat.reduceMul,Nat.div_one];omega
theorem popK_set {x y e:Nat} (h0:x.testBit e=false) (h:∀ i,i≠e->y.testBit i=x.testBit i):∀ k,popK y k=popK x k+if e < k then bitB1 y e else 0
 | 0=>by simp [popK]
 | k+1=>by
  have ih:=popK_set h0 h k;simp only [popK];by_cases hk:k=e
  ·subst hk;rw [ih,if_neg Kf,if_pos Kf];have:bitB1 x k=0:=by unfold bitB1;rw [h0];rfl
   omega
  ·have:bitB1 y k=bitB1 x k:=by unfold bitB1;rw [h k hk]
   rw [ih,this];by_cases h1:e < k
   ·rw [if_pos h1,if_pos Kf];omega
   ·rw [if_neg h1,if_neg Kf];omega
theorem setK_bit {nu:List Int}:∀ {k:Nat},(∀ j:Nat,j < k->0<=atZ nu (j:Int)/\atZ nu (j:Int)<=1) -> ∀ i,(setK nu k).testBit i=(decide (i < k)&&decide (atZ nu (i:Int)=1))
 | 0,_,i=>by simp [setK]
 | k+1,h,i=>by
  have ih:=setK_bit (nu:=nu) (k:=k) (fun j hj=>h j Kf) i;have hb:=h k Kf;show (setK nu k ||| (atZ nu (k:Int)).toNat*2^k).testBit i=_;rw [Nat.testBit_or,ih];have t:((atZ nu (k:Int)).toNat*2^k).testBit i=(decide (i=k)&&decide (atZ nu (i:Int)=1)):=by
   rcases (by omega:atZ nu (k:Int)=0∨atZ nu (k:Int)=1) with e|e
   ·rw [e];by_cases hi:i=k
    ·subst hi;rw [e];simp
    ·simp [hi]
   ·rw [e];show (1*2^k).testBit i=_;rw [Nat.one_mul,Nat.testBit_two_pow];by_cases hi:k=i
    ·subst hi;rw [e];simp
    ·have hi2:¬ i=k:=fun h=>hi h.symm;simp [hi,hi2]
  rw [t];by_cases h1:i < k
  ·simp [h1,show i < k+1 by omega,show ¬ i=k by omega]
  ·by_cases h2:i=k
   ·simp [h1,h2]
   ·simp [h1,h2,show ¬ i < k+1 by omega]
theorem maskK_tb {l:List Int}:∀ {k:Nat} {i:Nat},(maskK l k).testBit i=true -> ∃ j,j < k/\(atZ l (j:Int)).toNat=i
 | 0,i,h=>by simp [maskK] at h
 | k+1,i,h=>by
  have h:(maskK l k ||| 2^(atZ l (k:Int)).toNat).testBit i=true:=h;rw [Nat.testBit_or,Bool.or_eq_true] at h;rcases h with h | h
  ·obtain ⟨j,hj,e⟩:=maskK_tb h;exact ⟨j,by omega,e⟩
  ·rw [Nat.testBit_two_pow,decide_eq_true_eq] at h;exact ⟨k,by omega,h⟩
def onesK (l nu:List Int):Nat->Int
 | 0 => 0
 | k+1=>onesK l nu k+atZ nu (atZ l (k:Int))
theorem pop_ones {l nu:List Int} {n:Nat} (hn:n<=12) (hb:∀ j:Nat,j < n->0<=atZ nu (j:Int)/\atZ nu (j:Int)<=1) (hl:∀ j:Nat,j < l.length->0<=atZ l (j:Int)/\atZ l (j:Int) < n) (hr:∀ i j:Nat,i < j->j < l.length->atZ l (i:Int) < atZ l (j:Int)) :
  ∀ k,k<=l.length->((pop (maskK l k &&& setK nu n):Nat):Int)=onesK l nu k
 | 0,_=>by simp [maskK,onesK];rfl
 | k+1,hk=>by
  have ih:=pop_ones hn hb hl hr k Kf;have lk:=hl k Kf;obtain ⟨e,he⟩:=Int.eq_ofNat_of_zero_le lk.1;have ne:(maskK l k &&& setK nu n).testBit e=false:=by
   rw [Nat.testBit_and];cases hm:(maskK l k).testBit e with
   | false=>rfl
   | true =>
    obtain ⟨j,hj,e2⟩:=maskK_tb hm;have:=hr j k hj Kf;have:=(hl j Kf).1;omega
  have f:=popK_set (x:=maskK l k &&& setK nu n) (y:=maskK l (k+1) &&& setK nu n) (e:=e) ne (fun i hi=>by
   show ((maskK l k ||| 2^(atZ l (k:Int)).toNat) &&& setK nu n).testBit i=_;rw [Nat.testBit_and,Nat.testBit_or,Nat.testBit_and,he,Int.toNat_natCast,Nat.testBit_two_pow];have hi2:¬ e=i:=fun h=>hi h.symm;simp [hi2]) 12
  rw [if_pos Kf] at f;have bit:bitB1 (maskK l (k+1) &&& setK nu n) e=if atZ nu (e:Int)=1 then 1 else 0:=by
   unfold bitB1;show (((maskK l k ||| 2^(atZ l (k:Int)).toNat) &&& setK nu n).testBit e).toNat=_;rw [Nat.testBit_and,Nat.testBit_or,he,Int.toNat_natCast,Nat.testBit_two_pow,setK_bit hb];have:e < n:=by omega
   by_cases h1:atZ nu (e:Int)=1 <;> simp [this,h1]
  rw [pop_popK] at ih ⊢;rw [f, bit];simp only [onesK,he];have:=hb e Kf;by_cases h1:atZ nu (e:Int)=1
  ·rw [if_pos h1,h1];omega
  ·rw [if_neg h1]; omega
end
section
open Go
def maxF (f:Nat->Int) (m:Int):Nat->Int
 | 0 => m
 | k+1=>max (maxF f m k) (f k)
theorem maxF_ge (f:Nat->Int) (m:Int):∀ n,m<=maxF f m n
 | 0=>Int.le_refl _
 | n+1=>by have:=maxF_ge f m n;unfold maxF;omega
theorem maxF_le (f:Nat->Int) (m:Int):∀ {n k:Nat},k < n->f k<=maxF f m n
 | n+1,k,h=>by
  unfold maxF;by_cases e:k=n
  ·subst e; omega
  ·have:=maxF_le f m (n:=n) (k:=k) Kf;omega
theorem maxF_at (f:Nat->Int) (m:Int):∀ n,maxF f m n=m ∨ ∃ k,k < n/\maxF f m n=f k
 | 0 => .inl rfl
 | n+1=>by
  unfold maxF;rcases (by omega:max (maxF f m n) (f n)=maxF f m n∨max (maxF f m n) (f n)=f n) with e|e
  ·rw [e];rcases maxF_at f m n with h|⟨k,hk,h⟩
   ·exact .inl h
   ·exact .inr ⟨k,by omega,h⟩
  ·exact .inr ⟨n,by omega,e⟩
structure Most (M t : Int) (S : Nat -> Nat -> Nat -> Nat -> Prop) (V : Nat -> Nat -> Nat -> Nat -> Int) : Prop where
 ge : t <= M
 le:∀ a b c d,S a b c d->V a b c d<=M
 here:M=t ∨ ∃ a b c d,S a b c d/\M=V a b c d
theorem most_one {M M' t:Int} {S S':Nat->Nat->Nat->Nat->Prop} {V V':Nat->Nat->Nat->Nat->Int} (h:Most M t S V) (h':Most M' t S' V')
  (e:∀ a b c d,S a b c d -> ∃ a' b' c' d',S' a' b' c' d'/\V a b c d=V' a' b' c' d') (e':∀ a b c d,S' a b c d -> ∃ a' b' c' d',S a' b' c' d'/\V' a b c d=V a' b' c' d'):M=M':=by
 have l:M<=M':=by
  rcases h.here with r|⟨a,b,c,d,s,r⟩
  ·rw [r]; exact h'.ge
  ·obtain ⟨a',b',c',d',s',q⟩:=e a b c d s;rw [r,q];exact h'.le _ _ _ _ s'
 have l':M'<=M:=by
  rcases h'.here with r|⟨a,b,c,d,s,r⟩
  ·rw [r]; exact h.ge
  ·obtain ⟨a',b',c',d',s',q⟩:=e' a b c d s;rw [r,q];exact h.le _ _ _ _ s'
 omega
theorem most_more {M t:Int} {S S':Nat->Nat->Nat->Nat->Prop} {V:Nat->Nat->Nat->Nat->Int} (h:Most M t S V) (a b c n:Nat) (hS:∀ a' b' c' d',S' a' b' c' d'↔S a' b' c' d'∨(a'=a/\b'=b/\c'=c/\d' < n)):Most (maxF (V a b c) M n) t S' V:=by
 have g:=maxF_ge (V a b c) M n;refine ⟨Int.le_trans h.ge g,fun a' b' c' d' s=>?_,?_⟩
 ·rcases (hS _ _ _ _).1 s with s|⟨rfl,rfl,rfl,s⟩
  ·exact Int.le_trans (h.le _ _ _ _ s) g
  ·exact maxF_le _ _ s
 ·rcases maxF_at (V a b c) M n with e|⟨k,hk,e⟩
  ·rw [e];rcases h.here with r|⟨a',b',c',d',s,r⟩
   ·exact .inl r
   ·exact .inr ⟨a',b',c',d',(hS _ _ _ _).2 (.inl s),r⟩
  ·exact .inr ⟨a,b,c,k,(hS _ _ _ _).2 (.inr ⟨rfl,rfl,rfl,hk⟩),e⟩
def rev6B (c:Nat):Nat:=32*(c%2)+16*(c / 2%2)+8*(c / 4%2)+4*(c / 8%2)+2*(c / 16%2)+c / 32%2
theorem rev6B_lt (c:Nat):rev6B c < 64:=by unfold rev6B; omega
theorem rev6B_rev:∀ {c:Nat},c < 64->rev6B (rev6B c)=c:=by
 intro c h;have key:∀ c,c < 64->rev6B (rev6B c)=c:=by decide +kernel
 exact key c h
def lowB (c:Nat):List Int:=rowF (fun i=>(bitN c i:Int)) 6
theorem jpa:∀ c,c < 64->bitsM 6 c=lowB (rev6B c):=by decide +kernel
theorem low_bits {c:Nat} (h:c < 64):lowB c=bitsM 6 (rev6B c):=by rw [jpa _ (rev6B_lt c),rev6B_rev h]
end
section
variable [Glb]
open Go
end
section
open Go
end
end Go.Proofs.YtbhbkbnlpackdaaGreatDoor
