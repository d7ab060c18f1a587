/- A way of walking over plain data: part of the proof of FnExactRunScript and FnExactReplayLog and FnExactExecuteCommand. No condition beyond those of its theorems. -/
import Derived.WalkKit
import Derived.Deep.MidRow
import Derived.Test.YtbhbkbnlpackdaaGreatDoorKplainA
import Derived.Great.BuildSlice
import Derived.Deep.OwnRows
import Derived.Laws.Small
set_option linter.unusedSectionVars false
set_option maxRecDepth 10000
set_option maxHeartbeats 4000000
set_option linter.unusedVariables false
set_option linter.unusedSimpArgs false
namespace Go.Proofs.YtbhbkbnlpackdaaGreatDoor
open Go.RowKit
theorem Ka {P:Prop} (h:P:=by first|(apply jbc.p;(·(apply GvA.cons;(·exact .tmp _);(·exact GvP.c (.lit _)));exact GvA.nil);(·decide);done)|fail):P:=h
theorem Kb {P:Prop} (h:P:=by kernel_rfl):P:=h
theorem Kc {P:Prop} (h:P:=by first|(apply Nb.box rfl;(repeat(first|exact Ncs.nil rfl|(apply Ncs.cons rfl;(·(exact .d rfl)))));done)|fail):P:=h
theorem Kd {P:Prop} (h:P:=by first|(apply jbc.t;(·(apply GvA.cons;(·exact .tmp _);(·exact GvP.c (.lit _)));(apply GvA.cons;(·exact .tmp _);(·exact GvP.c (.lit _)));exact GvA.nil);(·rfl);(·decide);done)|fail):P:=h
theorem Ke {P:Prop} (h:P:=by first|((apply GvP.g;(·(apply GvL.cons (.lit _));(apply GvL.cons (.lit _));(apply GvL.cons (.lit _));((apply GvL.cons (.row _ _ _ _ rfl (by ((simp;done))))));((apply GvL.cons (.row _ _ _ _ rfl (by ((simp;done))))));(apply GvL.cons (.lit _));((apply GvL.cons (.row _ _ _ _ rfl (by ((simp;done))))));((apply GvL.cons (.row _ _ _ _ rfl (by ((simp;done))))));((apply GvL.cons (.row _ _ _ _ rfl (by ((simp;done))))));(apply GvL.cons (.lit _));exact GvL.nil));done)|fail):P:=h
theorem Kf {P:Prop} (h:P:=by omega):P:=h
theorem Kg {P:Prop} (h:P:=by first|((repeat(first|exact trivial|refine ⟨(by rfl),?_⟩));done)|fail):P:=h
theorem Kh {P:Prop} (h:P:=by first|((repeat(first|exact Pf.nil|apply Pf.cons (.c rfl (.d rfl))|apply Pf.cons (.c rfl (.lp rfl))));done)|fail):P:=h
theorem Ki {P:Prop} (h:P:=by first|((repeat(first|exact Pb.nil|apply Pb.cons (.row rfl)|(apply Pb.cons;(·apply Nb.box rfl;(repeat(first|exact Ncs.nil rfl|(apply Ncs.cons rfl;(·(first|exact .d rfl|exact .ls rfl)))))))|apply Pb.skip));done)|fail):P:=h
theorem Kj {P:Prop} (h:P:=by first|((apply GvP.g;(·(apply GvL.cons (.lit _));(apply GvL.cons (.lit _));(apply GvL.cons (.lit _));((apply GvL.cons (.row _ _ _ _ rfl (by ((simp;done))))));((apply GvL.cons (.row _ _ _ _ rfl (by ((simp;done))))));(apply GvL.cons (.lit _));((apply GvL.cons (.row _ _ _ _ rfl (by ((simp;done))))));((apply GvL.cons (.row _ _ _ _ rfl (by ((simp;done))))));((apply GvL.cons (.row _ _ _ _ rfl (by ((simp;done))))));(apply GvL.cons (.lit _));(apply GvL.cons (.lit _));(apply GvL.cons (.lit _));(apply GvL.cons (.lit _));exact GvL.nil));done)|fail):P:=h
theorem Kk {P:Prop} (h:P:=by first|((repeat(first|exact Pf.nil|apply Pf.cons (.c rfl (.d rfl))|apply Pf.cons (.c rfl (.ls rfl))|apply Pf.cons (.c rfl (.lp rfl))));done)|fail):P:=h
theorem Kl {P:Prop} (h:P:=by first|((repeat(first|exact GvS.nil _|apply GvS.c rfl rfl (.lit _) rfl));done)|fail):P:=h
theorem Km {P:Prop} (h:P:=by first|((apply RvP.g;(·(apply RvL.cons (.d _));(apply RvL.cons (.d _));(apply RvL.cons (.d _));((apply RvL.cons (.d _)));((apply RvL.cons (.d _)));(apply RvL.cons (.d _));((apply RvL.cons (.d _)));((apply RvL.cons (.d _)));((apply RvL.cons (.d _)));(apply RvL.cons (.d _));exact RvL.nil));done)|fail):P:=h
theorem Kn {P:Prop} (h:P:=by first|(exact .row _ _ _ _ rfl (by ((simp;done)));done)|fail):P:=h
theorem Ko {P:Prop} (h:P:=by first|(exact (by (repeat(first|exact trivial|refine ⟨rfl,?_⟩)));done)|fail):P:=h
theorem Kq {P:Prop} (h:P:=by first|((apply GvP.g;(·(apply GvL.cons (.lit _));(apply GvL.cons (.lit _));(apply GvL.cons (.lit _));((apply GvL.cons (.row _ _ _ _ rfl (by ((simp;done))))));exact GvL.nil));done)|fail):P:=h
theorem Kr {P:Prop} (h:P:=by first|((repeat(first|exact Pf.nil|apply Pf.cons (.c rfl (.d rfl))|apply Pf.cons (.c rfl (.ls rfl))));done)|fail):P:=h
theorem Ks {P:Prop} (h:P:=by first|((repeat(first|exact GvS.nil _|apply GvS.c rfl rfl (.row _ _ _ _ rfl (by ((simp;done)))) rfl));done)|fail):P:=h
theorem Kt {P:Prop} (h:P:=by first|((repeat(first|exact trivial|refine ⟨(by ((refine jbs rfl ?_;simp;done))),?_⟩));done)|fail):P:=h
theorem Ku {P:Prop} (h:P:=by first|(apply jbc.p;(·(apply GvA.cons;(·exact .tmp _);(·(exact GvP.c (.row _ _ _ _ rfl (by ((simp;done)))))));exact GvA.nil);(·decide);done)|fail):P:=h
theorem Kv {P:Prop} (h:P:=by first|((repeat(exact trivial));done)|fail):P:=h
theorem Kw {P:Prop} (h:P:=by first|(apply jbc.t;(·(apply GvA.cons;(·exact .tmp _);(·(exact GvP.c (.row _ _ _ _ rfl (by ((simp;done)))))));(apply GvA.cons;(·exact .tmp _);(·exact GvP.c (.lit _)));exact GvA.nil);(·rfl);(·decide);done)|fail):P:=h
theorem Kx {P:Prop} (h:P:=by first|((repeat(first|exact Pf.nil|apply Pf.cons (.c rfl (.d rfl))|apply Pf.cons (.c rfl (.lp rfl))|(apply Pf.cons;(·apply Nv.g rfl;(repeat(first|exact Ncs.nil rfl|(apply Ncs.cons rfl;(·(exact .d rfl)))))))));done)|fail):P:=h
theorem Ky {P:Prop} (h:P:=by first|((repeat(first|exact Pf.nil|apply Pf.cons (.c rfl (.d rfl))));done)|fail):P:=h
theorem Kz {P:Prop} (h:P:=by first|((repeat(first|exact Pf.nil|apply Pf.cons (.c rfl (.d rfl))|apply Pf.cons (.c rfl (.lp rfl))|(apply Pf.cons;(·apply Nv.g rfl;(repeat(first|exact Ncs.nil rfl|(apply Ncs.cons rfl;(·(first|exact .d rfl|exact .ls rfl)))))))));done)|fail):P:=h
theorem Yaa {P:Prop} (h:P:=by first|((apply GvP.g;(·(apply GvL.cons (.lit _));(apply GvL.cons (.lit _));(apply GvL.cons (.lit _));((apply GvL.cons (.nil 1 (by decide))));((apply GvL.cons (.nil 1 (by decide))));(apply GvL.cons (.lit _));((apply GvL.cons (.nil 1 (by decide))));((apply GvL.cons (.nil 1 (by decide))));((apply GvL.cons (.nil 1 (by decide))));(apply GvL.cons (.lit _));exact GvL.nil));done)|fail):P:=h
theorem Yab {P:Prop} (h:P:=by first|((repeat(exact GvS.nil _));done)|fail):P:=h
theorem Yac {P:Prop} (h:P:=by first|((repeat(first|exact SeA.nil|(apply SeA.cons;(·(apply SeP.g;(repeat(first|exact SeL.nil|apply SeL.cons (.d _))))))));done)|fail):P:=h
theorem Yad {P:Prop} (h:P:=by first|((repeat(first|exact GvM.nil|apply GvM.cons (.lit _)|apply GvM.cons (.row _ _ _ _ rfl (by ((simp;done))))));done)|fail):P:=h
theorem Yae {P:Prop} (h:P:=by first|(apply jbc.t;(·(apply GvA.cons;(·exact .tmp _);(·exact GvP.c (.lit _)));(apply GvA.cons;(·exact .tmp _);(·exact GvP.c (.lit _)));(apply GvA.cons;(·exact .tmp _);(·exact GvP.c (.lit _)));exact GvA.nil);(·rfl);(·decide);done)|fail):P:=h
theorem Yaf {P:Prop} (h:P:=by first|(((apply SeP.c;apply Se.fn;(repeat(first|exact SeL.nil|(apply SeL.cons;(·apply Se.pt;(·rfl);(·rfl);(·(repeat(first|exact SeL.nil|apply SeL.cons (.d _))))))))));done)|fail):P:=h
theorem Yag {P:Prop} (h:P:=by first|((repeat(first|exact trivial|refine ⟨(by (first|(refine jbs rfl ?_;simp;done)|(refine jdn rfl ?_;simp;done))),?_⟩));done)|fail):P:=h
theorem Yah {P:Prop} (h:P:=by first|((repeat(first|exact Pb.nil|apply Pb.cons (.row rfl)|apply Pb.skip));done)|fail):P:=h
theorem Yai {P:Prop} (h:P:=by first|((repeat(first|exact Pf.nil|apply Pf.cons (.c rfl (.d rfl))|apply Pf.cons (.c rfl (.lp rfl))|(apply Pf.cons;(·apply Nv.g rfl;(repeat(first|exact Ncs.nil rfl|(apply Ncs.cons rfl;(·(first|exact .d rfl|exact .ls rfl)))))))|apply Pf.skip));done)|fail):P:=h
theorem Yaj {P:Prop} (h:P:=by first|((repeat(first|exact Pb.nil|apply Pb.cons (.row rfl)|(apply Pb.cons;(·apply Nb.box rfl;(repeat(first|exact Ncs.nil rfl|(apply Ncs.cons rfl;(·(first|exact .d rfl|exact .ls rfl)))))))));done)|fail):P:=h
theorem Yak {P:Prop} (h:P:=by assumption):P:=h
theorem Yal {P:Prop} (h:P:=by first|((repeat(first|exact Pf.nil|apply Pf.cons (.c rfl (.d rfl))|apply Pf.cons (.c rfl (.lp rfl))|(apply Pf.cons;(·apply Nv.g rfl;(repeat(first|exact Ncs.nil rfl|(apply Ncs.cons rfl;(·(exact .d rfl)))))))|apply Pf.skip));done)|fail):P:=h
theorem Yam {P:Prop} (h:P:=by first|((apply GvP.g;(·(apply GvL.cons (.lit _));(apply GvL.cons (.lit _));exact GvL.nil));done)|fail):P:=h
theorem Yan {P:Prop} (h:P:=by first|((repeat(first|exact GvS.nil _|(apply GvS.g rfl;(·(repeat(first|exact GvL.nil|apply GvL.cons (.lit _))));(·rfl))));done)|fail):P:=h
theorem Yao {P:Prop} (h:P:=by first|((apply GvP.g;(·(apply GvL.cons (.lit _));(apply GvL.cons (.lit _));(apply GvL.cons (.lit _));((apply GvL.cons (.nil 1 (by decide))));exact GvL.nil));done)|fail):P:=h
theorem Yap {P:Prop} (h:P:=by first|(apply jbc.t;(·(apply GvA.cons;(·exact .tmp _);(·(exact GvP.c (.nil 1 (by decide)))));(apply GvA.cons;(·exact .tmp _);(·exact GvP.c (.lit _)));exact GvA.nil);(·rfl);(·decide);done)|fail):P:=h
theorem Yaq {P:Prop} (h:P:=by first|((repeat(first|exact jfh.nil|apply jfh.c rfl (.lit _)|apply jfh.c rfl (.row _ _ _ _ rfl (by ((simp;done))))));done)|fail):P:=h
theorem Yar {P:Prop} (h:P:=by first|((repeat(exact Pb.nil));done)|fail):P:=h
theorem Yas {P:Prop} (h:P:=by first|(apply jek;(repeat(first|exact EvL.nil|(apply EvL.cons;(·rfl))));done)|fail):P:=h
theorem Yat {P:Prop} (h:P:=by first|((repeat(first|exact trivial|refine ⟨(by ((refine jdn rfl ?_;simp;done))),?_⟩));done)|fail):P:=h
theorem Yau {P:Prop} (h:P:=by first|((apply GvP.g;(·(apply GvL.cons (.lit _));(apply GvL.cons (.lit _));(apply GvL.cons (.lit _));exact GvL.nil));done)|fail):P:=h
theorem Yav {P:Prop} (h:P:=by first|((repeat(first|exact SeA.nil|apply SeA.cons (.c (.d _))));done)|fail):P:=h
theorem Yaw {P:Prop} (h:P:=by first|((repeat(first|exact trivial|refine ⟨(by (first|rfl|(refine jks rfl ?_;((simp;done))))),?_⟩));done)|fail):P:=h
theorem Yax {P:Prop} (h:P:=by first|((repeat(first|exact Pf.nil|apply Pf.cons (.c rfl (.lp rfl))));done)|fail):P:=h
theorem Yay {P:Prop} (h:P:=by first|((repeat(first|exact trivial|refine ⟨(by (first|(refine jdn rfl ?_;simp;done)|rfl)),?_⟩));done)|fail):P:=h
theorem Yaz {P:Prop} (h:P:=by simp_all [callT]):P:=h
theorem Yba {P:Prop} (h:P:=by first|((repeat(first|exact .nil _|refine .lit ?_|refine .sl rfl (by ((simp;done))) ?_));done)|fail):P:=h
theorem Ybb {P:Prop} (h:P:=by first|(((simp [*];done));done)|fail):P:=h
theorem Ybc {P:Prop} (h:P:=by exact RvP.c (.d _)):P:=h
theorem Ybd {P:Prop} (h:P:=by first|((repeat(first|exact Pb.nil|apply Pb.cons (.row rfl)));done)|fail):P:=h
theorem Ybe {P:Prop} (h:P:=by first|((repeat(first|exact Pb.nil|apply Pb.cons (.row rfl)|(apply Pb.cons;exact Kc)|apply Pb.skip));done)|fail):P:=h
theorem Ybf {P:Prop} (h:P:=by first|((repeat(first|exact Pb.nil|(apply Pb.cons;exact Kc)|apply Pb.skip));done)|fail):P:=h
theorem Ybg {P:Prop} (h:P:=by ((simp only [List.length_map,List.length_append,List.length_replicate,fillL_len,rowF_len,gridF_len,mkI_len,mkII_len,jdb] at *;omega))):P:=h
theorem Ybh {P:Prop} (h:P:=by first|((apply RetX.p;(·rfl);(·(repeat(first|exact BxO.nil _|(apply BxO.o;(·(first|exact .lit _|exact .row _ _ _ _ rfl (by ((simp;done)))))))));(·(apply GvA.cons;(·exact .tmp _);(·exact GvP.c (.lit _)));exact GvA.nil);(·decide));done)|fail):P:=h
theorem Ybi {P:Prop} (h:P:=by first|((repeat(first|exact Pb.nil|(apply Pb.cons;exact Kc)));done)|fail):P:=h
theorem Ybj {P:Prop} (h:P:=by first|((repeat(first|exact trivial|refine ⟨(by (first|rfl|(refine jcd rfl ?_;(omega)))),?_⟩));done)|fail):P:=h
theorem Ybk {P:Prop} (h:P:=by first|( apply Se.pt; (· rfl); (· rfl); (· (repeat (first | exact SeL.nil | apply SeL.cons (.d _) | apply SeL.cons (.all _ _ _ _ rfl (by (first | assumption | (simp; done) | (simp; omega) | rfl))))));done)|fail):P:=h
theorem Ybl {P:Prop} (h:P:=by first|((repeat(first|exact Pb.nil|apply Pb.cons (.row rfl)|(apply Pb.cons;exact Kc)));done)|fail):P:=h
theorem Ybm {P:Prop} (h:P:=by first|(apply jbc.t;(·(apply GvA.cons;(·exact .tmp _);(·(exact GvP.c (.row _ _ _ _ rfl (by (assumption))))));(apply GvA.cons;(·exact .tmp _);(·(exact GvP.c (.row _ _ _ _ rfl (by (assumption))))));exact GvA.nil);(·rfl);(·decide);done)|fail):P:=h
theorem Ybn {P:Prop} (h:P:=by first|((repeat(first|exact jfh.nil|apply jfh.c rfl (.lit _)|(apply jfh.g rfl;exact Yad)));done)|fail):P:=h
theorem Ybo {P:Prop} (h:P:=by ((simp;omega))):P:=h
theorem Ybp {P:Prop} (h:P:=by simp_all):P:=h
theorem Ybq {P:Prop} (h:P:=by first|((repeat(first|exact jfh.nil|(apply jfh.g rfl;exact Yad)));done)|fail):P:=h
theorem Ybr {P:Prop} (h:P:=by decide):P:=h
theorem Ybs {P:Prop} (h:P:=by exact GvP.c (.lit _)):P:=h
theorem Ybt {P:Prop} (h:P:=by first|(((simp;done));done)|fail):P:=h
theorem Ybu {P:Prop} (h:P:=by exact .tmp _):P:=h
theorem Ybv {P:Prop} (h:P:=by first|((first | assumption | (simp; done) | (simp; omega) | rfl);done)|fail):P:=h
theorem Ybw {P:Prop} (h:P:=by simp;omega):P:=h
theorem Ybx {P:Prop} (h:P:=by (exact GvP.c (.row _ _ _ _ rfl (by (assumption))))):P:=h
theorem Yby {P:Prop} (h:P:=by simp):P:=h
variable [Glb]
open Go Go.RowKit
theorem jau {P:Program} {vs:List ResultVar} {r r':Res} {st:St} (h:jbc P vs r' st) (e:r'=r):jbc P vs r st:=e ▸ h
theorem St.put_le {st:St} {t:Nat} {x:FV} (h:st.fr t=x):st.le (st.put t x) :=
 ⟨rfl,fun k=>by by_cases hk:k=t <;> simp [St.put,FV.le,hk,h],fun _ => .inr rfl⟩
section
variable {P:Program} {ops:Array Oper} {mu:Nat->Bool} {r:OT} {st:St} {K:St->Prop} {i:Nat} {b:Bool} {os:OT}
theorem so_le {st1:St} (hl:st.le st1) (h:SO P ops mu os st1 K):SO P ops mu os st K:=⟨fun w0 a w hs=>h.run w0 a w (hs.le hl)⟩
section
variable {op:Op} {ty:TypeId} {pos:String} {af:Array Edge} {j:Nat} {want x:Bool} {t d:Nat}
theorem jaa {dst:Option Tmp} {ty:TypeId} {pos:String} {af:Array Edge} (op:Op) (h:SO P ops mu (.cons (some ⟨dst,op,ty,pos,af,none⟩,i,b) r) st K):SO P ops mu (.cons (some ⟨dst,op,ty,pos,af,none⟩,i,b) r) st K:=h
theorem zaa {x1:_} {d:Nat} {v:FV} (h:SO P ops mu r (st.put d v) K) (hq:Qt P ⟨some d,.assign x1,ty,pos,af,none⟩ st v:=by exact jak rfl) (hd:Nat.blt d st.n=true:=by exact rfl):SO P ops mu (.cons (some ⟨some d,.assign x1,ty,pos,af,none⟩,i,b) r) st K:=jab hq hd h
theorem zab {x1:_} {d:Nat} {v:FV} (h:SO P ops mu r (st.put d v) K) (hq:Qt P ⟨some d,.move x1,ty,pos,af,none⟩ st v:=by exact jal rfl) (hd:Nat.blt d st.n=true:=by exact rfl):SO P ops mu (.cons (some ⟨some d,.move x1,ty,pos,af,none⟩,i,b) r) st K:=jab hq hd h
theorem zac {x1 x2 x3:_} {d:Nat} {v:FV} (h:SO P ops mu r (st.put d v) K) (hq:Qt P ⟨some d,.binOp .lss 3 x1 x2 x3,ty,pos,af,none⟩ st v:=by exact jar rfl rfl) (hd:Nat.blt d st.n=true:=by exact rfl):SO P ops mu (.cons (some ⟨some d,.binOp .lss 3 x1 x2 x3,ty,pos,af,none⟩,i,b) r) st K:=jab hq hd h
theorem zad {x1 x2 x3:_} {d:Nat} {v:FV} (h:SO P ops mu r (st.put d v) K) (hq:Qt P ⟨some d,.binOp .add 3 x1 x2 x3,ty,pos,af,none⟩ st v:=by exact jas rfl rfl (by omega)) (hd:Nat.blt d st.n=true:=by exact rfl):SO P ops mu (.cons (some ⟨some d,.binOp .add 3 x1 x2 x3,ty,pos,af,none⟩,i,b) r) st K:=jab hq hd h
theorem zae {x1:_} {d:Nat} {v:FV} (h:SO P ops mu r (st.put d v) K) (hq:Qt P ⟨some d,.load 38 x1,ty,pos,af,none⟩ st v:=by exact jae rfl rfl (by kernel_rfl:tAgg _ 38 4=true) rfl) (hd:Nat.blt d st.n=true:=by exact rfl):SO P ops mu (.cons (some ⟨some d,.load 38 x1,ty,pos,af,none⟩,i,b) r) st K:=jab hq hd h
theorem zaf {x1:_} {d:Nat} {v:FV} (h:SO P ops mu r (st.put d v) K) (hq:Qt P ⟨some d,.load 3 x1,ty,pos,af,none⟩ st v:=by exact jag rfl rfl (by kernel_rfl) rfl) (hd:Nat.blt d st.n=true:=by exact rfl):SO P ops mu (.cons (some ⟨some d,.load 3 x1,ty,pos,af,none⟩,i,b) r) st K:=jab hq hd h
theorem zag {x1:_} {d:Nat} {v:FV} (h:SO P ops mu r (st.put d v) K) (hq:Qt P ⟨some d,.unOp .not 4 x1,ty,pos,af,none⟩ st v:=by exact jbm rfl) (hd:Nat.blt d st.n=true:=by exact rfl):SO P ops mu (.cons (some ⟨some d,.unOp .not 4 x1,ty,pos,af,none⟩,i,b) r) st K:=jab hq hd h
theorem zah {x1 x2 x3:_} {d:Nat} {v:FV} (h:SO P ops mu r (st.put d v) K) (hq:Qt P ⟨some d,.pick x1 x2 x3,ty,pos,af,none⟩ st v:=by exact jbr rfl rfl) (hd:Nat.blt d st.n=true:=by exact rfl):SO P ops mu (.cons (some ⟨some d,.pick x1 x2 x3,ty,pos,af,none⟩,i,b) r) st K:=jab hq hd h
theorem zai {x1 x2 x3:_} {d:Nat} {v:FV} (h:SO P ops mu r (st.put d v) K) (hq:Qt P ⟨some d,.binOp .eql 3 x1 x2 x3,ty,pos,af,none⟩ st v:=by exact jbq rfl rfl) (hd:Nat.blt d st.n=true:=by exact rfl):SO P ops mu (.cons (some ⟨some d,.binOp .eql 3 x1 x2 x3,ty,pos,af,none⟩,i,b) r) st K:=jab hq hd h
theorem zaj {x1 x2:_} {d:Nat} {v:FV} (h:SO P ops mu r (st.put d v) K) (hq:Qt P ⟨some d,.extract x1 x2,ty,pos,af,none⟩ st v:=by exact jbh rfl rfl) (hd:Nat.blt d st.n=true:=by exact rfl):SO P ops mu (.cons (some ⟨some d,.extract x1 x2,ty,pos,af,none⟩,i,b) r) st K:=jab hq hd h
theorem zak {x1:_} {d:Nat} {v:FV} (h:SO P ops mu r (st.put d v) K) (hq:Qt P ⟨some d,.load 22 x1,ty,pos,af,none⟩ st v:=by exact jag rfl rfl (by kernel_rfl) rfl) (hd:Nat.blt d st.n=true:=by exact rfl):SO P ops mu (.cons (some ⟨some d,.load 22 x1,ty,pos,af,none⟩,i,b) r) st K:=jab hq hd h
theorem zal {x1 x2:_} {d:Nat} {v:FV} (h:SO P ops mu r (st.put d v) K) (hq:Qt P ⟨some d,.indexAddr 25 x1 x2,ty,pos,af,none⟩ st v:=by exact jbw rfl rfl (by kernel_rfl) (by omega) (by omega)) (hd:Nat.blt d st.n=true:=by exact rfl):SO P ops mu (.cons (some ⟨some d,.indexAddr 25 x1 x2,ty,pos,af,none⟩,i,b) r) st K:=jab hq hd h
theorem zam {x1:_} {d:Nat} {v:FV} (h:SO P ops mu r (st.put d v) K) (hq:Qt P ⟨some d,.load 39 x1,ty,pos,af,none⟩ st v:=by exact jae rfl rfl (by kernel_rfl:tAgg _ 39 3=true) rfl) (hd:Nat.blt d st.n=true:=by exact rfl):SO P ops mu (.cons (some ⟨some d,.load 39 x1,ty,pos,af,none⟩,i,b) r) st K:=jab hq hd h
theorem zan {x1:_} {d:Nat} {v:FV} (h:SO P ops mu r (st.put d v) K) (hq:Qt P ⟨some d,.load 41 x1,ty,pos,af,none⟩ st v:=by exact jae rfl rfl (by kernel_rfl:tAgg _ 41 10=true) rfl) (hd:Nat.blt d st.n=true:=by exact rfl):SO P ops mu (.cons (some ⟨some d,.load 41 x1,ty,pos,af,none⟩,i,b) r) st K:=jab hq hd h
theorem zao {x1 x2:_} {d:Nat} {v:FV} (h:SO P ops mu r (st.put d v) K) (hq:Qt P ⟨some d,.indexAddr 22 x1 x2,ty,pos,af,none⟩ st v:=by exact jbu rfl rfl (by kernel_rfl) (by omega) (by omega)) (hd:Nat.blt d st.n=true:=by exact rfl):SO P ops mu (.cons (some ⟨some d,.indexAddr 22 x1 x2,ty,pos,af,none⟩,i,b) r) st K:=jab hq hd h
theorem zap {x1:_} {d:Nat} {v:FV} (h:SO P ops mu r (st.put d v) K) (hq:Qt P ⟨some d,.load 3 x1,ty,pos,af,none⟩ st v:=by exact jap rfl (by kernel_rfl) rfl) (hd:Nat.blt d st.n=true:=by exact rfl):SO P ops mu (.cons (some ⟨some d,.load 3 x1,ty,pos,af,none⟩,i,b) r) st K:=jab hq hd h
theorem zaq {x1:_} {d:Nat} {v:FV} (h:SO P ops mu r (st.put d v) K) (hq:Qt P ⟨some d,.call ⟨.builtin .len,x1,#[22]⟩,ty,pos,af,none⟩ st v:=by exact jbb rfl (by kernel_rfl)) (hd:Nat.blt d st.n=true:=by exact rfl):SO P ops mu (.cons (some ⟨some d,.call ⟨.builtin .len,x1,#[22]⟩,ty,pos,af,none⟩,i,b) r) st K:=jab hq hd h
theorem zas {x1:_} {d:Nat} {v:FV} (h:SO P ops mu r (st.put d v) K) (hq:Qt P ⟨some d,.call ⟨.builtin .len,x1,#[25]⟩,ty,pos,af,none⟩ st v:=by exact jbb rfl (by kernel_rfl)) (hd:Nat.blt d st.n=true:=by exact rfl):SO P ops mu (.cons (some ⟨some d,.call ⟨.builtin .len,x1,#[25]⟩,ty,pos,af,none⟩,i,b) r) st K:=jab hq hd h
theorem zat {x1:_} {d:Nat} {v:FV} (h:SO P ops mu r (st.put d v) K) (hq:Qt P ⟨some d,.load 25 x1,ty,pos,af,none⟩ st v:=by exact jap rfl (by kernel_rfl) rfl) (hd:Nat.blt d st.n=true:=by exact rfl):SO P ops mu (.cons (some ⟨some d,.load 25 x1,ty,pos,af,none⟩,i,b) r) st K:=jab hq hd h
theorem zau {x1 x2 x3:_} {d:Nat} {v:FV} (h:SO P ops mu r (st.put d v) K) (hq:Qt P ⟨some d,.binOp .eql 9 x1 x2 x3,ty,pos,af,none⟩ st v:=by exact jcf rfl rfl) (hd:Nat.blt d st.n=true:=by exact rfl):SO P ops mu (.cons (some ⟨some d,.binOp .eql 9 x1 x2 x3,ty,pos,af,none⟩,i,b) r) st K:=jab hq hd h
theorem zav {x1 x2 x3:_} {d:Nat} {v:FV} (h:SO P ops mu r (st.put d v) K) (hq:Qt P ⟨some d,.binOp .sub 3 x1 x2 x3,ty,pos,af,none⟩ st v:=by exact jcg rfl rfl (by omega)) (hd:Nat.blt d st.n=true:=by exact rfl):SO P ops mu (.cons (some ⟨some d,.binOp .sub 3 x1 x2 x3,ty,pos,af,none⟩,i,b) r) st K:=jab hq hd h
theorem zaw {x1:_} {d:Nat} {v:FV} (h:SO P ops mu r (st.put d v) K) (hq:Qt P ⟨some d,.fieldAddr 38 x1 3,ty,pos,af,none⟩ st v:=by exact jad (off:=3) rfl (by kernel_rfl)) (hd:Nat.blt d st.n=true:=by exact rfl):SO P ops mu (.cons (some ⟨some d,.fieldAddr 38 x1 3,ty,pos,af,none⟩,i,b) r) st K:=jab hq hd h
theorem zax {x1:_} {d:Nat} {v:FV} (h:SO P ops mu r (st.put d v) K) (hq:Qt P ⟨some d,.load 25 x1,ty,pos,af,none⟩ st v:=by exact jag rfl rfl (by kernel_rfl) rfl) (hd:Nat.blt d st.n=true:=by exact rfl):SO P ops mu (.cons (some ⟨some d,.load 25 x1,ty,pos,af,none⟩,i,b) r) st K:=jab hq hd h
theorem zay {x1:_} {d:Nat} {v:FV} (h:SO P ops mu r (st.put d v) K) (hq:Qt P ⟨some d,.fieldAddr 41 x1 0,ty,pos,af,none⟩ st v:=by exact jad (off:=0) rfl (by kernel_rfl)) (hd:Nat.blt d st.n=true:=by exact rfl):SO P ops mu (.cons (some ⟨some d,.fieldAddr 41 x1 0,ty,pos,af,none⟩,i,b) r) st K:=jab hq hd h
theorem zaz {x1 x2 x3:_} {d:Nat} {v:FV} (h:SO P ops mu r (st.put d v) K) (hq:Qt P ⟨some d,.binOp .and 3 x1 x2 x3,ty,pos,af,none⟩ st v:=by exact jch 1 (c:=2) rfl rfl (by decide)) (hd:Nat.blt d st.n=true:=by exact rfl):SO P ops mu (.cons (some ⟨some d,.binOp .and 3 x1 x2 x3,ty,pos,af,none⟩,i,b) r) st K:=jab hq hd h
theorem zba {x1:_} {d:Nat} {v:FV} (h:SO P ops mu r (st.put d v) K) (hq:Qt P ⟨some d,.call ⟨.builtin .len,x1,#[9]⟩,ty,pos,af,none⟩ st v:=by exact jcl rfl (by kernel_rfl)) (hd:Nat.blt d st.n=true:=by exact rfl):SO P ops mu (.cons (some ⟨some d,.call ⟨.builtin .len,x1,#[9]⟩,ty,pos,af,none⟩,i,b) r) st K:=jab hq hd h
theorem zbb {x1:_} {d:Nat} {v:FV} (h:SO P ops mu r (st.put d v) K) (hq:Qt P ⟨some d,.fieldAddr 38 x1 0,ty,pos,af,none⟩ st v:=by exact jad (off:=0) rfl (by kernel_rfl)) (hd:Nat.blt d st.n=true:=by exact rfl):SO P ops mu (.cons (some ⟨some d,.fieldAddr 38 x1 0,ty,pos,af,none⟩,i,b) r) st K:=jab hq hd h
theorem zbc {x1 x2 x3:_} {d:Nat} {v:FV} (h:SO P ops mu r (st.put d v) K) (hq:Qt P ⟨some d,.binOp .gtr 3 x1 x2 x3,ty,pos,af,none⟩ st v:=by exact jcs rfl rfl) (hd:Nat.blt d st.n=true:=by exact rfl):SO P ops mu (.cons (some ⟨some d,.binOp .gtr 3 x1 x2 x3,ty,pos,af,none⟩,i,b) r) st K:=jab hq hd h
theorem zbd {x1:_} {d:Nat} {v:FV} (h:SO P ops mu r (st.put d v) K) (hq:Qt P ⟨some d,.fieldAddr 38 x1 1,ty,pos,af,none⟩ st v:=by exact jad (off:=1) rfl (by kernel_rfl)) (hd:Nat.blt d st.n=true:=by exact rfl):SO P ops mu (.cons (some ⟨some d,.fieldAddr 38 x1 1,ty,pos,af,none⟩,i,b) r) st K:=jab hq hd h
theorem zbe {x1 x2 x3:_} {d:Nat} {v:FV} (h:SO P ops mu r (st.put d v) K) (hq:Qt P ⟨some d,.binOp .mul 3 x1 x2 x3,ty,pos,af,none⟩ st v:=by exact jcm rfl rfl (by omega)) (hd:Nat.blt d st.n=true:=by exact rfl):SO P ops mu (.cons (some ⟨some d,.binOp .mul 3 x1 x2 x3,ty,pos,af,none⟩,i,b) r) st K:=jab hq hd h
theorem zbf {x1:_} {d:Nat} {v:FV} (h:SO P ops mu r (st.put d v) K) (hq:Qt P ⟨some d,.fieldAddr 39 x1 1,ty,pos,af,none⟩ st v:=by exact jad (off:=1) rfl (by kernel_rfl)) (hd:Nat.blt d st.n=true:=by exact rfl):SO P ops mu (.cons (some ⟨some d,.fieldAddr 39 x1 1,ty,pos,af,none⟩,i,b) r) st K:=jab hq hd h
theorem zbg {x1:_} {d:Nat} {v:FV} (h:SO P ops mu r (st.put d v) K) (hq:Qt P ⟨some d,.fieldAddr 41 x1 1,ty,pos,af,none⟩ st v:=by exact jad (off:=4) rfl (by kernel_rfl)) (hd:Nat.blt d st.n=true:=by exact rfl):SO P ops mu (.cons (some ⟨some d,.fieldAddr 41 x1 1,ty,pos,af,none⟩,i,b) r) st K:=jab hq hd h
theorem zbh {x1:_} {d:Nat} {v:FV} (h:SO P ops mu r (st.put d v) K) (hq:Qt P ⟨some d,.fieldAddr 38 x1 2,ty,pos,af,none⟩ st v:=by exact jad (off:=2) rfl (by kernel_rfl)) (hd:Nat.blt d st.n=true:=by exact rfl):SO P ops mu (.cons (some ⟨some d,.fieldAddr 38 x1 2,ty,pos,af,none⟩,i,b) r) st K:=jab hq hd h
theorem zbi {x1 x2 x3:_} {d:Nat} {v:FV} (h:SO P ops mu r (st.put d v) K) (hq:Qt P ⟨some d,.binOp .xor 3 x1 x2 x3,ty,pos,af,none⟩ st v:=by exact jco rfl rfl (by simp)) (hd:Nat.blt d st.n=true:=by exact rfl):SO P ops mu (.cons (some ⟨some d,.binOp .xor 3 x1 x2 x3,ty,pos,af,none⟩,i,b) r) st K:=jab hq hd h
theorem zbj {x1:_} {d:Nat} {v:FV} (h:SO P ops mu r (st.put d v) K) (hq:Qt P ⟨some d,.fieldAddr 41 x1 2,ty,pos,af,none⟩ st v:=by exact jad (off:=5) rfl (by kernel_rfl)) (hd:Nat.blt d st.n=true:=by exact rfl):SO P ops mu (.cons (some ⟨some d,.fieldAddr 41 x1 2,ty,pos,af,none⟩,i,b) r) st K:=jab hq hd h
theorem zbk {x1 x2 x3:_} {d:Nat} {v:FV} (h:SO P ops mu r (st.put d v) K) (hq:Qt P ⟨some d,.binOp .neq 3 x1 x2 x3,ty,pos,af,none⟩ st v:=by exact jdh rfl rfl) (hd:Nat.blt d st.n=true:=by exact rfl):SO P ops mu (.cons (some ⟨some d,.binOp .neq 3 x1 x2 x3,ty,pos,af,none⟩,i,b) r) st K:=jab hq hd h
theorem zbl {x1:_} {d:Nat} {v:FV} (h:SO P ops mu r (st.put d v) K) (hq:Qt P ⟨some d,.fieldAddr 41 x1 3,ty,pos,af,none⟩ st v:=by exact jad (off:=8) rfl (by kernel_rfl)) (hd:Nat.blt d st.n=true:=by exact rfl):SO P ops mu (.cons (some ⟨some d,.fieldAddr 41 x1 3,ty,pos,af,none⟩,i,b) r) st K:=jab hq hd h
theorem zbm {x1:_} {d:Nat} {v:FV} (h:SO P ops mu r (st.put d v) K) (hq:Qt P ⟨some d,.call ⟨.builtin .len,x1,#[25]⟩,ty,pos,af,none⟩ st v:=by exact jbz rfl (by kernel_rfl)) (hd:Nat.blt d st.n=true:=by exact rfl):SO P ops mu (.cons (some ⟨some d,.call ⟨.builtin .len,x1,#[25]⟩,ty,pos,af,none⟩,i,b) r) st K:=jab hq hd h
theorem zbn {x1 x2 x3:_} {d:Nat} {v:FV} (h:SO P ops mu r (st.put d v) K) (hq:Qt P ⟨some d,.binOp .rem 3 x1 x2 x3,ty,pos,af,none⟩ st v:=by exact jdc rfl rfl (by omega) (by omega) (by omega)) (hd:Nat.blt d st.n=true:=by exact rfl):SO P ops mu (.cons (some ⟨some d,.binOp .rem 3 x1 x2 x3,ty,pos,af,none⟩,i,b) r) st K:=jab hq hd h
theorem zbo {x1:_} {d:Nat} {v:FV} (h:SO P ops mu r (st.put d v) K) (hq:Qt P ⟨some d,.fieldAddr 110 x1 0,ty,pos,af,none⟩ st v:=by exact jad (off:=0) rfl (by kernel_rfl)) (hd:Nat.blt d st.n=true:=by exact rfl):SO P ops mu (.cons (some ⟨some d,.fieldAddr 110 x1 0,ty,pos,af,none⟩,i,b) r) st K:=jab hq hd h
theorem zbp {x1 x2:_} {d:Nat} {v:FV} (h:SO P ops mu r (st.put d v) K) (hq:Qt P ⟨some d,.indexAddr 176 x1 x2,ty,pos,af,none⟩ st v:=by exact jcb rfl rfl (by kernel_rfl:tArr _ 176 2 1=true) (by omega) (by omega)) (hd:Nat.blt d st.n=true:=by exact rfl):SO P ops mu (.cons (some ⟨some d,.indexAddr 176 x1 x2,ty,pos,af,none⟩,i,b) r) st K:=jab hq hd h
theorem zbq {x1:_} {d:Nat} {v:FV} (h:SO P ops mu r (st.put d v) K) (hq:Qt P ⟨some d,.fieldAddr 39 x1 2,ty,pos,af,none⟩ st v:=by exact jad (off:=2) rfl (by kernel_rfl)) (hd:Nat.blt d st.n=true:=by exact rfl):SO P ops mu (.cons (some ⟨some d,.fieldAddr 39 x1 2,ty,pos,af,none⟩,i,b) r) st K:=jab hq hd h
theorem zbr {x1:_} {d:Nat} {v:FV} (h:SO P ops mu r (st.put d v) K) (hq:Qt P ⟨some d,.load 9 x1,ty,pos,af,none⟩ st v:=by exact jap rfl (by kernel_rfl) rfl) (hd:Nat.blt d st.n=true:=by exact rfl):SO P ops mu (.cons (some ⟨some d,.load 9 x1,ty,pos,af,none⟩,i,b) r) st K:=jab hq hd h
theorem zbs {x1:_} {d:Nat} {v:FV} (h:SO P ops mu r (st.put d v) K) (hq:Qt P ⟨some d,.fieldAddr 110 x1 1,ty,pos,af,none⟩ st v:=by exact jad (off:=1) rfl (by kernel_rfl)) (hd:Nat.blt d st.n=true:=by exact rfl):SO P ops mu (.cons (some ⟨some d,.fieldAddr 110 x1 1,ty,pos,af,none⟩,i,b) r) st K:=jab hq hd h
theorem zbt {x1 x2 x3:_} {d:Nat} {v:FV} (h:SO P ops mu r (st.put d v) K) (hq:Qt P ⟨some d,.binOp .shr 3 x1 x2 x3,ty,pos,af,none⟩ st v:=by exact jcw rfl rfl (by omega) (by omega)) (hd:Nat.blt d st.n=true:=by exact rfl):SO P ops mu (.cons (some ⟨some d,.binOp .shr 3 x1 x2 x3,ty,pos,af,none⟩,i,b) r) st K:=jab hq hd h
theorem zbu {x1:_} {d:Nat} {v:FV} (h:SO P ops mu r (st.put d v) K) (hq:Qt P ⟨some d,.load 44 x1,ty,pos,af,none⟩ st v:=by exact jae rfl rfl (by kernel_rfl:tAgg _ 44 13=true) rfl) (hd:Nat.blt d st.n=true:=by exact rfl):SO P ops mu (.cons (some ⟨some d,.load 44 x1,ty,pos,af,none⟩,i,b) r) st K:=jab hq hd h
theorem zbv {x1:_} {d:Nat} {v:FV} (h:SO P ops mu r (st.put d v) K) (hq:Qt P ⟨some d,.fieldAddr 39 x1 0,ty,pos,af,none⟩ st v:=by exact jad (off:=0) rfl (by kernel_rfl)) (hd:Nat.blt d st.n=true:=by exact rfl):SO P ops mu (.cons (some ⟨some d,.fieldAddr 39 x1 0,ty,pos,af,none⟩,i,b) r) st K:=jab hq hd h
theorem zbw {x1 x2 x3:_} {d:Nat} {v:FV} (h:SO P ops mu r (st.put d v) K) (hq:Qt P ⟨some d,.binOp .quo 3 x1 x2 x3,ty,pos,af,none⟩ st v:=by exact jdv rfl rfl (by omega) (by omega) (by omega)) (hd:Nat.blt d st.n=true:=by exact rfl):SO P ops mu (.cons (some ⟨some d,.binOp .quo 3 x1 x2 x3,ty,pos,af,none⟩,i,b) r) st K:=jab hq hd h
theorem zbx {x1:_} {d:Nat} {v:FV} (h:SO P ops mu r (st.put d v) K) (hq:Qt P ⟨some d,.load 42 x1,ty,pos,af,none⟩ st v:=by exact jae rfl rfl (by kernel_rfl:tAgg _ 42 3=true) rfl) (hd:Nat.blt d st.n=true:=by exact rfl):SO P ops mu (.cons (some ⟨some d,.load 42 x1,ty,pos,af,none⟩,i,b) r) st K:=jab hq hd h
theorem zby {x1:_} {d:Nat} {v:FV} (h:SO P ops mu r (st.put d v) K) (hq:Qt P ⟨some d,.unOp .neg 3 x1,ty,pos,af,none⟩ st v:=by exact jdx rfl (by omega)) (hd:Nat.blt d st.n=true:=by exact rfl):SO P ops mu (.cons (some ⟨some d,.unOp .neg 3 x1,ty,pos,af,none⟩,i,b) r) st K:=jab hq hd h
theorem zbz {x1:_} {d:Nat} {v:FV} (h:SO P ops mu r (st.put d v) K) (hq:Qt P ⟨some d,.load 9 x1,ty,pos,af,none⟩ st v:=by exact jag rfl rfl (by kernel_rfl) rfl) (hd:Nat.blt d st.n=true:=by exact rfl):SO P ops mu (.cons (some ⟨some d,.load 9 x1,ty,pos,af,none⟩,i,b) r) st K:=jab hq hd h
theorem zca {x1 x2:_} {d:Nat} {v:FV} (h:SO P ops mu r (st.put d v) K) (hq:Qt P ⟨some d,.indexAddr 25 x1 x2,ty,pos,af,none⟩ st v:=by exact jca rfl rfl (by kernel_rfl:tSl _ 25 1=true) (by omega) (by omega)) (hd:Nat.blt d st.n=true:=by exact rfl):SO P ops mu (.cons (some ⟨some d,.indexAddr 25 x1 x2,ty,pos,af,none⟩,i,b) r) st K:=jab hq hd h
theorem zcb {x1 x2:_} {d:Nat} {v:FV} (h:SO P ops mu r (st.put d v) K) (hq:Qt P ⟨some d,.index 9 x1 x2,ty,pos,af,none⟩ st v:=by exact jdj rfl rfl (by kernel_rfl) (by omega) (by omega)) (hd:Nat.blt d st.n=true:=by exact rfl):SO P ops mu (.cons (some ⟨some d,.index 9 x1 x2,ty,pos,af,none⟩,i,b) r) st K:=jab hq hd h
theorem zcc {x1 x2:_} {d:Nat} {v:FV} (h:SO P ops mu r (st.put d v) K) (hq:Qt P ⟨some d,.indexAddr 35 x1 x2,ty,pos,af,none⟩ st v:=by exact jdl rfl rfl (by kernel_rfl) (by omega) (by omega)) (hd:Nat.blt d st.n=true:=by exact rfl):SO P ops mu (.cons (some ⟨some d,.indexAddr 35 x1 x2,ty,pos,af,none⟩,i,b) r) st K:=jab hq hd h
theorem zcd {x1:_} {d:Nat} {v:FV} (h:SO P ops mu r (st.put d v) K) (hq:Qt P ⟨some d,.build 38 x1,ty,pos,af,none⟩ st v:=by exact jbt (cs:=[_,_,_,_]) [(0,1),(1,1),(2,1),(3,1)] [.int .i64 0,.int .i64 0,.int .i64 0,.slice none 0 0] (by kernel_rfl) (by kernel_rfl) rfl) (hd:Nat.blt d st.n=true:=by exact rfl):SO P ops mu (.cons (some ⟨some d,.build 38 x1,ty,pos,af,none⟩,i,b) r) st K:=jab hq hd h
theorem zce {x1:_} {d:Nat} {v:FV} (h:SO P ops mu r (st.put d v) K) (hq:Qt P ⟨some d,.call ⟨.builtin .len,x1,#[35]⟩,ty,pos,af,none⟩ st v:=by exact jbb rfl (by kernel_rfl)) (hd:Nat.blt d st.n=true:=by exact rfl):SO P ops mu (.cons (some ⟨some d,.call ⟨.builtin .len,x1,#[35]⟩,ty,pos,af,none⟩,i,b) r) st K:=jab hq hd h
theorem zcf {x1 x2 x3:_} {d:Nat} {v:FV} (h:SO P ops mu r (st.put d v) K) (hq:Qt P ⟨some d,.binOp .neq 9 x1 x2 x3,ty,pos,af,none⟩ st v:=by exact jem rfl rfl) (hd:Nat.blt d st.n=true:=by exact rfl):SO P ops mu (.cons (some ⟨some d,.binOp .neq 9 x1 x2 x3,ty,pos,af,none⟩,i,b) r) st K:=jab hq hd h
theorem zcg {x1 x2:_} {d:Nat} {v:FV} (h:SO P ops mu r (st.put d v) K) (hq:Qt P ⟨some d,.slice 9 x1 (some x2) none none,ty,pos,af,none⟩ st v:=by exact jda rfl rfl (by kernel_rfl) (by omega) (by omega)) (hd:Nat.blt d st.n=true:=by exact rfl):SO P ops mu (.cons (some ⟨some d,.slice 9 x1 (some x2) none none,ty,pos,af,none⟩,i,b) r) st K:=jab hq hd h
theorem zch {x1:_} {d:Nat} {v:FV} (h:SO P ops mu r (st.put d v) K) (hq:Qt P ⟨some d,.fieldAddr 42 x1 2,ty,pos,af,none⟩ st v:=by exact jad (off:=2) rfl (by kernel_rfl)) (hd:Nat.blt d st.n=true:=by exact rfl):SO P ops mu (.cons (some ⟨some d,.fieldAddr 42 x1 2,ty,pos,af,none⟩,i,b) r) st K:=jab hq hd h
theorem zci {x1:_} {d:Nat} {v:FV} (h:SO P ops mu r (st.put d v) K) (hq:Qt P ⟨some d,.fieldAddr 44 x1 0,ty,pos,af,none⟩ st v:=by exact jad (off:=0) rfl (by kernel_rfl)) (hd:Nat.blt d st.n=true:=by exact rfl):SO P ops mu (.cons (some ⟨some d,.fieldAddr 44 x1 0,ty,pos,af,none⟩,i,b) r) st K:=jab hq hd h
theorem zcj {x1:_} {d:Nat} {v:FV} (h:SO P ops mu r (st.put d v) K) (hq:Qt P ⟨some d,.build 176 x1,ty,pos,af,none⟩ st v:=by exact jbt (cs:=[_,_]) [(0,1),(1,1)] [.int .i64 0,.int .i64 0] (by kernel_rfl) (by kernel_rfl) rfl) (hd:Nat.blt d st.n=true:=by exact rfl):SO P ops mu (.cons (some ⟨some d,.build 176 x1,ty,pos,af,none⟩,i,b) r) st K:=jab hq hd h
theorem zck {x1 x2 x3:_} {d:Nat} {v:FV} (h:SO P ops mu r (st.put d v) K) (hq:Qt P ⟨some d,.binOp .leq 3 x1 x2 x3,ty,pos,af,none⟩ st v:=by exact jgs rfl rfl) (hd:Nat.blt d st.n=true:=by exact rfl):SO P ops mu (.cons (some ⟨some d,.binOp .leq 3 x1 x2 x3,ty,pos,af,none⟩,i,b) r) st K:=jab hq hd h
theorem zcl {x1 x2 x3:_} {d:Nat} {v:FV} (h:SO P ops mu r (st.put d v) K) (hq:Qt P ⟨some d,.binOp .add 9 x1 x2 x3,ty,pos,af,none⟩ st v:=by exact jdm rfl rfl (by ((simp at *;omega)))) (hd:Nat.blt d st.n=true:=by exact rfl):SO P ops mu (.cons (some ⟨some d,.binOp .add 9 x1 x2 x3,ty,pos,af,none⟩,i,b) r) st K:=jab hq hd h
theorem zcm {x1:_} {d:Nat} {v:FV} (h:SO P ops mu r (st.put d v) K) (hq:Qt P ⟨some d,.call ⟨.builtin .len,x1,#[35]⟩,ty,pos,af,none⟩ st v:=by exact jbz rfl (by kernel_rfl)) (hd:Nat.blt d st.n=true:=by exact rfl):SO P ops mu (.cons (some ⟨some d,.call ⟨.builtin .len,x1,#[35]⟩,ty,pos,af,none⟩,i,b) r) st K:=jab hq hd h
theorem zcn {x1:_} {d:Nat} {v:FV} (h:SO P ops mu r (st.put d v) K) (hq:Qt P ⟨some d,.load 110 x1,ty,pos,af,none⟩ st v:=by exact jae rfl rfl (by kernel_rfl:tAgg _ 110 2=true) rfl) (hd:Nat.blt d st.n=true:=by exact rfl):SO P ops mu (.cons (some ⟨some d,.load 110 x1,ty,pos,af,none⟩,i,b) r) st K:=jab hq hd h
theorem zco {x1 x2 x3:_} {d:Nat} {v:FV} (h:SO P ops mu r (st.put d v) K) (hq:Qt P ⟨some d,.binOp .shr 3 x1 x2 x3,ty,pos,af,none⟩ st v:=by exact jci (c:=2) rfl rfl (by decide)) (hd:Nat.blt d st.n=true:=by exact rfl):SO P ops mu (.cons (some ⟨some d,.binOp .shr 3 x1 x2 x3,ty,pos,af,none⟩,i,b) r) st K:=jab hq hd h
theorem zcp {x1:_} {d:Nat} {v:FV} (h:SO P ops mu r (st.put d v) K) (hq:Qt P ⟨some d,.fieldAddr 44 x1 1,ty,pos,af,none⟩ st v:=by exact jad (off:=10) rfl (by kernel_rfl)) (hd:Nat.blt d st.n=true:=by exact rfl):SO P ops mu (.cons (some ⟨some d,.fieldAddr 44 x1 1,ty,pos,af,none⟩,i,b) r) st K:=jab hq hd h
theorem zcq {x1:_} {d:Nat} {v:FV} (h:SO P ops mu r (st.put d v) K) (hq:Qt P ⟨some d,.convert 5 3 x1,ty,pos,af,none⟩ st v:=by exact jec (k':=.i64) rfl (by kernel_rfl) (by kernel_rfl) (by (exact IntWalk.i64_in _ (by omega)))) (hd:Nat.blt d st.n=true:=by exact rfl):SO P ops mu (.cons (some ⟨some d,.convert 5 3 x1,ty,pos,af,none⟩,i,b) r) st K:=jab hq hd h
theorem zcr {x1:_} {d:Nat} {v:FV} (h:SO P ops mu r (st.put d v) K) (hq:Qt P ⟨some d,.build 44 x1,ty,pos,af,none⟩ st v:=by exact jbt (cs:=[_,_,_,_,_,_,_,_,_,_,_,_,_]) [(0,10),(10,3)] [.int .i64 0,.int .i64 0,.int .i64 0,.slice none 0 0,.slice none 0 0,.int .i64 0,.slice none 0 0,.slice none 0 0,.slice none 0 0,.int .i64 0,.string ByteArray.empty,.string ByteArray.empty,.int .i64 0] (by kernel_rfl) (by kernel_rfl) rfl) (hd:Nat.blt d st.n=true:=by exact rfl):SO P ops mu (.cons (some ⟨some d,.build 44 x1,ty,pos,af,none⟩,i,b) r) st K:=jab hq hd h
theorem zcs {x1 x2 x3:_} {d:Nat} {v:FV} (h:SO P ops mu r (st.put d v) K) (hq:Qt P ⟨some d,.binOp .geq 3 x1 x2 x3,ty,pos,af,none⟩ st v:=by exact jhf rfl rfl) (hd:Nat.blt d st.n=true:=by exact rfl):SO P ops mu (.cons (some ⟨some d,.binOp .geq 3 x1 x2 x3,ty,pos,af,none⟩,i,b) r) st K:=jab hq hd h
theorem zct {x1:_} {d:Nat} {v:FV} (h:SO P ops mu r (st.put d v) K) (hq:Qt P ⟨some d,.load 77 x1,ty,pos,af,none⟩ st v:=by exact jae rfl rfl (by kernel_rfl:tAgg _ 77 2=true) rfl) (hd:Nat.blt d st.n=true:=by exact rfl):SO P ops mu (.cons (some ⟨some d,.load 77 x1,ty,pos,af,none⟩,i,b) r) st K:=jab hq hd h
theorem zcu {x1:_} {d:Nat} {v:FV} (h:SO P ops mu r (st.put d v) K) (hq:Qt P ⟨some d,.fieldAddr 42 x1 1,ty,pos,af,none⟩ st v:=by exact jad (off:=1) rfl (by kernel_rfl)) (hd:Nat.blt d st.n=true:=by exact rfl):SO P ops mu (.cons (some ⟨some d,.fieldAddr 42 x1 1,ty,pos,af,none⟩,i,b) r) st K:=jab hq hd h
theorem zcv {x1 x2 x3:_} {d:Nat} {v:FV} (h:SO P ops mu r (st.put d v) K) (hq:Qt P ⟨some d,.binOp .shl 3 x1 x2 x3,ty,pos,af,none⟩ st v:=by exact jgf rfl rfl (by omega) (by omega) (by omega)) (hd:Nat.blt d st.n=true:=by exact rfl):SO P ops mu (.cons (some ⟨some d,.binOp .shl 3 x1 x2 x3,ty,pos,af,none⟩,i,b) r) st K:=jab hq hd h
theorem zcw {x1 x2:_} {d:Nat} {v:FV} (h:SO P ops mu r (st.put d v) K) (hq:Qt P ⟨some d,.indexAddr 243 x1 x2,ty,pos,af,none⟩ st v:=by exact jcb rfl rfl (by kernel_rfl:tArr _ 243 2 2=true) (by omega) (by omega)) (hd:Nat.blt d st.n=true:=by exact rfl):SO P ops mu (.cons (some ⟨some d,.indexAddr 243 x1 x2,ty,pos,af,none⟩,i,b) r) st K:=jab hq hd h
theorem zcx {x1:_} {d:Nat} {v:FV} (h:SO P ops mu r (st.put d v) K) (hq:Qt P ⟨some d,.build 77 x1,ty,pos,af,none⟩ st v:=by exact jbt (cs:=[_,_]) [(0,1),(1,1)] [.string ByteArray.empty,.string ByteArray.empty] (by kernel_rfl) (by kernel_rfl) rfl) (hd:Nat.blt d st.n=true:=by exact rfl):SO P ops mu (.cons (some ⟨some d,.build 77 x1,ty,pos,af,none⟩,i,b) r) st K:=jab hq hd h
theorem zcy {x1:_} {d:Nat} {v:FV} (h:SO P ops mu r (st.put d v) K) (hq:Qt P ⟨some d,.build 110 x1,ty,pos,af,none⟩ st v:=by exact jbt (cs:=[_,_]) [(0,1),(1,1)] [.int .i64 0,.int .i64 0] (by kernel_rfl) (by kernel_rfl) rfl) (hd:Nat.blt d st.n=true:=by exact rfl):SO P ops mu (.cons (some ⟨some d,.build 110 x1,ty,pos,af,none⟩,i,b) r) st K:=jab hq hd h
theorem zcz {x1:_} {d:Nat} {v:FV} (h:SO P ops mu r (st.put d v) K) (hq:Qt P ⟨some d,.nilCheck x1,ty,pos,af,none⟩ st v:=by exact jdk rfl) (hd:Nat.blt d st.n=true:=by exact rfl):SO P ops mu (.cons (some ⟨some d,.nilCheck x1,ty,pos,af,none⟩,i,b) r) st K:=jab hq hd h
theorem zda {x1 x2 x3:_} {d:Nat} {v:FV} (h:SO P ops mu r (st.put d v) K) (hq:Qt P ⟨some d,.binOp .add 9 x1 x2 x3,ty,pos,af,none⟩ st v:=by exact jdm rfl rfl (by omega)) (hd:Nat.blt d st.n=true:=by exact rfl):SO P ops mu (.cons (some ⟨some d,.binOp .add 9 x1 x2 x3,ty,pos,af,none⟩,i,b) r) st K:=jab hq hd h
theorem zdb {x1 x2 x3:_} {d:Nat} {v:FV} (h:SO P ops mu r (st.put d v) K) (hq:Qt P ⟨some d,.binOp .lss 5 x1 x2 x3,ty,pos,af,none⟩ st v:=by exact jar rfl rfl) (hd:Nat.blt d st.n=true:=by exact rfl):SO P ops mu (.cons (some ⟨some d,.binOp .lss 5 x1 x2 x3,ty,pos,af,none⟩,i,b) r) st K:=jab hq hd h
theorem zdc {x1 x2 x3:_} {d:Nat} {v:FV} (h:SO P ops mu r (st.put d v) K) (hq:Qt P ⟨some d,.binOp .gtr 5 x1 x2 x3,ty,pos,af,none⟩ st v:=by exact jcs rfl rfl) (hd:Nat.blt d st.n=true:=by exact rfl):SO P ops mu (.cons (some ⟨some d,.binOp .gtr 5 x1 x2 x3,ty,pos,af,none⟩,i,b) r) st K:=jab hq hd h
theorem zdd {x1:_} {d:Nat} {v:FV} (h:SO P ops mu r (st.put d v) K) (hq:Qt P ⟨some d,.call ⟨.builtin .len,x1,#[73]⟩,ty,pos,af,none⟩ st v:=by exact jbb rfl (by kernel_rfl)) (hd:Nat.blt d st.n=true:=by exact rfl):SO P ops mu (.cons (some ⟨some d,.call ⟨.builtin .len,x1,#[73]⟩,ty,pos,af,none⟩,i,b) r) st K:=jab hq hd h
theorem zde {x1:_} {d:Nat} {v:FV} (h:SO P ops mu r (st.put d v) K) (hq:Qt P ⟨some d,.fieldAddr 41 x1 4,ty,pos,af,none⟩ st v:=by exact jad (off:=9) rfl (by kernel_rfl)) (hd:Nat.blt d st.n=true:=by exact rfl):SO P ops mu (.cons (some ⟨some d,.fieldAddr 41 x1 4,ty,pos,af,none⟩,i,b) r) st K:=jab hq hd h
theorem zdf {x1:_} {d:Nat} {v:FV} (h:SO P ops mu r (st.put d v) K) (hq:Qt P ⟨some d,.fieldAddr 42 x1 0,ty,pos,af,none⟩ st v:=by exact jad (off:=0) rfl (by kernel_rfl)) (hd:Nat.blt d st.n=true:=by exact rfl):SO P ops mu (.cons (some ⟨some d,.fieldAddr 42 x1 0,ty,pos,af,none⟩,i,b) r) st K:=jab hq hd h
theorem zdg {x1 x2 x3:_} {d:Nat} {v:FV} (h:SO P ops mu r (st.put d v) K) (hq:Qt P ⟨some d,.binOp .add 3 x1 x2 x3,ty,pos,af,none⟩ st v:=by exact jas rfl rfl (by (first|omega|(simp at *;omega)))) (hd:Nat.blt d st.n=true:=by exact rfl):SO P ops mu (.cons (some ⟨some d,.binOp .add 3 x1 x2 x3,ty,pos,af,none⟩,i,b) r) st K:=jab hq hd h
theorem zdh {x1:_} {d:Nat} {v:FV} (h:SO P ops mu r (st.put d v) K) (hq:Qt P ⟨some d,.call ⟨.builtin .len,x1,#[73]⟩,ty,pos,af,none⟩ st v:=by exact jbz rfl (by kernel_rfl)) (hd:Nat.blt d st.n=true:=by exact rfl):SO P ops mu (.cons (some ⟨some d,.call ⟨.builtin .len,x1,#[73]⟩,ty,pos,af,none⟩,i,b) r) st K:=jab hq hd h
theorem zdi {x1 x2 x3:_} {d:Nat} {v:FV} (h:SO P ops mu r (st.put d v) K) (hq:Qt P ⟨some d,.binOp .neq 3 x1 x2 x3,ty,pos,af,none⟩ st v:=by exact jeu rfl rfl) (hd:Nat.blt d st.n=true:=by exact rfl):SO P ops mu (.cons (some ⟨some d,.binOp .neq 3 x1 x2 x3,ty,pos,af,none⟩,i,b) r) st K:=jab hq hd h
theorem zdj {x1:_} {d:Nat} {v:FV} (h:SO P ops mu r (st.put d v) K) (hq:Qt P ⟨some d,.load 3 x1,ty,pos,af,none⟩ st v:=by exact jdi rfl rfl (by kernel_rfl) (by omega) (by omega)) (hd:Nat.blt d st.n=true:=by exact rfl):SO P ops mu (.cons (some ⟨some d,.load 3 x1,ty,pos,af,none⟩,i,b) r) st K:=jab hq hd h
theorem zdk {x1 x2:_} {d:Nat} {v:FV} (h:SO P ops mu r (st.put d v) K) (hq:Qt P ⟨some d,.index 272 x1 x2,ty,pos,af,none⟩ st v:=by exact jel (n:=4) rfl rfl (by kernel_rfl) (by omega) (by omega) rfl) (hd:Nat.blt d st.n=true:=by exact rfl):SO P ops mu (.cons (some ⟨some d,.index 272 x1 x2,ty,pos,af,none⟩,i,b) r) st K:=jab hq hd h
theorem zdl {x1 x2 x3:_} {d:Nat} {v:FV} (h:SO P ops mu r (st.put d v) K) (hq:Qt P ⟨some d,.binOp .mul 3 x1 x2 x3,ty,pos,af,none⟩ st v:=by exact jcm rfl rfl (by ((simp at *;omega)))) (hd:Nat.blt d st.n=true:=by exact rfl):SO P ops mu (.cons (some ⟨some d,.binOp .mul 3 x1 x2 x3,ty,pos,af,none⟩,i,b) r) st K:=jab hq hd h
theorem zdm {x1:_} {d:Nat} {v:FV} (h:SO P ops mu r (st.put d v) K) (hq:Qt P ⟨some d,.fieldAddr 77 x1 0,ty,pos,af,none⟩ st v:=by exact jad (off:=0) rfl (by kernel_rfl)) (hd:Nat.blt d st.n=true:=by exact rfl):SO P ops mu (.cons (some ⟨some d,.fieldAddr 77 x1 0,ty,pos,af,none⟩,i,b) r) st K:=jab hq hd h
theorem zdn {x1 x2 x3:_} {d:Nat} {v:FV} (h:SO P ops mu r (st.put d v) K) (hq:Qt P ⟨some d,.binOp .sub 5 x1 x2 x3,ty,pos,af,none⟩ st v:=by exact jhr rfl rfl) (hd:Nat.blt d st.n=true:=by exact rfl):SO P ops mu (.cons (some ⟨some d,.binOp .sub 5 x1 x2 x3,ty,pos,af,none⟩,i,b) r) st K:=jab hq hd h
theorem zdo {x1:_} {d:Nat} {v:FV} (h:SO P ops mu r (st.put d v) K) (hq:Qt P ⟨some d,.load 29 x1,ty,pos,af,none⟩ st v:=by exact jae rfl rfl (by kernel_rfl:tAgg _ 29 10=true) rfl) (hd:Nat.blt d st.n=true:=by exact rfl):SO P ops mu (.cons (some ⟨some d,.load 29 x1,ty,pos,af,none⟩,i,b) r) st K:=jab hq hd h
theorem zdp {x1:_} {d:Nat} {v:FV} (h:SO P ops mu r (st.put d v) K) (hq:Qt P ⟨some d,.build 41 x1,ty,pos,af,none⟩ st v:=by exact jbt (cs:=[_,_,_,_,_,_,_,_,_,_]) [(0,4),(4,1),(5,3),(8,1),(9,1)] [.int .i64 0,.int .i64 0,.int .i64 0,.slice none 0 0,.slice none 0 0,.int .i64 0,.slice none 0 0,.slice none 0 0,.slice none 0 0,.int .i64 0] (by kernel_rfl) (by kernel_rfl) rfl) (hd:Nat.blt d st.n=true:=by exact rfl):SO P ops mu (.cons (some ⟨some d,.build 41 x1,ty,pos,af,none⟩,i,b) r) st K:=jab hq hd h
theorem zdq {x1 x2 x3:_} {d:Nat} {v:FV} (h:SO P ops mu r (st.put d v) K) (hq:Qt P ⟨some d,.binOp .eql 5 x1 x2 x3,ty,pos,af,none⟩ st v:=by exact jbq rfl rfl) (hd:Nat.blt d st.n=true:=by exact rfl):SO P ops mu (.cons (some ⟨some d,.binOp .eql 5 x1 x2 x3,ty,pos,af,none⟩,i,b) r) st K:=jab hq hd h
theorem zdr {x1:_} {d:Nat} {v:FV} (h:SO P ops mu r (st.put d v) K) (hq:Qt P ⟨some d,.fieldAddr 77 x1 1,ty,pos,af,none⟩ st v:=by exact jad (off:=1) rfl (by kernel_rfl)) (hd:Nat.blt d st.n=true:=by exact rfl):SO P ops mu (.cons (some ⟨some d,.fieldAddr 77 x1 1,ty,pos,af,none⟩,i,b) r) st K:=jab hq hd h
theorem zds {x1:_} {d:Nat} {v:FV} (h:SO P ops mu r (st.put d v) K) (hq:Qt P ⟨some d,.fieldAddr 29 x1 0,ty,pos,af,none⟩ st v:=by exact jad (off:=0) rfl (by kernel_rfl)) (hd:Nat.blt d st.n=true:=by exact rfl):SO P ops mu (.cons (some ⟨some d,.fieldAddr 29 x1 0,ty,pos,af,none⟩,i,b) r) st K:=jab hq hd h
theorem zdt {x1:_} {d:Nat} {v:FV} (h:SO P ops mu r (st.put d v) K) (hq:Qt P ⟨some d,.load 24 x1,ty,pos,af,none⟩ st v:=by exact jae rfl rfl (by kernel_rfl:tAgg _ 24 4=true) rfl) (hd:Nat.blt d st.n=true:=by exact rfl):SO P ops mu (.cons (some ⟨some d,.load 24 x1,ty,pos,af,none⟩,i,b) r) st K:=jab hq hd h
theorem zdu {x1:_} {d:Nat} {v:FV} (h:SO P ops mu r (st.put d v) K) (hq:Qt P ⟨some d,.load 38 x1,ty,pos,af,none⟩ st v:=by exact jdo rfl (by kernel_rfl:tAgg _ 38 4=true) (by simp)) (hd:Nat.blt d st.n=true:=by exact rfl):SO P ops mu (.cons (some ⟨some d,.load 38 x1,ty,pos,af,none⟩,i,b) r) st K:=jab hq hd h
theorem zdv {x1:_} {d:Nat} {v:FV} (h:SO P ops mu r (st.put d v) K) (hq:Qt P ⟨some d,.load 176 x1,ty,pos,af,none⟩ st v:=by exact jae rfl rfl (by kernel_rfl:tAgg _ 176 2=true) rfl) (hd:Nat.blt d st.n=true:=by exact rfl):SO P ops mu (.cons (some ⟨some d,.load 176 x1,ty,pos,af,none⟩,i,b) r) st K:=jab hq hd h
theorem zdw {x1:_} {d:Nat} {v:FV} (h:SO P ops mu r (st.put d v) K) (hq:Qt P ⟨some d,.call ⟨.builtin .len,x1,#[209]⟩,ty,pos,af,none⟩ st v:=by exact jbb rfl (by kernel_rfl)) (hd:Nat.blt d st.n=true:=by exact rfl):SO P ops mu (.cons (some ⟨some d,.call ⟨.builtin .len,x1,#[209]⟩,ty,pos,af,none⟩,i,b) r) st K:=jab hq hd h
theorem zdx {x1 x2:_} {d:Nat} {v:FV} (h:SO P ops mu r (st.put d v) K) (hq:Qt P ⟨some d,.indexAddr 35 x1 x2,ty,pos,af,none⟩ st v:=by exact jkq rfl rfl (by kernel_rfl)) (hd:Nat.blt d st.n=true:=by exact rfl):SO P ops mu (.cons (some ⟨some d,.indexAddr 35 x1 x2,ty,pos,af,none⟩,i,b) r) st K:=jab hq hd h
theorem zdy {x1 x2:_} {d:Nat} {v:FV} (h:SO P ops mu r (st.put d v) K) (hq:Qt P ⟨some d,.slice 9 x1 none (some x2) none,ty,pos,af,none⟩ st v:=by exact jfu rfl rfl (by kernel_rfl) (by omega) (by omega)) (hd:Nat.blt d st.n=true:=by exact rfl):SO P ops mu (.cons (some ⟨some d,.slice 9 x1 none (some x2) none,ty,pos,af,none⟩,i,b) r) st K:=jab hq hd h
theorem zdz {x1:_} {d:Nat} {v:FV} (h:SO P ops mu r (st.put d v) K) (hq:Qt P ⟨some d,.load 33 x1,ty,pos,af,none⟩ st v:=by exact jae rfl rfl (by kernel_rfl:tAgg _ 33 13=true) rfl) (hd:Nat.blt d st.n=true:=by exact rfl):SO P ops mu (.cons (some ⟨some d,.load 33 x1,ty,pos,af,none⟩,i,b) r) st K:=jab hq hd h
theorem zea {x1 x2:_} {d:Nat} {v:FV} (h:SO P ops mu r (st.put d v) K) (hq:Qt P ⟨some d,.indexAddr 73 x1 x2,ty,pos,af,none⟩ st v:=by exact jkp rfl rfl (by kernel_rfl) (by omega) (by omega)) (hd:Nat.blt d st.n=true:=by exact rfl):SO P ops mu (.cons (some ⟨some d,.indexAddr 73 x1 x2,ty,pos,af,none⟩,i,b) r) st K:=jab hq hd h
theorem zeb {x1:_} {d:Nat} {v:FV} (h:SO P ops mu r (st.put d v) K) (hq:Qt P ⟨some d,.fieldAddr 29 x1 1,ty,pos,af,none⟩ st v:=by exact jad (off:=4) rfl (by kernel_rfl)) (hd:Nat.blt d st.n=true:=by exact rfl):SO P ops mu (.cons (some ⟨some d,.fieldAddr 29 x1 1,ty,pos,af,none⟩,i,b) r) st K:=jab hq hd h
theorem zec {x1:_} {d:Nat} {v:FV} (h:SO P ops mu r (st.put d v) K) (hq:Qt P ⟨some d,.load 31 x1,ty,pos,af,none⟩ st v:=by exact jae rfl rfl (by kernel_rfl:tAgg _ 31 3=true) rfl) (hd:Nat.blt d st.n=true:=by exact rfl):SO P ops mu (.cons (some ⟨some d,.load 31 x1,ty,pos,af,none⟩,i,b) r) st K:=jab hq hd h
theorem zed {x1 x2:_} {d:Nat} {v:FV} (h:SO P ops mu r (st.put d v) K) (hq:Qt P ⟨some d,.slice 25 x1 (some x2) none none,ty,pos,af,none⟩ st v:=by exact jfk rfl rfl (by kernel_rfl) (by omega) (by omega)) (hd:Nat.blt d st.n=true:=by exact rfl):SO P ops mu (.cons (some ⟨some d,.slice 25 x1 (some x2) none none,ty,pos,af,none⟩,i,b) r) st K:=jab hq hd h
theorem zee {x1 x2:_} {d:Nat} {v:FV} (h:SO P ops mu r (st.put d v) K) (hq:Qt P ⟨some d,.slice 25 x1 none (some x2) none,ty,pos,af,none⟩ st v:=by exact jej rfl rfl (by kernel_rfl) (by omega) (by omega)) (hd:Nat.blt d st.n=true:=by exact rfl):SO P ops mu (.cons (some ⟨some d,.slice 25 x1 none (some x2) none,ty,pos,af,none⟩,i,b) r) st K:=jab hq hd h
theorem zef {x1:_} {d:Nat} {v:FV} (h:SO P ops mu r (st.put d v) K) (hq:Qt P ⟨some d,.call ⟨.builtin .max,x1,#[3,3]⟩,ty,pos,af,none⟩ st v:=by exact qt_max rfl rfl) (hd:Nat.blt d st.n=true:=by exact rfl):SO P ops mu (.cons (some ⟨some d,.call ⟨.builtin .max,x1,#[3,3]⟩,ty,pos,af,none⟩,i,b) r) st K:=jab hq hd h
theorem zeg {x1:_} {d:Nat} {v:FV} (h:SO P ops mu r (st.put d v) K) (hq:Qt P ⟨some d,.load 180 x1,ty,pos,af,none⟩ st v:=by exact jap rfl (by kernel_rfl) rfl) (hd:Nat.blt d st.n=true:=by exact rfl):SO P ops mu (.cons (some ⟨some d,.load 180 x1,ty,pos,af,none⟩,i,b) r) st K:=jab hq hd h
theorem zeh {x1:_} {d:Nat} {v:FV} (h:SO P ops mu r (st.put d v) K) (hq:Qt P ⟨some d,.load 3 x1,ty,pos,af,none⟩ st v:=by exact jcq rfl rfl (by kernel_rfl) (by rfl)) (hd:Nat.blt d st.n=true:=by exact rfl):SO P ops mu (.cons (some ⟨some d,.load 3 x1,ty,pos,af,none⟩,i,b) r) st K:=jab hq hd h
theorem zei {x1 x2 x3:_} {d:Nat} {v:FV} (hq:Qt P ⟨some d,.binOp .add 9 x1 x2 x3,ty,pos,af,none⟩ st v) (h:SO P ops mu r (st.put d v) K) (hd:Nat.blt d st.n=true:=by exact rfl):SO P ops mu (.cons (some ⟨some d,.binOp .add 9 x1 x2 x3,ty,pos,af,none⟩,i,b) r) st K:=jab hq hd h
theorem zej {x1 x2 x3:_} {d:Nat} {v:FV} (hq:Qt P ⟨some d,.binOp .shr 3 x1 x2 x3,ty,pos,af,none⟩ st v) (h:SO P ops mu r (st.put d v) K) (hd:Nat.blt d st.n=true:=by exact rfl):SO P ops mu (.cons (some ⟨some d,.binOp .shr 3 x1 x2 x3,ty,pos,af,none⟩,i,b) r) st K:=jab hq hd h
theorem jbj (hj:(ops[j]?).bind (·.dst)=some t) (hx:st.fr t = .c (.d (.lit (.bool want)))) (ht:Nat.blt t st.n=true) (hd:Nat.blt d st.n=true)
  (h:SO P ops mu (.cons (some ⟨some d,op,ty,pos,af,none⟩,i,b) r) st K):SO P ops mu (.cons (some ⟨some d,op,ty,pos,af,some (j,want)⟩,i,b) r) st K :=
 so_guard rfl hj ht hd hx (fun _=>h) (fun h=>by cases want <;> cases h)
theorem jbn (hj:(ops[j]?).bind (·.dst)=some t) (hx:st.fr t = .c (.d (.lit (.bool (!want))))) (ht:Nat.blt t st.n=true) (hd:Nat.blt d st.n=true)
  (h:SO P ops mu r (st.put d (.t [])) K):SO P ops mu (.cons (some ⟨some d,op,ty,pos,af,some (j,want)⟩,i,b) r) st K :=
 so_guard rfl hj ht hd hx (fun h=>by cases want <;> cases h) (fun _=>h)
theorem jcc {p:Prop} [Decidable p] (hj:(ops[j]?).bind (·.dst)=some t) (hx:st.fr t = .c (.d (.lit (.bool (decide p))))) 
  (h1:p->SO P ops mu (.cons (some ⟨some d,op,ty,pos,af,some (j,want)⟩,i,b) r) (st.put t (.c (.d (.lit (.bool true))))) K)
  (h2:¬ p->SO P ops mu (.cons (some ⟨some d,op,ty,pos,af,some (j,want)⟩,i,b) r) (st.put t (.c (.d (.lit (.bool false))))) K):SO P ops mu (.cons (some ⟨some d,op,ty,pos,af,some (j,want)⟩,i,b) r) st K:=by
 by_cases hp:p
 ·exact so_le (St.put_le (by rw [hx,decide_eq_true hp])) (h1 hp)
 ·exact so_le (St.put_le (by rw [hx,decide_eq_false hp])) (h2 hp)
theorem jdf (hj:(ops[j]?).bind (·.dst)=some t) (hx:st.fr t = .c (.d (.lit (.bool x)))) 
  (h1:x=true->SO P ops mu (.cons (some ⟨some d,op,ty,pos,af,some (j,want)⟩,i,b) r) (st.put t (.c (.d (.lit (.bool true))))) K)
  (h2:x=false->SO P ops mu (.cons (some ⟨some d,op,ty,pos,af,some (j,want)⟩,i,b) r) (st.put t (.c (.d (.lit (.bool false))))) K):SO P ops mu (.cons (some ⟨some d,op,ty,pos,af,some (j,want)⟩,i,b) r) st K:=by
 cases x
 ·exact so_le (St.put_le hx) (h2 rfl)
 ·exact so_le (St.put_le hx) (h1 rfl)
end
end
section
variable {P:Program} {st:St} {dst:Option Tmp} {ty:TypeId} {pos:String} {af:Array Edge}
theorem jal {x:Operand} {y:C} (h:st.ev x = .c y):Qt P ⟨dst,.move x,ty,pos,af,none⟩ st (.c y):=h ▸ qt_move
theorem jcn {x:Operand} {y:List FV} (h:st.ev x = .t y):Qt P ⟨dst,.move x,ty,pos,af,none⟩ st (.t y):=h ▸ qt_move
theorem jak {x:Operand} {y:C} (h:st.ev x = .c y):Qt P ⟨dst,.assign x,ty,pos,af,none⟩ st (.c y):=h ▸ qt_assign
theorem jbr {c x z:Operand} {b:Bool} {y:C} (hc:st.ev c = .c (.d (.lit (.bool b)))) (h:(bif b then st.ev x else st.ev z) = .c y):Qt P ⟨dst,.pick c x z,ty,pos,af,none⟩ st (.c y):=by
 rw [<- h];cases b <;> exact qt_pick hc
inductive EvL (st : St) : List Operand -> List C -> Prop
 | nil:EvL st [] []
 | cons {x:Operand} {c:C} {xs:List Operand} {cs:List C} (h:st.ev x = .c c) (t:EvL st xs cs):EvL st (x :: xs) (c :: cs)
theorem jek {f:Fn} {xs:List Operand} {cs:List C} (h:EvL st xs cs):Qt P ⟨dst,.makeFunc f #[] ⟨xs⟩,ty,pos,af,none⟩ st (.c (.fn f cs)):=fun w0 ρ Φ a w hm=>by
 refine ⟨.func f #[] (xs.map a.eval).toArray,fun w' _=>by simp [execOp,Instr.makeFunc],.c _ _ (.fn f cs _ ?_ ?_)⟩
 ·clear hm; induction h with
  | nil=>rfl
  | cons h t ih=>simpa using ih
 ·intro k hk;induction h generalizing k with
  | nil=>simp at hk
  | cons h t ih =>
   rename_i x c xs cs;cases k with
   | zero=>have:=hm.ev x;rw [h] at this;exact this.c_inv
   | succ k=>simpa using ih k (by simpa using hk)
theorem jma {S:TypeId} {x:Operand} {f off:Nat} {T:TypeId} {cs:List C} {c:C} (hx:st.ev x = .g cs) (ht:tFldT P S f off T=true) (h1:tOne P T=true) (hc:cs[off]? = some c):Qt P ⟨dst,.field S x f,ty,pos,af,none⟩ st (.c c):=fun w0 ρ Φ a w hm=>by
 have h:=hm.ev x;rw [hx] at h;obtain ⟨us,hv,hl,hr⟩:=h.g_inv;obtain ⟨hlt,rfl⟩:=List.getElem?_eq_some_iff.1 hc;have e0:us[off]? = some (us.getD off undef):=by rw [List.getD_eq_getElem?_getD,List.getElem?_eq_getElem (by omega)];rfl
 have hr0:=hr off hlt;generalize us.getD off undef=gv at *;refine ⟨gv,fun w' _=>?_,.c _ _ hr0⟩;unfold tFldT at ht;cases hu:P.underlying S with
 | none=>simp [hu] at ht
 | some d =>
  cases d with
  | struct fs =>
   simp only [hu] at ht;cases hf:fs[f]? with
   | none=>simp [hf] at ht
   | some fd =>
    simp only [hf,Bool.and_eq_true,beq_iff_eq] at ht;obtain ⟨rfl,rfl⟩:=ht;simp [execOp,Instr.field,underlying,hu,hf,hv,asAgg,part,jhl h1,e0]
  | _=>simp [hu] at ht
theorem tArr_spec {T:TypeId} {l sz:Nat} (h:tArr P T l sz=true):∃ E i,P.underlying T=some (.array l E)/\P.info? E=some i/\i.size=sz:=by
 unfold tArr at h;cases hu:P.underlying T with
 | none=>simp [hu] at h
 | some d =>
  cases d with
  | array l' E =>
   simp only [hu,Bool.and_eq_true,beq_iff_eq,tSize] at h;obtain ⟨rfl,h2⟩:=h;cases hi:P.info? E with
   | none=>simp [hi] at h2
   | some i=>exact ⟨E,i,rfl,hi,by simpa [hi] using h2⟩
  | _=>simp [hu] at h
theorem qt_index_str {T:TypeId} {x y:Operand} {s:ByteArray} {k:IntKind} {j:Int} (hx:st.ev x = .c (.d (.lit (.string s)))) (hy:st.ev y = .c (.d (.lit (.int k j)))) (ht:tStr P T=true) (h0:0<=j) (h1:j < s.size) :
  Qt P ⟨dst,.index T x y,ty,pos,af,none⟩ st (.c (.d (.lit (.int .u8 (s.get! j.toNat).toNat)))):=fun w0 ρ Φ a w hm=>by
 have hu:=jhu ht;have h1':a.eval x = .string s:=FR.lit_inv (by rw [<- hx];exact hm.ev x);have h2:a.eval y = .int k j:=FR.lit_inv (by rw [<- hy];exact hm.ev y);refine ⟨.int .u8 (s.get! j.toNat).toNat,fun w' _=>?_,.litI rfl⟩;have hlt:j.toNat < s.size:=by omega
 have e:s[j.toNat]? = some (s.get! j.toNat):=by
  have:s[j.toNat]? = some s[j.toNat]:=by simp [hlt]
  rw [this]; congr 1;show s.get j.toNat _=s.get! j.toNat;cases s with|mk d=>simp [ByteArray.get,ByteArray.get!];rw [getElem!_pos]
 simp [execOp,h1',h2,Instr.index,asIntOf,underlying,hu,h0,e]
end
def getF:List (Nat×FV)->Nat->Option FV
 | [],_=>none
 | e :: r,k=>bif Nat.beq e.1 k then some e.2 else getF r k
def memN (k:Nat):List Nat->Bool
 | []=>false
 | x :: r=>Nat.beq x k || memN k r
def St.at (st:St) (U UB:List Nat) (V:List (Nat×FV)) (B:List (Nat×Blk)):St :=
 ⟨st.n,fun t=>match getF V t with|some v=>v|none=>bif memN t U then st.fr t else .c .junk,fun b=>match getL B b with|some x=>some x|none=>bif memN b UB then st.bl b else none⟩
def leF (st:St):List (Nat×FV)->Prop
 | []=>True
 | e :: r=>st.fr e.1=e.2/\leF st r
def leB (st:St):List (Nat×Blk)->Prop
 | []=>True
 | e :: r=>st.bl e.1=some e.2/\leB st r
def leU (st st0:St):List Nat->Prop
 | []=>True
 | t :: r=>st.fr t=st0.fr t/\leU st st0 r
def leUB (st st0:St):List Nat->Prop
 | []=>True
 | t :: r=>(st0.bl t=none∨st.bl t=st0.bl t)/\leUB st st0 r
theorem leF_get {st:St}:∀ {V:List (Nat×FV)},leF st V -> ∀ t v,getF V t=some v->st.fr t=v
 | e :: V,h,t,v,hg=>by
  unfold getF at hg;cases hb:Nat.beq e.1 t with
  | true=>rw [hb] at hg;cases hg;rw [<- Nat.eq_of_beq_eq_true hb];exact h.1
  | false=>rw [hb] at hg;exact leF_get h.2 t v hg
theorem leB_get {st:St}:∀ {V:List (Nat×Blk)},leB st V -> ∀ t v,getL V t=some v->st.bl t=some v
 | e :: V,h,t,v,hg=>by
  unfold getL at hg;split at hg
  ·rename_i hb;cases hg;rw [<- hb];exact h.1
  ·exact leB_get h.2 t v hg
theorem leU_get {st st0:St}:∀ {U:List Nat},leU st st0 U -> ∀ t,memN t U=true->st.fr t=st0.fr t
 | u :: U,h,t,hm=>by
  simp only [memN,Bool.or_eq_true] at hm;rcases hm with hm | hm
  ·rw [<- Nat.eq_of_beq_eq_true hm];exact h.1
  ·exact leU_get h.2 t hm
theorem leUB_get {st st0:St}:∀ {U:List Nat},leUB st st0 U -> ∀ t,memN t U=true->st0.bl t=none∨st.bl t=st0.bl t
 | u :: U,h,t,hm=>by
  simp only [memN,Bool.or_eq_true] at hm;rcases hm with hm | hm
  ·rw [<- Nat.eq_of_beq_eq_true hm];exact h.1
  ·exact leUB_get h.2 t hm
theorem jbp {st st0:St} {U UB:List Nat} {V:List (Nat×FV)} {B:List (Nat×Blk)} (hn:st.n=st0.n) (hV:leF st V) (hU:leU st st0 U) (hB:leB st B) (hUB:leUB st st0 UB):st.le (st0.at U UB V B):=by
 refine ⟨hn,fun t=>?_,fun b=>?_⟩
 ·unfold FV.le St.at;simp only;cases hg:getF V t with
  | some v=>exact .inr (leF_get hV t v hg)
  | none =>
   cases hm:memN t U with
   | true=>exact .inr (leU_get hU t hm)
   | false=>exact .inl rfl
 ·unfold St.at;simp only;cases hg:getL B b with
  | some v=>exact .inr (leB_get hB b v hg)
  | none =>
   cases hm:memN b UB with
   | true=>exact leUB_get hUB b hm
   | false=>exact .inl rfl
theorem leU_refl (st:St):∀ U,leU st st U
 | []=>trivial
 | _ :: U=>⟨rfl,leU_refl st U⟩
theorem leUB_refl (st:St):∀ U,leUB st st U
 | []=>trivial
 | _ :: U=>⟨.inr rfl,leUB_refl st U⟩
theorem jbf {P:Program} {R:St->Prop} {k:List Itm} {st:St} {c:Code} {G:Type} (U UB:List Nat) (V:G->List (Nat×FV)) (B:G->List (Nat×Blk)) (ok:G->Prop) (μ:G->Nat) (g0:G) (h0:ok g0) (hV:leF st (V g0)) (hB:leB st (B g0))
  (round:∀ g,ok g->SK P (.code c :: .back (fun st' => ∃ g',ok g'/\μ g' < μ g/\st'.le (st.at U UB (V g') (B g'))) :: k) (st.at U UB (V g) (B g)) R):SK P (.code (.loop c) :: k) st R :=
 sk_loop (fun g=>st.at U UB (V g) (B g)) ok μ g0 h0 (jbp rfl hV (leU_refl _ _) hB (leUB_refl _ _)) round
theorem jba {P:Program} {R:St->Prop} {k:List Itm} {st:St} {J:St->Prop} (h:J st):SK P (.back J :: k) st R:=⟨h⟩
theorem jbs {st:St} {b sz:Nat} {ds ds':List D} (h:st.bl b=some (.row sz ds)) (e:ds=ds'):st.bl b=some (.row sz ds'):=e ▸ h
theorem jdn {st:St} {b:Nat} {cs cs':List C} (h:st.bl b=some (.box cs)) (e:cs=cs'):st.bl b=some (.box cs'):=e ▸ h
theorem jcd {st:St} {t:Nat} {k:IntKind} {m n:Int} (h:st.fr t = .c (.d (.lit (.int k m)))) (e:m=n):st.fr t = .c (.d (.lit (.int k n))):=e ▸ h
theorem jjk {st:St} {t:Nat} {m n:ByteArray} (h:st.fr t = .c (.d (.lit (.string m)))) (e:m=n):st.fr t = .c (.d (.lit (.string n))):=e ▸ h
theorem bkL {P:Program} {R:St->Prop} {k:List Itm} {st st0:St} {G:Type} {ok:G->Prop} {mu:G->Nat} {n:Nat} {U UB:List Nat} {V:G->List (Nat×FV)} {B:G->List (Nat×Blk)} (g:G) (h1:ok g) (h2:mu g < n)
  (hV:leF st (V g):=by first|(repeat(first|exact trivial|refine ⟨(by first|rfl|(refine jcd rfl ?_;omega)),?_⟩));done|fail) (hU:leU st st0 U:=by first|(repeat(first|exact trivial|refine ⟨rfl,?_⟩))|fail)
  (hB:leB st (B g):=by first|(repeat(first|exact trivial|refine ⟨(by first|(refine jbs rfl ?_;simp;done)|(refine jdn rfl ?_;simp;done)|rfl),?_⟩))|fail)
  (hUB:leUB st st0 UB:=by first|(repeat(first|exact trivial|refine ⟨.inr rfl,?_⟩|refine ⟨.inl rfl,?_⟩))|fail) (hn:st.n=st0.n:=by exact rfl):SK P (.back (fun st' => ∃ g',ok g'/\mu g' < n/\st'.le (st0.at U UB (V g') (B g'))) :: k) st R :=
 jba ⟨g,h1,h2,jbp hn hV hU hB hUB⟩
theorem bkJ {P:Program} {R:St->Prop} {k:List Itm} {st st0:St} {G:Type} {ok:G->Prop} {U UB:List Nat} {V:G->List (Nat×FV)} {B:G->List (Nat×Blk)} (g:G) (h1:ok g)
  (hV:leF st (V g):=by first|(repeat(first|exact trivial|refine ⟨(by first|rfl|(refine jcd rfl ?_;omega)),?_⟩));done|fail) (hU:leU st st0 U:=by first|(repeat(first|exact trivial|refine ⟨rfl,?_⟩))|fail)
  (hB:leB st (B g):=by first|(repeat(first|exact trivial|refine ⟨(by first|(refine jbs rfl ?_;simp;done)|(refine jdn rfl ?_;simp;done)|rfl),?_⟩))|fail)
  (hUB:leUB st st0 UB:=by first|(repeat(first|exact trivial|refine ⟨.inr rfl,?_⟩|refine ⟨.inl rfl,?_⟩))|fail) (hn:st.n=st0.n:=by exact rfl):SK P (.back (fun st' => ∃ g',ok g'/\True/\st'.le (st0.at U UB (V g') (B g'))) :: k) st R :=
 jba ⟨g,h1,trivial,jbp hn hV hU hB hUB⟩
theorem jks {st:St} {t b sz off m n:Nat} (h:st.fr t = .c (.ls b sz off m)) (e:m=n):st.fr t = .c (.ls b sz off n):=e ▸ h
end Go.Proofs.YtbhbkbnlpackdaaGreatDoor
namespace Go.Proofs.YtbhbkbnlpackdaaGreatDoor
open Go.RowKit
section
variable [Glb]
open Go Go.RowKit
theorem OwL.split {w:World} {us:List Value} {xs:List D} {F:List Nat} (h:OwL w us xs F):∃ Fs:Nat->List Nat,F=parts xs.length Fs /\ ∀ k (hk:k < xs.length),Ow w (us.getD k undef) xs[k] (Fs k):=by
 induction h with
 | nil=>exact ⟨fun _=>[],rfl,fun k hk=>by simp at hk⟩
 | cons h t ih =>
  rename_i v x F vs xs G;obtain ⟨Fs,rfl,hF⟩:=ih;refine ⟨fun k=>match k with|0=>F|k+1=>Fs k,?_,fun k hk=>?_⟩
  ·unfold parts;rw [List.length_cons,List.range_succ_eq_map,List.flatMap_cons,List.flatMap_map]
  ·cases k with
   | zero=>exact h
   | succ k=>simpa using hF k (by simpa using hk)
theorem OwL.one {w:World} {us:List Value} {xs:List D} {F:List Nat} (h:OwL w us xs F):∀ u∈us,u.oneCell'=true:=by
 induction h with
 | nil=>intro u hu;cases hu
 | cons h t ih=>intro u hu;rcases List.mem_cons.1 hu with rfl|hu;exact h.one;exact ih u hu
theorem OwL.keep {w w':World} {us:List Value} {xs:List D} {F:List Nat} (h:OwL w us xs F) (hk:∀ b∈F,w'.heap[b]? = w.heap[b]?):OwL w' us xs F:=by
 induction h with
 | nil=>exact .nil
 | cons h t ih=>exact .cons (h.keep fun b hb=>hk b (List.mem_append_left _ hb)) (ih fun b hb=>hk b (List.mem_append_right _ hb))
theorem OwL.of {w:World}:∀ {xs:List D} {us:List Value} (Fs:Nat->List Nat),us.length=xs.length->(∀ k (hk:k < xs.length),Ow w (us.getD k undef) xs[k] (Fs k))->OwL w us xs (parts xs.length Fs)
 | [],[],_,_,_ => .nil
 | [],_ :: _,_,h,_=>by simp at h
 | _ :: _,[],_,h,_=>by simp at h
 | x :: xs,u :: us,Fs,hl,h=>by
  have:=OwL.of (xs:=xs) (us:=us) (fun k=>Fs (k+1)) (by simpa using hl) (fun k hk=>h (k+1) (by simpa using hk));have e:parts (x :: xs).length Fs=Fs 0++parts xs.length (fun k=>Fs (k+1)):=by
   unfold parts;rw [List.length_cons,List.range_succ_eq_map,List.flatMap_cons,List.flatMap_map]
  rw [e];exact .cons (h 0 Yby) this
def jle (ds:List D):Prop := ∀ x∈ds,∃ v,x = .lit v
theorem jle.nil:jle []:=fun _ h=>by cases h
theorem jle.map {α:Type} {l:List α} {f:α->Value}:jle (l.map fun x=>D.lit (f x)):=fun x hx=>by
 obtain ⟨y,_,rfl⟩:=List.mem_map.1 hx;exact ⟨_,rfl⟩
theorem jle.drop {ds:List D} (h:jle ds) (n:Nat):jle (ds.drop n):=fun x hx=>h x (List.mem_of_mem_drop hx)
theorem jle.take {ds:List D} (h:jle ds) (n:Nat):jle (ds.take n):=fun x hx=>h x (List.mem_of_mem_take hx)
theorem jle.append {ds es:List D} (h:jle ds) (k:jle es):jle (ds++es):=fun x hx=>(List.mem_append.1 hx).elim (h x) (k x)
theorem OwL.lits {w:World}:∀ {us:List Value} {xs:List D} {Fs:Nat->List Nat},jle xs->us.length=xs.length->(∀ k (hk:k < xs.length),Vw w (us.getD k undef) xs[k] (Fs k))->OwL w us xs []
 | [],[],_,_,_,_ => .nil
 | [],_ :: _,_,_,h,_=>by simp at h
 | _ :: _,[],_,_,h,_=>by simp at h
 | u :: us,x :: xs,Fs,hL,hl,h=>by
  obtain ⟨v,rfl⟩:=hL x (List.mem_cons_self ..);have h0:=h 0 Yby
  simp only [List.getD_cons_zero,List.getElem_cons_zero] at h0;generalize Fs 0=F at h0;cases h0 with
  | lit _ hs=>exact OwL.cons (F:=[]) (.lit _ hs) (OwL.lits (Fs:=fun k=>Fs (k+1)) (fun y hy=>hL y (List.mem_cons_of_mem _ hy)) (by simpa using hl) fun k hk=>h (k+1) (by simpa using hk))
inductive Fst (st : St) : FV -> Nat -> Nat -> List D -> List Nat -> Prop
 | nil (sz:Nat):Fst st (.c (.d (.lit (.slice none 0 0)))) sz 0 [] []
 | row (b sz n:Nat) (ds:List D) (hb:st.bl b=some (.row sz ds)) (hn:ds.length=n*sz):Fst st (.c (.ls b sz 0 n)) sz n ds [b]
inductive Snd (st : St) : FV -> Nat -> Nat -> List D -> List Nat -> Prop
 | nil (sz:Nat):Snd st (.c (.d (.lit (.slice none 0 0)))) sz 0 [] []
 | see (sz m:Nat) (es:List D) (hL:jle es):Snd st (.c (.d (.sl sz m es))) sz m es []
 | part (b sz off m:Nat) (es:List D) (hb:st.bl b=some (.row sz es)) (hle:off+m*sz<=es.length) (hL:jle ((es.drop off).take (m*sz))):Snd st (.c (.ls b sz off m)) sz m ((es.drop off).take (m*sz)) []
 | row (b sz m:Nat) (es:List D) (hb:st.bl b=some (.row sz es)) (hm:es.length=m*sz):Snd st (.c (.ls b sz 0 m)) sz m es [b]
def tBytes (P:Program) (T:TypeId) (sz by_:Nat):Bool:=match P.underlying T with
 | some (.slice E)=>match P.info? E with
  | some i=>i.size == sz&&i.bytes == by_&&(match i.zero with|some z=>z.cells.size == sz|none=>false)
  | none=>false
 | _=>false
theorem jiv {P:Program} {T:TypeId} {sz by_:Nat} (h:tBytes P T sz by_=true):∃ E i z,P.underlying T=some (.slice E)/\P.info? E=some i/\i.size=sz/\i.bytes=by_/\i.zero=some z/\z.cells.size=sz:=by
 unfold tBytes at h;cases hu:P.underlying T with
 | none=>simp [hu] at h
 | some d =>
  cases d with
  | slice E =>
   simp only [hu] at h;cases hi:P.info? E with
   | none=>simp [hi] at h
   | some i =>
    simp only [hi,Bool.and_eq_true,beq_iff_eq] at h;cases hz:i.zero with
    | none=>simp [hz] at h
    | some z=>exact ⟨E,i,z,rfl,hi,h.1.1,h.1.2,hz,by simpa [hz] using h.2⟩
  | _=>simp [hu] at h
section
variable {P:Program} {w:World}
theorem joj {T ty:TypeId} {sz by_:Nat} (ht:tBytes P T sz by_=true) (hsz:0 < sz) {v x:Value} {n m:Nat} {olds news:List Value} (ho:olds.length=n*sz) (hnl:news.length=m*sz)
    (hv:(v = .slice none 0 0/\n=0) ∨ ∃ g cap us E,v = .slice (some ⟨g,0,none⟩) n cap/\(n<=cap/\cap<=9223372036854775807)/\w.heap[g]? = some (.cells us E (0,0))/\cap*sz<=us.size/\us.toList.take (n*sz)=olds)
    (hx:∃ ao c,x = .slice ao m c/\(0 < m -> ∃ ad,ao=some ad /\ ∀ j u,news[j]? = some u->w.cell? (ad.add j)=some u)) (h1:∀ u∈news,u.oneCell'=true)
    (h63:n+m<=9223372036854775807) (hby:(n+m)*by_<=140737488355328) :
    ∃ v' w', (Builtin.append_ #[T, T] ty #[v, x]).run P w = .ok v' w' /\
      ((v' = .slice none 0 0 /\ n + m = 0 /\ w' = w) ∨
       (∃ g cap us us' E,v = .slice (some ⟨g,0,none⟩) n cap/\v' = .slice (some ⟨g,0,none⟩) (n+m) cap/\(n+m<=cap/\cap<=9223372036854775807)/\w.heap[g]? = some (.cells us E (0,0))/\cap*sz<=us.size/\us'.size=us.size/\us'.toList.take ((n+m)*sz)=olds++news/\w'=w.setRow g us') ∨
       (∃ g cap us E,v' = .slice (some ⟨g,0,none⟩) (n+m) cap/\w.heap.size<=g/\(n+m<=cap/\cap<=9223372036854775807)/\w'.heap[g]? = some (.cells us E (0,0))/\cap*sz<=us.size/\us.toList.take ((n+m)*sz)=olds++news/\Below w.heap.size w w')):=by
  obtain ⟨E,i,z,hu,hi,hs,hb,hz,hzs⟩:=jiv ht;have hmx:n+m<=maxLen:=by unfold maxLen;omega
  have hint:(match P.underlying T with|some (.int _)=>true|_=>false)=false:=by rw [hu]
  by_cases hm0:m=0
  · subst hm0
    have hnews:news=[]:=List.eq_nil_of_length_eq_zero (by simpa using hnl);subst hnews;obtain ⟨ao,c,rfl,_⟩:=hx;have hfc:∀ size,(Builtin.firstCells size 0 (.slice ao 0 c)).run P w = .ok #[] w:=by
      intro size;cases ao with
      | none=>simp [Builtin.firstCells]
      | some a=>simp only [Builtin.firstCells,Nat.zero_mul];rfl
    rcases hv with ⟨rfl,rfl⟩|⟨g,cap,us,E',rfl,⟨hnc,hc63⟩,hg,hcap,htake⟩
    · refine ⟨.slice none 0 0, w, ?_, .inl ⟨rfl, rfl, rfl⟩⟩
      simp [Builtin.append_,run_underlying hu,sizeOf,typeInfo,hi,Builtin.lenOf,hfc]
    · refine ⟨.slice (some ⟨g, 0, none⟩) n cap, w, ?_, .inr (.inl ⟨g, cap, us, us, E', rfl, rfl, ⟨hnc, hc63⟩, hg, hcap, rfl, by simpa using htake, ?_⟩)⟩
      · simp [Builtin.append_,run_underlying hu,sizeOf,typeInfo,hi,Builtin.lenOf,hfc,hnc,storeCells]
      · rw [setRow_self w g us E' (0,0) hg]
  · obtain ⟨ao, c, rfl, hx⟩ := hx
    obtain ⟨ad,rfl,hc⟩:=hx Kf;have fresh : ∀ {v' w'}, (Builtin.append_ #[T, T] ty #[v, .slice (some ad) m c]).run P w = .ok v' w' -> w'.ownsRow w.heap.size E sz v' (n + m) (olds ++ news) -> w.grownBy w' none ->
        ∃ g cap us E,v' = .slice (some ⟨g,0,none⟩) (n+m) cap/\w.heap.size<=g/\(n+m<=cap/\cap<=9223372036854775807)/\w'.heap[g]? = some (.cells us E (0,0))/\cap*sz<=us.size/\us.toList.take ((n+m)*sz)=olds++news/\Below w.heap.size w w':=by
      intro v' w' _ ⟨_,hown⟩ hgr;rcases hown with ⟨_,h0⟩|⟨g,cap,cur,rfl,hgb,hh,hnc,hmx2,hsz2,htk⟩
      · omega
      · exact ⟨g,cap,cur,E,rfl,hgb,⟨hnc,hmx2⟩,hh,by omega,htk,⟨hgr.os,hgr.tape,hgr.output,hgr.size,fun k hk=>hgr.block k hk Yby⟩⟩
    rcases hv with ⟨rfl,rfl⟩|⟨g,cap,us,E',rfl,⟨hnc,hc63⟩,hg,hcap,htake⟩
    · have holds : olds = [] := List.eq_nil_of_length_eq_zero (by simpa using ho)
      subst holds;obtain ⟨v',w',hrun,r1,r2,_⟩:=run_append_own (P:=P) w w.heap.size T ty E i z sz by_ hu hi hz hs hb hzs hsz (.slice none 0 0) 0 [] (World.ownsRow_nil w _ E sz) ad m c news hnl hc h1 hmx hby (Nat.le_refl _);exact ⟨v',w',hrun,.inr (.inr (fresh hrun r1 r2))⟩
    · by_cases hroom : n + m <= cap
      · have hfit : n * sz + news.length <= us.size := by rw [hnl, <- Nat.add_mul];exact Nat.le_trans (Nat.mul_le_mul_right _ hroom) hcap
        have hst:=run_storeCells_at (P:=P) g (n*sz) E' news 0 us w hg Kf h1;simp only [Nat.add_zero] at hst;have hfc:(Builtin.firstCells sz m (.slice (some ad) m c)).run P w = .ok news.toArray w:=by
          simp only [Builtin.firstCells];have:=run_loadCells_list (P:=P) w ad news hc;rwa [hnl] at this
        refine ⟨.slice (some ⟨g,0,none⟩) (n+m) cap,w.setRow g (us.toList.take (n*sz)++news++us.toList.drop (n*sz+news.length)).toArray,?_,.inr (.inl ⟨g,cap,us,_,E',rfl,rfl,⟨hroom,hc63⟩,hg,hcap,?_,?_,rfl⟩)⟩
        · have hadd : (⟨g, 0, none⟩ : Addr).add (n * sz) = ⟨g, n * sz, none⟩ := by rw [jgu, Nat.zero_add]
          simp [Builtin.append_,run_underlying hu,sizeOf,typeInfo,hi,Builtin.lenOf,hroom,hs,hfc,hadd,hst]
        · simp; omega
        · simp only [List.append_assoc]
          rw [htake,<- List.append_assoc];have:(n+m)*sz=(olds++news).length:=by rw [List.length_append,ho,hnl,Nat.add_mul]
          rw [this];exact List.take_left
      · have hsz' : olds.length <= us.size := by rw [ho];exact Nat.le_trans (Nat.mul_le_mul_right _ hnc) hcap
        obtain ⟨v',w',hrun,r1,r2⟩:=run_append_arg_grows (P:=P) w T ty E i z sz by_ hu hi hz hs hb hzs hsz ⟨g,0,none⟩ n cap olds ho (fun j u hj=>by
          rw [jgu,Nat.zero_add,cell_of_row w g j us E' (0,0) hg];have hj':j < olds.length:=(List.getElem?_eq_some_iff.1 hj).1;rw [<- htake,List.getElem?_take_of_lt Kf] at hj;simpa using hj) ad m c news hnl hc Kf hmx hby
        exact ⟨v',w',hrun,.inr (.inr (fresh hrun r1 r2))⟩
end
theorem nodup_two {Φ:Nat->List Nat} (nd:∀ b,(Φ b).Nodup) (dj:∀ b b' g,g∈Φ b->g∈Φ b'->b=b') {S1 S2:List Nat} (h:(S1++S2).Nodup):(S1.flatMap Φ++S2.flatMap Φ).Nodup:=by
 rw [<- List.flatMap_append];exact jee nd dj h
theorem Sm.newRow {st:St} {w0:Ctx} {w w':World} {ρ:Nat->Option Nat} {Φ:Nat->List Nat} {a:Act} (hm:Sm w0 ρ Φ st a w) (S:List Nat) (b sz:Nat) (ds:List D) (rr:Option Nat) (F:List Nat) (hbel:Kp w0 w w')
  (hw:∀ g,(∀ c∈S,g ∉ Φ c)->g < w.heap.size->w'.heap[g]? = w.heap[g]?) (hs:Shp w w') (hnd:F.Nodup) (hF:∀ g∈F,(∃ c∈S,g∈Φ c)∨w.heap.size<=g) (hbl:b < 1000000) (hx:∀ ρ Φ,BR w' ρ Φ rr (.row sz ds) F) :
  ∃ ρ' Φ',Sm w0 ρ' Φ' ((st.drop S).new [(b,.row sz ds)]) a w'/\ρ' b=rr:=by
 obtain ⟨ρ', Φ', h1, h2, _, _⟩ := hm.new (w' := w') S [(b, .row sz ds)] (fun _ => rr) (fun _ => F) hbel hw hs (fun _ _ => hnd) (fun b1 b2 g h1 h2 _ _ => by simp [inL] at h1 h2; omega) (fun _ _ => hF) (fun c hc => by simp [inL] at hc; omega)
  (fun ρ' Φ' _ _ _ c x hx'=>by
   simp only [getL] at hx';split at hx'
   ·cases hx';exact hx ρ' Φ'
   ·cases hx')
 exact ⟨ρ',Φ',h1,h2 b (by simp [inL])⟩
section
variable {P:Program} {ops:Array Oper} {mu:Nat->Bool} {r:OT} {st:St} {K:St->Prop} {i:Nat} {ty:TypeId} {pos:String} {af:Array Edge}
theorem so_append {T:TypeId} {s x:Operand} {d sz by_ n m:Nat} {ds es:List D} {S1 S2:List Nat} (b':Nat) (h1:Fst st (st.ev s) sz n ds S1) (h2:Snd st (st.ev x) sz m es S2) (hS:(S1++S2).Nodup) (ht:tBytes P T sz by_=true) (hz:0 < sz)
    (h63:n+m<=9223372036854775807) (hby:(n+m)*by_<=140737488355328) (hd:Nat.blt d st.n=true) (hmu:mu i=true) (hbl:Nat.blt b' 1000000=true)
    (h:SO P ops mu r (((st.drop (S1++S2)).new [(b',.row sz (ds++es))]).put d (.c (.ls b' sz 0 (n+m)))) K) :
    SO P ops mu (.cons (some ⟨some d,.call { callee:=.builtin .append,args := #[s,x],argTypes := #[T,T] },ty,pos,af,none⟩,i,false) r) st K:=by
  refine so_m hmu fun w0 a w hs next Q hn=>?_;obtain ⟨ρ,Φ,hm⟩:=hs;have hvs:=hm.ev s;have hvx:=hm.ev x;generalize hv:a.eval s=v at *;generalize hxv:a.eval x=xv at *;generalize st.ev s=fs at *;generalize st.ev x=fx at *;have first : ∃ olds : List Value, olds.length = n * sz /\ ds.length = n * sz /\ OwL w olds ds (S1.flatMap Φ |>.filter fun g => decide (some g ≠ v.ownBlock)) /\
      ((v = .slice none 0 0/\n=0) ∨ ∃ g cap us E,v = .slice (some ⟨g,0,none⟩) n cap/\(n<=cap/\cap<=9223372036854775807)/\w.heap[g]? = some (.cells us E (0,0))/\cap*sz<=us.size/\us.toList.take (n*sz)=olds/\g∈S1.flatMap Φ):=by
    cases h1 with
    | nil =>
      have:v = .slice none 0 0:=FR.lit_inv hvs;subst this;exact ⟨[],by simp,by simp,.nil,.inl ⟨rfl,rfl⟩⟩
    | row b _ _ _ hb hnn =>
      simp only [List.flatMap_cons,List.flatMap_nil,List.append_nil];rcases hm.rowN hb with ⟨h0,rfl,hΦ,_⟩|⟨g,us,E,vs,Fs,hρ,hΦ,_,hg,hl,hcc,hr⟩
      · rcases jgb hvs.c_inv with ⟨_, rfl, _, rfl⟩|⟨g, _, _, _, hρ, _⟩
        · rw [hΦ];exact ⟨[],by simp,by simp,.nil,.inl ⟨rfl,rfl⟩⟩
        · rw [h0] at hρ;cases hρ
      · rcases jgb hvs.c_inv with ⟨h0, _⟩|⟨g', cap, cs, E', hρ', rfl, hnc, hle, hg', hcap⟩
        · rw [h0] at hρ;cases hρ
        · rw [hρ] at hρ';cases hρ'
          rw [hg] at hg';cases hg';have hnd:=hm.nd b;rw [hΦ,List.nodup_cons] at hnd;have hfil:((g :: parts ds.length Fs).filter fun g'=>decide (some g'≠(Value.slice (some ⟨g,0,none⟩) n cap).ownBlock))=parts ds.length Fs:=by
            rw [List.filter_cons_of_neg (by simp [Value.ownBlock])];refine List.filter_eq_self.2 fun x hx=>?_;simp only [Value.ownBlock,ne_eq,Option.some.injEq,decide_eq_true_eq];exact fun e=>hnd.1 (e ▸ hx)
          refine ⟨us.toList.take (n*sz),by simp;omega,hnn,?_,.inr ⟨g,cap,us,E,rfl,⟨hnc,hle⟩,hg,by omega,rfl,by rw [hΦ];exact List.mem_cons_self ..⟩⟩;rw [hΦ,hfil];refine OwL.of Fs Ybw fun k hk=>?_;have:(us.toList.take (n*sz)).getD k undef=vs k:=by
            rw [List.getD_eq_getElem?_getD,List.getElem?_take_of_lt Kf];have:=hcc k hk;rw [<- Array.getElem?_toList] at this;rw [this]; rfl
          rw [this];exact hr k hk
  have lits : ∀ {es : List D} {F : List Nat}, Vw w xv (.sl sz m es) F -> jle es -> ∃ news : List Value, ∃ G : List Nat, news.length = m * sz /\ es.length = m * sz /\ OwL w news es G /\ G.Nodup /\ (∀ g ∈ G, g ∈ S2.flatMap Φ) /\
      ∃ ao c,xv = .slice ao m c/\(0 < m -> ∃ ad,ao=some ad /\ ∀ j u,news[j]? = some u->w.cell? (ad.add j)=some u):=by
    intro es F hF hL;cases hF with
    | sl ao _ cap _ _ us Fs hn' hz' hle hs hc hr =>
      refine ⟨(List.range es.length).map us,[],by simp [hn'],hn',OwL.lits (Fs:=Fs) hL Yby (fun k hk=>?_),List.nodup_nil,fun g hg=>(by cases hg),ao,cap,rfl,fun h0=>?_⟩
      · have : ((List.range es.length).map us).getD k undef = us k := by rw [List.getD_eq_getElem?_getD];simp [hk]
        rw [this];exact hr k hk
      · obtain ⟨ad, rfl⟩ := Option.isSome_iff_exists.1 (hs h0)
        refine ⟨ad,rfl,fun j u hj=>?_⟩;obtain ⟨hj1,rfl⟩:=List.getElem?_eq_some_iff.1 hj;simp only [List.getElem_map,List.getElem_range];exact hc j (by simpa using hj1)
  have second : ∃ news : List Value, ∃ G : List Nat, news.length = m * sz /\ es.length = m * sz /\ OwL w news es G /\ G.Nodup /\ (∀ g ∈ G, g ∈ S2.flatMap Φ) /\
      ∃ ao c,xv = .slice ao m c/\(0 < m -> ∃ ad,ao=some ad /\ ∀ j u,news[j]? = some u->w.cell? (ad.add j)=some u):=by
    cases h2 with
    | nil=>exact ⟨[],[],by simp,by simp,.nil,List.nodup_nil,fun g hg=>(by cases hg),none,0,FR.lit_inv hvx,fun h=>absurd h Kf⟩
    | see _ _ _ hL=>obtain ⟨F,hF,_⟩:=hvx.d_inv;exact lits hF hL
    | part b _ off _ es0 hb hle hL=>obtain ⟨F,hF⟩:=hm.row_vw hb hle hvx.c_inv;exact lits hF hL
    | row b _ _ _ hb hmm =>
      simp only [List.flatMap_cons,List.flatMap_nil,List.append_nil];rcases hm.rowN hb with ⟨h0,rfl,hΦ,_⟩|⟨g,us,E,vs,Fs,hρ,hΦ,_,hg,hl,hcc,hr⟩
      · rcases jgb hvx.c_inv with ⟨_, rfl, _, rfl⟩|⟨g, _, _, _, hρ, _⟩
        · exact ⟨[],[],by simp,by simp,.nil,List.nodup_nil,fun g hg=>(by cases hg),none,0,rfl,fun h=>absurd h Kf⟩
        · rw [h0] at hρ;cases hρ
      · rcases jgb hvx.c_inv with ⟨h0, _⟩|⟨g', cap, cs, E', hρ', rfl, hnc, hle, hg', hcap⟩
        · rw [h0] at hρ;cases hρ
        · rw [hρ] at hρ';cases hρ'
          have hnd:=hm.nd b;rw [hΦ,List.nodup_cons] at hnd;refine ⟨(List.range es.length).map vs,parts es.length Fs,by simp [hmm],hmm,OwL.of Fs Yby (fun k hk=>?_),hnd.2,fun g hg=>by rw [hΦ];exact List.mem_cons_of_mem _ hg,some ⟨g,0,none⟩,cap,rfl,fun _=>⟨_,rfl,fun j u hj=>?_⟩⟩
          · have : ((List.range es.length).map vs).getD k undef = vs k := by rw [List.getD_eq_getElem?_getD];simp [hk]
            rw [this];exact hr k hk
          · obtain ⟨hj1, rfl⟩ := List.getElem?_eq_some_iff.1 hj
            simp only [List.getElem_map,List.getElem_range];rw [jgu,Nat.zero_add,cell_of_row w g j us E (0,0) hg];exact hcc j (by simpa using hj1)
  obtain ⟨olds,ho1,ho2,ho3,ho4⟩:=first;obtain ⟨news,G,hn1,hn2,hn3,hn4,hn5,hn6⟩:=second;obtain ⟨v',w',hrun,hcase⟩:=joj (P:=P) (ty:=ty) (T:=T) ht hz ho1 hn1 (by
    rcases ho4 with h|⟨g,cap,us,E,h1,h2,h3,h4,h5,_⟩
    · exact .inl h
    · exact .inr ⟨g,cap,us,E,h1,h2,h3,h4,h5⟩) hn6 hn3.one h63 hby
  have hnd0:=nodup_two hm.nd hm.dj hS;rw [List.nodup_append] at hnd0;have memS:∀ g,g∈S1.flatMap Φ∨g∈S2.flatMap Φ -> ∃ c∈S1++S2,g∈Φ c:=fun g hg=>by
    rcases hg with hg | hg
    · obtain ⟨c,hc,h⟩:=List.mem_flatMap.1 hg;exact ⟨c,List.mem_append_left _ hc,h⟩
    · obtain ⟨c,hc,h⟩:=List.mem_flatMap.1 hg;exact ⟨c,List.mem_append_right _ hc,h⟩
  have hltS:∀ g,g∈S1.flatMap Φ∨g∈S2.flatMap Φ->g < w.heap.size:=fun g hg=>by obtain ⟨c,_,h⟩:=memS g hg;exact hm.lt h
  have hdsl:(ds++es).length=(n+m)*sz:=by rw [List.length_append,ho2,hn2,Nat.add_mul]
  have hall:=ho3.append hn3;have fin : ∀ (rr : Option Nat) (F : List Nat), Kp w0 w w' -> (∀ g, (∀ c ∈ S1 ++ S2, g ∉ Φ c) -> g < w.heap.size -> w'.heap[g]? = w.heap[g]?) -> Shp w w' -> F.Nodup -> (∀ g ∈ F, (∃ c ∈ S1 ++ S2, g ∈ Φ c) ∨ w.heap.size <= g) ->
      (∀ ρ Φ,BR w' ρ Φ rr (.row sz (ds++es)) F)->(∀ ρ':Nat->Option Nat,∀ Φ',ρ' b'=rr->CR w' ρ' Φ' v' (.ls b' sz 0 (n+m)))->Oper.wp P ⟨some d,.call { callee:=.builtin .append,args := #[s,x],argTypes := #[T,T] },ty,pos,af,none⟩ a w next Q:=by
    intro rr F f1 f2 f3 f4 f5 f6 f7;obtain ⟨ρ',Φ',hm',hρ'⟩:=hm.newRow (S1++S2) b' sz (ds++es) rr F f1 f2 f3 f4 f5 (by simpa using hbl) f6;refine jir (w':=w') (v:=v') ?_ (hn _ _ (fun h=>by cases h) ⟨_,⟨ρ',Φ',hm'.put (.c _ _ (f7 ρ' _ hρ')) d (by simpa [St.new,St.kill,(jgt (S1++S2) st).2] using hd)⟩,h⟩);simp [execOp,resolve,invoke,hv,hxv,builtin,hrun]
  rcases hcase with ⟨rfl,h0,rfl⟩|⟨g,cap,us,us',E,rfl,rfl,⟨hfit,hc63⟩,hg,hcap,hsz,htk,rfl⟩|⟨g,cap,us,E,rfl,hgn,⟨hfit,hc63⟩,hg,hcap,htk,hbw⟩
  · have hnil : ds ++ es = [] := List.eq_nil_of_length_eq_zero (by rw [hdsl, h0, Nat.zero_mul])
    refine fin none [] (Kp.refl _ _) (fun _ _ _=>rfl) (fun g cs E hg=>⟨cs,hg,rfl⟩) List.nodup_nil (fun g hg=>by cases hg) (fun ρ Φ=>by rw [hnil];exact .nil sz hz) fun ρ' Φ' hρ=>?_;rw [h0];exact .ls0 b' sz hρ
  · obtain ⟨hgS,hcapE⟩:g∈S1.flatMap Φ/\True:=by
      rcases ho4 with ⟨h,_⟩|⟨g2,cap2,us2,E2,h1,_,_,_,_,h6⟩
      · cases h
      · cases h1;exact ⟨h6,trivial⟩
    have hgΦ:=memS g (.inl hgS);obtain ⟨c,hcS,hgc⟩:=hgΦ;have hne:∀ g2,g2≠g->(w.setRow g us').heap[g2]? = w.heap[g2]? := fun g2 h=>setRow_other w g g2 _ h;have hall':OwL (w.setRow g us') (olds++news) (ds++es) ((S1.flatMap Φ).filter (fun g'=>decide (some g'≠(Value.slice (some ⟨g,0,none⟩) n cap).ownBlock))++G):=hall.keep fun g2 hg2=>hne g2 fun e=>by
      subst e;rcases List.mem_append.1 hg2 with h|h
      · have:=(List.mem_filter.1 h).2;simp [Value.ownBlock] at this
      · exact hnd0.2.2 g2 hgS g2 (hn5 g2 h) rfl
    obtain ⟨Fs,hFs,hOw⟩:=hall'.split;have hgnot:g ∉ parts (ds++es).length Fs:=fun h=>by
      rw [<- hFs] at h;rcases List.mem_append.1 h with h|h
      · have:=(List.mem_filter.1 h).2;simp [Value.ownBlock] at this
      · exact hnd0.2.2 g hgS g (hn5 g h) rfl
    refine fin (some g) (g :: parts (ds++es).length Fs) (jhx (hm.low c g hgc) (jfs hg hsz)) (fun g2 h2 _=>hne g2 fun e=>h2 c hcS (e ▸ hgc)) (jfs hg hsz) (List.nodup_cons.2 ⟨hgnot,?_⟩) (fun g2 hg2 => .inl ?_) (fun ρ Φ=>?_) fun ρ' Φ' hρ=>?_
    · rw [<- hFs]
      exact List.nodup_append.2 ⟨hnd0.1.filter _,hn4,fun a ha b hb=>hnd0.2.2 a (List.mem_filter.1 ha).1 b (hn5 b hb)⟩
    · rcases List.mem_cons.1 hg2 with rfl|hg2
      · exact ⟨c,hcS,hgc⟩
      · rw [<- hFs] at hg2
        rcases List.mem_append.1 hg2 with h|h
        · exact memS g2 (.inl (List.mem_filter.1 h).1)
        · exact memS g2 (.inr (hn5 g2 h))
    · have hle : (ds ++ es).length <= us'.size := by rw [hdsl, hsz];exact Nat.le_trans (Nat.mul_le_mul_right _ hfit) hcap
      refine .row g us' E sz (ds++es) (fun k=>(olds++news).getD k undef) Fs hz (setRow_heap w g us us' E (0,0) hg) hle (fun k hk=>?_) hOw;have hk2:k < (olds++news).length:=by rw [hall.len];exact hk
      have:us'.toList[k]? = (olds++news)[k]? := by rw [<- htk,List.getElem?_take_of_lt (by rw [<- hdsl];exact hk)]
      rw [<- Array.getElem?_toList,this,List.getElem?_eq_getElem hk2,List.getD_eq_getElem?_getD,List.getElem?_eq_getElem hk2];rfl
    · exact .ls b' g sz 0 (n+m) cap us' E hρ hfit hc63 (setRow_heap w g us us' E (0,0) hg) Kf
  · have hsame : ∀ g2, g2 < w.heap.size -> w'.heap[g2]? = w.heap[g2]? := fun g2 h2 => hbw.block g2 h2
    have hFlt:∀ g2,g2∈(S1.flatMap Φ).filter (fun g'=>decide (some g'≠v.ownBlock))++G->g2 < w.heap.size:=fun g2 h2=>by
      rcases List.mem_append.1 h2 with h|h
      · exact hltS g2 (.inl (List.mem_filter.1 h).1)
      · exact hltS g2 (.inr (hn5 g2 h))
    have hall':=hall.keep (w':=w') fun g2 hg2=>hsame g2 (hFlt g2 hg2);obtain ⟨Fs,hFs,hOw⟩:=hall'.split;refine fin (some g) (g :: parts (ds++es).length Fs) (.of_below hbw hm.below.size) (fun g2 _ h2=>hsame g2 h2) (.of_below hbw) (List.nodup_cons.2 ⟨fun h=>by rw [<- hFs] at h;have:=hFlt g h;omega,?_⟩) (fun g2 hg2=>?_) (fun ρ Φ=>?_) fun ρ' Φ' hρ=>?_
    · rw [<- hFs]
      exact List.nodup_append.2 ⟨hnd0.1.filter _,hn4,fun a ha b hb=>hnd0.2.2 a (List.mem_filter.1 ha).1 b (hn5 b hb)⟩
    · rcases List.mem_cons.1 hg2 with rfl|hg2
      · exact .inr hgn
      · rw [<- hFs] at hg2
        rcases List.mem_append.1 hg2 with h|h
        · exact .inl (memS g2 (.inl (List.mem_filter.1 h).1))
        · exact .inl (memS g2 (.inr (hn5 g2 h)))
    · have hle : (ds ++ es).length <= us.size := by rw [hdsl];exact Nat.le_trans (Nat.mul_le_mul_right _ hfit) hcap
      refine .row g us E sz (ds++es) (fun k=>(olds++news).getD k undef) Fs hz hg hle (fun k hk=>?_) hOw;have hk2:k < (olds++news).length:=by rw [hall.len];exact hk
      have:us.toList[k]? = (olds++news)[k]? := by rw [<- htk,List.getElem?_take_of_lt (by rw [<- hdsl];exact hk)]
      rw [<- Array.getElem?_toList,this,List.getElem?_eq_getElem hk2,List.getD_eq_getElem?_getD,List.getElem?_eq_getElem hk2];rfl
    · exact .ls b' g sz 0 (n+m) cap us E hρ hfit hc63 hg Kf
end
theorem fold_set:∀ (vs pre mid post:List Value) (j off:Nat),mid.length=vs.length->off+j=pre.length ->
  (vs.zipIdx j).foldl (fun (cs:Array Value) (x:Value×Nat)=>cs.setIfInBounds (off+x.2) x.1) (pre++mid++post).toArray=(pre++vs++post).toArray
 | [],pre,mid,post,j,off,hm,_=>by
  have:mid=[]:=List.eq_nil_of_length_eq_zero (by simpa using hm);subst this; simp
 | v :: vs,pre,[],post,j,off,hm,_=>by simp at hm
 | v :: vs,pre,m :: mid,post,j,off,hm,ho=>by
  rw [List.zipIdx_cons,List.foldl_cons,List.setIfInBounds_toArray];have e:(pre++m :: mid++post).set (off+j) v=(pre++[v])++mid++post:=by
   rw [ho,List.append_assoc,List.set_append_right _ _ (Nat.le_refl _),Nat.sub_self,List.cons_append,List.set_cons_zero];simp
  simp only at e ⊢;rw [e,fold_set vs (pre++[v]) mid post (j+1) off (by simpa using hm) Ybw];simp
theorem fold_set0 (vs:Array Value) (off:Nat) (arr:List Value) (h:off+vs.size<=arr.length) :
  vs.zipIdx.foldl (fun (cs:Array Value) (x:Value×Nat)=>cs.setIfInBounds (off+x.2) x.1) arr.toArray=(arr.take off++vs.toList++arr.drop (off+vs.size)).toArray:=by
 have:=fold_set vs.toList (arr.take off) ((arr.drop off).take vs.size) (arr.drop (off+vs.size)) 0 off Ybw Ybw;have e:arr.take off++(arr.drop off).take vs.size++arr.drop (off+vs.size)=arr:=by
  rw [<- List.drop_drop,List.append_assoc,List.take_append_drop,List.take_append_drop]
 rw [e] at this;rw [<- Array.foldl_toList,Array.toList_zipIdx];exact this
inductive GvS (st : St) (sz : Nat) : Nat -> List (Nat × Operand) -> List D -> List Nat -> Prop
 | nil (n:Nat):GvS st sz n [] [] []
 | c {n:Nat} {x:Operand} {c:C} {y:D} {S:List Nat} {r:List (Nat×Operand)} {ds:List D} {S':List Nat} (hx:st.ev x = .c c) (ho:c.ok=true) (h:Gv st c y S) (h1:sz=1) (t:GvS st sz (n+1) r ds S'):GvS st sz n ((n,x) :: r) (y :: ds) (S++S')
 | g {n:Nat} {x:Operand} {cs:List C} {ys:List D} {S:List Nat} {r:List (Nat×Operand)} {ds:List D} {S':List Nat} (hx:st.ev x = .g cs) (h:GvL st cs ys S) (hl:ys.length=sz) (t:GvS st sz (n+1) r ds S'):GvS st sz n ((n,x) :: r) (ys++ds) (S++S')
section
variable {st:St} {w0:Ctx} {w:World} {ρ:Nat->Option Nat} {Φ:Nat->List Nat} {a:Act}
theorem GvS.fill (hm:Sm w0 ρ Φ st a w) {sz n:Nat} {ps:List (Nat×Operand)} {ds:List D} {S:List Nat} (h:GvS st sz n ps ds S) :
    ∃ us, OwL w us ds (S.flatMap Φ) /\ us.length = ps.length * sz /\ ∀ (pre rest : List Value), pre.length = n * sz -> us.length <= rest.length ->
      Instr.fill (fun i=>some (i*sz,sz)) (pre++rest).toArray (ps.map fun p=>(p.1,a.eval p.2))=some (pre++us++rest.drop us.length).toArray:=by
  have step : ∀ {n : Nat} {v : Value} {cs : List Value} {ps : List (Nat × Value)} {us : List Value}, v.cells = cs.toArray -> cs.length = sz ->
      (∀ (pre rest:List Value),pre.length=(n+1)*sz->us.length<=rest.length->Instr.fill (fun i=>some (i*sz,sz)) (pre++rest).toArray ps=some (pre++us++rest.drop us.length).toArray) ->
      ∀ (pre rest:List Value),pre.length=n*sz->(cs++us).length<=rest.length->Instr.fill (fun i=>some (i*sz,sz)) (pre++rest).toArray ((n,v) :: ps)=some (pre++(cs++us)++rest.drop (cs++us).length).toArray:=by
    intro n v cs ps us hv hl ih pre rest hp hle;unfold Instr.fill;rw [List.length_append] at hle;have hsz:v.cells.size=sz:=by rw [hv];simpa using hl
    simp only [hsz,ne_eq,not_true,decide_false,Bool.false_or];rw [if_neg Ybw];have hf:=fold_set0 v.cells (n*sz) (pre++rest) Ybw;rw [hf, hv];have e:(pre++rest).take (n*sz)++cs++(pre++rest).drop (n*sz+cs.length)=(pre++cs)++rest.drop cs.length:=by
      rw [<- hp,List.take_left,<- List.drop_drop,List.drop_left]
    simp only [List.size_toArray];rw [e,ih (pre++cs) (rest.drop cs.length) (by simp [hp,hl,Nat.add_mul]) Ybw];simp [List.drop_drop]
  induction h with
  | nil n=>exact ⟨[],.nil,by simp,fun pre rest _ _=>by simp [Instr.fill]⟩
  | c hx ho h h1 t ih =>
    subst h1;rename_i n x c y S r ds S';obtain ⟨us,hu1,hu2,hu3⟩:=ih;have hv:=hm.ev x;rw [hx] at hv;refine ⟨a.eval x :: us,by rw [List.flatMap_append];exact .cons (Gv.ow hm hv.c_inv h) hu1,by simp [hu2],?_⟩;exact step (cs:=[a.eval x]) (jla (hv.c_inv.one ho)) rfl hu3
  | g hx h hl t ih =>
    rename_i n x cs ys S r ds S';obtain ⟨us,hu1,hu2,hu3⟩:=ih;have hv:=hm.ev x;rw [hx] at hv;obtain ⟨vs,hvv,hvl,hvr⟩:=hv.g_inv;have hol:=GvL.ow hm h vs hvl hvr;refine ⟨vs++us,by rw [List.flatMap_append];exact hol.append hu1,by rw [List.length_append,hol.len,hl,hu2,List.length_cons,Nat.add_mul,Nat.one_mul,Nat.add_comm],?_⟩;exact step (cs:=vs) (by rw [hvv];rfl) (by rw [hol.len,hl]) hu3
end
section
variable {P:Program} {ops:Array Oper} {mu:Nat->Bool} {r:OT} {st:St} {K:St->Prop} {i:Nat} {ty:TypeId} {pos:String} {af:Array Edge}
theorem Sm.fresh {w0:Ctx} {w:World} {ρ:Nat->Option Nat} {Φ:Nat->List Nat} {a:Act} (hm:Sm w0 ρ Φ st a w) {S:List Nat} (hS:S.Nodup) (b sz n:Nat) (hbl:b < 1000000) (hz:0 < sz) (E:TypeId) {us:List Value} {ds:List D} (ho:OwL w us ds (S.flatMap Φ)) (hn:ds.length=n*sz) (hle:n<=9223372036854775807) :
  ∃ ρ' Φ',Sm w0 ρ' Φ' ((st.drop S).new [(b,.row sz ds)]) a (w.alloc (.cells us.toArray E))/\CR (w.alloc (.cells us.toArray E)) ρ' (InΦ Φ') (.slice (some ⟨w.heap.size,0,none⟩) n n) (.ls b sz 0 n):=by
 have hb:=jlb w (.cells us.toArray E);have memS:∀ g,g∈S.flatMap Φ -> ∃ c∈S,g∈Φ c:=fun g hg=>List.mem_flatMap.1 hg;have hlt:∀ g,g∈S.flatMap Φ->g < w.heap.size:=fun g hg=>by obtain ⟨c,_,h⟩:=memS g hg;exact hm.lt h
 have ho':=ho.keep (w':=w.alloc (.cells us.toArray E)) fun g hg=>hb.block g (hlt g hg);obtain ⟨Fs,hFs,hOw⟩:=ho'.split;have hlen:=ho.len;obtain ⟨ρ', Φ', h1, h2⟩ := hm.newRow (w' := w.alloc (.cells us.toArray E)) S b sz ds (some w.heap.size) (w.heap.size :: parts ds.length Fs) (.of_below hb hm.below.size) (fun g _ hg => hb.block g hg) (.of_below hb)
  (List.nodup_cons.2 ⟨fun h=>by rw [<- hFs] at h;have:=hlt _ h;omega,by rw [<- hFs];exact jee hm.nd hm.dj hS⟩) (fun g hg=>by
   rcases List.mem_cons.1 hg with rfl|hg
   ·exact .inr (Nat.le_refl _)
   ·rw [<- hFs] at hg;exact .inl (memS g hg)) hbl (fun ρ Φ => .row w.heap.size us.toArray E sz ds (fun k=>us.getD k undef) Fs hz (heap_alloc_new w _) (by simp [hlen]) (fun k hk=>by
    rw [List.getElem?_toArray,List.getElem?_eq_getElem Kf,List.getD_eq_getElem?_getD,List.getElem?_eq_getElem Kf];rfl) hOw)
 exact ⟨ρ',Φ',h1,.ls b w.heap.size sz 0 n n us.toArray E h2 (Nat.le_refl _) hle (heap_alloc_new w _) (by simp;rw [hlen,hn];exact Nat.le_refl _)⟩
theorem jaw {T:TypeId} {len d sz by_:Nat} {ps:List (Nat×Operand)} {ds:List D} {S:List Nat} (ht:tBytes P T sz by_=true) (hz:0 < sz) (hp:GvS st sz 0 ps ds S) (hS:S.Nodup) (hlen:ps.length=len) (hsm:Nat.ble (len*sz) 16777216=true) (hd:Nat.blt d st.n=true)
    (h:SO P ops mu r (((st.drop S).new [(d,.row sz ds)]).put d (.c (.ls d sz 0 len))) K) :
    SO P ops mu (.cons (some ⟨some d,.buildSlice T len ⟨ps⟩,ty,pos,af,none⟩,i,false) r) st K:=by
  refine so_a fun w0 a w hs next Q hn=>?_;obtain ⟨ρ,Φ,hm⟩:=hs;obtain ⟨E,inf,z,hu,hi,hsz,hby,hzz,hzs⟩:=jiv ht;obtain ⟨us,hol,hul,hfill⟩:=hp.fill hm;have hsm':len*sz<=16777216:=by simpa using hsm
  have hdl:ds.length=len*sz:=by rw [<- hol.len,hul,hlen]
  obtain ⟨ρ',Φ',hm',hc⟩:=hm.fresh hS d sz len (by have:=hm.nb;have:d < st.n:=(by simpa using hd);omega) hz E hol hdl (by have:=Nat.le_mul_of_pos_right len hz;omega);refine jir (w':=w.alloc (.cells us.toArray E)) (v:=.slice (some ⟨w.heap.size,0,none⟩) len len) ?_ (hn _ _ (fun _ => .of (jlb _ _)) ⟨_,⟨ρ',Φ',hm'.put (.c _ _ hc) d (by simpa [St.new,St.kill,(jgt S st).2] using hd)⟩,h⟩);have h0:=hfill [] ((Array.range (len*sz)).map (fun k=>if len*sz=0 then undef else z.cells[k%z.cells.size]!)).toList Yby (by simp [hul,hlen]);by_cases hl0:len*sz=0
  · have hu0 : us = [] := List.eq_nil_of_length_eq_zero (by rw [hul, hlen];exact hl0)
    have hps:ps=[]:=List.eq_nil_of_length_eq_zero (by rw [hlen];rcases Nat.mul_eq_zero.1 hl0 with h|h <;> omega);subst hu0; subst hps;have hlen0:len=0:=by simpa using hlen.symm
    subst hlen0;simp [execOp,Instr.buildSlice,underlying,hu,sizeOf,typeInfo,hi,Instr.fill,newRow,newObj,Sem.run];congr 2;apply Array.eq_empty_of_size_eq_zero;simp
  · have hrun:=run_buildSlice (P:=P) w T E len (ps.map fun p=>(p.1,a.eval p.2)).toArray us.toArray inf z hu hi hzz (by rw [hsz];omega) (by rw [hsz];exact hl0) (by
      rw [hsz];have e:((Array.range (len*sz)).map fun k=>z.cells[k%z.cells.size]!)=([]++((Array.range (len*sz)).map (fun k=>if len*sz=0 then undef else z.cells[k%z.cells.size]!)).toList).toArray:=by
        apply Array.toList_inj.1;simp [hl0]
      rw [e];simp only [List.toList_toArray];rw [h0];have:((Array.range (len*sz)).map (fun k=>if len*sz=0 then undef else z.cells[k%z.cells.size]!)).toList.drop us.length=[]:=List.drop_eq_nil_of_le (by simp [hul,hlen]);rw [this]; simp)
    simp [execOp];rw [show (List.map (fun p=>(p.1,a.eval p.2)) ps).toArray=(List.map (fun x=>(x.1,a.eval x.2)) ps).toArray from rfl] at hrun;simp [hrun]
theorem jgo {T:TypeId} {l c:Operand} {kl kc:IntKind} {d by_:Nat} {n:Int} {z:Value} {y:D} (hl:st.ev l = .c (.d (.lit (.int kl n)))) (hc:st.ev c = .c (.d (.lit (.int kc n)))) (ht:tBytes P T 1 by_=true)
  (hz:((P.underlying T).bind fun t=>match t with|.slice E=>(P.info? E).bind (·.zero)|_=>none)=some z) (hzc:z.cells = #[z]) (hy:∀ w,Ow w z y []) (h0:0<=n) (hb:by_*n.toNat<=281474976710656) (h63:n<=9223372036854775807) (hd:Nat.blt d st.n=true)
  (h:SO P ops mu r ((st.new [(d,.row 1 (List.replicate n.toNat y))]).put d (.c (.ls d 1 0 n.toNat))) K) :
  SO P ops mu (.cons (some ⟨some d,.makeSlice T l c,ty,pos,af,none⟩,i,false) r) st K:=by
 refine so_a fun w0 a w hs next Q hn=>?_;obtain ⟨ρ,Φ,hm⟩:=hs;obtain ⟨E,inf,z',hu,hi,hsz,hby,hzz,hzs⟩:=jiv ht;have hzeq:z'=z:=by rw [hu] at hz;simpa [hi,hzz] using hz
 subst hzeq;have h1:a.eval l = .int kl n:=FR.lit_inv (by rw [<- hl];exact hm.ev l);have h2:a.eval c = .int kc n:=FR.lit_inv (by rw [<- hc];exact hm.ev c);have hnn:(n.toNat:Int)=n:=Int.toNat_of_nonneg h0;have hrun:=run_make_row (P:=P) T E inf z' hu hi hzz hsz hzc kl kc n.toNat (by rw [hby];exact hb) Kf w;rw [hnn] at hrun;have hmade:madeCells #[z'] n.toNat=(List.replicate n.toNat z').toArray:=by
  apply Array.ext
  ·simp [size_madeCells]
  ·intro k h1 h2;simp [madeCells,Nat.mod_one]
 rw [hmade] at hrun;have hol:∀ m,OwL w (List.replicate m z') (List.replicate m y) (([]:List Nat).flatMap Φ):=by
  intro m;induction m with
  | zero=>exact .nil
  | succ m ih=>exact OwL.cons (F:=[]) (hy w) ih
 obtain ⟨ρ',Φ',hm',hcr⟩:=hm.fresh (S:=[]) List.nodup_nil d 1 n.toNat (by have:=hm.nb;have:d < st.n:=(by simpa using hd);omega) Kf E (hol n.toNat) Yby Kf;refine jir (w':=w.alloc (.cells (List.replicate n.toNat z').toArray E)) (v:=.slice (some ⟨w.heap.size,0,none⟩) n.toNat n.toNat) ?_ (hn _ _ (fun _ => .of (jlb _ _)) ⟨_,⟨ρ',Φ',hm'.put (.c _ _ hcr) d (by simpa [St.new,St.kill,St.drop] using hd)⟩,h⟩);simp [execOp,h1,h2,hrun]
end
def placeN:List (Nat×Nat)->Nat->Option (Nat×Nat)
 | [],_=>none
 | e :: _,0=>some e
 | _ :: r,n+1=>placeN r n
theorem placeN_eq:∀ (l:List (Nat×Nat)) (i:Nat),placeN l i=l[i]?
 | [],_=>by simp [placeN]
 | _ :: _,0=>by simp [placeN]
 | _ :: r,n+1=>by simp [placeN,placeN_eq r n]
def fillC (pl:List (Nat×Nat)) (cs:List C):List (Nat×FV)->Option (List C)
 | []=>some cs
 | (i,x) :: r=>match placeN pl i,x.cells with
  | some (off,sz),some vs=>bif Nat.beq vs.length sz&&Nat.ble (off+sz) cs.length then fillC pl (cs.take off++vs++cs.drop (off+sz)) r else none
  | _,_=>none
def tPl (P:Program) (T:TypeId) (pl:List (Nat×Nat)):Bool:=match P.underlying T with
 | some (.struct fs)=>fs.toList.map (fun f=>(f.offset,P.cellsOf f.type)) == pl&&fs.toList.all fun f=>(P.info? f.type).isSome
 | some (.array n e)=>(List.range n).map (fun i=>(i*P.cellsOf e,P.cellsOf e)) == pl&&(P.info? e).isSome
 | _=>false
section
variable {st:St} {w0:Ctx} {w:World} {ρ:Nat->Option Nat} {Φ:Nat->List Nat} {a:Act}
theorem jnv (hm:Sm w0 ρ Φ st a w) {pl:List (Nat×Nat)} {place:Nat->Option (Nat×Nat)} (hpl:∀ i e,pl[i]? = some e->place i=some e):∀ (ps:List (Nat×Operand)) (cs cs':List C) (us:List Value),
  us.length=cs.length->(∀ k (hk:k < cs.length),CR w ρ (InΦ Φ) (us.getD k undef) cs[k])->fillC pl cs (ps.map fun p=>(p.1,st.ev p.2))=some cs' ->
  ∃ us':List Value,Instr.fill place us.toArray (ps.map fun p=>(p.1,a.eval p.2))=some us'.toArray/\us'.length=cs'.length /\ ∀ k (hk:k < cs'.length),CR w ρ (InΦ Φ) (us'.getD k undef) cs'[k]
 | [],cs,cs',us,hl,hr,h=>by cases h;exact ⟨us,rfl,hl,hr⟩
 | (j,x) :: ps,cs,cs',us,hl,hr,h=>by
  simp only [List.map_cons,fillC] at h;split at h
  ·rename_i off sz vs he hv;rw [placeN_eq] at he;cases hb:(Nat.beq vs.length sz&&Nat.ble (off+sz) cs.length) with
   | false=>rw [hb] at h;cases h
   | true =>
    rw [hb] at h;simp only [Bool.and_eq_true] at hb;have hvl:vs.length=sz:=Nat.eq_of_beq_eq_true hb.1;have hle:off+sz<=cs.length:=Nat.le_of_ble_eq_true hb.2;obtain ⟨ns,hn1,hn2,hn3,_⟩:=(hm.ev x).cells hv;subst hvl;obtain ⟨us',r1,r2,r3⟩:=jnv hm hpl ps _ cs' (us.take off++ns++us.drop (off+vs.length)) Ybw (fun k hk=>by
     have hk2:k < (us.take off++ns++us.drop (off+ns.length)).length:=by simp at hk ⊢;omega
     have e:(us.take off++ns++us.drop (off+vs.length)).getD k undef=(us.take off++ns++us.drop (off+ns.length))[k]:=by
      rw [List.getD_eq_getElem?_getD,<- hn2,List.getElem?_eq_getElem hk2,Option.getD_some]
     rw [e,jih Kf hk2,jih hle hk];by_cases hin:off<=k/\k < off+vs.length
     ·rw [dif_pos hin,dif_pos Kf];have:=hn3 (k - off) Kf;rwa [List.getD_eq_getElem?_getD,List.getElem?_eq_getElem Kf,Option.getD_some] at this
     ·rw [dif_neg hin,dif_neg Kf];have:=hr k (by simp at hk;omega);rwa [List.getD_eq_getElem?_getD,List.getElem?_eq_getElem (by simp at hk;omega),Option.getD_some] at this) h
    refine ⟨us',?_,r2,r3⟩;simp only [List.map_cons];unfold Instr.fill;have hsz:(a.eval x).cells.size=vs.length:=by rw [hn1];simpa using hn2
    simp only [hpl j _ he,hsz,ne_eq,not_true,decide_false,Bool.false_or];rw [if_neg Ybw];have hf:=fold_set0 (a.eval x).cells off us (by rw [hsz];omega);rw [hf,hsz,hn1];exact r1
  ·cases h
end
section
variable {P:Program} {ops:Array Oper} {mu:Nat->Bool} {r:OT} {st:St} {K:St->Prop} {i:Nat} {b:Bool} {ty:TypeId} {pos:String} {af:Array Edge} {dst:Option Tmp}
theorem jbt {T : TypeId} {ps : List (Nat × Operand)} (pl : List (Nat × Nat)) (zs : List Value) {cs : List C} (ht : tPl P T pl = true) (hz : (P.info? T).map (fun i => i.zero.map fun z => z.cells.toList) = some (some zs)) (hf : fillC pl (zs.map litC) (ps.map fun p => (p.1, st.ev p.2)) = some cs) :
  Qt P ⟨dst,.build T ⟨ps⟩,ty,pos,af,none⟩ st (.g cs):=fun w0 ρ Φ a w hm=>by
 cases hi:P.info? T with
 | none=>rw [hi] at hz;cases hz
 | some j =>
  rw [hi] at hz;cases hz0:j.zero with
  | none=>simp [hz0] at hz
  | some z =>
   simp only [hz0,Option.map_some,Option.some.injEq] at hz;have hzc:z.cells=zs.toArray:=by rw [<- hz]
   have init:∀ k (hk:k < (zs.map litC).length),CR w ρ (InΦ Φ) (zs.getD k undef) (zs.map litC)[k]:=fun k hk=>by
    simp only [List.getElem_map];rw [List.getD_eq_getElem?_getD,List.getElem?_eq_getElem (by simpa using hk)];exact CR.lit
   unfold tPl at ht;cases hu:P.underlying T with
   | none=>simp [hu] at ht
   | some t =>
    cases t with
    | struct fs =>
     simp only [hu,Bool.and_eq_true,beq_iff_eq] at ht;obtain ⟨hpl,hinf⟩:=ht;have hmap:∀ w':World,((fs.mapM fun f=>Prod.mk f.offset <$> sizeOf f.type:Sem (Array (Nat×Nat)))).run P w' = .ok pl.toArray w':=by
      intro w';have gen:∀ l:List Field,(l.all fun f=>(P.info? f.type).isSome)=true->(l.mapM (fun f=>Prod.mk f.offset <$> sizeOf f.type):Sem (List (Nat×Nat))).run P w' = .ok (l.map fun f=>(f.offset,P.cellsOf f.type)) w':=by
       intro l;induction l with
       | nil=>intro _;rfl
       | cons f l ih =>
        intro hl;simp only [List.all_cons,Bool.and_eq_true] at hl;obtain ⟨inf,hinf⟩:=Option.isSome_iff_exists.1 hl.1;have hsz:(sizeOf f.type).run P w' = .ok inf.size w':=by simp [sizeOf,typeInfo,hinf]
        rw [List.mapM_cons];simp only [Sem.run_bind,Sem.run_map,hsz,Result.andThen_ok,ih hl.2,Sem.run_pure,List.map_cons,Program.cellsOf,hinf,Option.map_some,Option.getD_some]
      rw [Array.mapM_eq_mapM_toList];simp only [Sem.run_map,gen fs.toList hinf,Result.andThen_ok,hpl]
     obtain ⟨us',r1,r2,r3⟩:=jnv hm (pl:=pl) (place:=fun k=>pl.toArray[k]?) (fun k e he=>by simpa using he) ps (zs.map litC) cs zs Yby init hf;refine ⟨.agg us'.toArray,fun w' _=>?_,.g _ _ r2 r3⟩;simp [execOp,Instr.build,zeroValue,typeInfo,hi,hz0,underlying,hu,hzc];rw [hmap w'];simp at r1;simp [r1]
    | array n e =>
     simp only [hu,Bool.and_eq_true,beq_iff_eq] at ht;obtain ⟨hpl,hinf⟩:=ht;obtain ⟨inf,hinf⟩:=Option.isSome_iff_exists.1 hinf;obtain ⟨us',r1,r2,r3⟩:=jnv hm (pl:=pl) (place:=fun k=>some (k*P.cellsOf e,P.cellsOf e)) (fun k x hx=>by
      rw [<- hpl] at hx;obtain ⟨hlt,rfl⟩:=List.getElem?_eq_some_iff.1 hx;simp) ps (zs.map litC) cs zs Yby init hf
     refine ⟨.agg us'.toArray,fun w' _=>?_,.g _ _ r2 r3⟩;have hce:P.cellsOf e=inf.size:=by simp [Program.cellsOf,hinf]
     rw [hce] at r1;simp [execOp,Instr.build,zeroValue,typeInfo,hi,hz0,underlying,hu,sizeOf,hinf,hzc];simp [r1]
    | _=>simp [hu] at ht
end
theorem jcy {P:Program} {R:St->Prop} {k:List Itm} {st st1:St} {c:Code} (hg:∀ w0 a w,Sim w0 st a w->Sim w0 st1 a w) (h:SK P (.code c :: k) st1 R):SK P (.code c :: k) st R :=
 ⟨fun w0 a w hs=>h.lv w0 a w (hg w0 a w hs)⟩
theorem so_ghost {P:Program} {ops:Array Oper} {mu:Nat->Bool} {os:OT} {st st1:St} {K:St->Prop} (hg:∀ w0 a w,Sim w0 st a w->Sim w0 st1 a w) (h:SO P ops mu os st1 K):SO P ops mu os st K :=
 ⟨fun w0 a w hs=>h.run w0 a w (hg w0 a w hs)⟩
theorem Sm.nilRow {st:St} {w0:Ctx} {w:World} {ρ:Nat->Option Nat} {Φ:Nat->List Nat} {a:Act} (hm:Sm w0 ρ Φ st a w) (b sz:Nat) (hbl:b < 1000000) (hz:0 < sz):∃ ρ' Φ',Sm w0 ρ' Φ' (st.new [(b,.row sz [])]) a w/\ρ' b=none:=by
 obtain ⟨ρ',Φ',h1,h2⟩:=hm.newRow (w':=w) [] b sz [] none [] (Kp.refl _ _) (fun _ _ _=>rfl) (fun g cs E hg=>⟨cs,hg,rfl⟩) List.nodup_nil (fun g hg=>by cases hg) hbl (fun ρ Φ => .nil sz hz);exact ⟨ρ',Φ',h1,h2⟩
theorem jli {st:St} (t b sz:Nat) (hbl:Nat.blt b 1000000=true) (hz:0 < sz) (ht:Nat.blt t st.n=true) (hx:st.fr t = .c (.d (.lit (.slice none 0 0)))):∀ w0 a w,Sim w0 st a w->Sim w0 ((st.new [(b,.row sz [])]).put t (.c (.ls b sz 0 0))) a w:=by
 rintro w0 a w ⟨ρ,Φ,hm⟩;obtain ⟨ρ',Φ',hm',hρ⟩:=hm.nilRow b sz (by simpa using hbl) hz;have hv:a.tmps.getD t undef = .slice none 0 0:=FR.lit_inv (by rw [<- hx];exact hm.fr t);refine ⟨ρ',Φ',{ hm' with size:=by simpa [St.put] using hm'.size,fr:=fun k=>?_ }⟩;simp only [St.put];by_cases hk:k=t
 ·subst hk;rw [if_pos rfl,hv];exact .c _ _ (.ls0 b sz hρ)
 ·rw [if_neg hk];exact hm'.fr k
theorem sim_nil_box {st:St} (c off b sz:Nat) {cs:List C} (hbl:Nat.blt b 1000000=true) (hz:0 < sz) (hc:st.bl c=some (.box cs)) (hbc:Nat.beq c b=false) (hx:cs[off]? = some (.d (.lit (.slice none 0 0)))) :
  ∀ w0 a w,Sim w0 st a w->Sim w0 ((st.new [(b,.row sz [])]).setB c (some (.box ((C.killL (inL [(b,.row sz [])]) cs).set off (.ls b sz 0 0))))) a w:=by
 rintro w0 a w ⟨ρ,Φ,hm⟩;obtain ⟨ρ',Φ',hm',hρ⟩:=hm.nilRow b sz (by simpa using hbl) hz;have hne:b≠c:=fun e=>by subst e;simp at hbc
 have hc':(st.new [(b,.row sz [])]).bl c=some (.box (C.killL (inL [(b,.row sz [])]) cs)):=by simp [St.new,getL,hne,hc,Blk.kill]
 obtain ⟨hlt,hxe⟩:=List.getElem?_eq_some_iff.1 hx;refine ⟨ρ',Φ',{ hm' with size:=by simpa [St.setB] using hm'.size,fr:=hm'.fr,bl:=fun k y hy=>?_,emp:=fun k hk=>?_ }⟩
 ·simp only [St.setB] at hy;by_cases hk:k=c
  ·subst hk;rw [if_pos rfl] at hy;cases hy;have h0:=hm'.bl k _ hc';generalize ρ' k=rk at *;generalize Φ' k=Fk at *;cases h0 with
   | box g us E _ hg hl hr =>
    refine .box g us E _ hg (by simpa using hl) fun j hj=>?_;have hj':j < (C.killL (inL [(b,.row sz [])]) cs).length:=by simpa using hj
    have:=hr j hj';by_cases hjo:j=off
    ·subst hjo;rw [List.getElem_set_self];have e:(C.killL (inL [(b,.row sz [])]) cs)[j] = .d (.lit (.slice none 0 0)):=by
      simp only [C.killL_eq,List.getElem_map,hxe];rfl
     rw [e] at this;have hv:us.getD j undef = .slice none 0 0:=FR.lit_inv (.c _ _ this);rw [hv];exact .ls0 b sz hρ
    ·rw [List.getElem_set_ne (Ne.symm hjo)];exact this
  ·rw [if_neg hk] at hy;exact hm'.bl k y hy
 ·simp only [St.setB] at hk;by_cases hkc:k=c
  ·rw [if_pos hkc] at hk;cases hk
  ·rw [if_neg hkc] at hk;exact hm'.emp k hk
mutual
def C.dem (b:Nat) (ds:List D):C->C
 | .ls b' sz off n=>bif Nat.beq b' b then (bif Nat.blt 0 sz&&Nat.ble (off+n*sz) ds.length then .d (.sl sz n ((ds.drop off).take (n*sz))) else .junk) else .ls b' sz off n
 | .lp b' off=>bif Nat.beq b' b then .junk else .lp b' off
 | .fn f cs => .fn f (C.demL b ds cs)
 | .d x => .d x
 | .junk => .junk
termination_by structural x=>x
def C.demL (b:Nat) (ds:List D):List C->List C
 | [] => []
 | y :: r=>y.dem b ds :: C.demL b ds r
termination_by structural x=>x
end
mutual
def FV.dem (b:Nat) (ds:List D):FV->FV
 | .c x => .c (x.dem b ds)
 | .g cs => .g (C.demL b ds cs)
 | .t ps => .t (FV.demL b ds ps)
termination_by structural x=>x
def FV.demL (b:Nat) (ds:List D):List FV->List FV
 | [] => []
 | y :: r=>y.dem b ds :: FV.demL b ds r
termination_by structural x=>x
end
def Blk.dem (b:Nat) (ds:List D):Blk->Blk
 | .box cs => .box (C.demL b ds cs)
 | .row sz es => .row sz es
 | .rowX sz es i c => .rowX sz es i (c.dem b ds)
 | .held X f => .held X f
theorem C.demL_eq (b:Nat) (ds:List D):∀ cs,C.demL b ds cs=cs.map (C.dem b ds)
 | [] => rfl
 | y :: r=>by simp only [C.demL,List.map_cons,C.demL_eq b ds r]
theorem FV.demL_eq (b:Nat) (ds:List D):∀ cs,FV.demL b ds cs=cs.map (FV.dem b ds)
 | [] => rfl
 | y :: r=>by simp only [FV.demL,List.map_cons,FV.demL_eq b ds r]
def St.dem (st:St) (b:Nat) (ds:List D):St:=⟨st.n,fun t=>(st.fr t).dem b ds,fun k=>bif Nat.beq k b then none else (st.bl k).map (Blk.dem b ds)⟩
theorem sim_dem {st:St} (b sz:Nat) {ds:List D} (hb:st.bl b=some (.row sz ds)):∀ w0 a w,Sim w0 st a w->Sim w0 (st.dem b ds) a w:=by
 rintro w0 a w ⟨ρ,Φ,hm⟩;let Φ':Nat->List Nat:=fun k=>if k=b then [] else Φ k
 have sub:∀ k g,g∈Φ' k->g∈Φ k/\k≠b:=fun k g hg=>by
  simp only [Φ'] at hg;split at hg
  ·cases hg
  ·rename_i h;exact ⟨hg,h⟩
 have hΦ:∀ g,InΦ Φ' g->InΦ Φ g:=fun g ⟨k,hk⟩=>⟨k,(sub k g hk).1⟩;have ofΦb:∀ g,g∈Φ b -> ¬ InΦ Φ' g:=fun g hg ⟨k,hk⟩=>(sub k g hk).2 (hm.dj k b g (sub k g hk).1 hg);have cr:∀ {v:Value} {c:C},CR w ρ (InΦ Φ) v c->CR w ρ (InΦ Φ') v (c.dem b ds):=by
  intro v c h;induction h with
  | d v x F h hF=>exact .d v x F h fun g hg h'=>hF g hg (hΦ g h')
  | ls0 b' sz' h =>
   unfold C.dem;cases hbb:Nat.beq b' b with
   | false=>exact .ls0 b' sz' h
   | true =>
    cases hle:(Nat.blt 0 sz'&&Nat.ble (0+0*sz') ds.length) with
    | false=>exact .junk _
    | true =>
     rw [Bool.and_eq_true] at hle;have hz:0 < sz':=by simpa using hle.1
     have e:((ds.drop 0).take (0*sz'))=[]:=by simp
     refine .d _ _ _ (by rw [e];exact Vw.sl none 0 0 sz' [] (fun _=>undef) (fun _=>[]) Yby hz Kf (fun h=>absurd h Kf) (fun k hk=>by simp at hk) (fun k hk=>by simp at hk)) fun g hg=>by simp at hg
  | ls b' g sz' off n cap cs E h hnc hle hg hcap =>
   unfold C.dem;cases hbb:Nat.beq b' b with
   | false=>exact .ls b' g sz' off n cap cs E h hnc hle hg hcap
   | true =>
    cases hle2:(Nat.blt 0 sz'&&Nat.ble (off+n*sz') ds.length) with
    | false=>exact .junk _
    | true =>
     rw [Bool.and_eq_true] at hle2;have hz:0 < sz':=by simpa using hle2.1
     have hfit:off+n*sz'<=ds.length:=by simpa using hle2.2
     have hb':=Nat.eq_of_beq_eq_true hbb;subst hb';rcases hm.rowN hb with ⟨h0,_⟩|⟨g2,us,E2,vs,Fs,hρ,hΦb,_,hg2,hl,hcc,hr⟩
     ·rw [h] at h0;cases h0
     ·rw [h] at hρ;cases hρ;obtain ⟨Gs,hG⟩:=jkz (n:=ds.length) (p:=fun k F' => ∀ hk:k < ds.length,Vw w (vs k) ds[k] F' /\ ∀ b∈F',b∈Fs k) (fun k hk=>by obtain ⟨F',h1,h2⟩:=(hr k hk).vw;exact ⟨F',fun _=>⟨h1,h2⟩⟩);have hlen:((ds.drop off).take (n*sz')).length=n*sz':=by simp;omega
      refine .d _ _ _ (Vw.sl (some ⟨g,off,none⟩) n cap sz' _ (fun k=>vs (off+k)) (fun k=>Gs (off+k)) hlen hz ⟨Nat.le_trans hnc hle,hnc⟩ (fun _=>rfl) (fun k hk=>?_) (fun k hk=>?_)) fun b2 hb2=>?_
      ·rw [adrO_some,jgu,cell_of_row w g _ us E2 (0,0) hg2];exact hcc _ Kf
      ·simp only [List.getElem_take,List.getElem_drop];exact (hG _ Kf Kf).1
      ·split at hb2
       ·cases hb2
       ·refine ofΦb b2 ?_;rw [hΦb];rcases List.mem_cons.1 hb2 with rfl|hb2
        ·exact List.mem_cons_self ..
        ·obtain ⟨k,hk,hb2⟩:=jcj.1 hb2;exact List.mem_cons_of_mem _ (jcj.2 ⟨off+k,by omega,(hG _ Kf Kf).2 b2 hb2⟩)
  | lp b' g off h =>
   unfold C.dem;cases hbb:Nat.beq b' b with
   | false=>exact .lp b' g off h
   | true=>exact .junk _
  | fn f cs us hl hr ih =>
   unfold C.dem;rw [C.demL_eq];exact .fn f _ us (by simpa using hl) fun k hk=>by simp only [List.getElem_map];exact ih k (by simpa using hk)
  | junk v=>unfold C.dem;exact .junk v
 have fr:∀ {v:Value} {x:FV},FR w ρ (InΦ Φ) v x->FR w ρ (InΦ Φ') v (x.dem b ds):=by
  intro v x h;induction h with
  | c v x h=>exact .c _ _ (cr h)
  | g cs us hl hr =>
   show FR _ _ _ _ (.g (C.demL b ds cs));rw [C.demL_eq];exact .g _ us (by simpa using hl) fun k hk=>by simp only [List.getElem_map];exact cr (hr k (by simpa using hk))
  | t ps us hl hr ih =>
   show FR _ _ _ _ (.t (FV.demL b ds ps));rw [FV.demL_eq];exact .t _ us (by simpa using hl) fun k hk=>by simp only [List.getElem_map];exact ih k (by simpa using hk)
 refine ⟨ρ,Φ',hm.below,hm.size,hm.nb,hm.pin,hm.defers,fun t=>fr (hm.fr t),fun k y hy=>?_,fun k hk=>?_,fun k g hg=>hm.low k g (sub k g hg).1,fun k=>?_,fun k k' g h1 h2=>hm.dj k k' g (sub k g h1).1 (sub k' g h2).1⟩
 ·simp only [St.dem] at hy;cases hkb:Nat.beq k b with
  | true=>rw [hkb] at hy;cases hy
  | false =>
   rw [hkb] at hy;have hne:k≠b:=fun e=>by subst e;simp at hkb
   obtain ⟨z,hz,rfl⟩:=Option.map_eq_some_iff.1 hy;have h0:=hm.bl k z hz;have e:Φ' k=Φ k:=by simp [Φ',hne]
   rw [e];generalize ρ k=rk at *;generalize Φ k=Fk at *;cases h0 with
   | box g us E cs hg hl hr =>
    show BR _ _ _ _ (.box (C.demL b ds cs)) _;rw [C.demL_eq];exact .box g us E _ hg (by simpa using hl) fun j hj=>by simp only [List.getElem_map];exact cr (hr j (by simpa using hj))
   | nil sz hz0=>exact .nil sz hz0
   | row g us E sz ds' vs Fs hz0 hg hl hc hr=>exact .row g us E sz ds' vs Fs hz0 hg hl hc hr
   | rowX g us E sz ds' i c vs Fs hz0 hg hl hi hFi hc hr hx=>exact .rowX g us E sz ds' i _ vs Fs hz0 hg hl hi hFi hc hr (cr hx)
   | held X f hc hlt=>exact .held _ f hc hlt
 ·simp only [St.dem] at hk;cases hkb:Nat.beq k b with
  | true=>have:=Nat.eq_of_beq_eq_true hkb;simp [Φ',this]
  | false =>
   rw [hkb] at hk;have hne:k≠b:=fun e=>by subst e;simp at hkb
   have:=hm.emp k (by simpa using hk);simp [Φ',hne,this]
 ·simp only [Φ'];split
  ·exact List.nodup_nil
  ·exact hm.nd k
section
variable {P:Program} {st:St} {dst:Option Tmp} {ty:TypeId} {pos:String} {af:Array Edge}
theorem jok {T:TypeId} {x l h:Operand} {s:ByteArray} {kl kh:IntKind} {i j:Int} (hx:st.ev x = .c (.d (.lit (.string s)))) (hl:st.ev l = .c (.d (.lit (.int kl i)))) (hh:st.ev h = .c (.d (.lit (.int kh j)))) (ht:tStr P T=true) (h0:0<=i) (h1:i<=j) (h2:j<=s.size) :
  Qt P ⟨dst,.slice T x (some l) (some h) none,ty,pos,af,none⟩ st (.c (.d (.lit (.string (s.extract i.toNat j.toNat))))):=fun w0 ρ Φ a w hm=>by
 have hu:=jhu ht;have e1:a.eval x = .string s:=FR.lit_inv (by rw [<- hx];exact hm.ev x);have e2:a.eval l = .int kl i:=FR.lit_inv (by rw [<- hl];exact hm.ev l);have e3:a.eval h = .int kh j:=FR.lit_inv (by rw [<- hh];exact hm.ev h);have hs:s.size<=9223372036854775807:=by have:=hm.ev x;rw [hx] at this;simpa [sc] using this.lit_sc
 refine ⟨.string (s.extract i.toNat j.toNat),fun w' _=>?_,.litI (by simp [sc];omega)⟩;have hj:(j.toNat:Int)=j:=Int.toNat_of_nonneg Kf;simp [execOp,e1,e2,e3,Instr.sliceAt,Instr.slice,underlying,hu,Instr.sliceBounds,Instr.sliceBound,asIntOf,h2,show 0<=j by omega,h0,show i<=max j 0 by omega]
theorem jol {T:TypeId} {x l:Operand} {s:ByteArray} {kl:IntKind} {i:Int} (hx:st.ev x = .c (.d (.lit (.string s)))) (hl:st.ev l = .c (.d (.lit (.int kl i)))) (ht:tStr P T=true) (h0:0<=i) (h1:i<=s.size) :
  Qt P ⟨dst,.slice T x (some l) none none,ty,pos,af,none⟩ st (.c (.d (.lit (.string (s.extract i.toNat s.size))))):=fun w0 ρ Φ a w hm=>by
 have hu:=jhu ht;have e1:a.eval x = .string s:=FR.lit_inv (by rw [<- hx];exact hm.ev x);have e2:a.eval l = .int kl i:=FR.lit_inv (by rw [<- hl];exact hm.ev l);have hs:s.size<=9223372036854775807:=by have:=hm.ev x;rw [hx] at this;simpa [sc] using this.lit_sc
 refine ⟨.string (s.extract i.toNat s.size),fun w' _=>?_,.litI (by simp [sc];omega)⟩;simp [execOp,e1,e2,Instr.sliceAt,Instr.slice,underlying,hu,Instr.sliceBounds,Instr.sliceBound,asIntOf,h0,h1]
theorem jom {T:TypeId} {x h:Operand} {s:ByteArray} {kh:IntKind} {j:Int} (hx:st.ev x = .c (.d (.lit (.string s)))) (hh:st.ev h = .c (.d (.lit (.int kh j)))) (ht:tStr P T=true) (h0:0<=j) (h2:j<=s.size) :
  Qt P ⟨dst,.slice T x none (some h) none,ty,pos,af,none⟩ st (.c (.d (.lit (.string (s.extract 0 j.toNat))))):=fun w0 ρ Φ a w hm=>by
 have hu:=jhu ht;have e1:a.eval x = .string s:=FR.lit_inv (by rw [<- hx];exact hm.ev x);have e3:a.eval h = .int kh j:=FR.lit_inv (by rw [<- hh];exact hm.ev h);have hs:s.size<=9223372036854775807:=by have:=hm.ev x;rw [hx] at this;simpa [sc] using this.lit_sc
 refine ⟨.string (s.extract 0 j.toNat),fun w' _=>?_,.litI (by simp [sc];omega)⟩;simp [execOp,e1,e3,Instr.sliceAt,Instr.slice,underlying,hu,Instr.sliceBounds,Instr.sliceBound,asIntOf,h2,h0]
theorem ba_eq {s t:ByteArray}:(s.toList == t.toList)=decide (s=t):=by
 by_cases h:s=t
 ·subst h; simp
 ·rw [decide_eq_false h,beq_eq_false_iff_ne];intro e;rw [ByteArray.toList_eq,ByteArray.toList_eq] at e;apply h;cases s; cases t;congr 1;exact Array.toList_inj.1 e
end
section
variable {P:Program} {ops:Array Oper} {mu:Nat->Bool} {r:OT} {st:St} {K:St->Prop} {i:Nat} {ty:TypeId} {pos:String} {af:Array Edge}
theorem jbx {T:TypeId} {s x:Operand} {b d sz by_ n m:Nat} {ds es:List D} {S2:List Nat} (hs:st.ev s = .c (.ls b sz 0 n)) (hb:st.bl b=some (.row sz ds)) (hn:ds.length=n*sz) (h2:Snd st (st.ev x) sz m es S2) (hS:(b :: S2).Nodup) (ht:tBytes P T sz by_=true) (hz:0 < sz)
  (h63:n+m<=9223372036854775807) (hby:(n+m)*by_<=140737488355328) (hd:Nat.blt d st.n=true) (hmu:mu i=true) (hbl:Nat.blt b 1000000=true)
  (h:SO P ops mu r (((st.drop (b :: S2)).new [(b,.row sz (ds++es))]).put d (.c (.ls b sz 0 (n+m)))) K) :
  SO P ops mu (.cons (some ⟨some d,.call { callee:=.builtin .append,args := #[s,x],argTypes := #[T,T] },ty,pos,af,none⟩,i,false) r) st K :=
 so_append (S1:=[b]) b (by rw [hs];exact .row b sz n ds hb hn) h2 hS ht hz h63 hby hd hmu hbl h
end
theorem nodup_flat {n:Nat} {Fs:Nat->List Nat} (h:(parts n Fs).Nodup):(∀ k,k < n->(Fs k).Nodup) /\ ∀ i j g,i < n->j < n->g∈Fs i->g∈Fs j->i=j:=by
 unfold parts List.Nodup at h;have h1:=(List.pairwise_flatMap.1 h).1;have h2:=List.pairwise_iff_getElem.1 (List.pairwise_flatMap.1 h).2;refine ⟨fun k hk=>h1 k (List.mem_range.2 hk),fun i j g hi hj hgi hgj=>?_⟩;rcases Nat.lt_trichotomy i j with hlt|he|hlt
 ·have:=h2 i j (by simpa using hi) (by simpa using hj) hlt;simp only [List.getElem_range] at this;exact absurd rfl (this g hgi g hgj)
 ·exact he
 ·have:=h2 j i (by simpa using hj) (by simpa using hi) hlt;simp only [List.getElem_range] at this;exact absurd rfl (this g hgj g hgi)
theorem nodup_of {n:Nat} {Fs:Nat->List Nat} (h1:∀ k,k < n->(Fs k).Nodup) (h2:∀ i j g,i < n->j < n->g∈Fs i->g∈Fs j->i=j):(parts n Fs).Nodup:=by
 unfold parts List.Nodup;refine List.pairwise_flatMap.2 ⟨fun k hk=>h1 k (List.mem_range.1 hk),?_⟩;refine List.pairwise_iff_getElem.2 fun i j hi hj hij g hg g' hg' e=>?_;simp only [List.getElem_range] at hg hg';subst e;have:=h2 i j g (by simpa using hi) (by simpa using hj) hg hg';omega
def St.thaw (st:St) (b sz:Nat) (ds:List D) (i c sz' n:Nat) (ds':List D):St:=(st.new [(c,.row sz' ds')]).setB b (some (.rowX sz ds i (.ls c sz' 0 n)))
section
variable {κ:Ctx} {st:St} {w:World} {ρ:Nat->Option Nat} {Φ:Nat->List Nat} {a:Act}
theorem Sm.thaw (hm:Sm κ ρ Φ st a w) {b sz i c sz' n:Nat} {ds ds':List D} (hb:st.bl b=some (.row sz ds)) (hi:ds[i]? = some (.sl sz' n ds')) (hcb:c≠b) (hcl:c < 1000000) :
  ∃ ρ' Φ' g us E,Sm κ ρ' Φ' (st.thaw b sz ds i c sz' n ds') a w/\ρ b=some g/\w.heap[g]? = some (.cells us E (0,0)) /\ ∃ v,us[i]? = some v/\CR w ρ' (InΦ Φ') v (.ls c sz' 0 n):=by
 obtain ⟨hlt,hie⟩:=List.getElem?_eq_some_iff.1 hi;rcases hm.rowN hb with ⟨_,rfl,_⟩|⟨g,us,E,vs,Fs,hρ,hΦ,hz,hg,hl,hcc,hr⟩
 ·simp at hlt
 have hel:=hr i hlt;rw [hie] at hel;have key:∃ rc:Option Nat,(∀ ρ Φ,BR w ρ Φ rc (.row sz' ds') (Fs i)) /\ ∀ ρ' Φ',ρ' c=rc->CR w ρ' Φ' (vs i) (.ls c sz' 0 n):=by
  generalize Fs i=Fi at hel;generalize vs i=vi at hel;cases hel with
  | nil _ hz'=>exact ⟨none,fun ρ Φ => .nil sz' hz',fun ρ' Φ' h => .ls0 c sz' h⟩
  | sl g' _ cap _ E' cs _ us' Fs' hn hz' hle hg' hnc hcap hc' hr' =>
   have hle2:ds'.length<=cs.size:=by rw [hn];exact Nat.le_trans (Nat.mul_le_mul_right _ hnc) hcap
   exact ⟨some g',fun ρ Φ => .row g' cs E' sz' ds' us' Fs' hz' hg' hle2 hc' hr',fun ρ' Φ' h => .ls c g' sz' 0 n cap cs E' h hnc hle hg' Kf⟩
 obtain ⟨rc,hBR,hCR⟩:=key;let Gs:Nat->List Nat:=fun j=>if j=i then [] else Fs j
 let ρ':Nat->Option Nat:=fun k=>if k=c then rc else ρ k
 let Φ':Nat->List Nat:=fun k=>if k=c then Fs i else if k=b then g :: parts ds.length Gs else Φ k
 have hndb:=hm.nd b;rw [hΦ,List.nodup_cons] at hndb;obtain ⟨nf1,nf2⟩:=nodup_flat hndb.2;have subG:∀ x,x∈parts ds.length Gs->x∈parts ds.length Fs/\x ∉ Fs i:=fun x hx=>by
  obtain ⟨k,hk,hxk⟩:=jcj.1 hx;simp only [Gs] at hxk;split at hxk
  ·cases hxk
  ·rename_i hki;exact ⟨jcj.2 ⟨k,hk,hxk⟩,fun h=>hki (nf2 k i x hk hlt hxk h)⟩
 have inb:∀ x,x∈Fs i->x∈Φ b:=fun x hx=>by rw [hΦ];exact List.mem_cons_of_mem _ (jcj.2 ⟨i,hlt,hx⟩)
 have inb2:∀ x,x∈g :: parts ds.length Gs->x∈Φ b:=fun x hx=>by
  rw [hΦ];rcases List.mem_cons.1 hx with rfl|hx
  ·exact List.mem_cons_self ..
  ·exact List.mem_cons_of_mem _ (subG x hx).1
 have src:∀ k x,x∈Φ' k->(k=c/\x∈Fs i)∨(k≠c/\k=b/\x∈g :: parts ds.length Gs)∨(k≠c/\k≠b/\x∈Φ k):=fun k x hx=>by
  simp only [Φ'] at hx;split at hx
  ·rename_i h;exact .inl ⟨h,hx⟩
  ·rename_i h;split at hx
   ·rename_i h2;exact .inr (.inl ⟨h,h2,hx⟩)
   ·rename_i h2;exact .inr (.inr ⟨h,h2,hx⟩)
 have hΦF:∀ x,InΦ Φ' x->InΦ Φ x:=fun x ⟨k,hk⟩=>by
  rcases src k x hk with ⟨_,h⟩|⟨_,_,h⟩|⟨_,_,h⟩
  ·exact ⟨b,inb x h⟩
  ·exact ⟨b,inb2 x h⟩
  ·exact ⟨k,h⟩
 have hρ':∀ k,inL [(c,Blk.row sz' ds')] k=false->ρ' k=ρ k:=fun k hk=>by
  have:k≠c:=fun e=>by subst e;simp [inL] at hk
  simp [ρ',this]
 have hρb:ρ' b=some g:=by simp [ρ',Ne.symm hcb,hρ]
 have crk:∀ {v x},CR w ρ (InΦ Φ) v x->CR w ρ' (InΦ Φ') v (x.kill (inL [(c,Blk.row sz' ds')])):=fun h=>(h.keep (fun _ _ _=>rfl) (.refl w) fun x hx => .inl (hΦF x hx)).kill _ hρ';refine ⟨ρ',Φ',g,us,E,⟨hm.below,by simpa [St.thaw,St.setB,St.new,St.kill] using hm.size,by simpa [St.thaw,St.setB,St.new,St.kill] using hm.nb,fun k r hk=>?_,hm.defers,fun t=>?_,fun k y hy=>?_,fun k hk=>?_,fun k x hx=>?_,fun k=>?_,fun k k' x hx hx'=>?_⟩,hρ,hg,vs i,hcc i hlt,hCR ρ' _ (by simp [ρ'])⟩
 ·have hkc:k≠c:=fun e=>by subst e;rw [κ.low k hcl] at hk;cases hk
  simp only [ρ',if_neg hkc];exact hm.pin k r hk
 ·show FR _ _ _ _ ((st.fr t).kill _);exact ((hm.fr t).keep (fun _ _ _=>rfl) (.refl w) fun x hx => .inl (hΦF x hx)).kill _ hρ'
 ·simp only [St.thaw,St.setB] at hy;by_cases hkb:k=b
  ·subst hkb;rw [if_pos rfl] at hy;cases hy;have e:Φ' k=g :: parts ds.length Gs:=by simp [Φ',Ne.symm hcb]
   rw [e, hρb];refine .rowX g us E sz ds i _ vs Gs hz hg hl hlt (by simp [Gs]) hcc (fun k hk hki=>by simp only [Gs,if_neg hki];exact hr k hk) (hCR ρ' _ (by simp [ρ']))
  ·rw [if_neg hkb] at hy;simp only [St.new,getL] at hy;by_cases hkc:c=k
   ·subst hkc;simp at hy; subst hy;have e:Φ' c=Fs i:=by simp [Φ']
    have e2:ρ' c=rc:=by simp [ρ']
    rw [e,e2];exact hBR _ _
   ·rw [if_neg hkc] at hy;obtain ⟨z,hz',rfl⟩:=Option.map_eq_some_iff.1 hy;have e:Φ' k=Φ k:=by simp [Φ',Ne.symm hkc,hkb]
    rw [e,hρ' k (by simp [inL,hkc])];exact BR.kill _ ((hm.bl k z hz').keep (fun _ _ _=>rfl) (fun _ _=>rfl) (.refl w) fun x hx => .inl (hΦF x hx)) hρ'
 ·simp only [St.thaw,St.setB] at hk;by_cases hkb:k=b
  ·rw [if_pos hkb] at hk;cases hk
  ·rw [if_neg hkb] at hk;simp only [St.new,getL] at hk;by_cases hkc:c=k
   ·rw [if_pos hkc] at hk;cases hk
   ·rw [if_neg hkc] at hk;have:=hm.emp k (by simpa using hk);simp [Φ',Ne.symm hkc,hkb,this]
 ·rcases src k x hx with ⟨_,h⟩|⟨_,_,h⟩|⟨_,_,h⟩
  ·exact hm.low b x (inb x h)
  ·exact hm.low b x (inb2 x h)
  ·exact hm.low k x h
 ·simp only [Φ'];split
  ·exact nf1 i hlt
  ·split
   ·refine List.nodup_cons.2 ⟨fun h=>hndb.1 (subG g h).1,nodup_of (fun k hk=>?_) fun p q x hp hq hxp hxq=>?_⟩
    ·simp only [Gs];split
     ·exact List.nodup_nil
     ·exact nf1 k hk
    ·simp only [Gs] at hxp hxq;split at hxp
     ·cases hxp
     ·split at hxq
      ·cases hxq
      ·exact nf2 p q x hp hq hxp hxq
   ·exact hm.nd k
 ·rcases src k x hx with ⟨e1,h1⟩|⟨n1,e1,h1⟩|⟨n1,m1,h1⟩ <;> rcases src k' x hx' with ⟨e2,h2⟩|⟨n2,e2,h2⟩|⟨n2,m2,h2⟩
  ·omega
  ·exfalso;rcases List.mem_cons.1 h2 with rfl|h2
   ·exact hndb.1 (jcj.2 ⟨i,hlt,h1⟩)
   ·exact (subG x h2).2 h1
  ·exact absurd (hm.dj b k' x (inb x h1) h2).symm m2
  ·exfalso;rcases List.mem_cons.1 h1 with rfl|h1
   ·exact hndb.1 (jcj.2 ⟨i,hlt,h2⟩)
   ·exact (subG x h1).2 h2
  ·omega
  ·exact absurd (hm.dj b k' x (inb2 x h1) h2).symm m2
  ·exact absurd (hm.dj b k x (inb x h2) h1).symm m1
  ·exact absurd (hm.dj b k x (inb2 x h2) h1).symm m1
  ·exact hm.dj k k' x h1 h2
theorem sim_back {b sz i c sz' n:Nat} {ds ds':List D} (hb:st.bl b=some (.rowX sz ds i (.ls c sz' 0 n))) (hc:st.bl c=some (.row sz' ds')) (hn:ds'.length=n*sz') (hcb:Nat.beq c b=false) :
  ∀ κ a w,Sim κ st a w->Sim κ ((st.setB c none).setB b (some (.row sz (ds.set i (.sl sz' n ds'))))) a w:=by
 rintro κ a w ⟨ρ,Φ,hm⟩;have hne:c≠b:=fun e=>by subst e;simp at hcb
 have h0:=hm.bl b _ hb;generalize hρb:ρ b=rb at h0;generalize hΦb:Φ b=Fb at h0;cases h0 with
 | rowX g us E _ _ _ _ vs Fs hz hg hl hi hFi hcc hr hx =>
  have hxo:=Gv.ow hm hx (Gv.row c sz' n ds' hc hn);simp only [List.flatMap_cons,List.flatMap_nil,List.append_nil] at hxo;let Gs:Nat->List Nat:=fun j=>if j=i then Φ c else Fs j
  have hgb:g∈Φ b:=by rw [hΦb];exact List.mem_cons_self ..
  have hndb:=hm.nd b;rw [hΦb,List.nodup_cons] at hndb;obtain ⟨nf1,nf2⟩:=nodup_flat hndb.2;have inF:∀ k x,k < ds.length->x∈Fs k->x∈Φ b:=fun k x hk hx=>by rw [hΦb];exact List.mem_cons_of_mem _ (jcj.2 ⟨k,hk,hx⟩)
  have notc:∀ x,x∈Φ c->x ∉ Φ b:=fun x h1 h2=>hne (hm.dj c b x h1 h2);obtain ⟨Φ', hm'⟩ := hm.upd (w' := w) b [c] (.row sz (ds.set i (.sl sz' n ds'))) (g :: parts ds.length Gs) g hgb (by simpa using Ne.symm hne) (Kp.refl _ _) (fun _ _ => rfl) (.refl w)
   (List.nodup_cons.2 ⟨fun h=>by
    obtain ⟨k,hk,hgk⟩:=jcj.1 h;simp only [Gs] at hgk;split at hgk
    ·exact notc g hgk hgb
    ·exact hndb.1 (jcj.2 ⟨k,hk,hgk⟩),nodup_of (fun k hk=>by
     simp only [Gs];split
     ·exact hm.nd c
     ·exact nf1 k hk) fun p q x hp hq hxp hxq=>by
     simp only [Gs] at hxp hxq;split at hxp
     ·split at hxq
      ·omega
      ·exact absurd (inF q x hq hxq) (notc x hxp)
     ·split at hxq
      ·exact absurd (inF p x hp hxp) (notc x hxq)
      ·exact nf2 p q x hp hq hxp hxq⟩)
   (fun x hx=>by
    rcases List.mem_cons.1 hx with rfl|hx
    ·exact .inl hgb
    ·obtain ⟨k,hk,hxk⟩:=jcj.1 hx;simp only [Gs] at hxk;split at hxk
     ·exact .inr ⟨c,List.mem_cons_self ..,hxk⟩
     ·exact .inl (inF k x hk hxk)) (fun Φ' hΦ'=>by
    rw [hρb];have:=BR.row (w:=w) (ρ:=ρ) (Φ:=Φ') g us E sz (ds.set i (.sl sz' n ds')) vs Gs hz hg (by simpa using hl) (fun k hk=>hcc k (by simpa using hk)) (fun k hk=>by
     have hk':k < ds.length:=by simpa using hk
     by_cases hki:k=i
     ·subst hki;simp only [Gs,if_pos,List.getElem_set_self];exact hxo
     ·simp only [Gs,if_neg hki,List.getElem_set_ne (Ne.symm hki)];exact hr k hk' hki)
    simpa using this)
  exact ⟨ρ,Φ',hm'⟩
end
section
variable {P:Program} {ops:Array Oper} {mu:Nat->Bool} {r:OT} {st:St} {K:St->Prop} {j:Nat} {fl:Bool} {ty:TypeId} {pos:String} {af:Array Edge}
theorem so_thaw {T:TypeId} {x:Operand} {d b i sz c sz' n:Nat} {ds ds':List D} (hx:st.ev x = .c (.lp b i)) (hb:st.bl b=some (.row sz ds)) (ht:tOne P T=true) (hi:ds[i]? = some (.sl sz' n ds')) (hcb:Nat.beq c b=false) (hcl:Nat.blt c 1000000=true) (hd:Nat.blt d st.n=true)
  (h:SO P ops mu r ((st.thaw b sz ds i c sz' n ds').put d (.c (.ls c sz' 0 n))) K) :
  SO P ops mu (.cons (some ⟨some d,.load T x,ty,pos,af,none⟩,j,fl) r) st K:=by
 refine ⟨fun κ a w hs=>?_⟩;obtain ⟨ρ,Φ,hm⟩:=hs;have hne:c≠b:=fun e=>by rw [e] at hcb;simp at hcb
 have hp:=hm.ev x;rw [hx] at hp;obtain ⟨g,hρ,hpv⟩:=jhs hp.c_inv;obtain ⟨ρ',Φ',g',us,E,hm',hρ2,hg,v,hv,hcr⟩:=hm.thaw hb hi hne (by simpa using hcl);rw [hρ] at hρ2; cases hρ2;have h1:w.cell? ⟨g,i,none⟩=some v:=by rw [cell_of_row w g i us E (0,0) hg];exact hv
 have hrun:∀ w',jen w w'->(execOp a.eval ⟨some d,.load T x,ty,pos,af,none⟩).run P w' = .ok (.value v) w':=fun w' hs=>by
  simp [execOp,hpv,jjp (P:=P) ht (jgm hs h1)]
 have h2:=h.run κ _ w ⟨ρ',Φ',hm'.put (.c _ _ hcr) d (by simpa [St.thaw,St.setB,St.new,St.kill] using hd)⟩;cases fl with
 | true=>exact ⟨v,⟨.inl ⟨rfl,hrun⟩,fun hm=>by simp [memfree] at hm⟩,h2⟩
 | false =>
  unfold wpT;rw [if_pos (show Region.wanted _ _=true from rfl)];refine .inl ?_;unfold Oper.wp;rw [hrun w (jen.refl w)];exact ⟨fun _=>jen.refl w,h2⟩
end
inductive OwC (w : World) : List Value -> List D -> List (List Nat) -> Prop
 | nil:OwC w [] [] []
 | cons {v:Value} {x:D} {F:List Nat} {vs:List Value} {xs:List D} {Fs:List (List Nat)} (h:Ow w v x F) (t:OwC w vs xs Fs):OwC w (v :: vs) (x :: xs) (F :: Fs)
theorem OwC.owl {w:World} {vs:List Value} {xs:List D} {Fs:List (List Nat)} (h:OwC w vs xs Fs):OwL w vs xs Fs.flatten:=by
 induction h with
 | nil=>exact .nil
 | cons h t ih=>rw [List.flatten_cons];exact .cons h ih
def asmP:RP->List Value->Value
 | .c _,us=>us.headD undef
 | .g xs,us => .agg (us.take xs.length).toArray
def asmL:List RP->List Value->List Value
 | [],_=>[]
 | p :: r,us=>asmP p us :: asmL r (us.drop p.cells.length)
def PM (P:Program) (f:FuncId) (as:List RP) (xs':List D) (y:RP):Prop :=
 (∀ (args:Array Value) (W:World),(callFunc f args).run P W = .ok (.enter f args) W) /\
 (∀ x ∈ xs', x ≠ D.any) /\ ∀ (w : World) (us : List Value) (Fs : List (List Nat)), OwC w us (as.flatMap RP.cells) Fs -> Fs.flatten.Nodup -> (ok : Glb.ok w) -> (gl : ∀ g, Glb.bl g -> g ∉ Fs.flatten) ->
  Calls P f (asmL as us).toArray w fun e w' => ∃ v Gs,e = .returned v/\OwP w' v y []/\OwC w' us xs' Gs/\Gs.flatten.Nodup/\(∀ g∈Gs.flatten,g∈Fs.flatten∨w.heap.size<=g)/\Kp ⟨w,fun g=>g∈Fs.flatten,fun _=>none,fun _ _=>rfl,ok,gl⟩ w w'
inductive GvM (st : St) : List C -> List D -> List (List Nat) -> Prop
 | nil:GvM st [] [] []
 | cons {c:C} {x:D} {S:List Nat} {cs:List C} {xs:List D} {Ss:List (List Nat)} (h:Gv st c x S) (t:GvM st cs xs Ss):GvM st (c :: cs) (x :: xs) (S :: Ss)
inductive jfh (st : St) : List Operand -> List RP -> List (List Nat) -> Prop
 | nil:jfh st [] [] []
 | c {x:Operand} {c:C} {y:D} {S:List Nat} {xs:List Operand} {ys:List RP} {Ss:List (List Nat)} (hx:st.ev x = .c c) (h:Gv st c y S) (t:jfh st xs ys Ss):jfh st (x :: xs) (.c y :: ys) (S :: Ss)
 | g {x:Operand} {cs:List C} {zs:List D} {Ss:List (List Nat)} {xs:List Operand} {ys:List RP} {Ss':List (List Nat)} (hx:st.ev x = .g cs) (h:GvM st cs zs Ss) (t:jfh st xs ys Ss'):jfh st (x :: xs) (.g zs :: ys) (Ss++Ss')
def updB:List (List Nat)->List D->List (Nat×Blk)
 | [b] :: Ss,.sl sz _ ds :: xs=>(b,.row sz ds) :: updB Ss xs
 | _ :: Ss,_ :: xs=>updB Ss xs
 | _,_=>[]
def St.setL (st:St) (L:List (Nat×Blk)):St:={ st with bl:=fun k=>match getL L k with | some x=>some x | none=>st.bl k }
theorem OwC.append {w:World} {vs vs':List Value} {xs xs':List D} {Fs Fs':List (List Nat)} (h:OwC w vs xs Fs) (h':OwC w vs' xs' Fs'):OwC w (vs++vs') (xs++xs') (Fs++Fs'):=by
 induction h with
 | nil=>exact h'
 | cons h t ih=>exact .cons h ih
theorem OwC.len {w:World} {vs:List Value} {xs:List D} {Fs:List (List Nat)} (h:OwC w vs xs Fs):vs.length=xs.length/\Fs.length=xs.length:=by
 induction h with
 | nil=>exact ⟨rfl,rfl⟩
 | cons h t ih=>simp [ih]
section
variable {κ:Ctx} {st:St} {w w':World} {ρ:Nat->Option Nat} {Φ:Nat->List Nat} {a:Act}
inductive CrL (w : World) (ρ : Nat -> Option Nat) (Ψ : Nat -> Prop) : List Value -> List C -> Prop
 | nil:CrL w ρ Ψ [] []
 | cons {v:Value} {c:C} {vs:List Value} {cs:List C} (h:CR w ρ Ψ v c) (t:CrL w ρ Ψ vs cs):CrL w ρ Ψ (v :: vs) (c :: cs)
theorem CrL.append {Ψ:Nat->Prop} {vs vs':List Value} {cs cs':List C} (h:CrL w ρ Ψ vs cs) (h':CrL w ρ Ψ vs' cs'):CrL w ρ Ψ (vs++vs') (cs++cs'):=by
 induction h with
 | nil=>exact h'
 | cons h t ih=>exact .cons h ih
theorem CrL.of {Ψ:Nat->Prop}:∀ {cs:List C} {us:List Value},us.length=cs.length->(∀ k (hk:k < cs.length),CR w ρ Ψ (us.getD k undef) cs[k])->CrL w ρ Ψ us cs
 | [],[],_,_ => .nil
 | [],_ :: _,h,_=>by simp at h
 | _ :: _,[],h,_=>by simp at h
 | c :: cs,u :: us,hl,h => .cons (h 0 Yby) (CrL.of (by simpa using hl) fun k hk=>h (k+1) (by simpa using hk))
theorem GvM.own (hm:Sm κ ρ Φ st a w) {cs:List C} {xs:List D} {Ss:List (List Nat)} (h:GvM st cs xs Ss):∀ {us:List Value},CrL w ρ (InΦ Φ) us cs->OwC w us xs (Ss.map (List.flatMap Φ)):=by
 induction h with
 | nil=>intro us hc;cases hc;exact .nil
 | cons h t ih =>
  intro us hc;cases hc with
  | cons h1 t1=>exact .cons (Gv.ow hm h1 h) (ih t1)
theorem jfh.own (hm:Sm κ ρ Φ st a w) {xs:List Operand} {as:List RP} {Ss:List (List Nat)} (h:jfh st xs as Ss) :
  ∃ us cs,xs.map a.eval=asmL as us/\GvM st cs (as.flatMap RP.cells) Ss/\CrL w ρ (InΦ Φ) us cs:=by
 induction h with
 | nil=>exact ⟨[],[],rfl,.nil,.nil⟩
 | c hx h t ih =>
  rename_i x c y S xs ys Ss;obtain ⟨us,cs,h1,h2,h3⟩:=ih;have hv:=hm.ev x;rw [hx] at hv;exact ⟨a.eval x :: us,c :: cs,by simp [asmL,asmP,RP.cells,h1],.cons h h2,.cons hv.c_inv h3⟩
 | g hx h t ih =>
  rename_i x cs zs Ss xs ys Ss';obtain ⟨us,cs',h1,h2,h3⟩:=ih;have hv:=hm.ev x;rw [hx] at hv;obtain ⟨vs,hvv,hvl,hvr⟩:=hv.g_inv;have hcl:=CrL.of hvl hvr;have hzl:zs.length=vs.length:=by have:=(GvM.own hm h hcl).len.1;omega
  refine ⟨vs++us,cs++cs',?_,?_,hcl.append h3⟩
  ·simp [asmL,asmP,RP.cells,hzl,h1,hvv]
  ·rw [List.flatMap_cons];have:∀ {c1 c2:List C} {x1 x2:List D} {s1 s2:List (List Nat)},GvM st c1 x1 s1->GvM st c2 x2 s2->GvM st (c1++c2) (x1++x2) (s1++s2):=by
    intro c1 c2 x1 x2 s1 s2 ha hb;induction ha with
    | nil=>exact hb
    | cons h t ih=>exact .cons h ih
   exact this h h2
theorem Sm.updL (hm:Sm κ ρ Φ st a w) (L:List (Nat×Blk)) (F:Nat->List Nat) (hk:Kp κ w w') (hw:∀ g,(∀ b,inL L b=true->g ∉ Φ b)->g < w.heap.size->w'.heap[g]? = w.heap[g]?)
    (hnd:∀ b,inL L b=true->(F b).Nodup) (hdj:∀ b b' g,inL L b=true->inL L b'=true->g∈F b->g∈F b'->b=b')
    (hF:∀ b,inL L b=true -> ∀ g∈F b,(∃ c,inL L c=true/\g∈Φ c)∨w.heap.size<=g) (hx:∀ Φ':Nat->Prop,∀ b x,getL L b=some x->BR w' ρ Φ' (ρ b) x (F b)):∃ Φ',Sm κ ρ Φ' (st.setL L) a w':=by
  let Φ':Nat->List Nat:=fun k=>if inL L k then F k else Φ k
  have src:∀ k g,g∈Φ' k->(inL L k=true/\g∈F k)∨(inL L k=false/\g∈Φ k):=fun k g hg=>by
    simp only [Φ'] at hg;split at hg
    · rename_i h;exact .inl ⟨h,hg⟩
    · rename_i h;exact .inr ⟨by simpa using h,hg⟩
  have hΦF:∀ g,InΦ Φ' g->InΦ Φ g∨w.heap.size<=g:=fun g ⟨k,hg⟩=>by
    rcases src k g hg with ⟨h,h2⟩|⟨_,h⟩
    · rcases hF k h g h2 with ⟨c, _, hc⟩|h
      · exact .inl ⟨c,hc⟩
      · exact .inr h
    · exact .inl ⟨k,h⟩
  have hout:∀ g,¬ InΦ Φ g->g < w.heap.size->w'.heap[g]? = w.heap[g]? := fun g hg hlt=>hw g (fun c _ hc=>hg ⟨c,hc⟩) hlt;refine ⟨Φ',hm.below.trans hk,hm.size,hm.nb,hm.pin,hm.defers,fun t=>(hm.fr t).keep hout hk.shp hΦF,fun k y hy=>?_,fun k hk'=>?_,fun k g hg=>?_,fun k=>?_,fun k k' g h1 h2=>?_⟩
  · simp only [St.setL] at hy
    have hgi:=jfe L k;cases hg:getL L k with
    | some x =>
      rw [hg] at hy hgi;cases hy;have hkL:inL L k=true:=by simpa using hgi
      simp only [Φ',if_pos hkL];exact hx _ k _ hg
    | none =>
      rw [hg] at hy hgi;have hkL:inL L k=false:=by simpa using hgi
      have e:Φ' k=Φ k:=by simp [Φ',hkL]
      rw [e];refine (hm.bl k y hy).keep hout (fun g hg=>hw g (fun c hc hg'=>?_) (hm.lt hg)) hk.shp hΦF;have:=hm.dj k c g hg hg';subst this;rw [hkL] at hc;cases hc
  · simp only [St.setL] at hk'
    have hgi:=jfe L k;cases hg:getL L k with
    | some x=>rw [hg] at hk';cases hk'
    | none =>
      rw [hg] at hk' hgi;have hkL:inL L k=false:=by simpa using hgi
      simp only [Φ',hkL,Bool.false_eq_true,if_false];exact hm.emp k hk'
  · rcases src k g hg with ⟨h, h2⟩|⟨_, h⟩
    · rcases hF k h g h2 with ⟨c, _, hc⟩|h
      · exact hm.low c g hc
      · exact .inl (Nat.le_trans hm.below.size h)
    · exact hm.low k g h
  · simp only [Φ']; split
    · rename_i h;exact hnd k h
    · exact hm.nd k
  · have key:∀ k k' g,inL L k=true->g∈F k->inL L k'=false->g∈Φ k'->False:=fun k k' g h1 h2 h3 h4=>by
      rcases hF k h1 g h2 with ⟨c,hc,hgc⟩|h
      · have:=hm.dj c k' g hgc h4;subst this;rw [h3] at hc;cases hc
      · have:=hm.lt h4;omega
    rcases src k g h1 with ⟨a1,b1⟩|⟨a1,b1⟩ <;> rcases src k' g h2 with ⟨a2,b2⟩|⟨a2,b2⟩
    · exact hdj k k' g a1 a2 b1 b2
    · exact (key k k' g a1 b1 a2 b2).elim
    · exact (key k' k g a2 b2 a1 b1).elim
    · exact hm.dj k k' g b1 b2
theorem jfy:∀ {Ss:List (List Nat)} {xs:List D} {b:Nat},inL (updB Ss xs) b=true -> ∃ S∈Ss,b∈S
 | [],_,_,h=>by simp [updB,inL] at h
 | [b'] :: Ss,.sl _ _ _ :: xs,b,h=>by
  simp only [updB,inL,List.any_cons,Bool.or_eq_true,beq_iff_eq] at h;rcases h with h | h
  ·exact ⟨[b'],List.mem_cons_self ..,by simp [h]⟩
  ·obtain ⟨S,h1,h2⟩:=jfy (Ss:=Ss) (xs:=xs) (b:=b) h;exact ⟨S,List.mem_cons_of_mem _ h1,h2⟩
 | S0 :: Ss,[],b,h=>by unfold updB at h;simp [inL] at h
 | [] :: Ss,x :: xs,b,h=>by
  have:updB ([] :: Ss) (x :: xs)=updB Ss xs:=by simp [updB]
  rw [this] at h;obtain ⟨S,h1,h2⟩:=jfy h;exact ⟨S,List.mem_cons_of_mem _ h1,h2⟩
 | (y :: z :: S0) :: Ss,x :: xs,b,h=>by
  have:updB ((y :: z :: S0) :: Ss) (x :: xs)=updB Ss xs:=by simp [updB]
  rw [this] at h;obtain ⟨S,h1,h2⟩:=jfy h;exact ⟨S,List.mem_cons_of_mem _ h1,h2⟩
 | [b'] :: Ss,.lit v0 :: xs,b,h=>by
  have:updB ([b'] :: Ss) (.lit v0 :: xs)=updB Ss xs:=by simp [updB]
  rw [this] at h;obtain ⟨S,h1,h2⟩:=jfy h;exact ⟨S,List.mem_cons_of_mem _ h1,h2⟩
 | [b'] :: Ss,.pt d0 :: xs,b,h=>by
  have:updB ([b'] :: Ss) (.pt d0 :: xs)=updB Ss xs:=by simp [updB]
  rw [this] at h;obtain ⟨S,h1,h2⟩:=jfy h;exact ⟨S,List.mem_cons_of_mem _ h1,h2⟩
 | [b'] :: Ss,.fn f0 d0 :: xs,b,h=>by
  have:updB ([b'] :: Ss) (.fn f0 d0 :: xs)=updB Ss xs:=by simp [updB]
  rw [this] at h;obtain ⟨S,h1,h2⟩:=jfy h;exact ⟨S,List.mem_cons_of_mem _ h1,h2⟩
 | [b'] :: Ss,.bf f0 d0 :: xs,b,h=>by
  have:updB ([b'] :: Ss) (.bf f0 d0 :: xs)=updB Ss xs:=by simp [updB]
  rw [this] at h;obtain ⟨S,h1,h2⟩:=jfy h;exact ⟨S,List.mem_cons_of_mem _ h1,h2⟩
 | [b'] :: Ss,.same v0 x0 :: xs,b,h=>by
  have:updB ([b'] :: Ss) (.same v0 x0 :: xs)=updB Ss xs:=by simp [updB]
  rw [this] at h;obtain ⟨S,h1,h2⟩:=jfy h;exact ⟨S,List.mem_cons_of_mem _ h1,h2⟩
 | [b'] :: Ss,.any :: xs,b,h=>by
  have:updB ([b'] :: Ss) (.any :: xs)=updB Ss xs:=by simp [updB]
  rw [this] at h;obtain ⟨S,h1,h2⟩:=jfy h;exact ⟨S,List.mem_cons_of_mem _ h1,h2⟩
end
section
variable {st:St} {w w':World} {ρ:Nat->Option Nat} {Φ:Nat->List Nat}
theorem updB_run {Ψ:Nat->Prop} {cs:List C} {xs:List D} {Ss:List (List Nat)} (h:GvM st cs xs Ss):∀ {us:List Value} {xs':List D} {Gs:List (List Nat)},CrL w ρ Ψ us cs->OwC w' us xs' Gs->Gs.flatten.Nodup->Ss.flatten.Nodup ->
    ∃ F : Nat -> List Nat, (∀ b x, getL (updB Ss xs') b = some x -> ∀ Φ' : Nat -> Prop, BR w' ρ Φ' (ρ b) x (F b)) /\ (∀ b, inL (updB Ss xs') b = true -> (F b).Nodup /\ ∀ g ∈ F b, g ∈ Gs.flatten) /\
      ∀ b b' g,inL (updB Ss xs') b=true->inL (updB Ss xs') b'=true->g∈F b->g∈F b'->b=b':=by
  induction h with
  | nil =>
    intro us xs' Gs hc ho _ _;exact ⟨fun _=>[],fun b x hx=>by simp [updB,getL] at hx,fun b hb=>by simp [updB,inL] at hb,fun b b' g hb=>by simp [updB,inL] at hb⟩
  | cons hg t ih =>
    rename_i c x S cs xs Ss;intro us xs' Gs hc ho hnd hS;cases hc with
    | cons hc1 hct =>
      cases ho with
      | cons ho1 hot =>
        rename_i u us x' G xs' Gs;rw [List.flatten_cons,List.nodup_append] at hnd;rw [List.flatten_cons,List.nodup_append] at hS;obtain ⟨F,f1,f2,f3⟩:=ih hct hot hnd.2.1 hS.2.1;have skip : updB (S :: Ss) (x' :: xs') = updB Ss xs' -> ∃ F : Nat -> List Nat, (∀ b x, getL (updB (S :: Ss) (x' :: xs')) b = some x -> ∀ Φ' : Nat -> Prop, BR w' ρ Φ' (ρ b) x (F b)) /\ (∀ b, inL (updB (S :: Ss) (x' :: xs')) b = true -> (F b).Nodup /\ ∀ g ∈ F b, g ∈ (G :: Gs).flatten) /\
            ∀ b b' g,inL (updB (S :: Ss) (x' :: xs')) b=true->inL (updB (S :: Ss) (x' :: xs')) b'=true->g∈F b->g∈F b'->b=b':=fun e=>by
          rw [e];exact ⟨F,f1,fun b hb=>⟨(f2 b hb).1,fun g hg=>by rw [List.flatten_cons];exact List.mem_append_right _ ((f2 b hb).2 g hg)⟩,f3⟩
        cases hg with
        | lit v=>exact skip (by simp [updB])
        | nil sz hz=>exact skip (by simp [updB])
        | row b0 sz n ds hb hn =>
          cases x' with
          | sl sz' n' ds' =>
            have hBR:∀ Φ':Nat->Prop,BR w' ρ Φ' (ρ b0) (.row sz' ds') G:=fun Φ'=>by
              rcases jgb hc1 with ⟨h0,rfl,_⟩|⟨g,cap,us2,E,hρ,rfl,_⟩
              · rw [h0]
                cases ho1 with|nil _ hz=>exact .nil _ hz
              · rw [hρ]
                cases ho1 with
                | sl _ _ _ _ E2 cs2 _ us3 Fs3 hn3 hz3 hle3 hg3 hnc3 hcap3 hc3 hr3 =>
                  exact .row g cs2 E2 sz' ds' us3 Fs3 hz3 hg3 (by rw [hn3];exact Nat.le_trans (Nat.mul_le_mul_right _ hnc3) hcap3) hc3 hr3
            have hb0:∀ b,inL (updB Ss xs') b=true->b≠b0:=fun b hb e=>by
              obtain ⟨S,h1,h2⟩:=jfy hb;exact hS.2.2 b0 (List.mem_cons_self ..) b (List.mem_flatten.2 ⟨S,h1,h2⟩) e.symm
            have eq:updB ([b0] :: Ss) (.sl sz' n' ds' :: xs')=(b0,.row sz' ds') :: updB Ss xs':=by simp [updB]
            rw [eq];refine ⟨fun k=>if k=b0 then G else F k,fun b y hy Φ'=>?_,fun b hb=>?_,fun b b' g hb hb' hg hg'=>?_⟩
            · simp only [getL] at hy
              by_cases e:b0=b
              · subst e
                rw [if_pos rfl] at hy;cases hy;simp only [if_pos];exact hBR Φ'
              · rw [if_neg e] at hy
                simp only [if_neg (Ne.symm e)];exact f1 b y hy Φ'
            · by_cases e : b = b0
              · simp only [if_pos e];exact ⟨hnd.1,fun g hg=>by rw [List.flatten_cons];exact List.mem_append_left _ hg⟩
              · have hb' : inL (updB Ss xs') b = true := by simpa [inL, Ne.symm e] using hb
                simp only [if_neg e];exact ⟨(f2 b hb').1,fun g hg=>by rw [List.flatten_cons];exact List.mem_append_right _ ((f2 b hb').2 g hg)⟩
            · by_cases e : b = b0
              · by_cases e' : b' = b0
                · omega
                · have hb2 : inL (updB Ss xs') b' = true := by simpa [inL, Ne.symm e'] using hb'
                  simp only [if_pos e] at hg;simp only [if_neg e'] at hg';exact absurd rfl (hnd.2.2 g hg g ((f2 b' hb2).2 g hg'))
              · have hb2 : inL (updB Ss xs') b = true := by simpa [inL, Ne.symm e] using hb
                simp only [if_neg e] at hg;by_cases e':b'=b0
                · simp only [if_pos e'] at hg'
                  exact absurd rfl (hnd.2.2 g hg' g ((f2 b hb2).2 g hg))
                · have hb3 : inL (updB Ss xs') b' = true := by simpa [inL, Ne.symm e'] using hb'
                  simp only [if_neg e'] at hg';exact f3 b b' g hb2 hb3 hg hg'
          | lit v=>exact skip (by simp [updB])
          | pt d=>exact skip (by simp [updB])
          | fn f d=>exact skip (by simp [updB])
          | bf f d=>exact skip (by simp [updB])
          | same v y=>exact skip (by simp [updB])
          | any=>exact skip (by simp [updB])
end
section
variable {P:Program} {ops:Array Oper} {mu:Nat->Bool} {r:OT} {st:St} {K:St->Prop} {j:Nat} {ty:TypeId} {pos:String} {af:Array Edge}
theorem nodup_maps {Φ:Nat->List Nat} (nd:∀ b,(Φ b).Nodup) (dj:∀ b b' g,g∈Φ b->g∈Φ b'->b=b') (Ss:List (List Nat)):(Ss.map (List.flatMap Φ)).flatten=Ss.flatten.flatMap Φ:=by
 induction Ss with
 | nil=>rfl
 | cons S Ss ih=>simp [List.flatMap_append,ih]
theorem jfi {xs:List Operand} {ts:Array TypeId} {d:Nat} {fid:FuncId} {as:List RP} {xs':List D} {y:D} {Ss:List (List Nat)} (ha:jfh st xs as Ss) (hS:Ss.flatten.Nodup) (hc:PM P fid as xs' (.c y)) (hd:Nat.blt d st.n=true) (hmu:mu j=true)
    (h:SO P ops mu r ((st.setL (updB Ss xs')).put d (.c (.d y))) K) :
    SO P ops mu (.cons (some ⟨some d,.call { callee:=.value (.func fid),args:=⟨xs⟩,argTypes:=ts },ty,pos,af,none⟩,j,false) r) st K:=by
  refine so_m hmu fun κ a w hs next Q hn=>?_;obtain ⟨ρ,Φ,hm⟩:=hs;obtain ⟨us,cs,h1,h2,h3⟩:=ha.own hm;have ho:=h2.own hm h3;have hfl:=nodup_maps hm.nd hm.dj Ss;have hnd:((Ss.map (List.flatMap Φ)).flatten).Nodup:=by rw [hfl];exact jee hm.nd hm.dj hS
  have hcall:=hc.2.2 w us _ ho hnd hm.below.ok (fun g hg h=>Ctx.gln hg (by rw [hfl] at h;obtain ⟨b,_,hb⟩:=List.mem_flatMap.1 h;exact hm.low b g hb));have hex:(execOp a.eval ⟨some d,.call { callee:=.value (.func fid),args:=⟨xs⟩,argTypes:=ts },ty,pos,af,none⟩).run P w = .ok (.enter fid (asmL as us).toArray) w:=by
    rw [<- h1];simp only [execOp,resolve,Sem.run_bind,Act.eval];simp [Deferred.ofValue,invoke];exact hc.1 _ _
  unfold Oper.wp;rw [hex];refine Calls.mono hcall ?_;rintro e w' ⟨v,Gs,rfl,c1,c2,c3,c4,c5⟩;obtain ⟨F,f1,f2,f3⟩:=updB_run h2 h3 c2 c3 hS;have kp:Kp κ w w':=⟨c5.os,c5.tape,c5.output,c5.size,c5.shp,fun g hg=>c5.block g fun h=>hg (by
    rcases h with h | h
    · exact .inl (Nat.le_trans hm.below.size h)
    · have h2 : g ∈ List.flatMap Φ Ss.flatten := (congrArg (g ∈ ·) hfl).mp h
      obtain ⟨b,_,hb⟩:=List.mem_flatMap.1 h2;exact hm.low b g hb)⟩
  have upd:∀ b,b∈Ss.flatten->inL (updB Ss xs') b=true∨Φ b=[]:=by
    have gen:∀ {cs:List C} {zs:List D} {Ts:List (List Nat)},GvM st cs zs Ts -> ∀ {us:List Value} {zs':List D} {Hs:List (List Nat)},CrL w ρ (InΦ Φ) us cs->OwC w' us zs' Hs->(∀ x∈zs',x≠D.any) -> ∀ b,b∈Ts.flatten->inL (updB Ts zs') b=true∨Φ b=[]:=by
      intro cs zs Ts hg;induction hg with
      | nil=>intro us zs' Hs _ _ _ b hb;simp at hb
      | cons hg t ih =>
        intro us zs' Hs hc ho hfa b hb;cases hc with
        | cons hc1 hct =>
          cases ho with
          | cons ho1 hot =>
            rw [List.flatten_cons,List.mem_append] at hb;cases hg with
            | lit v=>rcases hb with hb|hb;cases hb;simpa [updB] using ih hct hot (fun x hx=>hfa x (List.mem_cons_of_mem _ hx)) b hb
            | nil sz hz=>rcases hb with hb|hb;cases hb;simpa [updB] using ih hct hot (fun x hx=>hfa x (List.mem_cons_of_mem _ hx)) b hb
            | row b0 sz n ds hbl hn =>
              have slc:∀ {sz' n':Nat} {ds':List D} {zs:List D} {Ts:List (List Nat)},(b∈[b0]∨b∈Ts.flatten)->(b∈Ts.flatten->inL (updB Ts zs) b=true∨Φ b=[])->inL (updB ([b0] :: Ts) (.sl sz' n' ds' :: zs)) b=true∨Φ b=[]:=by
                intro sz' n' ds' zs Ts hb hih;have eq:updB ([b0] :: Ts) (.sl sz' n' ds' :: zs)=(b0,.row sz' ds') :: updB Ts zs:=by simp [updB]
                rw [eq];rcases hb with hb|hb
                · simp at hb;subst hb;exact .inl (by simp [inL])
                · rcases hih hb with h|h
                  · refine .inl ?_
                    simp only [inL,List.any_cons,Bool.or_eq_true] at h ⊢;exact .inr h
                  · exact .inr h
              rcases jgb hc1 with ⟨hρ0,rfl,_⟩|⟨g,cap,us2,E,_,rfl,_⟩
              · have hΦ0:Φ b0=[]:=by
                  rcases hm.rowN hbl with ⟨_,_,h,_⟩|⟨_,_,_,_,_,h,_⟩
                  · exact h
                  · rw [hρ0] at h;cases h
                cases ho1 with
                | lit _ h =>
                  rcases hb with hb|hb
                  · simp at hb;subst hb;exact .inr hΦ0
                  · simpa [updB] using ih hct hot (fun x hx=>hfa x (List.mem_cons_of_mem _ hx)) b hb
                | any=>exact absurd rfl (hfa _ (List.mem_cons_self ..))
                | nil _ _=>exact slc hb fun h=>ih hct hot (fun x hx=>hfa x (List.mem_cons_of_mem _ hx)) b h
              · cases ho1 with
                | lit _ h=>simp [sc] at h
                | any=>exact absurd rfl (hfa _ (List.mem_cons_self ..))
                | sl=>exact slc hb fun h=>ih hct hot (fun x hx=>hfa x (List.mem_cons_of_mem _ hx)) b h
    exact gen h2 h3 c2 hc.2.1
  obtain ⟨Φ',hm'⟩:=hm.updL (w':=w') (updB Ss xs') F kp (fun g hg hlt=>c5.block g fun h=>by
    rcases h with h | h
    · exact absurd hlt (Nat.not_lt.2 h)
    · replace h := (congrArg (g ∈ ·) hfl).mp h
      obtain ⟨b,hb,hgb⟩:=List.mem_flatMap.1 h;rcases upd b hb with h|h
      · exact hg b h hgb
      · rw [h] at hgb;cases hgb) (fun b hb=>(f2 b hb).1) f3 (fun b hb g hg=>by
      rcases c4 g ((f2 b hb).2 g hg) with h|h
      · replace h := (congrArg (g ∈ ·) hfl).mp h
        obtain ⟨b2,hb2,hgb⟩:=List.mem_flatMap.1 h;rcases upd b2 hb2 with h|h
        · exact .inl ⟨b2,h,hgb⟩
        · rw [h] at hgb;cases hgb
      · exact .inr h) (fun Φ' b x hx=>f1 b x hx Φ')
  refine hn _ _ (fun h=>by cases h) ⟨_,⟨ρ,Φ',hm'.put ?_ d (by simpa [St.setL] using hd)⟩,h⟩;cases c1 with
  | c h =>
    obtain ⟨F',h1,h2⟩:=h.vw;exact .c _ _ (.d _ _ F' h1 fun b hb=>by have:=h2 b hb;cases this)
end
def asmFV:List RP->List C->Nat->FV
 | [],_,_ => .c .junk
 | p :: _,cs,0=>p.shape cs
 | p :: r,cs,t+1=>asmFV r (cs.drop p.cells.length) t
def St.enterM (n:Nat) (as:List RP):St:=⟨n,asmFV as (ownCs 1000000 (as.flatMap RP.cells)),getL (ownBs 1000000 (as.flatMap RP.cells))⟩
inductive joc (st : St) : Nat -> List D -> List D -> Prop
 | nil (id:Nat):joc st id [] []
 | lit {id:Nat} {v:Value} {xs xs':List D} (t:joc st (id+1000) xs xs'):joc st id (.lit v :: xs) (.lit v :: xs')
 | sl {id sz n:Nat} {ds ds':List D} {xs xs':List D} (hb:st.bl id=some (.row sz ds')) (hn:ds'.length=n*sz) (t:joc st (id+1000) xs xs'):joc st id (.sl sz n ds :: xs) (.sl sz n ds' :: xs')
structure MutOK (P : Program) (vs : List ResultVar) (xs xs' : List D) (y : Value) (st : St) : Prop where
 ret:GvA P st vs [.c (.lit y)] []
 out:joc st 1000000 xs xs'
def FitM (as:List RP):Prop := ∃ w us Fs,OwC w us (as.flatMap RP.cells) Fs
theorem asm_fr {w:World} {ρ:Nat->Option Nat} {Ψ:Nat->Prop}:∀ (as:List RP) {us:List Value} {cs:List C} (t:Nat),CrL w ρ Ψ us cs->cs.length=(as.flatMap RP.cells).length->FR w ρ Ψ ((asmL as us).getD t undef) (asmFV as cs t)
 | [],us,cs,t,_,_=>FR.junkI _
 | p :: as,us,cs,0,hc,hl=>by
  have gen:∀ {us:List Value} {cs:List C},CrL w ρ Ψ us cs->us.length=cs.length /\ ∀ k (hk:k < cs.length),CR w ρ Ψ (us.getD k undef) cs[k]:=by
   intro us cs h;induction h with
   | nil=>exact ⟨rfl,fun k hk=>by simp at hk⟩
   | cons h t ih=>exact ⟨by simp [ih.1],fun k hk=>by cases k with|zero=>exact h|succ k=>simpa using ih.2 k (by simpa using hk)⟩
  obtain ⟨hul,hr⟩:=gen hc;rw [List.flatMap_cons,List.length_append] at hl;show FR w ρ Ψ (asmP p us) (p.shape cs);cases p with
  | c x =>
   cases hc with
   | nil=>simp only [RP.cells,List.length_cons,List.length_nil] at hl;omega
   | cons h t=>exact .c _ _ h
  | g xs =>
   simp only [RP.cells] at hl;refine .g _ (us.take xs.length) Ybw fun k hk=>?_;have hk':k < xs.length:=by simp at hk;omega
   have:=hr k Kf;rw [List.getD_eq_getElem?_getD,List.getElem?_take_of_lt hk',<- List.getD_eq_getElem?_getD];simpa using this
 | p :: as,us,cs,t+1,hc,hl=>by
  have drop:∀ {us:List Value} {cs:List C} (m:Nat),CrL w ρ Ψ us cs->CrL w ρ Ψ (us.drop m) (cs.drop m):=by
   intro us cs m h;induction h generalizing m with
   | nil=>simp;exact .nil
   | cons h t ih=>cases m with|zero=>exact .cons h t|succ m=>exact ih m
  rw [List.flatMap_cons,List.length_append] at hl;exact asm_fr as t (drop p.cells.length hc) (by rw [List.length_drop];omega)
theorem jhn {P:Program} {f:FuncId} {fn:Func} {c:Code} {n:Nat} {vs:List ResultVar} {as:List RP} {xs':List D} {y:Value} (hf:P.funcs[f]? = some fn) (h:FitM as->SK P [.code c] (St.enterM n as) (MutOK P vs (as.flatMap RP.cells) xs' y))
    (hb:fn.body=some c:=by exact rfl) (hn:fn.ntmps=n:=by exact rfl) (hvs:fn.results=⟨vs⟩:=by exact rfl)
    (hname : (fn.name == "runtime.NumGoroutine") = false := by kernel_rfl) (hle : Nat.ble as.length n = true := by exact rfl) (hnb : Nat.ble n 1000 = true := by exact rfl) (hany : ∀ x ∈ xs', x ≠ D.any := by first | decide | simp) : PM P f as xs' (.c (.lit y)) := by
  refine ⟨fun args W=>by simp only [beq_eq_false_iff_ne] at hname;simp [callFunc,hf,hname,hb],hany,fun w us Fs ho hnd ok gl=>?_⟩;refine calls_of_wp hf hb ?_;rw [hn];obtain ⟨r,G,h1,h2,h3,h4⟩:=ho.owl.own hnd 1000000;generalize hxs:as.flatMap RP.cells=xs at *;let L:=ownBs 1000000 xs
  let κ:Ctx:=⟨w,fun g=>g∈Fs.flatten,fun b=>if inL L b then some (r b) else none,fun b hb=>by
    cases hi:inL L b with
    | true=>have:=jik hi;omega
    | false=>simp,ok,gl⟩
  let ρ:Nat->Option Nat:=fun b=>if inL L b then r b else none
  let Φ:Nat->List Nat:=fun b=>if inL L b then G b else []
  have hρ:∀ b,inL L b=true->ρ b=r b:=fun b hb=>if_pos hb;have src:∀ b g,g∈Φ b->inL L b=true/\g∈G b:=fun b g hg=>by
    simp only [Φ] at hg;split at hg
    · rename_i h;exact ⟨h,hg⟩
    · cases hg
  have hcr:CrL w ρ (InΦ Φ) us (ownCs 1000000 xs):=CrL.of (by rw [jdp];exact ho.len.1) fun k hk=>h4 ρ _ hρ k hk;have hvl:(asmL as us).length=as.length:=by
    have gen:∀ (as:List RP) (us:List Value),(asmL as us).length=as.length:=by
      intro as;induction as with
      | nil=>intro us; rfl
      | cons p as ih=>intro us;simp [asmL,ih]
    exact gen as us
  have hle':as.length<=n:=by simpa using hle
  have hnb':(St.enterM n as).n<=1000:=(by simpa using hnb:n<=1000);have sm:Sm κ ρ Φ (St.enterM n as) { tmps:=(asmL as us).toArray++Array.replicate (n - (asmL as us).toArray.size) undef,defers:=[] } w:=by
    refine ⟨Kp.refl _ _,by simp [St.enterM,hvl];omega,hnb',fun b r' hb=>?_,rfl,fun t=>?_,fun b x hx=>?_,fun b hb=>?_,fun b g hg => .inr ((h2 b (src b g hg).1).2 g (src b g hg).2),fun b=>?_,fun b b' g hg hg'=>h3 b b' g (src b g hg).1 (src b' g hg').1 (src b g hg).2 (src b' g hg').2⟩
    · simp only [κ] at hb
      split at hb
      · rename_i hi;cases hb;exact hρ b hi
      · cases hb
    · have e:((asmL as us).toArray++Array.replicate (n - (asmL as us).toArray.size) undef).getD t undef=(asmL as us).getD t undef:=by
        rw [Array.getD_eq_getD_getElem?,List.getD_eq_getElem?_getD];by_cases ht:t < (asmL as us).length
        · rw [Array.getElem?_append_left (by simpa using ht)];simp
        · rw [Array.getElem?_append_right Ybw, Array.getElem?_replicate, List.getElem?_eq_none Kf]
          split <;> rfl
      show FR w ρ _ (((asmL as us).toArray++Array.replicate (n - (asmL as us).toArray.size) undef).getD t undef) ((St.enterM n as).fr t);rw [e];simp only [St.enterM,hxs];exact asm_fr as t hcr (by rw [jdp,hxs])
    · simp only [St.enterM, hxs] at hx
      have hi:inL L b=true:=by have:=jfe L b;rw [this];simp only [L];rw [hx];rfl
      rw [hρ b hi];have e:Φ b=G b:=if_pos hi;rw [e];exact h1 b x hx ρ _
    · simp only [St.enterM, hxs] at hb
      have hi:inL L b=false:=by have:=jfe L b;rw [this];simp only [L];rw [hb];rfl
      simp [Φ,hi]
    · simp only [Φ]; split
      · rename_i hi;exact (h2 b hi).1
      · exact List.nodup_nil
  have hfit:FitM as:=⟨w,us,Fs,by rw [hxs];exact ho⟩;refine Code.wp_mono ?_ ((h hfit).lv κ _ w ⟨ρ,Φ,sm⟩);rintro e a' w' ⟨st',⟨ρ',Φ',hm⟩,hq⟩;have fin:MutOK P vs xs xs' y st'->bodyPost P fn (fun e w' => ∃ v Gs,e = .returned v/\OwP w' v (.c (.lit y)) []/\OwC w' us xs' Gs/\Gs.flatten.Nodup/\(∀ g∈Gs.flatten,g∈Fs.flatten∨w.heap.size<=g)/\Kp ⟨w,fun g=>g∈Fs.flatten,fun _=>none,fun _ _=>rfl,ok,gl⟩ w w') .normal a' w':=fun hr=>by
    have hret:jbc P vs (.p (.c (.lit y))) st':=.p hr.ret List.nodup_nil;have pinned:∀ b,inL L b=true->ρ' b=ρ b:=fun b hb=>by rw [hρ b hb];exact hm.pin b (r b) (by simp only [κ];exact if_pos hb)
    have out : ∀ {id : Nat} {xs xs' : List D}, joc st' id xs xs' -> ∀ {us : List Value}, CrL w ρ (InΦ Φ) us (ownCs id xs) -> (∀ b, inL (ownBs id xs) b = true -> ρ' b = ρ b) -> (∀ k (hk : k < xs.length), ∃ F, Ow w (us.getD k undef) xs[k] F) ->
        ∃ Gs,OwC w' us xs' Gs/\Gs.flatten.Nodup /\ ∀ g∈Gs.flatten,∃ b,inL (ownBs id xs) b=true/\g∈Φ' b:=by
      intro id xs xs' ho;induction ho with
      | nil id=>intro us hc _ _;cases hc;exact ⟨[],.nil,List.nodup_nil,fun g hg=>by cases hg⟩
      | lit t ih =>
        rename_i id v xs xs';intro us hc hp hw;cases hc with
        | cons hc1 hct =>
          obtain ⟨Gs,g1,g2,g3⟩:=ih hct (fun b hb=>hp b (by rw [ownBs,jef,hb,Bool.or_true])) (fun k hk=>hw (k+1) (by simpa using hk));obtain ⟨F,hF⟩:=hw 0 Yby
          cases hF with
          | lit _ hs=>exact ⟨[] :: Gs,.cons (.lit _ hs) g1,by simpa using g2,fun g hg=>by obtain ⟨b,hb,hgb⟩:=g3 g (by simpa using hg);exact ⟨b,by rw [ownBs,jef,hb,Bool.or_true],hgb⟩⟩
      | sl hbl hnn t ih =>
        rename_i id sz n ds ds' xs xs';intro us hc hp hw;cases hc with
        | cons hc1 hct =>
          rename_i u us;obtain ⟨Gs,g1,g2,g3⟩:=ih hct (fun b hb=>hp b (by rw [ownBs,jef,hb,Bool.or_true])) (fun k hk=>hw (k+1) (by simpa using hk));have hid:inL (ownBs id (.sl sz n ds :: xs)) id=true:=by rw [ownBs,jef];simp [ownB,inL]
          have hpid:=hp id hid;have hOw:Ow w' u (.sl sz n ds') (Φ' id):=by
            rcases hm.rowN hbl with ⟨h0,rfl,hΦ0,hz⟩|⟨g,us2,E2,vs2,Fs2,hρ2,hΦ2,hz,hg2,hl2,hcc2,hr2⟩
            · rw [hΦ0]
              rcases jgb hc1 with ⟨_,rfl,_,rfl⟩|⟨g,_,_,_,hρ,_⟩
              · exact .nil sz hz
              · rw [hpid,hρ] at h0;cases h0
            · rw [hΦ2]
              rcases jgb hc1 with ⟨h0,_⟩|⟨g',cap,cs,E',hρ',rfl,hnc,hle,hg',hcap⟩
              · rw [hpid,h0] at hρ2;cases hρ2
              · rw [hpid, hρ'] at hρ2;cases hρ2
                obtain ⟨cs',hc',hsz'⟩:=hm.below.shp _ cs E' hg';rw [hg2] at hc';cases hc';exact .sl _ n cap sz E2 us2 ds' vs2 Fs2 hnn hz hle hg2 hnc Kf hcc2 hr2
          refine ⟨Φ' id :: Gs,.cons hOw g1,?_,fun g hg=>?_⟩
          · rw [List.flatten_cons]
            refine List.nodup_append.2 ⟨hm.nd id,g2,fun x hx y hy e=>?_⟩;subst e;obtain ⟨b,hb,hgb⟩:=g3 x hy;have:=hm.dj id b x hx hgb;have:=jik hb;omega
          · rw [List.flatten_cons] at hg
            rcases List.mem_append.1 hg with hg|hg
            · exact ⟨id,hid,hg⟩
            · obtain ⟨b, hb, hgb⟩ := g3 g hg
              exact ⟨b,by rw [ownBs,jef,hb,Bool.or_true],hgb⟩
    have hows:∀ k (hk:k < xs.length),∃ F,Ow w (us.getD k undef) xs[k] F:=by
      obtain ⟨Fs',_,h⟩:=ho.owl.split;exact fun k hk=>⟨_,h k hk⟩
    obtain ⟨Gs,g1,g2,g3⟩:=out hr.out hcr pinned hows;obtain ⟨v,F,hv1,hv2,hv3,hv4⟩:=hret.run hm hvs;have hv2':OwP w' v (.c (.lit y)) []:=by
      cases hv2 with
      | p h=>cases h with|c h=>cases h with|lit _ hs=>exact .c (.lit _ hs)
    exact ⟨hm.defers,v,hv1,v,Gs,rfl,hv2',g1,g2,fun g hg=>by
      obtain ⟨b,_,hgb⟩:=g3 g hg;exact (hm.low b g hgb).symm,⟨hm.below.os,hm.below.tape,hm.below.output,hm.below.size,hm.below.shp,fun g hg=>hm.below.block g hg⟩⟩
  cases e with
  | normal=>exact fin hq
  | ret=>exact fin (by rw [LV.ret] at hq;exact hq)
  | exit id=>exact (hq:False).elim
  | goto l=>exact (LV.bad trivial hq).elim
  | panic c=>exact (LV.bad trivial hq).elim
  | outgrown=>exact (LV.bad trivial hq).elim
theorem jiz {P:Program} {k:List Itm} {st:St} {t:Nat} {xs xs':List D} {y y':Value} (hv:st.fr t = .c (.d (.lit y'))) (e:y'=y) (ho:joc st 1000000 xs xs'):SK P (.code .ret :: k) st (MutOK P [.tmp t] xs xs' y):=by
 refine jat ⟨?_,ho⟩;subst e;have h:GvA P st [.tmp t] [.c (.lit y')] ([]++[]):=GvA.cons (.tmp t) (by rw [hv];exact .c (.lit y')) .nil;exact h
theorem joc.sl2 {st:St} {id sz n m:Nat} {ds ds':List D} {xs xs':List D} (hb:st.bl id=some (.row sz ds')) (hn:ds'.length=n*sz) (e:m=n) (t:joc st (id+1000) xs xs'):joc st id (.sl sz n ds :: xs) (.sl sz m ds' :: xs'):=by
 subst e; exact .sl hb hn t
theorem wrapU64 {n:Int} (h:0<=n/\n<=18446744073709551615):IntKind.u64.wrap n=n:=by
 unfold IntKind.wrap;simp [IntKind.bits,IntKind.signed];omega
theorem wrapU8 {n:Int} (h:0<=n/\n<=255):IntKind.u8.wrap n=n:=by
 unfold IntKind.wrap;simp [IntKind.bits,IntKind.signed];omega
def tBoo (P:Program) (T:TypeId):Bool:=match P.underlying T with | some .bool=>true | _=>false
theorem tBoo_spec {P:Program} {T:TypeId} (h:tBoo P T=true):P.underlying T=some .bool:=by
 unfold tBoo at h;split at h <;> simp_all
section
variable {P:Program} {st:St} {dst:Option Tmp} {ty:TypeId} {pos:String} {af:Array Edge} {T T':TypeId} {x y:Operand}
theorem run_eqg {op:BinOp} {a b:Bool} (w:World):(eqGuard op T x y (.bool a) (.bool b)).run P w = .ok () w:=by cases op <;> rfl
theorem qt_neqB {a b:Bool} (hT:tBoo P T=true) (hx:st.ev x = .c (.d (.lit (.bool a)))) (hy:st.ev y = .c (.d (.lit (.bool b)))):Qt P ⟨dst,.binOp .neq T x y T',ty,pos,af,none⟩ st (.c (.d (.lit (.bool (a != b))))) :=
 jfp hx hy (fun w=>by rw [Sem.run_bind,run_eqg,Result.andThen_ok,run_neq_bool w T a b (tBoo_spec hT)];rfl) rfl
theorem qt_eqlS {a b:ByteArray} (hx:st.ev x = .c (.d (.lit (.string a)))) (hy:st.ev y = .c (.d (.lit (.string b)))):Qt P ⟨dst,.binOp .eql T x y T',ty,pos,af,none⟩ st (.c (.d (.lit (.bool (decide (a=b)))))) :=
 jfp hx hy (fun w=>by simp [eqGuard,binOp,Op.stringOp,ba_eq]) rfl
theorem qt_neqS {a b:ByteArray} (hx:st.ev x = .c (.d (.lit (.string a)))) (hy:st.ev y = .c (.d (.lit (.string b)))):Qt P ⟨dst,.binOp .neq T x y T',ty,pos,af,none⟩ st (.c (.d (.lit (.bool (decide (a≠b)))))) :=
 jfp hx hy (fun w=>by simp [eqGuard,binOp,Op.stringOp,ba_eq,bne]) rfl
theorem qt_addS {a b:ByteArray} (hx:st.ev x = .c (.d (.lit (.string a)))) (hy:st.ev y = .c (.d (.lit (.string b)))) (h:a.size+b.size<=9223372036854775807):Qt P ⟨dst,.binOp .add T x y T',ty,pos,af,none⟩ st (.c (.d (.lit (.string (a++b))))) :=
 jfp hx hy (fun w=>by
  have:¬ ((a.size+b.size:Nat):Int) > IntKind.i64.max:=by show ¬ _ > (9223372036854775807:Int);omega
  simp only [eqGuard,binOp,Op.stringOp,if_neg this];simp) (by simp [sc];omega)
theorem jec {S:TypeId} {k k':IntKind} {n:Int} (hx:st.ev x = .c (.d (.lit (.int k n)))) (hS:(P.underlying S).isSome=true) (hT:P.underlying T=some (.int k')) (h:k'.wrap n=n) :
  Qt P ⟨dst,.convert S T x,ty,pos,af,none⟩ st (.c (.d (.lit (.int k' n)))):=by
 have:=qt_conv (dst:=dst) (ty:=ty) (pos:=pos) (af:=af) hx hS hT;rw [h] at this; exact this
end
theorem OwC.at {w:World} {vs:List Value} {xs:List D} {Fs:List (List Nat)} (h:OwC w vs xs Fs):∀ {k:Nat} {x:D},xs[k]? = some x -> ∃ v F,Ow w v x F:=by
 induction h with
 | nil=>intro k x h;simp at h
 | cons h t ih=>intro k x e;cases k with
  | zero=>simp at e;subst e;exact ⟨_,_,h⟩
  | succ k=>exact ih (by simpa using e)
theorem FitM.at {as:List RP} (h:FitM as) (k:Nat) {x:D} (hk:(as.flatMap RP.cells)[k]? = some x):Fit x:=by
 obtain ⟨w,us,Fs,h⟩:=h;obtain ⟨v,F,h⟩:=h.at hk;obtain ⟨F2,h,-⟩:=h.vw;exact ⟨w,v,F2,h⟩
section
variable {P:Program} {st:St} {dst:Option Tmp} {ty:TypeId} {pos:String} {af:Array Edge} {T T':TypeId} {x y:Operand}
theorem jci {k k':IntKind} {m n c:Int} (hx:st.ev x = .c (.d (.lit (.int k m)))) (hy:st.ev y = .c (.d (.lit (.int k' n)))) (h:0<=n/\(2:Int)^(min n.toNat k.bits)=c/\0<=c):Qt P ⟨dst,.binOp .shr T x y T',ty,pos,af,none⟩ st (.c (.d (.lit (.int k (m / c))))):=by
 have:=qt_shr (P:=P) (T:=T) (T':=T') (dst:=dst) (ty:=ty) (pos:=pos) (af:=af) hx hy h.1;rw [h.2.1,Int.fdiv_eq_ediv_of_nonneg _ h.2.2] at this;exact this
theorem band_mask (m:Int) (j:Nat) (hj:j<=62):bits .and .i64 m (2^j - 1)=m%2^j:=by
 have e:bits .and .i64 m (2^j - 1)=IntKind.i64.wrap (((BitVec.ofInt 64 m &&& BitVec.ofInt 64 ((2:Int)^j - 1)).toNat:Nat):Int):=rfl;have h2:(2:Nat)^j<=2^62:=Nat.pow_le_pow_right Kf hj;have h3:1<=(2:Nat)^j:=Nat.one_le_two_pow;have hpz:((2^j:Nat):Int)=(2:Int)^j:=by norm_cast
 have e2:BitVec.ofInt 64 ((2:Int)^j - 1)=BitVec.ofNat 64 (2^j - 1):=by
  have:((2:Int)^j - 1)=((2^j - 1:Nat):Int):=by rw [<- hpz];omega
  rw [this]; simp
 have h4:(2:Nat)^62=4611686018427387904:=by decide
 rw [e,e2,BitVec.toNat_and,BitVec.toNat_ofNat,Nat.mod_eq_of_lt Kf,Nat.and_two_pow_sub_one_eq_mod];have h5:(BitVec.ofInt 64 m).toNat%2^j < 2^j:=Nat.mod_lt _ Kf;rw [IntWalk.i64_in _ Kf];rw [BitVec.toNat_ofInt,Int.natCast_emod,Int.toNat_of_nonneg (Int.emod_nonneg _ Ybr),hpz];rw [Int.emod_emod_of_dvd];have:(2:Int)^j ∣ 2^64:=⟨2^(64 - j),by rw [<- Int.pow_add];congr 1;omega⟩;simpa using this
theorem jch (j:Nat) {m n c:Int} (hx:st.ev x = .c (.d (.lit (.int .i64 m)))) (hy:st.ev y = .c (.d (.lit (.int .i64 n)))) (h:j<=62/\(2:Int)^j=c/\n=c - 1):Qt P ⟨dst,.binOp .and T x y T',ty,pos,af,none⟩ st (.c (.d (.lit (.int .i64 (m%c))))):=by
 obtain ⟨hj,rfl,rfl⟩:=h;have:=jco (P:=P) (T:=T) (T':=T') (dst:=dst) (ty:=ty) (pos:=pos) (af:=af) (op:=.and) hx hy Yby
 rwa [band_mask m j hj] at this
theorem jcw {k':IntKind} {m n:Int} (hx:st.ev x = .c (.d (.lit (.int .i64 m)))) (hy:st.ev y = .c (.d (.lit (.int k' n)))) (h0:0<=n) (h1:n<=64):Qt P ⟨dst,.binOp .shr T x y T',ty,pos,af,none⟩ st (.c (.d (.lit (.int .i64 (m / 2^n.toNat))))):=by
 have:=qt_shr (P:=P) (T:=T) (T':=T') (dst:=dst) (ty:=ty) (pos:=pos) (af:=af) hx hy h0;have e:min n.toNat IntKind.i64.bits=n.toNat:=Nat.min_eq_left (by show n.toNat<=64;omega);rw [e,Int.fdiv_eq_ediv_of_nonneg _ (Int.pow_nonneg Kf)] at this;exact this
theorem jgf {k':IntKind} {m n:Int} (hx:st.ev x = .c (.d (.lit (.int .i64 m)))) (hy:st.ev y = .c (.d (.lit (.int k' n)))) (h0:0<=n) (h1:n<=64) (hr : -9223372036854775808<=m*2^n.toNat/\m*2^n.toNat<=9223372036854775807):Qt P ⟨dst,.binOp .shl T x y T',ty,pos,af,none⟩ st (.c (.d (.lit (.int .i64 (m*2^n.toNat))))):=by
 have:=qt_shl (P:=P) (T:=T) (T':=T') (dst:=dst) (ty:=ty) (pos:=pos) (af:=af) hx hy h0;have e:min n.toNat IntKind.i64.bits=n.toNat:=Nat.min_eq_left (by show n.toNat<=64;omega);rw [e,IntWalk.i64_in _ hr] at this;exact this
theorem jlm {a:Bool} (hT:tBoo P T=true) (hx:st.ev x = .c (.d (.lit (.bool a)))) (hy:st.ev y = .c (.d (.lit (.bool a)))):Qt P ⟨dst,.binOp .neq T x y T',ty,pos,af,none⟩ st (.c (.d (.lit (.bool false)))):=by
 have:=qt_neqB (P:=P) (T:=T) (T':=T') (dst:=dst) (ty:=ty) (pos:=pos) (af:=af) hT hx hy;rwa [bne_self_eq_false] at this
theorem jeu {k:IntKind} {m:Int} (hx:st.ev x = .c (.d (.lit (.int k m)))) (hy:st.ev y = .c (.d (.lit (.int k m)))):Qt P ⟨dst,.binOp .neq T x y T',ty,pos,af,none⟩ st (.c (.d (.lit (.bool false)))):=by
 have:=jdh (P:=P) (T:=T) (T':=T') (dst:=dst) (ty:=ty) (pos:=pos) (af:=af) hx hy;rwa [show decide (m≠m)=false by simp] at this
end
section
variable {P:Program} {st:St} {dst:Option Tmp} {ty:TypeId} {pos:String} {af:Array Edge} {T T':TypeId} {x y:Operand}
theorem jdv {m n:Int} (hx:st.ev x = .c (.d (.lit (.int .i64 m)))) (hy:st.ev y = .c (.d (.lit (.int .i64 n)))) (h0:0<=m) (h1:0 < n) (h2:m<=9223372036854775807):Qt P ⟨dst,.binOp .quo T x y T',ty,pos,af,none⟩ st (.c (.d (.lit (.int .i64 (m / n))))):=by
 have:=qt_quo (P:=P) (T:=T) (T':=T') (dst:=dst) (ty:=ty) (pos:=pos) (af:=af) hx hy Kf;have h3:m / n<=m:=Int.ediv_le_self _ h0;have h4:0<=m / n:=Int.ediv_nonneg h0 Kf;rw [Int.tdiv_eq_ediv_of_nonneg h0,IntWalk.i64_in _ Kf] at this;exact this
theorem jdc {m n:Int} (hx:st.ev x = .c (.d (.lit (.int .i64 m)))) (hy:st.ev y = .c (.d (.lit (.int .i64 n)))) (h0:0<=m) (h1:0 < n) (h2:m<=9223372036854775807):Qt P ⟨dst,.binOp .rem T x y T',ty,pos,af,none⟩ st (.c (.d (.lit (.int .i64 (m%n))))):=by
 have:=qt_rem (P:=P) (T:=T) (T':=T') (dst:=dst) (ty:=ty) (pos:=pos) (af:=af) hx hy Kf;rw [Int.tmod_eq_emod_of_nonneg h0] at this;exact this
end
def PT (P:Program) (f:FuncId) (as:List RP) (r:Res):Prop :=
 (∀ (args:Array Value) (W:World),(callFunc f args).run P W = .ok (.enter f args) W) /\
 ∀ (w : World) (us : List Value) (Fs : List (List Nat)), OwC w us (as.flatMap RP.cells) Fs -> Fs.flatten.Nodup -> (ok : Glb.ok w) -> (gl : ∀ g, Glb.bl g -> g ∉ Fs.flatten) ->
  Calls P f (asmL as us).toArray w fun e w' => ∃ v F,e = .returned v/\OwR w' v r F/\F.Nodup/\(∀ g∈F,g∈Fs.flatten∨w.heap.size<=g)/\Kp ⟨w,fun g=>g∈Fs.flatten,fun _=>none,fun _ _=>rfl,ok,gl⟩ w w'
theorem jdt {P:Program} {f:FuncId} {fn:Func} {c:Code} {n:Nat} {vs:List ResultVar} {as:List RP} {res:Res} (hf:P.funcs[f]? = some fn) (h:FitM as->SK P [.code c] (St.enterM n as) (jbc P vs res))
    (hb:fn.body=some c:=by exact rfl) (hn:fn.ntmps=n:=by exact rfl) (hvs:fn.results=⟨vs⟩:=by exact rfl)
    (hname : (fn.name == "runtime.NumGoroutine") = false := by kernel_rfl) (hle : Nat.ble as.length n = true := by exact rfl) (hnb : Nat.ble n 1000 = true := by exact rfl) : PT P f as res := by
  refine ⟨fun args W=>by simp only [beq_eq_false_iff_ne] at hname;simp [callFunc,hf,hname,hb],fun w us Fs ho hnd ok gl=>?_⟩;refine calls_of_wp hf hb ?_;rw [hn];obtain ⟨r,G,h1,h2,h3,h4⟩:=ho.owl.own hnd 1000000;generalize hxs:as.flatMap RP.cells=xs at *;let L:=ownBs 1000000 xs
  let κ:Ctx:=⟨w,fun g=>g∈Fs.flatten,fun b=>if inL L b then some (r b) else none,fun b hb=>by
    cases hi:inL L b with
    | true=>have:=jik hi;omega
    | false=>simp,ok,gl⟩
  let ρ:Nat->Option Nat:=fun b=>if inL L b then r b else none
  let Φ:Nat->List Nat:=fun b=>if inL L b then G b else []
  have hρ:∀ b,inL L b=true->ρ b=r b:=fun b hb=>if_pos hb;have src:∀ b g,g∈Φ b->inL L b=true/\g∈G b:=fun b g hg=>by
    simp only [Φ] at hg;split at hg
    · rename_i h;exact ⟨h,hg⟩
    · cases hg
  have hcr:CrL w ρ (InΦ Φ) us (ownCs 1000000 xs):=CrL.of (by rw [jdp];exact ho.len.1) fun k hk=>h4 ρ _ hρ k hk;have hvl:(asmL as us).length=as.length:=by
    have gen:∀ (as:List RP) (us:List Value),(asmL as us).length=as.length:=by
      intro as;induction as with
      | nil=>intro us; rfl
      | cons p as ih=>intro us;simp [asmL,ih]
    exact gen as us
  have hle':as.length<=n:=by simpa using hle
  have hnb':(St.enterM n as).n<=1000:=(by simpa using hnb:n<=1000);have sm:Sm κ ρ Φ (St.enterM n as) { tmps:=(asmL as us).toArray++Array.replicate (n - (asmL as us).toArray.size) undef,defers:=[] } w:=by
    refine ⟨Kp.refl _ _,by simp [St.enterM,hvl];omega,hnb',fun b r' hb=>?_,rfl,fun t=>?_,fun b x hx=>?_,fun b hb=>?_,fun b g hg => .inr ((h2 b (src b g hg).1).2 g (src b g hg).2),fun b=>?_,fun b b' g hg hg'=>h3 b b' g (src b g hg).1 (src b' g hg').1 (src b g hg).2 (src b' g hg').2⟩
    · simp only [κ] at hb
      split at hb
      · rename_i hi;cases hb;exact hρ b hi
      · cases hb
    · have e:((asmL as us).toArray++Array.replicate (n - (asmL as us).toArray.size) undef).getD t undef=(asmL as us).getD t undef:=by
        rw [Array.getD_eq_getD_getElem?,List.getD_eq_getElem?_getD];by_cases ht:t < (asmL as us).length
        · rw [Array.getElem?_append_left (by simpa using ht)];simp
        · rw [Array.getElem?_append_right Ybw, Array.getElem?_replicate, List.getElem?_eq_none Kf]
          split <;> rfl
      show FR w ρ _ (((asmL as us).toArray++Array.replicate (n - (asmL as us).toArray.size) undef).getD t undef) ((St.enterM n as).fr t);rw [e];simp only [St.enterM,hxs];exact asm_fr as t hcr (by rw [jdp,hxs])
    · simp only [St.enterM, hxs] at hx
      have hi:inL L b=true:=by have:=jfe L b;rw [this];simp only [L];rw [hx];rfl
      rw [hρ b hi];have e:Φ b=G b:=if_pos hi;rw [e];exact h1 b x hx ρ _
    · simp only [St.enterM, hxs] at hb
      have hi:inL L b=false:=by have:=jfe L b;rw [this];simp only [L];rw [hb];rfl
      simp [Φ,hi]
    · simp only [Φ]; split
      · rename_i hi;exact (h2 b hi).1
      · exact List.nodup_nil
  have hfit:FitM as:=⟨w,us,Fs,by rw [hxs];exact ho⟩;refine Code.wp_mono ?_ ((h hfit).lv κ _ w ⟨ρ,Φ,sm⟩);rintro e a' w' ⟨st',⟨ρ',Φ',hm⟩,hq⟩;have fin:jbc P vs res st'->bodyPost P fn (fun e w' => ∃ v F,e = .returned v/\OwR w' v res F/\F.Nodup/\(∀ g∈F,g∈Fs.flatten∨w.heap.size<=g)/\Kp ⟨w,fun g=>g∈Fs.flatten,fun _=>none,fun _ _=>rfl,ok,gl⟩ w w') .normal a' w':=fun hr=>by
    obtain ⟨v,F,h1,h2,h3,h4⟩:=hr.run hm hvs;exact ⟨hm.defers,v,h1,v,F,rfl,h2,h3,fun g hg=>(h4 g hg).symm,⟨hm.below.os,hm.below.tape,hm.below.output,hm.below.size,hm.below.shp,fun g hg=>hm.below.block g hg⟩⟩
  cases e with
  | normal=>exact fin hq
  | ret=>exact fin (by rw [LV.ret] at hq;exact hq)
  | exit id=>exact (hq:False).elim
  | goto l=>exact (LV.bad trivial hq).elim
  | panic c=>exact (LV.bad trivial hq).elim
  | outgrown=>exact (LV.bad trivial hq).elim
section
variable {P:Program} {ops:Array Oper} {mu:Nat->Bool} {r:OT} {st:St} {K:St->Prop} {j:Nat} {ty:TypeId} {pos:String} {af:Array Edge}
theorem jgx {xs:List Operand} {ts:Array TypeId} {d:Nat} {fid:FuncId} {as:List RP} {res:Res} {Ss:List (List Nat)} (ha:jfh st xs as Ss) (hS:Ss.flatten.Nodup) (hc:PT P fid as res) (hd:Nat.blt d st.n=true) (hlen:Nat.ble res.cells.length 900=true) (hmu:mu j=true)
    (h:SO P ops mu r (((st.drop Ss.flatten).new (ownBs d res.cells)).put d (res.shape (ownCs d res.cells))) K) :
    SO P ops mu (.cons (some ⟨some d,.call { callee:=.value (.func fid),args:=⟨xs⟩,argTypes:=ts },ty,pos,af,none⟩,j,false) r) st K:=by
  refine so_m hmu fun κ a w hs next Q hn=>?_;obtain ⟨ρ,Φ,hm⟩:=hs;obtain ⟨us,cs,h1,h2,h3⟩:=ha.own hm;have ho:=h2.own hm h3;have hfl:=nodup_maps hm.nd hm.dj Ss;have hnd:((Ss.map (List.flatMap Φ)).flatten).Nodup:=by rw [hfl];exact jee hm.nd hm.dj hS
  have hcall:=hc.2 w us _ ho hnd hm.below.ok (fun g hg h=>Ctx.gln hg (by rw [hfl] at h;obtain ⟨b,_,hb⟩:=List.mem_flatMap.1 h;exact hm.low b g hb));have hex:(execOp a.eval ⟨some d,.call { callee:=.value (.func fid),args:=⟨xs⟩,argTypes:=ts },ty,pos,af,none⟩).run P w = .ok (.enter fid (asmL as us).toArray) w:=by
    rw [<- h1];simp only [execOp,resolve,Sem.run_bind,Act.eval];simp [Deferred.ofValue,invoke];exact hc.1 _ _
  unfold Oper.wp;rw [hex];refine Calls.mono hcall ?_;rintro e w' ⟨v,F,rfl,c1,c2,c3,c4⟩;have kp:Kp κ w w':=⟨c4.os,c4.tape,c4.output,c4.size,c4.shp,fun g hg=>c4.block g fun h=>hg (by
    rcases h with h | h
    · exact .inl (Nat.le_trans hm.below.size h)
    · have h2 : g ∈ List.flatMap Φ Ss.flatten := (congrArg (g ∈ ·) hfl).mp h
      obtain ⟨b,_,hb⟩:=List.mem_flatMap.1 h2;exact hm.low b g hb)⟩
  obtain ⟨us',hol,hsh⟩:=c1.open;obtain ⟨r0,G,k1,k2,k3,k4⟩:=hol.own c2 d;obtain ⟨ρ',Φ',hm',hr',_,_⟩:=hm.new (w':=w') Ss.flatten (ownBs d res.cells) r0 G kp (fun g hg hlt=>c4.block g fun h=>by
      rcases h with h | h
      · exact absurd hlt (Nat.not_lt.2 h)
      · replace h := (congrArg (g ∈ ·) hfl).mp h
        obtain ⟨b,hb,hgb⟩:=List.mem_flatMap.1 h;exact hg b hb hgb) c4.shp (fun b hb=>(k2 b hb).1) k3
    (fun b hb g hg=>by
      rcases c3 g ((k2 b hb).2 g hg) with h|h
      · replace h := (congrArg (g ∈ ·) hfl).mp h
        obtain ⟨b,hb,hgb⟩:=List.mem_flatMap.1 h;exact .inl ⟨b,hb,hgb⟩
      · exact .inr h) (fun b hb=>by
      have h1:=jju hb;have h2:=hm.nb;have h3:res.cells.length<=900:=by simpa using hlen
      have h4:d < st.n:=by simpa using hd
      omega) (fun ρ' Φ' _ _ _ b x hx=>k1 b x hx ρ' Φ')
  exact hn _ _ (fun h=>by cases h) ⟨_,⟨ρ',Φ',hm'.put (hsh ρ' _ _ (by rw [jdp];exact Nat.le_refl _) fun k hk hk'=>k4 ρ' _ hr' k hk') d (by simpa [St.new,St.kill,(jgt Ss.flatten st).2] using hd)⟩,h⟩
end
def VwX (w:World) (X:List Nat) (v:Value) (x:D):Prop := ∃ F,Vw w v x F /\ ∀ b∈F,b ∉ X
inductive VxP (w : World) (X : List Nat) : Value -> RP -> Prop
 | c {v:Value} {x:D} (h:VwX w X v x):VxP w X v (.c x)
 | g {xs:List D} {us:List Value} (hl:us.length=xs.length) (hr:∀ k (hk:k < xs.length),VwX w X (us.getD k undef) xs[k]):VxP w X (.agg us.toArray) (.g xs)
def VxL (w:World) (X:List Nat) (vs:List Value) (rs:List RP):Prop:=vs.length=rs.length /\ ∀ k (hk:k < rs.length),VxP w X (vs.getD k undef) rs[k]
inductive VxR (w : World) (X : List Nat) : Value -> Res -> Prop
 | p {v:Value} {x:RP} (h:VxP w X v x):VxR w X v (.p x)
 | t {us:List Value} {xs:List RP} (h:VxL w X us xs):VxR w X (.tuple us.toArray) (.t xs)
def PV (P:Program) (f:FuncId) (as:List RP) (r:Res):Prop :=
 (∀ (args:Array Value) (W:World),(callFunc f args).run P W = .ok (.enter f args) W) /\
 ∀ (w:World) (vs:List Value) (X:List Nat),X.Nodup->(∀ g∈X,g < w.heap.size)->Glb.ok w->(∀ g,Glb.bl g->g ∉ X)->VxL w X vs as->Calls P f vs.toArray w fun e w' => ∃ v,e = .returned v/\VxR w' X v r/\Below w.heap.size w w'
theorem VxP.vw {w:World} {X:List Nat} {v:Value} {r:RP} (h:VxP w X v r):VwP w v r:=by
 cases h with
 | c h=>obtain ⟨F,h,-⟩:=h;exact .c _ _ F h
 | g hl hr=>exact .g _ _ hl fun k hk=>by obtain ⟨F,h,-⟩:=hr k hk;exact ⟨F,h⟩
theorem VxL.vw {w:World} {X:List Nat} {vs:List Value} {rs:List RP} (h:VxL w X vs rs):VwL w vs rs:=⟨h.1,fun k hk=>(h.2 k hk).vw⟩
def St.enterV (n:Nat) (as:List RP) (X:List Nat) (c:Nat->Option Obj):St:=⟨n,enterFV as,fun b=>bif Nat.beq b 900000000 then some (.held X c) else none⟩
inductive RvC (st : St) : C -> D -> Prop
 | d (x:D):RvC st (.d x) x
 | own {c:C} {x:D} {S:List Nat} (h:Gv st c x S):RvC st c x
inductive RvL (st : St) : List C -> List D -> Prop
 | nil:RvL st [] []
 | cons {c:C} {x:D} {cs:List C} {xs:List D} (h:RvC st c x) (t:RvL st cs xs):RvL st (c :: cs) (x :: xs)
inductive RvP (st : St) : FV -> RP -> Prop
 | c {c:C} {x:D} (h:RvC st c x):RvP st (.c c) (.c x)
 | g {cs:List C} {xs:List D} (h:RvL st cs xs):RvP st (.g cs) (.g xs)
inductive RvA (P : Program) (st : St) : List ResultVar -> List RP -> Prop
 | nil:RvA P st [] []
 | cons {v:ResultVar} {x:FV} {y:RP} {vs:List ResultVar} {ys:List RP} (hv:RV P st v x) (h:RvP st x y) (t:RvA P st vs ys):RvA P st (v :: vs) (y :: ys)
inductive jlv (P : Program) (vs : List ResultVar) (X : List Nat) (c : Nat -> Option Obj) : Res -> St -> Prop
 | p {st:St} {y:RP} (hb:st.bl 900000000=some (.held X c)) (h:RvA P st vs [y]):jlv P vs X c (.p y) st
 | t {st:St} {ys:List RP} (hb:st.bl 900000000=some (.held X c)) (h:RvA P st vs ys) (hl:(ys.length != 1)=true):jlv P vs X c (.t ys) st
section
variable {P:Program} {st:St} {w0:Ctx} {w:World} {ρ:Nat->Option Nat} {Φ:Nat->List Nat} {a:Act} {X:List Nat} {c0:Nat->Option Obj}
theorem RvC.vx (hm:Sm w0 ρ Φ st a w) (hb:st.bl 900000000=some (.held X c0)) (hX:Φ 900000000=X) {v:Value} {c:C} {x:D} (hc:CR w ρ (InΦ Φ) v c) (h:RvC st c x):VwX w X v x:=by
 cases h with
 | d=>cases hc with|d _ _ F h hF=>exact ⟨F,h,fun b hb' hX'=>hF b hb' ⟨900000000,by rw [hX];exact hX'⟩⟩
 | own h =>
  rename_i S;obtain ⟨F,h1,h2⟩:=(Gv.ow hm hc h).vw;refine ⟨F,h1,fun g hg hX'=>?_⟩;obtain ⟨b,hbS,hgb⟩:=List.mem_flatMap.1 (h2 g hg);have:=hm.dj b 900000000 g hgb (by rw [hX];exact hX');subst this;cases h with
  | lit=>cases hbS
  | nil=>cases hbS
  | row b' sz n ds hb' hn =>
   have:=List.mem_singleton.1 hbS;subst this;rw [hb] at hb';cases hb'
theorem RvL.vx (hm:Sm w0 ρ Φ st a w) (hb:st.bl 900000000=some (.held X c0)) (hX:Φ 900000000=X) {cs:List C} {xs:List D} (h:RvL st cs xs):∀ us:List Value,us.length=cs.length->(∀ k (hk:k < cs.length),CR w ρ (InΦ Φ) (us.getD k undef) cs[k]) ->
  us.length=xs.length /\ ∀ k (hk:k < xs.length),VwX w X (us.getD k undef) xs[k]:=by
 induction h with
 | nil=>intro us hl _;exact ⟨by simpa using hl,fun k hk=>by simp at hk⟩
 | cons h t ih =>
  intro us hl hr;cases us with
  | nil=>simp at hl
  | cons u us =>
   obtain ⟨h1,h2⟩:=ih us (by simpa using hl) fun k hk=>by have:=hr (k+1) (by simpa using hk);simpa using this
   refine ⟨by simpa using h1,fun k hk=>?_⟩;cases k with
   | zero=>simpa using h.vx hm hb hX (hr 0 Yby)
   | succ k=>simpa using h2 k (by simpa using hk)
theorem RvP.vx (hm:Sm w0 ρ Φ st a w) (hb:st.bl 900000000=some (.held X c0)) (hX:Φ 900000000=X) {x:FV} {y:RP} (h:RvP st x y) {v:Value} (hv:FR w ρ (InΦ Φ) v x):VxP w X v y:=by
 cases h with
 | c h=>exact .c (h.vx hm hb hX hv.c_inv)
 | g h =>
  obtain ⟨us,rfl,hl,hr⟩:=hv.g_inv;obtain ⟨h1,h2⟩:=h.vx hm hb hX us hl hr;exact .g h1 h2
theorem RvA.vx (hm:Sm w0 ρ Φ st a w) (hb:st.bl 900000000=some (.held X c0)) (hX:Φ 900000000=X) {vs:List ResultVar} {ys:List RP} (h:RvA P st vs ys) :
  ∃ us:List Value,(vs.mapM (rvRun a):Sem (List Value)).run P w = .ok us w/\VxL w X us ys:=by
 induction h with
 | nil=>exact ⟨[],rfl,rfl,fun k hk=>by simp at hk⟩
 | cons hv h t ih =>
  obtain ⟨u,hu,hfr⟩:=hv.run hm;obtain ⟨us,hus,hol⟩:=ih;refine ⟨u :: us,?_,by simp [hol.1],fun k hk=>?_⟩
  ·rw [List.mapM_cons];simp only [Sem.run_bind,hu,Result.andThen_ok,hus,Sem.run_pure]
  ·cases k with
   | zero=>simpa using h.vx hm hb hX hfr
   | succ k=>simpa using hol.2 k (by simpa using hk)
theorem jlv.run (hm:Sm w0 ρ Φ st a w) {fn:Func} {vs:List ResultVar} (hvs:fn.results=⟨vs⟩) {r:Res} (h:jlv P vs X c0 r st):∃ v,(results fn a.tmps).run P w = .ok v w/\VxR w X v r /\ ∀ g∈X,w.heap[g]? = c0 g:=by
  have run : ∀ us : List Value, (vs.mapM (rvRun a) : Sem (List Value)).run P w = .ok us w ->
      (results fn a.tmps).run P w = .ok (if h:us.toArray.size=1 then us.toArray[0] else .tuple us.toArray) w:=by
    intro us hus;have e:results fn a.tmps=(do let vs <- fn.results.mapM (rvRun a);pure (if h:vs.size=1 then vs[0] else .tuple vs)):=by
      unfold results;congr 1
    rw [e,hvs,List.mapM_toArray];simp only [Sem.run_bind,Sem.run_map,hus,Result.andThen_ok,Sem.run_pure]
  cases h with
  | p hb h =>
    obtain ⟨hX,hc⟩:=hm.heldN hb;obtain ⟨us,hus,hol⟩:=h.vx hm hb hX;match us,hol.1 with
    | [u],_=>exact ⟨u,by rw [run [u] hus];rfl,.p (by simpa using hol.2 0 Yby),hc⟩
  | t hb h hl =>
    obtain ⟨hX,hc⟩:=hm.heldN hb;obtain ⟨us,hus,hol⟩:=h.vx hm hb hX;refine ⟨.tuple us.toArray,?_,.t hol,hc⟩;rw [run us hus,dif_neg];have:=hol.1;simp at hl ⊢; omega
end
theorem jfd {P:Program} {f:FuncId} {fn:Func} {c:Code} {n:Nat} {vs:List ResultVar} {as:List RP} {r:Res} (hf:P.funcs[f]? = some fn) (h:∀ X c0,FitL as->SK P [.code c] (St.enterV n as X c0) (jlv P vs X c0 r))
    (hb:fn.body=some c:=by exact rfl) (hn:fn.ntmps=n:=by exact rfl) (hvs:fn.results=⟨vs⟩:=by exact rfl)
    (hname : (fn.name == "runtime.NumGoroutine") = false := by kernel_rfl) (hle : Nat.ble as.length n = true := by exact rfl) (hnb : Nat.ble n 1000 = true := by exact rfl) : PV P f as r := by
  refine ⟨fun args W=>by simp only [beq_eq_false_iff_ne] at hname;simp [callFunc,hf,hname,hb],fun w us X hnd hlt ok gl hus=>?_⟩;have hsz:us.toArray.size=us.length:=rfl;refine calls_of_wp hf hb ?_;rw [hn];have hle':as.length<=n:=by simpa using hle
  let κ:Ctx:=⟨w,fun g=>g∈X,fun _=>none,fun _ _=>rfl,ok,gl⟩
  let c0:Nat->Option Obj:=fun g=>w.heap[g]?
  let Φ:Nat->List Nat:=fun b=>if b=900000000 then X else []
  have inX:∀ g,InΦ Φ g->g∈X:=fun g ⟨b,hb⟩=>by simp only [Φ] at hb;split at hb;exact hb;cases hb
  have sm:Sm κ (fun _=>none) Φ (St.enterV n as X c0) { tmps:=us.toArray++Array.replicate (n - us.toArray.size) undef,defers:=[] } w:=by
    refine ⟨Kp.refl _ _,by have:=hus.1;simp [St.enterV];omega,by simpa [St.enterV] using hnb,fun b r hb=>(by cases hb),rfl,fun t=>?_,fun b x hb=>?_,fun b hb=>?_,fun b g hg => .inr (inX g ⟨b,hg⟩),fun b=>?_,fun b b' g hg hg'=>?_⟩
    · have gen:∀ (as:List RP) (vs:List Value) (t:Nat),(t < as.length -> ∀ hk:t < as.length,VxP w X (vs.getD t undef) as[t])->FR w (fun _=>none) (InΦ Φ) (vs.getD t undef) (enterFV as t):=by
        intro as;induction as with
        | nil=>intro vs t _;exact FR.junkI _
        | cons y as ih =>
          intro vs t ht;cases t with
          | zero =>
            have:=ht Yby Yby
            simp only [List.getElem_cons_zero] at this;generalize vs.getD 0 undef=v at *;cases this with
            | c h=>obtain ⟨F,h1,h2⟩:=h;exact .c _ _ (.d _ _ F h1 fun b hb hi=>h2 b hb (inX b hi))
            | g hl hr =>
              refine .g _ _ (by simpa using hl) fun k hk=>?_;obtain ⟨F,h1,h2⟩:=hr k (by simpa using hk);simp only [List.getElem_map];exact .d _ _ F h1 fun b hb hi=>h2 b hb (inX b hi)
          | succ t =>
            have e:vs.getD (t+1) undef=(vs.drop 1).getD t undef:=by simp [List.getD_eq_getElem?_getD,Nat.add_comm]
            rw [e];have e2:enterFV (y :: as) (t+1)=enterFV as t:=by cases y <;> rfl
            rw [e2];refine ih _ t fun h1 hk=>?_;have:=ht (by simpa using h1) (by simpa using hk);rw [e] at this;simpa using this
      have e:(us.toArray++Array.replicate (n - us.toArray.size) undef).getD t undef=us.getD t undef:=by
        rw [Array.getD_eq_getD_getElem?,List.getD_eq_getElem?_getD];by_cases ht:t < us.length
        · rw [Array.getElem?_append_left (by simpa using ht)];simp
        · rw [Array.getElem?_append_right Ybw, Array.getElem?_replicate, List.getElem?_eq_none Kf]
          split <;> rfl
      show FR w _ _ ((us.toArray++Array.replicate (n - us.toArray.size) undef).getD t undef) (enterFV as t);rw [e];exact gen as us t fun _ hk=>hus.2 t hk
    · simp only [St.enterV] at hb
      cases hbe:Nat.beq b 900000000 with
      | false=>rw [hbe] at hb;cases hb
      | true =>
        rw [hbe] at hb;cases hb;have:=Nat.eq_of_beq_eq_true hbe;subst this;simp only [Φ,if_pos];exact .held X c0 (fun g hg=>rfl) hlt
    · simp only [St.enterV] at hb
      cases hbe:Nat.beq b 900000000 with
      | true=>rw [hbe] at hb;cases hb
      | false =>
        have:b≠900000000:=fun e=>by subst e;cases hbe
        simp only [Φ,if_neg this]
    · simp only [Φ]; split
      · exact hnd
      · exact List.nodup_nil
    · simp only [Φ] at hg hg'
      split at hg
      · split at hg'
        · rename_i h1 h2;rw [h1,h2]
        · cases hg'
      · cases hg
  refine Code.wp_mono ?_ ((h X c0 hus.vw.fit).lv κ _ w ⟨_,_,sm⟩);rintro e a' w' ⟨st',⟨ρ',Φ',hm⟩,hq⟩;have fin:jlv P vs X c0 r st'->bodyPost P fn (fun e w' => ∃ v,e = .returned v/\VxR w' X v r/\Below w.heap.size w w') .normal a' w':=fun hr=>by
    obtain ⟨v,h1,h2,h3⟩:=hr.run hm hvs;refine ⟨hm.defers,v,h1,v,rfl,h2,⟨hm.below.os,hm.below.tape,hm.below.output,hm.below.size,fun k hk=>?_⟩⟩;by_cases hkX:k∈X
    · exact h3 k hkX
    · exact hm.below.block k fun h=>h.elim (fun h=>Nat.lt_irrefl _ (Nat.lt_of_lt_of_le hk h)) hkX
  cases e with
  | normal=>exact fin hq
  | ret=>exact fin (by rw [LV.ret] at hq;exact hq)
  | exit id=>exact (hq:False).elim
  | goto l=>exact (LV.bad trivial hq).elim
  | panic c=>exact (LV.bad trivial hq).elim
  | outgrown=>exact (LV.bad trivial hq).elim
inductive SdL (st : St) : List C -> List D -> Prop
 | nil:SdL st [] []
 | cons {x:D} {cs:List C} {xs:List D} (t:SdL st cs xs):SdL st (.d x :: cs) (x :: xs)
inductive SdA (st : St) : List Operand -> List RP -> Prop
 | nil:SdA st [] []
 | c {x:Operand} {y:D} {xs:List Operand} {ys:List RP} (h:st.ev x = .c (.d y)) (t:SdA st xs ys):SdA st (x :: xs) (.c y :: ys)
 | g {x:Operand} {cs:List C} {zs:List D} {xs:List Operand} {ys:List RP} (h:st.ev x = .g cs) (hs:SdL st cs zs) (t:SdA st xs ys):SdA st (x :: xs) (.g zs :: ys)
section
variable {P:Program} {ops:Array Oper} {mu:Nat->Bool} {r:OT} {st:St} {K:St->Prop} {i:Nat} {ty:TypeId} {pos:String} {af:Array Edge}
theorem SdL.eq {cs:List C} {xs:List D} (h:SdL st cs xs):cs=xs.map C.d:=by
 induction h with
 | nil=>rfl
 | cons t ih=>rw [ih]; rfl
theorem SdA.vx {w0:Ctx} {w:World} {ρ:Nat->Option Nat} {Φ:Nat->List Nat} {a:Act} (hm:Sm w0 ρ Φ st a w) {xs:List Operand} {as:List RP} (h:SdA st xs as) {X:List Nat} (hX:∀ g∈X,InΦ Φ g):VxL w X (xs.map a.eval) as:=by
 induction h with
 | nil=>exact ⟨rfl,fun k hk=>by simp at hk⟩
 | c h t ih =>
  rename_i x y xs ys;have hv:=hm.ev x;rw [h] at hv;refine ⟨by simpa using ih.1,fun k hk=>?_⟩;cases k with
  | zero =>
   have hc:=hv.c_inv;simp only [List.map_cons,List.getD_cons_zero,List.getElem_cons_zero];generalize a.eval x=u at *;cases hc with
   | d _ _ F hF hav=>exact .c ⟨F,hF,fun b hb hbX=>hav b hb (hX b hbX)⟩
  | succ k=>simpa using ih.2 k (by simpa using hk)
 | g h hs t ih =>
  rename_i x cs zs xs ys;have hv:=hm.ev x;rw [h] at hv;refine ⟨by simpa using ih.1,fun k hk=>?_⟩;cases k with
  | zero =>
   obtain ⟨us,e,hl,hr⟩:=hv.g_inv;simp only [List.map_cons,List.getD_cons_zero,List.getElem_cons_zero];rw [e];have hcs:=hs.eq;subst hcs;refine .g (by simpa using hl) fun k hk=>?_;have:=hr k (by simpa using hk);simp only [List.getElem_map] at this;generalize us.getD k undef=u at *;cases this with
   | d _ _ F hF hav=>exact ⟨F,hF,fun b hb hbX=>hav b hb (hX b hbX)⟩
  | succ k=>simpa using ih.2 k (by simpa using hk)
theorem VxP.fr {w:World} {ρ:Nat->Option Nat} {Ψ:Nat->Prop} {X:List Nat} (hX:∀ g,Ψ g->g∈X) {v:Value} {p:RP} (h:VxP w X v p) (R:List D):FR w ρ Ψ v (p.shape ((p.cells++R).map C.d)):=by
 cases h with
 | c h=>obtain ⟨F,h1,h2⟩:=h;exact .c _ _ (.d _ _ F h1 fun b hb hi=>h2 b hb (hX b hi))
 | g hl hr =>
  rename_i xs us;have e:(RP.g xs).shape (((RP.g xs).cells++R).map C.d) = .g (xs.map C.d):=by simp [RP.shape,RP.cells]
  rw [e];refine .g _ _ (by simpa using hl) fun k hk=>?_;obtain ⟨F,h1,h2⟩:=hr k (by simpa using hk);simp only [List.getElem_map];exact .d _ _ F h1 fun b hb hi=>h2 b hb (hX b hi)
theorem VxL.fr {w:World} {ρ:Nat->Option Nat} {Ψ:Nat->Prop} {X:List Nat} (hX:∀ g,Ψ g->g∈X):∀ {ps:List RP} {us:List Value},VxL w X us ps -> ∀ k (hk:k < (shapeL ps ((ps.flatMap RP.cells).map C.d)).length),FR w ρ Ψ (us.getD k undef) (shapeL ps ((ps.flatMap RP.cells).map C.d))[k]
 | [],us,h,k,hk=>by simp [shapeL] at hk
 | p :: ps,us,h,k,hk=>by
  have e:(((p :: ps).flatMap RP.cells).map C.d).drop p.cells.length=(ps.flatMap RP.cells).map C.d:=by simp
  have e2:shapeL (p :: ps) (((p :: ps).flatMap RP.cells).map C.d)=p.shape (((p :: ps).flatMap RP.cells).map C.d) :: shapeL ps ((ps.flatMap RP.cells).map C.d):=by
   show _ :: shapeL ps _=_;rw [e]
  simp only [e2] at hk ⊢;cases k with
  | zero =>
   have:=h.2 0 Yby
   simp only [List.getElem_cons_zero] at this ⊢;rw [List.flatMap_cons];exact this.fr hX _
  | succ k =>
   simp only [List.getElem_cons_succ];have e3:us.getD (k+1) undef=(us.drop 1).getD k undef:=by simp [List.getD_eq_getElem?_getD,Nat.add_comm]
   rw [e3];refine VxL.fr hX (ps:=ps) (us:=us.drop 1) ⟨by have:=h.1;simp at this ⊢;omega,fun k hk=>?_⟩ k (by simpa using hk);have:=h.2 (k+1) (by simpa using hk);rw [show us.getD (k+1) undef=(us.drop 1).getD k undef by simp [List.getD_eq_getElem?_getD,Nat.add_comm]] at this;simpa using this
theorem VxR.fr {w:World} {ρ:Nat->Option Nat} {Ψ:Nat->Prop} {X:List Nat} (hX:∀ g,Ψ g->g∈X) {v:Value} {r:Res} (h:VxR w X v r):FR w ρ Ψ v (r.shape (r.cells.map C.d)):=by
 cases h with
 | p h=>have:=h.fr (ρ:=ρ) hX [];rw [List.append_nil] at this;exact this
 | t h=>exact .t _ _ (by rw [h.1];simp [jkm]) fun k hk=>VxL.fr hX h k hk
theorem jcr {xs:List Operand} {ts:Array TypeId} {d:Nat} {fid:FuncId} {as:List RP} {res:Res} (ha:SdA st xs as) (hc:PV P fid as res)
  (hd:Nat.blt d st.n=true) (h:SO P ops mu r (st.put d (res.shape (res.cells.map C.d))) K) :
  SO P ops mu (.cons (some ⟨some d,.call { callee:=.value (.func fid),args:=⟨xs⟩,argTypes:=ts },ty,pos,af,none⟩,i,false) r) st K:=by
 refine so_a fun w0 a w hs next Q hn=>?_;obtain ⟨ρ,Φ,hm⟩:=hs;classical
 let X:List Nat:=(List.range w.heap.size).filter fun g=>decide (InΦ Φ g)
 have hX:∀ g,InΦ Φ g->g∈X:=fun g hg=>by
  obtain ⟨b,hb⟩:=id hg;exact List.mem_filter.2 ⟨List.mem_range.2 (hm.lt hb),by simpa using hg⟩
 have hX2:∀ g∈X,InΦ Φ g:=fun g hg=>by simpa using (List.mem_filter.1 hg).2
 have hX3:∀ g∈X,g < w.heap.size:=fun g hg=>List.mem_range.1 (List.mem_filter.1 hg).1;have hcall:=hc.2 w (xs.map a.eval) X (List.nodup_range.filter _) hX3 hm.below.ok (fun g hg h=>Ctx.gln hg (by obtain ⟨b,hb⟩:=hX2 g h;exact hm.low b g hb)) (ha.vx hm hX2);have hex:(execOp a.eval ⟨some d,.call { callee:=.value (.func fid),args:=⟨xs⟩,argTypes:=ts },ty,pos,af,none⟩).run P w = .ok (.enter fid (xs.map a.eval).toArray) w:=by
  simp only [execOp,resolve,Sem.run_bind,Act.eval];simp [Deferred.ofValue,invoke];exact hc.1 _ _
 unfold Oper.wp;rw [hex];refine Calls.mono hcall ?_;rintro e w' ⟨v,rfl,hv,hb⟩;exact hn _ _ (fun _ => .of hb) ⟨_,⟨ρ,Φ,(hm.later hb).put (hv.fr hX) d (by simpa using hd)⟩,h⟩
end
theorem jes {P:Program} {k:List Itm} {st:St} {R:St->Prop} (h:R st):SK P (.code .ret :: k) st R:=jat h
theorem jet {P:Program} {vs:List ResultVar} {X:List Nat} {c0:Nat->Option Obj} {r r':Res} {st:St} (h:jlv P vs X c0 r' st) (e:r'=r):jlv P vs X c0 r st:=e ▸ h
theorem wp_strong {P:Program} {o:Oper} {a:Act} {w:World} {K K':Act->World->Prop} {Q Q':Exit->Act->World->Prop} (hh:o.wp P a w K Q) (h:∀ a w,K a w->K' a w) (hQ:∀ e a w,Q e a w->Q' e a w):o.wp P a w K' Q':=by
 have hl:LetsOut Q->LetsOut Q':=fun ⟨a,w,h⟩=>⟨a,w,hQ _ _ _ h⟩;unfold Oper.wp at *;generalize (execOp a.eval o).run P w=r at *;cases r with
 | ok n w' =>
  cases n <;> simp only [Oper.upon] at hh ⊢ <;>
   first
    | exact h _ _ hh
    | exact Calls.mono hh (fun e w'' he => by cases e <;> first|exact h _ _ he|exact hQ _ _ _ he|exact hl he)
    | exact Rows.mono hh (fun _ _ he=>h _ _ he)
 | halt x w'=>cases x <;> simp only [Oper.upon] at hh ⊢ <;> first|exact hQ _ _ _ hh|exact hh
section
variable {P:Program} {ops:Array Oper} {mu:Nat->Bool} {x y:OT} {st:St} {K:St->Prop}
theorem SO.mono {K':St->Prop} {os:OT} (h:SO P ops mu os st K) (hk:∀ s,K s -> ∃ s',s.le s'/\K' s'):SO P ops mu os st K':=by
 refine ⟨fun w0 a w hs=>?_⟩;have gen:∀ (os:OT) (a:Act) (w:World),wpT P ops mu (NoPanic (QN w0 K)) os a w->wpT P ops mu (NoPanic (QN w0 K')) os a w:=by
  intro os;have hQ:∀ (e:Exit) (a:Act) (w:World),NoPanic (QN w0 K) e a w->NoPanic (QN w0 K') e a w:=by
   intro e a w;cases e with
   | normal =>
    rintro ⟨s,h1,h2⟩;obtain ⟨s',h3,h4⟩:=hk s h2;exact ⟨s',h1.le h3,h4⟩
   | _=>exact id
  induction os with
  | nil=>intro a w h;exact hQ _ _ _ h
  | alt n x y ihx ihy=>intro a w h;exact ⟨ihx a w h.1,ihy a w h.2⟩
  | cons e r ih =>
   obtain ⟨o,i,b⟩:=e;intro a w h;cases o with
   | none=>exact h
   | some o =>
    cases b with
    | true =>
     obtain ⟨v,h1,h2⟩:=h;exact ⟨v,h1,ih _ _ h2⟩
    | false =>
     unfold wpT at h ⊢;split
     ·rename_i hw;rw [if_pos hw] at h;rcases h with h|h
      ·exact .inl (wp_strong h (fun a' w' h3=>⟨h3.1,ih _ _ h3.2⟩) hQ)
      ·obtain ⟨h1,a0,w0,h2⟩:=h;exact .inr ⟨h1,a0,w0,hQ _ _ _ h2⟩
     ·rename_i hw;rw [if_neg hw] at h;exact ih _ _ h
 exact gen os a w (h.run w0 a w hs)
end
def St.ofL (n:Nat) (V:List (Nat×FV)) (B:List (Nat×Blk)):St:=⟨n,fun t=>match getF V t with | some v=>v | none => .c .junk,fun b=>getL B b⟩
inductive Nc : C -> C -> Prop
 | d {c:C} {x:D} (h:c = .d x):Nc c (.d x)
 | ls {c:C} {b sz off n:Nat} (h:c = .ls b sz off n):Nc c (.ls b sz off n)
 | lp {c:C} {b off:Nat} (h:c = .lp b off):Nc c (.lp b off)
 | fn {c:C} {f:Fn} {cs:List C} (h:c = .fn f cs):Nc c (.fn f cs)
 | any (c:C):Nc c c
theorem Nc.eq {c c':C} (h:Nc c c'):c=c':=by cases h <;> first | assumption | rfl
inductive Ncs : List C -> List C -> Prop
 | nil {cs:List C} (h:cs=[]):Ncs cs []
 | cons {cs:List C} {c c':C} {r r':List C} (h:cs=c :: r) (hc:Nc c c') (t:Ncs r r'):Ncs cs (c' :: r')
theorem Ncs.eq {cs cs':List C} (h:Ncs cs cs'):cs=cs':=by
 induction h with
 | nil h=>exact h
 | cons h hc t ih=>rw [h,hc.eq,ih]
inductive Nv : FV -> FV -> Prop
 | c {x:FV} {c c':C} (h:x = .c c) (hc:Nc c c'):Nv x (.c c')
 | g {x:FV} {cs cs':List C} (h:x = .g cs) (hc:Ncs cs cs'):Nv x (.g cs')
 | t {x:FV} {ps:List FV} (h:x = .t ps):Nv x (.t ps)
 | any (x:FV):Nv x x
theorem Nv.eq {x y:FV} (h:Nv x y):x=y:=by
 cases h with
 | c h hc=>rw [h,hc.eq]
 | g h hc=>rw [h,hc.eq]
 | t h=>exact h
 | any=>rfl
inductive Nb : Option Blk -> Blk -> Prop
 | row {x:Option Blk} {sz:Nat} {ds:List D} (h:x=some (.row sz ds)):Nb x (.row sz ds)
 | box {x:Option Blk} {cs cs':List C} (h:x=some (.box cs)) (hc:Ncs cs cs'):Nb x (.box cs')
 | any {x:Option Blk} {y:Blk} (h:x=some y):Nb x y
theorem Nb.eq {x:Option Blk} {y:Blk} (h:Nb x y):x=some y:=by
 cases h with
 | row h=>exact h
 | box h hc=>rw [h,hc.eq]
 | any h=>exact h
inductive Pf (st : St) : List Nat -> List (Nat × FV) -> Prop
 | nil:Pf st [] []
 | cons {t:Nat} {U:List Nat} {v:FV} {V:List (Nat×FV)} (h:Nv (st.fr t) v) (r:Pf st U V):Pf st (t :: U) ((t,v) :: V)
 | skip {t:Nat} {U:List Nat} {V:List (Nat×FV)} (r:Pf st U V):Pf st (t :: U) V
inductive Pb (st : St) : List Nat -> List (Nat × Blk) -> Prop
 | nil:Pb st [] []
 | cons {t:Nat} {U:List Nat} {v:Blk} {V:List (Nat×Blk)} (h:Nb (st.bl t) v) (r:Pb st U V):Pb st (t :: U) ((t,v) :: V)
 | skip {t:Nat} {U:List Nat} {V:List (Nat×Blk)} (r:Pb st U V):Pb st (t :: U) V
theorem Pf.le {st:St} {U:List Nat} {V:List (Nat×FV)} (h:Pf st U V):leF st V:=by
 induction h with
 | nil=>trivial
 | cons h r ih=>exact ⟨h.eq,ih⟩
 | skip r ih=>exact ih
theorem Pb.le {st:St} {U:List Nat} {V:List (Nat×Blk)} (h:Pb st U V):leB st V:=by
 induction h with
 | nil=>trivial
 | cons h r ih=>exact ⟨h.eq,ih⟩
 | skip r ih=>exact ih
theorem ofL_le {st:St} {V:List (Nat×FV)} {B:List (Nat×Blk)} (hV:leF st V) (hB:leB st B):st.le (St.ofL st.n V B):=by
 refine ⟨rfl,fun t=>?_,fun b=>?_⟩
 ·unfold FV.le St.ofL;simp only;cases hg:getF V t with
  | some v=>exact .inr (leF_get hV t v hg)
  | none=>exact .inl rfl
 ·unfold St.ofL;simp only;cases hg:getL B b with
  | some v=>exact .inr (leB_get hB b v hg)
  | none=>exact .inl rfl
theorem sk_le {P:Program} {R:St->Prop} {k:List Itm} {st st1:St} {c:Code} (hl:st.le st1) (h:SK P (.code c :: k) st1 R):SK P (.code c :: k) st R :=
 ⟨fun w0 a w hs=>h.lv w0 a w (hs.le hl)⟩
theorem jdg {P:Program} {R:St->Prop} {k:List Itm} {st:St} (id:Nat) (U UB:List Nat) {os:Array Oper} {b:Bool} {V:List (Nat×FV)} {B:List (Nat×Blk)} {n:Nat} (hn:st.n=n) (hV:Pf st U V) (hB:Pb st UB B)
  (h:SK P (.code (.region id os b) :: k) (St.ofL n V B) R):SK P (.code (.region id os b) :: k) st R:=by
 subst hn;exact sk_le (ofL_le hV.le hB.le) h
theorem jbe {P:Program} {R:St->Prop} {k:List Itm} {st:St} {c:Code} (U UB:List Nat) {V:List (Nat×FV)} {B:List (Nat×Blk)} {n:Nat} (hn:st.n=n) (hV:Pf st U V) (hB:Pb st UB B)
  (h:SK P (.code c :: k) (St.ofL n V B) R):SK P (.code c :: k) st R:=by
 subst hn;exact sk_le (ofL_le hV.le hB.le) h
section
variable {P:Program} {ops:Array Oper} {mu:Nat->Bool} {st:St} {K:St->Prop}
theorem jeq {os:List Oper} {T:IT} {C:IT->IT} {S:St} (main:∀ Y,SO P ops mu (OT.of os Y) S K->SO P ops mu (OT.of os (C Y)) st K) (h:SO P ops mu (OT.of os T) S K):SO P ops mu (OT.of os (IT.lt T C)) st K:=main T h
theorem jfg {os:List Oper} {Y:IT} {U UB:List Nat} {n:Nat} {V:List (Nat×FV)} {B:List (Nat×Blk)} (hn:st.n=n) (hV:Pf st U V) (hB:Pb st UB B) (h:SO P ops mu (OT.of os Y) (St.ofL n V B) K):SO P ops mu (OT.of os (IT.ref true U UB Y)) st K:=by
 subst hn;exact so_le (ofL_le hV.le hB.le) h
theorem jff {os:List Oper} {Y:IT} {U UB:List Nat} {n:Nat} {V:List (Nat×FV)} {B:List (Nat×Blk)} (h:SO P ops mu (OT.of os Y) (St.ofL n V B) K) (hn:st.n=n) (h1:leF st V) (h2:leB st B):SO P ops mu (OT.of os (IT.ref false U UB Y)) st K:=by
 subst hn;exact so_le (ofL_le h1 h2) h
end
end
end Go.Proofs.YtbhbkbnlpackdaaGreatDoor
