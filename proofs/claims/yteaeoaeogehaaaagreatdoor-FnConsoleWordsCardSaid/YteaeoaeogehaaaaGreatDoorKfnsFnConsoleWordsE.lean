/- What the functions that FnConsoleWords reaches return: part of its proof. No condition beyond those of its theorems. -/
import Derived.Test.YteaeoaeogehaaaaGreatDoorKfnsFnConsoleWordsA
import Derived.Test.YteaeoaeogehaaaaGreatDoorKplainC
import Derived.Test.YteaeoaeogehaaaaGreatDoorKfnsFnConsoleWordsD
import Derived.Test.YteaeoaeogehaaaaGreatDoorKplainB
import Derived.Test.YteaeoaeogehaaaaGreatDoorKfnsFnConsoleWordsC
import Derived.Test.YteaeoaeogehaaaaGreatDoorKplainA
import Derived.WalkKit
import Derived.Shelf.Strings.Search2
import Derived.Shelf.Strings.Count
import Derived.Shelf.Strings.Search3
import Derived.Shelf.Strings.IndexAnyAll
import Derived.Lib.LaidTab
import Derived.Lib.LaidIn
import Derived.Handed
import Derived.LaidLaws
set_option linter.unusedSectionVars false
set_option maxRecDepth 10000
set_option maxHeartbeats 4000000
set_option linter.unusedVariables false
set_option linter.unusedSimpArgs false
namespace Go.Proofs.YteaeoaeogehaaaaGreatDoor
open Go.RowKit
variable [Glb]
section
variable {P : Program} {st : St} {dst : Option Tmp} {ty : TypeId} {pos : String} {af : Array Edge} {x y : Operand}
theorem bxorU_nat (a b : Nat) (ha : a < 4096) (hb : b < 4096) : bits .xor .u64 (a : Int) (b : Int) = ((a ^^^ b : Nat) : Int) := by
 have e : bits .xor .u64 (a : Int) (b : Int) = IntKind.u64.wrap (((BitVec.ofInt 64 (a : Int) ^^^ BitVec.ofInt 64 (b : Int)).toNat : Nat) : Int) := rfl
 have o : a ^^^ b < 4096 := Nat.xor_lt_two_pow (n := 12) ha hb
 rw [e, jeq, jeq, BitVec.toNat_xor, BitVec.toNat_ofNat, BitVec.toNat_ofNat, Nat.mod_eq_of_lt (by omega), Nat.mod_eq_of_lt (by omega)]
 exact wrapW (by omega)
theorem qt_xorW {T T' : TypeId} {m n : Nat} (hx : st.ev x = .c (.d (dU (m : Int)))) (hy : st.ev y = .c (.d (dU (n : Int)))) (hm : m < 4096) (hn : n < 4096) : Qt P ⟨dst, .binOp .xor T x y T', ty, pos, af, none⟩ st (.c (.d (dU ((m ^^^ n : Nat) : Int)))) := by
 rw [← bxorU_nat m n hm hn];exact jdw hx hy (by simp)
theorem qt_load_W {T : TypeId} {b : Nat} {l : List Nat} {j : Nat} {off : Nat} (hx : st.ev x = .c (.lp b off)) (hb : st.bl b = some (.row 1 (cW l))) (ht : tOne P T = true) (ho : off = j) (hj : j < l.length) : Qt P ⟨dst, .load T x, ty, pos, af, none⟩ st (.c (.d (dU ((rw0 l j : Nat) : Int)))) :=
 jia hx hb ht (by subst ho;rw [List.getElem?_map, List.getElem?_eq_getElem hj, jhw hj];rfl)
end
theorem redM_take {rows : List Nat} {m j : Nat} (h : j < rows.length) : redM (rows.take (j + 1)) m = min (redM (rows.take j) m) (redM (rows.take j) m ^^^ rw0 rows j) := by
 unfold redM
 rw [List.take_succ_eq_append_getElem h, List.foldl_append, jhw h];rfl
theorem redM_lt {rows : List Nat} {m : Nat} (hm : m < 4096) : redM rows m < 4096 := by
 induction rows generalizing m with
 | nil => exact hm
 | cons r rs ih =>
  show redM rs (min m (m ^^^ r)) < 4096
  exact ih (by omega)
theorem basM_take {ms : List Nat} {i : Nat} (h : i < ms.length) : basM (ms.take (i + 1)) = addM (basM (ms.take i)) (rw0 ms i) := by
 unfold basM
 rw [List.take_succ_eq_append_getElem h, List.foldl_append, jhw h];rfl
theorem RankOfScene_p (ev : Int) (cc : List (List Int)) (ss : List Int) (hs : sceneB ev cc ss = true) : PC Tryz.prog 12 [.g [dI ev, eII cc, eI ss]] (.t [.c (dI ((basM (masksL cc cc.length)).length : Nat)), .c (dB true)]) := by
 have q1 := IsScene_p ev cc ss
 rw [hs] at q1
 have mp := masks_p ev cc ss hs
 have mb := masks_bd hs
 have ml : (masksL cc cc.length).length = cc.length := by simp
 have c10 := (jcc hs).c10
 generalize masksL cc cc.length = M at *
 refine jaq Tryz.func12 rfl rfl rfl (by kernel_rfl) rfl rfl ?_;intro _
 repeat' (first|(refine jaa (.box 29 _) ?_;refine jbh rfl rfl ?_)|refine zaa ?_|refine zay ?_|refine zah ?_|(refine jaa (.buildSlice 78 0 _) ?_;(apply jao (sz := 1) (by_ := 8);(·kernel_rfl);(·decide);(·(repeat(exact GvS.nil _)));(·decide);(·rfl);(·rfl);(·rfl)))|(refine jaa (.call ⟨.builtin .len, _, #[78]⟩) ?_;(refine jac (jbe rfl (by kernel_rfl)) rfl ?_))|refine zab ?_|(refine jaa (.call ⟨.value (.func 28), _, _⟩) ?_;((apply jag (fid := 28);(·(repeat(first|exact SeA.nil|(apply SeA.cons;(·(apply SeP.g;(repeat(first|exact SeL.nil|apply SeL.cons (.d _)))))))));(·exact q1);(·rfl))))|(refine jaa (.call ⟨.value (.func 32), _, _⟩) ?_;((apply jag (fid := 32);(·(repeat(first|exact SeA.nil|(apply SeA.cons;(·(apply SeP.g;(repeat(first|exact SeL.nil|apply SeL.cons (.d _)))))))));(·exact mp);(·rfl))))|refine jaj ?_|refine jak ?_|refine jai ?_|refine jan ?_|refine jab ?_|refine jbj rfl ?_)
 all_goals first|(exfalso;simp_all;done)|skip
 apply jay [4, 14, 15, 16] [1, 12, 14, 36, 37] rfl;(·(repeat(first|exact Pf.nil|apply Pf.cons (.c rfl (.d rfl))|apply Pf.cons (.c rfl (.ls rfl)))));(·(repeat(first|exact Pb.nil|apply Pb.cons (.row rfl)|(apply Pb.cons;(·apply Nb.box rfl;(repeat(first|exact Ncs.nil rfl|(apply Ncs.cons rfl;(·(exact .d rfl)))))))|apply Pb.skip)))
 refine jbb [14, 15] [1, 14, 36, 37] (fun (g : Nat × List Nat) => [(16, iN g.1), (4, .c (.ls 12 1 0 g.2.length))]) (fun g => [(12, .row 1 (cW g.2))]) (fun g => (g.1 ≤ M.length ∧ g.2.length ≤ g.1) ∧ g.2 = basM (M.take g.1) ∧ ∀ r ∈ g.2, r < 4096) (fun g => M.length - g.1) ((0, [])) ?_ (by (repeat(first|exact trivial|refine ⟨(by rfl), ?_⟩))) (by (repeat(first|exact trivial|refine ⟨(by ((refine jbm rfl ?_;simp;done))), ?_⟩))) ?_
 ·exact ⟨by simp, rfl, by simp⟩
 rintro ⟨i, l⟩ ⟨hi, hl, hb⟩
 dsimp only at hi hl hb ⊢
 by_cases hi2 : i < M.length
 ·have hM : rw0 M i < 4096 := mb _ (rw0_mem hi2)
  have az : atZ M (i : Int) = rw0 M i := by rw [jbw hi2, jhw hi2]
  have ba := basM_take hi2
  rw [← hl] at ba
  repeat' (first|refine zaa ?_|(refine jaa (.call ⟨.builtin .len, _, #[78]⟩) ?_;(refine jac (jbz rfl (by kernel_rfl)) rfl ?_))|refine zab ?_|refine zac ?_|(refine jaa (.indexAddr 78 _ _) ?_;((refine jac (qt_idxW rfl rfl (by kernel_rfl) (by omega) (by omega)) rfl ?_)))|(refine jaa (.load 76 _) ?_;(refine jac (jap rfl (by kernel_rfl) rfl) rfl ?_))|refine jaj ?_|refine jak ?_|refine jai ?_|refine jar rfl ?_|refine jan ?_|refine jab ?_|refine jbi rfl (fun hc => ?_) (fun hc => ?_))
  all_goals first|(exfalso;omega)|skip
  rw [az]
  generalize rw0 M i = m0 at *
  apply jay [4, 6, 14, 15, 16, 20, 21, 22] [1, 12, 14, 36, 37] rfl;(·(repeat(first|exact Pf.nil|apply Pf.cons (.c rfl (.d rfl))|apply Pf.cons (.c rfl (.ls rfl)))));(·(repeat(first|exact Pb.nil|apply Pb.cons (.row rfl)|(apply Pb.cons;(·apply Nb.box rfl;(repeat(first|exact Ncs.nil rfl|(apply Ncs.cons rfl;(·(exact .d rfl)))))))|apply Pb.skip)))
  refine jbb [4, 14, 15, 16, 20, 21] [1, 12, 14, 36, 37] (fun (j : Nat) => [(22, iN j), (6, .c (.d (dU ((redM (l.take j) m0 : Nat) : Int))))]) (fun _ => []) (fun j => j ≤ l.length) (fun j => l.length - j) (0) ?_ (by (repeat(first|exact trivial|refine ⟨(by rfl), ?_⟩))) (by (repeat(exact trivial))) ?_
  ·omega
  intro j hj
  by_cases hj2 : j < l.length
  ·have e := redM_take (m := m0) hj2
   have r1 := redM_lt (rows := l.take j) hM
   have r2 := hb _ (rw0_mem hj2)
   generalize hR : redM (l.take j) m0 = R at *
   repeat' (first|refine zaa ?_|refine zab ?_|refine zac ?_|(refine jaa (.indexAddr 78 _ _) ?_;(refine jac (jch rfl rfl (by kernel_rfl : tSl _ 78 1 = true) (by omega) (by omega)) rfl ?_))|(refine jaa (.load 76 _) ?_;((refine jac (qt_load_W (j := j) rfl rfl (by kernel_rfl) (by omega) hj2) rfl ?_)))|(refine jaa (.binOp .xor 76 _ _ _) ?_;((refine jac (qt_xorW rfl rfl r1 r2) rfl ?_)))|(refine jaa (.call ⟨.builtin .min, _, #[76, 76]⟩) ?_;refine jac (qt_min rfl rfl) rfl ?_)|refine zad ?_|(refine jaa (.binOp .neq 76 _ _ _) ?_;(refine jac (jfa rfl rfl) rfl ?_))|(refine jaa (.buildSlice 78 1 _) ?_;(apply jao (sz := 1) (by_ := 8);(·kernel_rfl);(·decide);(·(repeat(first|exact GvS.nil _|apply GvS.c rfl rfl (.lit _) rfl)));(·decide);(·rfl);(·rfl);(·rfl)))|(refine jaa (.call ⟨.builtin .append, _, #[78, 78]⟩) ?_;((apply jbo (sz := 1) (by_ := 8);(·rfl);(·rfl);(·((simp;done)));(·exact .row _ _ _ _ rfl (by ((simp;done))));(·decide);(·kernel_rfl);(·decide);(·omega);(·omega);(·rfl);(·rfl);(·rfl))))|refine jaj ?_|refine jak ?_|refine jai ?_|refine jaz ?_|refine jar rfl ?_|refine jan ?_|refine jab ?_|refine jbi rfl (fun hc => ?_) (fun hc => ?_))
   all_goals first|(exfalso;omega)|skip
   refine jba ?_;refine ⟨j + 1, ?_, ?_, jbx rfl (by (repeat(first|exact trivial|refine ⟨(by (first|rfl|(refine jdr rfl ?_;(omega)))), ?_⟩))) (by (repeat(first|exact trivial|refine ⟨rfl, ?_⟩))) (by (repeat(exact trivial))) (by (repeat(first|exact trivial|refine ⟨.inr rfl, ?_⟩)))⟩
   ·omega
   ·omega
  ·have e : redM (l.take j) m0 = redM l m0 := by rw [List.take_of_length_le (by omega)]
   rw [e]
   by_cases hz : redM l m0 = 0
   ·have ba2 : basM (M.take (i + 1)) = l := by rw [ba];unfold addM;rw [if_pos hz]
    repeat' (first|refine zaa ?_|refine zab ?_|refine zac ?_|(refine jaa (.indexAddr 78 _ _) ?_;(refine jac (jch rfl rfl (by kernel_rfl : tSl _ 78 1 = true) (by omega) (by omega)) rfl ?_))|(refine jaa (.load 76 _) ?_;(((exfalso;omega))))|refine zad ?_|(refine jaa (.binOp .neq 76 _ _ _) ?_;refine jac (jfa rfl rfl) rfl ?_)|(refine jaa (.buildSlice 78 1 _) ?_;(apply jao (sz := 1) (by_ := 8);(·kernel_rfl);(·decide);(·(repeat(first|exact GvS.nil _|apply GvS.c rfl rfl (.lit _) rfl)));(·decide);(·rfl);(·rfl);(·rfl)))|(refine jaa (.call ⟨.builtin .append, _, #[78, 78]⟩) ?_;((apply jbo (sz := 1) (by_ := 8);(·rfl);(·rfl);(·((simp;done)));(·exact .row _ _ _ _ rfl (by ((simp;done))));(·decide);(·kernel_rfl);(·decide);(·omega);(·omega);(·rfl);(·rfl);(·rfl))))|refine jaj ?_|refine jak ?_|refine jai ?_|refine jaz ?_|refine jar rfl ?_|refine jan ?_|refine jab ?_|refine jbi rfl (fun hc => ?_) (fun hc => ?_))
    all_goals first|(exfalso;omega)|skip
    refine jba ?_;refine ⟨(i + 1, l), ?_, ?_, jbx rfl (by (repeat(first|exact trivial|refine ⟨(by rfl), ?_⟩))) (by (repeat(first|exact trivial|refine ⟨rfl, ?_⟩))) (by (repeat(first|exact trivial|refine ⟨(by ((refine jbm rfl ?_;simp;done))), ?_⟩))) (by (repeat(first|exact trivial|refine ⟨.inr rfl, ?_⟩)))⟩
    ·exact ⟨⟨by dsimp only;omega, by dsimp only;omega⟩, ba2.symm, hb⟩
    ·dsimp only; omega
   ·have ba2 : basM (M.take (i + 1)) = l ++ [redM l m0] := by rw [ba];unfold addM;rw [if_neg hz]
    have hb2 : ∀ r ∈ l ++ [redM l m0], r < 4096 := fun r h => by
     rcases List.mem_append.1 h with h|h
     ·exact hb r h
     ·rw [List.mem_singleton.1 h];exact redM_lt hM
    generalize redM l m0 = R at *
    repeat' (first|refine zaa ?_|refine zab ?_|refine zac ?_|(refine jaa (.indexAddr 78 _ _) ?_;(refine jac (jch rfl rfl (by kernel_rfl : tSl _ 78 1 = true) (by omega) (by omega)) rfl ?_))|(refine jaa (.load 76 _) ?_;(((exfalso;omega))))|refine zad ?_|(refine jaa (.binOp .neq 76 _ _ _) ?_;refine jac (jfa rfl rfl) rfl ?_)|(refine jaa (.buildSlice 78 1 _) ?_;(apply jao (sz := 1) (by_ := 8);(·kernel_rfl);(·decide);(·(repeat(first|exact GvS.nil _|apply GvS.c rfl rfl (.lit _) rfl)));(·decide);(·rfl);(·rfl);(·rfl)))|(refine jaa (.call ⟨.builtin .append, _, #[78, 78]⟩) ?_;((apply jbo (sz := 1) (by_ := 8);(·rfl);(·rfl);(·((simp;done)));(·exact .row _ _ _ _ rfl (by ((simp;done))));(·decide);(·kernel_rfl);(·decide);(·omega);(·omega);(·rfl);(·rfl);(·rfl))))|refine jaj ?_|refine jak ?_|refine jai ?_|refine jaz ?_|refine jar rfl ?_|refine jan ?_|refine jab ?_|refine jbi rfl (fun hc => ?_) (fun hc => ?_))
    all_goals first|(exfalso;omega)|skip
    refine jba ?_;refine ⟨(i + 1, l ++ [R]), ?_, ?_, jbx rfl (by (repeat(first|exact trivial|refine ⟨(by (first|rfl|(refine joq rfl ?_;((simp;done))))), ?_⟩))) (by (repeat(first|exact trivial|refine ⟨rfl, ?_⟩))) (by (repeat(first|exact trivial|refine ⟨(by ((refine jbm rfl ?_;simp;done))), ?_⟩))) (by (repeat(first|exact trivial|refine ⟨.inr rfl, ?_⟩)))⟩
    ·exact ⟨⟨by dsimp only;omega, by dsimp only;simp;omega⟩, ba2.symm, hb2⟩
    ·dsimp only; omega
 ·obtain rfl : i = M.length := by omega
  rw [List.take_length] at hl
  repeat' (first|refine zaa ?_|(refine jaa (.call ⟨.builtin .len, _, #[78]⟩) ?_;(refine jac (jbz rfl (by kernel_rfl)) rfl ?_))|refine zab ?_|refine zac ?_|(refine jaa (.indexAddr 78 _ _) ?_;(((exfalso;omega))))|refine jaj ?_|refine jak ?_|refine jai ?_|refine jar rfl ?_|refine jan ?_|refine jab ?_|refine jbi rfl (fun hc => ?_) (fun hc => ?_))
  all_goals first|(exfalso;omega)|skip
  all_goals (apply jat;apply jau;(·apply jbc.t;(·(apply GvA.cons;(·exact .tmp _);(·exact GvP.c (.lit _)));(apply GvA.cons;(·exact .tmp _);(·exact GvP.c (.lit _)));exact GvA.nil);(·rfl);(·decide)))
  all_goals rw [hl]
end Go.Proofs.YteaeoaeogehaaaaGreatDoor
namespace Go.Proofs.YteaeoaeogehaaaaGreatDoor
open Go.RowKit
variable [Glb]
open Go Go.RowKit
end Go.Proofs.YteaeoaeogehaaaaGreatDoor
namespace Go.Proofs.YteaeoaeogehaaaaGreatDoor
open Go.RowKit
variable [Glb]
section
variable {P : Program} {st : St} {dst : Option Tmp} {ty : TypeId} {pos : String} {af : Array Edge} {x y : Operand}
theorem xorB {m n : Nat} (hm : m < 2) (hn : n < 2) : bits .xor .i64 (m : Int) (n : Int) = ((m ^^^ n : Nat) : Int) := by
 rcases (by omega : m = 0 ∨ m = 1) with rfl|rfl <;> rcases (by omega : n = 0 ∨ n = 1) with rfl|rfl <;> rfl
theorem qt_xorB {T T' : TypeId} {m n : Nat} (hx : st.ev x = .c (.d (dI (m : Int)))) (hy : st.ev y = .c (.d (dI (n : Int)))) (hm : m < 2) (hn : n < 2) : Qt P ⟨dst, .binOp .xor T x y T', ty, pos, af, none⟩ st (.c (.d (dI ((m ^^^ n : Nat) : Int)))) := by
 rw [← xorB hm hn];exact jdw hx hy (by simp)
end
theorem xor2 {a b : Nat} (ha : a < 2) (hb : b < 2) : a ^^^ b < 2 := Nat.xor_lt_two_pow (n := 1) ha hb
def codeL (ll : List (List Int)) (m : Nat) : List Int := rowF (fun j => codeV ll (j / 2) (j % 2)) m
theorem at_row {n : Int} {ll : List (List Int)} (h : boxB 2 2 n ll = true) (x y a c : Nat) (hx : x < 2) (hy : y < 2) (ha : a < 2) (hc : c < 2) :
  PC Tryz.prog 34 [.g [dI 2, dI 2, dI n, eII ll], .c (dI x), .c (dI y), .c (dI a), .c (dI c)] (.p (.c (dI (atZ (atZ ll ((2 * x + y : Nat) : Int)) ((2 * a + c : Nat) : Int))))) ∧ 0 ≤ atZ (atZ ll ((2 * x + y : Nat) : Int)) ((2 * a + c : Nat) : Int) ∧ atZ (atZ ll ((2 * x + y : Nat) : Int)) ((2 * a + c : Nat) : Int) ≤ n := by
 have p := at_p 2 2 n ll h x y a c (by omega) (by omega) (by omega) (by omega) (by omega) (by omega) (by omega) (by omega)
 have b := (jer (x := 2) (y := 2) h (i := x) (k := y) hx hy).1 (2 * a + c) (by omega)
 unfold atB at p b
 have e : (x : Int) * 2 + (y : Int) = ((2 * x + y : Nat) : Int) := by omega
 have e2 : 2 * (a : Int) + (c : Int) = ((2 * a + c : Nat) : Int) := by omega
 have e3 : (x : Int) * ((2 : Nat) : Int) + (y : Int) = ((2 * x + y : Nat) : Int) := by omega
 rw [e, e2] at p
 rw [e3] at b
 exact ⟨p, b⟩
theorem BoxCode_p (n : Int) (ll : List (List Int)) (h : boxB 2 2 n ll = true) : PC Tryz.prog 13 [.g [dI 2, dI 2, dI n, eII ll]] (.t [.c (eI (codeL ll 8)), .c (dB true)]) := by
 have n2 := (jbp h).n2
 have ip := isPair_p 2 2 n ll
 have pb : pairB 2 2 n ll = true := by simp [pairB, h]
 rw [pb] at ip
 have ar := fun x y a c hx hy ha hc => at_row h x y a c hx hy ha hc
 refine jaq Tryz.func13 rfl rfl rfl (by kernel_rfl) rfl rfl ?_;intro _
 repeat' (first|(refine jaa (.box 26 _) ?_;refine jbh rfl rfl ?_)|refine zaa ?_|refine zae ?_|refine zah ?_|(refine jaa (.buildSlice 27 0 _) ?_;(apply jao (sz := 1) (by_ := 8);(·kernel_rfl);(·decide);(·(repeat(exact GvS.nil _)));(·decide);(·rfl);(·rfl);(·rfl)))|refine zab ?_|(refine jaa (.call ⟨.value (.func 33), _, _⟩) ?_;(apply jag (fid := 33);(·(repeat(first|exact SeA.nil|(apply SeA.cons;(·(apply SeP.g;(repeat(first|exact SeL.nil|apply SeL.cons (.d _)))))))));(·exact ip);(·rfl)))|refine jaj ?_|refine jak ?_|refine jai ?_|refine jan ?_|refine jab ?_|refine jbj rfl ?_)
 all_goals first|(exfalso;simp_all;done)|skip
 apply jay [1, 4, 14] [1, 13, 48, 49] rfl;(·(repeat(first|exact Pf.nil|apply Pf.cons (.c rfl (.d rfl))|apply Pf.cons (.c rfl (.ls rfl))|apply Pf.cons (.c rfl (.lp rfl)))));(·(repeat(first|exact Pb.nil|apply Pb.cons (.row rfl)|(apply Pb.cons;(·apply Nb.box rfl;(repeat(first|exact Ncs.nil rfl|(apply Ncs.cons rfl;(·(exact .d rfl)))))))|apply Pb.skip)))
 refine jbb [1] [1, 48, 49] (fun k => [(14, iN k), (4, .c (.ls 13 1 0 (2 * k)))]) (fun k => [(13, .row 1 (cI (codeL ll (2 * k))))]) (fun k => k ≤ 4) (fun k => 4 - k) (0) ?_ (by (repeat(first|exact trivial|refine ⟨(by rfl), ?_⟩))) (by (repeat(first|exact trivial|refine ⟨(by rfl), ?_⟩))) ?_
 ·omega
 intro k hk
 by_cases hk2 : k < 4
 ·have hsd : k % 2 < 2 := by omega
  have htd : k / 2 < 2 := by omega
  obtain ⟨s, hsd⟩ : ∃ s, k % 2 = s := ⟨_, rfl⟩
  obtain ⟨t, htd⟩ : ∃ t, k / 2 = t := ⟨_, rfl⟩
  have hs : s < 2 := by omega
  have ht : t < 2 := by omega
  have hst := xor2 hs ht
  have e6 : (k : Int) % 2 = (s : Int) := by omega
  have e7 : (k : Int) / 2 = (t : Int) := by omega
  repeat' (first|refine zaa ?_|refine zab ?_|refine zac ?_|refine zck ?_|(refine jaa (.binOp .shr 3 _ _ _) ?_;refine jac (jff (c := 2) rfl rfl (by decide)) rfl ?_)|refine jaj ?_|refine jak ?_|refine jai ?_|refine jar rfl ?_|refine jan ?_|refine jab (id := 5) ?_|refine jab (id := 6) ?_|refine jab (id := 7) ?_|refine jab (id := 15) ?_|refine jbi rfl (fun hc => ?_) (fun hc => ?_))
  all_goals first|(exfalso;omega)|skip
  rw [e6, e7]
  repeat' (first|refine zab ?_|refine jaj ?_|refine jai ?_|refine jab ?_)
  apply jay [1, 4, 6, 7, 14, 21] [1, 13, 48, 49] rfl;(·(repeat(first|exact Pf.nil|apply Pf.cons (.c rfl (.d rfl))|apply Pf.cons (.c rfl (.ls rfl))|apply Pf.cons (.c rfl (.lp rfl)))));(·(repeat(first|exact Pb.nil|apply Pb.cons (.row rfl)|(apply Pb.cons;(·apply Nb.box rfl;(repeat(first|exact Ncs.nil rfl|(apply Ncs.cons rfl;(·(exact .d rfl)))))))|apply Pb.skip)))
  refine jbb [1, 6, 7, 14] [1, 48, 49] (fun i => [(21, iN i), (4, .c (.ls 13 1 0 (2 * k + i)))]) (fun i => [(13, .row 1 (cI (codeL ll (2 * k + i))))]) (fun i => i ≤ 2) (fun i => 2 - i) (0) ?_ (by (repeat(first|exact trivial|refine ⟨(by rfl), ?_⟩))) (by (repeat(first|exact trivial|refine ⟨(by ((refine jbm rfl ?_;simp;done))), ?_⟩))) ?_
  ·omega
  intro i hi
  have cl : (codeL ll (2 * k + i)).length = 2 * k + i := by simp [codeL]
  rcases (by omega : i = 0 ∨ i = 1 ∨ i = 2) with rfl|rfl|rfl
  ·have skip0 : True := trivial
   have hw : s ^^^ s < 2 := xor2 hs hs
   obtain ⟨p1, b1⟩ := ar (s ^^^ t) 0 0 (s ^^^ s) hst (by omega) (by omega) hw
   obtain ⟨p2, b2⟩ := ar (s ^^^ t) 0 1 (1 - (s ^^^ s)) hst (by omega) (by omega) (by omega)
   rw [show ((1 - (s ^^^ s) : Nat) : Int) = 1 - ((s ^^^ s : Nat) : Int) by omega] at p2
   have cv : codeV ll k 0 = atZ (atZ ll ((2 * (s ^^^ t) + 0 : Nat) : Int)) ((2 * 0 + (s ^^^ s) : Nat) : Int) + atZ (atZ ll ((2 * (s ^^^ t) + 0 : Nat) : Int)) ((2 * 1 + (1 - (s ^^^ s)) : Nat) : Int) := by
    unfold codeV
    rw [hsd, htd, Nat.mul_zero, Nat.zero_add]
    rfl
   have cs : codeL ll (2 * k + 1) = codeL ll (2 * k) ++ [codeV ll k 0] := by
    unfold codeL
    rw [jdj, show (2 * k) / 2 = k by omega, show (2 * k) % 2 = 0 by omega]
   rw [cv] at cs
   clear cv ar
   generalize atZ (atZ ll ((2 * (s ^^^ t) + 0 : Nat) : Int)) ((2 * 0 + (s ^^^ s) : Nat) : Int) = z1 at *
   generalize atZ (atZ ll ((2 * (s ^^^ t) + 0 : Nat) : Int)) ((2 * 1 + (1 - (s ^^^ s)) : Nat) : Int) = z2 at *
   have xe := xorB hs ht
   rw [← xorB hs ht] at p1 p2
   repeat' (first|refine zaa ?_|refine zae ?_|refine zab ?_|refine zac ?_|refine zcc ?_|(refine jaa (.index 69 _ _) ?_;refine jac (jdc (n := 2) rfl rfl (by kernel_rfl) (by omega) (by omega) rfl) rfl ?_)|(refine jaa (.binOp .xor 3 _ _ _) ?_;(first|(refine jac (qt_xorB rfl rfl hs hs) rfl ?_)|refine jac (jdw rfl rfl (by simp)) rfl ?_))|refine zan ?_|refine zad ?_|(refine jaa (.buildSlice 27 1 _) ?_;(apply jao (sz := 1) (by_ := 8);(·kernel_rfl);(·decide);(·(repeat(first|exact GvS.nil _|apply GvS.c rfl rfl (.lit _) rfl)));(·decide);(·rfl);(·rfl);(·rfl)))|(refine jaa (.call ⟨.builtin .append, _, #[27, 27]⟩) ?_;((apply jbo (sz := 1) (by_ := 8);(·rfl);(·rfl);(·((simp;omega)));(·exact .row _ _ _ _ rfl (by ((simp;done))));(·decide);(·kernel_rfl);(·decide);(·omega);(·omega);(·rfl);(·rfl);(·rfl))))|(refine jaa (.call ⟨.value (.func 34), _, _⟩) ?_;(first|(apply jag (fid := 34);(·(repeat(first|exact SeA.nil|apply SeA.cons (.c (.d _))|(apply SeA.cons;(·(apply SeP.g;(repeat(first|exact SeL.nil|apply SeL.cons (.d _)))))))));(·exact p1);(·rfl))|(apply jag (fid := 34);(·(repeat(first|exact SeA.nil|apply SeA.cons (.c (.d _))|(apply SeA.cons;(·(apply SeP.g;(repeat(first|exact SeL.nil|apply SeL.cons (.d _)))))))));(·exact p2);(·rfl))))|refine jaj ?_|refine jak ?_|refine jai ?_|refine jaz ?_|refine jan ?_|refine jab ?_|refine jbd 12 (fun i => i == 18) (.step 0 true (.step 1 true (.step 2 true (.step 3 true (.step 4 true (.step 5 true (.step 6 true (.step 8 true (.step 9 true (.step 10 true (.step 11 true (.step 12 true (.step 13 true (.step 14 true (.step 7 false (.step 15 false (.step 16 true (.step 17 false (.step 18 false (.step 19 true .nil)))))))))))))))))))) [(0, 1048575, 1048575, true), (0, 1048575, 1048575, false), (0, 1048575, 1048575, true), (0, 1048575, 1048575, true), (12, 1048563, 1048575, true), (0, 1048575, 1048575, true), (0, 1048575, 1048575, true), (114, 1048461, 1048575, false), (0, 1048575, 1048575, false), (0, 1048575, 1048575, true), (0, 1048575, 1048575, true), (1536, 1047039, 1048575, true), (0, 1048575, 1048575, true), (0, 1048575, 1048575, true), (8192, 1040383, 1048575, true), (22912, 1025791, 1048575, false), (32896, 1015679, 1048575, true), (65536, 983039, 1048575, false), (163841, 917502, 1048575, false), (524287, 786430, 786431, true)] (by kernel_rfl) (by kernel_rfl) ?_|refine jbk rfl ?_)
   all_goals first|(exfalso;omega)|skip
   all_goals
    refine jba ?_;refine ⟨1, ?_, ?_, jbx rfl (by (repeat(first|exact trivial|refine ⟨(by rfl), ?_⟩))) (by (repeat(first|exact trivial|refine ⟨rfl, ?_⟩))) (by (repeat(first|exact trivial|refine ⟨(by ((refine jbm rfl ?_;simp  [cs];done))), ?_⟩))) (by (repeat(first|exact trivial|refine ⟨.inr rfl, ?_⟩)))⟩
    ·omega
    ·omega
  ·have skip0 : True := trivial
   have hw : s ^^^ t < 2 := xor2 hs ht
   obtain ⟨p1, b1⟩ := ar (s ^^^ t) 1 0 (s ^^^ t) hst (by omega) (by omega) hw
   obtain ⟨p2, b2⟩ := ar (s ^^^ t) 1 1 (1 - (s ^^^ t)) hst (by omega) (by omega) (by omega)
   rw [show ((1 - (s ^^^ t) : Nat) : Int) = 1 - ((s ^^^ t : Nat) : Int) by omega] at p2
   have cv : codeV ll k 1 = atZ (atZ ll ((2 * (s ^^^ t) + 1 : Nat) : Int)) ((2 * 0 + (s ^^^ t) : Nat) : Int) + atZ (atZ ll ((2 * (s ^^^ t) + 1 : Nat) : Int)) ((2 * 1 + (1 - (s ^^^ t)) : Nat) : Int) := by
    unfold codeV
    rw [hsd, htd, Nat.mul_zero, Nat.zero_add]
    rfl
   have cs : codeL ll (2 * k + 1 + 1) = codeL ll (2 * k + 1) ++ [codeV ll k 1] := by
    unfold codeL
    rw [jdj, show (2 * k + 1) / 2 = k by omega, show (2 * k + 1) % 2 = 1 by omega]
   rw [cv] at cs
   clear cv ar
   generalize atZ (atZ ll ((2 * (s ^^^ t) + 1 : Nat) : Int)) ((2 * 0 + (s ^^^ t) : Nat) : Int) = z1 at *
   generalize atZ (atZ ll ((2 * (s ^^^ t) + 1 : Nat) : Int)) ((2 * 1 + (1 - (s ^^^ t)) : Nat) : Int) = z2 at *
   have xe := xorB hs ht
   rw [← xorB hs ht] at p1 p2
   repeat' (first|refine zaa ?_|refine zae ?_|refine zab ?_|refine zac ?_|refine zcc ?_|(refine jaa (.index 69 _ _) ?_;refine jac (jdc (n := 2) rfl rfl (by kernel_rfl) (by omega) (by omega) rfl) rfl ?_)|(refine jaa (.binOp .xor 3 _ _ _) ?_;refine jac (jdw rfl rfl (by simp)) rfl ?_)|refine zan ?_|refine zad ?_|(refine jaa (.buildSlice 27 1 _) ?_;(apply jao (sz := 1) (by_ := 8);(·kernel_rfl);(·decide);(·(repeat(first|exact GvS.nil _|apply GvS.c rfl rfl (.lit _) rfl)));(·decide);(·rfl);(·rfl);(·rfl)))|(refine jaa (.call ⟨.builtin .append, _, #[27, 27]⟩) ?_;((apply jbo (sz := 1) (by_ := 8);(·rfl);(·rfl);(·((simp;omega)));(·exact .row _ _ _ _ rfl (by ((simp;done))));(·decide);(·kernel_rfl);(·decide);(·omega);(·omega);(·rfl);(·rfl);(·rfl))))|(refine jaa (.call ⟨.value (.func 34), _, _⟩) ?_;(first|(apply jag (fid := 34);(·(repeat(first|exact SeA.nil|apply SeA.cons (.c (.d _))|(apply SeA.cons;(·(apply SeP.g;(repeat(first|exact SeL.nil|apply SeL.cons (.d _)))))))));(·exact p1);(·rfl))|(apply jag (fid := 34);(·(repeat(first|exact SeA.nil|apply SeA.cons (.c (.d _))|(apply SeA.cons;(·(apply SeP.g;(repeat(first|exact SeL.nil|apply SeL.cons (.d _)))))))));(·exact p2);(·rfl))))|refine jaj ?_|refine jak ?_|refine jai ?_|refine jaz ?_|refine jan ?_|refine jab ?_|refine jbd 12 (fun i => i == 18) (.step 0 true (.step 1 true (.step 2 true (.step 3 true (.step 4 true (.step 5 true (.step 6 true (.step 8 true (.step 9 true (.step 10 true (.step 11 true (.step 12 true (.step 13 true (.step 14 true (.step 7 false (.step 15 false (.step 16 true (.step 17 false (.step 18 false (.step 19 true .nil)))))))))))))))))))) [(0, 1048575, 1048575, true), (0, 1048575, 1048575, false), (0, 1048575, 1048575, true), (0, 1048575, 1048575, true), (12, 1048563, 1048575, true), (0, 1048575, 1048575, true), (0, 1048575, 1048575, true), (114, 1048461, 1048575, false), (0, 1048575, 1048575, false), (0, 1048575, 1048575, true), (0, 1048575, 1048575, true), (1536, 1047039, 1048575, true), (0, 1048575, 1048575, true), (0, 1048575, 1048575, true), (8192, 1040383, 1048575, true), (22912, 1025791, 1048575, false), (32896, 1015679, 1048575, true), (65536, 983039, 1048575, false), (163841, 917502, 1048575, false), (524287, 786430, 786431, true)] (by kernel_rfl) (by kernel_rfl) ?_|refine jbk rfl ?_)
   all_goals first|(exfalso;omega)|skip
   all_goals
    refine jba ?_;refine ⟨2, ?_, ?_, jbx rfl (by (repeat(first|exact trivial|refine ⟨(by rfl), ?_⟩))) (by (repeat(first|exact trivial|refine ⟨rfl, ?_⟩))) (by (repeat(first|exact trivial|refine ⟨(by ((refine jbm rfl ?_;simp  [cs];done))), ?_⟩))) (by (repeat(first|exact trivial|refine ⟨.inr rfl, ?_⟩)))⟩
    ·omega
    ·omega
  ·repeat' (first|refine zab ?_|refine zac ?_|refine zad ?_|refine jaj ?_|refine jak ?_|refine jaz ?_|refine jar rfl ?_|refine jab ?_|refine jbj rfl ?_)
   all_goals first|(exfalso;omega)|skip
   refine jba ?_;refine ⟨k + 1, ?_, ?_, jbx rfl (by (repeat(first|exact trivial|refine ⟨(by rfl), ?_⟩))) (by (repeat(first|exact trivial|refine ⟨rfl, ?_⟩))) (by (repeat(first|exact trivial|refine ⟨(by rfl), ?_⟩))) (by (repeat(first|exact trivial|refine ⟨.inr rfl, ?_⟩)))⟩
   ·omega
   ·omega
 ·obtain rfl : k = 4 := by omega
  repeat' (first|refine zaa ?_|refine zab ?_|refine zac ?_|refine jaj ?_|refine jak ?_|refine jar rfl ?_|refine jab ?_|refine jbj rfl ?_)
  all_goals first|(exfalso;omega)|skip
  all_goals (apply jat;apply jau;(·apply jbc.t;(·(apply GvA.cons;(·exact .tmp _);(·(exact GvP.c (.row _ _ _ _ rfl (by rfl)))));(apply GvA.cons;(·exact .tmp _);(·exact GvP.c (.lit _)));exact GvA.nil);(·rfl);(·decide)))
  all_goals simp [codeL]
theorem jjk (X Y : Nat) (n : Int) (ll : List (List Int)) (hc : ¬ (X = 2 ∧ Y = 2)) : PC Tryz.prog 13 [.g [dI X, dI Y, dI n, eII ll]] (.t [.c (eI []), .c (dB false)]) := by
 have ip := isPair_p X Y n ll
 have pb : pairB X Y n ll = false := by
  simp only [pairB, Bool.and_eq_false_iff, decide_eq_false_iff_not]
  omega
 rw [pb] at ip
 refine jaq Tryz.func13 rfl rfl rfl (by kernel_rfl) rfl rfl ?_;intro _
 repeat' (first|(refine jaa (.box 26 _) ?_;refine jbh rfl rfl ?_)|refine zaa ?_|refine zae ?_|refine zah ?_|(refine jaa (.call ⟨.value (.func 33), _, _⟩) ?_;(apply jag (fid := 33);(·(repeat(first|exact SeA.nil|(apply SeA.cons;(·(apply SeP.g;(repeat(first|exact SeL.nil|apply SeL.cons (.d _)))))))));(·exact ip);(·rfl)))|refine jaj ?_|refine jak ?_|refine jab ?_|refine jbk rfl ?_)
 all_goals first|(exfalso;simp_all;done)|skip
 all_goals (apply jat;apply jau;(·apply jbc.t;(·(apply GvA.cons;(·exact .tmp _);(·(exact GvP.c (.nil 1 (by decide)))));(apply GvA.cons;(·exact .tmp _);(·exact GvP.c (.lit _)));exact GvA.nil);(·rfl);(·decide)))
 all_goals rfl
end Go.Proofs.YteaeoaeogehaaaaGreatDoor
namespace Go.Proofs.YteaeoaeogehaaaaGreatDoor
open Go.RowKit
variable [Glb]
variable [GTab Tryz.prog tabNm]
structure HBd (X Y : Nat) (wh : Int) (bll : List (List Int)) (pl : List Int) (E : Nat) (cc : List (List Int)) (ss nu : List Int) : Prop where
 hbox : boxB X Y wh bll = true
 hpl : bitsB pl ((X : Int) + Y) = true
 hsc : sceneB E cc ss = true
 hnu : bitsB nu E = true
 n1 : 1 ≤ wh
 n2 : wh ≤ 1000
 l9 : bll.length ≤ 9
 c10 : cc.length ≤ 10
 e12 : E ≤ 12
 p6 : pl.length ≤ 6
 x3 : X ≤ 3
 y3 : Y ≤ 3
theorem jfl {X Y : Nat} {wh : Int} {bll : List (List Int)} {pl : List Int} {E : Nat} {cc : List (List Int)} {ss nu : List Int} {co : Int} (h : hallB X Y wh bll pl E cc ss nu co = true) : HBd X Y wh bll pl E cc ss nu := by
 have s := jed h
 have b := jbp s.box
 have c := jcc s.sc
 have x1 := b.x1;have x3 := b.x3;have y1 := b.y1;have y3 := b.y3
 have l := jce s.pl
 have e12 := c.e12
 refine ⟨s.box, s.pl, s.sc, s.nu, b.n1, b.n2, ?_, c.c10, by omega, by omega, by omega, by omega⟩
 have e := b.len
 rcases (by omega : (X : Int) = 1 ∨ (X : Int) = 2 ∨ (X : Int) = 3) with h|h|h <;> rw [h] at e <;> omega
theorem asked0 (X Y : Nat) (wh : Int) (bll : List (List Int)) (pl : List Int) (E : Nat) (cc : List (List Int)) (ss nu : List Int) (co : Int) (hB : hallB X Y wh bll pl E cc ss nu co = true) : PC Tryz.prog 65 [.g [dI X, dI Y, dI wh, eII bll, eI pl, dI E, eII cc, eI ss, eI nu, dI co], .c (dT [98, 111, 120])] (.t [.c (dT (boxT X Y bll)), .c (dB true)]) := by
 have hb := jfl hB
 have n2 := hb.n2;have l9 := hb.l9;have c10 := hb.c10;have p6 := hb.p6
 refine jaq Tryz.func65 rfl rfl rfl (by kernel_rfl) rfl rfl ?_;intro _
 repeat' (first|(refine jaa (.box 31 _) ?_;refine jbh rfl rfl ?_)|refine zaa ?_|refine zab ?_|refine zbm ?_|refine zaz ?_|refine zae ?_|refine zak ?_|(refine jaa (.call ⟨.value (.func 14), _, _⟩) ?_;(apply jag (fid := 14);(·(repeat(first|exact SeA.nil|(apply SeA.cons;(·(apply SeP.g;(repeat(first|exact SeL.nil|apply SeL.cons (.d _)))))))));(·exact BoxText_p X Y wh bll hb.hbox);(·rfl)))|refine jaj ?_|refine jak ?_|refine jai ?_|refine jab ?_|refine jbk rfl ?_)
 all_goals (apply jat;apply jau;(·apply jbc.t;(·(apply GvA.cons;(·exact .tmp _);(·exact GvP.c (.lit _)));(apply GvA.cons;(·exact .tmp _);(·exact GvP.c (.lit _)));exact GvA.nil);(·rfl);(·decide)))
 all_goals rfl
theorem asked5 (X Y : Nat) (wh : Int) (bll : List (List Int)) (pl : List Int) (E : Nat) (cc : List (List Int)) (ss nu : List Int) (co : Int) (hB : hallB X Y wh bll pl E cc ss nu co = true) : PC Tryz.prog 65 [.g [dI X, dI Y, dI wh, eII bll, eI pl, dI E, eII cc, eI ss, eI nu, dI co], .c (dT [103, 114, 101, 97, 116])] (.t [.c (dT (txtZ (greatI bll X Y))), .c (dB true)]) := by
 have hb := jfl hB
 have n2 := hb.n2;have l9 := hb.l9;have c10 := hb.c10;have p6 := hb.p6
 have p := GreatestSum_p X Y wh bll hb.hbox
 have q := numberReply_p _ (jif hb.hbox)
 generalize greatI bll X Y = v at *
 refine jaq Tryz.func65 rfl rfl rfl (by kernel_rfl) rfl rfl ?_;intro _
 repeat' (first|(refine jaa (.box 31 _) ?_;refine jbh rfl rfl ?_)|refine zaa ?_|refine zab ?_|refine zbm ?_|refine zaz ?_|refine zae ?_|refine zak ?_|(refine jaa (.call ⟨.value (.func 104), _, _⟩) ?_;((apply jag (fid := 104);(·(repeat(first|exact SeA.nil|apply SeA.cons (.c (.d _)))));(·exact q);(·rfl))))|(refine jaa (.call ⟨.value (.func 9), _, _⟩) ?_;((apply jag (fid := 9);(·(repeat(first|exact SeA.nil|(apply SeA.cons;(·(apply SeP.g;(repeat(first|exact SeL.nil|apply SeL.cons (.d _)))))))));(·exact p);(·rfl))))|refine jaj ?_|refine jak ?_|refine jai ?_|refine jab ?_|refine jbk rfl ?_|refine jbj rfl ?_)
 all_goals (apply jat;apply jau;(·apply jbc.t;(·(apply GvA.cons;(·exact .tmp _);(·exact GvP.c (.lit _)));(apply GvA.cons;(·exact .tmp _);(·exact GvP.c (.lit _)));exact GvA.nil);(·rfl);(·decide)))
 all_goals rfl
theorem asked6 (X Y : Nat) (wh : Int) (bll : List (List Int)) (pl : List Int) (E : Nat) (cc : List (List Int)) (ss nu : List Int) (co : Int) (hB : hallB X Y wh bll pl E cc ss nu co = true) : PC Tryz.prog 65 [.g [dI X, dI Y, dI wh, eII bll, eI pl, dI E, eII cc, eI ss, eI nu, dI co], .c (dT [108, 111, 99, 97, 108])] (.t [.c (dT (sayB (localB bll X Y wh))), .c (dB true)]) := by
 have hb := jfl hB
 have n2 := hb.n2;have l9 := hb.l9;have c10 := hb.c10;have p6 := hb.p6
 have p := IsLocal_p X Y wh bll hb.hbox
 generalize localB bll X Y wh = v at *
 refine jaq Tryz.func65 rfl rfl rfl (by kernel_rfl) rfl rfl ?_;intro _
 repeat' (first|(refine jaa (.box 31 _) ?_;refine jbh rfl rfl ?_)|refine zaa ?_|refine zab ?_|refine zbm ?_|refine zaz ?_|refine zae ?_|refine zak ?_|(refine jaa (.call ⟨.value (.func 109), _, _⟩) ?_;((apply jag (fid := 109);(·(repeat(first|exact SeA.nil|apply SeA.cons (.c (.d _)))));(·exact reportReply_p v true);(·rfl))))|(refine jaa (.call ⟨.value (.func 10), _, _⟩) ?_;(apply jag (fid := 10);(·(repeat(first|exact SeA.nil|(apply SeA.cons;(·(apply SeP.g;(repeat(first|exact SeL.nil|apply SeL.cons (.d _)))))))));(·exact p);(·rfl)))|refine jaj ?_|refine jak ?_|refine jai ?_|refine jab ?_|refine jbk rfl ?_|refine jbj rfl ?_)
 all_goals (apply jat;apply jau;(·apply jbc.t;(·(apply GvA.cons;(·exact .tmp _);(·exact GvP.c (.lit _)));(apply GvA.cons;(·exact .tmp _);(·exact GvP.c (.lit _)));exact GvA.nil);(·rfl);(·decide)))
 all_goals rfl
theorem asked10 (X Y : Nat) (wh : Int) (bll : List (List Int)) (pl : List Int) (E : Nat) (cc : List (List Int)) (ss nu : List Int) (co : Int) (hB : hallB X Y wh bll pl E cc ss nu co = true) : PC Tryz.prog 65 [.g [dI X, dI Y, dI wh, eII bll, eI pl, dI E, eII cc, eI ss, eI nu, dI co], .c (dT [109, 111, 115, 116])] (.t [.c (dT (txtZ (mostF cc ss E (2 ^ E)).1)), .c (dB true)]) := by
 have hb := jfl hB
 have n2 := hb.n2;have l9 := hb.l9;have c10 := hb.c10;have p6 := hb.p6
 have p := MostKept_p E cc ss hb.hsc
 have q := numberReply_p _ (jje (cc := cc) (ss := ss) c10 E (2 ^ E))
 generalize (mostF cc ss E (2 ^ E)).1 = v at *
 refine jaq Tryz.func65 rfl rfl rfl (by kernel_rfl) rfl rfl ?_;intro _
 repeat' (first|(refine jaa (.box 31 _) ?_;refine jbh rfl rfl ?_)|refine zaa ?_|(refine jaa (.move _) ?_;(first|refine jac (jal rfl) rfl ?_|refine jac (jcg rfl) rfl ?_))|refine zbm ?_|refine zak ?_|refine zbl ?_|refine zay ?_|(refine jaa (.call ⟨.value (.func 104), _, _⟩) ?_;((apply jag (fid := 104);(·(repeat(first|exact SeA.nil|apply SeA.cons (.c (.d _)))));(·exact q);(·rfl))))|(refine jaa (.call ⟨.value (.func 11), _, _⟩) ?_;((apply jdp (fid := 11);(·(repeat(first|exact SeA.nil|(apply SeA.cons;(·(apply SeP.g;(repeat(first|exact SeL.nil|apply SeL.cons (.d _)))))))));(·exact p);(·rfl);(rintro _ ⟨l, rfl⟩))))|refine jaj ?_|refine jak ?_|refine jai ?_|refine jab ?_|refine jbk rfl ?_|refine jbj rfl ?_)
 all_goals (apply jat;apply jau;(·apply jbc.t;(·(apply GvA.cons;(·exact .tmp _);(·exact GvP.c (.lit _)));(apply GvA.cons;(·exact .tmp _);(·exact GvP.c (.lit _)));exact GvA.nil);(·rfl);(·decide)))
 all_goals rfl
theorem asked11 (X Y : Nat) (wh : Int) (bll : List (List Int)) (pl : List Int) (E : Nat) (cc : List (List Int)) (ss nu : List Int) (co : Int) (hB : hallB X Y wh bll pl E cc ss nu co = true) : PC Tryz.prog 65 [.g [dI X, dI Y, dI wh, eII bll, eI pl, dI E, eII cc, eI ss, eI nu, dI co], .c (dT [114, 97, 110, 107])] (.t [.c (dT (txtZ ((basM (masksM cc)).length : Nat))), .c (dB true)]) := by
 have hb := jfl hB
 have n2 := hb.n2;have l9 := hb.l9;have c10 := hb.c10;have p6 := hb.p6
 have p : PC Tryz.prog 12 [.g [dI E, eII cc, eI ss]] (.t [.c (dI ((basM (masksM cc)).length : Nat)), .c (dB true)]) := RankOfScene_p E cc ss hb.hsc
 have q := numberReply_p _ (jjb (cc := cc) c10)
 generalize (basM (masksM cc)).length = v at *
 refine jaq Tryz.func65 rfl rfl rfl (by kernel_rfl) rfl rfl ?_;intro _
 repeat' (first|(refine jaa (.box 31 _) ?_;refine jbh rfl rfl ?_)|refine zaa ?_|refine zab ?_|refine zbm ?_|refine zak ?_|refine zbl ?_|refine zay ?_|(refine jaa (.call ⟨.value (.func 104), _, _⟩) ?_;((apply jag (fid := 104);(·(repeat(first|exact SeA.nil|apply SeA.cons (.c (.d _)))));(·exact q);(·rfl))))|(refine jaa (.call ⟨.value (.func 12), _, _⟩) ?_;((apply jag (fid := 12);(·(repeat(first|exact SeA.nil|(apply SeA.cons;(·(apply SeP.g;(repeat(first|exact SeL.nil|apply SeL.cons (.d _)))))))));(·exact p);(·rfl))))|refine jaj ?_|refine jak ?_|refine jai ?_|refine jab ?_|refine jbk rfl ?_|refine jbj rfl ?_)
 all_goals (apply jat;apply jau;(·apply jbc.t;(·(apply GvA.cons;(·exact .tmp _);(·exact GvP.c (.lit _)));(apply GvA.cons;(·exact .tmp _);(·exact GvP.c (.lit _)));exact GvA.nil);(·rfl);(·decide)))
 all_goals rfl
theorem asked13y (X Y : Nat) (wh : Int) (bll : List (List Int)) (pl : List Int) (E : Nat) (cc : List (List Int)) (ss nu : List Int) (co : Int) (hB : hallB X Y wh bll pl E cc ss nu co = true) (hx : X = 2 ∧ Y = 2) : PC Tryz.prog 65 [.g [dI X, dI Y, dI wh, eII bll, eI pl, dI E, eII cc, eI ss, eI nu, dI co], .c (dT [99, 111, 100, 101])] (.t [.c (dT (sayL (codeM bll))), .c (dB true)]) := by
 have hb := jfl hB
 have n2 := hb.n2;have l9 := hb.l9;have c10 := hb.c10;have p6 := hb.p6
 obtain ⟨rfl, rfl⟩ := hx
 have p : PC Tryz.prog 13 [.g [dI ((2 : Nat) : Int), dI ((2 : Nat) : Int), dI wh, eII bll]] (.t [.c (eI (codeM bll)), .c (dB true)]) := BoxCode_p wh bll hb.hbox
 have q := listReply_p _ (jji (n := wh) hb.hbox) (by simp [codeM])
 generalize codeM bll = v at *
 refine jaq Tryz.func65 rfl rfl rfl (by kernel_rfl) rfl rfl ?_;intro _
 repeat' (first|(refine jaa (.box 31 _) ?_;refine jbh rfl rfl ?_)|refine zaa ?_|refine zab ?_|refine zbm ?_|refine zaz ?_|refine zae ?_|refine zak ?_|(refine jaa (.call ⟨.value (.func 105), _, _⟩) ?_;((apply jag (fid := 105);(·(repeat(first|exact SeA.nil|apply SeA.cons (.c (.d _)))));(·exact q);(·rfl))))|(refine jaa (.call ⟨.value (.func 13), _, _⟩) ?_;((apply jag (fid := 13);(·(repeat(first|exact SeA.nil|(apply SeA.cons;(·(apply SeP.g;(repeat(first|exact SeL.nil|apply SeL.cons (.d _)))))))));(·exact p);(·rfl))))|refine jaj ?_|refine jak ?_|refine jai ?_|refine jab ?_|refine jbk rfl ?_|refine jbj rfl ?_)
 all_goals (apply jat;apply jau;(·apply jbc.t;(·(apply GvA.cons;(·exact .tmp _);(·exact GvP.c (.lit _)));(apply GvA.cons;(·exact .tmp _);(·exact GvP.c (.lit _)));exact GvA.nil);(·rfl);(·decide)))
 all_goals rfl
theorem asked13n (X Y : Nat) (wh : Int) (bll : List (List Int)) (pl : List Int) (E : Nat) (cc : List (List Int)) (ss nu : List Int) (co : Int) (hB : hallB X Y wh bll pl E cc ss nu co = true) (hx : ¬ (X = 2 ∧ Y = 2)) : PC Tryz.prog 65 [.g [dI X, dI Y, dI wh, eII bll, eI pl, dI E, eII cc, eI ss, eI nu, dI co], .c (dT [99, 111, 100, 101])] (.t [.c (dT []), .c (dB false)]) := by
 have hb := jfl hB
 have n2 := hb.n2;have l9 := hb.l9;have c10 := hb.c10;have p6 := hb.p6
 have p := jjk X Y wh bll hx
 have q := jlc []
 refine jaq Tryz.func65 rfl rfl rfl (by kernel_rfl) rfl rfl ?_;intro _
 repeat' (first|(refine jaa (.box 31 _) ?_;refine jbh rfl rfl ?_)|refine zaa ?_|refine zab ?_|refine zbm ?_|refine zaz ?_|refine zae ?_|refine zak ?_|(refine jaa (.call ⟨.value (.func 105), _, _⟩) ?_;((apply jag (fid := 105);(·(repeat(first|exact SeA.nil|apply SeA.cons (.c (.d _)))));(·exact q);(·rfl))))|(refine jaa (.call ⟨.value (.func 13), _, _⟩) ?_;((apply jag (fid := 13);(·(repeat(first|exact SeA.nil|(apply SeA.cons;(·(apply SeP.g;(repeat(first|exact SeL.nil|apply SeL.cons (.d _)))))))));(·exact p);(·rfl))))|refine jaj ?_|refine jak ?_|refine jai ?_|refine jab ?_|refine jbk rfl ?_|refine jbj rfl ?_)
 all_goals (apply jat;apply jau;(·apply jbc.t;(·(apply GvA.cons;(·exact .tmp _);(·exact GvP.c (.lit _)));(apply GvA.cons;(·exact .tmp _);(·exact GvP.c (.lit _)));exact GvA.nil);(·rfl);(·decide)))
 all_goals rfl
end Go.Proofs.YteaeoaeogehaaaaGreatDoor
namespace Go.Proofs.YteaeoaeogehaaaaGreatDoor
open Go.RowKit
variable [Glb]
def ixW (w : Tx) (l : List Tx) : Int := if wordJ w l < l.length then (wordJ w l : Int) else -1
theorem jmr {w : Tx} : ∀ {l : List Tx} {k : Nat} (h : k < l.length), w ∉ l.take k → w = l[k] → wordJ w l = k
 | x :: r, 0, _, _, e => by unfold wordJ;rw [if_pos (by simpa using e)]
 | x :: r, k + 1, h, hn, e => by
  rw [List.take_succ_cons, List.mem_cons, not_or] at hn
  unfold wordJ
  rw [if_neg hn.1, jmr (l := r) (k := k) (by simpa using h) hn.2 (by simpa using e)]
theorem slIndexW_p (l : List Tx) (x : Tx) (hl : l.length ≤ 1000) : PC Tryz.prog 102 [.c (eT l), .c (dT x)] (.p (.c (dI (ixW x l)))) := by
  refine jaq Tryz.func102 rfl rfl rfl (by kernel_rfl) rfl rfl ?_;intro _
  repeat' (first|refine zaa ?_|refine zab ?_|(refine jaa (.call ⟨.builtin .len, _, #[83]⟩) ?_;(refine jac (jbe rfl (by kernel_rfl)) rfl ?_))|refine jaj ?_|refine jak ?_|refine jai ?_|refine jab ?_)
  apply jay [0, 1, 7, 8] [] rfl;(·(repeat(first|exact Pf.nil|apply Pf.cons (.c rfl (.d rfl)))));(·(repeat(exact Pb.nil)))
  refine jbb [0, 1, 7] [] (fun k => [(8, iN k)]) (fun _ => []) (fun k => k ≤ l.length ∧ x ∉ l.take k) (fun k => l.length - k) (0) ?_ (by (repeat(first|exact trivial|refine ⟨(by rfl), ?_⟩))) (by (repeat(exact trivial))) ?_
  · simp
  rintro k ⟨hk, ht⟩
  by_cases h : k < l.length
  · by_cases he : x = l[k]
    · have e : ixW x l = (k : Int) := by unfold ixW;rw [jmr h ht he, if_pos h]
      have ea : x = atZ l (k : Int) := by rw [jbw h];exact he
      rw [e]
      repeat' (first|refine zaa ?_|refine zab ?_|refine zac ?_|refine zbu ?_|refine zbv ?_|refine zbm ?_|refine zad ?_|refine jaj ?_|refine jak ?_|refine jai ?_|refine jaz ?_|refine jar rfl ?_|refine jan ?_|refine jab ?_|refine jbi rfl (fun hc => ?_) (fun hc => ?_))
      all_goals first|(exfalso;omega)|contradiction|skip
      all_goals (apply jat;apply jau;(·apply jbc.p;(·(apply GvA.cons;(·exact .tmp _);(·exact GvP.c (.lit _)));exact GvA.nil);(·decide)))
      all_goals rfl
    · have hn : x ∉ l.take (k + 1) := by
        rw [List.take_succ_eq_append_getElem h, List.mem_append, List.mem_singleton, not_or]
        exact ⟨ht, he⟩
      have ea : x ≠ atZ l (k : Int) := by rw [jbw h];exact he
      repeat' (first|refine zaa ?_|refine zab ?_|refine zac ?_|refine zbu ?_|refine zbv ?_|refine zbm ?_|refine zad ?_|refine jaj ?_|refine jak ?_|refine jai ?_|refine jaz ?_|refine jar rfl ?_|refine jan ?_|refine jab ?_|refine jbi rfl (fun hc => ?_) (fun hc => ?_))
      all_goals first|(exfalso;omega)|contradiction|skip
      refine jba ?_;refine ⟨k + 1, ?_, ?_, jbx rfl (by (repeat(first|exact trivial|refine ⟨(by rfl), ?_⟩))) (by (repeat(first|exact trivial|refine ⟨rfl, ?_⟩))) (by (repeat(exact trivial))) (by (repeat(exact trivial)))⟩
      · exact ⟨by omega, hn⟩
      · omega
  · obtain rfl : k = l.length := by omega
    rw [List.take_length] at ht
    have e : ixW x l = -1 := by unfold ixW;rw [jmq ht, if_neg (by omega)]
    rw [e]
    repeat' (first|refine zaa ?_|refine zab ?_|refine zac ?_|refine zbu ?_|refine zbv ?_|refine zbm ?_|refine zad ?_|refine jaj ?_|refine jak ?_|refine jai ?_|refine jaz ?_|refine jar rfl ?_|refine jan ?_|refine jab ?_|refine jbi rfl (fun hc => ?_) (fun hc => ?_))
    all_goals first|(exfalso;omega)|skip
    all_goals (apply jat;apply jau;(·apply jbc.p;(·(apply GvA.cons;(·exact .tmp _);(·exact GvP.c (.lit _)));exact GvA.nil);(·decide)))
    all_goals rfl
theorem callOf_c (w : Tx) (ns : List Int) (k a : Int) (ok : Bool) (hl : ns.length ≤ 1000000) (h : callO w ns = if ok = true then some (k, a) else none) (hz : ok = false → k = 0 ∧ a = 0) : PC Tryz.prog 62 [.c (dT w), .c (eI ns)] (.t [.g [dI k, dI a], .c (dB ok)]) := by
 have e : ixW w callW + 1 = (kindN w : Int) := by
  unfold ixW kindN
  have : callW.length = 7 := rfl
  rw [this]
  split <;> omega
 have k7 : kindN w ≤ 7 := by unfold kindN;split <;> omega
 have ip := slIndexW_p callW w (by decide)
 have ix : ixW w callW = (kindN w : Int) - 1 := by omega
 rw [ix] at ip
 clear e ix
 unfold callO at h
 generalize kindN w = K at *
 by_cases h0 : K = 0
 ·rw [if_pos h0] at h
  cases ok with
  | true => cases h
  | false =>
   obtain ⟨rfl, rfl⟩ := hz rfl
   refine jaq Tryz.func62 rfl rfl rfl (by kernel_rfl) rfl rfl ?_;intro _
   repeat' (first|(refine jaa (.alloc 93) ?_;refine jav (zs := [.int .i64 0, .int .i64 0]) (by kernel_rfl) rfl ?_)|refine zaa ?_|(refine jaa (.buildSlice 83 7 _) ?_;(apply jao (sz := 1) (by_ := 16);(·kernel_rfl);(·decide);(·(repeat(first|exact GvS.nil _|apply GvS.c rfl rfl (.lit _) rfl)));(·decide);(·rfl);(·rfl);(·rfl)))|refine zab ?_|refine zad ?_|refine zai ?_|refine zag ?_|refine zas ?_|refine zca ?_|(refine jaa (.store 93 _ _) ?_;(refine jah rfl rfl rfl (by kernel_rfl) rfl rfl ?_))|refine zah ?_|refine zao ?_|refine zap ?_|(refine jaa (.call ⟨.value (.func 102), _, _⟩) ?_;(apply jag (fid := 102);(·(repeat(first|exact SeA.nil|apply SeA.cons (.c (.d _))|apply SeA.cons (.c (.all _ _ _ _ rfl (by ((simp;done))))))));(·exact ip);(·rfl)))|refine jaj ?_|refine jbn rfl rfl rfl rfl ?_|refine jbg rfl rfl rfl rfl ?_|refine jca rfl rfl (fun hg => ?_) (fun hg => ?_)|refine jcq rfl rfl (fun hg => ?_) (fun hg => ?_)|refine jak ?_|refine jai ?_|refine jaz ?_|refine jan ?_|refine jab ?_|refine jbj rfl ?_|refine jbi rfl (fun hc => ?_) (fun hc => ?_))
   all_goals first|(exfalso;omega)|(exfalso;simp_all;done)|skip
   all_goals (apply jat;apply jau;(·apply jbc.t;(·(apply GvA.cons;(·(apply RV.cellN (n := 2);(·rfl);(·rfl);(·kernel_rfl);(·rfl)));(·(apply GvP.g;(·(apply GvL.cons (.lit _));(apply GvL.cons (.lit _));exact GvL.nil))));(apply GvA.cons;(·exact .tmp _);(·exact GvP.c (.lit _)));exact GvA.nil);(·rfl);(·decide)))
   all_goals rfl
 ·rw [if_neg h0] at h
  by_cases h4 : K = 4 ∨ K = 5
  ·rw [if_pos h4] at h
   by_cases hn : ns.length = 0
   ·rw [if_pos hn] at h
    cases ok with
    | false => cases h
    | true =>
     simp only [if_true, Option.some.injEq, Prod.mk.injEq] at h
     obtain ⟨rfl, rfl⟩ := h
     refine jaq Tryz.func62 rfl rfl rfl (by kernel_rfl) rfl rfl ?_;intro _
     repeat' (first|(refine jaa (.alloc 93) ?_;refine jav (zs := [.int .i64 0, .int .i64 0]) (by kernel_rfl) rfl ?_)|refine zaa ?_|(refine jaa (.buildSlice 83 7 _) ?_;(apply jao (sz := 1) (by_ := 16);(·kernel_rfl);(·decide);(·(repeat(first|exact GvS.nil _|apply GvS.c rfl rfl (.lit _) rfl)));(·decide);(·rfl);(·rfl);(·rfl)))|refine zab ?_|refine zad ?_|refine zai ?_|refine zag ?_|refine zas ?_|refine zca ?_|(refine jaa (.store 93 _ _) ?_;(refine jah rfl rfl rfl (by kernel_rfl) rfl rfl ?_))|refine zah ?_|refine zao ?_|refine zap ?_|(refine jaa (.call ⟨.value (.func 102), _, _⟩) ?_;(apply jag (fid := 102);(·(repeat(first|exact SeA.nil|apply SeA.cons (.c (.d _))|apply SeA.cons (.c (.all _ _ _ _ rfl (by ((simp;done))))))));(·exact ip);(·rfl)))|refine jaj ?_|refine jbn rfl rfl rfl rfl ?_|refine jbg rfl rfl rfl rfl ?_|refine jca rfl rfl (fun hg => ?_) (fun hg => ?_)|refine jcq rfl rfl (fun hg => ?_) (fun hg => ?_)|refine jak ?_|refine jai ?_|refine jaz ?_|refine jan ?_|refine jab ?_|refine jbj rfl ?_|refine jbi rfl (fun hc => ?_) (fun hc => ?_))
     all_goals first|(exfalso;omega)|(exfalso;simp_all;done)|skip
     all_goals (apply jat;apply jau;(·apply jbc.t;(·(apply GvA.cons;(·(apply RV.cellN (n := 2);(·rfl);(·rfl);(·kernel_rfl);(·rfl)));(·(apply GvP.g;(·(apply GvL.cons (.lit _));(apply GvL.cons (.lit _));exact GvL.nil))));(apply GvA.cons;(·exact .tmp _);(·exact GvP.c (.lit _)));exact GvA.nil);(·rfl);(·decide)))
     all_goals simp
   ·rw [if_neg hn] at h
    cases ok with
    | true => cases h
    | false =>
     obtain ⟨rfl, rfl⟩ := hz rfl
     refine jaq Tryz.func62 rfl rfl rfl (by kernel_rfl) rfl rfl ?_;intro _
     repeat' (first|(refine jaa (.alloc 93) ?_;refine jav (zs := [.int .i64 0, .int .i64 0]) (by kernel_rfl) rfl ?_)|refine zaa ?_|(refine jaa (.buildSlice 83 7 _) ?_;(apply jao (sz := 1) (by_ := 16);(·kernel_rfl);(·decide);(·(repeat(first|exact GvS.nil _|apply GvS.c rfl rfl (.lit _) rfl)));(·decide);(·rfl);(·rfl);(·rfl)))|refine zab ?_|refine zad ?_|refine zai ?_|refine zag ?_|refine zas ?_|refine zca ?_|(refine jaa (.store 93 _ _) ?_;(refine jah rfl rfl rfl (by kernel_rfl) rfl rfl ?_))|refine zah ?_|refine zao ?_|refine zap ?_|(refine jaa (.call ⟨.value (.func 102), _, _⟩) ?_;(apply jag (fid := 102);(·(repeat(first|exact SeA.nil|apply SeA.cons (.c (.d _))|apply SeA.cons (.c (.all _ _ _ _ rfl (by ((simp;done))))))));(·exact ip);(·rfl)))|refine jaj ?_|refine jbn rfl rfl rfl rfl ?_|refine jbg rfl rfl rfl rfl ?_|refine jca rfl rfl (fun hg => ?_) (fun hg => ?_)|refine jcq rfl rfl (fun hg => ?_) (fun hg => ?_)|refine jak ?_|refine jai ?_|refine jaz ?_|refine jan ?_|refine jab ?_|refine jbj rfl ?_|refine jbi rfl (fun hc => ?_) (fun hc => ?_))
     all_goals first|(exfalso;omega)|(exfalso;simp_all;done)|skip
     all_goals (apply jat;apply jau;(·apply jbc.t;(·(apply GvA.cons;(·(apply RV.cellN (n := 2);(·rfl);(·rfl);(·kernel_rfl);(·rfl)));(·(apply GvP.g;(·(apply GvL.cons (.lit _));(apply GvL.cons (.lit _));exact GvL.nil))));(apply GvA.cons;(·exact .tmp _);(·exact GvP.c (.lit _)));exact GvA.nil);(·rfl);(·decide)))
     all_goals rfl
  ·rw [if_neg h4] at h
   by_cases hn : ns.length = 1
   ·rw [if_pos hn] at h
    cases ok with
    | false => cases h
    | true =>
     simp only [if_true, Option.some.injEq, Prod.mk.injEq] at h
     obtain ⟨rfl, rfl⟩ := h
     refine jaq Tryz.func62 rfl rfl rfl (by kernel_rfl) rfl rfl ?_;intro _
     repeat' (first|(refine jaa (.alloc 93) ?_;refine jav (zs := [.int .i64 0, .int .i64 0]) (by kernel_rfl) rfl ?_)|refine zaa ?_|(refine jaa (.buildSlice 83 7 _) ?_;(apply jao (sz := 1) (by_ := 16);(·kernel_rfl);(·decide);(·(repeat(first|exact GvS.nil _|apply GvS.c rfl rfl (.lit _) rfl)));(·decide);(·rfl);(·rfl);(·rfl)))|refine zab ?_|refine zad ?_|refine zai ?_|refine zag ?_|refine zas ?_|refine zca ?_|(refine jaa (.store 93 _ _) ?_;(refine jah rfl rfl rfl (by kernel_rfl) rfl rfl ?_))|refine zah ?_|refine zao ?_|refine zap ?_|(refine jaa (.call ⟨.value (.func 102), _, _⟩) ?_;(apply jag (fid := 102);(·(repeat(first|exact SeA.nil|apply SeA.cons (.c (.d _))|apply SeA.cons (.c (.all _ _ _ _ rfl (by ((simp;done))))))));(·exact ip);(·rfl)))|refine jaj ?_|refine jbn rfl rfl rfl rfl ?_|refine jbg rfl rfl rfl rfl ?_|refine jca rfl rfl (fun hg => ?_) (fun hg => ?_)|refine jcq rfl rfl (fun hg => ?_) (fun hg => ?_)|refine jak ?_|refine jai ?_|refine jaz ?_|refine jan ?_|refine jab ?_|refine jbj rfl ?_|refine jbi rfl (fun hc => ?_) (fun hc => ?_))
     all_goals first|(exfalso;omega)|(exfalso;simp_all;done)|skip
     all_goals (apply jat;apply jau;(·apply jbc.t;(·(apply GvA.cons;(·(apply RV.cellN (n := 2);(·rfl);(·rfl);(·kernel_rfl);(·rfl)));(·(apply GvP.g;(·(apply GvL.cons (.lit _));(apply GvL.cons (.lit _));exact GvL.nil))));(apply GvA.cons;(·exact .tmp _);(·exact GvP.c (.lit _)));exact GvA.nil);(·rfl);(·decide)))
     all_goals simp
   ·rw [if_neg hn] at h
    cases ok with
    | true => cases h
    | false =>
     obtain ⟨rfl, rfl⟩ := hz rfl
     refine jaq Tryz.func62 rfl rfl rfl (by kernel_rfl) rfl rfl ?_;intro _
     repeat' (first|(refine jaa (.alloc 93) ?_;refine jav (zs := [.int .i64 0, .int .i64 0]) (by kernel_rfl) rfl ?_)|refine zaa ?_|(refine jaa (.buildSlice 83 7 _) ?_;(apply jao (sz := 1) (by_ := 16);(·kernel_rfl);(·decide);(·(repeat(first|exact GvS.nil _|apply GvS.c rfl rfl (.lit _) rfl)));(·decide);(·rfl);(·rfl);(·rfl)))|refine zab ?_|refine zad ?_|refine zai ?_|refine zag ?_|refine zas ?_|refine zca ?_|(refine jaa (.store 93 _ _) ?_;(refine jah rfl rfl rfl (by kernel_rfl) rfl rfl ?_))|refine zah ?_|refine zao ?_|refine zap ?_|(refine jaa (.call ⟨.value (.func 102), _, _⟩) ?_;(apply jag (fid := 102);(·(repeat(first|exact SeA.nil|apply SeA.cons (.c (.d _))|apply SeA.cons (.c (.all _ _ _ _ rfl (by ((simp;done))))))));(·exact ip);(·rfl)))|refine jaj ?_|refine jbn rfl rfl rfl rfl ?_|refine jbg rfl rfl rfl rfl ?_|refine jca rfl rfl (fun hg => ?_) (fun hg => ?_)|refine jcq rfl rfl (fun hg => ?_) (fun hg => ?_)|refine jak ?_|refine jai ?_|refine jaz ?_|refine jan ?_|refine jab ?_|refine jbj rfl ?_|refine jbi rfl (fun hc => ?_) (fun hc => ?_))
     all_goals first|(exfalso;omega)|(exfalso;simp_all;done)|skip
     all_goals (apply jat;apply jau;(·apply jbc.t;(·(apply GvA.cons;(·(apply RV.cellN (n := 2);(·rfl);(·rfl);(·kernel_rfl);(·rfl)));(·(apply GvP.g;(·(apply GvL.cons (.lit _));(apply GvL.cons (.lit _));exact GvL.nil))));(apply GvA.cons;(·exact .tmp _);(·exact GvP.c (.lit _)));exact GvA.nil);(·rfl);(·decide)))
     all_goals rfl
end Go.Proofs.YteaeoaeogehaaaaGreatDoor
namespace Go.Proofs.YteaeoaeogehaaaaGreatDoor
open Go.RowKit
variable [Glb]
open Go.Shelf Go.Proofs
def Tryz.lays219_ren_stringslite_Index_one : Go.Shelf.Ren := ⟨fun | 219 => 173 | 217 => 210 | 225 => 211 | 224 => 212 | 267 => 213 | 266 => 229 | 314 => 230 | n => n, fun | 9 => 9 | 3 => 3 | 4 => 4 | 5 => 5 | 46 => 76 | 146 => 232 | 51 => 157 | n => n, fun | 1 => 0 | n => n⟩
theorem Tryz.lays219_stringslite_Index_one : Go.Proofs.Lays.n219 Tryz.prog Tryz.lays219_ren_stringslite_Index_one := {
 mixed := by kernel_rfl
 f217 := Tryz.func210.trans (congrArg some (by kernel_rfl))
 f219 := Tryz.func173.trans (congrArg some (by kernel_rfl))
 f224 := Tryz.func212.trans (congrArg some (by kernel_rfl))
 f225 := Tryz.func211.trans (congrArg some (by kernel_rfl))
 f266 := Tryz.func229.trans (congrArg some (by kernel_rfl))
 f267 := Tryz.func213.trans (congrArg some (by kernel_rfl))
 f314 := Tryz.func230.trans (congrArg some (by kernel_rfl))
 t3 := Tryz.underlying3
 a3 := Tryz.isAgg3
 z3 := Tryz.sizeOf3
 v3 := Tryz.zeroValue3
 t4 := Tryz.underlying4
 a4 := Tryz.isAgg4
 z4 := Tryz.sizeOf4
 v4 := Tryz.zeroValue4
 t5 := Tryz.underlying5
 a5 := Tryz.isAgg5
 z5 := Tryz.sizeOf5
 v5 := Tryz.zeroValue5
 t9 := Tryz.underlying9
 a9 := Tryz.isAgg9
 z9 := Tryz.sizeOf9
 v9 := Tryz.zeroValue9
 t46 := Tryz.underlying76
 a46 := Tryz.isAgg76
 z46 := Tryz.sizeOf76
 v46 := Tryz.zeroValue76
 t51 := Tryz.underlying157
 a51 := Tryz.isAgg157
 z51 := Tryz.sizeOf157
 v51 := Tryz.zeroValue157
 t146 := Tryz.underlying232
 a146 := Tryz.isAgg232
 z146 := Tryz.sizeOf232
 v146 := Tryz.zeroValue232
 g1 := by kernel_rfl }
open Go.RowKit Go.Lib in
theorem Tryz.stringslite_Index_one (s : ByteArray) (c : UInt8) (w : World) :
  Calls Tryz.prog 173 #[.string s, .string ⟨#[c]⟩] w fun e w' => e = .returned (.int .i64 (Lib.indexByte s.data.toList c)) ∧ w' = w := Any.stringslite_Index_one Tryz.lays219_stringslite_Index_one s c w
end Go.Proofs.YteaeoaeogehaaaaGreatDoor
namespace Go.Proofs.YteaeoaeogehaaaaGreatDoor
open Go.RowKit
variable [Glb]
theorem strIndex_p (s : Tx) (c : UInt8) : PC Tryz.prog 173 [.c (dT s), .c (dT [c])] (.p (.c (dI (Go.Lib.indexByte s c)))) :=
 jjw (Go.Proofs.enters_of Tryz.func173 (by kernel_rfl) rfl) rfl fun w _ => (Tryz.stringslite_Index_one (bsT s) c w).mono (by
  rintro e w' ⟨rfl, rfl⟩;rw [jea];exact ⟨rfl, .refl _ _⟩)
theorem cut_hit {s : Tx} {c : UInt8} (h : c ∈ s) : partZ s 0 ((bef c s).length : Int) = bef c s ∧ partZ s ((bef c s).length + 1) s.length = aft c s := by
 obtain ⟨e, -⟩ := jdl h
 have e2 := congrArg List.length e
 generalize bef c s = x at *
 generalize aft c s = y at *
 subst e
 simp only [List.length_append, List.length_cons] at e2
 constructor
 ·simp [partZ]
 ·have : ((x.length : Int) + 1).toNat = x.length + 1 := by omega
  have h2 : (x ++ c :: y).drop (x.length + 1) = y := by
   rw [show (x ++ c :: y) = (x ++ [c]) ++ y by simp];exact List.drop_left' (by simp)
  simp only [partZ, this]
  rw [h2, List.take_of_length_le]
  simp; omega
theorem cut0_p (s : Tx) (c : UInt8) : PC Tryz.prog 184 [.c (dT s), .c (dT [c])] (.t [.c (dT (bef c s)), .c (dT (aft c s)), .c (dB (s.contains c))]) := by
 refine jaq Tryz.func184 rfl rfl rfl (by kernel_rfl) rfl rfl ?_;rintro ⟨hl, hc, -⟩
 have hl := FitT hl
 have hc := FitT hc
 by_cases h : c ∈ s
 ·obtain ⟨e, -⟩ := jdl h
  have e2 := congrArg List.length e
  have e3 := jkf h
  obtain ⟨e4, e5⟩ := cut_hit h
  have e6 : s.contains c = true := by simp [h]
  simp only [List.length_append, List.length_cons] at e2
  clear e
  repeat' (first|refine zaa ?_|refine zab ?_|refine zbt ?_|(refine jaa (.slice 9 _ none (some _) none) ?_;(refine jac (jfz rfl rfl (by kernel_rfl) (by omega) (by omega)) rfl ?_))|refine zbc ?_|(refine jaa (.binOp .add 3 _ _ _) ?_;refine jac (jas rfl rfl (by ((simp at *;omega)))) rfl ?_)|(refine jaa (.slice 9 _ (some _) none none) ?_;(refine jac (jde rfl rfl (by kernel_rfl) (by omega) (by ((simp at *;omega)))) rfl ?_))|(refine jaa (.call ⟨.value (.func 173), _, _⟩) ?_;(apply jag (fid := 173);(·(repeat(first|exact SeA.nil|apply SeA.cons (.c (.d _)))));(·exact strIndex_p _ _);(·rfl)))|refine jaj ?_|refine jak ?_|refine jan ?_|refine jab ?_|refine jbd 3 (fun _ => false) (.step 0 true (.step 1 true (.step 2 true (.step 3 true (.step 4 true (.step 5 true (.step 6 true (.step 7 true (.step 8 true (.step 9 true (.step 10 true (.step 11 true .nil)))))))))))) [(0, 4095, 4095, true), (0, 4095, 4095, true), (3, 4092, 4095, true), (0, 4095, 4095, true), (0, 4095, 4095, true), (0, 4095, 4095, true), (32, 4063, 4095, true), (80, 4015, 4095, true), (136, 3959, 4095, true), (7, 4091, 4095, true), (1023, 3839, 4095, true), (2047, 4095, 4095, true)] (by kernel_rfl) (by kernel_rfl) ?_|refine jbi rfl (fun hc => ?_) (fun hc => ?_))
  all_goals first|(exfalso;omega)|skip
  all_goals (apply jat;apply jau;(·apply jbc.t;(·(apply GvA.cons;(·exact .tmp _);(·exact GvP.c (.lit _)));(apply GvA.cons;(·exact .tmp _);(·exact GvP.c (.lit _)));(apply GvA.cons;(·exact .tmp _);(·exact GvP.c (.lit _)));exact GvA.nil);(·rfl);(·decide)))
  all_goals rw [e3] at *
  all_goals simp [e4, e5, h]
 ·have e3 := jke h
  have e4 := jgo h
  have e5 := jnz h
  repeat' (first|refine zaa ?_|refine zab ?_|refine zbt ?_|(refine jaa (.slice 9 _ none (some _) none) ?_;(refine jac (jfz rfl rfl (by kernel_rfl) (by omega) (by omega)) rfl ?_))|refine zbc ?_|refine zad ?_|refine zce ?_|(refine jaa (.call ⟨.value (.func 173), _, _⟩) ?_;(apply jag (fid := 173);(·(repeat(first|exact SeA.nil|apply SeA.cons (.c (.d _)))));(·exact strIndex_p _ _);(·rfl)))|refine jaj ?_|refine jak ?_|refine jan ?_|refine jab ?_|refine jbd 3 (fun _ => false) (.step 0 true (.step 1 true (.step 2 true (.step 3 true (.step 4 true (.step 5 true (.step 6 true (.step 7 true (.step 8 true (.step 9 true (.step 10 true (.step 11 true .nil)))))))))))) [(0, 4095, 4095, true), (0, 4095, 4095, true), (3, 4092, 4095, true), (0, 4095, 4095, true), (0, 4095, 4095, true), (0, 4095, 4095, true), (32, 4063, 4095, true), (80, 4015, 4095, true), (136, 3959, 4095, true), (7, 4091, 4095, true), (1023, 3839, 4095, true), (2047, 4095, 4095, true)] (by kernel_rfl) (by kernel_rfl) ?_|refine jbi rfl (fun hc => ?_) (fun hc => ?_))
  all_goals first|(exfalso;omega)|skip
  all_goals (apply jat;apply jau;(·apply jbc.t;(·(apply GvA.cons;(·exact .tmp _);(·exact GvP.c (.lit _)));(apply GvA.cons;(·exact .tmp _);(·exact GvP.c (.lit _)));(apply GvA.cons;(·exact .tmp _);(·exact GvP.c (.lit _)));exact GvA.nil);(·rfl);(·decide)))
  all_goals simp [e4, e5, h]
  all_goals rfl
theorem cut_p (s : Tx) (c : UInt8) : PC Tryz.prog 141 [.c (dT s), .c (dT [c])] (.t [.c (dT (bef c s)), .c (dT (aft c s)), .c (dB (s.contains c))]) := by
 refine jaq Tryz.func141 rfl rfl rfl (by kernel_rfl) rfl rfl ?_;intro _
 repeat' (first|refine zaa ?_|refine zab ?_|refine zak ?_|(refine jaa (.call ⟨.value (.func 184), _, _⟩) ?_;(apply jag (fid := 184);(·(repeat(first|exact SeA.nil|apply SeA.cons (.c (.d _)))));(·exact cut0_p _ _);(·rfl)))|refine jaj ?_|refine jak ?_|refine jab ?_)
 (apply jat;apply jau;(·apply jbc.t;(·(apply GvA.cons;(·exact .tmp _);(·exact GvP.c (.lit _)));(apply GvA.cons;(·exact .tmp _);(·exact GvP.c (.lit _)));(apply GvA.cons;(·exact .tmp _);(·exact GvP.c (.lit _)));exact GvA.nil);(·rfl);(·decide)))
 rfl
end Go.Proofs.YteaeoaeogehaaaaGreatDoor
namespace Go.Proofs.YteaeoaeogehaaaaGreatDoor
open Go.RowKit
variable [Glb]
open Go.Shelf Go.Proofs
def Tryz.lays138_ren_strings_Count_one : Go.Shelf.Ren := ⟨fun | 138 => 146 | 195 => 189 | 218 => 191 | 143 => 130 | 219 => 173 | 217 => 210 | 225 => 211 | 224 => 212 | 267 => 213 | 266 => 229 | 314 => 230 | n => n, fun | 9 => 9 | 3 => 3 | 4 => 4 | 5 => 5 | 0 => 0 | 46 => 76 | 146 => 232 | 51 => 157 | n => n, fun | 1 => 0 | n => n⟩
theorem Tryz.lays138_strings_Count_one : Go.Proofs.Lays.n138 Tryz.prog Tryz.lays138_ren_strings_Count_one := {
 mixed := by kernel_rfl
 f138 := Tryz.func146.trans (congrArg some (by kernel_rfl))
 f143 := Tryz.func130.trans (congrArg some (by kernel_rfl))
 f195 := Tryz.func189.trans (congrArg some (by kernel_rfl))
 f217 := Tryz.func210.trans (congrArg some (by kernel_rfl))
 f218 := Tryz.func191.trans (congrArg some (by kernel_rfl))
 f219 := Tryz.func173.trans (congrArg some (by kernel_rfl))
 f224 := Tryz.func212.trans (congrArg some (by kernel_rfl))
 f225 := Tryz.func211.trans (congrArg some (by kernel_rfl))
 f266 := Tryz.func229.trans (congrArg some (by kernel_rfl))
 f267 := Tryz.func213.trans (congrArg some (by kernel_rfl))
 f314 := Tryz.func230.trans (congrArg some (by kernel_rfl))
 t0 := Tryz.underlying0
 a0 := Tryz.isAgg0
 z0 := Tryz.sizeOf0
 v0 := Tryz.zeroValue0
 t3 := Tryz.underlying3
 a3 := Tryz.isAgg3
 z3 := Tryz.sizeOf3
 v3 := Tryz.zeroValue3
 t4 := Tryz.underlying4
 a4 := Tryz.isAgg4
 z4 := Tryz.sizeOf4
 v4 := Tryz.zeroValue4
 t5 := Tryz.underlying5
 a5 := Tryz.isAgg5
 z5 := Tryz.sizeOf5
 v5 := Tryz.zeroValue5
 t9 := Tryz.underlying9
 a9 := Tryz.isAgg9
 z9 := Tryz.sizeOf9
 v9 := Tryz.zeroValue9
 t46 := Tryz.underlying76
 a46 := Tryz.isAgg76
 z46 := Tryz.sizeOf76
 v46 := Tryz.zeroValue76
 t51 := Tryz.underlying157
 a51 := Tryz.isAgg157
 z51 := Tryz.sizeOf157
 v51 := Tryz.zeroValue157
 t146 := Tryz.underlying232
 a146 := Tryz.isAgg232
 z146 := Tryz.sizeOf232
 v146 := Tryz.zeroValue232
 g1 := by kernel_rfl }
open Go.RowKit Go.Lib in
theorem Tryz.strings_Count_one (s : ByteArray) (c : UInt8) (w : World) :
  Calls Tryz.prog 146 #[.string s, .string ⟨#[c]⟩] w fun e w' => e = .returned (.int .i64 (Lib.countByte s.data.toList c)) ∧ w' = w := Any.strings_Count_one Tryz.lays138_strings_Count_one s c w
end Go.Proofs.YteaeoaeogehaaaaGreatDoor
namespace Go.Proofs.YteaeoaeogehaaaaGreatDoor
open Go.RowKit
variable [Glb]
theorem strCount_p (s : Tx) (c : UInt8) : PC Tryz.prog 146 [.c (dT s), .c (dT [c])] (.p (.c (dI ((s.count c : Nat) : Int)))) :=
 jjw (Go.Proofs.enters_of Tryz.func146 (by kernel_rfl) rfl) rfl fun w _ => (Tryz.strings_Count_one (bsT s) c w).mono (by
  rintro e w' ⟨rfl, rfl⟩;rw [jea];exact ⟨rfl, .refl _ _⟩)
theorem strIndex2_p (s : Tx) (c : UInt8) : PC Tryz.prog 130 [.c (dT s), .c (dT [c])] (.p (.c (dI (Go.Lib.indexByte s c)))) := by
 refine jaq Tryz.func130 rfl rfl rfl (by kernel_rfl) rfl rfl ?_;intro _
 repeat' (first|refine zaa ?_|refine zab ?_|(refine jaa (.call ⟨.value (.func 173), _, _⟩) ?_;(apply jag (fid := 173);(·(repeat(first|exact SeA.nil|apply SeA.cons (.c (.d _)))));(·exact strIndex_p _ _);(·rfl)))|refine jaj ?_|refine jak ?_|refine jab ?_)
 all_goals (apply jat;apply jau;(·apply jbc.p;(·(apply GvA.cons;(·exact .tmp _);(·exact GvP.c (.lit _)));exact GvA.nil);(·decide)))
 all_goals rfl
theorem jgr {b : UInt8} : ∀ {s : Tx}, b ∈ s → splitT b s = bef b s :: splitT b (aft b s)
 | [], h => by cases h
 | c :: s, h => by
  by_cases hc : c = b
  ·subst hc
   obtain ⟨t, e⟩ := jeb c s
   simp [splitT, bef, aft, e]
  ·have hs : b ∈ s := by rcases List.mem_cons.1 h with e|e;exact absurd e.symm hc;exact e
   have ih := jgr hs
   simp [splitT, bef, aft, hc, ih]
theorem jll {b : UInt8} {s : Tx} (h : b ∈ s) : s.count b = (aft b s).count b + 1 := by
 obtain ⟨e, hn⟩ := jdl h
 have := congrArg (List.count b) e
 rw [List.count_append, List.count_cons_self, List.count_eq_zero_of_not_mem hn] at this
 omega
theorem jkq (b : UInt8) : ∀ s : Tx, (splitT b s).length = s.count b + 1 := fun s => by
 induction hn : s.count b generalizing s with
 | zero =>
  have h : b ∉ s := List.count_eq_zero.1 hn
  have := (jiz b s).2 h
  have := jht b s
  have : 0 < (splitT b s).length := List.length_pos_iff.2 this
  omega
 | succ n ih =>
  have h : b ∈ s := List.count_pos_iff.1 (by omega)
  rw [jgr h, List.length_cons, ih (aft b s) (by have := jll h;omega)]
theorem aft_len {b : UInt8} {s : Tx} (h : b ∈ s) : (bef b s).length + 1 + (aft b s).length = s.length := by
 obtain ⟨e, -⟩ := jdl h
 have := congrArg List.length e
 rw [List.length_append, List.length_cons] at this
 omega
theorem genSplit_p (s : Tx) (b : UInt8) (hs : s.length ≤ 4000000) : PC Tryz.prog 100 [.c (dT s), .c (dT [b]), .c (dI 0), .c (dI (-1))] (.p (.c (eT (splitT b s)))) := by
 have hl := jkq b s
 have hn : s.count b ≤ s.length := List.count_le_length
 obtain ⟨N, hN⟩ : ∃ N, N = s.count b + 1 := ⟨_, rfl⟩
 have hmin : min ((s.count b : Int) + 1) ((s.length : Int) + 1) = (N : Int) := by omega
 have hlN : (splitT b s).length = N := by omega
 have e0 : List.replicate N (D.lit (Value.string ByteArray.empty)) = (fillL (splitT b s) [] 0).map dT := by rw [jot, hlN, List.map_replicate];rfl
 refine jaq Tryz.func100 rfl rfl rfl (by kernel_rfl) rfl rfl ?_;intro _
 repeat' (first|refine zaa ?_|refine zab ?_|refine zai ?_|refine zbm ?_|refine zac ?_|refine zad ?_|refine zbc ?_|(refine jaa (.call ⟨.builtin .min, _, #[3, 3]⟩) ?_;refine jac (qt_min rfl rfl) rfl ?_)|(refine jaa (.makeSlice 83 _ _) ?_;(refine jes (by_ := 16) (z := .string ByteArray.empty) (y := .lit (.string ByteArray.empty)) rfl rfl (by kernel_rfl) (by kernel_rfl) rfl (fun _ => .lit _ rfl) (by omega) (by omega) (by omega) rfl ?_))|refine zan ?_|(refine jaa (.call ⟨.value (.func 146), _, _⟩) ?_;(apply jag (fid := 146);(·(repeat(first|exact SeA.nil|apply SeA.cons (.c (.d _)))));(·exact strCount_p s b);(·rfl)))|refine jaj ?_|refine jak ?_|refine jai ?_|refine jan ?_|refine jab ?_|refine jbk rfl ?_|refine jbj rfl ?_)
 all_goals first|(exfalso;omega)|(exfalso;simp_all;done)|skip
 rw [hmin, Int.toNat_natCast, e0]
 apply jay [0, 1, 2, 3, 9, 10] [18, 31] rfl;(·(repeat(first|exact Pf.nil|apply Pf.cons (.c rfl (.d rfl))|apply Pf.cons (.c rfl (.ls rfl)))));(·(repeat(first|exact Pb.nil|apply Pb.cons (.row rfl)|apply Pb.skip)))
 refine jbb [1, 2, 3, 9] [18] (fun (g : Nat × Tx) => [(10, iN g.1), (0, .c (.d (dT g.2)))]) (fun g => [(31, .row 1 ((fillL (splitT b s) [] g.1).map dT))]) (fun g => g.1 + 1 ≤ N ∧ (splitT b s).drop g.1 = splitT b g.2 ∧ g.2.length ≤ s.length ∧ g.2.count b + g.1 + 1 = N) (fun g => N - g.1) ((0, s)) ?_ (by (repeat(first|exact trivial|refine ⟨(by rfl), ?_⟩))) (by (repeat(first|exact trivial|refine ⟨(by ((refine jbm rfl ?_;simp;done))), ?_⟩))) ?_
 ·exact ⟨by dsimp only;omega, by simp, by simp, by dsimp only;omega⟩
 rintro ⟨i, r⟩ ⟨hi, hd, hr, hc⟩
 dsimp only at hi hd hr hc ⊢
 have hat : (splitT b s)[i]'(by omega) = (splitT b r)[0]'(List.length_pos_iff.2 (jht b r)) := by
  have h0 : (splitT b s)[i]? = ((splitT b s).drop i)[0]? := by rw [List.getElem?_drop];rfl
  rw [hd, List.getElem?_eq_getElem (by omega), List.getElem?_eq_getElem (List.length_pos_iff.2 (jht b r))] at h0
  exact Option.some.inj h0
 by_cases h : i + 1 < N
 ·have hm : b ∈ r := List.count_pos_iff.1 (by omega)
  have ix := jkf hm
  have al := aft_len hm
  have ch := jll hm
  obtain ⟨c1, c2⟩ := cut_hit hm
  have sc := jgr hm
  have hat2 : (splitT b s)[i]'(by omega) = bef b r := by rw [hat];simp [sc]
  have hd2 : (splitT b s).drop (i + 1) = splitT b (aft b r) := by rw [← List.drop_drop, hd, sc];rfl
  have e1 : ((fillL (splitT b s) [] i).map dT).set i (dT (bef b r)) = (fillL (splitT b s) [] (i + 1)).map dT := by
   have := jlk (l := splitT b s) (k := i) [] (by omega)
   rw [hat2] at this
   rw [← this, List.map_set]
  have c3 : partZ r 0 (((bef b r).length : Int) + 0) = bef b r := by rw [Int.add_zero];exact c1
  have c4 : partZ r (((bef b r).length : Int) + (([b] : Tx).length : Int)) r.length = aft b r := c2
  clear hat
  have cI := strIndex2_p r b
  rw [ix] at cI
  repeat' (first|refine zaa ?_|refine zab ?_|refine zac ?_|(refine jaa (.binOp .add 3 _ _ _) ?_;refine jac (jas rfl rfl (by (first|omega|(simp at *;omega)))) rfl ?_)|refine zbc ?_|(refine jaa (.slice 9 _ none (some _) none) ?_;(refine jac (jfz rfl rfl (by kernel_rfl) (by omega) (by omega)) rfl ?_))|(refine jaa (.indexAddr 83 _ _) ?_;(refine jac (jch rfl rfl (by kernel_rfl : tSl _ 83 1 = true) (by omega) (by omega)) rfl ?_))|(refine jaa (.store 9 _ _) ?_;((refine jcl rfl rfl rfl rfl (.lit _) (by simp) (by simp) (by kernel_rfl) (by (first|omega|(simp only [List.length_map, List.length_append, List.length_replicate, fillL_len, rowF_len, gridF_len, mkI_len, mkII_len, jdb] at *;omega))) rfl ?_;simp only [St.drop])))|(refine jaa (.slice 9 _ (some _) none none) ?_;(refine jac (jde rfl rfl (by kernel_rfl) (by omega) (by ((simp at *;omega)))) rfl ?_))|(refine jaa (.slice 83 _ none (some _) none) ?_;(refine jac (jdq rfl rfl (by kernel_rfl) (by omega) (by omega)) rfl ?_))|(refine jaa (.call ⟨.value (.func 130), _, _⟩) ?_;(apply jag (fid := 130);(·(repeat(first|exact SeA.nil|apply SeA.cons (.c (.d _)))));(·exact cI);(·rfl)))|refine jaj ?_|refine jak ?_|refine jai ?_|refine jaz ?_|refine jar rfl ?_|refine jan ?_|refine jab ?_|refine jbj rfl ?_|refine jbi rfl (fun hc => ?_) (fun hc => ?_))
  all_goals first|(exfalso;omega)|skip
  refine jba ?_;refine ⟨(i + 1, aft b r), ?_, ?_, jbx rfl (by (repeat(first|exact trivial|refine ⟨(by (first|rfl|(refine str_eq rfl ?_;((simp  [c1, c2, e1];done))))), ?_⟩))) (by (repeat(first|exact trivial|refine ⟨rfl, ?_⟩))) (by (repeat(first|exact trivial|refine ⟨(by ((refine jbm rfl ?_;simp  [c1, c2, e1];done))), ?_⟩))) (by (repeat(first|exact trivial|refine ⟨.inr rfl, ?_⟩)))⟩
  ·exact ⟨by dsimp only;omega, hd2, by dsimp only;omega, by dsimp only;omega⟩
  ·dsimp only; omega
 ·have hz : i + 1 = N := by omega
  have hm : b ∉ r := List.count_eq_zero.1 (by omega)
  have hat2 : (splitT b s)[i]'(by omega) = r := by
   rw [hat]
   obtain ⟨t, e⟩ := jeb b r
   have := jgo hm
   simp [e, this]
  have hf : (fillL (splitT b s) [] i).set i r = splitT b s := by
   have := jlk (l := splitT b s) (k := i) [] (by omega)
   rw [hat2] at this
   rw [this, show i + 1 = (splitT b s).length by omega, fillL_all]
  have e1 : ((fillL (splitT b s) [] i).map dT).set i (dT r) = (splitT b s).map dT := by
   by_cases hq : True
   ·have := congrArg (List.map dT) hf
    rwa [List.map_set] at this
   ·exact absurd trivial hq
  clear hat
  repeat' (first|refine zaa ?_|refine zab ?_|refine zac ?_|refine zad ?_|(refine jaa (.indexAddr 83 _ _) ?_;(refine jac (jch rfl rfl (by kernel_rfl : tSl _ 83 1 = true) (by omega) (by omega)) rfl ?_))|(refine jaa (.store 9 _ _) ?_;((refine jcl rfl rfl rfl rfl (.lit _) (by simp) (by simp) (by kernel_rfl) (by ((simp only [List.length_map, List.length_append, List.length_replicate, fillL_len, rowF_len, gridF_len, mkI_len, mkII_len, jdb] at *;omega))) rfl ?_;simp only [St.drop])))|(refine jaa (.slice 83 _ none (some _) none) ?_;(refine jac (jdq rfl rfl (by kernel_rfl) (by omega) (by omega)) rfl ?_))|refine jaj ?_|refine jak ?_|refine jai ?_|refine jar rfl ?_|refine jan ?_|refine jab ?_|refine jbi rfl (fun hc => ?_) (fun hc => ?_))
  all_goals first|(exfalso;omega)|skip
  all_goals (apply jat;apply jau;(·apply jbc.p;(·(apply GvA.cons;(·exact .tmp _);(·(exact GvP.c (.row _ _ _ _ rfl (by ((simp;omega)))))));exact GvA.nil);(·decide)))
  all_goals rw [show 0 + (i : Int).toNat * 1 = i by omega, show ((i : Int) + 1).toNat = (splitT b s).length by omega]
  all_goals exact congrArg (fun z => Res.p (RP.c (D.sl 1 (splitT b s).length z))) e1
theorem split_p (s : Tx) (b : UInt8) (hs : s.length ≤ 4000000) : PC Tryz.prog 60 [.c (dT s), .c (dT [b])] (.p (.c (eT (splitT b s)))) := by
 refine jaq Tryz.func60 rfl rfl rfl (by kernel_rfl) rfl rfl ?_;intro _
 repeat' (first|refine zaa ?_|refine zab ?_|(refine jaa (.call ⟨.value (.func 100), _, _⟩) ?_;(apply jbq (fid := 100);(·(repeat(first|exact SeA.nil|apply SeA.cons (.c (.d _)))));(·exact genSplit_p s b hs);(·rfl);(·rfl)))|refine jaj ?_|refine jak ?_|refine jab ?_)
 all_goals (apply jat;apply jau;(·apply jbc.p;(·(apply GvA.cons;(·exact .tmp _);(·(exact GvP.c (.row _ _ _ _ rfl (by ((simp;done)))))));exact GvA.nil);(·decide)))
 all_goals rfl
end Go.Proofs.YteaeoaeogehaaaaGreatDoor
namespace Go.Proofs.YteaeoaeogehaaaaGreatDoor
open Go.RowKit
variable [Glb]
open Go.Shelf Go.Proofs
def Tryz.lays144_ren_strings_Contains_one : Go.Shelf.Ren := ⟨fun | 144 => 82 | 143 => 130 | 219 => 173 | 217 => 210 | 225 => 211 | 224 => 212 | 267 => 213 | 266 => 229 | 314 => 230 | n => n, fun | 9 => 9 | 4 => 4 | 3 => 3 | 5 => 5 | 46 => 76 | 146 => 232 | 51 => 157 | n => n, fun | 1 => 0 | n => n⟩
theorem Tryz.lays144_strings_Contains_one : Go.Proofs.Lays.n144 Tryz.prog Tryz.lays144_ren_strings_Contains_one := {
 mixed := by kernel_rfl
 f143 := Tryz.func130.trans (congrArg some (by kernel_rfl))
 f144 := Tryz.func82.trans (congrArg some (by kernel_rfl))
 f217 := Tryz.func210.trans (congrArg some (by kernel_rfl))
 f219 := Tryz.func173.trans (congrArg some (by kernel_rfl))
 f224 := Tryz.func212.trans (congrArg some (by kernel_rfl))
 f225 := Tryz.func211.trans (congrArg some (by kernel_rfl))
 f266 := Tryz.func229.trans (congrArg some (by kernel_rfl))
 f267 := Tryz.func213.trans (congrArg some (by kernel_rfl))
 f314 := Tryz.func230.trans (congrArg some (by kernel_rfl))
 t3 := Tryz.underlying3
 a3 := Tryz.isAgg3
 z3 := Tryz.sizeOf3
 v3 := Tryz.zeroValue3
 t4 := Tryz.underlying4
 a4 := Tryz.isAgg4
 z4 := Tryz.sizeOf4
 v4 := Tryz.zeroValue4
 t5 := Tryz.underlying5
 a5 := Tryz.isAgg5
 z5 := Tryz.sizeOf5
 v5 := Tryz.zeroValue5
 t9 := Tryz.underlying9
 a9 := Tryz.isAgg9
 z9 := Tryz.sizeOf9
 v9 := Tryz.zeroValue9
 t46 := Tryz.underlying76
 a46 := Tryz.isAgg76
 z46 := Tryz.sizeOf76
 v46 := Tryz.zeroValue76
 t51 := Tryz.underlying157
 a51 := Tryz.isAgg157
 z51 := Tryz.sizeOf157
 v51 := Tryz.zeroValue157
 t146 := Tryz.underlying232
 a146 := Tryz.isAgg232
 z146 := Tryz.sizeOf232
 v146 := Tryz.zeroValue232
 g1 := by kernel_rfl }
open Go.RowKit Go.Lib in
theorem Tryz.strings_Contains_one (s : ByteArray) (c : UInt8) (w : World) :
  Calls Tryz.prog 82 #[.string s, .string ⟨#[c]⟩] w fun e w' => e = .returned (.bool (decide (0 ≤ Lib.indexByte s.data.toList c))) ∧ w' = w := Any.strings_Contains_one Tryz.lays144_strings_Contains_one s c w
end Go.Proofs.YteaeoaeogehaaaaGreatDoor
namespace Go.Proofs.YteaeoaeogehaaaaGreatDoor
open Go.RowKit
variable [Glb]
theorem strContains_p (s : Tx) (c : UInt8) : PC Tryz.prog 82 [.c (dT s), .c (dT [c])] (.p (.c (dB (s.contains c)))) :=
 jjw (Go.Proofs.enters_of Tryz.func82 (by kernel_rfl) rfl) rfl fun w _ => (Tryz.strings_Contains_one (bsT s) c w).mono (by
  rintro e w' ⟨rfl, rfl⟩;rw [jea, ixB_has];exact ⟨rfl, .refl _ _⟩)
theorem checksum_p (s : Tx) : PC Tryz.prog 161 [.c (dT s)] (.p (.c (dI (sumN s)))) := by
 refine jaq Tryz.func161 rfl rfl rfl (by kernel_rfl) rfl rfl ?_;rintro ⟨hl, -⟩
 have hl := FitT hl
 repeat' (first|refine zaa ?_|refine zab ?_|refine zbc ?_|refine jaj ?_|refine jak ?_|refine jai ?_|refine jab ?_)
 apply jay [0, 3, 6, 7] [] rfl;(·(repeat(first|exact Pf.nil|apply Pf.cons (.c rfl (.d rfl)))));(·(repeat(exact Pb.nil)))
 refine jbb [0, 6] [] (fun k => [(3, iN (sumN (s.take k))), (7, iN k)]) (fun _ => []) (fun k => k ≤ s.length) (fun k => s.length - k) (0) ?_ (by (repeat(first|exact trivial|refine ⟨(by rfl), ?_⟩))) (by (repeat(exact trivial))) ?_
 ·simp
 rintro k hk
 have h0 := jls (s.take k)
 have hb := byt_lt s k
 by_cases h : k < s.length
 ·have e : ((41 * (sumN (s.take k) : Int) + byt s k + 1) % 999979) = (sumN (s.take (k + 1)) : Int) := by rw [sumN_take h, jmi h];omega
  repeat' (first|refine zaa ?_|refine zab ?_|refine zac ?_|refine zba ?_|refine zcn ?_|(refine jaa (.convert 5 3 _) ?_;(refine jac (jew (k' := .i64) rfl (by kernel_rfl) (by kernel_rfl) (by (exact IntWalk.i64_in _ (by omega)))) rfl ?_))|refine zad ?_|refine zcg ?_|refine jaj ?_|refine jak ?_|refine jai ?_|refine jaz ?_|refine jar rfl ?_|refine jan ?_|refine jab ?_|refine jbi rfl (fun hc => ?_) (fun hc => ?_))
  all_goals first|(exfalso;omega)|skip
  refine jba ?_;refine ⟨k + 1, ?_, ?_, jbx rfl (by (repeat(first|exact trivial|refine ⟨(by (first|rfl|(refine jdr rfl ?_;(omega)))), ?_⟩))) (by (repeat(first|exact trivial|refine ⟨rfl, ?_⟩))) (by (repeat(exact trivial))) (by (repeat(exact trivial)))⟩
  ·omega
  ·omega
 ·repeat' (first|refine zaa ?_|refine zab ?_|refine zac ?_|refine zba ?_|refine zcn ?_|(refine jaa (.convert 5 3 _) ?_;(refine jac (jew (k' := .i64) rfl (by kernel_rfl) (by kernel_rfl) (by (exact IntWalk.i64_in _ (by omega)))) rfl ?_))|refine zad ?_|refine zcg ?_|refine jaj ?_|refine jak ?_|refine jai ?_|refine jaz ?_|refine jar rfl ?_|refine jan ?_|refine jab ?_|refine jbi rfl (fun hc => ?_) (fun hc => ?_))
  all_goals first|(exfalso;omega)|skip
  have : k = s.length := by omega
  subst this
  (apply jat;apply jau;(·apply jbc.p;(·(apply GvA.cons;(·exact .tmp _);(·exact GvP.c (.lit _)));exact GvA.nil);(·decide)))
  simp
end Go.Proofs.YteaeoaeogehaaaaGreatDoor
namespace Go.Proofs.YteaeoaeogehaaaaGreatDoor
open Go.RowKit
variable [Glb]
variable [GTab Tryz.prog tabNm]
def acOK (s : Tx) : Bool := decide (s.length ≤ 4000) && !s.contains 35 && decide ((sealT s).length ≤ 4000)
def acT (s : Tx) : Tx := if acOK s = true then sealT s else []
theorem AppendChecksum_p (s : Tx) : PC Tryz.prog 115 [.c (dT s)] (.t [.c (dT (acT s)), .c (dB (acOK s))]) := by
 have h0 := jls s
 have h1 := (numS s).2
 refine jaq Tryz.func115 rfl rfl rfl (by kernel_rfl) rfl rfl ?_;intro _
 by_cases hk : s.length ≤ 4000
 ·by_cases hc : 35 ∈ s
  ·have e : acOK s = false := by simp [acOK, hc]
   repeat' (first|refine zaa ?_|refine zab ?_|refine zbc ?_|refine zat ?_|refine zag ?_|refine zbw ?_|(refine jaa (.call ⟨.value (.func 82), _, _⟩) ?_;(apply jag (fid := 82);(·(repeat(first|exact SeA.nil|apply SeA.cons (.c (.d _)))));(·exact strContains_p _ 35);(·rfl)))|(refine jaa (.call ⟨.value (.func 161), _, _⟩) ?_;(apply jag (fid := 161);(·(repeat(first|exact SeA.nil|apply SeA.cons (.c (.d _)))));(·exact checksum_p _);(·rfl)))|(refine jaa (.call ⟨.value (.func 79), _, _⟩) ?_;(apply jag (fid := 79);(·(repeat(first|exact SeA.nil|apply SeA.cons (.c (.d _)))));(·exact itoa_p _ (by omega));(·rfl)))|refine jaj ?_|refine jbn rfl rfl rfl rfl ?_|refine jbg rfl rfl rfl rfl ?_|refine jca rfl rfl (fun hg => ?_) (fun hg => ?_)|refine jak ?_|refine jan ?_|refine jab ?_|refine jbk rfl ?_|refine jbi rfl (fun hc => ?_) (fun hc => ?_)|refine jcz rfl (fun hc => ?_) (fun hc => ?_))
   all_goals first|(exfalso;simp_all;done)|(exfalso;omega)|skip
   all_goals (apply jat;apply jau;(·apply jbc.t;(·(apply GvA.cons;(·exact .tmp _);(·exact GvP.c (.lit _)));(apply GvA.cons;(·exact .tmp _);(·exact GvP.c (.lit _)));exact GvA.nil);(·rfl);(·decide)))
   all_goals simp [acT, e, jil]
  ·by_cases hs : (sealT s).length ≤ 4000
   ·have e : acOK s = true := by simp [acOK, hc, hk, hs]
    repeat' (first|refine zaa ?_|refine zab ?_|refine zbc ?_|refine zat ?_|refine zag ?_|refine zbw ?_|(refine jaa (.call ⟨.value (.func 82), _, _⟩) ?_;(apply jag (fid := 82);(·(repeat(first|exact SeA.nil|apply SeA.cons (.c (.d _)))));(·exact strContains_p _ 35);(·rfl)))|(refine jaa (.call ⟨.value (.func 161), _, _⟩) ?_;(apply jag (fid := 161);(·(repeat(first|exact SeA.nil|apply SeA.cons (.c (.d _)))));(·exact checksum_p _);(·rfl)))|(refine jaa (.call ⟨.value (.func 79), _, _⟩) ?_;(apply jag (fid := 79);(·(repeat(first|exact SeA.nil|apply SeA.cons (.c (.d _)))));(·exact itoa_p _ (by omega));(·rfl)))|refine jaj ?_|refine jbn rfl rfl rfl rfl ?_|refine jbg rfl rfl rfl rfl ?_|refine jca rfl rfl (fun hg => ?_) (fun hg => ?_)|refine jak ?_|refine jan ?_|refine jab ?_|refine jbk rfl ?_|refine jbi rfl (fun hc => ?_) (fun hc => ?_)|refine jcz rfl (fun hc => ?_) (fun hc => ?_))
    all_goals first|(exfalso;simp_all;done)|(exfalso;simp_all [sealT];omega)|skip
    all_goals (apply jat;apply jau;(·apply jbc.t;(·(apply GvA.cons;(·exact .tmp _);(·exact GvP.c (.lit _)));(apply GvA.cons;(·exact .tmp _);(·exact GvP.c (.lit _)));exact GvA.nil);(·rfl);(·decide)))
    all_goals simp [acT, e, sealT]
   ·have e : acOK s = false := by simp [acOK, hs]
    repeat' (first|refine zaa ?_|refine zab ?_|refine zbc ?_|refine zat ?_|refine zag ?_|refine zbw ?_|(refine jaa (.call ⟨.value (.func 82), _, _⟩) ?_;(apply jag (fid := 82);(·(repeat(first|exact SeA.nil|apply SeA.cons (.c (.d _)))));(·exact strContains_p _ 35);(·rfl)))|(refine jaa (.call ⟨.value (.func 161), _, _⟩) ?_;(apply jag (fid := 161);(·(repeat(first|exact SeA.nil|apply SeA.cons (.c (.d _)))));(·exact checksum_p _);(·rfl)))|(refine jaa (.call ⟨.value (.func 79), _, _⟩) ?_;(apply jag (fid := 79);(·(repeat(first|exact SeA.nil|apply SeA.cons (.c (.d _)))));(·exact itoa_p _ (by omega));(·rfl)))|refine jaj ?_|refine jbn rfl rfl rfl rfl ?_|refine jbg rfl rfl rfl rfl ?_|refine jca rfl rfl (fun hg => ?_) (fun hg => ?_)|refine jak ?_|refine jan ?_|refine jab ?_|refine jbk rfl ?_|refine jbi rfl (fun hc => ?_) (fun hc => ?_)|refine jcz rfl (fun hc => ?_) (fun hc => ?_))
    all_goals first|(exfalso;simp_all;done)|(exfalso;simp [sealT] at *;omega)|skip
    all_goals (apply jat;apply jau;(·apply jbc.t;(·(apply GvA.cons;(·exact .tmp _);(·exact GvP.c (.lit _)));(apply GvA.cons;(·exact .tmp _);(·exact GvP.c (.lit _)));exact GvA.nil);(·rfl);(·decide)))
    all_goals simp [acT, e, jil]
 ·have e : acOK s = false := by simp [acOK, hk]
  repeat' (first|refine zaa ?_|refine zab ?_|refine zbc ?_|refine zat ?_|refine zag ?_|refine jaj ?_|refine jbn rfl rfl rfl rfl ?_|refine jbg rfl rfl rfl rfl ?_|refine jca rfl rfl (fun hg => ?_) (fun hg => ?_)|refine jak ?_|refine jab ?_|refine jbk rfl ?_)
  all_goals first|(exfalso;simp_all;done)|(exfalso;omega)|skip
  all_goals (apply jat;apply jau;(·apply jbc.t;(·(apply GvA.cons;(·exact .tmp _);(·exact GvP.c (.lit _)));(apply GvA.cons;(·exact .tmp _);(·exact GvP.c (.lit _)));exact GvA.nil);(·rfl);(·decide)))
  all_goals simp [acT, e, jil]
def vcOK (l : Tx) : Bool := acOK (bef 35 l) && decide (acT (bef 35 l) = l)
def vcT (l : Tx) : Tx := if vcOK l = true then bef 35 l else []
theorem VerifyChecksum_p (l : Tx) : PC Tryz.prog 142 [.c (dT l)] (.t [.c (dT (vcT l)), .c (dB (vcOK l))]) := by
 refine jaq Tryz.func142 rfl rfl rfl (by kernel_rfl) rfl rfl ?_;intro _
 repeat' (first|refine zaa ?_|(refine jaa (.move _) ?_;(first|refine jac (jal rfl) rfl ?_|refine jac (jcg rfl) rfl ?_))|refine zak ?_|refine zah ?_|refine zcq (jhz rfl rfl) ?_|refine zag ?_|(refine jaa (.call ⟨.value (.func 141), _, _⟩) ?_;(apply jag (fid := 141);(·(repeat(first|exact SeA.nil|apply SeA.cons (.c (.d _)))));(·exact cut_p _ 35);(·rfl)))|(refine jaa (.call ⟨.value (.func 115), _, _⟩) ?_;(apply jag (fid := 115);(·(repeat(first|exact SeA.nil|apply SeA.cons (.c (.d _)))));(·exact AppendChecksum_p _);(·rfl)))|refine jaj ?_|refine jbn rfl rfl rfl rfl ?_|refine jbg rfl rfl rfl rfl ?_|refine jcq rfl rfl (fun hg => ?_) (fun hg => ?_)|refine jak ?_|refine jan ?_|refine jab ?_|refine jbk rfl ?_|refine jbi rfl (fun hc => ?_) (fun hc => ?_))
 all_goals (apply jat;apply jau;(·apply jbc.t;(·(apply GvA.cons;(·exact .tmp _);(·exact GvP.c (.lit _)));(apply GvA.cons;(·exact .tmp _);(·exact GvP.c (.lit _)));exact GvA.nil);(·rfl);(·decide)))
 all_goals simp_all [vcT, vcOK, jil]
end Go.Proofs.YteaeoaeogehaaaaGreatDoor
namespace Go.Proofs.YteaeoaeogehaaaaGreatDoor
open Go.RowKit
variable [Glb]
open Go.Shelf Go.Proofs
def Tryz.lays150_ren_strings_ContainsAny_laid : Go.Shelf.Ren := ⟨fun | 150 => 99 | 153 => 144 | 152 => 185 | 226 => 186 | 227 => 187 | 228 => 188 | 137 => 216 | 119 => 217 | 224 => 212 | 225 => 211 | 217 => 210 | 266 => 229 | n => n, fun | 9 => 9 | 4 => 4 | 3 => 3 | 5 => 5 | 21 => 21 | 117 => 200 | 116 => 199 | 0 => 0 | 46 => 76 | 124 => 222 | n => n, fun | n => n⟩
theorem Tryz.lays150_strings_ContainsAny_laid : Go.Proofs.Lays.n150 Tryz.prog Tryz.lays150_ren_strings_ContainsAny_laid := {
 mixed := by kernel_rfl
 f119 := Tryz.func217.trans (congrArg some (by kernel_rfl))
 f137 := Tryz.func216.trans (congrArg some (by kernel_rfl))
 f150 := Tryz.func99.trans (congrArg some (by kernel_rfl))
 f152 := Tryz.func185.trans (congrArg some (by kernel_rfl))
 f153 := Tryz.func144.trans (congrArg some (by kernel_rfl))
 f217 := Tryz.func210.trans (congrArg some (by kernel_rfl))
 f224 := Tryz.func212.trans (congrArg some (by kernel_rfl))
 f225 := Tryz.func211.trans (congrArg some (by kernel_rfl))
 f226 := Tryz.func186.trans (congrArg some (by kernel_rfl))
 f227 := Tryz.func187.trans (congrArg some (by kernel_rfl))
 f228 := Tryz.func188.trans (congrArg some (by kernel_rfl))
 f266 := Tryz.func229.trans (congrArg some (by kernel_rfl))
 t0 := Tryz.underlying0
 a0 := Tryz.isAgg0
 z0 := Tryz.sizeOf0
 v0 := Tryz.zeroValue0
 t3 := Tryz.underlying3
 a3 := Tryz.isAgg3
 z3 := Tryz.sizeOf3
 v3 := Tryz.zeroValue3
 t4 := Tryz.underlying4
 a4 := Tryz.isAgg4
 z4 := Tryz.sizeOf4
 v4 := Tryz.zeroValue4
 t5 := Tryz.underlying5
 a5 := Tryz.isAgg5
 z5 := Tryz.sizeOf5
 v5 := Tryz.zeroValue5
 t9 := Tryz.underlying9
 a9 := Tryz.isAgg9
 z9 := Tryz.sizeOf9
 v9 := Tryz.zeroValue9
 t21 := Tryz.underlying21
 a21 := Tryz.isAgg21
 z21 := Tryz.sizeOf21
 v21 := Tryz.zeroValue21
 t46 := Tryz.underlying76
 a46 := Tryz.isAgg76
 z46 := Tryz.sizeOf76
 v46 := Tryz.zeroValue76
 t116 := Tryz.underlying199
 a116 := Tryz.isAgg199
 z116 := Tryz.sizeOf199
 t117 := Tryz.underlying200
 a117 := Tryz.isAgg200
 z117 := Tryz.sizeOf200
 v117 := Tryz.zeroValue200
 t124 := Tryz.underlying222
 a124 := Tryz.isAgg222
 z124 := Tryz.sizeOf222
 v124 := Tryz.zeroValue222 }
open Go.RowKit Go.Lib in
theorem Tryz.strings_ContainsAny_laid (s chars : ByteArray) (w : World) (hs : s.size < 4294967281) (hcs : chars.size < 4294967281) (has : ∀ (j : Nat) b, s.data.toList[j]? = some b → b.toNat < 128) (hac : ∀ (j : Nat) b, chars.data.toList[j]? = some b → b.toNat < 128) :
  Calls Tryz.prog 99 #[.string s, .string chars] w fun e w' => e = .returned (.bool (Lib.containsAny s.data.toList chars.data.toList)) ∧ Below w.heap.size w w' := Any.strings_ContainsAny_laid Tryz.lays150_strings_ContainsAny_laid (by kernel_rfl) s chars w hs hcs has hac
end Go.Proofs.YteaeoaeogehaaaaGreatDoor
namespace Go.Proofs.YteaeoaeogehaaaaGreatDoor
open Go.RowKit
variable [Glb]
theorem ixA_has (o : Tx) : ∀ s : Tx, Go.Lib.containsAny s o = s.any fun b => o.contains b
 | [] => rfl
 | x :: r => by
  have ih := ixA_has o r
  unfold Go.Lib.containsAny at ih
  rw [List.any_cons, ← ih]
  show decide (0 ≤ (if o.contains x then 0 else if Go.Lib.indexAny r o == -1 then -1 else Go.Lib.indexAny r o + 1)) = _
  have := Go.Lib.indexAny_ge o r
  cases h : o.contains x with
  | true => simp
  | false =>
   rw [Bool.false_or]
   by_cases h3 : Go.Lib.indexAny r o = -1
   ·simp [h3]
   ·have h4 : (Go.Lib.indexAny r o == -1) = false := by simpa using h3
    rw [h4]
    simp only [Bool.false_eq_true, if_false]
    exact decide_eq_decide.2 ⟨fun _ => by omega, fun _ => by omega⟩
theorem containsAny_p (s o : Tx) (h1 : s.length ≤ 4000000) (h2 : o.length ≤ 100) (h3 : ∀ b ∈ s, b.toNat < 128) (h4 : ∀ b ∈ o, b.toNat < 128) : PC Tryz.prog 99 [.c (dT s), .c (dT o)] (.p (.c (dB (s.any fun b => o.contains b)))) :=
 jjw (Go.Proofs.enters_of Tryz.func99 (by kernel_rfl) rfl) rfl fun w _ => (Tryz.strings_ContainsAny_laid (bsT s) (bsT o) w (by rw [jdh];omega) (by rw [jdh];omega) (fun j b hb => h3 b (by rw [jea] at hb;exact List.mem_of_getElem? hb)) (fun j b hb => h4 b (by rw [jea] at hb;exact List.mem_of_getElem? hb))).mono (by
  rintro e w' ⟨rfl, hb⟩;rw [jea, jea, ixA_has];exact ⟨rfl, hb⟩)
theorem plB_f {s : Tx} {k : Nat} {most : Int} {o : Tx} (h : k < s.length) (e : byt s k < 32 ∨ 126 < byt s k) : plainB s most o = false := by
 have : s.all plB = false := by
  refine jin h ?_
  rw [jmi h] at e
  simp [plB]; omega
 unfold plainB;rw [this];rfl
theorem plB_go {s : Tx} {k : Nat} (h : k < s.length) (e : ¬ byt s k < 32) (e2 : ¬ 126 < byt s k) (ht : (s.take k).all plB = true) : (s.take (k + 1)).all plB = true := by
 rw [jcv _ _ _ h, ht, Bool.true_and]
 rw [jmi h] at e e2
 simp [plB]; omega
theorem isPlain_p (s o : Tx) (most : Int) (h1 : most ≤ 4000000) (h2 : o.length ≤ 100) (h4 : ∀ b ∈ o, b.toNat < 128) : PC Tryz.prog 59 [.c (dT s), .c (dI most), .c (dT o)] (.p (.c (dB (plainB s most o)))) := by
 refine jaq Tryz.func59 rfl rfl rfl (by kernel_rfl) rfl rfl ?_;rintro ⟨hl, -⟩
 have hl := FitT hl
 repeat' (first|refine zaa ?_|refine zab ?_|refine zbc ?_|refine jaj ?_|refine jak ?_|refine jai ?_|refine jab ?_)
 apply jay [0, 1, 2, 9, 10] [] rfl;(·(repeat(first|exact Pf.nil|apply Pf.cons (.c rfl (.d rfl)))));(·(repeat(exact Pb.nil)))
 refine jbb [0, 1, 2, 9] [] (fun k => [(10, iN k)]) (fun _ => []) (fun k => k ≤ s.length ∧ (s.take k).all plB = true) (fun k => s.length - k) (0) ?_ (by (repeat(first|exact trivial|refine ⟨(by rfl), ?_⟩))) (by (repeat(exact trivial))) ?_
 ·simp
 rintro k ⟨hk, ht⟩
 have hb := byt_lt s k
 by_cases h : k < s.length
 ·repeat' (first|refine zaa ?_|refine zab ?_|refine zbc ?_|refine zac ?_|refine zcn ?_|(refine jaa (.binOp .lss 5 _ _ _) ?_;refine jac (jaw rfl rfl) rfl ?_)|(refine jaa (.binOp .gtr 5 _ _ _) ?_;refine jac (jci rfl rfl) rfl ?_)|refine zag ?_|refine zad ?_|refine zbn ?_|refine jaj ?_|refine jbn rfl rfl rfl rfl ?_|refine jbg rfl rfl rfl rfl ?_|refine jca rfl rfl (fun hg => ?_) (fun hg => ?_)|refine jak ?_|refine jai ?_|refine jaz ?_|refine jar rfl ?_|refine jan ?_|refine jab ?_|refine jbk rfl ?_|refine jbi rfl (fun hc => ?_) (fun hc => ?_))
  all_goals first|(exfalso;omega)|skip
  ·(apply jat;apply jau;(·apply jbc.p;(·(apply GvA.cons;(·exact .tmp _);(·exact GvP.c (.lit _)));exact GvA.nil);(·decide)))
   rw [plB_f h (.inl (by assumption))]
  ·(apply jat;apply jau;(·apply jbc.p;(·(apply GvA.cons;(·exact .tmp _);(·exact GvP.c (.lit _)));exact GvA.nil);(·decide)))
   rw [plB_f h (.inr (by omega))]
  ·refine jba ?_;refine ⟨k + 1, ?_, ?_, jbx rfl (by (repeat(first|exact trivial|refine ⟨(by rfl), ?_⟩))) (by (repeat(first|exact trivial|refine ⟨rfl, ?_⟩))) (by (repeat(exact trivial))) (by (repeat(exact trivial)))⟩
   ·exact ⟨by omega, plB_go h (by assumption) (by omega) ht⟩
   ·omega
 ·have : k = s.length := by omega
  subst this
  rw [List.take_length] at ht
  have h3 : ∀ b ∈ s, b.toNat < 128 := fun b hb => by
   have := List.all_eq_true.1 ht b hb
   simp [plB] at this;omega
  by_cases hm : (s.length : Int) ≤ most
  ·have h5 : s.length ≤ 4000000 := by omega
   repeat' (first|refine zaa ?_|refine zab ?_|refine zbc ?_|refine zac ?_|refine zcn ?_|(refine jaa (.binOp .lss 5 _ _ _) ?_;refine jac (jaw rfl rfl) rfl ?_)|(refine jaa (.binOp .gtr 5 _ _ _) ?_;refine jac (jci rfl rfl) rfl ?_)|refine zag ?_|refine zad ?_|refine zbn ?_|refine zah ?_|(refine jaa (.call ⟨.value (.func 99), _, _⟩) ?_;(apply jag (fid := 99);(·(repeat(first|exact SeA.nil|apply SeA.cons (.c (.d _)))));(·exact containsAny_p _ _ (by assumption) (by assumption) (by assumption) (by assumption));(·rfl)))|refine jaj ?_|refine jbn rfl rfl rfl rfl ?_|refine jbg rfl rfl rfl rfl ?_|refine jca rfl rfl (fun hg => ?_) (fun hg => ?_)|refine jak ?_|refine jai ?_|refine jaz ?_|refine jar rfl ?_|refine jan ?_|refine jab ?_|refine jbk rfl ?_|refine jbi rfl (fun hc => ?_) (fun hc => ?_))
   all_goals first|(exfalso;omega)|skip
   all_goals (apply jat;apply jau;(·apply jbc.p;(·(apply GvA.cons;(·exact .tmp _);(·exact GvP.c (.lit _)));exact GvA.nil);(·decide)))
   all_goals simp [plainB, ht, hm]
  ·repeat' (first|refine zaa ?_|refine zab ?_|refine zbc ?_|refine zac ?_|refine zcn ?_|(refine jaa (.binOp .lss 5 _ _ _) ?_;refine jac (jaw rfl rfl) rfl ?_)|(refine jaa (.binOp .gtr 5 _ _ _) ?_;refine jac (jci rfl rfl) rfl ?_)|refine zag ?_|refine zad ?_|refine zbn ?_|refine jaj ?_|refine jbn rfl rfl rfl rfl ?_|refine jbg rfl rfl rfl rfl ?_|refine jca rfl rfl (fun hg => ?_) (fun hg => ?_)|refine jak ?_|refine jai ?_|refine jaz ?_|refine jar rfl ?_|refine jan ?_|refine jab ?_|refine jbk rfl ?_|refine jbi rfl (fun hc => ?_) (fun hc => ?_))
   all_goals first|(exfalso;omega)|skip
   all_goals (apply jat;apply jau;(·apply jbc.p;(·(apply GvA.cons;(·exact .tmp _);(·exact GvP.c (.lit _)));exact GvA.nil);(·decide)))
   all_goals simp [plainB, ht, hm]
theorem isCommand_p (s : Tx) : PC Tryz.prog 22 [.c (dT s)] (.p (.c (dB (decide (s ≠ []) && plainB s 160 [35, 64])))) := by
 refine jaq Tryz.func22 rfl rfl rfl (by kernel_rfl) rfl rfl ?_;intro _
 repeat' (first|refine zaa ?_|refine zab ?_|refine zcq (jhz rfl rfl) ?_|refine zag ?_|(refine jaa (.call ⟨.value (.func 59), _, _⟩) ?_;(apply jag (fid := 59);(·(repeat(first|exact SeA.nil|apply SeA.cons (.c (.d _)))));(·exact isPlain_p _ [35, 64] _ (by decide) (by decide) (by decide));(·rfl)))|refine jaj ?_|refine jbn rfl rfl rfl rfl ?_|refine jbg rfl rfl rfl rfl ?_|refine jca rfl rfl (fun hg => ?_) (fun hg => ?_)|refine jak ?_|refine jab ?_)
 all_goals (apply jat;apply jau;(·apply jbc.p;(·(apply GvA.cons;(·exact .tmp _);(·exact GvP.c (.lit _)));exact GvA.nil);(·decide)))
 all_goals simp_all
theorem IsValidRecord_p (c r : Tx) : PC Tryz.prog 66 [.g [dT c, dT r]] (.p (.c (dB (recB c r)))) := by
 refine jaq Tryz.func66 rfl rfl rfl (by kernel_rfl) rfl rfl ?_;intro _
 repeat' (first|(refine jaa (.box 67 _) ?_;refine jbh rfl rfl ?_)|refine zaa ?_|(refine jaa (.fieldAddr 67 _ 0) ?_;(refine jac (jad (off := 0) rfl (by kernel_rfl)) rfl ?_))|refine zcf ?_|refine zab ?_|(refine jaa (.fieldAddr 67 _ 1) ?_;(refine jac (jad (off := 1) rfl (by kernel_rfl)) rfl ?_))|refine zag ?_|(refine jaa (.call ⟨.value (.func 22), _, _⟩) ?_;(apply jag (fid := 22);(·(repeat(first|exact SeA.nil|apply SeA.cons (.c (.d _)))));(·exact isCommand_p _);(·rfl)))|(refine jaa (.call ⟨.value (.func 59), _, _⟩) ?_;(apply jag (fid := 59);(·(repeat(first|exact SeA.nil|apply SeA.cons (.c (.d _)))));(·exact isPlain_p _ [35] _ (by decide) (by decide) (by decide));(·rfl)))|refine jaj ?_|refine jbn rfl rfl rfl rfl ?_|refine jbg rfl rfl rfl rfl ?_|refine jcq rfl rfl (fun hg => ?_) (fun hg => ?_)|refine jak ?_|refine jab ?_)
 all_goals (apply jat;apply jau;(·apply jbc.p;(·(apply GvA.cons;(·exact .tmp _);(·exact GvP.c (.lit _)));exact GvA.nil);(·decide)))
 all_goals rw [← recB_eq]
 all_goals simp_all
end Go.Proofs.YteaeoaeogehaaaaGreatDoor
namespace Go.Proofs.YteaeoaeogehaaaaGreatDoor
open Go.RowKit
variable [Glb]
variable [GTab Tryz.prog tabNm]
theorem ac_line {k : Nat} {c r : Tx} (hk : k < 60) (h : RecP c r) : acT (textT k c r) = lineT k c r := by
 have h1 := jhe hk h
 have h2 := jhf (textT k c r)
 have h3 := jph (k := k) h
 have : acOK (textT k c r) = true := by simp [acOK, h3];omega
 simp [acT, this, lineT]
theorem jio (k : Int) (c r : Tx) (h : (inB k 0 59 && recB c r) = false) : PC Tryz.prog 67 [.c (dI k), .g [dT c, dT r]] (.t [.c (dT []), .c (dB false)]) := by
 refine jaq Tryz.func67 rfl rfl rfl (by kernel_rfl) rfl rfl ?_;intro _
 repeat' (first|(refine jaa (.box 67 _) ?_;refine jbh rfl rfl ?_)|refine zaa ?_|refine zab ?_|refine zah ?_|refine zbx ?_|refine zag ?_|(refine jaa (.fieldAddr 67 _ 0) ?_;(refine jac (jad (off := 0) rfl (by kernel_rfl)) rfl ?_))|refine zcf ?_|(refine jaa (.fieldAddr 67 _ 1) ?_;(refine jac (jad (off := 1) rfl (by kernel_rfl)) rfl ?_))|(refine jaa (.call ⟨.value (.func 50), _, _⟩) ?_;(apply jag (fid := 50);(·(repeat(first|exact SeA.nil|apply SeA.cons (.c (.d _)))));(·exact within_p _ _ _);(·rfl)))|(refine jaa (.call ⟨.value (.func 66), _, _⟩) ?_;(apply jag (fid := 66);(·(repeat(first|exact SeA.nil|(apply SeA.cons;(·(apply SeP.g;(repeat(first|exact SeL.nil|apply SeL.cons (.d _)))))))));(·exact IsValidRecord_p _ _);(·rfl)))|refine jaj ?_|refine jbn rfl rfl rfl rfl ?_|refine jbg rfl rfl rfl rfl ?_|refine jcq rfl rfl (fun hg => ?_) (fun hg => ?_)|refine jak ?_|refine jan ?_|refine jab ?_|refine jbd 3 (fun _ => false) (.step 0 true (.step 3 true (.step 4 true (.step 7 true (.step 8 true (.step 1 false (.step 2 true (.step 5 true (.step 6 true (.step 9 true (.step 10 false (.step 11 true (.step 12 true (.step 13 true (.step 14 true (.step 15 true .nil)))))))))))))))) [(0, 65535, 65535, true), (1, 65534, 65535, false), (2, 65533, 65535, true), (0, 65535, 65535, true), (8, 65527, 65535, false), (20, 65515, 65535, true), (32, 65503, 65535, true), (0, 65535, 65535, true), (128, 65407, 65535, false), (320, 65215, 65535, true), (514, 65023, 65535, false), (1024, 64511, 65535, true), (2048, 63487, 65535, true), (2048, 63487, 65535, true), (8191, 61439, 65535, true), (32767, 57343, 65535, true)] (by kernel_rfl) (by kernel_rfl) ?_|refine jbk rfl ?_|refine jcj rfl (fun hc => ?_) (fun hc => ?_))
 all_goals first|(exfalso;simp_all;done)|skip
 all_goals (apply jat;apply jau;(·apply jbc.t;(·(apply GvA.cons;(·exact .tmp _);(·exact GvP.c (.lit _)));(apply GvA.cons;(·exact .tmp _);(·exact GvP.c (.lit _)));exact GvA.nil);(·rfl);(·decide)))
 all_goals simp_all [jil]
theorem EncodeRecord_p (k : Nat) (c r : Tx) (h : k < 60) (hr : recB c r = true) : PC Tryz.prog 67 [.c (dI k), .g [dT c, dT r]] (.t [.c (dT (lineT k c r ++ [10])), .c (dB true)]) := by
 have hp := recB_p hr
 have h1 := jhe h hp
 have h2 := jhf (textT k c r)
 have h3 := (num60 h).2
 have h4 := hp.cl
 have h5 := hp.rl
 have h6 : inB (k : Int) 0 59 = true := by rw [jcp];omega
 have e := ac_line h hp
 have h7 : (acT (textT k c r)).length ≤ 4000 := by rw [e];unfold lineT;omega
 unfold textT at h7
 refine jaq Tryz.func67 rfl rfl rfl (by kernel_rfl) rfl rfl ?_;intro _
 repeat' (first|(refine jaa (.box 67 _) ?_;refine jbh rfl rfl ?_)|refine zaa ?_|(refine jaa (.move _) ?_;(first|refine jac (jal rfl) rfl ?_|refine jac (jcg rfl) rfl ?_))|refine zah ?_|refine zbx ?_|refine zag ?_|refine zbw ?_|(refine jaa (.fieldAddr 67 _ 0) ?_;(refine jac (jad (off := 0) rfl (by kernel_rfl)) rfl ?_))|refine zcf ?_|(refine jaa (.fieldAddr 67 _ 1) ?_;(refine jac (jad (off := 1) rfl (by kernel_rfl)) rfl ?_))|refine zak ?_|(refine jaa (.call ⟨.value (.func 50), _, _⟩) ?_;(apply jag (fid := 50);(·(repeat(first|exact SeA.nil|apply SeA.cons (.c (.d _)))));(·exact within_p _ _ _);(·rfl)))|(refine jaa (.call ⟨.value (.func 66), _, _⟩) ?_;(apply jag (fid := 66);(·(repeat(first|exact SeA.nil|(apply SeA.cons;(·(apply SeP.g;(repeat(first|exact SeL.nil|apply SeL.cons (.d _)))))))));(·exact IsValidRecord_p _ _);(·rfl)))|(refine jaa (.call ⟨.value (.func 79), _, _⟩) ?_;(apply jag (fid := 79);(·(repeat(first|exact SeA.nil|apply SeA.cons (.c (.d _)))));(·exact itoa_p _ (by omega));(·rfl)))|(refine jaa (.call ⟨.value (.func 115), _, _⟩) ?_;(apply jag (fid := 115);(·(repeat(first|exact SeA.nil|apply SeA.cons (.c (.d _)))));(·exact AppendChecksum_p _);(·rfl)))|refine jaj ?_|refine jbn rfl rfl rfl rfl ?_|refine jbg rfl rfl rfl rfl ?_|refine jcq rfl rfl (fun hg => ?_) (fun hg => ?_)|refine jak ?_|refine jan ?_|refine jab ?_|refine jbd 3 (fun _ => false) (.step 0 true (.step 3 true (.step 4 true (.step 7 true (.step 8 true (.step 1 false (.step 2 true (.step 5 true (.step 6 true (.step 9 true (.step 10 false (.step 11 true (.step 12 true (.step 13 true (.step 14 true (.step 15 true .nil)))))))))))))))) [(0, 65535, 65535, true), (1, 65534, 65535, false), (2, 65533, 65535, true), (0, 65535, 65535, true), (8, 65527, 65535, false), (20, 65515, 65535, true), (32, 65503, 65535, true), (0, 65535, 65535, true), (128, 65407, 65535, false), (320, 65215, 65535, true), (514, 65023, 65535, false), (1024, 64511, 65535, true), (2048, 63487, 65535, true), (2048, 63487, 65535, true), (8191, 61439, 65535, true), (32767, 57343, 65535, true)] (by kernel_rfl) (by kernel_rfl) ?_|refine jbk rfl ?_|refine jcj rfl (fun hc => ?_) (fun hc => ?_))
 all_goals first|(exfalso;simp_all;done)|skip
 all_goals (apply jat;apply jau;(·apply jbc.t;(·(apply GvA.cons;(·exact .tmp _);(·exact GvP.c (.lit _)));(apply GvA.cons;(·exact .tmp _);(·exact GvP.c (.lit _)));exact GvA.nil);(·rfl);(·decide)))
 all_goals rw [show acT (numT k ++ [32] ++ c ++ [64] ++ r) = lineT k c r from e]
end Go.Proofs.YteaeoaeogehaaaaGreatDoor
namespace Go.Proofs.YteaeoaeogehaaaaGreatDoor
open Go.RowKit
variable [Glb]
theorem bef_len (b : UInt8) (s : Tx) : (bef b s).length ≤ s.length := by
 by_cases h : b ∈ s
 ·have := congrArg List.length (jdl h).1
  simp at this; omega
 ·rw [jgo h]; omega
theorem part_from (s : Tx) (n : Nat) (h : n ≤ s.length) : partZ s n s.length = s.drop n := by
 unfold partZ;rw [List.take_of_length_le (by simp)];simp
end Go.Proofs.YteaeoaeogehaaaaGreatDoor
namespace Go.Proofs.YteaeoaeogehaaaaGreatDoor
open Go.RowKit
variable [Glb]
variable [GTab Tryz.prog tabNm]
theorem bef_no (b : UInt8) (s : Tx) : b ∉ bef b s := by
 by_cases h : b ∈ s
 ·exact (jdl h).2
 ·rw [jgo h]; exact h
theorem vc_eq (l : Tx) : vcT l = vtxT l := by
 unfold vcT vtxT
 have : vcOK l = verT l := by
  unfold vcOK verT acT
  have h := bef_no 35 l
  have e : acOK (bef 35 l) = (decide ((bef 35 l).length ≤ 4000) && decide ((sealT (bef 35 l)).length ≤ 4000)) := by simp [acOK, h]
  rw [← e]
  cases acOK (bef 35 l) <;> simp
 rw [this]
theorem readRecords_p (s : Tx) (hs : s.length ≤ 1000000) : PC Tryz.prog 97 [.c (dT s)] (.t [.c (eR (recsT s)), .c (eI (endsL s (numR s)))]) := by
 refine jaq Tryz.func97 rfl rfl rfl (by kernel_rfl) rfl rfl ?_;intro _
 repeat' (first|refine zaa ?_|(refine jaa (.buildSlice 130 0 _) ?_;(apply jao (sz := 2) (by_ := 32);(·kernel_rfl);(·decide);(·(repeat(exact GvS.nil _)));(·decide);(·rfl);(·rfl);(·rfl)))|(refine jaa (.buildSlice 27 1 _) ?_;(apply jao (sz := 1) (by_ := 8);(·kernel_rfl);(·decide);(·(repeat(first|exact GvS.nil _|apply GvS.c rfl rfl (.lit _) rfl)));(·decide);(·rfl);(·rfl);(·rfl)))|refine jaj ?_|refine jak ?_|refine jai ?_|refine jab ?_)
 apply jay [0, 4, 5, 6] [15, 18, 19, 75, 76, 79, 80] rfl;(·(repeat(first|exact Pf.nil|apply Pf.cons (.c rfl (.d rfl))|apply Pf.cons (.c rfl (.ls rfl)))));(·(repeat(first|exact Pb.nil|apply Pb.cons (.row rfl)|apply Pb.skip)))
 refine jbb [0] [15, 75, 76, 79, 80] (fun j => [(4, .c (.ls 18 2 0 j)), (5, .c (.ls 19 1 0 (j + 1))), (6, iN (endsT s j))]) (fun j => [(18, .row 2 (recD ((recsT s).take j))), (19, .row 1 (cI (endsL s j)))]) (fun j => j ≤ numR s) (fun j => 60 - j) (0) ?_ (by (repeat(first|exact trivial|refine ⟨(by rfl), ?_⟩))) (by (repeat(first|exact trivial|refine ⟨(by ((refine jbm rfl ?_;simp  [jij, recD, jov];done))), ?_⟩))) ?_
 ·omega
 intro j hj
 have h60 := jmb s
 have hle := jmh s j
 have hlr : ((recsT s).take j).length = j := by rw [List.length_take, jfr];omega
 have hrl : (recD ((recsT s).take j)).length = j * 2 := by rw [recD_len, hlr]
 have hel : (cI (endsL s j)).length = (j + 1) * 1 := by simp
 have hrest : partZ s (endsT s j) s.length = s.drop (endsT s j) := part_from s _ hle
 have hfin : numR s = j → (recsT s).take j = recsT s ∧ (recsT s).length = j := fun e => ⟨List.take_of_length_le (by rw [jfr];omega), (jfr s).trans e⟩
 have hpl := partZ_le s (endsT s j) s.length
 have hbl := bef_len 10 (partZ s (endsT s j) s.length)
 by_cases h : j < 60
 ·by_cases hm : 10 ∈ partZ s (endsT s j) s.length
  ·have hd := decI (l := bef 10 (partZ s (endsT s j) s.length)) h
   rw [← vc_eq] at hd
   by_cases hr : recB (bef 64 (aft 32 (vcT (bef 10 (partZ s (endsT s j) s.length))))) (aft 64 (aft 32 (vcT (bef 10 (partZ s (endsT s j) s.length))))) = true
   ·by_cases hl : lineT j (bef 64 (aft 32 (vcT (bef 10 (partZ s (endsT s j) s.length))))) (aft 64 (aft 32 (vcT (bef 10 (partZ s (endsT s j) s.length))))) = bef 10 (partZ s (endsT s j) s.length)
    ·rw [if_pos ⟨hr, hl⟩] at hd
     have hst : stepT j (s.drop (endsT s j)) = some ((bef 64 (aft 32 (vcT (bef 10 (partZ s (endsT s j) s.length)))), aft 64 (aft 32 (vcT (bef 10 (partZ s (endsT s j) s.length))))), (bef 10 (s.drop (endsT s j))).length + 1) := step_some (by rw [← hrest];exact hm) (by rw [← hrest];exact hd)
     obtain ⟨g1, g2, g3⟩ := log_go hj h hst
     rw [← hrest] at g3
     clear hfin hrest hst hd
     repeat' (first|refine zaa ?_|(refine jaa (.buildSlice 27 1 _) ?_;(apply jao (sz := 1) (by_ := 8);(·kernel_rfl);(·decide);(·(repeat(first|exact GvS.nil _|apply GvS.c rfl rfl (.lit _) rfl)));(·decide);(·rfl);(·rfl);(·rfl)))|(refine jaa (.move _) ?_;(first|refine jac (jal rfl) rfl ?_|refine jac (jcg rfl) rfl ?_))|refine zco ?_|refine zac ?_|refine zce ?_|(refine jaa (.call ⟨.value (.func 141), _, _⟩) ?_;(first|(apply jag (d := 27) (fid := 141);(·(repeat(first|exact SeA.nil|apply SeA.cons (.c (.d _)))));(·exact cut_p _ 10);(·rfl))|(apply jag (d := 40) (fid := 141);(·(repeat(first|exact SeA.nil|apply SeA.cons (.c (.d _)))));(·exact cut_p _ 32);(·rfl))|(apply jag (d := 46) (fid := 141);(·(repeat(first|exact SeA.nil|apply SeA.cons (.c (.d _)))));(·exact cut_p _ 64);(·rfl))))|refine zak ?_|refine zah ?_|(refine jaa (.build 67 _) ?_;refine jac (jbv (cs := [_, _]) [(0, 1), (1, 1)] [.string ByteArray.empty, .string ByteArray.empty] (by kernel_rfl) (by kernel_rfl) rfl) rfl ?_)|(refine jaa (.alloc 67) ?_;refine jav (zs := [.string ByteArray.empty, .string ByteArray.empty]) (by kernel_rfl) rfl ?_)|(refine jaa (.store 67 _ _) ?_;(refine jah rfl rfl rfl (by kernel_rfl) rfl rfl ?_))|refine zbx ?_|refine zbw ?_|refine zcq (jhz rfl rfl) ?_|refine zag ?_|refine zbc ?_|refine zad ?_|(refine jaa (.buildSlice 130 1 _) ?_;(apply jao (sz := 2) (by_ := 32);(·kernel_rfl);(·decide);(·(repeat(first|exact GvS.nil _|(apply GvS.g rfl;(·(repeat(first|exact GvL.nil|apply GvL.cons (.lit _))));(·rfl)))));(·decide);(·rfl);(·rfl);(·rfl)))|(refine jaa (.call ⟨.builtin .append, _, #[130, 130]⟩) ?_;((apply jbo (sz := 2) (by_ := 32);(·rfl);(·rfl);(·(assumption));(·exact .row _ _ _ _ rfl (by ((simp;done))));(·decide);(·kernel_rfl);(·decide);(·omega);(·omega);(·rfl);(·rfl);(·rfl))))|(refine jaa (.call ⟨.builtin .append, _, #[27, 27]⟩) ?_;((apply jbo (sz := 1) (by_ := 8);(·rfl);(·rfl);(·(assumption));(·exact .row _ _ _ _ rfl (by ((simp;done))));(·decide);(·kernel_rfl);(·decide);(·omega);(·omega);(·rfl);(·rfl);(·rfl))))|(refine jaa (.call ⟨.value (.func 142), _, _⟩) ?_;(apply jag (fid := 142);(·(repeat(first|exact SeA.nil|apply SeA.cons (.c (.d _)))));(·exact VerifyChecksum_p _);(·rfl)))|(refine jaa (.call ⟨.value (.func 67), _, _⟩) ?_;(apply jag (fid := 67);(·(repeat(first|exact SeA.nil|apply SeA.cons (.c (.d _))|(apply SeA.cons;(·(apply SeP.g;(repeat(first|exact SeL.nil|apply SeL.cons (.d _)))))))));(·exact EncodeRecord_p _ _ _ h hr);(·rfl)))|refine jaj ?_|refine jbg rfl rfl rfl rfl ?_|refine jak ?_|refine jai ?_|refine jaz ?_|refine jar rfl ?_|refine jan ?_|refine jab ?_|refine jbi rfl (fun hc => ?_) (fun hc => ?_)|refine jcj rfl (fun hc => ?_) (fun hc => ?_))
     all_goals first|(exfalso;omega)|(exfalso;simp_all;done)|skip
     refine jba ?_;refine ⟨j + 1, ?_, ?_, jbx rfl (by (repeat(first|exact trivial|refine ⟨(by (first|rfl|(refine jdr rfl ?_;(omega)))), ?_⟩))) (by (repeat(first|exact trivial|refine ⟨rfl, ?_⟩))) (by (repeat(first|exact trivial|refine ⟨(by ((refine jbm rfl ?_;simp  [recs_snoc g2, jow, g3, Nat.add_assoc];done))), ?_⟩))) (by (repeat(first|exact trivial|refine ⟨.inr rfl, ?_⟩|refine ⟨.inl rfl, ?_⟩)))⟩
     ·omega
     ·omega
    ·rw [if_neg (fun h => hl h.2)] at hd
     have hst := jkb hj (jko (by rw [← hrest];exact hd))
     obtain ⟨f1, f2⟩ := hfin hst
     clear hfin hrest hd
     repeat' (first|refine zaa ?_|(refine jaa (.buildSlice 27 1 _) ?_;(apply jao (sz := 1) (by_ := 8);(·kernel_rfl);(·decide);(·(repeat(first|exact GvS.nil _|apply GvS.c rfl rfl (.lit _) rfl)));(·decide);(·rfl);(·rfl);(·rfl)))|(refine jaa (.move _) ?_;(first|refine jac (jal rfl) rfl ?_|refine jac (jcg rfl) rfl ?_))|refine zco ?_|refine zac ?_|refine zce ?_|(refine jaa (.call ⟨.value (.func 141), _, _⟩) ?_;(first|(apply jag (d := 27) (fid := 141);(·(repeat(first|exact SeA.nil|apply SeA.cons (.c (.d _)))));(·exact cut_p _ 10);(·rfl))|(apply jag (d := 40) (fid := 141);(·(repeat(first|exact SeA.nil|apply SeA.cons (.c (.d _)))));(·exact cut_p _ 32);(·rfl))|(apply jag (d := 46) (fid := 141);(·(repeat(first|exact SeA.nil|apply SeA.cons (.c (.d _)))));(·exact cut_p _ 64);(·rfl))))|refine zak ?_|refine zah ?_|(refine jaa (.build 67 _) ?_;refine jac (jbv (cs := [_, _]) [(0, 1), (1, 1)] [.string ByteArray.empty, .string ByteArray.empty] (by kernel_rfl) (by kernel_rfl) rfl) rfl ?_)|(refine jaa (.alloc 67) ?_;refine jav (zs := [.string ByteArray.empty, .string ByteArray.empty]) (by kernel_rfl) rfl ?_)|(refine jaa (.store 67 _ _) ?_;(refine jah rfl rfl rfl (by kernel_rfl) rfl rfl ?_))|refine zbx ?_|refine zbw ?_|refine zcq (jhz rfl rfl) ?_|refine zag ?_|refine zbc ?_|refine zad ?_|(refine jaa (.buildSlice 130 1 _) ?_;(apply jao (sz := 2) (by_ := 32);(·kernel_rfl);(·decide);(·(repeat(first|exact GvS.nil _|(apply GvS.g rfl;(·(repeat(first|exact GvL.nil|apply GvL.cons (.lit _))));(·rfl)))));(·decide);(·rfl);(·rfl);(·rfl)))|(refine jaa (.call ⟨.builtin .append, _, #[130, 130]⟩) ?_;((apply jbo (sz := 2) (by_ := 32);(·rfl);(·rfl);(·(assumption));(·exact .row _ _ _ _ rfl (by ((simp;done))));(·decide);(·kernel_rfl);(·decide);(·omega);(·omega);(·rfl);(·rfl);(·rfl))))|(refine jaa (.call ⟨.builtin .append, _, #[27, 27]⟩) ?_;((apply jbo (sz := 1) (by_ := 8);(·rfl);(·rfl);(·(assumption));(·exact .row _ _ _ _ rfl (by ((simp;done))));(·decide);(·kernel_rfl);(·decide);(·omega);(·omega);(·rfl);(·rfl);(·rfl))))|(refine jaa (.call ⟨.value (.func 142), _, _⟩) ?_;(apply jag (fid := 142);(·(repeat(first|exact SeA.nil|apply SeA.cons (.c (.d _)))));(·exact VerifyChecksum_p _);(·rfl)))|(refine jaa (.call ⟨.value (.func 67), _, _⟩) ?_;(apply jag (fid := 67);(·(repeat(first|exact SeA.nil|apply SeA.cons (.c (.d _))|(apply SeA.cons;(·(apply SeP.g;(repeat(first|exact SeL.nil|apply SeL.cons (.d _)))))))));(·exact EncodeRecord_p _ _ _ h hr);(·rfl)))|refine jaj ?_|refine jbg rfl rfl rfl rfl ?_|refine jak ?_|refine jai ?_|refine jaz ?_|refine jar rfl ?_|refine jan ?_|refine jab ?_|refine jbi rfl (fun hc => ?_) (fun hc => ?_)|refine jcj rfl (fun hc => ?_) (fun hc => ?_))
     all_goals first|(exfalso;omega)|(exfalso;simp_all;done)|skip
     all_goals (apply jat;apply jau;(·apply jbc.t;(·(apply GvA.cons;(·exact .tmp _);(·(exact GvP.c (.row _ _ _ _ rfl (by (assumption))))));(apply GvA.cons;(·exact .tmp _);(·(exact GvP.c (.row _ _ _ _ rfl (by (assumption))))));exact GvA.nil);(·rfl);(·decide)))
     all_goals simp only [eR, eI, f1, f2, hst, endsL_len]
   ·rw [if_neg (fun h => hr h.1)] at hd
    have hst := jkb hj (jko (by rw [← hrest];exact hd))
    obtain ⟨f1, f2⟩ := hfin hst
    clear hfin hrest hd
    repeat' (first|refine zaa ?_|(refine jaa (.move _) ?_;(first|refine jac (jal rfl) rfl ?_|refine jac (jcg rfl) rfl ?_))|refine zco ?_|refine zac ?_|refine zce ?_|(refine jaa (.call ⟨.value (.func 141), _, _⟩) ?_;(first|(apply jag (d := 27) (fid := 141);(·(repeat(first|exact SeA.nil|apply SeA.cons (.c (.d _)))));(·exact cut_p _ 10);(·rfl))|(apply jag (d := 40) (fid := 141);(·(repeat(first|exact SeA.nil|apply SeA.cons (.c (.d _)))));(·exact cut_p _ 32);(·rfl))|(apply jag (d := 46) (fid := 141);(·(repeat(first|exact SeA.nil|apply SeA.cons (.c (.d _)))));(·exact cut_p _ 64);(·rfl))))|refine zak ?_|refine zah ?_|(refine jaa (.build 67 _) ?_;refine jac (jbv (cs := [_, _]) [(0, 1), (1, 1)] [.string ByteArray.empty, .string ByteArray.empty] (by kernel_rfl) (by kernel_rfl) rfl) rfl ?_)|(refine jaa (.alloc 67) ?_;refine jav (zs := [.string ByteArray.empty, .string ByteArray.empty]) (by kernel_rfl) rfl ?_)|(refine jaa (.store 67 _ _) ?_;(refine jah rfl rfl rfl (by kernel_rfl) rfl rfl ?_))|refine zbx ?_|refine zag ?_|(refine jaa (.call ⟨.value (.func 142), _, _⟩) ?_;(apply jag (fid := 142);(·(repeat(first|exact SeA.nil|apply SeA.cons (.c (.d _)))));(·exact VerifyChecksum_p _);(·rfl)))|(refine jaa (.call ⟨.value (.func 67), _, _⟩) ?_;(apply jag (fid := 67);(·(repeat(first|exact SeA.nil|apply SeA.cons (.c (.d _))|(apply SeA.cons;(·(apply SeP.g;(repeat(first|exact SeL.nil|apply SeL.cons (.d _)))))))));(·exact jio _ _ _ (by simp_all));(·rfl)))|refine jaj ?_|refine jbn rfl rfl rfl rfl ?_|refine jak ?_|refine jai ?_|refine jar rfl ?_|refine jan ?_|refine jab ?_|refine jbk rfl ?_|refine jbi rfl (fun hc => ?_) (fun hc => ?_)|refine jcj rfl (fun hc => ?_) (fun hc => ?_))
    all_goals first|(exfalso;omega)|(exfalso;simp_all;done)|skip
    all_goals (apply jat;apply jau;(·apply jbc.t;(·(apply GvA.cons;(·exact .tmp _);(·(exact GvP.c (.row _ _ _ _ rfl (by (assumption))))));(apply GvA.cons;(·exact .tmp _);(·(exact GvP.c (.row _ _ _ _ rfl (by (assumption))))));exact GvA.nil);(·rfl);(·decide)))
    all_goals simp only [eR, eI, f1, f2, hst, endsL_len]
  ·have hst := jkb hj (step_no (by rw [← hrest];exact hm))
   obtain ⟨f1, f2⟩ := hfin hst
   clear hfin hrest
   repeat' (first|refine zaa ?_|(refine jaa (.move _) ?_;(first|refine jac (jal rfl) rfl ?_|refine jac (jcg rfl) rfl ?_))|refine zco ?_|refine zac ?_|refine zce ?_|(refine jaa (.call ⟨.value (.func 141), _, _⟩) ?_;(apply jag (d := 27) (fid := 141);(·(repeat(first|exact SeA.nil|apply SeA.cons (.c (.d _)))));(·exact cut_p _ 10);(·rfl)))|refine zak ?_|refine zah ?_|refine jaj ?_|refine jak ?_|refine jai ?_|refine jar rfl ?_|refine jan ?_|refine jab ?_|refine jbi rfl (fun hc => ?_) (fun hc => ?_)|refine jcj rfl (fun hc => ?_) (fun hc => ?_))
   all_goals first|(exfalso;omega)|(exfalso;simp_all;done)|skip
   all_goals (apply jat;apply jau;(·apply jbc.t;(·(apply GvA.cons;(·exact .tmp _);(·(exact GvP.c (.row _ _ _ _ rfl (by (assumption))))));(apply GvA.cons;(·exact .tmp _);(·(exact GvP.c (.row _ _ _ _ rfl (by (assumption))))));exact GvA.nil);(·rfl);(·decide)))
   all_goals simp only [eR, eI, f1, f2, hst, endsL_len]
 ·have hst : numR s = j := by omega
  obtain ⟨f1, f2⟩ := hfin hst
  clear hfin hrest
  repeat' (first|refine zaa ?_|refine zab ?_|refine zco ?_|refine zac ?_|refine zce ?_|refine jaj ?_|refine jak ?_|refine jai ?_|refine jar rfl ?_|refine jan ?_|refine jab ?_|refine jbi rfl (fun hc => ?_) (fun hc => ?_))
  all_goals first|(exfalso;omega)|(exfalso;simp_all;done)|skip
  all_goals (apply jat;apply jau;(·apply jbc.t;(·(apply GvA.cons;(·exact .tmp _);(·(exact GvP.c (.row _ _ _ _ rfl (by (assumption))))));(apply GvA.cons;(·exact .tmp _);(·(exact GvP.c (.row _ _ _ _ rfl (by (assumption))))));exact GvA.nil);(·rfl);(·decide)))
  all_goals simp only [eR, eI, f1, f2, hst, endsL_len]
theorem IsValidLog_p (d p : Tx) (c : Int) (hb : (d.length : Int) + p.length ≤ 1000000000) : PC Tryz.prog 58 [.g [dT d, dT p, dI c]] (.p (.c (dB (validB d p c)))) := by
 refine jaq Tryz.func58 rfl rfl rfl (by kernel_rfl) rfl rfl ?_;rintro ⟨hf, -⟩
 have hf0 := FitT (hf (dT d) (by simp))
 have hf1 := FitT (hf (dT p) (by simp))
 clear hf
 by_cases h : (d.length : Int) + p.length ≤ 30000
 ·have h1 := jfr (d ++ p)
  have h2 : ((d ++ p).length : Int) = d.length + p.length := by simp
  have h3 := endsL_len (d ++ p) (numR (d ++ p))
  repeat' (first|(refine jaa (.box 34 _) ?_;refine jbh rfl rfl ?_)|refine zaa ?_|(refine jaa (.fieldAddr 34 _ 0) ?_;(refine jac (jad (off := 0) rfl (by kernel_rfl)) rfl ?_))|refine zcf ?_|refine zbc ?_|(refine jaa (.fieldAddr 34 _ 1) ?_;(refine jac (jad (off := 1) rfl (by kernel_rfl)) rfl ?_))|refine zad ?_|refine zat ?_|(refine jaa (.binOp .add 9 _ _ _) ?_;(refine jac (jex rfl rfl (by omega)) rfl ?_))|(refine jaa (.move _) ?_;(first|refine jac (jal rfl) rfl ?_|refine jac (jcg rfl) rfl ?_))|refine zak ?_|(refine jaa (.call ⟨.builtin .len, _, #[130]⟩) ?_;(refine jac (jbe rfl (by kernel_rfl)) rfl ?_))|refine zao ?_|(refine jaa (.load 3 _) ?_;(first|refine jac (jaf rfl rfl (by kernel_rfl) rfl) rfl ?_|refine jac (jap rfl (by kernel_rfl) rfl) rfl ?_))|refine zai ?_|refine zcp ?_|refine zag ?_|(refine jaa (.call ⟨.value (.func 97), _, _⟩) ?_;(apply jag (fid := 97);(·(repeat(first|exact SeA.nil|apply SeA.cons (.c (.d _)))));(·exact readRecords_p _ (by simp;omega));(·rfl)))|(refine jaa (.call ⟨.value (.func 98), _, _⟩) ?_;(apply jag (fid := 98);(·(repeat(first|exact SeA.nil|apply SeA.cons (.c (.d _)))));(·exact containsI_p _ _);(·rfl)))|refine jaj ?_|refine jbn rfl rfl rfl rfl ?_|refine jbg rfl rfl rfl rfl ?_|refine jca rfl rfl (fun hg => ?_) (fun hg => ?_)|refine jak ?_|refine jan ?_|refine jab ?_|refine jbd 4 (fun _ => false) (.step 0 true (.step 1 true (.step 2 true (.step 3 true (.step 4 true (.step 5 true (.step 6 true (.step 7 true (.step 8 true (.step 9 true (.step 10 true (.step 11 true (.step 12 true (.step 13 true (.step 14 true (.step 15 true (.step 16 true (.step 17 true (.step 18 true (.step 19 true (.step 20 true (.step 21 true (.step 22 true (.step 23 true (.step 24 true (.step 25 false (.step 26 true (.step 27 true .nil)))))))))))))))))))))))))))) [(0, 268435455, 268435455, true), (0, 268435455, 268435455, true), (2, 268435453, 268435455, true), (5, 268435450, 268435455, true), (8, 268435447, 268435455, false), (0, 268435455, 268435455, true), (32, 268435423, 268435455, false), (64, 268435391, 268435455, true), (0, 268435455, 268435455, true), (256, 268435199, 268435455, false), (512, 268434943, 268435455, true), (1152, 268434303, 268435455, true), (2064, 268433391, 268435455, true), (4096, 268431359, 268435455, true), (8192, 268427263, 268435455, true), (24576, 268410879, 268435455, false), (8192, 268427263, 268435455, true), (73728, 268361727, 268435455, true), (172032, 268263423, 268435455, true), (270336, 268165119, 268435455, true), (532480, 267911167, 268435455, true), (1048576, 267386879, 268435455, true), (1048576, 267386879, 268435455, true), (5242880, 263192575, 268435455, false), (9437184, 258998271, 268435455, true), (19922944, 248512511, 268435455, false), (34603008, 233832447, 268435455, true), (134217727, 201326591, 268435455, true)] (by kernel_rfl) (by kernel_rfl) ?_|refine jbi rfl (fun hc => ?_) (fun hc => ?_))
  all_goals first|(exfalso;omega)|skip
  all_goals (apply jat;apply jau;(·apply jbc.p;(·(apply GvA.cons;(·exact .tmp _);(·exact GvP.c (.lit _)));exact GvA.nil);(·decide)))
  all_goals refine dB_eq (Bool.eq_iff_iff.2 ?_)
  all_goals rw [jpf h]
  all_goals try rw [endsL_at] at *
  ·have hv := jom (x := d) (y := p) (by omega)
   rw [endsL_has, hv, decide_eq_true_eq];omega
  ·simp only [Bool.false_eq_true, false_iff];omega
  ·simp only [Bool.false_eq_true, false_iff];omega
 ·repeat' (first|(refine jaa (.box 34 _) ?_;refine jbh rfl rfl ?_)|refine zaa ?_|(refine jaa (.fieldAddr 34 _ 0) ?_;(refine jac (jad (off := 0) rfl (by kernel_rfl)) rfl ?_))|refine zcf ?_|refine zbc ?_|(refine jaa (.fieldAddr 34 _ 1) ?_;(refine jac (jad (off := 1) rfl (by kernel_rfl)) rfl ?_))|refine zad ?_|refine zat ?_|(refine jaa (.binOp .add 9 _ _ _) ?_;(refine jac (jex rfl rfl (by omega)) rfl ?_))|(refine jaa (.move _) ?_;(first|refine jac (jal rfl) rfl ?_|refine jac (jcg rfl) rfl ?_))|refine zak ?_|(refine jaa (.call ⟨.builtin .len, _, #[130]⟩) ?_;(refine jac (jbe rfl (by kernel_rfl)) rfl ?_))|refine zao ?_|(refine jaa (.load 3 _) ?_;(first|refine jac (jaf rfl rfl (by kernel_rfl) rfl) rfl ?_|refine jac (jap rfl (by kernel_rfl) rfl) rfl ?_))|refine zai ?_|refine zcp ?_|refine zag ?_|(refine jaa (.call ⟨.value (.func 97), _, _⟩) ?_;(apply jag (fid := 97);(·(repeat(first|exact SeA.nil|apply SeA.cons (.c (.d _)))));(·exact readRecords_p _ (by simp;omega));(·rfl)))|refine jaj ?_|refine jbn rfl rfl rfl rfl ?_|refine jbg rfl rfl rfl rfl ?_|refine jca rfl rfl (fun hg => ?_) (fun hg => ?_)|refine jak ?_|refine jan ?_|refine jab ?_|refine jbd 4 (fun _ => false) (.step 0 true (.step 1 true (.step 2 true (.step 3 true (.step 4 true (.step 5 true (.step 6 true (.step 7 true (.step 8 true (.step 9 true (.step 10 true (.step 11 true (.step 12 true (.step 13 true (.step 14 true (.step 15 true (.step 16 true (.step 17 true (.step 18 true (.step 19 true (.step 20 true (.step 21 true (.step 22 true (.step 23 true (.step 24 true (.step 25 false (.step 26 true (.step 27 true .nil)))))))))))))))))))))))))))) [(0, 268435455, 268435455, true), (0, 268435455, 268435455, true), (2, 268435453, 268435455, true), (5, 268435450, 268435455, true), (8, 268435447, 268435455, false), (0, 268435455, 268435455, true), (32, 268435423, 268435455, false), (64, 268435391, 268435455, true), (0, 268435455, 268435455, true), (256, 268435199, 268435455, false), (512, 268434943, 268435455, true), (1152, 268434303, 268435455, true), (2064, 268433391, 268435455, true), (4096, 268431359, 268435455, true), (8192, 268427263, 268435455, true), (24576, 268410879, 268435455, false), (8192, 268427263, 268435455, true), (73728, 268361727, 268435455, true), (172032, 268263423, 268435455, true), (270336, 268165119, 268435455, true), (532480, 267911167, 268435455, true), (1048576, 267386879, 268435455, true), (1048576, 267386879, 268435455, true), (5242880, 263192575, 268435455, false), (9437184, 258998271, 268435455, true), (19922944, 248512511, 268435455, false), (34603008, 233832447, 268435455, true), (134217727, 201326591, 268435455, true)] (by kernel_rfl) (by kernel_rfl) ?_|refine jbi rfl (fun hc => ?_) (fun hc => ?_))
  all_goals first|(exfalso;omega)|skip
  all_goals (apply jat;apply jau;(·apply jbc.p;(·(apply GvA.cons;(·exact .tmp _);(·exact GvP.c (.lit _)));exact GvA.nil);(·decide)))
  all_goals rw [job h]
theorem IsValidConsole_p (bx by_ bwh : Int) (bll : List (List Int)) (pl : List Int) (ev : Int) (cc : List (List Int)) (ss nu : List Int) (co : Int) (d p : Tx) (n : Int) (hb : (d.length : Int) + p.length ≤ 1000000000) :
  PC Tryz.prog 21 [.g [dI bx, dI by_, dI bwh, eII bll, eI pl, dI ev, eII cc, eI ss, eI nu, dI co, dT d, dT p, dI n]] (.p (.c (dB (hallB bx by_ bwh bll pl ev cc ss nu co && validB d p n)))) := by
 refine jaq Tryz.func21 rfl rfl rfl (by kernel_rfl) rfl rfl ?_;intro _
 repeat' (first|(refine jaa (.box 36 _) ?_;refine jbh rfl rfl ?_)|refine zaa ?_|(refine jaa (.fieldAddr 36 _ 0) ?_;(refine jac (jad (off := 0) rfl (by kernel_rfl)) rfl ?_))|refine zar ?_|refine zab ?_|(refine jaa (.fieldAddr 36 _ 1) ?_;(refine jac (jad (off := 10) rfl (by kernel_rfl)) rfl ?_))|(refine jaa (.load 34 _) ?_;(refine jac (jae rfl rfl (by kernel_rfl : tAgg _ 34 3 = true) rfl) rfl ?_))|refine zag ?_|(refine jaa (.call ⟨.value (.func 18), _, _⟩) ?_;(apply jag (fid := 18);(·(repeat(first|exact SeA.nil|(apply SeA.cons;(·(apply SeP.g;(repeat(first|exact SeL.nil|apply SeL.cons (.d _)))))))));(·exact IsHall_p _ _ _ _ _ _ _ _ _ _);(·rfl)))|(refine jaa (.call ⟨.value (.func 58), _, _⟩) ?_;(apply jag (fid := 58);(·(repeat(first|exact SeA.nil|(apply SeA.cons;(·(apply SeP.g;(repeat(first|exact SeL.nil|apply SeL.cons (.d _)))))))));(·exact IsValidLog_p _ _ _ (by omega));(·rfl)))|refine jaj ?_|refine jbn rfl rfl rfl rfl ?_|refine jbg rfl rfl rfl rfl ?_|refine jcq rfl rfl (fun hg => ?_) (fun hg => ?_)|refine jak ?_|refine jab ?_)
 all_goals (apply jat;apply jau;(·apply jbc.p;(·(apply GvA.cons;(·exact .tmp _);(·exact GvP.c (.lit _)));exact GvA.nil);(·decide)))
 all_goals simp_all
theorem jip (d p : Tx) (n : Int) (c r : Tx) (hb : (d.length : Int) + p.length ≤ 1000000000) (h : (validB d p n && recB c r) = false) : PC Tryz.prog 24 [.g [dT d, dT p, dI n], .g [dT c, dT r]] (.t [.g [dT d, dT p, dI n], .c (dI 1)]) := by
 refine jaq Tryz.func24 rfl rfl rfl (by kernel_rfl) rfl rfl ?_;intro _
 repeat' (first|(refine jaa (.box 34 _) ?_;refine jbh rfl rfl ?_)|(refine jaa (.box 67 _) ?_;refine jbh rfl rfl ?_)|(refine jaa (.alloc 34) ?_;refine jav (zs := [.string ByteArray.empty, .string ByteArray.empty, .int .i64 0]) (by kernel_rfl) rfl ?_)|refine zaa ?_|(refine jaa (.load 34 _) ?_;(refine jac (jae rfl rfl (by kernel_rfl : tAgg _ 34 3 = true) rfl) rfl ?_))|refine zah ?_|refine zab ?_|refine zbx ?_|refine zag ?_|(refine jaa (.store 34 _ _) ?_;(refine jah rfl rfl rfl (by kernel_rfl) rfl rfl ?_))|refine zcp ?_|refine zaf ?_|(refine jaa (.call ⟨.value (.func 58), _, _⟩) ?_;(apply jag (fid := 58);(·(repeat(first|exact SeA.nil|(apply SeA.cons;(·(apply SeP.g;(repeat(first|exact SeL.nil|apply SeL.cons (.d _)))))))));(·exact IsValidLog_p _ _ _ (by omega));(·rfl)))|(refine jaa (.call ⟨.value (.func 66), _, _⟩) ?_;(apply jag (fid := 66);(·(repeat(first|exact SeA.nil|(apply SeA.cons;(·(apply SeP.g;(repeat(first|exact SeL.nil|apply SeL.cons (.d _)))))))));(·exact IsValidRecord_p _ _);(·rfl)))|refine jaj ?_|refine jbn rfl rfl rfl rfl ?_|refine jbg rfl rfl rfl rfl ?_|refine jcq rfl rfl (fun hg => ?_) (fun hg => ?_)|refine jak ?_|refine jan ?_|refine jab ?_|refine jbk rfl ?_|refine jcj rfl (fun hc => ?_) (fun hc => ?_))
 all_goals first|(exfalso;simp_all;done)|skip
 all_goals (apply jat;apply jau;(·apply jbc.t;(·(apply GvA.cons;(·(apply RV.cellN (n := 3);(·rfl);(·rfl);(·kernel_rfl);(·rfl)));(·(apply GvP.g;(·(apply GvL.cons (.lit _));(apply GvL.cons (.lit _));(apply GvL.cons (.lit _));exact GvL.nil))));(apply GvA.cons;(·exact .tmp _);(·exact GvP.c (.lit _)));exact GvA.nil);(·rfl);(·decide)))
 all_goals rfl
theorem AppendRecord_p (d p : Tx) (k : Nat) (c r : Tx) (hb : (d.length : Int) + p.length ≤ 1000000000) (h : validB d p k = true) (h2 : recB c r = true) (h3 : k < 60) : PC Tryz.prog 24 [.g [dT d, dT p, dI k], .g [dT c, dT r]] (.t [.g [dT d, dT (p ++ (lineT k c r ++ [10])), dI (k + 1)], .c (dI 0)]) := by
 have h4 := (validB_p h).len
 have h5 := jhe h3 (recB_p h2)
 have h6 := jhf (textT k c r)
 have h7 : (lineT k c r).length ≤ 500 := by unfold lineT;omega
 have h8 := (recB_p h2).cl
 have h9 := (recB_p h2).rl
 clear h5 h6
 refine jaq Tryz.func24 rfl rfl rfl (by kernel_rfl) rfl rfl ?_;intro _
 repeat' (first|(refine jaa (.box 34 _) ?_;refine jbh rfl rfl ?_)|(refine jaa (.box 67 _) ?_;refine jbh rfl rfl ?_)|(refine jaa (.alloc 34) ?_;refine jav (zs := [.string ByteArray.empty, .string ByteArray.empty, .int .i64 0]) (by kernel_rfl) rfl ?_)|refine zaa ?_|(refine jaa (.load 34 _) ?_;(refine jac (jae rfl rfl (by kernel_rfl : tAgg _ 34 3 = true) rfl) rfl ?_))|refine zah ?_|(refine jaa (.move _) ?_;(first|refine jac (jal rfl) rfl ?_|refine jac (jcg rfl) rfl ?_))|refine zbx ?_|refine zag ?_|(refine jaa (.store 34 _ _) ?_;(refine jah rfl rfl rfl (by kernel_rfl) rfl rfl ?_))|refine zcp ?_|refine zaf ?_|refine zak ?_|(refine jaa (.fieldAddr 34 _ 0) ?_;(refine jac (jad (off := 0) rfl (by kernel_rfl)) rfl ?_))|refine zcf ?_|(refine jaa (.fieldAddr 34 _ 1) ?_;(refine jac (jad (off := 1) rfl (by kernel_rfl)) rfl ?_))|refine zbw ?_|refine zad ?_|(refine jaa (.build 34 _) ?_;refine jac (jbv (cs := [_, _, _]) [(0, 1), (1, 1), (2, 1)] [.string ByteArray.empty, .string ByteArray.empty, .int .i64 0] (by kernel_rfl) (by kernel_rfl) rfl) rfl ?_)|(refine jaa (.call ⟨.value (.func 58), _, _⟩) ?_;(apply jag (fid := 58);(·(repeat(first|exact SeA.nil|(apply SeA.cons;(·(apply SeP.g;(repeat(first|exact SeL.nil|apply SeL.cons (.d _)))))))));(·exact IsValidLog_p _ _ _ (by omega));(·rfl)))|(refine jaa (.call ⟨.value (.func 66), _, _⟩) ?_;(apply jag (fid := 66);(·(repeat(first|exact SeA.nil|(apply SeA.cons;(·(apply SeP.g;(repeat(first|exact SeL.nil|apply SeL.cons (.d _)))))))));(·exact IsValidRecord_p _ _);(·rfl)))|(refine jaa (.call ⟨.value (.func 67), _, _⟩) ?_;(apply jag (fid := 67);(·(repeat(first|exact SeA.nil|apply SeA.cons (.c (.d _))|(apply SeA.cons;(·(apply SeP.g;(repeat(first|exact SeL.nil|apply SeL.cons (.d _)))))))));(·exact EncodeRecord_p _ _ _ h3 h2);(·rfl)))|refine jaj ?_|refine jbn rfl rfl rfl rfl ?_|refine jbg rfl rfl rfl rfl ?_|refine jcq rfl rfl (fun hg => ?_) (fun hg => ?_)|refine jak ?_|refine jan ?_|refine jab ?_|refine jbk rfl ?_|refine jbj rfl ?_|refine jcj rfl (fun hc => ?_) (fun hc => ?_))
 all_goals first|(exfalso;simp_all;done)|(exfalso;omega)|skip
 all_goals (apply jat;apply jau;(·apply jbc.t;(·(apply GvA.cons;(·(apply RV.cellN (n := 3);(·rfl);(·rfl);(·kernel_rfl);(·rfl)));(·(apply GvP.g;(·(apply GvL.cons (.lit _));(apply GvL.cons (.lit _));(apply GvL.cons (.lit _));exact GvL.nil))));(apply GvA.cons;(·exact .tmp _);(·exact GvP.c (.lit _)));exact GvA.nil);(·rfl);(·decide)))
 all_goals rfl
section
variable {P : Program} {st : St} {dst : Option Tmp} {ty : TypeId} {pos : String} {af : Array Edge} {x y : Operand}
theorem jhx {T : TypeId} {lo : Operand} {l : List Tx} {k : IntKind} (hx : st.ev x = .c (.d (eT l))) (hl : st.ev lo = .c (.d (.lit (.int k 1)))) (ht : tSl P T 1 = true) (h : 1 ≤ l.length) : Qt P ⟨dst, .slice T x (some lo) none none, ty, pos, af, none⟩ st (.c (.d (eT (l.drop 1)))) :=
 joj (vl := some (k, 1)) (vh := none) (i := 1) (j := l.length) (m := (l.drop 1).length) hx (jmg hl) (fun _ _ _ _ _ => rfl) ht ⟨by omega, rfl⟩ rfl h (Nat.le_refl _) (by rw [List.length_drop]) (by
  rw [List.length_drop, Nat.mul_one, Nat.mul_one, List.map_drop, List.take_of_length_le (by simp)])
end
theorem jou (X Y : Nat) (wh : Int) (bll : List (List Int)) (pl : List Int) (E : Nat) (cc : List (List Int)) (ss nu : List Int) (co : Int) (line : Tx) (hl : line.length ≤ 1000) (hs : splitT 32 line = [line]) (hk : callO line [] = none) (r : Tx) (ok : Bool)
  (ak : PC Tryz.prog 65 [.g [dI X, dI Y, dI wh, eII bll, eI pl, dI E, eII cc, eI ss, eI nu, dI co], .c (dT line)] (.t [.c (dT r), .c (dB ok)])) :
  PT Tryz.prog 23 [.g [dI X, dI Y, dI wh, eII bll, eI pl, dI E, eII cc, eI ss, eI nu, dI co], .c (dT line)] (.t [.g [dI X, dI Y, dI wh, eII bll, eI pl, dI E, eII cc, eI ss, eI nu, dI co], .c (dT (if ok = true then r else qT))]) := by
 have sp := split_p line 32 (by omega)
 rw [hs] at sp
 obtain ⟨ws, hw⟩ : ∃ ws, ws = [line] := ⟨_, rfl⟩
 have wl : ws.length = 1 := by rw [hw];rfl
 have w0 : atZ ws 0 = line := by rw [hw];rfl
 have wd : ws.drop 1 = [] := by rw [hw];rfl
 have co1 := callOf_c line [] 0 0 false (by simp) hk (fun _ => ⟨rfl, rfl⟩)
 rw [← hw] at sp
 rw [← w0] at co1 ak
 clear hw hs hk w0
 cases ok with
 | true =>
  rw [if_pos rfl]
  refine jco Tryz.func23 rfl rfl rfl (by kernel_rfl) rfl rfl ?_;intro _
  repeat' (first|(refine jaa (.box 31 _) ?_;refine jbh rfl rfl ?_)|(refine jaa (.alloc 31) ?_;refine jav (zs := [.int .i64 0, .int .i64 0, .int .i64 0, .slice none 0 0, .slice none 0 0, .int .i64 0, .slice none 0 0, .slice none 0 0, .slice none 0 0, .int .i64 0]) (by kernel_rfl) rfl ?_)|refine zaa ?_|refine zab ?_|(refine jaa (.buildSlice 27 0 _) ?_;(apply jao (sz := 1) (by_ := 8);(·kernel_rfl);(·decide);(·(repeat(exact GvS.nil _)));(·decide);(·rfl);(·rfl);(·rfl)))|(refine jaa (.slice 83 _ (some _) none none) ?_;((refine jac (jhx rfl rfl (by kernel_rfl) (by omega)) rfl ?_)))|(refine jaa (.call ⟨.builtin .len, _, #[83]⟩) ?_;(refine jac (jbe rfl (by kernel_rfl)) rfl ?_))|(refine jaa (.call ⟨.value (.func 60), _, _⟩) ?_;(apply jag (fid := 60);(·(repeat(first|exact SeA.nil|apply SeA.cons (.c (.d _)))));(·exact sp);(·rfl)))|refine jaj ?_|refine jak ?_|refine jai ?_|refine jab (id := 0) ?_|refine jab (id := 1) ?_|refine jab (id := 2) ?_)
  all_goals first|(exfalso;omega)|skip
  rw [wd]
  repeat' fail
  apply jay [2, 4, 6, 7, 24, 25, 26] [2, 4, 12, 14, 21, 22, 40, 41, 3055, 4055, 6055, 7055, 8055, 1003000, 1004000, 1006000, 1007000, 1008000] rfl;(·(repeat(first|exact Pf.nil|apply Pf.cons (.c rfl (.d rfl))|apply Pf.cons (.c rfl (.ls rfl))|apply Pf.cons (.c rfl (.lp rfl)))));(·(repeat(first|exact Pb.nil|apply Pb.cons (.row rfl)|(apply Pb.cons;(·apply Nb.box rfl;(repeat(first|exact Ncs.nil rfl|(apply Ncs.cons rfl;(·(first|exact .d rfl|exact .ls rfl)))))))|apply Pb.skip)))
  refine jbb [2, 4, 6, 24, 25] [2, 4, 21, 40, 41, 12, 3055, 4055, 6055, 7055, 8055, 14, 1003000, 1004000, 1006000, 1007000, 1008000] (fun (_ : Unit) => [(26, iN 0), (7, .c (.ls 22 1 0 0))]) (fun _ => [(22, .row 1 (cI []))]) (fun _ => True) (fun _ => 0) (()) ?_ (by (repeat(first|exact trivial|refine ⟨(by rfl), ?_⟩))) (by (repeat(first|exact trivial|refine ⟨(by ((refine jbm rfl ?_;simp;done))), ?_⟩))) ?_
  ·trivial
  intro _ _
  repeat' (first|refine zaa ?_|(refine jaa (.move _) ?_;(first|refine jac (jal rfl) rfl ?_|refine jac (jcg rfl) rfl ?_))|refine zac ?_|refine zbu ?_|refine zbv ?_|refine zak ?_|refine zah ?_|refine zar ?_|(refine jaa (.store 31 _ _) ?_;(refine jah rfl rfl rfl (by kernel_rfl) rfl rfl ?_))|(refine jaa (.alloc 93) ?_;refine jav (zs := [.int .i64 0, .int .i64 0]) (by kernel_rfl) rfl ?_)|(refine jaa (.store 93 _ _) ?_;(refine jah rfl rfl rfl (by kernel_rfl) rfl rfl ?_))|refine zbj ?_|refine zat ?_|refine zag ?_|(refine jaa (.call ⟨.value (.func 62), _, _⟩) ?_;((apply jag (fid := 62);(·(repeat(first|exact SeA.nil|apply SeA.cons (.c (.d _))|apply SeA.cons (.c (.all _ _ _ _ rfl (by ((simp;done))))))));(·exact co1);(·rfl))))|(refine jaa (.call ⟨.value (.func 65), _, _⟩) ?_;((apply jag (fid := 65);(·(repeat(first|exact SeA.nil|apply SeA.cons (.c (.d _))|(apply SeA.cons;(·(apply SeP.g;(repeat(first|exact SeL.nil|apply SeL.cons (.d _)|apply SeL.cons (.all _ _ _ _ rfl (by ((simp;done))))))))))));(·exact ak);(·rfl))))|refine jaj ?_|refine jbg rfl rfl rfl rfl ?_|refine jak ?_|refine jar rfl ?_|refine jan ?_|refine jab ?_|refine jbd 18 (fun _ => false) (.step 0 true (.step 1 true (.step 2 true (.step 3 true (.step 4 false (.step 5 true (.step 6 true (.step 7 true (.step 8 true (.step 9 true .nil)))))))))) [(0, 1023, 1023, false), (0, 1023, 1023, true), (2, 1021, 1023, true), (4, 1019, 1023, false), (9, 1014, 1023, false), (16, 1007, 1023, true), (32, 991, 1023, true), (32, 991, 1023, true), (127, 959, 1023, true), (511, 895, 1023, true)] (by kernel_rfl) (by kernel_rfl) ?_|refine jbj rfl ?_)
  all_goals first|(exfalso;omega)|(exfalso;simp at *;done)|skip
  all_goals (apply jat;apply jau;(·apply jbc.t;(·(apply GvA.cons;(·(apply RV.cellN (n := 10);(·rfl);(·rfl);(·kernel_rfl);(·rfl)));(·(apply GvP.g;(·(apply GvL.cons (.lit _));(apply GvL.cons (.lit _));(apply GvL.cons (.lit _));((apply GvL.cons (.row _ _ _ _ rfl (by ((simp;done))))));((apply GvL.cons (.row _ _ _ _ rfl (by ((simp;done))))));(apply GvL.cons (.lit _));((apply GvL.cons (.row _ _ _ _ rfl (by ((simp;done))))));((apply GvL.cons (.row _ _ _ _ rfl (by ((simp;done))))));((apply GvL.cons (.row _ _ _ _ rfl (by ((simp;done))))));(apply GvL.cons (.lit _));exact GvL.nil))));(apply GvA.cons;(·exact .tmp _);(·exact GvP.c (.lit _)));exact GvA.nil);(·rfl);(·decide)))
  all_goals rfl
 | false =>
  rw [if_neg (by simp)]
  refine jco Tryz.func23 rfl rfl rfl (by kernel_rfl) rfl rfl ?_;intro _
  repeat' (first|(refine jaa (.box 31 _) ?_;refine jbh rfl rfl ?_)|(refine jaa (.alloc 31) ?_;refine jav (zs := [.int .i64 0, .int .i64 0, .int .i64 0, .slice none 0 0, .slice none 0 0, .int .i64 0, .slice none 0 0, .slice none 0 0, .slice none 0 0, .int .i64 0]) (by kernel_rfl) rfl ?_)|refine zaa ?_|refine zab ?_|(refine jaa (.buildSlice 27 0 _) ?_;(apply jao (sz := 1) (by_ := 8);(·kernel_rfl);(·decide);(·(repeat(exact GvS.nil _)));(·decide);(·rfl);(·rfl);(·rfl)))|(refine jaa (.slice 83 _ (some _) none none) ?_;((refine jac (jhx rfl rfl (by kernel_rfl) (by omega)) rfl ?_)))|(refine jaa (.call ⟨.builtin .len, _, #[83]⟩) ?_;(refine jac (jbe rfl (by kernel_rfl)) rfl ?_))|(refine jaa (.call ⟨.value (.func 60), _, _⟩) ?_;(apply jag (fid := 60);(·(repeat(first|exact SeA.nil|apply SeA.cons (.c (.d _)))));(·exact sp);(·rfl)))|refine jaj ?_|refine jak ?_|refine jai ?_|refine jab (id := 0) ?_|refine jab (id := 1) ?_|refine jab (id := 2) ?_)
  all_goals first|(exfalso;omega)|skip
  rw [wd]
  repeat' fail
  apply jay [2, 4, 6, 7, 24, 25, 26] [2, 4, 12, 14, 21, 22, 40, 41, 3055, 4055, 6055, 7055, 8055, 1003000, 1004000, 1006000, 1007000, 1008000] rfl;(·(repeat(first|exact Pf.nil|apply Pf.cons (.c rfl (.d rfl))|apply Pf.cons (.c rfl (.ls rfl))|apply Pf.cons (.c rfl (.lp rfl)))));(·(repeat(first|exact Pb.nil|apply Pb.cons (.row rfl)|(apply Pb.cons;(·apply Nb.box rfl;(repeat(first|exact Ncs.nil rfl|(apply Ncs.cons rfl;(·(first|exact .d rfl|exact .ls rfl)))))))|apply Pb.skip)))
  refine jbb [2, 4, 6, 24, 25] [2, 4, 21, 40, 41, 12, 3055, 4055, 6055, 7055, 8055, 14, 1003000, 1004000, 1006000, 1007000, 1008000] (fun (_ : Unit) => [(26, iN 0), (7, .c (.ls 22 1 0 0))]) (fun _ => [(22, .row 1 (cI []))]) (fun _ => True) (fun _ => 0) (()) ?_ (by (repeat(first|exact trivial|refine ⟨(by rfl), ?_⟩))) (by (repeat(first|exact trivial|refine ⟨(by ((refine jbm rfl ?_;simp;done))), ?_⟩))) ?_
  ·trivial
  intro _ _
  repeat' (first|refine zaa ?_|(refine jaa (.move _) ?_;(first|refine jac (jal rfl) rfl ?_|refine jac (jcg rfl) rfl ?_))|refine zac ?_|refine zbu ?_|refine zbv ?_|refine zak ?_|refine zah ?_|refine zar ?_|(refine jaa (.store 31 _ _) ?_;(refine jah rfl rfl rfl (by kernel_rfl) rfl rfl ?_))|(refine jaa (.alloc 93) ?_;refine jav (zs := [.int .i64 0, .int .i64 0]) (by kernel_rfl) rfl ?_)|(refine jaa (.store 93 _ _) ?_;(refine jah rfl rfl rfl (by kernel_rfl) rfl rfl ?_))|refine zag ?_|(refine jaa (.call ⟨.value (.func 62), _, _⟩) ?_;((apply jag (fid := 62);(·(repeat(first|exact SeA.nil|apply SeA.cons (.c (.d _))|apply SeA.cons (.c (.all _ _ _ _ rfl (by ((simp;done))))))));(·exact co1);(·rfl))))|(refine jaa (.call ⟨.value (.func 65), _, _⟩) ?_;((apply jag (fid := 65);(·(repeat(first|exact SeA.nil|apply SeA.cons (.c (.d _))|(apply SeA.cons;(·(apply SeP.g;(repeat(first|exact SeL.nil|apply SeL.cons (.d _)|apply SeL.cons (.all _ _ _ _ rfl (by ((simp;done))))))))))));(·exact ak);(·rfl))))|refine jaj ?_|refine jbn rfl rfl rfl rfl ?_|refine jak ?_|refine jar rfl ?_|refine jan ?_|refine jab ?_|refine jbd 18 (fun _ => false) (.step 0 true (.step 1 true (.step 2 true (.step 3 true (.step 4 false (.step 5 true (.step 6 true (.step 7 true (.step 8 true (.step 9 true .nil)))))))))) [(0, 1023, 1023, false), (0, 1023, 1023, true), (2, 1021, 1023, true), (4, 1019, 1023, false), (9, 1014, 1023, false), (16, 1007, 1023, true), (32, 991, 1023, true), (32, 991, 1023, true), (127, 959, 1023, true), (511, 895, 1023, true)] (by kernel_rfl) (by kernel_rfl) ?_|refine jbk rfl ?_|refine jbj rfl ?_)
  all_goals first|(exfalso;omega)|(exfalso;simp at *;done)|skip
  all_goals (apply jat;apply jau;(·apply jbc.t;(·(apply GvA.cons;(·(apply RV.cellN (n := 10);(·rfl);(·rfl);(·kernel_rfl);(·rfl)));(·(apply GvP.g;(·(apply GvL.cons (.lit _));(apply GvL.cons (.lit _));(apply GvL.cons (.lit _));((apply GvL.cons (.row _ _ _ _ rfl (by ((simp;done))))));((apply GvL.cons (.row _ _ _ _ rfl (by ((simp;done))))));(apply GvL.cons (.lit _));((apply GvL.cons (.row _ _ _ _ rfl (by ((simp;done))))));((apply GvL.cons (.row _ _ _ _ rfl (by ((simp;done))))));((apply GvL.cons (.row _ _ _ _ rfl (by ((simp;done))))));(apply GvL.cons (.lit _));exact GvL.nil))));(apply GvA.cons;(·exact .tmp _);(·exact GvP.c (.lit _)));exact GvA.nil);(·rfl);(·decide)))
  all_goals rfl
theorem jmf (X Y : Nat) (wh : Int) (bll : List (List Int)) (pl : List Int) (E : Nat) (cc : List (List Int)) (ss nu : List Int) (co : Int) (hB : hallB X Y wh bll pl E cc ss nu co = true) (line : Tx) (hc : cmdB line = true) (hs : splitT 32 line = [line]) (hk : callO line [] = none) (r : Tx) (ok : Bool)
  (ak : PC Tryz.prog 65 [.g [dI X, dI Y, dI wh, eII bll, eI pl, dI E, eII cc, eI ss, eI nu, dI co], .c (dT line)] (.t [.c (dT r), .c (dB ok)])) :
  ∃ (rp : Tx) (rc : Int), PC Tryz.prog 8 [.g [dI X, dI Y, dI wh, eII bll, eI pl, dI E, eII cc, eI ss, eI nu, dI co, dS ByteArray.empty, dS ByteArray.empty, dI 0], .c (dT line)] (.t [.g [dI X, dI Y, dI wh, eII bll, eI pl, dI E, eII cc, eI ss, eI nu, dI co, dT [], dT rp, dI rc], .c (dT (if ok = true then r else qT))]) := by
 have v0 : validB [] [] 0 = true := by decide +kernel
 have iv : PC Tryz.prog 21 [.g [dI X, dI Y, dI wh, eII bll, eI pl, dI E, eII cc, eI ss, eI nu, dI co, dT [], dT [], dI 0]] (.p (.c (dB true))) := by
  have := IsValidConsole_p X Y wh bll pl E cc ss nu co [] [] 0 (by simp)
  rwa [hB, v0] at this
 have ic : PC Tryz.prog 22 [.c (dT line)] (.p (.c (dB true))) := by
  have : PC Tryz.prog 22 [.c (dT line)] (.p (.c (dB (cmdB line)))) := isCommand_p line
  rwa [hc] at this
 have hl : line.length ≤ 160 := by
  simp only [cmdB, plainB, Bool.and_eq_true, decide_eq_true_eq] at hc
  omega
 have dd := jgm hB
 have bl := dd.bl;have br := dd.br;have cl := dd.cl;have cr := dd.cr;have cb := dd.cb;have sl := dd.sl;have pl6 := dd.pl6;have nl := dd.nl
 have ow := own_p X Y wh bll pl E cc ss nu co (by omega) br (by omega) cr cb (by omega) (by omega) (by omega)
 have ex := jou X Y wh bll pl E cc ss nu co line (by omega) hs hk r ok ak
 clear ak hs hk hc
 generalize (if ok = true then r else qT) = rep at *
 have ap : ∃ (rp : Tx) (rc z : Int), PC Tryz.prog 24 [.g [dT [], dT [], dI 0], .g [dT line, dT rep]] (.t [.g [dT [], dT rp, dI rc], .c (dI z)]) := by
  cases hr : recB line rep with
  | true => exact ⟨_, _, _, AppendRecord_p [] [] 0 line rep (by simp) v0 hr (by omega)⟩
  | false => exact ⟨_, _, _, jip [] [] 0 line rep (by simp) (by rw [hr];simp)⟩
 obtain ⟨rp, rc, z, ap⟩ := ap
 refine ⟨rp, rc, ?_⟩
 clear v0 hB
 refine jaq Tryz.func8 rfl rfl rfl (by kernel_rfl) rfl rfl ?_;intro _
 repeat' (first|(with_reducible apply jfb)|intro Y hY|((with_reducible apply jdo);(·assumption);(·rfl);(·exact (by (repeat(first|exact trivial|refine ⟨rfl, ?_⟩))));(·exact (by (repeat(first|exact trivial|refine ⟨rfl, ?_⟩)))))|((with_reducible apply jdy);(·rfl);(·(repeat(first|exact Pf.nil|apply Pf.cons (.c rfl (.d rfl))|apply Pf.cons (.c rfl (.lp rfl))|(apply Pf.cons;(·apply Nv.g rfl;(repeat(first|exact Ncs.nil rfl|(apply Ncs.cons rfl;(·(first|exact .d rfl|exact .ls rfl)))))))|apply Pf.skip)));(·(repeat(first|exact Pb.nil|apply Pb.cons (.row rfl)|(apply Pb.cons;(·apply Nb.box rfl;(repeat(first|exact Ncs.nil rfl|(apply Ncs.cons rfl;(·(exact .d rfl)))))))|apply Pb.skip)));(·assumption))|refine jcm ?_ ?_|(refine jaa (.box 36 _) ?_;refine jbh rfl rfl ?_)|(refine jaa (.alloc 36) ?_;refine jav (zs := [.int .i64 0, .int .i64 0, .int .i64 0, .slice none 0 0, .slice none 0 0, .int .i64 0, .slice none 0 0, .slice none 0 0, .slice none 0 0, .int .i64 0, .string ByteArray.empty, .string ByteArray.empty, .int .i64 0]) (by kernel_rfl) rfl ?_)|refine zaa ?_|(refine jaa (.fieldAddr 36 _ 0) ?_;(refine jac (jad (off := 0) rfl (by kernel_rfl)) rfl ?_))|refine zar ?_|(refine jaa (.fieldAddr 36 _ 1) ?_;(refine jac (jad (off := 10) rfl (by kernel_rfl)) rfl ?_))|(refine jaa (.load 34 _) ?_;(refine jac (jae rfl rfl (by kernel_rfl : tAgg _ 34 3 = true) rfl) rfl ?_))|(refine jaa (.build 36 _) ?_;refine jac (jbv (cs := [_, _, _, _, _, _, _, _, _, _, _, _, _]) [(0, 10), (10, 3)] [.int .i64 0, .int .i64 0, .int .i64 0, .slice none 0 0, .slice none 0 0, .int .i64 0, .slice none 0 0, .slice none 0 0, .slice none 0 0, .int .i64 0, .string ByteArray.empty, .string ByteArray.empty, .int .i64 0] (by kernel_rfl) (by kernel_rfl) rfl) rfl ?_)|(refine jaa (.store 36 _ _) ?_;(refine jah rfl rfl rfl (by kernel_rfl) rfl rfl ?_))|(refine jaa (.load 36 _) ?_;(refine jac (jae rfl rfl (by kernel_rfl : tAgg _ 36 13 = true) rfl) rfl ?_))|refine zah ?_|(refine jaa (.move _) ?_;(first|refine jac (jal rfl) rfl ?_|refine jac (jcg rfl) rfl ?_))|refine zcp ?_|refine zaf ?_|refine zai ?_|refine zak ?_|(refine jaa (.alloc 31) ?_;refine jav (zs := [.int .i64 0, .int .i64 0, .int .i64 0, .slice none 0 0, .slice none 0 0, .int .i64 0, .slice none 0 0, .slice none 0 0, .slice none 0 0, .int .i64 0]) (by kernel_rfl) rfl ?_)|(refine jaa (.store 31 _ _) ?_;(refine jah rfl rfl rfl (by kernel_rfl) rfl rfl ?_))|(refine jaa (.build 67 _) ?_;refine jac (jbv (cs := [_, _]) [(0, 1), (1, 1)] [.string ByteArray.empty, .string ByteArray.empty] (by kernel_rfl) (by kernel_rfl) rfl) rfl ?_)|(refine jaa (.alloc 34) ?_;refine jav (zs := [.string ByteArray.empty, .string ByteArray.empty, .int .i64 0]) (by kernel_rfl) rfl ?_)|(refine jaa (.store 34 _ _) ?_;(refine jah rfl rfl rfl (by kernel_rfl) rfl rfl ?_))|(refine jaa (.call ⟨.value (.func 19), _, _⟩) ?_;((apply jbq (fid := 19);(·(repeat(first|exact SeA.nil|(apply SeA.cons;(·(apply SeP.g;(repeat(first|exact SeL.nil|apply SeL.cons (.d _)))))))));(·exact ow);(·rfl);(·rfl))))|(refine jaa (.call ⟨.value (.func 21), _, _⟩) ?_;((apply jag (fid := 21);(·(repeat(first|exact SeA.nil|(apply SeA.cons;(·(apply SeP.g;(repeat(first|exact SeL.nil|apply SeL.cons (.d _)))))))));(·exact iv);(·rfl))))|(refine jaa (.call ⟨.value (.func 22), _, _⟩) ?_;((apply jag (fid := 22);(·(repeat(first|exact SeA.nil|apply SeA.cons (.c (.d _)))));(·exact ic);(·rfl))))|(refine jaa (.call ⟨.value (.func 23), _, _⟩) ?_;((apply jej (fid := 23);(·(repeat(first|exact jhd.nil|apply jhd.c rfl (.lit _)|(apply jhd.g rfl;(·(repeat(first|exact GvM.nil|apply GvM.cons (.lit _)|apply GvM.cons (.row _ _ _ _ rfl (by ((simp;done)))))))))));(·decide);(·exact ex);(·rfl);(·rfl);(·rfl))))|(refine jaa (.call ⟨.value (.func 24), _, _⟩) ?_;((apply jag (fid := 24);(·(repeat(first|exact SeA.nil|(apply SeA.cons;(·(apply SeP.g;(repeat(first|exact SeL.nil|apply SeL.cons (.d _)))))))));(·exact ap);(·rfl))))|refine jaj ?_|refine jak ?_|refine jai ?_|refine jaz ?_|refine jan ?_|refine jab ?_|refine jbd 1 (fun i => i == 2 || i == 7) (IT.lt (.step 7 false .nil) fun Y2 => (IT.lt (.step 6 false (IT.ref false [1, 2, 4, 6, 16] [2, 4, 3013, 4013, 6013, 7013, 8013, 6] Y2)) fun Y1 => (IT.lt (.step 2 false (.step 5 true (IT.ref false [1, 2, 4, 6, 16] [2, 4, 3013, 4013, 6013, 7013, 8013, 6] Y2))) fun Y0 => (.step 0 true (.step 1 true (.step 3 true (.alt 1 (.step 2 false (.step 4 true (.step 5 true (IT.ref true [1, 2, 4, 6, 16] [2, 4, 3013, 4013, 6013, 7013, 8013, 6] Y1)))) (.alt 1 (.step 4 false (.alt 1 (.step 2 false (.step 5 true (IT.ref false [1, 2, 4, 6, 16] [2, 4, 3013, 4013, 6013, 7013, 8013, 6] Y1))) (.step 6 false (IT.ref true [1, 2, 4, 6, 12, 15] [2, 4, 3013, 4013, 6013, 7013, 8013, 6] Y0)))) (.step 6 false (.alt 1 (.step 2 false (.step 4 true (.step 5 true (IT.ref true [1, 2, 4, 6, 16] [2, 4, 3013, 4013, 6013, 7013, 8013, 6] Y2)))) (.step 4 false (IT.ref false [1, 2, 4, 6, 12, 15] [2, 4, 3013, 4013, 6013, 7013, 8013, 6] Y0)))))))))))) [(0, 255, 255, true), (1, 254, 255, false), (2, 253, 255, false), (0, 255, 251, true), (8, 247, 251, false), (20, 235, 251, true), (0, 255, 251, false), (127, 159, 251, false)] (by kernel_rfl) (by kernel_rfl) ?_|refine jbj rfl ?_)
 all_goals first|(exfalso;omega)|(exfalso;simp at *;done)|skip
 all_goals (apply jat;apply jau;(·apply jbc.t;(·(apply GvA.cons;(·(apply RV.cellN (n := 13);(·rfl);(·rfl);(·kernel_rfl);(·rfl)));(·(apply GvP.g;(·(apply GvL.cons (.lit _));(apply GvL.cons (.lit _));(apply GvL.cons (.lit _));((apply GvL.cons (.row _ _ _ _ rfl (by ((simp;done))))));((apply GvL.cons (.row _ _ _ _ rfl (by ((simp;done))))));(apply GvL.cons (.lit _));((apply GvL.cons (.row _ _ _ _ rfl (by ((simp;done))))));((apply GvL.cons (.row _ _ _ _ rfl (by ((simp;done))))));((apply GvL.cons (.row _ _ _ _ rfl (by ((simp;done))))));(apply GvL.cons (.lit _));(apply GvL.cons (.lit _));(apply GvL.cons (.lit _));(apply GvL.cons (.lit _));exact GvL.nil))));(apply GvA.cons;(·exact .tmp _);(·exact GvP.c (.lit _)));exact GvA.nil);(·rfl);(·decide)))
 all_goals rfl
theorem txt_no {n : Int} {b : UInt8} (h1 : b ≠ 45) (h2 : b.toNat < 48 ∨ 57 < b.toNat) : b ∉ txtZ n := by
 unfold txtZ
 split
 ·rw [List.mem_cons, not_or]
  exact ⟨h1, jjy h2⟩
 ·exact jjy h2
def lenW (ws : List Tx) (k : Nat) : Nat := ((ws.take k).map List.length).sum
theorem jld {ws : List Tx} {k : Nat} (h : k < ws.length) : lenW ws (k + 1) = lenW ws k + (atZ ws (k : Int)).length := by
 unfold lenW
 rw [List.take_succ_eq_append_getElem h, jbw h, List.map_append, List.map_singleton, List.sum_append]
 simp only [List.sum_cons, List.sum_nil, Nat.add_zero]
theorem lenW_le {ws : List Tx} (h : ∀ w ∈ ws, w.length ≤ 7) : ∀ k, k ≤ ws.length → lenW ws k ≤ 7 * k
 | 0, _ => by simp [lenW]
 | k + 1, hk => by
  have ih := lenW_le h k (by omega)
  have := h _ (List.getElem_mem (show k < ws.length by omega))
  rw [jld (by omega), jbw (by omega)]
  omega
theorem JoinStrings_p (ws : List Tx) (h0 : ws ≠ []) (hl : ws.length ≤ 100) (h7 : ∀ w ∈ ws, w.length ≤ 7) (hs : ∀ w ∈ ws, 32 ∉ w) : PC Tryz.prog 37 [.c (eT ws), .c (dT [32])] (.t [.c (dT (joinT 32 ws)), .c (dB true)]) := by
 have hj := jfk 32 h7
 have jp := join_p ws 32 (by omega) (by omega)
 have hp : 0 < ws.length := List.length_pos_iff.2 h0
 have sl := lenW_le h7
 have one : (([32] : Tx).length : Int) = 1 := rfl
 refine jaq Tryz.func37 rfl rfl rfl (by kernel_rfl) rfl rfl ?_;intro _
 repeat' (first|refine zaa ?_|refine zab ?_|(refine jaa (.call ⟨.builtin .len, _, #[83]⟩) ?_;(refine jac (jbe rfl (by kernel_rfl)) rfl ?_))|refine zai ?_|refine zbc ?_|refine zbp ?_|refine zag ?_|refine zan ?_|refine jaj ?_|refine jbn rfl rfl rfl rfl ?_|refine jbg rfl rfl rfl rfl ?_|refine jca rfl rfl (fun hg => ?_) (fun hg => ?_)|refine jak ?_|refine jai ?_|refine jan ?_|refine jab ?_|refine jbk rfl ?_|refine jbj rfl ?_)
 all_goals first|(exfalso;omega)|(exfalso;simp_all;done)|skip
 apply jay [0, 1, 6, 20, 21, 22] [] rfl;(·(repeat(first|exact Pf.nil|apply Pf.cons (.c rfl (.d rfl)))));(·(repeat(exact Pb.nil)))
 refine jbb [0, 1, 20, 21] [] (fun k => [(22, iN k), (6, iZ ((ws.length : Int) - 1 + (lenW ws k : Nat)))]) (fun _ => []) (fun k => k ≤ ws.length) (fun k => ws.length - k) (0) ?_ (by (repeat(first|exact trivial|refine ⟨(by (first|rfl|(refine jdr rfl ?_;((simp  [lenW];done))))), ?_⟩))) (by (repeat(exact trivial))) ?_
 ·omega
 intro k hk
 by_cases hk2 : k < ws.length
 ·have e := jld hk2
  have l1 := sl (k + 1) (by omega)
  have l0 := sl k (by omega)
  have nm : 32 ∉ atZ ws (k : Int) := by rw [jbw hk2];exact hs _ (List.getElem_mem hk2)
  have sc := strContains_p (atZ ws (k : Int)) 32
  rw [show (atZ ws (k : Int)).contains 32 = false by simpa using nm] at sc
  clear sl
  generalize lenW ws k = s0 at *
  repeat' (first|refine zaa ?_|refine zab ?_|refine zbc ?_|refine zag ?_|refine zac ?_|refine zbu ?_|refine zbv ?_|refine zad ?_|refine zat ?_|(refine jaa (.call ⟨.value (.func 82), _, _⟩) ?_;(apply jag (fid := 82);(·(repeat(first|exact SeA.nil|apply SeA.cons (.c (.d _)))));(·exact sc);(·rfl)))|refine jaj ?_|refine jbn rfl rfl rfl rfl ?_|refine jbg rfl rfl rfl rfl ?_|refine jca rfl rfl (fun hg => ?_) (fun hg => ?_)|refine jak ?_|refine jai ?_|refine jaz ?_|refine jar rfl ?_|refine jan ?_|refine jab ?_|refine jbk rfl ?_|refine jbj rfl ?_|refine jbi rfl (fun hc => ?_) (fun hc => ?_))
  all_goals first|(exfalso;omega)|(exfalso;simp_all;done)|skip
  refine jba ?_;refine ⟨k + 1, ?_, ?_, jbx rfl (by (repeat(first|exact trivial|refine ⟨(by (first|rfl|(refine jdr rfl ?_;(omega)))), ?_⟩))) (by (repeat(first|exact trivial|refine ⟨rfl, ?_⟩))) (by (repeat(exact trivial))) (by (repeat(exact trivial)))⟩
  ·omega
  ·omega
 ·obtain rfl : k = ws.length := by omega
  repeat' (first|refine zaa ?_|refine zab ?_|refine zbc ?_|refine zag ?_|refine zac ?_|refine zbu ?_|refine zbv ?_|refine zad ?_|refine zat ?_|(refine jaa (.call ⟨.value (.func 81), _, _⟩) ?_;(apply jag (fid := 81);(·(repeat(first|exact SeA.nil|apply SeA.cons (.c (.d _)))));(·exact jp);(·rfl)))|refine jaj ?_|refine jbn rfl rfl rfl rfl ?_|refine jbg rfl rfl rfl rfl ?_|refine jca rfl rfl (fun hg => ?_) (fun hg => ?_)|refine jak ?_|refine jai ?_|refine jar rfl ?_|refine jan ?_|refine jab ?_|refine jbk rfl ?_|refine jbi rfl (fun hc => ?_) (fun hc => ?_))
  all_goals first|(exfalso;omega)|skip
  all_goals (apply jat;apply jau;(·apply jbc.t;(·(apply GvA.cons;(·exact .tmp _);(·exact GvP.c (.lit _)));(apply GvA.cons;(·exact .tmp _);(·exact GvP.c (.lit _)));exact GvA.nil);(·rfl);(·decide)))
  all_goals rfl
theorem JoinStringsZ_p (l : List Int) (h0 : l ≠ []) (h : jfu l) (hl : l.length ≤ 100) : PC Tryz.prog 37 [.c (.sl 1 l.length (txtD l l.length)), .c (dT [32])] (.t [.c (dT (joinN l)), .c (dB true)]) := by
 have j := JoinStrings_p (l.map txtZ) (by simpa using h0) (by simpa using hl) (fun w hw => by
  obtain ⟨n, hn, rfl⟩ := List.mem_map.1 hw
  exact (jfo (h n hn)).2) (fun w hw => by
  obtain ⟨n, hn, rfl⟩ := List.mem_map.1 hw
  exact txt_no (by decide) (.inl (by decide)))
 unfold eT at j
 rw [List.length_map] at j
 rw [jmt]
 exact j
theorem vWord_p (n : Int) (h : -999999 ≤ n ∧ n ≤ 999999) : PC Tryz.prog 15 [.c (dI n), .c (dB true)] (.p (.c (dT (txtZ n)))) := by
 refine jaq Tryz.func15 rfl rfl rfl (by kernel_rfl) rfl rfl ?_;intro _
 repeat' (first|refine zaa ?_|(refine jaa (.move _) ?_;(first|refine jac (jal rfl) rfl ?_|refine jac (jcg rfl) rfl ?_))|refine zah ?_|refine zak ?_|(refine jaa (.call ⟨.value (.func 36), _, _⟩) ?_;(apply jag (fid := 36);(·(repeat(first|exact SeA.nil|apply SeA.cons (.c (.d _)))));(·exact FormatInt_p n h);(·rfl)))|refine jaj ?_|refine jak ?_|refine jan ?_|refine jab ?_|refine jbj rfl ?_)
 all_goals first|(exfalso;simp_all;done)|skip
 all_goals (apply jat;apply jau;(·apply jbc.p;(·(apply GvA.cons;(·exact .tmp _);(·exact GvP.c (.lit _)));exact GvA.nil);(·decide)))
 all_goals rfl
theorem vWords_p (l : List Int) (h : jfu l) (hl : l.length ≤ 100) : PC Tryz.prog 16 [.c (eI l), .c (dB true)] (.p (.c (dT (sayL l)))) := by
 refine jaq Tryz.func16 rfl rfl rfl (by kernel_rfl) rfl rfl ?_;intro _
 repeat' (first|refine zaa ?_|refine zab ?_|refine zah ?_|(refine jaa (.buildSlice 83 0 _) ?_;(apply jao (sz := 1) (by_ := 16);(·kernel_rfl);(·decide);(·(repeat(exact GvS.nil _)));(·decide);(·rfl);(·rfl);(·rfl)))|refine jaj ?_|refine jak ?_|refine jai ?_|refine jan ?_|refine jab ?_|refine jbj rfl ?_)
 all_goals first|(exfalso;simp_all;done)|skip
 apply jay [0, 5, 6] [11, 24, 25] rfl;(·(repeat(first|exact Pf.nil|apply Pf.cons (.c rfl (.d rfl))|apply Pf.cons (.c rfl (.ls rfl)))));(·(repeat(first|exact Pb.nil|apply Pb.cons (.row rfl)|apply Pb.skip)))
 refine jbb [0] [24, 25] (fun k => [(6, iN k), (5, .c (.ls 11 1 0 k))]) (fun k => [(11, .row 1 (txtD l k))]) (fun k => k ≤ l.length) (fun k => l.length - k) (0) ?_ (by (repeat(first|exact trivial|refine ⟨(by rfl), ?_⟩))) (by (repeat(first|exact trivial|refine ⟨(by ((refine jbm rfl ?_;simp  [jho];done))), ?_⟩))) ?_
 ·omega
 intro k hk
 have hlk := txtD_len hk
 by_cases h2 : k < l.length
 ·have hs := h.at h2
  repeat' (first|refine zaa ?_|refine zab ?_|refine zas ?_|refine zac ?_|refine zao ?_|refine zap ?_|(refine jaa (.buildSlice 83 1 _) ?_;(apply jao (sz := 1) (by_ := 16);(·kernel_rfl);(·decide);(·(repeat(first|exact GvS.nil _|apply GvS.c rfl rfl (.lit _) rfl)));(·decide);(·rfl);(·rfl);(·rfl)))|(refine jaa (.call ⟨.builtin .append, _, #[83, 83]⟩) ?_;((apply jbo (sz := 1) (by_ := 16);(·rfl);(·rfl);(·((simp;omega)));(·exact .row _ _ _ _ rfl (by ((simp;done))));(·decide);(·kernel_rfl);(·decide);(·omega);(·omega);(·rfl);(·rfl);(·rfl))))|refine zad ?_|refine zcb ?_|refine zai ?_|(refine jaa (.call ⟨.value (.func 15), _, _⟩) ?_;(apply jag (fid := 15);(·(repeat(first|exact SeA.nil|apply SeA.cons (.c (.d _)))));(·exact vWord_p (atZ l (k : Int)) hs);(·rfl)))|refine jaj ?_|refine jak ?_|refine jai ?_|refine jaz ?_|refine jar rfl ?_|refine jan ?_|refine jab ?_|refine jbi rfl (fun hc => ?_) (fun hc => ?_))
  all_goals first|(exfalso;omega)|(exfalso;simp_all;done)|skip
  refine jba ?_;refine ⟨k + 1, ?_, ?_, jbx rfl (by (repeat(first|exact trivial|refine ⟨(by rfl), ?_⟩))) (by (repeat(first|exact trivial|refine ⟨rfl, ?_⟩))) (by (repeat(first|exact trivial|refine ⟨(by ((refine jbm rfl ?_;simp  [jhp h2];done))), ?_⟩))) (by (repeat(first|exact trivial|refine ⟨.inr rfl, ?_⟩)))⟩
  ·omega
  ·omega
 ·obtain rfl : k = l.length := by omega
  by_cases h0 : l = []
  ·subst h0
   repeat' (first|refine zaa ?_|refine zab ?_|refine zas ?_|refine zac ?_|refine zcb ?_|refine zai ?_|refine jaj ?_|refine jak ?_|refine jar rfl ?_|refine jab ?_|refine jbk rfl ?_|refine jbj rfl ?_)
   all_goals first|(exfalso;omega)|(exfalso;simp_all;done)|skip
   all_goals (apply jat;apply jau;(·apply jbc.p;(·(apply GvA.cons;(·exact .tmp _);(·exact GvP.c (.lit _)));exact GvA.nil);(·decide)))
   all_goals rfl
  ·have hp : 0 < l.length := List.length_pos_iff.2 h0
   have hsay : sayL l = joinN l := if_neg h0
   have jp := JoinStringsZ_p l h0 h hl
   repeat' (first|refine zaa ?_|(refine jaa (.move _) ?_;(first|refine jac (jal rfl) rfl ?_|refine jac (jcg rfl) rfl ?_))|refine zas ?_|refine zac ?_|refine zao ?_|refine zap ?_|refine zcb ?_|refine zai ?_|refine zak ?_|(refine jaa (.call ⟨.value (.func 37), _, _⟩) ?_;(apply jag (fid := 37);(·(repeat(first|exact SeA.nil|apply SeA.cons (.c (.d _))|apply SeA.cons (.c (.all _ _ _ _ rfl (by ((simp;done))))))));(·exact jp);(·rfl)))|refine jaj ?_|refine jak ?_|refine jai ?_|refine jar rfl ?_|refine jan ?_|refine jab ?_|refine jbi rfl (fun hc => ?_) (fun hc => ?_))
   all_goals first|(exfalso;omega)|(exfalso;simp_all;done)|skip
   all_goals (apply jat;apply jau;(·apply jbc.p;(·(apply GvA.cons;(·exact .tmp _);(·exact GvP.c (.lit _)));exact GvA.nil);(·decide)))
   all_goals rw [hsay]
theorem jpg (l : List Int) : PC Tryz.prog 16 [.c (eI l), .c (dB false)] (.p (.c (dT qT))) := by
 refine jaq Tryz.func16 rfl rfl rfl (by kernel_rfl) rfl rfl ?_;intro _
 repeat' (first|refine zaa ?_|refine zab ?_|refine zah ?_|refine jaj ?_|refine jak ?_|refine jab ?_|refine jbk rfl ?_)
 all_goals first|(exfalso;simp_all;done)|skip
 all_goals (apply jat;apply jau;(·apply jbc.p;(·(apply GvA.cons;(·exact .tmp _);(·exact GvP.c (.lit _)));exact GvA.nil);(·decide)))
 all_goals rfl
theorem word_ok : ∀ j : Nat, j < 15 → cmdB (quesW.getD j []) = true ∧ splitT 32 (quesW.getD j []) = [quesW.getD j []] ∧ callO (quesW.getD j []) [] = none := by decide +kernel
set_option maxHeartbeats 40000000 in
theorem FnConsoleWords_p (code : Tx) : PC Tryz.prog 3 [.c (eB code)] (.p (.c (dB true))) := by
  by_cases hbig : code.length ≤ 65536
  · refine jaq Tryz.func3 rfl rfl rfl (by kernel_rfl) rfl rfl ?_;intro _
    repeat' (first|refine zaa ?_|refine zab ?_|(refine jaa (.alloc 31) ?_;refine jav (zs := [.int .i64 0, .int .i64 0, .int .i64 0, .slice none 0 0, .slice none 0 0, .int .i64 0, .slice none 0 0, .slice none 0 0, .slice none 0 0, .int .i64 0]) (by kernel_rfl) rfl ?_)|(refine jaa (.store 31 _ _) ?_;(refine jah rfl rfl rfl (by kernel_rfl) rfl rfl ?_))|(refine jaa (.call ⟨.value (.func 4), _, _⟩) ?_;(apply jag (fid := 4);(·(repeat(first|exact SeA.nil|apply SeA.cons (.c (.d _)))));(·exact vBig_p _);(·rfl)))|(refine jaa (.call ⟨.value (.func 5), _, _⟩) ?_;(apply so_callVE (fid := 5);(·(repeat(first|exact SdA.nil|apply SdA.c rfl)));(·exact DrawIsHall_p _);(·rfl);(rintro _ ⟨bx, by_, bwh, bll, pl, ev, cc, ss, nu, co, hb, rfl⟩)))|refine jaj ?_|refine jak ?_|refine jan ?_|refine jab (id := 0) ?_|refine jab (id := 1) ?_|refine jab (id := 2) ?_|refine jab (id := 3) ?_|refine jbi rfl (fun hc => ?_) (fun hc => ?_))
    all_goals first|(exfalso;omega)|(exfalso;simp_all;done)|skip
    have nc := NewConsole_p bx by_ bwh bll pl ev cc ss nu co
    cases hB : hallB bx by_ bwh bll pl ev cc ss nu co with
    | false =>
      have ih := spIsHall_p bx by_ bwh bll pl ev cc ss nu co
      rw [hB] at ih
      simp only [hB, whenN, whenL, whenA, Bool.false_eq_true, if_false] at nc
      repeat' (first|refine zaa ?_|(refine jaa (.move _) ?_;(first|refine jac (jal rfl) rfl ?_|refine jac (jcg rfl) rfl ?_))|refine zar ?_|refine zak ?_|(refine jaa (.alloc 36) ?_;refine jav (zs := [.int .i64 0, .int .i64 0, .int .i64 0, .slice none 0 0, .slice none 0 0, .int .i64 0, .slice none 0 0, .slice none 0 0, .slice none 0 0, .int .i64 0, .string ByteArray.empty, .string ByteArray.empty, .int .i64 0]) (by kernel_rfl) rfl ?_)|(refine jaa (.store 36 _ _) ?_;(refine jah rfl rfl rfl (by kernel_rfl) rfl rfl ?_))|refine zah ?_|(refine jaa (.call ⟨.value (.func 6), _, _⟩) ?_;((apply jag (fid := 6);(·(repeat(first|exact SeA.nil|(apply SeA.cons;(·(apply SeP.g;(repeat(first|exact SeL.nil|apply SeL.cons (.d _)))))))));(·exact nc);(·rfl))))|(refine jaa (.call ⟨.value (.func 7), _, _⟩) ?_;((apply jag (fid := 7);(·(repeat(first|exact SeA.nil|(apply SeA.cons;(·(apply SeP.g;(repeat(first|exact SeL.nil|apply SeL.cons (.d _)))))))));(·exact ih);(·rfl))))|refine jaj ?_|refine jak ?_|(apply jcw 4 [3] [3034, 4034, 6034, 7034, 8034, 3] rfl;(·(repeat(first|exact Pf.nil|apply Pf.cons (.c rfl (.lp rfl)))));(·(repeat(first|exact Pb.nil|(apply Pb.cons;(·apply Nb.box rfl;(repeat(first|exact Ncs.nil rfl|(apply Ncs.cons rfl;(·(exact .d rfl)))))))|apply Pb.skip)));refine jab (id := 4) ?_)|refine jab (id := 5) ?_|(apply jcw 6 [3] [3034, 4034, 6034, 7034, 8034, 3, 3037, 4037, 6037, 7037, 8037, 4] rfl;(·(repeat(first|exact Pf.nil|apply Pf.cons (.c rfl (.lp rfl)))));(·(repeat(first|exact Pb.nil|(apply Pb.cons;(·apply Nb.box rfl;(repeat(first|exact Ncs.nil rfl|(apply Ncs.cons rfl;(·(exact .d rfl)))))))|apply Pb.skip)));refine jab (id := 6) ?_)|refine jbk rfl ?_)
      all_goals first|(exfalso;omega)|(exfalso;simp at *;done)|skip
      all_goals (apply jat;apply jau;(·apply jbc.p;(·(apply GvA.cons;(·exact .tmp _);(·exact GvP.c (.lit _)));exact GvA.nil);(·decide)))
      all_goals rfl
    | true =>
      simp only [hB, whenN, whenL, whenA, if_true] at nc
      have hs := jed hB
      obtain ⟨X, Y, rfl, rfl, -, -⟩ := jgc hs.box
      obtain ⟨E, rfl⟩ := Int.eq_ofNat_of_zero_le (jcc hs.sc).e0
      have bd := jfl hB
      clear hs
      have W := fun j hj => word_ok j hj
      obtain ⟨p1, c1, x1⟩ := jmf X Y bwh bll pl E cc ss nu co hB _ (W 5 (by omega)).1 (W 5 (by omega)).2.1 (W 5 (by omega)).2.2 _ _ (asked5 X Y bwh bll pl E cc ss nu co hB)
      obtain ⟨p2, c2, x2⟩ := jmf X Y bwh bll pl E cc ss nu co hB _ (W 6 (by omega)).1 (W 6 (by omega)).2.1 (W 6 (by omega)).2.2 _ _ (asked6 X Y bwh bll pl E cc ss nu co hB)
      obtain ⟨p3, c3, x3⟩ := jmf X Y bwh bll pl E cc ss nu co hB _ (W 10 (by omega)).1 (W 10 (by omega)).2.1 (W 10 (by omega)).2.2 _ _ (asked10 X Y bwh bll pl E cc ss nu co hB)
      obtain ⟨p4, c4, x4⟩ := jmf X Y bwh bll pl E cc ss nu co hB _ (W 11 (by omega)).1 (W 11 (by omega)).2.1 (W 11 (by omega)).2.2 _ _ (asked11 X Y bwh bll pl E cc ss nu co hB)
      obtain ⟨p6, c6, x6⟩ := jmf X Y bwh bll pl E cc ss nu co hB _ (W 0 (by omega)).1 (W 0 (by omega)).2.1 (W 0 (by omega)).2.2 _ _ (asked0 X Y bwh bll pl E cc ss nu co hB)
      rw [if_pos rfl] at x1 x2 x3 x4 x6
      have g1 := GreatestSum_p X Y bwh bll bd.hbox
      have g2 := IsLocal_p X Y bwh bll bd.hbox
      have g3 := MostKept_p E cc ss bd.hsc
      have g4 : PC Tryz.prog 12 [.g [dI E, eII cc, eI ss]] (.t [.c (dI ((basM (masksM cc)).length : Nat)), .c (dB true)]) := RankOfScene_p E cc ss bd.hsc
      have g6 := BoxText_p X Y bwh bll bd.hbox
      have w1 := vWord_p _ (jif bd.hbox)
      have w3 := vWord_p _ (jje (cc := cc) (ss := ss) bd.c10 E (2 ^ E))
      have w4 := vWord_p _ (jjb (cc := cc) bd.c10)
      generalize greatI bll X Y = v1 at *
      generalize localB bll X Y bwh = v2 at *
      generalize (mostF cc ss E (2 ^ E)).1 = v3 at *
      generalize (basM (masksM cc)).length = v4 at *
      generalize boxT X Y bll = v6 at *
      have g5 : ∃ (l : List Int) (b : Bool) (v5 rp : Tx) (rc : Int), PC Tryz.prog 13 [.g [dI X, dI Y, dI bwh, eII bll]] (.t [.c (eI l), .c (dB b)]) ∧ PC Tryz.prog 16 [.c (eI l), .c (dB b)] (.p (.c (dT v5))) ∧
          PC Tryz.prog 8 [.g [dI X, dI Y, dI bwh, eII bll, eI pl, dI E, eII cc, eI ss, eI nu, dI co, dS ByteArray.empty, dS ByteArray.empty, dI 0], .c (dT (quesW.getD 13 []))] (.t [.g [dI X, dI Y, dI bwh, eII bll, eI pl, dI E, eII cc, eI ss, eI nu, dI co, dT [], dT rp, dI rc], .c (dT v5)]) := by
        by_cases hx : X = 2 ∧ Y = 2
        · obtain ⟨p5, c5, x5⟩ := jmf X Y bwh bll pl E cc ss nu co hB _ (W 13 (by omega)).1 (W 13 (by omega)).2.1 (W 13 (by omega)).2.2 _ _ (asked13y X Y bwh bll pl E cc ss nu co hB hx)
          obtain ⟨rfl, rfl⟩ := hx
          exact ⟨codeM bll, true, _, p5, c5, BoxCode_p bwh bll bd.hbox, vWords_p _ (jji (n := bwh) bd.hbox) (by simp [codeM]), x5⟩
        · obtain ⟨p5, c5, x5⟩ := jmf X Y bwh bll pl E cc ss nu co hB _ (W 13 (by omega)).1 (W 13 (by omega)).2.1 (W 13 (by omega)).2.2 _ _ (asked13n X Y bwh bll pl E cc ss nu co hB hx)
          exact ⟨[], false, _, p5, c5, jjk X Y bwh bll hx, jpg [], x5⟩
      obtain ⟨cl, cbb, v5, p5, c5, g5, w5, x5⟩ := g5
      clear W
      clear bd hB
      repeat' (first|refine zaa ?_|(refine jaa (.move _) ?_;(first|refine jac (jal rfl) rfl ?_|refine jac (jcg rfl) rfl ?_))|refine zar ?_|refine zak ?_|(refine jaa (.alloc 36) ?_;refine jav (zs := [.int .i64 0, .int .i64 0, .int .i64 0, .slice none 0 0, .slice none 0 0, .int .i64 0, .slice none 0 0, .slice none 0 0, .slice none 0 0, .int .i64 0, .string ByteArray.empty, .string ByteArray.empty, .int .i64 0]) (by kernel_rfl) rfl ?_)|(refine jaa (.store 36 _ _) ?_;(refine jah rfl rfl rfl (by kernel_rfl) rfl rfl ?_))|refine zah ?_|(refine jaa (.call ⟨.value (.func 6), _, _⟩) ?_;(apply jag (fid := 6);(·(repeat(first|exact SeA.nil|(apply SeA.cons;(·(apply SeP.g;(repeat(first|exact SeL.nil|apply SeL.cons (.d _)))))))));(·exact nc);(·rfl)))|refine jaj ?_|refine jak ?_|refine jan ?_|(apply jcw 4 [3] [3034, 4034, 6034, 7034, 8034, 3] rfl;(·(repeat(first|exact Pf.nil|apply Pf.cons (.c rfl (.lp rfl)))));(·(repeat(first|exact Pb.nil|(apply Pb.cons;(·apply Nb.box rfl;(repeat(first|exact Ncs.nil rfl|(apply Ncs.cons rfl;(·(exact .d rfl)))))))|apply Pb.skip)));refine jab (id := 4) ?_)|refine jab (id := 5) ?_|refine jbj rfl ?_)
      all_goals first|(exfalso;omega)|(exfalso;simp at *;done)|skip
      clear nc
      repeat' (first|refine zaa ?_|(refine jaa (.move _) ?_;(refine jac (jcg rfl) rfl ?_))|refine zak ?_|(refine jaa (.alloc 36) ?_;refine jav (zs := [.int .i64 0, .int .i64 0, .int .i64 0, .slice none 0 0, .slice none 0 0, .int .i64 0, .slice none 0 0, .slice none 0 0, .slice none 0 0, .int .i64 0, .string ByteArray.empty, .string ByteArray.empty, .int .i64 0]) (by kernel_rfl) rfl ?_)|(refine jaa (.store 36 _ _) ?_;(refine jah rfl rfl rfl (by kernel_rfl) rfl rfl ?_))|(refine jaa (.load 36 _) ?_;(refine jac (jae rfl rfl (by kernel_rfl : tAgg _ 36 13 = true) rfl) rfl ?_))|(refine jaa (.call ⟨.value (.func 8), _, _⟩) ?_;(first|(apply jag (fid := 8);(·(repeat(first|exact SeA.nil|apply SeA.cons (.c (.d _))|(apply SeA.cons;(·(apply SeP.g;(repeat(first|exact SeL.nil|apply SeL.cons (.d _)))))))));(·exact x1);(·rfl))|(apply jag (fid := 8);(·(repeat(first|exact SeA.nil|apply SeA.cons (.c (.d _))|(apply SeA.cons;(·(apply SeP.g;(repeat(first|exact SeL.nil|apply SeL.cons (.d _)))))))));(·exact x2);(·rfl))|(apply jag (fid := 8);(·(repeat(first|exact SeA.nil|apply SeA.cons (.c (.d _))|(apply SeA.cons;(·(apply SeP.g;(repeat(first|exact SeL.nil|apply SeL.cons (.d _)))))))));(·exact x3);(·rfl))|(apply jag (fid := 8);(·(repeat(first|exact SeA.nil|apply SeA.cons (.c (.d _))|(apply SeA.cons;(·(apply SeP.g;(repeat(first|exact SeL.nil|apply SeL.cons (.d _)))))))));(·exact x4);(·rfl))|(apply jag (fid := 8);(·(repeat(first|exact SeA.nil|apply SeA.cons (.c (.d _))|(apply SeA.cons;(·(apply SeP.g;(repeat(first|exact SeL.nil|apply SeL.cons (.d _)))))))));(·exact x5);(·rfl))|(apply jag (fid := 8);(·(repeat(first|exact SeA.nil|apply SeA.cons (.c (.d _))|(apply SeA.cons;(·(apply SeP.g;(repeat(first|exact SeL.nil|apply SeL.cons (.d _)))))))));(·exact x6);(·rfl))))|refine jaj ?_|refine jak ?_|refine jab (id := 7) ?_|(apply jcw 8 [3, 4, 7] [3034, 4034, 6034, 7034, 8034, 3, 3037, 4037, 6037, 7037, 8037, 4, 3047, 4047, 6047, 7047, 8047, 6] rfl;(·(repeat(first|exact Pf.nil|apply Pf.cons (.c rfl (.d rfl))|apply Pf.cons (.c rfl (.lp rfl)))));(·(repeat(first|exact Pb.nil|(apply Pb.cons;(·apply Nb.box rfl;(repeat(first|exact Ncs.nil rfl|(apply Ncs.cons rfl;(·(exact .d rfl)))))))|apply Pb.skip)));refine jab (id := 8) ?_)|(apply jcw 9 [3, 4, 7, 9] [3034, 4034, 6034, 7034, 8034, 3, 3037, 4037, 6037, 7037, 8037, 4, 3047, 4047, 6047, 7047, 8047, 6, 3052, 4052, 6052, 7052, 8052, 8] rfl;(·(repeat(first|exact Pf.nil|apply Pf.cons (.c rfl (.d rfl))|apply Pf.cons (.c rfl (.lp rfl)))));(·(repeat(first|exact Pb.nil|(apply Pb.cons;(·apply Nb.box rfl;(repeat(first|exact Ncs.nil rfl|(apply Ncs.cons rfl;(·(exact .d rfl)))))))|apply Pb.skip)));refine jab (id := 9) ?_)|(apply jcw 10 [3, 4, 7, 9, 11] [3034, 4034, 6034, 7034, 8034, 3, 3037, 4037, 6037, 7037, 8037, 4, 3047, 4047, 6047, 7047, 8047, 6, 3052, 4052, 6052, 7052, 8052, 8, 3057, 4057, 6057, 7057, 8057, 10] rfl;(·(repeat(first|exact Pf.nil|apply Pf.cons (.c rfl (.d rfl))|apply Pf.cons (.c rfl (.lp rfl)))));(·(repeat(first|exact Pb.nil|(apply Pb.cons;(·apply Nb.box rfl;(repeat(first|exact Ncs.nil rfl|(apply Ncs.cons rfl;(·(exact .d rfl)))))))|apply Pb.skip)));refine jab (id := 10) ?_)|(apply jcw 11 [3, 4, 7, 9, 11, 13] [3034, 4034, 6034, 7034, 8034, 3, 3037, 4037, 6037, 7037, 8037, 4, 3047, 4047, 6047, 7047, 8047, 6, 3052, 4052, 6052, 7052, 8052, 8, 3057, 4057, 6057, 7057, 8057, 10, 3062, 4062, 6062, 7062, 8062, 12] rfl;(·(repeat(first|exact Pf.nil|apply Pf.cons (.c rfl (.d rfl))|apply Pf.cons (.c rfl (.lp rfl)))));(·(repeat(first|exact Pb.nil|(apply Pb.cons;(·apply Nb.box rfl;(repeat(first|exact Ncs.nil rfl|(apply Ncs.cons rfl;(·(exact .d rfl)))))))|apply Pb.skip)));refine jab (id := 11) ?_)|(apply jcw 12 [3, 4, 7, 9, 11, 13, 15] [3034, 4034, 6034, 7034, 8034, 3, 3037, 4037, 6037, 7037, 8037, 4, 3047, 4047, 6047, 7047, 8047, 6, 3052, 4052, 6052, 7052, 8052, 8, 3057, 4057, 6057, 7057, 8057, 10, 3062, 4062, 6062, 7062, 8062, 12, 3067, 4067, 6067, 7067, 8067, 14] rfl;(·(repeat(first|exact Pf.nil|apply Pf.cons (.c rfl (.d rfl))|apply Pf.cons (.c rfl (.lp rfl)))));(·(repeat(first|exact Pb.nil|(apply Pb.cons;(·apply Nb.box rfl;(repeat(first|exact Ncs.nil rfl|(apply Ncs.cons rfl;(·(exact .d rfl)))))))|apply Pb.skip)));refine jab (id := 12) ?_))
      clear x1 x2 x3 x4 x5 x6
      repeat' (first|refine zaa ?_|(refine jaa (.move _) ?_;(refine jac (jcg rfl) rfl ?_))|refine zak ?_|refine zaz ?_|refine zae ?_|refine zbl ?_|refine zay ?_|(refine jaa (.call ⟨.value (.func 9), _, _⟩) ?_;((apply jag (fid := 9);(·(repeat(first|exact SeA.nil|(apply SeA.cons;(·(apply SeP.g;(repeat(first|exact SeL.nil|apply SeL.cons (.d _)))))))));(·exact g1);(·rfl))))|(refine jaa (.call ⟨.value (.func 10), _, _⟩) ?_;((apply jag (fid := 10);(·(repeat(first|exact SeA.nil|(apply SeA.cons;(·(apply SeP.g;(repeat(first|exact SeL.nil|apply SeL.cons (.d _)))))))));(·exact g2);(·rfl))))|(refine jaa (.call ⟨.value (.func 11), _, _⟩) ?_;((apply jdp (fid := 11);(·(repeat(first|exact SeA.nil|(apply SeA.cons;(·(apply SeP.g;(repeat(first|exact SeL.nil|apply SeL.cons (.d _)))))))));(·exact g3);(·rfl);(rintro _ ⟨l3, rfl⟩))))|(refine jaa (.call ⟨.value (.func 12), _, _⟩) ?_;((apply jag (fid := 12);(·(repeat(first|exact SeA.nil|(apply SeA.cons;(·(apply SeP.g;(repeat(first|exact SeL.nil|apply SeL.cons (.d _)))))))));(·exact g4);(·rfl))))|(refine jaa (.call ⟨.value (.func 13), _, _⟩) ?_;((apply jag (fid := 13);(·(repeat(first|exact SeA.nil|(apply SeA.cons;(·(apply SeP.g;(repeat(first|exact SeL.nil|apply SeL.cons (.d _)))))))));(·exact g5);(·rfl))))|(refine jaa (.call ⟨.value (.func 14), _, _⟩) ?_;((apply jag (fid := 14);(·(repeat(first|exact SeA.nil|(apply SeA.cons;(·(apply SeP.g;(repeat(first|exact SeL.nil|apply SeL.cons (.d _)))))))));(·exact g6);(·rfl))))|refine jaj ?_|refine jak ?_|(apply jcw 13 [3, 7, 9, 11, 13, 15, 17] [3034, 4034, 6034, 7034, 8034, 3, 3037, 4037, 6037, 7037, 8037, 4, 3047, 4047, 6047, 7047, 8047, 6, 3052, 4052, 6052, 7052, 8052, 8, 3057, 4057, 6057, 7057, 8057, 10, 3062, 4062, 6062, 7062, 8062, 12, 3067, 4067, 6067, 7067, 8067, 14, 3072, 4072, 6072, 7072, 8072, 16] rfl;(·(repeat(first|exact Pf.nil|apply Pf.cons (.c rfl (.d rfl))|apply Pf.cons (.c rfl (.lp rfl)))));(·(repeat(first|exact Pb.nil|(apply Pb.cons;(·apply Nb.box rfl;(repeat(first|exact Ncs.nil rfl|(apply Ncs.cons rfl;(·(exact .d rfl)))))))|apply Pb.skip)));refine jab (id := 13) ?_)|(apply jcw 14 [3, 7, 9, 11, 13, 15, 17, 18, 19] [3034, 4034, 6034, 7034, 8034, 3, 3037, 4037, 6037, 7037, 8037, 4, 3047, 4047, 6047, 7047, 8047, 6, 3052, 4052, 6052, 7052, 8052, 8, 3057, 4057, 6057, 7057, 8057, 10, 3062, 4062, 6062, 7062, 8062, 12, 3067, 4067, 6067, 7067, 8067, 14, 3072, 4072, 6072, 7072, 8072, 16] rfl;(·(repeat(first|exact Pf.nil|apply Pf.cons (.c rfl (.d rfl))|apply Pf.cons (.c rfl (.lp rfl)))));(·(repeat(first|exact Pb.nil|(apply Pb.cons;(·apply Nb.box rfl;(repeat(first|exact Ncs.nil rfl|(apply Ncs.cons rfl;(·(exact .d rfl)))))))|apply Pb.skip)));refine jab (id := 14) ?_)|(apply jcw 15 [3, 7, 9, 11, 13, 15, 17, 18, 19, 20, 21] [3034, 4034, 6034, 7034, 8034, 3, 3037, 4037, 6037, 7037, 8037, 4, 3047, 4047, 6047, 7047, 8047, 6, 3052, 4052, 6052, 7052, 8052, 8, 3057, 4057, 6057, 7057, 8057, 10, 3062, 4062, 6062, 7062, 8062, 12, 3067, 4067, 6067, 7067, 8067, 14, 3072, 4072, 6072, 7072, 8072, 16] rfl;(·(repeat(first|exact Pf.nil|apply Pf.cons (.c rfl (.d rfl))|apply Pf.cons (.c rfl (.lp rfl)))));(·(repeat(first|exact Pb.nil|(apply Pb.cons;(·apply Nb.box rfl;(repeat(first|exact Ncs.nil rfl|(apply Ncs.cons rfl;(·(exact .d rfl)))))))|apply Pb.skip)));refine jab (id := 15) ?_)|(apply jcw 16 [3, 7, 9, 11, 13, 15, 17, 18, 19, 20, 21, 22, 24] [3034, 4034, 6034, 7034, 8034, 3, 3037, 4037, 6037, 7037, 8037, 4, 3047, 4047, 6047, 7047, 8047, 6, 3052, 4052, 6052, 7052, 8052, 8, 3057, 4057, 6057, 7057, 8057, 10, 3062, 4062, 6062, 7062, 8062, 12, 3067, 4067, 6067, 7067, 8067, 14, 3072, 4072, 6072, 7072, 8072, 16, 1090] rfl;(·(repeat(first|exact Pf.nil|apply Pf.cons (.c rfl (.d rfl))|apply Pf.cons (.c rfl (.lp rfl)))));(·(repeat(first|exact Pb.nil|(apply Pb.cons;(·apply Nb.box rfl;(repeat(first|exact Ncs.nil rfl|(apply Ncs.cons rfl;(·(exact .d rfl)))))))|apply Pb.skip)));refine jab (id := 16) ?_)|(apply jcw 17 [3, 7, 9, 11, 13, 15, 17, 18, 19, 20, 21, 22, 24, 25, 26] [3034, 4034, 6034, 7034, 8034, 3, 3037, 4037, 6037, 7037, 8037, 4, 3047, 4047, 6047, 7047, 8047, 6, 3052, 4052, 6052, 7052, 8052, 8, 3057, 4057, 6057, 7057, 8057, 10, 3062, 4062, 6062, 7062, 8062, 12, 3067, 4067, 6067, 7067, 8067, 14, 3072, 4072, 6072, 7072, 8072, 16, 1090] rfl;(·(repeat(first|exact Pf.nil|apply Pf.cons (.c rfl (.d rfl))|apply Pf.cons (.c rfl (.lp rfl)))));(·(repeat(first|exact Pb.nil|(apply Pb.cons;(·apply Nb.box rfl;(repeat(first|exact Ncs.nil rfl|(apply Ncs.cons rfl;(·(exact .d rfl)))))))|apply Pb.skip)));refine jab (id := 17) ?_)|(apply jcw 18 [3, 7, 9, 11, 13, 15, 17, 18, 19, 20, 21, 22, 24, 25, 26, 27, 28] [3034, 4034, 6034, 7034, 8034, 3, 3037, 4037, 6037, 7037, 8037, 4, 3047, 4047, 6047, 7047, 8047, 6, 3052, 4052, 6052, 7052, 8052, 8, 3057, 4057, 6057, 7057, 8057, 10, 3062, 4062, 6062, 7062, 8062, 12, 3067, 4067, 6067, 7067, 8067, 14, 3072, 4072, 6072, 7072, 8072, 16, 1090, 103] rfl;(·(repeat(first|exact Pf.nil|apply Pf.cons (.c rfl (.d rfl))|apply Pf.cons (.c rfl (.lp rfl)))));(·(repeat(first|exact Pb.nil|(apply Pb.cons;(·apply Nb.box rfl;(repeat(first|exact Ncs.nil rfl|(apply Ncs.cons rfl;(·(exact .d rfl)))))))|apply Pb.skip)));refine jab (id := 18) ?_))
      all_goals first|(exfalso;omega)|skip
      clear g1 g2 g3 g4 g5 g6
      cases v2 with
      | true =>
        repeat' (first|refine zaa ?_|refine zab ?_|refine zah ?_|refine zcq (jgz rfl rfl) ?_|refine zag ?_|refine zbm ?_|(refine jaa (.binOp .neq 4 _ _ _) ?_;(refine jac (jha (by kernel_rfl) rfl rfl) rfl ?_))|(refine jaa (.call ⟨.value (.func 15), _, _⟩) ?_;(first|(apply jag (fid := 15);(·(repeat(first|exact SeA.nil|apply SeA.cons (.c (.d _)))));(·exact w1);(·rfl))|(apply jag (fid := 15);(·(repeat(first|exact SeA.nil|apply SeA.cons (.c (.d _)))));(·exact w3);(·rfl))|(apply jag (fid := 15);(·(repeat(first|exact SeA.nil|apply SeA.cons (.c (.d _)))));(·exact w4);(·rfl))))|(refine jaa (.call ⟨.value (.func 16), _, _⟩) ?_;((apply jag (fid := 16);(·(repeat(first|exact SeA.nil|apply SeA.cons (.c (.d _)))));(·exact w5);(·rfl))))|refine jaj ?_|refine jbn rfl rfl rfl rfl ?_|refine jbg rfl rfl rfl rfl ?_|refine jca rfl rfl (fun hg => ?_) (fun hg => ?_)|refine jak ?_|refine jan ?_|(apply jcw 19 [7, 9, 11, 13, 15, 17, 18, 19, 20, 21, 22, 24, 25, 26, 27, 28, 29, 30] [3034, 4034, 6034, 7034, 8034, 3, 3037, 4037, 6037, 7037, 8037, 4, 3047, 4047, 6047, 7047, 8047, 6, 3052, 4052, 6052, 7052, 8052, 8, 3057, 4057, 6057, 7057, 8057, 10, 3062, 4062, 6062, 7062, 8062, 12, 3067, 4067, 6067, 7067, 8067, 14, 3072, 4072, 6072, 7072, 8072, 16, 1090, 103] rfl;(·(repeat(first|exact Pf.nil|apply Pf.cons (.c rfl (.d rfl)))));(·(repeat(first|exact Pb.nil|(apply Pb.cons;(·apply Nb.box rfl;(repeat(first|exact Ncs.nil rfl|(apply Ncs.cons rfl;(·(exact .d rfl)))))))|apply Pb.skip)));refine jab (id := 19) ?_)|(apply jcw 21 [15, 17, 27, 28, 29, 30] [3034, 4034, 6034, 7034, 8034, 3, 3037, 4037, 6037, 7037, 8037, 4, 3047, 4047, 6047, 7047, 8047, 6, 3052, 4052, 6052, 7052, 8052, 8, 3057, 4057, 6057, 7057, 8057, 10, 3062, 4062, 6062, 7062, 8062, 12, 3067, 4067, 6067, 7067, 8067, 14, 3072, 4072, 6072, 7072, 8072, 16, 1090, 103] rfl;(·(repeat(first|exact Pf.nil|apply Pf.cons (.c rfl (.d rfl)))));(·(repeat(first|exact Pb.nil|(apply Pb.cons;(·apply Nb.box rfl;(repeat(first|exact Ncs.nil rfl|(apply Ncs.cons rfl;(·(exact .d rfl)))))))|apply Pb.skip)));refine jab (id := 21) ?_)|refine jbj rfl ?_)
        all_goals first|(exfalso;omega)|(exfalso;simp_all [sayB, yesT, noT];done)|skip
        all_goals (apply jat;apply jau;(·apply jbc.p;(·(apply GvA.cons;(·exact .tmp _);(·exact GvP.c (.lit _)));exact GvA.nil);(·decide)))
        all_goals simp
      | false =>
        repeat' (first|refine zaa ?_|refine zab ?_|refine zah ?_|refine zcq (jgz rfl rfl) ?_|refine zag ?_|refine zbm ?_|(refine jaa (.binOp .neq 4 _ _ _) ?_;(refine jac (jha (by kernel_rfl) rfl rfl) rfl ?_))|(refine jaa (.call ⟨.value (.func 15), _, _⟩) ?_;(first|(apply jag (fid := 15);(·(repeat(first|exact SeA.nil|apply SeA.cons (.c (.d _)))));(·exact w1);(·rfl))|(apply jag (fid := 15);(·(repeat(first|exact SeA.nil|apply SeA.cons (.c (.d _)))));(·exact w3);(·rfl))|(apply jag (fid := 15);(·(repeat(first|exact SeA.nil|apply SeA.cons (.c (.d _)))));(·exact w4);(·rfl))))|(refine jaa (.call ⟨.value (.func 16), _, _⟩) ?_;((apply jag (fid := 16);(·(repeat(first|exact SeA.nil|apply SeA.cons (.c (.d _)))));(·exact w5);(·rfl))))|refine jaj ?_|refine jbn rfl rfl rfl rfl ?_|refine jbg rfl rfl rfl rfl ?_|refine jca rfl rfl (fun hg => ?_) (fun hg => ?_)|refine jak ?_|refine jan ?_|(apply jcw 19 [7, 9, 11, 13, 15, 17, 18, 19, 20, 21, 22, 24, 25, 26, 27, 28, 29, 30] [3034, 4034, 6034, 7034, 8034, 3, 3037, 4037, 6037, 7037, 8037, 4, 3047, 4047, 6047, 7047, 8047, 6, 3052, 4052, 6052, 7052, 8052, 8, 3057, 4057, 6057, 7057, 8057, 10, 3062, 4062, 6062, 7062, 8062, 12, 3067, 4067, 6067, 7067, 8067, 14, 3072, 4072, 6072, 7072, 8072, 16, 1090, 103] rfl;(·(repeat(first|exact Pf.nil|apply Pf.cons (.c rfl (.d rfl)))));(·(repeat(first|exact Pb.nil|(apply Pb.cons;(·apply Nb.box rfl;(repeat(first|exact Ncs.nil rfl|(apply Ncs.cons rfl;(·(exact .d rfl)))))))|apply Pb.skip)));refine jab (id := 19) ?_)|(apply jcw 21 [15, 17, 27, 28, 29, 30] [3034, 4034, 6034, 7034, 8034, 3, 3037, 4037, 6037, 7037, 8037, 4, 3047, 4047, 6047, 7047, 8047, 6, 3052, 4052, 6052, 7052, 8052, 8, 3057, 4057, 6057, 7057, 8057, 10, 3062, 4062, 6062, 7062, 8062, 12, 3067, 4067, 6067, 7067, 8067, 14, 3072, 4072, 6072, 7072, 8072, 16, 1090, 103] rfl;(·(repeat(first|exact Pf.nil|apply Pf.cons (.c rfl (.d rfl)))));(·(repeat(first|exact Pb.nil|(apply Pb.cons;(·apply Nb.box rfl;(repeat(first|exact Ncs.nil rfl|(apply Ncs.cons rfl;(·(exact .d rfl)))))))|apply Pb.skip)));refine jab (id := 21) ?_)|refine jbj rfl ?_)
        all_goals first|(exfalso;omega)|(exfalso;simp_all [sayB, yesT, noT];done)|skip
        all_goals (apply jat;apply jau;(·apply jbc.p;(·(apply GvA.cons;(·exact .tmp _);(·exact GvP.c (.lit _)));exact GvA.nil);(·decide)))
        all_goals simp
  · refine jaq Tryz.func3 rfl rfl rfl (by kernel_rfl) rfl rfl ?_;intro _
    repeat' (first|refine zaa ?_|refine zab ?_|(refine jaa (.call ⟨.value (.func 4), _, _⟩) ?_;(apply jag (fid := 4);(·(repeat(first|exact SeA.nil|apply SeA.cons (.c (.d _)))));(·exact vBig_p _);(·rfl)))|refine jaj ?_|refine jak ?_|refine jan ?_|refine jab (id := 0) ?_|refine jab (id := 1) ?_|refine jab (id := 2) ?_|refine jbi rfl (fun hc => ?_) (fun hc => ?_))
    all_goals first|(exfalso;omega)|(exfalso;simp_all;done)|skip
    all_goals (apply jat;apply jau;(·apply jbc.p;(·(apply GvA.cons;(·exact .tmp _);(·exact GvP.c (.lit _)));exact GvA.nil);(·decide)))
    all_goals rfl
end Go.Proofs.YteaeoaeogehaaaaGreatDoor
namespace Go.Proofs.YteaeoaeogehaaaaGreatDoor
open Go.RowKit
open Go Go.RowKit
def litE : DataW Unit → Value
 | .lit (.int k n) => .int k n
 | _ => .nilFunc
def cellsE : DataW Unit → List Value
 | .agg ds => ds.flatMap fun d => match d with
  | .agg es => es.map litE
  | x => [litE x]
 | _ => []
def layAllE (P : Program) (tp te : TypeId) : List (String × DataW Unit) → Array Obj → Array Obj
 | [], h => h
 | (n, .iface _ (.ptr (.agg [.lit (.string s)]))) :: r, h => layAllE P tp te r ((match P.globalNamed n with
  | some g => h.modify g fun
   | .cells _ t f => .cells #[.iface tp (.pointer (some ⟨h.size, 0, none⟩))] t f
   | o => o
  | none => h).push (.cells #[.string ⟨s.toArray⟩] te (0, 0)))
 | (n, d) :: r, h => layAllE P tp te r (match P.globalNamed n with
  | some g => h.modify g fun
   | .cells _ t f => .cells (cellsE d).toArray t f
   | o => o
  | none => h)
end Go.Proofs.YteaeoaeogehaaaaGreatDoor
