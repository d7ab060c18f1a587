/- What the functions that FnConsoleWords reaches return: part of its proof. No condition beyond those of its theorems. -/
import Derived.Test.YteaeoaeogehaaaaGreatDoorKfnsFnConsoleWordsA
import Derived.Test.YteaeoaeogehaaaaGreatDoorKplainB
import Derived.Test.YteaeoaeogehaaaaGreatDoorKplainA
import Derived.Test.YteaeoaeogehaaaaGreatDoorKplainC
import Derived.Test.YteaeoaeogehaaaaGreatDoorKfnsFnConsoleWordsC
import Derived.WalkKit
set_option linter.unusedSectionVars false
set_option maxRecDepth 10000
set_option maxHeartbeats 4000000
set_option linter.unusedVariables false
set_option linter.unusedSimpArgs false
namespace Go.Proofs.YteaeoaeogehaaaaGreatDoor
open Go.RowKit
variable [Glb]
theorem newBox_p (x y : Nat) (wh : Int) (fid : FuncId) (caps : List D) (f : Nat → Nat → Nat → Int) (hx : x ≤ 3) (hy : y ≤ 3)
  (hf : ∀ i k p : Nat, i < x → k < y → p < 4 → PC Tryz.prog fid ([.c (dI i), .c (dI k), .c (dI ((p / 2 : Nat) : Int)), .c (dI ((p % 2 : Nat) : Int))] ++ caps.map RP.c) (.p (.c (dI (f i k p))))) :
  PC Tryz.prog 166 [.c (dI x), .c (dI y), .c (dI wh), .c (.fn (.func fid) caps)] (.p (.g [dI x, dI y, dI wh, eII (boxF f y (y * x))])) := by
 have hxy : y * x ≤ 3 * 3 := Nat.mul_le_mul hy hx
 refine jaq Tryz.func166 rfl rfl rfl (by kernel_rfl) rfl rfl ?_;intro _
 repeat' (first|(refine jaa (.alloc 26) ?_;refine jav (zs := [.int .i64 0, .int .i64 0, .int .i64 0, .slice none 0 0]) (by kernel_rfl) rfl ?_)|refine zab ?_|refine zbi ?_|(refine jaa (.store 26 _ _) ?_;(refine jah rfl rfl rfl (by kernel_rfl) rfl rfl ?_))|refine jaj ?_|refine jak ?_|refine jai ?_|refine jab ?_)
 refine jcn (jhv 9 3 46 1 rfl (by decide) rfl rfl rfl) ?_
 apply jay [1, 3, 8, 9, 18, 19] [8, 9, 26, 39, 40, 45, 46] rfl;(·(repeat(first|exact Pf.nil|apply Pf.cons (.c rfl (.d rfl))|apply Pf.cons (.c rfl (.lp rfl)))));(·(repeat(first|exact Pb.nil|apply Pb.cons (.row rfl)|(apply Pb.cons;(·apply Nb.box rfl;(repeat(first|exact Ncs.nil rfl|(apply Ncs.cons rfl;(·(first|exact .d rfl|exact .ls rfl)))))))|apply Pb.skip)))
 refine jbb [1, 3, 8, 9, 18] [8, 26, 39, 40, 45] (fun i => [(19, iN i)]) (fun i => [(9, .box [.d (dI x), .d (dI y), .d (dI wh), .ls 46 1 0 (y * i)]), (46, .row 1 (cII (boxF f y (y * i))))]) (fun i => i ≤ x) (fun i => x - i) (0) ?_ (by (repeat(first|exact trivial|refine ⟨(by rfl), ?_⟩))) (by (repeat(first|exact trivial|refine ⟨(by (first|(refine jcs rfl ?_;simp;done)|rfl)), ?_⟩))) ?_
 ·omega
 intro i hi
 repeat' (first|refine zab ?_|(refine jaa (.store 26 _ _) ?_;(refine jah rfl rfl rfl (by kernel_rfl) rfl rfl ?_))|refine zac ?_|refine zaa ?_|refine zae ?_|refine jaj ?_|refine jak ?_|refine jai ?_|refine jar rfl ?_|refine jan ?_|refine jab ?_|refine jbi rfl (fun hc => ?_) (fun hc => ?_))
 ·apply jay [1, 3, 8, 9, 10, 18, 19, 22, 23] [8, 9, 26, 39, 40, 45, 46] rfl;(·(repeat(first|exact Pf.nil|apply Pf.cons (.c rfl (.d rfl))|apply Pf.cons (.c rfl (.lp rfl)))));(·(repeat(first|exact Pb.nil|apply Pb.cons (.row rfl)|(apply Pb.cons;(·apply Nb.box rfl;(repeat(first|exact Ncs.nil rfl|(apply Ncs.cons rfl;(·(first|exact .d rfl|exact .ls rfl)))))))|apply Pb.skip)))
  refine jbb [1, 3, 8, 9, 10, 18, 19, 22] [8, 26, 39, 40, 45] (fun k => [(23, iN k)]) (fun k => [(9, .box [.d (dI x), .d (dI y), .d (dI wh), .ls 46 1 0 (y * i + k)]), (46, .row 1 (cII (boxF f y (y * i + k))))]) (fun k => k ≤ y) (fun k => y - k) (0) ?_ (by (repeat(first|exact trivial|refine ⟨(by rfl), ?_⟩))) (by (repeat(first|exact trivial|refine ⟨(by (first|(refine jbm rfl ?_;simp;done)|(refine jcs rfl ?_;simp;done))), ?_⟩))) ?_
  ·omega
  intro k hk
  repeat' (first|refine zab ?_|refine zac ?_|refine zaa ?_|(refine jaa (.buildSlice 27 0 _) ?_;(apply jao (sz := 1) (by_ := 8);(·kernel_rfl);(·decide);(·(repeat(exact GvS.nil _)));(·decide);(·rfl);(·rfl);(·rfl)))|refine zad ?_|refine jaj ?_|refine jak ?_|refine jai ?_|refine jaz ?_|refine jar rfl ?_|refine jan ?_|refine jab ?_|refine jbi rfl (fun hc => ?_) (fun hc => ?_))
  ·have hik := jkg (i := i) (k := k) (X := x) (Y := y) (by omega) (by omega)
   apply jay [1, 3, 8, 9, 10, 11, 12, 18, 19, 22, 23, 27] [8, 9, 26, 39, 40, 45, 46] rfl;(·(repeat(first|exact Pf.nil|apply Pf.cons (.c rfl (.d rfl))|apply Pf.cons (.c rfl (.ls rfl))|apply Pf.cons (.c rfl (.lp rfl)))));(·(repeat(first|exact Pb.nil|apply Pb.cons (.row rfl)|(apply Pb.cons;(·apply Nb.box rfl;(repeat(first|exact Ncs.nil rfl|(apply Ncs.cons rfl;(·(first|exact .d rfl|exact .ls rfl)))))))|apply Pb.skip)))
   refine jbb [1, 3, 8, 9, 10, 11, 18, 19, 22, 23] [8, 9, 39, 40, 45, 46] (fun p => [(27, iN p), (12, .c (.ls 26 1 0 p))]) (fun p => [(26, .row 1 (cI (rowF (f i k) p)))]) (fun p => p ≤ 4) (fun p => 4 - p) (0) ?_ (by (repeat(first|exact trivial|refine ⟨(by rfl), ?_⟩))) (by (repeat(first|exact trivial|refine ⟨(by rfl), ?_⟩))) ?_
   ·omega
   intro p hp
   repeat' (first|refine zab ?_|refine zac ?_|refine zaa ?_|(refine jaa (.binOp .quo 3 _ _ _) ?_;(refine jac (jjs rfl rfl (by omega) (by omega) (by omega)) rfl ?_))|refine zcg ?_|(refine jaa (.buildSlice 27 1 _) ?_;(apply jao (sz := 1) (by_ := 8);(·kernel_rfl);(·decide);(·(repeat(first|exact GvS.nil _|apply GvS.c rfl rfl (.lit _) rfl)));(·decide);(·rfl);(·rfl);(·rfl)))|(refine jaa (.call ⟨.builtin .append, _, #[27, 27]⟩) ?_;((apply jbo (sz := 1) (by_ := 8);(·rfl);(·rfl);(·((simp;done)));(·exact .row _ _ _ _ rfl (by ((simp;done))));(·decide);(·kernel_rfl);(·decide);(·omega);(·omega);(·rfl);(·rfl);(·rfl))))|refine zad ?_|refine zal ?_|refine zaj ?_|(refine jaa (.buildSlice 24 1 _) ?_;(apply jao (sz := 1) (by_ := 24);(·kernel_rfl);(·decide);(·(repeat(first|exact GvS.nil _|apply GvS.c rfl rfl (.row _ _ _ _ rfl (by ((simp;done)))) rfl)));(·decide);(·rfl);(·rfl);(·rfl)))|(refine jaa (.call ⟨.builtin .append, _, #[24, 24]⟩) ?_;((apply jbo (sz := 1) (by_ := 24);(·rfl);(·rfl);(·((simp;done)));(·exact .row _ _ _ _ rfl (by ((simp;done))));(·decide);(·kernel_rfl);(·decide);(·omega);(·omega);(·rfl);(·rfl);(·rfl))))|(refine jaa (.store 24 _ _) ?_;(refine jax rfl rfl rfl rfl (by kernel_rfl) rfl rfl ?_))|(refine jaa (.call ⟨.value (.tmp 31), _, _⟩) ?_;(apply jen;(·(exact .c (.d _)));(·(repeat(first|exact SeA.nil|apply SeA.cons (.c (.d _)))));(·exact hf i k p (by omega) (by omega) (by omega));(·rfl)))|refine jaj ?_|refine jak ?_|refine jai ?_|refine jaz ?_|refine jar rfl ?_|refine jan ?_|refine jab ?_|refine jbi rfl (fun hc => ?_) (fun hc => ?_))
   ·refine jba ?_;refine ⟨p + 1, ?_, ?_, jbx rfl (by (repeat(first|exact trivial|refine ⟨(by rfl), ?_⟩))) (by (repeat(first|exact trivial|refine ⟨rfl, ?_⟩))) (by (repeat(first|exact trivial|refine ⟨(by ((refine jbm rfl ?_;simp  [jdj];done))), ?_⟩))) (by (repeat(first|exact trivial|refine ⟨.inr rfl, ?_⟩)))⟩
    ·omega
    ·omega
   ·have h4 : p = 4 := by omega
    subst h4
    refine jba ?_;refine ⟨k + 1, ?_, ?_, jbx rfl (by (repeat(first|exact trivial|refine ⟨(by rfl), ?_⟩))) (by (repeat(first|exact trivial|refine ⟨rfl, ?_⟩))) (by (repeat(first|exact trivial|refine ⟨(by (first|(refine jbm rfl ?_;simp  [jgn _ _ _ _ (show k < y by omega)];done)|rfl)), ?_⟩))) (by (repeat(first|exact trivial|refine ⟨.inr rfl, ?_⟩)))⟩
    ·omega
    ·omega
  ·have h4 : k = y := by omega
   subst h4
   refine jba ?_;refine ⟨i + 1, ?_, ?_, jbx rfl (by (repeat(first|exact trivial|refine ⟨(by rfl), ?_⟩))) (by (repeat(first|exact trivial|refine ⟨rfl, ?_⟩))) (by (repeat(first|exact trivial|refine ⟨(by rfl), ?_⟩))) (by (repeat(first|exact trivial|refine ⟨.inr rfl, ?_⟩)))⟩
   ·omega
   ·omega
 ·have h4 : i = x := by omega
  subst h4
  (apply jat;apply jau;(·apply jbc.p;(·(apply GvA.cons;(·(apply RV.cellN (n := 4);(·rfl);(·rfl);(·kernel_rfl);(·rfl)));(·(apply GvP.g;(·(apply GvL.cons (.lit _));(apply GvL.cons (.lit _));(apply GvL.cons (.lit _));((apply GvL.cons (.row _ _ _ _ rfl (by ((simp;done))))));exact GvL.nil))));exact GvA.nil);(·decide)))
  simp
def ixI (x : Int) : List Int → Int
 | [] => -1
 | z :: r => if z = x then 0 else if ixI x r = -1 then -1 else ixI x r + 1
theorem jnt {x : Int} : ∀ {l : List Int}, x ∉ l → ixI x l = -1
 | [], _ => rfl
 | z :: r, h => by
  rw [List.mem_cons, not_or] at h
  rw [ixI, if_neg (Ne.symm h.1), jnt h.2, if_pos rfl]
theorem ixI_at {x : Int} : ∀ {l : List Int} {k : Nat} (h : k < l.length), l[k] = x → x ∉ l.take k → ixI x l = k
 | z :: r, 0, _, e, _ => by rw [ixI, if_pos (by simpa using e)];rfl
 | z :: r, k + 1, h, e, ht => by
  rw [List.take_succ_cons, List.mem_cons, not_or] at ht
  have := ixI_at (l := r) (k := k) (by simpa using h) (by simpa using e) ht.2
  rw [ixI, if_neg (Ne.symm ht.1), this, if_neg (by omega)];omega
theorem ixI_has (x : Int) : ∀ l : List Int, -1 ≤ ixI x l ∧ decide (ixI x l ≥ 0) = l.contains x
 | [] => ⟨by simp [ixI], rfl⟩
 | z :: r => by
  obtain ⟨h1, h2⟩ := ixI_has x r
  rw [ixI]
  by_cases hz : z = x
  ·rw [if_pos hz];simp [hz]
  ·rw [if_neg hz]
   have : (z :: r).contains x = r.contains x := by
    rw [List.contains_cons];simp [Ne.symm hz]
   rw [this, ← h2]
   split
   ·rename_i e;rw [e];exact ⟨by omega, rfl⟩
   ·exact ⟨by omega, decide_eq_decide.2 ⟨fun _ => by omega, fun _ => by omega⟩⟩
theorem slIndex_p (l : List Int) (x : Int) : PC Tryz.prog 143 [.c (eI l), .c (dI x)] (.p (.c (dI (ixI x l)))) := by
 refine jaq Tryz.func143 rfl rfl rfl (by kernel_rfl) rfl rfl ?_;rintro ⟨hl, -⟩
 have hl := hl.len
 repeat' (first|refine zaa ?_|refine zab ?_|refine zas ?_|refine jaj ?_|refine jak ?_|refine jai ?_|refine jab ?_)
 apply jay [0, 1, 7, 8] [] rfl;(·(repeat(first|exact Pf.nil|apply Pf.cons (.c rfl (.d rfl)))));(·(repeat(exact Pb.nil)))
 refine jbb [0, 1, 7] [] (fun k => [(8, iN k)]) (fun _ => []) (fun k => k ≤ l.length ∧ x ∉ l.take k) (fun k => l.length - k) (0) ?_ (by (repeat(first|exact trivial|refine ⟨(by rfl), ?_⟩))) (by (repeat(exact trivial))) ?_
 ·simp
 rintro k ⟨hk, ht⟩
 by_cases h : k < l.length
 ·repeat' (first|refine zaa ?_|refine zab ?_|refine zac ?_|refine zao ?_|refine zap ?_|refine zai ?_|refine zad ?_|refine jaj ?_|refine jak ?_|refine jai ?_|refine jaz ?_|refine jar rfl ?_|refine jan ?_|refine jab ?_|refine jbi rfl (fun hc => ?_) (fun hc => ?_))
  all_goals first|(exfalso;omega)|skip
  ·(apply jat;apply jau;(·apply jbc.p;(·(apply GvA.cons;(·exact .tmp _);(·exact GvP.c (.lit _)));exact GvA.nil);(·decide)))
   have e : l[k] = x := by rw [← jbw h];apply Eq.symm;assumption
   rw [ixI_at h e ht]
  ·refine jba ?_;refine ⟨k + 1, ?_, ?_, jbx rfl (by (repeat(first|exact trivial|refine ⟨(by rfl), ?_⟩))) (by (repeat(first|exact trivial|refine ⟨rfl, ?_⟩))) (by (repeat(exact trivial))) (by (repeat(exact trivial)))⟩
   ·refine ⟨by omega, ?_⟩
    rw [List.take_succ_eq_append_getElem h, List.mem_append, not_or, List.mem_singleton, ← jbw h]
    exact ⟨ht, by assumption⟩
   ·omega
 ·repeat' (first|refine zaa ?_|refine zab ?_|refine zac ?_|refine zao ?_|refine zap ?_|refine zai ?_|refine zad ?_|refine jaj ?_|refine jak ?_|refine jai ?_|refine jaz ?_|refine jar rfl ?_|refine jan ?_|refine jab ?_|refine jbi rfl (fun hc => ?_) (fun hc => ?_))
  all_goals first|(exfalso;omega)|skip
  have : k = l.length := by omega
  subst this
  rw [List.take_length] at ht
  (apply jat;apply jau;(·apply jbc.p;(·(apply GvA.cons;(·exact .tmp _);(·exact GvP.c (.lit _)));exact GvA.nil);(·decide)))
  rw [jnt ht]
theorem containsI_p (l : List Int) (x : Int) : PC Tryz.prog 98 [.c (eI l), .c (dI x)] (.p (.c (dB (l.contains x)))) := by
 have h := (ixI_has x l).2
 refine jaq Tryz.func98 rfl rfl rfl (by kernel_rfl) rfl rfl ?_;intro _
 repeat' (first|refine zaa ?_|refine zab ?_|refine zbt ?_|(refine jaa (.call ⟨.value (.func 143), _, _⟩) ?_;(apply jag (fid := 143);(·(repeat(first|exact SeA.nil|apply SeA.cons (.c (.d _)))));(·exact slIndex_p _ _);(·rfl)))|refine jaj ?_|refine jak ?_|refine jab ?_)
 (apply jat;apply jau;(·apply jbc.p;(·(apply GvA.cons;(·exact .tmp _);(·exact GvP.c (.lit _)));exact GvA.nil);(·decide)))
 rw [← h]
theorem swapped1_p (x y : Nat) (n : Int) (ll : List (List Int)) (hb : boxB x y n ll = true) (i k p : Nat) (hi : i < y) (hk : k < x) (hp : p < 4) :
  PC Tryz.prog 167 [.c (dI i), .c (dI k), .c (dI ((p / 2 : Nat) : Int)), .c (dI ((p % 2 : Nat) : Int)), .c (.pt [dI x, dI y, dI n, eII ll])] (.p (.c (dI (swapF ll y i k p)))) := by
 have pa := at_p x y n ll hb k i ((p % 2 : Nat) : Int) ((p / 2 : Nat) : Int) (by omega) (by omega) (by omega) (by omega) (by omega) (by omega) (by omega) (by omega)
 have e : 2 * ((p % 2 : Nat) : Int) + ((p / 2 : Nat) : Int) = ((2 * (p % 2) + p / 2 : Nat) : Int) := by omega
 rw [e] at pa
 obtain ⟨a, ha'⟩ : ∃ a, a = ((p / 2 : Nat) : Int) := ⟨_, rfl⟩
 obtain ⟨c, hc'⟩ : ∃ c, c = ((p % 2 : Nat) : Int) := ⟨_, rfl⟩
 rw [← ha', ← hc'] at pa ⊢
 clear e
 unfold swapF
 refine jaq Tryz.func167 rfl rfl rfl (by kernel_rfl) rfl rfl ?_;intro _
 repeat' (first|refine zaa ?_|(refine jaa (.load 26 _) ?_;(refine jac (jdu rfl (by kernel_rfl : tAgg _ 26 4 = true) (by simp)) rfl ?_))|refine zab ?_|(refine jaa (.call ⟨.value (.func 34), _, _⟩) ?_;(apply jag (fid := 34);(·(repeat(first|exact SeA.nil|apply SeA.cons (.c (.d _))|(apply SeA.cons;(·(apply SeP.g;(repeat(first|exact SeL.nil|apply SeL.cons (.d _)))))))));(·exact pa);(·rfl)))|refine jaj ?_|refine jak ?_|refine jab ?_)
 (apply jat;apply jau;(·apply jbc.p;(·(apply GvA.cons;(·exact .tmp _);(·exact GvP.c (.lit _)));exact GvA.nil);(·decide)))
 rfl
theorem swapped_p (x y n : Int) (ll : List (List Int)) (hb : boxB x y n ll = true) : PC Tryz.prog 120 [.g [dI x, dI y, dI n, eII ll]] (.p (.g [dI y, dI x, dI n, eII (swapL ll x y)])) := by
 obtain ⟨x, y, rfl, rfl, hx, hy⟩ := jgc hb
 have nb := newBox_p y x n 167 [.pt [dI x, dI y, dI n, eII ll]] (swapF ll y) (by omega) (by omega) (fun i k p hi hk hp => swapped1_p x y n ll hb i k p hi hk hp)
 refine jaq Tryz.func120 rfl rfl rfl (by kernel_rfl) rfl rfl ?_;intro _
 repeat' (first|(refine jaa (.box 26 _) ?_;refine jbh rfl rfl ?_)|(refine jaa (.alloc 26) ?_;refine jav (zs := [.int .i64 0, .int .i64 0, .int .i64 0, .slice none 0 0]) (by kernel_rfl) rfl ?_)|refine zaw ?_|refine zaf ?_|refine zav ?_|refine zbb ?_|(refine jaa (.makeFunc _ _ _) ?_;(apply jac;(·apply jev;(repeat(first|exact EvL.nil|(apply EvL.cons;(·rfl)))));(·rfl)))|(refine jaa (.store 26 _ _) ?_;(refine jah rfl rfl rfl (by kernel_rfl) rfl rfl ?_))|(refine jaa (.call ⟨.value (.func 166), _, _⟩) ?_;(apply jbq (fid := 166);(·(repeat(first|exact SeA.nil|apply SeA.cons (.c (.d _))|(apply SeA.cons;(·(apply SeP.c;apply Se.fn;(repeat(first|exact SeL.nil|(apply SeL.cons;(·apply Se.pt;(·rfl);(·rfl);(·(repeat(first|exact SeL.nil|apply SeL.cons (.d _))))))))))))));(·exact nb);(·rfl);(·rfl)))|refine jaj ?_|refine jak ?_|refine jab ?_)
 (apply jat;apply jau;(·apply jbc.p;(·(apply GvA.cons;(·(apply RV.cellN (n := 4);(·rfl);(·rfl);(·kernel_rfl);(·rfl)));(·(apply GvP.g;(·(apply GvL.cons (.lit _));(apply GvL.cons (.lit _));(apply GvL.cons (.lit _));((apply GvL.cons (.row _ _ _ _ rfl (by ((simp;done))))));exact GvL.nil))));exact GvA.nil);(·decide)))
 simp [swapL]
theorem flipped1_p (x y : Nat) (n : Int) (ll : List (List Int)) (fl : List Int) (hb : boxB x y n ll = true) (hf : bitsB fl ((x : Int) + y) = true) (i k p : Nat) (hi : i < x) (hk : k < y) (hp : p < 4) :
  PC Tryz.prog 169 [.c (dI i), .c (dI k), .c (dI ((p / 2 : Nat) : Int)), .c (dI ((p % 2 : Nat) : Int)), .c (.pt [dI x, dI y, dI n, eII ll]), .c (.pt [eI fl])] (.p (.c (dI (bflF ll x y fl i k p)))) := by
 have hl := jce hf
 have hx3 := (jbp hb).x3
 have hy3 := (jbp hb).y3
 have f1 := jda hf (i := (i : Int)) (by omega) (by omega)
 have f2 := jda hf (i := (x : Int) + k) (by omega) (by omega)
 obtain ⟨⟨b1, b2⟩, b3⟩ := xor_pair hp f1 f2
 have pa := at_p x y n ll hb i k _ _ (by omega) (by omega) (by omega) (by omega) b1.1 b1.2 b2.1 b2.2
 rw [b3] at pa
 obtain ⟨a, ha'⟩ : ∃ a, a = ((p / 2 : Nat) : Int) := ⟨_, rfl⟩
 obtain ⟨c, hc'⟩ : ∃ c, c = ((p % 2 : Nat) : Int) := ⟨_, rfl⟩
 rw [← ha', ← hc'] at pa ⊢
 clear b1 b2 b3
 unfold bflF flipOf
 refine jaq Tryz.func169 rfl rfl rfl (by kernel_rfl) rfl rfl ?_;intro _
 repeat' (first|refine zaa ?_|(refine jaa (.load 26 _) ?_;(refine jac (jdu rfl (by kernel_rfl : tAgg _ 26 4 = true) (by simp)) rfl ?_))|refine zab ?_|refine zaq ?_|refine zao ?_|refine zap ?_|(refine jaa (.binOp .xor 3 _ _ _) ?_;refine jac (jdw rfl rfl (by simp)) rfl ?_)|(refine jaa (.fieldAddr 26 _ 0) ?_;(refine jac (qt_fld_pt (off := 0) rfl (by kernel_rfl) (by simp)) rfl ?_))|refine zad ?_|(refine jaa (.call ⟨.value (.func 34), _, _⟩) ?_;(apply jag (fid := 34);(·(repeat(first|exact SeA.nil|apply SeA.cons (.c (.d _))|(apply SeA.cons;(·(apply SeP.g;(repeat(first|exact SeL.nil|apply SeL.cons (.d _)))))))));(·exact pa);(·rfl)))|refine jaj ?_|refine jak ?_|refine jab ?_|refine jbd 1 (fun _ => false) (.step 0 true (.step 1 true (.step 2 true (.step 3 true (.step 4 true (.step 5 true (.step 6 true (.step 7 true (.step 8 true (.step 9 true (.step 10 true (.step 11 true (.step 12 true (.step 13 true (.step 14 true (.step 15 true (.step 16 true (.step 17 true (.step 18 false (.step 19 true .nil)))))))))))))))))))) [(0, 1048575, 1048575, false), (0, 1048575, 1048575, true), (0, 1048575, 1048575, true), (0, 1048575, 1048575, true), (0, 1048575, 1048575, false), (0, 1048575, 1048575, true), (48, 1048527, 1048575, true), (64, 1048511, 1048575, false), (136, 1048439, 1048575, true), (0, 1048575, 1048575, true), (0, 1048575, 1048575, false), (0, 1048575, 1048575, true), (2048, 1046527, 1048575, false), (0, 1048575, 1048575, true), (12288, 1036287, 1048575, true), (17408, 1031167, 1048575, true), (32768, 1015807, 1048575, false), (66048, 982527, 1048575, true), (131335, 917240, 1048575, false), (524287, 786431, 1048575, true)] (by kernel_rfl) (by kernel_rfl) ?_)
 (apply jat;apply jau;(·apply jbc.p;(·(apply GvA.cons;(·exact .tmp _);(·exact GvP.c (.lit _)));exact GvA.nil);(·decide)))
 rfl
theorem flipped_p (x y n : Int) (ll : List (List Int)) (fl : List Int) (hb : boxB x y n ll = true) (hf : bitsB fl (x + y) = true) : PC Tryz.prog 123 [.g [dI x, dI y, dI n, eII ll], .c (eI fl)] (.p (.g [dI x, dI y, dI n, eII (bflL ll x y fl)])) := by
 obtain ⟨x, y, rfl, rfl, hx, hy⟩ := jgc hb
 have nb := newBox_p x y n 169 [.pt [dI x, dI y, dI n, eII ll], .pt [eI fl]] (bflF ll x y fl) (by omega) (by omega) (fun i k p hi hk hp => flipped1_p x y n ll fl hb hf i k p hi hk hp)
 refine jaq Tryz.func123 rfl rfl rfl (by kernel_rfl) rfl rfl ?_;intro _
 repeat' (first|(refine jaa (.box 26 _) ?_;refine jbh rfl rfl ?_)|(refine jaa (.box 27 _) ?_;refine jbh rfl rfl ?_)|(refine jaa (.alloc 26) ?_;refine jav (zs := [.int .i64 0, .int .i64 0, .int .i64 0, .slice none 0 0]) (by kernel_rfl) rfl ?_)|refine zav ?_|refine zaf ?_|refine zaw ?_|refine zbb ?_|(refine jaa (.makeFunc _ _ _) ?_;(apply jac;(·apply jev;(repeat(first|exact EvL.nil|(apply EvL.cons;(·rfl)))));(·rfl)))|(refine jaa (.store 26 _ _) ?_;(refine jah rfl rfl rfl (by kernel_rfl) rfl rfl ?_))|(refine jaa (.call ⟨.value (.func 166), _, _⟩) ?_;(apply jbq (fid := 166);(·(repeat(first|exact SeA.nil|apply SeA.cons (.c (.d _))|(apply SeA.cons;(·(apply SeP.c;apply Se.fn;(repeat(first|exact SeL.nil|(apply SeL.cons;(·apply Se.pt;(·rfl);(·rfl);(·(repeat(first|exact SeL.nil|apply SeL.cons (.d _))))))))))))));(·exact nb);(·rfl);(·rfl)))|refine jaj ?_|refine jak ?_|refine jab ?_)
 (apply jat;apply jau;(·apply jbc.p;(·(apply GvA.cons;(·(apply RV.cellN (n := 4);(·rfl);(·rfl);(·kernel_rfl);(·rfl)));(·(apply GvP.g;(·(apply GvL.cons (.lit _));(apply GvL.cons (.lit _));(apply GvL.cons (.lit _));((apply GvL.cons (.row _ _ _ _ rfl (by ((simp;done))))));exact GvL.nil))));exact GvA.nil);(·decide)))
 simp [bflL]
theorem questions_p (n : Int) (ll : List (List Int)) (x y : Int) : PC Tryz.prog 162 [.g [dI x, dI y, dI n, eII ll]] (.p (.g [dI x, dI y])) := by
 refine jaq Tryz.func162 rfl rfl rfl (by kernel_rfl) rfl rfl ?_;intro _
 repeat' (first|(refine jaa (.box 26 _) ?_;refine jbh rfl rfl ?_)|(refine jaa (.alloc 69) ?_;refine jav (zs := [.int .i64 0, .int .i64 0]) (by kernel_rfl) rfl ?_)|refine zav ?_|refine zaf ?_|refine zaw ?_|refine zcc ?_|(refine jaa (.store 69 _ _) ?_;(refine jah rfl rfl rfl (by kernel_rfl) rfl rfl ?_))|refine jaj ?_|refine jak ?_|refine jab ?_)
 (apply jat;apply jau;(·apply jbc.p;(·(apply GvA.cons;(·(apply RV.cellN (n := 2);(·rfl);(·rfl);(·kernel_rfl);(·rfl)));(·(apply GvP.g;(·(apply GvL.cons (.lit _));(apply GvL.cons (.lit _));exact GvL.nil))));exact GvA.nil);(·decide)))
 rfl
theorem onesG_p (X Y : Nat) (n : Int) (ll : List (List Int)) (h : boxB X Y n ll = true) (w q j : Nat) (hw : w < 2) (hq : q < szG X Y w) (hj : j < szG X Y (1 - w)) :
  PC Tryz.prog 163 [.g [dI X, dI Y, dI n, eII ll], .c (dI w), .c (dI q), .c (dI j)] (.p (.c (dI (onG ll Y w q j)))) := by
 have n2 := (jbp h).n2
 rcases (by omega : w = 0 ∨ w = 1) with rfl|rfl
 ·unfold szG at hq hj
  simp only [if_true, Nat.sub_zero] at hq hj
  rw [if_neg (by omega)] at hj
  obtain ⟨b, -⟩ := jer h hq hj
  have b2 := b 2 (by omega);have b3 := b 3 (by omega)
  have p2 := at_p X Y n ll h q j 1 0 (by omega) (by omega) (by omega) (by omega) (by omega) (by omega) (by omega) (by omega)
  have p3 := at_p X Y n ll h q j 1 1 (by omega) (by omega) (by omega) (by omega) (by omega) (by omega) (by omega) (by omega)
  simp only [Int.reduceMul, Int.reduceAdd, Int.cast_ofNat_Int] at b2 b3 p2 p3
  unfold onG
  clear b
  refine jaq Tryz.func163 rfl rfl rfl (by kernel_rfl) rfl rfl ?_;intro _
  repeat' (first|(refine jaa (.box 26 _) ?_;refine jbh rfl rfl ?_)|refine zaa ?_|refine zab ?_|refine zai ?_|refine zae ?_|refine zad ?_|(refine jaa (.call ⟨.value (.func 34), _, _⟩) ?_;(first|(apply jag (fid := 34);(·(repeat(first|exact SeA.nil|apply SeA.cons (.c (.d _))|(apply SeA.cons;(·(apply SeP.g;(repeat(first|exact SeL.nil|apply SeL.cons (.d _)))))))));(·exact p2);(·rfl))|(apply jag (fid := 34);(·(repeat(first|exact SeA.nil|apply SeA.cons (.c (.d _))|(apply SeA.cons;(·(apply SeP.g;(repeat(first|exact SeL.nil|apply SeL.cons (.d _)))))))));(·exact p3);(·rfl))))|refine jaj ?_|refine jak ?_|refine jab ?_|refine jbd 2 (fun _ => false) (.step 0 true (.step 1 true (.step 2 true (.step 4 true (.step 5 true (.step 6 true (.step 3 false (.step 7 false (.step 8 true (.step 9 true .nil)))))))))) [(0, 1023, 1023, false), (0, 1023, 1023, true), (0, 1023, 1023, true), (7, 1016, 1023, false), (0, 1023, 1023, false), (0, 1023, 1023, true), (0, 1023, 1023, true), (120, 911, 1023, false), (136, 887, 1023, true), (511, 767, 1023, true)] (by kernel_rfl) (by kernel_rfl) ?_|refine jbk rfl ?_)
  all_goals first|(exfalso;omega)|(exfalso;simp_all;done)|skip
  all_goals (apply jat;apply jau;(·apply jbc.p;(·(apply GvA.cons;(·exact .tmp _);(·exact GvP.c (.lit _)));exact GvA.nil);(·decide)))
  all_goals simp_all
 ·unfold szG at hq hj
  rw [if_neg (by omega)] at hq
  simp only [Nat.sub_self, if_true] at hj
  obtain ⟨b, -⟩ := jer h hj hq
  have b1 := b 1 (by omega);have b3 := b 3 (by omega)
  have p1 := at_p X Y n ll h j q 0 1 (by omega) (by omega) (by omega) (by omega) (by omega) (by omega) (by omega) (by omega)
  have p3 := at_p X Y n ll h j q 1 1 (by omega) (by omega) (by omega) (by omega) (by omega) (by omega) (by omega) (by omega)
  simp only [Int.reduceMul, Int.reduceAdd, Int.natCast_one, Int.cast_ofNat_Int] at b1 b3 p1 p3
  unfold onG
  clear b
  refine jaq Tryz.func163 rfl rfl rfl (by kernel_rfl) rfl rfl ?_;intro _
  repeat' (first|(refine jaa (.box 26 _) ?_;refine jbh rfl rfl ?_)|refine zaa ?_|refine zab ?_|refine zai ?_|refine zae ?_|refine zad ?_|(refine jaa (.call ⟨.value (.func 34), _, _⟩) ?_;(first|(apply jag (fid := 34);(·(repeat(first|exact SeA.nil|apply SeA.cons (.c (.d _))|(apply SeA.cons;(·(apply SeP.g;(repeat(first|exact SeL.nil|apply SeL.cons (.d _)))))))));(·exact p1);(·rfl))|(apply jag (fid := 34);(·(repeat(first|exact SeA.nil|apply SeA.cons (.c (.d _))|(apply SeA.cons;(·(apply SeP.g;(repeat(first|exact SeL.nil|apply SeL.cons (.d _)))))))));(·exact p3);(·rfl))))|refine jaj ?_|refine jak ?_|refine jan ?_|refine jab ?_|refine jbd 3 (fun _ => false) (.step 0 true (.step 1 true (.step 2 true (.step 4 true (.step 5 true (.step 6 true (.step 3 false (.step 7 false (.step 8 true (.step 9 true .nil)))))))))) [(0, 1023, 1023, false), (0, 1023, 1023, true), (0, 1023, 1023, true), (7, 1016, 1023, false), (0, 1023, 1023, false), (0, 1023, 1023, true), (0, 1023, 1023, true), (120, 911, 1023, false), (136, 887, 1023, true), (511, 767, 1023, true)] (by kernel_rfl) (by kernel_rfl) ?_|refine jbj rfl ?_)
  all_goals first|(exfalso;omega)|(exfalso;simp_all;done)|skip
  all_goals (apply jat;apply jau;(·apply jbc.p;(·(apply GvA.cons;(·exact .tmp _);(·exact GvP.c (.lit _)));exact GvA.nil);(·decide)))
  all_goals simp_all
theorem loudG_p (X Y : Nat) (n : Int) (ll : List (List Int)) (h : boxB X Y n ll = true) : PE Tryz.prog 118 [.g [dI X, dI Y, dI n, eII ll]] (fun res => ∃ u v : Int, res = .t [.c (dI u), .c (dI v), .c (dB (!quietG ll X Y))]) := by
 have b := jbp h
 have x1 := b.x1;have x3 := b.x3;have y1 := b.y1;have y3 := b.y3
 clear b
 refine jjv Tryz.func118 rfl rfl rfl (by kernel_rfl) rfl rfl ?_;intro _
 repeat' (first|(refine jaa (.box 26 _) ?_;refine jbh rfl rfl ?_)|refine zaa ?_|refine zae ?_|(refine jaa (.alloc 69) ?_;refine jav (zs := [.int .i64 0, .int .i64 0]) (by kernel_rfl) rfl ?_)|(refine jaa (.store 69 _ _) ?_;(refine jah rfl rfl rfl (by kernel_rfl) rfl rfl ?_))|refine zab ?_|(refine jaa (.call ⟨.value (.func 162), _, _⟩) ?_;(apply jag (fid := 162);(·(repeat(first|exact SeA.nil|(apply SeA.cons;(·(apply SeP.g;(repeat(first|exact SeL.nil|apply SeL.cons (.d _)))))))));(·exact questions_p _ _ _ _);(·rfl)))|refine jaj ?_|refine jak ?_|refine jai ?_|refine jab ?_)
 apply jay [1, 5, 11] [1, 5] rfl;(·(repeat(first|exact Pf.nil|apply Pf.cons (.c rfl (.d rfl))|apply Pf.cons (.c rfl (.lp rfl)))));(·(repeat(first|exact Pb.nil|(apply Pb.cons;(·apply Nb.box rfl;(repeat(first|exact Ncs.nil rfl|(apply Ncs.cons rfl;(·(exact .d rfl))))))))))
 refine jbb [1, 5] [1, 5] (fun w => [(11, iN w)]) (fun _ => []) (fun w => w ≤ 2 ∧ ∀ w' q j : Nat, w' < w → q < szG X Y w' → j < szG X Y (1 - w') → onG ll Y w' q j = onG ll Y w' q 0) (fun w => 2 - w) (0) ?_ (by (repeat(first|exact trivial|refine ⟨(by rfl), ?_⟩))) (by (repeat(exact trivial))) ?_
 ·exact ⟨by omega, fun u q j hu => by omega⟩
 rintro w ⟨hw, hW⟩
 rcases (by omega : w = 0 ∨ w = 1 ∨ w = 2) with rfl|rfl|rfl
 ·have no := fun q j : Nat => fun hq hj => jkv (ll := ll) (X := X) (Y := Y) (w := 0) (q := q) (j := j) (by omega) hq hj
  have on0 := fun q j : Nat => fun hq hj => onesG_p X Y n ll h 0 q j (by omega) hq hj
  simp only [szG, if_true, Nat.sub_zero, Nat.one_ne_zero, if_false] at no on0
  repeat' (first|refine zaa ?_|refine zab ?_|refine zac ?_|refine zbq ?_|refine zaf ?_|refine jaj ?_|refine jak ?_|refine jai ?_|refine jan ?_|refine jab ?_|refine jbk rfl ?_)
  all_goals first|(exfalso;omega)|skip
  apply jay [1, 5, 6, 11, 16, 17] [1, 5] rfl;(·(repeat(first|exact Pf.nil|apply Pf.cons (.c rfl (.d rfl))|apply Pf.cons (.c rfl (.lp rfl)))));(·(repeat(first|exact Pb.nil|(apply Pb.cons;(·apply Nb.box rfl;(repeat(first|exact Ncs.nil rfl|(apply Ncs.cons rfl;(·(exact .d rfl))))))))))
  refine jbb [1, 5, 6, 11, 16] [1, 5] (fun q => [(17, iN q)]) (fun _ => []) (fun q => q ≤ X ∧ ∀ r j : Nat, r < q → j < Y → onG ll Y 0 r j = onG ll Y 0 r 0) (fun q => X - q) (0) ?_ (by (repeat(first|exact trivial|refine ⟨(by rfl), ?_⟩))) (by (repeat(exact trivial))) ?_
  ·exact ⟨by omega, fun u j hu => by omega⟩
  rintro q ⟨hq, hQ⟩
  by_cases hq2 : q < X
  ·have o0 := on0 q 0 hq2 (by omega)
   repeat' (first|refine zaa ?_|refine zab ?_|refine zac ?_|refine zbq ?_|refine zaf ?_|refine zan ?_|refine zad ?_|refine jaj ?_|refine jak ?_|refine jai ?_|refine jaz ?_|refine jar rfl ?_|refine jan ?_|refine jab ?_|refine jbi rfl (fun hc => ?_) (fun hc => ?_))
   all_goals first|(exfalso;omega)|skip
   apply jay [1, 5, 6, 7, 11, 16, 17, 23, 24] [1, 5] rfl;(·(repeat(first|exact Pf.nil|apply Pf.cons (.c rfl (.d rfl))|apply Pf.cons (.c rfl (.lp rfl)))));(·(repeat(first|exact Pb.nil|(apply Pb.cons;(·apply Nb.box rfl;(repeat(first|exact Ncs.nil rfl|(apply Ncs.cons rfl;(·(exact .d rfl))))))))))
   refine jbb [1, 5, 6, 7, 11, 16, 17, 23] [1, 5] (fun j => [(24, iN j)]) (fun _ => []) (fun j => j ≤ Y ∧ ∀ t : Nat, t < j → onG ll Y 0 q t = onG ll Y 0 q 0) (fun j => Y - j) (0) ?_ (by (repeat(first|exact trivial|refine ⟨(by rfl), ?_⟩))) (by (repeat(exact trivial))) ?_
   ·exact ⟨by omega, fun u hu => by omega⟩
   rintro j ⟨hj, hJ⟩
   by_cases hj2 : j < Y
   ·have oj := on0 q j hq2 hj2
    have nj := no q j hq2 hj2
    by_cases he : onG ll Y 0 q j = onG ll Y 0 q 0
    ·repeat' (first|refine zaa ?_|refine zae ?_|refine zab ?_|refine zac ?_|refine zbp ?_|refine zad ?_|(refine jaa (.call ⟨.value (.func 163), _, _⟩) ?_;(first|(apply jag (fid := 163);(·(repeat(first|exact SeA.nil|apply SeA.cons (.c (.d _))|(apply SeA.cons;(·(apply SeP.g;(repeat(first|exact SeL.nil|apply SeL.cons (.d _)))))))));(·exact oj);(·rfl))|(apply jag (fid := 163);(·(repeat(first|exact SeA.nil|apply SeA.cons (.c (.d _))|(apply SeA.cons;(·(apply SeP.g;(repeat(first|exact SeL.nil|apply SeL.cons (.d _)))))))));(·exact o0);(·rfl))))|refine jaj ?_|refine jak ?_|refine jai ?_|refine jaz ?_|refine jar rfl ?_|refine jan ?_|refine jab ?_|refine jbd 11 (fun _ => false) (.step 0 true (.step 1 true (.step 2 true (.step 3 true (.step 5 true (.step 6 true (.step 7 true (.step 4 false (.step 8 false (.step 9 true .nil)))))))))) [(0, 1023, 1023, false), (0, 1023, 1023, true), (0, 1023, 1023, true), (0, 1023, 1023, true), (15, 1008, 1023, false), (0, 1023, 1023, false), (0, 1023, 1023, true), (0, 1023, 1023, true), (240, 799, 1023, false), (272, 751, 1023, true)] (by kernel_rfl) (by kernel_rfl) ?_|refine jbi rfl (fun hc => ?_) (fun hc => ?_))
     all_goals first|(exfalso;omega)|(exfalso;simp_all;done)|skip
     refine jba ?_;refine ⟨j + 1, ?_, ?_, jbx rfl (by (repeat(first|exact trivial|refine ⟨(by rfl), ?_⟩))) (by (repeat(first|exact trivial|refine ⟨rfl, ?_⟩))) (by (repeat(exact trivial))) (by (repeat(first|exact trivial|refine ⟨.inr rfl, ?_⟩)))⟩
     ·refine ⟨by omega, fun t ht => ?_⟩
      by_cases h3 : t = j
      ·subst h3;exact he
      ·exact hJ t (by omega)
     ·omega
    ·have nz := nj he
     repeat' (first|refine zaa ?_|refine zae ?_|refine zab ?_|refine zac ?_|refine zbp ?_|refine zad ?_|(refine jaa (.call ⟨.value (.func 163), _, _⟩) ?_;(first|(apply jag (fid := 163);(·(repeat(first|exact SeA.nil|apply SeA.cons (.c (.d _))|(apply SeA.cons;(·(apply SeP.g;(repeat(first|exact SeL.nil|apply SeL.cons (.d _)))))))));(·exact oj);(·rfl))|(apply jag (fid := 163);(·(repeat(first|exact SeA.nil|apply SeA.cons (.c (.d _))|(apply SeA.cons;(·(apply SeP.g;(repeat(first|exact SeL.nil|apply SeL.cons (.d _)))))))));(·exact o0);(·rfl))))|refine jaj ?_|refine jak ?_|refine jai ?_|refine jaz ?_|refine jar rfl ?_|refine jan ?_|refine jab ?_|refine jbd 11 (fun _ => false) (.step 0 true (.step 1 true (.step 2 true (.step 3 true (.step 5 true (.step 6 true (.step 7 true (.step 4 false (.step 8 false (.step 9 true .nil)))))))))) [(0, 1023, 1023, false), (0, 1023, 1023, true), (0, 1023, 1023, true), (0, 1023, 1023, true), (15, 1008, 1023, false), (0, 1023, 1023, false), (0, 1023, 1023, true), (0, 1023, 1023, true), (240, 799, 1023, false), (272, 751, 1023, true)] (by kernel_rfl) (by kernel_rfl) ?_|refine jbi rfl (fun hc => ?_) (fun hc => ?_))
     all_goals first|(exfalso;omega)|(exfalso;simp_all;done)|skip
     (apply jhu;(·apply jbc.t;(·(apply GvA.cons;(·exact .tmp _);(·exact GvP.c (.lit _)));(apply GvA.cons;(·exact .tmp _);(·exact GvP.c (.lit _)));(apply GvA.cons;(·exact .tmp _);(·exact GvP.c (.lit _)));exact GvA.nil);(·rfl);(·decide)))
     exact ⟨_, _, by rw [nz];rfl⟩
   ·repeat' (first|refine zaa ?_|refine zae ?_|refine zab ?_|refine zac ?_|refine zad ?_|refine jaj ?_|refine jak ?_|refine jai ?_|refine jaz ?_|refine jar rfl ?_|refine jan ?_|refine jab ?_|refine jbd 11 (fun _ => false) (.step 0 true (.step 1 true (.step 2 true (.step 3 true (.step 5 true (.step 6 true (.step 7 true (.step 4 false (.step 8 false (.step 9 true .nil)))))))))) [(0, 1023, 1023, false), (0, 1023, 1023, true), (0, 1023, 1023, true), (0, 1023, 1023, true), (15, 1008, 1023, false), (0, 1023, 1023, false), (0, 1023, 1023, true), (0, 1023, 1023, true), (240, 799, 1023, false), (272, 751, 1023, true)] (by kernel_rfl) (by kernel_rfl) ?_|refine jbi rfl (fun hc => ?_) (fun hc => ?_))
    all_goals first|(exfalso;omega)|skip
    refine jba ?_;refine ⟨q + 1, ?_, ?_, jbx rfl (by (repeat(first|exact trivial|refine ⟨(by rfl), ?_⟩))) (by (repeat(first|exact trivial|refine ⟨rfl, ?_⟩))) (by (repeat(exact trivial))) (by (repeat(first|exact trivial|refine ⟨.inr rfl, ?_⟩)))⟩
    ·refine ⟨by omega, fun r t hr ht => ?_⟩
     by_cases h3 : r = q
     ·subst h3;exact hJ t (by omega)
     ·exact hQ r t (by omega) ht
    ·omega
  ·repeat' (first|refine zaa ?_|refine zab ?_|refine zac ?_|refine zbq ?_|refine zaf ?_|refine zan ?_|refine zad ?_|refine jaj ?_|refine jak ?_|refine jai ?_|refine jaz ?_|refine jar rfl ?_|refine jan ?_|refine jab ?_|refine jbi rfl (fun hc => ?_) (fun hc => ?_))
   all_goals first|(exfalso;omega)|skip
   refine jba ?_;refine ⟨1, ?_, ?_, jbx rfl (by (repeat(first|exact trivial|refine ⟨(by rfl), ?_⟩))) (by (repeat(first|exact trivial|refine ⟨rfl, ?_⟩))) (by (repeat(exact trivial))) (by (repeat(first|exact trivial|refine ⟨.inr rfl, ?_⟩)))⟩
   ·refine ⟨by omega, fun w' r t hw' hr ht => ?_⟩
    obtain rfl : w' = 0 := by omega
    exact hQ r t (by simp only [szG, if_true] at hr;omega) (by simp only [szG, Nat.sub_zero, Nat.one_ne_zero, if_false] at ht;omega)
   ·omega
 ·have no := fun q j : Nat => fun hq hj => jkv (ll := ll) (X := X) (Y := Y) (w := 1) (q := q) (j := j) (by omega) hq hj
  have on0 := fun q j : Nat => fun hq hj => onesG_p X Y n ll h 1 q j (by omega) hq hj
  simp only [szG, if_true, Nat.sub_self, Nat.one_ne_zero, if_false] at no on0
  repeat' (first|refine zaa ?_|refine zab ?_|refine zac ?_|refine zbq ?_|refine zaf ?_|refine jaj ?_|refine jak ?_|refine jai ?_|refine jan ?_|refine jab ?_|refine jbk rfl ?_)
  all_goals first|(exfalso;omega)|skip
  apply jay [1, 5, 6, 11, 16, 17] [1, 5] rfl;(·(repeat(first|exact Pf.nil|apply Pf.cons (.c rfl (.d rfl))|apply Pf.cons (.c rfl (.lp rfl)))));(·(repeat(first|exact Pb.nil|(apply Pb.cons;(·apply Nb.box rfl;(repeat(first|exact Ncs.nil rfl|(apply Ncs.cons rfl;(·(exact .d rfl))))))))))
  refine jbb [1, 5, 6, 11, 16] [1, 5] (fun q => [(17, iN q)]) (fun _ => []) (fun q => q ≤ Y ∧ ∀ r j : Nat, r < q → j < X → onG ll Y 1 r j = onG ll Y 1 r 0) (fun q => Y - q) (0) ?_ (by (repeat(first|exact trivial|refine ⟨(by rfl), ?_⟩))) (by (repeat(exact trivial))) ?_
  ·exact ⟨by omega, fun u j hu => by omega⟩
  rintro q ⟨hq, hQ⟩
  by_cases hq2 : q < Y
  ·have o0 := on0 q 0 hq2 (by omega)
   repeat' (first|refine zaa ?_|refine zab ?_|refine zac ?_|refine zbq ?_|refine zaf ?_|refine zan ?_|refine zad ?_|refine jaj ?_|refine jak ?_|refine jai ?_|refine jaz ?_|refine jar rfl ?_|refine jan ?_|refine jab ?_|refine jbi rfl (fun hc => ?_) (fun hc => ?_))
   all_goals first|(exfalso;omega)|skip
   apply jay [1, 5, 6, 7, 11, 16, 17, 23, 24] [1, 5] rfl;(·(repeat(first|exact Pf.nil|apply Pf.cons (.c rfl (.d rfl))|apply Pf.cons (.c rfl (.lp rfl)))));(·(repeat(first|exact Pb.nil|(apply Pb.cons;(·apply Nb.box rfl;(repeat(first|exact Ncs.nil rfl|(apply Ncs.cons rfl;(·(exact .d rfl))))))))))
   refine jbb [1, 5, 6, 7, 11, 16, 17, 23] [1, 5] (fun j => [(24, iN j)]) (fun _ => []) (fun j => j ≤ X ∧ ∀ t : Nat, t < j → onG ll Y 1 q t = onG ll Y 1 q 0) (fun j => X - j) (0) ?_ (by (repeat(first|exact trivial|refine ⟨(by rfl), ?_⟩))) (by (repeat(exact trivial))) ?_
   ·exact ⟨by omega, fun u hu => by omega⟩
   rintro j ⟨hj, hJ⟩
   by_cases hj2 : j < X
   ·have oj := on0 q j hq2 hj2
    have nj := no q j hq2 hj2
    by_cases he : onG ll Y 1 q j = onG ll Y 1 q 0
    ·repeat' (first|refine zaa ?_|refine zae ?_|refine zab ?_|refine zac ?_|refine zbp ?_|refine zad ?_|(refine jaa (.call ⟨.value (.func 163), _, _⟩) ?_;(first|(apply jag (fid := 163);(·(repeat(first|exact SeA.nil|apply SeA.cons (.c (.d _))|(apply SeA.cons;(·(apply SeP.g;(repeat(first|exact SeL.nil|apply SeL.cons (.d _)))))))));(·exact oj);(·rfl))|(apply jag (fid := 163);(·(repeat(first|exact SeA.nil|apply SeA.cons (.c (.d _))|(apply SeA.cons;(·(apply SeP.g;(repeat(first|exact SeL.nil|apply SeL.cons (.d _)))))))));(·exact o0);(·rfl))))|refine jaj ?_|refine jak ?_|refine jai ?_|refine jaz ?_|refine jar rfl ?_|refine jan ?_|refine jab ?_|refine jbd 11 (fun _ => false) (.step 0 true (.step 1 true (.step 2 true (.step 3 true (.step 5 true (.step 6 true (.step 7 true (.step 4 false (.step 8 false (.step 9 true .nil)))))))))) [(0, 1023, 1023, false), (0, 1023, 1023, true), (0, 1023, 1023, true), (0, 1023, 1023, true), (15, 1008, 1023, false), (0, 1023, 1023, false), (0, 1023, 1023, true), (0, 1023, 1023, true), (240, 799, 1023, false), (272, 751, 1023, true)] (by kernel_rfl) (by kernel_rfl) ?_|refine jbi rfl (fun hc => ?_) (fun hc => ?_))
     all_goals first|(exfalso;omega)|(exfalso;simp_all;done)|skip
     refine jba ?_;refine ⟨j + 1, ?_, ?_, jbx rfl (by (repeat(first|exact trivial|refine ⟨(by rfl), ?_⟩))) (by (repeat(first|exact trivial|refine ⟨rfl, ?_⟩))) (by (repeat(exact trivial))) (by (repeat(first|exact trivial|refine ⟨.inr rfl, ?_⟩)))⟩
     ·refine ⟨by omega, fun t ht => ?_⟩
      by_cases h3 : t = j
      ·subst h3;exact he
      ·exact hJ t (by omega)
     ·omega
    ·have nz := nj he
     repeat' (first|refine zaa ?_|refine zae ?_|refine zab ?_|refine zac ?_|refine zbp ?_|refine zad ?_|(refine jaa (.call ⟨.value (.func 163), _, _⟩) ?_;(first|(apply jag (fid := 163);(·(repeat(first|exact SeA.nil|apply SeA.cons (.c (.d _))|(apply SeA.cons;(·(apply SeP.g;(repeat(first|exact SeL.nil|apply SeL.cons (.d _)))))))));(·exact oj);(·rfl))|(apply jag (fid := 163);(·(repeat(first|exact SeA.nil|apply SeA.cons (.c (.d _))|(apply SeA.cons;(·(apply SeP.g;(repeat(first|exact SeL.nil|apply SeL.cons (.d _)))))))));(·exact o0);(·rfl))))|refine jaj ?_|refine jak ?_|refine jai ?_|refine jaz ?_|refine jar rfl ?_|refine jan ?_|refine jab ?_|refine jbd 11 (fun _ => false) (.step 0 true (.step 1 true (.step 2 true (.step 3 true (.step 5 true (.step 6 true (.step 7 true (.step 4 false (.step 8 false (.step 9 true .nil)))))))))) [(0, 1023, 1023, false), (0, 1023, 1023, true), (0, 1023, 1023, true), (0, 1023, 1023, true), (15, 1008, 1023, false), (0, 1023, 1023, false), (0, 1023, 1023, true), (0, 1023, 1023, true), (240, 799, 1023, false), (272, 751, 1023, true)] (by kernel_rfl) (by kernel_rfl) ?_|refine jbi rfl (fun hc => ?_) (fun hc => ?_))
     all_goals first|(exfalso;omega)|(exfalso;simp_all;done)|skip
     (apply jhu;(·apply jbc.t;(·(apply GvA.cons;(·exact .tmp _);(·exact GvP.c (.lit _)));(apply GvA.cons;(·exact .tmp _);(·exact GvP.c (.lit _)));(apply GvA.cons;(·exact .tmp _);(·exact GvP.c (.lit _)));exact GvA.nil);(·rfl);(·decide)))
     exact ⟨_, _, by rw [nz];rfl⟩
   ·repeat' (first|refine zaa ?_|refine zae ?_|refine zab ?_|refine zac ?_|refine zad ?_|refine jaj ?_|refine jak ?_|refine jai ?_|refine jaz ?_|refine jar rfl ?_|refine jan ?_|refine jab ?_|refine jbd 11 (fun _ => false) (.step 0 true (.step 1 true (.step 2 true (.step 3 true (.step 5 true (.step 6 true (.step 7 true (.step 4 false (.step 8 false (.step 9 true .nil)))))))))) [(0, 1023, 1023, false), (0, 1023, 1023, true), (0, 1023, 1023, true), (0, 1023, 1023, true), (15, 1008, 1023, false), (0, 1023, 1023, false), (0, 1023, 1023, true), (0, 1023, 1023, true), (240, 799, 1023, false), (272, 751, 1023, true)] (by kernel_rfl) (by kernel_rfl) ?_|refine jbi rfl (fun hc => ?_) (fun hc => ?_))
    all_goals first|(exfalso;omega)|skip
    refine jba ?_;refine ⟨q + 1, ?_, ?_, jbx rfl (by (repeat(first|exact trivial|refine ⟨(by rfl), ?_⟩))) (by (repeat(first|exact trivial|refine ⟨rfl, ?_⟩))) (by (repeat(exact trivial))) (by (repeat(first|exact trivial|refine ⟨.inr rfl, ?_⟩)))⟩
    ·refine ⟨by omega, fun r t hr ht => ?_⟩
     by_cases h3 : r = q
     ·subst h3;exact hJ t (by omega)
     ·exact hQ r t (by omega) ht
    ·omega
  ·repeat' (first|refine zaa ?_|refine zab ?_|refine zac ?_|refine zbq ?_|refine zaf ?_|refine zan ?_|refine zad ?_|refine jaj ?_|refine jak ?_|refine jai ?_|refine jaz ?_|refine jar rfl ?_|refine jan ?_|refine jab ?_|refine jbi rfl (fun hc => ?_) (fun hc => ?_))
   all_goals first|(exfalso;omega)|skip
   refine jba ?_;refine ⟨2, ?_, ?_, jbx rfl (by (repeat(first|exact trivial|refine ⟨(by rfl), ?_⟩))) (by (repeat(first|exact trivial|refine ⟨rfl, ?_⟩))) (by (repeat(exact trivial))) (by (repeat(first|exact trivial|refine ⟨.inr rfl, ?_⟩)))⟩
   ·refine ⟨by omega, fun w' r t hw' hr ht => ?_⟩
    by_cases h0 : w' = 0
    ·subst h0;exact hW 0 r t (by omega) hr ht
    ·obtain rfl : w' = 1 := by omega
     exact hQ r t (by simp only [szG, Nat.one_ne_zero, if_false] at hr;omega) (by simp only [szG, Nat.sub_self, if_true] at ht;omega)
   ·omega
 ·have yes := joi (ll := ll) (X := X) (Y := Y) fun w q j hw hq hj => hW w q j hw hq hj
  repeat' (first|refine zaa ?_|refine zac ?_|refine jaj ?_|refine jak ?_|refine jar rfl ?_|refine jab ?_|refine jbj rfl ?_)
  all_goals first|(exfalso;omega)|skip
  (apply jhu;(·apply jbc.t;(·(apply GvA.cons;(·exact .tmp _);(·exact GvP.c (.lit _)));(apply GvA.cons;(·exact .tmp _);(·exact GvP.c (.lit _)));(apply GvA.cons;(·exact .tmp _);(·exact GvP.c (.lit _)));exact GvA.nil);(·rfl);(·decide)))
  exact ⟨_, _, by rw [yes];rfl⟩
theorem isQuietG_p (X Y : Nat) (n : Int) (ll : List (List Int)) (h : boxB X Y n ll = true) : PC Tryz.prog 73 [.g [dI X, dI Y, dI n, eII ll]] (.p (.c (dB (quietG ll X Y)))) := by
 have w := IsBox_p X Y n ll
 rw [h] at w
 refine jaq Tryz.func73 rfl rfl rfl (by kernel_rfl) rfl rfl ?_;intro _
 repeat' (first|(refine jaa (.box 26 _) ?_;refine jbh rfl rfl ?_)|refine zaa ?_|refine zae ?_|refine zah ?_|(refine jaa (.move _) ?_;(first|refine jac (jal rfl) rfl ?_|refine jac (jcg rfl) rfl ?_))|refine zak ?_|(refine jaa (.call ⟨.value (.func 25), _, _⟩) ?_;(apply jag (fid := 25);(·(repeat(first|exact SeA.nil|(apply SeA.cons;(·(apply SeP.g;(repeat(first|exact SeL.nil|apply SeL.cons (.d _)))))))));(·exact w);(·rfl)))|(refine jaa (.call ⟨.value (.func 118), _, _⟩) ?_;((apply jdp (fid := 118);(·(repeat(first|exact SeA.nil|(apply SeA.cons;(·(apply SeP.g;(repeat(first|exact SeL.nil|apply SeL.cons (.d _)))))))));(·exact loudG_p X Y n ll h);(·rfl);(rintro _ ⟨u, v, rfl⟩))))|refine jaj ?_|refine jak ?_|refine jan ?_|refine jab ?_|refine jbj rfl ?_)
 all_goals first|(exfalso;simp_all;done)|skip
 (apply jat;apply jau;(·apply jbc.p;(·(apply GvA.cons;(·exact .tmp _);(·exact GvP.c (.lit _)));exact GvA.nil);(·decide)))
 simp
def prI (n i : Nat) : List (Nat × Nat) := (List.range i).flatMap fun a => (List.range (n - (a + 1))).map fun j => (a, a + 1 + j)
def prT (n i k : Nat) : List (Nat × Nat) := prI n i ++ (List.range (k - (i + 1))).map fun j => (i, i + 1 + j)
def prD (l : List (Nat × Nat)) : List D := l.flatMap fun p => [dI (p.1 : Int), dI (p.2 : Int)]
theorem prI_zero (n : Nat) : prI n 0 = [] := rfl
theorem jni (n i : Nat) : prI n (i + 1) = prT n i n := by simp [prI, prT, List.range_succ]
theorem prT_zero (n i : Nat) : prT n i (i + 1) = prI n i := by simp [prT]
theorem prT_succ {n i k : Nat} (h : i + 1 ≤ k) : prT n i (k + 1) = prT n i k ++ [(i, k)] := by
 unfold prT
 rw [show k + 1 - (i + 1) = (k - (i + 1)) + 1 by omega, List.range_succ, List.map_append, List.map_singleton, List.append_assoc, show i + 1 + (k - (i + 1)) = k by omega]
theorem jnj (l : List (Nat × Nat)) (p : Nat × Nat) : prD (l ++ [p]) = prD l ++ [dI (p.1 : Int), dI (p.2 : Int)] := by simp [prD]
theorem jjt (l : List (Nat × Nat)) : (prD l).length = l.length * 2 := by
 induction l with
 | nil => rfl
 | cons p l ih => simp [prD] at ih ⊢;omega
theorem prI_len (n i : Nat) : (prI n i).length ≤ n * i := by
 induction i with
 | zero => simp [prI_zero]
 | succ i ih =>
  have : (prI n (i + 1)).length = (prI n i).length + (n - (i + 1)) := by rw [jni];simp [prT]
  rw [this, Nat.mul_succ];omega
theorem prT_len (n i k : Nat) : (prT n i k).length ≤ n * i + k := by
 have := prI_len n i
 simp [prT]; omega
theorem prI_all {n : Nat} (h : n ≤ 3) : prI n n = prL n := by
 rcases (by omega : n = 0 ∨ n = 1 ∨ n = 2 ∨ n = 3) with rfl|rfl|rfl|rfl <;> rfl
abbrev eP (l : List (Nat × Nat)) : D := .sl 2 l.length (prD l)
theorem pairs_p (n : Nat) (h : n ≤ 3) : PC Tryz.prog 71 [.c (dI n)] (.p (.c (eP (prL n)))) := by
 refine jaq Tryz.func71 rfl rfl rfl (by kernel_rfl) rfl rfl ?_;intro _
 repeat' (first|refine zaa ?_|(refine jaa (.buildSlice 114 0 _) ?_;(apply jao (sz := 2) (by_ := 16);(·kernel_rfl);(·decide);(·(repeat(exact GvS.nil _)));(·decide);(·rfl);(·rfl);(·rfl)))|refine zab ?_|refine jaj ?_|refine jak ?_|refine jai ?_|refine jab ?_)
 apply jay [0, 3, 7, 8] [6, 22, 23] rfl;(·(repeat(first|exact Pf.nil|apply Pf.cons (.c rfl (.d rfl))|apply Pf.cons (.c rfl (.ls rfl)))));(·(repeat(first|exact Pb.nil|apply Pb.cons (.row rfl)|apply Pb.skip)))
 refine jbb [0, 7] [22, 23] (fun (g : Nat × List (Nat × Nat)) => [(8, iN g.1), (3, .c (.ls 6 2 0 g.2.length))]) (fun g => [(6, .row 2 (prD g.2))]) (fun g => g.1 ≤ n ∧ g.2 = prI n g.1) (fun g => n - g.1) ((0, [])) ?_ (by (repeat(first|exact trivial|refine ⟨(by rfl), ?_⟩))) (by (repeat(first|exact trivial|refine ⟨(by rfl), ?_⟩))) ?_
 ·exact ⟨by simp, rfl⟩
 rintro ⟨i, l⟩ ⟨hi, hl⟩
 dsimp only at hi hl ⊢
 have hll : l.length ≤ n * i := by rw [hl];exact prI_len n i
 have hni : n * i ≤ 3 * 3 := Nat.mul_le_mul h (by omega)
 by_cases h2 : i < n
 ·repeat' (first|refine zaa ?_|refine zab ?_|refine zac ?_|refine zad ?_|refine jaj ?_|refine jak ?_|refine jai ?_|refine jar rfl ?_|refine jan ?_|refine jab ?_|refine jbi rfl (fun hc => ?_) (fun hc => ?_))
  all_goals first|(exfalso;omega)|(exfalso;simp_all;done)|skip
  apply jay [0, 3, 4, 5, 7, 8] [6, 22, 23] rfl;(·(repeat(first|exact Pf.nil|apply Pf.cons (.c rfl (.d rfl))|apply Pf.cons (.c rfl (.ls rfl)))));(·(repeat(first|exact Pb.nil|apply Pb.cons (.row rfl)|apply Pb.skip)))
  refine jbb [0, 4, 7, 8] [22, 23] (fun (g : Nat × List (Nat × Nat)) => [(5, iN g.1), (3, .c (.ls 6 2 0 g.2.length))]) (fun g => [(6, .row 2 (prD g.2))]) (fun g => (i + 1 ≤ g.1 ∧ g.1 ≤ n) ∧ g.2 = prT n i g.1) (fun g => n - g.1) ((i + 1, l)) ?_ (by (repeat(first|exact trivial|refine ⟨(by rfl), ?_⟩))) (by (repeat(first|exact trivial|refine ⟨(by ((refine jbm rfl ?_;simp;done))), ?_⟩))) ?_
  ·exact ⟨by dsimp only;omega, by dsimp only;rw [prT_zero];exact hl⟩
  rintro ⟨k, m⟩ ⟨hk, hm⟩
  dsimp only at hk hm ⊢
  have hml : m.length ≤ n * i + k := by rw [hm];exact prT_len n i k
  have hpd := jjt m
  by_cases h3 : k < n
  ·repeat' (first|refine zaa ?_|refine zab ?_|refine zac ?_|refine zad ?_|refine zcc ?_|(refine jaa (.buildSlice 114 1 _) ?_;(apply jao (sz := 2) (by_ := 16);(·kernel_rfl);(·decide);(·(repeat(first|exact GvS.nil _|(apply GvS.g rfl;(·(repeat(first|exact GvL.nil|apply GvL.cons (.lit _))));(·rfl)))));(·decide);(·rfl);(·rfl);(·rfl)))|(refine jaa (.call ⟨.builtin .append, _, #[114, 114]⟩) ?_;((apply jbo (sz := 2) (by_ := 16);(·rfl);(·rfl);(·(assumption));(·exact .row _ _ _ _ rfl (by ((simp;done))));(·decide);(·kernel_rfl);(·decide);(·omega);(·omega);(·rfl);(·rfl);(·rfl))))|refine jaj ?_|refine jak ?_|refine jai ?_|refine jaz ?_|refine jar rfl ?_|refine jan ?_|refine jab ?_|refine jbi rfl (fun hc => ?_) (fun hc => ?_))
   all_goals first|(exfalso;omega)|(exfalso;simp_all;done)|skip
   refine jba ?_;refine ⟨(k + 1, m ++ [(i, k)]), ?_, ?_, jbx rfl (by (repeat(first|exact trivial|refine ⟨(by (first|rfl|(refine joq rfl ?_;((simp  [jnj];done))))), ?_⟩))) (by (repeat(first|exact trivial|refine ⟨rfl, ?_⟩))) (by (repeat(first|exact trivial|refine ⟨(by ((refine jbm rfl ?_;simp  [jnj];done))), ?_⟩))) (by (repeat(first|exact trivial|refine ⟨.inr rfl, ?_⟩)))⟩
   ·exact ⟨by dsimp only;omega, by dsimp only;rw [prT_succ hk.1, hm]⟩
   ·dsimp only; omega
  ·repeat' (first|refine zaa ?_|refine zab ?_|refine zac ?_|refine zad ?_|refine zcc ?_|(refine jaa (.buildSlice 114 1 _) ?_;(apply jao (sz := 2) (by_ := 16);(·kernel_rfl);(·decide);(·(repeat(first|exact GvS.nil _|(apply GvS.g rfl;(·(repeat(first|exact GvL.nil|apply GvL.cons (.lit _))));(·rfl)))));(·decide);(·rfl);(·rfl);(·rfl)))|(refine jaa (.call ⟨.builtin .append, _, #[114, 114]⟩) ?_;((apply jbo (sz := 2) (by_ := 16);(·rfl);(·rfl);(·(assumption));(·exact .row _ _ _ _ rfl (by ((simp;done))));(·decide);(·kernel_rfl);(·decide);(·omega);(·omega);(·rfl);(·rfl);(·rfl))))|refine jaj ?_|refine jak ?_|refine jai ?_|refine jaz ?_|refine jar rfl ?_|refine jan ?_|refine jab ?_|refine jbi rfl (fun hc => ?_) (fun hc => ?_))
   all_goals first|(exfalso;omega)|(exfalso;simp_all;done)|skip
   refine jba ?_;refine ⟨(i + 1, m), ?_, ?_, jbx rfl (by (repeat(first|exact trivial|refine ⟨(by rfl), ?_⟩))) (by (repeat(first|exact trivial|refine ⟨rfl, ?_⟩))) (by (repeat(first|exact trivial|refine ⟨(by ((refine jbm rfl ?_;simp;done))), ?_⟩))) (by (repeat(first|exact trivial|refine ⟨.inr rfl, ?_⟩)))⟩
   ·exact ⟨by dsimp only;omega, by dsimp only;rw [jni, hm, show k = n by omega]⟩
   ·dsimp only; omega
 ·have hpd := jjt l
  have e : l = prL n := by rw [hl, ← prI_all h, show i = n by omega]
  clear hl
  subst e
  repeat' (first|refine zaa ?_|refine zab ?_|refine zac ?_|refine zad ?_|refine jaj ?_|refine jak ?_|refine jai ?_|refine jar rfl ?_|refine jan ?_|refine jab ?_|refine jbi rfl (fun hc => ?_) (fun hc => ?_))
  all_goals first|(exfalso;omega)|(exfalso;simp_all;done)|skip
  all_goals (apply jat;apply jau;(·apply jbc.p;(·(apply GvA.cons;(·exact .tmp _);(·(exact GvP.c (.row _ _ _ _ rfl (by (assumption))))));exact GvA.nil);(·decide)))
  all_goals rfl
theorem four_p (y p1 p2 q1 q2 : Nat) (hy : y ≤ 3) (h1 : p1 < 3) (h2 : p2 < 3) (h3 : q1 < 3) (h4 : q2 < 3) : PC Tryz.prog 116 [.c (dI y), .g [dI p1, dI p2], .g [dI q1, dI q2]] (.p (.g [dI ((p1 * y + q1 : Nat) : Int), dI ((p1 * y + q2 : Nat) : Int), dI ((p2 * y + q1 : Nat) : Int), dI ((p2 * y + q2 : Nat) : Int)])) := by
 have m1 : p1 * y ≤ 2 * 3 := Nat.mul_le_mul (by omega) hy
 have m2 : p2 * y ≤ 2 * 3 := Nat.mul_le_mul (by omega) hy
 have e1 : (p1 : Int) * (y : Int) = ((p1 * y : Nat) : Int) := by push_cast;rfl
 have e2 : (p2 : Int) * (y : Int) = ((p2 * y : Nat) : Int) := by push_cast;rfl
 refine jaq Tryz.func116 rfl rfl rfl (by kernel_rfl) rfl rfl ?_;intro _
 repeat' (first|(refine jaa (.box 69 _) ?_;refine jbh rfl rfl ?_)|(refine jaa (.alloc 148) ?_;refine jav (zs := [.int .i64 0, .int .i64 0, .int .i64 0, .int .i64 0]) (by kernel_rfl) rfl ?_)|refine zbq ?_|refine zaf ?_|refine zab ?_|refine zba ?_|refine zad ?_|(refine jaa (.build 148 _) ?_;refine jac (jbv (cs := [_, _, _, _]) [(0, 1), (1, 1), (2, 1), (3, 1)] [.int .i64 0, .int .i64 0, .int .i64 0, .int .i64 0] (by kernel_rfl) (by kernel_rfl) rfl) rfl ?_)|(refine jaa (.store 148 _ _) ?_;(refine jah rfl rfl rfl (by kernel_rfl) rfl rfl ?_))|refine jaj ?_|refine jak ?_|refine jab ?_)
 all_goals first|(exfalso;omega)|(exfalso;simp_all;done)|skip
 all_goals (apply jat;apply jau;(·apply jbc.p;(·(apply GvA.cons;(·(apply RV.cellN (n := 4);(·rfl);(·rfl);(·kernel_rfl);(·rfl)));(·(apply GvP.g;(·(apply GvL.cons (.lit _));(apply GvL.cons (.lit _));(apply GvL.cons (.lit _));(apply GvL.cons (.lit _));exact GvL.nil))));exact GvA.nil);(·decide)))
 all_goals simp
def sumK4 (ll : List (List Int)) (Y : Nat) (p q : Nat × Nat) (m : Nat) : Nat → Int
 | 0 => 0
 | 1 => sgnM m 0 (agQ ll Y p.1 q.1)
 | 2 => sgnM m 0 (agQ ll Y p.1 q.1) + sgnM m 1 (agQ ll Y p.1 q.2)
 | 3 => sgnM m 0 (agQ ll Y p.1 q.1) + sgnM m 1 (agQ ll Y p.1 q.2) + sgnM m 2 (agQ ll Y p.2 q.1)
 | _ => sumQ ll Y p q m
theorem sum_p (X Y : Nat) (n : Int) (ll : List (List Int)) (h : boxB X Y n ll = true) (p q : Nat × Nat) (m : Nat) (hp : p.1 < X ∧ p.2 < X) (hq : q.1 < Y ∧ q.2 < Y) :
  PC Tryz.prog 72 [.g [dI X, dI Y, dI n, eII ll], .g [dI p.1, dI p.2], .g [dI q.1, dI q.2], .c (dI m)] (.p (.c (dI (sumQ ll Y p q m)))) := by
 have b := jbp h
 have x3 := b.x3;have y3 := b.y3;have n2 := b.n2;have n1 := b.n1
 have bd := fun (i k : Nat) (hi : i < X) (hk : k < Y) => jlp h hi hk
 have ap : ∀ i k : Nat, i < X → k < Y → (i * Y + k < ll.length) ∧ PC Tryz.prog 117 [.c (eI (atZ ll ((i * Y + k : Nat) : Int)))] (.p (.c (dI (agQ ll Y i k)))) := fun i k hi hk => by
  have hl : i * Y + k < ll.length := by
   have e := b.len
   have : i * Y + k < X * Y := by
    calc i * Y + k < i * Y + Y := by omega
     _ = (i + 1) * Y := by rw [Nat.succ_mul]
     _ ≤ X * Y := Nat.mul_le_mul_right _ hi
   have e2 : ((X * Y : Nat) : Int) = (X : Int) * (Y : Int) := by push_cast;rfl
   omega
  refine ⟨hl, ?_⟩
  have r := jef (b.row _ hl)
  have := agreement_p (atZ ll ((i * Y + k : Nat) : Int)) (by rw [jbw hl];exact r.1) (fun j j0 j1 => by
   obtain ⟨j, rfl⟩ := Int.eq_ofNat_of_zero_le j0
   rw [jbw hl, jbw (by rw [r.1];omega)]
   have := r.2 j (by rw [r.1];omega)
   omega)
  have e : ((i * Y + k : Nat) : Int) = (i : Int) * (Y : Int) + (k : Int) := by push_cast;rfl
  unfold agQ
  rwa [e] at this ⊢
 clear b
 obtain ⟨p1, p2⟩ := p
 obtain ⟨q1, q2⟩ := q
 dsimp only at hp hq ⊢
 obtain ⟨l0, a0⟩ := ap p1 q1 hp.1 hq.1
 obtain ⟨l1, a1⟩ := ap p1 q2 hp.1 hq.2
 obtain ⟨l2, a2⟩ := ap p2 q1 hp.2 hq.1
 obtain ⟨l3, a3⟩ := ap p2 q2 hp.2 hq.2
 have b0 := bd p1 q1 hp.1 hq.1
 have b1 := bd p1 q2 hp.1 hq.2
 have b2 := bd p2 q1 hp.2 hq.1
 have b3 := bd p2 q2 hp.2 hq.2
 have s0 := jfc (m := m) (t := 0) b0
 have s1 := jfc (m := m) (t := 1) b1
 have s2 := jfc (m := m) (t := 2) b2
 have s3 := jfc (m := m) (t := 3) b3
 clear ap bd
 have fp := four_p Y p1 p2 q1 q2 (by omega) (by omega) (by omega) (by omega) (by omega)
 generalize hk0 : p1 * Y + q1 = k0 at *
 generalize hk1 : p1 * Y + q2 = k1 at *
 generalize hk2 : p2 * Y + q1 = k2 at *
 generalize hk3 : p2 * Y + q2 = k3 at *
 have t0 : sumK4 ll Y (p1, p2) (q1, q2) m 0 = 0 := rfl
 have t1 : sumK4 ll Y (p1, p2) (q1, q2) m 1 = sumK4 ll Y (p1, p2) (q1, q2) m 0 + sgnM m 0 (agQ ll Y p1 q1) := by simp [sumK4]
 have t2 : sumK4 ll Y (p1, p2) (q1, q2) m 2 = sumK4 ll Y (p1, p2) (q1, q2) m 1 + sgnM m 1 (agQ ll Y p1 q2) := rfl
 have t3 : sumK4 ll Y (p1, p2) (q1, q2) m 3 = sumK4 ll Y (p1, p2) (q1, q2) m 2 + sgnM m 2 (agQ ll Y p2 q1) := rfl
 have t4 : sumK4 ll Y (p1, p2) (q1, q2) m 4 = sumK4 ll Y (p1, p2) (q1, q2) m 3 + sgnM m 3 (agQ ll Y p2 q2) := rfl
 have t5 : sumK4 ll Y (p1, p2) (q1, q2) m 4 = sumQ ll Y (p1, p2) (q1, q2) m := rfl
 generalize sumK4 ll Y (p1, p2) (q1, q2) m = F at *
 refine jaq Tryz.func72 rfl rfl rfl (by kernel_rfl) rfl rfl ?_;intro _
 repeat' (first|(refine jaa (.box 26 _) ?_;refine jbh rfl rfl ?_)|(refine jaa (.box 69 _) ?_;refine jbh rfl rfl ?_)|refine zaa ?_|refine zaw ?_|refine zaf ?_|refine zcd ?_|refine zab ?_|(refine jaa (.call ⟨.value (.func 116), _, _⟩) ?_;(apply jag (fid := 116);(·(repeat(first|exact SeA.nil|apply SeA.cons (.c (.d _))|(apply SeA.cons;(·(apply SeP.g;(repeat(first|exact SeL.nil|apply SeL.cons (.d _)))))))));(·exact fp);(·rfl)))|refine jaj ?_|refine jak ?_|refine jai ?_|refine jab ?_)
 apply jay [3, 4, 9, 16, 17] [4, 5, 6] rfl;(·(repeat(first|exact Pf.nil|apply Pf.cons (.c rfl (.d rfl))|apply Pf.cons (.c rfl (.lp rfl))|(apply Pf.cons;(·apply Nv.g rfl;(repeat(first|exact Ncs.nil rfl|(apply Ncs.cons rfl;(·(exact .d rfl))))))))));(·(repeat(first|exact Pb.nil|(apply Pb.cons;(·apply Nb.box rfl;(repeat(first|exact Ncs.nil rfl|(apply Ncs.cons rfl;(·(exact .d rfl))))))))))
 refine jbb [3, 4, 16] [4, 5, 6] (fun k => [(17, iN k), (9, iZ (F k))]) (fun _ => []) (fun k => k ≤ 4) (fun k => 4 - k) (0) ?_ (by (repeat(first|exact trivial|refine ⟨(by (first|rfl|(refine jdr rfl ?_;(omega)))), ?_⟩))) (by (repeat(exact trivial))) ?_
 ·omega
 intro k hk
 rcases (by omega : k = 0 ∨ k = 1 ∨ k = 2 ∨ k = 3 ∨ k = 4) with rfl|rfl|rfl|rfl|rfl
 ·by_cases hm : 0 = m
  ·subst hm
   have e : F 1 = F 0 - agQ ll Y p1 q1 := by rw [t1];unfold sgnM;rw [if_pos rfl];omega
   skip
   repeat' (first|refine zaa ?_|refine zab ?_|refine zac ?_|refine zbs ?_|refine zai ?_|refine zal ?_|refine zaj ?_|refine zam ?_|refine zaq ?_|refine zan ?_|refine zad ?_|(refine jaa (.call ⟨.value (.func 117), _, _⟩) ?_;(apply jag (fid := 117);(·(repeat(first|exact SeA.nil|apply SeA.cons (.c (.d _)))));(·exact a0);(·rfl)))|refine jaj ?_|refine jak ?_|refine jai ?_|refine jaz ?_|refine jan ?_|refine jab ?_|refine jbk rfl ?_)
   all_goals first|(exfalso;omega)|skip
   all_goals
    refine jba ?_;refine ⟨1, ?_, ?_, jbx rfl (by (repeat(first|exact trivial|refine ⟨(by (first|rfl|(refine jdr rfl ?_;(omega)))), ?_⟩))) (by (repeat(first|exact trivial|refine ⟨rfl, ?_⟩))) (by (repeat(exact trivial))) (by (repeat(first|exact trivial|refine ⟨.inr rfl, ?_⟩)))⟩
    ·omega
    ·omega
  ·have e : F 1 = F 0 + agQ ll Y p1 q1 := by rw [t1];unfold sgnM;rw [if_neg hm]
   repeat' (first|refine zaa ?_|refine zab ?_|refine zac ?_|refine zbs ?_|refine zai ?_|refine zal ?_|refine zaj ?_|refine zam ?_|refine zaq ?_|refine zan ?_|refine zad ?_|(refine jaa (.call ⟨.value (.func 117), _, _⟩) ?_;(apply jag (fid := 117);(·(repeat(first|exact SeA.nil|apply SeA.cons (.c (.d _)))));(·exact a0);(·rfl)))|refine jaj ?_|refine jak ?_|refine jai ?_|refine jaz ?_|refine jan ?_|refine jab ?_|refine jbk rfl ?_|refine jbi rfl (fun hc => ?_) (fun hc => ?_))
   all_goals first|(exfalso;omega)|skip
   all_goals
    refine jba ?_;refine ⟨1, ?_, ?_, jbx rfl (by (repeat(first|exact trivial|refine ⟨(by (first|rfl|(refine jdr rfl ?_;(omega)))), ?_⟩))) (by (repeat(first|exact trivial|refine ⟨rfl, ?_⟩))) (by (repeat(exact trivial))) (by (repeat(first|exact trivial|refine ⟨.inr rfl, ?_⟩)))⟩
    ·omega
    ·omega
 ·by_cases hm : 1 = m
  ·subst hm
   have e : F 2 = F 1 - agQ ll Y p1 q2 := by rw [t2];unfold sgnM;rw [if_pos rfl];omega
   skip
   repeat' (first|refine zaa ?_|refine zab ?_|refine zac ?_|refine zbs ?_|refine zai ?_|refine zal ?_|refine zaj ?_|refine zam ?_|refine zaq ?_|refine zan ?_|refine zad ?_|(refine jaa (.call ⟨.value (.func 117), _, _⟩) ?_;(apply jag (fid := 117);(·(repeat(first|exact SeA.nil|apply SeA.cons (.c (.d _)))));(·exact a1);(·rfl)))|refine jaj ?_|refine jak ?_|refine jai ?_|refine jaz ?_|refine jan ?_|refine jab ?_|refine jbk rfl ?_)
   all_goals first|(exfalso;omega)|skip
   all_goals
    refine jba ?_;refine ⟨2, ?_, ?_, jbx rfl (by (repeat(first|exact trivial|refine ⟨(by (first|rfl|(refine jdr rfl ?_;(omega)))), ?_⟩))) (by (repeat(first|exact trivial|refine ⟨rfl, ?_⟩))) (by (repeat(exact trivial))) (by (repeat(first|exact trivial|refine ⟨.inr rfl, ?_⟩)))⟩
    ·omega
    ·omega
  ·have e : F 2 = F 1 + agQ ll Y p1 q2 := by rw [t2];unfold sgnM;rw [if_neg hm]
   repeat' (first|refine zaa ?_|refine zab ?_|refine zac ?_|refine zbs ?_|refine zai ?_|refine zal ?_|refine zaj ?_|refine zam ?_|refine zaq ?_|refine zan ?_|refine zad ?_|(refine jaa (.call ⟨.value (.func 117), _, _⟩) ?_;(apply jag (fid := 117);(·(repeat(first|exact SeA.nil|apply SeA.cons (.c (.d _)))));(·exact a1);(·rfl)))|refine jaj ?_|refine jak ?_|refine jai ?_|refine jaz ?_|refine jan ?_|refine jab ?_|refine jbk rfl ?_|refine jbi rfl (fun hc => ?_) (fun hc => ?_))
   all_goals first|(exfalso;omega)|skip
   all_goals
    refine jba ?_;refine ⟨2, ?_, ?_, jbx rfl (by (repeat(first|exact trivial|refine ⟨(by (first|rfl|(refine jdr rfl ?_;(omega)))), ?_⟩))) (by (repeat(first|exact trivial|refine ⟨rfl, ?_⟩))) (by (repeat(exact trivial))) (by (repeat(first|exact trivial|refine ⟨.inr rfl, ?_⟩)))⟩
    ·omega
    ·omega
 ·by_cases hm : 2 = m
  ·subst hm
   have e : F 3 = F 2 - agQ ll Y p2 q1 := by rw [t3];unfold sgnM;rw [if_pos rfl];omega
   skip
   repeat' (first|refine zaa ?_|refine zab ?_|refine zac ?_|refine zbs ?_|refine zai ?_|refine zal ?_|refine zaj ?_|refine zam ?_|refine zaq ?_|refine zan ?_|refine zad ?_|(refine jaa (.call ⟨.value (.func 117), _, _⟩) ?_;(apply jag (fid := 117);(·(repeat(first|exact SeA.nil|apply SeA.cons (.c (.d _)))));(·exact a2);(·rfl)))|refine jaj ?_|refine jak ?_|refine jai ?_|refine jaz ?_|refine jan ?_|refine jab ?_|refine jbk rfl ?_)
   all_goals first|(exfalso;omega)|skip
   all_goals
    refine jba ?_;refine ⟨3, ?_, ?_, jbx rfl (by (repeat(first|exact trivial|refine ⟨(by (first|rfl|(refine jdr rfl ?_;(omega)))), ?_⟩))) (by (repeat(first|exact trivial|refine ⟨rfl, ?_⟩))) (by (repeat(exact trivial))) (by (repeat(first|exact trivial|refine ⟨.inr rfl, ?_⟩)))⟩
    ·omega
    ·omega
  ·have e : F 3 = F 2 + agQ ll Y p2 q1 := by rw [t3];unfold sgnM;rw [if_neg hm]
   repeat' (first|refine zaa ?_|refine zab ?_|refine zac ?_|refine zbs ?_|refine zai ?_|refine zal ?_|refine zaj ?_|refine zam ?_|refine zaq ?_|refine zan ?_|refine zad ?_|(refine jaa (.call ⟨.value (.func 117), _, _⟩) ?_;(apply jag (fid := 117);(·(repeat(first|exact SeA.nil|apply SeA.cons (.c (.d _)))));(·exact a2);(·rfl)))|refine jaj ?_|refine jak ?_|refine jai ?_|refine jaz ?_|refine jan ?_|refine jab ?_|refine jbk rfl ?_|refine jbi rfl (fun hc => ?_) (fun hc => ?_))
   all_goals first|(exfalso;omega)|skip
   all_goals
    refine jba ?_;refine ⟨3, ?_, ?_, jbx rfl (by (repeat(first|exact trivial|refine ⟨(by (first|rfl|(refine jdr rfl ?_;(omega)))), ?_⟩))) (by (repeat(first|exact trivial|refine ⟨rfl, ?_⟩))) (by (repeat(exact trivial))) (by (repeat(first|exact trivial|refine ⟨.inr rfl, ?_⟩)))⟩
    ·omega
    ·omega
 ·by_cases hm : 3 = m
  ·subst hm
   have e : F 4 = F 3 - agQ ll Y p2 q2 := by rw [t4];unfold sgnM;rw [if_pos rfl];omega
   skip
   repeat' (first|refine zaa ?_|refine zab ?_|refine zac ?_|refine zbs ?_|refine zai ?_|refine zal ?_|refine zaj ?_|refine zam ?_|refine zaq ?_|refine zan ?_|refine zad ?_|(refine jaa (.call ⟨.value (.func 117), _, _⟩) ?_;(apply jag (fid := 117);(·(repeat(first|exact SeA.nil|apply SeA.cons (.c (.d _)))));(·exact a3);(·rfl)))|refine jaj ?_|refine jak ?_|refine jai ?_|refine jaz ?_|refine jan ?_|refine jab ?_|refine jbk rfl ?_)
   all_goals first|(exfalso;omega)|skip
   all_goals
    refine jba ?_;refine ⟨4, ?_, ?_, jbx rfl (by (repeat(first|exact trivial|refine ⟨(by (first|rfl|(refine jdr rfl ?_;(omega)))), ?_⟩))) (by (repeat(first|exact trivial|refine ⟨rfl, ?_⟩))) (by (repeat(exact trivial))) (by (repeat(first|exact trivial|refine ⟨.inr rfl, ?_⟩)))⟩
    ·omega
    ·omega
  ·have e : F 4 = F 3 + agQ ll Y p2 q2 := by rw [t4];unfold sgnM;rw [if_neg hm]
   repeat' (first|refine zaa ?_|refine zab ?_|refine zac ?_|refine zbs ?_|refine zai ?_|refine zal ?_|refine zaj ?_|refine zam ?_|refine zaq ?_|refine zan ?_|refine zad ?_|(refine jaa (.call ⟨.value (.func 117), _, _⟩) ?_;(apply jag (fid := 117);(·(repeat(first|exact SeA.nil|apply SeA.cons (.c (.d _)))));(·exact a3);(·rfl)))|refine jaj ?_|refine jak ?_|refine jai ?_|refine jaz ?_|refine jan ?_|refine jab ?_|refine jbk rfl ?_|refine jbi rfl (fun hc => ?_) (fun hc => ?_))
   all_goals first|(exfalso;omega)|skip
   all_goals
    refine jba ?_;refine ⟨4, ?_, ?_, jbx rfl (by (repeat(first|exact trivial|refine ⟨(by (first|rfl|(refine jdr rfl ?_;(omega)))), ?_⟩))) (by (repeat(first|exact trivial|refine ⟨rfl, ?_⟩))) (by (repeat(exact trivial))) (by (repeat(first|exact trivial|refine ⟨.inr rfl, ?_⟩)))⟩
    ·omega
    ·omega
 ·repeat' (first|refine zaa ?_|refine zab ?_|refine zac ?_|refine jaj ?_|refine jak ?_|refine jar rfl ?_|refine jab ?_|refine jbj rfl ?_)
  all_goals first|(exfalso;omega)|skip
  all_goals (apply jat;apply jau;(·apply jbc.p;(·(apply GvA.cons;(·exact .tmp _);(·exact GvP.c (.lit _)));exact GvA.nil);(·decide)))
  all_goals rw [t5]
theorem prD_at {l : List (Nat × Nat)} {k : Nat} (h : k < l.length) : ((prD l).drop (k * 2)).take 2 = [dI (l[k].1 : Int), dI (l[k].2 : Int)] := by
 unfold prD
 have hc : ∀ p : Nat × Nat, ([dI (p.1 : Int), dI (p.2 : Int)] : List D).length = 2 := fun _ => rfl
 exact flatL_cut (c := fun p : Nat × Nat => [dI (p.1 : Int), dI (p.2 : Int)]) hc (List.getElem?_eq_getElem h)
section
variable {P : Program} {st : St} {dst : Option Tmp} {ty : TypeId} {pos : String} {af : Array Edge} {x y : Operand}
theorem qt_idxP {T : TypeId} {l : List (Nat × Nat)} {k : IntKind} {i : Nat} (hx : st.ev x = .c (.d (eP l))) (hy : st.ev y = .c (.d (.lit (.int k i)))) (ht : tSl P T 2 = true) (h1 : i < l.length) : Qt P ⟨dst, .indexAddr T x y, ty, pos, af, none⟩ st (.c (.d (.pt [dI ((l.getD i (0, 0)).1 : Int), dI ((l.getD i (0, 0)).2 : Int)]))) :=
 jic (n := l.length) hx hy ht (by omega) (by omega) (by
  rw [Int.toNat_natCast, prD_at h1, List.getD_eq_getElem?_getD, List.getElem?_eq_getElem h1];rfl)
end
theorem greatest_p (X Y : Nat) (n : Int) (ll : List (List Int)) (h : boxB X Y n ll = true) : PE Tryz.prog 26 [.g [dI X, dI Y, dI n, eII ll]] (fun res => ∃ a b c d e : Int, ∃ f : Bool, res = .t [.c (dI (greatI ll X Y)), .g [dI a, dI b], .g [dI c, dI d], .c (dI e), .c (dB f)]) := by
 have b := jbp h
 have x1 := b.x1;have x3 := b.x3;have y1 := b.y1;have y3 := b.y3;have n2 := b.n2;have n1 := b.n1
 clear b
 have px := pairs_p X (by omega)
 have py := pairs_p Y (by omega)
 have lx := prL_len X
 have ly := prL_len Y
 have kg := jjt (prL X)
 have kh := jjt (prL Y)
 have gn := fun t => jlf ll X Y t
 clear gn
 have hx : X < 4 := by omega
 have hn := fun i k m : Nat => fun hk hm => sumV_at ll (X := X) (Y := Y) (i := i) (k := k) (m := m) hk hm
 refine jjv Tryz.func26 rfl rfl rfl (by kernel_rfl) rfl rfl ?_;intro _
 repeat' (first|(refine jaa (.box 26 _) ?_;refine jbh rfl rfl ?_)|refine zaa ?_|(refine jaa (.alloc 69) ?_;refine jav (zs := [.int .i64 0, .int .i64 0]) (by kernel_rfl) rfl ?_)|refine zcc ?_|(refine jaa (.store 69 _ _) ?_;(refine jah rfl rfl rfl (by kernel_rfl) rfl rfl ?_))|refine zav ?_|refine zaf ?_|(refine jaa (.call ⟨.builtin .len, _, #[114]⟩) ?_;(refine jac (jbe rfl (by kernel_rfl)) rfl ?_))|refine zab ?_|(refine jaa (.call ⟨.value (.func 71), _, _⟩) ?_;(apply jag (fid := 71);(·(repeat(first|exact SeA.nil|apply SeA.cons (.c (.d _)))));(·exact px);(·rfl)))|refine jaj ?_|refine jak ?_|refine jai ?_|refine jab ?_)
 apply jay [1, 3, 4, 7, 8, 9, 10, 11, 22, 23, 24] [1, 3, 4, 8, 9, 13, 15, 22, 30] rfl;(·(repeat(first|exact Pf.nil|apply Pf.cons (.c rfl (.d rfl))|apply Pf.cons (.c rfl (.lp rfl)))));(·(repeat(first|exact Pb.nil|(apply Pb.cons;(·apply Nb.box rfl;(repeat(first|exact Ncs.nil rfl|(apply Ncs.cons rfl;(·(exact .d rfl)))))))|apply Pb.skip)))
 refine jbb [1, 3, 4, 8, 9, 22, 23] [1, 3, 4, 22, 13, 30, 15] (fun (g : (Nat × Int × Int) × (Int × Int) × (Int × Int) × Bool) => [(24, iN g.1.1), (7, iZ g.1.2.1), (10, iZ g.1.2.2), (11, .c (.d (dB g.2.2.2)))]) (fun g => [(8, .box [.d (dI g.2.1.1), .d (dI g.2.1.2)]), (9, .box [.d (dI g.2.2.1.1), .d (dI g.2.2.1.2)])]) (fun g => g.1.1 ≤ (prL X).length ∧ g.1.2.1 = greatK ll X Y (g.1.1 * (prL Y).length * 4) ∧ g.2.2.2 = decide (0 < g.1.1 * (prL Y).length * 4)) (fun g => (prL X).length - g.1.1) (((0, 0, 0), (0, 0), (0, 0), false)) ?_ (by (repeat(first|exact trivial|refine ⟨(by rfl), ?_⟩))) (by (repeat(first|exact trivial|refine ⟨(by ((refine jcs rfl ?_;simp;done))), ?_⟩))) ?_
 ·refine ⟨by simp, ?_, by simp⟩
  dsimp only;rw [Nat.zero_mul, Nat.zero_mul];rfl
 rintro ⟨⟨i, v, q⟩, ⟨a, b⟩, ⟨c, d⟩, f⟩ ⟨hi, hv, hf⟩
 dsimp only at hi hv hf ⊢
 by_cases hi2 : i < (prL X).length
 ·have pa := jnk hi2
  repeat' (first|(with_reducible apply jfb)|intro Y hY|((with_reducible apply jdo);(·assumption);(·rfl);(·exact (by (repeat(first|exact trivial|refine ⟨rfl, ?_⟩))));(·exact (by (repeat(first|exact trivial|refine ⟨rfl, ?_⟩)))))|((with_reducible apply jdy);(·rfl);(·(repeat(first|exact Pf.nil|apply Pf.cons (.c rfl (.d rfl))|apply Pf.cons (.c rfl (.lp rfl))|(apply Pf.cons;(·apply Nv.g rfl;(repeat(first|exact Ncs.nil rfl|(apply Ncs.cons rfl;(·(exact .d rfl)))))))|apply Pf.skip)));(·(repeat(first|exact Pb.nil|(apply Pb.cons;(·apply Nb.box rfl;(repeat(first|exact Ncs.nil rfl|(apply Ncs.cons rfl;(·(exact .d rfl)))))))|apply Pb.skip)));(·assumption))|refine jcm ?_ ?_|refine zaa ?_|(refine jaa (.alloc 69) ?_;refine jav (zs := [.int .i64 0, .int .i64 0]) (by kernel_rfl) rfl ?_)|(refine jaa (.store 69 _ _) ?_;(refine jah rfl rfl rfl (by kernel_rfl) rfl rfl ?_))|refine zaf ?_|(refine jaa (.call ⟨.builtin .len, _, #[114]⟩) ?_;(refine jac (jbe rfl (by kernel_rfl)) rfl ?_))|refine zab ?_|refine zac ?_|(refine jaa (.indexAddr 114 _ _) ?_;((refine jac (qt_idxP rfl rfl (by kernel_rfl) hi2) rfl ?_)))|(refine jaa (.load 69 _) ?_;(first|refine jac (jae rfl rfl (by kernel_rfl : tAgg _ 69 2 = true) rfl) rfl ?_|refine jac (jdu rfl (by kernel_rfl : tAgg _ 69 2 = true) (by simp)) rfl ?_))|refine zaw ?_|(refine jaa (.call ⟨.value (.func 71), _, _⟩) ?_;(apply jag (fid := 71);(·(repeat(first|exact SeA.nil|apply SeA.cons (.c (.d _)))));(·exact py);(·rfl)))|refine jaj ?_|refine jak ?_|refine jai ?_|refine jar rfl ?_|refine jan ?_|refine jab ?_|refine jbd 18 (fun i => i == 6 || i == 7) (IT.lt (.step 7 false (.step 8 true (.step 9 true .nil))) fun Y0 => (.step 0 true (.step 1 true (.step 3 true (.step 4 true (.step 5 true (.alt 18 (.step 2 false (.step 6 false (IT.ref true [2, 3, 4, 5, 6, 64, 65, 66] [1, 3, 4, 8, 9, 22, 13, 30, 15] Y0))) (.step 6 false (.step 2 true (IT.ref false [2, 3, 4, 5, 6, 64, 65, 66] [1, 3, 4, 8, 9, 22, 13, 30, 15] Y0)))))))))) [(0, 1023, 1023, true), (0, 1023, 1023, false), (0, 1023, 959, false), (0, 1023, 831, true), (0, 1023, 831, true), (1, 1022, 1023, true), (35, 1021, 1023, false), (103, 1019, 959, false), (239, 1015, 831, true), (511, 1007, 831, true)] (by kernel_rfl) (by kernel_rfl) ?_|refine jbi rfl (fun hc => ?_) (fun hc => ?_))
  all_goals first|(exfalso;omega)|skip
  apply jay [1, 3, 4, 7, 8, 9, 10, 11, 13, 22, 23, 24, 30, 31, 32] [1, 3, 4, 8, 9, 13, 15, 22, 30] rfl;(·(repeat(first|exact Pf.nil|apply Pf.cons (.c rfl (.d rfl))|apply Pf.cons (.c rfl (.lp rfl)))));(·(repeat(first|exact Pb.nil|(apply Pb.cons;(·apply Nb.box rfl;(repeat(first|exact Ncs.nil rfl|(apply Ncs.cons rfl;(·(exact .d rfl)))))))|apply Pb.skip)))
  refine jbb [1, 3, 4, 8, 9, 13, 22, 23, 24, 30, 31] [1, 3, 4, 22, 13, 30, 15] (fun (g : (Nat × Int × Int) × (Int × Int) × (Int × Int) × Bool) => [(32, iN g.1.1), (7, iZ g.1.2.1), (10, iZ g.1.2.2), (11, .c (.d (dB g.2.2.2)))]) (fun g => [(8, .box [.d (dI g.2.1.1), .d (dI g.2.1.2)]), (9, .box [.d (dI g.2.2.1.1), .d (dI g.2.2.1.2)])]) (fun g => g.1.1 ≤ (prL Y).length ∧ g.1.2.1 = greatK ll X Y ((i * (prL Y).length + g.1.1) * 4) ∧ g.2.2.2 = decide (0 < (i * (prL Y).length + g.1.1) * 4)) (fun g => (prL Y).length - g.1.1) (((0, v, q), (a, b), (c, d), f)) ?_ (by (repeat(first|exact trivial|refine ⟨(by rfl), ?_⟩))) (by (repeat(first|exact trivial|refine ⟨(by ((refine jcs rfl ?_;simp;done))), ?_⟩))) ?_
  ·exact ⟨by simp, hv, hf⟩
  clear hv hf
  rintro ⟨⟨k, v, q⟩, ⟨a, b⟩, ⟨c, d⟩, f⟩ ⟨hk, hv, hf⟩
  dsimp only at hk hv hf ⊢
  by_cases hk2 : k < (prL Y).length
  ·have pb := jnk hk2
   have sp := fun m => sum_p X Y n ll h (prA X i) (prA Y k) m ⟨by omega, pa.2⟩ ⟨by omega, pb.2⟩
   have sb := fun m => sumQ_bd h (p := prA X i) (q := prA Y k) ⟨by omega, pa.2⟩ ⟨by omega, pb.2⟩ m
   repeat' (first|(refine jaa (.alloc 69) ?_;refine jav (zs := [.int .i64 0, .int .i64 0]) (by kernel_rfl) rfl ?_)|(refine jaa (.store 69 _ _) ?_;(refine jah rfl rfl rfl (by kernel_rfl) rfl rfl ?_))|refine zab ?_|refine zac ?_|(refine jaa (.indexAddr 114 _ _) ?_;((refine jac (qt_idxP rfl rfl (by kernel_rfl) hk2) rfl ?_)))|(refine jaa (.load 69 _) ?_;(refine jac (jdu rfl (by kernel_rfl : tAgg _ 69 2 = true) (by simp)) rfl ?_))|refine zad ?_|refine jaj ?_|refine jak ?_|refine jai ?_|refine jaz ?_|refine jar rfl ?_|refine jan ?_|refine jab ?_|refine jbi rfl (fun hc => ?_) (fun hc => ?_))
   all_goals first|(exfalso;omega)|skip
   apply jay [1, 3, 4, 7, 8, 9, 10, 11, 13, 15, 22, 23, 24, 30, 31, 32, 36] [1, 3, 4, 8, 9, 13, 15, 22, 30] rfl;(·(repeat(first|exact Pf.nil|apply Pf.cons (.c rfl (.d rfl))|apply Pf.cons (.c rfl (.lp rfl)))));(·(repeat(first|exact Pb.nil|(apply Pb.cons;(·apply Nb.box rfl;(repeat(first|exact Ncs.nil rfl|(apply Ncs.cons rfl;(·(exact .d rfl)))))))|apply Pb.skip)))
   refine jbb [1, 3, 4, 8, 9, 13, 15, 22, 23, 24, 30, 31, 32] [1, 3, 4, 22, 13, 30, 15] (fun (g : (Nat × Int × Int) × (Int × Int) × (Int × Int) × Bool) => [(36, iN g.1.1), (7, iZ g.1.2.1), (10, iZ g.1.2.2), (11, .c (.d (dB g.2.2.2)))]) (fun g => [(8, .box [.d (dI g.2.1.1), .d (dI g.2.1.2)]), (9, .box [.d (dI g.2.2.1.1), .d (dI g.2.2.1.2)])]) (fun g => g.1.1 ≤ 4 ∧ g.1.2.1 = greatK ll X Y ((i * (prL Y).length + k) * 4 + g.1.1) ∧ g.2.2.2 = decide (0 < (i * (prL Y).length + k) * 4 + g.1.1)) (fun g => 4 - g.1.1) (((0, v, q), (a, b), (c, d), f)) ?_ (by (repeat(first|exact trivial|refine ⟨(by rfl), ?_⟩))) (by (repeat(first|exact trivial|refine ⟨(by ((refine jcs rfl ?_;simp;done))), ?_⟩))) ?_
   ·exact ⟨by simp, hv, hf⟩
   clear hv hf
   rintro ⟨⟨m, v, q⟩, ⟨a, b⟩, ⟨c, d⟩, f⟩ ⟨hm, hv, hf⟩
   dsimp only at hm hv hf ⊢
   by_cases hm2 : m < 4
   ·have s := sp m
    have t := sb m
    have e1 : greatK ll X Y ((i * (prL Y).length + k) * 4 + m + 1) = max (greatK ll X Y ((i * (prL Y).length + k) * 4 + m)) (max (sumQ ll Y (prA X i) (prA Y k) m) (-(sumQ ll Y (prA X i) (prA Y k) m))) := by
     rw [jig, hn i k m hk2 hm2];rfl
    have e0 : (i * (prL Y).length + k) * 4 + m = 0 → v = 0 := fun e => by rw [hv, e];rfl
    rw [← hv] at e1
    clear sp sb
    have dT : decide (0 < (i * (prL Y).length + k) * 4 + (m + 1)) = true := decide_eq_true (by omega)
    generalize hs : sumQ ll Y (prA X i) (prA Y k) m = z at *
    cases f with
    | false =>
     have z0 : v = 0 := e0 (by have := hf.symm;simp at this;omega)
     repeat' (first|(with_reducible apply jfb)|intro Y hY|((with_reducible apply jdo);(·assumption);(·rfl);(·exact (by (repeat(first|exact trivial|refine ⟨rfl, ?_⟩))));(·exact (by (repeat(first|exact trivial|refine ⟨rfl, ?_⟩)))))|((with_reducible apply jdy);(·rfl);(·(repeat(first|exact Pf.nil|apply Pf.cons (.c rfl (.d rfl))|apply Pf.cons (.c rfl (.lp rfl))|(apply Pf.cons;(·apply Nv.g rfl;(repeat(first|exact Ncs.nil rfl|(apply Ncs.cons rfl;(·(exact .d rfl))))))))));(·(repeat(first|exact Pb.nil|(apply Pb.cons;(·apply Nb.box rfl;(repeat(first|exact Ncs.nil rfl|(apply Ncs.cons rfl;(·(exact .d rfl)))))))|apply Pb.skip)));(·assumption))|refine jcm ?_ ?_|refine zaa ?_|(refine jaa (.store 69 _ _) ?_;(refine jah rfl rfl rfl (by kernel_rfl) rfl rfl ?_))|refine zab ?_|refine zac ?_|refine zcd ?_|refine zae ?_|(refine jaa (.unOp .neg 3 _) ?_;refine jac (jly rfl (by omega)) rfl ?_)|refine zcm ?_|refine zah ?_|refine zag ?_|refine zad ?_|(refine jaa (.call ⟨.value (.func 72), _, _⟩) ?_;(apply jag (fid := 72);(·(repeat(first|exact SeA.nil|apply SeA.cons (.c (.d _))|(apply SeA.cons;(·(apply SeP.g;(repeat(first|exact SeL.nil|apply SeL.cons (.d _)))))))));(·exact s);(·rfl)))|refine jaj ?_|refine jbn rfl rfl rfl rfl ?_|refine jak ?_|refine jai ?_|refine jaz ?_|refine jar rfl ?_|refine jan ?_|refine jab ?_|refine jbd 14 (fun i => i == 5 || i == 6) (IT.lt (.step 6 false (.step 7 true (.step 8 true .nil))) fun Y0 => (.step 0 true (.step 1 true (.step 3 true (.step 4 true (.alt 14 (.step 2 false (.step 5 false (IT.ref true [1, 3, 4, 7, 8, 9, 10, 11, 13, 15, 22, 23, 24, 30, 31, 32, 36, 57, 58] [1, 3, 4, 8, 9, 22, 13, 30, 15] Y0))) (.step 5 false (.step 2 true (IT.ref false [1, 3, 4, 7, 8, 9, 10, 11, 13, 15, 22, 23, 24, 30, 31, 32, 36, 57, 58] [1, 3, 4, 8, 9, 22, 13, 30, 15] Y0))))))))) [(0, 511, 511, true), (0, 511, 511, false), (0, 511, 479, false), (0, 511, 415, true), (1, 510, 511, true), (19, 509, 511, false), (55, 507, 479, false), (127, 503, 415, true), (255, 511, 415, true)] (by kernel_rfl) (by kernel_rfl) ?_|refine jbk rfl ?_|refine jbi rfl (fun hc => ?_) (fun hc => ?_))
     all_goals first|(exfalso;omega)|(exfalso;simp_all;done)|skip
     all_goals
      refine jba ?_;refine ⟨((m + 1, max z (-z), (m : Int)), (((prA X i).1 : Int), ((prA X i).2 : Int)), (((prA Y k).1 : Int), ((prA Y k).2 : Int)), true), ?_, ?_, jbx rfl (by (repeat(first|exact trivial|refine ⟨(by rfl), ?_⟩))) (by (repeat(first|exact trivial|refine ⟨rfl, ?_⟩))) (by (repeat(first|exact trivial|refine ⟨(by rfl), ?_⟩))) (by (repeat(first|exact trivial|refine ⟨.inr rfl, ?_⟩)))⟩
      ·exact ⟨by dsimp only;omega, by dsimp only;rw [← Nat.add_assoc, e1];omega, dT.symm⟩
      ·dsimp only;omega
    | true =>
     by_cases hz : v < max z (-z)
     ·repeat' (first|(with_reducible apply jfb)|intro Y hY|((with_reducible apply jdo);(·assumption);(·rfl);(·exact (by (repeat(first|exact trivial|refine ⟨rfl, ?_⟩))));(·exact (by (repeat(first|exact trivial|refine ⟨rfl, ?_⟩)))))|((with_reducible apply jdy);(·rfl);(·(repeat(first|exact Pf.nil|apply Pf.cons (.c rfl (.d rfl))|apply Pf.cons (.c rfl (.lp rfl))|(apply Pf.cons;(·apply Nv.g rfl;(repeat(first|exact Ncs.nil rfl|(apply Ncs.cons rfl;(·(exact .d rfl))))))))));(·(repeat(first|exact Pb.nil|(apply Pb.cons;(·apply Nb.box rfl;(repeat(first|exact Ncs.nil rfl|(apply Ncs.cons rfl;(·(exact .d rfl)))))))|apply Pb.skip)));(·assumption))|refine jcm ?_ ?_|refine zaa ?_|(refine jaa (.store 69 _ _) ?_;(refine jah rfl rfl rfl (by kernel_rfl) rfl rfl ?_))|refine zab ?_|refine zac ?_|refine zcd ?_|refine zae ?_|(refine jaa (.unOp .neg 3 _) ?_;refine jac (jly rfl (by omega)) rfl ?_)|refine zcm ?_|refine zah ?_|refine zat ?_|refine zag ?_|refine zad ?_|(refine jaa (.call ⟨.value (.func 72), _, _⟩) ?_;(apply jag (fid := 72);(·(repeat(first|exact SeA.nil|apply SeA.cons (.c (.d _))|(apply SeA.cons;(·(apply SeP.g;(repeat(first|exact SeL.nil|apply SeL.cons (.d _)))))))));(·exact s);(·rfl)))|refine jaj ?_|refine jbg rfl rfl rfl rfl ?_|refine jak ?_|refine jai ?_|refine jaz ?_|refine jar rfl ?_|refine jan ?_|refine jab ?_|refine jbd 14 (fun i => i == 5 || i == 6) (IT.lt (.step 6 false (.step 7 true (.step 8 true .nil))) fun Y0 => (.step 0 true (.step 1 true (.step 3 true (.step 4 true (.alt 14 (.step 2 false (.step 5 false (IT.ref true [1, 3, 4, 7, 8, 9, 10, 11, 13, 15, 22, 23, 24, 30, 31, 32, 36, 57, 58] [1, 3, 4, 8, 9, 22, 13, 30, 15] Y0))) (.step 5 false (.step 2 true (IT.ref false [1, 3, 4, 7, 8, 9, 10, 11, 13, 15, 22, 23, 24, 30, 31, 32, 36, 57, 58] [1, 3, 4, 8, 9, 22, 13, 30, 15] Y0))))))))) [(0, 511, 511, true), (0, 511, 511, false), (0, 511, 479, false), (0, 511, 415, true), (1, 510, 511, true), (19, 509, 511, false), (55, 507, 479, false), (127, 503, 415, true), (255, 511, 415, true)] (by kernel_rfl) (by kernel_rfl) ?_|refine jbi rfl (fun hc => ?_) (fun hc => ?_))
      all_goals first|(exfalso;omega)|(exfalso;simp_all;done)|skip
      all_goals
       refine jba ?_;refine ⟨((m + 1, max z (-z), (m : Int)), (((prA X i).1 : Int), ((prA X i).2 : Int)), (((prA Y k).1 : Int), ((prA Y k).2 : Int)), true), ?_, ?_, jbx rfl (by (repeat(first|exact trivial|refine ⟨(by rfl), ?_⟩))) (by (repeat(first|exact trivial|refine ⟨rfl, ?_⟩))) (by (repeat(first|exact trivial|refine ⟨(by rfl), ?_⟩))) (by (repeat(first|exact trivial|refine ⟨.inr rfl, ?_⟩)))⟩
       ·exact ⟨by dsimp only;omega, by dsimp only;rw [← Nat.add_assoc, e1];omega, dT.symm⟩
       ·dsimp only;omega
     ·repeat' (first|(with_reducible apply jfb)|intro Y hY|((with_reducible apply jdo);(·assumption);(·rfl);(·exact (by (repeat(first|exact trivial|refine ⟨rfl, ?_⟩))));(·exact (by (repeat(first|exact trivial|refine ⟨rfl, ?_⟩)))))|((with_reducible apply jdy);(·rfl);(·(repeat(first|exact Pf.nil|apply Pf.cons (.c rfl (.d rfl))|apply Pf.cons (.c rfl (.lp rfl))|(apply Pf.cons;(·apply Nv.g rfl;(repeat(first|exact Ncs.nil rfl|(apply Ncs.cons rfl;(·(exact .d rfl))))))))));(·(repeat(first|exact Pb.nil|(apply Pb.cons;(·apply Nb.box rfl;(repeat(first|exact Ncs.nil rfl|(apply Ncs.cons rfl;(·(exact .d rfl)))))))|apply Pb.skip)));(·assumption))|refine jcm ?_ ?_|refine zaa ?_|(refine jaa (.store 69 _ _) ?_;(refine jah rfl rfl rfl (by kernel_rfl) rfl rfl ?_))|refine zab ?_|refine zac ?_|refine zcd ?_|refine zae ?_|(refine jaa (.unOp .neg 3 _) ?_;refine jac (jly rfl (by omega)) rfl ?_)|refine zcm ?_|refine zah ?_|refine zat ?_|refine zag ?_|refine zad ?_|(refine jaa (.call ⟨.value (.func 72), _, _⟩) ?_;(apply jag (fid := 72);(·(repeat(first|exact SeA.nil|apply SeA.cons (.c (.d _))|(apply SeA.cons;(·(apply SeP.g;(repeat(first|exact SeL.nil|apply SeL.cons (.d _)))))))));(·exact s);(·rfl)))|refine jaj ?_|refine jbg rfl rfl rfl rfl ?_|refine jak ?_|refine jai ?_|refine jaz ?_|refine jar rfl ?_|refine jan ?_|refine jab ?_|refine jbd 14 (fun i => i == 5 || i == 6) (IT.lt (.step 6 false (.step 7 true (.step 8 true .nil))) fun Y0 => (.step 0 true (.step 1 true (.step 3 true (.step 4 true (.alt 14 (.step 2 false (.step 5 false (IT.ref true [1, 3, 4, 7, 8, 9, 10, 11, 13, 15, 22, 23, 24, 30, 31, 32, 36, 57, 58] [1, 3, 4, 8, 9, 22, 13, 30, 15] Y0))) (.step 5 false (.step 2 true (IT.ref false [1, 3, 4, 7, 8, 9, 10, 11, 13, 15, 22, 23, 24, 30, 31, 32, 36, 57, 58] [1, 3, 4, 8, 9, 22, 13, 30, 15] Y0))))))))) [(0, 511, 511, true), (0, 511, 511, false), (0, 511, 479, false), (0, 511, 415, true), (1, 510, 511, true), (19, 509, 511, false), (55, 507, 479, false), (127, 503, 415, true), (255, 511, 415, true)] (by kernel_rfl) (by kernel_rfl) ?_|refine jbi rfl (fun hc => ?_) (fun hc => ?_))
      all_goals first|(exfalso;omega)|(exfalso;simp_all;done)|skip
      all_goals
       refine jba ?_;refine ⟨((m + 1, v, q), (a, b), (c, d), true), ?_, ?_, jbx rfl (by (repeat(first|exact trivial|refine ⟨(by rfl), ?_⟩))) (by (repeat(first|exact trivial|refine ⟨rfl, ?_⟩))) (by (repeat(first|exact trivial|refine ⟨(by ((refine jcs rfl ?_;simp;done))), ?_⟩))) (by (repeat(first|exact trivial|refine ⟨.inr rfl, ?_⟩)))⟩
       ·exact ⟨by dsimp only;omega, by dsimp only;rw [← Nat.add_assoc, e1];omega, dT.symm⟩
       ·dsimp only;omega
   ·have m4 : m = 4 := by omega
    repeat' (first|refine zaa ?_|refine zab ?_|refine zac ?_|refine zcd ?_|refine zae ?_|refine zad ?_|refine jaj ?_|refine jak ?_|refine jai ?_|refine jaz ?_|refine jar rfl ?_|refine jan ?_|refine jab ?_|refine jbi rfl (fun hc => ?_) (fun hc => ?_))
    all_goals first|(exfalso;omega)|skip
    refine jba ?_;refine ⟨((k + 1, v, q), (a, b), (c, d), f), ?_, ?_, jbx rfl (by (repeat(first|exact trivial|refine ⟨(by rfl), ?_⟩))) (by (repeat(first|exact trivial|refine ⟨rfl, ?_⟩))) (by (repeat(first|exact trivial|refine ⟨(by ((refine jcs rfl ?_;simp;done))), ?_⟩))) (by (repeat(first|exact trivial|refine ⟨.inr rfl, ?_⟩|refine ⟨.inl rfl, ?_⟩)))⟩
    ·subst m4
     exact ⟨by dsimp only;omega, by dsimp only;rw [hv];congr 1;omega, by dsimp only;rw [hf];congr 1;exact propext ⟨fun h => by omega, fun h => by omega⟩⟩
    ·dsimp only; omega
  ·have k4 : k = (prL Y).length := by omega
   repeat' (first|refine zab ?_|refine zac ?_|(refine jaa (.indexAddr 114 _ _) ?_;(((exfalso;omega))))|refine zad ?_|refine jaj ?_|refine jak ?_|refine jai ?_|refine jaz ?_|refine jar rfl ?_|refine jan ?_|refine jab ?_|refine jbi rfl (fun hc => ?_) (fun hc => ?_))
   all_goals first|(exfalso;omega)|skip
   refine jba ?_;refine ⟨((i + 1, v, q), (a, b), (c, d), f), ?_, ?_, jbx rfl (by (repeat(first|exact trivial|refine ⟨(by rfl), ?_⟩))) (by (repeat(first|exact trivial|refine ⟨rfl, ?_⟩))) (by (repeat(first|exact trivial|refine ⟨(by ((refine jcs rfl ?_;simp;done))), ?_⟩))) (by (repeat(first|exact trivial|refine ⟨.inr rfl, ?_⟩|refine ⟨.inl rfl, ?_⟩)))⟩
   ·subst k4
    have e : (i + 1) * (prL Y).length * 4 = (i * (prL Y).length + (prL Y).length) * 4 := by rw [Nat.succ_mul]
    exact ⟨by dsimp only;omega, by dsimp only;rw [hv, e], by dsimp only;rw [hf, e]⟩
   ·dsimp only; omega
 ·have i4 : i = (prL X).length := by omega
  have hv2 : v = greatI ll X Y := by rw [hv, i4];rfl
  repeat' (first|(with_reducible apply jfb)|intro Y hY|((with_reducible apply jdo);(·assumption);(·rfl);(·exact (by (repeat(first|exact trivial|refine ⟨rfl, ?_⟩))));(·exact (by (repeat(first|exact trivial|refine ⟨rfl, ?_⟩)))))|((with_reducible apply jdy);(·rfl);(·(repeat(first|exact Pf.nil|apply Pf.cons (.c rfl (.d rfl))|apply Pf.cons (.c rfl (.lp rfl))|(apply Pf.cons;(·apply Nv.g rfl;(repeat(first|exact Ncs.nil rfl|(apply Ncs.cons rfl;(·(exact .d rfl)))))))|apply Pf.skip)));(·(repeat(first|exact Pb.nil|(apply Pb.cons;(·apply Nb.box rfl;(repeat(first|exact Ncs.nil rfl|(apply Ncs.cons rfl;(·(exact .d rfl)))))))|apply Pb.skip)));(·assumption))|refine jcm ?_ ?_|refine zaa ?_|(refine jaa (.store 69 _ _) ?_;(refine jah rfl rfl rfl (by kernel_rfl) rfl rfl ?_))|refine zab ?_|refine zac ?_|(refine jaa (.indexAddr 114 _ _) ?_;(((exfalso;omega))))|refine zcd ?_|refine jaj ?_|refine jak ?_|refine jai ?_|refine jar rfl ?_|refine jan ?_|refine jab ?_|refine jbd 18 (fun i => i == 6 || i == 7) (IT.lt (.step 7 false (.step 8 true (.step 9 true .nil))) fun Y0 => (.step 0 true (.step 1 true (.step 3 true (.step 4 true (.step 5 true (.alt 18 (.step 2 false (.step 6 false (IT.ref true [2, 3, 4, 5, 6, 64, 65, 66] [1, 3, 4, 8, 9, 22, 13, 30, 15] Y0))) (.step 6 false (.step 2 true (IT.ref false [2, 3, 4, 5, 6, 64, 65, 66] [1, 3, 4, 8, 9, 22, 13, 30, 15] Y0)))))))))) [(0, 1023, 1023, true), (0, 1023, 1023, false), (0, 1023, 959, false), (0, 1023, 831, true), (0, 1023, 831, true), (1, 1022, 1023, true), (35, 1021, 1023, false), (103, 1019, 959, false), (239, 1015, 831, true), (511, 1007, 831, true)] (by kernel_rfl) (by kernel_rfl) ?_|refine jbi rfl (fun hc => ?_) (fun hc => ?_))
  all_goals first|(exfalso;omega)|skip
  (apply jhu;(·apply jbc.t;(·(apply GvA.cons;(·exact .tmp _);(·exact GvP.c (.lit _)));(apply GvA.cons;(·(apply RV.cellN (n := 2);(·rfl);(·rfl);(·kernel_rfl);(·rfl)));(·(apply GvP.g;(·(apply GvL.cons (.lit _));(apply GvL.cons (.lit _));exact GvL.nil))));(apply GvA.cons;(·(apply RV.cellN (n := 2);(·rfl);(·rfl);(·kernel_rfl);(·rfl)));(·(apply GvP.g;(·(apply GvL.cons (.lit _));(apply GvL.cons (.lit _));exact GvL.nil))));(apply GvA.cons;(·exact .tmp _);(·exact GvP.c (.lit _)));(apply GvA.cons;(·exact .tmp _);(·exact GvP.c (.lit _)));exact GvA.nil);(·rfl);(·decide)))
  exact ⟨a, b, c, d, q, f, by rw [hv2]⟩
theorem GreatestSum_p (X Y : Nat) (n : Int) (ll : List (List Int)) (h : boxB X Y n ll = true) : PC Tryz.prog 9 [.g [dI X, dI Y, dI n, eII ll]] (.t [.c (dI (greatI ll X Y)), .c (dB true)]) := by
 have w := IsBox_p X Y n ll
 rw [h] at w
 have g := greatest_p X Y n ll h
 refine jaq Tryz.func9 rfl rfl rfl (by kernel_rfl) rfl rfl ?_;intro _
 repeat' (first|(refine jaa (.box 26 _) ?_;refine jbh rfl rfl ?_)|refine zaa ?_|refine zae ?_|refine zah ?_|(refine jaa (.move _) ?_;(first|refine jac (jal rfl) rfl ?_|refine jac (jcg rfl) rfl ?_))|refine zak ?_|(refine jaa (.alloc 69) ?_;refine jav (zs := [.int .i64 0, .int .i64 0]) (by kernel_rfl) rfl ?_)|(refine jaa (.store 69 _ _) ?_;(refine jah rfl rfl rfl (by kernel_rfl) rfl rfl ?_))|(refine jaa (.call ⟨.value (.func 25), _, _⟩) ?_;((apply jag (fid := 25);(·(repeat(first|exact SeA.nil|(apply SeA.cons;(·(apply SeP.g;(repeat(first|exact SeL.nil|apply SeL.cons (.d _)))))))));(·exact w);(·rfl))))|(refine jaa (.call ⟨.value (.func 26), _, _⟩) ?_;((apply jdp (fid := 26);(·(repeat(first|exact SeA.nil|(apply SeA.cons;(·(apply SeP.g;(repeat(first|exact SeL.nil|apply SeL.cons (.d _)))))))));(·exact g);(·rfl);(rintro _ ⟨a, b, c, d, e, f, rfl⟩))))|refine jaj ?_|refine jak ?_|refine jan ?_|refine jab ?_|refine jbj rfl ?_)
 all_goals first|(exfalso;simp_all;done)|skip
 all_goals (apply jat;apply jau;(·apply jbc.t;(·(apply GvA.cons;(·exact .tmp _);(·exact GvP.c (.lit _)));(apply GvA.cons;(·exact .tmp _);(·exact GvP.c (.lit _)));exact GvA.nil);(·rfl);(·decide)))
 all_goals rfl
theorem plays_p (x y : Nat) (h : x + y ≤ 6) : PC Tryz.prog 122 [.c (dI x), .c (dI y)] (.p (.c (eII (playsF (x + y))))) := by
 have e2 : (2 : Nat) ^ (x + y) ≤ 64 := Nat.le_trans (Nat.pow_le_pow_right (by omega) h) (by decide)
 obtain ⟨N, hN⟩ : ∃ N : Nat, N = 2 ^ (x + y) := ⟨_, rfl⟩
 rw [← hN] at e2
 have e1 : (1 : Int) * 2 ^ ((x : Int) + y).toNat = N := by
  rw [show ((x : Int) + y).toNat = x + y by omega, hN, Int.natCast_pow];simp
 refine jaq Tryz.func122 rfl rfl rfl (by kernel_rfl) rfl rfl ?_;intro _
 repeat' (first|refine zaa ?_|(refine jaa (.buildSlice 24 0 _) ?_;(apply jao (sz := 1) (by_ := 24);(·kernel_rfl);(·decide);(·(repeat(exact GvS.nil _)));(·decide);(·rfl);(·rfl);(·rfl)))|refine zab ?_|refine zad ?_|(refine jaa (.binOp .shl 3 _ _ _) ?_;(refine jac (jlx rfl rfl (by omega) (by omega) (by omega)) rfl ?_))|refine jaj ?_|refine jak ?_|refine jai ?_|refine jab ?_)
 apply jay [0, 1, 5, 13, 14] [9, 17, 34, 35, 39, 40] rfl;(·(repeat(first|exact Pf.nil|apply Pf.cons (.c rfl (.d rfl))|apply Pf.cons (.c rfl (.ls rfl)))));(·(repeat(first|exact Pb.nil|apply Pb.cons (.row rfl)|apply Pb.skip)))
 refine jbb [0, 1, 13] [17, 34, 35, 39, 40] (fun c => [(14, iN c), (5, .c (.ls 9 1 0 c))]) (fun c => [(9, .row 1 (cII ((List.range c).map (bitsM (x + y)))))]) (fun c => c ≤ N) (fun c => N - c) (0) ?_ (by (repeat(first|exact trivial|refine ⟨(by rfl), ?_⟩))) (by (repeat(first|exact trivial|refine ⟨(by ((refine jbm rfl ?_;simp;done))), ?_⟩))) ?_
 ·omega
 intro c hc
 repeat' (first|refine zaa ?_|refine zab ?_|refine zad ?_|refine zac ?_|(refine jaa (.buildSlice 27 0 _) ?_;(apply jao (sz := 1) (by_ := 8);(·kernel_rfl);(·decide);(·(repeat(exact GvS.nil _)));(·decide);(·rfl);(·rfl);(·rfl)))|refine jaj ?_|refine jak ?_|refine jai ?_|refine jar rfl ?_|refine jan ?_|refine jab ?_|refine jbi rfl (fun hc => ?_) (fun hc => ?_))
 ·apply jay [0, 1, 5, 6, 7, 13, 14, 20, 21] [9, 17, 34, 35, 39, 40] rfl;(·(repeat(first|exact Pf.nil|apply Pf.cons (.c rfl (.d rfl))|apply Pf.cons (.c rfl (.ls rfl)))));(·(repeat(first|exact Pb.nil|apply Pb.cons (.row rfl)|apply Pb.skip)))
  refine jbb [0, 1, 5, 6, 13, 14, 20] [9, 34, 35, 39, 40] (fun i => [(21, iN i), (7, .c (.ls 17 1 0 i))]) (fun i => [(17, .row 1 (cI (rowF (fun i => (bitN c (x + y - 1 - i) : Int)) i)))]) (fun i => i ≤ x + y) (fun i => x + y - i) (0) ?_ (by (repeat(first|exact trivial|refine ⟨(by rfl), ?_⟩))) (by (repeat(first|exact trivial|refine ⟨(by rfl), ?_⟩))) ?_
  ·omega
  intro i hi
  have e3 : i < x + y → (c : Int) / 2 ^ ((x : Int) + y - 1 - i).toNat % 2 = (bitN c (x + y - 1 - i) : Int) := fun h => by
   rw [show ((x : Int) + y - 1 - i).toNat = x + y - 1 - i by omega, jmj]
  repeat' (first|refine zaa ?_|refine zab ?_|refine zad ?_|refine zac ?_|refine zan ?_|(refine jaa (.binOp .shr 3 _ _ _) ?_;(refine jac (jjq rfl rfl (by omega) (by omega)) rfl ?_))|refine zck ?_|(refine jaa (.buildSlice 27 1 _) ?_;(apply jao (sz := 1) (by_ := 8);(·kernel_rfl);(·decide);(·(repeat(first|exact GvS.nil _|apply GvS.c rfl rfl (.lit _) rfl)));(·decide);(·rfl);(·rfl);(·rfl)))|(refine jaa (.call ⟨.builtin .append, _, #[27, 27]⟩) ?_;((apply jbo (sz := 1) (by_ := 8);(·rfl);(·rfl);(·((simp;done)));(·exact .row _ _ _ _ rfl (by ((simp;done))));(·decide);(·kernel_rfl);(·decide);(·omega);(·omega);(·rfl);(·rfl);(·rfl))))|(refine jaa (.buildSlice 24 1 _) ?_;(apply jao (sz := 1) (by_ := 24);(·kernel_rfl);(·decide);(·(repeat(first|exact GvS.nil _|apply GvS.c rfl rfl (.row _ _ _ _ rfl (by ((simp;done)))) rfl)));(·decide);(·rfl);(·rfl);(·rfl)))|(refine jaa (.call ⟨.builtin .append, _, #[24, 24]⟩) ?_;((apply jbo (sz := 1) (by_ := 24);(·rfl);(·rfl);(·((simp;done)));(·exact .row _ _ _ _ rfl (by ((simp;done))));(·decide);(·kernel_rfl);(·decide);(·omega);(·omega);(·rfl);(·rfl);(·rfl))))|refine jaj ?_|refine jak ?_|refine jai ?_|refine jaz ?_|refine jar rfl ?_|refine jan ?_|refine jab ?_|refine jbi rfl (fun hc => ?_) (fun hc => ?_))
  ·have e3 := e3 (by omega)
   simp at e3
   refine jba ?_;refine ⟨i + 1, ?_, ?_, jbx rfl (by (repeat(first|exact trivial|refine ⟨(by rfl), ?_⟩))) (by (repeat(first|exact trivial|refine ⟨rfl, ?_⟩))) (by (repeat(first|exact trivial|refine ⟨(by ((refine jbm rfl ?_;simp  [jdj, e3];done))), ?_⟩))) (by (repeat(first|exact trivial|refine ⟨.inr rfl, ?_⟩)))⟩
   ·omega
   ·omega
  ·have h8 : i = x + y := by omega
   subst h8
   refine jba ?_;refine ⟨c + 1, ?_, ?_, jbx rfl (by (repeat(first|exact trivial|refine ⟨(by rfl), ?_⟩))) (by (repeat(first|exact trivial|refine ⟨rfl, ?_⟩))) (by (repeat(first|exact trivial|refine ⟨(by ((refine jbm rfl ?_;simp  [jjc, bitsM];done))), ?_⟩))) (by (repeat(first|exact trivial|refine ⟨.inr rfl, ?_⟩)))⟩
   ·omega
   ·omega
 ·have h8 : c = N := by omega
  subst h8
  subst hN
  (apply jat;apply jau;(·apply jbc.p;(·(apply GvA.cons;(·exact .tmp _);(·(exact GvP.c (.row _ _ _ _ rfl (by ((simp;done)))))));exact GvA.nil);(·decide)))
  simp [playsF]
def coG (ll : List (List Int)) (X Y j : Nat) : Int := if j < X then onG ll Y 0 j 0 else onG ll Y 1 (j - X) 0
def coL (ll : List (List Int)) (X Y : Nat) : List Int := rowF (coG ll X Y) (X + Y)
theorem counts_p (X Y : Nat) (n : Int) (ll : List (List Int)) (h : boxB X Y n ll = true) : PC Tryz.prog 165 [.g [dI X, dI Y, dI n, eII ll]] (.p (.c (eI (coL ll X Y)))) := by
 have b := jbp h
 have x1 := b.x1;have x3 := b.x3;have y1 := b.y1;have y3 := b.y3
 clear b
 have op := onesG_p X Y n ll h
 refine jaq Tryz.func165 rfl rfl rfl (by kernel_rfl) rfl rfl ?_;intro _
 repeat' (first|(refine jaa (.box 26 _) ?_;refine jbh rfl rfl ?_)|refine zaa ?_|(refine jaa (.buildSlice 27 0 _) ?_;(apply jao (sz := 1) (by_ := 8);(·kernel_rfl);(·decide);(·(repeat(exact GvS.nil _)));(·decide);(·rfl);(·rfl);(·rfl)))|refine zae ?_|(refine jaa (.alloc 69) ?_;refine jav (zs := [.int .i64 0, .int .i64 0]) (by kernel_rfl) rfl ?_)|(refine jaa (.store 69 _ _) ?_;(refine jah rfl rfl rfl (by kernel_rfl) rfl rfl ?_))|refine zab ?_|(refine jaa (.call ⟨.value (.func 162), _, _⟩) ?_;(apply jag (fid := 162);(·(repeat(first|exact SeA.nil|(apply SeA.cons;(·(apply SeP.g;(repeat(first|exact SeL.nil|apply SeL.cons (.d _)))))))));(·exact questions_p _ _ _ _);(·rfl)))|refine jaj ?_|refine jak ?_|refine jai ?_|refine jab ?_)
 apply jay [1, 3, 4, 10] [1, 4, 7, 24, 25] rfl;(·(repeat(first|exact Pf.nil|apply Pf.cons (.c rfl (.d rfl))|apply Pf.cons (.c rfl (.ls rfl))|apply Pf.cons (.c rfl (.lp rfl)))));(·(repeat(first|exact Pb.nil|apply Pb.cons (.row rfl)|(apply Pb.cons;(·apply Nb.box rfl;(repeat(first|exact Ncs.nil rfl|(apply Ncs.cons rfl;(·(exact .d rfl)))))))|apply Pb.skip)))
 refine jbb [1, 4] [1, 4, 24, 25] (fun (g : Nat × Nat) => [(10, iN g.1), (3, .c (.ls 7 1 0 g.2))]) (fun g => [(7, .row 1 (cI (rowF (coG ll X Y) g.2)))]) (fun g => g.1 ≤ 2 ∧ g.2 = (if g.1 = 0 then 0 else if g.1 = 1 then X else X + Y)) (fun g => 2 - g.1) ((0, 0)) ?_ (by (repeat(first|exact trivial|refine ⟨(by rfl), ?_⟩))) (by (repeat(first|exact trivial|refine ⟨(by rfl), ?_⟩))) ?_
 ·exact ⟨by simp, rfl⟩
 rintro ⟨w, t⟩ ⟨hw, ht⟩
 dsimp only at hw ht ⊢
 rcases (by omega : w = 0 ∨ w = 1 ∨ w = 2) with rfl|rfl|rfl
 ·simp only [if_true] at ht
  subst ht
  repeat' (first|refine zaa ?_|refine zab ?_|refine zac ?_|refine zbq ?_|refine zaf ?_|refine jaj ?_|refine jak ?_|refine jai ?_|refine jan ?_|refine jab ?_|refine jbk rfl ?_)
  all_goals first|(exfalso;omega)|skip
  apply jay [1, 3, 4, 5, 10, 15, 16] [1, 4, 7, 24, 25] rfl;(·(repeat(first|exact Pf.nil|apply Pf.cons (.c rfl (.d rfl))|apply Pf.cons (.c rfl (.ls rfl))|apply Pf.cons (.c rfl (.lp rfl)))));(·(repeat(first|exact Pb.nil|apply Pb.cons (.row rfl)|(apply Pb.cons;(·apply Nb.box rfl;(repeat(first|exact Ncs.nil rfl|(apply Ncs.cons rfl;(·(exact .d rfl)))))))|apply Pb.skip)))
  refine jbb [1, 4, 5, 10, 15] [1, 4, 24, 25] (fun (q : Nat) => [(16, iN q), (3, .c (.ls 7 1 0 q))]) (fun q => [(7, .row 1 (cI (rowF (coG ll X Y) q)))]) (fun q => q ≤ X) (fun q => X - q) (0) ?_ (by (repeat(first|exact trivial|refine ⟨(by rfl), ?_⟩))) (by (repeat(first|exact trivial|refine ⟨(by ((refine jbm rfl ?_;simp;done))), ?_⟩))) ?_
  ·omega
  intro q hq
  by_cases hq2 : q < X
  ·have o := op 0 q 0 (by omega) (by simp [szG];omega) (by simp [szG];omega)
   have e : onG ll Y 0 q 0 = coG ll X Y q := by simp [coG, hq2]
   rw [e] at o
   repeat' (first|refine zaa ?_|refine zae ?_|refine zab ?_|refine zac ?_|(refine jaa (.buildSlice 27 1 _) ?_;(apply jao (sz := 1) (by_ := 8);(·kernel_rfl);(·decide);(·(repeat(first|exact GvS.nil _|apply GvS.c rfl rfl (.lit _) rfl)));(·decide);(·rfl);(·rfl);(·rfl)))|(refine jaa (.call ⟨.builtin .append, _, #[27, 27]⟩) ?_;((apply jbo (sz := 1) (by_ := 8);(·rfl);(·rfl);(·((simp;done)));(·exact .row _ _ _ _ rfl (by ((simp;done))));(·decide);(·kernel_rfl);(·decide);(·omega);(·omega);(·rfl);(·rfl);(·rfl))))|refine zad ?_|(refine jaa (.call ⟨.value (.func 163), _, _⟩) ?_;(apply jag (fid := 163);(·(repeat(first|exact SeA.nil|apply SeA.cons (.c (.d _))|(apply SeA.cons;(·(apply SeP.g;(repeat(first|exact SeL.nil|apply SeL.cons (.d _)))))))));(·exact o);(·rfl)))|refine jaj ?_|refine jak ?_|refine jai ?_|refine jaz ?_|refine jar rfl ?_|refine jan ?_|refine jab ?_|refine jbi rfl (fun hc => ?_) (fun hc => ?_))
   all_goals first|(exfalso;omega)|skip
   refine jba ?_;refine ⟨q + 1, ?_, ?_, jbx rfl (by (repeat(first|exact trivial|refine ⟨(by rfl), ?_⟩))) (by (repeat(first|exact trivial|refine ⟨rfl, ?_⟩))) (by (repeat(first|exact trivial|refine ⟨(by ((refine jbm rfl ?_;simp  [jdj];done))), ?_⟩))) (by (repeat(first|exact trivial|refine ⟨.inr rfl, ?_⟩)))⟩
   ·omega
   ·omega
  ·repeat' (first|refine zaa ?_|refine zae ?_|refine zab ?_|refine zac ?_|refine zad ?_|refine jaj ?_|refine jak ?_|refine jai ?_|refine jaz ?_|refine jar rfl ?_|refine jan ?_|refine jab ?_|refine jbi rfl (fun hc => ?_) (fun hc => ?_))
   all_goals first|(exfalso;omega)|skip
   refine jba ?_;refine ⟨(1, q), ?_, ?_, jbx rfl (by (repeat(first|exact trivial|refine ⟨(by rfl), ?_⟩))) (by (repeat(first|exact trivial|refine ⟨rfl, ?_⟩))) (by (repeat(first|exact trivial|refine ⟨(by ((refine jbm rfl ?_;simp;done))), ?_⟩))) (by (repeat(first|exact trivial|refine ⟨.inr rfl, ?_⟩)))⟩
   ·exact ⟨by simp, by simp;omega⟩
   ·simp
 ·simp only [Nat.one_ne_zero, if_false, if_true] at ht
  repeat' (first|refine zaa ?_|refine zab ?_|refine zac ?_|refine zbq ?_|refine zaf ?_|refine jaj ?_|refine jak ?_|refine jai ?_|refine jan ?_|refine jab ?_|refine jbk rfl ?_)
  all_goals first|(exfalso;omega)|skip
  apply jay [1, 3, 4, 5, 10, 15, 16] [1, 4, 7, 24, 25] rfl;(·(repeat(first|exact Pf.nil|apply Pf.cons (.c rfl (.d rfl))|apply Pf.cons (.c rfl (.ls rfl))|apply Pf.cons (.c rfl (.lp rfl)))));(·(repeat(first|exact Pb.nil|apply Pb.cons (.row rfl)|(apply Pb.cons;(·apply Nb.box rfl;(repeat(first|exact Ncs.nil rfl|(apply Ncs.cons rfl;(·(exact .d rfl)))))))|apply Pb.skip)))
  refine jbb [1, 4, 5, 10, 15] [1, 4, 24, 25] (fun (q : Nat) => [(16, iN q), (3, .c (.ls 7 1 0 (X + q)))]) (fun q => [(7, .row 1 (cI (rowF (coG ll X Y) (X + q))))]) (fun q => q ≤ Y) (fun q => Y - q) (0) ?_ (by (repeat(first|exact trivial|refine ⟨(by (first|rfl|(refine joq rfl ?_;(omega)))), ?_⟩))) (by (repeat(first|exact trivial|refine ⟨(by ((refine jbm rfl ?_;simp  [ht];done))), ?_⟩))) ?_
  ·omega
  intro q hq
  by_cases hq2 : q < Y
  ·have o := op 1 q 0 (by omega) (by simp [szG];omega) (by simp [szG];omega)
   have e : onG ll Y 1 q 0 = coG ll X Y (X + q) := by unfold coG;rw [if_neg (by omega), Nat.add_sub_cancel_left]
   rw [e] at o
   repeat' (first|refine zaa ?_|refine zae ?_|refine zab ?_|refine zac ?_|(refine jaa (.buildSlice 27 1 _) ?_;(apply jao (sz := 1) (by_ := 8);(·kernel_rfl);(·decide);(·(repeat(first|exact GvS.nil _|apply GvS.c rfl rfl (.lit _) rfl)));(·decide);(·rfl);(·rfl);(·rfl)))|(refine jaa (.call ⟨.builtin .append, _, #[27, 27]⟩) ?_;((apply jbo (sz := 1) (by_ := 8);(·rfl);(·rfl);(·((simp;done)));(·exact .row _ _ _ _ rfl (by ((simp;done))));(·decide);(·kernel_rfl);(·decide);(·omega);(·omega);(·rfl);(·rfl);(·rfl))))|refine zad ?_|(refine jaa (.call ⟨.value (.func 163), _, _⟩) ?_;(apply jag (fid := 163);(·(repeat(first|exact SeA.nil|apply SeA.cons (.c (.d _))|(apply SeA.cons;(·(apply SeP.g;(repeat(first|exact SeL.nil|apply SeL.cons (.d _)))))))));(·exact o);(·rfl)))|refine jaj ?_|refine jak ?_|refine jai ?_|refine jaz ?_|refine jar rfl ?_|refine jan ?_|refine jab ?_|refine jbi rfl (fun hc => ?_) (fun hc => ?_))
   all_goals first|(exfalso;omega)|skip
   refine jba ?_;refine ⟨q + 1, ?_, ?_, jbx rfl (by (repeat(first|exact trivial|refine ⟨(by rfl), ?_⟩))) (by (repeat(first|exact trivial|refine ⟨rfl, ?_⟩))) (by (repeat(first|exact trivial|refine ⟨(by ((refine jbm rfl ?_;simp  [jdj, ← Nat.add_assoc];done))), ?_⟩))) (by (repeat(first|exact trivial|refine ⟨.inr rfl, ?_⟩)))⟩
   ·omega
   ·omega
  ·repeat' (first|refine zaa ?_|refine zae ?_|refine zab ?_|refine zac ?_|refine zad ?_|refine jaj ?_|refine jak ?_|refine jai ?_|refine jaz ?_|refine jar rfl ?_|refine jan ?_|refine jab ?_|refine jbi rfl (fun hc => ?_) (fun hc => ?_))
   all_goals first|(exfalso;omega)|skip
   refine jba ?_;refine ⟨(2, X + q), ?_, ?_, jbx rfl (by (repeat(first|exact trivial|refine ⟨(by rfl), ?_⟩))) (by (repeat(first|exact trivial|refine ⟨rfl, ?_⟩))) (by (repeat(first|exact trivial|refine ⟨(by ((refine jbm rfl ?_;simp;done))), ?_⟩))) (by (repeat(first|exact trivial|refine ⟨.inr rfl, ?_⟩)))⟩
   ·exact ⟨by simp, by simp;omega⟩
   ·simp
 ·rw [if_neg (by omega), if_neg (by omega)] at ht
  subst ht
  repeat' (first|refine zaa ?_|refine zab ?_|refine zac ?_|refine jaj ?_|refine jak ?_|refine jar rfl ?_|refine jab ?_|refine jbj rfl ?_)
  all_goals first|(exfalso;omega)|skip
  all_goals (apply jat;apply jau;(·apply jbc.p;(·(apply GvA.cons;(·exact .tmp _);(·(exact GvP.c (.row _ _ _ _ rfl (by ((simp;done)))))));exact GvA.nil);(·decide)))
  all_goals simp [coL]
theorem triple1_p (n : Int) (ll : List (List Int)) (h : boxB 3 3 n ll = true) (i k : Nat) (hi : i < 3) (hk : k < 3) : PC Tryz.prog 164 [.c (dI i), .c (dI k), .c (.pt [dI 3, dI 3, dI n, eII ll])] (.p (.c (dI (atB ll 3 i k 3)))) := by
 have a := at_p 3 3 n ll h i k 1 1 (by omega) (by omega) (by omega) (by omega) (by omega) (by omega) (by omega) (by omega)
 simp only [Int.reduceMul, Int.reduceAdd] at a
 refine jaq Tryz.func164 rfl rfl rfl (by kernel_rfl) rfl rfl ?_;intro _
 repeat' (first|refine zaa ?_|(refine jaa (.load 26 _) ?_;(refine jac (jdu rfl (by kernel_rfl : tAgg _ 26 4 = true) (by simp)) rfl ?_))|refine zab ?_|(refine jaa (.call ⟨.value (.func 34), _, _⟩) ?_;(apply jag (fid := 34);(·(repeat(first|exact SeA.nil|apply SeA.cons (.c (.d _))|(apply SeA.cons;(·(apply SeP.g;(repeat(first|exact SeL.nil|apply SeL.cons (.d _)))))))));(·exact a);(·rfl)))|refine jaj ?_|refine jak ?_|refine jab ?_)
 all_goals (apply jat;apply jau;(·apply jbc.p;(·(apply GvA.cons;(·exact .tmp _);(·exact GvP.c (.lit _)));exact GvA.nil);(·decide)))
 all_goals rfl
theorem triple_p (n : Int) (ll : List (List Int)) (h : boxB 3 3 n ll = true) : PC Tryz.prog 119 [.g [dI 3, dI 3, dI n, eII ll]] (.p (.c (dI (tripI ll)))) := by
 have n2 := (jbp h).n2
 have cp := counts_p 3 3 n ll h
 have bd : ∀ i k : Nat, i < 3 → k < 3 → 0 ≤ atB ll 3 i k 3 ∧ atB ll 3 i k 3 ≤ n := fun i k hi hk => by
  obtain ⟨b, -⟩ := jer h hi hk
  exact b 3 (by omega)
 have t00 := triple1_p n ll h 0 0 (by omega) (by omega);have b00 := bd 0 0 (by omega) (by omega)
 have t01 := triple1_p n ll h 0 1 (by omega) (by omega);have b01 := bd 0 1 (by omega) (by omega)
 have t02 := triple1_p n ll h 0 2 (by omega) (by omega);have b02 := bd 0 2 (by omega) (by omega)
 have t10 := triple1_p n ll h 1 0 (by omega) (by omega);have b10 := bd 1 0 (by omega) (by omega)
 have t11 := triple1_p n ll h 1 1 (by omega) (by omega);have b11 := bd 1 1 (by omega) (by omega)
 have t12 := triple1_p n ll h 1 2 (by omega) (by omega);have b12 := bd 1 2 (by omega) (by omega)
 have t20 := triple1_p n ll h 2 0 (by omega) (by omega);have b20 := bd 2 0 (by omega) (by omega)
 have t21 := triple1_p n ll h 2 1 (by omega) (by omega);have b21 := bd 2 1 (by omega) (by omega)
 have o0 := onG_bd h (w := 0) (q := 0) (j := 0) (by omega) (by simp [szG]) (by simp [szG])
 have o3 := onG_bd h (w := 1) (q := 0) (j := 0) (by omega) (by simp [szG]) (by simp [szG])
 have o4 := onG_bd h (w := 1) (q := 1) (j := 0) (by omega) (by simp [szG]) (by simp [szG])
 have cl : (coL ll 3 3).length = 6 := by simp [coL]
 have c0 : atZ (coL ll 3 3) 0 = onG ll 3 0 0 0 := rfl
 have c3 : atZ (coL ll 3 3) 3 = onG ll 3 1 0 0 := rfl
 have c4 : atZ (coL ll 3 3) 4 = onG ll 3 1 1 0 := rfl
 have tr : tripI ll = atB ll 3 (0 : Nat) (0 : Nat) 3 + atB ll 3 (0 : Nat) (1 : Nat) 3 + atB ll 3 (0 : Nat) (2 : Nat) 3 + atB ll 3 (1 : Nat) (0 : Nat) 3 + atB ll 3 (1 : Nat) (1 : Nat) 3 - atB ll 3 (1 : Nat) (2 : Nat) 3 + atB ll 3 (2 : Nat) (0 : Nat) 3 - atB ll 3 (2 : Nat) (1 : Nat) 3 - onG ll 3 0 0 0 - 2 * onG ll 3 1 0 0 - onG ll 3 1 1 0 := rfl
 rw [← c0] at o0 tr
 rw [← c3] at o3 tr
 rw [← c4] at o4 tr
 rw [tr]
 clear tr c0 c3 c4 bd
 generalize coL ll 3 3 = C at *
 generalize atB ll 3 (0 : Nat) (0 : Nat) 3 = v00 at *
 generalize atB ll 3 (0 : Nat) (1 : Nat) 3 = v01 at *
 generalize atB ll 3 (0 : Nat) (2 : Nat) 3 = v02 at *
 generalize atB ll 3 (1 : Nat) (0 : Nat) 3 = v10 at *
 generalize atB ll 3 (1 : Nat) (1 : Nat) 3 = v11 at *
 generalize atB ll 3 (1 : Nat) (2 : Nat) 3 = v12 at *
 generalize atB ll 3 (2 : Nat) (0 : Nat) 3 = v20 at *
 generalize atB ll 3 (2 : Nat) (1 : Nat) 3 = v21 at *
 refine jaq Tryz.func119 rfl rfl rfl (by kernel_rfl) rfl rfl ?_;intro _
 repeat' (first|(refine jaa (.box 26 _) ?_;refine jbh rfl rfl ?_)|refine zaa ?_|(refine jaa (.makeFunc _ _ _) ?_;(apply jac;(·apply jev;(repeat(first|exact EvL.nil|(apply EvL.cons;(·rfl)))));(·rfl)))|refine zae ?_|refine zab ?_|refine zad ?_|refine zan ?_|refine zao ?_|refine zap ?_|refine zba ?_|(refine jaa (.call ⟨.value (.func 165), _, _⟩) ?_;((apply jag (fid := 165);(·(repeat(first|exact SeA.nil|(apply SeA.cons;(·(apply SeP.g;(repeat(first|exact SeL.nil|apply SeL.cons (.d _)))))))));(·exact cp);(·rfl))))|(refine jaa (.call ⟨.value (.tmp 8), _, _⟩) ?_;((apply jen;(·((apply SeP.c;apply Se.fn;(repeat(first|exact SeL.nil|(apply SeL.cons;(·apply Se.pt;(·rfl);(·rfl);(·(repeat(first|exact SeL.nil|apply SeL.cons (.d _)))))))))));(·(repeat(first|exact SeA.nil|apply SeA.cons (.c (.d _)))));(·exact t00);(·rfl))))|(refine jaa (.call ⟨.value (.tmp 10), _, _⟩) ?_;((apply jen;(·((apply SeP.c;apply Se.fn;(repeat(first|exact SeL.nil|(apply SeL.cons;(·apply Se.pt;(·rfl);(·rfl);(·(repeat(first|exact SeL.nil|apply SeL.cons (.d _)))))))))));(·(repeat(first|exact SeA.nil|apply SeA.cons (.c (.d _)))));(·exact t01);(·rfl))))|(refine jaa (.call ⟨.value (.tmp 13), _, _⟩) ?_;((apply jen;(·((apply SeP.c;apply Se.fn;(repeat(first|exact SeL.nil|(apply SeL.cons;(·apply Se.pt;(·rfl);(·rfl);(·(repeat(first|exact SeL.nil|apply SeL.cons (.d _)))))))))));(·(repeat(first|exact SeA.nil|apply SeA.cons (.c (.d _)))));(·exact t02);(·rfl))))|(refine jaa (.call ⟨.value (.tmp 16), _, _⟩) ?_;((apply jen;(·((apply SeP.c;apply Se.fn;(repeat(first|exact SeL.nil|(apply SeL.cons;(·apply Se.pt;(·rfl);(·rfl);(·(repeat(first|exact SeL.nil|apply SeL.cons (.d _)))))))))));(·(repeat(first|exact SeA.nil|apply SeA.cons (.c (.d _)))));(·exact t10);(·rfl))))|(refine jaa (.call ⟨.value (.tmp 19), _, _⟩) ?_;((apply jen;(·((apply SeP.c;apply Se.fn;(repeat(first|exact SeL.nil|(apply SeL.cons;(·apply Se.pt;(·rfl);(·rfl);(·(repeat(first|exact SeL.nil|apply SeL.cons (.d _)))))))))));(·(repeat(first|exact SeA.nil|apply SeA.cons (.c (.d _)))));(·exact t11);(·rfl))))|(refine jaa (.call ⟨.value (.tmp 22), _, _⟩) ?_;((apply jen;(·((apply SeP.c;apply Se.fn;(repeat(first|exact SeL.nil|(apply SeL.cons;(·apply Se.pt;(·rfl);(·rfl);(·(repeat(first|exact SeL.nil|apply SeL.cons (.d _)))))))))));(·(repeat(first|exact SeA.nil|apply SeA.cons (.c (.d _)))));(·exact t12);(·rfl))))|(refine jaa (.call ⟨.value (.tmp 25), _, _⟩) ?_;((apply jen;(·((apply SeP.c;apply Se.fn;(repeat(first|exact SeL.nil|(apply SeL.cons;(·apply Se.pt;(·rfl);(·rfl);(·(repeat(first|exact SeL.nil|apply SeL.cons (.d _)))))))))));(·(repeat(first|exact SeA.nil|apply SeA.cons (.c (.d _)))));(·exact t20);(·rfl))))|(refine jaa (.call ⟨.value (.tmp 28), _, _⟩) ?_;((apply jen;(·((apply SeP.c;apply Se.fn;(repeat(first|exact SeL.nil|(apply SeL.cons;(·apply Se.pt;(·rfl);(·rfl);(·(repeat(first|exact SeL.nil|apply SeL.cons (.d _)))))))))));(·(repeat(first|exact SeA.nil|apply SeA.cons (.c (.d _)))));(·exact t21);(·rfl))))|refine jaj ?_|refine jak ?_|refine jab ?_|refine jbd 3 (fun _ => false) (.step 0 true (.step 2 true (.step 5 true (.step 8 true (.step 11 true (.step 14 true (.step 17 true (.step 20 true (.step 23 true (.step 24 true (.step 25 true (.step 27 true (.step 28 true (.step 29 true (.step 30 true (.step 32 true (.step 33 true (.step 34 true (.step 1 false (.step 3 false (.step 4 true (.step 6 false (.step 7 true (.step 9 false (.step 10 true (.step 12 false (.step 13 true (.step 15 false (.step 16 true (.step 18 false (.step 19 true (.step 21 false (.step 22 true (.step 26 true (.step 31 true (.step 35 true (.step 36 true .nil))))))))))))))))))))))))))))))))))))) [(0, 137438953471, 137438953471, true), (1, 137438953470, 137438953471, false), (0, 137438953471, 137438953471, true), (6, 137438953467, 137438953471, false), (10, 137438953461, 137438953471, true), (0, 137438953471, 137438953471, true), (40, 137438953439, 137438953471, false), (80, 137438953391, 137438953471, true), (0, 137438953471, 137438953471, true), (320, 137438953215, 137438953471, false), (640, 137438952831, 137438953471, true), (0, 137438953471, 137438953471, true), (2560, 137438951423, 137438953471, false), (5120, 137438948351, 137438953471, true), (0, 137438953471, 137438953471, true), (20480, 137438937087, 137438953471, false), (40960, 137438912511, 137438953471, true), (0, 137438953471, 137438953471, true), (163840, 137438822399, 137438953471, false), (327680, 137438625791, 137438953471, true), (0, 137438953471, 137438953471, true), (1310720, 137437904895, 137438953471, false), (2621440, 137436332031, 137438953471, true), (0, 137438953471, 137438953471, true), (8388608, 137430564863, 137438953471, true), (16777216, 137422176255, 137438953471, false), (37748736, 137401204735, 137438953471, true), (0, 137438953471, 137438953471, true), (134217728, 137304735743, 137438953471, true), (268435456, 137170518015, 137438953471, false), (536870912, 136902082559, 137438953471, true), (1140850688, 136298102783, 137438953471, true), (0, 137438953471, 137438953471, true), (4294967296, 133143986175, 137438953471, true), (8589934592, 128849018879, 137438953471, false), (19327352832, 118111600639, 137438953471, true), (68719476735, 103079215103, 137438953471, true)] (by kernel_rfl) (by kernel_rfl) ?_)
 all_goals (apply jat;apply jau;(·apply jbc.p;(·(apply GvA.cons;(·exact .tmp _);(·exact GvP.c (.lit _)));exact GvA.nil);(·decide)))
 all_goals rfl
structure Ord3 (f : List Int) : Prop where
 len : f.length = 3
 bd : ∀ i : Nat, i < 3 → 0 ≤ atZ f (i : Int) ∧ atZ f (i : Int) < 3
theorem ord3 {a : Nat} (h : a < 6) : Ord3 (atZ orderL (a : Int)) := by
 have key : ∀ a : Nat, a < 6 → (atZ orderL (a : Int)).length = 3 ∧ ∀ i : Nat, i < 3 → 0 ≤ atZ (atZ orderL (a : Int)) (i : Int) ∧ atZ (atZ orderL (a : Int)) (i : Int) < 3 := by decide +kernel
 exact ⟨(key a h).1, (key a h).2⟩
theorem again1_p (n : Int) (ll : List (List Int)) (f s : List Int) (hb : boxB 3 3 n ll = true) (hf : Ord3 f) (hs : Ord3 s) (i k p : Nat) (hi : i < 3) (hk : k < 3) (hp : p < 4) :
  PC Tryz.prog 168 [.c (dI i), .c (dI k), .c (dI ((p / 2 : Nat) : Int)), .c (dI ((p % 2 : Nat) : Int)), .c (.pt [dI 3, dI 3, dI n, eII ll]), .c (.pt [eI f]), .c (.pt [eI s])] (.p (.c (dI (askdF ll f s i k p)))) := by
 have lf := hf.len
 have ls := hs.len
 have bf := hf.bd i hi
 have bs := hs.bd k hk
 have pa := at_p 3 3 n ll hb (atZ f (i : Int)) (atZ s (k : Int)) ((p / 2 : Nat) : Int) ((p % 2 : Nat) : Int) (by omega) (by omega) (by omega) (by omega) (by omega) (by omega) (by omega) (by omega)
 have e : 2 * ((p / 2 : Nat) : Int) + ((p % 2 : Nat) : Int) = (p : Int) := by omega
 rw [e] at pa
 obtain ⟨a, ha'⟩ : ∃ a, a = ((p / 2 : Nat) : Int) := ⟨_, rfl⟩
 obtain ⟨c, hc'⟩ : ∃ c, c = ((p % 2 : Nat) : Int) := ⟨_, rfl⟩
 rw [← ha', ← hc'] at pa ⊢
 clear e
 unfold askdF
 refine jaq Tryz.func168 rfl rfl rfl (by kernel_rfl) rfl rfl ?_;intro _
 repeat' (first|refine zaa ?_|(refine jaa (.load 26 _) ?_;(refine jac (jdu rfl (by kernel_rfl : tAgg _ 26 4 = true) (by simp)) rfl ?_))|refine zaq ?_|refine zab ?_|refine zao ?_|refine zap ?_|(refine jaa (.call ⟨.value (.func 34), _, _⟩) ?_;(apply jag (fid := 34);(·(repeat(first|exact SeA.nil|apply SeA.cons (.c (.d _))|(apply SeA.cons;(·(apply SeP.g;(repeat(first|exact SeL.nil|apply SeL.cons (.d _)))))))));(·exact pa);(·rfl)))|refine jaj ?_|refine jak ?_|refine jab ?_|refine jbd 1 (fun _ => false) (.step 0 true (.step 1 true (.step 2 true (.step 3 true (.step 4 true (.step 5 true (.step 6 true (.step 7 true (.step 8 true (.step 9 true (.step 10 true (.step 11 false (.step 12 true .nil))))))))))))) [(0, 8191, 8191, false), (0, 8191, 8191, false), (0, 8191, 8191, true), (6, 8185, 8191, true), (8, 8183, 8191, false), (0, 8191, 8191, false), (0, 8191, 8191, true), (96, 8095, 8191, true), (128, 8063, 8191, false), (0, 8191, 8191, true), (0, 8191, 8191, true), (1809, 6382, 8191, false), (4095, 6143, 8191, true)] (by kernel_rfl) (by kernel_rfl) ?_)
 all_goals (apply jat;apply jau;(·apply jbc.p;(·(apply GvA.cons;(·exact .tmp _);(·exact GvP.c (.lit _)));exact GvA.nil);(·decide)))
 all_goals rfl
theorem again_p (n : Int) (ll : List (List Int)) (f s : List Int) (hb : boxB 3 3 n ll = true) (hf : Ord3 f) (hs : Ord3 s) : PC Tryz.prog 121 [.g [dI 3, dI 3, dI n, eII ll], .c (eI f), .c (eI s)] (.p (.g [dI 3, dI 3, dI n, eII (askdL ll f s)])) := by
 have lf := hf.len
 have ls := hs.len
 have nb := newBox_p f.length s.length n 168 [.pt [dI 3, dI 3, dI n, eII ll], .pt [eI f], .pt [eI s]] (askdF ll f s) (by omega) (by omega) (fun i k p hi hk hp => again1_p n ll f s hb hf hs i k p (by omega) (by omega) hp)
 refine jaq Tryz.func121 rfl rfl rfl (by kernel_rfl) rfl rfl ?_;intro _
 repeat' (first|(refine jaa (.box 26 _) ?_;refine jbh rfl rfl ?_)|(refine jaa (.box 27 _) ?_;refine jbh rfl rfl ?_)|(refine jaa (.alloc 26) ?_;refine jav (zs := [.int .i64 0, .int .i64 0, .int .i64 0, .slice none 0 0]) (by kernel_rfl) rfl ?_)|refine zax ?_|refine zas ?_|refine zbb ?_|refine zaf ?_|(refine jaa (.makeFunc _ _ _) ?_;(apply jac;(·apply jev;(repeat(first|exact EvL.nil|(apply EvL.cons;(·rfl)))));(·rfl)))|(refine jaa (.store 26 _ _) ?_;(refine jah rfl rfl rfl (by kernel_rfl) rfl rfl ?_))|(refine jaa (.call ⟨.value (.func 166), _, _⟩) ?_;(apply jbq (fid := 166);(·(repeat(first|exact SeA.nil|apply SeA.cons (.c (.d _))|(apply SeA.cons;(·(apply SeP.c;apply Se.fn;(repeat(first|exact SeL.nil|(apply SeL.cons;(·apply Se.pt;(·rfl);(·rfl);(·(repeat(first|exact SeL.nil|apply SeL.cons (.d _))))))))))))));(·exact nb);(·rfl);(·rfl)))|refine jaj ?_|refine jak ?_|refine jab ?_)
 all_goals (apply jat;apply jau;(·apply jbc.p;(·(apply GvA.cons;(·(apply RV.cellN (n := 4);(·rfl);(·rfl);(·kernel_rfl);(·rfl)));(·(apply GvP.g;(·(apply GvL.cons (.lit _));(apply GvL.cons (.lit _));(apply GvL.cons (.lit _));((apply GvL.cons (.row _ _ _ _ rfl (by ((simp;done))))));exact GvL.nil))));exact GvA.nil);(·decide)))
 all_goals simp [askdL, lf, ls]
theorem askd_box {n : Int} {ll : List (List Int)} {f s : List Int} (hb : boxB 3 3 n ll = true) (hf : Ord3 f) (hs : Ord3 s) : boxB 3 3 n (askdL ll f s) = true := by
 have b := jbp hb
 have a5 := b.n1;have a6 := b.n2
 have R := jgj (x := 3) (y := 3) (n := n) (f := askdF ll f s) (by omega) (by omega) (by omega) (by omega) (fun i k hi hk => by
  have bf := hf.bd i hi
  have bs := hs.bd k hk
  obtain ⟨u, hu⟩ := Int.eq_ofNat_of_zero_le bf.1
  obtain ⟨v, hv⟩ := Int.eq_ofNat_of_zero_le bs.1
  obtain ⟨b7, b8⟩ := jer (x := 3) (y := 3) hb (i := u) (k := v) (by omega) (by omega)
  unfold askdF
  rw [hu, hv]
  exact ⟨fun p hp => (b7 p hp).1, b8⟩)
 unfold askdL
 rw [decide_eq_true a6] at R
 exact R
theorem swap_box3 {n : Int} {ll : List (List Int)} (hb : boxB 3 3 n ll = true) : boxB 3 3 n (swapL ll 3 3) = true := by
 have b := jbp hb
 have a5 := b.n1;have a6 := b.n2
 have R := jgj (x := 3) (y := 3) (n := n) (f := swapF ll 3) (by omega) (by omega) (by omega) (by omega) (fun i k hi hk => by
  obtain ⟨b7, b8⟩ := jer (x := 3) (y := 3) hb (i := k) (k := i) (by omega) (by omega)
  unfold swapF
  refine ⟨fun p hp => (b7 (2 * (p % 2) + p / 2) (by omega)).1, ?_⟩
  have e : ∀ p : Nat, p < 4 → 2 * (p % 2) + p / 2 < 4 := by decide
  show atB ll 3 k i ((0 : Nat) : Int) + atB ll 3 k i ((2 : Nat) : Int) + atB ll 3 k i ((1 : Nat) : Int) + atB ll 3 k i ((3 : Nat) : Int) = n
  have this := b8
  simp only [Int.natCast_zero, Int.natCast_one, Int.cast_ofNat_Int] at this ⊢
  omega)
 unfold swapL
 rw [decide_eq_true a6] at R
 exact R
theorem jkp {n : Int} {ll : List (List Int)} (hb : boxB 3 3 n ll = true) (i : Nat) : boxB 3 3 n (startL ll i) = true := by
 unfold startL
 split
 ·exact hb
 ·exact swap_box3 hb
theorem becL_box {n : Int} {ll : List (List Int)} (hb : boxB 3 3 n ll = true) (i : Nat) {a b : Nat} (ha : a < 6) (hb2 : b < 6) : boxB 3 3 n (becL ll i a b) = true :=
 askd_box (jkp hb i) (ord3 ha) (ord3 hb2)
theorem isTriple_p (X Y : Nat) (n : Int) (ll : List (List Int)) (h : boxB X Y n ll = true) : PC Tryz.prog 74 [.g [dI X, dI Y, dI n, eII ll]] (.p (.c (dB (quietG ll X Y && decide (X = 3 ∧ Y = 3))))) := by
 have q := isQuietG_p X Y n ll h
 generalize quietG ll X Y = Q at *
 have ex : decide ((X : Int) = 3) = decide (X = 3) := decide_eq_decide.2 ⟨fun h => by omega, fun h => by omega⟩
 have ey : decide ((Y : Int) = 3) = decide (Y = 3) := decide_eq_decide.2 ⟨fun h => by omega, fun h => by omega⟩
 cases Q with
 | false =>
  refine jaq Tryz.func74 rfl rfl rfl (by kernel_rfl) rfl rfl ?_;intro _
  repeat' (first|(refine jaa (.box 26 _) ?_;refine jbh rfl rfl ?_)|refine zaa ?_|refine zae ?_|refine zab ?_|refine zag ?_|(refine jaa (.call ⟨.value (.func 73), _, _⟩) ?_;(apply jag (fid := 73);(·(repeat(first|exact SeA.nil|(apply SeA.cons;(·(apply SeP.g;(repeat(first|exact SeL.nil|apply SeL.cons (.d _)))))))));(·exact q);(·rfl)))|refine jaj ?_|refine jbn rfl rfl rfl rfl ?_|refine jak ?_|refine jab ?_)
  all_goals first|(exfalso;simp_all;done)|skip
  all_goals (apply jat;apply jau;(·apply jbc.p;(·(apply GvA.cons;(·exact .tmp _);(·exact GvP.c (.lit _)));exact GvA.nil);(·decide)))
  all_goals rfl
 | true =>
  by_cases hx : (X : Int) = 3
  ·by_cases hy : (Y : Int) = 3
   ·have e : (true && decide (X = 3 ∧ Y = 3)) = true := by simp;omega
    rw [e]
    refine jaq Tryz.func74 rfl rfl rfl (by kernel_rfl) rfl rfl ?_;intro _
    repeat' (first|(refine jaa (.box 26 _) ?_;refine jbh rfl rfl ?_)|refine zaa ?_|refine zae ?_|refine zab ?_|refine zav ?_|refine zaf ?_|refine zai ?_|refine zag ?_|refine zaw ?_|(refine jaa (.call ⟨.value (.func 73), _, _⟩) ?_;(apply jag (fid := 73);(·(repeat(first|exact SeA.nil|(apply SeA.cons;(·(apply SeP.g;(repeat(first|exact SeL.nil|apply SeL.cons (.d _)))))))));(·exact q);(·rfl)))|refine jaj ?_|refine jbn rfl rfl rfl rfl ?_|refine jbg rfl rfl rfl rfl ?_|refine jca rfl rfl (fun hg => ?_) (fun hg => ?_)|refine jak ?_|refine jab ?_)
    all_goals first|(exfalso;omega)|(exfalso;simp_all;done)|skip
    all_goals (apply jat;apply jau;(·apply jbc.p;(·(apply GvA.cons;(·exact .tmp _);(·exact GvP.c (.lit _)));exact GvA.nil);(·decide)))
    all_goals simp [hx, hy]
   ·have e : (true && decide (X = 3 ∧ Y = 3)) = false := by simp;omega
    rw [e]
    refine jaq Tryz.func74 rfl rfl rfl (by kernel_rfl) rfl rfl ?_;intro _
    repeat' (first|(refine jaa (.box 26 _) ?_;refine jbh rfl rfl ?_)|refine zaa ?_|refine zae ?_|refine zab ?_|refine zav ?_|refine zaf ?_|refine zai ?_|refine zag ?_|refine zaw ?_|(refine jaa (.call ⟨.value (.func 73), _, _⟩) ?_;(apply jag (fid := 73);(·(repeat(first|exact SeA.nil|(apply SeA.cons;(·(apply SeP.g;(repeat(first|exact SeL.nil|apply SeL.cons (.d _)))))))));(·exact q);(·rfl)))|refine jaj ?_|refine jbn rfl rfl rfl rfl ?_|refine jbg rfl rfl rfl rfl ?_|refine jca rfl rfl (fun hg => ?_) (fun hg => ?_)|refine jak ?_|refine jab ?_)
    all_goals first|(exfalso;omega)|(exfalso;simp_all;done)|skip
    all_goals (apply jat;apply jau;(·apply jbc.p;(·(apply GvA.cons;(·exact .tmp _);(·exact GvP.c (.lit _)));exact GvA.nil);(·decide)))
    all_goals simp [hx, hy]
  ·have e : (true && decide (X = 3 ∧ Y = 3)) = false := by simp;omega
   rw [e]
   refine jaq Tryz.func74 rfl rfl rfl (by kernel_rfl) rfl rfl ?_;intro _
   repeat' (first|(refine jaa (.box 26 _) ?_;refine jbh rfl rfl ?_)|refine zaa ?_|refine zae ?_|refine zab ?_|refine zav ?_|refine zaf ?_|refine zai ?_|refine zag ?_|refine zaw ?_|(refine jaa (.call ⟨.value (.func 73), _, _⟩) ?_;(apply jag (fid := 73);(·(repeat(first|exact SeA.nil|(apply SeA.cons;(·(apply SeP.g;(repeat(first|exact SeL.nil|apply SeL.cons (.d _)))))))));(·exact q);(·rfl)))|refine jaj ?_|refine jbn rfl rfl rfl rfl ?_|refine jbg rfl rfl rfl rfl ?_|refine jca rfl rfl (fun hg => ?_) (fun hg => ?_)|refine jak ?_|refine jab ?_)
   all_goals first|(exfalso;omega)|(exfalso;simp_all;done)|skip
   all_goals (apply jat;apply jau;(·apply jbc.p;(·(apply GvA.cons;(·exact .tmp _);(·exact GvP.c (.lit _)));exact GvA.nil);(·decide)))
   all_goals simp [hx]
theorem joo : (D.sl 1 6 [.sl 1 3 [dI 0, dI 1, dI 2], .sl 1 3 [dI 0, dI 2, dI 1], .sl 1 3 [dI 1, dI 0, dI 2], .sl 1 3 [dI 1, dI 2, dI 0], .sl 1 3 [dI 2, dI 0, dI 1], .sl 1 3 [dI 2, dI 1, dI 0]]) = eII orderL := rfl
set_option maxHeartbeats 4000000 in
theorem greatestTriple_p (n : Int) (ll : List (List Int)) (h : boxB 3 3 n ll = true) : PC Tryz.prog 75 [.g [dI 3, dI 3, dI n, eII ll]] (.p (.c (dI (tripM ll)))) := by
 have tp := triple_p n ll h
 have sw := swapped_p 3 3 n ll h
 have hs := fun i => jkp h i
 have hbc := fun i a b ha hb => becL_box h i (a := a) (b := b) ha hb
 have ks := fun i a b c => joc ll (i := i) (a := a) (b := b) (c := c)
 have tm : tripM ll = tripK ll 4608 := rfl
 have t0 : tripK ll 0 = tripI ll := rfl
 have s0 : startL ll 0 = ll := rfl
 have s1 : startL ll 1 = swapL ll 3 3 := rfl
 have olen : orderL.length = 6 := rfl
 have hb0 : ∀ a b : Nat, becL ll 0 a b = askdL ll (atZ orderL (a : Int)) (atZ orderL (b : Int)) := fun _ _ => rfl
 have hb1 : ∀ a b : Nat, becL ll 1 a b = askdL (swapL ll 3 3) (atZ orderL (a : Int)) (atZ orderL (b : Int)) := fun _ _ => rfl
 have ho : ∀ a : Nat, a < 6 → Ord3 (atZ orderL (a : Int)) := fun a ha => ord3 ha
 have hsw := hs 1
 rw [s1] at hsw
 have pp := plays_p 3 3 (by omega)
 have pl : (playsF (3 + 3)).length = 64 := by simp
 have pa : ∀ c : Nat, c < 64 → atZ (playsF (3 + 3)) (c : Int) = bitsM 6 c := fun c hc => by rw [jbw (by simpa using hc)];simp [playsF]
 have bv : ∀ i a b c : Nat, becV ll i a b c = tripI (bflL (becL ll i a b) 3 3 (bitsM 6 c)) := fun _ _ _ _ => rfl
 generalize playsF (3 + 3) = PL at *
 refine jaq Tryz.func75 rfl rfl rfl (by kernel_rfl) rfl rfl ?_;intro _
 repeat' (first|(refine jaa (.box 26 _) ?_;refine jbh rfl rfl ?_)|refine zaa ?_|(refine jaa (.buildSlice 27 3 _) ?_;(apply jao (sz := 1) (by_ := 8);(·kernel_rfl);(·decide);(·(repeat(first|exact GvS.nil _|apply GvS.c rfl rfl (.lit _) rfl)));(·decide);(·rfl);(·rfl);(·rfl)))|(refine jaa (.buildSlice 24 6 _) ?_;(apply jao (sz := 1) (by_ := 24);(·kernel_rfl);(·decide);(·(repeat(first|exact GvS.nil _|apply GvS.c rfl rfl (.row _ _ _ _ rfl (by ((simp;done)))) rfl)));(·decide);(·rfl);(·rfl);(·rfl)))|refine zae ?_|(refine jaa (.call ⟨.value (.func 119), _, _⟩) ?_;(apply jag (fid := 119);(·(repeat(first|exact SeA.nil|(apply SeA.cons;(·(apply SeP.g;(repeat(first|exact SeL.nil|apply SeL.cons (.d _)))))))));(·exact tp);(·rfl)))|refine jaj ?_|refine jak ?_|refine jab (id := 0) ?_|refine jab (id := 1) ?_|refine jab (id := 2) ?_)
 refine jcn (jlu 20 1 rfl) ?_
 refine jcn (jog 3 (.c (.d (eII orderL))) rfl (by rw [← joo];rfl)) ?_
 generalize orderL = OL at *
 repeat' (first|refine zae ?_|(refine jaa (.build 152 _) ?_;refine jac (jbv (cs := [_, _, _, _, _, _, _, _]) [(0, 4), (4, 4)] [.int .i64 0, .int .i64 0, .int .i64 0, .slice none 0 0, .int .i64 0, .int .i64 0, .int .i64 0, .slice none 0 0] (by kernel_rfl) (by kernel_rfl) rfl) rfl ?_)|refine zab ?_|(refine jaa (.call ⟨.value (.func 120), _, _⟩) ?_;(apply jag (fid := 120);(·(repeat(first|exact SeA.nil|(apply SeA.cons;(·(apply SeP.g;(repeat(first|exact SeL.nil|apply SeL.cons (.d _)))))))));(·exact sw);(·rfl)))|refine jaj ?_|refine jai ?_|refine jbd 3 (fun _ => false) (.step 0 true (.step 1 true (.step 4 true (.step 2 false (.step 3 true .nil))))) [(0, 31, 31, false), (0, 31, 31, false), (2, 29, 31, false), (5, 26, 31, true), (0, 31, 31, true)] (by kernel_rfl) (by kernel_rfl) ?_)
 apply jay [3, 4, 26, 27] [1, 6, 11, 14, 15, 16, 17, 18, 19, 20, 46, 3025, 3045, 3055] rfl;(·(repeat(first|exact Pf.nil|apply Pf.cons (.c rfl (.d rfl))|(apply Pf.cons;(·apply Nv.g rfl;(repeat(first|exact Ncs.nil rfl|(apply Ncs.cons rfl;(·(exact .d rfl))))))))));(·(repeat(first|exact Pb.nil|(apply Pb.cons;(·apply Nb.box rfl;(repeat(first|exact Ncs.nil rfl|(apply Ncs.cons rfl;(·(exact .d rfl)))))))|apply Pb.skip)))
 refine jbb [3, 26] [1, 14, 15, 16, 17, 18, 19, 20, 3025, 6, 3045, 11, 46, 3055] (fun (g : Nat × Int) => [(27, iN g.1), (4, iZ g.2)]) (fun _ => []) (fun g => g.1 ≤ 2 ∧ g.2 = tripK ll (g.1 * 2304)) (fun g => 2 - g.1) ((0, tripI ll)) ?_ (by (repeat(first|exact trivial|refine ⟨(by rfl), ?_⟩))) (by (repeat(exact trivial))) ?_
 ·exact ⟨by simp, by dsimp only;rw [Nat.zero_mul];exact t0.symm⟩
 rintro ⟨i, v⟩ ⟨hi, hv⟩
 dsimp only at hi hv ⊢
 rcases (by omega : i = 0 ∨ i = 1 ∨ i = 2) with rfl|rfl|rfl
 ·have hB : boxB 3 3 n ll = true := h
  have hX := fun a b ha hb => hbc 0 a b ha hb
  have hK := fun a b c ha hb hc => ks 0 a b c ha hb hc
  have hV := fun a b c => bv 0 a b c
  clear hbc ks bv s0 s1 hs
  repeat' (first|refine zab ?_|refine zac ?_|(refine jaa (.index 152 _ _) ?_;((refine jac (jib (n := 2) (m := 4) rfl rfl (by kernel_rfl) (by omega) (by omega) (by kernel_rfl)) rfl ?_)))|(refine jaa (.alloc 26) ?_;refine jav (zs := [.int .i64 0, .int .i64 0, .int .i64 0, .slice none 0 0]) (by kernel_rfl) rfl ?_)|(refine jaa (.store 26 _ _) ?_;(refine jah rfl rfl rfl (by kernel_rfl) rfl rfl ?_))|refine zau ?_|refine jaj ?_|refine jak ?_|refine jai ?_|refine jan ?_|refine jab ?_|refine jbk rfl ?_)
  all_goals first|(exfalso;omega)|skip
  apply jay [3, 4, 6, 26, 27, 30, 31, 32] [1, 6, 11, 14, 15, 16, 17, 18, 19, 20, 46, 3025, 3045, 3055] rfl;(·(repeat(first|exact Pf.nil|apply Pf.cons (.c rfl (.d rfl))|apply Pf.cons (.c rfl (.lp rfl))|(apply Pf.cons;(·apply Nv.g rfl;(repeat(first|exact Ncs.nil rfl|(apply Ncs.cons rfl;(·(exact .d rfl))))))))));(·(repeat(first|exact Pb.nil|(apply Pb.cons;(·apply Nb.box rfl;(repeat(first|exact Ncs.nil rfl|(apply Ncs.cons rfl;(·(exact .d rfl)))))))|apply Pb.skip)))
  refine jbb [3, 6, 26, 27, 30, 31] [1, 14, 15, 16, 17, 18, 19, 20, 3025, 6, 3045, 11, 46, 3055] (fun (g : Nat × Int) => [(32, iN g.1), (4, iZ g.2)]) (fun _ => []) (fun g => g.1 ≤ 6 ∧ g.2 = tripK ll ((0 * 6 + g.1) * 384)) (fun g => 6 - g.1) ((0, v)) ?_ (by (repeat(first|exact trivial|refine ⟨(by rfl), ?_⟩))) (by (repeat(exact trivial))) ?_
  ·exact ⟨by simp, by dsimp only;rw [hv]⟩
  clear hv
  rintro ⟨a, v⟩ ⟨ha, hv⟩
  dsimp only at ha hv ⊢
  by_cases ha2 : a < 6
  ·repeat' (first|refine zaa ?_|refine zab ?_|refine zac ?_|refine zau ?_|refine zam ?_|refine zaq ?_|refine zad ?_|refine jaj ?_|refine jak ?_|refine jai ?_|refine jaz ?_|refine jar rfl ?_|refine jan ?_|refine jab ?_|refine jbi rfl (fun hc => ?_) (fun hc => ?_))
   all_goals first|(exfalso;omega)|skip
   apply jay [3, 4, 6, 8, 26, 27, 30, 31, 32, 36, 37, 38] [1, 6, 11, 14, 15, 16, 17, 18, 19, 20, 46, 3025, 3045, 3055] rfl;(·(repeat(first|exact Pf.nil|apply Pf.cons (.c rfl (.d rfl))|apply Pf.cons (.c rfl (.lp rfl))|(apply Pf.cons;(·apply Nv.g rfl;(repeat(first|exact Ncs.nil rfl|(apply Ncs.cons rfl;(·(exact .d rfl))))))))));(·(repeat(first|exact Pb.nil|(apply Pb.cons;(·apply Nb.box rfl;(repeat(first|exact Ncs.nil rfl|(apply Ncs.cons rfl;(·(exact .d rfl)))))))|apply Pb.skip)))
   refine jbb [3, 6, 8, 26, 27, 30, 31, 32, 36, 37] [1, 14, 15, 16, 17, 18, 19, 20, 3025, 6, 3045, 11, 46, 3055] (fun (g : Nat × Int) => [(38, iN g.1), (4, iZ g.2)]) (fun _ => []) (fun g => g.1 ≤ 6 ∧ g.2 = tripK ll (((0 * 6 + a) * 6 + g.1) * 64)) (fun g => 6 - g.1) ((0, v)) ?_ (by (repeat(first|exact trivial|refine ⟨(by rfl), ?_⟩))) (by (repeat(exact trivial))) ?_
   ·exact ⟨by simp, by dsimp only;rw [hv];congr 1;omega⟩
   clear hv
   rintro ⟨b, v⟩ ⟨hb, hv⟩
   dsimp only at hb hv ⊢
   by_cases hb2 : b < 6
   ·have ag := again_p n ll (atZ OL (a : Int)) (atZ OL (b : Int)) hB (ho a ha2) (ho b hb2)
    rw [← hb0 a b] at ag
    have hX2 := hX a b ha2 hb2
    have hK2 := fun c hc => hK a b c ha2 hb2 hc
    have hV2 := hV a b
    clear hX hK hV
    generalize becL ll 0 a b = BL at *
    repeat' (first|refine zaa ?_|refine zae ?_|refine zab ?_|refine zac ?_|(refine jaa (.alloc 26) ?_;refine jav (zs := [.int .i64 0, .int .i64 0, .int .i64 0, .slice none 0 0]) (by kernel_rfl) rfl ?_)|(refine jaa (.store 26 _ _) ?_;(refine jah rfl rfl rfl (by kernel_rfl) rfl rfl ?_))|refine zau ?_|refine zam ?_|refine zaq ?_|refine zad ?_|(refine jaa (.call ⟨.value (.func 121), _, _⟩) ?_;((apply jag (fid := 121);(·(repeat(first|exact SeA.nil|apply SeA.cons (.c (.d _))|(apply SeA.cons;(·(apply SeP.g;(repeat(first|exact SeL.nil|apply SeL.cons (.d _)))))))));(·exact ag);(·rfl))))|(refine jaa (.call ⟨.value (.func 122), _, _⟩) ?_;((apply jag (fid := 122);(·(repeat(first|exact SeA.nil|apply SeA.cons (.c (.d _)))));(·exact pp);(·rfl))))|refine jaj ?_|refine jak ?_|refine jai ?_|refine jaz ?_|refine jar rfl ?_|refine jan ?_|refine jab ?_|refine jbi rfl (fun hc => ?_) (fun hc => ?_))
    all_goals first|(exfalso;omega)|skip
    apply jay [3, 4, 6, 8, 11, 26, 27, 30, 31, 32, 36, 37, 38, 46, 47, 48] [1, 6, 11, 14, 15, 16, 17, 18, 19, 20, 46, 3025, 3045, 3055] rfl;(·(repeat(first|exact Pf.nil|apply Pf.cons (.c rfl (.d rfl))|apply Pf.cons (.c rfl (.lp rfl))|(apply Pf.cons;(·apply Nv.g rfl;(repeat(first|exact Ncs.nil rfl|(apply Ncs.cons rfl;(·(exact .d rfl))))))))));(·(repeat(first|exact Pb.nil|(apply Pb.cons;(·apply Nb.box rfl;(repeat(first|exact Ncs.nil rfl|(apply Ncs.cons rfl;(·(exact .d rfl)))))))|apply Pb.skip)))
    refine jbb [3, 6, 8, 11, 26, 27, 30, 31, 32, 36, 37, 38, 46, 47] [1, 14, 15, 16, 17, 18, 19, 20, 3025, 6, 3045, 11, 46, 3055] (fun (g : Nat × Int) => [(48, iN g.1), (4, iZ g.2)]) (fun _ => []) (fun g => g.1 ≤ 64 ∧ g.2 = tripK ll (((0 * 6 + a) * 6 + b) * 64 + g.1)) (fun g => 64 - g.1) ((0, v)) ?_ (by (repeat(first|exact trivial|refine ⟨(by rfl), ?_⟩))) (by (repeat(exact trivial))) ?_
    ·exact ⟨by simp, by dsimp only;rw [hv];congr 1⟩
    clear hv
    rintro ⟨c, v⟩ ⟨hc2, hv⟩
    dsimp only at hc2 hv ⊢
    by_cases hc3 : c < 64
    ·have fl := flipped_p 3 3 n BL (atZ PL (c : Int)) hX2 (by rw [pa c hc3];exact jee 6 c)
     have tr := triple_p n (bflL BL 3 3 (atZ PL (c : Int))) (jkj (x := 3) (y := 3) hX2 (by rw [pa c hc3];exact jee 6 c))
     have hk := hK2 c hc3
     rw [← hv, hV2 c, ← pa c hc3] at hk
     generalize bflL BL 3 3 (atZ PL (c : Int)) = FL at *
     generalize tripI FL = z at *
     clear hK2 hV2
     repeat' (first|refine zaa ?_|refine zae ?_|refine zab ?_|refine zac ?_|refine zam ?_|refine zaq ?_|refine zcm ?_|refine zad ?_|(refine jaa (.call ⟨.value (.func 119), _, _⟩) ?_;((apply jag (fid := 119);(·(repeat(first|exact SeA.nil|(apply SeA.cons;(·(apply SeP.g;(repeat(first|exact SeL.nil|apply SeL.cons (.d _)))))))));(·exact tr);(·rfl))))|(refine jaa (.call ⟨.value (.func 123), _, _⟩) ?_;((apply jag (fid := 123);(·(repeat(first|exact SeA.nil|apply SeA.cons (.c (.d _))|(apply SeA.cons;(·(apply SeP.g;(repeat(first|exact SeL.nil|apply SeL.cons (.d _)))))))));(·exact fl);(·rfl))))|refine jaj ?_|refine jak ?_|refine jai ?_|refine jaz ?_|refine jar rfl ?_|refine jan ?_|refine jab ?_|refine jbi rfl (fun hc => ?_) (fun hc => ?_))
     all_goals first|(exfalso;omega)|skip
     refine jba ?_;refine ⟨(c + 1, max v z), ?_, ?_, jbx rfl (by (repeat(first|exact trivial|refine ⟨(by rfl), ?_⟩))) (by (repeat(first|exact trivial|refine ⟨rfl, ?_⟩))) (by (repeat(exact trivial))) (by (repeat(first|exact trivial|refine ⟨.inr rfl, ?_⟩)))⟩
     ·exact ⟨by dsimp only;omega, by dsimp only;rw [← hk, Nat.add_assoc]⟩
     ·dsimp only; omega
    ·repeat' (first|refine zaa ?_|refine zae ?_|refine zab ?_|refine zac ?_|refine zam ?_|refine zaq ?_|refine zad ?_|refine jaj ?_|refine jak ?_|refine jai ?_|refine jaz ?_|refine jar rfl ?_|refine jan ?_|refine jab ?_|refine jbi rfl (fun hc => ?_) (fun hc => ?_))
     all_goals first|(exfalso;omega)|skip
     refine jba ?_;refine ⟨(b + 1, v), ?_, ?_, jbx rfl (by (repeat(first|exact trivial|refine ⟨(by rfl), ?_⟩))) (by (repeat(first|exact trivial|refine ⟨rfl, ?_⟩))) (by (repeat(exact trivial))) (by (repeat(first|exact trivial|refine ⟨.inr rfl, ?_⟩|refine ⟨.inl rfl, ?_⟩)))⟩
     ·exact ⟨by dsimp only;omega, by dsimp only;rw [hv];congr 1;omega⟩
     ·dsimp only; omega
   ·repeat' (first|refine zaa ?_|refine zae ?_|refine zab ?_|refine zac ?_|refine zam ?_|refine zaq ?_|refine zad ?_|refine jaj ?_|refine jak ?_|refine jai ?_|refine jaz ?_|refine jar rfl ?_|refine jan ?_|refine jab ?_|refine jbi rfl (fun hc => ?_) (fun hc => ?_))
    all_goals first|(exfalso;omega)|skip
    refine jba ?_;refine ⟨(a + 1, v), ?_, ?_, jbx rfl (by (repeat(first|exact trivial|refine ⟨(by rfl), ?_⟩))) (by (repeat(first|exact trivial|refine ⟨rfl, ?_⟩))) (by (repeat(exact trivial))) (by (repeat(first|exact trivial|refine ⟨.inr rfl, ?_⟩)))⟩
    ·exact ⟨by dsimp only;omega, by dsimp only;rw [hv];congr 1;omega⟩
    ·dsimp only; omega
  ·repeat' (first|refine zaa ?_|refine zab ?_|refine zac ?_|refine zau ?_|refine zam ?_|refine zaq ?_|refine zad ?_|refine jaj ?_|refine jak ?_|refine jai ?_|refine jaz ?_|refine jar rfl ?_|refine jan ?_|refine jab ?_|refine jbi rfl (fun hc => ?_) (fun hc => ?_))
   all_goals first|(exfalso;omega)|skip
   refine jba ?_;refine ⟨(0 + 1, v), ?_, ?_, jbx rfl (by (repeat(first|exact trivial|refine ⟨(by rfl), ?_⟩))) (by (repeat(first|exact trivial|refine ⟨rfl, ?_⟩))) (by (repeat(exact trivial))) (by (repeat(first|exact trivial|refine ⟨.inr rfl, ?_⟩|refine ⟨.inl rfl, ?_⟩)))⟩
   ·exact ⟨by dsimp only;omega, by dsimp only;rw [hv];congr 1;omega⟩
   ·dsimp only; omega
 ·have hB : boxB 3 3 n (swapL ll 3 3) = true := hsw
  have hX := fun a b ha hb => hbc 1 a b ha hb
  have hK := fun a b c ha hb hc => ks 1 a b c ha hb hc
  have hV := fun a b c => bv 1 a b c
  clear hbc ks bv s0 s1 hs
  repeat' (first|refine zab ?_|refine zac ?_|(refine jaa (.index 152 _ _) ?_;((refine jac (jib (n := 2) (m := 4) rfl rfl (by kernel_rfl) (by omega) (by omega) (by kernel_rfl)) rfl ?_)))|(refine jaa (.alloc 26) ?_;refine jav (zs := [.int .i64 0, .int .i64 0, .int .i64 0, .slice none 0 0]) (by kernel_rfl) rfl ?_)|(refine jaa (.store 26 _ _) ?_;(refine jah rfl rfl rfl (by kernel_rfl) rfl rfl ?_))|refine zau ?_|refine jaj ?_|refine jak ?_|refine jai ?_|refine jan ?_|refine jab ?_|refine jbk rfl ?_)
  all_goals first|(exfalso;omega)|skip
  apply jay [3, 4, 6, 26, 27, 30, 31, 32] [1, 6, 11, 14, 15, 16, 17, 18, 19, 20, 46, 3025, 3045, 3055] rfl;(·(repeat(first|exact Pf.nil|apply Pf.cons (.c rfl (.d rfl))|apply Pf.cons (.c rfl (.lp rfl))|(apply Pf.cons;(·apply Nv.g rfl;(repeat(first|exact Ncs.nil rfl|(apply Ncs.cons rfl;(·(exact .d rfl))))))))));(·(repeat(first|exact Pb.nil|(apply Pb.cons;(·apply Nb.box rfl;(repeat(first|exact Ncs.nil rfl|(apply Ncs.cons rfl;(·(exact .d rfl)))))))|apply Pb.skip)))
  refine jbb [3, 6, 26, 27, 30, 31] [1, 14, 15, 16, 17, 18, 19, 20, 3025, 6, 3045, 11, 46, 3055] (fun (g : Nat × Int) => [(32, iN g.1), (4, iZ g.2)]) (fun _ => []) (fun g => g.1 ≤ 6 ∧ g.2 = tripK ll ((1 * 6 + g.1) * 384)) (fun g => 6 - g.1) ((0, v)) ?_ (by (repeat(first|exact trivial|refine ⟨(by rfl), ?_⟩))) (by (repeat(exact trivial))) ?_
  ·exact ⟨by simp, by dsimp only;rw [hv]⟩
  clear hv
  rintro ⟨a, v⟩ ⟨ha, hv⟩
  dsimp only at ha hv ⊢
  by_cases ha2 : a < 6
  ·repeat' (first|refine zaa ?_|refine zab ?_|refine zac ?_|refine zau ?_|refine zam ?_|refine zaq ?_|refine zad ?_|refine jaj ?_|refine jak ?_|refine jai ?_|refine jaz ?_|refine jar rfl ?_|refine jan ?_|refine jab ?_|refine jbi rfl (fun hc => ?_) (fun hc => ?_))
   all_goals first|(exfalso;omega)|skip
   apply jay [3, 4, 6, 8, 26, 27, 30, 31, 32, 36, 37, 38] [1, 6, 11, 14, 15, 16, 17, 18, 19, 20, 46, 3025, 3045, 3055] rfl;(·(repeat(first|exact Pf.nil|apply Pf.cons (.c rfl (.d rfl))|apply Pf.cons (.c rfl (.lp rfl))|(apply Pf.cons;(·apply Nv.g rfl;(repeat(first|exact Ncs.nil rfl|(apply Ncs.cons rfl;(·(exact .d rfl))))))))));(·(repeat(first|exact Pb.nil|(apply Pb.cons;(·apply Nb.box rfl;(repeat(first|exact Ncs.nil rfl|(apply Ncs.cons rfl;(·(exact .d rfl)))))))|apply Pb.skip)))
   refine jbb [3, 6, 8, 26, 27, 30, 31, 32, 36, 37] [1, 14, 15, 16, 17, 18, 19, 20, 3025, 6, 3045, 11, 46, 3055] (fun (g : Nat × Int) => [(38, iN g.1), (4, iZ g.2)]) (fun _ => []) (fun g => g.1 ≤ 6 ∧ g.2 = tripK ll (((1 * 6 + a) * 6 + g.1) * 64)) (fun g => 6 - g.1) ((0, v)) ?_ (by (repeat(first|exact trivial|refine ⟨(by rfl), ?_⟩))) (by (repeat(exact trivial))) ?_
   ·exact ⟨by simp, by dsimp only;rw [hv];congr 1;omega⟩
   clear hv
   rintro ⟨b, v⟩ ⟨hb, hv⟩
   dsimp only at hb hv ⊢
   by_cases hb2 : b < 6
   ·have ag := again_p n (swapL ll 3 3) (atZ OL (a : Int)) (atZ OL (b : Int)) hB (ho a ha2) (ho b hb2)
    rw [← hb1 a b] at ag
    have hX2 := hX a b ha2 hb2
    have hK2 := fun c hc => hK a b c ha2 hb2 hc
    have hV2 := hV a b
    clear hX hK hV
    generalize becL ll 1 a b = BL at *
    repeat' (first|refine zaa ?_|refine zae ?_|refine zab ?_|refine zac ?_|(refine jaa (.alloc 26) ?_;refine jav (zs := [.int .i64 0, .int .i64 0, .int .i64 0, .slice none 0 0]) (by kernel_rfl) rfl ?_)|(refine jaa (.store 26 _ _) ?_;(refine jah rfl rfl rfl (by kernel_rfl) rfl rfl ?_))|refine zau ?_|refine zam ?_|refine zaq ?_|refine zad ?_|(refine jaa (.call ⟨.value (.func 121), _, _⟩) ?_;((apply jag (fid := 121);(·(repeat(first|exact SeA.nil|apply SeA.cons (.c (.d _))|(apply SeA.cons;(·(apply SeP.g;(repeat(first|exact SeL.nil|apply SeL.cons (.d _)))))))));(·exact ag);(·rfl))))|(refine jaa (.call ⟨.value (.func 122), _, _⟩) ?_;((apply jag (fid := 122);(·(repeat(first|exact SeA.nil|apply SeA.cons (.c (.d _)))));(·exact pp);(·rfl))))|refine jaj ?_|refine jak ?_|refine jai ?_|refine jaz ?_|refine jar rfl ?_|refine jan ?_|refine jab ?_|refine jbi rfl (fun hc => ?_) (fun hc => ?_))
    all_goals first|(exfalso;omega)|skip
    apply jay [3, 4, 6, 8, 11, 26, 27, 30, 31, 32, 36, 37, 38, 46, 47, 48] [1, 6, 11, 14, 15, 16, 17, 18, 19, 20, 46, 3025, 3045, 3055] rfl;(·(repeat(first|exact Pf.nil|apply Pf.cons (.c rfl (.d rfl))|apply Pf.cons (.c rfl (.lp rfl))|(apply Pf.cons;(·apply Nv.g rfl;(repeat(first|exact Ncs.nil rfl|(apply Ncs.cons rfl;(·(exact .d rfl))))))))));(·(repeat(first|exact Pb.nil|(apply Pb.cons;(·apply Nb.box rfl;(repeat(first|exact Ncs.nil rfl|(apply Ncs.cons rfl;(·(exact .d rfl)))))))|apply Pb.skip)))
    refine jbb [3, 6, 8, 11, 26, 27, 30, 31, 32, 36, 37, 38, 46, 47] [1, 14, 15, 16, 17, 18, 19, 20, 3025, 6, 3045, 11, 46, 3055] (fun (g : Nat × Int) => [(48, iN g.1), (4, iZ g.2)]) (fun _ => []) (fun g => g.1 ≤ 64 ∧ g.2 = tripK ll (((1 * 6 + a) * 6 + b) * 64 + g.1)) (fun g => 64 - g.1) ((0, v)) ?_ (by (repeat(first|exact trivial|refine ⟨(by rfl), ?_⟩))) (by (repeat(exact trivial))) ?_
    ·exact ⟨by simp, by dsimp only;rw [hv];congr 1⟩
    clear hv
    rintro ⟨c, v⟩ ⟨hc2, hv⟩
    dsimp only at hc2 hv ⊢
    by_cases hc3 : c < 64
    ·have fl := flipped_p 3 3 n BL (atZ PL (c : Int)) hX2 (by rw [pa c hc3];exact jee 6 c)
     have tr := triple_p n (bflL BL 3 3 (atZ PL (c : Int))) (jkj (x := 3) (y := 3) hX2 (by rw [pa c hc3];exact jee 6 c))
     have hk := hK2 c hc3
     rw [← hv, hV2 c, ← pa c hc3] at hk
     generalize bflL BL 3 3 (atZ PL (c : Int)) = FL at *
     generalize tripI FL = z at *
     clear hK2 hV2
     repeat' (first|refine zaa ?_|refine zae ?_|refine zab ?_|refine zac ?_|refine zam ?_|refine zaq ?_|refine zcm ?_|refine zad ?_|(refine jaa (.call ⟨.value (.func 119), _, _⟩) ?_;((apply jag (fid := 119);(·(repeat(first|exact SeA.nil|(apply SeA.cons;(·(apply SeP.g;(repeat(first|exact SeL.nil|apply SeL.cons (.d _)))))))));(·exact tr);(·rfl))))|(refine jaa (.call ⟨.value (.func 123), _, _⟩) ?_;((apply jag (fid := 123);(·(repeat(first|exact SeA.nil|apply SeA.cons (.c (.d _))|(apply SeA.cons;(·(apply SeP.g;(repeat(first|exact SeL.nil|apply SeL.cons (.d _)))))))));(·exact fl);(·rfl))))|refine jaj ?_|refine jak ?_|refine jai ?_|refine jaz ?_|refine jar rfl ?_|refine jan ?_|refine jab ?_|refine jbi rfl (fun hc => ?_) (fun hc => ?_))
     all_goals first|(exfalso;omega)|skip
     refine jba ?_;refine ⟨(c + 1, max v z), ?_, ?_, jbx rfl (by (repeat(first|exact trivial|refine ⟨(by rfl), ?_⟩))) (by (repeat(first|exact trivial|refine ⟨rfl, ?_⟩))) (by (repeat(exact trivial))) (by (repeat(first|exact trivial|refine ⟨.inr rfl, ?_⟩)))⟩
     ·exact ⟨by dsimp only;omega, by dsimp only;rw [← hk, Nat.add_assoc]⟩
     ·dsimp only; omega
    ·repeat' (first|refine zaa ?_|refine zae ?_|refine zab ?_|refine zac ?_|refine zam ?_|refine zaq ?_|refine zad ?_|refine jaj ?_|refine jak ?_|refine jai ?_|refine jaz ?_|refine jar rfl ?_|refine jan ?_|refine jab ?_|refine jbi rfl (fun hc => ?_) (fun hc => ?_))
     all_goals first|(exfalso;omega)|skip
     refine jba ?_;refine ⟨(b + 1, v), ?_, ?_, jbx rfl (by (repeat(first|exact trivial|refine ⟨(by rfl), ?_⟩))) (by (repeat(first|exact trivial|refine ⟨rfl, ?_⟩))) (by (repeat(exact trivial))) (by (repeat(first|exact trivial|refine ⟨.inr rfl, ?_⟩|refine ⟨.inl rfl, ?_⟩)))⟩
     ·exact ⟨by dsimp only;omega, by dsimp only;rw [hv];congr 1;omega⟩
     ·dsimp only; omega
   ·repeat' (first|refine zaa ?_|refine zae ?_|refine zab ?_|refine zac ?_|refine zam ?_|refine zaq ?_|refine zad ?_|refine jaj ?_|refine jak ?_|refine jai ?_|refine jaz ?_|refine jar rfl ?_|refine jan ?_|refine jab ?_|refine jbi rfl (fun hc => ?_) (fun hc => ?_))
    all_goals first|(exfalso;omega)|skip
    refine jba ?_;refine ⟨(a + 1, v), ?_, ?_, jbx rfl (by (repeat(first|exact trivial|refine ⟨(by rfl), ?_⟩))) (by (repeat(first|exact trivial|refine ⟨rfl, ?_⟩))) (by (repeat(exact trivial))) (by (repeat(first|exact trivial|refine ⟨.inr rfl, ?_⟩)))⟩
    ·exact ⟨by dsimp only;omega, by dsimp only;rw [hv];congr 1;omega⟩
    ·dsimp only; omega
  ·repeat' (first|refine zaa ?_|refine zab ?_|refine zac ?_|refine zau ?_|refine zam ?_|refine zaq ?_|refine zad ?_|refine jaj ?_|refine jak ?_|refine jai ?_|refine jaz ?_|refine jar rfl ?_|refine jan ?_|refine jab ?_|refine jbi rfl (fun hc => ?_) (fun hc => ?_))
   all_goals first|(exfalso;omega)|skip
   refine jba ?_;refine ⟨(1 + 1, v), ?_, ?_, jbx rfl (by (repeat(first|exact trivial|refine ⟨(by rfl), ?_⟩))) (by (repeat(first|exact trivial|refine ⟨rfl, ?_⟩))) (by (repeat(exact trivial))) (by (repeat(first|exact trivial|refine ⟨.inr rfl, ?_⟩|refine ⟨.inl rfl, ?_⟩)))⟩
   ·exact ⟨by dsimp only;omega, by dsimp only;rw [hv];congr 1;omega⟩
   ·dsimp only; omega
 ·repeat' (first|refine zaa ?_|refine zab ?_|refine zac ?_|refine jaj ?_|refine jak ?_|refine jar rfl ?_|refine jab ?_|refine jbj rfl ?_)
  all_goals first|(exfalso;omega)|skip
  all_goals (apply jat;apply jau;(·apply jbc.p;(·(apply GvA.cons;(·exact .tmp _);(·exact GvP.c (.lit _)));exact GvA.nil);(·decide)))
  all_goals rw [hv, tm]
theorem isLocal_p (X Y : Nat) (n : Int) (ll : List (List Int)) (h : boxB X Y n ll = true) : PC Tryz.prog 27 [.g [dI X, dI Y, dI n, eII ll]] (.p (.c (dB (localB ll X Y n)))) := by
 have q := isQuietG_p X Y n ll h
 have g := greatest_p X Y n ll h
 have t := isTriple_p X Y n ll h
 have gb := jlg h
 have b := jbp h
 have n2 := b.n2
 have n1 := b.n1
 clear b
 have gt : X = 3 → Y = 3 → PC Tryz.prog 75 [.g [dI X, dI Y, dI n, eII ll]] (.p (.c (dI (tripM ll)))) := fun hx hy => by subst hx hy;exact greatestTriple_p n ll h
 unfold localB
 generalize quietG ll X Y = Q at *
 generalize greatI ll X Y = G at *
 generalize tripM ll = M at *
 cases Q with
 | false =>
  refine jaq Tryz.func27 rfl rfl rfl (by kernel_rfl) rfl rfl ?_;intro _
  repeat' (first|(refine jaa (.box 26 _) ?_;refine jbh rfl rfl ?_)|refine zaa ?_|refine zae ?_|(refine jaa (.move _) ?_;(first|refine jac (jal rfl) rfl ?_|refine jac (jcg rfl) rfl ?_))|refine zak ?_|(refine jaa (.alloc 69) ?_;refine jav (zs := [.int .i64 0, .int .i64 0]) (by kernel_rfl) rfl ?_)|(refine jaa (.store 69 _ _) ?_;(refine jah rfl rfl rfl (by kernel_rfl) rfl rfl ?_))|refine zag ?_|(refine jaa (.call ⟨.value (.func 26), _, _⟩) ?_;((apply jdp (fid := 26);(·(repeat(first|exact SeA.nil|(apply SeA.cons;(·(apply SeP.g;(repeat(first|exact SeL.nil|apply SeL.cons (.d _)))))))));(·exact g);(·rfl);(rintro _ ⟨a, b, c, d, e, f, rfl⟩))))|(refine jaa (.call ⟨.value (.func 73), _, _⟩) ?_;((apply jag (fid := 73);(·(repeat(first|exact SeA.nil|(apply SeA.cons;(·(apply SeP.g;(repeat(first|exact SeL.nil|apply SeL.cons (.d _)))))))));(·exact q);(·rfl))))|refine jaj ?_|refine jgs rfl rfl rfl rfl rfl ?_|refine jbn rfl rfl rfl rfl ?_|refine jak ?_|refine jab ?_)
  all_goals first|(exfalso;omega)|(exfalso;simp_all;done)|skip
  all_goals (apply jat;apply jau;(·apply jbc.p;(·(apply GvA.cons;(·exact .tmp _);(·exact GvP.c (.lit _)));exact GvA.nil);(·decide)))
  all_goals rfl
 | true =>
  by_cases hg : G ≤ 2 * n
  ·by_cases h3 : X = 3 ∧ Y = 3
   ·have gt := gt h3.1 h3.2
    have e : (true && (decide (G ≤ 2 * n) && (!decide (X = 3 ∧ Y = 3) || decide (M ≤ 0)))) = decide (M ≤ 0) := by simp [hg, h3]
    have e3 : (true && decide (X = 3 ∧ Y = 3)) = true := by simp [h3]
    rw [e]
    rw [e3] at t
    refine jaq Tryz.func27 rfl rfl rfl (by kernel_rfl) rfl rfl ?_;intro _
    repeat' (first|(refine jaa (.box 26 _) ?_;refine jbh rfl rfl ?_)|refine zaa ?_|refine zae ?_|(refine jaa (.move _) ?_;(first|refine jac (jal rfl) rfl ?_|refine jac (jcg rfl) rfl ?_))|refine zak ?_|(refine jaa (.alloc 69) ?_;refine jav (zs := [.int .i64 0, .int .i64 0]) (by kernel_rfl) rfl ?_)|(refine jaa (.store 69 _ _) ?_;(refine jah rfl rfl rfl (by kernel_rfl) rfl rfl ?_))|refine zbb ?_|refine zaf ?_|refine zba ?_|refine zbn ?_|refine zag ?_|refine zah ?_|(refine jaa (.call ⟨.value (.func 26), _, _⟩) ?_;((apply jdp (fid := 26);(·(repeat(first|exact SeA.nil|(apply SeA.cons;(·(apply SeP.g;(repeat(first|exact SeL.nil|apply SeL.cons (.d _)))))))));(·exact g);(·rfl);(rintro _ ⟨a, b, c, d, e, f, rfl⟩))))|(refine jaa (.call ⟨.value (.func 73), _, _⟩) ?_;((apply jag (fid := 73);(·(repeat(first|exact SeA.nil|(apply SeA.cons;(·(apply SeP.g;(repeat(first|exact SeL.nil|apply SeL.cons (.d _)))))))));(·exact q);(·rfl))))|(refine jaa (.call ⟨.value (.func 74), _, _⟩) ?_;((apply jag (fid := 74);(·(repeat(first|exact SeA.nil|(apply SeA.cons;(·(apply SeP.g;(repeat(first|exact SeL.nil|apply SeL.cons (.d _)))))))));(·exact t);(·rfl))))|(refine jaa (.call ⟨.value (.func 75), _, _⟩) ?_;((apply jag (fid := 75);(·(repeat(first|exact SeA.nil|(apply SeA.cons;(·(apply SeP.g;(repeat(first|exact SeL.nil|apply SeL.cons (.d _)))))))));(·exact gt);(·rfl))))|refine jaj ?_|refine jgs rfl rfl rfl rfl rfl ?_|refine jbn rfl rfl rfl rfl ?_|refine jbg rfl rfl rfl rfl ?_|refine jca rfl rfl (fun hg => ?_) (fun hg => ?_)|refine jak ?_|refine jab ?_)
    all_goals first|(exfalso;omega)|(exfalso;simp_all;done)|skip
    all_goals (apply jat;apply jau;(·apply jbc.p;(·(apply GvA.cons;(·exact .tmp _);(·exact GvP.c (.lit _)));exact GvA.nil);(·decide)))
    all_goals simp
   ·have e : (true && (decide (G ≤ 2 * n) && (!decide (X = 3 ∧ Y = 3) || decide (M ≤ 0)))) = true := by simp [hg, h3]
    have e3 : (true && decide (X = 3 ∧ Y = 3)) = false := by simp [h3]
    rw [e]
    rw [e3] at t
    clear gt
    refine jaq Tryz.func27 rfl rfl rfl (by kernel_rfl) rfl rfl ?_;intro _
    repeat' (first|(refine jaa (.box 26 _) ?_;refine jbh rfl rfl ?_)|refine zaa ?_|refine zae ?_|(refine jaa (.move _) ?_;(first|refine jac (jal rfl) rfl ?_|refine jac (jcg rfl) rfl ?_))|refine zak ?_|(refine jaa (.alloc 69) ?_;refine jav (zs := [.int .i64 0, .int .i64 0]) (by kernel_rfl) rfl ?_)|(refine jaa (.store 69 _ _) ?_;(refine jah rfl rfl rfl (by kernel_rfl) rfl rfl ?_))|refine zbb ?_|refine zaf ?_|refine zba ?_|refine zbn ?_|refine zag ?_|refine zah ?_|(refine jaa (.call ⟨.value (.func 26), _, _⟩) ?_;((apply jdp (fid := 26);(·(repeat(first|exact SeA.nil|(apply SeA.cons;(·(apply SeP.g;(repeat(first|exact SeL.nil|apply SeL.cons (.d _)))))))));(·exact g);(·rfl);(rintro _ ⟨a, b, c, d, e, f, rfl⟩))))|(refine jaa (.call ⟨.value (.func 73), _, _⟩) ?_;((apply jag (fid := 73);(·(repeat(first|exact SeA.nil|(apply SeA.cons;(·(apply SeP.g;(repeat(first|exact SeL.nil|apply SeL.cons (.d _)))))))));(·exact q);(·rfl))))|(refine jaa (.call ⟨.value (.func 74), _, _⟩) ?_;((apply jag (fid := 74);(·(repeat(first|exact SeA.nil|(apply SeA.cons;(·(apply SeP.g;(repeat(first|exact SeL.nil|apply SeL.cons (.d _)))))))));(·exact t);(·rfl))))|refine jaj ?_|refine jgs rfl rfl rfl rfl rfl ?_|refine jbn rfl rfl rfl rfl ?_|refine jbg rfl rfl rfl rfl ?_|refine jca rfl rfl (fun hg => ?_) (fun hg => ?_)|refine jak ?_|refine jab ?_)
    all_goals first|(exfalso;omega)|(exfalso;simp_all;done)|skip
    all_goals (apply jat;apply jau;(·apply jbc.p;(·(apply GvA.cons;(·exact .tmp _);(·exact GvP.c (.lit _)));exact GvA.nil);(·decide)))
    all_goals simp [hg]
  ·have e : (true && (decide (G ≤ 2 * n) && (!decide (X = 3 ∧ Y = 3) || decide (M ≤ 0)))) = false := by simp [hg]
   rw [e]
   clear gt
   refine jaq Tryz.func27 rfl rfl rfl (by kernel_rfl) rfl rfl ?_;intro _
   repeat' (first|(refine jaa (.box 26 _) ?_;refine jbh rfl rfl ?_)|refine zaa ?_|refine zae ?_|(refine jaa (.move _) ?_;(first|refine jac (jal rfl) rfl ?_|refine jac (jcg rfl) rfl ?_))|refine zak ?_|(refine jaa (.alloc 69) ?_;refine jav (zs := [.int .i64 0, .int .i64 0]) (by kernel_rfl) rfl ?_)|(refine jaa (.store 69 _ _) ?_;(refine jah rfl rfl rfl (by kernel_rfl) rfl rfl ?_))|refine zbb ?_|refine zaf ?_|refine zba ?_|refine zbn ?_|refine zag ?_|refine zah ?_|(refine jaa (.call ⟨.value (.func 26), _, _⟩) ?_;((apply jdp (fid := 26);(·(repeat(first|exact SeA.nil|(apply SeA.cons;(·(apply SeP.g;(repeat(first|exact SeL.nil|apply SeL.cons (.d _)))))))));(·exact g);(·rfl);(rintro _ ⟨a, b, c, d, e, f, rfl⟩))))|(refine jaa (.call ⟨.value (.func 73), _, _⟩) ?_;((apply jag (fid := 73);(·(repeat(first|exact SeA.nil|(apply SeA.cons;(·(apply SeP.g;(repeat(first|exact SeL.nil|apply SeL.cons (.d _)))))))));(·exact q);(·rfl))))|(refine jaa (.call ⟨.value (.func 74), _, _⟩) ?_;((apply jag (fid := 74);(·(repeat(first|exact SeA.nil|(apply SeA.cons;(·(apply SeP.g;(repeat(first|exact SeL.nil|apply SeL.cons (.d _)))))))));(·exact t);(·rfl))))|refine jaj ?_|refine jgs rfl rfl rfl rfl rfl ?_|refine jbn rfl rfl rfl rfl ?_|refine jbg rfl rfl rfl rfl ?_|refine jca rfl rfl (fun hg => ?_) (fun hg => ?_)|refine jcq rfl rfl (fun hg => ?_) (fun hg => ?_)|refine jak ?_|refine jab ?_)
   all_goals first|(exfalso;omega)|(exfalso;simp_all;done)|skip
   all_goals (apply jat;apply jau;(·apply jbc.p;(·(apply GvA.cons;(·exact .tmp _);(·exact GvP.c (.lit _)));exact GvA.nil);(·decide)))
   all_goals simp [hg]
theorem IsLocal_p (X Y : Nat) (n : Int) (ll : List (List Int)) (h : boxB X Y n ll = true) : PC Tryz.prog 10 [.g [dI X, dI Y, dI n, eII ll]] (.t [.c (dB (localB ll X Y n)), .c (dB true)]) := by
 have w := IsBox_p X Y n ll
 rw [h] at w
 refine jaq Tryz.func10 rfl rfl rfl (by kernel_rfl) rfl rfl ?_;intro _
 repeat' (first|(refine jaa (.box 26 _) ?_;refine jbh rfl rfl ?_)|refine zaa ?_|refine zae ?_|refine zah ?_|(refine jaa (.call ⟨.value (.func 25), _, _⟩) ?_;(apply jag (fid := 25);(·(repeat(first|exact SeA.nil|(apply SeA.cons;(·(apply SeP.g;(repeat(first|exact SeL.nil|apply SeL.cons (.d _)))))))));(·exact w);(·rfl)))|(refine jaa (.call ⟨.value (.func 27), _, _⟩) ?_;((apply jag (fid := 27);(·(repeat(first|exact SeA.nil|(apply SeA.cons;(·(apply SeP.g;(repeat(first|exact SeL.nil|apply SeL.cons (.d _)))))))));(·exact isLocal_p X Y n ll h);(·rfl))))|refine jaj ?_|refine jak ?_|refine jan ?_|refine jab ?_|refine jbj rfl ?_)
 all_goals first|(exfalso;simp_all;done)|skip
 all_goals (apply jat;apply jau;(·apply jbc.t;(·(apply GvA.cons;(·exact .tmp _);(·exact GvP.c (.lit _)));(apply GvA.cons;(·exact .tmp _);(·exact GvP.c (.lit _)));exact GvA.nil);(·rfl);(·decide)))
 all_goals rfl
abbrev dU (n : Int) : D := .lit (.int .u64 n)
end Go.Proofs.YteaeoaeogehaaaaGreatDoor
namespace Go.Proofs.YteaeoaeogehaaaaGreatDoor
open Go.RowKit
theorem jeq (a : Nat) : BitVec.ofInt 64 (a : Int) = BitVec.ofNat 64 a := by simp
end Go.Proofs.YteaeoaeogehaaaaGreatDoor
namespace Go.Proofs.YteaeoaeogehaaaaGreatDoor
open Go.RowKit
variable [Glb]
abbrev cW (l : List Nat) : List D := l.map fun n : Nat => dU (n : Int)
abbrev eW (l : List Nat) : D := .sl 1 l.length (cW l)
section
variable {P : Program} {st : St} {dst : Option Tmp} {ty : TypeId} {pos : String} {af : Array Edge} {x y : Operand}
theorem qt_idxW {T : TypeId} {l : List Nat} {k : IntKind} {i : Int} (hx : st.ev x = .c (.d (eW l))) (hy : st.ev y = .c (.d (.lit (.int k i)))) (ht : tSl P T 1 = true) (h0 : 0 ≤ i) (h1 : i < l.length) : Qt P ⟨dst, .indexAddr T x y, ty, pos, af, none⟩ st (.c (.d (.pt [dU ((atZ l i : Nat) : Int)]))) :=
 jic hx hy ht h0 h1 (jlb (jez h0 h1))
theorem wrapW {n : Nat} (h : n < 18446744073709551616) : IntKind.u64.wrap (n : Int) = n := jhn ⟨by omega, by omega⟩
theorem borU_nat (a b : Nat) (ha : a < 4096) (hb : b < 4096) : bits .or .u64 (a : Int) (b : Int) = ((a ||| b : Nat) : Int) := by
 have e : bits .or .u64 (a : Int) (b : Int) = IntKind.u64.wrap (((BitVec.ofInt 64 (a : Int) ||| BitVec.ofInt 64 (b : Int)).toNat : Nat) : Int) := rfl
 have o := or12 ha hb
 rw [e, jeq, jeq, BitVec.toNat_or, BitVec.toNat_ofNat, BitVec.toNat_ofNat, Nat.mod_eq_of_lt (by omega), Nat.mod_eq_of_lt (by omega)]
 exact wrapW (by omega)
theorem bandU_nat (a b : Nat) (ha : a < 4096) (hb : b < 4096) : bits .and .u64 (a : Int) (b : Int) = ((a &&& b : Nat) : Int) := by
 have e : bits .and .u64 (a : Int) (b : Int) = IntKind.u64.wrap (((BitVec.ofInt 64 (a : Int) &&& BitVec.ofInt 64 (b : Int)).toNat : Nat) : Int) := rfl
 have o : a &&& b ≤ a := Nat.and_le_left
 rw [e, jeq, jeq, BitVec.toNat_and, BitVec.toNat_ofNat, BitVec.toNat_ofNat, Nat.mod_eq_of_lt (by omega), Nat.mod_eq_of_lt (by omega)]
 exact wrapW (by omega)
theorem jnf {T T' : TypeId} {m n : Nat} (hx : st.ev x = .c (.d (dU (m : Int)))) (hy : st.ev y = .c (.d (dU (n : Int)))) (hm : m < 4096) (hn : n < 4096) : Qt P ⟨dst, .binOp .or T x y T', ty, pos, af, none⟩ st (.c (.d (dU ((m ||| n : Nat) : Int)))) := by
 rw [← borU_nat m n hm hn];exact jdw hx hy (by simp)
theorem qt_andW {T T' : TypeId} {m n : Nat} (hx : st.ev x = .c (.d (dU (m : Int)))) (hy : st.ev y = .c (.d (dU (n : Int)))) (hm : m < 4096) (hn : n < 4096) : Qt P ⟨dst, .binOp .and T x y T', ty, pos, af, none⟩ st (.c (.d (dU ((m &&& n : Nat) : Int)))) := by
 rw [← bandU_nat m n hm hn];exact jdw hx hy (by simp)
theorem jjr {T T' : TypeId} {m : Int} {c : Nat} {n : Int} (M : Nat) (hx : st.ev x = .c (.d (dU m))) (hM : m = (M : Int)) (hy : st.ev y = .c (.d (.lit (.int .i64 n)))) (hn : n = (c : Int)) (hc : c < 12) (hm : M ≤ 1) : Qt P ⟨dst, .binOp .shl T x y T', ty, pos, af, none⟩ st (.c (.d (dU ((M * 2 ^ c : Nat) : Int)))) := by
 subst hM hn
 have e : IntKind.u64.wrap ((M : Int) * 2 ^ (min (c : Int).toNat IntKind.u64.bits)) = ((M * 2 ^ c : Nat) : Int) := by
  have : min (c : Int).toNat IntKind.u64.bits = c := by
   rw [Int.toNat_natCast]
   exact Nat.min_eq_left (by show c ≤ 64;omega)
  rw [this]
  have p := pow12 hc
  have q : M * 2 ^ c < 4096 := by
   rcases (by omega : M = 0 ∨ M = 1) with rfl|rfl
   ·simp
   ·simpa using p
  rw [show (M : Int) * 2 ^ c = ((M * 2 ^ c : Nat) : Int) by simp]
  exact wrapW (by omega)
 rw [← e]
 exact jne hx hy (by omega)
end
theorem setOf_p (ev : Int) (nu : List Int) (h : bitsB nu ev = true) (he : ev ≤ 12) : PC Tryz.prog 31 [.c (eI nu)] (.p (.c (dU ((setK nu nu.length : Nat) : Int)))) := by
 have hl := jce h
 have hb : ∀ j : Nat, j < nu.length → 0 ≤ atZ nu (j : Int) ∧ atZ nu (j : Int) ≤ 1 := fun j hj => jda h (by omega) (by omega)
 refine jaq Tryz.func31 rfl rfl rfl (by kernel_rfl) rfl rfl ?_;intro _
 repeat' (first|refine zaa ?_|refine zab ?_|refine zas ?_|refine jaj ?_|refine jak ?_|refine jai ?_|refine jab ?_)
 apply jay [3, 6, 7, 8] [] rfl;(·(repeat(first|exact Pf.nil|apply Pf.cons (.c rfl (.d rfl)))));(·(repeat(exact Pb.nil)))
 refine jbb [6, 7] [] (fun k => [(8, iN k), (3, .c (.d (dU ((setK nu k : Nat) : Int))))]) (fun _ => []) (fun k => k ≤ nu.length) (fun k => nu.length - k) (0) ?_ (by (repeat(first|exact trivial|refine ⟨(by rfl), ?_⟩))) (by (repeat(exact trivial))) ?_
 ·omega
 intro k hk
 by_cases hk2 : k < nu.length
 ·have b := hb k hk2
  have s := jlv (nu := nu) (k := k) (by omega) fun j hj => hb j (by omega)
  have p := pow12 (e := k) (by omega)
  have q : (atZ nu (k : Int)).toNat * 2 ^ k < 4096 := by
   rcases (by omega : atZ nu (k : Int) = 0 ∨ atZ nu (k : Int) = 1) with e|e <;> rw [e]
   ·simp
   ·simpa using p
  repeat' (first|refine zaa ?_|refine zab ?_|refine zac ?_|refine zao ?_|refine zap ?_|(refine jaa (.convert 3 76 _) ?_;(refine jac (jew (k' := .u64) rfl (by kernel_rfl) (by kernel_rfl) (by (exact jhn (by omega)))) rfl ?_))|(refine jaa (.binOp .shl 76 _ _ _) ?_;((first|refine jac (jjr (c := k) (atZ nu (k : Int)).toNat rfl (by omega) rfl rfl (by omega) (by omega)) rfl ?_|refine jac (jnf rfl rfl s q) rfl ?_)))|(refine jaa (.binOp .or 76 _ _ _) ?_;((first|refine jac (jjr (c := k) (atZ nu (k : Int)).toNat rfl (by omega) rfl rfl (by omega) (by omega)) rfl ?_|refine jac (jnf rfl rfl s q) rfl ?_)))|refine zad ?_|refine jaj ?_|refine jak ?_|refine jai ?_|refine jaz ?_|refine jar rfl ?_|refine jan ?_|refine jab ?_|refine jbi rfl (fun hc => ?_) (fun hc => ?_))
  all_goals first|(exfalso;omega)|skip
  refine jba ?_;refine ⟨k + 1, ?_, ?_, jbx rfl (by (repeat(first|exact trivial|refine ⟨(by rfl), ?_⟩))) (by (repeat(first|exact trivial|refine ⟨rfl, ?_⟩))) (by (repeat(exact trivial))) (by (repeat(exact trivial)))⟩
  ·omega
  ·omega
 ·have e : k = nu.length := by omega
  subst e
  repeat' (first|refine zaa ?_|refine zab ?_|refine zac ?_|refine zao ?_|refine zap ?_|(refine jaa (.convert 3 76 _) ?_;(refine jac (jew (k' := .u64) rfl (by kernel_rfl) (by kernel_rfl) (by (exact jhn (by omega)))) rfl ?_))|(refine jaa (.binOp .shl 76 _ _ _) ?_;refine jac (jne rfl rfl (by omega)) rfl ?_)|(refine jaa (.binOp .or 76 _ _ _) ?_;refine jac (jdw rfl rfl (by simp)) rfl ?_)|refine zad ?_|refine jaj ?_|refine jak ?_|refine jai ?_|refine jaz ?_|refine jar rfl ?_|refine jan ?_|refine jab ?_|refine jbi rfl (fun hc => ?_) (fun hc => ?_))
  all_goals first|(exfalso;omega)|skip
  all_goals (apply jat;apply jau;(·apply jbc.p;(·(apply GvA.cons;(·exact .tmp _);(·exact GvP.c (.lit _)));exact GvA.nil);(·decide)))
  all_goals rfl
theorem all4096 {P : Nat → Prop} (h : ∀ a, a < 64 → ∀ b, b < 64 → P (64 * a + b)) : ∀ n, n < 4096 → P n := fun n hn => by
 have := h (n / 64) (by omega) (n % 64) (by omega)
 rwa [show 64 * (n / 64) + n % 64 = n by omega] at this
theorem OnesCount64B_p (n : Nat) (h : n < 4096) : PC Tryz.prog 125 [.c (dU n)] (.p (.c (dI ((pop n : Nat) : Int)))) := by
 refine jaq Tryz.func125 rfl rfl rfl (by kernel_rfl) rfl rfl ?_;rintro ⟨-, -⟩
 repeat' (first|refine zaa ?_|refine zab ?_|(refine jaa (.binOp .shr 56 _ _ _) ?_;(first|refine jac (jff (c := 2) rfl rfl (by decide)) rfl ?_|refine jac (jff (c := 4) rfl rfl (by decide)) rfl ?_|refine jac (jff (c := 16) rfl rfl (by decide)) rfl ?_|refine jac (jff (c := 256) rfl rfl (by decide)) rfl ?_|refine jac (jff (c := 65536) rfl rfl (by decide)) rfl ?_|refine jac (jff (c := 4294967296) rfl rfl (by decide)) rfl ?_))|(refine jaa (.binOp .and 56 _ _ _) ?_;refine jac (jdw rfl rfl (by simp)) rfl ?_)|(refine jaa (.binOp .add 56 _ _ _) ?_;refine jac (jhb rfl rfl) rfl ?_)|(refine jaa (.convert 56 3 _) ?_;(refine jac (qt_conv (k' := .i64) rfl (by kernel_rfl) (by kernel_rfl)) rfl ?_))|(refine jaa (.binOp .and 3 _ _ _) ?_;refine jac (jgv 7 (c := 128) rfl rfl (by decide)) rfl ?_)|refine jaj ?_|refine jak ?_|refine jab ?_)
 (apply jat;apply jau;(·apply jbc.p;(·(apply GvA.cons;(·exact .tmp _);(·exact GvP.c (.lit _)));exact GvA.nil);(·decide)))
 refine congrArg (fun z => Res.p (RP.c (D.lit (Value.int IntKind.i64 z)))) ?_
 revert h
 revert n
 refine all4096 ?_
 decide +kernel
theorem OnesCountB_p (n : Nat) (h : n < 4096) : PC Tryz.prog 77 [.c (dU n)] (.p (.c (dI ((pop n : Nat) : Int)))) := by
 refine jaq Tryz.func77 rfl rfl rfl (by kernel_rfl) rfl rfl ?_;intro _
 repeat' (first|refine zaa ?_|refine zab ?_|(refine jaa (.call ⟨.value (.func 125), _, _⟩) ?_;(apply jag (fid := 125);(·(repeat(first|exact SeA.nil|apply SeA.cons (.c (.d _)))));(·exact OnesCount64B_p n h);(·rfl)))|refine jaj ?_|refine jak ?_|refine jan ?_|refine jab ?_|refine jbj rfl ?_)
 all_goals (apply jat;apply jau;(·apply jbc.p;(·(apply GvA.cons;(·exact .tmp _);(·exact GvP.c (.lit _)));exact GvA.nil);(·decide)))
 all_goals rfl
def masksL (cc : List (List Int)) (k : Nat) : List Nat := (List.range k).map fun i : Nat => maskK (atZ cc (i : Int)) (atZ cc (i : Int)).length
theorem jlz (cc : List (List Int)) (k : Nat) : masksL cc (k + 1) = masksL cc k ++ [maskK (atZ cc (k : Int)) (atZ cc (k : Int)).length] := by simp [masksL, List.range_succ]
@[simp] theorem masksL_len (cc : List (List Int)) (k : Nat) : (masksL cc k).length = k := by simp [masksL]
theorem masksL_at (cc : List (List Int)) {k i : Nat} (h : i < k) : atZ (masksL cc k) (i : Int) = maskK (atZ cc (i : Int)) (atZ cc (i : Int)).length := by
 rw [jbw (by simpa using h)];simp [masksL]
theorem ctx_bd {ev : Int} {cc : List (List Int)} {ss : List Int} (hs : sceneB ev cc ss = true) {i : Nat} (hi : i < cc.length) : ∀ j : Nat, j < (atZ cc (i : Int)).length → 0 ≤ atZ (atZ cc (i : Int)) (j : Int) ∧ atZ (atZ cc (i : Int)) (j : Int) < 12 := fun j hj => by
 have s := jcc hs
 have c : ctxB ev (atZ cc (i : Int)) = true := by rw [jbw hi];exact s.ctx i hi
 simp only [ctxB, Bool.and_eq_true] at c
 have := rise_lt c.2 j hj
 have := s.e12
 omega
theorem masks_p (ev : Int) (cc : List (List Int)) (ss : List Int) (hs : sceneB ev cc ss = true) : PC Tryz.prog 32 [.g [dI ev, eII cc, eI ss]] (.p (.c (eW (masksL cc cc.length)))) := by
 have c10 := (jcc hs).c10
 refine jaq Tryz.func32 rfl rfl rfl (by kernel_rfl) rfl rfl ?_;intro _
 repeat' (first|(refine jaa (.box 29 _) ?_;refine jbh rfl rfl ?_)|refine zaa ?_|(refine jaa (.buildSlice 78 0 _) ?_;(apply jao (sz := 1) (by_ := 8);(·kernel_rfl);(·decide);(·(repeat(exact GvS.nil _)));(·decide);(·rfl);(·rfl);(·rfl)))|refine zbg ?_|refine zaj ?_|refine zau ?_|refine zab ?_|refine jaj ?_|refine jak ?_|refine jai ?_|refine jab ?_)
 apply jay [3, 11, 12, 13] [1, 9, 30, 31] rfl;(·(repeat(first|exact Pf.nil|apply Pf.cons (.c rfl (.d rfl))|apply Pf.cons (.c rfl (.ls rfl)))));(·(repeat(first|exact Pb.nil|apply Pb.cons (.row rfl)|(apply Pb.cons;(·apply Nb.box rfl;(repeat(first|exact Ncs.nil rfl|(apply Ncs.cons rfl;(·(exact .d rfl)))))))|apply Pb.skip)))
 refine jbb [11, 12] [1, 30, 31] (fun i => [(13, iN i), (3, .c (.ls 9 1 0 i))]) (fun i => [(9, .row 1 (cW (masksL cc i)))]) (fun i => i ≤ cc.length) (fun i => cc.length - i) (0) ?_ (by (repeat(first|exact trivial|refine ⟨(by rfl), ?_⟩))) (by (repeat(first|exact trivial|refine ⟨(by ((refine jbm rfl ?_;simp  [masksL];done))), ?_⟩))) ?_
 ·omega
 intro i hi
 by_cases hi2 : i < cc.length
 ·have cb := ctx_bd hs hi2
  have cl : (atZ cc (i : Int)).length ≤ 1000 := by
   have c : ctxB ev (atZ cc (i : Int)) = true := by rw [jbw hi2];exact (jcc hs).ctx i hi2
   exact (jhk (by have := (jcc hs).e12;omega) c).1
  repeat' (first|refine zaa ?_|refine zab ?_|refine zac ?_|refine zam ?_|refine zaq ?_|refine zas ?_|refine jaj ?_|refine jak ?_|refine jai ?_|refine jar rfl ?_|refine jan ?_|refine jab ?_|refine jbi rfl (fun hc => ?_) (fun hc => ?_))
  all_goals first|(exfalso;omega)|skip
  apply jay [3, 6, 11, 12, 13, 17, 18, 19] [1, 9, 30, 31] rfl;(·(repeat(first|exact Pf.nil|apply Pf.cons (.c rfl (.d rfl))|apply Pf.cons (.c rfl (.ls rfl)))));(·(repeat(first|exact Pb.nil|apply Pb.cons (.row rfl)|(apply Pb.cons;(·apply Nb.box rfl;(repeat(first|exact Ncs.nil rfl|(apply Ncs.cons rfl;(·(exact .d rfl)))))))|apply Pb.skip)))
  refine jbb [3, 11, 12, 13, 17, 18] [1, 9, 30, 31] (fun j => [(19, iN j), (6, .c (.d (dU ((maskK (atZ cc (i : Int)) j : Nat) : Int))))]) (fun _ => []) (fun j => j ≤ (atZ cc (i : Int)).length) (fun j => (atZ cc (i : Int)).length - j) (0) ?_ (by (repeat(first|exact trivial|refine ⟨(by rfl), ?_⟩))) (by (repeat(exact trivial))) ?_
  ·omega
  intro j hj
  by_cases hj2 : j < (atZ cc (i : Int)).length
  ·have b := cb j hj2
   have s := jhi (l := atZ cc (i : Int)) (k := j) fun t ht => cb t (by omega)
   have q : 1 * 2 ^ (atZ (atZ cc (i : Int)) (j : Int)).toNat < 4096 := by rw [Nat.one_mul];exact pow12 (by omega)
   repeat' (first|refine zaa ?_|refine zab ?_|refine zac ?_|refine zao ?_|refine zap ?_|(refine jaa (.binOp .shl 76 _ _ _) ?_;((first|refine jac (jjr (c := (atZ (atZ cc (i : Int)) (j : Int)).toNat) 1 rfl rfl rfl (by omega) (by omega) (by omega)) rfl ?_|refine jac (jnf rfl rfl s q) rfl ?_)))|(refine jaa (.binOp .or 76 _ _ _) ?_;((first|refine jac (jjr (c := (atZ (atZ cc (i : Int)) (j : Int)).toNat) 1 rfl rfl rfl (by omega) (by omega) (by omega)) rfl ?_|refine jac (jnf rfl rfl s q) rfl ?_)))|refine zad ?_|(refine jaa (.buildSlice 78 1 _) ?_;(apply jao (sz := 1) (by_ := 8);(·kernel_rfl);(·decide);(·(repeat(first|exact GvS.nil _|apply GvS.c rfl rfl (.lit _) rfl)));(·decide);(·rfl);(·rfl);(·rfl)))|(refine jaa (.call ⟨.builtin .append, _, #[78, 78]⟩) ?_;((apply jbo (sz := 1) (by_ := 8);(·rfl);(·rfl);(·((simp;done)));(·exact .row _ _ _ _ rfl (by ((simp;done))));(·decide);(·kernel_rfl);(·decide);(·omega);(·omega);(·rfl);(·rfl);(·rfl))))|refine jaj ?_|refine jak ?_|refine jai ?_|refine jaz ?_|refine jar rfl ?_|refine jan ?_|refine jab ?_|refine jbi rfl (fun hc => ?_) (fun hc => ?_))
   all_goals first|(exfalso;omega)|skip
   refine jba ?_;refine ⟨j + 1, ?_, ?_, jbx rfl (by (repeat(first|exact trivial|refine ⟨(by (first|rfl|(refine jdr rfl ?_;((simp  [maskK];done))))), ?_⟩))) (by (repeat(first|exact trivial|refine ⟨rfl, ?_⟩))) (by (repeat(exact trivial))) (by (repeat(first|exact trivial|refine ⟨.inr rfl, ?_⟩)))⟩
   ·omega
   ·omega
  ·have e : j = (atZ cc (i : Int)).length := by omega
   subst e
   repeat' (first|refine zaa ?_|refine zab ?_|refine zac ?_|refine zao ?_|refine zap ?_|(refine jaa (.binOp .shl 76 _ _ _) ?_;refine jac (jne rfl rfl (by omega)) rfl ?_)|(refine jaa (.binOp .or 76 _ _ _) ?_;refine jac (jdw rfl rfl (by simp)) rfl ?_)|refine zad ?_|(refine jaa (.buildSlice 78 1 _) ?_;(apply jao (sz := 1) (by_ := 8);(·kernel_rfl);(·decide);(·(repeat(first|exact GvS.nil _|apply GvS.c rfl rfl (.lit _) rfl)));(·decide);(·rfl);(·rfl);(·rfl)))|(refine jaa (.call ⟨.builtin .append, _, #[78, 78]⟩) ?_;((apply jbo (sz := 1) (by_ := 8);(·rfl);(·rfl);(·((simp;done)));(·exact .row _ _ _ _ rfl (by ((simp;done))));(·decide);(·kernel_rfl);(·decide);(·omega);(·omega);(·rfl);(·rfl);(·rfl))))|refine jaj ?_|refine jak ?_|refine jai ?_|refine jaz ?_|refine jar rfl ?_|refine jan ?_|refine jab ?_|refine jbi rfl (fun hc => ?_) (fun hc => ?_))
   all_goals first|(exfalso;omega)|skip
   refine jba ?_;refine ⟨i + 1, ?_, ?_, jbx rfl (by (repeat(first|exact trivial|refine ⟨(by rfl), ?_⟩))) (by (repeat(first|exact trivial|refine ⟨rfl, ?_⟩))) (by (repeat(first|exact trivial|refine ⟨(by ((refine jbm rfl ?_;simp  [jlz];done))), ?_⟩))) (by (repeat(first|exact trivial|refine ⟨.inr rfl, ?_⟩)))⟩
   ·omega
   ·omega
 ·have e : i = cc.length := by omega
  subst e
  repeat' (first|refine zaa ?_|refine zab ?_|refine zac ?_|refine zam ?_|refine zaq ?_|refine zas ?_|refine jaj ?_|refine jak ?_|refine jai ?_|refine jar rfl ?_|refine jan ?_|refine jab ?_|refine jbi rfl (fun hc => ?_) (fun hc => ?_))
  all_goals first|(exfalso;omega)|skip
  all_goals (apply jat;apply jau;(·apply jbc.p;(·(apply GvA.cons;(·exact .tmp _);(·(exact GvP.c (.row _ _ _ _ rfl (by ((simp;done)))))));exact GvA.nil);(·decide)))
  all_goals simp
theorem kept_p (ev : Int) (cc : List (List Int)) (ss nu : List Int) (hs : sceneB ev cc ss = true) (hn : bitsB nu ev = true) : PC Tryz.prog 30 [.g [dI ev, eII cc, eI ss], .c (dU ((setK nu nu.length : Nat) : Int))] (.p (.c (eI (keptK cc ss nu cc.length)))) := by
 have s := jcc hs
 have c10 := s.c10
 have e12 := s.e12
 have sl := s.sl
 have hl := jce hn
 have sk := jlv (nu := nu) (k := nu.length) (by omega) fun j hj => jda hn (by omega) (by omega)
 have mp := masks_p ev cc ss hs
 have ma : ∀ i : Nat, i < cc.length → atZ (masksL cc cc.length) (i : Int) = maskK (atZ cc (i : Int)) (atZ cc (i : Int)).length := fun i hi => masksL_at cc hi
 have mlen : (masksL cc cc.length).length = cc.length := by simp
 generalize masksL cc cc.length = M at *
 have kb : ∀ i : Nat, i < cc.length → keepB cc ss nu i = decide ((((pop (atZ M (i : Int) &&& setK nu nu.length) : Nat) : Int).tmod 2) = atZ ss (i : Int)) := fun i hi => by rw [ma i hi, Int.tmod_eq_emod_of_nonneg (by omega)];rfl
 have mb : ∀ i : Nat, i < cc.length → atZ M (i : Int) < 4096 := fun i hi => by rw [ma i hi];exact jhi (ctx_bd hs hi)
 clear ma
 generalize setK nu nu.length = SK0 at *
 refine jaq Tryz.func30 rfl rfl rfl (by kernel_rfl) rfl rfl ?_;intro _
 repeat' (first|(refine jaa (.box 29 _) ?_;refine jbh rfl rfl ?_)|refine zaa ?_|(refine jaa (.buildSlice 27 0 _) ?_;(apply jao (sz := 1) (by_ := 8);(·kernel_rfl);(·decide);(·(repeat(exact GvS.nil _)));(·decide);(·rfl);(·rfl);(·rfl)))|refine zay ?_|(refine jaa (.call ⟨.builtin .len, _, #[78]⟩) ?_;(refine jac (jbe rfl (by kernel_rfl)) rfl ?_))|refine zab ?_|(refine jaa (.call ⟨.value (.func 32), _, _⟩) ?_;(apply jag (fid := 32);(·(repeat(first|exact SeA.nil|(apply SeA.cons;(·(apply SeP.g;(repeat(first|exact SeL.nil|apply SeL.cons (.d _)))))))));(·exact mp);(·rfl)))|refine jaj ?_|refine jak ?_|refine jai ?_|refine jab ?_)
 apply jay [1, 2, 5, 10, 11, 12] [2, 8, 10, 30, 31] rfl;(·(repeat(first|exact Pf.nil|apply Pf.cons (.c rfl (.d rfl))|apply Pf.cons (.c rfl (.ls rfl))|apply Pf.cons (.c rfl (.lp rfl)))));(·(repeat(first|exact Pb.nil|apply Pb.cons (.row rfl)|(apply Pb.cons;(·apply Nb.box rfl;(repeat(first|exact Ncs.nil rfl|(apply Ncs.cons rfl;(·(exact .d rfl)))))))|apply Pb.skip)))
 refine jbb [1, 2, 10, 11] [2, 10, 30, 31] (fun i => [(12, iN i), (5, .c (.ls 8 1 0 (keptK cc ss nu i).length))]) (fun i => [(8, .row 1 (cI (keptK cc ss nu i)))]) (fun i => i ≤ cc.length) (fun i => cc.length - i) (0) ?_ (by (repeat(first|exact trivial|refine ⟨(by rfl), ?_⟩))) (by (repeat(first|exact trivial|refine ⟨(by ((refine jbm rfl ?_;simp  [keptK];done))), ?_⟩))) ?_
 ·omega
 intro i hi
 by_cases hi2 : i < cc.length
 ·have b := mb i hi2
  have kq := kb i hi2
  have kl := jkc cc ss nu i
  have ab : atZ M (i : Int) &&& SK0 < 4096 := Nat.lt_of_le_of_lt Nat.and_le_left b
  have oc := OnesCountB_p _ ab
  repeat' (first|refine zaa ?_|refine zab ?_|refine zac ?_|(refine jaa (.indexAddr 78 _ _) ?_;((refine jac (qt_idxW rfl rfl (by kernel_rfl) (by omega) (by omega)) rfl ?_)))|(refine jaa (.load 76 _) ?_;(refine jac (jap rfl (by kernel_rfl) rfl) rfl ?_))|(refine jaa (.binOp .and 76 _ _ _) ?_;((refine jac (qt_andW rfl rfl b sk) rfl ?_)))|(refine jaa (.binOp .rem 3 _ _ _) ?_;(refine jac (qt_rem rfl rfl (by omega)) rfl ?_))|refine zbk ?_|refine zax ?_|refine zao ?_|refine zap ?_|refine zai ?_|(refine jaa (.buildSlice 27 1 _) ?_;(apply jao (sz := 1) (by_ := 8);(·kernel_rfl);(·decide);(·(repeat(first|exact GvS.nil _|apply GvS.c rfl rfl (.lit _) rfl)));(·decide);(·rfl);(·rfl);(·rfl)))|(refine jaa (.call ⟨.builtin .append, _, #[27, 27]⟩) ?_;((apply jbo (sz := 1) (by_ := 8);(·rfl);(·rfl);(·((simp;done)));(·exact .row _ _ _ _ rfl (by ((simp;done))));(·decide);(·kernel_rfl);(·decide);(·omega);(·omega);(·rfl);(·rfl);(·rfl))))|refine zad ?_|(refine jaa (.call ⟨.value (.func 77), _, _⟩) ?_;(apply jag (fid := 77);(·(repeat(first|exact SeA.nil|apply SeA.cons (.c (.d _)))));(·exact oc);(·rfl)))|refine jaj ?_|refine jak ?_|refine jai ?_|refine jaz ?_|refine jar rfl ?_|refine jan ?_|refine jab ?_|refine jbd 5 (fun _ => false) (.step 0 true (.step 1 true (.step 2 true (.step 5 true (.step 6 true (.step 7 true (.step 8 true (.step 9 true (.step 3 false (.step 4 true (.step 10 true .nil))))))))))) [(0, 2047, 2047, true), (0, 2047, 2047, true), (3, 2044, 2047, true), (4, 2043, 2047, false), (8, 2039, 2047, true), (0, 2047, 2047, true), (32, 2015, 2047, false), (0, 2047, 2047, true), (192, 1855, 2047, true), (256, 1791, 2047, false), (528, 1519, 2047, true)] (by kernel_rfl) (by kernel_rfl) ?_|refine jbi rfl (fun hc => ?_) (fun hc => ?_))
  all_goals first|(exfalso;omega)|skip
  all_goals
   by_cases hz : ((pop (atZ M (i : Int) &&& SK0) : Nat) : Int).tmod 2 = atZ ss (i : Int)
   ·have e : keptK cc ss nu (i + 1) = keptK cc ss nu i ++ [(i : Int)] := by rw [jjf, if_pos (by rw [kq];simpa using hz)]
    first|contradiction|skip
    all_goals
     refine jba ?_;refine ⟨i + 1, ?_, ?_, jbx rfl (by (repeat(first|exact trivial|refine ⟨(by (first|rfl|(refine joq rfl ?_;((simp  [e];done))))), ?_⟩))) (by (repeat(first|exact trivial|refine ⟨rfl, ?_⟩))) (by (repeat(first|exact trivial|refine ⟨(by ((refine jbm rfl ?_;simp  [e];done))), ?_⟩))) (by (repeat(first|exact trivial|refine ⟨.inr rfl, ?_⟩)))⟩
     ·omega
     ·omega
   ·have e : keptK cc ss nu (i + 1) = keptK cc ss nu i := by rw [jjf, if_neg (by rw [kq];simpa using hz)]
    first|contradiction|skip
    all_goals
     refine jba ?_;refine ⟨i + 1, ?_, ?_, jbx rfl (by (repeat(first|exact trivial|refine ⟨(by (first|rfl|(refine joq rfl ?_;((simp  [e];done))))), ?_⟩))) (by (repeat(first|exact trivial|refine ⟨rfl, ?_⟩))) (by (repeat(first|exact trivial|refine ⟨(by ((refine jbm rfl ?_;simp  [e];done))), ?_⟩))) (by (repeat(first|exact trivial|refine ⟨.inr rfl, ?_⟩)))⟩
     ·omega
     ·omega
 ·have e : i = cc.length := by omega
  subst e
  repeat' (first|refine zaa ?_|refine zab ?_|refine zac ?_|(refine jaa (.indexAddr 78 _ _) ?_;(refine jac (jic rfl rfl (by kernel_rfl : tSl _ 78 1 = true) (by omega) (by omega) rfl) rfl ?_))|refine jaj ?_|refine jak ?_|refine jai ?_|refine jar rfl ?_|refine jan ?_|refine jab ?_|refine jbi rfl (fun hc => ?_) (fun hc => ?_))
  all_goals first|(exfalso;omega)|skip
  all_goals (apply jat;apply jau;(·apply jbc.p;(·(apply GvA.cons;(·exact .tmp _);(·(exact GvP.c (.row _ _ _ _ rfl (by ((simp;done)))))));exact GvA.nil);(·decide)))
  all_goals rfl
end Go.Proofs.YteaeoaeogehaaaaGreatDoor
namespace Go.Proofs.YteaeoaeogehaaaaGreatDoor
open Go.RowKit
variable [Glb]
open Go Go.RowKit
section
variable {P : Program} {st : St} {dst : Option Tmp} {ty : TypeId} {pos : String} {af : Array Edge}
end
section
variable {P : Program} {ops : Array Oper} {mu : Nat → Bool} {r : OT} {st : St} {K : St → Prop} {i : Nat} {ty : TypeId} {pos : String} {af : Array Edge}
end
end Go.Proofs.YteaeoaeogehaaaaGreatDoor
namespace Go.Proofs.YteaeoaeogehaaaaGreatDoor
open Go.RowKit
variable [Glb]
theorem assignment_p (ev c : Nat) (cc : List (List Int)) (ss : List Int) (h : ev ≤ 12) (hc : c < 4096) : PC Tryz.prog 29 [.g [dI ev, eII cc, eI ss], .c (dI c)] (.p (.c (eI (bitsM ev c)))) := by
  refine jaq Tryz.func29 rfl rfl rfl (by kernel_rfl) rfl rfl ?_;intro _
  repeat' (first|(refine jaa (.box 29 _) ?_;refine jbh rfl rfl ?_)|refine zaa ?_|(refine jaa (.buildSlice 27 0 _) ?_;(apply jao (sz := 1) (by_ := 8);(·kernel_rfl);(·decide);(·(repeat(exact GvS.nil _)));(·decide);(·rfl);(·rfl);(·rfl)))|refine zbh ?_|refine zaf ?_|refine zab ?_|refine jaj ?_|refine jak ?_|refine jai ?_|refine jab ?_)
  apply jay [1, 2, 5, 9, 10] [2, 7, 22, 23] rfl;(·(repeat(first|exact Pf.nil|apply Pf.cons (.c rfl (.d rfl))|apply Pf.cons (.c rfl (.ls rfl))|apply Pf.cons (.c rfl (.lp rfl)))));(·(repeat(first|exact Pb.nil|apply Pb.cons (.row rfl)|(apply Pb.cons;(·apply Nb.box rfl;(repeat(first|exact Ncs.nil rfl|(apply Ncs.cons rfl;(·(exact .d rfl)))))))|apply Pb.skip)))
  refine jbb [1, 2, 9] [2, 22, 23] (fun i => [(10, iN i), (5, .c (.ls 7 1 0 i))]) (fun i => [(7, .row 1 (cI (rowF (fun i => (bitN c (ev - 1 - i) : Int)) i)))]) (fun i => i ≤ ev) (fun i => ev - i) (0) ?_ (by (repeat(first|exact trivial|refine ⟨(by rfl), ?_⟩))) (by (repeat(first|exact trivial|refine ⟨(by rfl), ?_⟩))) ?_
  · omega
  intro i hi
  by_cases h2 : i < ev
  · have e3 : (c : Int) / 2 ^ ((ev : Int) - 1 - i).toNat % 2 = (bitN c (ev - 1 - i) : Int) := by
      rw [show ((ev : Int) - 1 - i).toNat = ev - 1 - i by omega, jmj]
    repeat' (first|refine zaa ?_|refine zbh ?_|refine zaf ?_|refine zab ?_|refine zac ?_|refine zan ?_|(refine jaa (.binOp .shr 3 _ _ _) ?_;(refine jac (jjq rfl rfl (by omega) (by omega)) rfl ?_))|refine zck ?_|(refine jaa (.buildSlice 27 1 _) ?_;(apply jao (sz := 1) (by_ := 8);(·kernel_rfl);(·decide);(·(repeat(first|exact GvS.nil _|apply GvS.c rfl rfl (.lit _) rfl)));(·decide);(·rfl);(·rfl);(·rfl)))|(refine jaa (.call ⟨.builtin .append, _, #[27, 27]⟩) ?_;((apply jbo (sz := 1) (by_ := 8);(·rfl);(·rfl);(·((simp;done)));(·exact .row _ _ _ _ rfl (by ((simp;done))));(·decide);(·kernel_rfl);(·decide);(·omega);(·omega);(·rfl);(·rfl);(·rfl))))|refine zad ?_|refine jaj ?_|refine jak ?_|refine jai ?_|refine jaz ?_|refine jar rfl ?_|refine jan ?_|refine jab ?_|refine jbi rfl (fun hc => ?_) (fun hc => ?_))
    all_goals first|(exfalso;omega)|skip
    simp at e3
    refine jba ?_;refine ⟨i + 1, ?_, ?_, jbx rfl (by (repeat(first|exact trivial|refine ⟨(by rfl), ?_⟩))) (by (repeat(first|exact trivial|refine ⟨rfl, ?_⟩))) (by (repeat(first|exact trivial|refine ⟨(by ((refine jbm rfl ?_;simp  [jdj, e3];done))), ?_⟩))) (by (repeat(first|exact trivial|refine ⟨.inr rfl, ?_⟩)))⟩
    · omega
    · omega
  · obtain rfl : i = ev := by omega
    repeat' (first|refine zaa ?_|refine zbh ?_|refine zaf ?_|refine zab ?_|refine zac ?_|refine zan ?_|(refine jaa (.binOp .shr 3 _ _ _) ?_;(refine jac (jjq rfl rfl (by omega) (by omega)) rfl ?_))|refine zck ?_|(refine jaa (.buildSlice 27 1 _) ?_;(apply jao (sz := 1) (by_ := 8);(·kernel_rfl);(·decide);(·(repeat(first|exact GvS.nil _|apply GvS.c rfl rfl (.lit _) rfl)));(·decide);(·rfl);(·rfl);(·rfl)))|(refine jaa (.call ⟨.builtin .append, _, #[27, 27]⟩) ?_;((apply jbo (sz := 1) (by_ := 8);(·rfl);(·rfl);(·((simp;done)));(·exact .row _ _ _ _ rfl (by ((simp;done))));(·decide);(·kernel_rfl);(·decide);(·omega);(·omega);(·rfl);(·rfl);(·rfl))))|refine zad ?_|refine jaj ?_|refine jak ?_|refine jai ?_|refine jaz ?_|refine jar rfl ?_|refine jan ?_|refine jab ?_|refine jbi rfl (fun hc => ?_) (fun hc => ?_))
    all_goals first|(exfalso;omega)|skip
    all_goals (apply jat;apply jau;(·apply jbc.p;(·(apply GvA.cons;(·exact .tmp _);(·(exact GvP.c (.row _ _ _ _ rfl (by ((simp;done)))))));exact GvA.nil);(·decide)))
    all_goals simp [bitsM]
theorem pow_le12 {e : Nat} (h : e ≤ 12) : 2 ^ e ≤ 4096 := Nat.pow_le_pow_right (by omega) h
theorem MostKept_p (ev : Nat) (cc : List (List Int)) (ss : List Int) (hs : sceneB ev cc ss = true) : PE Tryz.prog 11 [.g [dI ev, eII cc, eI ss]] (fun res => ∃ l : List Int, res = .t [.c (dI (mostF cc ss ev (2 ^ ev)).1), .c (eI l), .c (dB true)]) := by
 have sc := jcc hs
 have e12 := sc.e12
 have c10 := sc.c10
 have q1 := IsScene_p ev cc ss
 rw [hs] at q1
 have p12 := pow_le12 (e := ev) (by omega)
 obtain ⟨N, hN⟩ : ∃ N : Nat, N = 2 ^ ev := ⟨_, rfl⟩
 have e1 : (1 : Int) * 2 ^ ((ev : Int)).toNat = N := by rw [Int.toNat_natCast, hN, Int.natCast_pow];simp
 rw [← hN] at p12 ⊢
 refine jjv Tryz.func11 rfl rfl rfl (by kernel_rfl) rfl rfl ?_;intro _
 repeat' (first|(refine jaa (.box 29 _) ?_;refine jbh rfl rfl ?_)|refine zaa ?_|refine zay ?_|refine zah ?_|(refine jaa (.call ⟨.value (.func 28), _, _⟩) ?_;(apply jag (fid := 28);(·(repeat(first|exact SeA.nil|(apply SeA.cons;(·(apply SeP.g;(repeat(first|exact SeL.nil|apply SeL.cons (.d _)))))))));(·exact q1);(·rfl)))|refine jaj ?_|refine jak ?_|refine jan ?_|refine jab (id := 0) ?_|refine jab (id := 1) ?_|refine jab (id := 3) ?_|refine jbj rfl ?_)
 all_goals first|(exfalso;simp_all;done)|skip
 refine jcn (jks 6 900 1 rfl (by decide) rfl rfl) ?_
 repeat' (first|refine zbh ?_|refine zaf ?_|(refine jaa (.binOp .shl 3 _ _ _) ?_;(refine jac (jlx rfl rfl (by omega) (by omega) (by omega)) rfl ?_))|refine zab ?_|refine jaj ?_|refine jai ?_|refine jab ?_)
 apply jay [1, 5, 6, 15, 16] [1, 21, 25, 900] rfl;(·(repeat(first|exact Pf.nil|apply Pf.cons (.c rfl (.d rfl))|apply Pf.cons (.c rfl (.ls rfl))|apply Pf.cons (.c rfl (.lp rfl)))));(·(repeat(first|exact Pb.nil|apply Pb.cons (.row rfl)|(apply Pb.cons;(·apply Nb.box rfl;(repeat(first|exact Ncs.nil rfl|(apply Ncs.cons rfl;(·(exact .d rfl)))))))|apply Pb.skip)))
 refine jbb [1, 15] [1, 21, 25] (fun (g : Nat × Int × List Int) => [(16, iN g.1), (5, iZ g.2.1), (6, .c (.ls 900 1 0 g.2.2.length))]) (fun g => [(900, .row 1 (cI g.2.2))]) (fun g => g.1 ≤ N ∧ g.2.1 = (mostF cc ss ev g.1).1) (fun g => N - g.1) ((0, -1, [])) ?_ (by (repeat(first|exact trivial|refine ⟨(by rfl), ?_⟩))) (by (repeat(first|exact trivial|refine ⟨(by ((refine jbm rfl ?_;simp;done))), ?_⟩))) ?_
 ·exact ⟨by simp, rfl⟩
 rintro ⟨c, m, l⟩ ⟨hc, hm⟩
 dsimp only at hc hm ⊢
 by_cases hc2 : c < N
 ·have hb := jee ev c
  have ap := assignment_p ev c cc ss (by omega) (by omega)
  have so := setOf_p ev (bitsM ev c) hb (by omega)
  have kp := kept_p ev cc ss (bitsM ev c) hs hb
  have st : (mostF cc ss ev (c + 1)).1 = if m < ((keptK cc ss (bitsM ev c) cc.length).length : Int) then ((keptK cc ss (bitsM ev c) cc.length).length : Int) else m := by
   rw [hm]
   show (if (mostF cc ss ev c).1 < (keptN cc ss ev c : Int) then ((keptN cc ss ev c : Int), bitsM ev c) else mostF cc ss ev c).1 = _
   unfold keptN
   split <;> rfl
  have kl := jkc cc ss (bitsM ev c) cc.length
  clear hm
  generalize keptK cc ss (bitsM ev c) cc.length = KL at *
  generalize setK (bitsM ev c) (bitsM ev c).length = SK0 at *
  have bl := bitsM_len ev c
  generalize bitsM ev c = BM at *
  by_cases hq : m < (KL.length : Int)
  ·rw [if_pos hq] at st
   repeat' (first|refine zaa ?_|refine zay ?_|refine zab ?_|refine zac ?_|refine zas ?_|refine zat ?_|(refine jaa (.call ⟨.value (.func 29), _, _⟩) ?_;((apply jbq (fid := 29);(·(repeat(first|exact SeA.nil|apply SeA.cons (.c (.d _))|(apply SeA.cons;(·(apply SeP.g;(repeat(first|exact SeL.nil|apply SeL.cons (.d _)))))))));(·exact ap);(·rfl);(·rfl))))|(refine jaa (.call ⟨.value (.func 31), _, _⟩) ?_;((apply jag (fid := 31);(·(repeat(first|exact SeA.nil|apply SeA.cons (.c (.all _ _ _ _ rfl (by ((simp;done))))))));(·exact so);(·rfl))))|(refine jaa (.call ⟨.value (.func 30), _, _⟩) ?_;((apply jag (fid := 30);(·(repeat(first|exact SeA.nil|apply SeA.cons (.c (.d _))|(apply SeA.cons;(·(apply SeP.g;(repeat(first|exact SeL.nil|apply SeL.cons (.d _)))))))));(·exact kp);(·rfl))))|refine jaj ?_|refine jak ?_|refine jai ?_|refine jaz ?_|refine jar rfl ?_|refine jan ?_|refine jab (id := 5) ?_|refine jab (id := 6) ?_|refine jab (id := 7) ?_|refine jbd 8 (fun _ => false) (.step 0 true (.step 1 true (.step 2 false (.step 3 false (.step 4 true (.step 5 true .nil)))))) [(0, 63, 63, false), (0, 63, 63, true), (2, 61, 63, false), (5, 58, 63, false), (8, 55, 63, true), (31, 47, 63, true)] (by kernel_rfl) (by kernel_rfl) ?_|refine jab (id := 9) ?_|refine jab (id := 10) ?_|refine jab (id := 12) ?_|refine jbi rfl (fun hc => ?_) (fun hc => ?_))
   all_goals first|(exfalso;omega)|skip
   refine jcn (jep 900) ?_
   refine jcn (jfy 21 900 rfl rfl rfl rfl) ?_
   repeat' (first|refine zab ?_|refine zad ?_|refine jaj ?_|refine jab ?_)
   refine jba ?_;refine ⟨(c + 1, (KL.length : Int), BM), ?_, ?_, jbx rfl (by (repeat(first|exact trivial|refine ⟨(by rfl), ?_⟩))) (by (repeat(first|exact trivial|refine ⟨rfl, ?_⟩))) (by (repeat(first|exact trivial|refine ⟨(by ((refine jbm rfl ?_;simp;done))), ?_⟩))) (by (repeat(first|exact trivial|refine ⟨.inr rfl, ?_⟩)))⟩
   ·exact ⟨by dsimp only;omega, st.symm⟩
   ·dsimp only; omega
  ·rw [if_neg hq] at st
   repeat' (first|refine zaa ?_|refine zay ?_|refine zab ?_|refine zac ?_|refine zas ?_|refine zat ?_|refine zad ?_|(refine jaa (.call ⟨.value (.func 29), _, _⟩) ?_;((apply jbq (fid := 29);(·(repeat(first|exact SeA.nil|apply SeA.cons (.c (.d _))|(apply SeA.cons;(·(apply SeP.g;(repeat(first|exact SeL.nil|apply SeL.cons (.d _)))))))));(·exact ap);(·rfl);(·rfl))))|(refine jaa (.call ⟨.value (.func 31), _, _⟩) ?_;((apply jag (fid := 31);(·(repeat(first|exact SeA.nil|apply SeA.cons (.c (.all _ _ _ _ rfl (by ((simp;done))))))));(·exact so);(·rfl))))|(refine jaa (.call ⟨.value (.func 30), _, _⟩) ?_;((apply jag (fid := 30);(·(repeat(first|exact SeA.nil|apply SeA.cons (.c (.d _))|(apply SeA.cons;(·(apply SeP.g;(repeat(first|exact SeL.nil|apply SeL.cons (.d _)))))))));(·exact kp);(·rfl))))|refine jaj ?_|refine jak ?_|refine jai ?_|refine jaz ?_|refine jar rfl ?_|refine jan ?_|refine jab ?_|refine jbd 8 (fun _ => false) (.step 0 true (.step 1 true (.step 2 false (.step 3 false (.step 4 true (.step 5 true .nil)))))) [(0, 63, 63, false), (0, 63, 63, true), (2, 61, 63, false), (5, 58, 63, false), (8, 55, 63, true), (31, 47, 63, true)] (by kernel_rfl) (by kernel_rfl) ?_|refine jbi rfl (fun hc => ?_) (fun hc => ?_))
   all_goals first|(exfalso;omega)|skip
   refine jba ?_;refine ⟨(c + 1, m, l), ?_, ?_, jbx rfl (by (repeat(first|exact trivial|refine ⟨(by rfl), ?_⟩))) (by (repeat(first|exact trivial|refine ⟨rfl, ?_⟩))) (by (repeat(first|exact trivial|refine ⟨(by ((refine jbm rfl ?_;simp;done))), ?_⟩))) (by (repeat(first|exact trivial|refine ⟨.inr rfl, ?_⟩|refine ⟨.inl rfl, ?_⟩)))⟩
   ·exact ⟨by dsimp only;omega, st.symm⟩
   ·dsimp only; omega
 ·obtain rfl : c = N := by omega
  repeat' (first|refine zaa ?_|refine zay ?_|refine zab ?_|refine zac ?_|refine jaj ?_|refine jak ?_|refine jai ?_|refine jar rfl ?_|refine jan ?_|refine jab ?_|refine jbi rfl (fun hc => ?_) (fun hc => ?_))
  all_goals first|(exfalso;omega)|skip
  (apply jhu;(·apply jbc.t;(·(apply GvA.cons;(·exact .tmp _);(·exact GvP.c (.lit _)));(apply GvA.cons;(·exact .tmp _);(·(exact GvP.c (.row _ _ _ _ rfl (by ((simp;done)))))));(apply GvA.cons;(·exact .tmp _);(·exact GvP.c (.lit _)));exact GvA.nil);(·rfl);(·decide)))
  exact ⟨l, by rw [hm]⟩
theorem masks_bd {ev : Int} {cc : List (List Int)} {ss : List Int} (hs : sceneB ev cc ss = true) : ∀ x ∈ masksL cc cc.length, x < 4096 := fun x hx => by
 unfold masksL at hx
 obtain ⟨i, hi, rfl⟩ := List.mem_map.1 hx
 exact jhi (ctx_bd hs (List.mem_range.1 hi))
end Go.Proofs.YteaeoaeogehaaaaGreatDoor
namespace Go.Proofs.YteaeoaeogehaaaaGreatDoor
open Go.RowKit
open Go
def rw0 (l : List Nat) (i : Nat) : Nat := l.getD i 0
theorem jhw {l : List Nat} {i : Nat} (h : i < l.length) : rw0 l i = l[i] := by unfold rw0; rw [List.getD_eq_getElem?_getD, List.getElem?_eq_getElem h]; rfl
theorem rw0_mem {l : List Nat} {i : Nat} (h : i < l.length) : rw0 l i ∈ l := by rw [jhw h]; exact List.getElem_mem h
end Go.Proofs.YteaeoaeogehaaaaGreatDoor
