/- What the functions that FnConsoleWords reaches return: part of its proof. No condition beyond those of its theorems. -/
import Derived.Test.YteaeoaeogehaaaaGreatDoorKfnsFnConsoleWordsA
import Derived.Test.YteaeoaeogehaaaaGreatDoorKplainC
import Derived.Test.YteaeoaeogehaaaaGreatDoorKfnsFnConsoleWordsB
import Derived.Test.YteaeoaeogehaaaaGreatDoorKplainB
import Derived.Test.YteaeoaeogehaaaaGreatDoorKplainA
import Derived.Test.YteaeoaeogehaaaaGreatDoorRows
import Derived.Shelf.Strconv.Itoa3
import Derived.WalkKit
import Derived.Shelf.Strings.OnBuilder
import Derived.Lib.Bytealg
import Derived.Lib.Join
set_option linter.unusedSectionVars false
set_option maxRecDepth 10000
set_option maxHeartbeats 4000000
set_option linter.unusedVariables false
set_option linter.unusedSimpArgs false
namespace Go.Proofs.YteaeoaeogehaaaaGreatDoor
open Go.RowKit
variable [Glb]
theorem make2_t (bx by_ bwh : Int) (bll : List (List Int)) (pl : List Int) (ev : Int) (cc : List (List Int)) (ss nu : List Int) (co : Int) (a : Int) (hb : boxB bx by_ bwh bll = true) (hp : bitsB pl (bx + by_) = true) (hs : sceneB ev cc ss = true) (hu : bitsB nu ev = true) : MK Tryz.prog 91 ⟨bx, by_, bwh, bll, pl, ev, cc, ss, nu, co⟩ 2 a := by
 have hl := jce hp
 have hn := jce hu
 have b := jbp hb
 have x1 := b.x1;have y1 := b.y1;have x3 := b.x3;have y3 := b.y3;have n1 := b.n1;have n2 := b.n2;have s := jcc hs;have e0 := s.e0;have e12 := s.e12;have hbl := b.len
 have hm := jdi (jcf.2 ⟨⟨x1, x3⟩, y1, y3⟩)
 clear b s
 have hat : ∀ h : inB a 0 (pl.length - 1) = true, 0 ≤ atZ pl a ∧ atZ pl a ≤ 1 := fun h => jda hp (by have := jcp.1 h;omega) (by have := jcp.1 h;omega)
 cases hA : inB a 0 (pl.length - 1) with
 | false =>
  refine jeo ⟨bx, by_, bwh, bll, pl, ev, cc, ss, nu, co⟩ (by simp [callT, hA]) ?_
  simp only [csH]
  refine jco Tryz.func91 rfl rfl rfl (by kernel_rfl) rfl rfl ?_;intro _
  repeat' (first|(refine jaa (.box 31 _) ?_;refine jbh rfl rfl ?_)|(refine jaa (.box 93 _) ?_;refine jbh rfl rfl ?_)|(refine jaa (.alloc 31) ?_;refine jav (zs := [.int .i64 0, .int .i64 0, .int .i64 0, .slice none 0 0, .slice none 0 0, .int .i64 0, .slice none 0 0, .slice none 0 0, .slice none 0 0, .int .i64 0]) (by kernel_rfl) rfl ?_)|refine zaa ?_|refine zbe ?_|refine zaf ?_|refine zai ?_|refine zbf ?_|refine zbd ?_|refine zax ?_|refine zbj ?_|refine zan ?_|refine zah ?_|refine zar ?_|(refine jaa (.store 31 _ _) ?_;(refine jah rfl rfl rfl (by kernel_rfl) rfl rfl ?_))|(refine jaa (.call ⟨.value (.func 55), _, _⟩) ?_;(apply jag (fid := 55);(·(repeat(first|exact SeA.nil|apply SeA.cons (.c (.d _)))));(·exact l1In_p _ _ _);(·rfl)))|refine jaj ?_|refine jak ?_|refine jai ?_|refine jan ?_|refine jab ?_|refine jbd 5 (fun i => i == 12) (.step 0 true (.step 1 true (.step 2 true (.step 3 true (.step 4 true (.step 5 true (.step 6 true (.step 7 true (.step 8 true (.step 9 true (.step 10 true (.step 11 true (.step 12 false .nil))))))))))))) [(0, 8191, 8191, true), (1, 8190, 8191, false), (0, 8191, 8191, true), (4, 8187, 8191, false), (0, 8191, 8191, true), (16, 8175, 8191, false), (0, 8191, 8191, true), (64, 8127, 8191, false), (160, 8031, 8191, true), (256, 7935, 8191, false), (512, 7679, 8191, true), (2047, 8181, 8191, true), (4095, 5119, 8191, false)] (by kernel_rfl) (by kernel_rfl) ?_|refine jbk rfl ?_|refine jcj rfl (fun hc => ?_) (fun hc => ?_))
  all_goals first|(exfalso;omega)|(exfalso;simp_all;done)|skip
  all_goals (apply jat;apply jau;(·apply jbc.t;(·(apply GvA.cons;(·(apply RV.cellN (n := 10);(·rfl);(·rfl);(·kernel_rfl);(·rfl)));(·(apply GvP.g;(·(apply GvL.cons (.lit _));(apply GvL.cons (.lit _));(apply GvL.cons (.lit _));((apply GvL.cons (.row _ _ _ _ rfl (by ((simp;done))))));((apply GvL.cons (.row _ _ _ _ rfl (by ((simp;done))))));(apply GvL.cons (.lit _));((apply GvL.cons (.row _ _ _ _ rfl (by ((simp;done))))));((apply GvL.cons (.row _ _ _ _ rfl (by ((simp;done))))));((apply GvL.cons (.row _ _ _ _ rfl (by ((simp;done))))));(apply GvL.cons (.lit _));exact GvL.nil))));(apply GvA.cons;(·exact .tmp _);(·exact GvP.c (.lit _)));exact GvA.nil);(·rfl);(·decide)))
  all_goals first|rfl|(simp_all;done)
 | true =>
  have h2 := hat hA
  have h3 := jcp.1 hA
  refine jfn ⟨bx, by_, bwh, bll, pl.set a.toNat (1 - atZ pl a), ev, cc, ss, nu, co⟩ (by simp [callT, hA]) ?_
  simp only [csH]
  refine jco Tryz.func91 rfl rfl rfl (by kernel_rfl) rfl rfl ?_;intro _
  repeat' (first|(refine jaa (.box 31 _) ?_;refine jbh rfl rfl ?_)|(refine jaa (.box 93 _) ?_;refine jbh rfl rfl ?_)|(refine jaa (.alloc 31) ?_;refine jav (zs := [.int .i64 0, .int .i64 0, .int .i64 0, .slice none 0 0, .slice none 0 0, .int .i64 0, .slice none 0 0, .slice none 0 0, .slice none 0 0, .int .i64 0]) (by kernel_rfl) rfl ?_)|refine zaa ?_|refine zbe ?_|(refine jaa (.load 3 _) ?_;(first|refine jac (jaf rfl rfl (by kernel_rfl) rfl) rfl ?_|refine jac (jdn rfl rfl (by kernel_rfl) (by omega) (by omega)) rfl ?_))|refine zai ?_|refine zbf ?_|refine zbd ?_|refine zax ?_|refine zbj ?_|refine zan ?_|refine zah ?_|refine zar ?_|(refine jaa (.store 31 _ _) ?_;(refine jah rfl rfl rfl (by kernel_rfl) rfl rfl ?_))|refine zbr ?_|(refine jaa (.store 3 _ _) ?_;((refine jcl rfl rfl rfl rfl (.lit _) (by simp) (by simp) (by kernel_rfl) (by ((simp only [List.length_map, List.length_append, List.length_replicate, fillL_len, rowF_len, gridF_len, mkI_len, mkII_len, jdb] at *;omega))) rfl ?_;simp only [St.drop])))|(refine jaa (.call ⟨.value (.func 55), _, _⟩) ?_;(apply jag (fid := 55);(·(repeat(first|exact SeA.nil|apply SeA.cons (.c (.d _)))));(·exact l1In_p _ _ _);(·rfl)))|refine jaj ?_|refine jak ?_|refine jai ?_|refine jan ?_|refine jab ?_|refine jbd 5 (fun i => i == 12) (.step 0 true (.step 1 true (.step 2 true (.step 3 true (.step 4 true (.step 5 true (.step 6 true (.step 7 true (.step 8 true (.step 9 true (.step 10 true (.step 11 true (.step 12 false .nil))))))))))))) [(0, 8191, 8191, true), (1, 8190, 8191, false), (0, 8191, 8191, true), (4, 8187, 8191, false), (0, 8191, 8191, true), (16, 8175, 8191, false), (0, 8191, 8191, true), (64, 8127, 8191, false), (160, 8031, 8191, true), (256, 7935, 8191, false), (512, 7679, 8191, true), (2047, 8181, 8191, true), (4095, 5119, 8191, false)] (by kernel_rfl) (by kernel_rfl) ?_|refine jbk rfl ?_|refine jcj rfl (fun hc => ?_) (fun hc => ?_))
  all_goals first|(exfalso;omega)|(exfalso;simp_all;done)|skip
  all_goals (apply jat;apply jau;(·apply jbc.t;(·(apply GvA.cons;(·(apply RV.cellN (n := 10);(·rfl);(·rfl);(·kernel_rfl);(·rfl)));(·(apply GvP.g;(·(apply GvL.cons (.lit _));(apply GvL.cons (.lit _));(apply GvL.cons (.lit _));((apply GvL.cons (.row _ _ _ _ rfl (by ((simp;done))))));((apply GvL.cons (.row _ _ _ _ rfl (by ((simp;done))))));(apply GvL.cons (.lit _));((apply GvL.cons (.row _ _ _ _ rfl (by ((simp;done))))));((apply GvL.cons (.row _ _ _ _ rfl (by ((simp;done))))));((apply GvL.cons (.row _ _ _ _ rfl (by ((simp;done))))));(apply GvL.cons (.lit _));exact GvL.nil))));(apply GvA.cons;(·exact .tmp _);(·exact GvP.c (.lit _)));exact GvA.nil);(·rfl);(·decide)))
  all_goals simp_all [List.map_set]
theorem make6_t (bx by_ bwh : Int) (bll : List (List Int)) (pl : List Int) (ev : Int) (cc : List (List Int)) (ss nu : List Int) (co : Int) (a : Int) (hb : boxB bx by_ bwh bll = true) (hp : bitsB pl (bx + by_) = true) (hs : sceneB ev cc ss = true) (hu : bitsB nu ev = true) : MK Tryz.prog 91 ⟨bx, by_, bwh, bll, pl, ev, cc, ss, nu, co⟩ 6 a := by
 have hl := jce hp
 have hn := jce hu
 have b := jbp hb
 have x1 := b.x1;have y1 := b.y1;have x3 := b.x3;have y3 := b.y3;have n1 := b.n1;have n2 := b.n2;have s := jcc hs;have e0 := s.e0;have e12 := s.e12;have hbl := b.len
 have hm := jdi (jcf.2 ⟨⟨x1, x3⟩, y1, y3⟩)
 clear b s
 have hat : ∀ h : inB a 0 (nu.length - 1) = true, 0 ≤ atZ nu a ∧ atZ nu a ≤ 1 := fun h => jda hu (by have := jcp.1 h;omega) (by have := jcp.1 h;omega)
 cases hA : inB a 0 (nu.length - 1) with
 | false =>
  refine jeo ⟨bx, by_, bwh, bll, pl, ev, cc, ss, nu, co⟩ (by simp [callT, hA]) ?_
  simp only [csH]
  refine jco Tryz.func91 rfl rfl rfl (by kernel_rfl) rfl rfl ?_;intro _
  repeat' (first|(refine jaa (.box 31 _) ?_;refine jbh rfl rfl ?_)|(refine jaa (.box 93 _) ?_;refine jbh rfl rfl ?_)|(refine jaa (.alloc 31) ?_;refine jav (zs := [.int .i64 0, .int .i64 0, .int .i64 0, .slice none 0 0, .slice none 0 0, .int .i64 0, .slice none 0 0, .slice none 0 0, .slice none 0 0, .int .i64 0]) (by kernel_rfl) rfl ?_)|refine zaa ?_|refine zbe ?_|refine zaf ?_|refine zai ?_|refine zbf ?_|refine zax ?_|refine zbj ?_|refine zan ?_|refine zah ?_|refine zar ?_|(refine jaa (.store 31 _ _) ?_;(refine jah rfl rfl rfl (by kernel_rfl) rfl rfl ?_))|refine zbo ?_|(refine jaa (.call ⟨.value (.func 55), _, _⟩) ?_;(apply jag (fid := 55);(·(repeat(first|exact SeA.nil|apply SeA.cons (.c (.d _)))));(·exact l1In_p _ _ _);(·rfl)))|refine jaj ?_|refine jak ?_|refine jai ?_|refine jan ?_|refine jab ?_|refine jbd 10 (fun i => i == 12) (.step 0 true (.step 1 true (.step 2 true (.step 3 true (.step 4 true (.step 5 true (.step 6 true (.step 7 true (.step 8 true (.step 9 true (.step 10 true (.step 11 true (.step 12 false .nil))))))))))))) [(0, 8191, 8191, true), (1, 8190, 8191, false), (0, 8191, 8191, true), (4, 8187, 8191, false), (0, 8191, 8191, true), (16, 8175, 8191, false), (0, 8191, 8191, true), (64, 8127, 8191, false), (160, 8031, 8191, true), (256, 7935, 8191, false), (512, 7679, 8191, true), (2047, 8181, 8191, true), (4095, 5119, 8191, false)] (by kernel_rfl) (by kernel_rfl) ?_|refine jbk rfl ?_|refine jbj rfl ?_|refine jcj rfl (fun hc => ?_) (fun hc => ?_))
  all_goals first|(exfalso;omega)|(exfalso;simp_all;done)|skip
  all_goals (apply jat;apply jau;(·apply jbc.t;(·(apply GvA.cons;(·(apply RV.cellN (n := 10);(·rfl);(·rfl);(·kernel_rfl);(·rfl)));(·(apply GvP.g;(·(apply GvL.cons (.lit _));(apply GvL.cons (.lit _));(apply GvL.cons (.lit _));((apply GvL.cons (.row _ _ _ _ rfl (by ((simp;done))))));((apply GvL.cons (.row _ _ _ _ rfl (by ((simp;done))))));(apply GvL.cons (.lit _));((apply GvL.cons (.row _ _ _ _ rfl (by ((simp;done))))));((apply GvL.cons (.row _ _ _ _ rfl (by ((simp;done))))));((apply GvL.cons (.row _ _ _ _ rfl (by ((simp;done))))));(apply GvL.cons (.lit _));exact GvL.nil))));(apply GvA.cons;(·exact .tmp _);(·exact GvP.c (.lit _)));exact GvA.nil);(·rfl);(·decide)))
  all_goals first|rfl|(simp_all;done)
 | true =>
  have h2 := hat hA
  have h3 := jcp.1 hA
  refine jfn ⟨bx, by_, bwh, bll, pl, ev, cc, ss, nu.set a.toNat (1 - atZ nu a), co⟩ (by simp [callT, hA]) ?_
  simp only [csH]
  refine jco Tryz.func91 rfl rfl rfl (by kernel_rfl) rfl rfl ?_;intro _
  repeat' (first|(refine jaa (.box 31 _) ?_;refine jbh rfl rfl ?_)|(refine jaa (.box 93 _) ?_;refine jbh rfl rfl ?_)|(refine jaa (.alloc 31) ?_;refine jav (zs := [.int .i64 0, .int .i64 0, .int .i64 0, .slice none 0 0, .slice none 0 0, .int .i64 0, .slice none 0 0, .slice none 0 0, .slice none 0 0, .int .i64 0]) (by kernel_rfl) rfl ?_)|refine zaa ?_|refine zbe ?_|(refine jaa (.load 3 _) ?_;(first|refine jac (jaf rfl rfl (by kernel_rfl) rfl) rfl ?_|refine jac (jdn rfl rfl (by kernel_rfl) (by omega) (by omega)) rfl ?_))|refine zai ?_|refine zbf ?_|refine zax ?_|refine zbj ?_|refine zan ?_|refine zah ?_|refine zar ?_|(refine jaa (.store 31 _ _) ?_;(refine jah rfl rfl rfl (by kernel_rfl) rfl rfl ?_))|refine zbr ?_|(refine jaa (.store 3 _ _) ?_;((refine jcl rfl rfl rfl rfl (.lit _) (by simp) (by simp) (by kernel_rfl) (by ((simp only [List.length_map, List.length_append, List.length_replicate, fillL_len, rowF_len, gridF_len, mkI_len, mkII_len, jdb] at *;omega))) rfl ?_;simp only [St.drop])))|refine zbo ?_|(refine jaa (.call ⟨.value (.func 55), _, _⟩) ?_;(apply jag (fid := 55);(·(repeat(first|exact SeA.nil|apply SeA.cons (.c (.d _)))));(·exact l1In_p _ _ _);(·rfl)))|refine jaj ?_|refine jak ?_|refine jai ?_|refine jan ?_|refine jab ?_|refine jbd 10 (fun i => i == 12) (.step 0 true (.step 1 true (.step 2 true (.step 3 true (.step 4 true (.step 5 true (.step 6 true (.step 7 true (.step 8 true (.step 9 true (.step 10 true (.step 11 true (.step 12 false .nil))))))))))))) [(0, 8191, 8191, true), (1, 8190, 8191, false), (0, 8191, 8191, true), (4, 8187, 8191, false), (0, 8191, 8191, true), (16, 8175, 8191, false), (0, 8191, 8191, true), (64, 8127, 8191, false), (160, 8031, 8191, true), (256, 7935, 8191, false), (512, 7679, 8191, true), (2047, 8181, 8191, true), (4095, 5119, 8191, false)] (by kernel_rfl) (by kernel_rfl) ?_|refine jbk rfl ?_|refine jbj rfl ?_|refine jcj rfl (fun hc => ?_) (fun hc => ?_))
  all_goals first|(exfalso;omega)|(exfalso;simp_all;done)|skip
  all_goals (apply jat;apply jau;(·apply jbc.t;(·(apply GvA.cons;(·(apply RV.cellN (n := 10);(·rfl);(·rfl);(·kernel_rfl);(·rfl)));(·(apply GvP.g;(·(apply GvL.cons (.lit _));(apply GvL.cons (.lit _));(apply GvL.cons (.lit _));((apply GvL.cons (.row _ _ _ _ rfl (by ((simp;done))))));((apply GvL.cons (.row _ _ _ _ rfl (by ((simp;done))))));(apply GvL.cons (.lit _));((apply GvL.cons (.row _ _ _ _ rfl (by ((simp;done))))));((apply GvL.cons (.row _ _ _ _ rfl (by ((simp;done))))));((apply GvL.cons (.row _ _ _ _ rfl (by ((simp;done))))));(apply GvL.cons (.lit _));exact GvL.nil))));(apply GvA.cons;(·exact .tmp _);(·exact GvP.c (.lit _)));exact GvA.nil);(·rfl);(·decide)))
  all_goals simp_all [List.map_set]
theorem make7_t (bx by_ bwh : Int) (bll : List (List Int)) (pl : List Int) (ev : Int) (cc : List (List Int)) (ss nu : List Int) (co : Int) (a : Int) (hb : boxB bx by_ bwh bll = true) (hp : bitsB pl (bx + by_) = true) (hs : sceneB ev cc ss = true) (hu : bitsB nu ev = true) : MK Tryz.prog 91 ⟨bx, by_, bwh, bll, pl, ev, cc, ss, nu, co⟩ 7 a := by
 have hl := jce hp
 have hn := jce hu
 have b := jbp hb
 have x1 := b.x1;have y1 := b.y1;have x3 := b.x3;have y3 := b.y3;have n1 := b.n1;have n2 := b.n2;have s := jcc hs;have e0 := s.e0;have e12 := s.e12;have hbl := b.len
 have hm := jdi (jcf.2 ⟨⟨x1, x3⟩, y1, y3⟩)
 clear b s
 cases hA : inB a 0 (ev - 1) with
 | false =>
  refine jeo ⟨bx, by_, bwh, bll, pl, 0, [], [], nu, co⟩ (by simp [callT, hA]) ?_
  simp only [csH]
  refine jco Tryz.func91 rfl rfl rfl (by kernel_rfl) rfl rfl ?_;intro _
  repeat' (first|(refine jaa (.box 31 _) ?_;refine jbh rfl rfl ?_)|(refine jaa (.box 93 _) ?_;refine jbh rfl rfl ?_)|(refine jaa (.alloc 31) ?_;refine jav (zs := [.int .i64 0, .int .i64 0, .int .i64 0, .slice none 0 0, .slice none 0 0, .int .i64 0, .slice none 0 0, .slice none 0 0, .slice none 0 0, .int .i64 0]) (by kernel_rfl) rfl ?_)|refine zaa ?_|refine zbe ?_|refine zaf ?_|refine zai ?_|refine zbf ?_|refine zar ?_|(refine jaa (.store 31 _ _) ?_;(refine jah rfl rfl rfl (by kernel_rfl) rfl rfl ?_))|refine zbl ?_|refine zay ?_|(refine jaa (.move _) ?_;(first|refine jac (jal rfl) rfl ?_|refine jac (jcg rfl) rfl ?_))|refine zak ?_|(refine jaa (.alloc 29) ?_;refine jav (zs := [.int .i64 0, .slice none 0 0, .slice none 0 0]) (by kernel_rfl) rfl ?_)|(refine jaa (.store 29 _ _) ?_;(refine jah rfl rfl rfl (by kernel_rfl) rfl rfl ?_))|(refine jaa (.call ⟨.value (.func 138), _, _⟩) ?_;(apply jbq (fid := 138);(·(repeat(first|exact SeA.nil|apply SeA.cons (.c (.d _))|(apply SeA.cons;(·(apply SeP.g;(repeat(first|exact SeL.nil|apply SeL.cons (.d _)|apply SeL.cons (.all _ _ _ _ rfl (by ((simp;done))))))))))));(·exact jiq _ _ _ _ (by simp_all));(·rfl);(·rfl)))|refine jaj ?_|refine jak ?_|refine jai ?_|refine jab ?_|refine jbk rfl ?_|refine jbj rfl ?_)
  all_goals first|(exfalso;omega)|(exfalso;simp_all;done)|skip
  all_goals (apply jat;apply jau;(·apply jbc.t;(·(apply GvA.cons;(·(apply RV.cellN (n := 10);(·rfl);(·rfl);(·kernel_rfl);(·rfl)));(·(apply GvP.g;(·(apply GvL.cons (.lit _));(apply GvL.cons (.lit _));(apply GvL.cons (.lit _));((apply GvL.cons (.row _ _ _ _ rfl (by ((simp;done))))));((apply GvL.cons (.row _ _ _ _ rfl (by ((simp;done))))));(apply GvL.cons (.lit _));((apply GvL.cons (.row _ _ _ _ rfl (by ((simp;done))))));((apply GvL.cons (.row _ _ _ _ rfl (by ((simp;done))))));((apply GvL.cons (.row _ _ _ _ rfl (by ((simp;done))))));(apply GvL.cons (.lit _));exact GvL.nil))));(apply GvA.cons;(·exact .tmp _);(·exact GvP.c (.lit _)));exact GvA.nil);(·rfl);(·decide)))
  all_goals first|rfl|(simp_all;done)
 | true =>
  refine jfn ⟨bx, by_, bwh, bll, pl, ev, cc, evL cc ss a, nu, co⟩ (by simp [callT, hA]) ?_
  simp only [csH]
  refine jco Tryz.func91 rfl rfl rfl (by kernel_rfl) rfl rfl ?_;intro _
  repeat' (first|(refine jaa (.box 31 _) ?_;refine jbh rfl rfl ?_)|(refine jaa (.box 93 _) ?_;refine jbh rfl rfl ?_)|(refine jaa (.alloc 31) ?_;refine jav (zs := [.int .i64 0, .int .i64 0, .int .i64 0, .slice none 0 0, .slice none 0 0, .int .i64 0, .slice none 0 0, .slice none 0 0, .slice none 0 0, .int .i64 0]) (by kernel_rfl) rfl ?_)|refine zaa ?_|refine zbe ?_|refine zaf ?_|refine zai ?_|refine zbf ?_|refine zar ?_|(refine jaa (.store 31 _ _) ?_;(refine jah rfl rfl rfl (by kernel_rfl) rfl rfl ?_))|refine zbl ?_|refine zay ?_|(refine jaa (.move _) ?_;(first|refine jac (jal rfl) rfl ?_|refine jac (jcg rfl) rfl ?_))|refine zak ?_|(refine jaa (.alloc 29) ?_;refine jav (zs := [.int .i64 0, .slice none 0 0, .slice none 0 0]) (by kernel_rfl) rfl ?_)|(refine jaa (.store 29 _ _) ?_;(refine jah rfl rfl rfl (by kernel_rfl) rfl rfl ?_))|(refine jaa (.call ⟨.value (.func 138), _, _⟩) ?_;(apply jbq (fid := 138);(·(repeat(first|exact SeA.nil|apply SeA.cons (.c (.d _))|(apply SeA.cons;(·(apply SeP.g;(repeat(first|exact SeL.nil|apply SeL.cons (.d _)|apply SeL.cons (.all _ _ _ _ rfl (by ((simp;done))))))))))));(·exact spFlipEvent_p _ _ _ _ hs hA);(·rfl);(·rfl)))|refine jaj ?_|refine jak ?_|refine jai ?_|refine jab ?_|refine jbk rfl ?_|refine jbj rfl ?_)
  all_goals first|(exfalso;omega)|(exfalso;simp_all;done)|skip
  all_goals (apply jat;apply jau;(·apply jbc.t;(·(apply GvA.cons;(·(apply RV.cellN (n := 10);(·rfl);(·rfl);(·kernel_rfl);(·rfl)));(·(apply GvP.g;(·(apply GvL.cons (.lit _));(apply GvL.cons (.lit _));(apply GvL.cons (.lit _));((apply GvL.cons (.row _ _ _ _ rfl (by ((simp;done))))));((apply GvL.cons (.row _ _ _ _ rfl (by ((simp;done))))));(apply GvL.cons (.lit _));((apply GvL.cons (.row _ _ _ _ rfl (by ((simp;done))))));((apply GvL.cons (.row _ _ _ _ rfl (by ((simp;done))))));((apply GvL.cons (.row _ _ _ _ rfl (by ((simp;done))))));(apply GvL.cons (.lit _));exact GvL.nil))));(apply GvA.cons;(·exact .tmp _);(·exact GvP.c (.lit _)));exact GvA.nil);(·rfl);(·decide)))
  all_goals first|rfl|(simp_all;done)
theorem jie (bx by_ bwh : Int) (bll : List (List Int)) (pl : List Int) (ev : Int) (cc : List (List Int)) (ss nu : List Int) (co : Int) (a : Int) (k : Int) (hk : ¬ (k = 2 ∨ k = 6 ∨ k = 7)) (hM : MK Tryz.prog 139 ⟨bx, by_, bwh, bll, pl, ev, cc, ss, nu, co⟩ k a) (hb : boxB bx by_ bwh bll = true) (hp : bitsB pl (bx + by_) = true) (hs : sceneB ev cc ss = true) (hu : bitsB nu ev = true) : MK Tryz.prog 91 ⟨bx, by_, bwh, bll, pl, ev, cc, ss, nu, co⟩ k a := by
 have hl := jce hp
 have hn := jce hu
 have b := jbp hb
 have x1 := b.x1;have y1 := b.y1;have x3 := b.x3;have y3 := b.y3;have n1 := b.n1;have n2 := b.n2;have s := jcc hs;have e0 := s.e0;have e12 := s.e12;have hbl := b.len
 have hm := jdi (jcf.2 ⟨⟨x1, x3⟩, y1, y3⟩)
 clear b s
 unfold MK at hM
 cases hc : callT ⟨bx, by_, bwh, bll, pl, ev, cc, ss, nu, co⟩ k a with
 | some h' =>
  obtain ⟨bx', by'', bwh', bll', pl', ev', cc', ss', nu', co'⟩ := h'
  rw [hc] at hM
  simp only [csH] at hM
  refine jfn _ hc ?_
  simp only [csH]
  refine jco Tryz.func91 rfl rfl rfl (by kernel_rfl) rfl rfl ?_;intro _
  repeat' (first|(refine jaa (.box 31 _) ?_;refine jbh rfl rfl ?_)|(refine jaa (.box 93 _) ?_;refine jbh rfl rfl ?_)|(refine jaa (.alloc 31) ?_;refine jav (zs := [.int .i64 0, .int .i64 0, .int .i64 0, .slice none 0 0, .slice none 0 0, .int .i64 0, .slice none 0 0, .slice none 0 0, .slice none 0 0, .int .i64 0]) (by kernel_rfl) rfl ?_)|refine zaa ?_|refine zbe ?_|refine zaf ?_|refine zai ?_|refine zbf ?_|refine zbd ?_|refine zax ?_|refine zbj ?_|refine zan ?_|refine zar ?_|(refine jaa (.store 31 _ _) ?_;(refine jah rfl rfl rfl (by kernel_rfl) rfl rfl ?_))|refine zbo ?_|refine zbl ?_|refine zay ?_|refine zak ?_|refine zbz ?_|(refine jaa (.call ⟨.value (.func 139), _, _⟩) ?_;(apply jej (fid := 139);(·(repeat(first|exact jhd.nil|(apply jhd.g rfl;(·(repeat(first|exact GvM.nil|apply GvM.cons (.lit _)|apply GvM.cons (.row _ _ _ _ rfl (by ((simp;done)))))))))));(·decide);(·exact hM);(·rfl);(·rfl);(·rfl)))|refine jaj ?_|refine jak ?_|refine jai ?_|refine jaz ?_|refine jan ?_|refine jab ?_|refine jbi rfl (fun hc => ?_) (fun hc => ?_))
  all_goals first|(exfalso;omega)|(exfalso;simp_all;done)|skip
  all_goals (apply jat;apply jau;(·apply jbc.t;(·(apply GvA.cons;(·(apply RV.cellN (n := 10);(·rfl);(·rfl);(·kernel_rfl);(·rfl)));(·(apply GvP.g;(·(apply GvL.cons (.lit _));(apply GvL.cons (.lit _));(apply GvL.cons (.lit _));((apply GvL.cons (.row _ _ _ _ rfl (by ((simp;done))))));((apply GvL.cons (.row _ _ _ _ rfl (by ((simp;done))))));(apply GvL.cons (.lit _));((apply GvL.cons (.row _ _ _ _ rfl (by ((simp;done))))));((apply GvL.cons (.row _ _ _ _ rfl (by ((simp;done))))));((apply GvL.cons (.row _ _ _ _ rfl (by ((simp;done))))));(apply GvL.cons (.lit _));exact GvL.nil))));(apply GvA.cons;(·exact .tmp _);(·exact GvP.c (.lit _)));exact GvA.nil);(·rfl);(·decide)))
  all_goals first|rfl|(simp_all;done)
 | none =>
  rw [hc] at hM
  obtain ⟨⟨bx', by'', bwh', bll', pl', ev', cc', ss', nu', co'⟩, hM⟩ := hM
  simp only [csH] at hM
  refine jeo ⟨bx', by'', bwh', bll', pl', ev', cc', ss', nu', co'⟩ hc ?_
  simp only [csH]
  refine jco Tryz.func91 rfl rfl rfl (by kernel_rfl) rfl rfl ?_;intro _
  repeat' (first|(refine jaa (.box 31 _) ?_;refine jbh rfl rfl ?_)|(refine jaa (.box 93 _) ?_;refine jbh rfl rfl ?_)|(refine jaa (.alloc 31) ?_;refine jav (zs := [.int .i64 0, .int .i64 0, .int .i64 0, .slice none 0 0, .slice none 0 0, .int .i64 0, .slice none 0 0, .slice none 0 0, .slice none 0 0, .int .i64 0]) (by kernel_rfl) rfl ?_)|refine zaa ?_|refine zbe ?_|refine zaf ?_|refine zai ?_|refine zbf ?_|refine zbd ?_|refine zax ?_|refine zbj ?_|refine zan ?_|refine zar ?_|(refine jaa (.store 31 _ _) ?_;(refine jah rfl rfl rfl (by kernel_rfl) rfl rfl ?_))|refine zbo ?_|refine zbl ?_|refine zay ?_|refine zak ?_|refine zbz ?_|(refine jaa (.call ⟨.value (.func 139), _, _⟩) ?_;(apply jej (fid := 139);(·(repeat(first|exact jhd.nil|(apply jhd.g rfl;(·(repeat(first|exact GvM.nil|apply GvM.cons (.lit _)|apply GvM.cons (.row _ _ _ _ rfl (by ((simp;done)))))))))));(·decide);(·exact hM);(·rfl);(·rfl);(·rfl)))|refine jaj ?_|refine jak ?_|refine jai ?_|refine jaz ?_|refine jan ?_|refine jab ?_|refine jbi rfl (fun hc => ?_) (fun hc => ?_))
  all_goals first|(exfalso;omega)|(exfalso;simp_all;done)|skip
  all_goals (apply jat;apply jau;(·apply jbc.t;(·(apply GvA.cons;(·(apply RV.cellN (n := 10);(·rfl);(·rfl);(·kernel_rfl);(·rfl)));(·(apply GvP.g;(·(apply GvL.cons (.lit _));(apply GvL.cons (.lit _));(apply GvL.cons (.lit _));((apply GvL.cons (.row _ _ _ _ rfl (by ((simp;done))))));((apply GvL.cons (.row _ _ _ _ rfl (by ((simp;done))))));(apply GvL.cons (.lit _));((apply GvL.cons (.row _ _ _ _ rfl (by ((simp;done))))));((apply GvL.cons (.row _ _ _ _ rfl (by ((simp;done))))));((apply GvL.cons (.row _ _ _ _ rfl (by ((simp;done))))));(apply GvL.cons (.lit _));exact GvL.nil))));(apply GvA.cons;(·exact .tmp _);(·exact GvP.c (.lit _)));exact GvA.nil);(·rfl);(·decide)))
  all_goals first|rfl|(simp_all;done)
theorem l12Make_t (bx by_ bwh : Int) (bll : List (List Int)) (pl : List Int) (ev : Int) (cc : List (List Int)) (ss nu : List Int) (co : Int) (a : Int) (k : Int) (hv : HV ⟨bx, by_, bwh, bll, pl, ev, cc, ss, nu, co⟩) : MK Tryz.prog 91 ⟨bx, by_, bwh, bll, pl, ev, cc, ss, nu, co⟩ k a := by
 obtain ⟨hb, hp, hs, hu⟩ := hv
 by_cases hk : k = 1 ∨ k = 2 ∨ k = 3 ∨ k = 4 ∨ k = 5 ∨ k = 6 ∨ k = 7
 ·rcases hk with rfl|rfl|rfl|rfl|rfl|rfl|rfl
  ·exact jie bx by_ bwh bll pl ev cc ss nu co a 1 (by decide) (box1_t bx by_ bwh bll pl ev cc ss nu co a hb hp hs hu) hb hp hs hu
  ·exact make2_t bx by_ bwh bll pl ev cc ss nu co a hb hp hs hu
  ·exact jie bx by_ bwh bll pl ev cc ss nu co a 3 (by decide) (box3_t bx by_ bwh bll pl ev cc ss nu co a hb hp hs hu) hb hp hs hu
  ·exact jie bx by_ bwh bll pl ev cc ss nu co a 4 (by decide) (box4_t bx by_ bwh bll pl ev cc ss nu co a hb hp hs hu) hb hp hs hu
  ·exact jie bx by_ bwh bll pl ev cc ss nu co a 5 (by decide) (box5_t bx by_ bwh bll pl ev cc ss nu co a hb hp hs hu) hb hp hs hu
  ·exact make6_t bx by_ bwh bll pl ev cc ss nu co a hb hp hs hu
  ·exact make7_t bx by_ bwh bll pl ev cc ss nu co a hb hp hs hu
 ·exact jie bx by_ bwh bll pl ev cc ss nu co a k (by omega) (boxO_t bx by_ bwh bll pl ev cc ss nu co a k hk hb hp hs hu) hb hp hs hu
theorem l12Own_p (bx by_ bwh : Int) (bll : List (List Int)) (pl : List Int) (ev : Int) (cc : List (List Int)) (ss nu : List Int) (co : Int) (h1 : bll.length ≤ 1000000) (h2 : ∀ r ∈ bll, r.length ≤ 1000000) (h3 : cc.length ≤ 1000000) (h4 : ∀ r ∈ cc, r.length ≤ 1000000)
  (h5 : pl.length ≤ 1000000) (h6 : ss.length ≤ 1000000) (h7 : nu.length ≤ 1000000) :
  PC Tryz.prog 87 [.g [dI bx, dI by_, dI bwh, eII bll, eI pl, dI ev, eII cc, eI ss, eI nu, dI co]] (.p (.g [dI bx, dI by_, dI bwh, eII bll, eI pl, dI ev, eII cc, eI ss, eI nu, dI co])) := by
 refine jaq Tryz.func87 rfl rfl rfl (by kernel_rfl) rfl rfl ?_;intro _
 repeat' (first|(refine jaa (.box 31 _) ?_;refine jbh rfl rfl ?_)|(refine jaa (.alloc 31) ?_;refine jav (zs := [.int .i64 0, .int .i64 0, .int .i64 0, .slice none 0 0, .slice none 0 0, .int .i64 0, .slice none 0 0, .slice none 0 0, .slice none 0 0, .int .i64 0]) (by kernel_rfl) rfl ?_)|refine zar ?_|(refine jaa (.store 31 _ _) ?_;(refine jah rfl rfl rfl (by kernel_rfl) rfl rfl ?_))|(refine jaa (.buildSlice 24 0 _) ?_;(apply jao (sz := 1) (by_ := 24);(·kernel_rfl);(·decide);(·(repeat(exact GvS.nil _)));(·decide);(·rfl);(·rfl);(·rfl)))|refine zaz ?_|refine zal ?_|(refine jaa (.store 24 _ _) ?_;(refine jax rfl rfl rfl rfl (by kernel_rfl) rfl rfl ?_))|refine zaa ?_|refine jaj ?_|refine jak ?_|refine jai ?_|refine jab ?_)
 apply jay [1, 2, 3, 4] [1, 2, 3, 7, 27, 28, 29, 34, 36, 56, 57, 58, 64, 69] rfl;(·(repeat(first|exact Pf.nil|apply Pf.cons (.c rfl (.d rfl))|apply Pf.cons (.c rfl (.lp rfl)))));(·(repeat(first|exact Pb.nil|apply Pb.cons (.row rfl)|(apply Pb.cons;(·apply Nb.box rfl;(repeat(first|exact Ncs.nil rfl|(apply Ncs.cons rfl;(·(first|exact .d rfl|exact .ls rfl)))))))|apply Pb.skip)))
 refine jbb [1, 2, 3] [1, 2, 27, 28, 29, 34, 36, 56, 57, 58, 64, 69] (fun i => [(4, iN i)]) (fun i => [(3, .box [.d (dI bx), .d (dI by_), .d (dI bwh), .ls 7 1 0 i, .d (eI pl), .d (dI ev), .d (eII cc), .d (eI ss), .d (eI nu), .d (dI co)]), (7, .row 1 (cII (bll.take i)))]) (fun i => i ≤ bll.length) (fun i => bll.length - i) (0) ?_ (by (repeat(first|exact trivial|refine ⟨(by rfl), ?_⟩))) (by (repeat(first|exact trivial|refine ⟨(by (first|(refine jbm rfl ?_;simp;done)|(refine jcs rfl ?_;simp;done))), ?_⟩))) ?_
 ·omega
 intro i hi
 have L0 : (bll.take i).length = i := by simp;omega
 by_cases hi2 : i < bll.length
 ·have hr := h2 _ (jdz hi2)
  have e := List.take_succ_eq_append_getElem hi2
  rw [← jbw hi2] at e
  repeat' (first|(refine jaa (.buildSlice 24 0 _) ?_;(apply jao (sz := 1) (by_ := 24);(·kernel_rfl);(·decide);(·(repeat(exact GvS.nil _)));(·decide);(·rfl);(·rfl);(·rfl)))|refine zaz ?_|refine zal ?_|(refine jaa (.store 24 _ _) ?_;(refine jax rfl rfl rfl rfl (by kernel_rfl) rfl rfl ?_))|refine zaa ?_|refine zab ?_|refine zaj ?_|refine zau ?_|refine zac ?_|refine zam ?_|(refine jaa (.load 27 _) ?_;(first|refine jac (jaf rfl rfl (by kernel_rfl) rfl) rfl ?_|refine jac (jap rfl (by kernel_rfl) rfl) rfl ?_))|(refine jaa (.buildSlice 24 1 _) ?_;(apply jao (sz := 1) (by_ := 24);(·kernel_rfl);(·decide);(·(repeat(first|exact GvS.nil _|apply GvS.c rfl rfl (.row _ _ _ _ rfl (by ((simp;done)))) rfl)));(·decide);(·rfl);(·rfl);(·rfl)))|(refine jaa (.call ⟨.builtin .append, _, #[24, 24]⟩) ?_;((apply jbo (sz := 1) (by_ := 24);(·rfl);(·rfl);(·((simp;omega)));(·exact .row _ _ _ _ rfl (by ((simp;done))));(·decide);(·kernel_rfl);(·decide);(·omega);(·omega);(·rfl);(·rfl);(·rfl))))|refine zad ?_|refine zbd ?_|(refine jaa (.store 27 _ _) ?_;(refine jax rfl rfl rfl rfl (by kernel_rfl) rfl rfl ?_))|refine zbl ?_|refine zbg ?_|(refine jaa (.call ⟨.value (.func 47), _, _⟩) ?_;(apply jbq (fid := 47);(·(repeat(first|exact SeA.nil|apply SeA.cons (.c (.d _)))));(·exact l1Own_p _ (by omega));(·rfl);(·rfl)))|refine jaj ?_|refine jak ?_|refine jai ?_|refine jaz ?_|refine jar rfl ?_|refine jan ?_|refine jab ?_|refine jbd 6 (fun i => i == 11 || i == 14) (.step 0 true (.step 1 true (.step 2 true (.step 3 true (.step 4 true (.step 5 true (.step 6 true (.step 7 true (.step 8 true (.step 9 false (.step 10 false (.step 11 false (.step 12 true (.step 13 true (.step 14 false .nil))))))))))))))) [(0, 32767, 32767, true), (1, 32766, 32767, true), (2, 32765, 32767, false), (0, 32767, 32767, true), (8, 32759, 32767, true), (16, 32751, 32767, false), (0, 32767, 32767, true), (96, 32671, 32767, true), (128, 32639, 32767, false), (256, 32511, 32767, false), (512, 32255, 32767, false), (1540, 31739, 32767, false), (4095, 32767, 30719, true), (8191, 28671, 30719, true), (12287, 22527, 30719, false)] (by kernel_rfl) (by kernel_rfl) ?_|refine jbi rfl (fun hc => ?_) (fun hc => ?_))
  all_goals first|(exfalso;omega)|skip
  refine jba ?_;refine ⟨i + 1, ?_, ?_, jbx rfl (by (repeat(first|exact trivial|refine ⟨(by rfl), ?_⟩))) (by (repeat(first|exact trivial|refine ⟨rfl, ?_⟩))) (by (repeat(first|exact trivial|refine ⟨(by (first|(refine jbm rfl ?_;simp  [e];done)|rfl)), ?_⟩))) (by (repeat(first|exact trivial|refine ⟨.inr rfl, ?_⟩)))⟩
  ·omega
  ·omega
 ·have h8 : i = bll.length := by omega
  subst h8
  rw [List.take_length]
  repeat' (first|(refine jaa (.buildSlice 24 0 _) ?_;(apply jao (sz := 1) (by_ := 24);(·kernel_rfl);(·decide);(·(repeat(exact GvS.nil _)));(·decide);(·rfl);(·rfl);(·rfl)))|refine zaz ?_|refine zal ?_|(refine jaa (.store 24 _ _) ?_;(refine jax rfl rfl rfl rfl (by kernel_rfl) rfl rfl ?_))|refine zaa ?_|refine zab ?_|refine zaj ?_|refine zau ?_|refine zac ?_|refine zam ?_|(refine jaa (.load 27 _) ?_;(first|refine jac (jaf rfl rfl (by kernel_rfl) rfl) rfl ?_|refine jac (jap rfl (by kernel_rfl) rfl) rfl ?_))|(refine jaa (.buildSlice 24 1 _) ?_;(apply jao (sz := 1) (by_ := 24);(·kernel_rfl);(·decide);(·(repeat(first|exact GvS.nil _|apply GvS.c rfl rfl (.row _ _ _ _ rfl (by ((simp;done)))) rfl)));(·decide);(·rfl);(·rfl);(·rfl)))|(refine jaa (.call ⟨.builtin .append, _, #[24, 24]⟩) ?_;((apply jbo (sz := 1) (by_ := 24);(·rfl);(·rfl);(·((simp;done)));(·exact .row _ _ _ _ rfl (by ((simp;done))));(·decide);(·kernel_rfl);(·decide);(·omega);(·omega);(·rfl);(·rfl);(·rfl))))|refine zad ?_|refine zbd ?_|(refine jaa (.store 27 _ _) ?_;(refine jax rfl rfl rfl rfl (by kernel_rfl) rfl rfl ?_))|refine zbl ?_|refine zbg ?_|(refine jaa (.call ⟨.value (.func 47), _, _⟩) ?_;(apply jbq (fid := 47);(·(repeat(first|exact SeA.nil|apply SeA.cons (.c (.d _)))));(·exact l1Own_p _ (by omega));(·rfl);(·rfl)))|refine jaj ?_|refine jak ?_|refine jai ?_|refine jaz ?_|refine jar rfl ?_|refine jan ?_|refine jab ?_|refine jbd 6 (fun i => i == 11 || i == 14) (.step 0 true (.step 1 true (.step 2 true (.step 3 true (.step 4 true (.step 5 true (.step 6 true (.step 7 true (.step 8 true (.step 9 false (.step 10 false (.step 11 false (.step 12 true (.step 13 true (.step 14 false .nil))))))))))))))) [(0, 32767, 32767, true), (1, 32766, 32767, true), (2, 32765, 32767, false), (0, 32767, 32767, true), (8, 32759, 32767, true), (16, 32751, 32767, false), (0, 32767, 32767, true), (96, 32671, 32767, true), (128, 32639, 32767, false), (256, 32511, 32767, false), (512, 32255, 32767, false), (1540, 31739, 32767, false), (4095, 32767, 30719, true), (8191, 28671, 30719, true), (12287, 22527, 30719, false)] (by kernel_rfl) (by kernel_rfl) ?_|refine jbi rfl (fun hc => ?_) (fun hc => ?_))
  all_goals first|(exfalso;omega)|skip
  apply jay [1, 2, 3, 5] [1, 2, 3, 7, 27, 28, 29, 34, 36, 56, 57, 58, 64, 69] rfl;(·(repeat(first|exact Pf.nil|apply Pf.cons (.c rfl (.d rfl))|apply Pf.cons (.c rfl (.lp rfl)))));(·(repeat(first|exact Pb.nil|apply Pb.cons (.row rfl)|(apply Pb.cons;(·apply Nb.box rfl;(repeat(first|exact Ncs.nil rfl|(apply Ncs.cons rfl;(·(first|exact .d rfl|exact .ls rfl)))))))|apply Pb.skip)))
  refine jbb [1, 2, 3] [1, 2, 7, 27, 28, 29, 34, 56, 57, 58, 64, 69] (fun i => [(5, iN i)]) (fun i => [(3, .box [.d (dI bx), .d (dI by_), .d (dI bwh), .ls 7 1 0 bll.length, .ls 34 1 0 pl.length, .d (dI ev), .ls 36 1 0 i, .d (eI ss), .d (eI nu), .d (dI co)]), (36, .row 1 (cII (cc.take i)))]) (fun i => i ≤ cc.length) (fun i => cc.length - i) (0) ?_ (by (repeat(first|exact trivial|refine ⟨(by rfl), ?_⟩))) (by (repeat(first|exact trivial|refine ⟨(by (first|(refine jbm rfl ?_;simp;done)|(refine jcs rfl ?_;simp;done))), ?_⟩))) ?_
  ·omega
  intro i hi
  have L0 : (cc.take i).length = i := by simp;omega
  by_cases hi2 : i < cc.length
  ·have hr := h4 _ (jdz hi2)
   have e := List.take_succ_eq_append_getElem hi2
   rw [← jbw hi2] at e
   repeat' (first|refine zar ?_|(refine jaa (.store 31 _ _) ?_;(refine jah rfl rfl rfl (by kernel_rfl) rfl rfl ?_))|(refine jaa (.store 24 _ _) ?_;(refine jax rfl rfl rfl rfl (by kernel_rfl) rfl rfl ?_))|refine zaa ?_|refine zab ?_|refine zaj ?_|refine zau ?_|refine zac ?_|refine zam ?_|(refine jaa (.load 27 _) ?_;(first|refine jac (jaf rfl rfl (by kernel_rfl) rfl) rfl ?_|refine jac (jap rfl (by kernel_rfl) rfl) rfl ?_))|(refine jaa (.buildSlice 24 1 _) ?_;(apply jao (sz := 1) (by_ := 24);(·kernel_rfl);(·decide);(·(repeat(first|exact GvS.nil _|apply GvS.c rfl rfl (.row _ _ _ _ rfl (by ((simp;done)))) rfl)));(·decide);(·rfl);(·rfl);(·rfl)))|(refine jaa (.call ⟨.builtin .append, _, #[24, 24]⟩) ?_;((apply jbo (sz := 1) (by_ := 24);(·rfl);(·rfl);(·((simp;omega)));(·exact .row _ _ _ _ rfl (by ((simp;done))));(·decide);(·kernel_rfl);(·decide);(·omega);(·omega);(·rfl);(·rfl);(·rfl))))|refine zad ?_|(refine jaa (.store 27 _ _) ?_;(refine jax rfl rfl rfl rfl (by kernel_rfl) rfl rfl ?_))|refine zbl ?_|refine zbg ?_|refine zbk ?_|refine zbo ?_|(refine jaa (.call ⟨.value (.func 47), _, _⟩) ?_;(apply jbq (fid := 47);(·(repeat(first|exact SeA.nil|apply SeA.cons (.c (.d _)))));(·exact l1Own_p _ (by omega));(·rfl);(·rfl)))|refine jaj ?_|refine jak ?_|refine jai ?_|refine jaz ?_|refine jar rfl ?_|refine jan ?_|refine jab ?_|refine jbd 12 (fun i => i == 11 || i == 14) (.step 0 true (.step 1 true (.step 2 true (.step 3 true (.step 4 true (.step 5 true (.step 6 true (.step 7 true (.step 8 true (.step 9 false (.step 10 false (.step 11 false (.step 12 true (.step 13 true (.step 14 false .nil))))))))))))))) [(0, 32767, 32767, true), (1, 32766, 32767, true), (2, 32765, 32767, false), (0, 32767, 32767, true), (8, 32759, 32767, true), (16, 32751, 32767, false), (0, 32767, 32767, true), (96, 32671, 32767, true), (128, 32639, 32767, false), (256, 32511, 32767, false), (512, 32255, 32767, false), (1540, 31739, 32767, false), (4095, 32767, 30719, true), (8191, 28671, 30719, true), (12287, 22527, 30719, false)] (by kernel_rfl) (by kernel_rfl) ?_|refine jbi rfl (fun hc => ?_) (fun hc => ?_))
   all_goals first|(exfalso;omega)|skip
   refine jba ?_;refine ⟨i + 1, ?_, ?_, jbx rfl (by (repeat(first|exact trivial|refine ⟨(by rfl), ?_⟩))) (by (repeat(first|exact trivial|refine ⟨rfl, ?_⟩))) (by (repeat(first|exact trivial|refine ⟨(by (first|(refine jbm rfl ?_;simp  [e];done)|rfl)), ?_⟩))) (by (repeat(first|exact trivial|refine ⟨.inr rfl, ?_⟩)))⟩
   ·omega
   ·omega
  ·have h8 : i = cc.length := by omega
   subst h8
   rw [List.take_length]
   repeat' (first|refine zar ?_|(refine jaa (.store 31 _ _) ?_;(refine jah rfl rfl rfl (by kernel_rfl) rfl rfl ?_))|(refine jaa (.store 24 _ _) ?_;(refine jax rfl rfl rfl rfl (by kernel_rfl) rfl rfl ?_))|refine zaa ?_|refine zab ?_|refine zaj ?_|refine zau ?_|refine zac ?_|refine zam ?_|(refine jaa (.load 27 _) ?_;(first|refine jac (jaf rfl rfl (by kernel_rfl) rfl) rfl ?_|refine jac (jap rfl (by kernel_rfl) rfl) rfl ?_))|(refine jaa (.buildSlice 24 1 _) ?_;(apply jao (sz := 1) (by_ := 24);(·kernel_rfl);(·decide);(·(repeat(first|exact GvS.nil _|apply GvS.c rfl rfl (.row _ _ _ _ rfl (by ((simp;done)))) rfl)));(·decide);(·rfl);(·rfl);(·rfl)))|(refine jaa (.call ⟨.builtin .append, _, #[24, 24]⟩) ?_;((apply jbo (sz := 1) (by_ := 24);(·rfl);(·rfl);(·((simp;done)));(·exact .row _ _ _ _ rfl (by ((simp;done))));(·decide);(·kernel_rfl);(·decide);(·omega);(·omega);(·rfl);(·rfl);(·rfl))))|refine zad ?_|(refine jaa (.store 27 _ _) ?_;(refine jax rfl rfl rfl rfl (by kernel_rfl) rfl rfl ?_))|refine zbl ?_|refine zbg ?_|refine zbk ?_|refine zbo ?_|(refine jaa (.call ⟨.value (.func 47), _, _⟩) ?_;(apply jbq (fid := 47);(·(repeat(first|exact SeA.nil|apply SeA.cons (.c (.d _)))));(·exact l1Own_p _ (by omega));(·rfl);(·rfl)))|refine jaj ?_|refine jak ?_|refine jai ?_|refine jaz ?_|refine jar rfl ?_|refine jan ?_|refine jab ?_|refine jbd 12 (fun i => i == 11 || i == 14) (.step 0 true (.step 1 true (.step 2 true (.step 3 true (.step 4 true (.step 5 true (.step 6 true (.step 7 true (.step 8 true (.step 9 false (.step 10 false (.step 11 false (.step 12 true (.step 13 true (.step 14 false .nil))))))))))))))) [(0, 32767, 32767, true), (1, 32766, 32767, true), (2, 32765, 32767, false), (0, 32767, 32767, true), (8, 32759, 32767, true), (16, 32751, 32767, false), (0, 32767, 32767, true), (96, 32671, 32767, true), (128, 32639, 32767, false), (256, 32511, 32767, false), (512, 32255, 32767, false), (1540, 31739, 32767, false), (4095, 32767, 30719, true), (8191, 28671, 30719, true), (12287, 22527, 30719, false)] (by kernel_rfl) (by kernel_rfl) ?_|refine jbi rfl (fun hc => ?_) (fun hc => ?_))
   all_goals first|(exfalso;omega)|skip
   (apply jat;apply jau;(·apply jbc.p;(·(apply GvA.cons;(·(apply RV.cellN (n := 10);(·rfl);(·rfl);(·kernel_rfl);(·rfl)));(·(apply GvP.g;(·(apply GvL.cons (.lit _));(apply GvL.cons (.lit _));(apply GvL.cons (.lit _));((apply GvL.cons (.row _ _ _ _ rfl (by ((simp;done))))));((apply GvL.cons (.row _ _ _ _ rfl (by ((simp;done))))));(apply GvL.cons (.lit _));((apply GvL.cons (.row _ _ _ _ rfl (by ((simp;done))))));((apply GvL.cons (.row _ _ _ _ rfl (by ((simp;done))))));((apply GvL.cons (.row _ _ _ _ rfl (by ((simp;done))))));(apply GvL.cons (.lit _));exact GvL.nil))));exact GvA.nil);(·decide)))
   rfl
theorem l12Do_p (bx by_ bwh : Int) (bll : List (List Int)) (pl : List Int) (ev : Int) (cc : List (List Int)) (ss nu : List Int) (co k a : Int) (rx ry rwh : Int) (rll : List (List Int)) (rpl : List Int) (rev : Int) (rcc : List (List Int)) (rss rnu : List Int) (rco : Int) (ok : Bool) (hB : hallB bx by_ bwh bll pl ev cc ss nu co = true) (hN : nextT ⟨bx, by_, bwh, bll, pl, ev, cc, ss, nu, co⟩ k a = (⟨rx, ry, rwh, rll, rpl, rev, rcc, rss, rnu, rco⟩, ok)) : PC Tryz.prog 44 [.g [dI bx, dI by_, dI bwh, eII bll, eI pl, dI ev, eII cc, eI ss, eI nu, dI co], .g [dI k, dI a]] (.t [.g [dI rx, dI ry, dI rwh, eII rll, eI rpl, dI rev, eII rcc, eI rss, eI rnu, dI rco], .c (dB ok)]) := by
 have d := jgm hB
 have bl := d.bl;have br := d.br;have cl := d.cl;have cr := d.cr;have sl := d.sl;have pl6 := d.pl6;have nl := d.nl
 have hco := jcp.1 (jed hB).co
 have hM := l12Make_t bx by_ bwh bll pl ev cc ss nu co a k (hallB_hv hB co)
 unfold MK at hM
 cases hcT : callT ⟨bx, by_, bwh, bll, pl, ev, cc, ss, nu, co⟩ k a with
 | none =>
  rw [hcT] at hM
  obtain ⟨⟨tx, ty, twh, tll, tpl, tev, tcc, tss, tnu, tco⟩, hM⟩ := hM
  simp only [csH] at hM
  simp only [nextT, hcT, zeroH, Prod.mk.injEq, HD.mk.injEq] at hN
  obtain ⟨⟨rfl, rfl, rfl, rfl, rfl, rfl, rfl, rfl, rfl, rfl⟩, rfl⟩ := hN
  refine jaq Tryz.func44 rfl rfl rfl (by kernel_rfl) rfl rfl ?_;intro _
  repeat' (first|(with_reducible apply jfb)|intro Y hY|((with_reducible apply jdo);(·assumption);(·rfl);(·exact (by (repeat(first|exact trivial|refine ⟨rfl, ?_⟩))));(·exact (by (repeat(first|exact trivial|refine ⟨rfl, ?_⟩)))))|((with_reducible apply jdy);(·rfl);(·(repeat(first|exact Pf.nil|apply Pf.cons (.c rfl (.d rfl))|apply Pf.cons (.c rfl (.lp rfl))|(apply Pf.cons;(·apply Nv.g rfl;(repeat(first|exact Ncs.nil rfl|(apply Ncs.cons rfl;(·(first|exact .d rfl|exact .ls rfl)))))))|apply Pf.skip)));(·(repeat(first|exact Pb.nil|apply Pb.cons (.row rfl)|(apply Pb.cons;(·apply Nb.box rfl;(repeat(first|exact Ncs.nil rfl|(apply Ncs.cons rfl;(·(exact .d rfl)))))))|apply Pb.skip)));(·assumption))|refine jcm ?_ ?_|(refine jaa (.box 31 _) ?_;refine jbh rfl rfl ?_)|(refine jaa (.box 93 _) ?_;refine jbh rfl rfl ?_)|(refine jaa (.alloc 31) ?_;refine jav (zs := [.int .i64 0, .int .i64 0, .int .i64 0, .slice none 0 0, .slice none 0 0, .int .i64 0, .slice none 0 0, .slice none 0 0, .slice none 0 0, .int .i64 0]) (by kernel_rfl) rfl ?_)|refine zaa ?_|refine zar ?_|refine zbz ?_|(refine jaa (.move _) ?_;(first|refine jac (jal rfl) rfl ?_|refine jac (jcg rfl) rfl ?_))|refine zak ?_|(refine jaa (.store 31 _ _) ?_;(refine jah rfl rfl rfl (by kernel_rfl) rfl rfl ?_))|refine zby ?_|refine zaf ?_|refine zad ?_|(refine jaa (.store 3 _ _) ?_;(refine jax rfl rfl rfl rfl (by kernel_rfl) rfl rfl ?_))|refine zah ?_|refine zag ?_|refine zcl ?_|(refine jaa (.call ⟨.value (.func 87), _, _⟩) ?_;((apply jbq (fid := 87);(·(repeat(first|exact SeA.nil|(apply SeA.cons;(·(apply SeP.g;(repeat(first|exact SeL.nil|apply SeL.cons (.d _)))))))));(·exact l12Own_p _ _ _ _ _ _ _ _ _ _ (by omega) br (by omega) cr (by omega) (by omega) (by omega));(·rfl);(·rfl))))|(refine jaa (.call ⟨.value (.func 91), _, _⟩) ?_;(apply jej (fid := 91);(·(repeat(first|exact jhd.nil|(apply jhd.g rfl;(·(repeat(first|exact GvM.nil|apply GvM.cons (.lit _)|apply GvM.cons (.row _ _ _ _ rfl (by ((simp;done)))))))))));(·decide);(·exact hM);(·rfl);(·rfl);(·rfl)))|refine jaj ?_|refine jbn rfl rfl rfl rfl ?_|refine jak ?_|refine jab ?_|refine jbd 1 (fun i => i == 1 || i == 3 || i == 8) (IT.lt (.step 8 false (.step 9 true .nil)) fun Y3 => (IT.lt (.step 3 false (.step 4 true (.step 5 true (.step 6 true (IT.ref false [2, 4, 6, 7, 13, 14] [2, 3, 4, 3010, 4010, 6010, 7010, 8010, 3012, 4012, 6012, 7012, 8012, 6] Y3))))) fun Y2 => (IT.lt (.alt 1 (.step 3 false (.step 4 true (.step 5 true (.step 6 true (.step 7 false (IT.ref true [2, 4, 6, 7, 13, 14] [2, 3, 4, 3010, 4010, 6010, 7010, 8010, 3012, 4012, 6012, 7012, 8012, 6] Y3)))))) (.step 7 false (IT.ref false [2, 4, 6, 7, 10, 11] [2, 3, 4, 3010, 4010, 6010, 7010, 8010, 3012, 4012, 6012, 7012, 8012, 6] Y2))) fun Y1 => (IT.lt (.step 1 false (IT.ref false [2, 4, 6, 7, 10, 11] [2, 3, 4, 3010, 4010, 6010, 7010, 8010, 3012, 4012, 6012, 7012, 8012, 6] Y2)) fun Y0 => (.step 0 true (.alt 1 (.step 1 false (.step 2 true (IT.ref true [2, 4, 6, 7, 10, 11] [2, 3, 4, 3010, 4010, 6010, 7010, 8010, 3012, 4012, 6012, 7012, 8012, 6] Y1))) (.alt 1 (.step 2 false (.alt 1 (.step 1 false (IT.ref false [2, 4, 6, 7, 10, 11] [2, 3, 4, 3010, 4010, 6010, 7010, 8010, 3012, 4012, 6012, 7012, 8012, 6] Y1)) (.step 7 false (IT.ref true [2, 4, 6, 7, 9, 11] [2, 3, 4, 3010, 4010, 6010, 7010, 8010, 3012, 4012, 6012, 7012, 8012, 6] Y0)))) (.step 7 false (.alt 1 (.step 1 false (.step 2 true (IT.ref true [2, 4, 6, 7, 10, 11] [2, 3, 4, 3010, 4010, 6010, 7010, 8010, 3012, 4012, 6012, 7012, 8012, 6] Y2))) (.step 2 false (IT.ref false [2, 4, 6, 7, 9, 11] [2, 3, 4, 3010, 4010, 6010, 7010, 8010, 3012, 4012, 6012, 7012, 8012, 6] Y0))))))))))) [(0, 1023, 1023, false), (1, 1022, 1023, false), (0, 1023, 1021, false), (6, 1017, 1021, false), (8, 1015, 1013, true), (16, 1007, 1013, true), (16, 1007, 757, true), (0, 1023, 1013, false), (191, 863, 1013, false), (511, 959, 757, true)] (by kernel_rfl) (by kernel_rfl) ?_|refine jbk rfl ?_)
  all_goals first|(exfalso;omega)|(exfalso;simp_all;done)|skip
  all_goals (apply jat;apply jau;(·apply jbc.t;(·(apply GvA.cons;(·(apply RV.cellN (n := 10);(·rfl);(·rfl);(·kernel_rfl);(·rfl)));(·(apply GvP.g;(·(apply GvL.cons (.lit _));(apply GvL.cons (.lit _));(apply GvL.cons (.lit _));((apply GvL.cons (.nil 1 (by decide))));((apply GvL.cons (.nil 1 (by decide))));(apply GvL.cons (.lit _));((apply GvL.cons (.nil 1 (by decide))));((apply GvL.cons (.nil 1 (by decide))));((apply GvL.cons (.nil 1 (by decide))));(apply GvL.cons (.lit _));exact GvL.nil))));(apply GvA.cons;(·exact .tmp _);(·exact GvP.c (.lit _)));exact GvA.nil);(·rfl);(·decide)))
  all_goals rfl
 | some r =>
  obtain ⟨tx, ty, twh, tll, tpl, tev, tcc, tss, tnu, tco⟩ := r
  rw [hcT] at hM
  simp only [csH] at hM
  simp only [nextT, hcT] at hN
  cases hT : hallB tx ty twh tll tpl tev tcc tss tnu (co + 1) with
  | false =>
   simp only [hT, Bool.false_eq_true, if_false, zeroH, Prod.mk.injEq, HD.mk.injEq] at hN
   obtain ⟨⟨rfl, rfl, rfl, rfl, rfl, rfl, rfl, rfl, rfl, rfl⟩, rfl⟩ := hN
   refine jaq Tryz.func44 rfl rfl rfl (by kernel_rfl) rfl rfl ?_;intro _
   repeat' (first|(with_reducible apply jfb)|intro Y hY|((with_reducible apply jdo);(·assumption);(·rfl);(·exact (by (repeat(first|exact trivial|refine ⟨rfl, ?_⟩))));(·exact (by (repeat(first|exact trivial|refine ⟨rfl, ?_⟩)))))|((with_reducible apply jdy);(·rfl);(·(repeat(first|exact Pf.nil|apply Pf.cons (.c rfl (.d rfl))|apply Pf.cons (.c rfl (.lp rfl))|(apply Pf.cons;(·apply Nv.g rfl;(repeat(first|exact Ncs.nil rfl|(apply Ncs.cons rfl;(·(first|exact .d rfl|exact .ls rfl)))))))|apply Pf.skip)));(·(repeat(first|exact Pb.nil|apply Pb.cons (.row rfl)|(apply Pb.cons;(·apply Nb.box rfl;(repeat(first|exact Ncs.nil rfl|(apply Ncs.cons rfl;(·(exact .d rfl)))))))|apply Pb.skip)));(·assumption))|refine jcm ?_ ?_|(refine jaa (.box 31 _) ?_;refine jbh rfl rfl ?_)|(refine jaa (.box 93 _) ?_;refine jbh rfl rfl ?_)|(refine jaa (.alloc 31) ?_;refine jav (zs := [.int .i64 0, .int .i64 0, .int .i64 0, .slice none 0 0, .slice none 0 0, .int .i64 0, .slice none 0 0, .slice none 0 0, .slice none 0 0, .int .i64 0]) (by kernel_rfl) rfl ?_)|refine zaa ?_|refine zar ?_|refine zbz ?_|(refine jaa (.move _) ?_;(first|refine jac (jal rfl) rfl ?_|refine jac (jcg rfl) rfl ?_))|refine zak ?_|(refine jaa (.store 31 _ _) ?_;(refine jah rfl rfl rfl (by kernel_rfl) rfl rfl ?_))|refine zby ?_|refine zaf ?_|refine zad ?_|(refine jaa (.store 3 _ _) ?_;(refine jax rfl rfl rfl rfl (by kernel_rfl) rfl rfl ?_))|refine zah ?_|refine zag ?_|refine zcl ?_|(refine jaa (.call ⟨.value (.func 87), _, _⟩) ?_;((apply jbq (fid := 87);(·(repeat(first|exact SeA.nil|(apply SeA.cons;(·(apply SeP.g;(repeat(first|exact SeL.nil|apply SeL.cons (.d _)))))))));(·exact l12Own_p _ _ _ _ _ _ _ _ _ _ (by omega) br (by omega) cr (by omega) (by omega) (by omega));(·rfl);(·rfl))))|(refine jaa (.call ⟨.value (.func 91), _, _⟩) ?_;(apply jej (fid := 91);(·(repeat(first|exact jhd.nil|(apply jhd.g rfl;(·(repeat(first|exact GvM.nil|apply GvM.cons (.lit _)|apply GvM.cons (.row _ _ _ _ rfl (by ((simp;done)))))))))));(·decide);(·exact hM);(·rfl);(·rfl);(·rfl)))|(refine jaa (.call ⟨.value (.func 20), _, _⟩) ?_;((apply jag (fid := 20);(·(repeat(first|exact SeA.nil|(apply SeA.cons;(·(apply SeP.g;(repeat(first|exact SeL.nil|apply SeL.cons (.d _)|apply SeL.cons (.all _ _ _ _ rfl (by ((simp;done))))))))))));(·exact l12Good_p _ _ _ _ _ _ _ _ _ _);(·rfl))))|refine jaj ?_|refine jbg rfl rfl rfl rfl ?_|refine jak ?_|refine jan ?_|refine jab ?_|refine jbd 1 (fun i => i == 1 || i == 3 || i == 8) (IT.lt (.step 8 false (.step 9 true .nil)) fun Y3 => (IT.lt (.step 3 false (.step 4 true (.step 5 true (.step 6 true (IT.ref false [2, 4, 6, 7, 13, 14] [2, 3, 4, 3010, 4010, 6010, 7010, 8010, 3012, 4012, 6012, 7012, 8012, 6] Y3))))) fun Y2 => (IT.lt (.alt 1 (.step 3 false (.step 4 true (.step 5 true (.step 6 true (.step 7 false (IT.ref true [2, 4, 6, 7, 13, 14] [2, 3, 4, 3010, 4010, 6010, 7010, 8010, 3012, 4012, 6012, 7012, 8012, 6] Y3)))))) (.step 7 false (IT.ref false [2, 4, 6, 7, 10, 11] [2, 3, 4, 3010, 4010, 6010, 7010, 8010, 3012, 4012, 6012, 7012, 8012, 6] Y2))) fun Y1 => (IT.lt (.step 1 false (IT.ref false [2, 4, 6, 7, 10, 11] [2, 3, 4, 3010, 4010, 6010, 7010, 8010, 3012, 4012, 6012, 7012, 8012, 6] Y2)) fun Y0 => (.step 0 true (.alt 1 (.step 1 false (.step 2 true (IT.ref true [2, 4, 6, 7, 10, 11] [2, 3, 4, 3010, 4010, 6010, 7010, 8010, 3012, 4012, 6012, 7012, 8012, 6] Y1))) (.alt 1 (.step 2 false (.alt 1 (.step 1 false (IT.ref false [2, 4, 6, 7, 10, 11] [2, 3, 4, 3010, 4010, 6010, 7010, 8010, 3012, 4012, 6012, 7012, 8012, 6] Y1)) (.step 7 false (IT.ref true [2, 4, 6, 7, 9, 11] [2, 3, 4, 3010, 4010, 6010, 7010, 8010, 3012, 4012, 6012, 7012, 8012, 6] Y0)))) (.step 7 false (.alt 1 (.step 1 false (.step 2 true (IT.ref true [2, 4, 6, 7, 10, 11] [2, 3, 4, 3010, 4010, 6010, 7010, 8010, 3012, 4012, 6012, 7012, 8012, 6] Y2))) (.step 2 false (IT.ref false [2, 4, 6, 7, 9, 11] [2, 3, 4, 3010, 4010, 6010, 7010, 8010, 3012, 4012, 6012, 7012, 8012, 6] Y0))))))))))) [(0, 1023, 1023, false), (1, 1022, 1023, false), (0, 1023, 1021, false), (6, 1017, 1021, false), (8, 1015, 1013, true), (16, 1007, 1013, true), (16, 1007, 757, true), (0, 1023, 1013, false), (191, 863, 1013, false), (511, 959, 757, true)] (by kernel_rfl) (by kernel_rfl) ?_|refine jcj rfl (fun hc => ?_) (fun hc => ?_))
   all_goals first|(exfalso;omega)|(exfalso;simp_all;done)|skip
   all_goals (apply jat;apply jau;(·apply jbc.t;(·(apply GvA.cons;(·(apply RV.cellN (n := 10);(·rfl);(·rfl);(·kernel_rfl);(·rfl)));(·(apply GvP.g;(·(apply GvL.cons (.lit _));(apply GvL.cons (.lit _));(apply GvL.cons (.lit _));((apply GvL.cons (.nil 1 (by decide))));((apply GvL.cons (.nil 1 (by decide))));(apply GvL.cons (.lit _));((apply GvL.cons (.nil 1 (by decide))));((apply GvL.cons (.nil 1 (by decide))));((apply GvL.cons (.nil 1 (by decide))));(apply GvL.cons (.lit _));exact GvL.nil))));(apply GvA.cons;(·exact .tmp _);(·exact GvP.c (.lit _)));exact GvA.nil);(·rfl);(·decide)))
   all_goals rfl
  | true =>
   simp only [hT, if_true, Prod.mk.injEq, HD.mk.injEq] at hN
   obtain ⟨⟨rfl, rfl, rfl, rfl, rfl, rfl, rfl, rfl, rfl, rfl⟩, rfl⟩ := hN
   have e := jgm hT
   have tbl := e.bl;have tbr := e.br;have tcl := e.cl;have tcr := e.cr;have tsl := e.sl;have tpl6 := e.pl6;have tnl := e.nl
   refine jaq Tryz.func44 rfl rfl rfl (by kernel_rfl) rfl rfl ?_;intro _
   repeat' (first|(with_reducible apply jfb)|intro Y hY|((with_reducible apply jdo);(·assumption);(·rfl);(·exact (by (repeat(first|exact trivial|refine ⟨rfl, ?_⟩))));(·exact (by (repeat(first|exact trivial|refine ⟨rfl, ?_⟩)))))|((with_reducible apply jdy);(·rfl);(·(repeat(first|exact Pf.nil|apply Pf.cons (.c rfl (.d rfl))|apply Pf.cons (.c rfl (.lp rfl))|(apply Pf.cons;(·apply Nv.g rfl;(repeat(first|exact Ncs.nil rfl|(apply Ncs.cons rfl;(·(first|exact .d rfl|exact .ls rfl)))))))|apply Pf.skip)));(·(repeat(first|exact Pb.nil|apply Pb.cons (.row rfl)|(apply Pb.cons;(·apply Nb.box rfl;(repeat(first|exact Ncs.nil rfl|(apply Ncs.cons rfl;(·(exact .d rfl)))))))|apply Pb.skip)));(·assumption))|refine jcm ?_ ?_|(refine jaa (.box 31 _) ?_;refine jbh rfl rfl ?_)|(refine jaa (.box 93 _) ?_;refine jbh rfl rfl ?_)|(refine jaa (.alloc 31) ?_;refine jav (zs := [.int .i64 0, .int .i64 0, .int .i64 0, .slice none 0 0, .slice none 0 0, .int .i64 0, .slice none 0 0, .slice none 0 0, .slice none 0 0, .int .i64 0]) (by kernel_rfl) rfl ?_)|refine zaa ?_|refine zar ?_|(refine jaa (.call ⟨.value (.func 87), _, _⟩) ?_;(first|(apply jbq (d := 10) (fid := 87);(·(repeat(first|exact SeA.nil|(apply SeA.cons;(·(apply SeP.g;(repeat(first|exact SeL.nil|apply SeL.cons (.d _)))))))));(·exact l12Own_p _ _ _ _ _ _ _ _ _ _ (by omega) br (by omega) cr (by omega) (by omega) (by omega));(·rfl);(·rfl))|(apply jbq (d := 28) (fid := 87);(·(repeat(first|exact SeA.nil|(apply SeA.cons;(·(apply SeP.g;(repeat(first|exact SeL.nil|apply SeL.cons (.d _)|apply SeL.cons (.all _ _ _ _ rfl (by ((simp;done))))))))))));(·exact l12Own_p _ _ _ _ _ _ _ _ _ _ (by omega) tbr (by omega) tcr (by omega) (by omega) (by omega));(·rfl);(·rfl))))|refine zbz ?_|(refine jaa (.call ⟨.value (.func 91), _, _⟩) ?_;(apply jej (fid := 91);(·(repeat(first|exact jhd.nil|(apply jhd.g rfl;(·(repeat(first|exact GvM.nil|apply GvM.cons (.lit _)|apply GvM.cons (.row _ _ _ _ rfl (by ((simp;done)))))))))));(·decide);(·exact hM);(·rfl);(·rfl);(·rfl)))|(refine jaa (.move _) ?_;(first|refine jac (jal rfl) rfl ?_|refine jac (jcg rfl) rfl ?_))|refine zak ?_|(refine jaa (.store 31 _ _) ?_;(refine jah rfl rfl rfl (by kernel_rfl) rfl rfl ?_))|refine zby ?_|refine zaf ?_|refine zad ?_|(refine jaa (.store 3 _ _) ?_;(refine jax rfl rfl rfl rfl (by kernel_rfl) rfl rfl ?_))|refine zah ?_|refine zag ?_|refine zcl ?_|(refine jaa (.call ⟨.value (.func 20), _, _⟩) ?_;((apply jag (fid := 20);(·(repeat(first|exact SeA.nil|(apply SeA.cons;(·(apply SeP.g;(repeat(first|exact SeL.nil|apply SeL.cons (.d _)|apply SeL.cons (.all _ _ _ _ rfl (by ((simp;done))))))))))));(·exact l12Good_p _ _ _ _ _ _ _ _ _ _);(·rfl))))|refine jaj ?_|refine jbg rfl rfl rfl rfl ?_|refine jak ?_|refine jan ?_|refine jab ?_|refine jbd 1 (fun i => i == 1 || i == 3 || i == 8) (IT.lt (.step 8 false (.step 9 true .nil)) fun Y3 => (IT.lt (.step 3 false (.step 4 true (.step 5 true (.step 6 true (IT.ref false [2, 4, 6, 7, 13, 14] [2, 3, 4, 3010, 4010, 6010, 7010, 8010, 3012, 4012, 6012, 7012, 8012, 6] Y3))))) fun Y2 => (IT.lt (.alt 1 (.step 3 false (.step 4 true (.step 5 true (.step 6 true (.step 7 false (IT.ref true [2, 4, 6, 7, 13, 14] [2, 3, 4, 3010, 4010, 6010, 7010, 8010, 3012, 4012, 6012, 7012, 8012, 6] Y3)))))) (.step 7 false (IT.ref false [2, 4, 6, 7, 10, 11] [2, 3, 4, 3010, 4010, 6010, 7010, 8010, 3012, 4012, 6012, 7012, 8012, 6] Y2))) fun Y1 => (IT.lt (.step 1 false (IT.ref false [2, 4, 6, 7, 10, 11] [2, 3, 4, 3010, 4010, 6010, 7010, 8010, 3012, 4012, 6012, 7012, 8012, 6] Y2)) fun Y0 => (.step 0 true (.alt 1 (.step 1 false (.step 2 true (IT.ref true [2, 4, 6, 7, 10, 11] [2, 3, 4, 3010, 4010, 6010, 7010, 8010, 3012, 4012, 6012, 7012, 8012, 6] Y1))) (.alt 1 (.step 2 false (.alt 1 (.step 1 false (IT.ref false [2, 4, 6, 7, 10, 11] [2, 3, 4, 3010, 4010, 6010, 7010, 8010, 3012, 4012, 6012, 7012, 8012, 6] Y1)) (.step 7 false (IT.ref true [2, 4, 6, 7, 9, 11] [2, 3, 4, 3010, 4010, 6010, 7010, 8010, 3012, 4012, 6012, 7012, 8012, 6] Y0)))) (.step 7 false (.alt 1 (.step 1 false (.step 2 true (IT.ref true [2, 4, 6, 7, 10, 11] [2, 3, 4, 3010, 4010, 6010, 7010, 8010, 3012, 4012, 6012, 7012, 8012, 6] Y2))) (.step 2 false (IT.ref false [2, 4, 6, 7, 9, 11] [2, 3, 4, 3010, 4010, 6010, 7010, 8010, 3012, 4012, 6012, 7012, 8012, 6] Y0))))))))))) [(0, 1023, 1023, false), (1, 1022, 1023, false), (0, 1023, 1021, false), (6, 1017, 1021, false), (8, 1015, 1013, true), (16, 1007, 1013, true), (16, 1007, 757, true), (0, 1023, 1013, false), (191, 863, 1013, false), (511, 959, 757, true)] (by kernel_rfl) (by kernel_rfl) ?_|refine jcj rfl (fun hc => ?_) (fun hc => ?_))
   all_goals first|(exfalso;omega)|(exfalso;simp_all;done)|skip
   all_goals (apply jat;apply jau;(·apply jbc.t;(·(apply GvA.cons;(·(apply RV.cellN (n := 10);(·rfl);(·rfl);(·kernel_rfl);(·rfl)));(·(apply GvP.g;(·(apply GvL.cons (.lit _));(apply GvL.cons (.lit _));(apply GvL.cons (.lit _));((apply GvL.cons (.row _ _ _ _ rfl (by ((simp;done))))));((apply GvL.cons (.row _ _ _ _ rfl (by ((simp;done))))));(apply GvL.cons (.lit _));((apply GvL.cons (.row _ _ _ _ rfl (by ((simp;done))))));((apply GvL.cons (.row _ _ _ _ rfl (by ((simp;done))))));((apply GvL.cons (.row _ _ _ _ rfl (by ((simp;done))))));(apply GvL.cons (.lit _));exact GvL.nil))));(apply GvA.cons;(·exact .tmp _);(·exact GvP.c (.lit _)));exact GvA.nil);(·rfl);(·decide)))
   all_goals rfl
theorem spNewHall_p (bx by_ bwh : Int) (bll : List (List Int)) (ev : Int) (cc : List (List Int)) (ss : List Int) :
  PC Tryz.prog 41 [.g [dI bx, dI by_, dI bwh, eII bll], .g [dI ev, eII cc, eI ss]] (.t [.g [dI (whenN (newB bx by_ bwh bll ev cc ss) bx), dI (whenN (newB bx by_ bwh bll ev cc ss) by_), dI (whenN (newB bx by_ bwh bll ev cc ss) bwh), eII (whenL (newB bx by_ bwh bll ev cc ss) bll), eI (whenA (newB bx by_ bwh bll ev cc ss) (zerosL (bx + by_).toNat)), dI (whenN (newB bx by_ bwh bll ev cc ss) ev), eII (whenL (newB bx by_ bwh bll ev cc ss) cc), eI (whenA (newB bx by_ bwh bll ev cc ss) ss), eI (whenA (newB bx by_ bwh bll ev cc ss) (zerosL ev.toNat)), dI 0], .c (dB (newB bx by_ bwh bll ev cc ss))]) := by
 cases hB : newB bx by_ bwh bll ev cc ss with
 | false =>
  refine jaq Tryz.func41 rfl rfl rfl (by kernel_rfl) rfl rfl ?_;intro _
  repeat' (first|(with_reducible apply jfb)|intro Y hY|(refine jaa (.box 26 _) ?_;refine jbh rfl rfl ?_)|(refine jaa (.box 29 _) ?_;refine jbh rfl rfl ?_)|(refine jaa (.alloc 31) ?_;refine jav (zs := [.int .i64 0, .int .i64 0, .int .i64 0, .slice none 0 0, .slice none 0 0, .int .i64 0, .slice none 0 0, .slice none 0 0, .slice none 0 0, .int .i64 0]) (by kernel_rfl) rfl ?_)|refine zaa ?_|refine zae ?_|refine zah ?_|refine zab ?_|refine zay ?_|refine zag ?_|refine zcl ?_|(refine jaa (.store 31 _ _) ?_;(refine jah rfl rfl rfl (by kernel_rfl) rfl rfl ?_))|refine zav ?_|refine zaf ?_|refine zaw ?_|(refine jaa (.call ⟨.value (.func 53), _, _⟩) ?_;(apply jag (fid := 53);(·(repeat(first|exact SeA.nil|(apply SeA.cons;(·(apply SeP.g;(repeat(first|exact SeL.nil|apply SeL.cons (.d _)))))))));(·exact l2Box_p _ _ _ _);(·rfl)))|(refine jaa (.call ⟨.value (.func 56), _, _⟩) ?_;(apply jag (fid := 56);(·(repeat(first|exact SeA.nil|(apply SeA.cons;(·(apply SeP.g;(repeat(first|exact SeL.nil|apply SeL.cons (.d _)))))))));(·exact l7Good_p _ _ _);(·rfl)))|refine jaj ?_|refine jbn rfl rfl rfl rfl ?_|refine jbg rfl rfl rfl rfl ?_|refine jcq rfl rfl (fun hg => ?_) (fun hg => ?_)|refine jak ?_|refine jan ?_|refine jab ?_|refine jbd 3 (fun i => i == 13) (IT.lt (.step 12 false (.step 13 false (.step 14 true .nil))) fun Y0 => (.step 0 true (.step 1 true (.step 2 true (.step 3 true (.step 4 true (.step 5 true (.step 7 true (.step 8 true (.step 9 true (.alt 3 (.step 6 false (.step 10 false (.step 11 true (IT.ref true [4, 5, 26] [2, 3, 4, 21, 25, 3027, 4027, 6027, 7027, 8027] Y0)))) (.step 10 false (.step 6 false (.step 11 true (IT.ref false [4, 5, 26] [2, 3, 4, 21, 25, 3027, 4027, 6027, 7027, 8027] Y0))))))))))))))) [(0, 32767, 32767, false), (0, 32767, 32767, true), (2, 32765, 32767, false), (0, 32767, 32767, true), (8, 32759, 32767, false), (20, 32747, 32767, true), (32, 32735, 32767, false), (0, 32767, 32767, false), (0, 32767, 32767, true), (256, 32511, 32767, false), (512, 32255, 32767, false), (1217, 31550, 32767, true), (2048, 30719, 32767, false), (8191, 28671, 32767, false), (16383, 32767, 24575, true)] (by kernel_rfl) (by kernel_rfl) ?_|refine jbk rfl ?_|refine jcj rfl (fun hc => ?_) (fun hc => ?_))
  all_goals first|(exfalso;simp_all [newB];done)|skip
  all_goals (apply jat;apply jau;(·apply jbc.t;(·(apply GvA.cons;(·(apply RV.cellN (n := 10);(·rfl);(·rfl);(·kernel_rfl);(·rfl)));(·(apply GvP.g;(·(apply GvL.cons (.lit _));(apply GvL.cons (.lit _));(apply GvL.cons (.lit _));((apply GvL.cons (.nil 1 (by decide))));((apply GvL.cons (.nil 1 (by decide))));(apply GvL.cons (.lit _));((apply GvL.cons (.nil 1 (by decide))));((apply GvL.cons (.nil 1 (by decide))));((apply GvL.cons (.nil 1 (by decide))));(apply GvL.cons (.lit _));exact GvL.nil))));(apply GvA.cons;(·exact .tmp _);(·exact GvP.c (.lit _)));exact GvA.nil);(·rfl);(·decide)))
  all_goals simp [whenN, whenL, whenA]
 | true =>
  have hN := jfi hB
  have n1 := hN.x1;have n2 := hN.x3;have n3 := hN.y1;have n4 := hN.y3;have n5 := hN.e0;have n6 := hN.e12;have n7 := hN.bl;have n8 := hN.cl;have n9 := hN.sl
  have op := l12Own_p bx by_ bwh bll (zerosL (bx + by_).toNat) ev cc ss (zerosL ev.toNat) 0 (by omega) hN.br (by omega) hN.cr (by simp;omega) (by omega) (by simp;omega)
  have e1 : ∀ n : Nat, eI (zerosL n) = .sl 1 n (List.replicate n (dI 0)) := fun n => by simp [zerosL]
  rw [e1, e1] at op
  refine jaq Tryz.func41 rfl rfl rfl (by kernel_rfl) rfl rfl ?_;intro _
  repeat' (first|(with_reducible apply jfb)|intro Y hY|((with_reducible apply jdo);(·assumption);(·rfl);(·exact (by (repeat(first|exact trivial|refine ⟨rfl, ?_⟩))));(·exact (by (repeat(first|exact trivial|refine ⟨rfl, ?_⟩)))))|((with_reducible apply jdy);(·rfl);(·(repeat(first|exact Pf.nil|apply Pf.cons (.c rfl (.d rfl))|apply Pf.cons (.c rfl (.lp rfl))|(apply Pf.cons;(·apply Nv.g rfl;(repeat(first|exact Ncs.nil rfl|(apply Ncs.cons rfl;(·(first|exact .d rfl|exact .ls rfl))))))))));(·(repeat(first|exact Pb.nil|apply Pb.cons (.row rfl)|(apply Pb.cons;(·apply Nb.box rfl;(repeat(first|exact Ncs.nil rfl|(apply Ncs.cons rfl;(·(exact .d rfl)))))))|apply Pb.skip)));(·assumption))|refine jcm ?_ ?_|(refine jaa (.box 26 _) ?_;refine jbh rfl rfl ?_)|(refine jaa (.box 29 _) ?_;refine jbh rfl rfl ?_)|(refine jaa (.alloc 31) ?_;refine jav (zs := [.int .i64 0, .int .i64 0, .int .i64 0, .slice none 0 0, .slice none 0 0, .int .i64 0, .slice none 0 0, .slice none 0 0, .slice none 0 0, .int .i64 0]) (by kernel_rfl) rfl ?_)|refine zaa ?_|refine zae ?_|refine zah ?_|refine zab ?_|refine zay ?_|refine zag ?_|refine zcl ?_|(refine jaa (.store 31 _ _) ?_;(refine jah rfl rfl rfl (by kernel_rfl) rfl rfl ?_))|refine zav ?_|refine zaf ?_|refine zaw ?_|refine zad ?_|(refine jaa (.makeSlice 27 _ _) ?_;(refine jes (by_ := 8) (z := .int .i64 0) (y := .lit (.int .i64 0)) rfl rfl (by kernel_rfl) (by kernel_rfl) rfl (fun _ => .lit _ rfl) (by omega) (by omega) (by omega) rfl ?_))|refine zbh ?_|(refine jaa (.call ⟨.value (.func 53), _, _⟩) ?_;((apply jag (fid := 53);(·(repeat(first|exact SeA.nil|(apply SeA.cons;(·(apply SeP.g;(repeat(first|exact SeL.nil|apply SeL.cons (.d _)))))))));(·exact l2Box_p _ _ _ _);(·rfl))))|(refine jaa (.call ⟨.value (.func 56), _, _⟩) ?_;((apply jag (fid := 56);(·(repeat(first|exact SeA.nil|(apply SeA.cons;(·(apply SeP.g;(repeat(first|exact SeL.nil|apply SeL.cons (.d _)))))))));(·exact l7Good_p _ _ _);(·rfl))))|(refine jaa (.call ⟨.value (.func 87), _, _⟩) ?_;(apply jbq (fid := 87);(·(repeat(first|exact SeA.nil|(apply SeA.cons;(·(apply SeP.g;(repeat(first|exact SeL.nil|apply SeL.cons (.d _)|apply SeL.cons (.all _ _ _ _ rfl (by ((simp;done))))))))))));(·exact op);(·rfl);(·rfl)))|refine jaj ?_|refine jbn rfl rfl rfl rfl ?_|refine jbg rfl rfl rfl rfl ?_|refine jcq rfl rfl (fun hg => ?_) (fun hg => ?_)|refine jak ?_|refine jan ?_|refine jab ?_|refine jbd 3 (fun i => i == 13) (IT.lt (.step 12 false (.step 13 false (.step 14 true .nil))) fun Y0 => (.step 0 true (.step 1 true (.step 2 true (.step 3 true (.step 4 true (.step 5 true (.step 7 true (.step 8 true (.step 9 true (.alt 3 (.step 6 false (.step 10 false (.step 11 true (IT.ref true [4, 5, 26] [2, 3, 4, 21, 25, 3027, 4027, 6027, 7027, 8027] Y0)))) (.step 10 false (.step 6 false (.step 11 true (IT.ref false [4, 5, 26] [2, 3, 4, 21, 25, 3027, 4027, 6027, 7027, 8027] Y0))))))))))))))) [(0, 32767, 32767, false), (0, 32767, 32767, true), (2, 32765, 32767, false), (0, 32767, 32767, true), (8, 32759, 32767, false), (20, 32747, 32767, true), (32, 32735, 32767, false), (0, 32767, 32767, false), (0, 32767, 32767, true), (256, 32511, 32767, false), (512, 32255, 32767, false), (1217, 31550, 32767, true), (2048, 30719, 32767, false), (8191, 28671, 32767, false), (16383, 32767, 24575, true)] (by kernel_rfl) (by kernel_rfl) ?_|refine jbk rfl ?_|refine jcj rfl (fun hc => ?_) (fun hc => ?_))
  all_goals first|(exfalso;simp_all [newB];done)|skip
  (apply jat;apply jau;(·apply jbc.t;(·(apply GvA.cons;(·(apply RV.cellN (n := 10);(·rfl);(·rfl);(·kernel_rfl);(·rfl)));(·(apply GvP.g;(·(apply GvL.cons (.lit _));(apply GvL.cons (.lit _));(apply GvL.cons (.lit _));((apply GvL.cons (.row _ _ _ _ rfl (by ((simp;done))))));((apply GvL.cons (.row _ _ _ _ rfl (by ((simp;done))))));(apply GvL.cons (.lit _));((apply GvL.cons (.row _ _ _ _ rfl (by ((simp;done))))));((apply GvL.cons (.row _ _ _ _ rfl (by ((simp;done))))));((apply GvL.cons (.row _ _ _ _ rfl (by ((simp;done))))));(apply GvL.cons (.lit _));exact GvL.nil))));(apply GvA.cons;(·exact .tmp _);(·exact GvP.c (.lit _)));exact GvA.nil);(·rfl);(·decide)))
  simp [whenN, whenL, whenA, e1]
theorem curCall12_p (code : Tx) (a s bx by_ bwh : Int) (bll : List (List Int)) (pl : List Int) (ev : Int) (cc : List (List Int)) (ss nu : List Int) (co : Int) (hp : pl.length ≤ 1000) (hn : nu.length ≤ 1000) (h0 : 0 ≤ a) (h1 : a ≤ 4611686018427380000) : PX Tryz.prog 45 (CurB code a s) [.v (.g [dI bx, dI by_, dI bwh, eII bll, eI pl, dI ev, eII cc, eI ss, eI nu, dI co])] (CurR a 10 fun res => ∃ k e : Int, res = .p (.g [dI k, dI e])) := by
 refine jdg Tryz.func45 rfl rfl rfl (by kernel_rfl) rfl rfl rfl ?_;intro kv
 repeat' (first|(refine jaa (.box 31 _) ?_;refine jbh rfl rfl ?_)|(refine jaa (.alloc 93) ?_;refine jav (zs := [.int .i64 0, .int .i64 0]) (by kernel_rfl) rfl ?_)|refine zab ?_|(refine jaa (.buildSlice 27 11 _) ?_;(apply jao (sz := 1) (by_ := 8);(·kernel_rfl);(·decide);(·(repeat(first|exact GvS.nil _|apply GvS.c rfl rfl (.lit _) rfl)));(·decide);(·rfl);(·rfl);(·rfl)))|refine zca ?_|(refine jaa (.store 93 _ _) ?_;(refine jah rfl rfl rfl (by kernel_rfl) rfl rfl ?_))|refine zbe ?_|refine zaf ?_|refine zai ?_|refine zaa ?_|refine zad ?_|refine zbf ?_|(refine jaa (.store 3 _ _) ?_;(refine jax rfl rfl rfl rfl (by kernel_rfl) rfl rfl ?_))|refine zbd ?_|refine zax ?_|refine zas ?_|refine zbo ?_|(refine jaa (.buildSlice 27 5 _) ?_;(apply jao (sz := 1) (by_ := 8);(·kernel_rfl);(·decide);(·(repeat(first|exact GvS.nil _|apply GvS.c rfl rfl (.lit _) rfl)));(·decide);(·rfl);(·rfl);(·rfl)))|(refine jaa (.buildSlice 27 3 _) ?_;(apply jao (sz := 1) (by_ := 8);(·kernel_rfl);(·decide);(·(repeat(first|exact GvS.nil _|apply GvS.c rfl rfl (.lit _) rfl)));(·decide);(·rfl);(·rfl);(·rfl)))|refine zbz ?_|(refine jaa (.call ⟨.value (.func 46), _, _⟩) ?_;(apply jbl (fid := 46);(·rfl);(·rfl);(·(repeat(first|exact BxI.nil|apply BxI.ks|(apply BxI.o;(·(exact .lit _))))));(·(repeat(first|exact ArX.nil|apply ArX.v (.c (.row _ _ _ _ rfl (by ((simp;done))))))));(·decide);(·decide);(·exact curAmongD_p code _ _ _ _ (fun _ => True) rfl (by decide) (by repeat (first|exact fun x hx => absurd hx List.not_mem_nil|(refine List.forall_mem_cons.2 ⟨⟨_, rfl, trivial⟩, ?_⟩))) (by omega) (by omega));(·rfl);(·(intro b hb1 hb2;omega));(·rfl);(rintro _ _ ⟨a3, s3, ha3, rfl, k6, -, rfl⟩;refine ⟨(by first|rfl|simp [*]), ?_⟩)))|(refine jaa (.call ⟨.value (.func 43), _, _⟩) ?_;(apply jbl (fid := 43);(·rfl);(·rfl);(·(repeat(first|exact BxI.nil|apply BxI.ks|(apply BxI.o;(·(exact .lit _))))));(·(repeat(first|exact ArX.nil|apply ArX.v (.c (.d _)))));(·decide);(·decide);(·exact curPick_p code _ _ _ (by omega) (by omega));(·rfl);(·(intro b hb1 hb2;omega));(·rfl);(rintro _ _ ⟨a1, s1, ha1, rfl, x1, hx1, rfl⟩;refine ⟨(by first|rfl|simp [*]), ?_⟩)))|(refine jaa (.call ⟨.value (.func 93), _, _⟩) ?_;(apply jag (fid := 93);(·(repeat(first|exact SeA.nil|apply SeA.cons (.c (.d _)))));(·exact l1Least_p _ _);(·rfl)))|(refine jaa (.call ⟨.value (.func 92), _, _⟩) ?_;(apply jag (fid := 92);(·(repeat(first|exact SeA.nil|apply SeA.cons (.c (.d _)))));(·exact l1Most_p _ _);(·rfl)))|refine jaj ?_|refine jak ?_|refine jai ?_|refine jaz ?_|refine jan ?_|refine jab ?_|refine jbi rfl (fun hc => ?_) (fun hc => ?_))
 all_goals first|(exfalso;omega)|skip
 all_goals (apply jct;(·(apply jge.p;(·rfl);(·(repeat(first|exact BxO.nil _|apply BxO.k|(apply BxO.o;(·(exact .lit _))))));(·(apply GvA.cons;(·(apply RV.cellN (n := 2);(·rfl);(·rfl);(·kernel_rfl);(·rfl)));(·(apply GvP.g;(·(apply GvL.cons (.lit _));(apply GvL.cons (.lit _));exact GvL.nil))));exact GvA.nil);(·decide))))
 all_goals exact ⟨_, _, by omega, rfl, _, _, rfl⟩
theorem l12DoE_p (bx by_ bwh : Int) (bll : List (List Int)) (pl : List Int) (ev : Int) (cc : List (List Int)) (ss nu : List Int) (co : Int) (k a : Int) (hB : hallB bx by_ bwh bll pl ev cc ss nu co = true) : PE Tryz.prog 44 [.g [dI bx, dI by_, dI bwh, eII bll, eI pl, dI ev, eII cc, eI ss, eI nu, dI co], .g [dI k, dI a]]
  (fun res => ∃ (rx ry rwh : Int) (rll : List (List Int)) (rpl : List Int) (rev : Int) (rcc : List (List Int)) (rss rnu : List Int) (rco : Int) (ok : Bool), (ok = true → hallB rx ry rwh rll rpl rev rcc rss rnu rco = true) ∧ res = .t [.g [dI rx, dI ry, dI rwh, eII rll, eI rpl, dI rev, eII rcc, eI rss, eI rnu, dI rco], .c (dB ok)]) := by
 have N := nextT_ok ⟨bx, by_, bwh, bll, pl, ev, cc, ss, nu, co⟩ k a
 obtain ⟨⟨rx, ry, rwh, rll, rpl, rev, rcc, rss, rnu, rco⟩, ok, e⟩ : ∃ r ok, nextT ⟨bx, by_, bwh, bll, pl, ev, cc, ss, nu, co⟩ k a = (r, ok) := ⟨_, _, rfl⟩
 rw [e] at N
 exact PC.pe (l12Do_p bx by_ bwh bll pl ev cc ss nu co k a rx ry rwh rll rpl rev rcc rss rnu rco ok hB e) ⟨_, _, _, _, _, _, _, _, _, _, _, N.val, rfl⟩
theorem new_valid {bx by_ bwh : Int} {bll : List (List Int)} {ev : Int} {cc : List (List Int)} {ss : List Int} (h : newB bx by_ bwh bll ev cc ss = true) : hallB bx by_ bwh bll (zerosL (bx + by_).toNat) ev cc ss (zerosL ev.toNat) 0 = true := by
 have n := jfi h
 simp only [newB, Bool.and_eq_true] at h
 have x1 := n.x1;have y1 := n.y1;have e0 := n.e0
 have p := jhm (bx + by_).toNat
 have q := jhm ev.toNat
 rw [Int.toNat_of_nonneg (by omega)] at p q
 simp [hallB, h.1, h.2, p, q, inB]
theorem spNewHallE_p (bx by_ bwh : Int) (bll : List (List Int)) (ev : Int) (cc : List (List Int)) (ss : List Int) : PE Tryz.prog 41 [.g [dI bx, dI by_, dI bwh, eII bll], .g [dI ev, eII cc, eI ss]]
  (fun res => ∃ (rx ry rwh : Int) (rll : List (List Int)) (rpl : List Int) (rev : Int) (rcc : List (List Int)) (rss rnu : List Int) (rco : Int) (ok : Bool), ((ok = true → hallB rx ry rwh rll rpl rev rcc rss rnu rco = true) ∧ rpl.length ≤ 6 ∧ rnu.length ≤ 12) ∧ res = .t [.g [dI rx, dI ry, dI rwh, eII rll, eI rpl, dI rev, eII rcc, eI rss, eI rnu, dI rco], .c (dB ok)]) := by
 refine PC.pe (spNewHall_p bx by_ bwh bll ev cc ss) ⟨_, _, _, _, _, _, _, _, _, _, _, ⟨fun h => ?_, (jnn bx by_ bwh bll ev cc ss).1.2, (jnn bx by_ bwh bll ev cc ss).2.2⟩, rfl⟩
 rw [h]
 exact new_valid h
def HallX (res : Res) : Prop := ∃ (bx by_ bwh : Int) (bll : List (List Int)) (pl : List Int) (ev : Int) (cc : List (List Int)) (ss nu : List Int) (co : Int), (pl.length ≤ 7 ∧ nu.length ≤ 13) ∧ res = .p (.g [dI bx, dI by_, dI bwh, eII bll, eI pl, dI ev, eII cc, eI ss, eI nu, dI co])
theorem dem_hallP {b : Nat} {a1 a2 a3 a4 a6 a7 a8 a9 a10 : D} {n : Nat} {W : List D} (hn : n = W.length) : C.demL b W [.d a1, .d a2, .d a3, .d a4, .ls b 1 0 n, .d a6, .d a7, .d a8, .d a9, .d a10] = [.d a1, .d a2, .d a3, .d a4, .d (.sl 1 n W), .d a6, .d a7, .d a8, .d a9, .d a10] := by
 subst hn
 have b1 : Nat.beq b b = true := by simp
 have b2 : Nat.blt 0 1 = true := rfl
 have b3 : W.length.ble W.length = true := by simp
 simp [C.demL, C.dem, b1, b2, b3]
theorem dem_hallN {b : Nat} {a1 a2 a3 a4 a5 a6 a7 a8 a10 : D} {n : Nat} {W : List D} (hn : n = W.length) : C.demL b W [.d a1, .d a2, .d a3, .d a4, .d a5, .d a6, .d a7, .d a8, .ls b 1 0 n, .d a10] = [.d a1, .d a2, .d a3, .d a4, .d a5, .d a6, .d a7, .d a8, .d (.sl 1 n W), .d a10] := by
 subst hn
 have b1 : Nat.beq b b = true := by simp
 have b2 : Nat.blt 0 1 = true := rfl
 have b3 : W.length.ble W.length = true := by simp
 simp [C.demL, C.dem, b1, b2, b3]
theorem jgl {bx by_ bwh : Int} {bll : List (List Int)} {n m : Nat} {P N : List D} {ev : Int} {cc : List (List Int)} {ss : List Int} {co : Int} (hP : IsI P) (hn : P.length = n) (hN : IsI N) (hm : N.length = m) (h7 : n ≤ 7) (h13 : m ≤ 13) : HallX (.p (.g [dI bx, dI by_, dI bwh, eII bll, .sl 1 n P, dI ev, eII cc, eI ss, .sl 1 m N, dI co])) := by
 obtain ⟨p, hp, ep⟩ := hP.sl hn
 obtain ⟨q, hq, eq⟩ := hN.sl hm
 exact ⟨bx, by_, bwh, bll, p, ev, cc, ss, q, co, ⟨by omega, by omega⟩, by rw [ep, eq]⟩
structure LckH (G : Prop) : Prop where
 h : G
theorem joinH {G G' : Prop} (f : LckH G → G') (g : G) : G' := f ⟨g⟩
set_option maxHeartbeats 40000000 in
theorem curHall_p (code : Tx) (a s : Int) (h0 : 0 ≤ a) (h1 : a ≤ 4611686018427340000) : PXV Tryz.prog 17 (CurB code a s) [] (CurR a 9000 HallX) := by
 refine pxv_intro Tryz.func17 rfl rfl rfl (by kernel_rfl) rfl rfl rfl ?_;intro kv X c0
 repeat' (first|(refine jaa (.alloc 31) ?_;refine jav (zs := [.int .i64 0, .int .i64 0, .int .i64 0, .slice none 0 0, .slice none 0 0, .int .i64 0, .slice none 0 0, .slice none 0 0, .slice none 0 0, .int .i64 0]) (by kernel_rfl) rfl ?_)|refine zab ?_|(refine jaa (.alloc 26) ?_;refine jav (zs := [.int .i64 0, .int .i64 0, .int .i64 0, .slice none 0 0]) (by kernel_rfl) rfl ?_)|(refine jaa (.store 26 _ _) ?_;(refine jah rfl rfl rfl (by kernel_rfl) rfl rfl ?_))|(refine jaa (.call ⟨.value (.func 38), _, _⟩) ?_;(apply jbl (fid := 38);(·rfl);(·rfl);(·(repeat(first|exact BxI.nil|apply BxI.ks|(apply BxI.o;(·(exact .lit _))))));(·(repeat(exact ArX.nil)));(·decide);(·decide);(·exact curQuietBox_p code _ _ (by omega) (by omega));(·rfl);(·(intro b hb1 hb2;omega));(·rfl);(rintro _ _ ⟨a1, s1, ha1, rfl, x, y, n, ll, hl, rfl⟩;refine ⟨(by first|rfl|simp [*]), ?_⟩)))|refine jaj ?_|refine jak ?_|refine jab (id := 0) ?_|refine jab (id := 1) ?_)
 refine jcn (jfy 3010 3000 rfl rfl rfl rfl) ?_
 refine jab (id := 2) ?_
 all_goals ((refine jac (jal rfl) rfl ?_))
 all_goals ((apply jbl (fid := 39);(·rfl);(·rfl);(·(repeat(first|exact BxI.nil|apply BxI.ks|(apply BxI.o;(·(exact .lit _))))));(·(repeat(first|exact ArX.nil|apply ArX.v (.c (.d _)))));(·decide);(·decide);(·exact curOne_p code _ _ _ (by omega) (by omega));(·rfl);(·(intro b hb1 hb2;omega));(·rfl);(rintro _ _ ⟨a2, s2, ha2, rfl, b2, rfl⟩;refine ⟨(by first|rfl|simp [*]), ?_⟩)))
 all_goals refine jaj ?_
 repeat' refine jak ?_
 apply jay [0, 2, 3, 12] [2, 3, 3000, 3010, 800000000, 900000000] rfl;(·(repeat(first|exact Pf.nil|apply Pf.cons (.c rfl (.d rfl))|apply Pf.cons (.c rfl (.lp rfl)))));(·(repeat(first|exact Pb.nil|apply Pb.cons (.row rfl)|(apply Pb.cons;(·apply Nb.box rfl;(repeat(first|exact Ncs.nil rfl|(apply Ncs.cons rfl;(·(first|exact .d rfl|exact .ls rfl)))))))|apply Pb.cons (.any rfl)|apply Pb.skip)))
 refine sk_join [0, 2, 3] [2, 3010, 900000000] (fun g : Int × Int × Int × List (List Int) × Int × Int => []) (fun g => [(800000000, .box [.d (.same (kv 0) (eB code)), .d (dI g.2.2.2.2.1), .d (dW g.2.2.2.2.2)]), (3, .box [.d (dI g.1), .d (dI g.2.1), .d (dI g.2.2.1), .ls 3000 1 0 g.2.2.2.1.length]), (3000, .row 1 (cII g.2.2.2.1))]) (fun g => g.2.2.2.1.length ≤ 21 ∧ a ≤ g.2.2.2.2.1 ∧ g.2.2.2.2.1 ≤ a + 8100) ?_ ?_
 ·repeat' (first|refine jan ?_|refine jcz rfl (fun hc => ?_) (fun hc => ?_))
  ·refine jab (id := 3) ?_
   all_goals ((refine jac (jal rfl) rfl ?_))
   all_goals ((apply jbl (fid := 40);(·rfl);(·rfl);(·(repeat(first|exact BxI.nil|apply BxI.ks|(apply BxI.o;(·(exact .lit _))))));(·(repeat(exact ArX.nil)));(·decide);(·decide);(·exact curBox_p code _ _ (by omega) (by omega));(·rfl);(·(intro b hb1 hb2;omega));(·rfl);(rintro _ _ ⟨a3, s3, ha3, rfl, x3, y3, n3, l3, hl3, rfl⟩;refine ⟨(by first|rfl|simp [*]), ?_⟩)))
   all_goals (refine jmz (jep 3000) ?_;refine jmz (jfy 3014 3000 rfl rfl rfl rfl) ?_;((refine jah rfl rfl rfl (by kernel_rfl) rfl rfl ?_)))
   all_goals refine jaj ?_
   first|refine jaz ?_|skip
   refine jba ?_;refine ⟨(x3, y3, n3, l3, a3, s3), ?_, trivial, jbx rfl (by (repeat(exact trivial))) (by (repeat(first|exact trivial|refine ⟨rfl, ?_⟩))) (by (repeat(first|exact trivial|refine ⟨(by (first|(refine jbm rfl ?_;simp;done)|rfl)), ?_⟩))) (by (repeat(first|exact trivial|refine ⟨.inr rfl, ?_⟩)))⟩
   exact ⟨by dsimp only;omega, by dsimp only;omega⟩
  ·first|refine jaz ?_|skip
   refine jba ?_;refine ⟨(x, y, n, ll, a2, s2), ?_, trivial, jbx rfl (by (repeat(exact trivial))) (by (repeat(first|exact trivial|refine ⟨rfl, ?_⟩))) (by (repeat(first|exact trivial|refine ⟨(by (first|(refine jbm rfl ?_;simp;done)|(refine jcs rfl ?_;simp;done))), ?_⟩))) (by (repeat(first|exact trivial|refine ⟨.inr rfl, ?_⟩)))⟩
   exact ⟨by dsimp only;omega, by dsimp only;omega⟩
 rintro ⟨x4, y4, n4, l4, a4, s4⟩ ⟨h4, ha4⟩
 dsimp only at h4 ha4 ⊢
 repeat' (first|refine zab ?_|refine zaa ?_|(refine jaa (.call ⟨.value (.func 43), _, _⟩) ?_;(apply jbl (d := 23) (fid := 43);(·rfl);(·rfl);(·(repeat(first|exact BxI.nil|apply BxI.ks|(apply BxI.o;(·(exact .lit _))))));(·(repeat(first|exact ArX.nil|apply ArX.v (.c (.d _)))));(·decide);(·decide);(·exact curPick_p code _ _ 6 (by omega) (by omega));(·rfl);(·(intro b hb1 hb2;omega));(·rfl);(rintro _ _ ⟨a6, s6, ha6, rfl, x6, hx6, rfl⟩;refine ⟨(by first|rfl|simp [*]), ?_⟩)))|refine jaj ?_|refine jak ?_|refine jai ?_|(refine jbd 4 (fun i => i == 2 || i == 8) (IT.lt (.step 8 false (.step 9 true .nil)) fun Y3 => (IT.lt (.step 3 false (.step 4 true (.step 5 true (.step 6 true (IT.ref false [0, 2, 4, 5, 20, 21] [2, 3010, 3, 3014, 1018, 2018, 3019, 4019, 6019, 7019, 8019, 4, 900000000, 800000000, 3000] Y3))))) fun Y2 => (IT.lt (.alt 4 (.step 3 false (.step 4 true (.step 5 true (.step 6 true (.step 7 false (IT.ref true [0, 2, 4, 5, 20, 21] [2, 3010, 3, 3014, 1018, 2018, 3019, 4019, 6019, 7019, 8019, 4, 900000000, 800000000, 3000] Y3)))))) (.step 7 false (IT.ref false [0, 2, 4, 5, 16, 18] [2, 3010, 3, 3014, 1018, 2018, 3019, 4019, 6019, 7019, 8019, 4, 900000000, 800000000, 3000] Y2))) fun Y1 => (IT.lt (.step 2 false (IT.ref false [0, 2, 4, 5, 16, 18] [2, 3010, 3, 3014, 1018, 2018, 3019, 4019, 6019, 7019, 8019, 4, 900000000, 800000000, 3000] Y2)) fun Y0 => (.step 1 true (.alt 4 (.step 0 false (.alt 4 (.step 2 false (IT.ref true [0, 2, 4, 5, 16, 18] [2, 3010, 3, 3014, 1018, 2018, 3019, 4019, 6019, 7019, 8019, 4, 900000000, 800000000, 3000] Y1)) (.step 7 false (IT.ref true [0, 2, 4, 5, 16, 17] [2, 3010, 3, 3014, 1018, 2018, 3019, 4019, 6019, 7019, 8019, 4, 900000000, 800000000, 3000] Y0)))) (.alt 4 (.step 2 false (.step 0 true (IT.ref false [0, 2, 4, 5, 16, 18] [2, 3010, 3, 3014, 1018, 2018, 3019, 4019, 6019, 7019, 8019, 4, 900000000, 800000000, 3000] Y1))) (.step 7 false (.alt 4 (.step 0 false (IT.ref false [0, 2, 4, 5, 16, 17] [2, 3010, 3, 3014, 1018, 2018, 3019, 4019, 6019, 7019, 8019, 4, 900000000, 800000000, 3000] Y0)) (.step 2 false (.step 0 true (IT.ref true [0, 2, 4, 5, 16, 18] [2, 3010, 3, 3014, 1018, 2018, 3019, 4019, 6019, 7019, 8019, 4, 900000000, 800000000, 3000] Y2)))))))))))) [(0, 1023, 1019, false), (0, 1023, 1023, true), (2, 1021, 1023, false), (5, 1018, 1019, false), (8, 1015, 1019, true), (16, 1007, 1019, true), (16, 1007, 763, true), (0, 1023, 1019, false), (191, 863, 1019, false), (511, 959, 763, true)] (by kernel_rfl) (by kernel_rfl) ?_;apply so_lt16;(·intro Y3 hY3;apply so_lt5;(·intro Y2 hY2;apply so_lt5;(·intro Y1 hY1;apply so_lt0;(·intro Y0 hY0;((refine jac (jal rfl) rfl ?_));refine jcm ?_ ?_;(·((refine jac (jae rfl rfl (by kernel_rfl : tAgg _ 26 4 = true) rfl) rfl ?_));refine jcm ?_ ?_;(·((apply jbl (d := 18) (fid := 42);(·rfl);(·rfl);(·(repeat(first|exact BxI.nil|apply BxI.ks|(apply BxI.o;(·(exact .lit _))))));(·(repeat(exact ArX.nil)));(·decide);(·decide);(·exact curScene7_p code _ _ (by omega) (by omega));(·rfl);(·(intro b hb1 hb2;omega));(·rfl);(rintro _ _ ⟨w18_1, w18_2, hw18_1, rfl, w18_3, w18_4, w18_5, rfl⟩;refine ⟨(by first|rfl|simp [*]), ?_⟩)));((with_reducible apply jdy);(·rfl);(·(repeat(first|exact Pf.nil|apply Pf.cons (.c rfl (.lp rfl))|(apply Pf.cons;(·apply Nv.g rfl;(repeat(first|exact Ncs.nil rfl|(apply Ncs.cons rfl;(·(first|exact .d rfl|exact .ls rfl)))))))|apply Pf.skip)));(·(repeat(first|exact Pb.nil|apply Pb.cons (.row rfl)|(apply Pb.cons;(·apply Nb.box rfl;(repeat(first|exact Ncs.nil rfl|(apply Ncs.cons rfl;(·(first|exact .d rfl|exact .ls rfl)))))))|apply Pb.cons (.any rfl)|apply Pb.skip)));(·exact (hY1 w18_1 w18_2 w18_3 w18_4 w18_5 (And.intro hw18_1 (trivial))))));((refine jav (zs := [.int .i64 0, .int .i64 0, .int .i64 0, .slice none 0 0, .slice none 0 0, .int .i64 0, .slice none 0 0, .slice none 0 0, .slice none 0 0, .int .i64 0]) (by kernel_rfl) rfl ?_);((with_reducible apply jdy);(·rfl);(·(repeat(first|exact Pf.nil|apply Pf.cons (.c rfl (.lp rfl))|(apply Pf.cons;(·apply Nv.g rfl;(repeat(first|exact Ncs.nil rfl|(apply Ncs.cons rfl;(·(first|exact .d rfl|exact .ls rfl)))))))|apply Pf.skip)));(·(repeat(first|exact Pb.nil|apply Pb.cons (.row rfl)|(apply Pb.cons;(·apply Nb.box rfl;(repeat(first|exact Ncs.nil rfl|(apply Ncs.cons rfl;(·(first|exact .d rfl|exact .ls rfl)))))))|apply Pb.cons (.any rfl)|apply Pb.skip)));(·exact (hY0  (trivial))))));(refine jcm ?_ ?_;(·((apply jbl (d := 18) (fid := 42);(·rfl);(·rfl);(·(repeat(first|exact BxI.nil|apply BxI.ks|(apply BxI.o;(·(exact .lit _))))));(·(repeat(exact ArX.nil)));(·decide);(·decide);(·exact curScene7_p code _ _ (by omega) (by omega));(·rfl);(·(intro b hb1 hb2;omega));(·rfl);(rintro _ _ ⟨w18_1, w18_2, hw18_1, rfl, w18_3, w18_4, w18_5, rfl⟩;refine ⟨(by first|rfl|simp [*]), ?_⟩)));((refine jac (jae rfl rfl (by kernel_rfl : tAgg _ 26 4 = true) rfl) rfl ?_));((with_reducible apply jdo);(·exact (hY1 w18_1 w18_2 w18_3 w18_4 w18_5 (And.intro hw18_1 (trivial))));(·rfl);(·exact (by (repeat(first|exact trivial|refine ⟨rfl, ?_⟩))));(·exact (by (repeat(first|exact trivial|refine ⟨rfl, ?_⟩))))));((refine jav (zs := [.int .i64 0, .int .i64 0, .int .i64 0, .slice none 0 0, .slice none 0 0, .int .i64 0, .slice none 0 0, .slice none 0 0, .slice none 0 0, .int .i64 0]) (by kernel_rfl) rfl ?_);refine jcm ?_ ?_;(·((refine jac (jae rfl rfl (by kernel_rfl : tAgg _ 26 4 = true) rfl) rfl ?_));((with_reducible apply jdo);(·exact (hY0  (trivial)));(·rfl);(·exact (by (repeat(first|exact trivial|refine ⟨rfl, ?_⟩))));(·exact (by (repeat(first|exact trivial|refine ⟨rfl, ?_⟩))))));(((apply jbl (d := 18) (fid := 42);(·rfl);(·rfl);(·(repeat(first|exact BxI.nil|apply BxI.ks|(apply BxI.o;(·(exact .lit _))))));(·(repeat(exact ArX.nil)));(·decide);(·decide);(·exact curScene7_p code _ _ (by omega) (by omega));(·rfl);(·(intro b hb1 hb2;omega));(·rfl);(rintro _ _ ⟨w18_1, w18_2, hw18_1, rfl, w18_3, w18_4, w18_5, rfl⟩;refine ⟨(by first|rfl|simp [*]), ?_⟩)));((refine jac (jae rfl rfl (by kernel_rfl : tAgg _ 26 4 = true) rfl) rfl ?_));((with_reducible apply jdy);(·rfl);(·(repeat(first|exact Pf.nil|apply Pf.cons (.c rfl (.lp rfl))|(apply Pf.cons;(·apply Nv.g rfl;(repeat(first|exact Ncs.nil rfl|(apply Ncs.cons rfl;(·(first|exact .d rfl|exact .ls rfl)))))))|apply Pf.skip)));(·(repeat(first|exact Pb.nil|apply Pb.cons (.row rfl)|(apply Pb.cons;(·apply Nb.box rfl;(repeat(first|exact Ncs.nil rfl|(apply Ncs.cons rfl;(·(first|exact .d rfl|exact .ls rfl)))))))|apply Pb.cons (.any rfl)|apply Pb.skip)));(·exact (hY2 w18_1 w18_2 w18_3 w18_4 w18_5 (And.intro hw18_1 (trivial)))))))));(intro  hok;obtain ⟨-⟩ := hok;((apply jbl (d := 18) (fid := 42);(·rfl);(·rfl);(·(repeat(first|exact BxI.nil|apply BxI.ks|(apply BxI.o;(·(exact .lit _))))));(·(repeat(exact ArX.nil)));(·decide);(·decide);(·exact curScene7_p code _ _ (by omega) (by omega));(·rfl);(·(intro b hb1 hb2;omega));(·rfl);(rintro _ _ ⟨w18_1, w18_2, hw18_1, rfl, w18_3, w18_4, w18_5, rfl⟩;refine ⟨(by first|rfl|simp [*]), ?_⟩)));((with_reducible apply jdo);(·exact (hY2 w18_1 w18_2 w18_3 w18_4 w18_5 (And.intro hw18_1 (trivial))));(·rfl);(·exact (by (repeat(first|exact trivial|refine ⟨rfl, ?_⟩))));(·exact (by (repeat(first|exact trivial|refine ⟨rfl, ?_⟩)))))));(intro w18_1 w18_2 w18_3 w18_4 w18_5 hok;obtain ⟨hw18_1, -⟩ := hok;refine jcm ?_ ?_;(·((apply jdp (d := 19) (fid := 41);(·(repeat(first|exact SeA.nil|(apply SeA.cons;(·(apply SeP.g;(repeat(first|exact SeL.nil|apply SeL.cons (.d _)|apply SeL.cons (.all _ _ _ _ rfl (by ((simp;done))))))))))));(·exact spNewHallE_p _ _ _ _ _ _ _);(·rfl);(rintro _ ⟨w19_1, w19_2, w19_3, w19_4, w19_5, w19_6, w19_7, w19_8, w19_9, w19_10, w19_11, hw19_1, rfl⟩)));((refine jac (jcg rfl) rfl ?_));(refine jac (jbf rfl rfl) rfl ?_);(refine jac (jbf rfl rfl) rfl ?_);(refine jav (zs := [.int .i64 0, .int .i64 0, .int .i64 0, .slice none 0 0, .slice none 0 0, .int .i64 0, .slice none 0 0, .slice none 0 0, .slice none 0 0, .int .i64 0]) (by kernel_rfl) rfl ?_);((with_reducible apply jdy);(·rfl);(·(repeat(first|exact Pf.nil|apply Pf.cons (.c rfl (.d rfl))|apply Pf.cons (.c rfl (.lp rfl))|(apply Pf.cons;(·apply Nv.g rfl;(repeat(first|exact Ncs.nil rfl|(apply Ncs.cons rfl;(·(exact .d rfl)))))))|apply Pf.skip)));(·(repeat(first|exact Pb.nil|apply Pb.cons (.row rfl)|(apply Pb.cons;(·apply Nb.box rfl;(repeat(first|exact Ncs.nil rfl|(apply Ncs.cons rfl;(·(first|exact .d rfl|exact .ls rfl)))))))|apply Pb.cons (.any rfl)|apply Pb.skip)));(·exact (hY3 w18_1 w18_2 w18_3 w18_4 w18_5 w19_1 w19_2 w19_3 w19_4 w19_5 w19_6 w19_7 w19_8 w19_9 w19_10 w19_11 (And.intro hw18_1 (And.intro hw19_1 (trivial)))))));((refine jav (zs := [.int .i64 0, .int .i64 0, .int .i64 0, .slice none 0 0, .slice none 0 0, .int .i64 0, .slice none 0 0, .slice none 0 0, .slice none 0 0, .int .i64 0]) (by kernel_rfl) rfl ?_);((with_reducible apply jdo);(·exact (hY2 w18_1 w18_2 w18_3 w18_4 w18_5 (And.intro hw18_1 (trivial))));(·rfl);(·exact (by (repeat(first|exact trivial|refine ⟨rfl, ?_⟩))));(·exact (by (repeat(first|exact trivial|refine ⟨rfl, ?_⟩))))))));(intro w18_1 w18_2 w18_3 w18_4 w18_5 hok;obtain ⟨hw18_1, -⟩ := hok;((apply jdp (d := 19) (fid := 41);(·(repeat(first|exact SeA.nil|(apply SeA.cons;(·(apply SeP.g;(repeat(first|exact SeL.nil|apply SeL.cons (.d _)|apply SeL.cons (.all _ _ _ _ rfl (by ((simp;done))))))))))));(·exact spNewHallE_p _ _ _ _ _ _ _);(·rfl);(rintro _ ⟨w19_1, w19_2, w19_3, w19_4, w19_5, w19_6, w19_7, w19_8, w19_9, w19_10, w19_11, hw19_1, rfl⟩)));((refine jac (jcg rfl) rfl ?_));(refine jac (jbf rfl rfl) rfl ?_);(refine jac (jbf rfl rfl) rfl ?_);((with_reducible apply jdo);(·exact (hY3 w18_1 w18_2 w18_3 w18_4 w18_5 w19_1 w19_2 w19_3 w19_4 w19_5 w19_6 w19_7 w19_8 w19_9 w19_10 w19_11 (And.intro hw18_1 (And.intro hw19_1 (trivial)))));(·rfl);(·exact (by (repeat(first|exact trivial|refine ⟨rfl, ?_⟩))));(·exact (by (repeat(first|exact trivial|refine ⟨rfl, ?_⟩)))))));(intro w18_1 w18_2 w18_3 w18_4 w18_5 w19_1 w19_2 w19_3 w19_4 w19_5 w19_6 w19_7 w19_8 w19_9 w19_10 w19_11 hok;obtain ⟨hw18_1, hw19_1, -⟩ := hok;((refine jah rfl rfl rfl (by kernel_rfl) rfl rfl ?_));((refine jac (jam rfl) rfl ?_));refine jaj ?_))|refine jab (id := 5) ?_)
 obtain ⟨hok, hp, hn⟩ := hw19_1
 generalize w19_11 = ok at *
 apply jay [0, 2, 4, 5, 6] [2, 3, 4, 7, 46, 53, 54, 55, 61, 62, 63, 1018, 2018, 3000, 3010, 3014, 3019, 3036, 4019, 4036, 6019, 6036, 7019, 7036, 8019, 8036, 800000000, 900000000] rfl;(·(repeat(first|exact Pf.nil|apply Pf.cons (.c rfl (.d rfl))|apply Pf.cons (.c rfl (.lp rfl)))));(·(repeat(first|exact Pb.nil|apply Pb.cons (.row rfl)|(apply Pb.cons;(·apply Nb.box rfl;(repeat(first|exact Ncs.nil rfl|(apply Ncs.cons rfl;(·(first|exact .d rfl|exact .ls rfl)))))))|apply Pb.cons (.any rfl)|apply Pb.skip)))
 refine jbb [0, 2, 4, 5] [2, 3010, 3, 3014, 1018, 2018, 3019, 4019, 6019, 7019, 8019, 3036, 4036, 6036, 7036, 8036, 7, 46, 53, 54, 55, 61, 62, 63, 900000000] (fun g : (Int × Int × Int × List (List Int) × List Int) × (Int × List (List Int) × List Int × List Int × Int) × Int × Int × Int => [(6, iZ g.2.2.1)]) (fun g => [(800000000, .box [.d (.same (kv 0) (eB code)), .d (dI g.2.2.2.1), .d (dW g.2.2.2.2)]), (4, .box [.d (dI g.1.1), .d (dI g.1.2.1), .d (dI g.1.2.2.1), .d (eII g.1.2.2.2.1), .d (eI g.1.2.2.2.2), .d (dI g.2.1.1), .d (eII g.2.1.2.1), .d (eI g.2.1.2.2.1), .d (eI g.2.1.2.2.2.1), .d (dI g.2.1.2.2.2.2)])]) (fun g => (0 ≤ g.2.2.1 ∧ g.2.2.1 ≤ 5) ∧ (a ≤ g.2.2.2.1 ∧ g.2.2.2.1 ≤ a + 8600 + 20 * (5 - g.2.2.1)) ∧ (g.1.2.2.2.2.length ≤ 6 ∧ g.2.1.2.2.2.1.length ≤ 12) ∧ (ok = true → hallB g.1.1 g.1.2.1 g.1.2.2.1 g.1.2.2.2.1 g.1.2.2.2.2 g.2.1.1 g.2.1.2.1 g.2.1.2.2.1 g.2.1.2.2.2.1 g.2.1.2.2.2.2 = true)) (fun g => g.2.2.1.toNat) (((w19_1, w19_2, w19_3, w19_4, w19_5), (w19_6, w19_7, w19_8, w19_9, w19_10), x6, a6, s6)) ?_ (by (repeat(first|exact trivial|refine ⟨(by rfl), ?_⟩))) (by (repeat(first|exact trivial|refine ⟨(by ((refine jcs rfl ?_;simp;done))), ?_⟩))) ?_
 ·exact ⟨by dsimp only;omega, by dsimp only;omega, ⟨hp, hn⟩, hok⟩
 clear hok hp hn
 rintro ⟨⟨bx, by_, bwh, bll, pl⟩, ⟨ev, cc, ss, nu, co⟩, m, a7, s7⟩ ⟨hm, hA, ⟨hp, hn⟩, hok⟩
 dsimp only at hm hA hp hn hok ⊢
 refine joinH (G := ?G) ?f ?g
 case f =>
  intro H
  by_cases hk : 0 < m
  ·cases ok with
   | false =>
    repeat' (first|refine zab ?_|refine zat ?_|refine zag ?_|refine jaj ?_|refine jbn rfl rfl rfl rfl ?_|refine jbg rfl rfl rfl rfl ?_|refine jca rfl rfl (fun hg => ?_) (fun hg => ?_)|refine jak ?_|refine jar rfl ?_|refine jab (id := 6) ?_|refine jbj rfl ?_)
    all_goals first|(exfalso;omega)|(exfalso;simp_all;done)|skip
    apply jay [0, 2, 4] [2, 3, 4, 7, 1018, 2018, 3000, 3010, 3014, 3019, 3036, 4019, 4036, 6019, 6036, 7019, 7036, 8019, 8036, 800000000, 900000000] (n := Tryz.f17.ntmps) rfl;(·(repeat(first|exact Pf.nil|apply Pf.cons (.c rfl (.lp rfl)))));(·(repeat(first|exact Pb.nil|apply Pb.cons (.row rfl)|(apply Pb.cons;(·apply Nb.box rfl;(repeat(first|exact Ncs.nil rfl|(apply Ncs.cons rfl;(·(first|exact .d rfl|exact .ls rfl)))))))|apply Pb.cons (.any rfl)|apply Pb.skip)))
    exact H.h
   | true =>
    have hB := hok rfl
    repeat' (first|refine jcm ?_ ?_|(refine jaa (.alloc 31) ?_;refine jav (zs := [.int .i64 0, .int .i64 0, .int .i64 0, .slice none 0 0, .slice none 0 0, .int .i64 0, .slice none 0 0, .slice none 0 0, .slice none 0 0, .int .i64 0]) (by kernel_rfl) rfl ?_)|(refine jaa (.move _) ?_;(first|refine jac (jal rfl) rfl ?_|refine jac (jcg rfl) rfl ?_))|refine zak ?_|(refine jaa (.store 31 _ _) ?_;(refine jah rfl rfl rfl (by kernel_rfl) rfl rfl ?_))|refine zaa ?_|refine zat ?_|refine zag ?_|refine zar ?_|(refine jaa (.call ⟨.value (.func 45), _, _⟩) ?_;(apply jbl (fid := 45);(·rfl);(·rfl);(·(repeat(first|exact BxI.nil|apply BxI.ks|(apply BxI.o;(·(exact .lit _))))));(·(repeat(first|exact ArX.nil|(apply ArX.v;(·apply SxP.g;(repeat(first|exact SxL.nil|apply SxL.cons (.d _))))))));(·decide);(·decide);(·exact curCall12_p code _ _ bx by_ bwh bll pl ev cc ss nu co (by omega) (by omega) (by omega) (by omega));(·rfl);(·(intro b hb1 hb2;omega));(·rfl);(rintro _ _ ⟨a8, s8, ha8, rfl, ck, ce, rfl⟩;refine ⟨(by first|rfl|simp [*]), ?_⟩)))|(refine jaa (.call ⟨.value (.func 44), _, _⟩) ?_;(apply jdp (fid := 44);(·(repeat(first|exact SeA.nil|(apply SeA.cons;(·(apply SeP.g;(repeat(first|exact SeL.nil|apply SeL.cons (.d _)))))))));(·exact l12DoE_p bx by_ bwh bll pl ev cc ss nu co _ _ hB);(·rfl);(rintro _ ⟨rx, ry, rwh, rll, rpl, rev, rcc, rss, rnu, rco, ok2, hk2, rfl⟩)))|refine jaj ?_|refine jbn rfl rfl rfl rfl ?_|refine jbg rfl rfl rfl rfl ?_|refine jca rfl rfl (fun hg => ?_) (fun hg => ?_)|refine jak ?_|refine jai ?_|refine jaz ?_|refine jar rfl ?_|refine jan ?_|refine jab (id := 6) ?_|refine jbd 8 (fun i => i == 3 || i == 9) (.step 1 true (.step 2 true (.alt 8 (.step 0 false (.alt 8 (.step 3 false (.alt 8 (.step 4 false (.step 5 true (.step 6 true (.step 7 true (.step 8 false (.step 9 false (.step 10 true .nil))))))) (.step 8 false (.step 4 false (.step 5 true (.step 6 true (.step 7 true (.step 9 false (.step 10 true .nil))))))))) (.step 8 false (.step 3 false (.step 4 false (.step 5 true (.step 6 true (.step 7 true (.step 9 false (.step 10 true .nil)))))))))) (.alt 8 (.step 3 false (.step 0 true (.alt 8 (.step 4 false (.step 5 true (.step 6 true (.step 7 true (.step 8 false (.step 9 false (.step 10 true .nil))))))) (.step 8 false (.step 4 false (.step 5 true (.step 6 true (.step 7 true (.step 9 false (.step 10 true .nil)))))))))) (.step 8 false (.alt 8 (.step 0 false (.step 3 false (.step 4 false (.step 5 true (.step 6 true (.step 7 true (.step 9 false (.step 10 true .nil)))))))) (.step 3 false (.step 0 true (.step 4 false (.step 5 true (.step 6 true (.step 7 true (.step 9 false (.step 10 true .nil)))))))))))))) [(0, 2047, 2039, false), (0, 2047, 2047, true), (0, 2047, 2047, false), (6, 2041, 2047, false), (9, 2038, 2039, false), (16, 2031, 2039, true), (32, 2015, 2039, true), (32, 2015, 1527, true), (0, 2047, 2039, false), (383, 1727, 2039, false), (1023, 1919, 1527, true)] (by kernel_rfl) (by kernel_rfl) ?_|refine jab (id := 9) ?_|refine jab (id := 10) ?_|refine jab (id := 11) ?_|refine jbk rfl ?_|refine jbj rfl ?_|refine jcz rfl (fun hc => ?_) (fun hc => ?_))
    all_goals first|(exfalso;omega)|skip
    all_goals
     rcases Bool.eq_false_or_eq_true ok2 with hz|hz
     ·first|(exfalso;clear H;simp_all;done)|skip
      all_goals
       have hR := hk2 hz
       have hc2 := hallB_cnt hR
       repeat' (first|refine zab ?_|refine zaa ?_|refine zan ?_|refine jaj ?_|refine jab ?_)
       refine jba ?_;refine ⟨((rx, ry, rwh, rll, rpl), (rev, rcc, rss, rnu, rco), m - 1, a8, s8), ?_, ?_, jbx rfl (by (repeat(first|exact trivial|refine ⟨(by rfl), ?_⟩))) (by (repeat(first|exact trivial|refine ⟨rfl, ?_⟩))) (by (repeat(first|exact trivial|refine ⟨(by rfl), ?_⟩))) (by (repeat(first|exact trivial|refine ⟨.inr rfl, ?_⟩|refine ⟨.inl rfl, ?_⟩)))⟩
       ·exact ⟨by dsimp only;omega, by dsimp only;omega, ⟨by dsimp only;omega, by dsimp only;omega⟩, fun _ => hR⟩
       ·dsimp only;omega
     ·first|(exfalso;clear H;simp_all;done)|skip
      all_goals
       repeat' (first|refine zab ?_|refine zaa ?_|refine zan ?_|refine jaj ?_|refine jab ?_)
       refine jba ?_;refine ⟨((bx, by_, bwh, bll, pl), (ev, cc, ss, nu, co), m - 1, a8, s8), ?_, ?_, jbx rfl (by (repeat(first|exact trivial|refine ⟨(by rfl), ?_⟩))) (by (repeat(first|exact trivial|refine ⟨rfl, ?_⟩))) (by (repeat(first|exact trivial|refine ⟨(by rfl), ?_⟩))) (by (repeat(first|exact trivial|refine ⟨.inr rfl, ?_⟩|refine ⟨.inl rfl, ?_⟩)))⟩
       ·exact ⟨by dsimp only;omega, by dsimp only;omega, ⟨by dsimp only;omega, by dsimp only;omega⟩, fun _ => hB⟩
       ·dsimp only;omega
  ·repeat' (first|(with_reducible apply jfb)|intro Y hY|refine jcm ?_ ?_|(refine jaa (.alloc 31) ?_;refine jav (zs := [.int .i64 0, .int .i64 0, .int .i64 0, .slice none 0 0, .slice none 0 0, .int .i64 0, .slice none 0 0, .slice none 0 0, .slice none 0 0, .int .i64 0]) (by kernel_rfl) rfl ?_)|refine zab ?_|refine zat ?_|refine zag ?_|refine zar ?_|refine jaj ?_|refine jbn rfl rfl rfl rfl ?_|refine jbg rfl rfl rfl rfl ?_|refine jca rfl rfl (fun hg => ?_) (fun hg => ?_)|refine jak ?_|refine jai ?_|refine jar rfl ?_|refine jan ?_|refine jab (id := 6) ?_|(apply jcw 8 [0, 2, 4, 5, 6] [2, 3010, 3, 3014, 1018, 2018, 3019, 4019, 6019, 7019, 8019, 4, 900000000, 800000000, 3000] rfl;(·(repeat(first|exact Pf.nil|apply Pf.cons (.c rfl (.d rfl))|apply Pf.cons (.c rfl (.lp rfl)))));(·(repeat(first|exact Pb.nil|apply Pb.cons (.row rfl)|(apply Pb.cons;(·apply Nb.box rfl;(repeat(first|exact Ncs.nil rfl|(apply Ncs.cons rfl;(·(first|exact .d rfl|exact .ls rfl)))))))|apply Pb.cons (.any rfl)|apply Pb.skip)));refine jbd 8 (fun i => i == 9) (IT.lt (.step 9 false (.step 10 true .nil)) fun Y1 => (IT.lt (.step 4 false (.step 5 true (.step 6 true (.step 7 true (IT.ref false [0, 2, 4, 5, 6, 7, 8, 37, 38] [2, 3010, 3, 3014, 1018, 2018, 3019, 4019, 6019, 7019, 8019, 4, 3036, 4036, 6036, 7036, 8036, 7, 900000000, 800000000, 3000] Y1))))) fun Y0 => (.step 0 true (.step 1 true (.step 2 true (.alt 8 (.step 3 false (.alt 8 (.step 4 false (.step 5 true (.step 6 true (.step 7 true (.step 8 false (IT.ref true [0, 2, 4, 5, 6, 7, 8, 37, 38] [2, 3010, 3, 3014, 1018, 2018, 3019, 4019, 6019, 7019, 8019, 4, 3036, 4036, 6036, 7036, 8036, 7, 900000000, 800000000, 3000] Y1)))))) (.step 8 false (IT.ref true [0, 2, 4, 5, 6, 7, 8, 32, 35] [2, 3010, 3, 3014, 1018, 2018, 3019, 4019, 6019, 7019, 8019, 4, 3036, 4036, 6036, 7036, 8036, 7, 900000000, 800000000, 3000] Y0)))) (.step 8 false (.step 3 false (IT.ref false [0, 2, 4, 5, 6, 7, 8, 32, 35] [2, 3010, 3, 3014, 1018, 2018, 3019, 4019, 6019, 7019, 8019, 4, 3036, 4036, 6036, 7036, 8036, 7, 900000000, 800000000, 3000] Y0))))))))) [(0, 2047, 2047, false), (0, 2047, 2047, true), (0, 2047, 2047, false), (6, 2041, 2047, false), (9, 2038, 2047, false), (16, 2031, 2047, true), (32, 2015, 2047, true), (32, 2015, 1535, true), (0, 2047, 2047, false), (383, 1727, 2047, false), (1023, 1919, 1535, true)] (by kernel_rfl) (by kernel_rfl) ?_)|refine jbj rfl ?_|refine jcz rfl (fun hc => ?_) (fun hc => ?_))
   all_goals first|(exfalso;omega)|(exfalso;simp_all;done)|skip
   apply jay [0, 2, 4] [2, 3, 4, 7, 1018, 2018, 3000, 3010, 3014, 3019, 3036, 4019, 4036, 6019, 6036, 7019, 7036, 8019, 8036, 800000000, 900000000] (n := Tryz.f17.ntmps) rfl;(·(repeat(first|exact Pf.nil|apply Pf.cons (.c rfl (.lp rfl)))));(·(repeat(first|exact Pb.nil|apply Pb.cons (.row rfl)|(apply Pb.cons;(·apply Nb.box rfl;(repeat(first|exact Ncs.nil rfl|(apply Ncs.cons rfl;(·(first|exact .d rfl|exact .ls rfl)))))))|apply Pb.cons (.any rfl)|apply Pb.skip)))
   exact H.h
 case g =>
  repeat' (first|refine zab ?_|refine zaa ?_|refine zai ?_|(refine jaa (.buildSlice 27 3 _) ?_;(apply jao (sz := 1) (by_ := 8);(·kernel_rfl);(·decide);(·(repeat(first|exact GvS.nil _|apply GvS.c rfl rfl (.lit _) rfl)));(·decide);(·rfl);(·rfl);(·rfl)))|refine zby ?_|(refine jaa (.store 3 _ _) ?_;(refine jax rfl rfl rfl rfl (by kernel_rfl) rfl rfl ?_))|refine zbd ?_|refine zax ?_|(refine jaa (.buildSlice 27 1 _) ?_;(apply jao (sz := 1) (by_ := 8);(·kernel_rfl);(·decide);(·(repeat(first|exact GvS.nil _|apply GvS.c rfl rfl (.lit _) rfl)));(·decide);(·rfl);(·rfl);(·rfl)))|(refine jaa (.call ⟨.builtin .append, _, #[27, 27]⟩) ?_;((apply jbo (sz := 1) (by_ := 8);(·rfl);(·rfl);(·((simp;done)));(·exact .row _ _ _ _ rfl (by ((simp;done))));(·decide);(·kernel_rfl);(·decide);(·omega);(·omega);(·rfl);(·rfl);(·rfl))))|(refine jaa (.store 27 _ _) ?_;(refine jax rfl rfl rfl rfl (by kernel_rfl) rfl rfl ?_))|refine zbo ?_|refine zaz ?_|refine zbb ?_|(refine jaa (.call ⟨.value (.func 43), _, _⟩) ?_;(apply jbl (fid := 43);(·rfl);(·rfl);(·(repeat(first|exact BxI.nil|apply BxI.ks|(apply BxI.o;(·(exact .lit _))))));(·(repeat(first|exact ArX.nil|apply ArX.v (.c (.d _)))));(·decide);(·decide);(·exact curPick_p code _ _ 48 (by omega) (by omega));(·rfl);(·(intro b hb1 hb2;omega));(·rfl);(rintro _ _ ⟨a9, s9, ha9, rfl, x9, hx9, rfl⟩;refine ⟨(by first|rfl|simp [*]), ?_⟩)))|(refine jaa (.call ⟨.value (.func 46), _, _⟩) ?_;(apply jbl (fid := 46);(·rfl);(·rfl);(·(repeat(first|exact BxI.nil|apply BxI.ks|(apply BxI.o;(·(exact .lit _))))));(·(repeat(first|exact ArX.nil|apply ArX.v (.c (.row _ _ _ _ rfl (by ((simp;done))))))));(·decide);(·decide);(·exact curAmongD_p code _ _ _ _ (fun _ => True) rfl (by decide) (by repeat (first|exact fun x hx => absurd hx List.not_mem_nil|(refine List.forall_mem_cons.2 ⟨⟨_, rfl, trivial⟩, ?_⟩))) (by omega) (by omega));(·rfl);(·(intro b hb1 hb2;omega));(·rfl);(rintro _ _ ⟨a10, s10, ha10, rfl, k10, -, rfl⟩;refine ⟨(by first|rfl|simp [*]), ?_⟩)))|(refine jaa (.call ⟨.value (.func 47), _, _⟩) ?_;(apply jbq (fid := 47);(·(repeat(first|exact SeA.nil|apply SeA.cons (.c (.d _)))));(·exact l1Own_p _ (by omega));(·rfl);(·rfl)))|refine jaj ?_|refine jak ?_|refine jai ?_|refine jaz ?_|refine jan ?_|refine jab (id := 11) ?_|refine jab (id := 12) ?_|refine jab (id := 13) ?_|refine jab (id := 14) ?_|refine jab (id := 15) ?_|refine jab (id := 16) ?_|refine jab (id := 17) ?_|refine jab (id := 18) ?_|refine jab (id := 19) ?_|refine jbi rfl (fun hc => ?_) (fun hc => ?_))
  all_goals first|(exfalso;omega)|skip
  ·repeat' (first|(refine jaa (.store 31 _ _) ?_;(refine jah rfl rfl rfl (by kernel_rfl) rfl rfl ?_))|refine zar ?_|refine jaj ?_|refine jab ?_)
   (apply jgh;(·(apply jhc.p;(·rfl);(·(repeat(first|exact BxO.nil _|apply BxO.k|(apply BxO.o;(·(exact .lit _))))));(·rfl);(·(apply RdA.cons;(·(apply RV.cellN (n := 10);(·rfl);(·rfl);(·kernel_rfl);(·rfl)));(·(apply RdP.g;(·(apply RdL.cons (.d _));(apply RdL.cons (.d _));(apply RdL.cons (.d _));((apply RdL.cons (.d _)));((apply RdL.cons (.d _)));(apply RdL.cons (.d _));((apply RdL.cons (.d _)));((apply RdL.cons (.d _)));((apply RdL.cons (.d _)));(apply RdL.cons (.d _));exact RdL.nil))));exact RdA.nil);(·decide))))
   exact ⟨_, _, by omega, rfl, jgl (IsI.map _) (by simp) (IsI.map _) (by simp) (by omega) (by omega)⟩
  ·refine jcn (jlu 53 1 rfl) ?_
   refine jcn (jkt 4 _ rfl (dem_hallP (by simp))) ?_
   repeat' (first|(refine jaa (.store 31 _ _) ?_;(refine jah rfl rfl rfl (by kernel_rfl) rfl rfl ?_))|refine zar ?_|refine jaj ?_|refine jab ?_)
   (apply jgh;(·(apply jhc.p;(·rfl);(·(repeat(first|exact BxO.nil _|apply BxO.k|(apply BxO.o;(·(exact .lit _))))));(·rfl);(·(apply RdA.cons;(·(apply RV.cellN (n := 10);(·rfl);(·rfl);(·kernel_rfl);(·rfl)));(·(apply RdP.g;(·(apply RdL.cons (.d _));(apply RdL.cons (.d _));(apply RdL.cons (.d _));((apply RdL.cons (.d _)));((apply RdL.cons (.d _)));(apply RdL.cons (.d _));((apply RdL.cons (.d _)));((apply RdL.cons (.d _)));((apply RdL.cons (.d _)));(apply RdL.cons (.d _));exact RdL.nil))));exact RdA.nil);(·decide))))
   exact ⟨_, _, by omega, rfl, jgl (IsI.app (IsI.map _) (IsI.cons IsI.nil)) (by simp) (IsI.map _) (by simp) (by omega) (by omega)⟩
  ·refine jcn (jlu 61 1 rfl) ?_
   refine jcn (jkt 4 _ rfl (dem_hallN (by simp))) ?_
   repeat' (first|(refine jaa (.store 31 _ _) ?_;(refine jah rfl rfl rfl (by kernel_rfl) rfl rfl ?_))|refine zar ?_|refine jaj ?_|refine jab ?_)
   (apply jgh;(·(apply jhc.p;(·rfl);(·(repeat(first|exact BxO.nil _|apply BxO.k|(apply BxO.o;(·(exact .lit _))))));(·rfl);(·(apply RdA.cons;(·(apply RV.cellN (n := 10);(·rfl);(·rfl);(·kernel_rfl);(·rfl)));(·(apply RdP.g;(·(apply RdL.cons (.d _));(apply RdL.cons (.d _));(apply RdL.cons (.d _));((apply RdL.cons (.d _)));((apply RdL.cons (.d _)));(apply RdL.cons (.d _));((apply RdL.cons (.d _)));((apply RdL.cons (.d _)));((apply RdL.cons (.d _)));(apply RdL.cons (.d _));exact RdL.nil))));exact RdA.nil);(·decide))))
   exact ⟨_, _, by omega, rfl, jgl (IsI.map _) (by simp) (IsI.app (IsI.map _) (IsI.cons IsI.nil)) (by simp) (by omega) (by omega)⟩
  ·repeat' (first|(refine jaa (.store 31 _ _) ?_;(refine jah rfl rfl rfl (by kernel_rfl) rfl rfl ?_))|refine zar ?_|refine jaj ?_|refine jab ?_)
   (apply jgh;(·(apply jhc.p;(·rfl);(·(repeat(first|exact BxO.nil _|apply BxO.k|(apply BxO.o;(·(exact .lit _))))));(·rfl);(·(apply RdA.cons;(·(apply RV.cellN (n := 10);(·rfl);(·rfl);(·kernel_rfl);(·rfl)));(·(apply RdP.g;(·(apply RdL.cons (.d _));(apply RdL.cons (.d _));(apply RdL.cons (.d _));((apply RdL.cons (.d _)));((apply RdL.cons (.d _)));(apply RdL.cons (.d _));((apply RdL.cons (.d _)));((apply RdL.cons (.d _)));((apply RdL.cons (.d _)));(apply RdL.cons (.d _));exact RdL.nil))));exact RdA.nil);(·decide))))
   exact ⟨_, _, by omega, rfl, jgl (IsI.map _) (by simp) (IsI.map _) (by simp) (by omega) (by omega)⟩
  ·repeat' (first|(refine jaa (.store 31 _ _) ?_;(refine jah rfl rfl rfl (by kernel_rfl) rfl rfl ?_))|refine zar ?_|refine jaj ?_|refine jab ?_)
   (apply jgh;(·(apply jhc.p;(·rfl);(·(repeat(first|exact BxO.nil _|apply BxO.k|(apply BxO.o;(·(exact .lit _))))));(·rfl);(·(apply RdA.cons;(·(apply RV.cellN (n := 10);(·rfl);(·rfl);(·kernel_rfl);(·rfl)));(·(apply RdP.g;(·(apply RdL.cons (.d _));(apply RdL.cons (.d _));(apply RdL.cons (.d _));((apply RdL.cons (.d _)));((apply RdL.cons (.d _)));(apply RdL.cons (.d _));((apply RdL.cons (.d _)));((apply RdL.cons (.d _)));((apply RdL.cons (.d _)));(apply RdL.cons (.d _));exact RdL.nil))));exact RdA.nil);(·decide))))
   exact ⟨_, _, by omega, rfl, jgl (IsI.map _) (by simp) (IsI.map _) (by simp) (by omega) (by omega)⟩
theorem DrawIsHall_p (code : Tx) : PVE Tryz.prog 5 [.c (eB code)] HallX := by
 refine pve_intro Tryz.func5 rfl rfl rfl (by kernel_rfl) rfl rfl ?_;intro X c0 _
 repeat' (first|(refine jaa (.alloc 31) ?_;refine jav (zs := [.int .i64 0, .int .i64 0, .int .i64 0, .slice none 0 0, .slice none 0 0, .int .i64 0, .slice none 0 0, .slice none 0 0, .slice none 0 0, .int .i64 0]) (by kernel_rfl) rfl ?_)|refine zab ?_|(refine jaa (.build 58 _) ?_;refine jac (jbv (cs := [_, _, _]) [(0, 1), (1, 1), (2, 1)] [.slice none 0 0, .int .i64 0, .int .u64 0] (by kernel_rfl) (by kernel_rfl) rfl) rfl ?_)|(refine jaa (.box 58 _) ?_;refine jbh rfl rfl ?_)|refine zaa ?_|(refine jaa (.store 31 _ _) ?_;(refine jah rfl rfl rfl (by kernel_rfl) rfl rfl ?_))|(refine jaa (.call ⟨.value (.func 17), _, _⟩) ?_;(apply so_callXV (fid := 17);(·rfl);(·rfl);(·(repeat(first|exact BxI.nil|(apply BxI.o;(·(exact .lit _)))|apply BxI.k)));(·(repeat(exact SdA.nil)));(·decide);(·exact curHall_p code _ _ (by omega) (by omega));(·rfl);(·(intro b hb1 hb2;omega));(·rfl);(rintro _ _ ⟨a1, s1, ha1, rfl, bx, by_, bwh, bll, pl, ev, cc, ss, nu, co, hb, rfl⟩;refine ⟨(by first|rfl|simp [*]), ?_⟩)))|refine jaj ?_|refine jak ?_|refine jab ?_)
 all_goals (apply sk_vert;(·(apply joa.p;(·rfl);(·(apply RvA.cons;(·(apply RV.cellN (n := 10);(·rfl);(·rfl);(·kernel_rfl);(·rfl)));(·(apply RvP.g;(·(apply RvL.cons (.d _));(apply RvL.cons (.d _));(apply RvL.cons (.d _));((apply RvL.cons (.d _)));((apply RvL.cons (.d _)));(apply RvL.cons (.d _));((apply RvL.cons (.d _)));((apply RvL.cons (.d _)));((apply RvL.cons (.d _)));(apply RvL.cons (.d _));exact RvL.nil))));exact RvA.nil))))
 all_goals exact ⟨_, _, _, _, _, _, _, _, _, _, hb, rfl⟩
theorem shifted0_p (ev : Int) (cc : List (List Int)) (ss : List Int) (h1 : cc.length ≤ 1000000) (h2 : ∀ r ∈ cc, r.length ≤ 1000000) (h3 : ∀ r ∈ cc, allB r 0 1000 = true) : PC Tryz.prog 52 [.g [dI ev, eII cc, eI ss], .c (dI 0)] (.p (.c (eII cc))) := by
 refine jaq Tryz.func52 rfl rfl rfl (by kernel_rfl) rfl rfl ?_;intro _
 repeat' (first|(refine jaa (.box 29 _) ?_;refine jbh rfl rfl ?_)|refine zaa ?_|(refine jaa (.buildSlice 24 0 _) ?_;(apply jao (sz := 1) (by_ := 24);(·kernel_rfl);(·decide);(·(repeat(exact GvS.nil _)));(·decide);(·rfl);(·rfl);(·rfl)))|refine zbg ?_|refine zaj ?_|refine zau ?_|refine zab ?_|refine jaj ?_|refine jak ?_|refine jai ?_|refine jab ?_)
 apply jay [1, 5, 13, 14, 15] [2, 11, 19, 30, 31, 35, 36] rfl;(·(repeat(first|exact Pf.nil|apply Pf.cons (.c rfl (.d rfl))|apply Pf.cons (.c rfl (.ls rfl)))));(·(repeat(first|exact Pb.nil|apply Pb.cons (.row rfl)|(apply Pb.cons;(·apply Nb.box rfl;(repeat(first|exact Ncs.nil rfl|(apply Ncs.cons rfl;(·(exact .d rfl)))))))|apply Pb.skip)))
 refine jbb [1, 13, 14] [2, 19, 30, 31, 35, 36] (fun i => [(15, iN i), (5, .c (.ls 11 1 0 i))]) (fun i => [(11, .row 1 (cII (cc.take i)))]) (fun i => i ≤ cc.length) (fun i => cc.length - i) (0) ?_ (by (repeat(first|exact trivial|refine ⟨(by rfl), ?_⟩))) (by (repeat(first|exact trivial|refine ⟨(by ((refine jbm rfl ?_;simp;done))), ?_⟩))) ?_
 ·omega
 intro i hi
 have L0 : (cc.take i).length = i := by simp;omega
 by_cases hi2 : i < cc.length
 ·have hr := h2 _ (jdz hi2)
  have hb := h3 _ (jdz hi2)
  repeat' (first|refine zaa ?_|refine zab ?_|refine zac ?_|refine zam ?_|refine zaq ?_|(refine jaa (.buildSlice 27 0 _) ?_;(apply jao (sz := 1) (by_ := 8);(·kernel_rfl);(·decide);(·(repeat(exact GvS.nil _)));(·decide);(·rfl);(·rfl);(·rfl)))|refine zas ?_|refine jaj ?_|refine jak ?_|refine jai ?_|refine jar rfl ?_|refine jan ?_|refine jab ?_|refine jbi rfl (fun hc => ?_) (fun hc => ?_))
  ·apply jay [1, 5, 8, 13, 14, 15, 20, 21, 22] [2, 11, 19, 30, 31, 35, 36] rfl;(·(repeat(first|exact Pf.nil|apply Pf.cons (.c rfl (.d rfl))|apply Pf.cons (.c rfl (.ls rfl)))));(·(repeat(first|exact Pb.nil|apply Pb.cons (.row rfl)|(apply Pb.cons;(·apply Nb.box rfl;(repeat(first|exact Ncs.nil rfl|(apply Ncs.cons rfl;(·(exact .d rfl)))))))|apply Pb.skip)))
   refine jbb [1, 5, 13, 14, 15, 20, 21] [2, 11, 30, 31, 35, 36] (fun k => [(22, iN k), (8, .c (.ls 19 1 0 k))]) (fun k => [(19, .row 1 (cI ((atZ cc i).take k)))]) (fun k => k ≤ (atZ cc i).length) (fun k => (atZ cc i).length - k) (0) ?_ (by (repeat(first|exact trivial|refine ⟨(by rfl), ?_⟩))) (by (repeat(first|exact trivial|refine ⟨(by ((refine jbm rfl ?_;simp;done))), ?_⟩))) ?_
   ·omega
   intro k hk
   have L1 : ((atZ cc i).take k).length = k := by simp;omega
   by_cases hk2 : k < (atZ cc i).length
   ·have e := List.take_succ_eq_append_getElem hk2
    rw [← jbw hk2] at e
    have vb := allB_at hb (i := k) (by omega) (by omega)
    repeat' (first|refine zaa ?_|refine zab ?_|refine zac ?_|refine zao ?_|refine zap ?_|refine zad ?_|(refine jaa (.buildSlice 27 1 _) ?_;(apply jao (sz := 1) (by_ := 8);(·kernel_rfl);(·decide);(·(repeat(first|exact GvS.nil _|apply GvS.c rfl rfl (.lit _) rfl)));(·decide);(·rfl);(·rfl);(·rfl)))|(refine jaa (.call ⟨.builtin .append, _, #[27, 27]⟩) ?_;((apply jbo (sz := 1) (by_ := 8);(·rfl);(·rfl);(·((simp;omega)));(·exact .row _ _ _ _ rfl (by ((simp;done))));(·decide);(·kernel_rfl);(·decide);(·omega);(·omega);(·rfl);(·rfl);(·rfl))))|(refine jaa (.buildSlice 24 1 _) ?_;(apply jao (sz := 1) (by_ := 24);(·kernel_rfl);(·decide);(·(repeat(first|exact GvS.nil _|apply GvS.c rfl rfl (.row _ _ _ _ rfl (by ((simp;omega)))) rfl)));(·decide);(·rfl);(·rfl);(·rfl)))|(refine jaa (.call ⟨.builtin .append, _, #[24, 24]⟩) ?_;((apply jbo (sz := 1) (by_ := 24);(·rfl);(·rfl);(·((simp;omega)));(·exact .row _ _ _ _ rfl (by ((simp;done))));(·decide);(·kernel_rfl);(·decide);(·omega);(·omega);(·rfl);(·rfl);(·rfl))))|refine jaj ?_|refine jak ?_|refine jai ?_|refine jaz ?_|refine jar rfl ?_|refine jan ?_|refine jab ?_|refine jbi rfl (fun hc => ?_) (fun hc => ?_))
    all_goals first|(exfalso;omega)|skip
    refine jba ?_;refine ⟨k + 1, ?_, ?_, jbx rfl (by (repeat(first|exact trivial|refine ⟨(by rfl), ?_⟩))) (by (repeat(first|exact trivial|refine ⟨rfl, ?_⟩))) (by (repeat(first|exact trivial|refine ⟨(by ((refine jbm rfl ?_;simp  [e];done))), ?_⟩))) (by (repeat(first|exact trivial|refine ⟨.inr rfl, ?_⟩)))⟩
    ·omega
    ·omega
   ·have h8 : k = (atZ cc i).length := by omega
    subst h8
    have e := List.take_succ_eq_append_getElem hi2
    rw [← jbw hi2] at e
    rw [List.take_length] at L1 ⊢
    repeat' (first|refine zaa ?_|refine zab ?_|refine zac ?_|refine zao ?_|refine zap ?_|refine zad ?_|(refine jaa (.buildSlice 27 1 _) ?_;(apply jao (sz := 1) (by_ := 8);(·kernel_rfl);(·decide);(·(repeat(first|exact GvS.nil _|apply GvS.c rfl rfl (.lit _) rfl)));(·decide);(·rfl);(·rfl);(·rfl)))|(refine jaa (.call ⟨.builtin .append, _, #[27, 27]⟩) ?_;((apply jbo (sz := 1) (by_ := 8);(·rfl);(·rfl);(·((simp;done)));(·exact .row _ _ _ _ rfl (by ((simp;done))));(·decide);(·kernel_rfl);(·decide);(·omega);(·omega);(·rfl);(·rfl);(·rfl))))|(refine jaa (.buildSlice 24 1 _) ?_;(apply jao (sz := 1) (by_ := 24);(·kernel_rfl);(·decide);(·(repeat(first|exact GvS.nil _|apply GvS.c rfl rfl (.row _ _ _ _ rfl (by ((simp;done)))) rfl)));(·decide);(·rfl);(·rfl);(·rfl)))|(refine jaa (.call ⟨.builtin .append, _, #[24, 24]⟩) ?_;((apply jbo (sz := 1) (by_ := 24);(·rfl);(·rfl);(·((simp;omega)));(·exact .row _ _ _ _ rfl (by ((simp;done))));(·decide);(·kernel_rfl);(·decide);(·omega);(·omega);(·rfl);(·rfl);(·rfl))))|refine jaj ?_|refine jak ?_|refine jai ?_|refine jaz ?_|refine jar rfl ?_|refine jan ?_|refine jab ?_|refine jbi rfl (fun hc => ?_) (fun hc => ?_))
    all_goals first|(exfalso;omega)|skip
    refine jba ?_;refine ⟨i + 1, ?_, ?_, jbx rfl (by (repeat(first|exact trivial|refine ⟨(by rfl), ?_⟩))) (by (repeat(first|exact trivial|refine ⟨rfl, ?_⟩))) (by (repeat(first|exact trivial|refine ⟨(by ((refine jbm rfl ?_;simp  [e];done))), ?_⟩))) (by (repeat(first|exact trivial|refine ⟨.inr rfl, ?_⟩)))⟩
    ·omega
    ·omega
  ·exfalso; omega
 ·have h8 : i = cc.length := by omega
  subst h8
  rw [List.take_length]
  repeat' (first|refine zaa ?_|refine zab ?_|refine zac ?_|refine zam ?_|refine zaq ?_|(refine jaa (.buildSlice 27 0 _) ?_;(apply jao (sz := 1) (by_ := 8);(·kernel_rfl);(·decide);(·(repeat(exact GvS.nil _)));(·decide);(·rfl);(·rfl);(·rfl)))|refine zas ?_|refine jaj ?_|refine jak ?_|refine jai ?_|refine jar rfl ?_|refine jan ?_|refine jab ?_|refine jbi rfl (fun hc => ?_) (fun hc => ?_))
  all_goals first|(exfalso;omega)|skip
  (apply jat;apply jau;(·apply jbc.p;(·(apply GvA.cons;(·exact .tmp _);(·(exact GvP.c (.row _ _ _ _ rfl (by ((simp;done)))))));exact GvA.nil);(·decide)))
  rfl
theorem copied_p (l : List Int) (h : l.length ≤ 10000000) : PC Tryz.prog 51 [.c (eI l)] (.p (.c (eI l))) := by
 refine jaq Tryz.func51 rfl rfl rfl (by kernel_rfl) rfl rfl ?_;intro _
 repeat' (first|refine zaa ?_|(refine jaa (.buildSlice 27 0 _) ?_;(apply jao (sz := 1) (by_ := 8);(·kernel_rfl);(·decide);(·(repeat(exact GvS.nil _)));(·decide);(·rfl);(·rfl);(·rfl)))|refine zab ?_|(refine jaa (.call ⟨.builtin .append, _, #[27, 27]⟩) ?_;((apply jbo (sz := 1) (by_ := 8);(·rfl);(·rfl);(·((simp;done)));(·exact .see _ _ _ (by (exact jhl.map)));(·decide);(·kernel_rfl);(·decide);(·omega);(·omega);(·rfl);(·rfl);(·rfl))))|refine jaj ?_|refine jak ?_|refine jab ?_)
 ·(apply jat;apply jau;(·apply jbc.p;(·(apply GvA.cons;(·exact .tmp _);(·(exact GvP.c (.row _ _ _ _ rfl (by ((simp;done)))))));exact GvA.nil);(·decide)))
  simp
theorem own_p (bx by_ bwh : Int) (bll : List (List Int)) (pl : List Int) (ev : Int) (cc : List (List Int)) (ss nu : List Int) (co : Int) (h1 : bll.length ≤ 1000000) (h2 : ∀ r ∈ bll, r.length ≤ 1000000) (h3 : cc.length ≤ 1000000) (h4 : ∀ r ∈ cc, r.length ≤ 1000000)
  (h8 : ∀ r ∈ cc, allB r 0 1000 = true) (h5 : pl.length ≤ 1000000) (h6 : ss.length ≤ 1000000) (h7 : nu.length ≤ 1000000) :
  PC Tryz.prog 19 [.g [dI bx, dI by_, dI bwh, eII bll, eI pl, dI ev, eII cc, eI ss, eI nu, dI co]] (.p (.g [dI bx, dI by_, dI bwh, eII bll, eI pl, dI ev, eII cc, eI ss, eI nu, dI co])) := by
 refine jaq Tryz.func19 rfl rfl rfl (by kernel_rfl) rfl rfl ?_;intro _
 repeat' (first|(refine jaa (.box 31 _) ?_;refine jbh rfl rfl ?_)|(refine jaa (.alloc 31) ?_;refine jav (zs := [.int .i64 0, .int .i64 0, .int .i64 0, .slice none 0 0, .slice none 0 0, .int .i64 0, .slice none 0 0, .slice none 0 0, .slice none 0 0, .int .i64 0]) (by kernel_rfl) rfl ?_)|(refine jaa (.buildSlice 24 0 _) ?_;(apply jao (sz := 1) (by_ := 24);(·kernel_rfl);(·decide);(·(repeat(exact GvS.nil _)));(·decide);(·rfl);(·rfl);(·rfl)))|refine zaa ?_|refine zaz ?_|refine zal ?_|refine zaj ?_|refine zau ?_|refine zab ?_|refine jaj ?_|refine jak ?_|refine jai ?_|refine jab ?_)
 apply jay [1, 2, 3, 9, 10, 11] [1, 2, 6, 17, 18, 19, 26, 30, 37, 40] rfl;(·(repeat(first|exact Pf.nil|apply Pf.cons (.c rfl (.d rfl))|apply Pf.cons (.c rfl (.ls rfl))|apply Pf.cons (.c rfl (.lp rfl)))));(·(repeat(first|exact Pb.nil|apply Pb.cons (.row rfl)|(apply Pb.cons;(·apply Nb.box rfl;(repeat(first|exact Ncs.nil rfl|(apply Ncs.cons rfl;(·(exact .d rfl)))))))|apply Pb.skip)))
 refine jbb [1, 2, 9, 10] [1, 2, 17, 18, 19, 26, 30, 37, 40] (fun i => [(11, iN i), (3, .c (.ls 6 1 0 i))]) (fun i => [(6, .row 1 (cII (bll.take i)))]) (fun i => i ≤ bll.length) (fun i => bll.length - i) (0) ?_ (by (repeat(first|exact trivial|refine ⟨(by rfl), ?_⟩))) (by (repeat(first|exact trivial|refine ⟨(by ((refine jbm rfl ?_;simp;done))), ?_⟩))) ?_
 ·omega
 intro i hi
 have L0 : (bll.take i).length = i := by simp;omega
 by_cases hi2 : i < bll.length
 ·have hr := h2 _ (jdz hi2)
  have e := List.take_succ_eq_append_getElem hi2
  rw [← jbw hi2] at e
  repeat' (first|refine zaa ?_|refine zaz ?_|refine zal ?_|refine zab ?_|refine zac ?_|refine zam ?_|(refine jaa (.load 27 _) ?_;(first|refine jac (jaf rfl rfl (by kernel_rfl) rfl) rfl ?_|refine jac (jap rfl (by kernel_rfl) rfl) rfl ?_))|(refine jaa (.buildSlice 24 1 _) ?_;(apply jao (sz := 1) (by_ := 24);(·kernel_rfl);(·decide);(·(repeat(first|exact GvS.nil _|apply GvS.c rfl rfl (.row _ _ _ _ rfl (by ((simp;done)))) rfl)));(·decide);(·rfl);(·rfl);(·rfl)))|(refine jaa (.call ⟨.builtin .append, _, #[24, 24]⟩) ?_;((apply jbo (sz := 1) (by_ := 24);(·rfl);(·rfl);(·((simp;omega)));(·exact .row _ _ _ _ rfl (by ((simp;done))));(·decide);(·kernel_rfl);(·decide);(·omega);(·omega);(·rfl);(·rfl);(·rfl))))|refine zad ?_|(refine jaa (.store 24 _ _) ?_;(refine jax rfl rfl rfl rfl (by kernel_rfl) rfl rfl ?_))|refine zbl ?_|refine zay ?_|refine zbk ?_|(refine jaa (.call ⟨.value (.func 51), _, _⟩) ?_;(apply jbq (fid := 51);(·(repeat(first|exact SeA.nil|apply SeA.cons (.c (.d _)))));(·exact copied_p _ (by omega));(·rfl);(·rfl)))|refine jaj ?_|refine jak ?_|refine jai ?_|refine jaz ?_|refine jar rfl ?_|refine jan ?_|refine jab ?_|refine jbd 8 (fun i => i == 9 || i == 12) (.step 0 true (.step 1 true (.step 3 true (.step 4 true (.step 5 true (.step 2 false (.step 7 true (.step 8 true (.step 6 false (.step 9 false (.step 10 true (.step 11 true (.step 12 false .nil))))))))))))) [(0, 8191, 8191, true), (1, 8190, 8191, false), (2, 8189, 8191, false), (0, 8191, 8191, true), (8, 8183, 8191, true), (16, 8175, 8191, false), (36, 8159, 8191, false), (63, 8191, 8191, true), (191, 8063, 8191, true), (383, 7931, 8191, false), (1023, 8191, 7679, true), (2047, 7167, 7679, true), (3071, 6079, 7679, false)] (by kernel_rfl) (by kernel_rfl) ?_|refine jbi rfl (fun hc => ?_) (fun hc => ?_))
  all_goals first|(exfalso;omega)|skip
  refine jba ?_;refine ⟨i + 1, ?_, ?_, jbx rfl (by (repeat(first|exact trivial|refine ⟨(by rfl), ?_⟩))) (by (repeat(first|exact trivial|refine ⟨rfl, ?_⟩))) (by (repeat(first|exact trivial|refine ⟨(by ((refine jbm rfl ?_;simp  [e];done))), ?_⟩))) (by (repeat(first|exact trivial|refine ⟨.inr rfl, ?_⟩)))⟩
  ·omega
  ·omega
 ·have h8 : i = bll.length := by omega
  subst h8
  rw [List.take_length]
  repeat' (first|refine zaa ?_|refine zaz ?_|refine zal ?_|refine zab ?_|refine zac ?_|refine zam ?_|(refine jaa (.load 27 _) ?_;(first|refine jac (jaf rfl rfl (by kernel_rfl) rfl) rfl ?_|refine jac (jap rfl (by kernel_rfl) rfl) rfl ?_))|(refine jaa (.buildSlice 24 1 _) ?_;(apply jao (sz := 1) (by_ := 24);(·kernel_rfl);(·decide);(·(repeat(first|exact GvS.nil _|apply GvS.c rfl rfl (.row _ _ _ _ rfl (by ((simp;done)))) rfl)));(·decide);(·rfl);(·rfl);(·rfl)))|(refine jaa (.call ⟨.builtin .append, _, #[24, 24]⟩) ?_;((apply jbo (sz := 1) (by_ := 24);(·rfl);(·rfl);(·((simp;done)));(·exact .row _ _ _ _ rfl (by ((simp;done))));(·decide);(·kernel_rfl);(·decide);(·omega);(·omega);(·rfl);(·rfl);(·rfl))))|refine zad ?_|(refine jaa (.store 24 _ _) ?_;(refine jax rfl rfl rfl rfl (by kernel_rfl) rfl rfl ?_))|refine zbl ?_|refine zay ?_|refine zbk ?_|refine zbg ?_|(refine jaa (.store 27 _ _) ?_;(refine jax rfl rfl rfl rfl (by kernel_rfl) rfl rfl ?_))|refine zbd ?_|refine zbo ?_|refine zar ?_|(refine jaa (.store 31 _ _) ?_;(refine jah rfl rfl rfl (by kernel_rfl) rfl rfl ?_))|(refine jaa (.call ⟨.value (.func 51), _, _⟩) ?_;(apply jbq (fid := 51);(·(repeat(first|exact SeA.nil|apply SeA.cons (.c (.d _)))));(·exact copied_p _ (by omega));(·rfl);(·rfl)))|(refine jaa (.call ⟨.value (.func 52), _, _⟩) ?_;(apply jbq (fid := 52);(·(repeat(first|exact SeA.nil|apply SeA.cons (.c (.d _))|(apply SeA.cons;(·(apply SeP.g;(repeat(first|exact SeL.nil|apply SeL.cons (.d _)))))))));(·exact shifted0_p _ _ _ h3 h4 h8);(·rfl);(·rfl)))|refine jaj ?_|refine jak ?_|refine jai ?_|refine jaz ?_|refine jar rfl ?_|refine jan ?_|refine jab ?_|refine jbd 8 (fun i => i == 9 || i == 12) (.step 0 true (.step 1 true (.step 3 true (.step 4 true (.step 5 true (.step 2 false (.step 7 true (.step 8 true (.step 6 false (.step 9 false (.step 10 true (.step 11 true (.step 12 false .nil))))))))))))) [(0, 8191, 8191, true), (1, 8190, 8191, false), (2, 8189, 8191, false), (0, 8191, 8191, true), (8, 8183, 8191, true), (16, 8175, 8191, false), (36, 8159, 8191, false), (63, 8191, 8191, true), (191, 8063, 8191, true), (383, 7931, 8191, false), (1023, 8191, 7679, true), (2047, 7167, 7679, true), (3071, 6079, 7679, false)] (by kernel_rfl) (by kernel_rfl) ?_|refine jbd 9 (fun i => i == 7 || i == 9) (.step 0 true (.step 1 true (.step 3 true (.step 4 true (.step 2 false (.step 6 true (.step 5 false (.step 7 false (.step 8 true (.step 9 false .nil)))))))))) [(0, 1023, 1023, true), (1, 1022, 1023, false), (2, 1021, 1023, false), (0, 1023, 1023, true), (8, 1015, 1023, false), (20, 1007, 1023, false), (31, 1023, 1023, true), (127, 955, 1023, false), (255, 1023, 895, true), (511, 735, 895, false)] (by kernel_rfl) (by kernel_rfl) ?_|refine jbi rfl (fun hc => ?_) (fun hc => ?_))
  all_goals first|(exfalso;omega)|skip
  (apply jat;apply jau;(·apply jbc.p;(·(apply GvA.cons;(·(apply RV.cellN (n := 10);(·rfl);(·rfl);(·kernel_rfl);(·rfl)));(·(apply GvP.g;(·(apply GvL.cons (.lit _));(apply GvL.cons (.lit _));(apply GvL.cons (.lit _));((apply GvL.cons (.row _ _ _ _ rfl (by ((simp;done))))));((apply GvL.cons (.row _ _ _ _ rfl (by ((simp;done))))));(apply GvL.cons (.lit _));((apply GvL.cons (.row _ _ _ _ rfl (by ((simp;done))))));((apply GvL.cons (.row _ _ _ _ rfl (by ((simp;done))))));((apply GvL.cons (.row _ _ _ _ rfl (by ((simp;done))))));(apply GvL.cons (.lit _));exact GvL.nil))));exact GvA.nil);(·decide)))
  rfl
theorem within_p (n lo hi : Int) : PC Tryz.prog 50 [.c (dI n), .c (dI lo), .c (dI hi)] (.p (.c (dB (inB n lo hi)))) := by
 refine jaq Tryz.func50 rfl rfl rfl (by kernel_rfl) rfl rfl ?_;intro _
 repeat' (first|refine zaa ?_|refine zab ?_|refine zbt ?_|refine zbn ?_|refine zag ?_|refine jaj ?_|refine jbn rfl rfl rfl rfl ?_|refine jbg rfl rfl rfl rfl ?_|refine jca rfl rfl (fun hg => ?_) (fun hg => ?_)|refine jak ?_|refine jab ?_)
 all_goals ((apply jat;apply jau;(·apply jbc.p;(·(apply GvA.cons;(·exact .tmp _);(·exact GvP.c (.lit _)));exact GvA.nil);(·decide))))
 all_goals (simp [dB, inB, *];try omega)
theorem allWithin_p (l : List Int) (lo hi : Int) : PC Tryz.prog 69 [.c (eI l), .c (dI lo), .c (dI hi)] (.p (.c (dB (allB l lo hi)))) := by
 refine jaq Tryz.func69 rfl rfl rfl (by kernel_rfl) rfl rfl ?_;rintro ⟨hl, -⟩
 have hl := hl.len
 repeat' (first|refine zaa ?_|refine zab ?_|refine zas ?_|refine jaj ?_|refine jak ?_|refine jai ?_|refine jab ?_)
 apply jay [1, 2, 9, 10, 11] [] rfl;(·(repeat(first|exact Pf.nil|apply Pf.cons (.c rfl (.d rfl)))));(·(repeat(exact Pb.nil)))
 refine jbb [1, 2, 9, 10] [] (fun k => [(11, iN k)]) (fun _ => []) (fun k => k ≤ l.length ∧ (l.take k).all (fun n => inB n lo hi) = true) (fun k => l.length - k) (0) ?_ (by (repeat(first|exact trivial|refine ⟨(by rfl), ?_⟩))) (by (repeat(exact trivial))) ?_
 ·simp
 rintro k ⟨hk, ha⟩
 repeat' (first|refine zaa ?_|refine zab ?_|refine zac ?_|refine zao ?_|refine zap ?_|refine zah ?_|refine zad ?_|(refine jaa (.call ⟨.value (.func 50), _, _⟩) ?_;(apply jag (fid := 50);(·(repeat(first|exact SeA.nil|apply SeA.cons (.c (.d _)))));(·exact within_p _ _ _);(·rfl)))|refine jaj ?_|refine jak ?_|refine jai ?_|refine jaz ?_|refine jar rfl ?_|refine jan ?_|refine jab ?_|refine jbi rfl (fun hc => ?_) (fun hc => ?_)|refine jcj rfl (fun hc => ?_) (fun hc => ?_))
 ·rename_i hk'
  rw [jbw (by omega)] at hc
  (apply jat;apply jau;(·apply jbc.p;(·(apply GvA.cons;(·exact .tmp _);(·exact GvP.c (.lit _)));exact GvA.nil);(·decide)))
  rw [allB, jin (by omega) hc]
 ·rename_i hk'
  rw [jbw (by omega)] at hc
  refine jba ?_;refine ⟨k + 1, ?_, ?_, jbx rfl (by (repeat(first|exact trivial|refine ⟨(by rfl), ?_⟩))) (by (repeat(first|exact trivial|refine ⟨rfl, ?_⟩))) (by (repeat(exact trivial))) (by (repeat(exact trivial)))⟩
  ·exact ⟨by omega, by rw [jcv _ _ _ (by omega), ha, hc];rfl⟩
  ·omega
 ·(apply jat;apply jau;(·apply jbc.p;(·(apply GvA.cons;(·exact .tmp _);(·exact GvP.c (.lit _)));exact GvA.nil);(·decide)))
  rw [allB, all_t (by omega) ha]
theorem areQuestions_p (x y : Int) : PC Tryz.prog 68 [.c (dI x), .c (dI y)] (.p (.c (dB (sizeB x y)))) := by
 refine jaq Tryz.func68 rfl rfl rfl (by kernel_rfl) rfl rfl ?_;intro _
 repeat' (first|refine zaa ?_|refine zab ?_|refine zag ?_|(refine jaa (.call ⟨.value (.func 50), _, _⟩) ?_;(apply jag (fid := 50);(·(repeat(first|exact SeA.nil|apply SeA.cons (.c (.d _)))));(·exact within_p _ _ _);(·rfl)))|refine jaj ?_|refine jbn rfl rfl rfl rfl ?_|refine jbg rfl rfl rfl rfl ?_|refine jcq rfl rfl (fun hg => ?_) (fun hg => ?_)|refine jak ?_|refine jab ?_)
 all_goals (apply jat;apply jau;(·apply jbc.p;(·(apply GvA.cons;(·exact .tmp _);(·exact GvP.c (.lit _)));exact GvA.nil);(·decide)))
 all_goals ((simp_all [sizeB];done))
theorem total_p (l : List Int) : PC Tryz.prog 70 [.c (eI l)] (.p (.c (dI (sum64 l)))) := by
 refine jaq Tryz.func70 rfl rfl rfl (by kernel_rfl) rfl rfl ?_;rintro ⟨hl, -⟩
 have hl := hl.len
 repeat' (first|refine zaa ?_|refine zab ?_|refine zas ?_|refine jaj ?_|refine jak ?_|refine jai ?_|refine jab ?_)
 apply jay [3, 6, 7, 8] [] rfl;(·(repeat(first|exact Pf.nil|apply Pf.cons (.c rfl (.d rfl)))));(·(repeat(exact Pb.nil)))
 refine jbb [6, 7] [] (fun k => [(8, iN k), (3, iZ (sum64 (l.take k)))]) (fun _ => []) (fun k => k ≤ l.length) (fun k => l.length - k) (0) ?_ (by (repeat(first|exact trivial|refine ⟨(by rfl), ?_⟩))) (by (repeat(exact trivial))) ?_
 ·simp
 intro k hk
 repeat' (first|refine zaa ?_|refine zab ?_|refine zac ?_|refine zao ?_|refine zap ?_|(refine jaa (.binOp .add 3 _ _ _) ?_;(first|refine jac (jas rfl rfl (by omega)) rfl ?_|refine jac (jhb rfl rfl) rfl ?_))|refine jaj ?_|refine jak ?_|refine jai ?_|refine jaz ?_|refine jar rfl ?_|refine jan ?_|refine jab ?_|refine jbi rfl (fun hc => ?_) (fun hc => ?_))
 ·have hk2 : k < l.length := by omega
  refine jba ?_;refine ⟨k + 1, ?_, ?_, jbx rfl (by (repeat(first|exact trivial|refine ⟨(by (first|rfl|(refine jdr rfl ?_;((simp  [jix hk2, jbw hk2];done))))), ?_⟩))) (by (repeat(first|exact trivial|refine ⟨rfl, ?_⟩))) (by (repeat(exact trivial))) (by (repeat(exact trivial)))⟩
  ·omega
  ·omega
 ·have : k = l.length := by omega
  subst this
  (apply jat;apply jau;(·apply jbc.p;(·(apply GvA.cons;(·exact .tmp _);(·exact GvP.c (.lit _)));exact GvA.nil);(·decide)))
  simp
theorem IsBox_p (x y n : Int) (ll : List (List Int)) : PC Tryz.prog 25 [.g [dI x, dI y, dI n, eII ll]] (.p (.c (dB (boxB x y n ll)))) := by
 refine jaq Tryz.func25 rfl rfl rfl (by kernel_rfl) rfl rfl ?_;rintro ⟨hl, -⟩
 have hl := (hl _ (List.mem_cons_of_mem _ (List.mem_cons_of_mem _ (List.mem_cons_of_mem _ (List.mem_cons_self ..))))).len
 repeat' (first|(refine jaa (.box 26 _) ?_;refine jbh rfl rfl ?_)|refine zaa ?_|refine zav ?_|refine zaf ?_|refine zaw ?_|refine zah ?_|refine zab ?_|refine zbb ?_|refine zag ?_|refine zal ?_|refine zaj ?_|refine zau ?_|(refine jaa (.binOp .mul 3 _ _ _) ?_;(refine jac (jng rfl rfl) rfl ?_))|refine zbp ?_|(refine jaa (.call ⟨.value (.func 68), _, _⟩) ?_;(apply jag (fid := 68);(·(repeat(first|exact SeA.nil|apply SeA.cons (.c (.d _)))));(·exact areQuestions_p _ _);(·rfl)))|(refine jaa (.call ⟨.value (.func 50), _, _⟩) ?_;(apply jag (fid := 50);(·(repeat(first|exact SeA.nil|apply SeA.cons (.c (.d _)))));(·exact within_p _ _ _);(·rfl)))|refine jaj ?_|refine jbn rfl rfl rfl rfl ?_|refine jbg rfl rfl rfl rfl ?_|refine jcq rfl rfl (fun hg => ?_) (fun hg => ?_)|refine jak ?_|refine jai ?_|refine jan ?_|refine jab ?_|refine jbk rfl ?_|refine jbi rfl (fun hc => ?_) (fun hc => ?_))
 ·(apply jat;apply jau;(·apply jbc.p;(·(apply GvA.cons;(·exact .tmp _);(·exact GvP.c (.lit _)));exact GvA.nil);(·decide)))
  have h9 : sizeB x y = false := by simpa using hg
  simp [boxB, h9]
 ·(apply jat;apply jau;(·apply jbc.p;(·(apply GvA.cons;(·exact .tmp _);(·exact GvP.c (.lit _)));exact GvA.nil);(·decide)))
  have h9 : inB n 1 1000 = false := by simpa using hg
  simp [boxB, h9]
 ·(apply jat;apply jau;(·apply jbc.p;(·(apply GvA.cons;(·exact .tmp _);(·exact GvP.c (.lit _)));exact GvA.nil);(·decide)))
  have hs : sizeB x y = true := by simp_all
  rw [jgf hs] at hc
  have h3 : ¬ (ll.length : Int) = x * y := by omega
  simp [boxB, h3]
 have hs : sizeB x y = true := by simp_all
 have hn : inB n 1 1000 = true := by simp_all
 have hlen : (ll.length : Int) = x * y := by rw [← jgf hs];omega
 apply jay [1, 29, 30, 31] [1] rfl;(·(repeat(first|exact Pf.nil|apply Pf.cons (.c rfl (.d rfl))|apply Pf.cons (.c rfl (.lp rfl)))));(·(repeat(first|exact Pb.nil|(apply Pb.cons;(·apply Nb.box rfl;(repeat(first|exact Ncs.nil rfl|(apply Ncs.cons rfl;(·(exact .d rfl))))))))))
 refine jbb [1, 29, 30] [1] (fun k => [(31, iN k)]) (fun _ => []) (fun k => k ≤ ll.length ∧ (ll.take k).all (row4B n) = true) (fun k => ll.length - k) (0) ?_ (by (repeat(first|exact trivial|refine ⟨(by rfl), ?_⟩))) (by (repeat(exact trivial))) ?_
 ·simp
 rintro k ⟨hk, ha⟩
 repeat' (first|refine zaa ?_|refine zaf ?_|refine zah ?_|refine zab ?_|refine zbb ?_|refine zag ?_|refine zbp ?_|refine zac ?_|refine zam ?_|refine zaq ?_|refine zas ?_|refine zad ?_|(refine jaa (.call ⟨.value (.func 69), _, _⟩) ?_;(apply jag (fid := 69);(·(repeat(first|exact SeA.nil|apply SeA.cons (.c (.d _)))));(·exact allWithin_p _ _ _);(·rfl)))|(refine jaa (.call ⟨.value (.func 70), _, _⟩) ?_;(apply jag (fid := 70);(·(repeat(first|exact SeA.nil|apply SeA.cons (.c (.d _)))));(·exact total_p _);(·rfl)))|refine jaj ?_|refine jbn rfl rfl rfl rfl ?_|refine jbg rfl rfl rfl rfl ?_|refine jca rfl rfl (fun hg => ?_) (fun hg => ?_)|refine jcq rfl rfl (fun hg => ?_) (fun hg => ?_)|refine jak ?_|refine jai ?_|refine jaz ?_|refine jar rfl ?_|refine jan ?_|refine jab ?_|refine jbd 6 (fun _ => false) (.step 0 true (.step 1 true (.step 2 true (.step 3 true (.step 4 true (.step 5 true (.step 6 true (.step 7 false (.step 8 true (.step 9 true (.step 10 true (.step 11 true (.step 13 true (.step 14 true (.step 12 false (.step 15 true (.step 16 true .nil))))))))))))))))) [(0, 131071, 131071, true), (1, 131070, 131071, true), (2, 131069, 131071, true), (4, 131067, 131071, true), (8, 131063, 131071, true), (8, 131063, 131071, true), (40, 131031, 131071, false), (88, 130983, 131071, false), (136, 130935, 131071, true), (264, 130807, 131071, true), (640, 130559, 131071, true), (1024, 130047, 131071, true), (3072, 127999, 131071, false), (1024, 130047, 131071, true), (9216, 121855, 131071, false), (21504, 109567, 131071, true), (33792, 97279, 131071, true)] (by kernel_rfl) (by kernel_rfl) ?_|refine jbk rfl ?_|refine jbi rfl (fun hc => ?_) (fun hc => ?_))
 ·have hk2 : k < ll.length := by omega
  rw [jbw hk2] at hg
  (apply jat;apply jau;(·apply jbc.p;(·(apply GvA.cons;(·exact .tmp _);(·exact GvP.c (.lit _)));exact GvA.nil);(·decide)))
  have h9 : row4B n ll[k] = false := by simp [row4B];omega
  rw [boxB, jin hk2 h9];simp
 ·rename_i hk'
  have hk2 : k < ll.length := by omega
  rw [jbw hk2] at hg
  (apply jat;apply jau;(·apply jbc.p;(·(apply GvA.cons;(·exact .tmp _);(·exact GvP.c (.lit _)));exact GvA.nil);(·decide)))
  have h9 : row4B n ll[k] = false := by simp at hg;simp [row4B, hg]
  rw [boxB, jin hk2 h9];simp
 ·rename_i hk'
  have hk2 : k < ll.length := by omega
  rw [jbw hk2] at hg hc
  (apply jat;apply jau;(·apply jbc.p;(·(apply GvA.cons;(·exact .tmp _);(·exact GvP.c (.lit _)));exact GvA.nil);(·decide)))
  have h9 : row4B n ll[k] = false := by simp [row4B, hc]
  rw [boxB, jin hk2 h9];simp
 ·rename_i hk' hg'
  have hk2 : k < ll.length := by omega
  rw [jbw hk2] at hg hc hg'
  have h9 : row4B n ll[k] = true := by simp at hg hc hg';simp [row4B, hg, hc];omega
  refine jba ?_;refine ⟨k + 1, ?_, ?_, jbx rfl (by (repeat(first|exact trivial|refine ⟨(by rfl), ?_⟩))) (by (repeat(first|exact trivial|refine ⟨rfl, ?_⟩))) (by (repeat(exact trivial))) (by (repeat(first|exact trivial|refine ⟨.inr rfl, ?_⟩)))⟩
  ·exact ⟨by omega, by rw [jcv _ _ _ hk2, ha, h9];rfl⟩
  ·omega
 ·have : k = ll.length := by omega
  subst this
  rw [List.take_length] at ha
  (apply jat;apply jau;(·apply jbc.p;(·(apply GvA.cons;(·exact .tmp _);(·exact GvP.c (.lit _)));exact GvA.nil);(·decide)))
  simp [boxB, hs, hn, hlen, ha]
theorem isSet_p (l : List Int) (n : Int) (h0 : 0 ≤ n) (h1 : n ≤ 1000) : PC Tryz.prog 76 [.c (eI l), .c (dI n)] (.p (.c (dB (riseB l 0 (n - 1))))) := by
 refine jaq Tryz.func76 rfl rfl rfl (by kernel_rfl) rfl rfl ?_;rintro ⟨hl, -⟩
 have hl := hl.len
 repeat' (first|refine zaa ?_|refine zab ?_|refine zas ?_|refine jaj ?_|refine jak ?_|refine jai ?_|refine jab ?_)
 apply jay [0, 1, 7, 8, 9] [] rfl;(·(repeat(first|exact Pf.nil|apply Pf.cons (.c rfl (.d rfl)))));(·(repeat(exact Pb.nil)))
 refine jbb [0, 1, 7, 8] [] (fun k => [(9, iN k)]) (fun _ => []) (fun k => k ≤ l.length ∧ (List.range k).all (riseAt l 0 (n - 1)) = true) (fun k => l.length - k) (0) ?_ (by (repeat(first|exact trivial|refine ⟨(by rfl), ?_⟩))) (by (repeat(exact trivial))) ?_
 ·simp
 rintro k ⟨hk, ha⟩
 repeat' (first|refine zaa ?_|refine zab ?_|refine zac ?_|refine zao ?_|refine zap ?_|refine zan ?_|refine zah ?_|refine zat ?_|refine zbt ?_|refine zag ?_|refine zad ?_|(refine jaa (.call ⟨.value (.func 50), _, _⟩) ?_;(apply jag (fid := 50);(·(repeat(first|exact SeA.nil|apply SeA.cons (.c (.d _)))));(·exact within_p _ _ _);(·rfl)))|refine jaj ?_|refine jgs rfl rfl rfl rfl rfl ?_|refine jbn rfl rfl rfl rfl ?_|refine jbg rfl rfl rfl rfl ?_|refine jca rfl rfl (fun hg => ?_) (fun hg => ?_)|refine jcq rfl rfl (fun hg => ?_) (fun hg => ?_)|refine jak ?_|refine jai ?_|refine jaz ?_|refine jar rfl ?_|refine jan ?_|refine jab ?_|refine jbk rfl ?_|refine jbj rfl ?_|refine jbi rfl (fun hc => ?_) (fun hc => ?_))
 all_goals first|(exfalso;omega)|skip
 ·(apply jat;apply jau;(·apply jbc.p;(·(apply GvA.cons;(·exact .tmp _);(·exact GvP.c (.lit _)));exact GvA.nil);(·decide)))
  rw [jjo (k := k) (by assumption) (.inl (by simp_all))]
 ·(apply jat;apply jau;(·apply jbc.p;(·(apply GvA.cons;(·exact .tmp _);(·exact GvP.c (.lit _)));exact GvA.nil);(·decide)))
  rw [jjo (k := k) (by omega) (.inr ⟨by assumption, by assumption⟩)]
 ·refine jba ?_;refine ⟨k + 1, ?_, ?_, jbx rfl (by (repeat(first|exact trivial|refine ⟨(by rfl), ?_⟩))) (by (repeat(first|exact trivial|refine ⟨rfl, ?_⟩))) (by (repeat(exact trivial))) (by (repeat(exact trivial)))⟩
  ·exact ⟨by omega, jhg ha (by simp_all) (.inr (by assumption))⟩
  ·omega
 ·refine jba ?_;refine ⟨k + 1, ?_, ?_, jbx rfl (by (repeat(first|exact trivial|refine ⟨(by rfl), ?_⟩))) (by (repeat(first|exact trivial|refine ⟨rfl, ?_⟩))) (by (repeat(exact trivial))) (by (repeat(exact trivial)))⟩
  ·exact ⟨by omega, jhg ha (by simp_all) (.inl (by assumption))⟩
  ·omega
 ·have : k = l.length := by omega
  subst this
  (apply jat;apply jau;(·apply jbc.p;(·(apply GvA.cons;(·exact .tmp _);(·exact GvP.c (.lit _)));exact GvA.nil);(·decide)))
  unfold riseB; rw [ha]
theorem isAssignment_p (ev : Int) (cc : List (List Int)) (ss nu : List Int) : PC Tryz.prog 49 [.g [dI ev, eII cc, eI ss], .c (eI nu)] (.p (.c (dB (bitsB nu ev)))) := by
 refine jaq Tryz.func49 rfl rfl rfl (by kernel_rfl) rfl rfl ?_;intro _
 repeat' (first|(refine jaa (.box 29 _) ?_;refine jbh rfl rfl ?_)|refine zaa ?_|refine zab ?_|refine zas ?_|refine zbh ?_|refine zaf ?_|refine zai ?_|refine zag ?_|(refine jaa (.call ⟨.value (.func 69), _, _⟩) ?_;(apply jag (fid := 69);(·(repeat(first|exact SeA.nil|apply SeA.cons (.c (.d _)))));(·exact allWithin_p _ _ _);(·rfl)))|refine jaj ?_|refine jbn rfl rfl rfl rfl ?_|refine jbg rfl rfl rfl rfl ?_|refine jca rfl rfl (fun hg => ?_) (fun hg => ?_)|refine jak ?_|refine jab ?_)
 all_goals (apply jat;apply jau;(·apply jbc.p;(·(apply GvA.cons;(·exact .tmp _);(·exact GvP.c (.lit _)));exact GvA.nil);(·decide)))
 all_goals ((simp_all [bitsB];done))
theorem IsScene_p (ev : Int) (cc : List (List Int)) (ss : List Int) : PC Tryz.prog 28 [.g [dI ev, eII cc, eI ss]] (.p (.c (dB (sceneB ev cc ss)))) := by
 have hev := fun h => jcp.1 (h : inB ev 0 12 = true)
 refine jaq Tryz.func28 rfl rfl rfl (by kernel_rfl) rfl rfl ?_;rintro ⟨hl, -⟩
 have hl := (hl _ (List.mem_cons_of_mem _ (List.mem_cons_self ..))).len
 repeat' (first|(refine jaa (.box 29 _) ?_;refine jbh rfl rfl ?_)|refine zaa ?_|refine zbh ?_|refine zaf ?_|refine zah ?_|refine zab ?_|refine zbg ?_|refine zaj ?_|refine zau ?_|refine zat ?_|refine zag ?_|refine zbk ?_|refine zax ?_|refine zas ?_|refine zbp ?_|(refine jaa (.call ⟨.value (.func 50), _, _⟩) ?_;(apply jag (fid := 50);(·(repeat(first|exact SeA.nil|apply SeA.cons (.c (.d _)))));(·exact within_p _ _ _);(·rfl)))|(refine jaa (.call ⟨.value (.func 69), _, _⟩) ?_;(apply jag (fid := 69);(·(repeat(first|exact SeA.nil|apply SeA.cons (.c (.d _)))));(·exact allWithin_p _ _ _);(·rfl)))|refine jaj ?_|refine jbn rfl rfl rfl rfl ?_|refine jbg rfl rfl rfl rfl ?_|refine jca rfl rfl (fun hg => ?_) (fun hg => ?_)|refine jcq rfl rfl (fun hg => ?_) (fun hg => ?_)|refine jak ?_|refine jai ?_|refine jan ?_|refine jab ?_|refine jbk rfl ?_|refine jcj rfl (fun hc => ?_) (fun hc => ?_))
 ·(apply jat;apply jau;(·apply jbc.p;(·(apply GvA.cons;(·exact .tmp _);(·exact GvP.c (.lit _)));exact GvA.nil);(·decide)))
  have : inB ev 0 12 = false := by simp_all
  simp [sceneB, this]
 ·(apply jat;apply jau;(·apply jbc.p;(·(apply GvA.cons;(·exact .tmp _);(·exact GvP.c (.lit _)));exact GvA.nil);(·decide)))
  have : ¬ cc.length ≤ 10 := by omega
  simp [sceneB, this]
 ·(apply jat;apply jau;(·apply jbc.p;(·(apply GvA.cons;(·exact .tmp _);(·exact GvP.c (.lit _)));exact GvA.nil);(·decide)))
  have : ¬ (ss.length : Int) = cc.length := by omega
  simp [sceneB, bitsB, this]
 ·(apply jat;apply jau;(·apply jbc.p;(·(apply GvA.cons;(·exact .tmp _);(·exact GvP.c (.lit _)));exact GvA.nil);(·decide)))
  have : allB ss 0 1 = false := by assumption
  simp [sceneB, bitsB, this]
 have h1 : inB ev 0 12 = true := by simp_all
 have hev := hev h1
 have h2 : cc.length ≤ 10 := by omega
 have h3 : bitsB ss cc.length = true := by
  have h4 : (ss.length : Int) = cc.length := by omega
  have h5 : allB ss 0 1 = true := by assumption
  simp [bitsB, h4, h5]
 clear hc
 apply jay [1, 31, 32, 33] [1] rfl;(·(repeat(first|exact Pf.nil|apply Pf.cons (.c rfl (.d rfl))|apply Pf.cons (.c rfl (.lp rfl)))));(·(repeat(first|exact Pb.nil|(apply Pb.cons;(·apply Nb.box rfl;(repeat(first|exact Ncs.nil rfl|(apply Ncs.cons rfl;(·(exact .d rfl))))))))))
 refine jbb [1, 31, 32] [1] (fun k => [(33, iN k)]) (fun _ => []) (fun k => k ≤ cc.length ∧ (cc.take k).all (ctxB ev) = true) (fun k => cc.length - k) (0) ?_ (by (repeat(first|exact trivial|refine ⟨(by rfl), ?_⟩))) (by (repeat(exact trivial))) ?_
 ·simp
 rintro k ⟨hk, ha⟩
 repeat' (first|refine zaa ?_|refine zbh ?_|refine zaf ?_|refine zah ?_|refine zab ?_|refine zag ?_|refine zaq ?_|refine zas ?_|refine zac ?_|refine zam ?_|refine zai ?_|refine zad ?_|(refine jaa (.call ⟨.value (.func 76), _, _⟩) ?_;(apply jag (fid := 76);(·(repeat(first|exact SeA.nil|apply SeA.cons (.c (.d _)))));(·exact isSet_p _ _ (by omega) (by omega));(·rfl)))|refine jaj ?_|refine jbn rfl rfl rfl rfl ?_|refine jbg rfl rfl rfl rfl ?_|refine jca rfl rfl (fun hg => ?_) (fun hg => ?_)|refine jak ?_|refine jai ?_|refine jaz ?_|refine jar rfl ?_|refine jan ?_|refine jab ?_|refine jbk rfl ?_|refine jbi rfl (fun hc => ?_) (fun hc => ?_)|refine jcj rfl (fun hc => ?_) (fun hc => ?_))
 ·have hk2 : k < cc.length := by omega
  (apply jat;apply jau;(·apply jbc.p;(·(apply GvA.cons;(·exact .tmp _);(·exact GvP.c (.lit _)));exact GvA.nil);(·decide)))
  have h9 : ctxB ev cc[k] = false := by rw [← jbw hk2];simp [ctxB];omega
  simp only [sceneB, jin (p := ctxB ev) hk2 h9];simp
 ·have hk2 : k < cc.length := by omega
  (apply jat;apply jau;(·apply jbc.p;(·(apply GvA.cons;(·exact .tmp _);(·exact GvP.c (.lit _)));exact GvA.nil);(·decide)))
  have h9 : ctxB ev cc[k] = false := by rw [← jbw hk2];simp [ctxB, hc]
  simp only [sceneB, jin (p := ctxB ev) hk2 h9];simp
 ·have hk2 : k < cc.length := by omega
  have h9 : ctxB ev cc[k] = true := by rw [← jbw hk2];simp [ctxB, hc];omega
  refine jba ?_;refine ⟨k + 1, ?_, ?_, jbx rfl (by (repeat(first|exact trivial|refine ⟨(by rfl), ?_⟩))) (by (repeat(first|exact trivial|refine ⟨rfl, ?_⟩))) (by (repeat(exact trivial))) (by (repeat(first|exact trivial|refine ⟨.inr rfl, ?_⟩)))⟩
  ·exact ⟨by omega, by rw [jcv _ _ _ hk2, ha, h9];rfl⟩
  ·omega
 ·have : k = cc.length := by omega
  subst this
  rw [List.take_length] at ha
  (apply jat;apply jau;(·apply jbc.p;(·(apply GvA.cons;(·exact .tmp _);(·exact GvP.c (.lit _)));exact GvA.nil);(·decide)))
  simp [sceneB, h1, h2, h3, ha]
theorem isPlay_p (x y : Int) (l : List Int) : PC Tryz.prog 48 [.c (dI x), .c (dI y), .c (eI l)] (.p (.c (dB (bitsB l (IntKind.i64.wrap (x + y)))))) := by
 refine jaq Tryz.func48 rfl rfl rfl (by kernel_rfl) rfl rfl ?_;intro _
 repeat' (first|refine zaa ?_|refine zab ?_|refine zas ?_|(refine jaa (.binOp .add 3 _ _ _) ?_;(refine jac (jhb rfl rfl) rfl ?_))|refine zai ?_|refine zag ?_|(refine jaa (.call ⟨.value (.func 69), _, _⟩) ?_;(apply jag (fid := 69);(·(repeat(first|exact SeA.nil|apply SeA.cons (.c (.d _)))));(·exact allWithin_p _ _ _);(·rfl)))|refine jaj ?_|refine jbn rfl rfl rfl rfl ?_|refine jbg rfl rfl rfl rfl ?_|refine jca rfl rfl (fun hg => ?_) (fun hg => ?_)|refine jak ?_|refine jab ?_)
 all_goals (apply jat;apply jau;(·apply jbc.p;(·(apply GvA.cons;(·exact .tmp _);(·exact GvP.c (.lit _)));exact GvA.nil);(·decide)))
 all_goals ((simp_all [bitsB];done))
theorem IsHall_p (bx by_ bwh : Int) (bll : List (List Int)) (pl : List Int) (ev : Int) (cc : List (List Int)) (ss nu : List Int) (co : Int) :
  PC Tryz.prog 18 [.g [dI bx, dI by_, dI bwh, eII bll, eI pl, dI ev, eII cc, eI ss, eI nu, dI co]] (.p (.c (dB (hallB bx by_ bwh bll pl ev cc ss nu co)))) := by
 have hw : boxB bx by_ bwh bll = true → IntKind.i64.wrap (bx + by_) = bx + by_ := fun h => by have := jbp h;have a := this.x1;have b := this.x3;have c := this.y1;have d := this.y3;exact IntWalk.i64_in _ (by omega)
 refine jaq Tryz.func18 rfl rfl rfl (by kernel_rfl) rfl rfl ?_;intro _
 repeat' (first|(refine jaa (.box 31 _) ?_;refine jbh rfl rfl ?_)|refine zaa ?_|refine zaz ?_|refine zae ?_|refine zab ?_|refine zav ?_|refine zaf ?_|refine zaw ?_|refine zbd ?_|refine zax ?_|refine zag ?_|refine zbl ?_|refine zay ?_|refine zbo ?_|refine zby ?_|(refine jaa (.call ⟨.value (.func 25), _, _⟩) ?_;(apply jag (fid := 25);(·(repeat(first|exact SeA.nil|(apply SeA.cons;(·(apply SeP.g;(repeat(first|exact SeL.nil|apply SeL.cons (.d _)))))))));(·exact IsBox_p _ _ _ _);(·rfl)))|(refine jaa (.call ⟨.value (.func 48), _, _⟩) ?_;(apply jag (fid := 48);(·(repeat(first|exact SeA.nil|apply SeA.cons (.c (.d _)))));(·exact isPlay_p _ _ _);(·rfl)))|(refine jaa (.call ⟨.value (.func 28), _, _⟩) ?_;(apply jag (fid := 28);(·(repeat(first|exact SeA.nil|(apply SeA.cons;(·(apply SeP.g;(repeat(first|exact SeL.nil|apply SeL.cons (.d _)))))))));(·exact IsScene_p _ _ _);(·rfl)))|(refine jaa (.call ⟨.value (.func 49), _, _⟩) ?_;(apply jag (fid := 49);(·(repeat(first|exact SeA.nil|apply SeA.cons (.c (.d _))|(apply SeA.cons;(·(apply SeP.g;(repeat(first|exact SeL.nil|apply SeL.cons (.d _)))))))));(·exact isAssignment_p _ _ _ _);(·rfl)))|(refine jaa (.call ⟨.value (.func 50), _, _⟩) ?_;(apply jag (fid := 50);(·(repeat(first|exact SeA.nil|apply SeA.cons (.c (.d _)))));(·exact within_p _ _ _);(·rfl)))|refine jaj ?_|refine jbn rfl rfl rfl rfl ?_|refine jbg rfl rfl rfl rfl ?_|refine jcq rfl rfl (fun hg => ?_) (fun hg => ?_)|refine jak ?_|refine jab ?_)
 all_goals (apply jat;apply jau;(·apply jbc.p;(·(apply GvA.cons;(·exact .tmp _);(·exact GvP.c (.lit _)));exact GvA.nil);(·decide)))
 all_goals simp_all [hallB]
theorem NewConsole_p (bx by_ bwh : Int) (bll : List (List Int)) (pl : List Int) (ev : Int) (cc : List (List Int)) (ss nu : List Int) (co : Int) : PC Tryz.prog 6 [.g [dI bx, dI by_, dI bwh, eII bll, eI pl, dI ev, eII cc, eI ss, eI nu, dI co]] (.t [.g [dI (whenN (hallB bx by_ bwh bll pl ev cc ss nu co) bx), dI (whenN (hallB bx by_ bwh bll pl ev cc ss nu co) by_), dI (whenN (hallB bx by_ bwh bll pl ev cc ss nu co) bwh), eII (whenL (hallB bx by_ bwh bll pl ev cc ss nu co) bll), eI (whenA (hallB bx by_ bwh bll pl ev cc ss nu co) pl), dI (whenN (hallB bx by_ bwh bll pl ev cc ss nu co) ev), eII (whenL (hallB bx by_ bwh bll pl ev cc ss nu co) cc), eI (whenA (hallB bx by_ bwh bll pl ev cc ss nu co) ss), eI (whenA (hallB bx by_ bwh bll pl ev cc ss nu co) nu), dI (whenN (hallB bx by_ bwh bll pl ev cc ss nu co) co), dS ByteArray.empty, dS ByteArray.empty, dI 0], .c (dB (hallB bx by_ bwh bll pl ev cc ss nu co))]) := by
 cases hB : hallB bx by_ bwh bll pl ev cc ss nu co with
 | false =>
  refine jaq Tryz.func6 rfl rfl rfl (by kernel_rfl) rfl rfl ?_;intro _
  repeat' (first|(refine jaa (.box 31 _) ?_;refine jbh rfl rfl ?_)|(refine jaa (.alloc 36) ?_;refine jav (zs := [.int .i64 0, .int .i64 0, .int .i64 0, .slice none 0 0, .slice none 0 0, .int .i64 0, .slice none 0 0, .slice none 0 0, .slice none 0 0, .int .i64 0, .string ByteArray.empty, .string ByteArray.empty, .int .i64 0]) (by kernel_rfl) rfl ?_)|refine zaa ?_|refine zar ?_|refine zah ?_|(refine jaa (.build 36 _) ?_;refine jac (jbv (cs := [_, _, _, _, _, _, _, _, _, _, _, _, _]) [(0, 10), (10, 3)] [.int .i64 0, .int .i64 0, .int .i64 0, .slice none 0 0, .slice none 0 0, .int .i64 0, .slice none 0 0, .slice none 0 0, .slice none 0 0, .int .i64 0, .string ByteArray.empty, .string ByteArray.empty, .int .i64 0] (by kernel_rfl) (by kernel_rfl) rfl) rfl ?_)|(refine jaa (.store 36 _ _) ?_;(refine jah rfl rfl rfl (by kernel_rfl) rfl rfl ?_))|(refine jaa (.call ⟨.value (.func 18), _, _⟩) ?_;(apply jag (fid := 18);(·(repeat(first|exact SeA.nil|(apply SeA.cons;(·(apply SeP.g;(repeat(first|exact SeL.nil|apply SeL.cons (.d _)))))))));(·exact IsHall_p _ _ _ _ _ _ _ _ _ _);(·rfl)))|refine jaj ?_|refine jak ?_|refine jan ?_|refine jab ?_|refine jcj rfl (fun hc => ?_) (fun hc => ?_))
  all_goals first|(exfalso;simp_all;done)|skip
  all_goals (apply jat;apply jau;(·apply jbc.t;(·(apply GvA.cons;(·(apply RV.cellN (n := 13);(·rfl);(·rfl);(·kernel_rfl);(·rfl)));(·(apply GvP.g;(·(apply GvL.cons (.lit _));(apply GvL.cons (.lit _));(apply GvL.cons (.lit _));((apply GvL.cons (.nil 1 (by decide))));((apply GvL.cons (.nil 1 (by decide))));(apply GvL.cons (.lit _));((apply GvL.cons (.nil 1 (by decide))));((apply GvL.cons (.nil 1 (by decide))));((apply GvL.cons (.nil 1 (by decide))));(apply GvL.cons (.lit _));(apply GvL.cons (.lit _));(apply GvL.cons (.lit _));(apply GvL.cons (.lit _));exact GvL.nil))));(apply GvA.cons;(·exact .tmp _);(·exact GvP.c (.lit _)));exact GvA.nil);(·rfl);(·decide)))
  all_goals simp [whenN, whenL, whenA]
 | true =>
  have hN := jgm hB
  have n7 := hN.bl;have n8 := hN.cl;have n9 := hN.sl;have n10 := hN.pl6;have n11 := hN.nl
  refine jaq Tryz.func6 rfl rfl rfl (by kernel_rfl) rfl rfl ?_;intro _
  repeat' (first|(refine jaa (.box 31 _) ?_;refine jbh rfl rfl ?_)|(refine jaa (.alloc 36) ?_;refine jav (zs := [.int .i64 0, .int .i64 0, .int .i64 0, .slice none 0 0, .slice none 0 0, .int .i64 0, .slice none 0 0, .slice none 0 0, .slice none 0 0, .int .i64 0, .string ByteArray.empty, .string ByteArray.empty, .int .i64 0]) (by kernel_rfl) rfl ?_)|refine zaa ?_|refine zar ?_|refine zah ?_|(refine jaa (.build 36 _) ?_;refine jac (jbv (cs := [_, _, _, _, _, _, _, _, _, _, _, _, _]) [(0, 10), (10, 3)] [.int .i64 0, .int .i64 0, .int .i64 0, .slice none 0 0, .slice none 0 0, .int .i64 0, .slice none 0 0, .slice none 0 0, .slice none 0 0, .int .i64 0, .string ByteArray.empty, .string ByteArray.empty, .int .i64 0] (by kernel_rfl) (by kernel_rfl) rfl) rfl ?_)|(refine jaa (.store 36 _ _) ?_;(refine jah rfl rfl rfl (by kernel_rfl) rfl rfl ?_))|(refine jaa (.call ⟨.value (.func 18), _, _⟩) ?_;(apply jag (fid := 18);(·(repeat(first|exact SeA.nil|(apply SeA.cons;(·(apply SeP.g;(repeat(first|exact SeL.nil|apply SeL.cons (.d _)))))))));(·exact IsHall_p _ _ _ _ _ _ _ _ _ _);(·rfl)))|(refine jaa (.call ⟨.value (.func 19), _, _⟩) ?_;(apply jbq (fid := 19);(·(repeat(first|exact SeA.nil|(apply SeA.cons;(·(apply SeP.g;(repeat(first|exact SeL.nil|apply SeL.cons (.d _)))))))));(·exact own_p _ _ _ _ _ _ _ _ _ _ (by omega) hN.br (by omega) hN.cr hN.cb (by omega) (by omega) (by omega));(·rfl);(·rfl)))|refine jaj ?_|refine jak ?_|refine jan ?_|refine jab ?_|refine jcj rfl (fun hc => ?_) (fun hc => ?_))
  all_goals first|(exfalso;simp_all;done)|skip
  all_goals (apply jat;apply jau;(·apply jbc.t;(·(apply GvA.cons;(·(apply RV.cellN (n := 13);(·rfl);(·rfl);(·kernel_rfl);(·rfl)));(·(apply GvP.g;(·(apply GvL.cons (.lit _));(apply GvL.cons (.lit _));(apply GvL.cons (.lit _));((apply GvL.cons (.row _ _ _ _ rfl (by ((simp;done))))));((apply GvL.cons (.row _ _ _ _ rfl (by ((simp;done))))));(apply GvL.cons (.lit _));((apply GvL.cons (.row _ _ _ _ rfl (by ((simp;done))))));((apply GvL.cons (.row _ _ _ _ rfl (by ((simp;done))))));((apply GvL.cons (.row _ _ _ _ rfl (by ((simp;done))))));(apply GvL.cons (.lit _));(apply GvL.cons (.lit _));(apply GvL.cons (.lit _));(apply GvL.cons (.lit _));exact GvL.nil))));(apply GvA.cons;(·exact .tmp _);(·exact GvP.c (.lit _)));exact GvA.nil);(·rfl);(·decide)))
  all_goals simp [whenN, whenL, whenA]
theorem spIsHall_p (bx by_ bwh : Int) (bll : List (List Int)) (pl : List Int) (ev : Int) (cc : List (List Int)) (ss nu : List Int) (co : Int) :
  PC Tryz.prog 7 [.g [dI bx, dI by_, dI bwh, eII bll, eI pl, dI ev, eII cc, eI ss, eI nu, dI co]] (.p (.c (dB (hallB bx by_ bwh bll pl ev cc ss nu co)))) := by
 refine jaq Tryz.func7 rfl rfl rfl (by kernel_rfl) rfl rfl ?_;intro _
 repeat' (first|(refine jaa (.box 31 _) ?_;refine jbh rfl rfl ?_)|refine zaa ?_|refine zar ?_|(refine jaa (.call ⟨.value (.func 20), _, _⟩) ?_;(apply jag (fid := 20);(·(repeat(first|exact SeA.nil|(apply SeA.cons;(·(apply SeP.g;(repeat(first|exact SeL.nil|apply SeL.cons (.d _)))))))));(·exact l12Good_p _ _ _ _ _ _ _ _ _ _);(·rfl)))|refine jaj ?_|refine jak ?_|refine jab ?_)
 ·(apply jat;apply jau;(·apply jbc.p;(·(apply GvA.cons;(·exact .tmp _);(·exact GvP.c (.lit _)));exact GvA.nil);(·decide)))
  rfl
def tabNm : String := (Rows.fnConsoleWordsRow.laid.getD 2 (default, .nil)).1
end Go.Proofs.YteaeoaeogehaaaaGreatDoor
namespace Go.Proofs.YteaeoaeogehaaaaGreatDoor
open Go.RowKit
variable [Glb]
open Go.Shelf Go.Proofs
def Tryz.laysM171_ren_strconv_Itoa : Go.Shelf.Ren := ⟨fun | 171 => 79 | 243 => 126 | 246 => 170 | 283 => 204 | 284 => 205 | 285 => 206 | 286 => 207 | 129 => 225 | 317 => 224 | 318 => 226 | 319 => 227 | 320 => 228 | 337 => 235 | 338 => 236 | n => n, fun | 3 => 3 | 9 => 9 | 2 => 2 | 4 => 4 | 171 => 214 | 0 => 0 | 53 => 56 | 37 => 22 | 5 => 5 | 173 => 216 | 212 => 230 | 51 => 157 | 20 => 20 | 213 => 231 | 46 => 76 | 232 => 243 | 233 => 244 | n => n, fun | 17 => 3 | 18 => 6 | 19 => 7 | n => n⟩
theorem Tryz.laysM171_strconv_Itoa : Go.Proofs.LaysM.n171 Tryz.prog Tryz.laysM171_ren_strconv_Itoa := {
 mixed := by kernel_rfl
 f129 := Tryz.func225.trans (congrArg some (by kernel_rfl))
 f171 := Tryz.func79.trans (congrArg some (by kernel_rfl))
 f243 := Tryz.func126.trans (congrArg some (by kernel_rfl))
 f246 := Tryz.func170.trans (congrArg some (by kernel_rfl))
 f283 := Tryz.func204.trans (congrArg some (by kernel_rfl))
 f284 := Tryz.func205.trans (congrArg some (by kernel_rfl))
 f285 := Tryz.func206.trans (congrArg some (by kernel_rfl))
 f286 := Tryz.func207.trans (congrArg some (by kernel_rfl))
 f317 := Tryz.func224.trans (congrArg some (by kernel_rfl))
 f318 := Tryz.func226.trans (congrArg some (by kernel_rfl))
 f319 := Tryz.func227.trans (congrArg some (by kernel_rfl))
 f320 := Tryz.func228.trans (congrArg some (by kernel_rfl))
 f337 := Tryz.func235.trans (congrArg some (by kernel_rfl))
 f338 := Tryz.func236.trans (congrArg some (by kernel_rfl))
 t0 := Tryz.underlying0
 a0 := Tryz.isAgg0
 z0 := Tryz.sizeOf0
 v0 := Tryz.zeroValue0
 t2 := Tryz.underlying2
 a2 := Tryz.isAgg2
 z2 := Tryz.sizeOf2
 v2 := Tryz.zeroValue2
 t3 := Tryz.underlying3
 a3 := Tryz.isAgg3
 z3 := Tryz.sizeOf3
 v3 := Tryz.zeroValue3
 t4 := Tryz.underlying4
 a4 := Tryz.isAgg4
 z4 := Tryz.sizeOf4
 v4 := Tryz.zeroValue4
 t5 := Tryz.underlying5
 a5 := Tryz.isAgg5
 z5 := Tryz.sizeOf5
 v5 := Tryz.zeroValue5
 t9 := Tryz.underlying9
 a9 := Tryz.isAgg9
 z9 := Tryz.sizeOf9
 v9 := Tryz.zeroValue9
 t20 := Tryz.underlying20
 a20 := Tryz.isAgg20
 z20 := Tryz.sizeOf20
 v20 := Tryz.zeroValue20
 t37 := Tryz.underlying22
 a37 := Tryz.isAgg22
 z37 := Tryz.sizeOf22
 v37 := Tryz.zeroValue22
 t46 := Tryz.underlying76
 a46 := Tryz.isAgg76
 z46 := Tryz.sizeOf76
 v46 := Tryz.zeroValue76
 t51 := Tryz.underlying157
 a51 := Tryz.isAgg157
 z51 := Tryz.sizeOf157
 v51 := Tryz.zeroValue157
 t53 := Tryz.underlying56
 a53 := Tryz.isAgg56
 z53 := Tryz.sizeOf56
 v53 := Tryz.zeroValue56
 t171 := Tryz.underlying214
 a171 := Tryz.isAgg214
 z171 := Tryz.sizeOf214
 v171 := Tryz.zeroValue214
 t173 := Tryz.underlying216
 a173 := Tryz.isAgg216
 z173 := Tryz.sizeOf216
 v173 := Tryz.zeroValue216
 t212 := Tryz.underlying230
 a212 := Tryz.isAgg230
 z212 := Tryz.sizeOf230
 v212 := Tryz.zeroValue230
 t213 := Tryz.underlying231
 a213 := Tryz.isAgg231
 z213 := Tryz.sizeOf231
 t232 := Tryz.underlying243
 a232 := Tryz.isAgg243
 z232 := Tryz.sizeOf243
 v232 := Tryz.zeroValue243
 t233 := Tryz.underlying244
 a233 := Tryz.isAgg244
 z233 := Tryz.sizeOf244
 v233 := Tryz.zeroValue244
 g17 := by kernel_rfl
 g18 := by kernel_rfl
 g19 := by kernel_rfl
 i0 := by kernel_rfl
 i2 := by kernel_rfl
 i3 := by kernel_rfl
 i4 := by kernel_rfl
 i5 := by kernel_rfl
 i9 := by kernel_rfl
 i20 := by kernel_rfl
 i37 := by kernel_rfl
 i46 := by kernel_rfl
 i51 := by kernel_rfl
 i53 := by kernel_rfl
 i171 := by kernel_rfl
 i173 := by kernel_rfl
 i212 := by kernel_rfl
 i232 := by kernel_rfl
 i233 := by kernel_rfl
 m17 := by kernel_rfl
 m18 := by kernel_rfl
 m19 := by kernel_rfl }
open Go.RowKit Go.Sort Go.Lib in
theorem Tryz.strconv_Itoa (n : Int) (h0 : -9223372036854775808 ≤ n) (h1 : n ≤ 9223372036854775807) (w : World) (htab : Lib.TabIs Tryz.prog w tabNm .u64 Lib.pow10Tab) :
  Calls Tryz.prog 79 #[.int .i64 n] w fun e w' => e = .returned (.string ⟨(Lib.itoa n).toArray⟩) ∧ ∃ k os, w' = grow (w.drewN k) os := Any.strconv_Itoa Tryz.laysM171_strconv_Itoa n h0 h1 w htab
end Go.Proofs.YteaeoaeogehaaaaGreatDoor
namespace Go.Proofs.YteaeoaeogehaaaaGreatDoor
open Go.RowKit
variable [Glb]
variable [GTab Tryz.prog tabNm]
theorem itoa_p (n : Nat) (h : n ≤ 1000000) : PC Tryz.prog 79 [.c (dI n)] (.p (.c (dT (numT n)))) :=
 pc_lit1 (Go.Proofs.enters_of Tryz.func79 (by kernel_rfl) rfl) (by
  have := (jhh 6 n (by omega)).2
  simp [sc, jdh];omega) fun w ok => (Tryz.strconv_Itoa (n : Int) (by omega) (by omega) w (GTab.tab w ok)).mono (by
  rintro e w' ⟨rfl, k, os, rfl⟩
  refine ⟨by rw [Go.Lib.itoa_nonneg];rfl, ⟨rfl, rfl, rfl, ?_, fun g hg => ?_⟩⟩
  ·simp [Go.Sort.grow, World.drewN]
  ·simp only [Go.Sort.grow, World.drewN];rw [Array.getElem?_append_left hg])
theorem itoa_txt (n : Int) : Go.Lib.itoa n = txtZ n := by
 unfold txtZ
 by_cases h : n < 0
 ·rw [if_pos h]
  obtain ⟨u, rfl⟩ : ∃ u : Nat, n = -(u : Int) := ⟨n.natAbs, by omega⟩
  rw [Go.Lib.itoa_neg u (by omega), show (- -(u : Int)).toNat = u by omega];rfl
 ·rw [if_neg h]
  obtain ⟨u, rfl⟩ : ∃ u : Nat, n = (u : Int) := ⟨n.toNat, by omega⟩
  rw [Go.Lib.itoa_nonneg];rfl
theorem itoaZ_p (n : Int) (h : -999999 ≤ n ∧ n ≤ 999999) : PC Tryz.prog 79 [.c (dI n)] (.p (.c (dT (txtZ n)))) :=
 pc_lit1 (Go.Proofs.enters_of Tryz.func79 (by kernel_rfl) rfl) (by
  have := (jfo h).2
  simp [sc, jdh];omega) fun w ok => (Tryz.strconv_Itoa n (by omega) (by omega) w (GTab.tab w ok)).mono (by
  rintro e w' ⟨rfl, k, os, rfl⟩
  refine ⟨by rw [itoa_txt];rfl, ⟨rfl, rfl, rfl, ?_, fun g hg => ?_⟩⟩
  ·simp [Go.Sort.grow, World.drewN]
  ·simp only [Go.Sort.grow, World.drewN];rw [Array.getElem?_append_left hg])
end Go.Proofs.YteaeoaeogehaaaaGreatDoor
namespace Go.Proofs.YteaeoaeogehaaaaGreatDoor
open Go.RowKit
variable [Glb]
open Go Go.RowKit
class GErr (P : Program) : Prop where
 err : ∀ w : World, Glb.ok w → ∃ tp p, w.var? P "strconv.ErrSyntax" = some #[.iface tp p]
theorem VwL.lits : ∀ {w : World} {us : List Value}, (∀ u ∈ us, sc u = true) → VwL w us (us.map fun u => RP.c (.lit u)) := fun {w us} h => by
 refine ⟨by simp, fun k hk => ?_⟩
 have hk' : k < us.length := by simpa using hk
 rw [List.getElem_map, List.getD_eq_getElem?_getD, List.getElem?_eq_getElem hk']
 exact .c _ _ [] (.lit _ (h _ (List.getElem_mem hk')))
end Go.Proofs.YteaeoaeogehaaaaGreatDoor
namespace Go.Proofs.YteaeoaeogehaaaaGreatDoor
open Go.RowKit
variable [Glb]
open Go.Shelf Go.Proofs
def Tryz.lays156_ren_strings_Joinstrings_Join_none : Go.Shelf.Ren := ⟨fun | 156 => 81 | 165 => 127 | 166 => 128 | 169 => 129 | 240 => 171 | 241 => 172 | 276 => 208 | 277 => 209 | n => n, fun | 31 => 83 | 9 => 9 | 3 => 3 | 4 => 4 | 0 => 0 | 20 => 20 | 72 => 161 | 76 => 136 | 70 => 159 | 37 => 22 | 75 => 135 | 127 => 192 | 164 => 218 | 5 => 5 | 80 => 163 | n => n, fun | n => n⟩
theorem Tryz.lays156_strings_Joinstrings_Join_none : Go.Proofs.Lays.n156 Tryz.prog Tryz.lays156_ren_strings_Joinstrings_Join_none := {
 mixed := by kernel_rfl
 f156 := Tryz.func81.trans (congrArg some (by kernel_rfl))
 f165 := Tryz.func127.trans (congrArg some (by kernel_rfl))
 f166 := Tryz.func128.trans (congrArg some (by kernel_rfl))
 f169 := Tryz.func129.trans (congrArg some (by kernel_rfl))
 f240 := Tryz.func171.trans (congrArg some (by kernel_rfl))
 f241 := Tryz.func172.trans (congrArg some (by kernel_rfl))
 f276 := Tryz.func208.trans (congrArg some (by kernel_rfl))
 f277 := Tryz.func209.trans (congrArg some (by kernel_rfl))
 t0 := Tryz.underlying0
 a0 := Tryz.isAgg0
 z0 := Tryz.sizeOf0
 v0 := Tryz.zeroValue0
 t3 := Tryz.underlying3
 a3 := Tryz.isAgg3
 z3 := Tryz.sizeOf3
 v3 := Tryz.zeroValue3
 t4 := Tryz.underlying4
 a4 := Tryz.isAgg4
 z4 := Tryz.sizeOf4
 v4 := Tryz.zeroValue4
 t9 := Tryz.underlying9
 a9 := Tryz.isAgg9
 z9 := Tryz.sizeOf9
 v9 := Tryz.zeroValue9
 t20 := Tryz.underlying20
 a20 := Tryz.isAgg20
 z20 := Tryz.sizeOf20
 v20 := Tryz.zeroValue20
 t31 := Tryz.underlying83
 a31 := Tryz.isAgg83
 z31 := Tryz.sizeOf83
 v31 := Tryz.zeroValue83
 t37 := Tryz.underlying22
 a37 := Tryz.isAgg22
 z37 := Tryz.sizeOf22
 v37 := Tryz.zeroValue22
 t70 := Tryz.underlying159
 a70 := Tryz.isAgg159
 z70 := Tryz.sizeOf159
 v70 := Tryz.zeroValue159
 t72 := Tryz.underlying161
 a72 := Tryz.isAgg161
 z72 := Tryz.sizeOf161
 v72 := Tryz.zeroValue161
 t75 := Tryz.underlying135
 a75 := Tryz.isAgg135
 z75 := Tryz.sizeOf135
 v75 := Tryz.zeroValue135
 t76 := Tryz.underlying136
 a76 := Tryz.isAgg136
 z76 := Tryz.sizeOf136
 v76 := Tryz.zeroValue136
 t127 := Tryz.underlying192
 a127 := Tryz.isAgg192
 z127 := Tryz.sizeOf192
 v127 := Tryz.zeroValue192
 t164 := Tryz.underlying218
 a164 := Tryz.isAgg218
 z164 := Tryz.sizeOf218
 v164 := Tryz.zeroValue218 }
theorem Tryz.Builder_Extra_156 : Builder.Extra Tryz.prog Tryz.lays156_ren_strings_Joinstrings_Join_none := {
 sizeBuilder := by kernel_rfl
 liesBuilder := by kernel_rfl
 t5 := Tryz.underlying5
 a5 := Tryz.isAgg5
 z5 := Tryz.sizeOf5
 v5 := Tryz.zeroValue5
 infoByte := by kernel_rfl
 cellsByte := by kernel_rfl
 sizeByte := by kernel_rfl
 neB5 := by decide }
open Go.RowKit in
theorem Tryz.strings_Join_none (a : Option Addr) (c : Nat) (sep : ByteArray) (w : World) :
  Calls Tryz.prog 81 #[.slice a 0 c, .string sep] w fun e w' => e = .returned (.string ⟨#[]⟩) ∧ w' = w := Any.strings_Join_none Tryz.lays156_strings_Joinstrings_Join_none Tryz.Builder_Extra_156 a c sep w
open Go.RowKit in
theorem Tryz.strings_Join (bk o c : Nat) (xs : List ByteArray) (sep : ByteArray) (w : World) (hcells : ∀ (j : Nat) x, xs[j]? = some x → w.cell? ⟨bk, o + j, none⟩ = some (.string x)) (hbk : bk < w.heap.size) (hN : xs.length ≤ 140737488355328) (hcap : xs.length ≤ c) (hlen : (Lib.join (xs.map (·.data.toList)) sep.data.toList).length ≤ 140737488355328) :
  Calls Tryz.prog 81 #[.slice (some ⟨bk, o, none⟩) xs.length c, .string sep] w fun e w' => e = .returned (.string ⟨(Lib.join (xs.map (·.data.toList)) sep.data.toList).toArray⟩) ∧ Below w.heap.size w w' := Any.strings_Join Tryz.lays156_strings_Joinstrings_Join_none Tryz.Builder_Extra_156 bk o c xs sep w hcells hbk hN hcap hlen
end Go.Proofs.YteaeoaeogehaaaaGreatDoor
namespace Go.Proofs.YteaeoaeogehaaaaGreatDoor
open Go.RowKit
variable [Glb]
theorem jkf {c : UInt8} : ∀ {s : Tx}, c ∈ s → Go.Lib.indexByte s c = ((bef c s).length : Int)
 | [], h => by cases h
 | x :: r, h => by
  unfold Go.Lib.indexByte
  by_cases hx : x = c
  ·subst hx; simp [bef]
  ·have hr : c ∈ r := by rcases List.mem_cons.1 h with e|e;exact absurd e.symm hx;exact e
   have := jkf hr
   rw [if_neg (by simpa using hx), this, bef, if_neg hx]
   rw [if_neg (by rw [beq_iff_eq];omega), List.length_cons];omega
theorem jke {c : UInt8} : ∀ {s : Tx}, c ∉ s → Go.Lib.indexByte s c = -1
 | [], h => rfl
 | x :: r, h => by
  rw [List.mem_cons, not_or] at h
  unfold Go.Lib.indexByte
  rw [if_neg (by simpa using Ne.symm h.1), jke h.2];rfl
theorem ixB_has (c : UInt8) (s : Tx) : decide (0 ≤ Go.Lib.indexByte s c) = s.contains c := by
 by_cases h : c ∈ s
 ·rw [jkf h]; simp [h]
 ·rw [jke h]; simp [h]
theorem jea (s : Tx) : (bsT s).data.toList = s := by simp [bsT]
theorem jkd (b : UInt8) : ∀ l : List Tx, Go.Lib.join l [b] = joinT b l
 | [] => rfl
 | [x] => by simp [joinT, Go.Lib.join_one]
 | x :: y :: r => by
  have ih := jkd b (y :: r)
  rw [jjg b x (by simp), ← ih, Go.Lib.join_cons, Go.Lib.join_cons]
  simp [Go.Lib.joinTail]
theorem map_txt (l : List Tx) : (l.map bsT).map (·.data.toList) = l := by
 rw [List.map_map]
 conv => rhs;rw [← List.map_id l]
 exact List.map_congr_left fun x _ => by simp [bsT]
theorem join_p (l : List Tx) (b : UInt8) (hl : l.length ≤ 1000000) (hj : (joinT b l).length ≤ 1000000000) : PC Tryz.prog 81 [.c (eT l), .c (dT [b])] (.p (.c (dT (joinT b l)))) := by
 have hsc : sc (.string (bsT (joinT b l))) = true := by simp [sc, jdh];omega
 refine ⟨Go.Proofs.enters_of Tryz.func81 (by kernel_rfl) rfl, fun w vs ok hv => ?_⟩
 obtain ⟨x, y, rfl, h1, h2⟩ := hv.two
 rw [h2.lit_inv]
 obtain ⟨q, hq⟩ : ∃ q, q = RP.c (eT l) := ⟨_, rfl⟩
 rw [← hq] at h1
 cases h1 with
 | g => cases hq
 | c v z F h =>
  obtain rfl := RP.c.inj hq
  obtain ⟨q2, hq2⟩ : ∃ q2, q2 = eT l := ⟨_, rfl⟩
  rw [← hq2] at h
  cases h with
  | lit => cases hq2
  | pt => cases hq2
  | fn => cases hq2
  | bf => cases hq2
  | same => cases hq2
  | any => cases hq2
  | sl ao n cap sz ds us Fs hn hz hle hs hc hr =>
   simp only [eT, D.sl.injEq] at hq2
   obtain ⟨rfl, rfl, rfl⟩ := hq2
   have hus : ∀ k (hk : k < l.length), us k = .string (bsT l[k]) := fun k hk => by
    have h2 := hr k (by simpa using hk)
    rw [List.getElem_map] at h2
    generalize us k = u at h2
    generalize Fs k = F at h2
    cases h2; rfl
   have fin : ∀ {e : Ending} {w' : World}, e = .returned (.string (bsT (joinT b l))) → Below w.heap.size w w' → ∃ v F, e = .returned v ∧ OwR w' v (.p (.c (dT (joinT b l)))) F ∧ F.Nodup ∧ (∀ g ∈ F, w.heap.size ≤ g) ∧ Below w.heap.size w w' := fun {e w'} he hb =>
    ⟨_, [], he, .p (.c (.lit _ hsc)), List.nodup_nil, (fun g hg => by cases hg), hb⟩
   by_cases h0 : l = []
   ·subst h0
    refine Calls.mono (Tryz.strings_Join_none ao cap (bsT [b]) w) ?_
    rintro e w' ⟨rfl, rfl⟩
    exact fin rfl (.refl _ _)
   ·have hp : 0 < l.length := List.length_pos_iff.2 h0
    have hso := hs hp
    obtain ⟨⟨bk, o, sp⟩, rfl⟩ := Option.isSome_iff_exists.1 hso
    have hsp : sp = none := by
     have h := hc 0 (by simpa using hp)
     unfold World.cell? at h
     cases sp with
     | none => rfl
     | some x => simp [Addr.add, adrO] at h;split at h <;> simp at h
    subst hsp
    have hcell : ∀ (j : Nat) (x : ByteArray), (l.map bsT)[j]? = some x → w.cell? ⟨bk, o + j, none⟩ = some (.string x) := fun j x hx => by
     have hj : j < l.length := by have := (List.getElem?_eq_some_iff.1 hx).1;simpa using this
     have h := hc j (by simpa using hj)
     rw [hus j hj, adrO_some, jem] at h
     rw [h]
     rw [List.getElem?_map, List.getElem?_eq_getElem hj] at hx
     simp only [Option.map_some, Option.some.injEq] at hx
     rw [hx]
    have hlt : bk < w.heap.size := by
     have h := hc 0 (by simpa using hp)
     rw [adrO_some, jem] at h
     exact World.block_lt_of_cell? w _ h
    have J := Tryz.strings_Join bk o cap (l.map bsT) (bsT [b]) w hcell hlt (by rw [List.length_map];omega) (by rw [List.length_map];exact hle.2) (by rw [map_txt, jea, jkd];omega)
    rw [List.length_map] at J
    refine Calls.mono J ?_
    rintro e w' ⟨rfl, hb⟩
    refine fin ?_ hb
    rw [map_txt, jea, jkd];rfl
end Go.Proofs.YteaeoaeogehaaaaGreatDoor
namespace Go.Proofs.YteaeoaeogehaaaaGreatDoor
open Go.RowKit
variable [Glb]
variable [GTab Tryz.prog tabNm]
theorem FormatInt_p (n : Int) (h : -999999 ≤ n ∧ n ≤ 999999) : PC Tryz.prog 36 [.c (dI n)] (.t [.c (dT (txtZ n)), .c (dB true)]) := by
 have hi : inB n (-999999) 999999 = true := jcp.2 h
 refine jaq Tryz.func36 rfl rfl rfl (by kernel_rfl) rfl rfl ?_;intro _
 repeat' (first|refine zaa ?_|refine zab ?_|refine zah ?_|(refine jaa (.call ⟨.value (.func 50), _, _⟩) ?_;(apply jag (fid := 50);(·(repeat(first|exact SeA.nil|apply SeA.cons (.c (.d _)))));(·exact within_p _ _ _);(·rfl)))|(refine jaa (.call ⟨.value (.func 79), _, _⟩) ?_;(apply jag (fid := 79);(·(repeat(first|exact SeA.nil|apply SeA.cons (.c (.d _)))));(·exact itoaZ_p n h);(·rfl)))|refine jaj ?_|refine jak ?_|refine jan ?_|refine jab ?_|refine jcj rfl (fun hc => ?_) (fun hc => ?_))
 all_goals first|(exfalso;simp_all;done)|skip
 all_goals (apply jat;apply jau;(·apply jbc.t;(·(apply GvA.cons;(·exact .tmp _);(·exact GvP.c (.lit _)));(apply GvA.cons;(·exact .tmp _);(·exact GvP.c (.lit _)));exact GvA.nil);(·rfl);(·decide)))
 all_goals rfl
theorem numberReply_p (n : Int) (h : -999999 ≤ n ∧ n ≤ 999999) : PC Tryz.prog 104 [.c (dI n), .c (dB true)] (.t [.c (dT (txtZ n)), .c (dB true)]) := by
 refine jaq Tryz.func104 rfl rfl rfl (by kernel_rfl) rfl rfl ?_;intro _
 repeat' (first|refine zaa ?_|refine zab ?_|refine zah ?_|refine zak ?_|(refine jaa (.call ⟨.value (.func 36), _, _⟩) ?_;(apply jag (fid := 36);(·(repeat(first|exact SeA.nil|apply SeA.cons (.c (.d _)))));(·exact FormatInt_p n h);(·rfl)))|refine jaj ?_|refine jak ?_|refine jan ?_|refine jab ?_|refine jbj rfl ?_)
 all_goals first|(exfalso;simp_all;done)|skip
 all_goals (apply jat;apply jau;(·apply jbc.t;(·(apply GvA.cons;(·exact .tmp _);(·exact GvP.c (.lit _)));(apply GvA.cons;(·exact .tmp _);(·exact GvP.c (.lit _)));exact GvA.nil);(·rfl);(·decide)))
 all_goals rfl
theorem jlc (l : List Int) : PC Tryz.prog 105 [.c (eI l), .c (dB false)] (.t [.c (dT []), .c (dB false)]) := by
 refine jaq Tryz.func105 rfl rfl rfl (by kernel_rfl) rfl rfl ?_;intro _
 repeat' (first|refine zaa ?_|refine zab ?_|refine zah ?_|refine jaj ?_|refine jak ?_|refine jab ?_|refine jbk rfl ?_)
 all_goals first|(exfalso;simp_all;done)|skip
 all_goals (apply jat;apply jau;(·apply jbc.t;(·(apply GvA.cons;(·exact .tmp _);(·exact GvP.c (.lit _)));(apply GvA.cons;(·exact .tmp _);(·exact GvP.c (.lit _)));exact GvA.nil);(·rfl);(·decide)))
 all_goals rfl
def txtD (l : List Int) (k : Nat) : List D := (l.take k).map fun n => dT (txtZ n)
theorem jho (l : List Int) : txtD l 0 = [] := rfl
theorem jhp {l : List Int} {k : Nat} (h : k < l.length) : txtD l (k + 1) = txtD l k ++ [dT (txtZ (atZ l (k : Int)))] := by
 unfold txtD
 rw [List.take_succ_eq_append_getElem h, List.map_append, jbw h];rfl
theorem jmt (l : List Int) : txtD l l.length = (l.map txtZ).map dT := by
 unfold txtD
 rw [List.take_length, List.map_map];rfl
@[simp] theorem txtD_len {l : List Int} {k : Nat} (h : k ≤ l.length) : (txtD l k).length = k := by simp [txtD]; omega
theorem joinZ_p (l : List Int) (b : UInt8) (h : jfu l) (hl : l.length ≤ 1000) : PC Tryz.prog 81 [.c (.sl 1 l.length (txtD l l.length)), .c (dT [b])] (.p (.c (dT (joinT b (l.map txtZ))))) := by
 have hj := jfk b (m := 7) (l := l.map txtZ) fun x hx => by
  obtain ⟨n, hn, rfl⟩ := List.mem_map.1 hx
  exact (jfo (h n hn)).2
 rw [List.length_map] at hj
 have jp := join_p (l.map txtZ) b (by rw [List.length_map];omega) (by omega)
 unfold eT at jp
 rw [List.length_map] at jp
 rw [jmt]
 exact jp
theorem listReply_p (l : List Int) (h : jfu l) (hl : l.length ≤ 1000) : PC Tryz.prog 105 [.c (eI l), .c (dB true)] (.t [.c (dT (sayL l)), .c (dB true)]) := by
 have jp := joinZ_p l 32 h hl
 refine jaq Tryz.func105 rfl rfl rfl (by kernel_rfl) rfl rfl ?_;intro _
 repeat' (first|refine zaa ?_|refine zab ?_|refine zah ?_|(refine jaa (.buildSlice 83 0 _) ?_;(apply jao (sz := 1) (by_ := 16);(·kernel_rfl);(·decide);(·(repeat(exact GvS.nil _)));(·decide);(·rfl);(·rfl);(·rfl)))|refine zas ?_|refine jaj ?_|refine jak ?_|refine jai ?_|refine jan ?_|refine jab ?_|refine jbj rfl ?_)
 all_goals first|(exfalso;simp_all;done)|skip
 apply jay [6, 14, 15, 16] [13, 29, 30] rfl;(·(repeat(first|exact Pf.nil|apply Pf.cons (.c rfl (.d rfl))|apply Pf.cons (.c rfl (.ls rfl)))));(·(repeat(first|exact Pb.nil|apply Pb.cons (.row rfl)|apply Pb.skip)))
 refine jbb [14, 15] [29, 30] (fun k => [(16, iN k), (6, .c (.ls 13 1 0 k))]) (fun k => [(13, .row 1 (txtD l k))]) (fun k => k ≤ l.length) (fun k => l.length - k) (0) ?_ (by (repeat(first|exact trivial|refine ⟨(by rfl), ?_⟩))) (by (repeat(first|exact trivial|refine ⟨(by ((refine jbm rfl ?_;simp  [jho];done))), ?_⟩))) ?_
 ·omega
 intro k hk
 have hlk := txtD_len hk
 by_cases h2 : k < l.length
 ·have hs := h.at h2
  repeat' (first|refine zaa ?_|(refine jaa (.move _) ?_;(first|refine jac (jal rfl) rfl ?_|refine jac (jcg rfl) rfl ?_))|refine zah ?_|refine zac ?_|refine zao ?_|refine zap ?_|refine zak ?_|(refine jaa (.buildSlice 83 1 _) ?_;(apply jao (sz := 1) (by_ := 16);(·kernel_rfl);(·decide);(·(repeat(first|exact GvS.nil _|apply GvS.c rfl rfl (.lit _) rfl)));(·decide);(·rfl);(·rfl);(·rfl)))|(refine jaa (.call ⟨.builtin .append, _, #[83, 83]⟩) ?_;((apply jbo (sz := 1) (by_ := 16);(·rfl);(·rfl);(·((simp;omega)));(·exact .row _ _ _ _ rfl (by ((simp;done))));(·decide);(·kernel_rfl);(·decide);(·omega);(·omega);(·rfl);(·rfl);(·rfl))))|refine zad ?_|refine zcb ?_|refine zai ?_|(refine jaa (.call ⟨.value (.func 36), _, _⟩) ?_;(apply jag (fid := 36);(·(repeat(first|exact SeA.nil|apply SeA.cons (.c (.d _)))));(·exact FormatInt_p (atZ l (k : Int)) hs);(·rfl)))|refine jaj ?_|refine jak ?_|refine jai ?_|refine jaz ?_|refine jar rfl ?_|refine jan ?_|refine jab ?_|refine jbj rfl ?_|refine jbi rfl (fun hc => ?_) (fun hc => ?_))
  all_goals first|(exfalso;omega)|(exfalso;simp_all;done)|skip
  refine jba ?_;refine ⟨k + 1, ?_, ?_, jbx rfl (by (repeat(first|exact trivial|refine ⟨(by rfl), ?_⟩))) (by (repeat(first|exact trivial|refine ⟨rfl, ?_⟩))) (by (repeat(first|exact trivial|refine ⟨(by ((refine jbm rfl ?_;simp  [jhp h2];done))), ?_⟩))) (by (repeat(first|exact trivial|refine ⟨.inr rfl, ?_⟩)))⟩
  ·omega
  ·omega
 ·obtain rfl : k = l.length := by omega
  by_cases h0 : l = []
  ·subst h0
   repeat' (first|refine zaa ?_|refine zab ?_|refine zac ?_|refine zcb ?_|refine zai ?_|refine jaj ?_|refine jak ?_|refine jar rfl ?_|refine jab ?_|refine jbk rfl ?_|refine jbj rfl ?_)
   all_goals first|(exfalso;omega)|(exfalso;simp_all;done)|skip
   all_goals (apply jat;apply jau;(·apply jbc.t;(·(apply GvA.cons;(·exact .tmp _);(·exact GvP.c (.lit _)));(apply GvA.cons;(·exact .tmp _);(·exact GvP.c (.lit _)));exact GvA.nil);(·rfl);(·decide)))
   all_goals rfl
  ·have hp : 0 < l.length := List.length_pos_iff.2 h0
   have hsay : sayL l = joinT 32 (l.map txtZ) := if_neg h0
   repeat' (first|refine zaa ?_|refine zab ?_|refine zac ?_|refine zao ?_|refine zap ?_|refine zcb ?_|refine zai ?_|(refine jaa (.call ⟨.value (.func 81), _, _⟩) ?_;(apply jag (fid := 81);(·(repeat(first|exact SeA.nil|apply SeA.cons (.c (.d _))|apply SeA.cons (.c (.all _ _ _ _ rfl (by ((simp;done))))))));(·exact jp);(·rfl)))|refine jaj ?_|refine jak ?_|refine jai ?_|refine jar rfl ?_|refine jan ?_|refine jab ?_|refine jbi rfl (fun hc => ?_) (fun hc => ?_))
   all_goals first|(exfalso;omega)|(exfalso;simp_all;done)|skip
   all_goals (apply jat;apply jau;(·apply jbc.t;(·(apply GvA.cons;(·exact .tmp _);(·exact GvP.c (.lit _)));(apply GvA.cons;(·exact .tmp _);(·exact GvP.c (.lit _)));exact GvA.nil);(·rfl);(·decide)))
   all_goals rw [hsay]
theorem reportReply_p (b ok : Bool) : PC Tryz.prog 109 [.c (dB b), .c (dB ok)] (.t [.c (dT (sayB b)), .c (dB ok)]) := by
 cases b <;> cases ok
 all_goals
  refine jaq Tryz.func109 rfl rfl rfl (by kernel_rfl) rfl rfl ?_;intro _
  repeat' (first|refine zaa ?_|refine zab ?_|refine jaj ?_|refine jak ?_|refine jan ?_|refine jab ?_|refine jbk rfl ?_|refine jbj rfl ?_)
  all_goals first|(exfalso;simp_all;done)|skip
  all_goals (apply jat;apply jau;(·apply jbc.t;(·(apply GvA.cons;(·exact .tmp _);(·exact GvP.c (.lit _)));(apply GvA.cons;(·exact .tmp _);(·exact GvP.c (.lit _)));exact GvA.nil);(·rfl);(·decide)))
  all_goals rfl
theorem decimals_p (l : List Int) (b : UInt8) (h : jfu l) (hl : l.length ≤ 1000) : PC Tryz.prog 80 [.c (eI l), .c (dT [b])] (.p (.c (dT (joinT b (l.map txtZ))))) := by
 have jp := joinZ_p l b h hl
 refine jaq Tryz.func80 rfl rfl rfl (by kernel_rfl) rfl rfl ?_;intro _
 repeat' (first|refine zaa ?_|(refine jaa (.buildSlice 83 0 _) ?_;(apply jao (sz := 1) (by_ := 16);(·kernel_rfl);(·decide);(·(repeat(exact GvS.nil _)));(·decide);(·rfl);(·rfl);(·rfl)))|refine zab ?_|refine zas ?_|refine jaj ?_|refine jak ?_|refine jai ?_|refine jab ?_)
 all_goals first|(exfalso;simp_all;done)|skip
 apply jay [1, 5, 9, 10, 11] [8, 18, 19] rfl;(·(repeat(first|exact Pf.nil|apply Pf.cons (.c rfl (.d rfl))|apply Pf.cons (.c rfl (.ls rfl)))));(·(repeat(first|exact Pb.nil|apply Pb.cons (.row rfl)|apply Pb.skip)))
 refine jbb [1, 9, 10] [18, 19] (fun k => [(11, iN k), (5, .c (.ls 8 1 0 k))]) (fun k => [(8, .row 1 (txtD l k))]) (fun k => k ≤ l.length) (fun k => l.length - k) (0) ?_ (by (repeat(first|exact trivial|refine ⟨(by rfl), ?_⟩))) (by (repeat(first|exact trivial|refine ⟨(by ((refine jbm rfl ?_;simp  [jho];done))), ?_⟩))) ?_
 ·omega
 intro k hk
 have hlk := txtD_len hk
 by_cases h2 : k < l.length
 ·have hs := h.at h2
  repeat' (first|refine zaa ?_|refine zab ?_|refine zac ?_|refine zao ?_|refine zap ?_|(refine jaa (.buildSlice 83 1 _) ?_;(apply jao (sz := 1) (by_ := 16);(·kernel_rfl);(·decide);(·(repeat(first|exact GvS.nil _|apply GvS.c rfl rfl (.lit _) rfl)));(·decide);(·rfl);(·rfl);(·rfl)))|(refine jaa (.call ⟨.builtin .append, _, #[83, 83]⟩) ?_;((apply jbo (sz := 1) (by_ := 16);(·rfl);(·rfl);(·((simp;omega)));(·exact .row _ _ _ _ rfl (by ((simp;done))));(·decide);(·kernel_rfl);(·decide);(·omega);(·omega);(·rfl);(·rfl);(·rfl))))|refine zad ?_|(refine jaa (.call ⟨.value (.func 79), _, _⟩) ?_;(apply jag (fid := 79);(·(repeat(first|exact SeA.nil|apply SeA.cons (.c (.d _)))));(·exact itoaZ_p (atZ l (k : Int)) hs);(·rfl)))|refine jaj ?_|refine jak ?_|refine jai ?_|refine jaz ?_|refine jar rfl ?_|refine jan ?_|refine jab ?_|refine jbi rfl (fun hc => ?_) (fun hc => ?_))
  all_goals first|(exfalso;omega)|(exfalso;simp_all;done)|skip
  refine jba ?_;refine ⟨k + 1, ?_, ?_, jbx rfl (by (repeat(first|exact trivial|refine ⟨(by rfl), ?_⟩))) (by (repeat(first|exact trivial|refine ⟨rfl, ?_⟩))) (by (repeat(first|exact trivial|refine ⟨(by ((refine jbm rfl ?_;simp  [jhp h2];done))), ?_⟩))) (by (repeat(first|exact trivial|refine ⟨.inr rfl, ?_⟩)))⟩
  ·omega
  ·omega
 ·obtain rfl : k = l.length := by omega
  repeat' (first|refine zaa ?_|refine zab ?_|refine zac ?_|refine zao ?_|refine zap ?_|(refine jaa (.call ⟨.value (.func 81), _, _⟩) ?_;(apply jag (fid := 81);(·(repeat(first|exact SeA.nil|apply SeA.cons (.c (.d _))|apply SeA.cons (.c (.all _ _ _ _ rfl (by ((simp;done))))))));(·exact jp);(·rfl)))|refine jaj ?_|refine jak ?_|refine jai ?_|refine jar rfl ?_|refine jan ?_|refine jab ?_|refine jbi rfl (fun hc => ?_) (fun hc => ?_))
  all_goals first|(exfalso;omega)|(exfalso;simp_all;done)|skip
  all_goals (apply jat;apply jau;(·apply jbc.p;(·(apply GvA.cons;(·exact .tmp _);(·exact GvP.c (.lit _)));exact GvA.nil);(·decide)))
  all_goals rfl
def boxD (x y : Int) (ll : List (List Int)) (k : Nat) : List D := dT (txtZ x) :: dT (txtZ y) :: (ll.take k).map fun r => dT (rowT r)
theorem boxD_zero (x y : Int) (ll : List (List Int)) : boxD x y ll 0 = [dT (txtZ x), dT (txtZ y)] := rfl
theorem boxD_succ (x y : Int) {ll : List (List Int)} {k : Nat} (h : k < ll.length) : boxD x y ll (k + 1) = boxD x y ll k ++ [dT (rowT (atZ ll (k : Int)))] := by
 unfold boxD
 rw [List.take_succ_eq_append_getElem h, List.map_append, jbw h];rfl
theorem boxD_len (x y : Int) {ll : List (List Int)} {k : Nat} (h : k ≤ ll.length) : (boxD x y ll k).length = k + 2 := by simp [boxD]; omega
theorem boxD_all (x y : Int) (ll : List (List Int)) : boxD x y ll ll.length = (txtZ x :: txtZ y :: ll.map rowT).map dT := by
 unfold boxD
 rw [List.take_length, List.map_cons, List.map_cons, List.map_map];rfl
theorem jny {x y n : Int} {ll : List (List Int)} (h : boxB x y n ll = true) {k : Nat} (hk : k < ll.length) : (atZ ll (k : Int)).length = 4 ∧ jfu (atZ ll (k : Int)) := by
 have b := jbp h
 have n2 := b.n2
 have r := jef (b.row k hk)
 rw [jbw hk]
 refine ⟨r.1, fun v hv => ?_⟩
 obtain ⟨j, hj, rfl⟩ := List.getElem_of_mem hv
 have := r.2 j hj
 omega
theorem boxText_p (x y n : Int) (ll : List (List Int)) (h : boxB x y n ll = true) : PC Tryz.prog 35 [.g [dI x, dI y, dI n, eII ll]] (.p (.c (dT (boxT x y ll)))) := by
 have b := jbp h
 have x1 := b.x1;have x3 := b.x3;have y1 := b.y1;have y3 := b.y3
 have l9 : ll.length ≤ 9 := by
  have e := b.len
  clear b
  rcases (by omega : x = 1 ∨ x = 2 ∨ x = 3) with rfl|rfl|rfl <;> omega
 clear b
 have jp : PC Tryz.prog 81 [.c (.sl 1 (ll.length + 2) (boxD x y ll ll.length)), .c (dT [32])] (.p (.c (dT (boxT x y ll)))) := by
  have hb := jfk 32 (m := 32) (l := txtZ x :: txtZ y :: ll.map rowT) fun t ht => by
   rcases List.mem_cons.1 ht with rfl|ht
   ·have := (jfo (n := x) (by omega)).2;omega
   rcases List.mem_cons.1 ht with rfl|ht
   ·have := (jfo (n := y) (by omega)).2;omega
   obtain ⟨r, hr, rfl⟩ := List.mem_map.1 ht
   obtain ⟨k, hk, rfl⟩ := List.getElem_of_mem hr
   have := jny h hk
   rw [jbw hk] at this
   exact rowT_len this.1 this.2
  have j := join_p (txtZ x :: txtZ y :: ll.map rowT) 32 (by simp;omega) (by simp only [List.length_cons, List.length_map] at hb;omega)
  rw [boxD_all]
  have e : (txtZ x :: txtZ y :: ll.map rowT).length = ll.length + 2 := by simp
  unfold eT at j
  rw [e] at j
  exact j
 refine jaq Tryz.func35 rfl rfl rfl (by kernel_rfl) rfl rfl ?_;intro _
 repeat' (first|(refine jaa (.box 26 _) ?_;refine jbh rfl rfl ?_)|refine zaa ?_|refine zav ?_|refine zaf ?_|refine zaw ?_|(refine jaa (.buildSlice 83 2 _) ?_;(apply jao (sz := 1) (by_ := 16);(·kernel_rfl);(·decide);(·(repeat(first|exact GvS.nil _|apply GvS.c rfl rfl (.lit _) rfl)));(·decide);(·rfl);(·rfl);(·rfl)))|refine zal ?_|refine zaj ?_|refine zau ?_|refine zab ?_|(refine jaa (.call ⟨.value (.func 79), _, _⟩) ?_;(first|(apply jag (fid := 79);(·(repeat(first|exact SeA.nil|apply SeA.cons (.c (.d _)))));(·exact itoaZ_p x (by omega));(·rfl))|(apply jag (fid := 79);(·(repeat(first|exact SeA.nil|apply SeA.cons (.c (.d _)))));(·exact itoaZ_p y (by omega));(·rfl))))|refine jaj ?_|refine jak ?_|refine jai ?_|refine jab ?_|refine jbd 1 (fun _ => false) (.step 0 true (.step 1 true (.step 3 true (.step 4 true (.step 2 false (.step 5 false (.step 6 false (.step 7 true .nil)))))))) [(0, 255, 255, true), (1, 254, 255, false), (2, 253, 255, false), (0, 255, 255, true), (8, 247, 255, false), (20, 239, 255, false), (36, 219, 255, false), (127, 191, 255, true)] (by kernel_rfl) (by kernel_rfl) ?_)
 all_goals first|(exfalso;simp_all;done)|skip
 apply jay [3, 14, 15, 16] [1, 12, 23, 24] rfl;(·(repeat(first|exact Pf.nil|apply Pf.cons (.c rfl (.d rfl))|apply Pf.cons (.c rfl (.ls rfl)))));(·(repeat(first|exact Pb.nil|apply Pb.cons (.row rfl)|(apply Pb.cons;(·apply Nb.box rfl;(repeat(first|exact Ncs.nil rfl|(apply Ncs.cons rfl;(·(exact .d rfl)))))))|apply Pb.skip)))
 refine jbb [14, 15] [1, 23, 24] (fun k => [(16, iN k), (3, .c (.ls 12 1 0 (k + 2)))]) (fun k => [(12, .row 1 (boxD x y ll k))]) (fun k => k ≤ ll.length) (fun k => ll.length - k) (0) ?_ (by (repeat(first|exact trivial|refine ⟨(by rfl), ?_⟩))) (by (repeat(first|exact trivial|refine ⟨(by ((refine jbm rfl ?_;simp  [boxD_zero];done))), ?_⟩))) ?_
 ·omega
 intro k hk
 have hlk := boxD_len x y hk
 by_cases h2 : k < ll.length
 ·have br := jny h h2
  have dp := decimals_p (atZ ll (k : Int)) 44 br.2 (by omega)
  repeat' (first|refine zaa ?_|refine zab ?_|refine zac ?_|refine zam ?_|refine zaq ?_|(refine jaa (.buildSlice 83 1 _) ?_;(apply jao (sz := 1) (by_ := 16);(·kernel_rfl);(·decide);(·(repeat(first|exact GvS.nil _|apply GvS.c rfl rfl (.lit _) rfl)));(·decide);(·rfl);(·rfl);(·rfl)))|(refine jaa (.call ⟨.builtin .append, _, #[83, 83]⟩) ?_;((apply jbo (sz := 1) (by_ := 16);(·rfl);(·rfl);(·((simp;omega)));(·exact .row _ _ _ _ rfl (by ((simp;done))));(·decide);(·kernel_rfl);(·decide);(·omega);(·omega);(·rfl);(·rfl);(·rfl))))|refine zad ?_|(refine jaa (.call ⟨.value (.func 80), _, _⟩) ?_;(apply jag (fid := 80);(·(repeat(first|exact SeA.nil|apply SeA.cons (.c (.d _)))));(·exact dp);(·rfl)))|refine jaj ?_|refine jak ?_|refine jai ?_|refine jaz ?_|refine jar rfl ?_|refine jan ?_|refine jab ?_|refine jbi rfl (fun hc => ?_) (fun hc => ?_))
  all_goals first|(exfalso;omega)|(exfalso;simp_all;done)|skip
  refine jba ?_;refine ⟨k + 1, ?_, ?_, jbx rfl (by (repeat(first|exact trivial|refine ⟨(by rfl), ?_⟩))) (by (repeat(first|exact trivial|refine ⟨rfl, ?_⟩))) (by (repeat(first|exact trivial|refine ⟨(by ((refine jbm rfl ?_;simp  [boxD_succ x y h2, rowT];done))), ?_⟩))) (by (repeat(first|exact trivial|refine ⟨.inr rfl, ?_⟩)))⟩
  ·omega
  ·omega
 ·obtain rfl : k = ll.length := by omega
  repeat' (first|refine zaa ?_|refine zab ?_|refine zac ?_|refine zam ?_|refine zaq ?_|(refine jaa (.call ⟨.value (.func 81), _, _⟩) ?_;(apply jag (fid := 81);(·(repeat(first|exact SeA.nil|apply SeA.cons (.c (.d _))|apply SeA.cons (.c (.all _ _ _ _ rfl (by ((simp;omega))))))));(·exact jp);(·rfl)))|refine jaj ?_|refine jak ?_|refine jai ?_|refine jar rfl ?_|refine jan ?_|refine jab ?_|refine jbi rfl (fun hc => ?_) (fun hc => ?_))
  all_goals first|(exfalso;omega)|(exfalso;simp_all;done)|skip
  all_goals (apply jat;apply jau;(·apply jbc.p;(·(apply GvA.cons;(·exact .tmp _);(·exact GvP.c (.lit _)));exact GvA.nil);(·decide)))
  all_goals rfl
theorem BoxText_p (x y n : Int) (ll : List (List Int)) (h : boxB x y n ll = true) : PC Tryz.prog 14 [.g [dI x, dI y, dI n, eII ll]] (.t [.c (dT (boxT x y ll)), .c (dB true)]) := by
 have q := IsBox_p x y n ll
 rw [h] at q
 refine jaq Tryz.func14 rfl rfl rfl (by kernel_rfl) rfl rfl ?_;intro _
 repeat' (first|(refine jaa (.box 26 _) ?_;refine jbh rfl rfl ?_)|refine zaa ?_|refine zae ?_|refine zah ?_|(refine jaa (.call ⟨.value (.func 25), _, _⟩) ?_;(apply jag (fid := 25);(·(repeat(first|exact SeA.nil|(apply SeA.cons;(·(apply SeP.g;(repeat(first|exact SeL.nil|apply SeL.cons (.d _)))))))));(·exact q);(·rfl)))|(refine jaa (.call ⟨.value (.func 35), _, _⟩) ?_;((apply jag (fid := 35);(·(repeat(first|exact SeA.nil|(apply SeA.cons;(·(apply SeP.g;(repeat(first|exact SeL.nil|apply SeL.cons (.d _)))))))));(·exact boxText_p x y n ll h);(·rfl))))|refine jaj ?_|refine jak ?_|refine jan ?_|refine jab ?_|refine jbj rfl ?_)
 all_goals first|(exfalso;simp_all;done)|skip
 all_goals (apply jat;apply jau;(·apply jbc.t;(·(apply GvA.cons;(·exact .tmp _);(·exact GvP.c (.lit _)));(apply GvA.cons;(·exact .tmp _);(·exact GvP.c (.lit _)));exact GvA.nil);(·rfl);(·decide)))
 all_goals rfl
end Go.Proofs.YteaeoaeogehaaaaGreatDoor
namespace Go.Proofs.YteaeoaeogehaaaaGreatDoor
open Go.RowKit
variable [Glb]
theorem agreement_p (row : List Int) (h : row.length = 4) (hb : ∀ k : Int, 0 ≤ k → k < 4 → -1000000000 ≤ atZ row k ∧ atZ row k ≤ 1000000000) : PC Tryz.prog 117 [.c (eI row)] (.p (.c (dI (agrZ row)))) := by
 have b0 := hb 0 (by omega) (by omega)
 have b1 := hb 1 (by omega) (by omega)
 have b2 := hb 2 (by omega) (by omega)
 have b3 := hb 3 (by omega) (by omega)
 refine jaq Tryz.func117 rfl rfl rfl (by kernel_rfl) rfl rfl ?_;intro _
 repeat' (first|refine zaa ?_|refine zab ?_|refine zao ?_|refine zap ?_|refine zan ?_|refine zad ?_|refine jaj ?_|refine jak ?_|refine jab ?_|refine jbd 1 (fun _ => false) (.step 0 true (.step 1 true (.step 2 true (.step 3 true (.step 4 true (.step 5 true (.step 6 true (.step 7 true (.step 8 true (.step 9 true (.step 10 true (.step 11 true (.step 12 true (.step 13 true (.step 14 true (.step 15 true .nil)))))))))))))))) [(0, 65535, 65535, true), (1, 65534, 65535, true), (2, 65533, 65535, false), (0, 65535, 65535, true), (8, 65527, 65535, true), (16, 65519, 65535, false), (36, 65499, 65535, true), (0, 65535, 65535, true), (128, 65407, 65535, true), (256, 65279, 65535, false), (576, 64959, 65535, true), (0, 65535, 65535, true), (2048, 63487, 65535, true), (4096, 61439, 65535, false), (9216, 56319, 65535, true), (32767, 49151, 65535, true)] (by kernel_rfl) (by kernel_rfl) ?_)
 ·(apply jat;apply jau;(·apply jbc.p;(·(apply GvA.cons;(·exact .tmp _);(·exact GvP.c (.lit _)));exact GvA.nil);(·decide)))
  rfl
theorem hasTwo_p (x y : Int) : PC Tryz.prog 78 [.c (dI x), .c (dI y)] (.p (.c (dB (decide (x = 2) && decide (y = 2))))) := by
 refine jaq Tryz.func78 rfl rfl rfl (by kernel_rfl) rfl rfl ?_;intro _
 repeat' (first|refine zaa ?_|refine zab ?_|refine zai ?_|refine zag ?_|refine jaj ?_|refine jbn rfl rfl rfl rfl ?_|refine jbg rfl rfl rfl rfl ?_|refine jca rfl rfl (fun hg => ?_) (fun hg => ?_)|refine jak ?_|refine jab ?_)
 all_goals (apply jat;apply jau;(·apply jbc.p;(·(apply GvA.cons;(·exact .tmp _);(·exact GvP.c (.lit _)));exact GvA.nil);(·decide)))
 all_goals ((simp_all [hasTwo_p];done))
theorem isPair_p (x y n : Int) (ll : List (List Int)) : PC Tryz.prog 33 [.g [dI x, dI y, dI n, eII ll]] (.p (.c (dB (pairB x y n ll)))) := by
 refine jaq Tryz.func33 rfl rfl rfl (by kernel_rfl) rfl rfl ?_;intro _
 repeat' (first|(refine jaa (.box 26 _) ?_;refine jbh rfl rfl ?_)|refine zaa ?_|refine zae ?_|refine zab ?_|refine zav ?_|refine zaf ?_|refine zaw ?_|refine zag ?_|(refine jaa (.call ⟨.value (.func 25), _, _⟩) ?_;(apply jag (fid := 25);(·(repeat(first|exact SeA.nil|(apply SeA.cons;(·(apply SeP.g;(repeat(first|exact SeL.nil|apply SeL.cons (.d _)))))))));(·exact IsBox_p _ _ _ _);(·rfl)))|(refine jaa (.call ⟨.value (.func 78), _, _⟩) ?_;(apply jag (fid := 78);(·(repeat(first|exact SeA.nil|apply SeA.cons (.c (.d _)))));(·exact hasTwo_p _ _);(·rfl)))|refine jaj ?_|refine jbn rfl rfl rfl rfl ?_|refine jbg rfl rfl rfl rfl ?_|refine jcq rfl rfl (fun hg => ?_) (fun hg => ?_)|refine jak ?_|refine jab ?_)
 all_goals (apply jat;apply jau;(·apply jbc.p;(·(apply GvA.cons;(·exact .tmp _);(·exact GvP.c (.lit _)));exact GvA.nil);(·decide)))
 all_goals ((simp_all [pairB];done))
end Go.Proofs.YteaeoaeogehaaaaGreatDoor
namespace Go.Proofs.YteaeoaeogehaaaaGreatDoor
open Go.RowKit
variable [Glb]
open Go Go.RowKit
section
variable {P : Program} {st : St} {dst : Option Tmp} {ty : TypeId} {pos : String} {af : Array Edge}
def tArrV (P : Program) (T : TypeId) (n : Nat) : Bool := match P.underlying T with
 | some (.array l E) => l == n && (tOne P E && tSize P E 1)
 | _ => false
theorem jdc {T : TypeId} {x y : Operand} {k : IntKind} {n : Nat} {j : Int} {cs : List C} {c : C} (hx : st.ev x = .g cs) (hy : st.ev y = .c (.d (.lit (.int k j)))) (ht : tArrV P T n = true) (h0 : 0 ≤ j) (h1 : j < n) (hc : cs[j.toNat]? = some c) :
  Qt P ⟨dst, .index T x y, ty, pos, af, none⟩ st (.c c) := fun w0 ρ Φ a w hm => by
 have h := hm.ev x
 rw [hx] at h
 have h2 : a.eval y = .int k j := FR.lit_inv (by rw [← hy];exact hm.ev y)
 obtain ⟨us, hv, hl, hr⟩ := h.g_inv
 obtain ⟨hlt, rfl⟩ := List.getElem?_eq_some_iff.1 hc
 have e0 : us[j.toNat]? = some (us.getD j.toNat undef) := by rw [List.getD_eq_getElem?_getD, List.getElem?_eq_getElem (by omega)];rfl
 have hr0 := hr j.toNat hlt
 generalize us.getD j.toNat undef = gv at *
 refine ⟨gv, fun w' _ => ?_, .c _ _ hr0⟩
 unfold tArrV at ht
 cases hu : P.underlying T with
 | none => simp [hu] at ht
 | some d =>
  cases d with
  | array l E =>
   simp only [hu, Bool.and_eq_true, beq_iff_eq] at ht
   obtain ⟨rfl, t1, t2⟩ := ht
   unfold tSize at t2
   cases hi : P.info? E with
   | none => simp [hi] at t2
   | some inf =>
    simp only [hi, beq_iff_eq] at t2
    simp [execOp, Instr.index, asIntOf, underlying, hu, hv, h2, part, jgi t1, sizeOf, typeInfo, hi, t2, e0, h0, h1]
  | _ => simp [hu] at ht
def tArrN (P : Program) (T : TypeId) (n m : Nat) : Bool := match P.underlying T with
 | some (.array l E) => l == n && tAgg P E m
 | _ => false
theorem jib {T : TypeId} {x y : Operand} {k : IntKind} {n m : Nat} {j : Int} {cs : List C} (hx : st.ev x = .g cs) (hy : st.ev y = .c (.d (.lit (.int k j)))) (ht : tArrN P T n m = true) (h0 : 0 ≤ j) (h1 : j < n) (hn : Nat.ble (j.toNat * m + m) cs.length = true) :
  Qt P ⟨dst, .index T x y, ty, pos, af, none⟩ st (.g ((cs.drop (j.toNat * m)).take m)) := fun w0 ρ Φ a w hm => by
 have h := hm.ev x
 rw [hx] at h
 have h2 : a.eval y = .int k j := FR.lit_inv (by rw [← hy];exact hm.ev y)
 obtain ⟨us, hv, hl, hr⟩ := h.g_inv
 have hn' : j.toNat * m + m ≤ cs.length := by simpa using hn
 unfold tArrN at ht
 cases hu : P.underlying T with
 | none => simp [hu] at ht
 | some d =>
  cases d with
  | array l E =>
   simp only [hu, Bool.and_eq_true, beq_iff_eq] at ht
   obtain ⟨rfl, t1⟩ := ht
   obtain ⟨⟨d', hu', hd'⟩, i, hi, hs⟩ := jkl t1
   refine ⟨.agg ((us.drop (j.toNat * m)).take m).toArray, fun w' _ => ?_, .g _ _ (by simp;omega) fun k hk => ?_⟩
   ·have ha : (isAgg E).run P w' = .ok true w' := by cases d' <;> simp_all [isAgg, underlying, TypeDesc.isRow]
    simp [execOp, Instr.index, asIntOf, underlying, hu, hv, h2, part, ha, sizeOf, typeInfo, hi, hs, List.extract_eq_take_drop, h0, h1]
   ·have hk' : k < m := by simp at hk;omega
    have e : ((us.drop (j.toNat * m)).take m).getD k undef = us.getD (j.toNat * m + k) undef := by
     rw [List.getD_eq_getElem?_getD, List.getD_eq_getElem?_getD, List.getElem?_take_of_lt hk', List.getElem?_drop]
    rw [e]
    have := hr (j.toNat * m + k) (by omega)
    simpa using this
  | _ => simp [hu] at ht
end
end Go.Proofs.YteaeoaeogehaaaaGreatDoor
namespace Go.Proofs.YteaeoaeogehaaaaGreatDoor
open Go.RowKit
variable [Glb]
theorem at_p (X Y n : Int) (ll : List (List Int)) (h : boxB X Y n ll = true) (x y a c : Int) (x0 : 0 ≤ x) (x1 : x < X) (y0 : 0 ≤ y) (y1 : y < Y) (a0 : 0 ≤ a) (a1 : a ≤ 1) (c0 : 0 ≤ c) (c1 : c ≤ 1) :
  PC Tryz.prog 34 [.g [dI X, dI Y, dI n, eII ll], .c (dI x), .c (dI y), .c (dI a), .c (dI c)] (.p (.c (dI (atB ll Y x y (2 * a + c))))) := by
 have hb := jbp h
 have hi := jnu x0 x1 y0 y1
 have hr := (jgd h hi.1 hi.2.1).1
 have hm := jdi (x := X) (y := Y) (jcf.2 ⟨⟨hb.x1, hb.x3⟩, hb.y1, hb.y3⟩)
 have hl := hb.len
 refine jaq Tryz.func34 rfl rfl rfl (by kernel_rfl) rfl rfl ?_;intro _
 repeat' (first|(refine jaa (.box 26 _) ?_;refine jbh rfl rfl ?_)|refine zaa ?_|refine zal ?_|refine zaj ?_|refine zab ?_|refine zaw ?_|(refine jaa (.load 3 _) ?_;(first|refine jac (jaf rfl rfl (by kernel_rfl) rfl) rfl ?_|refine jac (jap rfl (by kernel_rfl) rfl) rfl ?_))|refine zba ?_|refine zad ?_|refine zam ?_|refine zaq ?_|refine zao ?_|refine jaj ?_|refine jak ?_|refine jab ?_)
 ·(apply jat;apply jau;(·apply jbc.p;(·(apply GvA.cons;(·exact .tmp _);(·exact GvP.c (.lit _)));exact GvA.nil);(·decide)))
  rfl
end Go.Proofs.YteaeoaeogehaaaaGreatDoor
