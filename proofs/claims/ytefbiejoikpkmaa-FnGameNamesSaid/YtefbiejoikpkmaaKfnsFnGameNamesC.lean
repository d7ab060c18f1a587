/- What the functions that FnGameNames reaches return: part of its proof. No condition beyond those of its theorems. -/
import Derived.Test.YtefbiejoikpkmaaKfnsFnGameNamesA
import Derived.Test.YtefbiejoikpkmaaKplainB
import Derived.Test.YtefbiejoikpkmaaKplainC
import Derived.Test.YtefbiejoikpkmaaKfnsFnGameNamesB
import Derived.Test.YtefbiejoikpkmaaKplainA
import Derived.Shelf.Sort.Plain
import Derived.Shelf.Slices.In.SortNone
set_option linter.unusedVariables false
set_option linter.unusedSimpArgs false
namespace Go.Proofs.Ytefbiejoikpkmaa
open Go.RowKit
set_option linter.unusedSectionVars false
variable [Glb]
set_option maxRecDepth 10000
set_option maxHeartbeats 4000000
theorem DrawPlayScore_p (code : Tx) : PVE Try.prog 99 [.c (eB code)] (fun res => ∃ (x y : Int) (ws : List Int) (wi : List (List Int)) (l : List Int), l.length ≤ 9 ∧ res = .t [.g [dI x, dI y, eI ws, eII wi], .c (eI l)]) := by
  refine pve_intro Try.func99 rfl rfl rfl (by kernel_rfl) rfl rfl ?_; intro X c0 _
  repeat' (first | (refine so_is (.alloc 27) ?_; refine so_alloc (zs := [.int .i64 0, .int .i64 0, .slice none 0 0, .slice none 0 0]) (by kernel_rfl) rfl ?_) | (refine so_is (.assign _) ?_; (refine so_q (qt_asC rfl) rfl ?_)) | (refine so_is (.move _) ?_; (refine so_q (qt_mvC rfl) rfl ?_)) | (refine so_is (.build 104 _) ?_; refine so_q (qt_build (cs := [_, _, _]) [(0, 1), (1, 1), (2, 1)] [.slice none 0 0, .int .i64 0, .int .u64 0] (by kernel_rfl) (by kernel_rfl) rfl) rfl ?_) | (refine so_is (.box 104 _) ?_; refine so_box rfl rfl ?_) | (refine so_is (.store 27 _ _) ?_; (refine so_store_box rfl rfl rfl (by kernel_rfl) rfl rfl ?_)) | (refine so_is (.call ⟨.value (.func 81), _, _⟩) ?_; (apply so_callXV (fid := 81); (· rfl); (· rfl); (· (repeat (first | exact BxI.nil | (apply BxI.o; (· (exact .lit _))) | apply BxI.k))); (· (repeat (exact SdA.nil))); (· (decide)); (· exact curGame_p code _ _ (by omega) (by omega)); (· rfl); (· (intro b hb1 hb2; omega)); (· rfl); (rintro _ _ ⟨a1, s1, ha1, rfl, x, y, ws, wi, hxy, rfl⟩; refine ⟨(by first | rfl | simp [*]), ?_⟩))) | refine so_nil ?_ | refine sk_seq ?_ | refine sk_region ?_ | (refine sk_drawQ 3 (fun i => i == 6 || i == 7) (IT.lt (.step 7 false (.step 8 true .nil)) fun Y0 => (.step 1 true (.step 2 true (.step 3 true (.step 4 true (.step 5 true (.alt 3 (.step 0 false (.step 6 false (IT.ref true [2, 3, 11, 17] [2, 8, 2010, 3010, 5, 17, 900000000] Y0))) (.step 6 false (.step 0 true (IT.ref false [2, 3, 11, 17] [2, 8, 2010, 3010, 5, 17, 900000000] Y0)))))))))) [(0, 511, 447, false), (0, 511, 511, true), (0, 511, 511, true), (4, 507, 511, false), (0, 511, 511, true), (16, 495, 511, false), (42, 469, 511, false), (65, 510, 447, false), (255, 447, 319, true)] (by kernel_rfl) (by kernel_rfl) ?_; apply so_lt3; (· intro Y0 hY0; ((refine so_q (qt_mvC rfl) rfl ?_)); ((refine so_q (qt_fld_lp (off := 0) rfl (by kernel_rfl)) rfl ?_)); ((refine so_q (qt_load_box rfl rfl (by kernel_rfl) rfl) rfl ?_)); ((refine so_q (qt_fld_lp (off := 1) rfl (by kernel_rfl)) rfl ?_)); ((refine so_q (qt_load_box rfl rfl (by kernel_rfl) rfl) rfl ?_)); refine so_alt ?_ ?_; (· ((refine so_q (qt_load_boxs rfl rfl (by kernel_rfl : tAgg _ 27 4 = true) rfl) rfl ?_)); ((apply so_callX (d := 17) (fid := 84); (· rfl); (· rfl); (· (repeat (first | exact BxI.nil | (apply BxI.o; (· (exact .lit _))) | apply BxI.k))); (· (repeat (first | exact ArX.nil | apply ArX.v (.c (.d _))))); (· (decide)); (· (decide)); (· exact curPlay_p code _ _ _ _ (by omega) (by omega)); (· rfl); (· (intro b hb1 hb2; omega)); (· rfl); (rintro _ _ ⟨w17_1, w17_2, hw17_1, rfl, w17_3, hw17_2, rfl⟩; refine ⟨(by first | rfl | simp [*]), ?_⟩))); ((with_reducible apply so_j1); (· rfl); (· (repeat (first | exact Pf.nil | apply Pf.cons (.c rfl (.d rfl)) | apply Pf.cons (.c rfl (.ls rfl)) | apply Pf.cons (.c rfl (.lp rfl)) | (apply Pf.cons; (· apply Nv.g rfl; (repeat (first | exact Ncs.nil rfl | (apply Ncs.cons rfl; (· (exact .d rfl)))))))))); (· (repeat (first | exact Pb.nil | apply Pb.cons (.row rfl) | (apply Pb.cons; (· apply Nb.box rfl; (repeat (first | exact Ncs.nil rfl | (apply Ncs.cons rfl; (· (exact .d rfl))))))) | apply Pb.cons (.any rfl) | apply Pb.skip))); (· exact (hY0 w17_1 w17_2 w17_3 (And.intro hw17_1 (And.intro hw17_2 (trivial))))))); (((apply so_callX (d := 17) (fid := 84); (· rfl); (· rfl); (· (repeat (first | exact BxI.nil | (apply BxI.o; (· (exact .lit _))) | apply BxI.k))); (· (repeat (first | exact ArX.nil | apply ArX.v (.c (.d _))))); (· (decide)); (· (decide)); (· exact curPlay_p code _ _ _ _ (by omega) (by omega)); (· rfl); (· (intro b hb1 hb2; omega)); (· rfl); (rintro _ _ ⟨w17_1, w17_2, hw17_1, rfl, w17_3, hw17_2, rfl⟩; refine ⟨(by first | rfl | simp [*]), ?_⟩))); ((refine so_q (qt_load_boxs rfl rfl (by kernel_rfl : tAgg _ 27 4 = true) rfl) rfl ?_)); ((with_reducible apply so_j2); (· exact (hY0 w17_1 w17_2 w17_3 (And.intro hw17_1 (And.intro hw17_2 (trivial))))); (· rfl); (· exact (by (repeat (first | exact trivial | refine ⟨rfl, ?_⟩)))); (· exact (by (repeat (first | exact trivial | refine ⟨rfl, ?_⟩))))))); (intro w17_1 w17_2 w17_3 hok; obtain ⟨hw17_1, hw17_2, -⟩ := hok; ((refine so_store_box rfl rfl rfl (by kernel_rfl) rfl rfl ?_)); ((refine so_q (qt_asC rfl) rfl ?_)); refine so_nil ?_)))
  all_goals (apply sk_vert; (· (apply RetV.t; (· rfl); (· (apply RvA.cons; (· (apply RV.cellN (n := 4); (· rfl); (· rfl); (· kernel_rfl); (· rfl))); (· (apply RvP.g; (· (apply RvL.cons (.d _)); (apply RvL.cons (.d _)); ((apply RvL.cons (.d _))); ((apply RvL.cons (.d _))); exact RvL.nil)))); (apply RvA.cons; (· exact .tmp _); (· (exact RvP.c (.own (.row _ _ _ _ rfl (by ((simp; done)))))))); exact RvA.nil); (· rfl))))
  all_goals exact ⟨_, _, _, _, _, by omega, rfl⟩
theorem DrawFlipGame_p (code : Tx) : PVE Try.prog 12 [.c (eB code)] (fun res => ∃ (x y : Int) (ws : List Int) (wi : List (List Int)) (l : List Int), l.length ≤ 9 ∧ res = .t [.g [dI x, dI y, eI ws, eII wi], .c (eI l)]) := by
  refine pve_intro Try.func12 rfl rfl rfl (by kernel_rfl) rfl rfl ?_; intro X c0 _
  repeat' (first | (refine so_is (.alloc 27) ?_; refine so_alloc (zs := [.int .i64 0, .int .i64 0, .slice none 0 0, .slice none 0 0]) (by kernel_rfl) rfl ?_) | (refine so_is (.assign _) ?_; (refine so_q (qt_asC rfl) rfl ?_)) | (refine so_is (.move _) ?_; (refine so_q (qt_mvC rfl) rfl ?_)) | (refine so_is (.extract _ _) ?_; refine so_q (qt_extract rfl rfl) rfl ?_) | (refine so_is (.store 27 _ _) ?_; (refine so_store_box rfl rfl rfl (by kernel_rfl) rfl rfl ?_)) | (refine so_is (.call ⟨.value (.func 99), _, _⟩) ?_; (apply so_callVE (fid := 99); (· (repeat (first | exact SdA.nil | apply SdA.c rfl))); (· exact DrawPlayScore_p _); (· rfl); (rintro _ ⟨x, y, ws, wi, l, hl, rfl⟩))) | refine so_nil ?_ | refine sk_seq ?_ | refine sk_region ?_)
  all_goals (apply sk_vert; (· (apply RetV.t; (· rfl); (· (apply RvA.cons; (· (apply RV.cellN (n := 4); (· rfl); (· rfl); (· kernel_rfl); (· rfl))); (· (apply RvP.g; (· (apply RvL.cons (.d _)); (apply RvL.cons (.d _)); ((apply RvL.cons (.d _))); ((apply RvL.cons (.d _))); exact RvL.nil)))); (apply RvA.cons; (· exact .tmp _); (· (exact RvP.c (.d _)))); exact RvA.nil); (· rfl))))
  all_goals exact ⟨_, _, _, _, _, hl, rfl⟩
theorem DrawAskGame_p (code : Tx) : PVE Try.prog 16 [.c (eB code)] (fun res => ∃ (x y : Int) (ws : List Int) (wi : List (List Int)) (l m : List Int), (l.length ≤ 9 ∧ m.length ≤ 9) ∧ res = .t [.g [dI x, dI y, eI ws, eII wi], .c (eI l), .c (eI m)]) := by
  refine pve_intro Try.func16 rfl rfl rfl (by kernel_rfl) rfl rfl ?_; intro X c0 _
  repeat' (first | (refine so_is (.alloc 27) ?_; refine so_alloc (zs := [.int .i64 0, .int .i64 0, .slice none 0 0, .slice none 0 0]) (by kernel_rfl) rfl ?_) | (refine so_is (.assign _) ?_; (refine so_q (qt_asC rfl) rfl ?_)) | (refine so_is (.move _) ?_; (refine so_q (qt_mvC rfl) rfl ?_)) | (refine so_is (.build 104 _) ?_; refine so_q (qt_build (cs := [_, _, _]) [(0, 1), (1, 1), (2, 1)] [.slice none 0 0, .int .i64 0, .int .u64 0] (by kernel_rfl) (by kernel_rfl) rfl) rfl ?_) | (refine so_is (.box 104 _) ?_; refine so_box rfl rfl ?_) | (refine so_is (.store 27 _ _) ?_; (refine so_store_box rfl rfl rfl (by kernel_rfl) rfl rfl ?_)) | (refine so_is (.call ⟨.value (.func 81), _, _⟩) ?_; (apply so_callXV (fid := 81); (· rfl); (· rfl); (· (repeat (first | exact BxI.nil | (apply BxI.o; (· (exact .lit _))) | apply BxI.k))); (· (repeat (exact SdA.nil))); (· (decide)); (· exact curGame_p code _ _ (by omega) (by omega)); (· rfl); (· (intro b hb1 hb2; omega)); (· rfl); (rintro _ _ ⟨a1, s1, ha1, rfl, x, y, ws, wi, hxy, rfl⟩; refine ⟨(by first | rfl | simp [*]), ?_⟩))) | refine so_nil ?_ | refine sk_seq ?_ | refine sk_region ?_ | (refine sk_drawQ 3 (fun i => i == 4 || i == 8 || i == 9) (IT.lt (.step 9 false (.step 10 true (.step 11 true .nil))) fun Y3 => (IT.lt (.step 8 false (IT.ref false [2, 3, 4, 12, 16, 20] [2, 9, 2011, 3011, 6, 16, 20, 900000000] Y3)) fun Y2 => (IT.lt (.step 4 false (IT.ref false [2, 3, 4, 12, 16, 17, 19] [2, 9, 2011, 3011, 6, 16, 20, 900000000] Y2)) fun Y1 => (IT.lt (.alt 3 (.step 0 false (IT.ref false [2, 3, 4, 12, 16, 17, 19] [2, 9, 2011, 3011, 6, 16, 20, 900000000] Y2)) (.step 8 false (.step 0 true (IT.ref true [2, 3, 4, 12, 16, 20] [2, 9, 2011, 3011, 6, 16, 20, 900000000] Y3)))) fun Y0 => (.step 1 true (.step 2 true (.step 3 true (.step 5 true (.step 6 true (.alt 3 (.step 0 false (.alt 3 (.step 4 false (.step 7 true (IT.ref true [2, 3, 4, 12, 16, 17, 19] [2, 9, 2011, 3011, 6, 16, 20, 900000000] Y2))) (.step 7 false (IT.ref true [2, 3, 4, 12, 13, 15, 17, 19] [2, 9, 2011, 3011, 6, 16, 20, 900000000] Y1)))) (.alt 3 (.step 4 false (.step 7 true (IT.ref true [2, 3, 4, 6, 16, 17, 19] [2, 9, 2011, 3011, 6, 16, 20, 900000000] Y0))) (.step 7 false (.alt 3 (.step 0 false (IT.ref false [2, 3, 4, 12, 13, 15, 17, 19] [2, 9, 2011, 3011, 6, 16, 20, 900000000] Y1)) (.step 4 false (IT.ref false [2, 3, 4, 6, 16, 17, 19] [2, 9, 2011, 3011, 6, 16, 20, 900000000] Y0))))))))))))))) [(0, 4095, 3823, false), (0, 4095, 4095, true), (0, 4095, 4095, true), (4, 4091, 4095, false), (10, 4085, 4095, false), (0, 4095, 4079, true), (0, 4095, 4079, true), (64, 4031, 4079, false), (176, 3935, 4079, false), (257, 4094, 3823, false), (543, 4079, 3311, true), (2047, 3839, 3311, true)] (by kernel_rfl) (by kernel_rfl) ?_; apply so_lt6; (· intro Y3 hY3; apply so_lt3; (· intro Y2 hY2; apply so_lt0; (· intro Y1 hY1; apply so_lt3; (· intro Y0 hY0; ((refine so_q (qt_mvC rfl) rfl ?_)); ((refine so_q (qt_fld_lp (off := 0) rfl (by kernel_rfl)) rfl ?_)); ((refine so_q (qt_load_box rfl rfl (by kernel_rfl) rfl) rfl ?_)); ((refine so_q (qt_mvC rfl) rfl ?_)); ((refine so_q (qt_fld_lp (off := 1) rfl (by kernel_rfl)) rfl ?_)); refine so_alt ?_ ?_; (· ((refine so_q (qt_load_boxs rfl rfl (by kernel_rfl : tAgg _ 27 4 = true) rfl) rfl ?_)); refine so_alt ?_ ?_; (· ((apply so_callX (d := 16) (fid := 83); (· rfl); (· rfl); (· (repeat (first | exact BxI.nil | (apply BxI.o; (· (exact .lit _))) | apply BxI.k))); (· (repeat (first | exact ArX.nil | apply ArX.v (.c (.d _))))); (· (decide)); (· (decide)); (· exact curOrder_p code _ _ _ (by omega) (by omega)); (· rfl); (· (intro b hb1 hb2; omega)); (· rfl); (rintro _ _ ⟨w16_1, w16_2, hw16_1, rfl, w16_3, hw16_2, rfl⟩; refine ⟨(by first | rfl | simp [*]), ?_⟩))); ((refine so_q (qt_load_box rfl rfl (by kernel_rfl) rfl) rfl ?_)); ((with_reducible apply so_j1); (· rfl); (· (repeat (first | exact Pf.nil | apply Pf.cons (.c rfl (.d rfl)) | apply Pf.cons (.c rfl (.ls rfl)) | apply Pf.cons (.c rfl (.lp rfl)) | (apply Pf.cons; (· apply Nv.g rfl; (repeat (first | exact Ncs.nil rfl | (apply Ncs.cons rfl; (· (exact .d rfl)))))))))); (· (repeat (first | exact Pb.nil | apply Pb.cons (.row rfl) | (apply Pb.cons; (· apply Nb.box rfl; (repeat (first | exact Ncs.nil rfl | (apply Ncs.cons rfl; (· (exact .d rfl))))))) | apply Pb.cons (.any rfl) | apply Pb.skip))); (· exact (hY2 w16_1 w16_2 w16_3 (And.intro hw16_1 (And.intro hw16_2 (trivial))))))); (((refine so_q (qt_load_box rfl rfl (by kernel_rfl) rfl) rfl ?_)); ((with_reducible apply so_j1); (· rfl); (· (repeat (first | exact Pf.nil | apply Pf.cons (.c rfl (.d rfl)) | apply Pf.cons (.c rfl (.lp rfl)) | (apply Pf.cons; (· apply Nv.g rfl; (repeat (first | exact Ncs.nil rfl | (apply Ncs.cons rfl; (· (exact .d rfl)))))))))); (· (repeat (first | exact Pb.nil | (apply Pb.cons; (· apply Nb.box rfl; (repeat (first | exact Ncs.nil rfl | (apply Ncs.cons rfl; (· (exact .d rfl))))))) | apply Pb.cons (.any rfl) | apply Pb.skip))); (· exact (hY1  (trivial)))))); (refine so_alt ?_ ?_; (· ((apply so_callX (d := 16) (fid := 83); (· rfl); (· rfl); (· (repeat (first | exact BxI.nil | (apply BxI.o; (· (exact .lit _))) | apply BxI.k))); (· (repeat (first | exact ArX.nil | apply ArX.v (.c (.d _))))); (· (decide)); (· (decide)); (· exact curOrder_p code _ _ _ (by omega) (by omega)); (· rfl); (· (intro b hb1 hb2; omega)); (· rfl); (rintro _ _ ⟨w16_1, w16_2, hw16_1, rfl, w16_3, hw16_2, rfl⟩; refine ⟨(by first | rfl | simp [*]), ?_⟩))); ((refine so_q (qt_load_box rfl rfl (by kernel_rfl) rfl) rfl ?_)); ((with_reducible apply so_j1); (· rfl); (· (repeat (first | exact Pf.nil | apply Pf.cons (.c rfl (.d rfl)) | apply Pf.cons (.c rfl (.ls rfl)) | apply Pf.cons (.c rfl (.lp rfl))))); (· (repeat (first | exact Pb.nil | apply Pb.cons (.row rfl) | (apply Pb.cons; (· apply Nb.box rfl; (repeat (first | exact Ncs.nil rfl | (apply Ncs.cons rfl; (· (exact .d rfl))))))) | apply Pb.cons (.any rfl) | apply Pb.skip))); (· exact (hY0 w16_1 w16_2 w16_3 (And.intro hw16_1 (And.intro hw16_2 (trivial))))))); (((refine so_q (qt_load_box rfl rfl (by kernel_rfl) rfl) rfl ?_)); refine so_alt ?_ ?_; (· ((refine so_q (qt_load_boxs rfl rfl (by kernel_rfl : tAgg _ 27 4 = true) rfl) rfl ?_)); ((with_reducible apply so_j2); (· exact (hY1  (trivial))); (· rfl); (· exact (by (repeat (first | exact trivial | refine ⟨rfl, ?_⟩)))); (· exact (by (repeat (first | exact trivial | refine ⟨rfl, ?_⟩)))))); (((apply so_callX (d := 16) (fid := 83); (· rfl); (· rfl); (· (repeat (first | exact BxI.nil | (apply BxI.o; (· (exact .lit _))) | apply BxI.k))); (· (repeat (first | exact ArX.nil | apply ArX.v (.c (.d _))))); (· (decide)); (· (decide)); (· exact curOrder_p code _ _ _ (by omega) (by omega)); (· rfl); (· (intro b hb1 hb2; omega)); (· rfl); (rintro _ _ ⟨w16_1, w16_2, hw16_1, rfl, w16_3, hw16_2, rfl⟩; refine ⟨(by first | rfl | simp [*]), ?_⟩))); ((with_reducible apply so_j2); (· exact (hY0 w16_1 w16_2 w16_3 (And.intro hw16_1 (And.intro hw16_2 (trivial))))); (· rfl); (· exact (by (repeat (first | exact trivial | refine ⟨rfl, ?_⟩)))); (· exact (by (repeat (first | exact trivial | refine ⟨rfl, ?_⟩))))))))); (intro w16_1 w16_2 w16_3 hok; obtain ⟨hw16_1, hw16_2, -⟩ := hok; refine so_alt ?_ ?_; (· ((refine so_q (qt_load_boxs rfl rfl (by kernel_rfl : tAgg _ 27 4 = true) rfl) rfl ?_)); ((with_reducible apply so_j2); (· exact (hY2 w16_1 w16_2 w16_3 (And.intro hw16_1 (And.intro hw16_2 (trivial))))); (· rfl); (· exact (by (repeat (first | exact trivial | refine ⟨rfl, ?_⟩)))); (· exact (by (repeat (first | exact trivial | refine ⟨rfl, ?_⟩)))))); (((apply so_callX (d := 20) (fid := 83); (· rfl); (· rfl); (· (repeat (first | exact BxI.nil | (apply BxI.o; (· (exact .lit _))) | apply BxI.k))); (· (repeat (first | exact ArX.nil | apply ArX.v (.c (.d _))))); (· (decide)); (· (decide)); (· exact curOrder_p code _ _ _ (by omega) (by omega)); (· rfl); (· (intro b hb1 hb2; omega)); (· rfl); (rintro _ _ ⟨w20_1, w20_2, hw20_1, rfl, w20_3, hw20_2, rfl⟩; refine ⟨(by first | rfl | simp [*]), ?_⟩))); ((refine so_q (qt_load_boxs rfl rfl (by kernel_rfl : tAgg _ 27 4 = true) rfl) rfl ?_)); ((with_reducible apply so_j1); (· rfl); (· (repeat (first | exact Pf.nil | apply Pf.cons (.c rfl (.d rfl)) | apply Pf.cons (.c rfl (.ls rfl)) | apply Pf.cons (.c rfl (.lp rfl)) | (apply Pf.cons; (· apply Nv.g rfl; (repeat (first | exact Ncs.nil rfl | (apply Ncs.cons rfl; (· (exact .d rfl)))))))))); (· (repeat (first | exact Pb.nil | apply Pb.cons (.row rfl) | (apply Pb.cons; (· apply Nb.box rfl; (repeat (first | exact Ncs.nil rfl | (apply Ncs.cons rfl; (· (exact .d rfl))))))) | apply Pb.cons (.any rfl) | apply Pb.skip))); (· exact (hY3 w16_1 w16_2 w16_3 w20_1 w20_2 w20_3 (And.intro hw16_1 (And.intro hw16_2 (And.intro hw20_1 (And.intro hw20_2 (trivial))))))))))); (intro  hok; obtain ⟨-⟩ := hok; ((apply so_callX (d := 16) (fid := 83); (· rfl); (· rfl); (· (repeat (first | exact BxI.nil | (apply BxI.o; (· (exact .lit _))) | apply BxI.k))); (· (repeat (first | exact ArX.nil | apply ArX.v (.c (.d _))))); (· (decide)); (· (decide)); (· exact curOrder_p code _ _ _ (by omega) (by omega)); (· rfl); (· (intro b hb1 hb2; omega)); (· rfl); (rintro _ _ ⟨w16_1, w16_2, hw16_1, rfl, w16_3, hw16_2, rfl⟩; refine ⟨(by first | rfl | simp [*]), ?_⟩))); ((with_reducible apply so_j2); (· exact (hY2 w16_1 w16_2 w16_3 (And.intro hw16_1 (And.intro hw16_2 (trivial))))); (· rfl); (· exact (by (repeat (first | exact trivial | refine ⟨rfl, ?_⟩)))); (· exact (by (repeat (first | exact trivial | refine ⟨rfl, ?_⟩))))))); (intro w16_1 w16_2 w16_3 hok; obtain ⟨hw16_1, hw16_2, -⟩ := hok; ((apply so_callX (d := 20) (fid := 83); (· rfl); (· rfl); (· (repeat (first | exact BxI.nil | (apply BxI.o; (· (exact .lit _))) | apply BxI.k))); (· (repeat (first | exact ArX.nil | apply ArX.v (.c (.d _))))); (· (decide)); (· (decide)); (· exact curOrder_p code _ _ _ (by omega) (by omega)); (· rfl); (· (intro b hb1 hb2; omega)); (· rfl); (rintro _ _ ⟨w20_1, w20_2, hw20_1, rfl, w20_3, hw20_2, rfl⟩; refine ⟨(by first | rfl | simp [*]), ?_⟩))); ((with_reducible apply so_j2); (· exact (hY3 w16_1 w16_2 w16_3 w20_1 w20_2 w20_3 (And.intro hw16_1 (And.intro hw16_2 (And.intro hw20_1 (And.intro hw20_2 (trivial))))))); (· rfl); (· exact (by (repeat (first | exact trivial | refine ⟨rfl, ?_⟩)))); (· exact (by (repeat (first | exact trivial | refine ⟨rfl, ?_⟩))))))); (intro w16_1 w16_2 w16_3 w20_1 w20_2 w20_3 hok; obtain ⟨hw16_1, hw16_2, hw20_1, hw20_2, -⟩ := hok; ((refine so_store_box rfl rfl rfl (by kernel_rfl) rfl rfl ?_)); ((refine so_q (qt_asC rfl) rfl ?_)); ((refine so_q (qt_asC rfl) rfl ?_)); refine so_nil ?_)))
  all_goals (apply sk_vert; (· (apply RetV.t; (· rfl); (· (apply RvA.cons; (· (apply RV.cellN (n := 4); (· rfl); (· rfl); (· kernel_rfl); (· rfl))); (· (apply RvP.g; (· (apply RvL.cons (.d _)); (apply RvL.cons (.d _)); ((apply RvL.cons (.d _))); ((apply RvL.cons (.d _))); exact RvL.nil)))); (apply RvA.cons; (· exact .tmp _); (· (exact RvP.c (.own (.row _ _ _ _ rfl (by ((simp; done)))))))); (apply RvA.cons; (· exact .tmp _); (· (exact RvP.c (.own (.row _ _ _ _ rfl (by ((simp; done)))))))); exact RvA.nil); (· rfl))))
  all_goals exact ⟨_, _, _, _, _, _, ⟨by omega, by omega⟩, rfl⟩
theorem DrawSameByNames_p (code : Tx) : PVE Try.prog 9 [.c (eB code)] (fun res => ∃ (x y : Int) (ws : List Int) (wi : List (List Int)) (x2 y2 : Int) (ws2 : List Int) (wi2 : List (List Int)), res = .t [.g [dI x, dI y, eI ws, eII wi], .g [dI x2, dI y2, eI ws2, eII wi2]]) := by
  refine pve_intro Try.func9 rfl rfl rfl (by kernel_rfl) rfl rfl ?_; intro X c0 _
  repeat' (first | (refine so_is (.alloc 27) ?_; refine so_alloc (zs := [.int .i64 0, .int .i64 0, .slice none 0 0, .slice none 0 0]) (by kernel_rfl) rfl ?_) | (refine so_is (.move _) ?_; (refine so_q (qt_mvC rfl) rfl ?_)) | (refine so_is (.build 104 _) ?_; refine so_q (qt_build (cs := [_, _, _]) [(0, 1), (1, 1), (2, 1)] [.slice none 0 0, .int .i64 0, .int .u64 0] (by kernel_rfl) (by kernel_rfl) rfl) rfl ?_) | (refine so_is (.box 104 _) ?_; refine so_box rfl rfl ?_) | (refine so_is (.assign _) ?_; (refine so_q (qt_asC rfl) rfl ?_)) | (refine so_is (.store 27 _ _) ?_; (refine so_store_box rfl rfl rfl (by kernel_rfl) rfl rfl ?_)) | (refine so_is (.fieldAddr 27 _ 0) ?_; (refine so_q (qt_fld_lp (off := 0) rfl (by kernel_rfl)) rfl ?_)) | (refine so_is (.load 3 _) ?_; (refine so_q (qt_load_box rfl rfl (by kernel_rfl) rfl) rfl ?_)) | (refine so_is (.fieldAddr 27 _ 1) ?_; (refine so_q (qt_fld_lp (off := 1) rfl (by kernel_rfl)) rfl ?_)) | (refine so_is (.call ⟨.value (.func 81), _, _⟩) ?_; (apply so_callXV (fid := 81); (· rfl); (· rfl); (· (repeat (first | exact BxI.nil | (apply BxI.o; (· (exact .lit _))) | apply BxI.k))); (· (repeat (exact SdA.nil))); (· (decide)); (· exact curGame_p code _ _ (by omega) (by omega)); (· rfl); (· (intro b hb1 hb2; omega)); (· rfl); (rintro _ _ ⟨a1, s1, ha1, rfl, x, y, ws, wi, hxy, rfl⟩; refine ⟨(by first | rfl | simp [*]), ?_⟩))) | (refine so_is (.call ⟨.value (.func 82), _, _⟩) ?_; (apply so_callXV (fid := 82); (· rfl); (· rfl); (· (repeat (first | exact BxI.nil | (apply BxI.o; (· (exact .lit _))) | apply BxI.k))); (· (repeat (first | exact SdA.nil | apply SdA.c rfl))); (· (decide)); (· exact curGameOf_p code _ _ _ _ (by omega) (by omega)); (· rfl); (· (intro b hb1 hb2; omega)); (· rfl); (rintro _ _ ⟨a2, s2, ha2, rfl, ws2, wi2, hl2, rfl⟩; refine ⟨(by first | rfl | simp [*]), ?_⟩))) | refine so_nil ?_ | refine sk_seq ?_ | refine sk_region (id := 0) ?_ | refine sk_region (id := 1) ?_ | refine sk_region (id := 2) ?_ | refine sk_region (id := 3) ?_ | (refine sk_drawQ 4 (fun i => i == 3 || i == 7 || i == 13) (IT.lt (.step 13 false (.step 14 true (.step 15 true (.step 16 true .nil)))) fun Y8 => (IT.lt (.step 7 false (IT.ref false [2, 3, 4, 5, 6, 7, 8, 9, 24, 28, 29, 31, 33] [2, 3, 12, 2014, 3014, 5, 2020, 3020, 6, 24, 28, 34, 900000000] Y8)) fun Y7 => (IT.lt (.alt 4 (.step 7 false (.step 12 true (IT.ref false [2, 3, 4, 5, 6, 7, 8, 9, 24, 28, 29, 31, 33] [2, 3, 12, 2014, 3014, 5, 2020, 3020, 6, 24, 28, 34, 900000000] Y8))) (.step 12 false (IT.ref false [2, 3, 4, 5, 6, 7, 8, 9, 24, 25, 27, 29, 31, 33] [2, 3, 12, 2014, 3014, 5, 2020, 3020, 6, 24, 28, 34, 900000000] Y7))) fun Y6 => (IT.lt (.alt 4 (.step 7 false (.step 10 true (IT.ref false [2, 3, 4, 5, 6, 7, 8, 9, 24, 28, 29, 31, 33] [2, 3, 12, 2014, 3014, 5, 2020, 3020, 6, 24, 28, 34, 900000000] Y8))) (.step 10 false (IT.ref false [2, 3, 4, 5, 6, 7, 8, 9, 24, 25, 27, 29, 31, 33] [2, 3, 12, 2014, 3014, 5, 2020, 3020, 6, 24, 28, 34, 900000000] Y7))) fun Y5 => (IT.lt (.step 3 false (IT.ref false [2, 3, 4, 5, 6, 7, 8, 9, 24, 25, 27, 29, 31, 33] [2, 3, 12, 2014, 3014, 5, 2020, 3020, 6, 24, 28, 34, 900000000] Y7)) fun Y4 => (IT.lt (.alt 4 (.step 7 false (.step 10 true (.step 12 true (IT.ref true [2, 3, 4, 5, 6, 7, 8, 9, 24, 28, 29, 31, 33] [2, 3, 12, 2014, 3014, 5, 2020, 3020, 6, 24, 28, 34, 900000000] Y8)))) (.alt 4 (.step 10 false (IT.ref false [2, 3, 4, 5, 6, 7, 8, 9, 24, 25, 27, 29, 31, 32] [2, 3, 12, 2014, 3014, 5, 2020, 3020, 6, 24, 28, 34, 900000000] Y6)) (.step 12 false (IT.ref false [2, 3, 4, 5, 6, 7, 8, 9, 24, 25, 27, 29, 30, 33] [2, 3, 12, 2014, 3014, 5, 2020, 3020, 6, 24, 28, 34, 900000000] Y5)))) fun Y3 => (IT.lt (.alt 4 (.step 3 false (IT.ref false [2, 3, 4, 5, 6, 7, 8, 9, 24, 25, 27, 29, 31, 32] [2, 3, 12, 2014, 3014, 5, 2020, 3020, 6, 24, 28, 34, 900000000] Y6)) (.step 12 false (IT.ref false [2, 3, 4, 5, 6, 7, 8, 9, 21, 23, 25, 27, 29, 31, 33] [2, 3, 12, 2014, 3014, 5, 2020, 3020, 6, 24, 28, 34, 900000000] Y4))) fun Y2 => (IT.lt (.alt 4 (.step 3 false (IT.ref false [2, 3, 4, 5, 6, 7, 8, 9, 24, 25, 27, 29, 30, 33] [2, 3, 12, 2014, 3014, 5, 2020, 3020, 6, 24, 28, 34, 900000000] Y5)) (.step 10 false (IT.ref false [2, 3, 4, 5, 6, 7, 8, 9, 21, 23, 25, 27, 29, 31, 33] [2, 3, 12, 2014, 3014, 5, 2020, 3020, 6, 24, 28, 34, 900000000] Y4))) fun Y1 => (IT.lt (.alt 4 (.step 3 false (.step 6 true (IT.ref true [2, 3, 4, 5, 6, 7, 8, 9, 24, 25, 27, 29, 31, 33] [2, 3, 12, 2014, 3014, 5, 2020, 3020, 6, 24, 28, 34, 900000000] Y7))) (.step 6 false (IT.ref true [2, 3, 4, 5, 6, 7, 8, 9, 21, 23, 25, 27, 29, 31, 33] [2, 3, 12, 2014, 3014, 5, 2020, 3020, 6, 24, 28, 34, 900000000] Y4))) fun Y0 => (.step 0 true (.step 1 true (.step 2 true (.step 4 true (.step 5 true (.step 8 true (.step 9 true (.step 11 true (.alt 4 (.step 3 false (.step 6 true (IT.ref true [2, 3, 4, 5, 6, 7, 8, 9, 24, 25, 27, 29, 30, 32] [2, 3, 12, 2014, 3014, 5, 2020, 3020, 6, 24, 28, 34, 900000000] Y3))) (.alt 4 (.step 6 false (.alt 4 (.step 3 false (IT.ref false [2, 3, 4, 5, 6, 7, 8, 9, 24, 25, 27, 29, 30, 32] [2, 3, 12, 2014, 3014, 5, 2020, 3020, 6, 24, 28, 34, 900000000] Y3)) (.alt 4 (.step 10 false (IT.ref true [2, 3, 4, 5, 6, 7, 8, 9, 21, 23, 25, 27, 29, 31, 32] [2, 3, 12, 2014, 3014, 5, 2020, 3020, 6, 24, 28, 34, 900000000] Y2)) (.step 12 false (IT.ref true [2, 3, 4, 5, 6, 7, 8, 9, 21, 23, 25, 27, 29, 30, 33] [2, 3, 12, 2014, 3014, 5, 2020, 3020, 6, 24, 28, 34, 900000000] Y1))))) (.alt 4 (.step 10 false (.alt 4 (.step 3 false (.step 6 true (IT.ref true [2, 3, 4, 5, 6, 7, 8, 9, 24, 25, 27, 29, 31, 32] [2, 3, 12, 2014, 3014, 5, 2020, 3020, 6, 24, 28, 34, 900000000] Y6))) (.alt 4 (.step 6 false (IT.ref false [2, 3, 4, 5, 6, 7, 8, 9, 21, 23, 25, 27, 29, 31, 32] [2, 3, 12, 2014, 3014, 5, 2020, 3020, 6, 24, 28, 34, 900000000] Y2)) (.step 12 false (IT.ref true [2, 3, 4, 5, 6, 7, 8, 9, 21, 23, 25, 26, 29, 31, 33] [2, 3, 12, 2014, 3014, 5, 2020, 3020, 6, 24, 28, 34, 900000000] Y0))))) (.step 12 false (.alt 4 (.step 3 false (.step 6 true (IT.ref true [2, 3, 4, 5, 6, 7, 8, 9, 24, 25, 27, 29, 30, 33] [2, 3, 12, 2014, 3014, 5, 2020, 3020, 6, 24, 28, 34, 900000000] Y5))) (.alt 4 (.step 6 false (IT.ref false [2, 3, 4, 5, 6, 7, 8, 9, 21, 23, 25, 27, 29, 30, 33] [2, 3, 12, 2014, 3014, 5, 2020, 3020, 6, 24, 28, 34, 900000000] Y1)) (.step 10 false (IT.ref false [2, 3, 4, 5, 6, 7, 8, 9, 21, 23, 25, 26, 29, 31, 33] [2, 3, 12, 2014, 3014, 5, 2020, 3020, 6, 24, 28, 34, 900000000] Y0))))))))))))))))))))))))) [(0, 131071, 131071, true), (0, 131071, 131071, true), (2, 131069, 131071, false), (5, 131066, 131071, false), (0, 131071, 131063, true), (0, 131071, 131063, true), (32, 131039, 131063, false), (88, 130991, 131063, false), (0, 131071, 130935, true), (0, 131071, 130935, true), (512, 130559, 130935, false), (0, 131071, 130935, true), (2048, 129023, 130935, false), (5504, 125695, 130935, false), (8207, 131063, 122743, true), (16639, 130943, 122743, true), (65535, 122879, 122743, true)] (by kernel_rfl) (by kernel_rfl) ?_; apply so_lt6; (· intro Y8 hY8; apply so_lt3; (· intro Y7 hY7; apply so_lt3; (· intro Y6 hY6; apply so_lt3; (· intro Y5 hY5; apply so_lt0; (· intro Y4 hY4; apply so_lt3; (· intro Y3 hY3; apply so_lt0; (· intro Y2 hY2; apply so_lt0; (· intro Y1 hY1; apply so_lt0; (· intro Y0 hY0; ((refine so_q (qt_mvC rfl) rfl ?_)); ((refine so_q (qt_fld_lp (off := 0) rfl (by kernel_rfl)) rfl ?_)); ((refine so_q (qt_load_box rfl rfl (by kernel_rfl) rfl) rfl ?_)); ((refine so_q (qt_mvC rfl) rfl ?_)); ((refine so_q (qt_fld_lp (off := 1) rfl (by kernel_rfl)) rfl ?_)); ((refine so_q (qt_mvC rfl) rfl ?_)); ((refine so_q (qt_fld_lp (off := 0) rfl (by kernel_rfl)) rfl ?_)); ((refine so_q (qt_fld_lp (off := 1) rfl (by kernel_rfl)) rfl ?_)); refine so_alt ?_ ?_; (· ((apply so_callX (d := 24) (fid := 83); (· rfl); (· rfl); (· (repeat (first | exact BxI.nil | (apply BxI.o; (· (exact .lit _))) | apply BxI.k))); (· (repeat (first | exact ArX.nil | apply ArX.v (.c (.d _))))); (· (decide)); (· (decide)); (· exact curOrder_p code _ _ _ (by omega) (by omega)); (· rfl); (· (intro b hb1 hb2; omega)); (· rfl); (rintro _ _ ⟨w24_1, w24_2, hw24_1, rfl, w24_3, hw24_2, rfl⟩; refine ⟨(by first | rfl | simp [*]), ?_⟩))); ((refine so_q (qt_load_box rfl rfl (by kernel_rfl) rfl) rfl ?_)); ((with_reducible apply so_j1); (· rfl); (· (repeat (first | exact Pf.nil | apply Pf.cons (.c rfl (.d rfl)) | apply Pf.cons (.c rfl (.ls rfl)) | apply Pf.cons (.c rfl (.lp rfl)) | apply Pf.skip))); (· (repeat (first | exact Pb.nil | apply Pb.cons (.row rfl) | (apply Pb.cons; (· apply Nb.box rfl; (repeat (first | exact Ncs.nil rfl | (apply Ncs.cons rfl; (· (exact .d rfl))))))) | apply Pb.cons (.any rfl) | apply Pb.skip))); (· exact (hY3 w24_1 w24_2 w24_3 (And.intro hw24_1 (And.intro hw24_2 (trivial))))))); (refine so_alt ?_ ?_; (· ((refine so_q (qt_load_box rfl rfl (by kernel_rfl) rfl) rfl ?_)); refine so_alt ?_ ?_; (· ((apply so_callX (d := 24) (fid := 83); (· rfl); (· rfl); (· (repeat (first | exact BxI.nil | (apply BxI.o; (· (exact .lit _))) | apply BxI.k))); (· (repeat (first | exact ArX.nil | apply ArX.v (.c (.d _))))); (· (decide)); (· (decide)); (· exact curOrder_p code _ _ _ (by omega) (by omega)); (· rfl); (· (intro b hb1 hb2; omega)); (· rfl); (rintro _ _ ⟨w24_1, w24_2, hw24_1, rfl, w24_3, hw24_2, rfl⟩; refine ⟨(by first | rfl | simp [*]), ?_⟩))); ((with_reducible apply so_j2); (· exact (hY3 w24_1 w24_2 w24_3 (And.intro hw24_1 (And.intro hw24_2 (trivial))))); (· rfl); (· exact (by (repeat (first | exact trivial | refine ⟨rfl, ?_⟩)))); (· exact (by (repeat (first | exact trivial | refine ⟨rfl, ?_⟩)))))); (refine so_alt ?_ ?_; (· ((refine so_q (qt_load_box rfl rfl (by kernel_rfl) rfl) rfl ?_)); ((with_reducible apply so_j1); (· rfl); (· (repeat (first | exact Pf.nil | apply Pf.cons (.c rfl (.d rfl)) | apply Pf.cons (.c rfl (.lp rfl)) | apply Pf.skip))); (· (repeat (first | exact Pb.nil | (apply Pb.cons; (· apply Nb.box rfl; (repeat (first | exact Ncs.nil rfl | (apply Ncs.cons rfl; (· (exact .d rfl))))))) | apply Pb.cons (.any rfl) | apply Pb.skip))); (· exact (hY2  (trivial))))); (((refine so_q (qt_load_box rfl rfl (by kernel_rfl) rfl) rfl ?_)); ((with_reducible apply so_j1); (· rfl); (· (repeat (first | exact Pf.nil | apply Pf.cons (.c rfl (.d rfl)) | apply Pf.cons (.c rfl (.lp rfl)) | apply Pf.skip))); (· (repeat (first | exact Pb.nil | (apply Pb.cons; (· apply Nb.box rfl; (repeat (first | exact Ncs.nil rfl | (apply Ncs.cons rfl; (· (exact .d rfl))))))) | apply Pb.cons (.any rfl) | apply Pb.skip))); (· exact (hY1  (trivial))))))); (refine so_alt ?_ ?_; (· ((refine so_q (qt_load_box rfl rfl (by kernel_rfl) rfl) rfl ?_)); refine so_alt ?_ ?_; (· ((apply so_callX (d := 24) (fid := 83); (· rfl); (· rfl); (· (repeat (first | exact BxI.nil | (apply BxI.o; (· (exact .lit _))) | apply BxI.k))); (· (repeat (first | exact ArX.nil | apply ArX.v (.c (.d _))))); (· (decide)); (· (decide)); (· exact curOrder_p code _ _ _ (by omega) (by omega)); (· rfl); (· (intro b hb1 hb2; omega)); (· rfl); (rintro _ _ ⟨w24_1, w24_2, hw24_1, rfl, w24_3, hw24_2, rfl⟩; refine ⟨(by first | rfl | simp [*]), ?_⟩))); ((refine so_q (qt_load_box rfl rfl (by kernel_rfl) rfl) rfl ?_)); ((with_reducible apply so_j1); (· rfl); (· (repeat (first | exact Pf.nil | apply Pf.cons (.c rfl (.d rfl)) | apply Pf.cons (.c rfl (.ls rfl)) | apply Pf.cons (.c rfl (.lp rfl)) | apply Pf.skip))); (· (repeat (first | exact Pb.nil | apply Pb.cons (.row rfl) | (apply Pb.cons; (· apply Nb.box rfl; (repeat (first | exact Ncs.nil rfl | (apply Ncs.cons rfl; (· (exact .d rfl))))))) | apply Pb.cons (.any rfl) | apply Pb.skip))); (· exact (hY6 w24_1 w24_2 w24_3 (And.intro hw24_1 (And.intro hw24_2 (trivial))))))); (refine so_alt ?_ ?_; (· ((refine so_q (qt_load_box rfl rfl (by kernel_rfl) rfl) rfl ?_)); ((with_reducible apply so_j2); (· exact (hY2  (trivial))); (· rfl); (· exact (by (repeat (first | exact trivial | refine ⟨rfl, ?_⟩)))); (· exact (by (repeat (first | exact trivial | refine ⟨rfl, ?_⟩)))))); (((refine so_q (qt_load_box rfl rfl (by kernel_rfl) rfl) rfl ?_)); ((with_reducible apply so_j1); (· rfl); (· (repeat (first | exact Pf.nil | apply Pf.cons (.c rfl (.d rfl)) | apply Pf.cons (.c rfl (.lp rfl)) | apply Pf.skip))); (· (repeat (first | exact Pb.nil | (apply Pb.cons; (· apply Nb.box rfl; (repeat (first | exact Ncs.nil rfl | (apply Ncs.cons rfl; (· (exact .d rfl))))))) | apply Pb.cons (.any rfl) | apply Pb.skip))); (· exact (hY0  (trivial))))))); (((refine so_q (qt_load_box rfl rfl (by kernel_rfl) rfl) rfl ?_)); refine so_alt ?_ ?_; (· ((apply so_callX (d := 24) (fid := 83); (· rfl); (· rfl); (· (repeat (first | exact BxI.nil | (apply BxI.o; (· (exact .lit _))) | apply BxI.k))); (· (repeat (first | exact ArX.nil | apply ArX.v (.c (.d _))))); (· (decide)); (· (decide)); (· exact curOrder_p code _ _ _ (by omega) (by omega)); (· rfl); (· (intro b hb1 hb2; omega)); (· rfl); (rintro _ _ ⟨w24_1, w24_2, hw24_1, rfl, w24_3, hw24_2, rfl⟩; refine ⟨(by first | rfl | simp [*]), ?_⟩))); ((refine so_q (qt_load_box rfl rfl (by kernel_rfl) rfl) rfl ?_)); ((with_reducible apply so_j1); (· rfl); (· (repeat (first | exact Pf.nil | apply Pf.cons (.c rfl (.d rfl)) | apply Pf.cons (.c rfl (.ls rfl)) | apply Pf.cons (.c rfl (.lp rfl)) | apply Pf.skip))); (· (repeat (first | exact Pb.nil | apply Pb.cons (.row rfl) | (apply Pb.cons; (· apply Nb.box rfl; (repeat (first | exact Ncs.nil rfl | (apply Ncs.cons rfl; (· (exact .d rfl))))))) | apply Pb.cons (.any rfl) | apply Pb.skip))); (· exact (hY5 w24_1 w24_2 w24_3 (And.intro hw24_1 (And.intro hw24_2 (trivial))))))); (refine so_alt ?_ ?_; (· ((refine so_q (qt_load_box rfl rfl (by kernel_rfl) rfl) rfl ?_)); ((with_reducible apply so_j2); (· exact (hY1  (trivial))); (· rfl); (· exact (by (repeat (first | exact trivial | refine ⟨rfl, ?_⟩)))); (· exact (by (repeat (first | exact trivial | refine ⟨rfl, ?_⟩)))))); (((refine so_q (qt_load_box rfl rfl (by kernel_rfl) rfl) rfl ?_)); ((with_reducible apply so_j2); (· exact (hY0  (trivial))); (· rfl); (· exact (by (repeat (first | exact trivial | refine ⟨rfl, ?_⟩)))); (· exact (by (repeat (first | exact trivial | refine ⟨rfl, ?_⟩))))))))))); (intro  hok; obtain ⟨-⟩ := hok; refine so_alt ?_ ?_; (· ((apply so_callX (d := 24) (fid := 83); (· rfl); (· rfl); (· (repeat (first | exact BxI.nil | (apply BxI.o; (· (exact .lit _))) | apply BxI.k))); (· (repeat (first | exact ArX.nil | apply ArX.v (.c (.d _))))); (· (decide)); (· (decide)); (· exact curOrder_p code _ _ _ (by omega) (by omega)); (· rfl); (· (intro b hb1 hb2; omega)); (· rfl); (rintro _ _ ⟨w24_1, w24_2, hw24_1, rfl, w24_3, hw24_2, rfl⟩; refine ⟨(by first | rfl | simp [*]), ?_⟩))); ((refine so_q (qt_load_box rfl rfl (by kernel_rfl) rfl) rfl ?_)); ((with_reducible apply so_j1); (· rfl); (· (repeat (first | exact Pf.nil | apply Pf.cons (.c rfl (.d rfl)) | apply Pf.cons (.c rfl (.ls rfl)) | apply Pf.cons (.c rfl (.lp rfl)) | apply Pf.skip))); (· (repeat (first | exact Pb.nil | apply Pb.cons (.row rfl) | (apply Pb.cons; (· apply Nb.box rfl; (repeat (first | exact Ncs.nil rfl | (apply Ncs.cons rfl; (· (exact .d rfl))))))) | apply Pb.cons (.any rfl) | apply Pb.skip))); (· exact (hY7 w24_1 w24_2 w24_3 (And.intro hw24_1 (And.intro hw24_2 (trivial))))))); (((refine so_q (qt_load_box rfl rfl (by kernel_rfl) rfl) rfl ?_)); ((with_reducible apply so_j1); (· rfl); (· (repeat (first | exact Pf.nil | apply Pf.cons (.c rfl (.d rfl)) | apply Pf.cons (.c rfl (.lp rfl)) | apply Pf.skip))); (· (repeat (first | exact Pb.nil | (apply Pb.cons; (· apply Nb.box rfl; (repeat (first | exact Ncs.nil rfl | (apply Ncs.cons rfl; (· (exact .d rfl))))))) | apply Pb.cons (.any rfl) | apply Pb.skip))); (· exact (hY4  (trivial))))))); (intro  hok; obtain ⟨-⟩ := hok; refine so_alt ?_ ?_; (· ((apply so_callX (d := 24) (fid := 83); (· rfl); (· rfl); (· (repeat (first | exact BxI.nil | (apply BxI.o; (· (exact .lit _))) | apply BxI.k))); (· (repeat (first | exact ArX.nil | apply ArX.v (.c (.d _))))); (· (decide)); (· (decide)); (· exact curOrder_p code _ _ _ (by omega) (by omega)); (· rfl); (· (intro b hb1 hb2; omega)); (· rfl); (rintro _ _ ⟨w24_1, w24_2, hw24_1, rfl, w24_3, hw24_2, rfl⟩; refine ⟨(by first | rfl | simp [*]), ?_⟩))); ((with_reducible apply so_j2); (· exact (hY5 w24_1 w24_2 w24_3 (And.intro hw24_1 (And.intro hw24_2 (trivial))))); (· rfl); (· exact (by (repeat (first | exact trivial | refine ⟨rfl, ?_⟩)))); (· exact (by (repeat (first | exact trivial | refine ⟨rfl, ?_⟩)))))); (((refine so_q (qt_load_box rfl rfl (by kernel_rfl) rfl) rfl ?_)); ((with_reducible apply so_j2); (· exact (hY4  (trivial))); (· rfl); (· exact (by (repeat (first | exact trivial | refine ⟨rfl, ?_⟩)))); (· exact (by (repeat (first | exact trivial | refine ⟨rfl, ?_⟩)))))))); (intro  hok; obtain ⟨-⟩ := hok; refine so_alt ?_ ?_; (· ((apply so_callX (d := 24) (fid := 83); (· rfl); (· rfl); (· (repeat (first | exact BxI.nil | (apply BxI.o; (· (exact .lit _))) | apply BxI.k))); (· (repeat (first | exact ArX.nil | apply ArX.v (.c (.d _))))); (· (decide)); (· (decide)); (· exact curOrder_p code _ _ _ (by omega) (by omega)); (· rfl); (· (intro b hb1 hb2; omega)); (· rfl); (rintro _ _ ⟨w24_1, w24_2, hw24_1, rfl, w24_3, hw24_2, rfl⟩; refine ⟨(by first | rfl | simp [*]), ?_⟩))); ((with_reducible apply so_j2); (· exact (hY6 w24_1 w24_2 w24_3 (And.intro hw24_1 (And.intro hw24_2 (trivial))))); (· rfl); (· exact (by (repeat (first | exact trivial | refine ⟨rfl, ?_⟩)))); (· exact (by (repeat (first | exact trivial | refine ⟨rfl, ?_⟩)))))); (((refine so_q (qt_load_box rfl rfl (by kernel_rfl) rfl) rfl ?_)); ((with_reducible apply so_j2); (· exact (hY4  (trivial))); (· rfl); (· exact (by (repeat (first | exact trivial | refine ⟨rfl, ?_⟩)))); (· exact (by (repeat (first | exact trivial | refine ⟨rfl, ?_⟩)))))))); (intro w24_1 w24_2 w24_3 hok; obtain ⟨hw24_1, hw24_2, -⟩ := hok; refine so_alt ?_ ?_; (· ((apply so_callX (d := 28) (fid := 83); (· rfl); (· rfl); (· (repeat (first | exact BxI.nil | (apply BxI.o; (· (exact .lit _))) | apply BxI.k))); (· (repeat (first | exact ArX.nil | apply ArX.v (.c (.d _))))); (· (decide)); (· (decide)); (· exact curOrder_p code _ _ _ (by omega) (by omega)); (· rfl); (· (intro b hb1 hb2; omega)); (· rfl); (rintro _ _ ⟨w28_1, w28_2, hw28_1, rfl, w28_3, hw28_2, rfl⟩; refine ⟨(by first | rfl | simp [*]), ?_⟩))); ((refine so_q (qt_load_box rfl rfl (by kernel_rfl) rfl) rfl ?_)); ((refine so_q (qt_load_box rfl rfl (by kernel_rfl) rfl) rfl ?_)); ((with_reducible apply so_j1); (· rfl); (· (repeat (first | exact Pf.nil | apply Pf.cons (.c rfl (.d rfl)) | apply Pf.cons (.c rfl (.ls rfl)) | apply Pf.cons (.c rfl (.lp rfl)) | apply Pf.skip))); (· (repeat (first | exact Pb.nil | apply Pb.cons (.row rfl) | (apply Pb.cons; (· apply Nb.box rfl; (repeat (first | exact Ncs.nil rfl | (apply Ncs.cons rfl; (· (exact .d rfl))))))) | apply Pb.cons (.any rfl) | apply Pb.skip))); (· exact (hY8 w24_1 w24_2 w24_3 w28_1 w28_2 w28_3 (And.intro hw24_1 (And.intro hw24_2 (And.intro hw28_1 (And.intro hw28_2 (trivial))))))))); (refine so_alt ?_ ?_; (· ((refine so_q (qt_load_box rfl rfl (by kernel_rfl) rfl) rfl ?_)); ((with_reducible apply so_j2); (· exact (hY6 w24_1 w24_2 w24_3 (And.intro hw24_1 (And.intro hw24_2 (trivial))))); (· rfl); (· exact (by (repeat (first | exact trivial | refine ⟨rfl, ?_⟩)))); (· exact (by (repeat (first | exact trivial | refine ⟨rfl, ?_⟩)))))); (((refine so_q (qt_load_box rfl rfl (by kernel_rfl) rfl) rfl ?_)); ((with_reducible apply so_j2); (· exact (hY5 w24_1 w24_2 w24_3 (And.intro hw24_1 (And.intro hw24_2 (trivial))))); (· rfl); (· exact (by (repeat (first | exact trivial | refine ⟨rfl, ?_⟩)))); (· exact (by (repeat (first | exact trivial | refine ⟨rfl, ?_⟩))))))))); (intro  hok; obtain ⟨-⟩ := hok; ((apply so_callX (d := 24) (fid := 83); (· rfl); (· rfl); (· (repeat (first | exact BxI.nil | (apply BxI.o; (· (exact .lit _))) | apply BxI.k))); (· (repeat (first | exact ArX.nil | apply ArX.v (.c (.d _))))); (· (decide)); (· (decide)); (· exact curOrder_p code _ _ _ (by omega) (by omega)); (· rfl); (· (intro b hb1 hb2; omega)); (· rfl); (rintro _ _ ⟨w24_1, w24_2, hw24_1, rfl, w24_3, hw24_2, rfl⟩; refine ⟨(by first | rfl | simp [*]), ?_⟩))); ((with_reducible apply so_j2); (· exact (hY7 w24_1 w24_2 w24_3 (And.intro hw24_1 (And.intro hw24_2 (trivial))))); (· rfl); (· exact (by (repeat (first | exact trivial | refine ⟨rfl, ?_⟩)))); (· exact (by (repeat (first | exact trivial | refine ⟨rfl, ?_⟩))))))); (intro w24_1 w24_2 w24_3 hok; obtain ⟨hw24_1, hw24_2, -⟩ := hok; refine so_alt ?_ ?_; (· ((apply so_callX (d := 28) (fid := 83); (· rfl); (· rfl); (· (repeat (first | exact BxI.nil | (apply BxI.o; (· (exact .lit _))) | apply BxI.k))); (· (repeat (first | exact ArX.nil | apply ArX.v (.c (.d _))))); (· (decide)); (· (decide)); (· exact curOrder_p code _ _ _ (by omega) (by omega)); (· rfl); (· (intro b hb1 hb2; omega)); (· rfl); (rintro _ _ ⟨w28_1, w28_2, hw28_1, rfl, w28_3, hw28_2, rfl⟩; refine ⟨(by first | rfl | simp [*]), ?_⟩))); ((refine so_q (qt_load_box rfl rfl (by kernel_rfl) rfl) rfl ?_)); ((with_reducible apply so_j2); (· exact (hY8 w24_1 w24_2 w24_3 w28_1 w28_2 w28_3 (And.intro hw24_1 (And.intro hw24_2 (And.intro hw28_1 (And.intro hw28_2 (trivial))))))); (· rfl); (· exact (by (repeat (first | exact trivial | refine ⟨rfl, ?_⟩)))); (· exact (by (repeat (first | exact trivial | refine ⟨rfl, ?_⟩)))))); (((refine so_q (qt_load_box rfl rfl (by kernel_rfl) rfl) rfl ?_)); ((with_reducible apply so_j2); (· exact (hY7 w24_1 w24_2 w24_3 (And.intro hw24_1 (And.intro hw24_2 (trivial))))); (· rfl); (· exact (by (repeat (first | exact trivial | refine ⟨rfl, ?_⟩)))); (· exact (by (repeat (first | exact trivial | refine ⟨rfl, ?_⟩)))))))); (intro w24_1 w24_2 w24_3 hok; obtain ⟨hw24_1, hw24_2, -⟩ := hok; refine so_alt ?_ ?_; (· ((apply so_callX (d := 28) (fid := 83); (· rfl); (· rfl); (· (repeat (first | exact BxI.nil | (apply BxI.o; (· (exact .lit _))) | apply BxI.k))); (· (repeat (first | exact ArX.nil | apply ArX.v (.c (.d _))))); (· (decide)); (· (decide)); (· exact curOrder_p code _ _ _ (by omega) (by omega)); (· rfl); (· (intro b hb1 hb2; omega)); (· rfl); (rintro _ _ ⟨w28_1, w28_2, hw28_1, rfl, w28_3, hw28_2, rfl⟩; refine ⟨(by first | rfl | simp [*]), ?_⟩))); ((refine so_q (qt_load_box rfl rfl (by kernel_rfl) rfl) rfl ?_)); ((with_reducible apply so_j2); (· exact (hY8 w24_1 w24_2 w24_3 w28_1 w28_2 w28_3 (And.intro hw24_1 (And.intro hw24_2 (And.intro hw28_1 (And.intro hw28_2 (trivial))))))); (· rfl); (· exact (by (repeat (first | exact trivial | refine ⟨rfl, ?_⟩)))); (· exact (by (repeat (first | exact trivial | refine ⟨rfl, ?_⟩)))))); (((refine so_q (qt_load_box rfl rfl (by kernel_rfl) rfl) rfl ?_)); ((with_reducible apply so_j2); (· exact (hY7 w24_1 w24_2 w24_3 (And.intro hw24_1 (And.intro hw24_2 (trivial))))); (· rfl); (· exact (by (repeat (first | exact trivial | refine ⟨rfl, ?_⟩)))); (· exact (by (repeat (first | exact trivial | refine ⟨rfl, ?_⟩)))))))); (intro w24_1 w24_2 w24_3 hok; obtain ⟨hw24_1, hw24_2, -⟩ := hok; ((apply so_callX (d := 28) (fid := 83); (· rfl); (· rfl); (· (repeat (first | exact BxI.nil | (apply BxI.o; (· (exact .lit _))) | apply BxI.k))); (· (repeat (first | exact ArX.nil | apply ArX.v (.c (.d _))))); (· (decide)); (· (decide)); (· exact curOrder_p code _ _ _ (by omega) (by omega)); (· rfl); (· (intro b hb1 hb2; omega)); (· rfl); (rintro _ _ ⟨w28_1, w28_2, hw28_1, rfl, w28_3, hw28_2, rfl⟩; refine ⟨(by first | rfl | simp [*]), ?_⟩))); ((with_reducible apply so_j2); (· exact (hY8 w24_1 w24_2 w24_3 w28_1 w28_2 w28_3 (And.intro hw24_1 (And.intro hw24_2 (And.intro hw28_1 (And.intro hw28_2 (trivial))))))); (· rfl); (· exact (by (repeat (first | exact trivial | refine ⟨rfl, ?_⟩)))); (· exact (by (repeat (first | exact trivial | refine ⟨rfl, ?_⟩))))))); (intro w24_1 w24_2 w24_3 w28_1 w28_2 w28_3 hok; obtain ⟨hw24_1, hw24_2, hw28_1, hw28_2, -⟩ := hok; ((apply so_callX (d := 34) (fid := 84); (· rfl); (· rfl); (· (repeat (first | exact BxI.nil | (apply BxI.o; (· (exact .lit _))) | apply BxI.k))); (· (repeat (first | exact ArX.nil | apply ArX.v (.c (.d _))))); (· (decide)); (· (decide)); (· exact curPlay_p code _ _ _ _ (by omega) (by omega)); (· rfl); (· (intro b hb1 hb2; omega)); (· rfl); (rintro _ _ ⟨w34_1, w34_2, hw34_1, rfl, w34_3, hw34_2, rfl⟩; refine ⟨(by first | rfl | simp [*]), ?_⟩))); ((refine so_q (qt_asC rfl) rfl ?_)); ((refine so_q (qt_asC rfl) rfl ?_)); ((refine so_q (qt_asC rfl) rfl ?_)); refine so_nil ?_)))
  all_goals first | (exfalso; omega) | skip
  have i1 := l4Game_p x y ws wi
  have i2 := fun hx => l4Order_p w24_3 x (by omega) hx
  have i3 := fun hy => l4Order_p w28_3 y (by omega) hy
  have i4 := l2Bits_p w34_3 (x + y)
  have fin : ∀ b : Bool, b = true ∨ b = false := fun b => by cases b <;> simp
  rcases fin (gameB x y ws wi) with hG | hG
  · have gs := gameB_spec hG
    have g1 := gs.x1; have g2 := gs.x3; have g3 := gs.y1; have g4 := gs.y3
    replace i2 := i2 ⟨g1, g2⟩
    replace i3 := i3 ⟨g3, g4⟩
    rw [hG] at i1
    rcases fin (orderB w24_3 x) with hO | hO
    · rw [hO] at i2
      rcases fin (orderB w28_3 y) with hP | hP
      · rw [hP] at i3
        rcases fin (bitsB w34_3 (x + y)) with hQ | hQ
        · rw [hQ] at i4
          have l1 := orderB_len hO
          have l2 := orderB_len hP
          obtain ⟨X, Y, rfl, rfl, -⟩ := game_nat hG
          have ak := l4Ask_p X Y ws wi w24_3 w28_3 hG (fun x hx => orderB_mem (by omega) hO hx) (fun x hx => orderB_mem (by omega) hP hx) (by omega) (by omega)
          rw [l1, l2] at ak
          have ga := (ask_all hG hO hP).1
          have fl := l4Flip_p X Y _ _ w34_3 (by unfold flipB; rw [hQ, Bool.and_true]; exact ga)
          repeat' (first | refine so_alt ?_ ?_ | (refine so_is (.move _) ?_; (refine so_q (qt_mvC rfl) rfl ?_)) | (refine so_is (.store 27 _ _) ?_; (refine so_store_box rfl rfl rfl (by kernel_rfl) rfl rfl ?_)) | (refine so_is (.fieldAddr 27 _ 0) ?_; (refine so_q (qt_fld_lp (off := 0) rfl (by kernel_rfl)) rfl ?_)) | (refine so_is (.load 3 _) ?_; (refine so_q (qt_load_box rfl rfl (by kernel_rfl) rfl) rfl ?_)) | (refine so_is (.fieldAddr 27 _ 1) ?_; (refine so_q (qt_fld_lp (off := 1) rfl (by kernel_rfl)) rfl ?_)) | (refine so_is (.load 27 _) ?_; (refine so_q (qt_load_boxs rfl rfl (by kernel_rfl : tAgg _ 27 4 = true) rfl) rfl ?_)) | (refine so_is (.pick _ _ _) ?_; (refine so_q (qt_pkC rfl rfl) rfl ?_)) | (refine so_is (.binOp .add 3 _ _ _) ?_; refine so_q (qt_addI rfl rfl (by (omega))) rfl ?_) | (refine so_is (.unOp .not 4 _) ?_; refine so_q (qt_not rfl) rfl ?_) | (refine so_is (.call ⟨.value (.func 81), _, _⟩) ?_; ((apply so_callXV (fid := 81); (· rfl); (· rfl); (· (repeat (first | exact BxI.nil | (apply BxI.o; (· (exact .lit _))) | apply BxI.k))); (· (repeat (exact SdA.nil))); (· (decide)); (· exact curGame_p code _ _ (by omega) (by omega)); (· rfl); (· (intro b hb1 hb2; omega)); (· rfl); (rintro _ _ ⟨a3, s3, ha3, rfl, x4, y4, ws4, wi4, hxy4, rfl⟩; refine ⟨(by first | rfl | simp [*]), ?_⟩)))) | (refine so_is (.call ⟨.value (.func 85), _, _⟩) ?_; ((apply so_call0 (fid := 85); (· (repeat (first | exact SeA.nil | (apply SeA.cons; (· (apply SeP.g; (repeat (first | exact SeL.nil | apply SeL.cons (.d _))))))))); (· exact i1); (· rfl)))) | (refine so_is (.call ⟨.value (.func 86), _, _⟩) ?_; (first | (apply so_call0 (fid := 86); (· (repeat (first | exact SeA.nil | apply SeA.cons (.c (.d _)) | apply SeA.cons (.c (.all _ _ _ _ rfl (by ((simp; done)))))))); (· exact i2); (· rfl)) | (apply so_call0 (fid := 86); (· (repeat (first | exact SeA.nil | apply SeA.cons (.c (.d _)) | apply SeA.cons (.c (.all _ _ _ _ rfl (by ((simp; done)))))))); (· exact i3); (· rfl)))) | (refine so_is (.call ⟨.value (.func 87), _, _⟩) ?_; ((apply so_call0 (fid := 87); (· (repeat (first | exact SeA.nil | apply SeA.cons (.c (.d _)) | apply SeA.cons (.c (.all _ _ _ _ rfl (by ((simp; done)))))))); (· exact i4); (· rfl)))) | (refine so_is (.call ⟨.value (.func 88), _, _⟩) ?_; ((apply so_callX (fid := 88); (· rfl); (· rfl); (· (repeat (first | exact BxI.nil | (apply BxI.o; (· (exact .lit _))) | apply BxI.k))); (· (repeat (first | exact ArX.nil | apply ArX.v (.c (.d _))))); (· (decide)); (· (decide)); (· exact curOne_p code _ _ _ (by omega) (by omega)); (· rfl); (· (intro b hb1 hb2; omega)); (· rfl); (rintro _ _ ⟨a3, s3, ha3, rfl, b3, rfl⟩; refine ⟨(by first | rfl | simp [*]), ?_⟩)))) | (refine so_is (.call ⟨.value (.func 90), _, _⟩) ?_; ((apply so_call0 (fid := 90); (· (repeat (first | exact SeA.nil | apply SeA.cons (.c (.all _ _ _ _ rfl (by ((simp; done))))) | (apply SeA.cons; (· (apply SeP.g; (repeat (first | exact SeL.nil | apply SeL.cons (.d _))))))))); (· exact ak); (· rfl)))) | (refine so_is (.call ⟨.value (.func 89), _, _⟩) ?_; ((apply so_call0 (fid := 89); (· (repeat (first | exact SeA.nil | apply SeA.cons (.c (.all _ _ _ _ rfl (by ((simp; done))))) | (apply SeA.cons; (· (apply SeP.g; (repeat (first | exact SeL.nil | apply SeL.cons (.d _))))))))); (· exact fl); (· rfl)))) | refine so_nil ?_ | refine so_g_yes rfl rfl rfl rfl ?_ | refine sk_seq ?_ | refine sk_skip ?_ | refine sk_region ?_ | refine sk_drawQ 9 (fun i => i == 2 || i == 3) (.step 0 true (.alt 9 (.step 1 false (.step 2 false (.step 3 false .nil))) (.step 2 false (.step 1 true (.step 3 false .nil))))) [(0, 15, 15, false), (0, 15, 11, false), (1, 14, 15, false), (7, 13, 11, false)] (by kernel_rfl) (by kernel_rfl) ?_ | refine sk_not rfl (fun hc => ?_) (fun hc => ?_) | refine sk_cond rfl (fun hc => ?_) (fun hc => ?_))
          all_goals first | (exfalso; omega) | (exfalso; simp_all; done) | skip
          all_goals (apply sk_vert; (· (apply RetV.t; (· rfl); (· (apply RvA.cons; (· (apply RV.cellN (n := 4); (· rfl); (· rfl); (· kernel_rfl); (· rfl))); (· (apply RvP.g; (· (apply RvL.cons (.d _)); (apply RvL.cons (.d _)); ((apply RvL.cons (.d _))); ((apply RvL.cons (.d _))); exact RvL.nil)))); (apply RvA.cons; (· (apply RV.cellN (n := 4); (· rfl); (· rfl); (· kernel_rfl); (· rfl))); (· (apply RvP.g; (· (apply RvL.cons (.d _)); (apply RvL.cons (.d _)); ((apply RvL.cons (.d _))); ((apply RvL.cons (.d _))); exact RvL.nil)))); exact RvA.nil); (· rfl))))
          all_goals exact ⟨_, _, _, _, _, _, _, _, rfl⟩
        · rw [hQ] at i4
          repeat' (first | refine so_alt ?_ ?_ | (refine so_is (.move _) ?_; (refine so_q (qt_mvC rfl) rfl ?_)) | (refine so_is (.store 27 _ _) ?_; (refine so_store_box rfl rfl rfl (by kernel_rfl) rfl rfl ?_)) | (refine so_is (.fieldAddr 27 _ 0) ?_; (refine so_q (qt_fld_lp (off := 0) rfl (by kernel_rfl)) rfl ?_)) | (refine so_is (.load 3 _) ?_; (refine so_q (qt_load_box rfl rfl (by kernel_rfl) rfl) rfl ?_)) | (refine so_is (.fieldAddr 27 _ 1) ?_; (refine so_q (qt_fld_lp (off := 1) rfl (by kernel_rfl)) rfl ?_)) | (refine so_is (.load 27 _) ?_; (refine so_q (qt_load_boxs rfl rfl (by kernel_rfl : tAgg _ 27 4 = true) rfl) rfl ?_)) | (refine so_is (.pick _ _ _) ?_; (refine so_q (qt_pkC rfl rfl) rfl ?_)) | (refine so_is (.binOp .add 3 _ _ _) ?_; refine so_q (qt_addI rfl rfl (by (omega))) rfl ?_) | (refine so_is (.call ⟨.value (.func 81), _, _⟩) ?_; ((apply so_callXV (fid := 81); (· rfl); (· rfl); (· (repeat (first | exact BxI.nil | (apply BxI.o; (· (exact .lit _))) | apply BxI.k))); (· (repeat (exact SdA.nil))); (· (decide)); (· exact curGame_p code _ _ (by omega) (by omega)); (· rfl); (· (intro b hb1 hb2; omega)); (· rfl); (rintro _ _ ⟨a3, s3, ha3, rfl, x4, y4, ws4, wi4, hxy4, rfl⟩; refine ⟨(by first | rfl | simp [*]), ?_⟩)))) | (refine so_is (.call ⟨.value (.func 85), _, _⟩) ?_; ((apply so_call0 (fid := 85); (· (repeat (first | exact SeA.nil | (apply SeA.cons; (· (apply SeP.g; (repeat (first | exact SeL.nil | apply SeL.cons (.d _))))))))); (· exact i1); (· rfl)))) | (refine so_is (.call ⟨.value (.func 86), _, _⟩) ?_; (first | (apply so_call0 (fid := 86); (· (repeat (first | exact SeA.nil | apply SeA.cons (.c (.d _)) | apply SeA.cons (.c (.all _ _ _ _ rfl (by ((simp; done)))))))); (· exact i2); (· rfl)) | (apply so_call0 (fid := 86); (· (repeat (first | exact SeA.nil | apply SeA.cons (.c (.d _)) | apply SeA.cons (.c (.all _ _ _ _ rfl (by ((simp; done)))))))); (· exact i3); (· rfl)))) | (refine so_is (.call ⟨.value (.func 87), _, _⟩) ?_; ((apply so_call0 (fid := 87); (· (repeat (first | exact SeA.nil | apply SeA.cons (.c (.d _)) | apply SeA.cons (.c (.all _ _ _ _ rfl (by ((simp; done)))))))); (· exact i4); (· rfl)))) | (refine so_is (.call ⟨.value (.func 88), _, _⟩) ?_; ((apply so_callX (fid := 88); (· rfl); (· rfl); (· (repeat (first | exact BxI.nil | (apply BxI.o; (· (exact .lit _))) | apply BxI.k))); (· (repeat (first | exact ArX.nil | apply ArX.v (.c (.d _))))); (· (decide)); (· (decide)); (· exact curOne_p code _ _ _ (by omega) (by omega)); (· rfl); (· (intro b hb1 hb2; omega)); (· rfl); (rintro _ _ ⟨a3, s3, ha3, rfl, b3, rfl⟩; refine ⟨(by first | rfl | simp [*]), ?_⟩)))) | refine so_nil ?_ | refine so_g_no rfl rfl rfl rfl ?_ | refine so_g_yes rfl rfl rfl rfl ?_ | refine sk_seq ?_ | refine sk_skip ?_ | refine sk_region ?_ | refine sk_drawQ 9 (fun i => i == 2 || i == 3) (.step 0 true (.alt 9 (.step 1 false (.step 2 false (.step 3 false .nil))) (.step 2 false (.step 1 true (.step 3 false .nil))))) [(0, 15, 15, false), (0, 15, 11, false), (1, 14, 15, false), (7, 13, 11, false)] (by kernel_rfl) (by kernel_rfl) ?_ | refine sk_false rfl ?_ | refine sk_cond rfl (fun hc => ?_) (fun hc => ?_))
          all_goals first | (exfalso; omega) | (exfalso; simp_all; done) | skip
          all_goals (apply sk_vert; (· (apply RetV.t; (· rfl); (· (apply RvA.cons; (· (apply RV.cellN (n := 4); (· rfl); (· rfl); (· kernel_rfl); (· rfl))); (· (apply RvP.g; (· (apply RvL.cons (.d _)); (apply RvL.cons (.d _)); ((apply RvL.cons (.d _))); ((apply RvL.cons (.d _))); exact RvL.nil)))); (apply RvA.cons; (· (apply RV.cellN (n := 4); (· rfl); (· rfl); (· kernel_rfl); (· rfl))); (· (apply RvP.g; (· (apply RvL.cons (.d _)); (apply RvL.cons (.d _)); ((apply RvL.cons (.d _))); ((apply RvL.cons (.d _))); exact RvL.nil)))); exact RvA.nil); (· rfl))))
          all_goals exact ⟨_, _, _, _, _, _, _, _, rfl⟩
      · rw [hP] at i3
        repeat' (first | refine so_alt ?_ ?_ | (refine so_is (.move _) ?_; (refine so_q (qt_mvC rfl) rfl ?_)) | (refine so_is (.store 27 _ _) ?_; (refine so_store_box rfl rfl rfl (by kernel_rfl) rfl rfl ?_)) | (refine so_is (.fieldAddr 27 _ 0) ?_; (refine so_q (qt_fld_lp (off := 0) rfl (by kernel_rfl)) rfl ?_)) | (refine so_is (.load 3 _) ?_; (refine so_q (qt_load_box rfl rfl (by kernel_rfl) rfl) rfl ?_)) | (refine so_is (.fieldAddr 27 _ 1) ?_; (refine so_q (qt_fld_lp (off := 1) rfl (by kernel_rfl)) rfl ?_)) | (refine so_is (.load 27 _) ?_; (refine so_q (qt_load_boxs rfl rfl (by kernel_rfl : tAgg _ 27 4 = true) rfl) rfl ?_)) | (refine so_is (.pick _ _ _) ?_; (refine so_q (qt_pkC rfl rfl) rfl ?_)) | (refine so_is (.call ⟨.value (.func 81), _, _⟩) ?_; ((apply so_callXV (fid := 81); (· rfl); (· rfl); (· (repeat (first | exact BxI.nil | (apply BxI.o; (· (exact .lit _))) | apply BxI.k))); (· (repeat (exact SdA.nil))); (· (decide)); (· exact curGame_p code _ _ (by omega) (by omega)); (· rfl); (· (intro b hb1 hb2; omega)); (· rfl); (rintro _ _ ⟨a3, s3, ha3, rfl, x4, y4, ws4, wi4, hxy4, rfl⟩; refine ⟨(by first | rfl | simp [*]), ?_⟩)))) | (refine so_is (.call ⟨.value (.func 85), _, _⟩) ?_; ((apply so_call0 (fid := 85); (· (repeat (first | exact SeA.nil | (apply SeA.cons; (· (apply SeP.g; (repeat (first | exact SeL.nil | apply SeL.cons (.d _))))))))); (· exact i1); (· rfl)))) | (refine so_is (.call ⟨.value (.func 86), _, _⟩) ?_; (first | (apply so_call0 (fid := 86); (· (repeat (first | exact SeA.nil | apply SeA.cons (.c (.d _)) | apply SeA.cons (.c (.all _ _ _ _ rfl (by ((simp; done)))))))); (· exact i2); (· rfl)) | (apply so_call0 (fid := 86); (· (repeat (first | exact SeA.nil | apply SeA.cons (.c (.d _)) | apply SeA.cons (.c (.all _ _ _ _ rfl (by ((simp; done)))))))); (· exact i3); (· rfl)))) | (refine so_is (.call ⟨.value (.func 88), _, _⟩) ?_; ((apply so_callX (fid := 88); (· rfl); (· rfl); (· (repeat (first | exact BxI.nil | (apply BxI.o; (· (exact .lit _))) | apply BxI.k))); (· (repeat (first | exact ArX.nil | apply ArX.v (.c (.d _))))); (· (decide)); (· (decide)); (· exact curOne_p code _ _ _ (by omega) (by omega)); (· rfl); (· (intro b hb1 hb2; omega)); (· rfl); (rintro _ _ ⟨a3, s3, ha3, rfl, b3, rfl⟩; refine ⟨(by first | rfl | simp [*]), ?_⟩)))) | refine so_nil ?_ | refine so_g_no rfl rfl rfl rfl ?_ | refine so_g_yes rfl rfl rfl rfl ?_ | refine sk_seq ?_ | refine sk_skip ?_ | refine sk_region ?_ | refine sk_drawQ 9 (fun i => i == 2 || i == 3) (.step 0 true (.alt 9 (.step 1 false (.step 2 false (.step 3 false .nil))) (.step 2 false (.step 1 true (.step 3 false .nil))))) [(0, 15, 15, false), (0, 15, 11, false), (1, 14, 15, false), (7, 13, 11, false)] (by kernel_rfl) (by kernel_rfl) ?_ | refine sk_false rfl ?_ | refine sk_cond rfl (fun hc => ?_) (fun hc => ?_))
        all_goals first | (exfalso; omega) | (exfalso; simp_all; done) | skip
        all_goals (apply sk_vert; (· (apply RetV.t; (· rfl); (· (apply RvA.cons; (· (apply RV.cellN (n := 4); (· rfl); (· rfl); (· kernel_rfl); (· rfl))); (· (apply RvP.g; (· (apply RvL.cons (.d _)); (apply RvL.cons (.d _)); ((apply RvL.cons (.d _))); ((apply RvL.cons (.d _))); exact RvL.nil)))); (apply RvA.cons; (· (apply RV.cellN (n := 4); (· rfl); (· rfl); (· kernel_rfl); (· rfl))); (· (apply RvP.g; (· (apply RvL.cons (.d _)); (apply RvL.cons (.d _)); ((apply RvL.cons (.d _))); ((apply RvL.cons (.d _))); exact RvL.nil)))); exact RvA.nil); (· rfl))))
        all_goals exact ⟨_, _, _, _, _, _, _, _, rfl⟩
    · rw [hO] at i2
      repeat' (first | refine so_alt ?_ ?_ | (refine so_is (.move _) ?_; (refine so_q (qt_mvC rfl) rfl ?_)) | (refine so_is (.store 27 _ _) ?_; (refine so_store_box rfl rfl rfl (by kernel_rfl) rfl rfl ?_)) | (refine so_is (.fieldAddr 27 _ 0) ?_; (refine so_q (qt_fld_lp (off := 0) rfl (by kernel_rfl)) rfl ?_)) | (refine so_is (.load 3 _) ?_; (refine so_q (qt_load_box rfl rfl (by kernel_rfl) rfl) rfl ?_)) | (refine so_is (.load 27 _) ?_; (refine so_q (qt_load_boxs rfl rfl (by kernel_rfl : tAgg _ 27 4 = true) rfl) rfl ?_)) | (refine so_is (.pick _ _ _) ?_; (refine so_q (qt_pkC rfl rfl) rfl ?_)) | (refine so_is (.call ⟨.value (.func 81), _, _⟩) ?_; ((apply so_callXV (fid := 81); (· rfl); (· rfl); (· (repeat (first | exact BxI.nil | (apply BxI.o; (· (exact .lit _))) | apply BxI.k))); (· (repeat (exact SdA.nil))); (· (decide)); (· exact curGame_p code _ _ (by omega) (by omega)); (· rfl); (· (intro b hb1 hb2; omega)); (· rfl); (rintro _ _ ⟨a3, s3, ha3, rfl, x4, y4, ws4, wi4, hxy4, rfl⟩; refine ⟨(by first | rfl | simp [*]), ?_⟩)))) | (refine so_is (.call ⟨.value (.func 85), _, _⟩) ?_; ((apply so_call0 (fid := 85); (· (repeat (first | exact SeA.nil | (apply SeA.cons; (· (apply SeP.g; (repeat (first | exact SeL.nil | apply SeL.cons (.d _))))))))); (· exact i1); (· rfl)))) | (refine so_is (.call ⟨.value (.func 86), _, _⟩) ?_; ((apply so_call0 (fid := 86); (· (repeat (first | exact SeA.nil | apply SeA.cons (.c (.d _)) | apply SeA.cons (.c (.all _ _ _ _ rfl (by ((simp; done)))))))); (· exact i2); (· rfl)))) | (refine so_is (.call ⟨.value (.func 88), _, _⟩) ?_; ((apply so_callX (fid := 88); (· rfl); (· rfl); (· (repeat (first | exact BxI.nil | (apply BxI.o; (· (exact .lit _))) | apply BxI.k))); (· (repeat (first | exact ArX.nil | apply ArX.v (.c (.d _))))); (· (decide)); (· (decide)); (· exact curOne_p code _ _ _ (by omega) (by omega)); (· rfl); (· (intro b hb1 hb2; omega)); (· rfl); (rintro _ _ ⟨a3, s3, ha3, rfl, b3, rfl⟩; refine ⟨(by first | rfl | simp [*]), ?_⟩)))) | refine so_nil ?_ | refine so_g_no rfl rfl rfl rfl ?_ | refine so_g_yes rfl rfl rfl rfl ?_ | refine sk_seq ?_ | refine sk_skip ?_ | refine sk_region ?_ | refine sk_drawQ 9 (fun i => i == 2 || i == 3) (.step 0 true (.alt 9 (.step 1 false (.step 2 false (.step 3 false .nil))) (.step 2 false (.step 1 true (.step 3 false .nil))))) [(0, 15, 15, false), (0, 15, 11, false), (1, 14, 15, false), (7, 13, 11, false)] (by kernel_rfl) (by kernel_rfl) ?_ | refine sk_false rfl ?_ | refine sk_cond rfl (fun hc => ?_) (fun hc => ?_))
      all_goals first | (exfalso; omega) | (exfalso; simp_all; done) | skip
      all_goals (apply sk_vert; (· (apply RetV.t; (· rfl); (· (apply RvA.cons; (· (apply RV.cellN (n := 4); (· rfl); (· rfl); (· kernel_rfl); (· rfl))); (· (apply RvP.g; (· (apply RvL.cons (.d _)); (apply RvL.cons (.d _)); ((apply RvL.cons (.d _))); ((apply RvL.cons (.d _))); exact RvL.nil)))); (apply RvA.cons; (· (apply RV.cellN (n := 4); (· rfl); (· rfl); (· kernel_rfl); (· rfl))); (· (apply RvP.g; (· (apply RvL.cons (.d _)); (apply RvL.cons (.d _)); ((apply RvL.cons (.d _))); ((apply RvL.cons (.d _))); exact RvL.nil)))); exact RvA.nil); (· rfl))))
      all_goals exact ⟨_, _, _, _, _, _, _, _, rfl⟩
  · rw [hG] at i1
    repeat' (first | refine so_alt ?_ ?_ | (refine so_is (.move _) ?_; (refine so_q (qt_mvC rfl) rfl ?_)) | (refine so_is (.store 27 _ _) ?_; (refine so_store_box rfl rfl rfl (by kernel_rfl) rfl rfl ?_)) | (refine so_is (.load 27 _) ?_; (refine so_q (qt_load_boxs rfl rfl (by kernel_rfl : tAgg _ 27 4 = true) rfl) rfl ?_)) | (refine so_is (.pick _ _ _) ?_; (refine so_q (qt_pkC rfl rfl) rfl ?_)) | (refine so_is (.call ⟨.value (.func 81), _, _⟩) ?_; ((apply so_callXV (fid := 81); (· rfl); (· rfl); (· (repeat (first | exact BxI.nil | (apply BxI.o; (· (exact .lit _))) | apply BxI.k))); (· (repeat (exact SdA.nil))); (· (decide)); (· exact curGame_p code _ _ (by omega) (by omega)); (· rfl); (· (intro b hb1 hb2; omega)); (· rfl); (rintro _ _ ⟨a3, s3, ha3, rfl, x4, y4, ws4, wi4, hxy4, rfl⟩; refine ⟨(by first | rfl | simp [*]), ?_⟩)))) | (refine so_is (.call ⟨.value (.func 85), _, _⟩) ?_; (apply so_call0 (fid := 85); (· (repeat (first | exact SeA.nil | (apply SeA.cons; (· (apply SeP.g; (repeat (first | exact SeL.nil | apply SeL.cons (.d _))))))))); (· exact i1); (· rfl))) | (refine so_is (.call ⟨.value (.func 88), _, _⟩) ?_; ((apply so_callX (fid := 88); (· rfl); (· rfl); (· (repeat (first | exact BxI.nil | (apply BxI.o; (· (exact .lit _))) | apply BxI.k))); (· (repeat (first | exact ArX.nil | apply ArX.v (.c (.d _))))); (· (decide)); (· (decide)); (· exact curOne_p code _ _ _ (by omega) (by omega)); (· rfl); (· (intro b hb1 hb2; omega)); (· rfl); (rintro _ _ ⟨a3, s3, ha3, rfl, b3, rfl⟩; refine ⟨(by first | rfl | simp [*]), ?_⟩)))) | refine so_nil ?_ | refine so_g_no rfl rfl rfl rfl ?_ | refine sk_seq ?_ | refine sk_skip ?_ | refine sk_region ?_ | refine sk_drawQ 9 (fun i => i == 2 || i == 3) (.step 0 true (.alt 9 (.step 1 false (.step 2 false (.step 3 false .nil))) (.step 2 false (.step 1 true (.step 3 false .nil))))) [(0, 15, 15, false), (0, 15, 11, false), (1, 14, 15, false), (7, 13, 11, false)] (by kernel_rfl) (by kernel_rfl) ?_ | refine sk_false rfl ?_ | refine sk_cond rfl (fun hc => ?_) (fun hc => ?_))
    all_goals first | (exfalso; omega) | (exfalso; simp_all; done) | skip
    all_goals (apply sk_vert; (· (apply RetV.t; (· rfl); (· (apply RvA.cons; (· (apply RV.cellN (n := 4); (· rfl); (· rfl); (· kernel_rfl); (· rfl))); (· (apply RvP.g; (· (apply RvL.cons (.d _)); (apply RvL.cons (.d _)); ((apply RvL.cons (.d _))); ((apply RvL.cons (.d _))); exact RvL.nil)))); (apply RvA.cons; (· (apply RV.cellN (n := 4); (· rfl); (· rfl); (· kernel_rfl); (· rfl))); (· (apply RvP.g; (· (apply RvL.cons (.d _)); (apply RvL.cons (.d _)); ((apply RvL.cons (.d _))); ((apply RvL.cons (.d _))); exact RvL.nil)))); exact RvA.nil); (· rfl))))
    all_goals exact ⟨_, _, _, _, _, _, _, _, rfl⟩

end Go.Proofs.Ytefbiejoikpkmaa

namespace Go.Proofs.Ytefbiejoikpkmaa
open Go.RowKit
set_option linter.unusedSectionVars false
variable [Glb]
set_option maxRecDepth 10000
set_option maxHeartbeats 4000000
theorem within_p (n lo hi : Int) : PC Try.prog 130 [.c (dI n), .c (dI lo), .c (dI hi)] (.p (.c (dB (inB n lo hi)))) := by
  refine pc_intro Try.func130 rfl rfl rfl (by kernel_rfl) rfl rfl ?_; intro _
  repeat' (first | (refine so_is (.assign _) ?_; (refine so_q (qt_asC rfl) rfl ?_)) | (refine so_is (.move _) ?_; (refine so_q (qt_mvC rfl) rfl ?_)) | (refine so_is (.binOp .geq 3 _ _ _) ?_; refine so_q (qt_geq rfl rfl) rfl ?_) | (refine so_is (.binOp .leq 3 _ _ _) ?_; refine so_q (qt_leq rfl rfl) rfl ?_) | (refine so_is (.pick _ _ _) ?_; (refine so_q (qt_pkC rfl rfl) rfl ?_)) | refine so_nil ?_ | refine so_g_no rfl rfl rfl rfl ?_ | refine so_g_yes rfl rfl rfl rfl ?_ | refine so_g_if rfl rfl (fun hg => ?_) (fun hg => ?_) | refine sk_seq ?_ | refine sk_region ?_)
  all_goals ((apply sk_ret; apply ret_eq; (· apply RetOK.p; (· (apply GvA.cons; (· exact .tmp _); (· exact GvP.c (.lit _))); exact GvA.nil); (· (decide)))))
  all_goals (simp [dB, inB, *]; try omega)

end Go.Proofs.Ytefbiejoikpkmaa

namespace Go.Proofs.Ytefbiejoikpkmaa
open Go.RowKit
set_option linter.unusedSectionVars false
variable [Glb]
set_option maxRecDepth 10000
set_option maxHeartbeats 4000000
theorem allWithin_p (l : List Int) (lo hi : Int) : PC Try.prog 119 [.c (eI l), .c (dI lo), .c (dI hi)] (.p (.c (dB (allB l lo hi)))) := by
  refine pc_intro Try.func119 rfl rfl rfl (by kernel_rfl) rfl rfl ?_; rintro ⟨hl, -⟩
  have hl := hl.len
  repeat' (first | (refine so_is (.assign _) ?_; (refine so_q (qt_asC rfl) rfl ?_)) | (refine so_is (.move _) ?_; (refine so_q (qt_mvC rfl) rfl ?_)) | (refine so_is (.call ⟨.builtin .len, _, #[24]⟩) ?_; (refine so_q (qt_len_d rfl (by kernel_rfl)) rfl ?_)) | refine so_nil ?_ | refine sk_seq ?_ | refine sk_block ?_ | refine sk_region ?_)
  apply sk_packC [1, 2, 9, 10, 11] [] rfl; (· (repeat (first | exact Pf.nil | apply Pf.cons (.c rfl (.d rfl))))); (· (repeat (exact Pb.nil)))
  refine sk_loopL [1, 2, 9, 10] [] (fun k => [(11, iN k)]) (fun _ => []) (fun k => k ≤ l.length ∧ (l.take k).all (fun n => inB n lo hi) = true) (fun k => l.length - k) (0) ?_ (by (repeat (first | exact trivial | refine ⟨(by (rfl)), ?_⟩))) (by (repeat (exact trivial))) ?_
  · simp
  rintro k ⟨hk, ha⟩
  repeat' (first | (refine so_is (.assign _) ?_; (refine so_q (qt_asC rfl) rfl ?_)) | (refine so_is (.move _) ?_; (refine so_q (qt_mvC rfl) rfl ?_)) | (refine so_is (.binOp .lss 3 _ _ _) ?_; refine so_q (qt_lss rfl rfl) rfl ?_) | (refine so_is (.indexAddr 24 _ _) ?_; (refine so_q (qt_idxI rfl rfl (by kernel_rfl) (by (omega)) (by (omega))) rfl ?_)) | (refine so_is (.load 3 _) ?_; (refine so_q (qt_load_pt rfl (by kernel_rfl) rfl) rfl ?_)) | (refine so_is (.unOp .not 4 _) ?_; refine so_q (qt_not rfl) rfl ?_) | (refine so_is (.binOp .add 3 _ _ _) ?_; refine so_q (qt_addI rfl rfl (by (omega))) rfl ?_) | (refine so_is (.call ⟨.value (.func 130), _, _⟩) ?_; (apply so_call0 (fid := 130); (· (repeat (first | exact SeA.nil | apply SeA.cons (.c (.d _))))); (· exact within_p _ _ _); (· rfl))) | refine so_nil ?_ | refine sk_seq ?_ | refine sk_block ?_ | refine sk_blk ?_ | refine sk_exit rfl ?_ | refine sk_skip ?_ | refine sk_region ?_ | refine sk_if rfl (fun hc => ?_) (fun hc => ?_) | refine sk_not rfl (fun hc => ?_) (fun hc => ?_))
  · rename_i hk'
    rw [atZ_nat (by omega)] at hc
    (apply sk_ret; apply ret_eq; (· apply RetOK.p; (· (apply GvA.cons; (· exact .tmp _); (· exact GvP.c (.lit _))); exact GvA.nil); (· (decide))))
    rw [allB, all_f (by omega) hc]
  · rename_i hk'
    rw [atZ_nat (by omega)] at hc
    refine sk_back ?_; refine ⟨k + 1, ?_, ?_, le_at rfl (by (repeat (first | exact trivial | refine ⟨(by (rfl)), ?_⟩))) (by (repeat (first | exact trivial | refine ⟨rfl, ?_⟩))) (by (repeat (exact trivial))) (by (repeat (exact trivial)))⟩
    · exact ⟨by omega, by rw [take_succ_all _ _ _ (by omega), ha, hc]; rfl⟩
    · omega
  · (apply sk_ret; apply ret_eq; (· apply RetOK.p; (· (apply GvA.cons; (· exact .tmp _); (· exact GvP.c (.lit _))); exact GvA.nil); (· (decide))))
    rw [allB, all_t (by omega) ha]

end Go.Proofs.Ytefbiejoikpkmaa

namespace Go.Proofs.Ytefbiejoikpkmaa
open Go.RowKit
set_option linter.unusedSectionVars false
variable [Glb]
set_option maxRecDepth 10000
set_option maxHeartbeats 4000000
theorem areQuestions_p (x y : Int) : PC Try.prog 109 [.c (dI x), .c (dI y)] (.p (.c (dB (sizeB x y)))) := by
  refine pc_intro Try.func109 rfl rfl rfl (by kernel_rfl) rfl rfl ?_; intro _
  repeat' (first | (refine so_is (.assign _) ?_; (refine so_q (qt_asC rfl) rfl ?_)) | (refine so_is (.move _) ?_; (refine so_q (qt_mvC rfl) rfl ?_)) | (refine so_is (.pick _ _ _) ?_; (refine so_q (qt_pkC rfl rfl) rfl ?_)) | (refine so_is (.call ⟨.value (.func 130), _, _⟩) ?_; (apply so_call0 (fid := 130); (· (repeat (first | exact SeA.nil | apply SeA.cons (.c (.d _))))); (· exact within_p _ _ _); (· rfl))) | refine so_nil ?_ | refine so_g_no rfl rfl rfl rfl ?_ | refine so_g_yes rfl rfl rfl rfl ?_ | refine so_g_b rfl rfl (fun hg => ?_) (fun hg => ?_) | refine sk_seq ?_ | refine sk_region ?_)
  all_goals (apply sk_ret; apply ret_eq; (· apply RetOK.p; (· (apply GvA.cons; (· exact .tmp _); (· exact GvP.c (.lit _))); exact GvA.nil); (· (decide))))
  all_goals ((simp_all [sizeB]; done))

end Go.Proofs.Ytefbiejoikpkmaa

namespace Go.Proofs.Ytefbiejoikpkmaa
open Go.RowKit
set_option linter.unusedSectionVars false
variable [Glb]
set_option maxRecDepth 10000
set_option maxHeartbeats 4000000
theorem total_p (l : List Int) : PC Try.prog 120 [.c (eI l)] (.p (.c (dI (sum64 l)))) := by
  refine pc_intro Try.func120 rfl rfl rfl (by kernel_rfl) rfl rfl ?_; rintro ⟨hl, -⟩
  have hl := hl.len
  repeat' (first | (refine so_is (.assign _) ?_; (refine so_q (qt_asC rfl) rfl ?_)) | (refine so_is (.move _) ?_; (refine so_q (qt_mvC rfl) rfl ?_)) | (refine so_is (.call ⟨.builtin .len, _, #[24]⟩) ?_; (refine so_q (qt_len_d rfl (by kernel_rfl)) rfl ?_)) | refine so_nil ?_ | refine sk_seq ?_ | refine sk_block ?_ | refine sk_region ?_)
  apply sk_packC [3, 6, 7, 8] [] rfl; (· (repeat (first | exact Pf.nil | apply Pf.cons (.c rfl (.d rfl))))); (· (repeat (exact Pb.nil)))
  refine sk_loopL [6, 7] [] (fun k => [(8, iN k), (3, iZ (sum64 (l.take k)))]) (fun _ => []) (fun k => k ≤ l.length) (fun k => l.length - k) (0) ?_ (by (repeat (first | exact trivial | refine ⟨(by (rfl)), ?_⟩))) (by (repeat (exact trivial))) ?_
  · simp
  intro k hk
  repeat' (first | (refine so_is (.assign _) ?_; (refine so_q (qt_asC rfl) rfl ?_)) | (refine so_is (.move _) ?_; (refine so_q (qt_mvC rfl) rfl ?_)) | (refine so_is (.binOp .lss 3 _ _ _) ?_; refine so_q (qt_lss rfl rfl) rfl ?_) | (refine so_is (.indexAddr 24 _ _) ?_; (refine so_q (qt_idxI rfl rfl (by kernel_rfl) (by (omega)) (by (omega))) rfl ?_)) | (refine so_is (.load 3 _) ?_; (refine so_q (qt_load_pt rfl (by kernel_rfl) rfl) rfl ?_)) | (refine so_is (.binOp .add 3 _ _ _) ?_; (first | refine so_q (qt_addI rfl rfl (by (omega))) rfl ?_ | refine so_q (qt_add rfl rfl) rfl ?_)) | refine so_nil ?_ | refine sk_seq ?_ | refine sk_block ?_ | refine sk_blk ?_ | refine sk_exit rfl ?_ | refine sk_skip ?_ | refine sk_region ?_ | refine sk_if rfl (fun hc => ?_) (fun hc => ?_))
  · have hk2 : k < l.length := by omega
    refine sk_back ?_; refine ⟨k + 1, ?_, ?_, le_at rfl (by (repeat (first | exact trivial | refine ⟨(by (first | rfl | (refine int_eq rfl ?_; ((simp  [sum64_snoc hk2, atZ_nat hk2]; done))))), ?_⟩))) (by (repeat (first | exact trivial | refine ⟨rfl, ?_⟩))) (by (repeat (exact trivial))) (by (repeat (exact trivial)))⟩
    · omega
    · omega
  · have : k = l.length := by omega
    subst this
    (apply sk_ret; apply ret_eq; (· apply RetOK.p; (· (apply GvA.cons; (· exact .tmp _); (· exact GvP.c (.lit _))); exact GvA.nil); (· (decide))))
    simp

end Go.Proofs.Ytefbiejoikpkmaa

namespace Go.Proofs.Ytefbiejoikpkmaa
open Go.RowKit
set_option linter.unusedSectionVars false
variable [Glb]
set_option maxRecDepth 10000
set_option maxHeartbeats 4000000
theorem IsGame_p (x y : Int) (ws : List Int) (wi : List (List Int)) : PC Try.prog 29 [.g [dI x, dI y, eI ws, eII wi]] (.p (.c (dB (gameB x y ws wi)))) := by
  refine pc_intro Try.func29 rfl rfl rfl (by kernel_rfl) rfl rfl ?_; rintro ⟨hl, -⟩
  have hl := (hl _ (List.mem_cons_of_mem _ (List.mem_cons_of_mem _ (List.mem_cons_of_mem _ (List.mem_cons_self ..))))).len
  have hw := wrap_mul3 (x := x) (y := y)
  repeat' (first | (refine so_is (.box 27 _) ?_; refine so_box rfl rfl ?_) | (refine so_is (.assign _) ?_; (refine so_q (qt_asC rfl) rfl ?_)) | (refine so_is (.fieldAddr 27 _ 0) ?_; (refine so_q (qt_fld_lp (off := 0) rfl (by kernel_rfl)) rfl ?_)) | (refine so_is (.load 3 _) ?_; (refine so_q (qt_load_box rfl rfl (by kernel_rfl) rfl) rfl ?_)) | (refine so_is (.fieldAddr 27 _ 1) ?_; (refine so_q (qt_fld_lp (off := 1) rfl (by kernel_rfl)) rfl ?_)) | (refine so_is (.binOp .mul 3 _ _ _) ?_; (refine so_q (qt_mul rfl rfl) rfl ?_)) | (refine so_is (.unOp .not 4 _) ?_; refine so_q (qt_not rfl) rfl ?_) | (refine so_is (.move _) ?_; (refine so_q (qt_mvC rfl) rfl ?_)) | (refine so_is (.fieldAddr 27 _ 2) ?_; (refine so_q (qt_fld_lp (off := 2) rfl (by kernel_rfl)) rfl ?_)) | (refine so_is (.load 24 _) ?_; (refine so_q (qt_load_box rfl rfl (by kernel_rfl) rfl) rfl ?_)) | (refine so_is (.call ⟨.builtin .len, _, #[24]⟩) ?_; (refine so_q (qt_len_d rfl (by kernel_rfl)) rfl ?_)) | (refine so_is (.binOp .neq 3 _ _ _) ?_; refine so_q (qt_neq rfl rfl) rfl ?_) | (refine so_is (.pick _ _ _) ?_; (refine so_q (qt_pkC rfl rfl) rfl ?_)) | (refine so_is (.binOp .eql 3 _ _ _) ?_; refine so_q (qt_eql rfl rfl) rfl ?_) | (refine so_is (.fieldAddr 27 _ 3) ?_; (refine so_q (qt_fld_lp (off := 3) rfl (by kernel_rfl)) rfl ?_)) | (refine so_is (.load 25 _) ?_; (refine so_q (qt_load_box rfl rfl (by kernel_rfl) rfl) rfl ?_)) | (refine so_is (.call ⟨.builtin .len, _, #[25]⟩) ?_; (refine so_q (qt_len_d rfl (by kernel_rfl)) rfl ?_)) | (refine so_is (.call ⟨.value (.func 109), _, _⟩) ?_; (apply so_call0 (fid := 109); (· (repeat (first | exact SeA.nil | apply SeA.cons (.c (.d _))))); (· exact areQuestions_p _ _); (· rfl))) | (refine so_is (.call ⟨.value (.func 119), _, _⟩) ?_; (apply so_call0 (fid := 119); (· (repeat (first | exact SeA.nil | apply SeA.cons (.c (.d _))))); (· exact allWithin_p _ _ _); (· rfl))) | (refine so_is (.call ⟨.value (.func 120), _, _⟩) ?_; (apply so_call0 (fid := 120); (· (repeat (first | exact SeA.nil | apply SeA.cons (.c (.d _))))); (· exact total_p _); (· rfl))) | refine so_nil ?_ | refine so_g_no rfl rfl rfl rfl ?_ | refine so_g_yes rfl rfl rfl rfl ?_ | refine so_g_if rfl rfl (fun hg => ?_) (fun hg => ?_) | refine so_g_b rfl rfl (fun hg => ?_) (fun hg => ?_) | refine sk_seq ?_ | refine sk_block ?_ | refine sk_skip ?_ | refine sk_region ?_ | refine sk_true rfl ?_ | refine sk_if rfl (fun hc => ?_) (fun hc => ?_))
  · (apply sk_ret; apply ret_eq; (· apply RetOK.p; (· (apply GvA.cons; (· exact .tmp _); (· exact GvP.c (.lit _))); exact GvA.nil); (· (decide))))
    have h9 : sizeB x y = false := by simpa using hg
    simp [gameB, h9]
  · (apply sk_ret; apply ret_eq; (· apply RetOK.p; (· (apply GvA.cons; (· exact .tmp _); (· exact GvP.c (.lit _))); exact GvA.nil); (· (decide))))
    have h9 : ¬ (ws.length : Int) = x * y := by rw [← hw (by simp_all)]; omega
    simp [gameB, h9]
  · (apply sk_ret; apply ret_eq; (· apply RetOK.p; (· (apply GvA.cons; (· exact .tmp _); (· exact GvP.c (.lit _))); exact GvA.nil); (· (decide))))
    have h9 : allB ws 0 99 = false := by simpa using hg
    simp [gameB, h9]
  · (apply sk_ret; apply ret_eq; (· apply RetOK.p; (· (apply GvA.cons; (· exact .tmp _); (· exact GvP.c (.lit _))); exact GvA.nil); (· (decide))))
    simp [gameB, hg]
  · (apply sk_ret; apply ret_eq; (· apply RetOK.p; (· (apply GvA.cons; (· exact .tmp _); (· exact GvP.c (.lit _))); exact GvA.nil); (· (decide))))
    have h9 : ¬ (wi.length : Int) = x * y := by rw [← hw (by simp_all)]; omega
    simp [gameB, h9]
  have hs : sizeB x y = true := by simp_all
  have h1 : (ws.length : Int) = x * y := by rw [← hw hs]; simp_all
  have h2 : allB ws 0 99 = true := by simp_all
  have h3 : sum64 ws ≠ 0 := by simp_all
  have h4 : (wi.length : Int) = x * y := by rw [← hw hs]; simp_all
  apply sk_packC [44, 45, 46] [1] rfl; (· (repeat (first | exact Pf.nil | apply Pf.cons (.c rfl (.d rfl))))); (· (repeat (first | exact Pb.nil | (apply Pb.cons; (· apply Nb.box rfl; (repeat (first | exact Ncs.nil rfl | (apply Ncs.cons rfl; (· (exact .d rfl))))))))))
  refine sk_loopL [44, 45] [1] (fun k => [(46, iN k)]) (fun _ => []) (fun k => k ≤ wi.length ∧ (wi.take k).all (fun l => bitsB l 4) = true) (fun k => wi.length - k) (0) ?_ (by (repeat (first | exact trivial | refine ⟨(by (rfl)), ?_⟩))) (by (repeat (exact trivial))) ?_
  · simp
  rintro k ⟨hk, ha⟩
  repeat' (first | (refine so_is (.assign _) ?_; (refine so_q (qt_asC rfl) rfl ?_)) | (refine so_is (.unOp .not 4 _) ?_; refine so_q (qt_not rfl) rfl ?_) | (refine so_is (.move _) ?_; (refine so_q (qt_mvC rfl) rfl ?_)) | (refine so_is (.load 24 _) ?_; (refine so_q (qt_load_pt rfl (by kernel_rfl) rfl) rfl ?_)) | (refine so_is (.call ⟨.builtin .len, _, #[24]⟩) ?_; (refine so_q (qt_len_d rfl (by kernel_rfl)) rfl ?_)) | (refine so_is (.binOp .neq 3 _ _ _) ?_; refine so_q (qt_neq rfl rfl) rfl ?_) | (refine so_is (.pick _ _ _) ?_; (refine so_q (qt_pkC rfl rfl) rfl ?_)) | (refine so_is (.binOp .lss 3 _ _ _) ?_; refine so_q (qt_lss rfl rfl) rfl ?_) | (refine so_is (.indexAddr 25 _ _) ?_; (refine so_q (qt_idxII rfl rfl (by kernel_rfl) (by (omega)) (by (omega))) rfl ?_)) | (refine so_is (.binOp .add 3 _ _ _) ?_; refine so_q (qt_addI rfl rfl (by (omega))) rfl ?_) | (refine so_is (.call ⟨.value (.func 119), _, _⟩) ?_; (apply so_call0 (fid := 119); (· (repeat (first | exact SeA.nil | apply SeA.cons (.c (.d _))))); (· exact allWithin_p _ _ _); (· rfl))) | refine so_nil ?_ | refine so_g_no rfl rfl rfl rfl ?_ | refine so_g_yes rfl rfl rfl rfl ?_ | refine so_g_if rfl rfl (fun hg => ?_) (fun hg => ?_) | refine sk_seq ?_ | refine sk_block ?_ | refine sk_blk ?_ | refine sk_exit rfl ?_ | refine sk_skip ?_ | refine sk_region ?_ | refine sk_true rfl ?_ | refine sk_if rfl (fun hc => ?_) (fun hc => ?_) | refine sk_not rfl (fun hc => ?_) (fun hc => ?_))
  · have hk2 : k < wi.length := by omega
    rw [atZ_nat hk2] at hg
    (apply sk_ret; apply ret_eq; (· apply RetOK.p; (· (apply GvA.cons; (· exact .tmp _); (· exact GvP.c (.lit _))); exact GvA.nil); (· (decide))))
    have h9 : bitsB wi[k] 4 = false := by simp [bitsB]; omega
    simp only [gameB, all_f (p := fun l => bitsB l 4) hk2 h9]; simp
  · have hk2 : k < wi.length := by omega
    rw [atZ_nat hk2] at hc
    (apply sk_ret; apply ret_eq; (· apply RetOK.p; (· (apply GvA.cons; (· exact .tmp _); (· exact GvP.c (.lit _))); exact GvA.nil); (· (decide))))
    have h9 : bitsB wi[k] 4 = false := by simp [bitsB, hc]
    simp only [gameB, all_f (p := fun l => bitsB l 4) hk2 h9]; simp
  · have hk2 : k < wi.length := by omega
    rw [atZ_nat hk2] at hc hg
    have h9 : bitsB wi[k] 4 = true := by simp [bitsB, hc]; omega
    refine sk_back ?_; refine ⟨k + 1, ?_, ?_, le_at rfl (by (repeat (first | exact trivial | refine ⟨(by (rfl)), ?_⟩))) (by (repeat (first | exact trivial | refine ⟨rfl, ?_⟩))) (by (repeat (exact trivial))) (by (repeat (first | exact trivial | refine ⟨.inr rfl, ?_⟩)))⟩
    · exact ⟨by omega, by rw [take_succ_all _ _ _ hk2, ha, h9]; rfl⟩
    · omega
  · have : k = wi.length := by omega
    subst this
    rw [List.take_length] at ha
    (apply sk_ret; apply ret_eq; (· apply RetOK.p; (· (apply GvA.cons; (· exact .tmp _); (· exact GvP.c (.lit _))); exact GvA.nil); (· (decide))))
    simp [gameB, hs, h1, h2, h3, h4, ha]

end Go.Proofs.Ytefbiejoikpkmaa

namespace Go.Proofs.Ytefbiejoikpkmaa
open Go.RowKit
set_option linter.unusedSectionVars false
variable [Glb]
set_option maxRecDepth 10000
set_option maxHeartbeats 4000000
theorem plays_p (x y : Nat) (h : x + y ≤ 6) : PC Try.prog 92 [.c (dI x), .c (dI y)] (.p (.c (eII (playsF (x + y))))) := by
  have e2 : (2 : Nat) ^ (x + y) ≤ 64 := Nat.le_trans (Nat.pow_le_pow_right (by omega) h) (by decide)
  obtain ⟨N, hN⟩ : ∃ N : Nat, N = 2 ^ (x + y) := ⟨_, rfl⟩
  rw [← hN] at e2
  have e1 : (1 : Int) * 2 ^ ((x : Int) + y).toNat = N := by
    rw [show ((x : Int) + y).toNat = x + y by omega, hN, Int.natCast_pow]; simp
  refine pc_intro Try.func92 rfl rfl rfl (by kernel_rfl) rfl rfl ?_; intro _
  repeat' (first | (refine so_is (.assign _) ?_; (refine so_q (qt_asC rfl) rfl ?_)) | (refine so_is (.buildSlice 25 0 _) ?_; (apply so_bslice (sz := 1) (by_ := 24); (· kernel_rfl); (· decide); (· (repeat (exact GvS.nil _))); (· (decide)); (· rfl); (· rfl); (· rfl))) | (refine so_is (.move _) ?_; (refine so_q (qt_mvC rfl) rfl ?_)) | (refine so_is (.binOp .add 3 _ _ _) ?_; refine so_q (qt_addI rfl rfl (by (omega))) rfl ?_) | (refine so_is (.binOp .shl 3 _ _ _) ?_; (refine so_q (qt_shlI rfl rfl (by (omega)) (by (omega)) (by (omega))) rfl ?_)) | refine so_nil ?_ | refine sk_seq ?_ | refine sk_block ?_ | refine sk_region ?_)
  apply sk_packC [0, 1, 5, 13, 14] [9, 17, 34, 35, 39, 40] rfl; (· (repeat (first | exact Pf.nil | apply Pf.cons (.c rfl (.d rfl)) | apply Pf.cons (.c rfl (.ls rfl))))); (· (repeat (first | exact Pb.nil | apply Pb.cons (.row rfl) | apply Pb.skip)))
  refine sk_loopL [0, 1, 13] [17, 34, 35, 39, 40] (fun c => [(14, iN c), (5, .c (.ls 9 1 0 c))]) (fun c => [(9, .row 1 (cII ((List.range c).map (bitsM (x + y)))))]) (fun c => c ≤ N) (fun c => N - c) (0) ?_ (by (repeat (first | exact trivial | refine ⟨(by (rfl)), ?_⟩))) (by (repeat (first | exact trivial | refine ⟨(by ((refine row_eq rfl ?_; simp; done))), ?_⟩))) ?_
  · omega
  intro c hc
  repeat' (first | (refine so_is (.assign _) ?_; (refine so_q (qt_asC rfl) rfl ?_)) | (refine so_is (.move _) ?_; (refine so_q (qt_mvC rfl) rfl ?_)) | (refine so_is (.binOp .add 3 _ _ _) ?_; refine so_q (qt_addI rfl rfl (by (omega))) rfl ?_) | (refine so_is (.binOp .lss 3 _ _ _) ?_; refine so_q (qt_lss rfl rfl) rfl ?_) | (refine so_is (.buildSlice 24 0 _) ?_; (apply so_bslice (sz := 1) (by_ := 8); (· kernel_rfl); (· decide); (· (repeat (exact GvS.nil _))); (· (decide)); (· rfl); (· rfl); (· rfl))) | refine so_nil ?_ | refine sk_seq ?_ | refine sk_block ?_ | refine sk_exit rfl ?_ | refine sk_skip ?_ | refine sk_region ?_ | refine sk_if rfl (fun hc => ?_) (fun hc => ?_))
  · apply sk_packC [0, 1, 5, 6, 7, 13, 14, 20, 21] [9, 17, 34, 35, 39, 40] rfl; (· (repeat (first | exact Pf.nil | apply Pf.cons (.c rfl (.d rfl)) | apply Pf.cons (.c rfl (.ls rfl))))); (· (repeat (first | exact Pb.nil | apply Pb.cons (.row rfl) | apply Pb.skip)))
    refine sk_loopL [0, 1, 5, 6, 13, 14, 20] [9, 34, 35, 39, 40] (fun i => [(21, iN i), (7, .c (.ls 17 1 0 i))]) (fun i => [(17, .row 1 (cI (rowF (fun i => (bitN c (x + y - 1 - i) : Int)) i)))]) (fun i => i ≤ x + y) (fun i => x + y - i) (0) ?_ (by (repeat (first | exact trivial | refine ⟨(by (rfl)), ?_⟩))) (by (repeat (first | exact trivial | refine ⟨(by (rfl)), ?_⟩))) ?_
    · omega
    intro i hi
    have e3 : i < x + y → (c : Int) / 2 ^ ((x : Int) + y - 1 - i).toNat % 2 = (bitN c (x + y - 1 - i) : Int) := fun h => by
      rw [show ((x : Int) + y - 1 - i).toNat = x + y - 1 - i by omega, bit_nat]
    repeat' (first | (refine so_is (.assign _) ?_; (refine so_q (qt_asC rfl) rfl ?_)) | (refine so_is (.move _) ?_; (refine so_q (qt_mvC rfl) rfl ?_)) | (refine so_is (.binOp .add 3 _ _ _) ?_; refine so_q (qt_addI rfl rfl (by (omega))) rfl ?_) | (refine so_is (.binOp .lss 3 _ _ _) ?_; refine so_q (qt_lss rfl rfl) rfl ?_) | (refine so_is (.binOp .sub 3 _ _ _) ?_; refine so_q (qt_subI rfl rfl (by (omega))) rfl ?_) | (refine so_is (.binOp .shr 3 _ _ _) ?_; (refine so_q (qt_shrI rfl rfl (by (omega)) (by (omega))) rfl ?_)) | (refine so_is (.binOp .and 3 _ _ _) ?_; refine so_q (qt_andM 1 (c := 2) rfl rfl (by decide)) rfl ?_) | (refine so_is (.buildSlice 24 1 _) ?_; (apply so_bslice (sz := 1) (by_ := 8); (· kernel_rfl); (· decide); (· (repeat (first | exact GvS.nil _ | apply GvS.c rfl rfl (.lit _) rfl))); (· (decide)); (· rfl); (· rfl); (· rfl))) | (refine so_is (.call ⟨.builtin .append, _, #[24, 24]⟩) ?_; ((apply so_appR (sz := 1) (by_ := 8); (· rfl); (· rfl); (· ((simp; done))); (· exact .row _ _ _ _ rfl (by ((simp; done)))); (· (decide)); (· kernel_rfl); (· decide); (· (omega)); (· (omega)); (· rfl); (· rfl); (· rfl)))) | (refine so_is (.buildSlice 25 1 _) ?_; (apply so_bslice (sz := 1) (by_ := 24); (· kernel_rfl); (· decide); (· (repeat (first | exact GvS.nil _ | apply GvS.c rfl rfl (.row _ _ _ _ rfl (by ((simp; done)))) rfl))); (· (decide)); (· rfl); (· rfl); (· rfl))) | (refine so_is (.call ⟨.builtin .append, _, #[25, 25]⟩) ?_; ((apply so_appR (sz := 1) (by_ := 24); (· rfl); (· rfl); (· ((simp; done))); (· exact .row _ _ _ _ rfl (by ((simp; done)))); (· (decide)); (· kernel_rfl); (· decide); (· (omega)); (· (omega)); (· rfl); (· rfl); (· rfl)))) | refine so_nil ?_ | refine sk_seq ?_ | refine sk_block ?_ | refine sk_blk ?_ | refine sk_exit rfl ?_ | refine sk_skip ?_ | refine sk_region ?_ | refine sk_if rfl (fun hc => ?_) (fun hc => ?_))
    · have e3 := e3 (by omega)
      simp at e3
      refine sk_back ?_; refine ⟨i + 1, ?_, ?_, le_at rfl (by (repeat (first | exact trivial | refine ⟨(by (rfl)), ?_⟩))) (by (repeat (first | exact trivial | refine ⟨rfl, ?_⟩))) (by (repeat (first | exact trivial | refine ⟨(by ((refine row_eq rfl ?_; simp  [rowF_snoc, e3]; done))), ?_⟩))) (by (repeat (first | exact trivial | refine ⟨.inr rfl, ?_⟩)))⟩
      · omega
      · omega
    · have h8 : i = x + y := by omega
      subst h8
      refine sk_back ?_; refine ⟨c + 1, ?_, ?_, le_at rfl (by (repeat (first | exact trivial | refine ⟨(by (rfl)), ?_⟩))) (by (repeat (first | exact trivial | refine ⟨rfl, ?_⟩))) (by (repeat (first | exact trivial | refine ⟨(by ((refine row_eq rfl ?_; simp  [plays_snoc, bitsM]; done))), ?_⟩))) (by (repeat (first | exact trivial | refine ⟨.inr rfl, ?_⟩)))⟩
      · omega
      · omega
  · have h8 : c = N := by omega
    subst h8
    subst hN
    (apply sk_ret; apply ret_eq; (· apply RetOK.p; (· (apply GvA.cons; (· exact .tmp _); (· (exact GvP.c (.row _ _ _ _ rfl (by ((simp; done))))))); exact GvA.nil); (· (decide))))
    simp [playsF]

end Go.Proofs.Ytefbiejoikpkmaa

namespace Go.Proofs.Ytefbiejoikpkmaa
open Go.RowKit
set_option linter.unusedSectionVars false
variable [Glb]
set_option maxRecDepth 10000
set_option maxHeartbeats 4000000
theorem isPlay_p (x y : Int) (l : List Int) : PC Try.prog 110 [.c (dI x), .c (dI y), .c (eI l)] (.p (.c (dB (bitsB l (IntKind.i64.wrap (x + y)))))) := by
  refine pc_intro Try.func110 rfl rfl rfl (by kernel_rfl) rfl rfl ?_; intro _
  repeat' (first | (refine so_is (.assign _) ?_; (refine so_q (qt_asC rfl) rfl ?_)) | (refine so_is (.move _) ?_; (refine so_q (qt_mvC rfl) rfl ?_)) | (refine so_is (.call ⟨.builtin .len, _, #[24]⟩) ?_; (refine so_q (qt_len_d rfl (by kernel_rfl)) rfl ?_)) | (refine so_is (.binOp .add 3 _ _ _) ?_; (refine so_q (qt_add rfl rfl) rfl ?_)) | (refine so_is (.binOp .eql 3 _ _ _) ?_; refine so_q (qt_eql rfl rfl) rfl ?_) | (refine so_is (.pick _ _ _) ?_; (refine so_q (qt_pkC rfl rfl) rfl ?_)) | (refine so_is (.call ⟨.value (.func 119), _, _⟩) ?_; (apply so_call0 (fid := 119); (· (repeat (first | exact SeA.nil | apply SeA.cons (.c (.d _))))); (· exact allWithin_p _ _ _); (· rfl))) | refine so_nil ?_ | refine so_g_no rfl rfl rfl rfl ?_ | refine so_g_yes rfl rfl rfl rfl ?_ | refine so_g_if rfl rfl (fun hg => ?_) (fun hg => ?_) | refine sk_seq ?_ | refine sk_region ?_)
  all_goals (apply sk_ret; apply ret_eq; (· apply RetOK.p; (· (apply GvA.cons; (· exact .tmp _); (· exact GvP.c (.lit _))); exact GvA.nil); (· (decide))))
  all_goals ((simp_all [bitsB]; done))

end Go.Proofs.Ytefbiejoikpkmaa

namespace Go.Proofs.Ytefbiejoikpkmaa
open Go.RowKit
set_option linter.unusedSectionVars false
variable [Glb]
set_option maxRecDepth 10000
set_option maxHeartbeats 4000000
theorem isGamePlay_p (x y : Int) (ws : List Int) (wi : List (List Int)) (l : List Int) : PC Try.prog 100 [.g [dI x, dI y, eI ws, eII wi], .c (eI l)] (.p (.c (dB (gameB x y ws wi && bitsB l (x + y))))) := by
  have hw : gameB x y ws wi = true → IntKind.i64.wrap (x + y) = x + y := fun h => by have := gameB_spec h; have a := this.x1; have b := this.x3; have c := this.y1; have d := this.y3; exact IntWalk.i64_in _ (by omega)
  refine pc_intro Try.func100 rfl rfl rfl (by kernel_rfl) rfl rfl ?_; intro _
  repeat' (first | (refine so_is (.box 27 _) ?_; refine so_box rfl rfl ?_) | (refine so_is (.assign _) ?_; (refine so_q (qt_asC rfl) rfl ?_)) | (refine so_is (.load 27 _) ?_; (refine so_q (qt_load_boxs rfl rfl (by kernel_rfl : tAgg _ 27 4 = true) rfl) rfl ?_)) | (refine so_is (.move _) ?_; (refine so_q (qt_mvC rfl) rfl ?_)) | (refine so_is (.fieldAddr 27 _ 0) ?_; (refine so_q (qt_fld_lp (off := 0) rfl (by kernel_rfl)) rfl ?_)) | (refine so_is (.load 3 _) ?_; (refine so_q (qt_load_box rfl rfl (by kernel_rfl) rfl) rfl ?_)) | (refine so_is (.fieldAddr 27 _ 1) ?_; (refine so_q (qt_fld_lp (off := 1) rfl (by kernel_rfl)) rfl ?_)) | (refine so_is (.pick _ _ _) ?_; (refine so_q (qt_pkC rfl rfl) rfl ?_)) | (refine so_is (.call ⟨.value (.func 29), _, _⟩) ?_; (apply so_call0 (fid := 29); (· (repeat (first | exact SeA.nil | (apply SeA.cons; (· (apply SeP.g; (repeat (first | exact SeL.nil | apply SeL.cons (.d _))))))))); (· exact IsGame_p _ _ _ _); (· rfl))) | (refine so_is (.call ⟨.value (.func 110), _, _⟩) ?_; (apply so_call0 (fid := 110); (· (repeat (first | exact SeA.nil | apply SeA.cons (.c (.d _))))); (· exact isPlay_p _ _ _); (· rfl))) | refine so_nil ?_ | refine so_g_no rfl rfl rfl rfl ?_ | refine so_g_yes rfl rfl rfl rfl ?_ | refine so_g_b rfl rfl (fun hg => ?_) (fun hg => ?_) | refine sk_seq ?_ | refine sk_region ?_)
  · (apply sk_ret; apply ret_eq; (· apply RetOK.p; (· (apply GvA.cons; (· exact .tmp _); (· exact GvP.c (.lit _))); exact GvA.nil); (· (decide))))
    simp [hg, hw hg]
  · (apply sk_ret; apply ret_eq; (· apply RetOK.p; (· (apply GvA.cons; (· exact .tmp _); (· exact GvP.c (.lit _))); exact GvA.nil); (· (decide))))
    simp [hg]

end Go.Proofs.Ytefbiejoikpkmaa

namespace Go.Proofs.Ytefbiejoikpkmaa
open Go.RowKit
set_option linter.unusedSectionVars false
variable [Glb]
set_option maxRecDepth 10000
set_option maxHeartbeats 4000000
theorem functional_p (X Y : Nat) (ws : List Int) (wi : List (List Int)) (h : gameB X Y ws wi = true) : PC Try.prog 124 [.g [dI X, dI Y, eI ws, eII wi]] (.p (.c (eII (funL ws wi)))) := by
  obtain ⟨x, y, e1, e2, hx, hy, wl, il, h9⟩ := game_nat h
  obtain rfl : X = x := by omega
  obtain rfl : Y = y := by omega
  refine pc_intro Try.func124 rfl rfl rfl (by kernel_rfl) rfl rfl ?_; intro _
  repeat' (first | (refine so_is (.box 27 _) ?_; refine so_box rfl rfl ?_) | (refine so_is (.assign _) ?_; (refine so_q (qt_asC rfl) rfl ?_)) | (refine so_is (.buildSlice 25 0 _) ?_; (apply so_bslice (sz := 1) (by_ := 24); (· kernel_rfl); (· decide); (· (repeat (exact GvS.nil _))); (· (decide)); (· rfl); (· rfl); (· rfl))) | (refine so_is (.fieldAddr 27 _ 3) ?_; (refine so_q (qt_fld_lp (off := 3) rfl (by kernel_rfl)) rfl ?_)) | (refine so_is (.load 25 _) ?_; (refine so_q (qt_load_box rfl rfl (by kernel_rfl) rfl) rfl ?_)) | (refine so_is (.call ⟨.builtin .len, _, #[25]⟩) ?_; (refine so_q (qt_len_d rfl (by kernel_rfl)) rfl ?_)) | (refine so_is (.move _) ?_; (refine so_q (qt_mvC rfl) rfl ?_)) | refine so_nil ?_ | refine sk_seq ?_ | refine sk_block ?_ | refine sk_region ?_)
  apply sk_packC [1, 3, 11, 12, 13] [1, 9, 18, 33, 34, 38, 39] rfl; (· (repeat (first | exact Pf.nil | apply Pf.cons (.c rfl (.d rfl)) | apply Pf.cons (.c rfl (.ls rfl)) | apply Pf.cons (.c rfl (.lp rfl))))); (· (repeat (first | exact Pb.nil | apply Pb.cons (.row rfl) | (apply Pb.cons; (· apply Nb.box rfl; (repeat (first | exact Ncs.nil rfl | (apply Ncs.cons rfl; (· (exact .d rfl))))))) | apply Pb.skip)))
  refine sk_loopL [1, 11, 12] [1, 18, 33, 34, 38, 39] (fun i => [(13, iN i), (3, .c (.ls 9 1 0 i))]) (fun i => [(9, .row 1 (cII (gridF (fun i k => atZ (atZ wi (i : Int)) (k : Int) * atZ ws (i : Int)) i 4)))]) (fun i => i ≤ wi.length) (fun i => wi.length - i) (0) ?_ (by (repeat (first | exact trivial | refine ⟨(by (rfl)), ?_⟩))) (by (repeat (first | exact trivial | refine ⟨(by ((refine row_eq rfl ?_; simp  [gridF]; done))), ?_⟩))) ?_
  · omega
  intro i hi
  by_cases hi2 : i < wi.length
  · have ga := gameB_at h (q := (i : Int)) (by omega) (by rw [← Int.natCast_mul, Nat.mul_comm]; omega)
    have rl := bitsB_len ga.2
    have rb := fun (p : Int) => bitsB_at ga.2 (i := p)
    repeat' (first | (refine so_is (.assign _) ?_; (refine so_q (qt_asC rfl) rfl ?_)) | (refine so_is (.move _) ?_; (refine so_q (qt_mvC rfl) rfl ?_)) | (refine so_is (.binOp .lss 3 _ _ _) ?_; refine so_q (qt_lss rfl rfl) rfl ?_) | (refine so_is (.indexAddr 25 _ _) ?_; (refine so_q (qt_idxII rfl rfl (by kernel_rfl) (by (omega)) (by (omega))) rfl ?_)) | (refine so_is (.load 24 _) ?_; (refine so_q (qt_load_pt rfl (by kernel_rfl) rfl) rfl ?_)) | (refine so_is (.buildSlice 24 0 _) ?_; (apply so_bslice (sz := 1) (by_ := 8); (· kernel_rfl); (· decide); (· (repeat (exact GvS.nil _))); (· (decide)); (· rfl); (· rfl); (· rfl))) | (refine so_is (.call ⟨.builtin .len, _, #[24]⟩) ?_; (refine so_q (qt_len_d rfl (by kernel_rfl)) rfl ?_)) | refine so_nil ?_ | refine sk_seq ?_ | refine sk_block ?_ | refine sk_exit rfl ?_ | refine sk_skip ?_ | refine sk_region ?_ | refine sk_if rfl (fun hc => ?_) (fun hc => ?_))
    all_goals first | (exfalso; omega) | skip
    apply sk_packC [1, 3, 4, 6, 11, 12, 13, 19, 20, 21] [1, 9, 18, 33, 34, 38, 39] rfl; (· (repeat (first | exact Pf.nil | apply Pf.cons (.c rfl (.d rfl)) | apply Pf.cons (.c rfl (.ls rfl)) | apply Pf.cons (.c rfl (.lp rfl))))); (· (repeat (first | exact Pb.nil | apply Pb.cons (.row rfl) | (apply Pb.cons; (· apply Nb.box rfl; (repeat (first | exact Ncs.nil rfl | (apply Ncs.cons rfl; (· (exact .d rfl))))))) | apply Pb.skip)))
    refine sk_loopL [1, 3, 4, 11, 12, 13, 19, 20] [1, 9, 33, 34, 38, 39] (fun k => [(21, iN k), (6, .c (.ls 18 1 0 k))]) (fun k => [(18, .row 1 (cI (rowF (fun k => atZ (atZ wi (i : Int)) (k : Int) * atZ ws (i : Int)) k)))]) (fun k => k ≤ 4) (fun k => 4 - k) (0) ?_ (by (repeat (first | exact trivial | refine ⟨(by (rfl)), ?_⟩))) (by (repeat (first | exact trivial | refine ⟨(by (rfl)), ?_⟩))) ?_
    · simp
    intro k hk
    by_cases hk4 : k < 4
    · have rb := rb k (by omega) (by omega)
      have m := mul01 ga.1 rb
      have m2 := m.2.2.2
      repeat' (first | (refine so_is (.assign _) ?_; (refine so_q (qt_asC rfl) rfl ?_)) | (refine so_is (.move _) ?_; (refine so_q (qt_mvC rfl) rfl ?_)) | (refine so_is (.binOp .lss 3 _ _ _) ?_; refine so_q (qt_lss rfl rfl) rfl ?_) | (refine so_is (.load 24 _) ?_; (refine so_q (qt_load_box rfl rfl (by kernel_rfl) rfl) rfl ?_)) | (refine so_is (.indexAddr 24 _ _) ?_; (refine so_q (qt_idxI rfl rfl (by kernel_rfl) (by (omega)) (by (omega))) rfl ?_)) | (refine so_is (.load 3 _) ?_; (refine so_q (qt_load_pt rfl (by kernel_rfl) rfl) rfl ?_)) | (refine so_is (.fieldAddr 27 _ 2) ?_; (refine so_q (qt_fld_lp (off := 2) rfl (by kernel_rfl)) rfl ?_)) | (refine so_is (.binOp .mul 3 _ _ _) ?_; refine so_q (qt_mulI rfl rfl (by (omega))) rfl ?_) | (refine so_is (.buildSlice 24 1 _) ?_; (apply so_bslice (sz := 1) (by_ := 8); (· kernel_rfl); (· decide); (· (repeat (first | exact GvS.nil _ | apply GvS.c rfl rfl (.lit _) rfl))); (· (decide)); (· rfl); (· rfl); (· rfl))) | (refine so_is (.call ⟨.builtin .append, _, #[24, 24]⟩) ?_; ((apply so_appR (sz := 1) (by_ := 8); (· rfl); (· rfl); (· ((simp; done))); (· exact .row _ _ _ _ rfl (by ((simp; done)))); (· (decide)); (· kernel_rfl); (· decide); (· (omega)); (· (omega)); (· rfl); (· rfl); (· rfl)))) | (refine so_is (.binOp .add 3 _ _ _) ?_; refine so_q (qt_addI rfl rfl (by (omega))) rfl ?_) | (refine so_is (.buildSlice 25 1 _) ?_; (apply so_bslice (sz := 1) (by_ := 24); (· kernel_rfl); (· decide); (· (repeat (first | exact GvS.nil _ | apply GvS.c rfl rfl (.row _ _ _ _ rfl (by ((simp; done)))) rfl))); (· (decide)); (· rfl); (· rfl); (· rfl))) | (refine so_is (.call ⟨.builtin .append, _, #[25, 25]⟩) ?_; ((apply so_appR (sz := 1) (by_ := 24); (· rfl); (· rfl); (· ((simp; done))); (· exact .row _ _ _ _ rfl (by ((simp; done)))); (· (decide)); (· kernel_rfl); (· decide); (· (omega)); (· (omega)); (· rfl); (· rfl); (· rfl)))) | refine so_nil ?_ | refine sk_seq ?_ | refine sk_block ?_ | refine sk_blk ?_ | refine sk_exit rfl ?_ | refine sk_skip ?_ | refine sk_region ?_ | refine sk_if rfl (fun hc => ?_) (fun hc => ?_))
      all_goals first | (exfalso; omega) | skip
      refine sk_back ?_; refine ⟨k + 1, ?_, ?_, le_at rfl (by (repeat (first | exact trivial | refine ⟨(by (rfl)), ?_⟩))) (by (repeat (first | exact trivial | refine ⟨rfl, ?_⟩))) (by (repeat (first | exact trivial | refine ⟨(by ((refine row_eq rfl ?_; simp  [rowF_snoc]; done))), ?_⟩))) (by (repeat (first | exact trivial | refine ⟨.inr rfl, ?_⟩)))⟩
      · omega
      · omega
    · have e : k = 4 := by omega
      subst e
      repeat' (first | (refine so_is (.assign _) ?_; (refine so_q (qt_asC rfl) rfl ?_)) | (refine so_is (.move _) ?_; (refine so_q (qt_mvC rfl) rfl ?_)) | (refine so_is (.binOp .lss 3 _ _ _) ?_; refine so_q (qt_lss rfl rfl) rfl ?_) | (refine so_is (.load 24 _) ?_; (refine so_q (qt_load_box rfl rfl (by kernel_rfl) rfl) rfl ?_)) | (refine so_is (.indexAddr 24 _ _) ?_; (refine so_q (qt_idxI rfl rfl (by kernel_rfl) (by (omega)) (by (omega))) rfl ?_)) | (refine so_is (.load 3 _) ?_; (refine so_q (qt_load_pt rfl (by kernel_rfl) rfl) rfl ?_)) | (refine so_is (.fieldAddr 27 _ 2) ?_; (refine so_q (qt_fld_lp (off := 2) rfl (by kernel_rfl)) rfl ?_)) | (refine so_is (.binOp .mul 3 _ _ _) ?_; refine so_q (qt_mulI rfl rfl (by (omega))) rfl ?_) | (refine so_is (.buildSlice 24 1 _) ?_; (apply so_bslice (sz := 1) (by_ := 8); (· kernel_rfl); (· decide); (· (repeat (first | exact GvS.nil _ | apply GvS.c rfl rfl (.lit _) rfl))); (· (decide)); (· rfl); (· rfl); (· rfl))) | (refine so_is (.call ⟨.builtin .append, _, #[24, 24]⟩) ?_; ((apply so_appR (sz := 1) (by_ := 8); (· rfl); (· rfl); (· ((simp; done))); (· exact .row _ _ _ _ rfl (by ((simp; done)))); (· (decide)); (· kernel_rfl); (· decide); (· (omega)); (· (omega)); (· rfl); (· rfl); (· rfl)))) | (refine so_is (.binOp .add 3 _ _ _) ?_; refine so_q (qt_addI rfl rfl (by (omega))) rfl ?_) | (refine so_is (.buildSlice 25 1 _) ?_; (apply so_bslice (sz := 1) (by_ := 24); (· kernel_rfl); (· decide); (· (repeat (first | exact GvS.nil _ | apply GvS.c rfl rfl (.row _ _ _ _ rfl (by ((simp; done)))) rfl))); (· (decide)); (· rfl); (· rfl); (· rfl))) | (refine so_is (.call ⟨.builtin .append, _, #[25, 25]⟩) ?_; ((apply so_appR (sz := 1) (by_ := 24); (· rfl); (· rfl); (· ((simp; done))); (· exact .row _ _ _ _ rfl (by ((simp; done)))); (· (decide)); (· kernel_rfl); (· decide); (· (omega)); (· (omega)); (· rfl); (· rfl); (· rfl)))) | refine so_nil ?_ | refine sk_seq ?_ | refine sk_block ?_ | refine sk_blk ?_ | refine sk_exit rfl ?_ | refine sk_skip ?_ | refine sk_region ?_ | refine sk_if rfl (fun hc => ?_) (fun hc => ?_))
      all_goals first | (exfalso; omega) | skip
      refine sk_back ?_; refine ⟨i + 1, ?_, ?_, le_at rfl (by (repeat (first | exact trivial | refine ⟨(by (rfl)), ?_⟩))) (by (repeat (first | exact trivial | refine ⟨rfl, ?_⟩))) (by (repeat (first | exact trivial | refine ⟨(by ((refine row_eq rfl ?_; simp  [gridF_snoc]; done))), ?_⟩))) (by (repeat (first | exact trivial | refine ⟨.inr rfl, ?_⟩)))⟩
      · omega
      · omega
  · have e : i = wi.length := by omega
    subst e
    repeat' (first | (refine so_is (.assign _) ?_; (refine so_q (qt_asC rfl) rfl ?_)) | (refine so_is (.move _) ?_; (refine so_q (qt_mvC rfl) rfl ?_)) | (refine so_is (.binOp .lss 3 _ _ _) ?_; refine so_q (qt_lss rfl rfl) rfl ?_) | (refine so_is (.indexAddr 25 _ _) ?_; (refine so_q (qt_idxII rfl rfl (by kernel_rfl) (by (omega)) (by (omega))) rfl ?_)) | (refine so_is (.load 24 _) ?_; (refine so_q (qt_load_pt rfl (by kernel_rfl) rfl) rfl ?_)) | (refine so_is (.buildSlice 24 0 _) ?_; (apply so_bslice (sz := 1) (by_ := 8); (· kernel_rfl); (· decide); (· (repeat (exact GvS.nil _))); (· (decide)); (· rfl); (· rfl); (· rfl))) | (refine so_is (.call ⟨.builtin .len, _, #[24]⟩) ?_; (refine so_q (qt_len_d rfl (by kernel_rfl)) rfl ?_)) | refine so_nil ?_ | refine sk_seq ?_ | refine sk_block ?_ | refine sk_exit rfl ?_ | refine sk_skip ?_ | refine sk_region ?_ | refine sk_if rfl (fun hc => ?_) (fun hc => ?_))
    all_goals first | (exfalso; omega) | skip
    (apply sk_ret; apply ret_eq; (· apply RetOK.p; (· (apply GvA.cons; (· exact .tmp _); (· (exact GvP.c (.row _ _ _ _ rfl (by ((simp; done))))))); exact GvA.nil); (· (decide))))
    simp [funL]
theorem playWorth_p (X Y : Nat) (ws : List Int) (wi : List (List Int)) (pl : List Int) (h : gameB X Y ws wi = true) (hp : bitsB pl ((X : Int) + Y) = true) : PC Try.prog 189 [.c (dI X), .c (dI Y), .c (eII (funL ws wi)), .c (eI pl)] (.p (.c (dI (scoG X Y ws wi pl)))) := by
  obtain ⟨x, y, e1, e2, hx, hy, wl, il, h9⟩ := game_nat h
  obtain rfl : X = x := by omega
  obtain rfl : Y = y := by omega
  have pln := bitsB_len hp
  have Fl := funL_len ws wi
  have Fa := fun (t p : Int) => funL_atZ (ws := ws) (wi := wi) (t := t) (p := p)
  generalize funL ws wi = F at *
  have sb := fun m => scoN_bd h hp (m := m)
  refine pc_intro Try.func189 rfl rfl rfl (by kernel_rfl) rfl rfl ?_; intro _
  repeat' (first | (refine so_is (.assign _) ?_; (refine so_q (qt_asC rfl) rfl ?_)) | (refine so_is (.move _) ?_; (refine so_q (qt_mvC rfl) rfl ?_)) | refine so_nil ?_ | refine sk_seq ?_ | refine sk_block ?_ | refine sk_region ?_)
  apply sk_packC [0, 1, 2, 3, 9, 12, 13] [] rfl; (· (repeat (first | exact Pf.nil | apply Pf.cons (.c rfl (.d rfl))))); (· (repeat (exact Pb.nil)))
  refine sk_loopL [0, 1, 2, 3, 12] [] (fun i => [(13, iN i), (9, iZ (accT (scoT X Y ws wi pl) (Y * i)))]) (fun _ => []) (fun i => i ≤ X) (fun i => X - i) (0) ?_ (by (repeat (first | exact trivial | refine ⟨(by (rfl)), ?_⟩))) (by (repeat (exact trivial))) ?_
  · omega
  intro i hi
  by_cases hi2 : i < X
  · repeat' (first | (refine so_is (.assign _) ?_; (refine so_q (qt_asC rfl) rfl ?_)) | (refine so_is (.move _) ?_; (refine so_q (qt_mvC rfl) rfl ?_)) | (refine so_is (.binOp .lss 3 _ _ _) ?_; refine so_q (qt_lss rfl rfl) rfl ?_) | refine so_nil ?_ | refine sk_seq ?_ | refine sk_block ?_ | refine sk_exit rfl ?_ | refine sk_skip ?_ | refine sk_region ?_ | refine sk_if rfl (fun hc => ?_) (fun hc => ?_))
    all_goals first | (exfalso; omega) | skip
    apply sk_packC [0, 1, 2, 3, 9, 10, 12, 13, 16, 17] [] rfl; (· (repeat (first | exact Pf.nil | apply Pf.cons (.c rfl (.d rfl))))); (· (repeat (exact Pb.nil)))
    refine sk_loopL [0, 1, 2, 3, 10, 12, 13, 16] [] (fun k => [(17, iN k), (9, iZ (accT (scoT X Y ws wi pl) (Y * i + k)))]) (fun _ => []) (fun k => k ≤ Y) (fun k => Y - k) (0) ?_ (by (repeat (first | exact trivial | refine ⟨(by (rfl)), ?_⟩))) (by (repeat (exact trivial))) ?_
    · omega
    intro k hk
    by_cases hk2 : k < Y
    · have ok := pair_ok h hi2 hk2
      have o1 := ok.lt2; have o2 := ok.ge; have o3 := ok.le; have o4 := ok.g1; have o5 := ok.g2
      have f := flip4 hp hi2 hk2
      have fa := Fa ((i : Int) * Y + k) (2 * atZ pl (i : Int) + atZ pl ((X : Int) + k)) (by omega) (by omega) f.2.2.1 f.2.2.2
      have e := scoT_at (X := X) ws wi pl (i := i) hk2
      rw [← fa.1] at e
      have e3 : accT (scoT X Y ws wi pl) (Y * i + (k + 1)) = accT (scoT X Y ws wi pl) (Y * i + k) + atZ (atZ F ((i : Int) * Y + k)) (2 * atZ pl (i : Int) + atZ pl ((X : Int) + k)) := by rw [← Nat.add_assoc, ← e]; rfl
      have lt := idx_ltN (i := i) (k := k) (X := X) (Y := Y) hi2 hk2
      have b1 := sb (Y * i + k) (by omega)
      have b2 := sb (Y * i + (k + 1)) (by omega)
      rw [e3] at b2
      have fl := fa.2
      clear fa e sb
      repeat' (first | (refine so_is (.assign _) ?_; (refine so_q (qt_asC rfl) rfl ?_)) | (refine so_is (.move _) ?_; (refine so_q (qt_mvC rfl) rfl ?_)) | (refine so_is (.binOp .lss 3 _ _ _) ?_; refine so_q (qt_lss rfl rfl) rfl ?_) | (refine so_is (.binOp .mul 3 _ _ _) ?_; refine so_q (qt_mulI rfl rfl (by (omega))) rfl ?_) | (refine so_is (.binOp .add 3 _ _ _) ?_; refine so_q (qt_addI rfl rfl (by (omega))) rfl ?_) | (refine so_is (.indexAddr 25 _ _) ?_; (refine so_q (qt_idxII rfl rfl (by kernel_rfl) (by (omega)) (by (omega))) rfl ?_)) | (refine so_is (.load 24 _) ?_; (refine so_q (qt_load_pt rfl (by kernel_rfl) rfl) rfl ?_)) | (refine so_is (.indexAddr 24 _ _) ?_; (refine so_q (qt_idxI rfl rfl (by kernel_rfl) (by (omega)) (by (omega))) rfl ?_)) | (refine so_is (.load 3 _) ?_; (refine so_q (qt_load_pt rfl (by kernel_rfl) rfl) rfl ?_)) | refine so_nil ?_ | refine sk_seq ?_ | refine sk_block ?_ | refine sk_blk ?_ | refine sk_exit rfl ?_ | refine sk_skip ?_ | refine sk_region ?_ | refine sk_drawQ 8 (fun _ => false) (.step 0 true (.step 1 true (.step 2 true (.step 3 true (.step 4 true (.step 5 true (.step 6 true (.step 7 true (.step 8 true (.step 9 true (.step 10 true (.step 11 true (.step 12 true (.step 13 true (.step 14 true (.step 15 true (.step 16 true (.step 17 true (.step 18 true (.step 19 true (.step 20 true (.step 21 true (.step 22 true (.step 23 true (.step 24 true .nil))))))))))))))))))))))))) [(0, 33554431, 33554431, true), (0, 33554431, 33554431, true), (0, 33554431, 33554431, true), (0, 33554431, 33554431, true), (12, 33554419, 33554431, true), (0, 33554431, 33554431, true), (48, 33554383, 33554431, true), (66, 33554365, 33554431, true), (128, 33554303, 33554431, false), (0, 33554431, 33554431, true), (0, 33554431, 33554431, true), (1536, 33552895, 33554431, true), (2048, 33552383, 33554431, false), (4096, 33550335, 33554431, true), (0, 33554431, 33554431, true), (0, 33554431, 33554431, true), (0, 33554431, 33554431, true), (98304, 33456127, 33554431, true), (147456, 33406975, 33554431, true), (262144, 33292287, 33554431, false), (532480, 33021951, 33554431, true), (1048832, 32505599, 33554431, true), (2097152, 31457279, 33554431, false), (4194305, 29360126, 33554431, true), (16777215, 25165822, 33554431, true)] (by kernel_rfl) (by kernel_rfl) ?_ | refine sk_if rfl (fun hc => ?_) (fun hc => ?_))
      all_goals first | (exfalso; omega) | skip
      refine sk_back ?_; refine ⟨k + 1, ?_, ?_, le_at rfl (by (repeat (first | exact trivial | refine ⟨(by (first | rfl | (refine int_eq rfl ?_; (omega)))), ?_⟩))) (by (repeat (first | exact trivial | refine ⟨rfl, ?_⟩))) (by (repeat (exact trivial))) (by (repeat (exact trivial)))⟩
      · omega
      · omega
    · have e : k = Y := by omega
      subst e
      repeat' (first | (refine so_is (.assign _) ?_; (refine so_q (qt_asC rfl) rfl ?_)) | (refine so_is (.move _) ?_; (refine so_q (qt_mvC rfl) rfl ?_)) | (refine so_is (.binOp .lss 3 _ _ _) ?_; refine so_q (qt_lss rfl rfl) rfl ?_) | (refine so_is (.binOp .mul 3 _ _ _) ?_; refine so_q (qt_mulI rfl rfl (by (omega))) rfl ?_) | (refine so_is (.binOp .add 3 _ _ _) ?_; refine so_q (qt_addI rfl rfl (by (omega))) rfl ?_) | (refine so_is (.indexAddr 25 _ _) ?_; (refine so_q (qt_idxII rfl rfl (by kernel_rfl) (by (omega)) (by (omega))) rfl ?_)) | (refine so_is (.load 24 _) ?_; (refine so_q (qt_load_pt rfl (by kernel_rfl) rfl) rfl ?_)) | (refine so_is (.indexAddr 24 _ _) ?_; (refine so_q (qt_idxI rfl rfl (by kernel_rfl) (by (omega)) (by (omega))) rfl ?_)) | (refine so_is (.load 3 _) ?_; (refine so_q (qt_load_pt rfl (by kernel_rfl) rfl) rfl ?_)) | refine so_nil ?_ | refine sk_seq ?_ | refine sk_block ?_ | refine sk_blk ?_ | refine sk_exit rfl ?_ | refine sk_skip ?_ | refine sk_region ?_ | refine sk_drawQ 8 (fun _ => false) (.step 0 true (.step 1 true (.step 2 true (.step 3 true (.step 4 true (.step 5 true (.step 6 true (.step 7 true (.step 8 true (.step 9 true (.step 10 true (.step 11 true (.step 12 true (.step 13 true (.step 14 true (.step 15 true (.step 16 true (.step 17 true (.step 18 true (.step 19 true (.step 20 true (.step 21 true (.step 22 true (.step 23 true (.step 24 true .nil))))))))))))))))))))))))) [(0, 33554431, 33554431, true), (0, 33554431, 33554431, true), (0, 33554431, 33554431, true), (0, 33554431, 33554431, true), (12, 33554419, 33554431, true), (0, 33554431, 33554431, true), (48, 33554383, 33554431, true), (66, 33554365, 33554431, true), (128, 33554303, 33554431, false), (0, 33554431, 33554431, true), (0, 33554431, 33554431, true), (1536, 33552895, 33554431, true), (2048, 33552383, 33554431, false), (4096, 33550335, 33554431, true), (0, 33554431, 33554431, true), (0, 33554431, 33554431, true), (0, 33554431, 33554431, true), (98304, 33456127, 33554431, true), (147456, 33406975, 33554431, true), (262144, 33292287, 33554431, false), (532480, 33021951, 33554431, true), (1048832, 32505599, 33554431, true), (2097152, 31457279, 33554431, false), (4194305, 29360126, 33554431, true), (16777215, 25165822, 33554431, true)] (by kernel_rfl) (by kernel_rfl) ?_ | refine sk_if rfl (fun hc => ?_) (fun hc => ?_))
      all_goals first | (exfalso; omega) | skip
      refine sk_back ?_; refine ⟨i + 1, ?_, ?_, le_at rfl (by (repeat (first | exact trivial | refine ⟨(by (rfl)), ?_⟩))) (by (repeat (first | exact trivial | refine ⟨rfl, ?_⟩))) (by (repeat (exact trivial))) (by (repeat (exact trivial)))⟩
      · omega
      · omega
  · have e : i = X := by omega
    subst e
    repeat' (first | (refine so_is (.assign _) ?_; (refine so_q (qt_asC rfl) rfl ?_)) | (refine so_is (.move _) ?_; (refine so_q (qt_mvC rfl) rfl ?_)) | (refine so_is (.binOp .lss 3 _ _ _) ?_; refine so_q (qt_lss rfl rfl) rfl ?_) | refine so_nil ?_ | refine sk_seq ?_ | refine sk_block ?_ | refine sk_exit rfl ?_ | refine sk_skip ?_ | refine sk_region ?_ | refine sk_if rfl (fun hc => ?_) (fun hc => ?_))
    all_goals first | (exfalso; omega) | skip
    (apply sk_ret; apply ret_eq; (· apply RetOK.p; (· (apply GvA.cons; (· exact .tmp _); (· exact GvP.c (.lit _))); exact GvA.nil); (· (decide))))
    rfl
theorem score_p (X Y : Nat) (ws : List Int) (wi : List (List Int)) (pl : List Int) (h : gameB X Y ws wi = true) (hp : bitsB pl ((X : Int) + Y) = true) : PC Try.prog 106 [.g [dI X, dI Y, eI ws, eII wi], .c (eI pl)] (.p (.c (dI (scoG X Y ws wi pl)))) := by
  refine pc_intro Try.func106 rfl rfl rfl (by kernel_rfl) rfl rfl ?_; intro _
  repeat' (first | (refine so_is (.box 27 _) ?_; refine so_box rfl rfl ?_) | (refine so_is (.assign _) ?_; (refine so_q (qt_asC rfl) rfl ?_)) | (refine so_is (.fieldAddr 27 _ 0) ?_; (refine so_q (qt_fld_lp (off := 0) rfl (by kernel_rfl)) rfl ?_)) | (refine so_is (.load 3 _) ?_; (refine so_q (qt_load_box rfl rfl (by kernel_rfl) rfl) rfl ?_)) | (refine so_is (.fieldAddr 27 _ 1) ?_; (refine so_q (qt_fld_lp (off := 1) rfl (by kernel_rfl)) rfl ?_)) | (refine so_is (.load 27 _) ?_; (refine so_q (qt_load_boxs rfl rfl (by kernel_rfl : tAgg _ 27 4 = true) rfl) rfl ?_)) | (refine so_is (.move _) ?_; (refine so_q (qt_mvC rfl) rfl ?_)) | (refine so_is (.call ⟨.value (.func 124), _, _⟩) ?_; (apply so_call0 (fid := 124); (· (repeat (first | exact SeA.nil | (apply SeA.cons; (· (apply SeP.g; (repeat (first | exact SeL.nil | apply SeL.cons (.d _))))))))); (· exact functional_p _ _ _ _ h); (· rfl))) | (refine so_is (.call ⟨.value (.func 189), _, _⟩) ?_; (apply so_call0 (fid := 189); (· (repeat (first | exact SeA.nil | apply SeA.cons (.c (.d _))))); (· exact playWorth_p _ _ _ _ _ h hp); (· rfl))) | refine so_nil ?_ | refine sk_seq ?_ | refine sk_region ?_ | refine sk_drawQ 1 (fun _ => false) (.step 0 true (.step 1 true (.step 2 true (.step 3 true (.step 4 true (.step 6 true (.step 5 false (.step 7 false (.step 8 true .nil))))))))) [(0, 511, 511, true), (1, 510, 511, false), (0, 511, 511, true), (4, 507, 511, false), (0, 511, 511, false), (16, 495, 511, false), (0, 511, 511, true), (106, 405, 511, false), (255, 383, 511, true)] (by kernel_rfl) (by kernel_rfl) ?_)
  all_goals (apply sk_ret; apply ret_eq; (· apply RetOK.p; (· (apply GvA.cons; (· exact .tmp _); (· exact GvP.c (.lit _))); exact GvA.nil); (· (decide))))
  all_goals rfl
theorem PlayScore_p (X Y : Nat) (ws : List Int) (wi : List (List Int)) (pl : List Int) (h : gameB X Y ws wi = true) (hp : bitsB pl ((X : Int) + Y) = true) : PC Try.prog 23 [.g [dI X, dI Y, eI ws, eII wi], .c (eI pl)] (.t [.c (dI (scoG X Y ws wi pl)), .c (dB true)]) := by
  have i1 := isGamePlay_p X Y ws wi pl
  rw [h, hp] at i1
  refine pc_intro Try.func23 rfl rfl rfl (by kernel_rfl) rfl rfl ?_; intro _
  repeat' (first | (refine so_is (.box 27 _) ?_; refine so_box rfl rfl ?_) | (refine so_is (.assign _) ?_; (refine so_q (qt_asC rfl) rfl ?_)) | (refine so_is (.load 27 _) ?_; (refine so_q (qt_load_boxs rfl rfl (by kernel_rfl : tAgg _ 27 4 = true) rfl) rfl ?_)) | (refine so_is (.move _) ?_; (refine so_q (qt_mvC rfl) rfl ?_)) | (refine so_is (.unOp .not 4 _) ?_; refine so_q (qt_not rfl) rfl ?_) | (refine so_is (.call ⟨.value (.func 100), _, _⟩) ?_; (apply so_call0 (fid := 100); (· (repeat (first | exact SeA.nil | apply SeA.cons (.c (.d _)) | (apply SeA.cons; (· (apply SeP.g; (repeat (first | exact SeL.nil | apply SeL.cons (.d _))))))))); (· exact i1); (· rfl))) | (refine so_is (.call ⟨.value (.func 106), _, _⟩) ?_; ((apply so_call0 (fid := 106); (· (repeat (first | exact SeA.nil | apply SeA.cons (.c (.d _)) | (apply SeA.cons; (· (apply SeP.g; (repeat (first | exact SeL.nil | apply SeL.cons (.d _))))))))); (· exact score_p _ _ _ _ _ h hp); (· rfl)))) | refine so_nil ?_ | refine sk_seq ?_ | refine sk_skip ?_ | refine sk_region ?_ | refine sk_false rfl ?_)
  all_goals (apply sk_ret; apply ret_eq; (· apply RetOK.t; (· (apply GvA.cons; (· exact .tmp _); (· exact GvP.c (.lit _))); (apply GvA.cons; (· exact .tmp _); (· exact GvP.c (.lit _))); exact GvA.nil); (· rfl); (· (decide))))
  all_goals rfl
end Go.Proofs.Ytefbiejoikpkmaa

namespace Go.Proofs.Ytefbiejoikpkmaa
open Go.RowKit
set_option linter.unusedSectionVars false
variable [Glb]
set_option maxRecDepth 10000
set_option maxHeartbeats 4000000
def bestD (s : Nat → Int) (n : Nat) : Nat → D
  | 0 => .lit (.slice none 0 0)
  | i + 1 => eI (bitsM n (bstT s (i + 1)))
theorem bestD_pos (s : Nat → Int) (n : Nat) {i : Nat} (h : 0 < i) : bestD s n i = eI (bitsM n (bstT s i)) := by
  cases i with
  | zero => omega
  | succ i => rfl
theorem BestPlay_v (X Y : Nat) (ws : List Int) (wi : List (List Int)) (h : gameB X Y ws wi = true) : PV Try.prog 19 [.g [dI X, dI Y, eI ws, eII wi]] (.t [.c (eI (bestG X Y ws wi)), .c (dI (valueG X Y ws wi)), .c (dB true)]) := by
  obtain ⟨x, y, e1, e2, hx, hy, wl, il, h9⟩ := game_nat h
  obtain rfl : X = x := by omega
  obtain rfl : Y = y := by omega
  have i1 := IsGame_p X Y ws wi
  rw [h] at i1
  have pl := plays_p X Y (by omega)
  have Pl : (playsF (X + Y)).length = 2 ^ (X + Y) := playsF_len _
  have Pa := fun k (hk : k < 2 ^ (X + Y)) => playsF_at (n := X + Y) hk
  have hN : 0 < 2 ^ (X + Y) := Nat.two_pow_pos _
  have hN2 : 2 ^ (X + Y) ≤ 2 ^ 6 := Nat.pow_le_pow_right (by omega) (by omega)
  have sb := fun c => playN_bd h c
  have sc : ∀ c, PC Try.prog 106 [.g [dI X, dI Y, eI ws, eII wi], .c (eI (bitsM (X + Y) c))] (.p (.c (dI (playN X Y ws wi c)))) := fun c => score_p X Y ws wi _ h (by rw [← Int.natCast_add]; exact bitsM_bits _ _)
  have eb : eI (bestG X Y ws wi) = bestD (playN X Y ws wi) (X + Y) (2 ^ (X + Y)) := (bestD_pos _ _ hN).symm
  have ev : valueG X Y ws wi = valN (playN X Y ws wi) (2 ^ (X + Y)) := by
    obtain ⟨j, hj⟩ := Nat.exists_eq_succ_of_ne_zero (show 2 ^ (X + Y) ≠ 0 by omega)
    unfold valueG bestC
    rw [hj]
    rfl
  rw [eb, ev]
  clear eb ev
  generalize playN X Y ws wi = s at *
  generalize playsF (X + Y) = P at *
  generalize 2 ^ (X + Y) = N at *
  generalize X + Y = m at *
  refine pv_intro Try.func19 rfl rfl rfl (by kernel_rfl) rfl rfl ?_; intro X c0 _
  repeat' (first | (refine so_is (.box 27 _) ?_; refine so_box rfl rfl ?_) | (refine so_is (.assign _) ?_; (refine so_q (qt_asC rfl) rfl ?_)) | (refine so_is (.load 27 _) ?_; (refine so_q (qt_load_boxs rfl rfl (by kernel_rfl : tAgg _ 27 4 = true) rfl) rfl ?_)) | (refine so_is (.unOp .not 4 _) ?_; refine so_q (qt_not rfl) rfl ?_) | (refine so_is (.fieldAddr 27 _ 0) ?_; (refine so_q (qt_fld_lp (off := 0) rfl (by kernel_rfl)) rfl ?_)) | (refine so_is (.load 3 _) ?_; (refine so_q (qt_load_box rfl rfl (by kernel_rfl) rfl) rfl ?_)) | (refine so_is (.fieldAddr 27 _ 1) ?_; (refine so_q (qt_fld_lp (off := 1) rfl (by kernel_rfl)) rfl ?_)) | (refine so_is (.call ⟨.builtin .len, _, #[25]⟩) ?_; (refine so_q (qt_len_d rfl (by kernel_rfl)) rfl ?_)) | (refine so_is (.move _) ?_; (refine so_q (qt_mvC rfl) rfl ?_)) | (refine so_is (.call ⟨.value (.func 29), _, _⟩) ?_; ((apply so_call0 (fid := 29); (· (repeat (first | exact SeA.nil | (apply SeA.cons; (· (apply SeP.g; (repeat (first | exact SeL.nil | apply SeL.cons (.d _))))))))); (· exact i1); (· rfl)))) | (refine so_is (.call ⟨.value (.func 92), _, _⟩) ?_; ((apply so_call0 (fid := 92); (· (repeat (first | exact SeA.nil | apply SeA.cons (.c (.d _))))); (· exact pl); (· rfl)))) | refine so_nil ?_ | refine sk_seq ?_ | refine sk_block ?_ | refine sk_skip ?_ | refine sk_region ?_ | refine sk_false rfl ?_)
  all_goals first | (exfalso; omega) | skip
  apply sk_packC [1, 5, 6, 17, 18, 19] [1, 17, 900000000] rfl; (· (repeat (first | exact Pf.nil | apply Pf.cons (.c rfl (.d rfl)) | apply Pf.cons (.c rfl (.lp rfl))))); (· (repeat (first | exact Pb.nil | (apply Pb.cons; (· apply Nb.box rfl; (repeat (first | exact Ncs.nil rfl | (apply Ncs.cons rfl; (· (exact .d rfl))))))) | apply Pb.cons (.any rfl) | apply Pb.skip)))
  refine sk_loopL [1, 17, 18] [1, 17, 900000000] (fun i => [(19, iN i), (5, .c (.d (bestD s m i))), (6, iZ (valN s i))]) (fun _ => []) (fun i => i ≤ N) (fun i => N - i) (0) ?_ (by (repeat (first | exact trivial | refine ⟨(by (rfl)), ?_⟩))) (by (repeat (exact trivial))) ?_
  · omega
  intro i hi
  by_cases hi2 : i < N
  · have pa := Pa i hi2
    have sc := sc i
    rw [← pa] at sc
    have sb := sb i
    repeat' (first | (refine so_is (.assign _) ?_; (refine so_q (qt_asC rfl) rfl ?_)) | (refine so_is (.load 27 _) ?_; (refine so_q (qt_load_boxs rfl rfl (by kernel_rfl : tAgg _ 27 4 = true) rfl) rfl ?_)) | (refine so_is (.move _) ?_; (refine so_q (qt_mvC rfl) rfl ?_)) | (refine so_is (.binOp .lss 3 _ _ _) ?_; refine so_q (qt_lss rfl rfl) rfl ?_) | (refine so_is (.indexAddr 25 _ _) ?_; (refine so_q (qt_idxII rfl rfl (by kernel_rfl) (by (omega)) (by (omega))) rfl ?_)) | (refine so_is (.load 24 _) ?_; (refine so_q (qt_load_pt rfl (by kernel_rfl) rfl) rfl ?_)) | (refine so_is (.binOp .gtr 3 _ _ _) ?_; refine so_q (qt_gtr rfl rfl) rfl ?_) | (refine so_is (.binOp .add 3 _ _ _) ?_; refine so_q (qt_addI rfl rfl (by (omega))) rfl ?_) | (refine so_is (.call ⟨.value (.func 106), _, _⟩) ?_; (apply so_call0 (fid := 106); (· (repeat (first | exact SeA.nil | apply SeA.cons (.c (.d _)) | (apply SeA.cons; (· (apply SeP.g; (repeat (first | exact SeL.nil | apply SeL.cons (.d _))))))))); (· exact sc); (· rfl))) | refine so_nil ?_ | refine sk_seq ?_ | refine sk_block ?_ | refine sk_blk ?_ | refine sk_exit rfl ?_ | refine sk_skip ?_ | refine sk_region ?_ | refine sk_if rfl (fun hc => ?_) (fun hc => ?_))
    all_goals first | (exfalso; omega) | skip
    · obtain ⟨y1, y2⟩ := valN_yes (s := s) (i := i) (by omega) sb.1
      have yd : bestD s m (i + 1) = eI (atZ P (i : Int)) := by rw [bestD_pos _ _ (by omega), y1, pa]
      refine sk_back ?_; refine ⟨i + 1, ?_, ?_, le_at rfl (by (repeat (first | exact trivial | refine ⟨(by (first | rfl | (refine int_eq rfl ?_; (omega)) | (refine d_eq rfl ?_; ((simp  [yd, y2]; done))))), ?_⟩))) (by (repeat (first | exact trivial | refine ⟨rfl, ?_⟩))) (by (repeat (exact trivial))) (by (repeat (first | exact trivial | refine ⟨.inr rfl, ?_⟩)))⟩
      · omega
      · omega
    · obtain ⟨y1, y2, y3⟩ := valN_no (s := s) (i := i) (by omega) sb.1
      have yd : bestD s m (i + 1) = bestD s m i := by rw [bestD_pos _ _ (by omega), y1, ← bestD_pos _ _ (by omega)]
      refine sk_back ?_; refine ⟨i + 1, ?_, ?_, le_at rfl (by (repeat (first | exact trivial | refine ⟨(by (first | rfl | (refine int_eq rfl ?_; (omega)) | (refine d_eq rfl ?_; ((simp  [yd, y2]; done))))), ?_⟩))) (by (repeat (first | exact trivial | refine ⟨rfl, ?_⟩))) (by (repeat (exact trivial))) (by (repeat (first | exact trivial | refine ⟨.inr rfl, ?_⟩)))⟩
      · omega
      · omega
  · have e : i = N := by omega
    subst e
    repeat' (first | (refine so_is (.assign _) ?_; (refine so_q (qt_asC rfl) rfl ?_)) | (refine so_is (.load 27 _) ?_; (refine so_q (qt_load_boxs rfl rfl (by kernel_rfl : tAgg _ 27 4 = true) rfl) rfl ?_)) | (refine so_is (.move _) ?_; (refine so_q (qt_mvC rfl) rfl ?_)) | (refine so_is (.binOp .lss 3 _ _ _) ?_; refine so_q (qt_lss rfl rfl) rfl ?_) | (refine so_is (.indexAddr 25 _ _) ?_; (refine so_q (qt_idxII rfl rfl (by kernel_rfl) (by (omega)) (by (omega))) rfl ?_)) | (refine so_is (.load 24 _) ?_; (refine so_q (qt_load_pt rfl (by kernel_rfl) rfl) rfl ?_)) | refine so_nil ?_ | refine sk_seq ?_ | refine sk_block ?_ | refine sk_exit rfl ?_ | refine sk_skip ?_ | refine sk_region ?_ | refine sk_if rfl (fun hc => ?_) (fun hc => ?_))
    all_goals first | (exfalso; omega) | skip
    (apply sk_retv; apply retv_eq; (· apply RetV.t rfl; (· (apply RvA.cons; (· exact .tmp _); (· (exact RvP.c (.d _)))); (apply RvA.cons; (· exact .tmp _); (· exact RvP.c (.d _))); (apply RvA.cons; (· exact .tmp _); (· exact RvP.c (.d _))); exact RvA.nil); (· rfl)))
    rfl
theorem CountBest_p (X Y : Nat) (ws : List Int) (wi : List (List Int)) (h : gameB X Y ws wi = true) : PC Try.prog 24 [.g [dI X, dI Y, eI ws, eII wi]] (.t [.c (dI (countG X Y ws wi)), .c (dB true)]) := by
  obtain ⟨x, y, e1, e2, hx, hy, wl, il, h9⟩ := game_nat h
  obtain rfl : X = x := by omega
  obtain rfl : Y = y := by omega
  have pl := plays_p X Y (by omega)
  have Pl : (playsF (X + Y)).length = 2 ^ (X + Y) := playsF_len _
  have Pa := fun k (hk : k < 2 ^ (X + Y)) => playsF_at (n := X + Y) hk
  have hN2 : 2 ^ (X + Y) ≤ 2 ^ 6 := Nat.pow_le_pow_right (by omega) (by omega)
  have sc : ∀ c, PC Try.prog 106 [.g [dI X, dI Y, eI ws, eII wi], .c (eI (bitsM (X + Y) c))] (.p (.c (dI (playN X Y ws wi c)))) := fun c => score_p X Y ws wi _ h (by rw [← Int.natCast_add]; exact bitsM_bits _ _)
  have cs := fun i => cntV_succ X Y ws wi (valueG X Y ws wi) i
  have cl := fun i => cntV_le X Y ws wi (valueG X Y ws wi) i
  have c0 : cntV X Y ws wi (valueG X Y ws wi) 0 = 0 := rfl
  have bp := BestPlay_v X Y ws wi h
  unfold countG
  generalize hc : cntV X Y ws wi (valueG X Y ws wi) = c at *
  generalize hs : playN X Y ws wi = s at *
  generalize playsF (X + Y) = P at *
  generalize 2 ^ (X + Y) = N at *
  clear hc hs
  refine pc_intro Try.func24 rfl rfl rfl (by kernel_rfl) rfl rfl ?_; intro _
  repeat' (first | (refine so_is (.box 27 _) ?_; refine so_box rfl rfl ?_) | (refine so_is (.assign _) ?_; (refine so_q (qt_asC rfl) rfl ?_)) | (refine so_is (.load 27 _) ?_; (refine so_q (qt_load_boxs rfl rfl (by kernel_rfl : tAgg _ 27 4 = true) rfl) rfl ?_)) | (refine so_is (.move _) ?_; (first | refine so_q (qt_mvC rfl) rfl ?_ | refine so_q (qt_mvT rfl) rfl ?_)) | (refine so_is (.extract _ _) ?_; refine so_q (qt_extract rfl rfl) rfl ?_) | (refine so_is (.unOp .not 4 _) ?_; refine so_q (qt_not rfl) rfl ?_) | (refine so_is (.fieldAddr 27 _ 0) ?_; (refine so_q (qt_fld_lp (off := 0) rfl (by kernel_rfl)) rfl ?_)) | (refine so_is (.load 3 _) ?_; (refine so_q (qt_load_box rfl rfl (by kernel_rfl) rfl) rfl ?_)) | (refine so_is (.fieldAddr 27 _ 1) ?_; (refine so_q (qt_fld_lp (off := 1) rfl (by kernel_rfl)) rfl ?_)) | (refine so_is (.call ⟨.builtin .len, _, #[25]⟩) ?_; (refine so_q (qt_len_d rfl (by kernel_rfl)) rfl ?_)) | (refine so_is (.call ⟨.value (.func 19), _, _⟩) ?_; ((apply so_callV (fid := 19); (· (repeat (first | exact SdA.nil | (apply SdA.g rfl; (· (repeat (first | exact SdL.nil | apply SdL.cons))))))); (· exact bp); (· rfl)))) | (refine so_is (.call ⟨.value (.func 92), _, _⟩) ?_; ((apply so_call0 (fid := 92); (· (repeat (first | exact SeA.nil | apply SeA.cons (.c (.d _))))); (· exact pl); (· rfl)))) | refine so_nil ?_ | refine sk_seq ?_ | refine sk_block ?_ | refine sk_skip ?_ | refine sk_region ?_ | refine sk_false rfl ?_)
  all_goals first | (exfalso; omega) | skip
  apply sk_packC [1, 5, 7, 22, 23, 24] [1, 12, 22] rfl; (· (repeat (first | exact Pf.nil | apply Pf.cons (.c rfl (.d rfl)) | apply Pf.cons (.c rfl (.lp rfl))))); (· (repeat (first | exact Pb.nil | (apply Pb.cons; (· apply Nb.box rfl; (repeat (first | exact Ncs.nil rfl | (apply Ncs.cons rfl; (· (exact .d rfl))))))) | apply Pb.skip)))
  refine sk_loopL [1, 5, 22, 23] [1, 12, 22] (fun i => [(24, iN i), (7, iN (c i))]) (fun _ => []) (fun i => i ≤ N) (fun i => N - i) (0) ?_ (by (repeat (first | exact trivial | refine ⟨(by (first | rfl | (refine int_eq rfl ?_; (omega)))), ?_⟩))) (by (repeat (exact trivial))) ?_
  · omega
  intro i hi
  by_cases hi2 : i < N
  · have pa := Pa i hi2
    have sc := sc i
    rw [← pa] at sc
    have cs := cs i
    have cl := cl i
    repeat' (first | (refine so_is (.assign _) ?_; (refine so_q (qt_asC rfl) rfl ?_)) | (refine so_is (.load 27 _) ?_; (refine so_q (qt_load_boxs rfl rfl (by kernel_rfl : tAgg _ 27 4 = true) rfl) rfl ?_)) | (refine so_is (.move _) ?_; (refine so_q (qt_mvC rfl) rfl ?_)) | (refine so_is (.binOp .lss 3 _ _ _) ?_; refine so_q (qt_lss rfl rfl) rfl ?_) | (refine so_is (.indexAddr 25 _ _) ?_; (refine so_q (qt_idxII rfl rfl (by kernel_rfl) (by (omega)) (by (omega))) rfl ?_)) | (refine so_is (.load 24 _) ?_; (refine so_q (qt_load_pt rfl (by kernel_rfl) rfl) rfl ?_)) | (refine so_is (.binOp .eql 3 _ _ _) ?_; refine so_q (qt_eql rfl rfl) rfl ?_) | (refine so_is (.binOp .add 3 _ _ _) ?_; refine so_q (qt_addI rfl rfl (by (omega))) rfl ?_) | (refine so_is (.call ⟨.value (.func 106), _, _⟩) ?_; (apply so_call0 (fid := 106); (· (repeat (first | exact SeA.nil | apply SeA.cons (.c (.d _)) | (apply SeA.cons; (· (apply SeP.g; (repeat (first | exact SeL.nil | apply SeL.cons (.d _))))))))); (· exact sc); (· rfl))) | refine so_nil ?_ | refine sk_seq ?_ | refine sk_block ?_ | refine sk_blk ?_ | refine sk_exit rfl ?_ | refine sk_skip ?_ | refine sk_region ?_ | refine sk_if rfl (fun hc => ?_) (fun hc => ?_))
    all_goals first | (exfalso; omega) | skip
    · rw [if_pos (by omega)] at cs
      refine sk_back ?_; refine ⟨i + 1, ?_, ?_, le_at rfl (by (repeat (first | exact trivial | refine ⟨(by (first | rfl | (refine int_eq rfl ?_; (omega)))), ?_⟩))) (by (repeat (first | exact trivial | refine ⟨rfl, ?_⟩))) (by (repeat (exact trivial))) (by (repeat (first | exact trivial | refine ⟨.inr rfl, ?_⟩)))⟩
      · omega
      · omega
    · rw [if_neg (by omega)] at cs
      refine sk_back ?_; refine ⟨i + 1, ?_, ?_, le_at rfl (by (repeat (first | exact trivial | refine ⟨(by (first | rfl | (refine int_eq rfl ?_; (omega)))), ?_⟩))) (by (repeat (first | exact trivial | refine ⟨rfl, ?_⟩))) (by (repeat (exact trivial))) (by (repeat (first | exact trivial | refine ⟨.inr rfl, ?_⟩)))⟩
      · omega
      · omega
  · have e : i = N := by omega
    subst e
    repeat' (first | (refine so_is (.assign _) ?_; (refine so_q (qt_asC rfl) rfl ?_)) | (refine so_is (.load 27 _) ?_; (refine so_q (qt_load_boxs rfl rfl (by kernel_rfl : tAgg _ 27 4 = true) rfl) rfl ?_)) | (refine so_is (.move _) ?_; (refine so_q (qt_mvC rfl) rfl ?_)) | (refine so_is (.binOp .lss 3 _ _ _) ?_; refine so_q (qt_lss rfl rfl) rfl ?_) | (refine so_is (.indexAddr 25 _ _) ?_; (refine so_q (qt_idxII rfl rfl (by kernel_rfl) (by (omega)) (by (omega))) rfl ?_)) | (refine so_is (.load 24 _) ?_; (refine so_q (qt_load_pt rfl (by kernel_rfl) rfl) rfl ?_)) | refine so_nil ?_ | refine sk_seq ?_ | refine sk_block ?_ | refine sk_exit rfl ?_ | refine sk_skip ?_ | refine sk_region ?_ | refine sk_if rfl (fun hc => ?_) (fun hc => ?_))
    all_goals first | (exfalso; omega) | skip
    (apply sk_ret; apply ret_eq; (· apply RetOK.t; (· (apply GvA.cons; (· exact .tmp _); (· exact GvP.c (.lit _))); (apply GvA.cons; (· exact .tmp _); (· exact GvP.c (.lit _))); exact GvA.nil); (· rfl); (· (decide))))
    rfl
end Go.Proofs.Ytefbiejoikpkmaa

namespace Go.Proofs.Ytefbiejoikpkmaa
open Go.RowKit
set_option linter.unusedSectionVars false
variable [Glb]
set_option maxRecDepth 10000
set_option maxHeartbeats 4000000
theorem l2Plays_p (x y : Nat) (h : x + y ≤ 6) : PC Try.prog 96 [.c (dI x), .c (dI y)] (.p (.c (eII (playsF (x + y))))) := by
  have e2 : (2 : Nat) ^ (x + y) ≤ 64 := Nat.le_trans (Nat.pow_le_pow_right (by omega) h) (by decide)
  obtain ⟨N, hN⟩ : ∃ N : Nat, N = 2 ^ (x + y) := ⟨_, rfl⟩
  rw [← hN] at e2
  have e1 : (1 : Int) * 2 ^ ((x : Int) + y).toNat = N := by
    rw [show ((x : Int) + y).toNat = x + y by omega, hN, Int.natCast_pow]; simp
  refine pc_intro Try.func96 rfl rfl rfl (by kernel_rfl) rfl rfl ?_; intro _
  repeat' (first | (refine so_is (.assign _) ?_; (refine so_q (qt_asC rfl) rfl ?_)) | (refine so_is (.buildSlice 25 0 _) ?_; (apply so_bslice (sz := 1) (by_ := 24); (· kernel_rfl); (· decide); (· (repeat (exact GvS.nil _))); (· (decide)); (· rfl); (· rfl); (· rfl))) | refine so_nil ?_ | refine sk_seq ?_ | refine sk_block ?_ | refine sk_region ?_)
  apply sk_packC [0, 1, 5, 6] [9, 18, 36, 37, 40, 41] rfl; (· (repeat (first | exact Pf.nil | apply Pf.cons (.c rfl (.d rfl)) | apply Pf.cons (.c rfl (.ls rfl))))); (· (repeat (first | exact Pb.nil | apply Pb.cons (.row rfl) | apply Pb.skip)))
  refine sk_loopL [0, 1] [18, 36, 37, 40, 41] (fun c => [(6, iN c), (5, .c (.ls 9 1 0 c))]) (fun c => [(9, .row 1 (cII ((List.range c).map (bitsM (x + y)))))]) (fun c => c ≤ N) (fun c => N - c) (0) ?_ (by (repeat (first | exact trivial | refine ⟨(by (rfl)), ?_⟩))) (by (repeat (first | exact trivial | refine ⟨(by ((refine row_eq rfl ?_; simp; done))), ?_⟩))) ?_
  · omega
  intro c hc
  repeat' (first | (refine so_is (.assign _) ?_; (refine so_q (qt_asC rfl) rfl ?_)) | (refine so_is (.move _) ?_; (refine so_q (qt_mvC rfl) rfl ?_)) | (refine so_is (.binOp .add 3 _ _ _) ?_; refine so_q (qt_addI rfl rfl (by (omega))) rfl ?_) | (refine so_is (.binOp .shl 3 _ _ _) ?_; (refine so_q (qt_shlI rfl rfl (by (omega)) (by (omega)) (by (omega))) rfl ?_)) | (refine so_is (.binOp .lss 3 _ _ _) ?_; refine so_q (qt_lss rfl rfl) rfl ?_) | (refine so_is (.buildSlice 24 0 _) ?_; (apply so_bslice (sz := 1) (by_ := 8); (· kernel_rfl); (· decide); (· (repeat (exact GvS.nil _))); (· (decide)); (· rfl); (· rfl); (· rfl))) | refine so_nil ?_ | refine sk_seq ?_ | refine sk_block ?_ | refine sk_exit rfl ?_ | refine sk_skip ?_ | refine sk_region ?_ | refine sk_if rfl (fun hc => ?_) (fun hc => ?_))
  · apply sk_packC [0, 1, 5, 6, 7, 8] [9, 18, 36, 37, 40, 41] rfl; (· (repeat (first | exact Pf.nil | apply Pf.cons (.c rfl (.d rfl)) | apply Pf.cons (.c rfl (.ls rfl))))); (· (repeat (first | exact Pb.nil | apply Pb.cons (.row rfl) | apply Pb.skip)))
    refine sk_loopL [0, 1, 5, 6] [9, 36, 37, 40, 41] (fun i => [(8, iN i), (7, .c (.ls 18 1 0 i))]) (fun i => [(18, .row 1 (cI (rowF (fun i => (bitN c (x + y - 1 - i) : Int)) i)))]) (fun i => i ≤ x + y) (fun i => x + y - i) (0) ?_ (by (repeat (first | exact trivial | refine ⟨(by (rfl)), ?_⟩))) (by (repeat (first | exact trivial | refine ⟨(by (rfl)), ?_⟩))) ?_
    · omega
    intro i hi
    have e3 : i < x + y → (c : Int) / 2 ^ ((x : Int) + y - 1 - i).toNat % 2 = (bitN c (x + y - 1 - i) : Int) := fun h => by
      rw [show ((x : Int) + y - 1 - i).toNat = x + y - 1 - i by omega, bit_nat]
    repeat' (first | (refine so_is (.assign _) ?_; (refine so_q (qt_asC rfl) rfl ?_)) | (refine so_is (.move _) ?_; (refine so_q (qt_mvC rfl) rfl ?_)) | (refine so_is (.binOp .add 3 _ _ _) ?_; refine so_q (qt_addI rfl rfl (by (omega))) rfl ?_) | (refine so_is (.binOp .lss 3 _ _ _) ?_; refine so_q (qt_lss rfl rfl) rfl ?_) | (refine so_is (.binOp .sub 3 _ _ _) ?_; refine so_q (qt_subI rfl rfl (by (omega))) rfl ?_) | (refine so_is (.binOp .shr 3 _ _ _) ?_; (refine so_q (qt_shrI rfl rfl (by (omega)) (by (omega))) rfl ?_)) | (refine so_is (.binOp .and 3 _ _ _) ?_; refine so_q (qt_andM 1 (c := 2) rfl rfl (by decide)) rfl ?_) | (refine so_is (.buildSlice 24 1 _) ?_; (apply so_bslice (sz := 1) (by_ := 8); (· kernel_rfl); (· decide); (· (repeat (first | exact GvS.nil _ | apply GvS.c rfl rfl (.lit _) rfl))); (· (decide)); (· rfl); (· rfl); (· rfl))) | (refine so_is (.call ⟨.builtin .append, _, #[24, 24]⟩) ?_; ((apply so_appR (sz := 1) (by_ := 8); (· rfl); (· rfl); (· ((simp; done))); (· exact .row _ _ _ _ rfl (by ((simp; done)))); (· (decide)); (· kernel_rfl); (· decide); (· (omega)); (· (omega)); (· rfl); (· rfl); (· rfl)))) | (refine so_is (.buildSlice 25 1 _) ?_; (apply so_bslice (sz := 1) (by_ := 24); (· kernel_rfl); (· decide); (· (repeat (first | exact GvS.nil _ | apply GvS.c rfl rfl (.row _ _ _ _ rfl (by ((simp; done)))) rfl))); (· (decide)); (· rfl); (· rfl); (· rfl))) | (refine so_is (.call ⟨.builtin .append, _, #[25, 25]⟩) ?_; ((apply so_appR (sz := 1) (by_ := 24); (· rfl); (· rfl); (· ((simp; done))); (· exact .row _ _ _ _ rfl (by ((simp; done)))); (· (decide)); (· kernel_rfl); (· decide); (· (omega)); (· (omega)); (· rfl); (· rfl); (· rfl)))) | refine so_nil ?_ | refine sk_seq ?_ | refine sk_block ?_ | refine sk_blk ?_ | refine sk_exit rfl ?_ | refine sk_skip ?_ | refine sk_region ?_ | refine sk_if rfl (fun hc => ?_) (fun hc => ?_))
    · have e3 := e3 (by omega)
      simp at e3
      refine sk_back ?_; refine ⟨i + 1, ?_, ?_, le_at rfl (by (repeat (first | exact trivial | refine ⟨(by (rfl)), ?_⟩))) (by (repeat (first | exact trivial | refine ⟨rfl, ?_⟩))) (by (repeat (first | exact trivial | refine ⟨(by ((refine row_eq rfl ?_; simp  [rowF_snoc, e3]; done))), ?_⟩))) (by (repeat (first | exact trivial | refine ⟨.inr rfl, ?_⟩)))⟩
      · omega
      · omega
    · have h8 : i = x + y := by omega
      subst h8
      refine sk_back ?_; refine ⟨c + 1, ?_, ?_, le_at rfl (by (repeat (first | exact trivial | refine ⟨(by (rfl)), ?_⟩))) (by (repeat (first | exact trivial | refine ⟨rfl, ?_⟩))) (by (repeat (first | exact trivial | refine ⟨(by ((refine row_eq rfl ?_; simp  [plays_snoc, bitsM]; done))), ?_⟩))) (by (repeat (first | exact trivial | refine ⟨.inr rfl, ?_⟩)))⟩
      · omega
      · omega
  · have h8 : c = N := by omega
    subst h8
    subst hN
    (apply sk_ret; apply ret_eq; (· apply RetOK.p; (· (apply GvA.cons; (· exact .tmp _); (· (exact GvP.c (.row _ _ _ _ rfl (by ((simp; done))))))); exact GvA.nil); (· (decide))))
    simp [playsF]

end Go.Proofs.Ytefbiejoikpkmaa

namespace Go.Proofs.Ytefbiejoikpkmaa
open Go.RowKit
set_option linter.unusedSectionVars false
variable [Glb]
set_option maxRecDepth 10000
set_option maxHeartbeats 4000000
theorem l4Won_p (X Y : Nat) (ws : List Int) (wi : List (List Int)) (x y : Nat) (a b : Int) (h : gameB X Y ws wi = true) (hx : x < X) (hy : y < Y) (ha : 0 ≤ a ∧ a ≤ 1) (hb : 0 ≤ b ∧ b ≤ 1) : PC Try.prog 125 [.g [dI X, dI Y, eI ws, eII wi], .c (dI x), .c (dI y), .c (dI a), .c (dI b)] (.p (.c (dI (atZ ws ((x : Int) * Y + y) * atZ (atZ wi ((x : Int) * Y + y)) (2 * a + b))))) := by
  have ok := pair_ok h hx hy
  have o1 := ok.lt2; have o2 := ok.ge; have o3 := ok.le; have o4 := ok.g1; have o5 := ok.g2; have o6 := ok.lt; have o7 := ok.len
  have ob := ok.bit (2 * a + b) (by omega) (by omega)
  have m := mul01 ⟨ok.w0, ok.w1⟩ ob
  refine pc_intro Try.func125 rfl rfl rfl (by kernel_rfl) rfl rfl ?_; intro _
  repeat' (first | (refine so_is (.box 27 _) ?_; refine so_box rfl rfl ?_) | (refine so_is (.assign _) ?_; (refine so_q (qt_asC rfl) rfl ?_)) | (refine so_is (.fieldAddr 27 _ 2) ?_; (refine so_q (qt_fld_lp (off := 2) rfl (by kernel_rfl)) rfl ?_)) | (refine so_is (.load 24 _) ?_; (first | refine so_q (qt_load_box rfl rfl (by kernel_rfl) rfl) rfl ?_ | refine so_q (qt_load_pt rfl (by kernel_rfl) rfl) rfl ?_)) | (refine so_is (.move _) ?_; (refine so_q (qt_mvC rfl) rfl ?_)) | (refine so_is (.fieldAddr 27 _ 1) ?_; (refine so_q (qt_fld_lp (off := 1) rfl (by kernel_rfl)) rfl ?_)) | (refine so_is (.load 3 _) ?_; (first | refine so_q (qt_load_box rfl rfl (by kernel_rfl) rfl) rfl ?_ | refine so_q (qt_load_pt rfl (by kernel_rfl) rfl) rfl ?_)) | (refine so_is (.binOp .mul 3 _ _ _) ?_; refine so_q (qt_mulI rfl rfl (by (omega))) rfl ?_) | (refine so_is (.binOp .add 3 _ _ _) ?_; refine so_q (qt_addI rfl rfl (by (omega))) rfl ?_) | (refine so_is (.indexAddr 24 _ _) ?_; (refine so_q (qt_idxI rfl rfl (by kernel_rfl) (by (omega)) (by (omega))) rfl ?_)) | (refine so_is (.fieldAddr 27 _ 3) ?_; (refine so_q (qt_fld_lp (off := 3) rfl (by kernel_rfl)) rfl ?_)) | (refine so_is (.load 25 _) ?_; (refine so_q (qt_load_box rfl rfl (by kernel_rfl) rfl) rfl ?_)) | (refine so_is (.indexAddr 25 _ _) ?_; (refine so_q (qt_idxII rfl rfl (by kernel_rfl) (by (omega)) (by (omega))) rfl ?_)) | refine so_nil ?_ | refine sk_seq ?_ | refine sk_region ?_ | refine sk_drawQ 1 (fun _ => false) (.step 0 true (.step 1 true (.step 2 true (.step 3 true (.step 4 true (.step 5 true (.step 6 true (.step 7 true (.step 8 true (.step 9 true (.step 10 true (.step 11 true (.step 12 true (.step 13 true (.step 14 true (.step 15 true (.step 16 true (.step 17 true (.step 18 true (.step 19 true (.step 20 true (.step 21 true (.step 22 true (.step 23 true (.step 24 true (.step 25 true (.step 26 true (.step 27 true .nil)))))))))))))))))))))))))))) [(0, 268435455, 268435455, true), (1, 268435454, 268435455, false), (0, 268435455, 268435455, true), (0, 268435455, 268435455, true), (8, 268435447, 268435455, false), (20, 268435435, 268435455, true), (0, 268435455, 268435455, true), (96, 268435359, 268435455, true), (130, 268435325, 268435455, true), (256, 268435199, 268435455, false), (0, 268435455, 268435455, true), (1024, 268434431, 268435455, false), (0, 268435455, 268435455, true), (0, 268435455, 268435455, true), (8192, 268427263, 268435455, false), (20480, 268414975, 268435455, true), (0, 268435455, 268435455, true), (98304, 268337151, 268435455, true), (133120, 268302335, 268435455, true), (262144, 268173311, 268435455, false), (0, 268435455, 268435455, true), (1048576, 267386879, 268435455, true), (0, 268435455, 268435455, true), (6291456, 262143999, 268435455, true), (8912896, 259522559, 268435455, true), (16777216, 251658239, 268435455, false), (33554944, 234880511, 268435455, true), (134217727, 201326591, 268435455, true)] (by kernel_rfl) (by kernel_rfl) ?_)
  all_goals (apply sk_ret; apply ret_eq; (· apply RetOK.p; (· (apply GvA.cons; (· exact .tmp _); (· exact GvP.c (.lit _))); exact GvA.nil); (· (decide))))
  all_goals rfl
theorem l4Score_p (X Y : Nat) (ws : List Int) (wi : List (List Int)) (pl : List Int) (h : gameB X Y ws wi = true) (hp : bitsB pl ((X : Int) + Y) = true) : PC Try.prog 108 [.g [dI X, dI Y, eI ws, eII wi], .c (eI pl)] (.p (.c (dI (scoG X Y ws wi pl)))) := by
  obtain ⟨x, y, e1, e2, hx, hy, wl, il, h9⟩ := game_nat h
  obtain rfl : X = x := by omega
  obtain rfl : Y = y := by omega
  have pln := bitsB_len hp
  have sb := fun m => scoN_bd h hp (m := m)
  refine pc_intro Try.func108 rfl rfl rfl (by kernel_rfl) rfl rfl ?_; intro _
  repeat' (first | (refine so_is (.box 27 _) ?_; refine so_box rfl rfl ?_) | (refine so_is (.assign _) ?_; (refine so_q (qt_asC rfl) rfl ?_)) | refine so_nil ?_ | refine sk_seq ?_ | refine sk_block ?_ | refine sk_region ?_)
  apply sk_packC [1, 2, 5, 6] [2] rfl; (· (repeat (first | exact Pf.nil | apply Pf.cons (.c rfl (.d rfl)) | apply Pf.cons (.c rfl (.lp rfl))))); (· (repeat (first | exact Pb.nil | (apply Pb.cons; (· apply Nb.box rfl; (repeat (first | exact Ncs.nil rfl | (apply Ncs.cons rfl; (· (exact .d rfl))))))))))
  refine sk_loopL [1, 2] [2] (fun i => [(6, iN i), (5, iZ (accT (scoT X Y ws wi pl) (Y * i)))]) (fun _ => []) (fun i => i ≤ X) (fun i => X - i) (0) ?_ (by (repeat (first | exact trivial | refine ⟨(by (rfl)), ?_⟩))) (by (repeat (exact trivial))) ?_
  · omega
  intro i hi
  by_cases hi2 : i < X
  · repeat' (first | (refine so_is (.assign _) ?_; (refine so_q (qt_asC rfl) rfl ?_)) | (refine so_is (.move _) ?_; (refine so_q (qt_mvC rfl) rfl ?_)) | (refine so_is (.fieldAddr 27 _ 0) ?_; (refine so_q (qt_fld_lp (off := 0) rfl (by kernel_rfl)) rfl ?_)) | (refine so_is (.load 3 _) ?_; (refine so_q (qt_load_box rfl rfl (by kernel_rfl) rfl) rfl ?_)) | (refine so_is (.binOp .lss 3 _ _ _) ?_; refine so_q (qt_lss rfl rfl) rfl ?_) | refine so_nil ?_ | refine sk_seq ?_ | refine sk_block ?_ | refine sk_exit rfl ?_ | refine sk_skip ?_ | refine sk_region ?_ | refine sk_if rfl (fun hc => ?_) (fun hc => ?_))
    all_goals first | (exfalso; omega) | skip
    apply sk_packC [1, 2, 5, 6, 7] [2] rfl; (· (repeat (first | exact Pf.nil | apply Pf.cons (.c rfl (.d rfl)) | apply Pf.cons (.c rfl (.lp rfl))))); (· (repeat (first | exact Pb.nil | (apply Pb.cons; (· apply Nb.box rfl; (repeat (first | exact Ncs.nil rfl | (apply Ncs.cons rfl; (· (exact .d rfl))))))))))
    refine sk_loopL [1, 2, 6] [2] (fun k => [(7, iN k), (5, iZ (accT (scoT X Y ws wi pl) (Y * i + k)))]) (fun _ => []) (fun k => k ≤ Y) (fun k => Y - k) (0) ?_ (by (repeat (first | exact trivial | refine ⟨(by (rfl)), ?_⟩))) (by (repeat (exact trivial))) ?_
    · omega
    intro k hk
    by_cases hk2 : k < Y
    · have f := flip4 hp hi2 hk2
      have e := scoT_at (X := X) ws wi pl (i := i) hk2
      have e3 : accT (scoT X Y ws wi pl) (Y * i + (k + 1)) = accT (scoT X Y ws wi pl) (Y * i + k) + atZ ws ((i : Int) * Y + k) * atZ (atZ wi ((i : Int) * Y + k)) (2 * atZ pl (i : Int) + atZ pl ((X : Int) + k)) := by rw [← Nat.add_assoc, ← e]; rfl
      have lt := idx_ltN (i := i) (k := k) (X := X) (Y := Y) hi2 hk2
      have b1 := sb (Y * i + k) (by omega)
      have b2 := sb (Y * i + (k + 1)) (by omega)
      rw [e3] at b2
      have w := l4Won_p X Y ws wi i k (atZ pl (i : Int)) (atZ pl ((X : Int) + k)) h hi2 hk2 f.1 f.2.1
      generalize atZ ws ((i : Int) * Y + k) * atZ (atZ wi ((i : Int) * Y + k)) (2 * atZ pl (i : Int) + atZ pl ((X : Int) + k)) = v at *
      clear e sb
      repeat' (first | (refine so_is (.assign _) ?_; (refine so_q (qt_asC rfl) rfl ?_)) | (refine so_is (.move _) ?_; (refine so_q (qt_mvC rfl) rfl ?_)) | (refine so_is (.fieldAddr 27 _ 0) ?_; (refine so_q (qt_fld_lp (off := 0) rfl (by kernel_rfl)) rfl ?_)) | (refine so_is (.load 3 _) ?_; (first | refine so_q (qt_load_box rfl rfl (by kernel_rfl) rfl) rfl ?_ | refine so_q (qt_load_pt rfl (by kernel_rfl) rfl) rfl ?_)) | (refine so_is (.binOp .lss 3 _ _ _) ?_; refine so_q (qt_lss rfl rfl) rfl ?_) | (refine so_is (.fieldAddr 27 _ 1) ?_; (refine so_q (qt_fld_lp (off := 1) rfl (by kernel_rfl)) rfl ?_)) | (refine so_is (.load 27 _) ?_; (refine so_q (qt_load_boxs rfl rfl (by kernel_rfl : tAgg _ 27 4 = true) rfl) rfl ?_)) | (refine so_is (.indexAddr 24 _ _) ?_; (refine so_q (qt_idxI rfl rfl (by kernel_rfl) (by (omega)) (by (omega))) rfl ?_)) | (refine so_is (.binOp .add 3 _ _ _) ?_; refine so_q (qt_addI rfl rfl (by (omega))) rfl ?_) | (refine so_is (.call ⟨.value (.func 125), _, _⟩) ?_; (apply so_call0 (fid := 125); (· (repeat (first | exact SeA.nil | apply SeA.cons (.c (.d _)) | (apply SeA.cons; (· (apply SeP.g; (repeat (first | exact SeL.nil | apply SeL.cons (.d _))))))))); (· exact w); (· rfl))) | refine so_nil ?_ | refine sk_seq ?_ | refine sk_block ?_ | refine sk_blk ?_ | refine sk_exit rfl ?_ | refine sk_skip ?_ | refine sk_region ?_ | refine sk_drawQ 8 (fun _ => false) (.step 0 true (.step 1 true (.step 2 true (.step 3 true (.step 4 true (.step 5 true (.step 6 true (.step 7 true (.step 8 true (.step 9 true (.step 10 true (.step 11 true (.step 12 true (.step 13 true (.step 14 true (.step 15 false (.step 16 true (.step 17 true .nil)))))))))))))))))) [(0, 262143, 262143, true), (0, 262143, 262143, false), (0, 262143, 262143, true), (0, 262143, 262143, true), (0, 262143, 262143, true), (0, 262143, 262143, true), (48, 262095, 262143, true), (64, 262079, 262143, false), (0, 262143, 262143, true), (0, 262143, 262143, true), (512, 261631, 262143, false), (0, 262143, 262143, true), (3072, 259071, 262143, true), (4352, 257791, 262143, true), (8192, 253951, 262143, false), (16526, 245617, 262143, false), (32769, 229374, 262143, true), (131071, 196606, 262143, true)] (by kernel_rfl) (by kernel_rfl) ?_ | refine sk_if rfl (fun hc => ?_) (fun hc => ?_))
      all_goals first | (exfalso; omega) | skip
      refine sk_back ?_; refine ⟨k + 1, ?_, ?_, le_at rfl (by (repeat (first | exact trivial | refine ⟨(by (first | rfl | (refine int_eq rfl ?_; (omega)))), ?_⟩))) (by (repeat (first | exact trivial | refine ⟨rfl, ?_⟩))) (by (repeat (exact trivial))) (by (repeat (first | exact trivial | refine ⟨.inr rfl, ?_⟩)))⟩
      · omega
      · omega
    · have e : k = Y := by omega
      subst e
      repeat' (first | (refine so_is (.assign _) ?_; (refine so_q (qt_asC rfl) rfl ?_)) | (refine so_is (.move _) ?_; (refine so_q (qt_mvC rfl) rfl ?_)) | (refine so_is (.fieldAddr 27 _ 0) ?_; (refine so_q (qt_fld_lp (off := 0) rfl (by kernel_rfl)) rfl ?_)) | (refine so_is (.load 3 _) ?_; (first | refine so_q (qt_load_box rfl rfl (by kernel_rfl) rfl) rfl ?_ | refine so_q (qt_load_pt rfl (by kernel_rfl) rfl) rfl ?_)) | (refine so_is (.binOp .lss 3 _ _ _) ?_; refine so_q (qt_lss rfl rfl) rfl ?_) | (refine so_is (.fieldAddr 27 _ 1) ?_; (refine so_q (qt_fld_lp (off := 1) rfl (by kernel_rfl)) rfl ?_)) | (refine so_is (.load 27 _) ?_; (refine so_q (qt_load_boxs rfl rfl (by kernel_rfl : tAgg _ 27 4 = true) rfl) rfl ?_)) | (refine so_is (.indexAddr 24 _ _) ?_; (refine so_q (qt_idxI rfl rfl (by kernel_rfl) (by (omega)) (by (omega))) rfl ?_)) | (refine so_is (.binOp .add 3 _ _ _) ?_; refine so_q (qt_addI rfl rfl (by (omega))) rfl ?_) | refine so_nil ?_ | refine sk_seq ?_ | refine sk_block ?_ | refine sk_blk ?_ | refine sk_exit rfl ?_ | refine sk_skip ?_ | refine sk_region ?_ | refine sk_drawQ 8 (fun _ => false) (.step 0 true (.step 1 true (.step 2 true (.step 3 true (.step 4 true (.step 5 true (.step 6 true (.step 7 true (.step 8 true (.step 9 true (.step 10 true (.step 11 true (.step 12 true (.step 13 true (.step 14 true (.step 15 false (.step 16 true (.step 17 true .nil)))))))))))))))))) [(0, 262143, 262143, true), (0, 262143, 262143, false), (0, 262143, 262143, true), (0, 262143, 262143, true), (0, 262143, 262143, true), (0, 262143, 262143, true), (48, 262095, 262143, true), (64, 262079, 262143, false), (0, 262143, 262143, true), (0, 262143, 262143, true), (512, 261631, 262143, false), (0, 262143, 262143, true), (3072, 259071, 262143, true), (4352, 257791, 262143, true), (8192, 253951, 262143, false), (16526, 245617, 262143, false), (32769, 229374, 262143, true), (131071, 196606, 262143, true)] (by kernel_rfl) (by kernel_rfl) ?_ | refine sk_if rfl (fun hc => ?_) (fun hc => ?_))
      all_goals first | (exfalso; omega) | skip
      refine sk_back ?_; refine ⟨i + 1, ?_, ?_, le_at rfl (by (repeat (first | exact trivial | refine ⟨(by (rfl)), ?_⟩))) (by (repeat (first | exact trivial | refine ⟨rfl, ?_⟩))) (by (repeat (exact trivial))) (by (repeat (first | exact trivial | refine ⟨.inr rfl, ?_⟩)))⟩
      · omega
      · omega
  · have e : i = X := by omega
    subst e
    repeat' (first | (refine so_is (.assign _) ?_; (refine so_q (qt_asC rfl) rfl ?_)) | (refine so_is (.move _) ?_; (refine so_q (qt_mvC rfl) rfl ?_)) | (refine so_is (.fieldAddr 27 _ 0) ?_; (refine so_q (qt_fld_lp (off := 0) rfl (by kernel_rfl)) rfl ?_)) | (refine so_is (.load 3 _) ?_; (refine so_q (qt_load_box rfl rfl (by kernel_rfl) rfl) rfl ?_)) | (refine so_is (.binOp .lss 3 _ _ _) ?_; refine so_q (qt_lss rfl rfl) rfl ?_) | refine so_nil ?_ | refine sk_seq ?_ | refine sk_block ?_ | refine sk_exit rfl ?_ | refine sk_skip ?_ | refine sk_region ?_ | refine sk_if rfl (fun hc => ?_) (fun hc => ?_))
    all_goals first | (exfalso; omega) | skip
    (apply sk_ret; apply ret_eq; (· apply RetOK.p; (· (apply GvA.cons; (· exact .tmp _); (· exact GvP.c (.lit _))); exact GvA.nil); (· (decide))))
    rfl
theorem l4Best_v (X Y : Nat) (ws : List Int) (wi : List (List Int)) (h : gameB X Y ws wi = true) : PV Try.prog 107 [.g [dI X, dI Y, eI ws, eII wi]] (.p (.c (eI (bestG X Y ws wi)))) := by
  obtain ⟨x, y, e1, e2, hx, hy, wl, il, h9⟩ := game_nat h
  obtain rfl : X = x := by omega
  obtain rfl : Y = y := by omega
  have pl := l2Plays_p X Y (by omega)
  have Pl : (playsF (X + Y)).length = 2 ^ (X + Y) := playsF_len _
  have Pa := fun k (hk : k < 2 ^ (X + Y)) => playsF_at (n := X + Y) hk
  have hN : 0 < 2 ^ (X + Y) := Nat.two_pow_pos _
  have hN2 : 2 ^ (X + Y) ≤ 2 ^ 6 := Nat.pow_le_pow_right (by omega) (by omega)
  have sc : ∀ c, PC Try.prog 108 [.g [dI X, dI Y, eI ws, eII wi], .c (eI (bitsM (X + Y) c))] (.p (.c (dI (playN X Y ws wi c)))) := fun c => l4Score_p X Y ws wi _ h (by rw [← Int.natCast_add]; exact bitsM_bits _ _)
  have b1 : bstT (playN X Y ws wi) 1 = 0 := bstT_yes (.inl rfl)
  have p0 := Pa 0 hN
  unfold bestG bestC
  generalize playN X Y ws wi = s at *
  generalize playsF (X + Y) = P at *
  generalize 2 ^ (X + Y) = N at *
  generalize X + Y = m at *
  refine pv_intro Try.func107 rfl rfl rfl (by kernel_rfl) rfl rfl ?_; intro X c0 _
  repeat' (first | (refine so_is (.box 27 _) ?_; refine so_box rfl rfl ?_) | (refine so_is (.assign _) ?_; (refine so_q (qt_asC rfl) rfl ?_)) | (refine so_is (.fieldAddr 27 _ 0) ?_; (refine so_q (qt_fld_lp (off := 0) rfl (by kernel_rfl)) rfl ?_)) | (refine so_is (.load 3 _) ?_; (refine so_q (qt_load_box rfl rfl (by kernel_rfl) rfl) rfl ?_)) | (refine so_is (.fieldAddr 27 _ 1) ?_; (refine so_q (qt_fld_lp (off := 1) rfl (by kernel_rfl)) rfl ?_)) | (refine so_is (.move _) ?_; (refine so_q (qt_mvC rfl) rfl ?_)) | (refine so_is (.indexAddr 25 _ _) ?_; (refine so_q (qt_idxII rfl rfl (by kernel_rfl) (by (omega)) (by (omega))) rfl ?_)) | (refine so_is (.load 24 _) ?_; (refine so_q (qt_load_pt rfl (by kernel_rfl) rfl) rfl ?_)) | (refine so_is (.call ⟨.value (.func 96), _, _⟩) ?_; (apply so_call0 (fid := 96); (· (repeat (first | exact SeA.nil | apply SeA.cons (.c (.d _))))); (· exact pl); (· rfl))) | refine so_nil ?_ | refine sk_seq ?_ | refine sk_block ?_ | refine sk_region ?_)
  all_goals first | (exfalso; omega) | skip
  apply sk_packC [1, 3, 4, 5] [1, 10, 900000000] rfl; (· (repeat (first | exact Pf.nil | apply Pf.cons (.c rfl (.d rfl)) | apply Pf.cons (.c rfl (.lp rfl))))); (· (repeat (first | exact Pb.nil | (apply Pb.cons; (· apply Nb.box rfl; (repeat (first | exact Ncs.nil rfl | (apply Ncs.cons rfl; (· (exact .d rfl))))))) | apply Pb.cons (.any rfl) | apply Pb.skip)))
  refine sk_loopL [1, 3] [1, 10, 900000000] (fun i => [(5, iN (i + 1)), (4, .c (.d (eI (bitsM m (bstT s (i + 1))))))]) (fun _ => []) (fun i => i + 1 ≤ N) (fun i => N - i) (0) ?_ (by (repeat (first | exact trivial | refine ⟨(by (first | rfl | (refine d_eq rfl ?_; ((simp  [b1, ← p0]; done))))), ?_⟩))) (by (repeat (exact trivial))) ?_
  · omega
  intro i hi
  by_cases hi2 : i + 1 < N
  · have pa := Pa (i + 1) hi2
    have sc1 := sc (i + 1)
    have sc2 := sc (bstT s (i + 1))
    rw [← pa] at sc1
    repeat' (first | (refine so_is (.assign _) ?_; (refine so_q (qt_asC rfl) rfl ?_)) | (refine so_is (.move _) ?_; (refine so_q (qt_mvC rfl) rfl ?_)) | (refine so_is (.indexAddr 25 _ _) ?_; (refine so_q (qt_idxII rfl rfl (by kernel_rfl) (by (omega)) (by (omega))) rfl ?_)) | (refine so_is (.load 24 _) ?_; (refine so_q (qt_load_pt rfl (by kernel_rfl) rfl) rfl ?_)) | (refine so_is (.call ⟨.builtin .len, _, #[25]⟩) ?_; (refine so_q (qt_len_d rfl (by kernel_rfl)) rfl ?_)) | (refine so_is (.binOp .lss 3 _ _ _) ?_; refine so_q (qt_lss rfl rfl) rfl ?_) | (refine so_is (.load 27 _) ?_; (refine so_q (qt_load_boxs rfl rfl (by kernel_rfl : tAgg _ 27 4 = true) rfl) rfl ?_)) | (refine so_is (.binOp .gtr 3 _ _ _) ?_; refine so_q (qt_gtr rfl rfl) rfl ?_) | (refine so_is (.binOp .add 3 _ _ _) ?_; refine so_q (qt_addI rfl rfl (by (omega))) rfl ?_) | (refine so_is (.call ⟨.value (.func 108), _, _⟩) ?_; (first | (apply so_call0 (fid := 108); (· (repeat (first | exact SeA.nil | apply SeA.cons (.c (.d _)) | (apply SeA.cons; (· (apply SeP.g; (repeat (first | exact SeL.nil | apply SeL.cons (.d _))))))))); (· exact sc1); (· rfl)) | (apply so_call0 (fid := 108); (· (repeat (first | exact SeA.nil | apply SeA.cons (.c (.d _)) | (apply SeA.cons; (· (apply SeP.g; (repeat (first | exact SeL.nil | apply SeL.cons (.d _))))))))); (· exact sc2); (· rfl)))) | refine so_nil ?_ | refine sk_seq ?_ | refine sk_block ?_ | refine sk_blk ?_ | refine sk_exit rfl ?_ | refine sk_skip ?_ | refine sk_region ?_ | refine sk_drawQ 6 (fun _ => false) (.step 0 true (.step 1 true (.step 2 true (.step 3 true (.step 4 true (.step 6 true (.step 7 true (.step 5 false (.step 8 false (.step 9 true .nil)))))))))) [(0, 1023, 1023, false), (0, 1023, 1023, true), (0, 1023, 1023, true), (6, 1017, 1023, true), (8, 1015, 1023, false), (17, 1006, 1023, false), (0, 1023, 1023, false), (0, 1023, 1023, true), (224, 831, 1023, false), (288, 735, 1023, true)] (by kernel_rfl) (by kernel_rfl) ?_ | refine sk_if rfl (fun hc => ?_) (fun hc => ?_))
    all_goals first | (exfalso; omega) | skip
    · have y1 := bstT_yes (s := s) (t := i + 1) (.inr (by omega))
      refine sk_back ?_; refine ⟨i + 1, ?_, ?_, le_at rfl (by (repeat (first | exact trivial | refine ⟨(by (first | rfl | (refine d_eq rfl ?_; ((simp  [y1, ← pa]; done))))), ?_⟩))) (by (repeat (first | exact trivial | refine ⟨rfl, ?_⟩))) (by (repeat (exact trivial))) (by (repeat (first | exact trivial | refine ⟨.inr rfl, ?_⟩)))⟩
      · omega
      · omega
    · have y1 := bstT_no (s := s) (t := i + 1) (by omega) (by omega)
      refine sk_back ?_; refine ⟨i + 1, ?_, ?_, le_at rfl (by (repeat (first | exact trivial | refine ⟨(by (first | rfl | (refine d_eq rfl ?_; ((simp  [y1]; done))))), ?_⟩))) (by (repeat (first | exact trivial | refine ⟨rfl, ?_⟩))) (by (repeat (exact trivial))) (by (repeat (first | exact trivial | refine ⟨.inr rfl, ?_⟩)))⟩
      · omega
      · omega
  · have e : N = i + 1 := by omega
    subst e
    repeat' (first | (refine so_is (.assign _) ?_; (refine so_q (qt_asC rfl) rfl ?_)) | (refine so_is (.move _) ?_; (refine so_q (qt_mvC rfl) rfl ?_)) | (refine so_is (.indexAddr 25 _ _) ?_; (refine so_q (qt_idxII rfl rfl (by kernel_rfl) (by (omega)) (by (omega))) rfl ?_)) | (refine so_is (.load 24 _) ?_; (refine so_q (qt_load_pt rfl (by kernel_rfl) rfl) rfl ?_)) | (refine so_is (.call ⟨.builtin .len, _, #[25]⟩) ?_; (refine so_q (qt_len_d rfl (by kernel_rfl)) rfl ?_)) | (refine so_is (.binOp .lss 3 _ _ _) ?_; refine so_q (qt_lss rfl rfl) rfl ?_) | (refine so_is (.load 27 _) ?_; (refine so_q (qt_load_boxs rfl rfl (by kernel_rfl : tAgg _ 27 4 = true) rfl) rfl ?_)) | refine so_nil ?_ | refine sk_seq ?_ | refine sk_block ?_ | refine sk_exit rfl ?_ | refine sk_skip ?_ | refine sk_region ?_ | refine sk_drawQ 6 (fun _ => false) (.step 0 true (.step 1 true (.step 2 true (.step 3 true (.step 4 true (.step 6 true (.step 7 true (.step 5 false (.step 8 false (.step 9 true .nil)))))))))) [(0, 1023, 1023, false), (0, 1023, 1023, true), (0, 1023, 1023, true), (6, 1017, 1023, true), (8, 1015, 1023, false), (17, 1006, 1023, false), (0, 1023, 1023, false), (0, 1023, 1023, true), (224, 831, 1023, false), (288, 735, 1023, true)] (by kernel_rfl) (by kernel_rfl) ?_ | refine sk_if rfl (fun hc => ?_) (fun hc => ?_))
    all_goals first | (exfalso; omega) | skip
    (apply sk_retv; apply retv_eq; (· apply RetV.p rfl; (· (apply RvA.cons; (· exact .tmp _); (· (exact RvP.c (.d _)))); exact RvA.nil)))
    rfl
theorem spBestPlay_v (X Y : Nat) (ws : List Int) (wi : List (List Int)) (h : gameB X Y ws wi = true) : PV Try.prog 20 [.g [dI X, dI Y, eI ws, eII wi]] (.t [.c (eI (bestG X Y ws wi)), .c (dI (valueG X Y ws wi)), .c (dB true)]) := by
  have i1 := l4Game_p X Y ws wi
  rw [h] at i1
  have lb := l4Best_v X Y ws wi h
  have ls : PC Try.prog 108 [.g [dI X, dI Y, eI ws, eII wi], .c (eI (bestG X Y ws wi))] (.p (.c (dI (valueG X Y ws wi)))) := l4Score_p X Y ws wi _ h (by rw [← Int.natCast_add]; exact bitsM_bits _ _)
  refine pv_intro Try.func20 rfl rfl rfl (by kernel_rfl) rfl rfl ?_; intro X c0 _
  repeat' (first | (refine so_is (.box 27 _) ?_; refine so_box rfl rfl ?_) | (refine so_is (.assign _) ?_; (refine so_q (qt_asC rfl) rfl ?_)) | (refine so_is (.load 27 _) ?_; (refine so_q (qt_load_boxs rfl rfl (by kernel_rfl : tAgg _ 27 4 = true) rfl) rfl ?_)) | (refine so_is (.unOp .not 4 _) ?_; refine so_q (qt_not rfl) rfl ?_) | (refine so_is (.move _) ?_; (refine so_q (qt_mvC rfl) rfl ?_)) | (refine so_is (.call ⟨.value (.func 85), _, _⟩) ?_; ((apply so_call0 (fid := 85); (· (repeat (first | exact SeA.nil | (apply SeA.cons; (· (apply SeP.g; (repeat (first | exact SeL.nil | apply SeL.cons (.d _))))))))); (· exact i1); (· rfl)))) | (refine so_is (.call ⟨.value (.func 107), _, _⟩) ?_; ((apply so_callV (fid := 107); (· (repeat (first | exact SdA.nil | (apply SdA.g rfl; (· (repeat (first | exact SdL.nil | apply SdL.cons))))))); (· exact lb); (· rfl)))) | (refine so_is (.call ⟨.value (.func 108), _, _⟩) ?_; ((apply so_call0 (fid := 108); (· (repeat (first | exact SeA.nil | apply SeA.cons (.c (.d _)) | (apply SeA.cons; (· (apply SeP.g; (repeat (first | exact SeL.nil | apply SeL.cons (.d _))))))))); (· exact ls); (· rfl)))) | refine so_nil ?_ | refine sk_seq ?_ | refine sk_skip ?_ | refine sk_region ?_ | refine sk_false rfl ?_)
  all_goals (apply sk_retv; apply retv_eq; (· apply RetV.t rfl; (· (apply RvA.cons; (· exact .tmp _); (· (exact RvP.c (.d _)))); (apply RvA.cons; (· exact .tmp _); (· exact RvP.c (.d _))); (apply RvA.cons; (· exact .tmp _); (· exact RvP.c (.d _))); exact RvA.nil); (· rfl)))
  all_goals rfl
end Go.Proofs.Ytefbiejoikpkmaa

namespace Go.Proofs.Ytefbiejoikpkmaa
open Go.RowKit
set_option linter.unusedSectionVars false
variable [Glb]
set_option maxRecDepth 10000
set_option maxHeartbeats 4000000
end Go.Proofs.Ytefbiejoikpkmaa

namespace Go.Proofs.Ytefbiejoikpkmaa
open Go.RowKit
set_option linter.unusedSectionVars false
variable [Glb]
set_option maxRecDepth 10000
set_option maxHeartbeats 4000000
theorem asked_p (X Y : Int) (ws : List Int) (wi : List (List Int)) (fs ss fl : List Int) (h : gameB X Y ws wi = true) (hf : ∀ x ∈ fs, 0 ≤ x ∧ x < X) (hs : ∀ y ∈ ss, 0 ≤ y ∧ y < Y) (hfl : bitsB fl (X + Y) = true) (f3 : fs.length ≤ 3) (s3 : ss.length ≤ 3) :
    PC Try.prog 93 [.g [dI X, dI Y, eI ws, eII wi], .c (eI fs), .c (eI ss), .c (eI fl)] (.p (.g [dI fs.length, dI ss.length, eI (pairsF (askW Y ws) fs ss), eII (pairsF (askR X Y wi fl) fs ss)])) := by
  have hg := gameB_spec h
  have g1 := hg.x1; have g2 := hg.x3; have g3 := hg.y1; have g4 := hg.y3; have g5 := hg.wl; have g6 := hg.il
  have hlf := bitsB_len hfl
  have hXY := mul_bd3 (sizeB_iff.2 ⟨⟨g1, g2⟩, g3, g4⟩)
  have hsf : ss.length * fs.length ≤ 3 * 3 := Nat.mul_le_mul s3 f3
  refine pc_intro Try.func93 rfl rfl rfl (by kernel_rfl) rfl rfl ?_; intro _
  repeat' (first | (refine so_is (.box 27 _) ?_; refine so_box rfl rfl ?_) | (refine so_is (.alloc 27) ?_; refine so_alloc (zs := [.int .i64 0, .int .i64 0, .slice none 0 0, .slice none 0 0]) (by kernel_rfl) rfl ?_) | (refine so_is (.move _) ?_; (refine so_q (qt_mvC rfl) rfl ?_)) | (refine so_is (.call ⟨.builtin .len, _, #[24]⟩) ?_; (refine so_q (qt_len_d rfl (by kernel_rfl)) rfl ?_)) | (refine so_is (.build 27 _) ?_; refine so_q (qt_build (cs := [_, _, _, _]) [(0, 1), (1, 1), (2, 1), (3, 1)] [.int .i64 0, .int .i64 0, .slice none 0 0, .slice none 0 0] (by kernel_rfl) (by kernel_rfl) rfl) rfl ?_) | (refine so_is (.store 27 _ _) ?_; (refine so_store_box rfl rfl rfl (by kernel_rfl) rfl rfl ?_)) | refine so_nil ?_ | refine sk_seq ?_ | refine sk_block ?_ | refine sk_region ?_)
  refine sk_ghost (sim_nil_box 9 2 78 1 rfl (by decide) rfl rfl rfl) ?_
  refine sk_ghost (sim_nil_box 9 3 83 1 rfl (by decide) rfl rfl rfl) ?_
  apply sk_packC [2, 3, 4, 8, 9, 22, 23, 24] [4, 8, 9, 40, 67, 68, 77, 78, 82, 83] rfl; (· (repeat (first | exact Pf.nil | apply Pf.cons (.c rfl (.d rfl)) | apply Pf.cons (.c rfl (.lp rfl))))); (· (repeat (first | exact Pb.nil | apply Pb.cons (.row rfl) | (apply Pb.cons; (· apply Nb.box rfl; (repeat (first | exact Ncs.nil rfl | (apply Ncs.cons rfl; (· (first | exact .d rfl | exact .ls rfl))))))) | apply Pb.skip)))
  refine sk_loopL [2, 3, 4, 8, 9, 22, 23] [4, 8, 40, 67, 68, 77, 82] (fun i => [(24, iN i)]) (fun i => [(9, .box [.d (dI fs.length), .d (dI ss.length), .ls 78 1 0 (ss.length * i), .ls 83 1 0 (ss.length * i)]), (78, .row 1 (cI (pairsP (askW Y ws) fs ss i 0))), (83, .row 1 (cII (pairsP (askR X Y wi fl) fs ss i 0)))]) (fun i => i ≤ fs.length) (fun i => fs.length - i) (0) ?_ (by (repeat (first | exact trivial | refine ⟨(by (rfl)), ?_⟩))) (by (repeat (first | exact trivial | refine ⟨(by (first | (refine box_eq rfl ?_; simp; done) | rfl)), ?_⟩))) ?_
  · omega
  intro i hi
  repeat' (first | (refine so_is (.move _) ?_; (refine so_q (qt_mvC rfl) rfl ?_)) | (refine so_is (.call ⟨.builtin .len, _, #[24]⟩) ?_; (refine so_q (qt_len_d rfl (by kernel_rfl)) rfl ?_)) | (refine so_is (.store 27 _ _) ?_; (refine so_store_box rfl rfl rfl (by kernel_rfl) rfl rfl ?_)) | (refine so_is (.binOp .lss 3 _ _ _) ?_; refine so_q (qt_lss rfl rfl) rfl ?_) | (refine so_is (.indexAddr 24 _ _) ?_; (refine so_q (qt_idxI rfl rfl (by kernel_rfl) (by (omega)) (by (omega))) rfl ?_)) | (refine so_is (.load 3 _) ?_; (refine so_q (qt_load_pt rfl (by kernel_rfl) rfl) rfl ?_)) | (refine so_is (.assign _) ?_; (refine so_q (qt_asC rfl) rfl ?_)) | (refine so_is (.load 27 _) ?_; (refine so_q (qt_load_boxs rfl rfl (by kernel_rfl : tAgg _ 27 4 = true) rfl) rfl ?_)) | refine so_nil ?_ | refine sk_seq ?_ | refine sk_block ?_ | refine sk_exit rfl ?_ | refine sk_skip ?_ | refine sk_region ?_ | refine sk_if rfl (fun hc => ?_) (fun hc => ?_))
  · have hi2 : i < fs.length := by omega
    have fx := hf _ (mem_atZ hi2)
    apply sk_packC [2, 3, 4, 8, 9, 11, 22, 23, 24, 28, 29, 30] [4, 8, 9, 40, 67, 68, 77, 78, 82, 83] rfl; (· (repeat (first | exact Pf.nil | apply Pf.cons (.c rfl (.d rfl)) | apply Pf.cons (.c rfl (.lp rfl))))); (· (repeat (first | exact Pb.nil | apply Pb.cons (.row rfl) | (apply Pb.cons; (· apply Nb.box rfl; (repeat (first | exact Ncs.nil rfl | (apply Ncs.cons rfl; (· (first | exact .d rfl | exact .ls rfl))))))) | apply Pb.skip)))
    refine sk_loopL [2, 3, 4, 8, 9, 11, 22, 23, 24, 28, 29] [4, 8, 40, 67, 68, 77, 82] (fun k => [(30, iN k)]) (fun k => [(9, .box [.d (dI fs.length), .d (dI ss.length), .ls 78 1 0 (ss.length * i + k), .ls 83 1 0 (ss.length * i + k)]), (78, .row 1 (cI (pairsP (askW Y ws) fs ss i k))), (83, .row 1 (cII (pairsP (askR X Y wi fl) fs ss i k)))]) (fun k => k ≤ ss.length) (fun k => ss.length - k) (0) ?_ (by (repeat (first | exact trivial | refine ⟨(by (rfl)), ?_⟩))) (by (repeat (first | exact trivial | refine ⟨(by (first | (refine row_eq rfl ?_; simp; done) | (refine box_eq rfl ?_; simp; done))), ?_⟩))) ?_
    · omega
    intro k hk
    have sy := fun hk2 : k < ss.length => hs _ (mem_atZ hk2)
    have ix := fun hk2 : k < ss.length => idx_lt fx.1 fx.2 (sy hk2).1 (sy hk2).2
    have ik := fun hk2 : k < ss.length => idx_ltN hi2 hk2
    have L1 := pairsP_len (askW Y ws) fs ss hi hk
    have L2 := pairsP_len (askR X Y wi fl) fs ss hi hk
    repeat' (first | (refine so_is (.move _) ?_; (refine so_q (qt_mvC rfl) rfl ?_)) | (refine so_is (.binOp .lss 3 _ _ _) ?_; refine so_q (qt_lss rfl rfl) rfl ?_) | (refine so_is (.indexAddr 24 _ _) ?_; (refine so_q (qt_idxI rfl rfl (by kernel_rfl) (by (omega)) (by (omega))) rfl ?_)) | (refine so_is (.load 3 _) ?_; (first | refine so_q (qt_load_box rfl rfl (by kernel_rfl) rfl) rfl ?_ | refine so_q (qt_load_pt rfl (by kernel_rfl) rfl) rfl ?_)) | (refine so_is (.assign _) ?_; (refine so_q (qt_asC rfl) rfl ?_)) | (refine so_is (.fieldAddr 27 _ 1) ?_; (refine so_q (qt_fld_lp (off := 1) rfl (by kernel_rfl)) rfl ?_)) | (refine so_is (.binOp .mul 3 _ _ _) ?_; refine so_q (qt_mulI rfl rfl (by (omega))) rfl ?_) | (refine so_is (.binOp .add 3 _ _ _) ?_; refine so_q (qt_addI rfl rfl (by (omega))) rfl ?_) | (refine so_is (.buildSlice 24 0 _) ?_; (apply so_bslice (sz := 1) (by_ := 8); (· kernel_rfl); (· decide); (· (repeat (exact GvS.nil _))); (· (decide)); (· rfl); (· rfl); (· rfl))) | refine so_nil ?_ | refine sk_seq ?_ | refine sk_block ?_ | refine sk_blk ?_ | refine sk_exit rfl ?_ | refine sk_skip ?_ | refine sk_region ?_ | refine sk_if rfl (fun hc => ?_) (fun hc => ?_))
    · have hk2 : k < ss.length := by omega
      have sy := sy hk2
      have ix := ix hk2
      have ik := ik hk2
      have ga := (gameB_at h ix.1 ix.2.1).2
      have gl := bitsB_len ga
      have b1 := bitsB_at hfl fx.1 (by omega)
      have b2 := bitsB_at hfl (i := X + atZ ss k) (by omega) (by omega)
      apply sk_packC [2, 3, 4, 8, 9, 11, 13, 14, 15, 22, 23, 24, 28, 29, 30, 41] [4, 8, 9, 40, 67, 68, 77, 78, 82, 83] rfl; (· (repeat (first | exact Pf.nil | apply Pf.cons (.c rfl (.d rfl)) | apply Pf.cons (.c rfl (.ls rfl)) | apply Pf.cons (.c rfl (.lp rfl))))); (· (repeat (first | exact Pb.nil | apply Pb.cons (.row rfl) | (apply Pb.cons; (· apply Nb.box rfl; (repeat (first | exact Ncs.nil rfl | (apply Ncs.cons rfl; (· (first | exact .d rfl | exact .ls rfl))))))) | apply Pb.skip)))
      refine sk_loopL [2, 3, 4, 8, 9, 11, 13, 14, 22, 23, 24, 28, 29, 30] [4, 8, 9, 67, 68, 77, 78, 82, 83] (fun p => [(41, iN p), (15, .c (.ls 40 1 0 p))]) (fun p => [(40, .row 1 (cI (rowF (fun p => atZ (atZ wi (atZ fs i * Y + atZ ss k)) (xor4 p (flipOf fl X (atZ fs i) (atZ ss k)))) p)))]) (fun p => p ≤ 4) (fun p => 4 - p) (0) ?_ (by (repeat (first | exact trivial | refine ⟨(by (rfl)), ?_⟩))) (by (repeat (first | exact trivial | refine ⟨(by (rfl)), ?_⟩))) ?_
      · omega
      intro p hp
      have xe := fun hp4 : p < 4 => xor4_eq (k := p) (m := 2 * atZ fl (atZ fs i) + atZ fl (X + atZ ss k)) hp4 (by omega) (by omega)
      have ag := bitsB_at ga (i := xor4 p (flipOf fl X (atZ fs i) (atZ ss k)))
      repeat' (first | (with_reducible apply so_lt) | intro Y hY | ((with_reducible apply so_j2); (· assumption); (· rfl); (· exact (by (repeat (first | exact trivial | refine ⟨rfl, ?_⟩)))); (· exact (by (repeat (first | exact trivial | refine ⟨rfl, ?_⟩))))) | ((with_reducible apply so_j1); (· rfl); (· (repeat (first | exact Pf.nil | apply Pf.cons (.c rfl (.d rfl)) | apply Pf.cons (.c rfl (.ls rfl)) | apply Pf.cons (.c rfl (.lp rfl))))); (· (repeat (first | exact Pb.nil | apply Pb.cons (.row rfl) | (apply Pb.cons; (· apply Nb.box rfl; (repeat (first | exact Ncs.nil rfl | (apply Ncs.cons rfl; (· (first | exact .d rfl | exact .ls rfl | exact .any _))))))) | apply Pb.skip))); (· assumption)) | refine so_alt ?_ ?_ | (refine so_is (.move _) ?_; (refine so_q (qt_mvC rfl) rfl ?_)) | (refine so_is (.binOp .lss 3 _ _ _) ?_; refine so_q (qt_lss rfl rfl) rfl ?_) | (refine so_is (.indexAddr 24 _ _) ?_; (refine so_q (qt_idxI rfl rfl (by kernel_rfl) (by (omega)) (by (omega))) rfl ?_)) | (refine so_is (.load 3 _) ?_; (first | refine so_q (qt_load_box rfl rfl (by kernel_rfl) rfl) rfl ?_ | refine so_q (qt_load_pt rfl (by kernel_rfl) rfl) rfl ?_)) | (refine so_is (.assign _) ?_; (refine so_q (qt_asC rfl) rfl ?_)) | (refine so_is (.binOp .mul 3 _ _ _) ?_; refine so_q (qt_mulI rfl rfl (by (omega))) rfl ?_) | (refine so_is (.binOp .add 3 _ _ _) ?_; refine so_q (qt_addI rfl rfl (by (omega))) rfl ?_) | (refine so_is (.fieldAddr 27 _ 3) ?_; (refine so_q (qt_fld_lp (off := 3) rfl (by kernel_rfl)) rfl ?_)) | (refine so_is (.load 25 _) ?_; (refine so_q (qt_load_box rfl rfl (by kernel_rfl) rfl) rfl ?_)) | (refine so_is (.indexAddr 25 _ _) ?_; (refine so_q (qt_idxII rfl rfl (by kernel_rfl) (by (omega)) (by (omega))) rfl ?_)) | (refine so_is (.load 24 _) ?_; (first | refine so_q (qt_load_box rfl rfl (by kernel_rfl) rfl) rfl ?_ | refine so_q (qt_load_pt rfl (by kernel_rfl) rfl) rfl ?_)) | (refine so_is (.fieldAddr 27 _ 0) ?_; (refine so_q (qt_fld_lp (off := 0) rfl (by kernel_rfl)) rfl ?_)) | (refine so_is (.binOp .xor 3 _ _ _) ?_; refine so_q (qt_bits rfl rfl (by simp)) rfl ?_) | (refine so_is (.buildSlice 24 1 _) ?_; (apply so_bslice (sz := 1) (by_ := 8); (· kernel_rfl); (· decide); (· (repeat (first | exact GvS.nil _ | apply GvS.c rfl rfl (.lit _) rfl))); (· (decide)); (· rfl); (· rfl); (· rfl))) | (refine so_is (.call ⟨.builtin .append, _, #[24, 24]⟩) ?_; ((apply so_appR (sz := 1) (by_ := 8); (· rfl); (· rfl); (· (first | (simp; done) | (simp; omega))); (· exact .row _ _ _ _ rfl (by ((simp; done)))); (· (decide)); (· kernel_rfl); (· decide); (· (omega)); (· (omega)); (· rfl); (· rfl); (· rfl)))) | (refine so_is (.fieldAddr 27 _ 2) ?_; (refine so_q (qt_fld_lp (off := 2) rfl (by kernel_rfl)) rfl ?_)) | (refine so_is (.buildSlice 25 1 _) ?_; (apply so_bslice (sz := 1) (by_ := 24); (· kernel_rfl); (· decide); (· (repeat (first | exact GvS.nil _ | apply GvS.c rfl rfl (.row _ _ _ _ rfl (by ((simp; done)))) rfl))); (· (decide)); (· rfl); (· rfl); (· rfl))) | (refine so_is (.call ⟨.builtin .append, _, #[25, 25]⟩) ?_; ((apply so_appR (sz := 1) (by_ := 24); (· rfl); (· rfl); (· ((simp; omega))); (· exact .row _ _ _ _ rfl (by ((simp; done)))); (· (decide)); (· kernel_rfl); (· decide); (· (omega)); (· (omega)); (· rfl); (· rfl); (· rfl)))) | (refine so_is (.store 24 _ _) ?_; (refine so_store_box1 rfl rfl rfl rfl (by kernel_rfl) rfl rfl ?_)) | (refine so_is (.store 25 _ _) ?_; (refine so_store_box1 rfl rfl rfl rfl (by kernel_rfl) rfl rfl ?_)) | refine so_nil ?_ | refine sk_seq ?_ | refine sk_block ?_ | refine sk_blk ?_ | refine sk_exit rfl ?_ | refine sk_skip ?_ | refine sk_region ?_ | refine sk_drawQ 12 (fun i => i == 24) (.step 0 true (.step 1 true (.step 2 true (.step 3 true (.step 4 true (.step 5 true (.step 6 true (.step 7 true (.step 8 true (.step 9 true (.step 10 true (.step 11 true (.step 12 true (.step 13 true (.step 14 true (.step 15 true (.step 16 true (.step 17 true (.step 18 true (.step 19 true (.step 20 true (.step 21 true (.step 22 true (.step 23 false (.step 24 false (.step 25 true .nil)))))))))))))))))))))))))) [(0, 67108863, 67108863, true), (0, 67108863, 67108863, true), (2, 67108861, 67108863, false), (0, 67108863, 67108863, true), (12, 67108851, 67108863, true), (16, 67108847, 67108863, false), (0, 67108863, 67108863, true), (0, 67108863, 67108863, true), (0, 67108863, 67108863, true), (384, 67108479, 67108863, true), (512, 67108351, 67108863, false), (1024, 67107839, 67108863, true), (0, 67108863, 67108863, true), (0, 67108863, 67108863, true), (8192, 67100671, 67108863, false), (0, 67108863, 67108863, true), (49152, 67059711, 67108863, true), (69632, 67039231, 67108863, true), (131072, 66977791, 67108863, false), (264192, 66844671, 67108863, true), (524352, 66584511, 67108863, true), (1048608, 66060255, 67108863, true), (2097152, 65011711, 67108863, false), (4194304, 62914559, 67108863, false), (8388609, 58720254, 67108863, false), (33554431, 50331646, 50331647, true)] (by kernel_rfl) (by kernel_rfl) ?_ | refine sk_drawQ 14 (fun i => i == 8 || i == 13 || i == 15 || i == 17) (IT.lt (.step 13 false (.step 15 false (.step 16 true (.step 17 false .nil)))) fun Y5 => (IT.lt (.step 12 false (IT.ref false [2, 3, 4, 8, 9, 11, 22, 23, 24, 28, 29, 30, 78, 80, 82, 84] [4, 8, 9, 40, 67, 68, 77, 78, 82, 83] Y5)) fun Y4 => (IT.lt (.step 8 false (.step 14 true (IT.ref false [2, 3, 4, 8, 9, 11, 22, 23, 24, 28, 29, 30, 78, 80, 82, 84] [4, 8, 9, 40, 67, 68, 77, 78, 82, 83] Y5))) fun Y3 => (IT.lt (.alt 14 (.step 8 false (.step 14 true (IT.ref false [2, 3, 4, 8, 9, 11, 22, 23, 24, 28, 29, 30, 78, 80, 81, 84] [4, 8, 9, 40, 67, 68, 77, 78, 82, 83] Y4))) (.step 12 false (IT.ref false [2, 3, 4, 8, 9, 11, 22, 23, 24, 28, 29, 30, 71, 77, 80, 82] [4, 8, 9, 40, 67, 68, 77, 78, 82, 83] Y3))) fun Y2 => (IT.lt (.alt 14 (.step 8 false (.step 10 true (.step 14 true (IT.ref true [2, 3, 4, 8, 9, 11, 22, 23, 24, 28, 29, 30, 78, 80, 82, 84] [4, 8, 9, 40, 67, 68, 77, 78, 82, 83] Y5)))) (.step 10 false (IT.ref false [2, 3, 4, 8, 9, 11, 22, 23, 24, 28, 29, 30, 71, 77, 80, 82] [4, 8, 9, 40, 67, 68, 77, 78, 82, 83] Y3))) fun Y1 => (IT.lt (.step 7 false (IT.ref true [2, 3, 4, 8, 9, 11, 22, 23, 24, 28, 29, 30, 71, 77, 80, 82] [4, 8, 9, 40, 67, 68, 77, 78, 82, 83] Y3)) fun Y0 => (.step 0 true (.step 1 true (.step 2 true (.step 3 true (.step 4 true (.step 5 true (.step 6 true (.step 9 true (.step 11 true (.alt 14 (.step 7 false (.alt 14 (.step 8 false (.step 10 true (.step 14 true (IT.ref true [2, 3, 4, 8, 9, 11, 22, 23, 24, 28, 29, 30, 78, 80, 81, 84] [4, 8, 9, 40, 67, 68, 77, 78, 82, 83] Y4)))) (.alt 14 (.step 10 false (IT.ref true [2, 3, 4, 8, 9, 11, 22, 23, 24, 28, 29, 30, 71, 77, 80, 81] [4, 8, 9, 40, 67, 68, 77, 78, 82, 83] Y2)) (.step 12 false (IT.ref true [2, 3, 4, 8, 9, 11, 22, 23, 24, 28, 29, 30, 71, 77, 79, 82] [4, 8, 9, 40, 67, 68, 77, 78, 82, 83] Y1))))) (.alt 14 (.step 10 false (.alt 14 (.step 7 false (IT.ref false [2, 3, 4, 8, 9, 11, 22, 23, 24, 28, 29, 30, 71, 77, 80, 81] [4, 8, 9, 40, 67, 68, 77, 78, 82, 83] Y2)) (.step 12 false (IT.ref true [2, 3, 4, 8, 9, 11, 22, 23, 24, 28, 29, 30, 71, 76, 80, 82] [4, 8, 9, 40, 67, 68, 77, 78, 82, 83] Y0)))) (.step 12 false (.alt 14 (.step 7 false (IT.ref false [2, 3, 4, 8, 9, 11, 22, 23, 24, 28, 29, 30, 71, 77, 79, 82] [4, 8, 9, 40, 67, 68, 77, 78, 82, 83] Y1)) (.step 10 false (IT.ref false [2, 3, 4, 8, 9, 11, 22, 23, 24, 28, 29, 30, 71, 76, 80, 82] [4, 8, 9, 40, 67, 68, 77, 78, 82, 83] Y0))))))))))))))))))))) [(0, 262143, 262143, true), (1, 262142, 262143, false), (0, 262143, 262143, true), (4, 262139, 262143, false), (0, 262143, 262143, true), (24, 262119, 262143, true), (32, 262111, 262143, false), (64, 262079, 262143, false), (130, 262013, 262143, false), (0, 262143, 261887, true), (512, 261631, 261887, false), (0, 262143, 261887, true), (2048, 260095, 261887, false), (5376, 257023, 261887, false), (2047, 262143, 253695, true), (26623, 245503, 253695, false), (65535, 262143, 220927, true), (131071, 188415, 220927, false)] (by kernel_rfl) (by kernel_rfl) ?_ | refine sk_if rfl (fun hc => ?_) (fun hc => ?_))
      · have xe := xe (by omega)
        refine sk_back ?_; refine ⟨p + 1, ?_, ?_, le_at rfl (by (repeat (first | exact trivial | refine ⟨(by (rfl)), ?_⟩))) (by (repeat (first | exact trivial | refine ⟨rfl, ?_⟩))) (by (repeat (first | exact trivial | refine ⟨(by ((refine row_eq rfl ?_; simp  [rowF_snoc, flipOf, xe.1]; done))), ?_⟩))) (by (repeat (first | exact trivial | refine ⟨.inr rfl, ?_⟩)))⟩
        · omega
        · omega
      · have h4 : p = 4 := by omega
        subst h4
        refine sk_back ?_; refine ⟨k + 1, ?_, ?_, le_at rfl (by (repeat (first | exact trivial | refine ⟨(by (rfl)), ?_⟩))) (by (repeat (first | exact trivial | refine ⟨rfl, ?_⟩))) (by (repeat (first | exact trivial | refine ⟨(by (first | (refine row_eq rfl ?_; simp  [pairsP_snoc _ _ _ _ hk2, askW, askR, ← Nat.add_assoc]; done) | rfl)), ?_⟩))) (by (repeat (first | exact trivial | refine ⟨.inr rfl, ?_⟩)))⟩
        · omega
        · omega
    · have h4 : k = ss.length := by omega
      subst h4
      refine sk_back ?_; refine ⟨i + 1, ?_, ?_, le_at rfl (by (repeat (first | exact trivial | refine ⟨(by (rfl)), ?_⟩))) (by (repeat (first | exact trivial | refine ⟨rfl, ?_⟩))) (by (repeat (first | exact trivial | refine ⟨(by (first | (refine row_eq rfl ?_; simp  [pairsP_row _ _ _ hi2, Nat.mul_add]; done) | (refine box_eq rfl ?_; simp  [pairsP_row _ _ _ hi2, Nat.mul_add]; done))), ?_⟩))) (by (repeat (first | exact trivial | refine ⟨.inr rfl, ?_⟩)))⟩
      · omega
      · omega
  · have h4 : i = fs.length := by omega
    subst h4
    have L1 := pairsP_len (askW Y ws) fs ss (Nat.le_refl _) (Nat.zero_le ss.length)
    have L2 := pairsP_len (askR X Y wi fl) fs ss (Nat.le_refl _) (Nat.zero_le ss.length)
    repeat' fail
    (apply sk_ret; apply ret_eq; (· apply RetOK.p; (· (apply GvA.cons; (· (apply RV.cellN (n := 4); (· rfl); (· rfl); (· kernel_rfl); (· rfl))); (· (apply GvP.g; (· (apply GvL.cons (.lit _)); (apply GvL.cons (.lit _)); ((apply GvL.cons (.row _ _ _ _ rfl (by ((simp; omega)))))); ((apply GvL.cons (.row _ _ _ _ rfl (by ((simp; omega)))))); exact GvL.nil)))); exact GvA.nil); (· (decide))))
    simp [pairsP_all, pairsF_len, Nat.mul_comm]

end Go.Proofs.Ytefbiejoikpkmaa

namespace Go.Proofs.Ytefbiejoikpkmaa
open Go.RowKit
set_option linter.unusedSectionVars false
variable [Glb]
set_option maxRecDepth 10000
set_option maxHeartbeats 4000000
theorem counting_p (n : Int) (h0 : 0 ≤ n) (h1 : n ≤ 1000) : PC Try.prog 101 [.c (dI n)] (.p (.c (eI (cntL n.toNat)))) := by
  refine pc_intro Try.func101 rfl rfl rfl (by kernel_rfl) rfl rfl ?_; intro _
  repeat' (first | (refine so_is (.assign _) ?_; (refine so_q (qt_asC rfl) rfl ?_)) | (refine so_is (.buildSlice 24 0 _) ?_; (apply so_bslice (sz := 1) (by_ := 8); (· kernel_rfl); (· decide); (· (repeat (exact GvS.nil _))); (· (decide)); (· rfl); (· rfl); (· rfl))) | (refine so_is (.move _) ?_; (refine so_q (qt_mvC rfl) rfl ?_)) | refine so_nil ?_ | refine sk_seq ?_ | refine sk_block ?_ | refine sk_region ?_)
  apply sk_packC [3, 6, 7] [5, 12, 13] rfl; (· (repeat (first | exact Pf.nil | apply Pf.cons (.c rfl (.d rfl)) | apply Pf.cons (.c rfl (.ls rfl))))); (· (repeat (first | exact Pb.nil | apply Pb.cons (.row rfl) | apply Pb.skip)))
  refine sk_loopL [6] [12, 13] (fun i => [(7, iN i), (3, .c (.ls 5 1 0 i))]) (fun i => [(5, .row 1 (cI (cntL i)))]) (fun i => i ≤ n.toNat) (fun i => n.toNat - i) (0) ?_ (by (repeat (first | exact trivial | refine ⟨(by (rfl)), ?_⟩))) (by (repeat (first | exact trivial | refine ⟨(by (rfl)), ?_⟩))) ?_
  · omega
  intro i hi
  repeat' (first | (refine so_is (.assign _) ?_; (refine so_q (qt_asC rfl) rfl ?_)) | (refine so_is (.move _) ?_; (refine so_q (qt_mvC rfl) rfl ?_)) | (refine so_is (.binOp .lss 3 _ _ _) ?_; refine so_q (qt_lss rfl rfl) rfl ?_) | (refine so_is (.buildSlice 24 1 _) ?_; (apply so_bslice (sz := 1) (by_ := 8); (· kernel_rfl); (· decide); (· (repeat (first | exact GvS.nil _ | apply GvS.c rfl rfl (.lit _) rfl))); (· (decide)); (· rfl); (· rfl); (· rfl))) | (refine so_is (.call ⟨.builtin .append, _, #[24, 24]⟩) ?_; ((apply so_appR (sz := 1) (by_ := 8); (· rfl); (· rfl); (· ((simp; done))); (· exact .row _ _ _ _ rfl (by ((simp; done)))); (· (decide)); (· kernel_rfl); (· decide); (· (omega)); (· (omega)); (· rfl); (· rfl); (· rfl)))) | (refine so_is (.binOp .add 3 _ _ _) ?_; refine so_q (qt_addI rfl rfl (by (omega))) rfl ?_) | refine so_nil ?_ | refine sk_seq ?_ | refine sk_block ?_ | refine sk_blk ?_ | refine sk_exit rfl ?_ | refine sk_skip ?_ | refine sk_region ?_ | refine sk_if rfl (fun hc => ?_) (fun hc => ?_))
  · refine sk_back ?_; refine ⟨i + 1, ?_, ?_, le_at rfl (by (repeat (first | exact trivial | refine ⟨(by (rfl)), ?_⟩))) (by (repeat (first | exact trivial | refine ⟨rfl, ?_⟩))) (by (repeat (first | exact trivial | refine ⟨(by ((refine row_eq rfl ?_; simp  [cntL_snoc]; done))), ?_⟩))) (by (repeat (first | exact trivial | refine ⟨.inr rfl, ?_⟩)))⟩
    · omega
    · omega
  · have h : i = n.toNat := by omega
    subst h
    (apply sk_ret; apply ret_eq; (· apply RetOK.p; (· (apply GvA.cons; (· exact .tmp _); (· (exact GvP.c (.row _ _ _ _ rfl (by ((simp; done))))))); exact GvA.nil); (· (decide))))
    simp

end Go.Proofs.Ytefbiejoikpkmaa

namespace Go.Proofs.Ytefbiejoikpkmaa
open Go.RowKit
set_option linter.unusedSectionVars false
variable [Glb]
set_option maxRecDepth 10000
set_option maxHeartbeats 4000000
theorem FlipGame_p (X Y : Int) (ws : List Int) (wi : List (List Int)) (fl : List Int) : PC Try.prog 13 [.g [dI X, dI Y, eI ws, eII wi], .c (eI fl)]
    (.t [.g [dI (whenN (flipB X Y ws wi fl) X), dI (whenN (flipB X Y ws wi fl) Y), eI (whenA (flipB X Y ws wi fl) ws), eII (whenL (flipB X Y ws wi fl) (flipR X Y wi fl))], .c (dB (flipB X Y ws wi fl))]) := by
  have hg : flipB X Y ws wi fl = true → _ := fun h => flipB_spec h
  refine pc_intro Try.func13 rfl rfl rfl (by kernel_rfl) rfl rfl ?_; intro _
  repeat' (first | (refine so_is (.box 27 _) ?_; refine so_box rfl rfl ?_) | (refine so_is (.alloc 27) ?_; refine so_alloc (zs := [.int .i64 0, .int .i64 0, .slice none 0 0, .slice none 0 0]) (by kernel_rfl) rfl ?_) | (refine so_is (.assign _) ?_; (refine so_q (qt_asC rfl) rfl ?_)) | (refine so_is (.load 27 _) ?_; (refine so_q (qt_load_boxs rfl rfl (by kernel_rfl : tAgg _ 27 4 = true) rfl) rfl ?_)) | (refine so_is (.move _) ?_; (refine so_q (qt_mvC rfl) rfl ?_)) | (refine so_is (.unOp .not 4 _) ?_; refine so_q (qt_not rfl) rfl ?_) | (refine so_is (.build 27 _) ?_; refine so_q (qt_build (cs := [_, _, _, _]) [(0, 1), (1, 1), (2, 1), (3, 1)] [.int .i64 0, .int .i64 0, .slice none 0 0, .slice none 0 0] (by kernel_rfl) (by kernel_rfl) rfl) rfl ?_) | (refine so_is (.store 27 _ _) ?_; (refine so_store_box rfl rfl rfl (by kernel_rfl) rfl rfl ?_)) | (refine so_is (.fieldAddr 27 _ 0) ?_; (refine so_q (qt_fld_lp (off := 0) rfl (by kernel_rfl)) rfl ?_)) | (refine so_is (.load 3 _) ?_; (refine so_q (qt_load_box rfl rfl (by kernel_rfl) rfl) rfl ?_)) | (refine so_is (.fieldAddr 27 _ 1) ?_; (refine so_q (qt_fld_lp (off := 1) rfl (by kernel_rfl)) rfl ?_)) | (refine so_is (.call ⟨.value (.func 100), _, _⟩) ?_; (apply so_call0 (fid := 100); (· (repeat (first | exact SeA.nil | apply SeA.cons (.c (.d _)) | (apply SeA.cons; (· (apply SeP.g; (repeat (first | exact SeL.nil | apply SeL.cons (.d _))))))))); (· exact isGamePlay_p _ _ _ _ _); (· rfl))) | (refine so_is (.call ⟨.value (.func 101), _, _⟩) ?_; (apply so_call0 (fid := 101); (· (repeat (first | exact SeA.nil | apply SeA.cons (.c (.d _))))); (· exact counting_p _ (by have := hg hc; omega) (by have := hg hc; omega)); (· rfl))) | (refine so_is (.call ⟨.value (.func 93), _, _⟩) ?_; (apply so_callO0 (fid := 93); (· (repeat (first | exact SeA.nil | apply SeA.cons (.c (.d _)) | (apply SeA.cons; (· (apply SeP.g; (repeat (first | exact SeL.nil | apply SeL.cons (.d _))))))))); (· exact asked_p X Y ws wi (cntL X.toNat) (cntL Y.toNat) fl (by simp_all) (fun x hx => by have := cntL_mem hx; have := hg hc; omega) (fun x hx => by have := cntL_mem hx; have := hg hc; omega) (by simp_all) (by have := hg hc; simp; omega) (by have := hg hc; simp; omega)); (· rfl); (· rfl))) | refine so_nil ?_ | refine sk_seq ?_ | refine sk_skip ?_ | refine sk_region ?_ | refine sk_drawQ 3 (fun i => i == 9) (.step 0 true (.step 1 true (.step 2 true (.step 4 true (.step 5 true (.step 7 true (.step 3 false (.step 6 false (.step 8 false (.step 9 false (.step 10 true .nil))))))))))) [(0, 2047, 2047, false), (0, 2047, 2047, true), (2, 2045, 2047, false), (4, 2043, 2047, false), (0, 2047, 2047, true), (16, 2031, 2047, false), (40, 2015, 2047, false), (0, 2047, 2047, true), (201, 1846, 2047, false), (511, 1791, 2047, false), (1023, 2047, 1535, true)] (by kernel_rfl) (by kernel_rfl) ?_ | refine sk_not rfl (fun hc => ?_) (fun hc => ?_))
  · (apply sk_ret; apply ret_eq; (· apply RetOK.t; (· (apply GvA.cons; (· (apply RV.cellN (n := 4); (· rfl); (· rfl); (· kernel_rfl); (· rfl))); (· (apply GvP.g; (· (apply GvL.cons (.lit _)); (apply GvL.cons (.lit _)); ((apply GvL.cons (.nil 1 (by decide)))); ((apply GvL.cons (.nil 1 (by decide)))); exact GvL.nil)))); (apply GvA.cons; (· exact .tmp _); (· exact GvP.c (.lit _))); exact GvA.nil); (· rfl); (· (decide))))
    have h9 : flipB X Y ws wi fl = false := hc
    simp [h9, whenN, whenL, whenA]
  · (apply sk_ret; apply ret_eq; (· apply RetOK.t; (· (apply GvA.cons; (· (apply RV.cellN (n := 4); (· rfl); (· rfl); (· kernel_rfl); (· rfl))); (· (apply GvP.g; (· (apply GvL.cons (.lit _)); (apply GvL.cons (.lit _)); ((apply GvL.cons (.row _ _ _ _ rfl (by ((simp; done)))))); ((apply GvL.cons (.row _ _ _ _ rfl (by ((simp; done)))))); exact GvL.nil)))); (apply GvA.cons; (· exact .tmp _); (· exact GvP.c (.lit _))); exact GvA.nil); (· rfl); (· (decide))))
    have h9 : flipB X Y ws wi fl = true := hc
    have h8 := hg h9
    have h7 := gameB_spec (by simp_all : gameB X Y ws wi = true)
    rw [pairs_allZ (by omega) (by omega) h7.wl]
    simp [h9, whenN, whenL, whenA, flipR]
    omega

end Go.Proofs.Ytefbiejoikpkmaa

namespace Go.Proofs.Ytefbiejoikpkmaa
open Go.RowKit
set_option linter.unusedSectionVars false
variable [Glb]
set_option maxRecDepth 10000
set_option maxHeartbeats 4000000
theorem spFlipGame_p (X Y : Int) (ws : List Int) (wi : List (List Int)) (fl : List Int) : PC Try.prog 14 [.g [dI X, dI Y, eI ws, eII wi], .c (eI fl)]
    (.t [.g [dI (whenN (flipB X Y ws wi fl) X), dI (whenN (flipB X Y ws wi fl) Y), eI (whenA (flipB X Y ws wi fl) ws), eII (whenL (flipB X Y ws wi fl) (flipR X Y wi fl))], .c (dB (flipB X Y ws wi fl))]) := by
  refine pc_intro Try.func14 rfl rfl rfl (by kernel_rfl) rfl rfl ?_; intro _
  repeat' (first | (refine so_is (.box 27 _) ?_; refine so_box rfl rfl ?_) | (refine so_is (.alloc 27) ?_; refine so_alloc (zs := [.int .i64 0, .int .i64 0, .slice none 0 0, .slice none 0 0]) (by kernel_rfl) rfl ?_) | (refine so_is (.assign _) ?_; (refine so_q (qt_asC rfl) rfl ?_)) | (refine so_is (.load 27 _) ?_; (refine so_q (qt_load_boxs rfl rfl (by kernel_rfl : tAgg _ 27 4 = true) rfl) rfl ?_)) | (refine so_is (.move _) ?_; (refine so_q (qt_mvC rfl) rfl ?_)) | (refine so_is (.unOp .not 4 _) ?_; refine so_q (qt_not rfl) rfl ?_) | (refine so_is (.build 27 _) ?_; refine so_q (qt_build (cs := [_, _, _, _]) [(0, 1), (1, 1), (2, 1), (3, 1)] [.int .i64 0, .int .i64 0, .slice none 0 0, .slice none 0 0] (by kernel_rfl) (by kernel_rfl) rfl) rfl ?_) | (refine so_is (.store 27 _ _) ?_; (refine so_store_box rfl rfl rfl (by kernel_rfl) rfl rfl ?_)) | (refine so_is (.call ⟨.value (.func 102), _, _⟩) ?_; (apply so_call0 (fid := 102); (· (repeat (first | exact SeA.nil | apply SeA.cons (.c (.d _)) | (apply SeA.cons; (· (apply SeP.g; (repeat (first | exact SeL.nil | apply SeL.cons (.d _))))))))); (· exact l4Played_p _ _ _ _ _); (· rfl))) | (refine so_is (.call ⟨.value (.func 89), _, _⟩) ?_; (apply so_callO0 (fid := 89); (· (repeat (first | exact SeA.nil | apply SeA.cons (.c (.d _)) | (apply SeA.cons; (· (apply SeP.g; (repeat (first | exact SeL.nil | apply SeL.cons (.d _))))))))); (· exact l4Flip_p _ _ _ _ _ (by assumption)); (· rfl); (· rfl))) | refine so_nil ?_ | refine sk_seq ?_ | refine sk_skip ?_ | refine sk_region ?_ | refine sk_not rfl (fun hc => ?_) (fun hc => ?_))
  all_goals (apply sk_ret; apply ret_eq; (· apply RetOK.t; (· (apply GvA.cons; (· (apply RV.cellN (n := 4); (· rfl); (· rfl); (· kernel_rfl); (· rfl))); (· (apply GvP.g; (· (apply GvL.cons (.lit _)); (apply GvL.cons (.lit _)); ((first | apply GvL.cons (.nil 1 (by decide)) | apply GvL.cons (.row _ _ _ _ rfl (by ((simp; done)))))); ((first | apply GvL.cons (.nil 1 (by decide)) | apply GvL.cons (.row _ _ _ _ rfl (by ((simp; done)))))); exact GvL.nil)))); (apply GvA.cons; (· exact .tmp _); (· exact GvP.c (.lit _))); exact GvA.nil); (· rfl); (· (decide))))
  all_goals simp [hc, whenN, whenL, whenA]

end Go.Proofs.Ytefbiejoikpkmaa

namespace Go.Proofs.Ytefbiejoikpkmaa
open Go.RowKit
set_option linter.unusedSectionVars false
variable [Glb]
set_option maxRecDepth 10000
set_option maxHeartbeats 4000000
open Go.Shelf Go.Proofs
def Try.lays189_ren_slices_Sort_intslices_Sort_int_none : Go.Shelf.Ren := ⟨fun | 189 => 188 | 125 => 227 | 257 => 226 | 128 => 247 | 129 => 248 | 294 => 238 | 295 => 239 | 296 => 240 | 297 => 241 | 298 => 242 | 299 => 243 | 216 => 244 | 300 => 245 | 301 => 246 | 328 => 255 | 329 => 256 | 330 => 257 | 331 => 258 | 332 => 259 | 215 => 260 | 343 => 261 | n => n, fun | 28 => 24 | 3 => 3 | 46 => 138 | 0 => 0 | 51 => 168 | 53 => 102 | 4 => 4 | 183 => 189 | 182 => 188 | 131 => 45 | 5 => 5 | 9 => 9 | 218 => 196 | 222 => 200 | 228 => 202 | 229 => 157 | n => n, fun | n => n⟩
theorem Try.lays189_slices_Sort_intslices_Sort_int_none : Go.Proofs.Lays.n189 Try.prog Try.lays189_ren_slices_Sort_intslices_Sort_int_none := {
  mixed := by kernel_rfl
  f125 := Try.func227.trans (congrArg some (by kernel_rfl))
  f128 := Try.func247.trans (congrArg some (by kernel_rfl))
  f129 := Try.func248.trans (congrArg some (by kernel_rfl))
  f189 := Try.func188.trans (congrArg some (by kernel_rfl))
  f215 := Try.func260.trans (congrArg some (by kernel_rfl))
  f216 := Try.func244.trans (congrArg some (by kernel_rfl))
  f257 := Try.func226.trans (congrArg some (by kernel_rfl))
  f294 := Try.func238.trans (congrArg some (by kernel_rfl))
  f295 := Try.func239.trans (congrArg some (by kernel_rfl))
  f296 := Try.func240.trans (congrArg some (by kernel_rfl))
  f297 := Try.func241.trans (congrArg some (by kernel_rfl))
  f298 := Try.func242.trans (congrArg some (by kernel_rfl))
  f299 := Try.func243.trans (congrArg some (by kernel_rfl))
  f300 := Try.func245.trans (congrArg some (by kernel_rfl))
  f301 := Try.func246.trans (congrArg some (by kernel_rfl))
  f328 := Try.func255.trans (congrArg some (by kernel_rfl))
  f329 := Try.func256.trans (congrArg some (by kernel_rfl))
  f330 := Try.func257.trans (congrArg some (by kernel_rfl))
  f331 := Try.func258.trans (congrArg some (by kernel_rfl))
  f332 := Try.func259.trans (congrArg some (by kernel_rfl))
  f343 := Try.func261.trans (congrArg some (by kernel_rfl))
  t0 := Try.underlying0
  a0 := Try.isAgg0
  z0 := Try.sizeOf0
  v0 := Try.zeroValue0
  t3 := Try.underlying3
  a3 := Try.isAgg3
  z3 := Try.sizeOf3
  v3 := Try.zeroValue3
  t4 := Try.underlying4
  a4 := Try.isAgg4
  z4 := Try.sizeOf4
  v4 := Try.zeroValue4
  t5 := Try.underlying5
  a5 := Try.isAgg5
  z5 := Try.sizeOf5
  v5 := Try.zeroValue5
  t9 := Try.underlying9
  a9 := Try.isAgg9
  z9 := Try.sizeOf9
  v9 := Try.zeroValue9
  t28 := Try.underlying24
  a28 := Try.isAgg24
  z28 := Try.sizeOf24
  v28 := Try.zeroValue24
  t46 := Try.underlying138
  a46 := Try.isAgg138
  z46 := Try.sizeOf138
  v46 := Try.zeroValue138
  t51 := Try.underlying168
  a51 := Try.isAgg168
  z51 := Try.sizeOf168
  v51 := Try.zeroValue168
  t53 := Try.underlying102
  a53 := Try.isAgg102
  z53 := Try.sizeOf102
  v53 := Try.zeroValue102
  t131 := Try.underlying45
  a131 := Try.isAgg45
  z131 := Try.sizeOf45
  v131 := Try.zeroValue45
  t182 := Try.underlying188
  a182 := Try.isAgg188
  z182 := Try.sizeOf188
  v182 := Try.zeroValue188
  t183 := Try.underlying189
  a183 := Try.isAgg189
  z183 := Try.sizeOf189
  v183 := Try.zeroValue189
  t218 := Try.underlying196
  a218 := Try.isAgg196
  z218 := Try.sizeOf196
  v218 := Try.zeroValue196
  t222 := Try.underlying200
  a222 := Try.isAgg200
  z222 := Try.sizeOf200
  v222 := Try.zeroValue200
  t228 := Try.underlying202
  a228 := Try.isAgg202
  z228 := Try.sizeOf202
  v228 := Try.zeroValue202
  t229 := Try.underlying157
  a229 := Try.isAgg157
  z229 := Try.sizeOf157
  v229 := Try.zeroValue157 }
open Go.Sort Go.RowKit in
theorem Try.slices_Sort_int (blk off cap : Nat) (zs : List Int) (w : World) (hH : Holds (Value.int .i64) w blk off zs.toArray) (hblk : blk < w.heap.size) (hsz : zs.length < 4611686018427387904) :
    Calls Try.prog 188 #[.slice (some ⟨blk, off, none⟩) zs.length cap] w fun e w' =>
      e = .returned (.tuple #[]) ∧ ∃ n os, w' = grow (putRow (Value.int .i64) (Sort.ahead w n) blk off (zs.mergeSort fun x y => decide (x ≤ y)).toArray) os := Any.slices_Sort_int Try.lays189_slices_Sort_intslices_Sort_int_none blk off cap zs w hH hblk hsz
open Go.RowKit Go.Sort in
theorem Try.slices_Sort_int_none (p : Option Addr) (cap : Nat) (w : World) :
    Calls Try.prog 188 #[.slice p 0 cap] w fun e w' => e = .returned (.tuple #[]) ∧ w' = w := Any.slices_Sort_int_none Try.lays189_slices_Sort_intslices_Sort_int_none p cap w

end Go.Proofs.Ytefbiejoikpkmaa

namespace Go.Proofs.Ytefbiejoikpkmaa
open Go.RowKit
set_option linter.unusedSectionVars false
variable [Glb]
set_option maxRecDepth 10000
set_option maxHeartbeats 4000000
theorem put_at {w : World} {g : Nat} {cs : Array Value} {E : TypeId} (d : Array Int) (hg : w.heap[g]? = some (.cells cs E (0, 0))) : (Go.Sort.putRow (Value.int .i64) w g 0 d).heap[g]? = some (.cells (Go.Sort.putCells (Value.int .i64) 0 d cs) E (0, 0)) := by
  unfold Go.Sort.putRow Go.Sort.mapBlock
  simp [Array.getElem?_modify, hg, Go.Sort.onCells]
theorem put_ne {w : World} {g k : Nat} (d : Array Int) (h : k ≠ g) : (Go.Sort.putRow (Value.int .i64) w g 0 d).heap[k]? = w.heap[k]? := by
  unfold Go.Sort.putRow Go.Sort.mapBlock
  simp [Array.getElem?_modify, Ne.symm h]
theorem put_size {w : World} {g : Nat} (d : Array Int) : (Go.Sort.putRow (Value.int .i64) w g 0 d).heap.size = w.heap.size := by
  unfold Go.Sort.putRow Go.Sort.mapBlock
  simp
theorem sort_n (l : List Int) (hl : l.length ≤ 100000000) : PN Try.prog 188 [.c (eI l)] [eI (l.mergeSort fun x y => decide (x ≤ y))] := by
  refine ⟨Go.Proofs.enters_of Try.func188 (by kernel_rfl) rfl, fun x hx e => ?_, fun w us Fs ho hnd ok gl => ?_⟩
  · simp at hx; subst hx; cases e
  · have ho' : OwC w us [eI l] Fs := ho
    cases ho' with
    | cons h t =>
      cases t
      rename_i v F
      obtain ⟨S, hS⟩ : ∃ S, S = l.mergeSort fun x y => decide (x ≤ y) := ⟨_, rfl⟩
      have hSl : S.length = l.length := by rw [hS, List.length_mergeSort]
      have hv : asmL [RP.c (eI l)] [v] = [v] := rfl
      rw [hv, ← hS]
      obtain ⟨x, hx⟩ : ∃ x, x = eI l := ⟨_, rfl⟩
      rw [← hx] at h
      cases h with
      | lit v h => cases hx
      | any v h => cases hx
      | nil sz hz =>
        simp only [eI, D.sl.injEq] at hx
        have hl0 : l = [] := List.length_eq_zero_iff.1 hx.2.1.symm
        have hS0 : S = [] := List.length_eq_zero_iff.1 (by rw [hSl, hl0]; rfl)
        refine Calls.mono (Try.slices_Sort_int_none none 0 w) ?_
        rintro e w' ⟨rfl, rfl⟩
        rw [hS0]
        exact ⟨[[]], rfl, .cons (.nil 1 (by decide)) .nil, by simp, fun g hg => by simp at hg, .refl _ _⟩
      | sl g n cap sz E cs ds us Fs hn hz hle hg hnc hcap hc hr =>
        simp only [eI, D.sl.injEq] at hx
        obtain ⟨rfl, rfl, rfl⟩ := hx
        simp only [List.length_map, Nat.mul_one] at hn hcap hc hr
        have hcell : ∀ j (hj : j < l.length), cs[j]? = some (.int .i64 l[j]) := fun j hj => by
          have h1 := hc j (by simpa using hj)
          have h2 := hr j (by simpa using hj)
          rw [List.getElem_map] at h2
          have : us j = .int .i64 l[j] := by
            generalize us j = u at h2
            generalize Fs j = F at h2
            cases h2; rfl
          rw [h1, this]
        have hH : Go.Sort.Holds (Value.int .i64) w g 0 l.toArray := fun j hj => by
          have hj' : j < l.length := by simpa using hj
          refine ⟨?_, ?_⟩
          · rw [Nat.zero_add, cell_of_row w g j cs E (0, 0) hg, hcell j hj']
            simp [hj']
          · simp [World.frozen?, hg]
        have hlt := (Array.getElem?_eq_some_iff.1 hg).1
        refine Calls.mono (Try.slices_Sort_int g 0 cap l w hH hlt (by omega)) ?_
        rintro e w' ⟨rfl, m, os, rfl⟩
        rw [← hS]
        have hg2 : (Go.Sort.grow (Go.Sort.putRow (Value.int .i64) (Go.Sort.ahead w m) g 0 S.toArray) os).heap[g]? = some (.cells (Go.Sort.putCells (Value.int .i64) 0 S.toArray cs) E (0, 0)) := by
          have h1 := put_at (w := Go.Sort.ahead w m) S.toArray hg
          unfold Go.Sort.grow
          rw [Array.getElem?_append_left (by rw [put_size]; exact hlt)]
          exact h1
        have hother : ∀ k, k ≠ g → k < w.heap.size → (Go.Sort.grow (Go.Sort.putRow (Value.int .i64) (Go.Sort.ahead w m) g 0 S.toArray) os).heap[k]? = w.heap[k]? := fun k hk hlt => by
          have h1 := put_ne (w := Go.Sort.ahead w m) S.toArray hk
          unfold Go.Sort.grow
          rw [Array.getElem?_append_left (by rw [put_size]; exact hlt)]
          exact h1
        have hpc : (Go.Sort.putCells (Value.int .i64) 0 S.toArray cs).size = cs.size := by simp [Go.Sort.putCells]
        have hlcs : l.length ≤ cs.size := by omega
        have hnil : parts (S.map dI).length (fun _ => []) = [] := by simp [parts]
        refine ⟨[g :: parts (S.map dI).length fun _ => []], rfl, .cons ?_ .nil, by rw [hnil]; simp, fun k hk => by rw [hnil] at hk; simp at hk; subst hk; exact .inl (by simp), rfl, rfl, rfl, ?_, ?_, ?_⟩
        · rw [eI, hSl]
          refine .sl g l.length cap 1 E (Go.Sort.putCells (Value.int .i64) 0 S.toArray cs) (S.map dI) (fun k => .int .i64 (S.getD k 0)) (fun _ => []) (by simp [hSl]) hz hle hg2 hnc (by rw [hpc]; omega) (fun k hk => ?_) fun k hk => ?_
          · have hk' : k < S.length := by simpa using hk
            have hkc : k < cs.size := by omega
            simp [Go.Sort.putCells, Array.getElem?_mapIdx, hkc, hk']
          · rw [List.getElem_map]
            have hk' : k < S.length := by simpa using hk
            rw [List.getD_eq_getElem?_getD, List.getElem?_eq_getElem hk']
            exact .lit _ rfl
        · simp only [Go.Sort.grow, Array.size_append, put_size]
          exact Nat.le_add_right _ _
        · intro k cs' E' hk
          by_cases hkg : k = g
          · subst hkg
            rw [hg] at hk; cases hk
            exact ⟨_, hg2, hpc⟩
          · exact ⟨cs', by rw [hother k hkg (Array.getElem?_eq_some_iff.1 hk).1]; exact hk, rfl⟩
        · intro k hk
          by_cases hkg : k = g
          · subst hkg; exact absurd (.inr (by simp)) hk
          · by_cases hlt : k < w.heap.size
            · exact hother k hkg hlt
            · exact absurd (.inl (Nat.le_of_not_lt hlt)) hk

end Go.Proofs.Ytefbiejoikpkmaa
