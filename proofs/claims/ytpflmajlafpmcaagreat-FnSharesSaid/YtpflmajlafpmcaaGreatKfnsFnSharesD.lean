/- What the functions that FnShares reaches return: part of its proof. No condition beyond those of its theorems. -/
import Derived.Test.YtpflmajlafpmcaaGreatKfnsFnSharesA
import Derived.Test.YtpflmajlafpmcaaGreatKplainB
import Derived.Test.YtpflmajlafpmcaaGreatKplainC
import Derived.Test.YtpflmajlafpmcaaGreatKfnsFnSharesB
import Derived.Test.YtpflmajlafpmcaaGreatKfnsFnSharesC
import Derived.Test.YtpflmajlafpmcaaGreatKplainA
import Derived.WalkKit
set_option linter.unusedVariables false
set_option linter.unusedSimpArgs false
namespace Go.Proofs.YtpflmajlafpmcaaGreat
open Go.RowKit
set_option linter.unusedSectionVars false
variable [Glb]
set_option maxRecDepth 10000
set_option maxHeartbeats 4000000
theorem curCall12_p (code : Tx) (a s bx by_ bwh : Int) (bll : List (List Int)) (pl : List Int) (ev : Int) (cc : List (List Int)) (ss nu : List Int) (co : Int) (hp : pl.length ≤ 1000) (hn : nu.length ≤ 1000) (h0 : 0 ≤ a) (h1 : a ≤ 4611686018427380000) : PX Tryz.prog 68 (CurB code a s) [.v (.g [dI bx, dI by_, dI bwh, eII bll, eI pl, dI ev, eII cc, eI ss, eI nu, dI co])] (CurR a 10 fun res => ∃ k e : Int, res = .p (.g [dI k, dI e])) := by
  refine jcl Tryz.func68 rfl rfl rfl (by kernel_rfl) rfl rfl rfl ?_; intro kv
  repeat' (first | (refine jaa (.box 31 _) ?_; refine jbc rfl rfl ?_) | (refine jaa (.alloc 49) ?_; refine jas (zs := [.int .i64 0, .int .i64 0]) (by kernel_rfl) rfl ?_) | (refine jaa (.move _) ?_; (refine jac (jak rfl) rfl ?_)) | (refine jaa (.buildSlice 27 11 _) ?_; (apply jao (sz := 1) (by_ := 8); (· kernel_rfl); (· decide); (· (repeat (first | exact GvS.nil _ | apply GvS.c rfl rfl (.lit _) rfl))); (· (decide)); (· rfl); (· rfl); (· rfl))) | (refine jaa (.build 49 _) ?_; refine jac (jbs (cs := [_, _]) [(0, 1), (1, 1)] [.int .i64 0, .int .i64 0] (by kernel_rfl) (by kernel_rfl) rfl) rfl ?_) | (refine jaa (.store 49 _ _) ?_; (refine jag rfl rfl rfl (by kernel_rfl) rfl rfl ?_)) | (refine jaa (.fieldAddr 49 _ 0) ?_; (refine jac (jad (off := 0) rfl (by kernel_rfl)) rfl ?_)) | (refine jaa (.load 3 _) ?_; (refine jac (jae rfl rfl (by kernel_rfl) rfl) rfl ?_)) | (refine jaa (.binOp .eql 3 _ _ _) ?_; refine jac (jcb rfl rfl) rfl ?_) | (refine jaa (.assign _) ?_; (refine jac (jal rfl) rfl ?_)) | (refine jaa (.binOp .add 3 _ _ _) ?_; refine jac (jax rfl rfl (by (omega))) rfl ?_) | (refine jaa (.fieldAddr 49 _ 1) ?_; (refine jac (jad (off := 1) rfl (by kernel_rfl)) rfl ?_)) | (refine jaa (.store 3 _ _) ?_; (refine jaq rfl rfl rfl rfl (by kernel_rfl) rfl rfl ?_)) | (refine jaa (.fieldAddr 31 _ 1) ?_; (refine jac (jad (off := 4) rfl (by kernel_rfl)) rfl ?_)) | (refine jaa (.load 27 _) ?_; (refine jac (jae rfl rfl (by kernel_rfl) rfl) rfl ?_)) | (refine jaa (.call ⟨.builtin .len, _, #[27]⟩) ?_; (refine jac (jba rfl (by kernel_rfl)) rfl ?_)) | (refine jaa (.fieldAddr 31 _ 3) ?_; (refine jac (jad (off := 8) rfl (by kernel_rfl)) rfl ?_)) | (refine jaa (.buildSlice 27 5 _) ?_; (apply jao (sz := 1) (by_ := 8); (· kernel_rfl); (· decide); (· (repeat (first | exact GvS.nil _ | apply GvS.c rfl rfl (.lit _) rfl))); (· (decide)); (· rfl); (· rfl); (· rfl))) | (refine jaa (.buildSlice 27 3 _) ?_; (apply jao (sz := 1) (by_ := 8); (· kernel_rfl); (· decide); (· (repeat (first | exact GvS.nil _ | apply GvS.c rfl rfl (.lit _) rfl))); (· (decide)); (· rfl); (· rfl); (· rfl))) | (refine jaa (.load 49 _) ?_; (refine jac (jaf rfl rfl (by kernel_rfl : tAgg _ 49 2 = true) rfl) rfl ?_)) | (refine jaa (.call ⟨.value (.func 45), _, _⟩) ?_; (apply jbb (fid := 45); (· rfl); (· rfl); (· (repeat (first | exact BxI.nil | apply BxI.ks | (apply BxI.o; (· (exact .lit _)))))); (· (repeat (first | exact ArX.nil | apply ArX.v (.c (.row _ _ _ _ rfl (by ((simp; done)))))))); (· (decide)); (· (decide)); (· exact curAmongD_p code _ _ _ _ (fun _ => True) rfl (by decide) (by repeat (first | exact fun x hx => absurd hx List.not_mem_nil | (refine List.forall_mem_cons.2 ⟨⟨_, rfl, trivial⟩, ?_⟩))) (by omega) (by omega)); (· rfl); (· (intro b hb1 hb2; omega)); (· rfl); (rintro _ _ ⟨a3, s3, ha3, rfl, k6, -, rfl⟩; refine ⟨(by first | rfl | simp [*]), ?_⟩))) | (refine jaa (.call ⟨.value (.func 46), _, _⟩) ?_; (apply jbb (fid := 46); (· rfl); (· rfl); (· (repeat (first | exact BxI.nil | apply BxI.ks | (apply BxI.o; (· (exact .lit _)))))); (· (repeat (first | exact ArX.nil | apply ArX.v (.c (.d _))))); (· (decide)); (· (decide)); (· exact curPick_p code _ _ _ (by omega) (by omega)); (· rfl); (· (intro b hb1 hb2; omega)); (· rfl); (rintro _ _ ⟨a1, s1, ha1, rfl, x1, hx1, rfl⟩; refine ⟨(by first | rfl | simp [*]), ?_⟩))) | (refine jaa (.call ⟨.value (.func 43), _, _⟩) ?_; (apply jam (fid := 43); (· (repeat (first | exact SeA.nil | apply SeA.cons (.c (.d _))))); (· exact l1Least_p _ _); (· rfl))) | (refine jaa (.call ⟨.value (.func 90), _, _⟩) ?_; (apply jam (fid := 90); (· (repeat (first | exact SeA.nil | apply SeA.cons (.c (.d _))))); (· exact l1Most_p _ _); (· rfl))) | refine jah ?_ | refine jaj ?_ | refine jai ?_ | refine jbh ?_ | refine jan ?_ | refine jab ?_ | refine jbl rfl (fun hc => ?_) (fun hc => ?_))
  all_goals first | (exfalso; omega) | skip
  all_goals (apply jcj; (· (apply RetX.p; (· rfl); (· (repeat (first | exact BxO.nil _ | apply BxO.k | (apply BxO.o; (· (exact .lit _)))))); (· (apply GvA.cons; (· (apply RV.cellN (n := 2); (· rfl); (· rfl); (· kernel_rfl); (· rfl))); (· (apply GvP.g; (· (apply GvL.cons (.lit _)); (apply GvL.cons (.lit _)); exact GvL.nil)))); exact GvA.nil); (· (decide)))))
  all_goals exact ⟨_, _, by omega, rfl, _, _, rfl⟩
theorem l12DoE_p (bx by_ bwh : Int) (bll : List (List Int)) (pl : List Int) (ev : Int) (cc : List (List Int)) (ss nu : List Int) (co : Int) (k a : Int) (hB : hallB bx by_ bwh bll pl ev cc ss nu co = true) : PE Tryz.prog 67 [.g [dI bx, dI by_, dI bwh, eII bll, eI pl, dI ev, eII cc, eI ss, eI nu, dI co], .g [dI k, dI a]]
    (fun res => ∃ (rx ry rwh : Int) (rll : List (List Int)) (rpl : List Int) (rev : Int) (rcc : List (List Int)) (rss rnu : List Int) (rco : Int) (ok : Bool), (ok = true → hallB rx ry rwh rll rpl rev rcc rss rnu rco = true) ∧ res = .t [.g [dI rx, dI ry, dI rwh, eII rll, eI rpl, dI rev, eII rcc, eI rss, eI rnu, dI rco], .c (dB ok)]) := by
  have N := nextT_ok ⟨bx, by_, bwh, bll, pl, ev, cc, ss, nu, co⟩ k a
  obtain ⟨⟨rx, ry, rwh, rll, rpl, rev, rcc, rss, rnu, rco⟩, ok, e⟩ : ∃ r ok, nextT ⟨bx, by_, bwh, bll, pl, ev, cc, ss, nu, co⟩ k a = (r, ok) := ⟨_, _, rfl⟩
  rw [e] at N
  exact PC.pe (l12Do_p bx by_ bwh bll pl ev cc ss nu co k a rx ry rwh rll rpl rev rcc rss rnu rco ok hB e) ⟨_, _, _, _, _, _, _, _, _, _, _, N.val, rfl⟩
theorem new_valid {bx by_ bwh : Int} {bll : List (List Int)} {ev : Int} {cc : List (List Int)} {ss : List Int} (h : newB bx by_ bwh bll ev cc ss = true) : hallB bx by_ bwh bll (zerosL (bx + by_).toNat) ev cc ss (zerosL ev.toNat) 0 = true := by
  have n := newB_spec h
  simp only [newB, Bool.and_eq_true] at h
  have x1 := n.x1; have y1 := n.y1; have e0 := n.e0
  have p := zerosL_bits (bx + by_).toNat
  have q := zerosL_bits ev.toNat
  rw [Int.toNat_of_nonneg (by omega)] at p q
  simp [hallB, h.1, h.2, p, q, inB]
theorem spNewHallE_p (bx by_ bwh : Int) (bll : List (List Int)) (ev : Int) (cc : List (List Int)) (ss : List Int) : PE Tryz.prog 65 [.g [dI bx, dI by_, dI bwh, eII bll], .g [dI ev, eII cc, eI ss]]
    (fun res => ∃ (rx ry rwh : Int) (rll : List (List Int)) (rpl : List Int) (rev : Int) (rcc : List (List Int)) (rss rnu : List Int) (rco : Int) (ok : Bool), ((ok = true → hallB rx ry rwh rll rpl rev rcc rss rnu rco = true) ∧ rpl.length ≤ 6 ∧ rnu.length ≤ 12) ∧ res = .t [.g [dI rx, dI ry, dI rwh, eII rll, eI rpl, dI rev, eII rcc, eI rss, eI rnu, dI rco], .c (dB ok)]) := by
  refine PC.pe (spNewHall_p bx by_ bwh bll ev cc ss) ⟨_, _, _, _, _, _, _, _, _, _, _, ⟨fun h => ?_, (newB_cnt bx by_ bwh bll ev cc ss).1.2, (newB_cnt bx by_ bwh bll ev cc ss).2.2⟩, rfl⟩
  rw [h]
  exact new_valid h
def HallX (res : Res) : Prop := ∃ (bx by_ bwh : Int) (bll : List (List Int)) (pl : List Int) (ev : Int) (cc : List (List Int)) (ss nu : List Int) (co : Int), (pl.length ≤ 7 ∧ nu.length ≤ 13) ∧ res = .p (.g [dI bx, dI by_, dI bwh, eII bll, eI pl, dI ev, eII cc, eI ss, eI nu, dI co])
theorem dem_hallP {b : Nat} {a1 a2 a3 a4 a6 a7 a8 a9 a10 : D} {n : Nat} {W : List D} (hn : n = W.length) : C.demL b W [.d a1, .d a2, .d a3, .d a4, .ls b 1 0 n, .d a6, .d a7, .d a8, .d a9, .d a10] = [.d a1, .d a2, .d a3, .d a4, .d (.sl 1 n W), .d a6, .d a7, .d a8, .d a9, .d a10] := by
  subst hn
  have b1 : Nat.beq b b = true := by simp
  have b2 : Nat.blt 0 1 = true := rfl
  have b3 : W.length.ble W.length = true := by simp
  simp [C.demL, C.dem, b1, b2, b3]
theorem dem_hallN {b : Nat} {a1 a2 a3 a4 a5 a6 a7 a8 a10 : D} {n : Nat} {W : List D} (hn : n = W.length) : C.demL b W [.d a1, .d a2, .d a3, .d a4, .d a5, .d a6, .d a7, .d a8, .ls b 1 0 n, .d a10] = [.d a1, .d a2, .d a3, .d a4, .d a5, .d a6, .d a7, .d a8, .d (.sl 1 n W), .d a10] := by
  subst hn
  have b1 : Nat.beq b b = true := by simp
  have b2 : Nat.blt 0 1 = true := rfl
  have b3 : W.length.ble W.length = true := by simp
  simp [C.demL, C.dem, b1, b2, b3]
theorem hallX_of {bx by_ bwh : Int} {bll : List (List Int)} {n m : Nat} {P N : List D} {ev : Int} {cc : List (List Int)} {ss : List Int} {co : Int} (hP : IsI P) (hn : P.length = n) (hN : IsI N) (hm : N.length = m) (h7 : n ≤ 7) (h13 : m ≤ 13) : HallX (.p (.g [dI bx, dI by_, dI bwh, eII bll, .sl 1 n P, dI ev, eII cc, eI ss, .sl 1 m N, dI co])) := by
  obtain ⟨p, hp, ep⟩ := hP.sl hn
  obtain ⟨q, hq, eq⟩ := hN.sl hm
  exact ⟨bx, by_, bwh, bll, p, ev, cc, ss, q, co, ⟨by omega, by omega⟩, by rw [ep, eq]⟩
structure LckH (G : Prop) : Prop where
  h : G
theorem joinH {G G' : Prop} (f : LckH G → G') (g : G) : G' := f ⟨g⟩
set_option maxHeartbeats 40000000 in
theorem curHall_p (code : Tx) (a s : Int) (h0 : 0 ≤ a) (h1 : a ≤ 4611686018427340000) : PXV Tryz.prog 35 (CurB code a s) [] (CurR a 9000 HallX) := by
  refine pxv_intro Tryz.func35 rfl rfl rfl (by kernel_rfl) rfl rfl rfl ?_; intro kv X c0
  repeat' (first | (refine jaa (.alloc 31) ?_; refine jas (zs := [.int .i64 0, .int .i64 0, .int .i64 0, .slice none 0 0, .slice none 0 0, .int .i64 0, .slice none 0 0, .slice none 0 0, .slice none 0 0, .int .i64 0]) (by kernel_rfl) rfl ?_) | (refine jaa (.move _) ?_; (refine jac (jak rfl) rfl ?_)) | (refine jaa (.alloc 26) ?_; refine jas (zs := [.int .i64 0, .int .i64 0, .int .i64 0, .slice none 0 0]) (by kernel_rfl) rfl ?_) | (refine jaa (.store 26 _ _) ?_; (refine jag rfl rfl rfl (by kernel_rfl) rfl rfl ?_)) | (refine jaa (.call ⟨.value (.func 63), _, _⟩) ?_; (apply jbb (fid := 63); (· rfl); (· rfl); (· (repeat (first | exact BxI.nil | apply BxI.ks | (apply BxI.o; (· (exact .lit _)))))); (· (repeat (exact ArX.nil))); (· (decide)); (· (decide)); (· exact curQuietBox_p code _ _ (by omega) (by omega)); (· rfl); (· (intro b hb1 hb2; omega)); (· rfl); (rintro _ _ ⟨a1, s1, ha1, rfl, x, y, n, ll, hl, rfl⟩; refine ⟨(by first | rfl | simp [*]), ?_⟩))) | refine jah ?_ | refine jaj ?_ | refine jab (id := 0) ?_ | refine jab (id := 1) ?_)
  refine sk_ghost (sim_ren 3010 3000 rfl rfl rfl rfl) ?_
  refine jab (id := 2) ?_
  all_goals ((refine jac (jak rfl) rfl ?_))
  all_goals ((apply jbb (fid := 44); (· rfl); (· rfl); (· (repeat (first | exact BxI.nil | apply BxI.ks | (apply BxI.o; (· (exact .lit _)))))); (· (repeat (first | exact ArX.nil | apply ArX.v (.c (.d _))))); (· (decide)); (· (decide)); (· exact curOne_p code _ _ _ (by omega) (by omega)); (· rfl); (· (intro b hb1 hb2; omega)); (· rfl); (rintro _ _ ⟨a2, s2, ha2, rfl, b2, rfl⟩; refine ⟨(by first | rfl | simp [*]), ?_⟩)))
  all_goals refine jah ?_
  repeat' refine jaj ?_
  apply jay [0, 2, 3, 12] [2, 3, 3000, 3010, 800000000, 900000000] rfl; (· (repeat (first | exact Pf.nil | apply Pf.cons (.c rfl (.d rfl)) | apply Pf.cons (.c rfl (.lp rfl))))); (· (repeat (first | exact Pb.nil | apply Pb.cons (.row rfl) | (apply Pb.cons; (· apply Nb.box rfl; (repeat (first | exact Ncs.nil rfl | (apply Ncs.cons rfl; (· (first | exact .d rfl | exact .ls rfl))))))) | apply Pb.cons (.any rfl) | apply Pb.skip)))
  refine sk_join [0, 2, 3] [2, 3010, 900000000] (fun g : Int × Int × Int × List (List Int) × Int × Int => []) (fun g => [(800000000, .box [.d (.same (kv 0) (eB code)), .d (dI g.2.2.2.2.1), .d (dW g.2.2.2.2.2)]), (3, .box [.d (dI g.1), .d (dI g.2.1), .d (dI g.2.2.1), .ls 3000 1 0 g.2.2.2.1.length]), (3000, .row 1 (cII g.2.2.2.1))]) (fun g => g.2.2.2.1.length ≤ 21 ∧ a ≤ g.2.2.2.2.1 ∧ g.2.2.2.2.1 ≤ a + 8100) ?_ ?_
  · repeat' (first | refine jan ?_ | refine jcu rfl (fun hc => ?_) (fun hc => ?_))
    · refine jab (id := 3) ?_
      all_goals ((refine jac (jak rfl) rfl ?_))
      all_goals ((apply jbb (fid := 64); (· rfl); (· rfl); (· (repeat (first | exact BxI.nil | apply BxI.ks | (apply BxI.o; (· (exact .lit _)))))); (· (repeat (exact ArX.nil))); (· (decide)); (· (decide)); (· exact curBox_p code _ _ (by omega) (by omega)); (· rfl); (· (intro b hb1 hb2; omega)); (· rfl); (rintro _ _ ⟨a3, s3, ha3, rfl, x3, y3, n3, l3, hl3, rfl⟩; refine ⟨(by first | rfl | simp [*]), ?_⟩)))
      all_goals (refine so_ghost (sim_forget 3000) ?_; refine so_ghost (sim_ren 3014 3000 rfl rfl rfl rfl) ?_; ((refine jag rfl rfl rfl (by kernel_rfl) rfl rfl ?_)))
      all_goals refine jah ?_
      first | refine jbh ?_ | skip
      refine jbf ?_; refine ⟨(x3, y3, n3, l3, a3, s3), ?_, trivial, jcf rfl (by (repeat (exact trivial))) (by (repeat (first | exact trivial | refine ⟨rfl, ?_⟩))) (by (repeat (first | exact trivial | refine ⟨(by (first | (refine jbq rfl ?_; simp; done) | rfl)), ?_⟩))) (by (repeat (first | exact trivial | refine ⟨.inr rfl, ?_⟩)))⟩
      exact ⟨by dsimp only; omega, by dsimp only; omega⟩
    · first | refine jbh ?_ | skip
      refine jbf ?_; refine ⟨(x, y, n, ll, a2, s2), ?_, trivial, jcf rfl (by (repeat (exact trivial))) (by (repeat (first | exact trivial | refine ⟨rfl, ?_⟩))) (by (repeat (first | exact trivial | refine ⟨(by (first | (refine jbq rfl ?_; simp; done) | (refine jcv rfl ?_; simp; done))), ?_⟩))) (by (repeat (first | exact trivial | refine ⟨.inr rfl, ?_⟩)))⟩
      exact ⟨by dsimp only; omega, by dsimp only; omega⟩
  rintro ⟨x4, y4, n4, l4, a4, s4⟩ ⟨h4, ha4⟩
  dsimp only at h4 ha4 ⊢
  repeat' (first | (refine jaa (.move _) ?_; (refine jac (jak rfl) rfl ?_)) | (refine jaa (.assign _) ?_; (refine jac (jal rfl) rfl ?_)) | (refine jaa (.call ⟨.value (.func 46), _, _⟩) ?_; (apply jbb (d := 23) (fid := 46); (· rfl); (· rfl); (· (repeat (first | exact BxI.nil | apply BxI.ks | (apply BxI.o; (· (exact .lit _)))))); (· (repeat (first | exact ArX.nil | apply ArX.v (.c (.d _))))); (· (decide)); (· (decide)); (· exact curPick_p code _ _ 6 (by omega) (by omega)); (· rfl); (· (intro b hb1 hb2; omega)); (· rfl); (rintro _ _ ⟨a6, s6, ha6, rfl, x6, hx6, rfl⟩; refine ⟨(by first | rfl | simp [*]), ?_⟩))) | refine jah ?_ | refine jaj ?_ | refine jai ?_ | (refine jat 4 (fun i => i == 2 || i == 8) (IT.lt (.step 8 false (.step 9 true .nil)) fun Y3 => (IT.lt (.step 3 false (.step 4 true (.step 5 true (.step 6 true (IT.ref false [0, 2, 4, 5, 20, 21] [2, 3010, 3, 3014, 1018, 2018, 3019, 4019, 6019, 7019, 8019, 4, 900000000, 800000000, 3000] Y3))))) fun Y2 => (IT.lt (.alt 4 (.step 3 false (.step 4 true (.step 5 true (.step 6 true (.step 7 false (IT.ref true [0, 2, 4, 5, 20, 21] [2, 3010, 3, 3014, 1018, 2018, 3019, 4019, 6019, 7019, 8019, 4, 900000000, 800000000, 3000] Y3)))))) (.step 7 false (IT.ref false [0, 2, 4, 5, 16, 18] [2, 3010, 3, 3014, 1018, 2018, 3019, 4019, 6019, 7019, 8019, 4, 900000000, 800000000, 3000] Y2))) fun Y1 => (IT.lt (.step 2 false (IT.ref false [0, 2, 4, 5, 16, 18] [2, 3010, 3, 3014, 1018, 2018, 3019, 4019, 6019, 7019, 8019, 4, 900000000, 800000000, 3000] Y2)) fun Y0 => (.step 1 true (.alt 4 (.step 0 false (.alt 4 (.step 2 false (IT.ref true [0, 2, 4, 5, 16, 18] [2, 3010, 3, 3014, 1018, 2018, 3019, 4019, 6019, 7019, 8019, 4, 900000000, 800000000, 3000] Y1)) (.step 7 false (IT.ref true [0, 2, 4, 5, 16, 17] [2, 3010, 3, 3014, 1018, 2018, 3019, 4019, 6019, 7019, 8019, 4, 900000000, 800000000, 3000] Y0)))) (.alt 4 (.step 2 false (.step 0 true (IT.ref false [0, 2, 4, 5, 16, 18] [2, 3010, 3, 3014, 1018, 2018, 3019, 4019, 6019, 7019, 8019, 4, 900000000, 800000000, 3000] Y1))) (.step 7 false (.alt 4 (.step 0 false (IT.ref false [0, 2, 4, 5, 16, 17] [2, 3010, 3, 3014, 1018, 2018, 3019, 4019, 6019, 7019, 8019, 4, 900000000, 800000000, 3000] Y0)) (.step 2 false (.step 0 true (IT.ref true [0, 2, 4, 5, 16, 18] [2, 3010, 3, 3014, 1018, 2018, 3019, 4019, 6019, 7019, 8019, 4, 900000000, 800000000, 3000] Y2)))))))))))) [(0, 1023, 1019, false), (0, 1023, 1023, true), (2, 1021, 1023, false), (5, 1018, 1019, false), (8, 1015, 1019, true), (16, 1007, 1019, true), (16, 1007, 763, true), (0, 1023, 1019, false), (191, 863, 1019, false), (511, 959, 763, true)] (by kernel_rfl) (by kernel_rfl) ?_; apply so_lt16; (· intro Y3 hY3; apply so_lt5; (· intro Y2 hY2; apply so_lt5; (· intro Y1 hY1; apply so_lt0; (· intro Y0 hY0; ((refine jac (jak rfl) rfl ?_)); refine jcs ?_ ?_; (· ((refine jac (jaf rfl rfl (by kernel_rfl : tAgg _ 26 4 = true) rfl) rfl ?_)); refine jcs ?_ ?_; (· ((apply jbb (d := 18) (fid := 66); (· rfl); (· rfl); (· (repeat (first | exact BxI.nil | apply BxI.ks | (apply BxI.o; (· (exact .lit _)))))); (· (repeat (exact ArX.nil))); (· (decide)); (· (decide)); (· exact curScene7_p code _ _ (by omega) (by omega)); (· rfl); (· (intro b hb1 hb2; omega)); (· rfl); (rintro _ _ ⟨w18_1, w18_2, hw18_1, rfl, w18_3, w18_4, w18_5, rfl⟩; refine ⟨(by first | rfl | simp [*]), ?_⟩))); ((with_reducible apply so_j1); (· rfl); (· (repeat (first | exact Pf.nil | apply Pf.cons (.c rfl (.lp rfl)) | (apply Pf.cons; (· apply Nv.g rfl; (repeat (first | exact Ncs.nil rfl | (apply Ncs.cons rfl; (· (first | exact .d rfl | exact .ls rfl))))))) | apply Pf.skip))); (· (repeat (first | exact Pb.nil | apply Pb.cons (.row rfl) | (apply Pb.cons; (· apply Nb.box rfl; (repeat (first | exact Ncs.nil rfl | (apply Ncs.cons rfl; (· (first | exact .d rfl | exact .ls rfl))))))) | apply Pb.cons (.any rfl) | apply Pb.skip))); (· exact (hY1 w18_1 w18_2 w18_3 w18_4 w18_5 (And.intro hw18_1 (trivial)))))); ((refine jas (zs := [.int .i64 0, .int .i64 0, .int .i64 0, .slice none 0 0, .slice none 0 0, .int .i64 0, .slice none 0 0, .slice none 0 0, .slice none 0 0, .int .i64 0]) (by kernel_rfl) rfl ?_); ((with_reducible apply so_j1); (· rfl); (· (repeat (first | exact Pf.nil | apply Pf.cons (.c rfl (.lp rfl)) | (apply Pf.cons; (· apply Nv.g rfl; (repeat (first | exact Ncs.nil rfl | (apply Ncs.cons rfl; (· (first | exact .d rfl | exact .ls rfl))))))) | apply Pf.skip))); (· (repeat (first | exact Pb.nil | apply Pb.cons (.row rfl) | (apply Pb.cons; (· apply Nb.box rfl; (repeat (first | exact Ncs.nil rfl | (apply Ncs.cons rfl; (· (first | exact .d rfl | exact .ls rfl))))))) | apply Pb.cons (.any rfl) | apply Pb.skip))); (· exact (hY0  (trivial)))))); (refine jcs ?_ ?_; (· ((apply jbb (d := 18) (fid := 66); (· rfl); (· rfl); (· (repeat (first | exact BxI.nil | apply BxI.ks | (apply BxI.o; (· (exact .lit _)))))); (· (repeat (exact ArX.nil))); (· (decide)); (· (decide)); (· exact curScene7_p code _ _ (by omega) (by omega)); (· rfl); (· (intro b hb1 hb2; omega)); (· rfl); (rintro _ _ ⟨w18_1, w18_2, hw18_1, rfl, w18_3, w18_4, w18_5, rfl⟩; refine ⟨(by first | rfl | simp [*]), ?_⟩))); ((refine jac (jaf rfl rfl (by kernel_rfl : tAgg _ 26 4 = true) rfl) rfl ?_)); ((with_reducible apply so_j2); (· exact (hY1 w18_1 w18_2 w18_3 w18_4 w18_5 (And.intro hw18_1 (trivial)))); (· rfl); (· exact (by (repeat (first | exact trivial | refine ⟨rfl, ?_⟩)))); (· exact (by (repeat (first | exact trivial | refine ⟨rfl, ?_⟩)))))); ((refine jas (zs := [.int .i64 0, .int .i64 0, .int .i64 0, .slice none 0 0, .slice none 0 0, .int .i64 0, .slice none 0 0, .slice none 0 0, .slice none 0 0, .int .i64 0]) (by kernel_rfl) rfl ?_); refine jcs ?_ ?_; (· ((refine jac (jaf rfl rfl (by kernel_rfl : tAgg _ 26 4 = true) rfl) rfl ?_)); ((with_reducible apply so_j2); (· exact (hY0  (trivial))); (· rfl); (· exact (by (repeat (first | exact trivial | refine ⟨rfl, ?_⟩)))); (· exact (by (repeat (first | exact trivial | refine ⟨rfl, ?_⟩)))))); (((apply jbb (d := 18) (fid := 66); (· rfl); (· rfl); (· (repeat (first | exact BxI.nil | apply BxI.ks | (apply BxI.o; (· (exact .lit _)))))); (· (repeat (exact ArX.nil))); (· (decide)); (· (decide)); (· exact curScene7_p code _ _ (by omega) (by omega)); (· rfl); (· (intro b hb1 hb2; omega)); (· rfl); (rintro _ _ ⟨w18_1, w18_2, hw18_1, rfl, w18_3, w18_4, w18_5, rfl⟩; refine ⟨(by first | rfl | simp [*]), ?_⟩))); ((refine jac (jaf rfl rfl (by kernel_rfl : tAgg _ 26 4 = true) rfl) rfl ?_)); ((with_reducible apply so_j1); (· rfl); (· (repeat (first | exact Pf.nil | apply Pf.cons (.c rfl (.lp rfl)) | (apply Pf.cons; (· apply Nv.g rfl; (repeat (first | exact Ncs.nil rfl | (apply Ncs.cons rfl; (· (first | exact .d rfl | exact .ls rfl))))))) | apply Pf.skip))); (· (repeat (first | exact Pb.nil | apply Pb.cons (.row rfl) | (apply Pb.cons; (· apply Nb.box rfl; (repeat (first | exact Ncs.nil rfl | (apply Ncs.cons rfl; (· (first | exact .d rfl | exact .ls rfl))))))) | apply Pb.cons (.any rfl) | apply Pb.skip))); (· exact (hY2 w18_1 w18_2 w18_3 w18_4 w18_5 (And.intro hw18_1 (trivial))))))))); (intro  hok; obtain ⟨-⟩ := hok; ((apply jbb (d := 18) (fid := 66); (· rfl); (· rfl); (· (repeat (first | exact BxI.nil | apply BxI.ks | (apply BxI.o; (· (exact .lit _)))))); (· (repeat (exact ArX.nil))); (· (decide)); (· (decide)); (· exact curScene7_p code _ _ (by omega) (by omega)); (· rfl); (· (intro b hb1 hb2; omega)); (· rfl); (rintro _ _ ⟨w18_1, w18_2, hw18_1, rfl, w18_3, w18_4, w18_5, rfl⟩; refine ⟨(by first | rfl | simp [*]), ?_⟩))); ((with_reducible apply so_j2); (· exact (hY2 w18_1 w18_2 w18_3 w18_4 w18_5 (And.intro hw18_1 (trivial)))); (· rfl); (· exact (by (repeat (first | exact trivial | refine ⟨rfl, ?_⟩)))); (· exact (by (repeat (first | exact trivial | refine ⟨rfl, ?_⟩))))))); (intro w18_1 w18_2 w18_3 w18_4 w18_5 hok; obtain ⟨hw18_1, -⟩ := hok; refine jcs ?_ ?_; (· ((apply so_callE (d := 19) (fid := 65); (· (repeat (first | exact SeA.nil | (apply SeA.cons; (· (apply SeP.g; (repeat (first | exact SeL.nil | apply SeL.cons (.d _) | apply SeL.cons (.all _ _ _ _ rfl (by ((simp; done)))))))))))); (· exact spNewHallE_p _ _ _ _ _ _ _); (· rfl); (rintro _ ⟨w19_1, w19_2, w19_3, w19_4, w19_5, w19_6, w19_7, w19_8, w19_9, w19_10, w19_11, hw19_1, rfl⟩))); ((refine jac (qt_mvT rfl) rfl ?_)); (refine jac (jbm rfl rfl) rfl ?_); (refine jac (jbm rfl rfl) rfl ?_); (refine jas (zs := [.int .i64 0, .int .i64 0, .int .i64 0, .slice none 0 0, .slice none 0 0, .int .i64 0, .slice none 0 0, .slice none 0 0, .slice none 0 0, .int .i64 0]) (by kernel_rfl) rfl ?_); ((with_reducible apply so_j1); (· rfl); (· (repeat (first | exact Pf.nil | apply Pf.cons (.c rfl (.d rfl)) | apply Pf.cons (.c rfl (.lp rfl)) | (apply Pf.cons; (· apply Nv.g rfl; (repeat (first | exact Ncs.nil rfl | (apply Ncs.cons rfl; (· (exact .d rfl))))))) | apply Pf.skip))); (· (repeat (first | exact Pb.nil | apply Pb.cons (.row rfl) | (apply Pb.cons; (· apply Nb.box rfl; (repeat (first | exact Ncs.nil rfl | (apply Ncs.cons rfl; (· (first | exact .d rfl | exact .ls rfl))))))) | apply Pb.cons (.any rfl) | apply Pb.skip))); (· exact (hY3 w18_1 w18_2 w18_3 w18_4 w18_5 w19_1 w19_2 w19_3 w19_4 w19_5 w19_6 w19_7 w19_8 w19_9 w19_10 w19_11 (And.intro hw18_1 (And.intro hw19_1 (trivial))))))); ((refine jas (zs := [.int .i64 0, .int .i64 0, .int .i64 0, .slice none 0 0, .slice none 0 0, .int .i64 0, .slice none 0 0, .slice none 0 0, .slice none 0 0, .int .i64 0]) (by kernel_rfl) rfl ?_); ((with_reducible apply so_j2); (· exact (hY2 w18_1 w18_2 w18_3 w18_4 w18_5 (And.intro hw18_1 (trivial)))); (· rfl); (· exact (by (repeat (first | exact trivial | refine ⟨rfl, ?_⟩)))); (· exact (by (repeat (first | exact trivial | refine ⟨rfl, ?_⟩)))))))); (intro w18_1 w18_2 w18_3 w18_4 w18_5 hok; obtain ⟨hw18_1, -⟩ := hok; ((apply so_callE (d := 19) (fid := 65); (· (repeat (first | exact SeA.nil | (apply SeA.cons; (· (apply SeP.g; (repeat (first | exact SeL.nil | apply SeL.cons (.d _) | apply SeL.cons (.all _ _ _ _ rfl (by ((simp; done)))))))))))); (· exact spNewHallE_p _ _ _ _ _ _ _); (· rfl); (rintro _ ⟨w19_1, w19_2, w19_3, w19_4, w19_5, w19_6, w19_7, w19_8, w19_9, w19_10, w19_11, hw19_1, rfl⟩))); ((refine jac (qt_mvT rfl) rfl ?_)); (refine jac (jbm rfl rfl) rfl ?_); (refine jac (jbm rfl rfl) rfl ?_); ((with_reducible apply so_j2); (· exact (hY3 w18_1 w18_2 w18_3 w18_4 w18_5 w19_1 w19_2 w19_3 w19_4 w19_5 w19_6 w19_7 w19_8 w19_9 w19_10 w19_11 (And.intro hw18_1 (And.intro hw19_1 (trivial))))); (· rfl); (· exact (by (repeat (first | exact trivial | refine ⟨rfl, ?_⟩)))); (· exact (by (repeat (first | exact trivial | refine ⟨rfl, ?_⟩))))))); (intro w18_1 w18_2 w18_3 w18_4 w18_5 w19_1 w19_2 w19_3 w19_4 w19_5 w19_6 w19_7 w19_8 w19_9 w19_10 w19_11 hok; obtain ⟨hw18_1, hw19_1, -⟩ := hok; ((refine jag rfl rfl rfl (by kernel_rfl) rfl rfl ?_)); ((refine jac (jal rfl) rfl ?_)); refine jah ?_)) | refine jab (id := 5) ?_)
  obtain ⟨hok, hp, hn⟩ := hw19_1
  generalize w19_11 = ok at *
  apply jay [0, 2, 4, 5, 6] [2, 3, 4, 7, 46, 53, 54, 55, 61, 62, 63, 1018, 2018, 3000, 3010, 3014, 3019, 3036, 4019, 4036, 6019, 6036, 7019, 7036, 8019, 8036, 800000000, 900000000] rfl; (· (repeat (first | exact Pf.nil | apply Pf.cons (.c rfl (.d rfl)) | apply Pf.cons (.c rfl (.lp rfl))))); (· (repeat (first | exact Pb.nil | apply Pb.cons (.row rfl) | (apply Pb.cons; (· apply Nb.box rfl; (repeat (first | exact Ncs.nil rfl | (apply Ncs.cons rfl; (· (first | exact .d rfl | exact .ls rfl))))))) | apply Pb.cons (.any rfl) | apply Pb.skip)))
  refine jbd [0, 2, 4, 5] [2, 3010, 3, 3014, 1018, 2018, 3019, 4019, 6019, 7019, 8019, 3036, 4036, 6036, 7036, 8036, 7, 46, 53, 54, 55, 61, 62, 63, 900000000] (fun g : (Int × Int × Int × List (List Int) × List Int) × (Int × List (List Int) × List Int × List Int × Int) × Int × Int × Int => [(6, iZ g.2.2.1)]) (fun g => [(800000000, .box [.d (.same (kv 0) (eB code)), .d (dI g.2.2.2.1), .d (dW g.2.2.2.2)]), (4, .box [.d (dI g.1.1), .d (dI g.1.2.1), .d (dI g.1.2.2.1), .d (eII g.1.2.2.2.1), .d (eI g.1.2.2.2.2), .d (dI g.2.1.1), .d (eII g.2.1.2.1), .d (eI g.2.1.2.2.1), .d (eI g.2.1.2.2.2.1), .d (dI g.2.1.2.2.2.2)])]) (fun g => (0 ≤ g.2.2.1 ∧ g.2.2.1 ≤ 5) ∧ (a ≤ g.2.2.2.1 ∧ g.2.2.2.1 ≤ a + 8600 + 20 * (5 - g.2.2.1)) ∧ (g.1.2.2.2.2.length ≤ 6 ∧ g.2.1.2.2.2.1.length ≤ 12) ∧ (ok = true → hallB g.1.1 g.1.2.1 g.1.2.2.1 g.1.2.2.2.1 g.1.2.2.2.2 g.2.1.1 g.2.1.2.1 g.2.1.2.2.1 g.2.1.2.2.2.1 g.2.1.2.2.2.2 = true)) (fun g => g.2.2.1.toNat) (((w19_1, w19_2, w19_3, w19_4, w19_5), (w19_6, w19_7, w19_8, w19_9, w19_10), x6, a6, s6)) ?_ (by (repeat (first | exact trivial | refine ⟨(by (rfl)), ?_⟩))) (by (repeat (first | exact trivial | refine ⟨(by ((refine jcv rfl ?_; simp; done))), ?_⟩))) ?_
  · exact ⟨by dsimp only; omega, by dsimp only; omega, ⟨hp, hn⟩, hok⟩
  clear hok hp hn
  rintro ⟨⟨bx, by_, bwh, bll, pl⟩, ⟨ev, cc, ss, nu, co⟩, m, a7, s7⟩ ⟨hm, hA, ⟨hp, hn⟩, hok⟩
  dsimp only at hm hA hp hn hok ⊢
  refine joinH (G := ?G) ?f ?g
  case f =>
    intro H
    by_cases hk : 0 < m
    · cases ok with
      | false =>
        repeat' (first | (refine jaa (.move _) ?_; (refine jac (jak rfl) rfl ?_)) | (refine jaa (.binOp .gtr 3 _ _ _) ?_; refine jac (jdb rfl rfl) rfl ?_) | (refine jaa (.pick _ _ _) ?_; (refine jac (jby rfl rfl) rfl ?_)) | refine jah ?_ | refine jbw rfl rfl rfl rfl ?_ | refine jbg rfl rfl rfl rfl ?_ | refine jct rfl rfl (fun hg => ?_) (fun hg => ?_) | refine jaj ?_ | refine jav rfl ?_ | refine jab (id := 6) ?_ | refine jbp rfl ?_)
        all_goals first | (exfalso; omega) | (exfalso; simp_all; done) | skip
        apply jay [0, 2, 4] [2, 3, 4, 7, 1018, 2018, 3000, 3010, 3014, 3019, 3036, 4019, 4036, 6019, 6036, 7019, 7036, 8019, 8036, 800000000, 900000000] (n := Tryz.f35.ntmps) rfl; (· (repeat (first | exact Pf.nil | apply Pf.cons (.c rfl (.lp rfl))))); (· (repeat (first | exact Pb.nil | apply Pb.cons (.row rfl) | (apply Pb.cons; (· apply Nb.box rfl; (repeat (first | exact Ncs.nil rfl | (apply Ncs.cons rfl; (· (first | exact .d rfl | exact .ls rfl))))))) | apply Pb.cons (.any rfl) | apply Pb.skip)))
        exact H.h
      | true =>
        have hB := hok rfl
        repeat' (first | refine jcs ?_ ?_ | (refine jaa (.alloc 31) ?_; refine jas (zs := [.int .i64 0, .int .i64 0, .int .i64 0, .slice none 0 0, .slice none 0 0, .int .i64 0, .slice none 0 0, .slice none 0 0, .slice none 0 0, .int .i64 0]) (by kernel_rfl) rfl ?_) | (refine jaa (.move _) ?_; (first | refine jac (jak rfl) rfl ?_ | refine jac (qt_mvT rfl) rfl ?_)) | (refine jaa (.extract _ _) ?_; refine jac (jbm rfl rfl) rfl ?_) | (refine jaa (.store 31 _ _) ?_; (refine jag rfl rfl rfl (by kernel_rfl) rfl rfl ?_)) | (refine jaa (.assign _) ?_; (refine jac (jal rfl) rfl ?_)) | (refine jaa (.binOp .gtr 3 _ _ _) ?_; refine jac (jdb rfl rfl) rfl ?_) | (refine jaa (.pick _ _ _) ?_; (refine jac (jby rfl rfl) rfl ?_)) | (refine jaa (.load 31 _) ?_; (refine jac (jaf rfl rfl (by kernel_rfl : tAgg _ 31 10 = true) rfl) rfl ?_)) | (refine jaa (.call ⟨.value (.func 68), _, _⟩) ?_; (apply jbb (fid := 68); (· rfl); (· rfl); (· (repeat (first | exact BxI.nil | apply BxI.ks | (apply BxI.o; (· (exact .lit _)))))); (· (repeat (first | exact ArX.nil | (apply ArX.v; (· apply SxP.g; (repeat (first | exact SxL.nil | apply SxL.cons (.d _)))))))); (· (decide)); (· (decide)); (· exact curCall12_p code _ _ bx by_ bwh bll pl ev cc ss nu co (by omega) (by omega) (by omega) (by omega)); (· rfl); (· (intro b hb1 hb2; omega)); (· rfl); (rintro _ _ ⟨a8, s8, ha8, rfl, ck, ce, rfl⟩; refine ⟨(by first | rfl | simp [*]), ?_⟩))) | (refine jaa (.call ⟨.value (.func 67), _, _⟩) ?_; (apply so_callE (fid := 67); (· (repeat (first | exact SeA.nil | (apply SeA.cons; (· (apply SeP.g; (repeat (first | exact SeL.nil | apply SeL.cons (.d _))))))))); (· exact l12DoE_p bx by_ bwh bll pl ev cc ss nu co _ _ hB); (· rfl); (rintro _ ⟨rx, ry, rwh, rll, rpl, rev, rcc, rss, rnu, rco, ok2, hk2, rfl⟩))) | refine jah ?_ | refine jbw rfl rfl rfl rfl ?_ | refine jbg rfl rfl rfl rfl ?_ | refine jct rfl rfl (fun hg => ?_) (fun hg => ?_) | refine jaj ?_ | refine jai ?_ | refine jbh ?_ | refine jav rfl ?_ | refine jan ?_ | refine jab (id := 6) ?_ | refine jat 8 (fun i => i == 3 || i == 9) (.step 1 true (.step 2 true (.alt 8 (.step 0 false (.alt 8 (.step 3 false (.alt 8 (.step 4 false (.step 5 true (.step 6 true (.step 7 true (.step 8 false (.step 9 false (.step 10 true .nil))))))) (.step 8 false (.step 4 false (.step 5 true (.step 6 true (.step 7 true (.step 9 false (.step 10 true .nil))))))))) (.step 8 false (.step 3 false (.step 4 false (.step 5 true (.step 6 true (.step 7 true (.step 9 false (.step 10 true .nil)))))))))) (.alt 8 (.step 3 false (.step 0 true (.alt 8 (.step 4 false (.step 5 true (.step 6 true (.step 7 true (.step 8 false (.step 9 false (.step 10 true .nil))))))) (.step 8 false (.step 4 false (.step 5 true (.step 6 true (.step 7 true (.step 9 false (.step 10 true .nil)))))))))) (.step 8 false (.alt 8 (.step 0 false (.step 3 false (.step 4 false (.step 5 true (.step 6 true (.step 7 true (.step 9 false (.step 10 true .nil)))))))) (.step 3 false (.step 0 true (.step 4 false (.step 5 true (.step 6 true (.step 7 true (.step 9 false (.step 10 true .nil)))))))))))))) [(0, 2047, 2039, false), (0, 2047, 2047, true), (0, 2047, 2047, false), (6, 2041, 2047, false), (9, 2038, 2039, false), (16, 2031, 2039, true), (32, 2015, 2039, true), (32, 2015, 1527, true), (0, 2047, 2039, false), (383, 1727, 2039, false), (1023, 1919, 1527, true)] (by kernel_rfl) (by kernel_rfl) ?_ | refine jab (id := 9) ?_ | refine jab (id := 10) ?_ | refine jab (id := 11) ?_ | refine jbu rfl ?_ | refine jbp rfl ?_ | refine jcu rfl (fun hc => ?_) (fun hc => ?_))
        all_goals first | (exfalso; omega) | skip
        all_goals
          rcases Bool.eq_false_or_eq_true ok2 with hz | hz
          · first | (exfalso; clear H; simp_all; done) | skip
            all_goals
              have hR := hk2 hz
              have hc2 := hallB_cnt hR
              repeat' (first | (refine jaa (.move _) ?_; (refine jac (jak rfl) rfl ?_)) | (refine jaa (.assign _) ?_; (refine jac (jal rfl) rfl ?_)) | (refine jaa (.binOp .sub 3 _ _ _) ?_; refine jac (jch rfl rfl (by (omega))) rfl ?_) | refine jah ?_ | refine jab ?_)
              refine jbf ?_; refine ⟨((rx, ry, rwh, rll, rpl), (rev, rcc, rss, rnu, rco), m - 1, a8, s8), ?_, ?_, jcf rfl (by (repeat (first | exact trivial | refine ⟨(by (rfl)), ?_⟩))) (by (repeat (first | exact trivial | refine ⟨rfl, ?_⟩))) (by (repeat (first | exact trivial | refine ⟨(by (rfl)), ?_⟩))) (by (repeat (first | exact trivial | refine ⟨.inr rfl, ?_⟩ | refine ⟨.inl rfl, ?_⟩)))⟩
              · exact ⟨by dsimp only; omega, by dsimp only; omega, ⟨by dsimp only; omega, by dsimp only; omega⟩, fun _ => hR⟩
              · dsimp only; omega
          · first | (exfalso; clear H; simp_all; done) | skip
            all_goals
              repeat' (first | (refine jaa (.move _) ?_; (refine jac (jak rfl) rfl ?_)) | (refine jaa (.assign _) ?_; (refine jac (jal rfl) rfl ?_)) | (refine jaa (.binOp .sub 3 _ _ _) ?_; refine jac (jch rfl rfl (by (omega))) rfl ?_) | refine jah ?_ | refine jab ?_)
              refine jbf ?_; refine ⟨((bx, by_, bwh, bll, pl), (ev, cc, ss, nu, co), m - 1, a8, s8), ?_, ?_, jcf rfl (by (repeat (first | exact trivial | refine ⟨(by (rfl)), ?_⟩))) (by (repeat (first | exact trivial | refine ⟨rfl, ?_⟩))) (by (repeat (first | exact trivial | refine ⟨(by (rfl)), ?_⟩))) (by (repeat (first | exact trivial | refine ⟨.inr rfl, ?_⟩ | refine ⟨.inl rfl, ?_⟩)))⟩
              · exact ⟨by dsimp only; omega, by dsimp only; omega, ⟨by dsimp only; omega, by dsimp only; omega⟩, fun _ => hB⟩
              · dsimp only; omega
    · repeat' (first | (with_reducible apply so_lt) | intro Y hY | refine jcs ?_ ?_ | (refine jaa (.alloc 31) ?_; refine jas (zs := [.int .i64 0, .int .i64 0, .int .i64 0, .slice none 0 0, .slice none 0 0, .int .i64 0, .slice none 0 0, .slice none 0 0, .slice none 0 0, .int .i64 0]) (by kernel_rfl) rfl ?_) | (refine jaa (.move _) ?_; (refine jac (jak rfl) rfl ?_)) | (refine jaa (.binOp .gtr 3 _ _ _) ?_; refine jac (jdb rfl rfl) rfl ?_) | (refine jaa (.pick _ _ _) ?_; (refine jac (jby rfl rfl) rfl ?_)) | (refine jaa (.load 31 _) ?_; (refine jac (jaf rfl rfl (by kernel_rfl : tAgg _ 31 10 = true) rfl) rfl ?_)) | refine jah ?_ | refine jbw rfl rfl rfl rfl ?_ | refine jbg rfl rfl rfl rfl ?_ | refine jct rfl rfl (fun hg => ?_) (fun hg => ?_) | refine jaj ?_ | refine jai ?_ | refine jav rfl ?_ | refine jan ?_ | refine jab (id := 6) ?_ | (apply jda 8 [0, 2, 4, 5, 6] [2, 3010, 3, 3014, 1018, 2018, 3019, 4019, 6019, 7019, 8019, 4, 900000000, 800000000, 3000] rfl; (· (repeat (first | exact Pf.nil | apply Pf.cons (.c rfl (.d rfl)) | apply Pf.cons (.c rfl (.lp rfl))))); (· (repeat (first | exact Pb.nil | apply Pb.cons (.row rfl) | (apply Pb.cons; (· apply Nb.box rfl; (repeat (first | exact Ncs.nil rfl | (apply Ncs.cons rfl; (· (first | exact .d rfl | exact .ls rfl))))))) | apply Pb.cons (.any rfl) | apply Pb.skip))); refine jat 8 (fun i => i == 9) (IT.lt (.step 9 false (.step 10 true .nil)) fun Y1 => (IT.lt (.step 4 false (.step 5 true (.step 6 true (.step 7 true (IT.ref false [0, 2, 4, 5, 6, 7, 8, 37, 38] [2, 3010, 3, 3014, 1018, 2018, 3019, 4019, 6019, 7019, 8019, 4, 3036, 4036, 6036, 7036, 8036, 7, 900000000, 800000000, 3000] Y1))))) fun Y0 => (.step 0 true (.step 1 true (.step 2 true (.alt 8 (.step 3 false (.alt 8 (.step 4 false (.step 5 true (.step 6 true (.step 7 true (.step 8 false (IT.ref true [0, 2, 4, 5, 6, 7, 8, 37, 38] [2, 3010, 3, 3014, 1018, 2018, 3019, 4019, 6019, 7019, 8019, 4, 3036, 4036, 6036, 7036, 8036, 7, 900000000, 800000000, 3000] Y1)))))) (.step 8 false (IT.ref true [0, 2, 4, 5, 6, 7, 8, 32, 35] [2, 3010, 3, 3014, 1018, 2018, 3019, 4019, 6019, 7019, 8019, 4, 3036, 4036, 6036, 7036, 8036, 7, 900000000, 800000000, 3000] Y0)))) (.step 8 false (.step 3 false (IT.ref false [0, 2, 4, 5, 6, 7, 8, 32, 35] [2, 3010, 3, 3014, 1018, 2018, 3019, 4019, 6019, 7019, 8019, 4, 3036, 4036, 6036, 7036, 8036, 7, 900000000, 800000000, 3000] Y0))))))))) [(0, 2047, 2047, false), (0, 2047, 2047, true), (0, 2047, 2047, false), (6, 2041, 2047, false), (9, 2038, 2047, false), (16, 2031, 2047, true), (32, 2015, 2047, true), (32, 2015, 1535, true), (0, 2047, 2047, false), (383, 1727, 2047, false), (1023, 1919, 1535, true)] (by kernel_rfl) (by kernel_rfl) ?_) | refine jbp rfl ?_ | refine jcu rfl (fun hc => ?_) (fun hc => ?_))
      all_goals first | (exfalso; omega) | (exfalso; simp_all; done) | skip
      apply jay [0, 2, 4] [2, 3, 4, 7, 1018, 2018, 3000, 3010, 3014, 3019, 3036, 4019, 4036, 6019, 6036, 7019, 7036, 8019, 8036, 800000000, 900000000] (n := Tryz.f35.ntmps) rfl; (· (repeat (first | exact Pf.nil | apply Pf.cons (.c rfl (.lp rfl))))); (· (repeat (first | exact Pb.nil | apply Pb.cons (.row rfl) | (apply Pb.cons; (· apply Nb.box rfl; (repeat (first | exact Ncs.nil rfl | (apply Ncs.cons rfl; (· (first | exact .d rfl | exact .ls rfl))))))) | apply Pb.cons (.any rfl) | apply Pb.skip)))
      exact H.h
  case g =>
    repeat' (first | (refine jaa (.move _) ?_; (refine jac (jak rfl) rfl ?_)) | (refine jaa (.assign _) ?_; (refine jac (jal rfl) rfl ?_)) | (refine jaa (.binOp .eql 3 _ _ _) ?_; refine jac (jcb rfl rfl) rfl ?_) | (refine jaa (.buildSlice 27 3 _) ?_; (apply jao (sz := 1) (by_ := 8); (· kernel_rfl); (· decide); (· (repeat (first | exact GvS.nil _ | apply GvS.c rfl rfl (.lit _) rfl))); (· (decide)); (· rfl); (· rfl); (· rfl))) | (refine jaa (.fieldAddr 31 _ 4) ?_; (refine jac (jad (off := 9) rfl (by kernel_rfl)) rfl ?_)) | (refine jaa (.store 3 _ _) ?_; (refine jaq rfl rfl rfl rfl (by kernel_rfl) rfl rfl ?_)) | (refine jaa (.fieldAddr 31 _ 1) ?_; (refine jac (jad (off := 4) rfl (by kernel_rfl)) rfl ?_)) | (refine jaa (.load 27 _) ?_; (refine jac (jae rfl rfl (by kernel_rfl) rfl) rfl ?_)) | (refine jaa (.buildSlice 27 1 _) ?_; (apply jao (sz := 1) (by_ := 8); (· kernel_rfl); (· decide); (· (repeat (first | exact GvS.nil _ | apply GvS.c rfl rfl (.lit _) rfl))); (· (decide)); (· rfl); (· rfl); (· rfl))) | (refine jaa (.call ⟨.builtin .append, _, #[27, 27]⟩) ?_; ((apply jbt (sz := 1) (by_ := 8); (· rfl); (· rfl); (· ((simp; done))); (· exact .row _ _ _ _ rfl (by ((simp; done)))); (· (decide)); (· kernel_rfl); (· decide); (· (omega)); (· (omega)); (· rfl); (· rfl); (· rfl)))) | (refine jaa (.store 27 _ _) ?_; (refine jaq rfl rfl rfl rfl (by kernel_rfl) rfl rfl ?_)) | (refine jaa (.fieldAddr 31 _ 3) ?_; (refine jac (jad (off := 8) rfl (by kernel_rfl)) rfl ?_)) | (refine jaa (.fieldAddr 31 _ 0) ?_; (refine jac (jad (off := 0) rfl (by kernel_rfl)) rfl ?_)) | (refine jaa (.fieldAddr 26 _ 2) ?_; (refine jac (jad (off := 2) rfl (by kernel_rfl)) rfl ?_)) | (refine jaa (.call ⟨.value (.func 46), _, _⟩) ?_; (apply jbb (fid := 46); (· rfl); (· rfl); (· (repeat (first | exact BxI.nil | apply BxI.ks | (apply BxI.o; (· (exact .lit _)))))); (· (repeat (first | exact ArX.nil | apply ArX.v (.c (.d _))))); (· (decide)); (· (decide)); (· exact curPick_p code _ _ 48 (by omega) (by omega)); (· rfl); (· (intro b hb1 hb2; omega)); (· rfl); (rintro _ _ ⟨a9, s9, ha9, rfl, x9, hx9, rfl⟩; refine ⟨(by first | rfl | simp [*]), ?_⟩))) | (refine jaa (.call ⟨.value (.func 45), _, _⟩) ?_; (apply jbb (fid := 45); (· rfl); (· rfl); (· (repeat (first | exact BxI.nil | apply BxI.ks | (apply BxI.o; (· (exact .lit _)))))); (· (repeat (first | exact ArX.nil | apply ArX.v (.c (.row _ _ _ _ rfl (by ((simp; done)))))))); (· (decide)); (· (decide)); (· exact curAmongD_p code _ _ _ _ (fun _ => True) rfl (by decide) (by repeat (first | exact fun x hx => absurd hx List.not_mem_nil | (refine List.forall_mem_cons.2 ⟨⟨_, rfl, trivial⟩, ?_⟩))) (by omega) (by omega)); (· rfl); (· (intro b hb1 hb2; omega)); (· rfl); (rintro _ _ ⟨a10, s10, ha10, rfl, k10, -, rfl⟩; refine ⟨(by first | rfl | simp [*]), ?_⟩))) | (refine jaa (.call ⟨.value (.func 69), _, _⟩) ?_; (apply jaz (fid := 69); (· (repeat (first | exact SeA.nil | apply SeA.cons (.c (.d _))))); (· exact l1Own_p _ (by omega)); (· rfl); (· rfl))) | refine jah ?_ | refine jaj ?_ | refine jai ?_ | refine jbh ?_ | refine jan ?_ | refine jab (id := 11) ?_ | refine jab (id := 12) ?_ | refine jab (id := 13) ?_ | refine jab (id := 14) ?_ | refine jab (id := 15) ?_ | refine jab (id := 16) ?_ | refine jab (id := 17) ?_ | refine jab (id := 18) ?_ | refine jab (id := 19) ?_ | refine jbl rfl (fun hc => ?_) (fun hc => ?_))
    all_goals first | (exfalso; omega) | skip
    · repeat' (first | (refine jaa (.store 31 _ _) ?_; (refine jag rfl rfl rfl (by kernel_rfl) rfl rfl ?_)) | (refine jaa (.load 31 _) ?_; (refine jac (jaf rfl rfl (by kernel_rfl : tAgg _ 31 10 = true) rfl) rfl ?_)) | refine jah ?_ | refine jab ?_)
      (apply sk_xvret; (· (apply RetXV.p; (· rfl); (· (repeat (first | exact BxO.nil _ | apply BxO.k | (apply BxO.o; (· (exact .lit _)))))); (· rfl); (· (apply RdA.cons; (· (apply RV.cellN (n := 10); (· rfl); (· rfl); (· kernel_rfl); (· rfl))); (· (apply RdP.g; (· (apply RdL.cons (.d _)); (apply RdL.cons (.d _)); (apply RdL.cons (.d _)); ((apply RdL.cons (.d _))); ((apply RdL.cons (.d _))); (apply RdL.cons (.d _)); ((apply RdL.cons (.d _))); ((apply RdL.cons (.d _))); ((apply RdL.cons (.d _))); (apply RdL.cons (.d _)); exact RdL.nil)))); exact RdA.nil); (· (decide)))))
      exact ⟨_, _, by omega, rfl, hallX_of (IsI.map _) (by simp) (IsI.map _) (by simp) (by omega) (by omega)⟩
    · refine sk_ghost (sim_dem 53 1 rfl) ?_
      refine sk_ghost (sim_boxeq 4 _ rfl (dem_hallP (by simp))) ?_
      repeat' (first | (refine jaa (.store 31 _ _) ?_; (refine jag rfl rfl rfl (by kernel_rfl) rfl rfl ?_)) | (refine jaa (.load 31 _) ?_; (refine jac (jaf rfl rfl (by kernel_rfl : tAgg _ 31 10 = true) rfl) rfl ?_)) | refine jah ?_ | refine jab ?_)
      (apply sk_xvret; (· (apply RetXV.p; (· rfl); (· (repeat (first | exact BxO.nil _ | apply BxO.k | (apply BxO.o; (· (exact .lit _)))))); (· rfl); (· (apply RdA.cons; (· (apply RV.cellN (n := 10); (· rfl); (· rfl); (· kernel_rfl); (· rfl))); (· (apply RdP.g; (· (apply RdL.cons (.d _)); (apply RdL.cons (.d _)); (apply RdL.cons (.d _)); ((apply RdL.cons (.d _))); ((apply RdL.cons (.d _))); (apply RdL.cons (.d _)); ((apply RdL.cons (.d _))); ((apply RdL.cons (.d _))); ((apply RdL.cons (.d _))); (apply RdL.cons (.d _)); exact RdL.nil)))); exact RdA.nil); (· (decide)))))
      exact ⟨_, _, by omega, rfl, hallX_of (IsI.app (IsI.map _) (IsI.cons IsI.nil)) (by simp) (IsI.map _) (by simp) (by omega) (by omega)⟩
    · refine sk_ghost (sim_dem 61 1 rfl) ?_
      refine sk_ghost (sim_boxeq 4 _ rfl (dem_hallN (by simp))) ?_
      repeat' (first | (refine jaa (.store 31 _ _) ?_; (refine jag rfl rfl rfl (by kernel_rfl) rfl rfl ?_)) | (refine jaa (.load 31 _) ?_; (refine jac (jaf rfl rfl (by kernel_rfl : tAgg _ 31 10 = true) rfl) rfl ?_)) | refine jah ?_ | refine jab ?_)
      (apply sk_xvret; (· (apply RetXV.p; (· rfl); (· (repeat (first | exact BxO.nil _ | apply BxO.k | (apply BxO.o; (· (exact .lit _)))))); (· rfl); (· (apply RdA.cons; (· (apply RV.cellN (n := 10); (· rfl); (· rfl); (· kernel_rfl); (· rfl))); (· (apply RdP.g; (· (apply RdL.cons (.d _)); (apply RdL.cons (.d _)); (apply RdL.cons (.d _)); ((apply RdL.cons (.d _))); ((apply RdL.cons (.d _))); (apply RdL.cons (.d _)); ((apply RdL.cons (.d _))); ((apply RdL.cons (.d _))); ((apply RdL.cons (.d _))); (apply RdL.cons (.d _)); exact RdL.nil)))); exact RdA.nil); (· (decide)))))
      exact ⟨_, _, by omega, rfl, hallX_of (IsI.map _) (by simp) (IsI.app (IsI.map _) (IsI.cons IsI.nil)) (by simp) (by omega) (by omega)⟩
    · repeat' (first | (refine jaa (.store 31 _ _) ?_; (refine jag rfl rfl rfl (by kernel_rfl) rfl rfl ?_)) | (refine jaa (.load 31 _) ?_; (refine jac (jaf rfl rfl (by kernel_rfl : tAgg _ 31 10 = true) rfl) rfl ?_)) | refine jah ?_ | refine jab ?_)
      (apply sk_xvret; (· (apply RetXV.p; (· rfl); (· (repeat (first | exact BxO.nil _ | apply BxO.k | (apply BxO.o; (· (exact .lit _)))))); (· rfl); (· (apply RdA.cons; (· (apply RV.cellN (n := 10); (· rfl); (· rfl); (· kernel_rfl); (· rfl))); (· (apply RdP.g; (· (apply RdL.cons (.d _)); (apply RdL.cons (.d _)); (apply RdL.cons (.d _)); ((apply RdL.cons (.d _))); ((apply RdL.cons (.d _))); (apply RdL.cons (.d _)); ((apply RdL.cons (.d _))); ((apply RdL.cons (.d _))); ((apply RdL.cons (.d _))); (apply RdL.cons (.d _)); exact RdL.nil)))); exact RdA.nil); (· (decide)))))
      exact ⟨_, _, by omega, rfl, hallX_of (IsI.map _) (by simp) (IsI.map _) (by simp) (by omega) (by omega)⟩
    · repeat' (first | (refine jaa (.store 31 _ _) ?_; (refine jag rfl rfl rfl (by kernel_rfl) rfl rfl ?_)) | (refine jaa (.load 31 _) ?_; (refine jac (jaf rfl rfl (by kernel_rfl : tAgg _ 31 10 = true) rfl) rfl ?_)) | refine jah ?_ | refine jab ?_)
      (apply sk_xvret; (· (apply RetXV.p; (· rfl); (· (repeat (first | exact BxO.nil _ | apply BxO.k | (apply BxO.o; (· (exact .lit _)))))); (· rfl); (· (apply RdA.cons; (· (apply RV.cellN (n := 10); (· rfl); (· rfl); (· kernel_rfl); (· rfl))); (· (apply RdP.g; (· (apply RdL.cons (.d _)); (apply RdL.cons (.d _)); (apply RdL.cons (.d _)); ((apply RdL.cons (.d _))); ((apply RdL.cons (.d _))); (apply RdL.cons (.d _)); ((apply RdL.cons (.d _))); ((apply RdL.cons (.d _))); ((apply RdL.cons (.d _))); (apply RdL.cons (.d _)); exact RdL.nil)))); exact RdA.nil); (· (decide)))))
      exact ⟨_, _, by omega, rfl, hallX_of (IsI.map _) (by simp) (IsI.map _) (by simp) (by omega) (by omega)⟩

end Go.Proofs.YtpflmajlafpmcaaGreat

namespace Go.Proofs.YtpflmajlafpmcaaGreat
open Go.RowKit
set_option linter.unusedSectionVars false
variable [Glb]
set_option maxRecDepth 10000
set_option maxHeartbeats 4000000
theorem DrawIsHall_p (code : Tx) : PVE Tryz.prog 17 [.c (eB code)] HallX := by
  refine pve_intro Tryz.func17 rfl rfl rfl (by kernel_rfl) rfl rfl ?_; intro X c0 _
  repeat' (first | (refine jaa (.alloc 31) ?_; refine jas (zs := [.int .i64 0, .int .i64 0, .int .i64 0, .slice none 0 0, .slice none 0 0, .int .i64 0, .slice none 0 0, .slice none 0 0, .slice none 0 0, .int .i64 0]) (by kernel_rfl) rfl ?_) | (refine jaa (.move _) ?_; (refine jac (jak rfl) rfl ?_)) | (refine jaa (.build 56 _) ?_; refine jac (jbs (cs := [_, _, _]) [(0, 1), (1, 1), (2, 1)] [.slice none 0 0, .int .i64 0, .int .u64 0] (by kernel_rfl) (by kernel_rfl) rfl) rfl ?_) | (refine jaa (.box 56 _) ?_; refine jbc rfl rfl ?_) | (refine jaa (.assign _) ?_; (refine jac (jal rfl) rfl ?_)) | (refine jaa (.store 31 _ _) ?_; (refine jag rfl rfl rfl (by kernel_rfl) rfl rfl ?_)) | (refine jaa (.call ⟨.value (.func 35), _, _⟩) ?_; (apply so_callXV (fid := 35); (· rfl); (· rfl); (· (repeat (first | exact BxI.nil | (apply BxI.o; (· (exact .lit _))) | apply BxI.k))); (· (repeat (exact SdA.nil))); (· (decide)); (· exact curHall_p code _ _ (by omega) (by omega)); (· rfl); (· (intro b hb1 hb2; omega)); (· rfl); (rintro _ _ ⟨a1, s1, ha1, rfl, bx, by_, bwh, bll, pl, ev, cc, ss, nu, co, hb, rfl⟩; refine ⟨(by first | rfl | simp [*]), ?_⟩))) | refine jah ?_ | refine jaj ?_ | refine jab ?_)
  all_goals (apply sk_vert; (· (apply RetV.p; (· rfl); (· (apply RvA.cons; (· (apply RV.cellN (n := 10); (· rfl); (· rfl); (· kernel_rfl); (· rfl))); (· (apply RvP.g; (· (apply RvL.cons (.d _)); (apply RvL.cons (.d _)); (apply RvL.cons (.d _)); ((apply RvL.cons (.d _))); ((apply RvL.cons (.d _))); (apply RvL.cons (.d _)); ((apply RvL.cons (.d _))); ((apply RvL.cons (.d _))); ((apply RvL.cons (.d _))); (apply RvL.cons (.d _)); exact RvL.nil)))); exact RvA.nil))))
  all_goals exact ⟨_, _, _, _, _, _, _, _, _, _, hb, rfl⟩

end Go.Proofs.YtpflmajlafpmcaaGreat

namespace Go.Proofs.YtpflmajlafpmcaaGreat
open Go.RowKit
set_option linter.unusedSectionVars false
variable [Glb]
set_option maxRecDepth 10000
set_option maxHeartbeats 4000000
theorem sh_res {n : Nat} {ds : List D} (h : IsI ds) (hn : ds.length = n) : ∃ l : List Int, Res.p (.c (D.sl 1 n ds)) = .p (.c (eI l)) := by
  obtain ⟨l, -, e⟩ := h.sl hn
  exact ⟨l, by rw [e]⟩
theorem curShares3_p (code : Tx) (a s x y : Int) (h0 : 0 ≤ a) (h1 : a ≤ 4611686018427380000) : PX Tryz.prog 23 (CurB code a s) [.v (.c (dI x)), .v (.c (dI y))] (CurR a 200 fun res => ∃ l : List Int, res = .p (.c (eI l))) := by
  cases hB : sizeB x y with
  | false =>
    have z := l2Sizes_p x y
    rw [hB] at z
    refine jcl Tryz.func23 rfl rfl rfl (by kernel_rfl) rfl rfl rfl ?_; intro kv
    repeat' (first | (refine jaa (.assign _) ?_; (refine jac (jal rfl) rfl ?_)) | (refine jaa (.buildSlice 27 0 _) ?_; (apply jao (sz := 1) (by_ := 8); (· kernel_rfl); (· decide); (· (repeat (exact GvS.nil _))); (· (decide)); (· rfl); (· rfl); (· rfl))) | (refine jaa (.move _) ?_; (refine jac (jak rfl) rfl ?_)) | (refine jaa (.unOp .not 4 _) ?_; refine jac (jbz rfl) rfl ?_) | (refine jaa (.call ⟨.value (.func 47), _, _⟩) ?_; (apply jam (fid := 47); (· (repeat (first | exact SeA.nil | apply SeA.cons (.c (.d _))))); (· exact z); (· rfl))) | refine jah ?_ | refine jaj ?_ | refine jab ?_ | refine jbu rfl ?_)
    all_goals first | (exfalso; simp_all; done) | skip
    all_goals (apply jcj; (· (apply RetX.p; (· rfl); (· (repeat (first | exact BxO.nil _ | apply BxO.k | (apply BxO.o; (· (exact .lit _)))))); (· (apply GvA.cons; (· exact .tmp _); (· (exact GvP.c (.row _ _ _ _ rfl (by ((simp; done))))))); exact GvA.nil); (· (decide)))))
    all_goals exact ⟨_, _, by omega, rfl, [], rfl⟩
  | true =>
    have z := l2Sizes_p x y
    rw [hB] at z
    have sz := jbn.1 hB
    obtain ⟨N, hN, N4, N64⟩ : ∃ N : Nat, (1 : Int) * 2 ^ (x + y).toNat = N ∧ 4 ≤ N ∧ N ≤ 64 := by
      refine ⟨2 ^ (x + y).toNat, by simp, ?_, ?_⟩
      · exact Nat.pow_le_pow_right (n := 2) (i := 2) (j := (x + y).toNat) (by omega) (by omega)
      · exact Nat.pow_le_pow_right (n := 2) (i := (x + y).toNat) (j := 6) (by omega) (by omega)
    refine jcl Tryz.func23 rfl rfl rfl (by kernel_rfl) rfl rfl rfl ?_; intro kv
    repeat' (first | (refine jaa (.assign _) ?_; (refine jac (jal rfl) rfl ?_)) | (refine jaa (.buildSlice 27 0 _) ?_; (apply jao (sz := 1) (by_ := 8); (· kernel_rfl); (· decide); (· (repeat (exact GvS.nil _))); (· (decide)); (· rfl); (· rfl); (· rfl))) | (refine jaa (.move _) ?_; (refine jac (jak rfl) rfl ?_)) | (refine jaa (.unOp .not 4 _) ?_; refine jac (jbz rfl) rfl ?_) | (refine jaa (.call ⟨.value (.func 47), _, _⟩) ?_; (apply jam (fid := 47); (· (repeat (first | exact SeA.nil | apply SeA.cons (.c (.d _))))); (· exact z); (· rfl))) | refine jah ?_ | refine jaj ?_ | refine jai ?_ | refine jan ?_ | refine jab ?_ | refine jbp rfl ?_)
    all_goals first | (exfalso; simp_all; done) | skip
    apply jay [0, 1, 2, 7, 8] [9, 25, 27, 28, 40, 41, 46, 800000000] rfl; (· (repeat (first | exact Pf.nil | apply Pf.cons (.c rfl (.d rfl)) | apply Pf.cons (.c rfl (.ls rfl)) | apply Pf.cons (.c rfl (.lp rfl))))); (· (repeat (first | exact Pb.nil | apply Pb.cons (.row rfl) | (apply Pb.cons; (· apply Nb.box rfl; (repeat (first | exact Ncs.nil rfl | (apply Ncs.cons rfl; (· (exact .d rfl))))))) | apply Pb.skip)))
    refine jbd [0, 1, 2] [25, 27, 28, 40, 41, 46] (fun g : List Int × Int × Int => [(8, iN g.1.length), (7, .c (.ls 9 1 0 g.1.length))]) (fun g => [(800000000, .box [.d (.same (kv 0) (eB code)), .d (dI g.2.1), .d (dW g.2.2)]), (9, .row 1 (cI g.1))]) (fun g => g.1.length ≤ N ∧ a ≤ g.2.1 ∧ g.2.1 ≤ a + 2 * g.1.length) (fun g => N - g.1.length) (([], a, s)) ?_ (by (repeat (first | exact trivial | refine ⟨(by (rfl)), ?_⟩))) (by (repeat (first | exact trivial | refine ⟨(by (first | (refine jbq rfl ?_; simp; done) | (refine jcv rfl ?_; simp; done))), ?_⟩))) ?_
    · dsimp only [List.length_nil]; omega
    rintro ⟨L, a2, s2⟩ hL
    dsimp only at hL ⊢
    by_cases hL8 : L.length < N
    · repeat' (first | (refine jaa (.assign _) ?_; (refine jac (jal rfl) rfl ?_)) | (refine jaa (.move _) ?_; (refine jac (jak rfl) rfl ?_)) | (refine jaa (.binOp .add 3 _ _ _) ?_; refine jac (jax rfl rfl (by (omega))) rfl ?_) | (refine jaa (.binOp .shl 3 _ _ _) ?_; (refine jac (qt_shlI rfl rfl (by (omega)) (by (omega)) (by (omega))) rfl ?_)) | (refine jaa (.binOp .lss 3 _ _ _) ?_; refine jac (jbi rfl rfl) rfl ?_) | (refine jaa (.buildSlice 27 8 _) ?_; (apply jao (sz := 1) (by_ := 8); (· kernel_rfl); (· decide); (· (repeat (first | exact GvS.nil _ | apply GvS.c rfl rfl (.lit _) rfl))); (· (decide)); (· rfl); (· rfl); (· rfl))) | (refine jaa (.buildSlice 27 1 _) ?_; (apply jao (sz := 1) (by_ := 8); (· kernel_rfl); (· decide); (· (repeat (first | exact GvS.nil _ | apply GvS.c rfl rfl (.lit _) rfl))); (· (decide)); (· rfl); (· rfl); (· rfl))) | (refine jaa (.call ⟨.builtin .append, _, #[27, 27]⟩) ?_; ((apply jbt (sz := 1) (by_ := 8); (· rfl); (· rfl); (· ((simp; done))); (· exact .row _ _ _ _ rfl (by ((simp; done)))); (· (decide)); (· kernel_rfl); (· decide); (· (omega)); (· (omega)); (· rfl); (· rfl); (· rfl)))) | (refine jaa (.call ⟨.builtin .len, _, #[27]⟩) ?_; (refine jac (jca rfl (by kernel_rfl)) rfl ?_)) | (refine jaa (.call ⟨.value (.func 45), _, _⟩) ?_; (apply jbb (fid := 45); (· rfl); (· rfl); (· (repeat (first | exact BxI.nil | apply BxI.ks | (apply BxI.o; (· (exact .lit _)))))); (· (repeat (first | exact ArX.nil | apply ArX.v (.c (.row _ _ _ _ rfl (by ((simp; done)))))))); (· (decide)); (· (decide)); (· exact curAmongD_p code _ _ _ _ (fun _ => True) rfl (by decide) (by repeat (first | exact fun x hx => absurd hx List.not_mem_nil | (refine List.forall_mem_cons.2 ⟨⟨_, rfl, trivial⟩, ?_⟩))) (by omega) (by omega)); (· rfl); (· (intro b hb1 hb2; omega)); (· rfl); (rintro _ _ ⟨a3, s3, ha3, rfl, k3, -, rfl⟩; refine ⟨(by first | rfl | simp [*]), ?_⟩))) | refine jah ?_ | refine jaj ?_ | refine jai ?_ | refine jbh ?_ | refine jav rfl ?_ | refine jan ?_ | refine jab ?_ | refine jbl rfl (fun hc => ?_) (fun hc => ?_))
      all_goals first | (exfalso; omega) | skip
      refine jbf ?_; refine ⟨(L ++ [k3], a3, s3), ?_, ?_, jcf rfl (by (repeat (first | exact trivial | refine ⟨(by (first | (refine int_eq rfl ?_; ((simp; done))) | (refine ls_eq rfl ?_; ((simp; done))))), ?_⟩))) (by (repeat (first | exact trivial | refine ⟨rfl, ?_⟩))) (by (repeat (first | exact trivial | refine ⟨(by (first | (refine jbq rfl ?_; simp; done) | rfl)), ?_⟩))) (by (repeat (first | exact trivial | refine ⟨.inr rfl, ?_⟩ | refine ⟨.inl rfl, ?_⟩)))⟩
      · dsimp only
        rw [List.length_append, List.length_singleton]
        omega
      · dsimp only
        rw [List.length_append, List.length_singleton]
        omega
    · have e : L.length = N := by omega
      repeat' (first | (refine jaa (.assign _) ?_; (refine jac (jal rfl) rfl ?_)) | (refine jaa (.move _) ?_; (refine jac (jak rfl) rfl ?_)) | (refine jaa (.binOp .add 3 _ _ _) ?_; refine jac (jax rfl rfl (by (omega))) rfl ?_) | (refine jaa (.binOp .shl 3 _ _ _) ?_; (refine jac (qt_shlI rfl rfl (by (omega)) (by (omega)) (by (omega))) rfl ?_)) | (refine jaa (.binOp .lss 3 _ _ _) ?_; refine jac (jbi rfl rfl) rfl ?_) | (refine jaa (.buildSlice 27 8 _) ?_; (apply jao (sz := 1) (by_ := 8); (· kernel_rfl); (· decide); (· (repeat (first | exact GvS.nil _ | apply GvS.c rfl rfl (.lit _) rfl))); (· (decide)); (· rfl); (· rfl); (· rfl))) | (refine jaa (.buildSlice 27 1 _) ?_; (apply jao (sz := 1) (by_ := 8); (· kernel_rfl); (· decide); (· (repeat (first | exact GvS.nil _ | apply GvS.c rfl rfl (.lit _) rfl))); (· (decide)); (· rfl); (· rfl); (· rfl))) | (refine jaa (.call ⟨.builtin .append, _, #[27, 27]⟩) ?_; ((apply jbt (sz := 1) (by_ := 8); (· rfl); (· rfl); (· ((simp; done))); (· exact .row _ _ _ _ rfl (by ((simp; done)))); (· (decide)); (· kernel_rfl); (· decide); (· (omega)); (· (omega)); (· rfl); (· rfl); (· rfl)))) | (refine jaa (.call ⟨.builtin .len, _, #[27]⟩) ?_; (refine jac (jca rfl (by kernel_rfl)) rfl ?_)) | (refine jaa (.call ⟨.value (.func 46), _, _⟩) ?_; (first | (apply jbb (d := 33) (fid := 46); (· rfl); (· rfl); (· (repeat (first | exact BxI.nil | apply BxI.ks | (apply BxI.o; (· (exact .lit _)))))); (· (repeat (first | exact ArX.nil | apply ArX.v (.c (.d _))))); (· (decide)); (· (decide)); (· exact curPick_p code _ _ _ (by omega) (by omega)); (· rfl); (· (intro b hb1 hb2; omega)); (· rfl); (rintro _ _ ⟨a3, s3, ha3, rfl, x3, hx3, rfl⟩; refine ⟨(by first | rfl | simp [*]), ?_⟩)) | (apply jbb (d := 36) (fid := 46); (· rfl); (· rfl); (· (repeat (first | exact BxI.nil | apply BxI.ks | (apply BxI.o; (· (exact .lit _)))))); (· (repeat (first | exact ArX.nil | apply ArX.v (.c (.d _))))); (· (decide)); (· (decide)); (· exact curPick_p code _ _ _ (by omega) (by omega)); (· rfl); (· (intro b hb1 hb2; omega)); (· rfl); (rintro _ _ ⟨a4, s4, ha4, rfl, x4, hx4, rfl⟩; refine ⟨(by first | rfl | simp [*]), ?_⟩)))) | (refine jaa (.indexAddr 27 _ _) ?_; (refine jac (jce rfl rfl (by kernel_rfl : tSl _ 27 1 = true) (by (omega)) (by (omega))) rfl ?_)) | (refine jaa (.store 3 _ _) ?_; ((refine jcg rfl rfl rfl rfl (.lit _) (by simp) (by simp) (by kernel_rfl) (by (first | (simp only [List.length_map, List.length_append, List.length_replicate, fillL_len, rowF_len, gridF_len, mkI_len, mkII_len, jcn] at *; omega) | (simp at *; omega))) rfl ?_; simp only [St.drop]))) | (refine jaa (.binOp .eql 3 _ _ _) ?_; refine jac (jcb rfl rfl) rfl ?_) | (refine jaa (.buildSlice 27 4 _) ?_; (apply jao (sz := 1) (by_ := 8); (· kernel_rfl); (· decide); (· (repeat (first | exact GvS.nil _ | apply GvS.c rfl rfl (.lit _) rfl))); (· (decide)); (· rfl); (· rfl); (· rfl))) | (refine jaa (.call ⟨.value (.func 45), _, _⟩) ?_; (apply jbb (fid := 45); (· rfl); (· rfl); (· (repeat (first | exact BxI.nil | apply BxI.ks | (apply BxI.o; (· (exact .lit _)))))); (· (repeat (first | exact ArX.nil | apply ArX.v (.c (.row _ _ _ _ rfl (by ((simp; done)))))))); (· (decide)); (· (decide)); (· exact curAmongD_p code _ _ _ _ (fun _ => True) rfl (by decide) (by repeat (first | exact fun x hx => absurd hx List.not_mem_nil | (refine List.forall_mem_cons.2 ⟨⟨_, rfl, trivial⟩, ?_⟩))) (by omega) (by omega)); (· rfl); (· (intro b hb1 hb2; omega)); (· rfl); (rintro _ _ ⟨a5, s5, ha5, rfl, k6, -, rfl⟩; refine ⟨(by first | rfl | simp [*]), ?_⟩))) | refine jah ?_ | refine jaj ?_ | refine jai ?_ | refine jbh ?_ | refine jav rfl ?_ | refine jan ?_ | refine jab ?_ | refine jbl rfl (fun hc => ?_) (fun hc => ?_))
      all_goals first | (exfalso; omega) | skip
      all_goals
        (apply jcj; (· (apply RetX.p; (· rfl); (· (repeat (first | exact BxO.nil _ | apply BxO.k | (apply BxO.o; (· (exact .lit _)))))); (· (apply GvA.cons; (· exact .tmp _); (· (exact GvP.c (.row _ _ _ _ rfl (by ((simp; done))))))); exact GvA.nil); (· (decide)))))
        refine ⟨_, _, by omega, rfl, sh_res ?_ ?_⟩
        · first | exact IsI.set (IsI.set (IsI.map _)) | exact IsI.app (IsI.set (IsI.map _)) (IsI.cons IsI.nil) | exact IsI.set (IsI.map _)
        · simp
theorem DrawMixtureBox_p (code : Tx) : PVE Tryz.prog 8 [.c (eB code)] (fun res => ∃ (x y : Int) (l : List Int), res = .t [.c (dI x), .c (dI y), .c (eI l)]) := by
  refine pve_intro Tryz.func8 rfl rfl rfl (by kernel_rfl) rfl rfl ?_; intro X c0 _
  repeat' (first | (refine jaa (.assign _) ?_; (refine jac (jal rfl) rfl ?_)) | (refine jaa (.move _) ?_; (first | refine jac (jak rfl) rfl ?_ | refine jac (qt_mvT rfl) rfl ?_)) | (refine jaa (.build 56 _) ?_; refine jac (jbs (cs := [_, _, _]) [(0, 1), (1, 1), (2, 1)] [.slice none 0 0, .int .i64 0, .int .u64 0] (by kernel_rfl) (by kernel_rfl) rfl) rfl ?_) | (refine jaa (.box 56 _) ?_; refine jbc rfl rfl ?_) | (refine jaa (.extract _ _) ?_; refine jac (jbm rfl rfl) rfl ?_) | (refine jaa (.call ⟨.value (.func 22), _, _⟩) ?_; (apply jbb (fid := 22); (· rfl); (· rfl); (· (repeat (first | exact BxI.nil | (apply BxI.o; (· (exact .lit _))) | apply BxI.k))); (· (repeat (exact ArX.nil))); (· (decide)); (· (decide)); (· exact curSizes_p code _ _ (by omega) (by omega)); (· rfl); (· (intro b hb1 hb2; omega)); (· rfl); (rintro _ _ ⟨a1, s1, ha1, rfl, x, y, hxy, rfl⟩; refine ⟨(by first | rfl | simp [*]), ?_⟩))) | (refine jaa (.call ⟨.value (.func 23), _, _⟩) ?_; (apply jbb (fid := 23); (· rfl); (· rfl); (· (repeat (first | exact BxI.nil | (apply BxI.o; (· (exact .lit _))) | apply BxI.k))); (· (repeat (first | exact ArX.nil | apply ArX.v (.c (.d _))))); (· (decide)); (· (decide)); (· exact curShares3_p code _ _ _ _ (by omega) (by omega)); (· rfl); (· (intro b hb1 hb2; omega)); (· rfl); (rintro _ _ ⟨a2, s2, ha2, rfl, l, rfl⟩; refine ⟨(by first | rfl | simp [*]), ?_⟩))) | refine jah ?_ | refine jaj ?_ | refine jab ?_)
  all_goals first | (exfalso; omega) | skip
  all_goals (apply sk_vert; (· (apply RetV.t; (· rfl); (· (apply RvA.cons; (· exact .tmp _); (· exact RvP.c (.d _))); (apply RvA.cons; (· exact .tmp _); (· exact RvP.c (.d _))); (apply RvA.cons; (· exact .tmp _); (· (exact RvP.c (.own (.row _ _ _ _ rfl (by ((simp; done)))))))); exact RvA.nil); (· rfl))))
  all_goals exact ⟨_, _, _, rfl⟩
theorem DrawPlayChance_p (code : Tx) : PVE Tryz.prog 5 [.c (eB code)] HallX := by
  refine pve_intro Tryz.func5 rfl rfl rfl (by kernel_rfl) rfl rfl ?_; intro X c0 _
  repeat' (first | (refine jaa (.alloc 31) ?_; refine jas (zs := [.int .i64 0, .int .i64 0, .int .i64 0, .slice none 0 0, .slice none 0 0, .int .i64 0, .slice none 0 0, .slice none 0 0, .slice none 0 0, .int .i64 0]) (by kernel_rfl) rfl ?_) | (refine jaa (.move _) ?_; (refine jac (jak rfl) rfl ?_)) | (refine jaa (.store 31 _ _) ?_; (refine jag rfl rfl rfl (by kernel_rfl) rfl rfl ?_)) | (refine jaa (.call ⟨.value (.func 17), _, _⟩) ?_; (apply so_callVE (fid := 17); (· (repeat (first | exact SdA.nil | apply SdA.c rfl))); (· exact DrawIsHall_p _); (· rfl); (rintro _ ⟨bx, by_, bwh, bll, pl, ev, cc, ss, nu, co, hb, rfl⟩))) | refine jah ?_ | refine jaj ?_ | refine jab ?_)
  all_goals (apply sk_vert; (· (apply RetV.p; (· rfl); (· (apply RvA.cons; (· (apply RV.cellN (n := 10); (· rfl); (· rfl); (· kernel_rfl); (· rfl))); (· (apply RvP.g; (· (apply RvL.cons (.d _)); (apply RvL.cons (.d _)); (apply RvL.cons (.d _)); ((apply RvL.cons (.d _))); ((apply RvL.cons (.d _))); (apply RvL.cons (.d _)); ((apply RvL.cons (.d _))); ((apply RvL.cons (.d _))); ((apply RvL.cons (.d _))); (apply RvL.cons (.d _)); exact RvL.nil)))); exact RvA.nil))))
  all_goals exact ⟨_, _, _, _, _, _, _, _, _, _, hb, rfl⟩

end Go.Proofs.YtpflmajlafpmcaaGreat

namespace Go.Proofs.YtpflmajlafpmcaaGreat
open Go.RowKit
set_option linter.unusedSectionVars false
variable [Glb]
set_option maxRecDepth 10000
set_option maxHeartbeats 4000000
theorem within_p (n lo hi : Int) : PC Tryz.prog 37 [.c (dI n), .c (dI lo), .c (dI hi)] (.p (.c (dB (inB n lo hi)))) := by
  refine jar Tryz.func37 rfl rfl rfl (by kernel_rfl) rfl rfl ?_; intro _
  repeat' (first | (refine jaa (.assign _) ?_; (refine jac (jal rfl) rfl ?_)) | (refine jaa (.move _) ?_; (refine jac (jak rfl) rfl ?_)) | (refine jaa (.binOp .geq 3 _ _ _) ?_; refine jac (qt_geq rfl rfl) rfl ?_) | (refine jaa (.binOp .leq 3 _ _ _) ?_; refine jac (qt_leq rfl rfl) rfl ?_) | (refine jaa (.pick _ _ _) ?_; (refine jac (jby rfl rfl) rfl ?_)) | refine jah ?_ | refine jbw rfl rfl rfl rfl ?_ | refine jbg rfl rfl rfl rfl ?_ | refine jct rfl rfl (fun hg => ?_) (fun hg => ?_) | refine jaj ?_ | refine jab ?_)
  all_goals ((apply jau; apply jaw; (· apply jbe.p; (· (apply GvA.cons; (· exact .tmp _); (· exact GvP.c (.lit _))); exact GvA.nil); (· (decide)))))
  all_goals (simp [dB, inB, *]; try omega)

end Go.Proofs.YtpflmajlafpmcaaGreat

namespace Go.Proofs.YtpflmajlafpmcaaGreat
open Go.RowKit
set_option linter.unusedSectionVars false
variable [Glb]
set_option maxRecDepth 10000
set_option maxHeartbeats 4000000
theorem areQuestions_p (x y : Int) : PC Tryz.prog 26 [.c (dI x), .c (dI y)] (.p (.c (dB (sizeB x y)))) := by
  refine jar Tryz.func26 rfl rfl rfl (by kernel_rfl) rfl rfl ?_; intro _
  repeat' (first | (refine jaa (.assign _) ?_; (refine jac (jal rfl) rfl ?_)) | (refine jaa (.move _) ?_; (refine jac (jak rfl) rfl ?_)) | (refine jaa (.pick _ _ _) ?_; (refine jac (jby rfl rfl) rfl ?_)) | (refine jaa (.call ⟨.value (.func 37), _, _⟩) ?_; (apply jam (fid := 37); (· (repeat (first | exact SeA.nil | apply SeA.cons (.c (.d _))))); (· exact within_p _ _ _); (· rfl))) | refine jah ?_ | refine jbw rfl rfl rfl rfl ?_ | refine jbg rfl rfl rfl rfl ?_ | refine jcy rfl rfl (fun hg => ?_) (fun hg => ?_) | refine jaj ?_ | refine jab ?_)
  all_goals (apply jau; apply jaw; (· apply jbe.p; (· (apply GvA.cons; (· exact .tmp _); (· exact GvP.c (.lit _))); exact GvA.nil); (· (decide))))
  all_goals ((simp_all [sizeB]; done))

end Go.Proofs.YtpflmajlafpmcaaGreat

namespace Go.Proofs.YtpflmajlafpmcaaGreat
open Go.RowKit
set_option linter.unusedSectionVars false
variable [Glb]
set_option maxRecDepth 10000
set_option maxHeartbeats 4000000
theorem allWithin_p (l : List Int) (lo hi : Int) : PC Tryz.prog 48 [.c (eI l), .c (dI lo), .c (dI hi)] (.p (.c (dB (allB l lo hi)))) := by
  refine jar Tryz.func48 rfl rfl rfl (by kernel_rfl) rfl rfl ?_; rintro ⟨hl, -⟩
  have hl := hl.len
  repeat' (first | (refine jaa (.assign _) ?_; (refine jac (jal rfl) rfl ?_)) | (refine jaa (.move _) ?_; (refine jac (jak rfl) rfl ?_)) | (refine jaa (.call ⟨.builtin .len, _, #[27]⟩) ?_; (refine jac (jba rfl (by kernel_rfl)) rfl ?_)) | refine jah ?_ | refine jaj ?_ | refine jai ?_ | refine jab ?_)
  apply jay [1, 2, 9, 10, 11] [] rfl; (· (repeat (first | exact Pf.nil | apply Pf.cons (.c rfl (.d rfl))))); (· (repeat (exact Pb.nil)))
  refine jbd [1, 2, 9, 10] [] (fun k => [(11, iN k)]) (fun _ => []) (fun k => k ≤ l.length ∧ (l.take k).all (fun n => inB n lo hi) = true) (fun k => l.length - k) (0) ?_ (by (repeat (first | exact trivial | refine ⟨(by (rfl)), ?_⟩))) (by (repeat (exact trivial))) ?_
  · simp
  rintro k ⟨hk, ha⟩
  repeat' (first | (refine jaa (.assign _) ?_; (refine jac (jal rfl) rfl ?_)) | (refine jaa (.move _) ?_; (refine jac (jak rfl) rfl ?_)) | (refine jaa (.binOp .lss 3 _ _ _) ?_; refine jac (jbi rfl rfl) rfl ?_) | (refine jaa (.indexAddr 27 _ _) ?_; (refine jac (jcc rfl rfl (by kernel_rfl) (by (omega)) (by (omega))) rfl ?_)) | (refine jaa (.load 3 _) ?_; (refine jac (jap rfl (by kernel_rfl) rfl) rfl ?_)) | (refine jaa (.unOp .not 4 _) ?_; refine jac (jbz rfl) rfl ?_) | (refine jaa (.binOp .add 3 _ _ _) ?_; refine jac (jax rfl rfl (by (omega))) rfl ?_) | (refine jaa (.call ⟨.value (.func 37), _, _⟩) ?_; (apply jam (fid := 37); (· (repeat (first | exact SeA.nil | apply SeA.cons (.c (.d _))))); (· exact within_p _ _ _); (· rfl))) | refine jah ?_ | refine jaj ?_ | refine jai ?_ | refine jbh ?_ | refine jav rfl ?_ | refine jan ?_ | refine jab ?_ | refine jbl rfl (fun hc => ?_) (fun hc => ?_) | refine jcm rfl (fun hc => ?_) (fun hc => ?_))
  · rename_i hk'
    rw [jbv (by omega)] at hc
    (apply jau; apply jaw; (· apply jbe.p; (· (apply GvA.cons; (· exact .tmp _); (· exact GvP.c (.lit _))); exact GvA.nil); (· (decide))))
    rw [allB, all_f (by omega) hc]
  · rename_i hk'
    rw [jbv (by omega)] at hc
    refine jbf ?_; refine ⟨k + 1, ?_, ?_, jcf rfl (by (repeat (first | exact trivial | refine ⟨(by (rfl)), ?_⟩))) (by (repeat (first | exact trivial | refine ⟨rfl, ?_⟩))) (by (repeat (exact trivial))) (by (repeat (exact trivial)))⟩
    · exact ⟨by omega, by rw [take_succ_all _ _ _ (by omega), ha, hc]; rfl⟩
    · omega
  · (apply jau; apply jaw; (· apply jbe.p; (· (apply GvA.cons; (· exact .tmp _); (· exact GvP.c (.lit _))); exact GvA.nil); (· (decide))))
    rw [allB, all_t (by omega) ha]

end Go.Proofs.YtpflmajlafpmcaaGreat

namespace Go.Proofs.YtpflmajlafpmcaaGreat
open Go.RowKit
set_option linter.unusedSectionVars false
variable [Glb]
set_option maxRecDepth 10000
set_option maxHeartbeats 4000000
theorem total_p (l : List Int) : PC Tryz.prog 49 [.c (eI l)] (.p (.c (dI (sum64 l)))) := by
  refine jar Tryz.func49 rfl rfl rfl (by kernel_rfl) rfl rfl ?_; rintro ⟨hl, -⟩
  have hl := hl.len
  repeat' (first | (refine jaa (.assign _) ?_; (refine jac (jal rfl) rfl ?_)) | (refine jaa (.move _) ?_; (refine jac (jak rfl) rfl ?_)) | (refine jaa (.call ⟨.builtin .len, _, #[27]⟩) ?_; (refine jac (jba rfl (by kernel_rfl)) rfl ?_)) | refine jah ?_ | refine jaj ?_ | refine jai ?_ | refine jab ?_)
  apply jay [3, 6, 7, 8] [] rfl; (· (repeat (first | exact Pf.nil | apply Pf.cons (.c rfl (.d rfl))))); (· (repeat (exact Pb.nil)))
  refine jbd [6, 7] [] (fun k => [(8, iN k), (3, iZ (sum64 (l.take k)))]) (fun _ => []) (fun k => k ≤ l.length) (fun k => l.length - k) (0) ?_ (by (repeat (first | exact trivial | refine ⟨(by (rfl)), ?_⟩))) (by (repeat (exact trivial))) ?_
  · simp
  intro k hk
  repeat' (first | (refine jaa (.assign _) ?_; (refine jac (jal rfl) rfl ?_)) | (refine jaa (.move _) ?_; (refine jac (jak rfl) rfl ?_)) | (refine jaa (.binOp .lss 3 _ _ _) ?_; refine jac (jbi rfl rfl) rfl ?_) | (refine jaa (.indexAddr 27 _ _) ?_; (refine jac (jcc rfl rfl (by kernel_rfl) (by (omega)) (by (omega))) rfl ?_)) | (refine jaa (.load 3 _) ?_; (refine jac (jap rfl (by kernel_rfl) rfl) rfl ?_)) | (refine jaa (.binOp .add 3 _ _ _) ?_; (first | refine jac (jax rfl rfl (by (omega))) rfl ?_ | refine jac (qt_add rfl rfl) rfl ?_)) | refine jah ?_ | refine jaj ?_ | refine jai ?_ | refine jbh ?_ | refine jav rfl ?_ | refine jan ?_ | refine jab ?_ | refine jbl rfl (fun hc => ?_) (fun hc => ?_))
  · have hk2 : k < l.length := by omega
    refine jbf ?_; refine ⟨k + 1, ?_, ?_, jcf rfl (by (repeat (first | exact trivial | refine ⟨(by (first | rfl | (refine int_eq rfl ?_; ((simp  [sum64_snoc hk2, jbv hk2]; done))))), ?_⟩))) (by (repeat (first | exact trivial | refine ⟨rfl, ?_⟩))) (by (repeat (exact trivial))) (by (repeat (exact trivial)))⟩
    · omega
    · omega
  · have : k = l.length := by omega
    subst this
    (apply jau; apply jaw; (· apply jbe.p; (· (apply GvA.cons; (· exact .tmp _); (· exact GvP.c (.lit _))); exact GvA.nil); (· (decide))))
    simp

end Go.Proofs.YtpflmajlafpmcaaGreat

namespace Go.Proofs.YtpflmajlafpmcaaGreat
open Go.RowKit
set_option linter.unusedSectionVars false
variable [Glb]
set_option maxRecDepth 10000
set_option maxHeartbeats 4000000
theorem plays_p (x y : Nat) (h : x + y ≤ 6) : PC Tryz.prog 27 [.c (dI x), .c (dI y)] (.p (.c (eII (playsF (x + y))))) := by
  have e2 : (2 : Nat) ^ (x + y) ≤ 64 := Nat.le_trans (Nat.pow_le_pow_right (by omega) h) (by decide)
  obtain ⟨N, hN⟩ : ∃ N : Nat, N = 2 ^ (x + y) := ⟨_, rfl⟩
  rw [← hN] at e2
  have e1 : (1 : Int) * 2 ^ ((x : Int) + y).toNat = N := by
    rw [show ((x : Int) + y).toNat = x + y by omega, hN, Int.natCast_pow]; simp
  refine jar Tryz.func27 rfl rfl rfl (by kernel_rfl) rfl rfl ?_; intro _
  repeat' (first | (refine jaa (.assign _) ?_; (refine jac (jal rfl) rfl ?_)) | (refine jaa (.buildSlice 24 0 _) ?_; (apply jao (sz := 1) (by_ := 24); (· kernel_rfl); (· decide); (· (repeat (exact GvS.nil _))); (· (decide)); (· rfl); (· rfl); (· rfl))) | (refine jaa (.move _) ?_; (refine jac (jak rfl) rfl ?_)) | (refine jaa (.binOp .add 3 _ _ _) ?_; refine jac (jax rfl rfl (by (omega))) rfl ?_) | (refine jaa (.binOp .shl 3 _ _ _) ?_; (refine jac (qt_shlI rfl rfl (by (omega)) (by (omega)) (by (omega))) rfl ?_)) | refine jah ?_ | refine jaj ?_ | refine jai ?_ | refine jab ?_)
  apply jay [0, 1, 5, 13, 14] [9, 17, 34, 35, 39, 40] rfl; (· (repeat (first | exact Pf.nil | apply Pf.cons (.c rfl (.d rfl)) | apply Pf.cons (.c rfl (.ls rfl))))); (· (repeat (first | exact Pb.nil | apply Pb.cons (.row rfl) | apply Pb.skip)))
  refine jbd [0, 1, 13] [17, 34, 35, 39, 40] (fun c => [(14, iN c), (5, .c (.ls 9 1 0 c))]) (fun c => [(9, .row 1 (cII ((List.range c).map (bitsM (x + y)))))]) (fun c => c ≤ N) (fun c => N - c) (0) ?_ (by (repeat (first | exact trivial | refine ⟨(by (rfl)), ?_⟩))) (by (repeat (first | exact trivial | refine ⟨(by ((refine jbq rfl ?_; simp; done))), ?_⟩))) ?_
  · omega
  intro c hc
  repeat' (first | (refine jaa (.assign _) ?_; (refine jac (jal rfl) rfl ?_)) | (refine jaa (.move _) ?_; (refine jac (jak rfl) rfl ?_)) | (refine jaa (.binOp .add 3 _ _ _) ?_; refine jac (jax rfl rfl (by (omega))) rfl ?_) | (refine jaa (.binOp .lss 3 _ _ _) ?_; refine jac (jbi rfl rfl) rfl ?_) | (refine jaa (.buildSlice 27 0 _) ?_; (apply jao (sz := 1) (by_ := 8); (· kernel_rfl); (· decide); (· (repeat (exact GvS.nil _))); (· (decide)); (· rfl); (· rfl); (· rfl))) | refine jah ?_ | refine jaj ?_ | refine jai ?_ | refine jav rfl ?_ | refine jan ?_ | refine jab ?_ | refine jbl rfl (fun hc => ?_) (fun hc => ?_))
  · apply jay [0, 1, 5, 6, 7, 13, 14, 20, 21] [9, 17, 34, 35, 39, 40] rfl; (· (repeat (first | exact Pf.nil | apply Pf.cons (.c rfl (.d rfl)) | apply Pf.cons (.c rfl (.ls rfl))))); (· (repeat (first | exact Pb.nil | apply Pb.cons (.row rfl) | apply Pb.skip)))
    refine jbd [0, 1, 5, 6, 13, 14, 20] [9, 34, 35, 39, 40] (fun i => [(21, iN i), (7, .c (.ls 17 1 0 i))]) (fun i => [(17, .row 1 (cI (rowF (fun i => (bitN c (x + y - 1 - i) : Int)) i)))]) (fun i => i ≤ x + y) (fun i => x + y - i) (0) ?_ (by (repeat (first | exact trivial | refine ⟨(by (rfl)), ?_⟩))) (by (repeat (first | exact trivial | refine ⟨(by (rfl)), ?_⟩))) ?_
    · omega
    intro i hi
    have e3 : i < x + y → (c : Int) / 2 ^ ((x : Int) + y - 1 - i).toNat % 2 = (bitN c (x + y - 1 - i) : Int) := fun h => by
      rw [show ((x : Int) + y - 1 - i).toNat = x + y - 1 - i by omega, bit_nat]
    repeat' (first | (refine jaa (.assign _) ?_; (refine jac (jal rfl) rfl ?_)) | (refine jaa (.move _) ?_; (refine jac (jak rfl) rfl ?_)) | (refine jaa (.binOp .add 3 _ _ _) ?_; refine jac (jax rfl rfl (by (omega))) rfl ?_) | (refine jaa (.binOp .lss 3 _ _ _) ?_; refine jac (jbi rfl rfl) rfl ?_) | (refine jaa (.binOp .sub 3 _ _ _) ?_; refine jac (jch rfl rfl (by (omega))) rfl ?_) | (refine jaa (.binOp .shr 3 _ _ _) ?_; (refine jac (qt_shrI rfl rfl (by (omega)) (by (omega))) rfl ?_)) | (refine jaa (.binOp .and 3 _ _ _) ?_; refine jac (qt_andM 1 (c := 2) rfl rfl (by decide)) rfl ?_) | (refine jaa (.buildSlice 27 1 _) ?_; (apply jao (sz := 1) (by_ := 8); (· kernel_rfl); (· decide); (· (repeat (first | exact GvS.nil _ | apply GvS.c rfl rfl (.lit _) rfl))); (· (decide)); (· rfl); (· rfl); (· rfl))) | (refine jaa (.call ⟨.builtin .append, _, #[27, 27]⟩) ?_; ((apply jbt (sz := 1) (by_ := 8); (· rfl); (· rfl); (· ((simp; done))); (· exact .row _ _ _ _ rfl (by ((simp; done)))); (· (decide)); (· kernel_rfl); (· decide); (· (omega)); (· (omega)); (· rfl); (· rfl); (· rfl)))) | (refine jaa (.buildSlice 24 1 _) ?_; (apply jao (sz := 1) (by_ := 24); (· kernel_rfl); (· decide); (· (repeat (first | exact GvS.nil _ | apply GvS.c rfl rfl (.row _ _ _ _ rfl (by ((simp; done)))) rfl))); (· (decide)); (· rfl); (· rfl); (· rfl))) | (refine jaa (.call ⟨.builtin .append, _, #[24, 24]⟩) ?_; ((apply jbt (sz := 1) (by_ := 24); (· rfl); (· rfl); (· ((simp; done))); (· exact .row _ _ _ _ rfl (by ((simp; done)))); (· (decide)); (· kernel_rfl); (· decide); (· (omega)); (· (omega)); (· rfl); (· rfl); (· rfl)))) | refine jah ?_ | refine jaj ?_ | refine jai ?_ | refine jbh ?_ | refine jav rfl ?_ | refine jan ?_ | refine jab ?_ | refine jbl rfl (fun hc => ?_) (fun hc => ?_))
    · have e3 := e3 (by omega)
      simp at e3
      refine jbf ?_; refine ⟨i + 1, ?_, ?_, jcf rfl (by (repeat (first | exact trivial | refine ⟨(by (rfl)), ?_⟩))) (by (repeat (first | exact trivial | refine ⟨rfl, ?_⟩))) (by (repeat (first | exact trivial | refine ⟨(by ((refine jbq rfl ?_; simp  [rowF_snoc, e3]; done))), ?_⟩))) (by (repeat (first | exact trivial | refine ⟨.inr rfl, ?_⟩)))⟩
      · omega
      · omega
    · have h8 : i = x + y := by omega
      subst h8
      refine jbf ?_; refine ⟨c + 1, ?_, ?_, jcf rfl (by (repeat (first | exact trivial | refine ⟨(by (rfl)), ?_⟩))) (by (repeat (first | exact trivial | refine ⟨rfl, ?_⟩))) (by (repeat (first | exact trivial | refine ⟨(by ((refine jbq rfl ?_; simp  [plays_snoc, bitsM]; done))), ?_⟩))) (by (repeat (first | exact trivial | refine ⟨.inr rfl, ?_⟩)))⟩
      · omega
      · omega
  · have h8 : c = N := by omega
    subst h8
    subst hN
    (apply jau; apply jaw; (· apply jbe.p; (· (apply GvA.cons; (· exact .tmp _); (· (exact GvP.c (.row _ _ _ _ rfl (by ((simp; done))))))); exact GvA.nil); (· (decide))))
    simp [playsF]

end Go.Proofs.YtpflmajlafpmcaaGreat

namespace Go.Proofs.YtpflmajlafpmcaaGreat
open Go.RowKit
set_option linter.unusedSectionVars false
variable [Glb]
set_option maxRecDepth 10000
set_option maxHeartbeats 4000000
theorem newBox_p (x y : Nat) (wh : Int) (fid : FuncId) (caps : List D) (f : Nat → Nat → Nat → Int) (hx : x ≤ 3) (hy : y ≤ 3)
    (hf : ∀ i k p : Nat, i < x → k < y → p < 4 → PC Tryz.prog fid ([.c (dI i), .c (dI k), .c (dI ((p / 2 : Nat) : Int)), .c (dI ((p % 2 : Nat) : Int))] ++ caps.map RP.c) (.p (.c (dI (f i k p))))) :
    PC Tryz.prog 50 [.c (dI x), .c (dI y), .c (dI wh), .c (.fn (.func fid) caps)] (.p (.g [dI x, dI y, dI wh, eII (boxF f y (y * x))])) := by
  have hxy : y * x ≤ 3 * 3 := Nat.mul_le_mul hy hx
  refine jar Tryz.func50 rfl rfl rfl (by kernel_rfl) rfl rfl ?_; intro _
  repeat' (first | (refine jaa (.alloc 26) ?_; refine jas (zs := [.int .i64 0, .int .i64 0, .int .i64 0, .slice none 0 0]) (by kernel_rfl) rfl ?_) | (refine jaa (.move _) ?_; (refine jac (jak rfl) rfl ?_)) | (refine jaa (.build 26 _) ?_; refine jac (jbs (cs := [_, _, _, _]) [(0, 1), (1, 1), (2, 1), (3, 1)] [.int .i64 0, .int .i64 0, .int .i64 0, .slice none 0 0] (by kernel_rfl) (by kernel_rfl) rfl) rfl ?_) | (refine jaa (.store 26 _ _) ?_; (refine jag rfl rfl rfl (by kernel_rfl) rfl rfl ?_)) | refine jah ?_ | refine jaj ?_ | refine jai ?_ | refine jab ?_)
  refine sk_ghost (sim_nil_box 9 3 46 1 rfl (by decide) rfl rfl rfl) ?_
  apply jay [1, 3, 8, 9, 18, 19] [8, 9, 26, 39, 40, 45, 46] rfl; (· (repeat (first | exact Pf.nil | apply Pf.cons (.c rfl (.d rfl)) | apply Pf.cons (.c rfl (.lp rfl))))); (· (repeat (first | exact Pb.nil | apply Pb.cons (.row rfl) | (apply Pb.cons; (· apply Nb.box rfl; (repeat (first | exact Ncs.nil rfl | (apply Ncs.cons rfl; (· (first | exact .d rfl | exact .ls rfl))))))) | apply Pb.skip)))
  refine jbd [1, 3, 8, 9, 18] [8, 26, 39, 40, 45] (fun i => [(19, iN i)]) (fun i => [(9, .box [.d (dI x), .d (dI y), .d (dI wh), .ls 46 1 0 (y * i)]), (46, .row 1 (cII (boxF f y (y * i))))]) (fun i => i ≤ x) (fun i => x - i) (0) ?_ (by (repeat (first | exact trivial | refine ⟨(by (rfl)), ?_⟩))) (by (repeat (first | exact trivial | refine ⟨(by (first | (refine jcv rfl ?_; simp; done) | rfl)), ?_⟩))) ?_
  · omega
  intro i hi
  repeat' (first | (refine jaa (.move _) ?_; (refine jac (jak rfl) rfl ?_)) | (refine jaa (.store 26 _ _) ?_; (refine jag rfl rfl rfl (by kernel_rfl) rfl rfl ?_)) | (refine jaa (.binOp .lss 3 _ _ _) ?_; refine jac (jbi rfl rfl) rfl ?_) | (refine jaa (.assign _) ?_; (refine jac (jal rfl) rfl ?_)) | (refine jaa (.load 26 _) ?_; (refine jac (jaf rfl rfl (by kernel_rfl : tAgg _ 26 4 = true) rfl) rfl ?_)) | refine jah ?_ | refine jaj ?_ | refine jai ?_ | refine jav rfl ?_ | refine jan ?_ | refine jab ?_ | refine jbl rfl (fun hc => ?_) (fun hc => ?_))
  · apply jay [1, 3, 8, 9, 10, 18, 19, 22, 23] [8, 9, 26, 39, 40, 45, 46] rfl; (· (repeat (first | exact Pf.nil | apply Pf.cons (.c rfl (.d rfl)) | apply Pf.cons (.c rfl (.lp rfl))))); (· (repeat (first | exact Pb.nil | apply Pb.cons (.row rfl) | (apply Pb.cons; (· apply Nb.box rfl; (repeat (first | exact Ncs.nil rfl | (apply Ncs.cons rfl; (· (first | exact .d rfl | exact .ls rfl))))))) | apply Pb.skip)))
    refine jbd [1, 3, 8, 9, 10, 18, 19, 22] [8, 26, 39, 40, 45] (fun k => [(23, iN k)]) (fun k => [(9, .box [.d (dI x), .d (dI y), .d (dI wh), .ls 46 1 0 (y * i + k)]), (46, .row 1 (cII (boxF f y (y * i + k))))]) (fun k => k ≤ y) (fun k => y - k) (0) ?_ (by (repeat (first | exact trivial | refine ⟨(by (rfl)), ?_⟩))) (by (repeat (first | exact trivial | refine ⟨(by (first | (refine jbq rfl ?_; simp; done) | (refine jcv rfl ?_; simp; done))), ?_⟩))) ?_
    · omega
    intro k hk
    repeat' (first | (refine jaa (.move _) ?_; (refine jac (jak rfl) rfl ?_)) | (refine jaa (.binOp .lss 3 _ _ _) ?_; refine jac (jbi rfl rfl) rfl ?_) | (refine jaa (.assign _) ?_; (refine jac (jal rfl) rfl ?_)) | (refine jaa (.buildSlice 27 0 _) ?_; (apply jao (sz := 1) (by_ := 8); (· kernel_rfl); (· decide); (· (repeat (exact GvS.nil _))); (· (decide)); (· rfl); (· rfl); (· rfl))) | (refine jaa (.binOp .add 3 _ _ _) ?_; refine jac (jax rfl rfl (by (omega))) rfl ?_) | refine jah ?_ | refine jaj ?_ | refine jai ?_ | refine jbh ?_ | refine jav rfl ?_ | refine jan ?_ | refine jab ?_ | refine jbl rfl (fun hc => ?_) (fun hc => ?_))
    · have hik := idx_ltN (i := i) (k := k) (X := x) (Y := y) (by omega) (by omega)
      apply jay [1, 3, 8, 9, 10, 11, 12, 18, 19, 22, 23, 27] [8, 9, 26, 39, 40, 45, 46] rfl; (· (repeat (first | exact Pf.nil | apply Pf.cons (.c rfl (.d rfl)) | apply Pf.cons (.c rfl (.ls rfl)) | apply Pf.cons (.c rfl (.lp rfl))))); (· (repeat (first | exact Pb.nil | apply Pb.cons (.row rfl) | (apply Pb.cons; (· apply Nb.box rfl; (repeat (first | exact Ncs.nil rfl | (apply Ncs.cons rfl; (· (first | exact .d rfl | exact .ls rfl))))))) | apply Pb.skip)))
      refine jbd [1, 3, 8, 9, 10, 11, 18, 19, 22, 23] [8, 9, 39, 40, 45, 46] (fun p => [(27, iN p), (12, .c (.ls 26 1 0 p))]) (fun p => [(26, .row 1 (cI (rowF (f i k) p)))]) (fun p => p ≤ 4) (fun p => 4 - p) (0) ?_ (by (repeat (first | exact trivial | refine ⟨(by (rfl)), ?_⟩))) (by (repeat (first | exact trivial | refine ⟨(by (rfl)), ?_⟩))) ?_
      · omega
      intro p hp
      repeat' (first | (refine jaa (.move _) ?_; (refine jac (jak rfl) rfl ?_)) | (refine jaa (.binOp .lss 3 _ _ _) ?_; refine jac (jbi rfl rfl) rfl ?_) | (refine jaa (.assign _) ?_; (refine jac (jal rfl) rfl ?_)) | (refine jaa (.binOp .quo 3 _ _ _) ?_; (refine jac (qt_quoN rfl rfl (by (omega)) (by (omega)) (by (omega))) rfl ?_)) | (refine jaa (.binOp .rem 3 _ _ _) ?_; (refine jac (qt_remN rfl rfl (by (omega)) (by (omega)) (by (omega))) rfl ?_)) | (refine jaa (.buildSlice 27 1 _) ?_; (apply jao (sz := 1) (by_ := 8); (· kernel_rfl); (· decide); (· (repeat (first | exact GvS.nil _ | apply GvS.c rfl rfl (.lit _) rfl))); (· (decide)); (· rfl); (· rfl); (· rfl))) | (refine jaa (.call ⟨.builtin .append, _, #[27, 27]⟩) ?_; ((apply jbt (sz := 1) (by_ := 8); (· rfl); (· rfl); (· ((simp; done))); (· exact .row _ _ _ _ rfl (by ((simp; done)))); (· (decide)); (· kernel_rfl); (· decide); (· (omega)); (· (omega)); (· rfl); (· rfl); (· rfl)))) | (refine jaa (.binOp .add 3 _ _ _) ?_; refine jac (jax rfl rfl (by (omega))) rfl ?_) | (refine jaa (.fieldAddr 26 _ 3) ?_; (refine jac (jad (off := 3) rfl (by kernel_rfl)) rfl ?_)) | (refine jaa (.load 24 _) ?_; (refine jac (jae rfl rfl (by kernel_rfl) rfl) rfl ?_)) | (refine jaa (.buildSlice 24 1 _) ?_; (apply jao (sz := 1) (by_ := 24); (· kernel_rfl); (· decide); (· (repeat (first | exact GvS.nil _ | apply GvS.c rfl rfl (.row _ _ _ _ rfl (by ((simp; done)))) rfl))); (· (decide)); (· rfl); (· rfl); (· rfl))) | (refine jaa (.call ⟨.builtin .append, _, #[24, 24]⟩) ?_; ((apply jbt (sz := 1) (by_ := 24); (· rfl); (· rfl); (· ((simp; done))); (· exact .row _ _ _ _ rfl (by ((simp; done)))); (· (decide)); (· kernel_rfl); (· decide); (· (omega)); (· (omega)); (· rfl); (· rfl); (· rfl)))) | (refine jaa (.store 24 _ _) ?_; (refine jaq rfl rfl rfl rfl (by kernel_rfl) rfl rfl ?_)) | (refine jaa (.call ⟨.value (.tmp 31), _, _⟩) ?_; (apply so_call; (· (exact .c (.d _))); (· (repeat (first | exact SeA.nil | apply SeA.cons (.c (.d _))))); (· exact hf i k p (by omega) (by omega) (by omega)); (· rfl))) | refine jah ?_ | refine jaj ?_ | refine jai ?_ | refine jbh ?_ | refine jav rfl ?_ | refine jan ?_ | refine jab ?_ | refine jbl rfl (fun hc => ?_) (fun hc => ?_))
      · refine jbf ?_; refine ⟨p + 1, ?_, ?_, jcf rfl (by (repeat (first | exact trivial | refine ⟨(by (rfl)), ?_⟩))) (by (repeat (first | exact trivial | refine ⟨rfl, ?_⟩))) (by (repeat (first | exact trivial | refine ⟨(by ((refine jbq rfl ?_; simp  [rowF_snoc]; done))), ?_⟩))) (by (repeat (first | exact trivial | refine ⟨.inr rfl, ?_⟩)))⟩
        · omega
        · omega
      · have h4 : p = 4 := by omega
        subst h4
        refine jbf ?_; refine ⟨k + 1, ?_, ?_, jcf rfl (by (repeat (first | exact trivial | refine ⟨(by (rfl)), ?_⟩))) (by (repeat (first | exact trivial | refine ⟨rfl, ?_⟩))) (by (repeat (first | exact trivial | refine ⟨(by (first | (refine jbq rfl ?_; simp  [boxF_snoc _ _ _ _ (show k < y by omega)]; done) | rfl)), ?_⟩))) (by (repeat (first | exact trivial | refine ⟨.inr rfl, ?_⟩)))⟩
        · omega
        · omega
    · have h4 : k = y := by omega
      subst h4
      refine jbf ?_; refine ⟨i + 1, ?_, ?_, jcf rfl (by (repeat (first | exact trivial | refine ⟨(by (rfl)), ?_⟩))) (by (repeat (first | exact trivial | refine ⟨rfl, ?_⟩))) (by (repeat (first | exact trivial | refine ⟨(by (rfl)), ?_⟩))) (by (repeat (first | exact trivial | refine ⟨.inr rfl, ?_⟩)))⟩
      · omega
      · omega
  · have h4 : i = x := by omega
    subst h4
    (apply jau; apply jaw; (· apply jbe.p; (· (apply GvA.cons; (· (apply RV.cellN (n := 4); (· rfl); (· rfl); (· kernel_rfl); (· rfl))); (· (apply GvP.g; (· (apply GvL.cons (.lit _)); (apply GvL.cons (.lit _)); (apply GvL.cons (.lit _)); ((apply GvL.cons (.row _ _ _ _ rfl (by ((simp; done)))))); exact GvL.nil)))); exact GvA.nil); (· (decide))))
    simp

end Go.Proofs.YtpflmajlafpmcaaGreat

namespace Go.Proofs.YtpflmajlafpmcaaGreat
open Go.RowKit
set_option linter.unusedSectionVars false
variable [Glb]
set_option maxRecDepth 10000
set_option maxHeartbeats 4000000
theorem areShares_p (x y : Int) (sh : List Int) : PC Tryz.prog 24 [.c (dI x), .c (dI y), .c (eI sh)] (.p (.c (dB (sharesB x y sh)))) := by
  have z := areQuestions_p x y
  cases hB : sizeB x y with
  | false =>
    rw [hB] at z
    refine jar Tryz.func24 rfl rfl rfl (by kernel_rfl) rfl rfl ?_; intro _
    repeat' (first | (refine jaa (.assign _) ?_; (refine jac (jal rfl) rfl ?_)) | (refine jaa (.move _) ?_; (refine jac (jak rfl) rfl ?_)) | (refine jaa (.pick _ _ _) ?_; (refine jac (jby rfl rfl) rfl ?_)) | (refine jaa (.call ⟨.value (.func 26), _, _⟩) ?_; (apply jam (fid := 26); (· (repeat (first | exact SeA.nil | apply SeA.cons (.c (.d _))))); (· exact z); (· rfl))) | refine jah ?_ | refine jbw rfl rfl rfl rfl ?_ | refine jaj ?_ | refine jab ?_)
    all_goals first | (exfalso; simp_all; done) | skip
    all_goals (apply jau; apply jaw; (· apply jbe.p; (· (apply GvA.cons; (· exact .tmp _); (· exact GvP.c (.lit _))); exact GvA.nil); (· (decide))))
    all_goals simp [sharesB, hB]
  | true =>
    rw [hB] at z
    have sz := jbn.1 hB
    obtain ⟨N, hN, N4, N64⟩ : ∃ N : Nat, (1 : Int) * 2 ^ (x + y).toNat = N ∧ 4 ≤ N ∧ N ≤ 64 := by
      refine ⟨2 ^ (x + y).toNat, by simp, ?_, ?_⟩
      · exact Nat.pow_le_pow_right (n := 2) (i := 2) (j := (x + y).toNat) (by omega) (by omega)
      · exact Nat.pow_le_pow_right (n := 2) (i := (x + y).toNat) (j := 6) (by omega) (by omega)
    have e2 : (2 : Int) ^ (x + y).toNat = N := by rw [← hN]; simp
    refine jar Tryz.func24 rfl rfl rfl (by kernel_rfl) rfl rfl ?_; intro _
    repeat' (first | (refine jaa (.assign _) ?_; (refine jac (jal rfl) rfl ?_)) | (refine jaa (.move _) ?_; (refine jac (jak rfl) rfl ?_)) | (refine jaa (.call ⟨.builtin .len, _, #[27]⟩) ?_; (refine jac (jba rfl (by kernel_rfl)) rfl ?_)) | (refine jaa (.binOp .add 3 _ _ _) ?_; refine jac (jax rfl rfl (by (omega))) rfl ?_) | (refine jaa (.binOp .shl 3 _ _ _) ?_; (refine jac (qt_shlI rfl rfl (by (omega)) (by (omega)) (by (omega))) rfl ?_)) | (refine jaa (.binOp .eql 3 _ _ _) ?_; refine jac (jcb rfl rfl) rfl ?_) | (refine jaa (.pick _ _ _) ?_; (refine jac (jby rfl rfl) rfl ?_)) | (refine jaa (.call ⟨.value (.func 26), _, _⟩) ?_; (apply jam (fid := 26); (· (repeat (first | exact SeA.nil | apply SeA.cons (.c (.d _))))); (· exact z); (· rfl))) | (refine jaa (.call ⟨.value (.func 48), _, _⟩) ?_; ((apply jam (fid := 48); (· (repeat (first | exact SeA.nil | apply SeA.cons (.c (.d _))))); (· exact allWithin_p _ _ _); (· rfl)))) | (refine jaa (.call ⟨.value (.func 49), _, _⟩) ?_; ((apply jam (fid := 49); (· (repeat (first | exact SeA.nil | apply SeA.cons (.c (.d _))))); (· exact total_p _); (· rfl)))) | (refine jaa (.call ⟨.value (.func 37), _, _⟩) ?_; ((apply jam (fid := 37); (· (repeat (first | exact SeA.nil | apply SeA.cons (.c (.d _))))); (· exact within_p _ _ _); (· rfl)))) | refine jah ?_ | refine jbw rfl rfl rfl rfl ?_ | refine jbg rfl rfl rfl rfl ?_ | refine jct rfl rfl (fun hg => ?_) (fun hg => ?_) | refine jcy rfl rfl (fun hg => ?_) (fun hg => ?_) | refine jaj ?_ | refine jab ?_)
    all_goals first | (exfalso; omega) | (exfalso; simp_all; done) | skip
    all_goals (apply jau; apply jaw; (· apply jbe.p; (· (apply GvA.cons; (· exact .tmp _); (· exact GvP.c (.lit _))); exact GvA.nil); (· (decide))))
    all_goals simp_all [sharesB]
theorem PlaysOf_p (X Y : Nat) (hX : 1 ≤ X ∧ X ≤ 3) (hY : 1 ≤ Y ∧ Y ≤ 3) : PC Tryz.prog 11 [.c (dI X), .c (dI Y)] (.t [.c (eII (playsF (X + Y))), .c (dB true)]) := by
  have z := areQuestions_p X Y
  rw [show sizeB X Y = true from jbn.2 ⟨⟨by omega, by omega⟩, by omega, by omega⟩] at z
  refine jar Tryz.func11 rfl rfl rfl (by kernel_rfl) rfl rfl ?_; intro _
  repeat' (first | (refine jaa (.assign _) ?_; (refine jac (jal rfl) rfl ?_)) | (refine jaa (.move _) ?_; (refine jac (jak rfl) rfl ?_)) | (refine jaa (.unOp .not 4 _) ?_; refine jac (jbz rfl) rfl ?_) | (refine jaa (.call ⟨.value (.func 26), _, _⟩) ?_; (apply jam (fid := 26); (· (repeat (first | exact SeA.nil | apply SeA.cons (.c (.d _))))); (· exact z); (· rfl))) | (refine jaa (.call ⟨.value (.func 27), _, _⟩) ?_; ((apply jaz (fid := 27); (· (repeat (first | exact SeA.nil | apply SeA.cons (.c (.d _))))); (· exact plays_p X Y (by omega)); (· rfl); (· rfl)))) | refine jah ?_ | refine jaj ?_ | refine jan ?_ | refine jab ?_ | refine jbp rfl ?_)
  all_goals first | (exfalso; omega) | (exfalso; simp_all; done) | skip
  all_goals (apply jau; apply jaw; (· apply jbe.t; (· (apply GvA.cons; (· exact .tmp _); (· (exact GvP.c (.row _ _ _ _ rfl (by ((simp; done))))))); (apply GvA.cons; (· exact .tmp _); (· exact GvP.c (.lit _))); exact GvA.nil); (· rfl); (· (decide))))
  all_goals rfl
theorem PlaysOf_no (x y : Int) (h : sizeB x y = false) : PC Tryz.prog 11 [.c (dI x), .c (dI y)] (.t [.c (eII []), .c (dB false)]) := by
  have z := areQuestions_p x y
  rw [h] at z
  refine jar Tryz.func11 rfl rfl rfl (by kernel_rfl) rfl rfl ?_; intro _
  repeat' (first | (refine jaa (.assign _) ?_; (refine jac (jal rfl) rfl ?_)) | (refine jaa (.move _) ?_; (refine jac (jak rfl) rfl ?_)) | (refine jaa (.unOp .not 4 _) ?_; refine jac (jbz rfl) rfl ?_) | (refine jaa (.call ⟨.value (.func 26), _, _⟩) ?_; (apply jam (fid := 26); (· (repeat (first | exact SeA.nil | apply SeA.cons (.c (.d _))))); (· exact z); (· rfl))) | refine jah ?_ | refine jaj ?_ | refine jab ?_ | refine jbu rfl ?_)
  all_goals first | (exfalso; omega) | (exfalso; simp_all; done) | skip
  all_goals (apply jau; apply jaw; (· apply jbe.t; (· (apply GvA.cons; (· exact .tmp _); (· (exact GvP.c (.nil 1 (by decide))))); (apply GvA.cons; (· exact .tmp _); (· exact GvP.c (.lit _))); exact GvA.nil); (· rfl); (· (decide))))
  all_goals rfl
theorem mixture1_p (i k p q : Int) : PC Tryz.prog 51 [.c (dI i), .c (dI k), .c (dI p), .c (dI q)] (.p (.c (dI 0))) := by
  refine jar Tryz.func51 rfl rfl rfl (by kernel_rfl) rfl rfl ?_; intro _
  repeat' (first | (refine jaa (.assign _) ?_; (refine jac (jal rfl) rfl ?_)) | refine jah ?_ | refine jaj ?_ | refine jab ?_)
  all_goals (apply jau; apply jaw; (· apply jbe.p; (· (apply GvA.cons; (· exact .tmp _); (· exact GvP.c (.lit _))); exact GvA.nil); (· (decide))))
  all_goals rfl
theorem mixture_p (X Y : Nat) (sh : List Int) (h : SharesOK X Y sh) : PC Tryz.prog 25 [.c (dI X), .c (dI Y), .c (eI sh)] (.p (.g [dI X, dI Y, dI (sum64 sh), eII (mixtL sh X Y)])) := by
  have nb := newBox_p X Y (sum64 sh) 51 [] (fun _ _ _ => 0) (by have := h.x; omega) (by have := h.y; omega) (fun i k p _ _ _ => mixture1_p i k _ _)
  rw [mixM_zero sh] at nb
  obtain ⟨hX, hY, hl, h64, hbd, htot, -⟩ := h
  obtain ⟨N, hN⟩ : ∃ N : Nat, N = 2 ^ (X + Y) := ⟨_, rfl⟩
  have pl := plays_p X Y (by omega)
  have pL : (playsF (X + Y)).length = N := by rw [hN]; simp
  have ee := mixM_end sh X Y
  rw [← hN] at hl h64 hbd ee
  refine jar Tryz.func25 rfl rfl rfl (by kernel_rfl) rfl rfl ?_; intro _
  have mL : (mixtL sh X Y).length = Y * X := by simp [mixtL]
  repeat' (first | (refine jaa (.alloc 26) ?_; refine jas (zs := [.int .i64 0, .int .i64 0, .int .i64 0, .slice none 0 0]) (by kernel_rfl) rfl ?_) | (refine jaa (.move _) ?_; (refine jac (jak rfl) rfl ?_)) | (refine jaa (.store 26 _ _) ?_; (refine jag rfl rfl rfl (by kernel_rfl) rfl rfl ?_)) | (refine jaa (.call ⟨.builtin .len, _, #[24]⟩) ?_; (refine jac (jba rfl (by kernel_rfl)) rfl ?_)) | (refine jaa (.call ⟨.value (.func 49), _, _⟩) ?_; ((apply jam (fid := 49); (· (repeat (first | exact SeA.nil | apply SeA.cons (.c (.d _))))); (· exact total_p _); (· rfl)))) | (refine jaa (.call ⟨.value (.func 50), _, _⟩) ?_; ((apply jaz (fid := 50); (· (repeat (first | exact SeA.nil | apply SeA.cons (.c (.d _))))); (· exact nb); (· rfl); (· rfl)))) | (refine jaa (.call ⟨.value (.func 27), _, _⟩) ?_; ((apply jam (fid := 27); (· (repeat (first | exact SeA.nil | apply SeA.cons (.c (.d _))))); (· exact pl); (· rfl)))) | refine jah ?_ | refine jaj ?_ | refine jai ?_ | refine jab (id := 0) ?_ | refine jab (id := 1) ?_ | refine jab (id := 2) ?_)
  refine sk_ghost (sim_boxeq 7 [.d (dI X), .d (dI Y), .d (dI (sum64 sh)), .ls 3016 1 0 (Y * X)] rfl (by show [C.d (dI X), C.d (dI Y), C.d (dI (sum64 sh)), C.ls 3016 1 0 (mixM sh X Y 0 0).length] = _; rw [mixM_len])) ?_
  apply jay [0, 1, 2, 6, 7, 19, 20, 21] [6, 7, 19, 3016] rfl; (· (repeat (first | exact Pf.nil | apply Pf.cons (.c rfl (.d rfl)) | apply Pf.cons (.c rfl (.lp rfl))))); (· (repeat (first | exact Pb.nil | apply Pb.cons (.row rfl) | (apply Pb.cons; (· apply Nb.box rfl; (repeat (first | exact Ncs.nil rfl | (apply Ncs.cons rfl; (· (first | exact .d rfl | exact .ls rfl))))))) | apply Pb.skip)))
  refine jbd [0, 1, 2, 6, 7, 19, 20] [6, 7, 19] (fun i => [(21, iN i)]) (fun i => [(3016, .row 1 (cII (mixM sh X Y i 0)))]) (fun i => i ≤ N) (fun i => N - i) (0) ?_ (by (repeat (first | exact trivial | refine ⟨(by (rfl)), ?_⟩))) (by (repeat (first | exact trivial | refine ⟨(by ((refine jbq rfl ?_; simp; done))), ?_⟩))) ?_
  · omega
  intro i hi
  by_cases hi2 : i < N
  · have pe : atZ (playsF (X + Y)) (i : Int) = bitsM (X + Y) i := playsF_at (by omega)
    repeat' (first | (refine jaa (.move _) ?_; (refine jac (jak rfl) rfl ?_)) | (refine jaa (.store 26 _ _) ?_; (refine jag rfl rfl rfl (by kernel_rfl) rfl rfl ?_)) | (refine jaa (.binOp .lss 3 _ _ _) ?_; refine jac (jbi rfl rfl) rfl ?_) | (refine jaa (.indexAddr 24 _ _) ?_; (refine jac (jbx rfl rfl (by kernel_rfl) (by (omega)) (by (omega))) rfl ?_)) | (refine jaa (.load 27 _) ?_; (refine jac (jap rfl (by kernel_rfl) rfl) rfl ?_)) | (refine jaa (.assign _) ?_; (refine jac (jal rfl) rfl ?_)) | (refine jaa (.load 26 _) ?_; (refine jac (jaf rfl rfl (by kernel_rfl : tAgg _ 26 4 = true) rfl) rfl ?_)) | refine jah ?_ | refine jaj ?_ | refine jai ?_ | refine jav rfl ?_ | refine jan ?_ | refine jab ?_ | refine jbl rfl (fun hc => ?_) (fun hc => ?_))
    all_goals first | (exfalso; omega) | skip
    apply jay [0, 1, 2, 6, 7, 8, 9, 19, 20, 21, 26, 27] [6, 7, 19, 3016] rfl; (· (repeat (first | exact Pf.nil | apply Pf.cons (.c rfl (.d rfl)) | apply Pf.cons (.c rfl (.lp rfl))))); (· (repeat (first | exact Pb.nil | apply Pb.cons (.row rfl) | (apply Pb.cons; (· apply Nb.box rfl; (repeat (first | exact Ncs.nil rfl | (apply Ncs.cons rfl; (· (first | exact .d rfl | exact .ls rfl))))))) | apply Pb.skip)))
    refine jbd [0, 1, 2, 6, 7, 8, 9, 19, 20, 21, 26] [6, 7, 19] (fun j => [(27, iN j)]) (fun j => [(3016, .row 1 (cII (mixM sh X Y i (Y * j))))]) (fun j => j ≤ X) (fun j => X - j) (0) ?_ (by (repeat (first | exact trivial | refine ⟨(by (rfl)), ?_⟩))) (by (repeat (first | exact trivial | refine ⟨(by ((refine jbq rfl ?_; simp; done))), ?_⟩))) ?_
    · omega
    intro j hj
    by_cases hj2 : j < X
    · repeat' (first | (refine jaa (.move _) ?_; (refine jac (jak rfl) rfl ?_)) | (refine jaa (.binOp .lss 3 _ _ _) ?_; refine jac (jbi rfl rfl) rfl ?_) | (refine jaa (.assign _) ?_; (refine jac (jal rfl) rfl ?_)) | (refine jaa (.binOp .add 3 _ _ _) ?_; refine jac (jax rfl rfl (by (omega))) rfl ?_) | refine jah ?_ | refine jaj ?_ | refine jai ?_ | refine jbh ?_ | refine jav rfl ?_ | refine jan ?_ | refine jab ?_ | refine jbl rfl (fun hc => ?_) (fun hc => ?_))
      all_goals first | (exfalso; omega) | skip
      apply jay [0, 1, 2, 6, 7, 8, 9, 10, 19, 20, 21, 26, 27, 30, 31] [6, 7, 19, 3016] rfl; (· (repeat (first | exact Pf.nil | apply Pf.cons (.c rfl (.d rfl)) | apply Pf.cons (.c rfl (.lp rfl))))); (· (repeat (first | exact Pb.nil | apply Pb.cons (.row rfl) | (apply Pb.cons; (· apply Nb.box rfl; (repeat (first | exact Ncs.nil rfl | (apply Ncs.cons rfl; (· (first | exact .d rfl | exact .ls rfl))))))) | apply Pb.skip)))
      refine jbd [0, 1, 2, 6, 7, 8, 9, 10, 19, 20, 21, 26, 27, 30] [6, 7, 19] (fun k => [(31, iN k)]) (fun k => [(3016, .row 1 (cII (mixM sh X Y i (Y * j + k))))]) (fun k => k ≤ Y) (fun k => Y - k) (0) ?_ (by (repeat (first | exact trivial | refine ⟨(by (rfl)), ?_⟩))) (by (repeat (first | exact trivial | refine ⟨(by ((refine jbq rfl ?_; simp; done))), ?_⟩))) ?_
      · omega
      intro k hk
      by_cases hk2 : k < Y
      · have hq := idx_ltN hj2 hk2
        have q1 : (Y * j + k) / Y = j := by rw [Nat.mul_comm, Nat.add_comm, Nat.add_mul_div_right _ _ (by omega), Nat.div_eq_of_lt hk2, Nat.zero_add]
        have q2 : (Y * j + k) % Y = k := by rw [Nat.mul_comm, Nat.add_comm, Nat.add_mul_mod_self_right, Nat.mod_eq_of_lt hk2]
        have je : (j : Int) * Y + k = ((Y * j + k : Nat) : Int) := by rw [Int.natCast_add, Int.natCast_mul, Int.mul_comm]
        have jt : ((j : Int) * Y + k).toNat = Y * j + k := by rw [je, Int.toNat_natCast]
        have jb := idx_lt (i := (j : Int)) (k := (k : Int)) (X := X) (Y := Y) (by omega) (by omega) (by omega) (by omega)
        have m9 := jcq (jbn.2 ⟨⟨(by omega : (1 : Int) ≤ X), (by omega : (X : Int) ≤ 3)⟩, (by omega : (1 : Int) ≤ Y), (by omega : (Y : Int) ≤ 3)⟩)
        have ml : (((mixM sh X Y i (Y * j + k)).length : Nat) : Int) = (X : Int) * Y := by rw [mixM_len, Int.natCast_mul, Int.mul_comm]
        have wg := mixM_get sh X Y i hq
        have ws : (mixM sh X Y i (Y * j + k)).set (Y * j + k) (rowF (mixV sh X Y ((Y * j + k) / Y) ((Y * j + k) % Y) (i + 1)) 4) = mixM sh X Y i (Y * j + (k + 1)) := mixM_set sh X Y i hq
        rw [q1, q2] at wg ws
        have st := mixV_step sh X Y j k i
        have pp := mixPl_at i hj2 hk2
        have p4 := mixPl_lt X Y j k i
        have vb := mixV_bd (sh := sh) (X := X) (Y := Y) (j := j) (k := k) (i := i) (p := mixPl X Y j k i) (fun t ht => hbd t (by omega)) (by omega)
        have sb := hbd i hi2
        have a1 := jck (bitsM_bits (X + Y) i) (i := (j : Int)) (by omega) (by omega)
        have a2 := jck (bitsM_bits (X + Y) i) (i := (X : Int) + k) (by omega) (by omega)
        have bl : (bitsM (X + Y) i).length = X + Y := by simp
        rw [← pe] at pp a1 a2 bl
        have ev : atZ (rowF (mixV sh X Y j k i) 4) (2 * atZ (atZ (playsF (X + Y)) (i : Int)) (j : Int) + atZ (atZ (playsF (X + Y)) (i : Int)) ((X : Int) + k)) = mixV sh X Y j k i (mixPl X Y j k i) := by rw [pp]; exact rowF_atZ _ p4
        rw [← ev] at vb st
        repeat' (first | (refine jaa (.move _) ?_; (refine jac (jak rfl) rfl ?_)) | (refine jaa (.binOp .lss 3 _ _ _) ?_; refine jac (jbi rfl rfl) rfl ?_) | (refine jaa (.assign _) ?_; (refine jac (jal rfl) rfl ?_)) | (refine jaa (.binOp .add 3 _ _ _) ?_; refine jac (jax rfl rfl (by (omega))) rfl ?_) | refine jah ?_ | refine jaj ?_ | refine jai ?_ | refine jbh ?_ | refine jav rfl ?_ | refine jan ?_ | refine jab (id := 9) ?_ | refine jab (id := 10) ?_ | refine jab (id := 13) ?_ | refine jbl rfl (fun hc => ?_) (fun hc => ?_))
        all_goals first | (exfalso; omega) | skip
        refine jat 11 (fun i => i == 29) (.step 0 true (.step 1 true (.step 2 true (.step 3 true (.step 4 true (.step 5 true (.step 6 true (.step 7 true (.step 8 true (.step 9 true (.step 10 true (.step 11 true (.step 12 true (.step 13 true (.step 14 true (.step 15 true (.step 16 true (.step 17 true (.step 18 true (.step 19 true (.step 20 true (.step 21 true (.step 22 true (.step 23 true (.step 24 true (.step 25 true (.step 26 true (.step 27 true (.step 28 true (.step 29 false .nil)))))))))))))))))))))))))))))) [(0, 1073741823, 1073741823, true), (1, 1073741822, 1073741823, false), (0, 1073741823, 1073741823, true), (0, 1073741823, 1073741823, true), (12, 1073741811, 1073741823, true), (0, 1073741823, 1073741823, true), (48, 1073741775, 1073741823, true), (66, 1073741757, 1073741823, true), (128, 1073741695, 1073741823, false), (0, 1073741823, 1073741823, true), (0, 1073741823, 1073741823, true), (1536, 1073740287, 1073741823, true), (2048, 1073739775, 1073741823, false), (4096, 1073737727, 1073741823, true), (0, 1073741823, 1073741823, true), (0, 1073741823, 1073741823, true), (0, 1073741823, 1073741823, true), (98304, 1073643519, 1073741823, true), (147456, 1073594367, 1073741823, true), (262144, 1073479679, 1073741823, false), (532480, 1073209343, 1073741823, true), (1048832, 1072692991, 1073741823, true), (2097152, 1071644671, 1073741823, false), (0, 1073741823, 1073741823, true), (0, 1073741823, 1073741823, true), (25165824, 1048575999, 1073741823, true), (33554432, 1040187391, 1073741823, false), (71303168, 1002438655, 1073741823, true), (268435455, 1072692991, 1073741823, true), (536870911, 671088639, 1073741823, false)] (by kernel_rfl) (by kernel_rfl) ?_
        all_goals ((refine jac (jad (off := 3) rfl (by kernel_rfl)) rfl ?_))
        all_goals ((refine jac (jae rfl rfl (by kernel_rfl) rfl) rfl ?_))
        all_goals ((refine jac (jak rfl) rfl ?_))
        all_goals ((refine jac (jak rfl) rfl ?_))
        all_goals (refine jac (jcw rfl rfl (by (omega))) rfl ?_)
        all_goals ((refine jac (jak rfl) rfl ?_))
        all_goals (refine jac (jax rfl rfl (by (omega))) rfl ?_)
        all_goals ((refine jac (jce rfl rfl (by kernel_rfl : tSl _ 24 1 = true) (by (omega)) (by (omega))) rfl ?_))
        all_goals (refine so_thaw (c := 2000) (sz' := 1) (n := 4) (ds' := cI (rowF (mixV sh X Y j k i) 4)) rfl rfl (by kernel_rfl) (by simp [jt, wg]) rfl rfl rfl ?_)
        all_goals ((refine jac (jak rfl) rfl ?_))
        all_goals ((refine jac (jak rfl) rfl ?_))
        all_goals ((refine jac (jcc rfl rfl (by kernel_rfl) (by (omega)) (by (omega))) rfl ?_))
        all_goals ((refine jac (jap rfl (by kernel_rfl) rfl) rfl ?_))
        all_goals (refine jac (jcw rfl rfl (by (omega))) rfl ?_)
        all_goals ((refine jac (jak rfl) rfl ?_))
        all_goals ((refine jac (jak rfl) rfl ?_))
        all_goals ((refine jac (jak rfl) rfl ?_))
        all_goals (refine jac (jax rfl rfl (by (omega))) rfl ?_)
        all_goals ((refine jac (jcc rfl rfl (by kernel_rfl) (by (omega)) (by (omega))) rfl ?_))
        all_goals ((refine jac (jap rfl (by kernel_rfl) rfl) rfl ?_))
        all_goals (refine jac (jax rfl rfl (by (omega))) rfl ?_)
        all_goals ((refine jac (jce rfl rfl (by kernel_rfl : tSl _ 27 1 = true) (by (omega)) (by (omega))) rfl ?_))
        all_goals ((refine jac (jcp rfl rfl (by kernel_rfl) (by (omega)) (by ((simp only [List.length_map, List.length_append, List.length_replicate, fillL_len, rowF_len, gridF_len, mkI_len, mkII_len, jcn] at *; omega)))) rfl ?_))
        all_goals ((refine jac (jak rfl) rfl ?_))
        all_goals ((refine jac (jak rfl) rfl ?_))
        all_goals ((refine jac (jcc rfl rfl (by kernel_rfl) (by (omega)) (by (omega))) rfl ?_))
        all_goals ((refine jac (jap rfl (by kernel_rfl) rfl) rfl ?_))
        all_goals (refine jac (jax rfl rfl (by (omega))) rfl ?_)
        all_goals ((refine jac (jce rfl rfl (by kernel_rfl : tSl _ 27 1 = true) (by (omega)) (by (omega))) rfl ?_))
        all_goals (((refine jcg rfl rfl rfl rfl (.lit _) (by simp) (by simp) (by kernel_rfl) (by ((simp only [List.length_map, List.length_append, List.length_replicate, fillL_len, rowF_len, gridF_len, mkI_len, mkII_len, jcn] at *; omega))) rfl ?_; simp only [St.drop])))
        all_goals refine jah ?_
        refine jbh ?_
        refine sk_ghost (sim_back (b := 3016) (c := 2000) rfl rfl (by simp) rfl) ?_
        repeat' (first | (refine jaa (.move _) ?_; (refine jac (jak rfl) rfl ?_)) | (refine jaa (.binOp .add 3 _ _ _) ?_; refine jac (jax rfl rfl (by (omega))) rfl ?_) | refine jah ?_ | refine jab ?_)
        refine jbf ?_; refine ⟨k + 1, ?_, ?_, jcf rfl (by (repeat (first | exact trivial | refine ⟨(by (rfl)), ?_⟩))) (by (repeat (first | exact trivial | refine ⟨rfl, ?_⟩))) (by (repeat (first | exact trivial | refine ⟨(by ((refine jbq rfl ?_; simp  [List.map_set, ← ws, ← st, jt, pp, eI]; done))), ?_⟩))) (by (repeat (first | exact trivial | refine ⟨.inr rfl, ?_⟩)))⟩
        · omega
        · omega
      · have e : k = Y := by omega
        repeat' (first | (refine jaa (.move _) ?_; (refine jac (jak rfl) rfl ?_)) | (refine jaa (.binOp .lss 3 _ _ _) ?_; refine jac (jbi rfl rfl) rfl ?_) | (refine jaa (.indexAddr 24 _ _) ?_; (refine jac (jce rfl rfl (by kernel_rfl : tSl _ 24 1 = true) (by (omega)) (by (omega))) rfl ?_)) | (refine jaa (.assign _) ?_; (refine jac (jal rfl) rfl ?_)) | (refine jaa (.fieldAddr 26 _ 3) ?_; (refine jac (jad (off := 3) rfl (by kernel_rfl)) rfl ?_)) | (refine jaa (.load 24 _) ?_; (refine jac (jae rfl rfl (by kernel_rfl) rfl) rfl ?_)) | (refine jaa (.binOp .mul 3 _ _ _) ?_; refine jac (jcw rfl rfl (by (omega))) rfl ?_) | (refine jaa (.binOp .add 3 _ _ _) ?_; refine jac (jax rfl rfl (by (omega))) rfl ?_) | refine jah ?_ | refine jaj ?_ | refine jai ?_ | refine jbh ?_ | refine jav rfl ?_ | refine jan ?_ | refine jab ?_ | refine jat 11 (fun i => i == 29) (.step 0 true (.step 1 true (.step 2 true (.step 3 true (.step 4 true (.step 5 true (.step 6 true (.step 7 true (.step 8 true (.step 9 true (.step 10 true (.step 11 true (.step 12 true (.step 13 true (.step 14 true (.step 15 true (.step 16 true (.step 17 true (.step 18 true (.step 19 true (.step 20 true (.step 21 true (.step 22 true (.step 23 true (.step 24 true (.step 25 true (.step 26 true (.step 27 true (.step 28 true (.step 29 false .nil)))))))))))))))))))))))))))))) [(0, 1073741823, 1073741823, true), (1, 1073741822, 1073741823, false), (0, 1073741823, 1073741823, true), (0, 1073741823, 1073741823, true), (12, 1073741811, 1073741823, true), (0, 1073741823, 1073741823, true), (48, 1073741775, 1073741823, true), (66, 1073741757, 1073741823, true), (128, 1073741695, 1073741823, false), (0, 1073741823, 1073741823, true), (0, 1073741823, 1073741823, true), (1536, 1073740287, 1073741823, true), (2048, 1073739775, 1073741823, false), (4096, 1073737727, 1073741823, true), (0, 1073741823, 1073741823, true), (0, 1073741823, 1073741823, true), (0, 1073741823, 1073741823, true), (98304, 1073643519, 1073741823, true), (147456, 1073594367, 1073741823, true), (262144, 1073479679, 1073741823, false), (532480, 1073209343, 1073741823, true), (1048832, 1072692991, 1073741823, true), (2097152, 1071644671, 1073741823, false), (0, 1073741823, 1073741823, true), (0, 1073741823, 1073741823, true), (25165824, 1048575999, 1073741823, true), (33554432, 1040187391, 1073741823, false), (71303168, 1002438655, 1073741823, true), (268435455, 1072692991, 1073741823, true), (536870911, 671088639, 1073741823, false)] (by kernel_rfl) (by kernel_rfl) ?_ | refine jbl rfl (fun hc => ?_) (fun hc => ?_))
        all_goals first | (exfalso; omega) | skip
        refine jbf ?_; refine ⟨j + 1, ?_, ?_, jcf rfl (by (repeat (first | exact trivial | refine ⟨(by (rfl)), ?_⟩))) (by (repeat (first | exact trivial | refine ⟨rfl, ?_⟩))) (by (repeat (first | exact trivial | refine ⟨(by ((refine jbq rfl ?_; simp  [Nat.mul_succ, e]; done))), ?_⟩))) (by (repeat (first | exact trivial | refine ⟨.inr rfl, ?_⟩)))⟩
        · omega
        · omega
    · have e : j = X := by omega
      repeat' (first | (refine jaa (.move _) ?_; (refine jac (jak rfl) rfl ?_)) | (refine jaa (.binOp .lss 3 _ _ _) ?_; refine jac (jbi rfl rfl) rfl ?_) | (refine jaa (.assign _) ?_; (refine jac (jal rfl) rfl ?_)) | (refine jaa (.binOp .add 3 _ _ _) ?_; refine jac (jax rfl rfl (by (omega))) rfl ?_) | refine jah ?_ | refine jaj ?_ | refine jai ?_ | refine jbh ?_ | refine jav rfl ?_ | refine jan ?_ | refine jab ?_ | refine jbl rfl (fun hc => ?_) (fun hc => ?_))
      all_goals first | (exfalso; omega) | skip
      refine jbf ?_; refine ⟨i + 1, ?_, ?_, jcf rfl (by (repeat (first | exact trivial | refine ⟨(by (rfl)), ?_⟩))) (by (repeat (first | exact trivial | refine ⟨rfl, ?_⟩))) (by (repeat (first | exact trivial | refine ⟨(by ((refine jbq rfl ?_; simp  [e, mixM_next]; done))), ?_⟩))) (by (repeat (first | exact trivial | refine ⟨.inr rfl, ?_⟩)))⟩
      · omega
      · omega
  · have e : i = N := by omega
    subst e
    rw [ee]
    repeat' (first | (refine jaa (.move _) ?_; (refine jac (jak rfl) rfl ?_)) | (refine jaa (.store 26 _ _) ?_; (refine jag rfl rfl rfl (by kernel_rfl) rfl rfl ?_)) | (refine jaa (.binOp .lss 3 _ _ _) ?_; refine jac (jbi rfl rfl) rfl ?_) | (refine jaa (.indexAddr 24 _ _) ?_; (refine jac (jbx rfl rfl (by kernel_rfl) (by (omega)) (by (omega))) rfl ?_)) | (refine jaa (.load 27 _) ?_; (refine jac (jap rfl (by kernel_rfl) rfl) rfl ?_)) | (refine jaa (.assign _) ?_; (refine jac (jal rfl) rfl ?_)) | (refine jaa (.load 26 _) ?_; (refine jac (jaf rfl rfl (by kernel_rfl : tAgg _ 26 4 = true) rfl) rfl ?_)) | refine jah ?_ | refine jaj ?_ | refine jai ?_ | refine jav rfl ?_ | refine jan ?_ | refine jab ?_ | refine jbl rfl (fun hc => ?_) (fun hc => ?_))
    all_goals first | (exfalso; omega) | skip
    all_goals (apply jau; apply jaw; (· apply jbe.p; (· (apply GvA.cons; (· (apply RV.cellN (n := 4); (· rfl); (· rfl); (· kernel_rfl); (· rfl))); (· (apply GvP.g; (· (apply GvL.cons (.lit _)); (apply GvL.cons (.lit _)); (apply GvL.cons (.lit _)); ((apply GvL.cons (.row _ _ _ _ rfl (by ((simp; omega)))))); exact GvL.nil)))); exact GvA.nil); (· (decide))))
    all_goals simp [mL]
theorem MixtureBox_p (X Y : Nat) (sh : List Int) (h : SharesOK X Y sh) (hb : sharesB X Y sh = true) : PC Tryz.prog 10 [.c (dI X), .c (dI Y), .c (eI sh)] (.t [.g [dI X, dI Y, dI (sum64 sh), eII (mixtL sh X Y)], .c (dB true)]) := by
  have z := areShares_p X Y sh
  rw [hb] at z
  have m := mixture_p X Y sh h
  refine jar Tryz.func10 rfl rfl rfl (by kernel_rfl) rfl rfl ?_; intro _
  repeat' (first | (refine jaa (.alloc 26) ?_; refine jas (zs := [.int .i64 0, .int .i64 0, .int .i64 0, .slice none 0 0]) (by kernel_rfl) rfl ?_) | (refine jaa (.assign _) ?_; (refine jac (jal rfl) rfl ?_)) | (refine jaa (.move _) ?_; (refine jac (jak rfl) rfl ?_)) | (refine jaa (.unOp .not 4 _) ?_; refine jac (jbz rfl) rfl ?_) | (refine jaa (.store 26 _ _) ?_; (refine jag rfl rfl rfl (by kernel_rfl) rfl rfl ?_)) | (refine jaa (.call ⟨.value (.func 24), _, _⟩) ?_; ((apply jam (fid := 24); (· (repeat (first | exact SeA.nil | apply SeA.cons (.c (.d _))))); (· exact z); (· rfl)))) | (refine jaa (.call ⟨.value (.func 25), _, _⟩) ?_; ((apply jaz (fid := 25); (· (repeat (first | exact SeA.nil | apply SeA.cons (.c (.d _))))); (· exact m); (· rfl); (· rfl)))) | refine jah ?_ | refine jaj ?_ | refine jan ?_ | refine jab ?_ | refine jbp rfl ?_)
  all_goals first | (exfalso; simp_all; done) | skip
  all_goals (apply jau; apply jaw; (· apply jbe.t; (· (apply GvA.cons; (· (apply RV.cellN (n := 4); (· rfl); (· rfl); (· kernel_rfl); (· rfl))); (· (apply GvP.g; (· (apply GvL.cons (.lit _)); (apply GvL.cons (.lit _)); (apply GvL.cons (.lit _)); ((apply GvL.cons (.row _ _ _ _ rfl (by ((simp; done)))))); exact GvL.nil)))); (apply GvA.cons; (· exact .tmp _); (· exact GvP.c (.lit _))); exact GvA.nil); (· rfl); (· (decide))))
  all_goals rfl
theorem MixtureBox_no (x y : Int) (sh : List Int) (hb : sharesB x y sh = false) : PC Tryz.prog 10 [.c (dI x), .c (dI y), .c (eI sh)] (.t [.g [dI 0, dI 0, dI 0, eII []], .c (dB false)]) := by
  have z := areShares_p x y sh
  rw [hb] at z
  refine jar Tryz.func10 rfl rfl rfl (by kernel_rfl) rfl rfl ?_; intro _
  repeat' (first | (refine jaa (.alloc 26) ?_; refine jas (zs := [.int .i64 0, .int .i64 0, .int .i64 0, .slice none 0 0]) (by kernel_rfl) rfl ?_) | (refine jaa (.assign _) ?_; (refine jac (jal rfl) rfl ?_)) | (refine jaa (.move _) ?_; (refine jac (jak rfl) rfl ?_)) | (refine jaa (.unOp .not 4 _) ?_; refine jac (jbz rfl) rfl ?_) | (refine jaa (.build 26 _) ?_; refine jac (jbs (cs := [_, _, _, _]) [(0, 1), (1, 1), (2, 1), (3, 1)] [.int .i64 0, .int .i64 0, .int .i64 0, .slice none 0 0] (by kernel_rfl) (by kernel_rfl) rfl) rfl ?_) | (refine jaa (.store 26 _ _) ?_; (refine jag rfl rfl rfl (by kernel_rfl) rfl rfl ?_)) | (refine jaa (.call ⟨.value (.func 24), _, _⟩) ?_; (apply jam (fid := 24); (· (repeat (first | exact SeA.nil | apply SeA.cons (.c (.d _))))); (· exact z); (· rfl))) | refine jah ?_ | refine jaj ?_ | refine jab ?_ | refine jbu rfl ?_)
  all_goals first | (exfalso; simp_all; done) | skip
  all_goals (apply jau; apply jaw; (· apply jbe.t; (· (apply GvA.cons; (· (apply RV.cellN (n := 4); (· rfl); (· rfl); (· kernel_rfl); (· rfl))); (· (apply GvP.g; (· (apply GvL.cons (.lit _)); (apply GvL.cons (.lit _)); (apply GvL.cons (.lit _)); ((apply GvL.cons (.nil 1 (by decide)))); exact GvL.nil)))); (apply GvA.cons; (· exact .tmp _); (· exact GvP.c (.lit _))); exact GvA.nil); (· rfl); (· (decide))))
  all_goals rfl

end Go.Proofs.YtpflmajlafpmcaaGreat

namespace Go.Proofs.YtpflmajlafpmcaaGreat
open Go.RowKit
set_option linter.unusedSectionVars false
variable [Glb]
set_option maxRecDepth 10000
set_option maxHeartbeats 4000000
abbrev dU (n : Int) : D := .lit (.int .u64 n)
end Go.Proofs.YtpflmajlafpmcaaGreat

namespace Go.Proofs.YtpflmajlafpmcaaGreat
open Go.RowKit
set_option linter.unusedSectionVars false
variable [Glb]
set_option maxRecDepth 10000
set_option maxHeartbeats 4000000
theorem isSet_p (l : List Int) (n : Int) (h0 : 0 ≤ n) (h1 : n ≤ 1000) : PC Tryz.prog 52 [.c (eI l), .c (dI n)] (.p (.c (dB (riseB l 0 (n - 1))))) := by
  refine jar Tryz.func52 rfl rfl rfl (by kernel_rfl) rfl rfl ?_; rintro ⟨hl, -⟩
  have hl := hl.len
  repeat' (first | (refine jaa (.assign _) ?_; (refine jac (jal rfl) rfl ?_)) | (refine jaa (.move _) ?_; (refine jac (jak rfl) rfl ?_)) | (refine jaa (.call ⟨.builtin .len, _, #[27]⟩) ?_; (refine jac (jba rfl (by kernel_rfl)) rfl ?_)) | refine jah ?_ | refine jaj ?_ | refine jai ?_ | refine jab ?_)
  apply jay [0, 1, 7, 8, 9] [] rfl; (· (repeat (first | exact Pf.nil | apply Pf.cons (.c rfl (.d rfl))))); (· (repeat (exact Pb.nil)))
  refine jbd [0, 1, 7, 8] [] (fun k => [(9, iN k)]) (fun _ => []) (fun k => k ≤ l.length ∧ (List.range k).all (riseAt l 0 (n - 1)) = true) (fun k => l.length - k) (0) ?_ (by (repeat (first | exact trivial | refine ⟨(by (rfl)), ?_⟩))) (by (repeat (exact trivial))) ?_
  · simp
  rintro k ⟨hk, ha⟩
  repeat' (first | (refine jaa (.assign _) ?_; (refine jac (jal rfl) rfl ?_)) | (refine jaa (.move _) ?_; (refine jac (jak rfl) rfl ?_)) | (refine jaa (.binOp .lss 3 _ _ _) ?_; refine jac (jbi rfl rfl) rfl ?_) | (refine jaa (.indexAddr 27 _ _) ?_; (refine jac (jcc rfl rfl (by kernel_rfl) (by (omega)) (by (omega))) rfl ?_)) | (refine jaa (.load 3 _) ?_; (refine jac (jap rfl (by kernel_rfl) rfl) rfl ?_)) | (refine jaa (.binOp .sub 3 _ _ _) ?_; refine jac (jch rfl rfl (by (omega))) rfl ?_) | (refine jaa (.unOp .not 4 _) ?_; refine jac (jbz rfl) rfl ?_) | (refine jaa (.binOp .gtr 3 _ _ _) ?_; refine jac (jdb rfl rfl) rfl ?_) | (refine jaa (.binOp .geq 3 _ _ _) ?_; refine jac (qt_geq rfl rfl) rfl ?_) | (refine jaa (.pick _ _ _) ?_; (refine jac (jby rfl rfl) rfl ?_)) | (refine jaa (.binOp .add 3 _ _ _) ?_; refine jac (jax rfl rfl (by (omega))) rfl ?_) | (refine jaa (.call ⟨.value (.func 37), _, _⟩) ?_; (apply jam (fid := 37); (· (repeat (first | exact SeA.nil | apply SeA.cons (.c (.d _))))); (· exact within_p _ _ _); (· rfl))) | refine jah ?_ | refine so_g_un rfl rfl rfl rfl rfl ?_ | refine jbw rfl rfl rfl rfl ?_ | refine jbg rfl rfl rfl rfl ?_ | refine jct rfl rfl (fun hg => ?_) (fun hg => ?_) | refine jcy rfl rfl (fun hg => ?_) (fun hg => ?_) | refine jaj ?_ | refine jai ?_ | refine jbh ?_ | refine jav rfl ?_ | refine jan ?_ | refine jab ?_ | refine jbu rfl ?_ | refine jbp rfl ?_ | refine jbl rfl (fun hc => ?_) (fun hc => ?_))
  all_goals first | (exfalso; omega) | skip
  · (apply jau; apply jaw; (· apply jbe.p; (· (apply GvA.cons; (· exact .tmp _); (· exact GvP.c (.lit _))); exact GvA.nil); (· (decide))))
    rw [rise_no (k := k) (by assumption) (.inl (by simp_all))]
  · (apply jau; apply jaw; (· apply jbe.p; (· (apply GvA.cons; (· exact .tmp _); (· exact GvP.c (.lit _))); exact GvA.nil); (· (decide))))
    rw [rise_no (k := k) (by omega) (.inr ⟨by assumption, by assumption⟩)]
  · refine jbf ?_; refine ⟨k + 1, ?_, ?_, jcf rfl (by (repeat (first | exact trivial | refine ⟨(by (rfl)), ?_⟩))) (by (repeat (first | exact trivial | refine ⟨rfl, ?_⟩))) (by (repeat (exact trivial))) (by (repeat (exact trivial)))⟩
    · exact ⟨by omega, rise_yes ha (by simp_all) (.inr (by assumption))⟩
    · omega
  · refine jbf ?_; refine ⟨k + 1, ?_, ?_, jcf rfl (by (repeat (first | exact trivial | refine ⟨(by (rfl)), ?_⟩))) (by (repeat (first | exact trivial | refine ⟨rfl, ?_⟩))) (by (repeat (exact trivial))) (by (repeat (exact trivial)))⟩
    · exact ⟨by omega, rise_yes ha (by simp_all) (.inl (by assumption))⟩
    · omega
  · have : k = l.length := by omega
    subst this
    (apply jau; apply jaw; (· apply jbe.p; (· (apply GvA.cons; (· exact .tmp _); (· exact GvP.c (.lit _))); exact GvA.nil); (· (decide))))
    unfold riseB; rw [ha]

end Go.Proofs.YtpflmajlafpmcaaGreat

namespace Go.Proofs.YtpflmajlafpmcaaGreat
open Go.RowKit
set_option linter.unusedSectionVars false
variable [Glb]
set_option maxRecDepth 10000
set_option maxHeartbeats 4000000
theorem isAssignment_p (ev : Int) (cc : List (List Int)) (ss nu : List Int) : PC Tryz.prog 31 [.g [dI ev, eII cc, eI ss], .c (eI nu)] (.p (.c (dB (bitsB nu ev)))) := by
  refine jar Tryz.func31 rfl rfl rfl (by kernel_rfl) rfl rfl ?_; intro _
  repeat' (first | (refine jaa (.box 29 _) ?_; refine jbc rfl rfl ?_) | (refine jaa (.assign _) ?_; (refine jac (jal rfl) rfl ?_)) | (refine jaa (.move _) ?_; (refine jac (jak rfl) rfl ?_)) | (refine jaa (.call ⟨.builtin .len, _, #[27]⟩) ?_; (refine jac (jba rfl (by kernel_rfl)) rfl ?_)) | (refine jaa (.fieldAddr 29 _ 0) ?_; (refine jac (jad (off := 0) rfl (by kernel_rfl)) rfl ?_)) | (refine jaa (.load 3 _) ?_; (refine jac (jae rfl rfl (by kernel_rfl) rfl) rfl ?_)) | (refine jaa (.binOp .eql 3 _ _ _) ?_; refine jac (jcb rfl rfl) rfl ?_) | (refine jaa (.pick _ _ _) ?_; (refine jac (jby rfl rfl) rfl ?_)) | (refine jaa (.call ⟨.value (.func 48), _, _⟩) ?_; (apply jam (fid := 48); (· (repeat (first | exact SeA.nil | apply SeA.cons (.c (.d _))))); (· exact allWithin_p _ _ _); (· rfl))) | refine jah ?_ | refine jbw rfl rfl rfl rfl ?_ | refine jbg rfl rfl rfl rfl ?_ | refine jct rfl rfl (fun hg => ?_) (fun hg => ?_) | refine jaj ?_ | refine jab ?_)
  all_goals (apply jau; apply jaw; (· apply jbe.p; (· (apply GvA.cons; (· exact .tmp _); (· exact GvP.c (.lit _))); exact GvA.nil); (· (decide))))
  all_goals ((simp_all [bitsB]; done))
theorem IsScene_p (ev : Int) (cc : List (List Int)) (ss : List Int) : PC Tryz.prog 29 [.g [dI ev, eII cc, eI ss]] (.p (.c (dB (sceneB ev cc ss)))) := by
  have hev := fun h => jcd.1 (h : inB ev 0 12 = true)
  refine jar Tryz.func29 rfl rfl rfl (by kernel_rfl) rfl rfl ?_; rintro ⟨hl, -⟩
  have hl := (hl _ (List.mem_cons_of_mem _ (List.mem_cons_self ..))).len
  repeat' (first | (refine jaa (.box 29 _) ?_; refine jbc rfl rfl ?_) | (refine jaa (.assign _) ?_; (refine jac (jal rfl) rfl ?_)) | (refine jaa (.fieldAddr 29 _ 0) ?_; (refine jac (jad (off := 0) rfl (by kernel_rfl)) rfl ?_)) | (refine jaa (.load 3 _) ?_; (refine jac (jae rfl rfl (by kernel_rfl) rfl) rfl ?_)) | (refine jaa (.unOp .not 4 _) ?_; refine jac (jbz rfl) rfl ?_) | (refine jaa (.move _) ?_; (refine jac (jak rfl) rfl ?_)) | (refine jaa (.fieldAddr 29 _ 1) ?_; (refine jac (jad (off := 1) rfl (by kernel_rfl)) rfl ?_)) | (refine jaa (.load 24 _) ?_; (refine jac (jae rfl rfl (by kernel_rfl) rfl) rfl ?_)) | (refine jaa (.call ⟨.builtin .len, _, #[24]⟩) ?_; (refine jac (jba rfl (by kernel_rfl)) rfl ?_)) | (refine jaa (.binOp .gtr 3 _ _ _) ?_; refine jac (jdb rfl rfl) rfl ?_) | (refine jaa (.pick _ _ _) ?_; (refine jac (jby rfl rfl) rfl ?_)) | (refine jaa (.fieldAddr 29 _ 2) ?_; (refine jac (jad (off := 2) rfl (by kernel_rfl)) rfl ?_)) | (refine jaa (.load 27 _) ?_; (refine jac (jae rfl rfl (by kernel_rfl) rfl) rfl ?_)) | (refine jaa (.call ⟨.builtin .len, _, #[27]⟩) ?_; (refine jac (jba rfl (by kernel_rfl)) rfl ?_)) | (refine jaa (.binOp .neq 3 _ _ _) ?_; refine jac (qt_neq rfl rfl) rfl ?_) | (refine jaa (.call ⟨.value (.func 37), _, _⟩) ?_; (apply jam (fid := 37); (· (repeat (first | exact SeA.nil | apply SeA.cons (.c (.d _))))); (· exact within_p _ _ _); (· rfl))) | (refine jaa (.call ⟨.value (.func 48), _, _⟩) ?_; (apply jam (fid := 48); (· (repeat (first | exact SeA.nil | apply SeA.cons (.c (.d _))))); (· exact allWithin_p _ _ _); (· rfl))) | refine jah ?_ | refine jbw rfl rfl rfl rfl ?_ | refine jbg rfl rfl rfl rfl ?_ | refine jct rfl rfl (fun hg => ?_) (fun hg => ?_) | refine jcy rfl rfl (fun hg => ?_) (fun hg => ?_) | refine jaj ?_ | refine jai ?_ | refine jan ?_ | refine jab ?_ | refine jbu rfl ?_ | refine jcm rfl (fun hc => ?_) (fun hc => ?_))
  · (apply jau; apply jaw; (· apply jbe.p; (· (apply GvA.cons; (· exact .tmp _); (· exact GvP.c (.lit _))); exact GvA.nil); (· (decide))))
    have : inB ev 0 12 = false := by simp_all
    simp [sceneB, this]
  · (apply jau; apply jaw; (· apply jbe.p; (· (apply GvA.cons; (· exact .tmp _); (· exact GvP.c (.lit _))); exact GvA.nil); (· (decide))))
    have : ¬ cc.length ≤ 10 := by omega
    simp [sceneB, this]
  · (apply jau; apply jaw; (· apply jbe.p; (· (apply GvA.cons; (· exact .tmp _); (· exact GvP.c (.lit _))); exact GvA.nil); (· (decide))))
    have : ¬ (ss.length : Int) = cc.length := by omega
    simp [sceneB, bitsB, this]
  · (apply jau; apply jaw; (· apply jbe.p; (· (apply GvA.cons; (· exact .tmp _); (· exact GvP.c (.lit _))); exact GvA.nil); (· (decide))))
    have : allB ss 0 1 = false := by assumption
    simp [sceneB, bitsB, this]
  have h1 : inB ev 0 12 = true := by simp_all
  have hev := hev h1
  have h2 : cc.length ≤ 10 := by omega
  have h3 : bitsB ss cc.length = true := by
    have h4 : (ss.length : Int) = cc.length := by omega
    have h5 : allB ss 0 1 = true := by assumption
    simp [bitsB, h4, h5]
  clear hc
  apply jay [1, 31, 32, 33] [1] rfl; (· (repeat (first | exact Pf.nil | apply Pf.cons (.c rfl (.d rfl)) | apply Pf.cons (.c rfl (.lp rfl))))); (· (repeat (first | exact Pb.nil | (apply Pb.cons; (· apply Nb.box rfl; (repeat (first | exact Ncs.nil rfl | (apply Ncs.cons rfl; (· (exact .d rfl))))))))))
  refine jbd [1, 31, 32] [1] (fun k => [(33, iN k)]) (fun _ => []) (fun k => k ≤ cc.length ∧ (cc.take k).all (ctxB ev) = true) (fun k => cc.length - k) (0) ?_ (by (repeat (first | exact trivial | refine ⟨(by (rfl)), ?_⟩))) (by (repeat (exact trivial))) ?_
  · simp
  rintro k ⟨hk, ha⟩
  repeat' (first | (refine jaa (.assign _) ?_; (refine jac (jal rfl) rfl ?_)) | (refine jaa (.fieldAddr 29 _ 0) ?_; (refine jac (jad (off := 0) rfl (by kernel_rfl)) rfl ?_)) | (refine jaa (.load 3 _) ?_; (refine jac (jae rfl rfl (by kernel_rfl) rfl) rfl ?_)) | (refine jaa (.unOp .not 4 _) ?_; refine jac (jbz rfl) rfl ?_) | (refine jaa (.move _) ?_; (refine jac (jak rfl) rfl ?_)) | (refine jaa (.pick _ _ _) ?_; (refine jac (jby rfl rfl) rfl ?_)) | (refine jaa (.load 27 _) ?_; (refine jac (jap rfl (by kernel_rfl) rfl) rfl ?_)) | (refine jaa (.call ⟨.builtin .len, _, #[27]⟩) ?_; (refine jac (jba rfl (by kernel_rfl)) rfl ?_)) | (refine jaa (.binOp .lss 3 _ _ _) ?_; refine jac (jbi rfl rfl) rfl ?_) | (refine jaa (.indexAddr 24 _ _) ?_; (refine jac (jbx rfl rfl (by kernel_rfl) (by (omega)) (by (omega))) rfl ?_)) | (refine jaa (.binOp .eql 3 _ _ _) ?_; refine jac (jcb rfl rfl) rfl ?_) | (refine jaa (.binOp .add 3 _ _ _) ?_; refine jac (jax rfl rfl (by (omega))) rfl ?_) | (refine jaa (.call ⟨.value (.func 52), _, _⟩) ?_; (apply jam (fid := 52); (· (repeat (first | exact SeA.nil | apply SeA.cons (.c (.d _))))); (· exact isSet_p _ _ (by omega) (by omega)); (· rfl))) | refine jah ?_ | refine jbw rfl rfl rfl rfl ?_ | refine jbg rfl rfl rfl rfl ?_ | refine jct rfl rfl (fun hg => ?_) (fun hg => ?_) | refine jaj ?_ | refine jai ?_ | refine jbh ?_ | refine jav rfl ?_ | refine jan ?_ | refine jab ?_ | refine jbu rfl ?_ | refine jbl rfl (fun hc => ?_) (fun hc => ?_) | refine jcm rfl (fun hc => ?_) (fun hc => ?_))
  · have hk2 : k < cc.length := by omega
    (apply jau; apply jaw; (· apply jbe.p; (· (apply GvA.cons; (· exact .tmp _); (· exact GvP.c (.lit _))); exact GvA.nil); (· (decide))))
    have h9 : ctxB ev cc[k] = false := by rw [← jbv hk2]; simp [ctxB]; omega
    simp only [sceneB, all_f (p := ctxB ev) hk2 h9]; simp
  · have hk2 : k < cc.length := by omega
    (apply jau; apply jaw; (· apply jbe.p; (· (apply GvA.cons; (· exact .tmp _); (· exact GvP.c (.lit _))); exact GvA.nil); (· (decide))))
    have h9 : ctxB ev cc[k] = false := by rw [← jbv hk2]; simp [ctxB, hc]
    simp only [sceneB, all_f (p := ctxB ev) hk2 h9]; simp
  · have hk2 : k < cc.length := by omega
    have h9 : ctxB ev cc[k] = true := by rw [← jbv hk2]; simp [ctxB, hc]; omega
    refine jbf ?_; refine ⟨k + 1, ?_, ?_, jcf rfl (by (repeat (first | exact trivial | refine ⟨(by (rfl)), ?_⟩))) (by (repeat (first | exact trivial | refine ⟨rfl, ?_⟩))) (by (repeat (exact trivial))) (by (repeat (first | exact trivial | refine ⟨.inr rfl, ?_⟩)))⟩
    · exact ⟨by omega, by rw [take_succ_all _ _ _ hk2, ha, h9]; rfl⟩
    · omega
  · have : k = cc.length := by omega
    subst this
    rw [List.take_length] at ha
    (apply jau; apply jaw; (· apply jbe.p; (· (apply GvA.cons; (· exact .tmp _); (· exact GvP.c (.lit _))); exact GvA.nil); (· (decide))))
    simp [sceneB, h1, h2, h3, ha]

end Go.Proofs.YtpflmajlafpmcaaGreat

namespace Go.Proofs.YtpflmajlafpmcaaGreat
open Go.RowKit
/-! '&', '|', '^', '<<', '>>' on int at numbers of at least 0 -/
theorem ofInt_nat (a : Nat) : BitVec.ofInt 64 (a : Int) = BitVec.ofNat 64 a := by simp
end Go.Proofs.YtpflmajlafpmcaaGreat

namespace Go.Proofs.YtpflmajlafpmcaaGreat
open Go.RowKit
set_option linter.unusedSectionVars false
variable [Glb]
set_option maxRecDepth 10000
set_option maxHeartbeats 4000000
abbrev cW (l : List Nat) : List D := l.map fun n : Nat => dU (n : Int)
abbrev eW (l : List Nat) : D := .sl 1 l.length (cW l)
section
variable {P : Program} {st : St} {dst : Option Tmp} {ty : TypeId} {pos : String} {af : Array Edge} {x y : Operand}
theorem qt_idxW {T : TypeId} {l : List Nat} {k : IntKind} {i : Int} (hx : st.ev x = .c (.d (eW l))) (hy : st.ev y = .c (.d (.lit (.int k i)))) (ht : tSl P T 1 = true) (h0 : 0 ≤ i) (h1 : i < l.length) : Qt P ⟨dst, .indexAddr T x y, ty, pos, af, none⟩ st (.c (.d (.pt [dU ((atZ l i : Nat) : Int)]))) :=
  qt_idx hx hy ht h0 h1 (map_at (atZ_some h0 h1))
theorem wrapW {n : Nat} (h : n < 18446744073709551616) : IntKind.u64.wrap (n : Int) = n := wrapU64 ⟨by omega, by omega⟩
theorem borU_nat (a b : Nat) (ha : a < 4096) (hb : b < 4096) : bits .or .u64 (a : Int) (b : Int) = ((a ||| b : Nat) : Int) := by
  have e : bits .or .u64 (a : Int) (b : Int) = IntKind.u64.wrap (((BitVec.ofInt 64 (a : Int) ||| BitVec.ofInt 64 (b : Int)).toNat : Nat) : Int) := rfl
  have o := or12 ha hb
  rw [e, ofInt_nat, ofInt_nat, BitVec.toNat_or, BitVec.toNat_ofNat, BitVec.toNat_ofNat, Nat.mod_eq_of_lt (by omega), Nat.mod_eq_of_lt (by omega)]
  exact wrapW (by omega)
theorem bandU_nat (a b : Nat) (ha : a < 4096) (hb : b < 4096) : bits .and .u64 (a : Int) (b : Int) = ((a &&& b : Nat) : Int) := by
  have e : bits .and .u64 (a : Int) (b : Int) = IntKind.u64.wrap (((BitVec.ofInt 64 (a : Int) &&& BitVec.ofInt 64 (b : Int)).toNat : Nat) : Int) := rfl
  have o : a &&& b ≤ a := Nat.and_le_left
  rw [e, ofInt_nat, ofInt_nat, BitVec.toNat_and, BitVec.toNat_ofNat, BitVec.toNat_ofNat, Nat.mod_eq_of_lt (by omega), Nat.mod_eq_of_lt (by omega)]
  exact wrapW (by omega)
theorem qt_orW {T T' : TypeId} {m n : Nat} (hx : st.ev x = .c (.d (dU (m : Int)))) (hy : st.ev y = .c (.d (dU (n : Int)))) (hm : m < 4096) (hn : n < 4096) : Qt P ⟨dst, .binOp .or T x y T', ty, pos, af, none⟩ st (.c (.d (dU ((m ||| n : Nat) : Int)))) := by
  rw [← borU_nat m n hm hn]; exact qt_bits hx hy (by simp)
theorem qt_andW {T T' : TypeId} {m n : Nat} (hx : st.ev x = .c (.d (dU (m : Int)))) (hy : st.ev y = .c (.d (dU (n : Int)))) (hm : m < 4096) (hn : n < 4096) : Qt P ⟨dst, .binOp .and T x y T', ty, pos, af, none⟩ st (.c (.d (dU ((m &&& n : Nat) : Int)))) := by
  rw [← bandU_nat m n hm hn]; exact qt_bits hx hy (by simp)
theorem qt_shlW {T T' : TypeId} {m : Int} {c : Nat} {n : Int} (M : Nat) (hx : st.ev x = .c (.d (dU m))) (hM : m = (M : Int)) (hy : st.ev y = .c (.d (.lit (.int .i64 n)))) (hn : n = (c : Int)) (hc : c < 12) (hm : M ≤ 1) : Qt P ⟨dst, .binOp .shl T x y T', ty, pos, af, none⟩ st (.c (.d (dU ((M * 2 ^ c : Nat) : Int)))) := by
  subst hM hn
  have e : IntKind.u64.wrap ((M : Int) * 2 ^ (min (c : Int).toNat IntKind.u64.bits)) = ((M * 2 ^ c : Nat) : Int) := by
    have : min (c : Int).toNat IntKind.u64.bits = c := by
      rw [Int.toNat_natCast]
      exact Nat.min_eq_left (by show c ≤ 64; omega)
    rw [this]
    have p := pow12 hc
    have q : M * 2 ^ c < 4096 := by
      rcases (by omega : M = 0 ∨ M = 1) with rfl | rfl
      · simp
      · simpa using p
    rw [show (M : Int) * 2 ^ c = ((M * 2 ^ c : Nat) : Int) by simp]
    exact wrapW (by omega)
  rw [← e]
  exact qt_shl hx hy (by omega)
end
theorem setOf_p (ev : Int) (nu : List Int) (h : bitsB nu ev = true) (he : ev ≤ 12) : PC Tryz.prog 33 [.c (eI nu)] (.p (.c (dU ((setK nu nu.length : Nat) : Int)))) := by
  have hl := jbk h
  have hb : ∀ j : Nat, j < nu.length → 0 ≤ atZ nu (j : Int) ∧ atZ nu (j : Int) ≤ 1 := fun j hj => jck h (by omega) (by omega)
  refine jar Tryz.func33 rfl rfl rfl (by kernel_rfl) rfl rfl ?_; intro _
  repeat' (first | (refine jaa (.assign _) ?_; (refine jac (jal rfl) rfl ?_)) | (refine jaa (.move _) ?_; (refine jac (jak rfl) rfl ?_)) | (refine jaa (.call ⟨.builtin .len, _, #[27]⟩) ?_; (refine jac (jba rfl (by kernel_rfl)) rfl ?_)) | refine jah ?_ | refine jaj ?_ | refine jai ?_ | refine jab ?_)
  apply jay [3, 6, 7, 8] [] rfl; (· (repeat (first | exact Pf.nil | apply Pf.cons (.c rfl (.d rfl))))); (· (repeat (exact Pb.nil)))
  refine jbd [6, 7] [] (fun k => [(8, iN k), (3, .c (.d (dU ((setK nu k : Nat) : Int))))]) (fun _ => []) (fun k => k ≤ nu.length) (fun k => nu.length - k) (0) ?_ (by (repeat (first | exact trivial | refine ⟨(by (rfl)), ?_⟩))) (by (repeat (exact trivial))) ?_
  · omega
  intro k hk
  by_cases hk2 : k < nu.length
  · have b := hb k hk2
    have s := setK_lt (nu := nu) (k := k) (by omega) fun j hj => hb j (by omega)
    have p := pow12 (e := k) (by omega)
    have q : (atZ nu (k : Int)).toNat * 2 ^ k < 4096 := by
      rcases (by omega : atZ nu (k : Int) = 0 ∨ atZ nu (k : Int) = 1) with e | e <;> rw [e]
      · simp
      · simpa using p
    repeat' (first | (refine jaa (.assign _) ?_; (refine jac (jal rfl) rfl ?_)) | (refine jaa (.move _) ?_; (refine jac (jak rfl) rfl ?_)) | (refine jaa (.binOp .lss 3 _ _ _) ?_; (refine jac (jbi rfl rfl) rfl ?_)) | (refine jaa (.indexAddr 27 _ _) ?_; (refine jac (jcc rfl rfl (by kernel_rfl) (by (omega)) (by (omega))) rfl ?_)) | (refine jaa (.load 3 _) ?_; (refine jac (jap rfl (by kernel_rfl) rfl) rfl ?_)) | (refine jaa (.convert 3 69 _) ?_; (refine jac (qt_convI (k' := .u64) rfl (by kernel_rfl) (by kernel_rfl) (by (exact wrapU64 (by (omega))))) rfl ?_)) | (refine jaa (.binOp .shl 69 _ _ _) ?_; ((first | refine jac (qt_shlW (c := k) (atZ nu (k : Int)).toNat rfl (by omega) rfl rfl (by omega) (by omega)) rfl ?_ | refine jac (qt_orW rfl rfl s q) rfl ?_))) | (refine jaa (.binOp .or 69 _ _ _) ?_; ((first | refine jac (qt_shlW (c := k) (atZ nu (k : Int)).toNat rfl (by omega) rfl rfl (by omega) (by omega)) rfl ?_ | refine jac (qt_orW rfl rfl s q) rfl ?_))) | (refine jaa (.binOp .add 3 _ _ _) ?_; (refine jac (jax rfl rfl (by (omega))) rfl ?_)) | refine jah ?_ | refine jaj ?_ | refine jai ?_ | refine jbh ?_ | refine jav rfl ?_ | refine jan ?_ | refine jab ?_ | refine jbl rfl (fun hc => ?_) (fun hc => ?_))
    all_goals first | (exfalso; omega) | skip
    refine jbf ?_; refine ⟨k + 1, ?_, ?_, jcf rfl (by (repeat (first | exact trivial | refine ⟨(by (rfl)), ?_⟩))) (by (repeat (first | exact trivial | refine ⟨rfl, ?_⟩))) (by (repeat (exact trivial))) (by (repeat (exact trivial)))⟩
    · omega
    · omega
  · have e : k = nu.length := by omega
    subst e
    repeat' (first | (refine jaa (.assign _) ?_; (refine jac (jal rfl) rfl ?_)) | (refine jaa (.move _) ?_; (refine jac (jak rfl) rfl ?_)) | (refine jaa (.binOp .lss 3 _ _ _) ?_; refine jac (jbi rfl rfl) rfl ?_) | (refine jaa (.indexAddr 27 _ _) ?_; (refine jac (jcc rfl rfl (by kernel_rfl) (by (omega)) (by (omega))) rfl ?_)) | (refine jaa (.load 3 _) ?_; (refine jac (jap rfl (by kernel_rfl) rfl) rfl ?_)) | (refine jaa (.convert 3 69 _) ?_; (refine jac (qt_convI (k' := .u64) rfl (by kernel_rfl) (by kernel_rfl) (by (exact wrapU64 (by (omega))))) rfl ?_)) | (refine jaa (.binOp .shl 69 _ _ _) ?_; refine jac (qt_shl rfl rfl (by omega)) rfl ?_) | (refine jaa (.binOp .or 69 _ _ _) ?_; refine jac (qt_bits rfl rfl (by simp)) rfl ?_) | (refine jaa (.binOp .add 3 _ _ _) ?_; refine jac (jax rfl rfl (by (omega))) rfl ?_) | refine jah ?_ | refine jaj ?_ | refine jai ?_ | refine jbh ?_ | refine jav rfl ?_ | refine jan ?_ | refine jab ?_ | refine jbl rfl (fun hc => ?_) (fun hc => ?_))
    all_goals first | (exfalso; omega) | skip
    all_goals (apply jau; apply jaw; (· apply jbe.p; (· (apply GvA.cons; (· exact .tmp _); (· exact GvP.c (.lit _))); exact GvA.nil); (· (decide))))
    all_goals rfl
theorem all4096 {P : Nat → Prop} (h : ∀ a, a < 64 → ∀ b, b < 64 → P (64 * a + b)) : ∀ n, n < 4096 → P n := fun n hn => by
  have := h (n / 64) (by omega) (n % 64) (by omega)
  rwa [show 64 * (n / 64) + n % 64 = n by omega] at this
theorem OnesCount64B_p (n : Nat) (h : n < 4096) : PC Tryz.prog 74 [.c (dU n)] (.p (.c (dI ((pop n : Nat) : Int)))) := by
  refine jar Tryz.func74 rfl rfl rfl (by kernel_rfl) rfl rfl ?_; rintro ⟨-, -⟩
  repeat' (first | (refine jaa (.assign _) ?_; (refine jac (jal rfl) rfl ?_)) | (refine jaa (.move _) ?_; (refine jac (jak rfl) rfl ?_)) | (refine jaa (.binOp .shr 54 _ _ _) ?_; (first | refine jac (qt_shrC (c := 2) rfl rfl (by decide)) rfl ?_ | refine jac (qt_shrC (c := 4) rfl rfl (by decide)) rfl ?_ | refine jac (qt_shrC (c := 16) rfl rfl (by decide)) rfl ?_ | refine jac (qt_shrC (c := 256) rfl rfl (by decide)) rfl ?_ | refine jac (qt_shrC (c := 65536) rfl rfl (by decide)) rfl ?_ | refine jac (qt_shrC (c := 4294967296) rfl rfl (by decide)) rfl ?_)) | (refine jaa (.binOp .and 54 _ _ _) ?_; refine jac (qt_bits rfl rfl (by simp)) rfl ?_) | (refine jaa (.binOp .add 54 _ _ _) ?_; refine jac (qt_add rfl rfl) rfl ?_) | (refine jaa (.convert 54 3 _) ?_; (refine jac (qt_conv (k' := .i64) rfl (by kernel_rfl) (by kernel_rfl)) rfl ?_)) | (refine jaa (.binOp .and 3 _ _ _) ?_; refine jac (qt_andM 7 (c := 128) rfl rfl (by decide)) rfl ?_) | refine jah ?_ | refine jaj ?_ | refine jab ?_)
  (apply jau; apply jaw; (· apply jbe.p; (· (apply GvA.cons; (· exact .tmp _); (· exact GvP.c (.lit _))); exact GvA.nil); (· (decide))))
  refine congrArg (fun z => Res.p (RP.c (D.lit (Value.int IntKind.i64 z)))) ?_
  revert h
  revert n
  refine all4096 ?_
  decide +kernel
theorem OnesCountB_p (n : Nat) (h : n < 4096) : PC Tryz.prog 56 [.c (dU n)] (.p (.c (dI ((pop n : Nat) : Int)))) := by
  refine jar Tryz.func56 rfl rfl rfl (by kernel_rfl) rfl rfl ?_; intro _
  repeat' (first | (refine jaa (.assign _) ?_; (refine jac (jal rfl) rfl ?_)) | (refine jaa (.move _) ?_; (refine jac (jak rfl) rfl ?_)) | (refine jaa (.call ⟨.value (.func 74), _, _⟩) ?_; (apply jam (fid := 74); (· (repeat (first | exact SeA.nil | apply SeA.cons (.c (.d _))))); (· exact OnesCount64B_p n h); (· rfl))) | refine jah ?_ | refine jaj ?_ | refine jan ?_ | refine jab ?_ | refine jbp rfl ?_)
  all_goals (apply jau; apply jaw; (· apply jbe.p; (· (apply GvA.cons; (· exact .tmp _); (· exact GvP.c (.lit _))); exact GvA.nil); (· (decide))))
  all_goals rfl
def masksL (cc : List (List Int)) (k : Nat) : List Nat := (List.range k).map fun i : Nat => maskK (atZ cc (i : Int)) (atZ cc (i : Int)).length
theorem masksL_succ (cc : List (List Int)) (k : Nat) : masksL cc (k + 1) = masksL cc k ++ [maskK (atZ cc (k : Int)) (atZ cc (k : Int)).length] := by simp [masksL, List.range_succ]
@[simp] theorem masksL_len (cc : List (List Int)) (k : Nat) : (masksL cc k).length = k := by simp [masksL]
theorem masksL_at (cc : List (List Int)) {k i : Nat} (h : i < k) : atZ (masksL cc k) (i : Int) = maskK (atZ cc (i : Int)) (atZ cc (i : Int)).length := by
  rw [jbv (by simpa using h)]; simp [masksL]
theorem ctx_bd {ev : Int} {cc : List (List Int)} {ss : List Int} (hs : sceneB ev cc ss = true) {i : Nat} (hi : i < cc.length) : ∀ j : Nat, j < (atZ cc (i : Int)).length → 0 ≤ atZ (atZ cc (i : Int)) (j : Int) ∧ atZ (atZ cc (i : Int)) (j : Int) < 12 := fun j hj => by
  have s := jbo hs
  have c : ctxB ev (atZ cc (i : Int)) = true := by rw [jbv hi]; exact s.ctx i hi
  simp only [ctxB, Bool.and_eq_true] at c
  have := rise_lt c.2 j hj
  have := s.e12
  omega
theorem masks_p (ev : Int) (cc : List (List Int)) (ss : List Int) (hs : sceneB ev cc ss = true) : PC Tryz.prog 55 [.g [dI ev, eII cc, eI ss]] (.p (.c (eW (masksL cc cc.length)))) := by
  have c10 := (jbo hs).c10
  refine jar Tryz.func55 rfl rfl rfl (by kernel_rfl) rfl rfl ?_; intro _
  repeat' (first | (refine jaa (.box 29 _) ?_; refine jbc rfl rfl ?_) | (refine jaa (.assign _) ?_; (refine jac (jal rfl) rfl ?_)) | (refine jaa (.buildSlice 82 0 _) ?_; (apply jao (sz := 1) (by_ := 8); (· kernel_rfl); (· decide); (· (repeat (exact GvS.nil _))); (· (decide)); (· rfl); (· rfl); (· rfl))) | (refine jaa (.fieldAddr 29 _ 1) ?_; (refine jac (jad (off := 1) rfl (by kernel_rfl)) rfl ?_)) | (refine jaa (.load 24 _) ?_; (refine jac (jae rfl rfl (by kernel_rfl) rfl) rfl ?_)) | (refine jaa (.call ⟨.builtin .len, _, #[24]⟩) ?_; (refine jac (jba rfl (by kernel_rfl)) rfl ?_)) | (refine jaa (.move _) ?_; (refine jac (jak rfl) rfl ?_)) | refine jah ?_ | refine jaj ?_ | refine jai ?_ | refine jab ?_)
  apply jay [3, 11, 12, 13] [1, 9, 30, 31] rfl; (· (repeat (first | exact Pf.nil | apply Pf.cons (.c rfl (.d rfl)) | apply Pf.cons (.c rfl (.ls rfl))))); (· (repeat (first | exact Pb.nil | apply Pb.cons (.row rfl) | (apply Pb.cons; (· apply Nb.box rfl; (repeat (first | exact Ncs.nil rfl | (apply Ncs.cons rfl; (· (exact .d rfl))))))) | apply Pb.skip)))
  refine jbd [11, 12] [1, 30, 31] (fun i => [(13, iN i), (3, .c (.ls 9 1 0 i))]) (fun i => [(9, .row 1 (cW (masksL cc i)))]) (fun i => i ≤ cc.length) (fun i => cc.length - i) (0) ?_ (by (repeat (first | exact trivial | refine ⟨(by (rfl)), ?_⟩))) (by (repeat (first | exact trivial | refine ⟨(by ((refine jbq rfl ?_; simp  [masksL]; done))), ?_⟩))) ?_
  · omega
  intro i hi
  by_cases hi2 : i < cc.length
  · have cb := ctx_bd hs hi2
    have cl : (atZ cc (i : Int)).length ≤ 1000 := by
      have c : ctxB ev (atZ cc (i : Int)) = true := by rw [jbv hi2]; exact (jbo hs).ctx i hi2
      exact (ctxB_len (by have := (jbo hs).e12; omega) c).1
    repeat' (first | (refine jaa (.assign _) ?_; (refine jac (jal rfl) rfl ?_)) | (refine jaa (.move _) ?_; (refine jac (jak rfl) rfl ?_)) | (refine jaa (.binOp .lss 3 _ _ _) ?_; refine jac (jbi rfl rfl) rfl ?_) | (refine jaa (.indexAddr 24 _ _) ?_; (refine jac (jbx rfl rfl (by kernel_rfl) (by (omega)) (by (omega))) rfl ?_)) | (refine jaa (.load 27 _) ?_; (refine jac (jap rfl (by kernel_rfl) rfl) rfl ?_)) | (refine jaa (.call ⟨.builtin .len, _, #[27]⟩) ?_; (refine jac (jba rfl (by kernel_rfl)) rfl ?_)) | refine jah ?_ | refine jaj ?_ | refine jai ?_ | refine jav rfl ?_ | refine jan ?_ | refine jab ?_ | refine jbl rfl (fun hc => ?_) (fun hc => ?_))
    all_goals first | (exfalso; omega) | skip
    apply jay [3, 6, 11, 12, 13, 17, 18, 19] [1, 9, 30, 31] rfl; (· (repeat (first | exact Pf.nil | apply Pf.cons (.c rfl (.d rfl)) | apply Pf.cons (.c rfl (.ls rfl))))); (· (repeat (first | exact Pb.nil | apply Pb.cons (.row rfl) | (apply Pb.cons; (· apply Nb.box rfl; (repeat (first | exact Ncs.nil rfl | (apply Ncs.cons rfl; (· (exact .d rfl))))))) | apply Pb.skip)))
    refine jbd [3, 11, 12, 13, 17, 18] [1, 9, 30, 31] (fun j => [(19, iN j), (6, .c (.d (dU ((maskK (atZ cc (i : Int)) j : Nat) : Int))))]) (fun _ => []) (fun j => j ≤ (atZ cc (i : Int)).length) (fun j => (atZ cc (i : Int)).length - j) (0) ?_ (by (repeat (first | exact trivial | refine ⟨(by (rfl)), ?_⟩))) (by (repeat (exact trivial))) ?_
    · omega
    intro j hj
    by_cases hj2 : j < (atZ cc (i : Int)).length
    · have b := cb j hj2
      have s := maskK_lt (l := atZ cc (i : Int)) (k := j) fun t ht => cb t (by omega)
      have q : 1 * 2 ^ (atZ (atZ cc (i : Int)) (j : Int)).toNat < 4096 := by rw [Nat.one_mul]; exact pow12 (by omega)
      repeat' (first | (refine jaa (.assign _) ?_; (refine jac (jal rfl) rfl ?_)) | (refine jaa (.move _) ?_; (refine jac (jak rfl) rfl ?_)) | (refine jaa (.binOp .lss 3 _ _ _) ?_; (refine jac (jbi rfl rfl) rfl ?_)) | (refine jaa (.indexAddr 27 _ _) ?_; (refine jac (jcc rfl rfl (by kernel_rfl) (by (omega)) (by (omega))) rfl ?_)) | (refine jaa (.load 3 _) ?_; (refine jac (jap rfl (by kernel_rfl) rfl) rfl ?_)) | (refine jaa (.binOp .shl 69 _ _ _) ?_; ((first | refine jac (qt_shlW (c := (atZ (atZ cc (i : Int)) (j : Int)).toNat) 1 rfl rfl rfl (by omega) (by omega) (by omega)) rfl ?_ | refine jac (qt_orW rfl rfl s q) rfl ?_))) | (refine jaa (.binOp .or 69 _ _ _) ?_; ((first | refine jac (qt_shlW (c := (atZ (atZ cc (i : Int)) (j : Int)).toNat) 1 rfl rfl rfl (by omega) (by omega) (by omega)) rfl ?_ | refine jac (qt_orW rfl rfl s q) rfl ?_))) | (refine jaa (.binOp .add 3 _ _ _) ?_; (refine jac (jax rfl rfl (by (omega))) rfl ?_)) | (refine jaa (.buildSlice 82 1 _) ?_; (apply jao (sz := 1) (by_ := 8); (· kernel_rfl); (· decide); (· (repeat (first | exact GvS.nil _ | apply GvS.c rfl rfl (.lit _) rfl))); (· (decide)); (· rfl); (· rfl); (· rfl))) | (refine jaa (.call ⟨.builtin .append, _, #[82, 82]⟩) ?_; ((apply jbt (sz := 1) (by_ := 8); (· rfl); (· rfl); (· ((simp; done))); (· exact .row _ _ _ _ rfl (by ((simp; done)))); (· (decide)); (· kernel_rfl); (· decide); (· (omega)); (· (omega)); (· rfl); (· rfl); (· rfl)))) | refine jah ?_ | refine jaj ?_ | refine jai ?_ | refine jbh ?_ | refine jav rfl ?_ | refine jan ?_ | refine jab ?_ | refine jbl rfl (fun hc => ?_) (fun hc => ?_))
      all_goals first | (exfalso; omega) | skip
      refine jbf ?_; refine ⟨j + 1, ?_, ?_, jcf rfl (by (repeat (first | exact trivial | refine ⟨(by (first | rfl | (refine int_eq rfl ?_; ((simp  [maskK]; done))))), ?_⟩))) (by (repeat (first | exact trivial | refine ⟨rfl, ?_⟩))) (by (repeat (exact trivial))) (by (repeat (first | exact trivial | refine ⟨.inr rfl, ?_⟩)))⟩
      · omega
      · omega
    · have e : j = (atZ cc (i : Int)).length := by omega
      subst e
      repeat' (first | (refine jaa (.assign _) ?_; (refine jac (jal rfl) rfl ?_)) | (refine jaa (.move _) ?_; (refine jac (jak rfl) rfl ?_)) | (refine jaa (.binOp .lss 3 _ _ _) ?_; refine jac (jbi rfl rfl) rfl ?_) | (refine jaa (.indexAddr 27 _ _) ?_; (refine jac (jcc rfl rfl (by kernel_rfl) (by (omega)) (by (omega))) rfl ?_)) | (refine jaa (.load 3 _) ?_; (refine jac (jap rfl (by kernel_rfl) rfl) rfl ?_)) | (refine jaa (.binOp .shl 69 _ _ _) ?_; refine jac (qt_shl rfl rfl (by omega)) rfl ?_) | (refine jaa (.binOp .or 69 _ _ _) ?_; refine jac (qt_bits rfl rfl (by simp)) rfl ?_) | (refine jaa (.binOp .add 3 _ _ _) ?_; refine jac (jax rfl rfl (by (omega))) rfl ?_) | (refine jaa (.buildSlice 82 1 _) ?_; (apply jao (sz := 1) (by_ := 8); (· kernel_rfl); (· decide); (· (repeat (first | exact GvS.nil _ | apply GvS.c rfl rfl (.lit _) rfl))); (· (decide)); (· rfl); (· rfl); (· rfl))) | (refine jaa (.call ⟨.builtin .append, _, #[82, 82]⟩) ?_; ((apply jbt (sz := 1) (by_ := 8); (· rfl); (· rfl); (· ((simp; done))); (· exact .row _ _ _ _ rfl (by ((simp; done)))); (· (decide)); (· kernel_rfl); (· decide); (· (omega)); (· (omega)); (· rfl); (· rfl); (· rfl)))) | refine jah ?_ | refine jaj ?_ | refine jai ?_ | refine jbh ?_ | refine jav rfl ?_ | refine jan ?_ | refine jab ?_ | refine jbl rfl (fun hc => ?_) (fun hc => ?_))
      all_goals first | (exfalso; omega) | skip
      refine jbf ?_; refine ⟨i + 1, ?_, ?_, jcf rfl (by (repeat (first | exact trivial | refine ⟨(by (rfl)), ?_⟩))) (by (repeat (first | exact trivial | refine ⟨rfl, ?_⟩))) (by (repeat (first | exact trivial | refine ⟨(by ((refine jbq rfl ?_; simp  [masksL_succ]; done))), ?_⟩))) (by (repeat (first | exact trivial | refine ⟨.inr rfl, ?_⟩)))⟩
      · omega
      · omega
  · have e : i = cc.length := by omega
    subst e
    repeat' (first | (refine jaa (.assign _) ?_; (refine jac (jal rfl) rfl ?_)) | (refine jaa (.move _) ?_; (refine jac (jak rfl) rfl ?_)) | (refine jaa (.binOp .lss 3 _ _ _) ?_; refine jac (jbi rfl rfl) rfl ?_) | (refine jaa (.indexAddr 24 _ _) ?_; (refine jac (jbx rfl rfl (by kernel_rfl) (by (omega)) (by (omega))) rfl ?_)) | (refine jaa (.load 27 _) ?_; (refine jac (jap rfl (by kernel_rfl) rfl) rfl ?_)) | (refine jaa (.call ⟨.builtin .len, _, #[27]⟩) ?_; (refine jac (jba rfl (by kernel_rfl)) rfl ?_)) | refine jah ?_ | refine jaj ?_ | refine jai ?_ | refine jav rfl ?_ | refine jan ?_ | refine jab ?_ | refine jbl rfl (fun hc => ?_) (fun hc => ?_))
    all_goals first | (exfalso; omega) | skip
    all_goals (apply jau; apply jaw; (· apply jbe.p; (· (apply GvA.cons; (· exact .tmp _); (· (exact GvP.c (.row _ _ _ _ rfl (by ((simp; done))))))); exact GvA.nil); (· (decide))))
    all_goals simp
theorem kept_p (ev : Int) (cc : List (List Int)) (ss nu : List Int) (hs : sceneB ev cc ss = true) (hn : bitsB nu ev = true) : PC Tryz.prog 32 [.g [dI ev, eII cc, eI ss], .c (dU ((setK nu nu.length : Nat) : Int))] (.p (.c (eI (keptK cc ss nu cc.length)))) := by
  have s := jbo hs
  have c10 := s.c10
  have e12 := s.e12
  have sl := s.sl
  have hl := jbk hn
  have sk := setK_lt (nu := nu) (k := nu.length) (by omega) fun j hj => jck hn (by omega) (by omega)
  have mp := masks_p ev cc ss hs
  have ma : ∀ i : Nat, i < cc.length → atZ (masksL cc cc.length) (i : Int) = maskK (atZ cc (i : Int)) (atZ cc (i : Int)).length := fun i hi => masksL_at cc hi
  have mlen : (masksL cc cc.length).length = cc.length := by simp
  generalize masksL cc cc.length = M at *
  have kb : ∀ i : Nat, i < cc.length → keepB cc ss nu i = decide ((((pop (atZ M (i : Int) &&& setK nu nu.length) : Nat) : Int).tmod 2) = atZ ss (i : Int)) := fun i hi => by rw [ma i hi, Int.tmod_eq_emod_of_nonneg (by omega)]; rfl
  have mb : ∀ i : Nat, i < cc.length → atZ M (i : Int) < 4096 := fun i hi => by rw [ma i hi]; exact maskK_lt (ctx_bd hs hi)
  clear ma
  generalize setK nu nu.length = SK0 at *
  refine jar Tryz.func32 rfl rfl rfl (by kernel_rfl) rfl rfl ?_; intro _
  repeat' (first | (refine jaa (.box 29 _) ?_; refine jbc rfl rfl ?_) | (refine jaa (.assign _) ?_; (refine jac (jal rfl) rfl ?_)) | (refine jaa (.buildSlice 27 0 _) ?_; (apply jao (sz := 1) (by_ := 8); (· kernel_rfl); (· decide); (· (repeat (exact GvS.nil _))); (· (decide)); (· rfl); (· rfl); (· rfl))) | (refine jaa (.load 29 _) ?_; (refine jac (jaf rfl rfl (by kernel_rfl : tAgg _ 29 3 = true) rfl) rfl ?_)) | (refine jaa (.call ⟨.builtin .len, _, #[82]⟩) ?_; (refine jac (jba rfl (by kernel_rfl)) rfl ?_)) | (refine jaa (.move _) ?_; (refine jac (jak rfl) rfl ?_)) | (refine jaa (.call ⟨.value (.func 55), _, _⟩) ?_; (apply jam (fid := 55); (· (repeat (first | exact SeA.nil | (apply SeA.cons; (· (apply SeP.g; (repeat (first | exact SeL.nil | apply SeL.cons (.d _))))))))); (· exact mp); (· rfl))) | refine jah ?_ | refine jaj ?_ | refine jai ?_ | refine jab ?_)
  apply jay [1, 2, 5, 10, 11, 12] [2, 8, 10, 30, 31] rfl; (· (repeat (first | exact Pf.nil | apply Pf.cons (.c rfl (.d rfl)) | apply Pf.cons (.c rfl (.ls rfl)) | apply Pf.cons (.c rfl (.lp rfl))))); (· (repeat (first | exact Pb.nil | apply Pb.cons (.row rfl) | (apply Pb.cons; (· apply Nb.box rfl; (repeat (first | exact Ncs.nil rfl | (apply Ncs.cons rfl; (· (exact .d rfl))))))) | apply Pb.skip)))
  refine jbd [1, 2, 10, 11] [2, 10, 30, 31] (fun i => [(12, iN i), (5, .c (.ls 8 1 0 (keptK cc ss nu i).length))]) (fun i => [(8, .row 1 (cI (keptK cc ss nu i)))]) (fun i => i ≤ cc.length) (fun i => cc.length - i) (0) ?_ (by (repeat (first | exact trivial | refine ⟨(by (rfl)), ?_⟩))) (by (repeat (first | exact trivial | refine ⟨(by ((refine jbq rfl ?_; simp  [keptK]; done))), ?_⟩))) ?_
  · omega
  intro i hi
  by_cases hi2 : i < cc.length
  · have b := mb i hi2
    have kq := kb i hi2
    have kl := kept_len cc ss nu i
    have ab : atZ M (i : Int) &&& SK0 < 4096 := Nat.lt_of_le_of_lt Nat.and_le_left b
    have oc := OnesCountB_p _ ab
    repeat' (first | (refine jaa (.assign _) ?_; (refine jac (jal rfl) rfl ?_)) | (refine jaa (.move _) ?_; (refine jac (jak rfl) rfl ?_)) | (refine jaa (.binOp .lss 3 _ _ _) ?_; (refine jac (jbi rfl rfl) rfl ?_)) | (refine jaa (.indexAddr 82 _ _) ?_; ((refine jac (qt_idxW rfl rfl (by kernel_rfl) (by omega) (by omega)) rfl ?_))) | (refine jaa (.load 69 _) ?_; (refine jac (jap rfl (by kernel_rfl) rfl) rfl ?_)) | (refine jaa (.binOp .and 69 _ _ _) ?_; ((refine jac (qt_andW rfl rfl b sk) rfl ?_))) | (refine jaa (.binOp .rem 3 _ _ _) ?_; (refine jac (qt_rem rfl rfl (by omega)) rfl ?_)) | (refine jaa (.fieldAddr 29 _ 2) ?_; (refine jac (jad (off := 2) rfl (by kernel_rfl)) rfl ?_)) | (refine jaa (.load 27 _) ?_; (refine jac (jae rfl rfl (by kernel_rfl) rfl) rfl ?_)) | (refine jaa (.indexAddr 27 _ _) ?_; (refine jac (jcc rfl rfl (by kernel_rfl) (by (omega)) (by (omega))) rfl ?_)) | (refine jaa (.load 3 _) ?_; (refine jac (jap rfl (by kernel_rfl) rfl) rfl ?_)) | (refine jaa (.binOp .eql 3 _ _ _) ?_; (refine jac (jcb rfl rfl) rfl ?_)) | (refine jaa (.buildSlice 27 1 _) ?_; (apply jao (sz := 1) (by_ := 8); (· kernel_rfl); (· decide); (· (repeat (first | exact GvS.nil _ | apply GvS.c rfl rfl (.lit _) rfl))); (· (decide)); (· rfl); (· rfl); (· rfl))) | (refine jaa (.call ⟨.builtin .append, _, #[27, 27]⟩) ?_; ((apply jbt (sz := 1) (by_ := 8); (· rfl); (· rfl); (· ((simp; done))); (· exact .row _ _ _ _ rfl (by ((simp; done)))); (· (decide)); (· kernel_rfl); (· decide); (· (omega)); (· (omega)); (· rfl); (· rfl); (· rfl)))) | (refine jaa (.binOp .add 3 _ _ _) ?_; (refine jac (jax rfl rfl (by (omega))) rfl ?_)) | (refine jaa (.call ⟨.value (.func 56), _, _⟩) ?_; (apply jam (fid := 56); (· (repeat (first | exact SeA.nil | apply SeA.cons (.c (.d _))))); (· exact oc); (· rfl))) | refine jah ?_ | refine jaj ?_ | refine jai ?_ | refine jbh ?_ | refine jav rfl ?_ | refine jan ?_ | refine jab ?_ | refine jat 5 (fun _ => false) (.step 0 true (.step 1 true (.step 2 true (.step 5 true (.step 6 true (.step 7 true (.step 8 true (.step 9 true (.step 3 false (.step 4 true (.step 10 true .nil))))))))))) [(0, 2047, 2047, true), (0, 2047, 2047, true), (3, 2044, 2047, true), (4, 2043, 2047, false), (8, 2039, 2047, true), (0, 2047, 2047, true), (32, 2015, 2047, false), (0, 2047, 2047, true), (192, 1855, 2047, true), (256, 1791, 2047, false), (528, 1519, 2047, true)] (by kernel_rfl) (by kernel_rfl) ?_ | refine jbl rfl (fun hc => ?_) (fun hc => ?_))
    all_goals first | (exfalso; omega) | skip
    all_goals
      by_cases hz : ((pop (atZ M (i : Int) &&& SK0) : Nat) : Int).tmod 2 = atZ ss (i : Int)
      · have e : keptK cc ss nu (i + 1) = keptK cc ss nu i ++ [(i : Int)] := by rw [keptK_succ, if_pos (by rw [kq]; simpa using hz)]
        first | contradiction | skip
        all_goals
          refine jbf ?_; refine ⟨i + 1, ?_, ?_, jcf rfl (by (repeat (first | exact trivial | refine ⟨(by (first | rfl | (refine ls_eq rfl ?_; ((simp  [e]; done))))), ?_⟩))) (by (repeat (first | exact trivial | refine ⟨rfl, ?_⟩))) (by (repeat (first | exact trivial | refine ⟨(by ((refine jbq rfl ?_; simp  [e]; done))), ?_⟩))) (by (repeat (first | exact trivial | refine ⟨.inr rfl, ?_⟩)))⟩
          · omega
          · omega
      · have e : keptK cc ss nu (i + 1) = keptK cc ss nu i := by rw [keptK_succ, if_neg (by rw [kq]; simpa using hz)]
        first | contradiction | skip
        all_goals
          refine jbf ?_; refine ⟨i + 1, ?_, ?_, jcf rfl (by (repeat (first | exact trivial | refine ⟨(by (first | rfl | (refine ls_eq rfl ?_; ((simp  [e]; done))))), ?_⟩))) (by (repeat (first | exact trivial | refine ⟨rfl, ?_⟩))) (by (repeat (first | exact trivial | refine ⟨(by ((refine jbq rfl ?_; simp  [e]; done))), ?_⟩))) (by (repeat (first | exact trivial | refine ⟨.inr rfl, ?_⟩)))⟩
          · omega
          · omega
  · have e : i = cc.length := by omega
    subst e
    repeat' (first | (refine jaa (.assign _) ?_; (refine jac (jal rfl) rfl ?_)) | (refine jaa (.move _) ?_; (refine jac (jak rfl) rfl ?_)) | (refine jaa (.binOp .lss 3 _ _ _) ?_; refine jac (jbi rfl rfl) rfl ?_) | (refine jaa (.indexAddr 82 _ _) ?_; (refine jac (qt_idx rfl rfl (by kernel_rfl : tSl _ 82 1 = true) (by (omega)) (by (omega)) rfl) rfl ?_)) | refine jah ?_ | refine jaj ?_ | refine jai ?_ | refine jav rfl ?_ | refine jan ?_ | refine jab ?_ | refine jbl rfl (fun hc => ?_) (fun hc => ?_))
    all_goals first | (exfalso; omega) | skip
    all_goals (apply jau; apply jaw; (· apply jbe.p; (· (apply GvA.cons; (· exact .tmp _); (· (exact GvP.c (.row _ _ _ _ rfl (by ((simp; done))))))); exact GvA.nil); (· (decide))))
    all_goals rfl
theorem KeptBy_p (ev : Int) (cc : List (List Int)) (ss nu : List Int) (hs : sceneB ev cc ss = true) (hn : bitsB nu ev = true) : PC Tryz.prog 14 [.g [dI ev, eII cc, eI ss], .c (eI nu)] (.t [.c (eI (keptK cc ss nu cc.length)), .c (dB true)]) := by
  have q1 := IsScene_p ev cc ss
  have q2 := isAssignment_p ev cc ss nu
  rw [hs] at q1
  rw [hn] at q2
  have q3 := setOf_p ev nu hn (jbo hs).e12
  have q4 := kept_p ev cc ss nu hs hn
  generalize keptK cc ss nu cc.length = L at *
  generalize setK nu nu.length = SK0 at *
  refine jar Tryz.func14 rfl rfl rfl (by kernel_rfl) rfl rfl ?_; intro _
  repeat' (first | (refine jaa (.box 29 _) ?_; refine jbc rfl rfl ?_) | (refine jaa (.assign _) ?_; (refine jac (jal rfl) rfl ?_)) | (refine jaa (.load 29 _) ?_; (refine jac (jaf rfl rfl (by kernel_rfl : tAgg _ 29 3 = true) rfl) rfl ?_)) | (refine jaa (.unOp .not 4 _) ?_; refine jac (jbz rfl) rfl ?_) | (refine jaa (.move _) ?_; (refine jac (jak rfl) rfl ?_)) | (refine jaa (.pick _ _ _) ?_; (refine jac (jby rfl rfl) rfl ?_)) | (refine jaa (.call ⟨.value (.func 29), _, _⟩) ?_; ((apply jam (fid := 29); (· (repeat (first | exact SeA.nil | (apply SeA.cons; (· (apply SeP.g; (repeat (first | exact SeL.nil | apply SeL.cons (.d _))))))))); (· exact q1); (· rfl)))) | (refine jaa (.call ⟨.value (.func 31), _, _⟩) ?_; ((apply jam (fid := 31); (· (repeat (first | exact SeA.nil | apply SeA.cons (.c (.d _)) | (apply SeA.cons; (· (apply SeP.g; (repeat (first | exact SeL.nil | apply SeL.cons (.d _))))))))); (· exact q2); (· rfl)))) | (refine jaa (.call ⟨.value (.func 33), _, _⟩) ?_; ((apply jam (fid := 33); (· (repeat (first | exact SeA.nil | apply SeA.cons (.c (.d _))))); (· exact q3); (· rfl)))) | (refine jaa (.call ⟨.value (.func 32), _, _⟩) ?_; ((apply jaz (fid := 32); (· (repeat (first | exact SeA.nil | apply SeA.cons (.c (.d _)) | (apply SeA.cons; (· (apply SeP.g; (repeat (first | exact SeL.nil | apply SeL.cons (.d _))))))))); (· exact q4); (· rfl); (· rfl)))) | refine jah ?_ | refine jbg rfl rfl rfl rfl ?_ | refine jaj ?_ | refine jan ?_ | refine jab ?_ | refine jat 3 (fun _ => false) (.step 0 true (.step 1 true (.step 2 false (.step 3 false (.step 4 true (.step 5 true .nil)))))) [(0, 63, 63, false), (0, 63, 63, true), (2, 61, 63, false), (5, 58, 63, false), (15, 55, 63, true), (31, 63, 63, true)] (by kernel_rfl) (by kernel_rfl) ?_ | refine jbp rfl ?_)
  all_goals first | (exfalso; simp_all; done) | skip
  all_goals (apply jau; apply jaw; (· apply jbe.t; (· (apply GvA.cons; (· exact .tmp _); (· (exact GvP.c (.row _ _ _ _ rfl (by ((simp; done))))))); (apply GvA.cons; (· exact .tmp _); (· exact GvP.c (.lit _))); exact GvA.nil); (· rfl); (· (decide))))
  all_goals rfl

end Go.Proofs.YtpflmajlafpmcaaGreat

namespace Go.Proofs.YtpflmajlafpmcaaGreat
open Go.RowKit
set_option linter.unusedSectionVars false
variable [Glb]
set_option maxRecDepth 10000
set_option maxHeartbeats 4000000
theorem at_p (X Y n : Int) (ll : List (List Int)) (h : boxB X Y n ll = true) (x y a c : Int) (x0 : 0 ≤ x) (x1 : x < X) (y0 : 0 ≤ y) (y1 : y < Y) (a0 : 0 ≤ a) (a1 : a ≤ 1) (c0 : 0 ≤ c) (c1 : c ≤ 1) :
    PC Tryz.prog 19 [.g [dI X, dI Y, dI n, eII ll], .c (dI x), .c (dI y), .c (dI a), .c (dI c)] (.p (.c (dI (atB ll Y x y (2 * a + c))))) := by
  have hb := jbj h
  have hi := idx_lt x0 x1 y0 y1
  have hr := (boxB_at h hi.1 hi.2.1).1
  have hm := jcq (x := X) (y := Y) (jbn.2 ⟨⟨hb.x1, hb.x3⟩, hb.y1, hb.y3⟩)
  have hl := hb.len
  refine jar Tryz.func19 rfl rfl rfl (by kernel_rfl) rfl rfl ?_; intro _
  repeat' (first | (refine jaa (.box 26 _) ?_; refine jbc rfl rfl ?_) | (refine jaa (.assign _) ?_; (refine jac (jal rfl) rfl ?_)) | (refine jaa (.fieldAddr 26 _ 3) ?_; (refine jac (jad (off := 3) rfl (by kernel_rfl)) rfl ?_)) | (refine jaa (.load 24 _) ?_; (refine jac (jae rfl rfl (by kernel_rfl) rfl) rfl ?_)) | (refine jaa (.move _) ?_; (refine jac (jak rfl) rfl ?_)) | (refine jaa (.fieldAddr 26 _ 1) ?_; (refine jac (jad (off := 1) rfl (by kernel_rfl)) rfl ?_)) | (refine jaa (.load 3 _) ?_; (first | refine jac (jae rfl rfl (by kernel_rfl) rfl) rfl ?_ | refine jac (jap rfl (by kernel_rfl) rfl) rfl ?_)) | (refine jaa (.binOp .mul 3 _ _ _) ?_; refine jac (jcw rfl rfl (by (omega))) rfl ?_) | (refine jaa (.binOp .add 3 _ _ _) ?_; refine jac (jax rfl rfl (by (omega))) rfl ?_) | (refine jaa (.indexAddr 24 _ _) ?_; (refine jac (jbx rfl rfl (by kernel_rfl) (by (omega)) (by (omega))) rfl ?_)) | (refine jaa (.load 27 _) ?_; (refine jac (jap rfl (by kernel_rfl) rfl) rfl ?_)) | (refine jaa (.indexAddr 27 _ _) ?_; (refine jac (jcc rfl rfl (by kernel_rfl) (by (omega)) (by (omega))) rfl ?_)) | refine jah ?_ | refine jaj ?_ | refine jab ?_)
  · (apply jau; apply jaw; (· apply jbe.p; (· (apply GvA.cons; (· exact .tmp _); (· exact GvP.c (.lit _))); exact GvA.nil); (· (decide))))
    rfl

end Go.Proofs.YtpflmajlafpmcaaGreat

namespace Go.Proofs.YtpflmajlafpmcaaGreat
open Go.RowKit
set_option linter.unusedSectionVars false
variable [Glb]
set_option maxRecDepth 10000
set_option maxHeartbeats 4000000
theorem IsBox_p (x y n : Int) (ll : List (List Int)) : PC Tryz.prog 28 [.g [dI x, dI y, dI n, eII ll]] (.p (.c (dB (boxB x y n ll)))) := by
  refine jar Tryz.func28 rfl rfl rfl (by kernel_rfl) rfl rfl ?_; rintro ⟨hl, -⟩
  have hl := (hl _ (List.mem_cons_of_mem _ (List.mem_cons_of_mem _ (List.mem_cons_of_mem _ (List.mem_cons_self ..))))).len
  repeat' (first | (refine jaa (.box 26 _) ?_; refine jbc rfl rfl ?_) | (refine jaa (.assign _) ?_; (refine jac (jal rfl) rfl ?_)) | (refine jaa (.fieldAddr 26 _ 0) ?_; (refine jac (jad (off := 0) rfl (by kernel_rfl)) rfl ?_)) | (refine jaa (.load 3 _) ?_; (refine jac (jae rfl rfl (by kernel_rfl) rfl) rfl ?_)) | (refine jaa (.fieldAddr 26 _ 1) ?_; (refine jac (jad (off := 1) rfl (by kernel_rfl)) rfl ?_)) | (refine jaa (.unOp .not 4 _) ?_; refine jac (jbz rfl) rfl ?_) | (refine jaa (.move _) ?_; (refine jac (jak rfl) rfl ?_)) | (refine jaa (.fieldAddr 26 _ 2) ?_; (refine jac (jad (off := 2) rfl (by kernel_rfl)) rfl ?_)) | (refine jaa (.pick _ _ _) ?_; (refine jac (jby rfl rfl) rfl ?_)) | (refine jaa (.fieldAddr 26 _ 3) ?_; (refine jac (jad (off := 3) rfl (by kernel_rfl)) rfl ?_)) | (refine jaa (.load 24 _) ?_; (refine jac (jae rfl rfl (by kernel_rfl) rfl) rfl ?_)) | (refine jaa (.call ⟨.builtin .len, _, #[24]⟩) ?_; (refine jac (jba rfl (by kernel_rfl)) rfl ?_)) | (refine jaa (.binOp .mul 3 _ _ _) ?_; (refine jac (qt_mul rfl rfl) rfl ?_)) | (refine jaa (.binOp .neq 3 _ _ _) ?_; refine jac (qt_neq rfl rfl) rfl ?_) | (refine jaa (.call ⟨.value (.func 26), _, _⟩) ?_; (apply jam (fid := 26); (· (repeat (first | exact SeA.nil | apply SeA.cons (.c (.d _))))); (· exact areQuestions_p _ _); (· rfl))) | (refine jaa (.call ⟨.value (.func 37), _, _⟩) ?_; (apply jam (fid := 37); (· (repeat (first | exact SeA.nil | apply SeA.cons (.c (.d _))))); (· exact within_p _ _ _); (· rfl))) | refine jah ?_ | refine jbw rfl rfl rfl rfl ?_ | refine jbg rfl rfl rfl rfl ?_ | refine jcy rfl rfl (fun hg => ?_) (fun hg => ?_) | refine jaj ?_ | refine jai ?_ | refine jan ?_ | refine jab ?_ | refine jbu rfl ?_ | refine jbl rfl (fun hc => ?_) (fun hc => ?_))
  · (apply jau; apply jaw; (· apply jbe.p; (· (apply GvA.cons; (· exact .tmp _); (· exact GvP.c (.lit _))); exact GvA.nil); (· (decide))))
    have h9 : sizeB x y = false := by simpa using hg
    simp [boxB, h9]
  · (apply jau; apply jaw; (· apply jbe.p; (· (apply GvA.cons; (· exact .tmp _); (· exact GvP.c (.lit _))); exact GvA.nil); (· (decide))))
    have h9 : inB n 1 1000 = false := by simpa using hg
    simp [boxB, h9]
  · (apply jau; apply jaw; (· apply jbe.p; (· (apply GvA.cons; (· exact .tmp _); (· exact GvP.c (.lit _))); exact GvA.nil); (· (decide))))
    have hs : sizeB x y = true := by simp_all
    rw [wrap_mul3 hs] at hc
    have h3 : ¬ (ll.length : Int) = x * y := by omega
    simp [boxB, h3]
  have hs : sizeB x y = true := by simp_all
  have hn : inB n 1 1000 = true := by simp_all
  have hlen : (ll.length : Int) = x * y := by rw [← wrap_mul3 hs]; omega
  apply jay [1, 29, 30, 31] [1] rfl; (· (repeat (first | exact Pf.nil | apply Pf.cons (.c rfl (.d rfl)) | apply Pf.cons (.c rfl (.lp rfl))))); (· (repeat (first | exact Pb.nil | (apply Pb.cons; (· apply Nb.box rfl; (repeat (first | exact Ncs.nil rfl | (apply Ncs.cons rfl; (· (exact .d rfl))))))))))
  refine jbd [1, 29, 30] [1] (fun k => [(31, iN k)]) (fun _ => []) (fun k => k ≤ ll.length ∧ (ll.take k).all (row4B n) = true) (fun k => ll.length - k) (0) ?_ (by (repeat (first | exact trivial | refine ⟨(by (rfl)), ?_⟩))) (by (repeat (exact trivial))) ?_
  · simp
  rintro k ⟨hk, ha⟩
  repeat' (first | (refine jaa (.assign _) ?_; (refine jac (jal rfl) rfl ?_)) | (refine jaa (.load 3 _) ?_; (refine jac (jae rfl rfl (by kernel_rfl) rfl) rfl ?_)) | (refine jaa (.unOp .not 4 _) ?_; refine jac (jbz rfl) rfl ?_) | (refine jaa (.move _) ?_; (refine jac (jak rfl) rfl ?_)) | (refine jaa (.fieldAddr 26 _ 2) ?_; (refine jac (jad (off := 2) rfl (by kernel_rfl)) rfl ?_)) | (refine jaa (.pick _ _ _) ?_; (refine jac (jby rfl rfl) rfl ?_)) | (refine jaa (.binOp .neq 3 _ _ _) ?_; refine jac (qt_neq rfl rfl) rfl ?_) | (refine jaa (.binOp .lss 3 _ _ _) ?_; refine jac (jbi rfl rfl) rfl ?_) | (refine jaa (.indexAddr 24 _ _) ?_; (refine jac (jbx rfl rfl (by kernel_rfl) (by (omega)) (by (omega))) rfl ?_)) | (refine jaa (.load 27 _) ?_; (refine jac (jap rfl (by kernel_rfl) rfl) rfl ?_)) | (refine jaa (.call ⟨.builtin .len, _, #[27]⟩) ?_; (refine jac (jba rfl (by kernel_rfl)) rfl ?_)) | (refine jaa (.binOp .add 3 _ _ _) ?_; refine jac (jax rfl rfl (by (omega))) rfl ?_) | (refine jaa (.call ⟨.value (.func 48), _, _⟩) ?_; (apply jam (fid := 48); (· (repeat (first | exact SeA.nil | apply SeA.cons (.c (.d _))))); (· exact allWithin_p _ _ _); (· rfl))) | (refine jaa (.call ⟨.value (.func 49), _, _⟩) ?_; (apply jam (fid := 49); (· (repeat (first | exact SeA.nil | apply SeA.cons (.c (.d _))))); (· exact total_p _); (· rfl))) | refine jah ?_ | refine jbw rfl rfl rfl rfl ?_ | refine jbg rfl rfl rfl rfl ?_ | refine jct rfl rfl (fun hg => ?_) (fun hg => ?_) | refine jcy rfl rfl (fun hg => ?_) (fun hg => ?_) | refine jaj ?_ | refine jai ?_ | refine jbh ?_ | refine jav rfl ?_ | refine jan ?_ | refine jab ?_ | refine jat 6 (fun _ => false) (.step 0 true (.step 1 true (.step 2 true (.step 3 true (.step 4 true (.step 5 true (.step 6 true (.step 7 false (.step 8 true (.step 9 true (.step 10 true (.step 11 true (.step 13 true (.step 14 true (.step 12 false (.step 15 true (.step 16 true .nil))))))))))))))))) [(0, 131071, 131071, true), (1, 131070, 131071, true), (2, 131069, 131071, true), (4, 131067, 131071, true), (8, 131063, 131071, true), (8, 131063, 131071, true), (40, 131031, 131071, false), (88, 130983, 131071, false), (136, 130935, 131071, true), (264, 130807, 131071, true), (640, 130559, 131071, true), (1024, 130047, 131071, true), (3072, 127999, 131071, false), (1024, 130047, 131071, true), (9216, 121855, 131071, false), (21504, 109567, 131071, true), (33792, 97279, 131071, true)] (by kernel_rfl) (by kernel_rfl) ?_ | refine jbu rfl ?_ | refine jbl rfl (fun hc => ?_) (fun hc => ?_))
  · have hk2 : k < ll.length := by omega
    rw [jbv hk2] at hg
    (apply jau; apply jaw; (· apply jbe.p; (· (apply GvA.cons; (· exact .tmp _); (· exact GvP.c (.lit _))); exact GvA.nil); (· (decide))))
    have h9 : row4B n ll[k] = false := by simp [row4B]; omega
    rw [boxB, all_f hk2 h9]; simp
  · rename_i hk'
    have hk2 : k < ll.length := by omega
    rw [jbv hk2] at hg
    (apply jau; apply jaw; (· apply jbe.p; (· (apply GvA.cons; (· exact .tmp _); (· exact GvP.c (.lit _))); exact GvA.nil); (· (decide))))
    have h9 : row4B n ll[k] = false := by simp at hg; simp [row4B, hg]
    rw [boxB, all_f hk2 h9]; simp
  · rename_i hk'
    have hk2 : k < ll.length := by omega
    rw [jbv hk2] at hg hc
    (apply jau; apply jaw; (· apply jbe.p; (· (apply GvA.cons; (· exact .tmp _); (· exact GvP.c (.lit _))); exact GvA.nil); (· (decide))))
    have h9 : row4B n ll[k] = false := by simp [row4B, hc]
    rw [boxB, all_f hk2 h9]; simp
  · rename_i hk' hg'
    have hk2 : k < ll.length := by omega
    rw [jbv hk2] at hg hc hg'
    have h9 : row4B n ll[k] = true := by simp at hg hc hg'; simp [row4B, hg, hc]; omega
    refine jbf ?_; refine ⟨k + 1, ?_, ?_, jcf rfl (by (repeat (first | exact trivial | refine ⟨(by (rfl)), ?_⟩))) (by (repeat (first | exact trivial | refine ⟨rfl, ?_⟩))) (by (repeat (exact trivial))) (by (repeat (first | exact trivial | refine ⟨.inr rfl, ?_⟩)))⟩
    · exact ⟨by omega, by rw [take_succ_all _ _ _ hk2, ha, h9]; rfl⟩
    · omega
  · have : k = ll.length := by omega
    subst this
    rw [List.take_length] at ha
    (apply jau; apply jaw; (· apply jbe.p; (· (apply GvA.cons; (· exact .tmp _); (· exact GvP.c (.lit _))); exact GvA.nil); (· (decide))))
    simp [boxB, hs, hn, hlen, ha]

end Go.Proofs.YtpflmajlafpmcaaGreat

namespace Go.Proofs.YtpflmajlafpmcaaGreat
open Go.RowKit
set_option linter.unusedSectionVars false
variable [Glb]
set_option maxRecDepth 10000
set_option maxHeartbeats 4000000
theorem isPlay_p (x y : Int) (l : List Int) : PC Tryz.prog 36 [.c (dI x), .c (dI y), .c (eI l)] (.p (.c (dB (bitsB l (IntKind.i64.wrap (x + y)))))) := by
  refine jar Tryz.func36 rfl rfl rfl (by kernel_rfl) rfl rfl ?_; intro _
  repeat' (first | (refine jaa (.assign _) ?_; (refine jac (jal rfl) rfl ?_)) | (refine jaa (.move _) ?_; (refine jac (jak rfl) rfl ?_)) | (refine jaa (.call ⟨.builtin .len, _, #[27]⟩) ?_; (refine jac (jba rfl (by kernel_rfl)) rfl ?_)) | (refine jaa (.binOp .add 3 _ _ _) ?_; (refine jac (qt_add rfl rfl) rfl ?_)) | (refine jaa (.binOp .eql 3 _ _ _) ?_; refine jac (jcb rfl rfl) rfl ?_) | (refine jaa (.pick _ _ _) ?_; (refine jac (jby rfl rfl) rfl ?_)) | (refine jaa (.call ⟨.value (.func 48), _, _⟩) ?_; (apply jam (fid := 48); (· (repeat (first | exact SeA.nil | apply SeA.cons (.c (.d _))))); (· exact allWithin_p _ _ _); (· rfl))) | refine jah ?_ | refine jbw rfl rfl rfl rfl ?_ | refine jbg rfl rfl rfl rfl ?_ | refine jct rfl rfl (fun hg => ?_) (fun hg => ?_) | refine jaj ?_ | refine jab ?_)
  all_goals (apply jau; apply jaw; (· apply jbe.p; (· (apply GvA.cons; (· exact .tmp _); (· exact GvP.c (.lit _))); exact GvA.nil); (· (decide))))
  all_goals ((simp_all [bitsB]; done))

end Go.Proofs.YtpflmajlafpmcaaGreat

namespace Go.Proofs.YtpflmajlafpmcaaGreat
open Go.RowKit
set_option linter.unusedSectionVars false
variable [Glb]
set_option maxRecDepth 10000
set_option maxHeartbeats 4000000
theorem IsHall_p (bx by_ bwh : Int) (bll : List (List Int)) (pl : List Int) (ev : Int) (cc : List (List Int)) (ss nu : List Int) (co : Int) :
    PC Tryz.prog 18 [.g [dI bx, dI by_, dI bwh, eII bll, eI pl, dI ev, eII cc, eI ss, eI nu, dI co]] (.p (.c (dB (hallB bx by_ bwh bll pl ev cc ss nu co)))) := by
  have hw : boxB bx by_ bwh bll = true → IntKind.i64.wrap (bx + by_) = bx + by_ := fun h => by have := jbj h; have a := this.x1; have b := this.x3; have c := this.y1; have d := this.y3; exact IntWalk.i64_in _ (by omega)
  refine jar Tryz.func18 rfl rfl rfl (by kernel_rfl) rfl rfl ?_; intro _
  repeat' (first | (refine jaa (.box 31 _) ?_; refine jbc rfl rfl ?_) | (refine jaa (.assign _) ?_; (refine jac (jal rfl) rfl ?_)) | (refine jaa (.fieldAddr 31 _ 0) ?_; (refine jac (jad (off := 0) rfl (by kernel_rfl)) rfl ?_)) | (refine jaa (.load 26 _) ?_; (refine jac (jaf rfl rfl (by kernel_rfl : tAgg _ 26 4 = true) rfl) rfl ?_)) | (refine jaa (.move _) ?_; (refine jac (jak rfl) rfl ?_)) | (refine jaa (.fieldAddr 26 _ 0) ?_; (refine jac (jad (off := 0) rfl (by kernel_rfl)) rfl ?_)) | (refine jaa (.load 3 _) ?_; (refine jac (jae rfl rfl (by kernel_rfl) rfl) rfl ?_)) | (refine jaa (.fieldAddr 26 _ 1) ?_; (refine jac (jad (off := 1) rfl (by kernel_rfl)) rfl ?_)) | (refine jaa (.fieldAddr 31 _ 1) ?_; (refine jac (jad (off := 4) rfl (by kernel_rfl)) rfl ?_)) | (refine jaa (.load 27 _) ?_; (refine jac (jae rfl rfl (by kernel_rfl) rfl) rfl ?_)) | (refine jaa (.pick _ _ _) ?_; (refine jac (jby rfl rfl) rfl ?_)) | (refine jaa (.fieldAddr 31 _ 2) ?_; (refine jac (jad (off := 5) rfl (by kernel_rfl)) rfl ?_)) | (refine jaa (.load 29 _) ?_; (refine jac (jaf rfl rfl (by kernel_rfl : tAgg _ 29 3 = true) rfl) rfl ?_)) | (refine jaa (.fieldAddr 31 _ 3) ?_; (refine jac (jad (off := 8) rfl (by kernel_rfl)) rfl ?_)) | (refine jaa (.fieldAddr 31 _ 4) ?_; (refine jac (jad (off := 9) rfl (by kernel_rfl)) rfl ?_)) | (refine jaa (.call ⟨.value (.func 28), _, _⟩) ?_; (apply jam (fid := 28); (· (repeat (first | exact SeA.nil | (apply SeA.cons; (· (apply SeP.g; (repeat (first | exact SeL.nil | apply SeL.cons (.d _))))))))); (· exact IsBox_p _ _ _ _); (· rfl))) | (refine jaa (.call ⟨.value (.func 36), _, _⟩) ?_; (apply jam (fid := 36); (· (repeat (first | exact SeA.nil | apply SeA.cons (.c (.d _))))); (· exact isPlay_p _ _ _); (· rfl))) | (refine jaa (.call ⟨.value (.func 29), _, _⟩) ?_; (apply jam (fid := 29); (· (repeat (first | exact SeA.nil | (apply SeA.cons; (· (apply SeP.g; (repeat (first | exact SeL.nil | apply SeL.cons (.d _))))))))); (· exact IsScene_p _ _ _); (· rfl))) | (refine jaa (.call ⟨.value (.func 31), _, _⟩) ?_; (apply jam (fid := 31); (· (repeat (first | exact SeA.nil | apply SeA.cons (.c (.d _)) | (apply SeA.cons; (· (apply SeP.g; (repeat (first | exact SeL.nil | apply SeL.cons (.d _))))))))); (· exact isAssignment_p _ _ _ _); (· rfl))) | (refine jaa (.call ⟨.value (.func 37), _, _⟩) ?_; (apply jam (fid := 37); (· (repeat (first | exact SeA.nil | apply SeA.cons (.c (.d _))))); (· exact within_p _ _ _); (· rfl))) | refine jah ?_ | refine jbw rfl rfl rfl rfl ?_ | refine jbg rfl rfl rfl rfl ?_ | refine jcy rfl rfl (fun hg => ?_) (fun hg => ?_) | refine jaj ?_ | refine jab ?_)
  all_goals (apply jau; apply jaw; (· apply jbe.p; (· (apply GvA.cons; (· exact .tmp _); (· exact GvP.c (.lit _))); exact GvA.nil); (· (decide))))
  all_goals simp_all [hallB]

end Go.Proofs.YtpflmajlafpmcaaGreat

namespace Go.Proofs.YtpflmajlafpmcaaGreat
open Go.RowKit
set_option linter.unusedSectionVars false
variable [Glb]
set_option maxRecDepth 10000
set_option maxHeartbeats 4000000
theorem PlayChance_p (bx by_ bwh : Int) (bll : List (List Int)) (pl : List Int) (ev : Int) (cc : List (List Int)) (ss nu : List Int) (co : Int) :
    PC Tryz.prog 6 [.g [dI bx, dI by_, dI bwh, eII bll, eI pl, dI ev, eII cc, eI ss, eI nu, dI co]] (.t [.c (dI (whenN (hallB bx by_ bwh bll pl ev cc ss nu co) (leastN bwh (chanceF by_.toNat bx.toNat bll pl) (by_.toNat * bx.toNat)))), .c (dB (hallB bx by_ bwh bll pl ev cc ss nu co))]) := by
  cases hB : hallB bx by_ bwh bll pl ev cc ss nu co with
  | false =>
    refine jar Tryz.func6 rfl rfl rfl (by kernel_rfl) rfl rfl ?_; intro _
    repeat' (first | (refine jaa (.box 31 _) ?_; refine jbc rfl rfl ?_) | (refine jaa (.assign _) ?_; (refine jac (jal rfl) rfl ?_)) | (refine jaa (.load 31 _) ?_; (refine jac (jaf rfl rfl (by kernel_rfl : tAgg _ 31 10 = true) rfl) rfl ?_)) | (refine jaa (.unOp .not 4 _) ?_; refine jac (jbz rfl) rfl ?_) | (refine jaa (.fieldAddr 31 _ 0) ?_; (refine jac (jad (off := 0) rfl (by kernel_rfl)) rfl ?_)) | (refine jaa (.fieldAddr 26 _ 2) ?_; (refine jac (jad (off := 2) rfl (by kernel_rfl)) rfl ?_)) | (refine jaa (.load 3 _) ?_; (refine jac (jae rfl rfl (by kernel_rfl) rfl) rfl ?_)) | (refine jaa (.fieldAddr 26 _ 0) ?_; (refine jac (jad (off := 0) rfl (by kernel_rfl)) rfl ?_)) | (refine jaa (.move _) ?_; (refine jac (jak rfl) rfl ?_)) | (refine jaa (.call ⟨.value (.func 18), _, _⟩) ?_; (apply jam (fid := 18); (· (repeat (first | exact SeA.nil | (apply SeA.cons; (· (apply SeP.g; (repeat (first | exact SeL.nil | apply SeL.cons (.d _))))))))); (· exact IsHall_p _ _ _ _ _ _ _ _ _ _); (· rfl))) | refine jah ?_ | refine jaj ?_ | refine jai ?_ | refine jan ?_ | refine jab ?_ | refine jcm rfl (fun hc => ?_) (fun hc => ?_))
    all_goals first | (exfalso; simp_all; done) | skip
    (apply jau; apply jaw; (· apply jbe.t; (· (apply GvA.cons; (· exact .tmp _); (· exact GvP.c (.lit _))); (apply GvA.cons; (· exact .tmp _); (· exact GvP.c (.lit _))); exact GvA.nil); (· rfl); (· (decide))))
    simp [whenN]
  | true =>
    have hH := jcz hB
    have hb := jbj hH.box
    have g1 := hb.x1; have g2 := hb.x3; have g3 := hb.y1; have g4 := hb.y3
    obtain ⟨x, rfl⟩ := Int.eq_ofNat_of_zero_le (by omega : 0 ≤ bx)
    obtain ⟨y, rfl⟩ := Int.eq_ofNat_of_zero_le (by omega : 0 ≤ by_)
    have hpl := hH.pl
    have hl := jbk hpl
    obtain ⟨f, hf⟩ : ∃ f : Nat → Int, f = chanceF y x bll pl := ⟨_, rfl⟩
    refine jar Tryz.func6 rfl rfl rfl (by kernel_rfl) rfl rfl ?_; intro _
    repeat' (first | (refine jaa (.box 31 _) ?_; refine jbc rfl rfl ?_) | (refine jaa (.assign _) ?_; (refine jac (jal rfl) rfl ?_)) | (refine jaa (.load 31 _) ?_; (refine jac (jaf rfl rfl (by kernel_rfl : tAgg _ 31 10 = true) rfl) rfl ?_)) | (refine jaa (.unOp .not 4 _) ?_; refine jac (jbz rfl) rfl ?_) | (refine jaa (.fieldAddr 31 _ 0) ?_; (refine jac (jad (off := 0) rfl (by kernel_rfl)) rfl ?_)) | (refine jaa (.fieldAddr 26 _ 2) ?_; (refine jac (jad (off := 2) rfl (by kernel_rfl)) rfl ?_)) | (refine jaa (.load 3 _) ?_; (refine jac (jae rfl rfl (by kernel_rfl) rfl) rfl ?_)) | (refine jaa (.fieldAddr 26 _ 0) ?_; (refine jac (jad (off := 0) rfl (by kernel_rfl)) rfl ?_)) | (refine jaa (.move _) ?_; (refine jac (jak rfl) rfl ?_)) | (refine jaa (.call ⟨.value (.func 18), _, _⟩) ?_; (apply jam (fid := 18); (· (repeat (first | exact SeA.nil | (apply SeA.cons; (· (apply SeP.g; (repeat (first | exact SeL.nil | apply SeL.cons (.d _))))))))); (· exact IsHall_p _ _ _ _ _ _ _ _ _ _); (· rfl))) | refine jah ?_ | refine jaj ?_ | refine jai ?_ | refine jan ?_ | refine jab ?_ | refine jcm rfl (fun hc => ?_) (fun hc => ?_))
    · exfalso; simp_all
    apply jay [1, 4, 15, 16] [1] rfl; (· (repeat (first | exact Pf.nil | apply Pf.cons (.c rfl (.d rfl)) | apply Pf.cons (.c rfl (.lp rfl))))); (· (repeat (first | exact Pb.nil | (apply Pb.cons; (· apply Nb.box rfl; (repeat (first | exact Ncs.nil rfl | (apply Ncs.cons rfl; (· (exact .d rfl))))))))))
    refine jbd [1, 15] [1] (fun i => [(16, iN i), (4, iZ (leastN bwh f (y * i)))]) (fun _ => []) (fun i => i ≤ x) (fun i => x - i) (0) ?_ (by (repeat (first | exact trivial | refine ⟨(by (rfl)), ?_⟩))) (by (repeat (exact trivial))) ?_
    · omega
    intro i hi
    repeat' (first | (refine jaa (.assign _) ?_; (refine jac (jal rfl) rfl ?_)) | (refine jaa (.fieldAddr 31 _ 0) ?_; (refine jac (jad (off := 0) rfl (by kernel_rfl)) rfl ?_)) | (refine jaa (.load 3 _) ?_; (refine jac (jae rfl rfl (by kernel_rfl) rfl) rfl ?_)) | (refine jaa (.move _) ?_; (refine jac (jak rfl) rfl ?_)) | (refine jaa (.binOp .lss 3 _ _ _) ?_; refine jac (jbi rfl rfl) rfl ?_) | (refine jaa (.fieldAddr 26 _ 1) ?_; (refine jac (jad (off := 1) rfl (by kernel_rfl)) rfl ?_)) | refine jah ?_ | refine jaj ?_ | refine jai ?_ | refine jav rfl ?_ | refine jan ?_ | refine jab ?_ | refine jbl rfl (fun hc => ?_) (fun hc => ?_))
    · have hi2 : i < x := by omega
      apply jay [1, 4, 5, 15, 16, 21, 22] [1] rfl; (· (repeat (first | exact Pf.nil | apply Pf.cons (.c rfl (.d rfl)) | apply Pf.cons (.c rfl (.lp rfl))))); (· (repeat (first | exact Pb.nil | (apply Pb.cons; (· apply Nb.box rfl; (repeat (first | exact Ncs.nil rfl | (apply Ncs.cons rfl; (· (exact .d rfl))))))))))
      refine jbd [1, 5, 15, 16, 21] [1] (fun k => [(22, iN k), (4, iZ (leastN bwh f (y * i + k)))]) (fun _ => []) (fun k => k ≤ y) (fun k => y - k) (0) ?_ (by (repeat (first | exact trivial | refine ⟨(by (rfl)), ?_⟩))) (by (repeat (exact trivial))) ?_
      · omega
      intro k hk
      by_cases hk2 : k < y
      · have b1 := jck hpl (i := i) (by omega) (by omega)
        have b2 := jck hpl (i := x + k) (by omega) (by omega)
        have ap := at_p x y bwh bll hH.box i k (atZ pl i) (atZ pl (x + k)) (by omega) (by omega) (by omega) (by omega) (by omega) (by omega) (by omega) (by omega)
        have e := chance_at (X := x) (ll := bll) (pl := pl) (i := i) hk2
        rw [← hf] at e
        repeat' (first | (refine jaa (.assign _) ?_; (refine jac (jal rfl) rfl ?_)) | (refine jaa (.fieldAddr 31 _ 0) ?_; (refine jac (jad (off := 0) rfl (by kernel_rfl)) rfl ?_)) | (refine jaa (.load 3 _) ?_; (first | refine jac (jae rfl rfl (by kernel_rfl) rfl) rfl ?_ | refine jac (jap rfl (by kernel_rfl) rfl) rfl ?_)) | (refine jaa (.fieldAddr 26 _ 0) ?_; (refine jac (jad (off := 0) rfl (by kernel_rfl)) rfl ?_)) | (refine jaa (.move _) ?_; (refine jac (jak rfl) rfl ?_)) | (refine jaa (.binOp .lss 3 _ _ _) ?_; refine jac (jbi rfl rfl) rfl ?_) | (refine jaa (.load 26 _) ?_; (refine jac (jaf rfl rfl (by kernel_rfl : tAgg _ 26 4 = true) rfl) rfl ?_)) | (refine jaa (.fieldAddr 31 _ 1) ?_; (refine jac (jad (off := 4) rfl (by kernel_rfl)) rfl ?_)) | (refine jaa (.load 27 _) ?_; (refine jac (jae rfl rfl (by kernel_rfl) rfl) rfl ?_)) | (refine jaa (.indexAddr 27 _ _) ?_; (refine jac (jcc rfl rfl (by kernel_rfl) (by (omega)) (by (omega))) rfl ?_)) | (refine jaa (.binOp .add 3 _ _ _) ?_; refine jac (jax rfl rfl (by (omega))) rfl ?_) | (refine jaa (.call ⟨.builtin .min, _, #[3, 3]⟩) ?_; refine jac (qt_min rfl rfl) rfl ?_) | (refine jaa (.call ⟨.value (.func 19), _, _⟩) ?_; (apply jam (fid := 19); (· (repeat (first | exact SeA.nil | apply SeA.cons (.c (.d _)) | (apply SeA.cons; (· (apply SeP.g; (repeat (first | exact SeL.nil | apply SeL.cons (.d _))))))))); (· exact ap); (· rfl))) | refine jah ?_ | refine jaj ?_ | refine jai ?_ | refine jbh ?_ | refine jav rfl ?_ | refine jan ?_ | refine jab ?_ | refine jat 10 (fun _ => false) (.step 0 true (.step 1 true (.step 2 true (.step 3 true (.step 4 true (.step 5 true (.step 6 true (.step 7 true (.step 8 true (.step 9 true (.step 10 true (.step 11 true (.step 12 true (.step 13 true (.step 14 true (.step 15 true (.step 16 true (.step 17 true (.step 18 true (.step 19 false (.step 20 true (.step 21 true .nil)))))))))))))))))))))) [(0, 4194303, 4194303, true), (0, 4194303, 4194303, true), (2, 4194301, 4194303, false), (0, 4194303, 4194303, true), (0, 4194303, 4194303, true), (0, 4194303, 4194303, true), (32, 4194271, 4194303, false), (0, 4194303, 4194303, true), (192, 4194111, 4194303, true), (256, 4194047, 4194303, false), (0, 4194303, 4194303, true), (1024, 4193279, 4194303, false), (0, 4194303, 4194303, true), (4096, 4190207, 4194303, true), (8192, 4186111, 4194303, false), (0, 4194303, 4194303, true), (49152, 4145151, 4194303, true), (67584, 4126719, 4194303, true), (131072, 4063231, 4194303, false), (262684, 3931619, 4194303, false), (524289, 3670014, 4194303, false), (2097151, 3145726, 4194303, true)] (by kernel_rfl) (by kernel_rfl) ?_ | refine jbl rfl (fun hc => ?_) (fun hc => ?_))
        · refine jbf ?_; refine ⟨k + 1, ?_, ?_, jcf rfl (by (repeat (first | exact trivial | refine ⟨(by (first | rfl | (refine int_eq rfl ?_; ((simp  [← Nat.add_assoc, leastN, e]; done))))), ?_⟩))) (by (repeat (first | exact trivial | refine ⟨rfl, ?_⟩))) (by (repeat (exact trivial))) (by (repeat (first | exact trivial | refine ⟨.inr rfl, ?_⟩)))⟩
          · omega
          · omega
        · exfalso; omega
      · have h8 : k = y := by omega
        subst h8
        repeat' (first | (refine jaa (.assign _) ?_; (refine jac (jal rfl) rfl ?_)) | (refine jaa (.fieldAddr 31 _ 0) ?_; (refine jac (jad (off := 0) rfl (by kernel_rfl)) rfl ?_)) | (refine jaa (.load 3 _) ?_; (first | refine jac (jae rfl rfl (by kernel_rfl) rfl) rfl ?_ | refine jac (jap rfl (by kernel_rfl) rfl) rfl ?_)) | (refine jaa (.fieldAddr 26 _ 0) ?_; (refine jac (jad (off := 0) rfl (by kernel_rfl)) rfl ?_)) | (refine jaa (.move _) ?_; (refine jac (jak rfl) rfl ?_)) | (refine jaa (.binOp .lss 3 _ _ _) ?_; refine jac (jbi rfl rfl) rfl ?_) | (refine jaa (.load 26 _) ?_; (refine jac (jaf rfl rfl (by kernel_rfl : tAgg _ 26 4 = true) rfl) rfl ?_)) | (refine jaa (.fieldAddr 31 _ 1) ?_; (refine jac (jad (off := 4) rfl (by kernel_rfl)) rfl ?_)) | (refine jaa (.load 27 _) ?_; (refine jac (jae rfl rfl (by kernel_rfl) rfl) rfl ?_)) | (refine jaa (.indexAddr 27 _ _) ?_; (refine jac (jcc rfl rfl (by kernel_rfl) (by (omega)) (by (omega))) rfl ?_)) | (refine jaa (.binOp .add 3 _ _ _) ?_; refine jac (jax rfl rfl (by (omega))) rfl ?_) | refine jah ?_ | refine jaj ?_ | refine jai ?_ | refine jbh ?_ | refine jav rfl ?_ | refine jan ?_ | refine jab ?_ | refine jat 10 (fun _ => false) (.step 0 true (.step 1 true (.step 2 true (.step 3 true (.step 4 true (.step 5 true (.step 6 true (.step 7 true (.step 8 true (.step 9 true (.step 10 true (.step 11 true (.step 12 true (.step 13 true (.step 14 true (.step 15 true (.step 16 true (.step 17 true (.step 18 true (.step 19 false (.step 20 true (.step 21 true .nil)))))))))))))))))))))) [(0, 4194303, 4194303, true), (0, 4194303, 4194303, true), (2, 4194301, 4194303, false), (0, 4194303, 4194303, true), (0, 4194303, 4194303, true), (0, 4194303, 4194303, true), (32, 4194271, 4194303, false), (0, 4194303, 4194303, true), (192, 4194111, 4194303, true), (256, 4194047, 4194303, false), (0, 4194303, 4194303, true), (1024, 4193279, 4194303, false), (0, 4194303, 4194303, true), (4096, 4190207, 4194303, true), (8192, 4186111, 4194303, false), (0, 4194303, 4194303, true), (49152, 4145151, 4194303, true), (67584, 4126719, 4194303, true), (131072, 4063231, 4194303, false), (262684, 3931619, 4194303, false), (524289, 3670014, 4194303, false), (2097151, 3145726, 4194303, true)] (by kernel_rfl) (by kernel_rfl) ?_ | refine jbl rfl (fun hc => ?_) (fun hc => ?_))
        · exfalso; omega
        · refine jbf ?_; refine ⟨i + 1, ?_, ?_, jcf rfl (by (repeat (first | exact trivial | refine ⟨(by (rfl)), ?_⟩))) (by (repeat (first | exact trivial | refine ⟨rfl, ?_⟩))) (by (repeat (exact trivial))) (by (repeat (first | exact trivial | refine ⟨.inr rfl, ?_⟩)))⟩
          · omega
          · omega
    · have h8 : i = x := by omega
      subst h8
      (apply jau; apply jaw; (· apply jbe.t; (· (apply GvA.cons; (· exact .tmp _); (· exact GvP.c (.lit _))); (apply GvA.cons; (· exact .tmp _); (· exact GvP.c (.lit _))); exact GvA.nil); (· rfl); (· (decide))))
      simp [whenN, hf]

end Go.Proofs.YtpflmajlafpmcaaGreat

namespace Go.Proofs.YtpflmajlafpmcaaGreat
open Go.RowKit
set_option linter.unusedSectionVars false
variable [Glb]
set_option maxRecDepth 10000
set_option maxHeartbeats 4000000
theorem l12Chance_p (x y : Nat) (bwh : Int) (bll : List (List Int)) (pl : List Int) (ev : Int) (cc : List (List Int)) (ss nu : List Int) (co : Int) (hB : hallB x y bwh bll pl ev cc ss nu co = true) :
    PC Tryz.prog 21 [.g [dI x, dI y, dI bwh, eII bll, eI pl, dI ev, eII cc, eI ss, eI nu, dI co]] (.p (.c (dI (leastN bwh (chanceF y x bll pl) (y * x))))) := by
  have hH := jcz hB
  have hb := jbj hH.box
  have g1 := hb.x1; have g2 := hb.x3; have g3 := hb.y1; have g4 := hb.y3; have g5 := hb.len
  have hpl := hH.pl
  have hl := jbk hpl
  have hn : bll.length = y * x := Int.ofNat_inj.1 (by rw [g5, Int.natCast_mul, Int.mul_comm])
  have hm := jcq (jbn.2 ⟨⟨g1, g2⟩, g3, g4⟩)
  refine jar Tryz.func21 rfl rfl rfl (by kernel_rfl) rfl rfl ?_; intro _
  repeat' (first | (refine jaa (.box 31 _) ?_; refine jbc rfl rfl ?_) | (refine jaa (.assign _) ?_; (refine jac (jal rfl) rfl ?_)) | (refine jaa (.fieldAddr 31 _ 0) ?_; (refine jac (jad (off := 0) rfl (by kernel_rfl)) rfl ?_)) | (refine jaa (.fieldAddr 26 _ 2) ?_; (refine jac (jad (off := 2) rfl (by kernel_rfl)) rfl ?_)) | (refine jaa (.load 3 _) ?_; (refine jac (jae rfl rfl (by kernel_rfl) rfl) rfl ?_)) | refine jah ?_ | refine jaj ?_ | refine jai ?_ | refine jab ?_)
  apply jay [1, 3, 4] [1] rfl; (· (repeat (first | exact Pf.nil | apply Pf.cons (.c rfl (.d rfl)) | apply Pf.cons (.c rfl (.lp rfl))))); (· (repeat (first | exact Pb.nil | (apply Pb.cons; (· apply Nb.box rfl; (repeat (first | exact Ncs.nil rfl | (apply Ncs.cons rfl; (· (exact .d rfl))))))))))
  refine jbd [1] [1] (fun i => [(4, iN i), (3, iZ (leastN bwh (chanceF y x bll pl) i))]) (fun _ => []) (fun i => i ≤ bll.length) (fun i => bll.length - i) (0) ?_ (by (repeat (first | exact trivial | refine ⟨(by (rfl)), ?_⟩))) (by (repeat (exact trivial))) ?_
  · omega
  intro i hi
  by_cases hi2 : i < bll.length
  · obtain ⟨a, m, c1, c2, d1, d2, e⟩ := chance_split (X := x) (Y := y) bll pl (i := i) (by omega) (by omega)
    have b1 := jck hpl (i := a) (by omega) (by omega)
    have b2 := jck hpl (i := x + m) (by omega) (by omega)
    have r := boxB_at hH.box (q := i) (by omega) (by omega)
    rw [← c1] at b1
    rw [← c2] at b2
    repeat' (first | (refine jaa (.assign _) ?_; (refine jac (jal rfl) rfl ?_)) | (refine jaa (.fieldAddr 31 _ 0) ?_; (refine jac (jad (off := 0) rfl (by kernel_rfl)) rfl ?_)) | (refine jaa (.load 3 _) ?_; (first | refine jac (jae rfl rfl (by kernel_rfl) rfl) rfl ?_ | refine jac (jap rfl (by kernel_rfl) rfl) rfl ?_)) | (refine jaa (.move _) ?_; (refine jac (jak rfl) rfl ?_)) | (refine jaa (.fieldAddr 26 _ 3) ?_; (refine jac (jad (off := 3) rfl (by kernel_rfl)) rfl ?_)) | (refine jaa (.load 24 _) ?_; (refine jac (jae rfl rfl (by kernel_rfl) rfl) rfl ?_)) | (refine jaa (.call ⟨.builtin .len, _, #[24]⟩) ?_; (refine jac (jba rfl (by kernel_rfl)) rfl ?_)) | (refine jaa (.binOp .lss 3 _ _ _) ?_; refine jac (jbi rfl rfl) rfl ?_) | (refine jaa (.fieldAddr 31 _ 1) ?_; (refine jac (jad (off := 4) rfl (by kernel_rfl)) rfl ?_)) | (refine jaa (.load 27 _) ?_; (first | refine jac (jae rfl rfl (by kernel_rfl) rfl) rfl ?_ | refine jac (jap rfl (by kernel_rfl) rfl) rfl ?_)) | (refine jaa (.fieldAddr 26 _ 1) ?_; (refine jac (jad (off := 1) rfl (by kernel_rfl)) rfl ?_)) | (refine jaa (.binOp .quo 3 _ _ _) ?_; (refine jac (qt_quoN rfl rfl (by (omega)) (by (omega)) (by (omega))) rfl ?_)) | (refine jaa (.indexAddr 27 _ _) ?_; (refine jac (jcc rfl rfl (by kernel_rfl) (by (omega)) (by (omega))) rfl ?_)) | (refine jaa (.binOp .mul 3 _ _ _) ?_; refine jac (jcw rfl rfl (by (omega))) rfl ?_) | (refine jaa (.fieldAddr 26 _ 0) ?_; (refine jac (jad (off := 0) rfl (by kernel_rfl)) rfl ?_)) | (refine jaa (.binOp .rem 3 _ _ _) ?_; (refine jac (qt_remN rfl rfl (by (omega)) (by (omega)) (by (omega))) rfl ?_)) | (refine jaa (.binOp .add 3 _ _ _) ?_; refine jac (jax rfl rfl (by (omega))) rfl ?_) | (refine jaa (.indexAddr 24 _ _) ?_; (refine jac (jbx rfl rfl (by kernel_rfl) (by (omega)) (by (omega))) rfl ?_)) | (refine jaa (.call ⟨.value (.func 43), _, _⟩) ?_; (apply jam (fid := 43); (· (repeat (first | exact SeA.nil | apply SeA.cons (.c (.d _))))); (· exact l1Least_p _ _); (· rfl))) | refine jah ?_ | refine jaj ?_ | refine jai ?_ | refine jbh ?_ | refine jav rfl ?_ | refine jan ?_ | refine jab ?_ | refine jat 5 (fun _ => false) (.step 0 true (.step 1 true (.step 2 true (.step 3 true (.step 4 true (.step 5 true (.step 6 true (.step 7 true (.step 8 true (.step 9 true (.step 10 true (.step 11 true (.step 12 true (.step 13 true (.step 14 true (.step 15 true (.step 16 true (.step 17 true (.step 18 true (.step 19 true (.step 20 true (.step 21 true (.step 22 true (.step 23 true (.step 24 true .nil))))))))))))))))))))))))) [(0, 33554431, 33554431, true), (1, 33554430, 33554431, false), (0, 33554431, 33554431, true), (0, 33554431, 33554431, true), (8, 33554423, 33554431, true), (16, 33554415, 33554431, false), (36, 33554395, 33554431, true), (66, 33554365, 33554431, true), (128, 33554303, 33554431, false), (256, 33554175, 33554431, true), (0, 33554431, 33554431, true), (1024, 33553407, 33554431, false), (0, 33554431, 33554431, true), (4096, 33550335, 33554431, true), (8192, 33546239, 33554431, false), (0, 33554431, 33554431, true), (0, 33554431, 33554431, true), (65536, 33488895, 33554431, true), (131072, 33423359, 33554431, false), (294912, 33259519, 33554431, true), (540672, 33013759, 33554431, true), (1050624, 32503807, 33554431, true), (2097152, 31457279, 33554431, false), (4194816, 29359615, 33554431, true), (16777215, 25165823, 33554431, true)] (by kernel_rfl) (by kernel_rfl) ?_ | refine jbl rfl (fun hc => ?_) (fun hc => ?_))
    · refine jbf ?_; refine ⟨i + 1, ?_, ?_, jcf rfl (by (repeat (first | exact trivial | refine ⟨(by (rfl)), ?_⟩))) (by (repeat (first | exact trivial | refine ⟨rfl, ?_⟩))) (by (repeat (exact trivial))) (by (repeat (first | exact trivial | refine ⟨.inr rfl, ?_⟩)))⟩
      · omega
      · omega
    · exfalso; omega
  · have h8 : i = bll.length := by omega
    subst h8
    repeat' (first | (refine jaa (.assign _) ?_; (refine jac (jal rfl) rfl ?_)) | (refine jaa (.fieldAddr 31 _ 0) ?_; (refine jac (jad (off := 0) rfl (by kernel_rfl)) rfl ?_)) | (refine jaa (.load 3 _) ?_; (first | refine jac (jae rfl rfl (by kernel_rfl) rfl) rfl ?_ | refine jac (jap rfl (by kernel_rfl) rfl) rfl ?_)) | (refine jaa (.move _) ?_; (refine jac (jak rfl) rfl ?_)) | (refine jaa (.fieldAddr 26 _ 3) ?_; (refine jac (jad (off := 3) rfl (by kernel_rfl)) rfl ?_)) | (refine jaa (.load 24 _) ?_; (refine jac (jae rfl rfl (by kernel_rfl) rfl) rfl ?_)) | (refine jaa (.call ⟨.builtin .len, _, #[24]⟩) ?_; (refine jac (jba rfl (by kernel_rfl)) rfl ?_)) | (refine jaa (.binOp .lss 3 _ _ _) ?_; refine jac (jbi rfl rfl) rfl ?_) | (refine jaa (.fieldAddr 31 _ 1) ?_; (refine jac (jad (off := 4) rfl (by kernel_rfl)) rfl ?_)) | (refine jaa (.load 27 _) ?_; (first | refine jac (jae rfl rfl (by kernel_rfl) rfl) rfl ?_ | refine jac (jap rfl (by kernel_rfl) rfl) rfl ?_)) | (refine jaa (.fieldAddr 26 _ 1) ?_; (refine jac (jad (off := 1) rfl (by kernel_rfl)) rfl ?_)) | (refine jaa (.binOp .quo 3 _ _ _) ?_; (refine jac (qt_quoN rfl rfl (by (omega)) (by (omega)) (by (omega))) rfl ?_)) | (refine jaa (.indexAddr 27 _ _) ?_; (refine jac (jcc rfl rfl (by kernel_rfl) (by (omega)) (by (omega))) rfl ?_)) | (refine jaa (.binOp .mul 3 _ _ _) ?_; refine jac (jcw rfl rfl (by (omega))) rfl ?_) | (refine jaa (.fieldAddr 26 _ 0) ?_; (refine jac (jad (off := 0) rfl (by kernel_rfl)) rfl ?_)) | (refine jaa (.binOp .rem 3 _ _ _) ?_; (refine jac (qt_remN rfl rfl (by (omega)) (by (omega)) (by (omega))) rfl ?_)) | (refine jaa (.binOp .add 3 _ _ _) ?_; refine jac (jax rfl rfl (by (omega))) rfl ?_) | (refine jaa (.indexAddr 24 _ _) ?_; (refine jac (jbx rfl rfl (by kernel_rfl) (by (omega)) (by (omega))) rfl ?_)) | refine jah ?_ | refine jaj ?_ | refine jai ?_ | refine jav rfl ?_ | refine jan ?_ | refine jab ?_ | refine jat 5 (fun _ => false) (.step 0 true (.step 1 true (.step 2 true (.step 3 true (.step 4 true (.step 5 true (.step 6 true (.step 7 true (.step 8 true (.step 9 true (.step 10 true (.step 11 true (.step 12 true (.step 13 true (.step 14 true (.step 15 true (.step 16 true (.step 17 true (.step 18 true (.step 19 true (.step 20 true (.step 21 true (.step 22 true (.step 23 true (.step 24 true .nil))))))))))))))))))))))))) [(0, 33554431, 33554431, true), (1, 33554430, 33554431, false), (0, 33554431, 33554431, true), (0, 33554431, 33554431, true), (8, 33554423, 33554431, true), (16, 33554415, 33554431, false), (36, 33554395, 33554431, true), (66, 33554365, 33554431, true), (128, 33554303, 33554431, false), (256, 33554175, 33554431, true), (0, 33554431, 33554431, true), (1024, 33553407, 33554431, false), (0, 33554431, 33554431, true), (4096, 33550335, 33554431, true), (8192, 33546239, 33554431, false), (0, 33554431, 33554431, true), (0, 33554431, 33554431, true), (65536, 33488895, 33554431, true), (131072, 33423359, 33554431, false), (294912, 33259519, 33554431, true), (540672, 33013759, 33554431, true), (1050624, 32503807, 33554431, true), (2097152, 31457279, 33554431, false), (4194816, 29359615, 33554431, true), (16777215, 25165823, 33554431, true)] (by kernel_rfl) (by kernel_rfl) ?_ | refine jbl rfl (fun hc => ?_) (fun hc => ?_))
    · exfalso; omega
    · (apply jau; apply jaw; (· apply jbe.p; (· (apply GvA.cons; (· exact .tmp _); (· exact GvP.c (.lit _))); exact GvA.nil); (· (decide))))
      rw [hn]
theorem spPlayChance_p (bx by_ bwh : Int) (bll : List (List Int)) (pl : List Int) (ev : Int) (cc : List (List Int)) (ss nu : List Int) (co : Int) :
    PC Tryz.prog 7 [.g [dI bx, dI by_, dI bwh, eII bll, eI pl, dI ev, eII cc, eI ss, eI nu, dI co]] (.t [.c (dI (whenN (hallB bx by_ bwh bll pl ev cc ss nu co) (leastN bwh (chanceF by_.toNat bx.toNat bll pl) (by_.toNat * bx.toNat)))), .c (dB (hallB bx by_ bwh bll pl ev cc ss nu co))]) := by
  cases hB : hallB bx by_ bwh bll pl ev cc ss nu co with
  | false =>
    refine jar Tryz.func7 rfl rfl rfl (by kernel_rfl) rfl rfl ?_; intro _
    repeat' (first | (refine jaa (.box 31 _) ?_; refine jbc rfl rfl ?_) | (refine jaa (.assign _) ?_; (refine jac (jal rfl) rfl ?_)) | (refine jaa (.load 31 _) ?_; (refine jac (jaf rfl rfl (by kernel_rfl : tAgg _ 31 10 = true) rfl) rfl ?_)) | (refine jaa (.unOp .not 4 _) ?_; refine jac (jbz rfl) rfl ?_) | (refine jaa (.call ⟨.value (.func 20), _, _⟩) ?_; (apply jam (fid := 20); (· (repeat (first | exact SeA.nil | (apply SeA.cons; (· (apply SeP.g; (repeat (first | exact SeL.nil | apply SeL.cons (.d _))))))))); (· exact l12Good_p _ _ _ _ _ _ _ _ _ _); (· rfl))) | refine jah ?_ | refine jaj ?_ | refine jan ?_ | refine jab ?_ | refine jcm rfl (fun hc => ?_) (fun hc => ?_))
    all_goals first | (exfalso; simp_all; done) | skip
    (apply jau; apply jaw; (· apply jbe.t; (· (apply GvA.cons; (· exact .tmp _); (· exact GvP.c (.lit _))); (apply GvA.cons; (· exact .tmp _); (· exact GvP.c (.lit _))); exact GvA.nil); (· rfl); (· (decide))))
    simp [whenN]
  | true =>
    have hb := jbj (jcz hB).box
    have g1 := hb.x1; have g3 := hb.y1
    obtain ⟨x, rfl⟩ := Int.eq_ofNat_of_zero_le (by omega : 0 ≤ bx)
    obtain ⟨y, rfl⟩ := Int.eq_ofNat_of_zero_le (by omega : 0 ≤ by_)
    refine jar Tryz.func7 rfl rfl rfl (by kernel_rfl) rfl rfl ?_; intro _
    repeat' (first | (refine jaa (.box 31 _) ?_; refine jbc rfl rfl ?_) | (refine jaa (.assign _) ?_; (refine jac (jal rfl) rfl ?_)) | (refine jaa (.load 31 _) ?_; (refine jac (jaf rfl rfl (by kernel_rfl : tAgg _ 31 10 = true) rfl) rfl ?_)) | (refine jaa (.unOp .not 4 _) ?_; refine jac (jbz rfl) rfl ?_) | (refine jaa (.call ⟨.value (.func 20), _, _⟩) ?_; (apply jam (fid := 20); (· (repeat (first | exact SeA.nil | (apply SeA.cons; (· (apply SeP.g; (repeat (first | exact SeL.nil | apply SeL.cons (.d _))))))))); (· exact l12Good_p _ _ _ _ _ _ _ _ _ _); (· rfl))) | (refine jaa (.call ⟨.value (.func 21), _, _⟩) ?_; (apply jam (fid := 21); (· (repeat (first | exact SeA.nil | (apply SeA.cons; (· (apply SeP.g; (repeat (first | exact SeL.nil | apply SeL.cons (.d _))))))))); (· exact l12Chance_p _ _ _ _ _ _ _ _ _ _ hB); (· rfl))) | refine jah ?_ | refine jaj ?_ | refine jan ?_ | refine jab ?_ | refine jcm rfl (fun hc => ?_) (fun hc => ?_))
    all_goals first | (exfalso; simp_all; done) | skip
    (apply jau; apply jaw; (· apply jbe.t; (· (apply GvA.cons; (· exact .tmp _); (· exact GvP.c (.lit _))); (apply GvA.cons; (· exact .tmp _); (· exact GvP.c (.lit _))); exact GvA.nil); (· rfl); (· (decide))))
    simp [whenN]

end Go.Proofs.YtpflmajlafpmcaaGreat
