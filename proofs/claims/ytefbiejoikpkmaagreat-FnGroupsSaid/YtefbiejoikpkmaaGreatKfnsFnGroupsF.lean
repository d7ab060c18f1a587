/- What the functions that FnGroups reaches return: part of its proof. No condition beyond those of its theorems. -/
import Derived.Test.YtefbiejoikpkmaaGreatKfnsFnGroupsA
import Derived.Test.YtefbiejoikpkmaaGreatKfnsFnGroupsE
import Derived.Test.YtefbiejoikpkmaaGreatKplainB
import Derived.Test.YtefbiejoikpkmaaGreatKplainA
import Derived.Test.YtefbiejoikpkmaaGreatKplainC
import Derived.Test.YtefbiejoikpkmaaGreatKfnsFnGroupsD
import Derived.Test.YtefbiejoikpkmaaGreatKfnsFnGroupsB
set_option linter.unusedVariables false
set_option linter.unusedSimpArgs false
namespace Go.Proofs.YtefbiejoikpkmaaGreat
open Go.RowKit
set_option linter.unusedSectionVars false
variable [Glb]
set_option maxRecDepth 10000
set_option maxHeartbeats 4000000
theorem differ_p (k x y : Nat) (hk : k < 8) (hx : x < 2) (hy : y < 2) : PC Tryz.prog 202 [.c (dI k), .c (dI x), .c (dI y)] (.p (.c (dI (difK k x y)))) := by
  have e : ((x : Int) * y + (k : Int) / 4 % 2 * x + (k : Int) / 2 % 2 * y + (k : Int) % 2) % 2 = difK k x y ∧ (0 ≤ (x : Int) * y ∧ (x : Int) * y ≤ 1) ∧ (0 ≤ (k : Int) / 4 % 2 * x ∧ (k : Int) / 4 % 2 * x ≤ 1) ∧ (0 ≤ (k : Int) / 2 % 2 * y ∧ (k : Int) / 2 % 2 * y ≤ 1) := by
    unfold difK
    rcases (by omega : x = 0 ∨ x = 1) with rfl | rfl <;> rcases (by omega : y = 0 ∨ y = 1) with rfl | rfl <;> simp <;> omega
  refine pc_intro Tryz.func202 rfl rfl rfl (by kernel_rfl) rfl rfl ?_; intro _
  repeat' (first | (refine so_is (.assign _) ?_; (refine so_q (qt_asC rfl) rfl ?_)) | (refine so_is (.move _) ?_; (refine so_q (qt_mvC rfl) rfl ?_)) | (refine so_is (.binOp .shr 3 _ _ _) ?_; (first | refine so_q (qt_shrC (c := 4) rfl rfl (by decide)) rfl ?_ | refine so_q (qt_shrC (c := 2) rfl rfl (by decide)) rfl ?_)) | (refine so_is (.binOp .and 3 _ _ _) ?_; refine so_q (qt_andM 1 (c := 2) rfl rfl (by decide)) rfl ?_) | (refine so_is (.binOp .mul 3 _ _ _) ?_; refine so_q (qt_mulI rfl rfl (by (omega))) rfl ?_) | (refine so_is (.binOp .add 3 _ _ _) ?_; refine so_q (qt_addI rfl rfl (by (omega))) rfl ?_) | (refine so_is (.binOp .rem 3 _ _ _) ?_; (refine so_q (qt_remN rfl rfl (by (omega)) (by (omega)) (by (omega))) rfl ?_)) | refine so_nil ?_ | refine sk_seq ?_ | refine sk_region ?_)
  (apply sk_ret; apply ret_eq; (· apply RetOK.p; (· (apply GvA.cons; (· exact .tmp _); (· exact GvP.c (.lit _))); exact GvA.nil); (· (decide))))
  rw [← e.1]
theorem eightSums_p (n : Int) (ll : List (List Int)) (h : boxB 2 2 n ll = true) : PC Tryz.prog 157 [.g [dI 2, dI 2, dI n, eII ll]] (.p (.c (eI (sumsL ll)))) := by
  have hb := boxB_spec h
  have n1 := hb.n1; have n2 := hb.n2; have hl := hb.len
  refine pc_intro Tryz.func157 rfl rfl rfl (by kernel_rfl) rfl rfl ?_; intro _
  repeat' (first | (refine so_is (.box 26 _) ?_; refine so_box rfl rfl ?_) | (refine so_is (.assign _) ?_; (refine so_q (qt_asC rfl) rfl ?_)) | (refine so_is (.buildSlice 27 0 _) ?_; (apply so_bslice (sz := 1) (by_ := 8); (· kernel_rfl); (· decide); (· (repeat (exact GvS.nil _))); (· (decide)); (· rfl); (· rfl); (· rfl))) | (refine so_is (.move _) ?_; (refine so_q (qt_mvC rfl) rfl ?_)) | refine so_nil ?_ | refine sk_seq ?_ | refine sk_block ?_ | refine sk_region ?_)
  apply sk_packC [1, 3, 9] [1, 8, 40, 41] rfl; (· (repeat (first | exact Pf.nil | apply Pf.cons (.c rfl (.d rfl)) | apply Pf.cons (.c rfl (.ls rfl)) | apply Pf.cons (.c rfl (.lp rfl))))); (· (repeat (first | exact Pb.nil | apply Pb.cons (.row rfl) | (apply Pb.cons; (· apply Nb.box rfl; (repeat (first | exact Ncs.nil rfl | (apply Ncs.cons rfl; (· (exact .d rfl))))))) | apply Pb.skip)))
  refine sk_loopL [1] [1, 40, 41] (fun k => [(9, iN k), (3, .c (.ls 8 1 0 k))]) (fun k => [(8, .row 1 (cI (rowF (sgnK ll) k)))]) (fun k => k ≤ 8) (fun k => 8 - k) (0) ?_ (by (repeat (first | exact trivial | refine ⟨(by (rfl)), ?_⟩))) (by (repeat (first | exact trivial | refine ⟨(by (rfl)), ?_⟩))) ?_
  · omega
  intro k hk
  by_cases hk8 : k < 8
  · repeat' (first | (refine so_is (.assign _) ?_; (refine so_q (qt_asC rfl) rfl ?_)) | (refine so_is (.move _) ?_; (refine so_q (qt_mvC rfl) rfl ?_)) | (refine so_is (.binOp .lss 3 _ _ _) ?_; refine so_q (qt_lss rfl rfl) rfl ?_) | refine so_nil ?_ | refine sk_seq ?_ | refine sk_block ?_ | refine sk_exit rfl ?_ | refine sk_skip ?_ | refine sk_region ?_ | refine sk_if rfl (fun hc => ?_) (fun hc => ?_))
    all_goals first | (exfalso; omega) | skip
    apply sk_packC [1, 3, 4, 5, 9, 12] [1, 8, 40, 41] rfl; (· (repeat (first | exact Pf.nil | apply Pf.cons (.c rfl (.d rfl)) | apply Pf.cons (.c rfl (.ls rfl)) | apply Pf.cons (.c rfl (.lp rfl))))); (· (repeat (first | exact Pb.nil | apply Pb.cons (.row rfl) | (apply Pb.cons; (· apply Nb.box rfl; (repeat (first | exact Ncs.nil rfl | (apply Ncs.cons rfl; (· (exact .d rfl))))))) | apply Pb.skip)))
    refine sk_loopL [1, 3, 4, 9] [1, 8, 40, 41] (fun x => [(12, iN x), (5, iZ (accT (sgnT ll k) (2 * x)))]) (fun _ => []) (fun x => x ≤ 2) (fun x => 2 - x) (0) ?_ (by (repeat (first | exact trivial | refine ⟨(by (rfl)), ?_⟩))) (by (repeat (exact trivial))) ?_
    · omega
    intro x hx
    have bx := accT_bd (n := n) (by omega) (t := sgnT ll k) (m := 2 * x) fun j hj => sgnT_bd h k (by omega)
    by_cases hx2 : x < 2
    · repeat' (first | (refine so_is (.assign _) ?_; (refine so_q (qt_asC rfl) rfl ?_)) | (refine so_is (.move _) ?_; (refine so_q (qt_mvC rfl) rfl ?_)) | (refine so_is (.binOp .lss 3 _ _ _) ?_; refine so_q (qt_lss rfl rfl) rfl ?_) | (refine so_is (.binOp .add 3 _ _ _) ?_; refine so_q (qt_addI rfl rfl (by (omega))) rfl ?_) | (refine so_is (.buildSlice 27 1 _) ?_; (apply so_bslice (sz := 1) (by_ := 8); (· kernel_rfl); (· decide); (· (repeat (first | exact GvS.nil _ | apply GvS.c rfl rfl (.lit _) rfl))); (· (decide)); (· rfl); (· rfl); (· rfl))) | (refine so_is (.call ⟨.builtin .append, _, #[27, 27]⟩) ?_; ((apply so_appR (sz := 1) (by_ := 8); (· rfl); (· rfl); (· ((simp; done))); (· exact .row _ _ _ _ rfl (by ((simp; done)))); (· (decide)); (· kernel_rfl); (· decide); (· (omega)); (· (omega)); (· rfl); (· rfl); (· rfl)))) | refine so_nil ?_ | refine sk_seq ?_ | refine sk_block ?_ | refine sk_blk ?_ | refine sk_exit rfl ?_ | refine sk_skip ?_ | refine sk_region ?_ | refine sk_if rfl (fun hc => ?_) (fun hc => ?_))
      all_goals first | (exfalso; omega) | skip
      apply sk_packC [1, 3, 4, 5, 6, 9, 12, 15] [1, 8, 40, 41] rfl; (· (repeat (first | exact Pf.nil | apply Pf.cons (.c rfl (.d rfl)) | apply Pf.cons (.c rfl (.ls rfl)) | apply Pf.cons (.c rfl (.lp rfl))))); (· (repeat (first | exact Pb.nil | apply Pb.cons (.row rfl) | (apply Pb.cons; (· apply Nb.box rfl; (repeat (first | exact Ncs.nil rfl | (apply Ncs.cons rfl; (· (exact .d rfl))))))) | apply Pb.skip)))
      refine sk_loopL [1, 3, 4, 6, 9, 12] [1, 8, 40, 41] (fun y => [(15, iN y), (5, iZ (accT (sgnT ll k) (2 * x + y)))]) (fun _ => []) (fun y => y ≤ 2) (fun y => 2 - y) (0) ?_ (by (repeat (first | exact trivial | refine ⟨(by (rfl)), ?_⟩))) (by (repeat (exact trivial))) ?_
      · omega
      intro y hy
      have hm : 2 * x + y ≤ 4 := by omega
      have by_ := accT_bd (n := n) (by omega) (t := sgnT ll k) (m := 2 * x + y) fun j hj => sgnT_bd h k (by omega)
      have hmn : ((2 * x + y : Nat) : Int) * n ≤ 4 * 1000 := Int.mul_le_mul (by omega) n2 (by omega) (by omega)
      by_cases hy2 : y < 2
      · have a := agr_bd h (j := 2 * x + y) (by omega)
        have d := difK_bd k x y
        have sb := sign_bd a.1 a.2 d
        have hr := boxB_at h (q := 2 * (x : Int) + y) (by omega) (by omega)
        have st : sgnT ll k (2 * x + y) = agrZ (atZ ll (2 * (x : Int) + y)) * (1 - 2 * difK k x y) := by
          unfold sgnT
          rw [show (2 * x + y) / 2 = x by omega, show (2 * x + y) % 2 = y by omega]
          congr 2
        have e2 : ((2 * x + y : Nat) : Int) = 2 * (x : Int) + y := by omega
        rw [e2] at a sb
        have es : accT (sgnT ll k) (2 * x + (y + 1)) = accT (sgnT ll k) (2 * x + y) + agrZ (atZ ll (2 * (x : Int) + y)) * (1 - 2 * difK k x y) := by
          rw [← st]; rfl
        repeat' (first | (refine so_is (.assign _) ?_; (refine so_q (qt_asC rfl) rfl ?_)) | (refine so_is (.move _) ?_; (refine so_q (qt_mvC rfl) rfl ?_)) | (refine so_is (.binOp .lss 3 _ _ _) ?_; refine so_q (qt_lss rfl rfl) rfl ?_) | (refine so_is (.fieldAddr 26 _ 3) ?_; (refine so_q (qt_fld_lp (off := 3) rfl (by kernel_rfl)) rfl ?_)) | (refine so_is (.load 24 _) ?_; (refine so_q (qt_load_box rfl rfl (by kernel_rfl) rfl) rfl ?_)) | (refine so_is (.binOp .mul 3 _ _ _) ?_; refine so_q (qt_mulI rfl rfl (by (omega))) rfl ?_) | (refine so_is (.binOp .add 3 _ _ _) ?_; refine so_q (qt_addI rfl rfl (by (omega))) rfl ?_) | (refine so_is (.indexAddr 24 _ _) ?_; (refine so_q (qt_idxII rfl rfl (by kernel_rfl) (by (omega)) (by (omega))) rfl ?_)) | (refine so_is (.load 27 _) ?_; (refine so_q (qt_load_pt rfl (by kernel_rfl) rfl) rfl ?_)) | (refine so_is (.binOp .sub 3 _ _ _) ?_; refine so_q (qt_subI rfl rfl (by (omega))) rfl ?_) | (refine so_is (.call ⟨.value (.func 201), _, _⟩) ?_; (apply so_call0 (fid := 201); (· (repeat (first | exact SeA.nil | apply SeA.cons (.c (.d _))))); (· exact agreement_p _ hr.1 (fun p h1 h2 => by have := hr.2 p h1 h2; omega)); (· rfl))) | (refine so_is (.call ⟨.value (.func 202), _, _⟩) ?_; (apply so_call0 (fid := 202); (· (repeat (first | exact SeA.nil | apply SeA.cons (.c (.d _))))); (· exact differ_p _ _ _ hk8 hx2 hy2); (· rfl))) | refine so_nil ?_ | refine sk_seq ?_ | refine sk_block ?_ | refine sk_blk ?_ | refine sk_exit rfl ?_ | refine sk_skip ?_ | refine sk_region ?_ | refine sk_if rfl (fun hc => ?_) (fun hc => ?_))
        all_goals first | (exfalso; omega) | skip
        refine sk_back ?_; refine ⟨y + 1, ?_, ?_, le_at rfl (by (repeat (first | exact trivial | refine ⟨(by (first | rfl | (refine int_eq rfl ?_; (omega)))), ?_⟩))) (by (repeat (first | exact trivial | refine ⟨rfl, ?_⟩))) (by (repeat (exact trivial))) (by (repeat (first | exact trivial | refine ⟨.inr rfl, ?_⟩)))⟩
        · omega
        · omega
      · have e : y = 2 := by omega
        subst e
        repeat' (first | (refine so_is (.move _) ?_; (refine so_q (qt_mvC rfl) rfl ?_)) | (refine so_is (.binOp .lss 3 _ _ _) ?_; refine so_q (qt_lss rfl rfl) rfl ?_) | (refine so_is (.binOp .add 3 _ _ _) ?_; refine so_q (qt_addI rfl rfl (by (omega))) rfl ?_) | refine so_nil ?_ | refine sk_seq ?_ | refine sk_blk ?_ | refine sk_exit rfl ?_ | refine sk_region ?_ | refine sk_false rfl ?_)
        all_goals first | (exfalso; omega) | skip
        refine sk_back ?_; refine ⟨x + 1, ?_, ?_, le_at rfl (by (repeat (first | exact trivial | refine ⟨(by (rfl)), ?_⟩))) (by (repeat (first | exact trivial | refine ⟨rfl, ?_⟩))) (by (repeat (exact trivial))) (by (repeat (first | exact trivial | refine ⟨.inr rfl, ?_⟩)))⟩
        · omega
        · omega
    · have e : x = 2 := by omega
      subst e
      repeat' (first | (refine so_is (.assign _) ?_; (refine so_q (qt_asC rfl) rfl ?_)) | (refine so_is (.move _) ?_; (refine so_q (qt_mvC rfl) rfl ?_)) | (refine so_is (.binOp .lss 3 _ _ _) ?_; refine so_q (qt_lss rfl rfl) rfl ?_) | (refine so_is (.binOp .add 3 _ _ _) ?_; refine so_q (qt_addI rfl rfl (by (omega))) rfl ?_) | (refine so_is (.buildSlice 27 1 _) ?_; (apply so_bslice (sz := 1) (by_ := 8); (· kernel_rfl); (· decide); (· (repeat (first | exact GvS.nil _ | apply GvS.c rfl rfl (.lit _) rfl))); (· (decide)); (· rfl); (· rfl); (· rfl))) | (refine so_is (.call ⟨.builtin .append, _, #[27, 27]⟩) ?_; ((apply so_appR (sz := 1) (by_ := 8); (· rfl); (· rfl); (· ((simp; done))); (· exact .row _ _ _ _ rfl (by ((simp; done)))); (· (decide)); (· kernel_rfl); (· decide); (· (omega)); (· (omega)); (· rfl); (· rfl); (· rfl)))) | refine so_nil ?_ | refine sk_seq ?_ | refine sk_blk ?_ | refine sk_exit rfl ?_ | refine sk_region ?_ | refine sk_false rfl ?_)
      all_goals first | (exfalso; omega) | skip
      refine sk_back ?_; refine ⟨k + 1, ?_, ?_, le_at rfl (by (repeat (first | exact trivial | refine ⟨(by (rfl)), ?_⟩))) (by (repeat (first | exact trivial | refine ⟨rfl, ?_⟩))) (by (repeat (first | exact trivial | refine ⟨(by ((refine row_eq rfl ?_; simp  [rowF_snoc, sgnK]; done))), ?_⟩))) (by (repeat (first | exact trivial | refine ⟨.inr rfl, ?_⟩)))⟩
      · omega
      · omega
  · have e : k = 8 := by omega
    subst e
    repeat' (first | (refine so_is (.assign _) ?_; (refine so_q (qt_asC rfl) rfl ?_)) | (refine so_is (.move _) ?_; (refine so_q (qt_mvC rfl) rfl ?_)) | (refine so_is (.binOp .lss 3 _ _ _) ?_; refine so_q (qt_lss rfl rfl) rfl ?_) | refine so_nil ?_ | refine sk_seq ?_ | refine sk_exit rfl ?_ | refine sk_region ?_ | refine sk_false rfl ?_)
    all_goals first | (exfalso; omega) | skip
    (apply sk_ret; apply ret_eq; (· apply RetOK.p; (· (apply GvA.cons; (· exact .tmp _); (· (exact GvP.c (.row _ _ _ _ rfl (by ((simp; done))))))); exact GvA.nil); (· (decide))))
    simp [sumsL]

end Go.Proofs.YtefbiejoikpkmaaGreat

namespace Go.Proofs.YtefbiejoikpkmaaGreat
open Go.RowKit
set_option linter.unusedSectionVars false
variable [Glb]
set_option maxRecDepth 10000
set_option maxHeartbeats 4000000
theorem EightSums_p (n : Int) (ll : List (List Int)) (h : boxB 2 2 n ll = true) : PC Tryz.prog 68 [.g [dI 2, dI 2, dI n, eII ll]] (.t [.c (eI (sumsL ll)), .c (dB true)]) := by
  have w := isPair_p 2 2 n ll
  rw [show pairB 2 2 n ll = true by simp [pairB, h]] at w
  refine pc_intro Tryz.func68 rfl rfl rfl (by kernel_rfl) rfl rfl ?_; intro _
  repeat' (first | (refine so_is (.box 26 _) ?_; refine so_box rfl rfl ?_) | (refine so_is (.assign _) ?_; (refine so_q (qt_asC rfl) rfl ?_)) | (refine so_is (.load 26 _) ?_; (refine so_q (qt_load_boxs rfl rfl (by kernel_rfl : tAgg _ 26 4 = true) rfl) rfl ?_)) | (refine so_is (.unOp .not 4 _) ?_; refine so_q (qt_not rfl) rfl ?_) | (refine so_is (.call ⟨.value (.func 144), _, _⟩) ?_; (apply so_call0 (fid := 144); (· (repeat (first | exact SeA.nil | (apply SeA.cons; (· (apply SeP.g; (repeat (first | exact SeL.nil | apply SeL.cons (.d _))))))))); (· exact w); (· rfl))) | (refine so_is (.call ⟨.value (.func 157), _, _⟩) ?_; ((apply so_callO0 (fid := 157); (· (repeat (first | exact SeA.nil | (apply SeA.cons; (· (apply SeP.g; (repeat (first | exact SeL.nil | apply SeL.cons (.d _))))))))); (· exact eightSums_p n ll h); (· rfl); (· rfl)))) | refine so_nil ?_ | refine sk_seq ?_ | refine sk_skip ?_ | refine sk_region ?_ | refine sk_false rfl ?_)
  all_goals first | (exfalso; simp_all; done) | skip
  (apply sk_ret; apply ret_eq; (· apply RetOK.t; (· (apply GvA.cons; (· exact .tmp _); (· (exact GvP.c (.row _ _ _ _ rfl (by ((simp; done))))))); (apply GvA.cons; (· exact .tmp _); (· exact GvP.c (.lit _))); exact GvA.nil); (· rfl); (· (decide))))
  rfl

end Go.Proofs.YtefbiejoikpkmaaGreat

namespace Go.Proofs.YtefbiejoikpkmaaGreat
open Go.RowKit
set_option linter.unusedSectionVars false
variable [Glb]
set_option maxRecDepth 10000
set_option maxHeartbeats 4000000
theorem grp_both (a : Int) (own joint : List Int) (n : Int) : ∃ (n2 : Int) (l2 : List (List Int)) (b : Bool),
    PC Tryz.prog 55 [.c (dI a), .c (eI own), .c (eI joint), .c (dI n)] (.t [.g [dI n2, eII l2], .c (dB b)]) ∧
    PC Tryz.prog 56 [.c (dI a), .c (eI own), .c (eI joint), .c (dI n)] (.t [.g [dI n2, eII l2], .c (dB b)]) ∧
    (b = true → groupB a own joint n = true ∧ n2 = n ∧ l2 = gridF (ansF n fun q => grpV a own joint q) 8 8) := by
  refine ⟨_, _, _, GroupTrio_p a own joint n, spGroupTrio_p a own joint n, fun hb => ⟨hb, ?_⟩⟩
  rw [hb]
  exact ⟨rfl, rfl⟩
theorem pair_both (n : Int) (ll : List (List Int)) (a : Int) : ∃ (x y n2 : Int) (l2 : List (List Int)) (b : Bool),
    PC Tryz.prog 59 [.g [dI n, eII ll], .c (dI a)] (.t [.g [dI x, dI y, dI n2, eII l2], .c (dB b)]) ∧
    PC Tryz.prog 60 [.g [dI n, eII ll], .c (dI a)] (.t [.g [dI x, dI y, dI n2, eII l2], .c (dB b)]) ∧
    (b = true → (trioB n ll = true ∧ quiet3 ll = true ∧ (a = 0 ∨ a = 1 ∨ a = 2)) ∧ x = 2 ∧ y = 2 ∧ n2 = n ∧ l2 = boxF (pairV a ll) 2 4) := by
  refine ⟨_, _, _, _, _, PairOf_p n ll a, spPairOf_p n ll a, fun hb => ?_⟩
  have h := hb
  simp only [pairOfB, Bool.and_eq_true] at h
  rw [hb]
  exact ⟨⟨h.1, h.2.1, inB_02 h.2.2⟩, rfl, rfl, rfl, rfl⟩
theorem pair_yes {n : Int} {ll : List (List Int)} {a : Int} (ht : trioB n ll = true) (hq : quiet3 ll = true) (ha : inB a 0 2 = true) : PC Tryz.prog 59 [.g [dI n, eII ll], .c (dI a)] (.t [.g [dI 2, dI 2, dI n, eII (boxF (pairV a ll) 2 4)], .c (dB true)]) := by
  have := PairOf_p n ll a
  rwa [show pairOfB n ll a = true by simp [pairOfB, ht, hq, ha]] at this
theorem third_both (x y n : Int) (ll : List (List Int)) (ch : List Int) (most : Int) : ∃ (n2 : Int) (l2 : List (List Int)) (b : Bool),
    PC Tryz.prog 62 [.g [dI x, dI y, dI n, eII ll], .c (eI ch), .c (dI most)] (.t [.g [dI n2, eII l2], .c (dB b)]) ∧
    PC Tryz.prog 63 [.g [dI x, dI y, dI n, eII ll], .c (eI ch), .c (dI most)] (.t [.g [dI n2, eII l2], .c (dB b)]) ∧
    (b = true → ThirdOK x y n ll ch most ∧ trioB (n * most) (gridF (thirdF ll ch most) 8 8) = true ∧ n2 = n * most ∧ l2 = gridF (thirdF ll ch most) 8 8) := by
  refine ⟨_, _, _, AddThird_p x y n ll ch most, spAddThird_p x y n ll ch most, fun hb => ?_⟩
  have h := hb
  simp only [thirdOK, Bool.and_eq_true] at h
  rw [hb]
  exact ⟨thirdB_spec h.1, h.2, rfl, rfl⟩
theorem val_both (w odd : List Int) : ∃ (v : Int) (b : Bool),
    PC Tryz.prog 65 [.c (eI w), .c (eI odd)] (.t [.c (dI v), .c (dB b)]) ∧ PC Tryz.prog 66 [.c (eI w), .c (eI odd)] (.t [.c (dI v), .c (dB b)]) :=
  ⟨_, _, TrioValue_p w odd, spTrioValue_p w odd⟩
theorem monog {a n : Int} {ll : List (List Int)} (ha : a = 0 ∨ a = 1 ∨ a = 2) (ht : trioB n ll = true) (hq : quiet3 ll = true) {k k' : Nat} (hk : k < 8) (hk' : k' < 8) : sgnK (boxF (pairV a ll) 2 4) k + sgnK (boxF (pairV ((a + 1) % 3) ll) 2 4) k' ≤ 4 * n := by
  rcases ha with rfl | rfl | rfl
  · exact monog_0 ht hq hk hk'
  · exact monog_1 ht hq hk hk'
  · exact monog_2 ht hq hk hk'
theorem most_bd {n : Int} {ll : List (List Int)} (h : boxB 2 2 n ll = true) : ∃ k, k < 8 ∧ mostR (sumsL ll) 7 = sgnK ll k ∧ -4000 ≤ mostR (sumsL ll) 7 ∧ mostR (sumsL ll) 7 ≤ 4000 := by
  obtain ⟨k, hk, e⟩ := mostR_mem (sumsL ll) 7
  have b := boxB_spec h
  have n1 := b.n1
  have n2 := b.n2
  have a := accT_bd (t := sgnT ll k) (n := n) (m := 4) (by omega) fun j hj => sgnT_bd h k hj
  rw [sumsL_at ll (by omega)] at e
  refine ⟨k, by omega, e, ?_⟩
  rw [e]
  unfold sgnK
  omega
theorem FnGroups_p (code : Tx) : PC Tryz.prog 6 [.c (eB code)] (.p (.c (dB true))) := by
  by_cases hbig : code.length ≤ 65536
  · refine pc_intro Tryz.func6 rfl rfl rfl (by kernel_rfl) rfl rfl ?_; intro _
    repeat' (first | (refine so_is (.assign _) ?_; (refine so_q (qt_asC rfl) rfl ?_)) | (refine so_is (.move _) ?_; (first | refine so_q (qt_mvC rfl) rfl ?_ | refine so_q (qt_mvT rfl) rfl ?_)) | (refine so_is (.extract _ _) ?_; refine so_q (qt_extract rfl rfl) rfl ?_) | (refine so_is (.call ⟨.value (.func 7), _, _⟩) ?_; (apply so_call0 (fid := 7); (· (repeat (first | exact SeA.nil | apply SeA.cons (.c (.d _))))); (· exact rBig_p _); (· rfl))) | (refine so_is (.call ⟨.value (.func 54), _, _⟩) ?_; (apply so_callE (fid := 54); (· (repeat (first | exact SeA.nil | apply SeA.cons (.c (.d _))))); (· exact DrawGroupTrio_p _); (· rfl); (rintro _ ⟨al, own, joint, wh, hal, hwh, ho, hj, rfl⟩))) | refine so_nil ?_ | refine sk_seq ?_ | refine sk_skip ?_ | refine sk_region (id := 0) ?_ | refine sk_region (id := 1) ?_ | refine sk_region (id := 2) ?_ | (apply sk_pack 3 [0] [] rfl; (· (repeat (first | exact Pf.nil | apply Pf.cons (.c rfl (.d rfl))))); (· (repeat (exact Pb.nil))); refine sk_region (id := 3) ?_) | refine sk_if rfl (fun hc => ?_) (fun hc => ?_))
    all_goals first | (exfalso; omega) | (exfalso; simp_all; done) | skip
    obtain ⟨gn, gl, gb, g1, g2, g3⟩ := grp_both al own joint wh
    repeat' (first | (refine so_is (.assign _) ?_; (refine so_q (qt_asC rfl) rfl ?_)) | (refine so_is (.move _) ?_; (first | refine so_q (qt_mvC rfl) rfl ?_ | refine so_q (qt_mvT rfl) rfl ?_)) | (refine so_is (.extract _ _) ?_; refine so_q (qt_extract rfl rfl) rfl ?_) | (refine so_is (.alloc 88) ?_; refine so_alloc (zs := [.int .i64 0, .slice none 0 0]) (by kernel_rfl) rfl ?_) | (refine so_is (.store 88 _ _) ?_; (refine so_store_box rfl rfl rfl (by kernel_rfl) rfl rfl ?_)) | (refine so_is (.binOp .neq 4 _ _ _) ?_; (refine so_q (qt_neqB_same (by kernel_rfl) rfl rfl) rfl ?_)) | (refine so_is (.load 88 _) ?_; (refine so_q (qt_load_boxs rfl rfl (by kernel_rfl : tAgg _ 88 2 = true) rfl) rfl ?_)) | (refine so_is (.unOp .not 4 _) ?_; refine so_q (qt_not rfl) rfl ?_) | (refine so_is (.pick _ _ _) ?_; (refine so_q (qt_pkC rfl rfl) rfl ?_)) | (refine so_is (.call ⟨.value (.func 55), _, _⟩) ?_; ((apply so_call0 (fid := 55); (· (repeat (first | exact SeA.nil | apply SeA.cons (.c (.d _))))); (· exact g1); (· rfl)))) | (refine so_is (.call ⟨.value (.func 56), _, _⟩) ?_; ((apply so_call0 (fid := 56); (· (repeat (first | exact SeA.nil | apply SeA.cons (.c (.d _))))); (· exact g2); (· rfl)))) | (refine so_is (.call ⟨.value (.func 57), _, _⟩) ?_; ((apply so_call0 (fid := 57); (· (repeat (first | exact SeA.nil | (apply SeA.cons; (· (apply SeP.g; (repeat (first | exact SeL.nil | apply SeL.cons (.d _))))))))); (· exact rTrio_same _ _); (· rfl)))) | (refine so_is (.call ⟨.value (.func 58), _, _⟩) ?_; ((apply so_callVE (fid := 58); (· (repeat (first | exact SdA.nil | apply SdA.c rfl))); (· exact DrawPairOf_p _); (· rfl); (rintro _ ⟨un, ul, uo, rfl⟩)))) | refine so_nil ?_ | refine so_g_yes rfl rfl rfl rfl ?_ | refine sk_seq ?_ | refine sk_skip ?_ | (apply sk_pack 4 [0, 3, 4, 5, 6] [1050, 2050] rfl; (· (repeat (first | exact Pf.nil | apply Pf.cons (.c rfl (.d rfl))))); (· (repeat (first | exact Pb.nil | apply Pb.skip))); refine sk_region (id := 4) ?_) | (apply sk_pack 5 [0, 3, 4, 5, 6, 7, 8] [1050, 2050, 1060, 7] rfl; (· (repeat (first | exact Pf.nil | apply Pf.cons (.c rfl (.d rfl)) | apply Pf.cons (.c rfl (.lp rfl))))); (· (repeat (first | exact Pb.nil | (apply Pb.cons; (· apply Nb.box rfl; (repeat (first | exact Ncs.nil rfl | (apply Ncs.cons rfl; (· (exact .d rfl))))))) | apply Pb.skip))); refine sk_region (id := 5) ?_) | (apply sk_pack 6 [0, 6, 7, 8, 9, 10] [1050, 2050, 1060, 7, 1068, 9] rfl; (· (repeat (first | exact Pf.nil | apply Pf.cons (.c rfl (.d rfl)) | apply Pf.cons (.c rfl (.lp rfl))))); (· (repeat (first | exact Pb.nil | (apply Pb.cons; (· apply Nb.box rfl; (repeat (first | exact Ncs.nil rfl | (apply Ncs.cons rfl; (· (exact .d rfl))))))) | apply Pb.skip))); refine sk_region (id := 6) ?_) | (apply sk_pack 8 [0, 6, 7, 8] [1050, 2050, 1060, 7, 1068, 9] rfl; (· (repeat (first | exact Pf.nil | apply Pf.cons (.c rfl (.d rfl)) | apply Pf.cons (.c rfl (.lp rfl))))); (· (repeat (first | exact Pb.nil | (apply Pb.cons; (· apply Nb.box rfl; (repeat (first | exact Ncs.nil rfl | (apply Ncs.cons rfl; (· (exact .d rfl))))))) | apply Pb.skip))); refine sk_region (id := 8) ?_) | refine sk_false rfl ?_)
    all_goals first | (exfalso; omega) | (exfalso; simp_all; done) | skip
    obtain ⟨px, py, pn, pl, pb, p1, p2, p3⟩ := pair_both un ul uo
    repeat' (first | (refine so_is (.assign _) ?_; (refine so_q (qt_asC rfl) rfl ?_)) | (refine so_is (.move _) ?_; (first | refine so_q (qt_mvC rfl) rfl ?_ | refine so_q (qt_mvT rfl) rfl ?_)) | (refine so_is (.extract _ _) ?_; refine so_q (qt_extract rfl rfl) rfl ?_) | (refine so_is (.binOp .neq 4 _ _ _) ?_; (refine so_q (qt_neqB_same (by kernel_rfl) rfl rfl) rfl ?_)) | (refine so_is (.load 88 _) ?_; (refine so_q (qt_load_boxs rfl rfl (by kernel_rfl : tAgg _ 88 2 = true) rfl) rfl ?_)) | (refine so_is (.unOp .not 4 _) ?_; refine so_q (qt_not rfl) rfl ?_) | (refine so_is (.pick _ _ _) ?_; (refine so_q (qt_pkC rfl rfl) rfl ?_)) | (refine so_is (.alloc 26) ?_; refine so_alloc (zs := [.int .i64 0, .int .i64 0, .int .i64 0, .slice none 0 0]) (by kernel_rfl) rfl ?_) | (refine so_is (.store 26 _ _) ?_; (refine so_store_box rfl rfl rfl (by kernel_rfl) rfl rfl ?_)) | (refine so_is (.load 26 _) ?_; (refine so_q (qt_load_boxs rfl rfl (by kernel_rfl : tAgg _ 26 4 = true) rfl) rfl ?_)) | (refine so_is (.call ⟨.value (.func 59), _, _⟩) ?_; ((apply so_call0 (fid := 59); (· (repeat (first | exact SeA.nil | apply SeA.cons (.c (.d _)) | (apply SeA.cons; (· (apply SeP.g; (repeat (first | exact SeL.nil | apply SeL.cons (.d _))))))))); (· exact p1); (· rfl)))) | (refine so_is (.call ⟨.value (.func 60), _, _⟩) ?_; ((apply so_call0 (fid := 60); (· (repeat (first | exact SeA.nil | apply SeA.cons (.c (.d _)) | (apply SeA.cons; (· (apply SeP.g; (repeat (first | exact SeL.nil | apply SeL.cons (.d _))))))))); (· exact p2); (· rfl)))) | (refine so_is (.call ⟨.value (.func 11), _, _⟩) ?_; ((apply so_call0 (fid := 11); (· (repeat (first | exact SeA.nil | (apply SeA.cons; (· (apply SeP.g; (repeat (first | exact SeL.nil | apply SeL.cons (.d _))))))))); (· exact rBox_same _ _ _ _); (· rfl)))) | (refine so_is (.call ⟨.value (.func 61), _, _⟩) ?_; ((apply so_callVE (fid := 61); (· (repeat (first | exact SdA.nil | apply SdA.c rfl))); (· exact DrawAddThird_p _); (· rfl); (rintro _ ⟨bx, by_, bn, bl, ch, most, rfl⟩)))) | refine so_nil ?_ | refine so_g_yes rfl rfl rfl rfl ?_ | refine sk_seq ?_ | refine sk_skip ?_ | (apply sk_pack 9 [0, 6, 7, 8, 11, 12] [1050, 2050, 1060, 7, 1068, 9, 1082, 11] rfl; (· (repeat (first | exact Pf.nil | apply Pf.cons (.c rfl (.d rfl)) | apply Pf.cons (.c rfl (.lp rfl))))); (· (repeat (first | exact Pb.nil | (apply Pb.cons; (· apply Nb.box rfl; (repeat (first | exact Ncs.nil rfl | (apply Ncs.cons rfl; (· (exact .d rfl))))))) | apply Pb.skip))); refine sk_region (id := 9) ?_) | (apply sk_pack 10 [0, 6, 7, 8, 11, 12, 13, 14] [1050, 2050, 1060, 7, 1068, 9, 1082, 11, 3088, 13] rfl; (· (repeat (first | exact Pf.nil | apply Pf.cons (.c rfl (.d rfl)) | apply Pf.cons (.c rfl (.lp rfl))))); (· (repeat (first | exact Pb.nil | (apply Pb.cons; (· apply Nb.box rfl; (repeat (first | exact Ncs.nil rfl | (apply Ncs.cons rfl; (· (exact .d rfl))))))) | apply Pb.skip))); refine sk_region (id := 10) ?_) | (apply sk_pack 11 [0, 6, 7, 8, 11, 12, 13, 14, 15, 16] [1050, 2050, 1060, 7, 1068, 9, 1082, 11, 3088, 13, 3094, 15] rfl; (· (repeat (first | exact Pf.nil | apply Pf.cons (.c rfl (.d rfl)) | apply Pf.cons (.c rfl (.lp rfl))))); (· (repeat (first | exact Pb.nil | (apply Pb.cons; (· apply Nb.box rfl; (repeat (first | exact Ncs.nil rfl | (apply Ncs.cons rfl; (· (exact .d rfl))))))) | apply Pb.skip))); refine sk_region (id := 11) ?_) | (apply sk_pack 13 [0, 6, 7, 8, 11, 12, 13, 14] [1050, 2050, 1060, 7, 1068, 9, 1082, 11, 3088, 13, 3094, 15] rfl; (· (repeat (first | exact Pf.nil | apply Pf.cons (.c rfl (.d rfl)) | apply Pf.cons (.c rfl (.lp rfl))))); (· (repeat (first | exact Pb.nil | (apply Pb.cons; (· apply Nb.box rfl; (repeat (first | exact Ncs.nil rfl | (apply Ncs.cons rfl; (· (exact .d rfl))))))) | apply Pb.skip))); refine sk_region (id := 13) ?_) | refine sk_false rfl ?_)
    all_goals first | (exfalso; omega) | (exfalso; simp_all; done) | skip
    obtain ⟨tn, tl, tb, t1, t2, t3⟩ := third_both bx by_ bn bl ch most
    repeat' (first | (refine so_is (.assign _) ?_; (refine so_q (qt_asC rfl) rfl ?_)) | (refine so_is (.move _) ?_; (first | refine so_q (qt_mvC rfl) rfl ?_ | refine so_q (qt_mvT rfl) rfl ?_)) | (refine so_is (.extract _ _) ?_; refine so_q (qt_extract rfl rfl) rfl ?_) | (refine so_is (.alloc 88) ?_; refine so_alloc (zs := [.int .i64 0, .slice none 0 0]) (by kernel_rfl) rfl ?_) | (refine so_is (.store 88 _ _) ?_; (refine so_store_box rfl rfl rfl (by kernel_rfl) rfl rfl ?_)) | (refine so_is (.binOp .neq 4 _ _ _) ?_; (refine so_q (qt_neqB_same (by kernel_rfl) rfl rfl) rfl ?_)) | (refine so_is (.load 88 _) ?_; (refine so_q (qt_load_boxs rfl rfl (by kernel_rfl : tAgg _ 88 2 = true) rfl) rfl ?_)) | (refine so_is (.unOp .not 4 _) ?_; refine so_q (qt_not rfl) rfl ?_) | (refine so_is (.pick _ _ _) ?_; (refine so_q (qt_pkC rfl rfl) rfl ?_)) | (refine so_is (.load 26 _) ?_; (refine so_q (qt_load_boxs rfl rfl (by kernel_rfl : tAgg _ 26 4 = true) rfl) rfl ?_)) | (refine so_is (.call ⟨.value (.func 57), _, _⟩) ?_; ((apply so_call0 (fid := 57); (· (repeat (first | exact SeA.nil | (apply SeA.cons; (· (apply SeP.g; (repeat (first | exact SeL.nil | apply SeL.cons (.d _))))))))); (· exact rTrio_same _ _); (· rfl)))) | (refine so_is (.call ⟨.value (.func 62), _, _⟩) ?_; ((apply so_call0 (fid := 62); (· (repeat (first | exact SeA.nil | apply SeA.cons (.c (.d _)) | (apply SeA.cons; (· (apply SeP.g; (repeat (first | exact SeL.nil | apply SeL.cons (.d _))))))))); (· exact t1); (· rfl)))) | (refine so_is (.call ⟨.value (.func 63), _, _⟩) ?_; ((apply so_call0 (fid := 63); (· (repeat (first | exact SeA.nil | apply SeA.cons (.c (.d _)) | (apply SeA.cons; (· (apply SeP.g; (repeat (first | exact SeL.nil | apply SeL.cons (.d _))))))))); (· exact t2); (· rfl)))) | (refine so_is (.call ⟨.value (.func 64), _, _⟩) ?_; ((apply so_callVE (fid := 64); (· (repeat (first | exact SdA.nil | apply SdA.c rfl))); (· exact DrawTrioValue_p _); (· rfl); (rintro _ ⟨vw, vo, rfl⟩)))) | refine so_nil ?_ | refine so_g_yes rfl rfl rfl rfl ?_ | refine sk_seq ?_ | refine sk_skip ?_ | (apply sk_pack 14 [0, 6, 7, 8, 11, 12, 13, 14, 17, 18, 19] [1050, 2050, 1060, 7, 1068, 9, 1082, 11, 3088, 13, 3094, 15, 3108, 4108, 17] rfl; (· (repeat (first | exact Pf.nil | apply Pf.cons (.c rfl (.d rfl)) | apply Pf.cons (.c rfl (.lp rfl))))); (· (repeat (first | exact Pb.nil | (apply Pb.cons; (· apply Nb.box rfl; (repeat (first | exact Ncs.nil rfl | (apply Ncs.cons rfl; (· (exact .d rfl))))))) | apply Pb.skip))); refine sk_region (id := 14) ?_) | (apply sk_pack 15 [0, 6, 7, 8, 11, 12, 13, 14, 17, 18, 19, 20, 21] [1050, 2050, 1060, 7, 1068, 9, 1082, 11, 3088, 13, 3094, 15, 3108, 4108, 17, 1116, 20] rfl; (· (repeat (first | exact Pf.nil | apply Pf.cons (.c rfl (.d rfl)) | apply Pf.cons (.c rfl (.lp rfl))))); (· (repeat (first | exact Pb.nil | (apply Pb.cons; (· apply Nb.box rfl; (repeat (first | exact Ncs.nil rfl | (apply Ncs.cons rfl; (· (exact .d rfl))))))) | apply Pb.skip))); refine sk_region (id := 15) ?_) | (apply sk_pack 16 [0, 6, 7, 8, 11, 12, 13, 14, 17, 20, 21, 22, 23] [1050, 2050, 1060, 7, 1068, 9, 1082, 11, 3088, 13, 3094, 15, 3108, 4108, 17, 1116, 20, 1123, 22] rfl; (· (repeat (first | exact Pf.nil | apply Pf.cons (.c rfl (.d rfl)) | apply Pf.cons (.c rfl (.lp rfl))))); (· (repeat (first | exact Pb.nil | (apply Pb.cons; (· apply Nb.box rfl; (repeat (first | exact Ncs.nil rfl | (apply Ncs.cons rfl; (· (exact .d rfl))))))) | apply Pb.skip))); refine sk_region (id := 16) ?_) | (apply sk_pack 18 [0, 6, 7, 8, 11, 12, 13, 14, 17, 20, 21] [1050, 2050, 1060, 7, 1068, 9, 1082, 11, 3088, 13, 3094, 15, 3108, 4108, 17, 1116, 20, 1123, 22] rfl; (· (repeat (first | exact Pf.nil | apply Pf.cons (.c rfl (.d rfl)) | apply Pf.cons (.c rfl (.lp rfl))))); (· (repeat (first | exact Pb.nil | (apply Pb.cons; (· apply Nb.box rfl; (repeat (first | exact Ncs.nil rfl | (apply Ncs.cons rfl; (· (exact .d rfl))))))) | apply Pb.skip))); refine sk_region (id := 18) ?_) | refine sk_false rfl ?_)
    all_goals first | (exfalso; omega) | (exfalso; simp_all; done) | skip
    obtain ⟨vv, vb, v1, v2⟩ := val_both vw vo
    repeat' (first | (refine so_is (.assign _) ?_; (refine so_q (qt_asC rfl) rfl ?_)) | (refine so_is (.move _) ?_; (first | refine so_q (qt_mvC rfl) rfl ?_ | refine so_q (qt_mvT rfl) rfl ?_)) | (refine so_is (.extract _ _) ?_; refine so_q (qt_extract rfl rfl) rfl ?_) | (refine so_is (.binOp .neq 4 _ _ _) ?_; (refine so_q (qt_neqB_same (by kernel_rfl) rfl rfl) rfl ?_)) | (refine so_is (.pick _ _ _) ?_; (refine so_q (qt_pkC rfl rfl) rfl ?_)) | (refine so_is (.binOp .neq 3 _ _ _) ?_; (refine so_q (qt_neq_same rfl rfl) rfl ?_)) | (refine so_is (.call ⟨.value (.func 65), _, _⟩) ?_; ((apply so_call0 (fid := 65); (· (repeat (first | exact SeA.nil | apply SeA.cons (.c (.d _))))); (· exact v1); (· rfl)))) | (refine so_is (.call ⟨.value (.func 66), _, _⟩) ?_; ((apply so_call0 (fid := 66); (· (repeat (first | exact SeA.nil | apply SeA.cons (.c (.d _))))); (· exact v2); (· rfl)))) | refine so_nil ?_ | refine so_g_yes rfl rfl rfl rfl ?_ | refine sk_seq ?_ | refine sk_skip ?_ | (apply sk_pack 19 [6, 7, 8, 11, 12, 13, 14, 17, 20, 21, 24, 25] [1050, 2050, 1060, 7, 1068, 9, 1082, 11, 3088, 13, 3094, 15, 3108, 4108, 17, 1116, 20, 1123, 22, 137, 1137] rfl; (· (repeat (first | exact Pf.nil | apply Pf.cons (.c rfl (.d rfl)) | apply Pf.cons (.c rfl (.lp rfl))))); (· (repeat (first | exact Pb.nil | (apply Pb.cons; (· apply Nb.box rfl; (repeat (first | exact Ncs.nil rfl | (apply Ncs.cons rfl; (· (exact .d rfl))))))) | apply Pb.skip))); refine sk_region (id := 19) ?_) | (apply sk_pack 20 [6, 7, 8, 11, 12, 13, 14, 17, 20, 21, 24, 25, 26, 27] [1050, 2050, 1060, 7, 1068, 9, 1082, 11, 3088, 13, 3094, 15, 3108, 4108, 17, 1116, 20, 1123, 22, 137, 1137] rfl; (· (repeat (first | exact Pf.nil | apply Pf.cons (.c rfl (.d rfl)) | apply Pf.cons (.c rfl (.lp rfl))))); (· (repeat (first | exact Pb.nil | (apply Pb.cons; (· apply Nb.box rfl; (repeat (first | exact Ncs.nil rfl | (apply Ncs.cons rfl; (· (exact .d rfl))))))) | apply Pb.skip))); refine sk_region (id := 20) ?_) | (apply sk_pack 21 [6, 7, 8, 11, 12, 13, 14, 17, 20, 21, 26, 27, 28, 29] [1050, 2050, 1060, 7, 1068, 9, 1082, 11, 3088, 13, 3094, 15, 3108, 4108, 17, 1116, 20, 1123, 22, 137, 1137] rfl; (· (repeat (first | exact Pf.nil | apply Pf.cons (.c rfl (.d rfl)) | apply Pf.cons (.c rfl (.lp rfl))))); (· (repeat (first | exact Pb.nil | (apply Pb.cons; (· apply Nb.box rfl; (repeat (first | exact Ncs.nil rfl | (apply Ncs.cons rfl; (· (exact .d rfl))))))) | apply Pb.skip))); refine sk_region (id := 21) ?_) | refine sk_false rfl ?_)
    all_goals first | (exfalso; omega) | (exfalso; simp_all; done) | skip
    clear v1 v2 g1 g2 t1 t2 p2
    refine sk_region (id := 23) ?_
    all_goals ((refine so_q (qt_mvC rfl) rfl ?_))
    all_goals refine so_nil ?_
    repeat' refine sk_seq ?_
    apply sk_packC [6, 7, 8, 11, 12, 13, 14, 17, 20, 21, 160] [7, 9, 11, 13, 15, 17, 20, 22, 137, 1050, 1060, 1068, 1082, 1116, 1123, 1137, 2050, 3088, 3094, 3108, 4108] rfl; (· (repeat (first | exact Pf.nil | apply Pf.cons (.c rfl (.d rfl)) | apply Pf.cons (.c rfl (.lp rfl))))); (· (repeat (first | exact Pb.nil | (apply Pb.cons; (· apply Nb.box rfl; (repeat (first | exact Ncs.nil rfl | (apply Ncs.cons rfl; (· (exact .d rfl))))))) | apply Pb.skip)))
    refine sk_join [11, 12, 13, 14, 17, 20, 21] [1050, 2050, 1060, 7, 1068, 9, 1082, 11, 3088, 13, 3094, 15, 3108, 4108, 17, 1116, 20, 1123, 22, 137, 1137] (fun g : Unit => []) (fun g => []) (fun g => True) ?_ ?_
    · cases gb with
      | false =>
        repeat' (first | refine sk_skip ?_ | refine sk_false rfl ?_)
        all_goals first | (exfalso; simp_all; done) | skip
        refine sk_back ?_; refine ⟨(), ?_, trivial, le_at rfl (by (repeat (exact trivial))) (by (repeat (first | exact trivial | refine ⟨rfl, ?_⟩))) (by (repeat (exact trivial))) (by (repeat (first | exact trivial | refine ⟨.inr rfl, ?_⟩)))⟩
        trivial
      | true =>
        obtain ⟨hg, rfl, rfl⟩ := g3 rfl
        have bd := group_bd hg
        have q : PC Tryz.prog 67 [.g [dI gn, eII (gridF (ansF gn fun q => grpV al own joint q) 8 8)]] (.t [.c (dI (grpT (gridF (ansF gn fun q => grpV al own joint q) 8 8))), .c (dB true)]) := by
          have := GroupSum_p gn (gridF (ansF gn fun q => grpV al own joint q) 8 8)
          rwa [group_trio hg] at this
        clear g3 hg
        generalize grpT (gridF (ansF gn fun q => grpV al own joint q) 8 8) = T at *
        generalize gridF (ansF gn fun q => grpV al own joint q) 8 8 = G at *
        repeat' (first | (refine so_is (.assign _) ?_; (refine so_q (qt_asC rfl) rfl ?_)) | (refine so_is (.move _) ?_; (first | refine so_q (qt_mvC rfl) rfl ?_ | refine so_q (qt_mvT rfl) rfl ?_)) | (refine so_is (.extract _ _) ?_; refine so_q (qt_extract rfl rfl) rfl ?_) | (refine so_is (.load 88 _) ?_; (refine so_q (qt_load_boxs rfl rfl (by kernel_rfl : tAgg _ 88 2 = true) rfl) rfl ?_)) | (refine so_is (.unOp .not 4 _) ?_; refine so_q (qt_not rfl) rfl ?_) | (refine so_is (.pick _ _ _) ?_; (refine so_q (qt_pkC rfl rfl) rfl ?_)) | (refine so_is (.binOp .mul 3 _ _ _) ?_; refine so_q (qt_mulI rfl rfl (by (omega))) rfl ?_) | (refine so_is (.binOp .gtr 3 _ _ _) ?_; refine so_q (qt_gtr rfl rfl) rfl ?_) | (refine so_is (.binOp .lss 3 _ _ _) ?_; refine so_q (qt_lss rfl rfl) rfl ?_) | (refine so_is (.call ⟨.value (.func 67), _, _⟩) ?_; (apply so_call0 (fid := 67); (· (repeat (first | exact SeA.nil | (apply SeA.cons; (· (apply SeP.g; (repeat (first | exact SeL.nil | apply SeL.cons (.d _))))))))); (· exact q); (· rfl))) | refine so_nil ?_ | refine so_g_no rfl rfl rfl rfl ?_ | refine so_g_yes rfl rfl rfl rfl ?_ | refine so_g_if rfl rfl (fun hg => ?_) (fun hg => ?_) | refine sk_seq ?_ | refine sk_skip ?_ | (apply sk_pack 24 [6, 7, 11, 12, 13, 14, 17, 20, 21] [1050, 2050, 1060, 7, 1068, 9, 1082, 11, 3088, 13, 3094, 15, 3108, 4108, 17, 1116, 20, 1123, 22, 137, 1137] rfl; (· (repeat (first | exact Pf.nil | apply Pf.cons (.c rfl (.d rfl)) | apply Pf.cons (.c rfl (.lp rfl))))); (· (repeat (first | exact Pb.nil | (apply Pb.cons; (· apply Nb.box rfl; (repeat (first | exact Ncs.nil rfl | (apply Ncs.cons rfl; (· (exact .d rfl))))))) | apply Pb.skip))); refine sk_region (id := 24) ?_) | (apply sk_pack 25 [6, 11, 12, 13, 14, 17, 20, 21, 30, 31] [1050, 2050, 1060, 7, 1068, 9, 1082, 11, 3088, 13, 3094, 15, 3108, 4108, 17, 1116, 20, 1123, 22, 137, 1137] rfl; (· (repeat (first | exact Pf.nil | apply Pf.cons (.c rfl (.d rfl)) | apply Pf.cons (.c rfl (.lp rfl))))); (· (repeat (first | exact Pb.nil | (apply Pb.cons; (· apply Nb.box rfl; (repeat (first | exact Ncs.nil rfl | (apply Ncs.cons rfl; (· (exact .d rfl))))))) | apply Pb.skip))); refine sk_region (id := 25) ?_) | (apply sk_pack 26 [] [1050, 2050, 1060, 7, 1068, 9, 1082, 11, 3088, 13, 3094, 15, 3108, 4108, 17, 1116, 20, 1123, 22, 137, 1137] rfl; (· (repeat (exact Pf.nil))); (· (repeat (first | exact Pb.nil | (apply Pb.cons; (· apply Nb.box rfl; (repeat (first | exact Ncs.nil rfl | (apply Ncs.cons rfl; (· (exact .d rfl))))))) | apply Pb.skip))); refine sk_region (id := 26) ?_) | refine sk_true rfl ?_ | refine sk_if rfl (fun hc => ?_) (fun hc => ?_))
        all_goals first | (exfalso; omega) | (exfalso; simp_all; done) | skip
        refine sk_back ?_; refine ⟨(), ?_, trivial, le_at rfl (by (repeat (exact trivial))) (by (repeat (first | exact trivial | refine ⟨rfl, ?_⟩))) (by (repeat (exact trivial))) (by (repeat (first | exact trivial | refine ⟨.inr rfl, ?_⟩)))⟩
        trivial
    rintro - -
    repeat' refine sk_seq ?_
    refine sk_region (id := 27) ?_
    all_goals ((refine so_q (qt_mvC rfl) rfl ?_))
    all_goals refine so_nil ?_
    repeat' refine sk_seq ?_
    apply sk_packC [11, 12, 13, 14, 17, 20, 21, 180] [7, 9, 11, 13, 15, 17, 20, 22, 137, 1050, 1060, 1068, 1082, 1116, 1123, 1137, 2050, 3088, 3094, 3108, 4108] rfl; (· (repeat (first | exact Pf.nil | apply Pf.cons (.c rfl (.d rfl)) | apply Pf.cons (.c rfl (.lp rfl))))); (· (repeat (first | exact Pb.nil | (apply Pb.cons; (· apply Nb.box rfl; (repeat (first | exact Ncs.nil rfl | (apply Ncs.cons rfl; (· (exact .d rfl))))))) | apply Pb.skip)))
    refine sk_join [11, 12, 13, 14] [1050, 2050, 1060, 7, 1068, 9, 1082, 11, 3088, 13, 3094, 15, 3108, 4108, 17, 1116, 20, 1123, 22, 137, 1137] (fun g : Unit => []) (fun g => []) (fun g => True) ?_ ?_
    · cases tb with
      | false =>
        repeat' (first | refine sk_skip ?_ | refine sk_false rfl ?_)
        all_goals first | (exfalso; simp_all; done) | skip
        refine sk_back ?_; refine ⟨(), ?_, trivial, le_at rfl (by (repeat (exact trivial))) (by (repeat (first | exact trivial | refine ⟨rfl, ?_⟩))) (by (repeat (exact trivial))) (by (repeat (first | exact trivial | refine ⟨.inr rfl, ?_⟩)))⟩
        trivial
      | true =>
        obtain ⟨hT, ht, rfl, rfl⟩ := t3 rfl
        obtain rfl := hT.x2
        obtain rfl := hT.y2
        have q := IsQuiet_p bn bl hT.box
        have l4 : bl.length = 4 := by have := (boxB_spec hT.box).len; omega
        cases hq : quiet2 bl with
        | false =>
          rw [hq] at q
          repeat' (first | (refine so_is (.assign _) ?_; (refine so_q (qt_asC rfl) rfl ?_)) | (refine so_is (.move _) ?_; (first | refine so_q (qt_mvC rfl) rfl ?_ | refine so_q (qt_mvT rfl) rfl ?_)) | (refine so_is (.extract _ _) ?_; refine so_q (qt_extract rfl rfl) rfl ?_) | (refine so_is (.unOp .not 4 _) ?_; refine so_q (qt_not rfl) rfl ?_) | (refine so_is (.load 26 _) ?_; (refine so_q (qt_load_boxs rfl rfl (by kernel_rfl : tAgg _ 26 4 = true) rfl) rfl ?_)) | (refine so_is (.call ⟨.value (.func 29), _, _⟩) ?_; (apply so_call0 (fid := 29); (· (repeat (first | exact SeA.nil | (apply SeA.cons; (· (apply SeP.g; (repeat (first | exact SeL.nil | apply SeL.cons (.d _))))))))); (· exact q); (· rfl))) | refine so_nil ?_ | refine sk_seq ?_ | refine sk_skip ?_ | refine sk_region (id := 28) ?_ | refine sk_region (id := 29) ?_ | (apply sk_pack 31 [11, 12, 13, 14, 17, 20, 32] [1050, 2050, 1060, 7, 1068, 9, 1082, 11, 3088, 13, 3094, 15, 3108, 4108, 17, 1116, 20, 1123, 22, 137, 1137] rfl; (· (repeat (first | exact Pf.nil | apply Pf.cons (.c rfl (.d rfl)) | apply Pf.cons (.c rfl (.lp rfl))))); (· (repeat (first | exact Pb.nil | (apply Pb.cons; (· apply Nb.box rfl; (repeat (first | exact Ncs.nil rfl | (apply Ncs.cons rfl; (· (exact .d rfl))))))) | apply Pb.skip))); refine sk_region (id := 31) ?_) | refine sk_true rfl ?_ | refine sk_false rfl ?_)
          all_goals first | (exfalso; omega) | (exfalso; simp_all; done) | skip
          refine sk_back ?_; refine ⟨(), ?_, trivial, le_at rfl (by (repeat (exact trivial))) (by (repeat (first | exact trivial | refine ⟨rfl, ?_⟩))) (by (repeat (exact trivial))) (by (repeat (first | exact trivial | refine ⟨.inr rfl, ?_⟩)))⟩
          trivial
        | true =>
          rw [hq] at q
          have P := pair_yes (a := 2) ht (third_quiet ch most hT.box hq) rfl
          have A := AreAlike_p (bn * most) bn _ bl (pair_box (a := 2) (by omega) ht) hT.box
          rw [third_alike bl ch most bn l4] at A
          clear t3 hT ht hq
          generalize boxF (pairV 2 (gridF (thirdF bl ch most) 8 8)) 2 4 = PB at *
          generalize gridF (thirdF bl ch most) 8 8 = G at *
          generalize bn * most = nn at *
          repeat' (first | (refine so_is (.assign _) ?_; (refine so_q (qt_asC rfl) rfl ?_)) | (refine so_is (.move _) ?_; (first | refine so_q (qt_mvC rfl) rfl ?_ | refine so_q (qt_mvT rfl) rfl ?_)) | (refine so_is (.extract _ _) ?_; refine so_q (qt_extract rfl rfl) rfl ?_) | (refine so_is (.load 88 _) ?_; (refine so_q (qt_load_boxs rfl rfl (by kernel_rfl : tAgg _ 88 2 = true) rfl) rfl ?_)) | (refine so_is (.unOp .not 4 _) ?_; refine so_q (qt_not rfl) rfl ?_) | (refine so_is (.pick _ _ _) ?_; (refine so_q (qt_pkC rfl rfl) rfl ?_)) | (refine so_is (.alloc 26) ?_; refine so_alloc (zs := [.int .i64 0, .int .i64 0, .int .i64 0, .slice none 0 0]) (by kernel_rfl) rfl ?_) | (refine so_is (.store 26 _ _) ?_; (refine so_store_box rfl rfl rfl (by kernel_rfl) rfl rfl ?_)) | (refine so_is (.load 26 _) ?_; (refine so_q (qt_load_boxs rfl rfl (by kernel_rfl : tAgg _ 26 4 = true) rfl) rfl ?_)) | (refine so_is (.call ⟨.value (.func 59), _, _⟩) ?_; ((apply so_call0 (fid := 59); (· (repeat (first | exact SeA.nil | apply SeA.cons (.c (.d _)) | (apply SeA.cons; (· (apply SeP.g; (repeat (first | exact SeL.nil | apply SeL.cons (.d _))))))))); (· exact P); (· rfl)))) | (refine so_is (.call ⟨.value (.func 29), _, _⟩) ?_; ((apply so_call0 (fid := 29); (· (repeat (first | exact SeA.nil | (apply SeA.cons; (· (apply SeP.g; (repeat (first | exact SeL.nil | apply SeL.cons (.d _))))))))); (· exact q); (· rfl)))) | (refine so_is (.call ⟨.value (.func 31), _, _⟩) ?_; ((apply so_call0 (fid := 31); (· (repeat (first | exact SeA.nil | (apply SeA.cons; (· (apply SeP.g; (repeat (first | exact SeL.nil | apply SeL.cons (.d _))))))))); (· exact A); (· rfl)))) | refine so_nil ?_ | refine so_g_yes rfl rfl rfl rfl ?_ | refine sk_seq ?_ | refine sk_skip ?_ | refine sk_region (id := 28) ?_ | refine sk_region (id := 29) ?_ | (apply sk_pack 31 [11, 12, 13, 14, 17, 20, 32] [1050, 2050, 1060, 7, 1068, 9, 1082, 11, 3088, 13, 3094, 15, 3108, 4108, 17, 1116, 20, 1123, 22, 137, 1137] rfl; (· (repeat (first | exact Pf.nil | apply Pf.cons (.c rfl (.d rfl)) | apply Pf.cons (.c rfl (.lp rfl))))); (· (repeat (first | exact Pb.nil | (apply Pb.cons; (· apply Nb.box rfl; (repeat (first | exact Ncs.nil rfl | (apply Ncs.cons rfl; (· (exact .d rfl))))))) | apply Pb.skip))); refine sk_region (id := 31) ?_) | refine sk_region (id := 32) ?_ | (apply sk_pack 33 [11, 12, 13, 14, 17, 34, 35] [1050, 2050, 1060, 7, 1068, 9, 1082, 11, 3088, 13, 3094, 15, 3108, 4108, 17, 1116, 20, 1123, 22, 137, 1137, 3191, 34] rfl; (· (repeat (first | exact Pf.nil | apply Pf.cons (.c rfl (.d rfl)) | apply Pf.cons (.c rfl (.lp rfl))))); (· (repeat (first | exact Pb.nil | (apply Pb.cons; (· apply Nb.box rfl; (repeat (first | exact Ncs.nil rfl | (apply Ncs.cons rfl; (· (exact .d rfl))))))) | apply Pb.skip))); refine sk_region (id := 33) ?_) | (apply sk_pack 34 [11, 12, 13, 14, 35, 36, 37] [1050, 2050, 1060, 7, 1068, 9, 1082, 11, 3088, 13, 3094, 15, 3108, 4108, 17, 1116, 20, 1123, 22, 137, 1137, 3191, 34] rfl; (· (repeat (first | exact Pf.nil | apply Pf.cons (.c rfl (.d rfl)) | apply Pf.cons (.c rfl (.lp rfl))))); (· (repeat (first | exact Pb.nil | (apply Pb.cons; (· apply Nb.box rfl; (repeat (first | exact Ncs.nil rfl | (apply Ncs.cons rfl; (· (exact .d rfl))))))) | apply Pb.skip))); refine sk_region (id := 34) ?_) | refine sk_true rfl ?_ | refine sk_false rfl ?_)
          all_goals first | (exfalso; omega) | (exfalso; simp_all; done) | skip
          refine sk_back ?_; refine ⟨(), ?_, trivial, le_at rfl (by (repeat (exact trivial))) (by (repeat (first | exact trivial | refine ⟨rfl, ?_⟩))) (by (repeat (exact trivial))) (by (repeat (first | exact trivial | refine ⟨.inr rfl, ?_⟩)))⟩
          trivial
    rintro - -
    repeat' refine sk_seq ?_
    cases pb with
    | false =>
      repeat' (first | (refine so_is (.assign _) ?_; (refine so_q (qt_asC rfl) rfl ?_)) | (refine so_is (.move _) ?_; (refine so_q (qt_mvC rfl) rfl ?_)) | (refine so_is (.unOp .not 4 _) ?_; refine so_q (qt_not rfl) rfl ?_) | refine so_nil ?_ | refine sk_seq ?_ | refine sk_region ?_ | refine sk_true rfl ?_)
      all_goals first | (exfalso; simp_all; done) | skip
      all_goals (apply sk_ret; apply ret_eq; (· apply RetOK.p; (· (apply GvA.cons; (· exact .tmp _); (· exact GvP.c (.lit _))); exact GvA.nil); (· (decide))))
      all_goals rfl
    | true =>
      obtain ⟨⟨ht, hq, ha⟩, rfl, rfl, rfl, rfl⟩ := p3 rfl
      have ha2 : (uo + 1) % 3 = 0 ∨ (uo + 1) % 3 = 1 ∨ (uo + 1) % 3 = 2 := by omega
      have x1 := pair_box ha ht
      have x2 := pair_box ha2 ht
      have P2 := pair_yes (a := (uo + 1) % 3) ht hq (inB_iff.2 (by omega))
      have E1 := EightSums_p _ _ x1
      have E2 := EightSums_p _ _ x2
      have Q := IsQuiet_p _ _ x1
      rw [pair_quiet ha hq] at Q
      obtain ⟨k1, hk1, m1, b1⟩ := most_bd x1
      obtain ⟨k2, hk2, m2, b2⟩ := most_bd x2
      have mm := monog ha ht hq hk1 hk2
      rw [← m1, ← m2] at mm
      have n1 : (sumsL (boxF (pairV uo ul) 2 4)).length = 8 := by simp [sumsL]
      have n2 : (sumsL (boxF (pairV ((uo + 1) % 3) ul) 2 4)).length = 8 := by simp [sumsL]
      have R1 := rMost_p _ 7 n1
      have R2 := rMost_p _ 7 n2
      have tn := trioB_spec ht
      have tn1 := tn.1
      have tn2 := tn.2.1
      clear tn m1 m2 x1 x2 p1 p3 t3 g3 ht hq
      generalize mostR (sumsL (boxF (pairV uo ul) 2 4)) 7 = M1 at *
      generalize mostR (sumsL (boxF (pairV ((uo + 1) % 3) ul) 2 4)) 7 = M2 at *
      generalize sumsL (boxF (pairV uo ul) 2 4) = S1 at *
      generalize sumsL (boxF (pairV ((uo + 1) % 3) ul) 2 4) = S2 at *
      generalize boxF (pairV uo ul) 2 4 = B1 at *
      generalize boxF (pairV ((uo + 1) % 3) ul) 2 4 = B2 at *
      repeat' (first | (refine so_is (.assign _) ?_; (refine so_q (qt_asC rfl) rfl ?_)) | (refine so_is (.move _) ?_; (first | refine so_q (qt_mvC rfl) rfl ?_ | refine so_q (qt_mvT rfl) rfl ?_)) | (refine so_is (.extract _ _) ?_; refine so_q (qt_extract rfl rfl) rfl ?_) | (refine so_is (.load 88 _) ?_; (refine so_q (qt_load_boxs rfl rfl (by kernel_rfl : tAgg _ 88 2 = true) rfl) rfl ?_)) | (refine so_is (.unOp .not 4 _) ?_; refine so_q (qt_not rfl) rfl ?_) | (refine so_is (.pick _ _ _) ?_; (refine so_q (qt_pkC rfl rfl) rfl ?_)) | (refine so_is (.alloc 26) ?_; refine so_alloc (zs := [.int .i64 0, .int .i64 0, .int .i64 0, .slice none 0 0]) (by kernel_rfl) rfl ?_) | (refine so_is (.store 26 _ _) ?_; (refine so_store_box rfl rfl rfl (by kernel_rfl) rfl rfl ?_)) | (refine so_is (.load 26 _) ?_; (refine so_q (qt_load_boxs rfl rfl (by kernel_rfl : tAgg _ 26 4 = true) rfl) rfl ?_)) | (refine so_is (.binOp .mul 3 _ _ _) ?_; refine so_q (qt_mulI rfl rfl (by (omega))) rfl ?_) | (refine so_is (.binOp .gtr 3 _ _ _) ?_; refine so_q (qt_gtr rfl rfl) rfl ?_) | (refine so_is (.binOp .add 3 _ _ _) ?_; refine so_q (qt_addI rfl rfl (by (omega))) rfl ?_) | (refine so_is (.binOp .rem 3 _ _ _) ?_; (refine so_q (qt_remN rfl rfl (by (omega)) (by (omega)) (by (omega))) rfl ?_)) | (refine so_is (.call ⟨.builtin .len, _, #[27]⟩) ?_; (refine so_q (qt_len_d rfl (by kernel_rfl)) rfl ?_)) | (refine so_is (.fieldAddr 88 _ 0) ?_; (refine so_q (qt_fld_lp (off := 0) rfl (by kernel_rfl)) rfl ?_)) | (refine so_is (.load 3 _) ?_; (refine so_q (qt_load_box rfl rfl (by kernel_rfl) rfl) rfl ?_)) | (refine so_is (.binOp .leq 3 _ _ _) ?_; refine so_q (qt_leq rfl rfl) rfl ?_) | (refine so_is (.call ⟨.value (.func 59), _, _⟩) ?_; ((apply so_call0 (fid := 59); (· (repeat (first | exact SeA.nil | apply SeA.cons (.c (.d _)) | (apply SeA.cons; (· (apply SeP.g; (repeat (first | exact SeL.nil | apply SeL.cons (.d _))))))))); (· exact P2); (· rfl)))) | (refine so_is (.call ⟨.value (.func 29), _, _⟩) ?_; ((apply so_call0 (fid := 29); (· (repeat (first | exact SeA.nil | (apply SeA.cons; (· (apply SeP.g; (repeat (first | exact SeL.nil | apply SeL.cons (.d _))))))))); (· exact Q); (· rfl)))) | (refine so_is (.call ⟨.value (.func 68), _, _⟩) ?_; (first | (apply so_call0 (fid := 68); (· (repeat (first | exact SeA.nil | (apply SeA.cons; (· (apply SeP.g; (repeat (first | exact SeL.nil | apply SeL.cons (.d _))))))))); (· exact E1); (· rfl)) | (apply so_call0 (fid := 68); (· (repeat (first | exact SeA.nil | (apply SeA.cons; (· (apply SeP.g; (repeat (first | exact SeL.nil | apply SeL.cons (.d _))))))))); (· exact E2); (· rfl)))) | (refine so_is (.call ⟨.value (.func 69), _, _⟩) ?_; (first | (apply so_call0 (fid := 69); (· (repeat (first | exact SeA.nil | apply SeA.cons (.c (.d _))))); (· exact R1); (· rfl)) | (apply so_call0 (fid := 69); (· (repeat (first | exact SeA.nil | apply SeA.cons (.c (.d _))))); (· exact R2); (· rfl)))) | refine so_nil ?_ | refine so_g_no rfl rfl rfl rfl ?_ | refine so_g_yes rfl rfl rfl rfl ?_ | refine so_g_if rfl rfl (fun hg => ?_) (fun hg => ?_) | refine sk_seq ?_ | refine sk_skip ?_ | (apply sk_pack 36 [11, 12, 13, 14] [1050, 2050, 1060, 7, 1068, 9, 1082, 11, 3088, 13, 3094, 15, 3108, 4108, 17, 1116, 20, 1123, 22, 137, 1137, 3191, 34] rfl; (· (repeat (first | exact Pf.nil | apply Pf.cons (.c rfl (.d rfl)) | apply Pf.cons (.c rfl (.lp rfl))))); (· (repeat (first | exact Pb.nil | (apply Pb.cons; (· apply Nb.box rfl; (repeat (first | exact Ncs.nil rfl | (apply Ncs.cons rfl; (· (exact .d rfl))))))) | apply Pb.skip))); refine sk_region (id := 36) ?_) | (apply sk_pack 38 [11, 12, 13] [1050, 2050, 1060, 7, 1068, 9, 1082, 11, 3088, 13, 3094, 15, 3108, 4108, 17, 1116, 20, 1123, 22, 137, 1137, 3191, 34] rfl; (· (repeat (first | exact Pf.nil | apply Pf.cons (.c rfl (.d rfl)) | apply Pf.cons (.c rfl (.lp rfl))))); (· (repeat (first | exact Pb.nil | (apply Pb.cons; (· apply Nb.box rfl; (repeat (first | exact Ncs.nil rfl | (apply Ncs.cons rfl; (· (exact .d rfl))))))) | apply Pb.skip))); refine sk_region (id := 38) ?_) | (apply sk_pack 39 [11, 13, 38, 39] [1050, 2050, 1060, 7, 1068, 9, 1082, 11, 3088, 13, 3094, 15, 3108, 4108, 17, 1116, 20, 1123, 22, 137, 1137, 3191, 34, 3217, 38] rfl; (· (repeat (first | exact Pf.nil | apply Pf.cons (.c rfl (.d rfl)) | apply Pf.cons (.c rfl (.lp rfl))))); (· (repeat (first | exact Pb.nil | (apply Pb.cons; (· apply Nb.box rfl; (repeat (first | exact Ncs.nil rfl | (apply Ncs.cons rfl; (· (exact .d rfl))))))) | apply Pb.skip))); refine sk_region (id := 39) ?_) | (apply sk_pack 40 [11, 13, 38, 39, 40, 41] [1050, 2050, 1060, 7, 1068, 9, 1082, 11, 3088, 13, 3094, 15, 3108, 4108, 17, 1116, 20, 1123, 22, 137, 1137, 3191, 34, 3217, 38, 222] rfl; (· (repeat (first | exact Pf.nil | apply Pf.cons (.c rfl (.d rfl)) | apply Pf.cons (.c rfl (.lp rfl))))); (· (repeat (first | exact Pb.nil | (apply Pb.cons; (· apply Nb.box rfl; (repeat (first | exact Ncs.nil rfl | (apply Ncs.cons rfl; (· (exact .d rfl))))))) | apply Pb.skip))); refine sk_region (id := 40) ?_) | (apply sk_pack 41 [11, 13, 39, 40, 41, 42, 43] [1050, 2050, 1060, 7, 1068, 9, 1082, 11, 3088, 13, 3094, 15, 3108, 4108, 17, 1116, 20, 1123, 22, 137, 1137, 3191, 34, 3217, 38, 222, 227] rfl; (· (repeat (first | exact Pf.nil | apply Pf.cons (.c rfl (.d rfl)) | apply Pf.cons (.c rfl (.lp rfl))))); (· (repeat (first | exact Pb.nil | (apply Pb.cons; (· apply Nb.box rfl; (repeat (first | exact Ncs.nil rfl | (apply Ncs.cons rfl; (· (exact .d rfl))))))) | apply Pb.skip))); refine sk_region (id := 41) ?_) | (apply sk_pack 42 [11, 39, 40, 41, 42, 43, 44, 45] [1050, 2050, 1060, 7, 1068, 9, 1082, 11, 3088, 13, 3094, 15, 3108, 4108, 17, 1116, 20, 1123, 22, 137, 1137, 3191, 34, 3217, 38, 222, 227] rfl; (· (repeat (first | exact Pf.nil | apply Pf.cons (.c rfl (.d rfl)) | apply Pf.cons (.c rfl (.lp rfl))))); (· (repeat (first | exact Pb.nil | (apply Pb.cons; (· apply Nb.box rfl; (repeat (first | exact Ncs.nil rfl | (apply Ncs.cons rfl; (· (exact .d rfl))))))) | apply Pb.skip))); refine sk_drawQ 42 (fun _ => false) (.step 0 true (.step 1 true (.step 2 true (.step 3 true (.step 4 true (.step 5 true (.step 6 true (.step 7 true (.step 8 true (.step 9 true (.step 10 true (.step 11 true (.step 12 true (.step 13 true (.step 14 true (.step 15 true (.step 16 true (.step 17 true (.step 18 true (.step 19 true (.step 20 true (.step 21 true (.step 22 true (.step 23 true (.step 24 true (.step 26 true (.step 29 true (.step 30 true (.step 31 true (.step 25 false (.step 27 false (.step 28 true (.step 32 true (.step 33 true (.step 34 true .nil))))))))))))))))))))))))))))))))))) [(0, 34359738367, 34359738367, true), (1, 34359738366, 34359738367, true), (2, 34359738365, 34359738367, true), (6, 34359738361, 34359738367, true), (10, 34359738359, 34359738367, true), (16, 34359738351, 34359738367, true), (48, 34359738319, 34359738367, true), (80, 34359738303, 34359738367, true), (128, 34359738239, 34359738367, true), (384, 34359737983, 34359738367, true), (640, 34359737855, 34359738367, true), (1024, 34359737343, 34359738367, true), (3072, 34359735295, 34359738367, true), (5120, 34359734271, 34359738367, true), (8192, 34359730175, 34359738367, true), (24576, 34359713791, 34359738367, true), (40960, 34359697407, 34359738367, true), (73728, 34359664639, 34359738367, true), (139264, 34359607295, 34359738367, true), (262144, 34359476223, 34359738367, true), (786432, 34358951935, 34359738367, true), (1310720, 34358427647, 34359738367, true), (2359296, 34357379071, 34359738367, true), (4456448, 34355544063, 34359738367, true), (8388608, 34351349759, 34359738367, true), (25165824, 34334572543, 34359738367, false), (8388608, 34351349759, 34359738367, true), (109051904, 34284240895, 34359738367, false), (176160768, 34183577599, 34359738367, true), (8388608, 34351349759, 34359738367, true), (545259520, 33814478847, 34359738367, false), (1082130432, 33277607935, 34359738367, true), (2424307712, 31935430655, 34359738367, true), (4303355904, 30056382463, 34359738367, true), (17179869183, 25769803775, 34359738367, true)] (by kernel_rfl) (by kernel_rfl) ?_) | refine sk_false rfl ?_)
      all_goals first | (exfalso; omega) | (exfalso; simp_all; done) | skip
      all_goals (apply sk_ret; apply ret_eq; (· apply RetOK.p; (· (apply GvA.cons; (· exact .tmp _); (· exact GvP.c (.lit _))); exact GvA.nil); (· (decide))))
      all_goals simp_all
  · refine pc_intro Tryz.func6 rfl rfl rfl (by kernel_rfl) rfl rfl ?_; intro _
    repeat' (first | (refine so_is (.assign _) ?_; (refine so_q (qt_asC rfl) rfl ?_)) | (refine so_is (.move _) ?_; (refine so_q (qt_mvC rfl) rfl ?_)) | (refine so_is (.call ⟨.value (.func 7), _, _⟩) ?_; (apply so_call0 (fid := 7); (· (repeat (first | exact SeA.nil | apply SeA.cons (.c (.d _))))); (· exact rBig_p _); (· rfl))) | refine so_nil ?_ | refine sk_seq ?_ | refine sk_skip ?_ | refine sk_region ?_ | refine sk_if rfl (fun hc => ?_) (fun hc => ?_))
    all_goals first | (exfalso; omega) | (exfalso; simp_all; done) | skip
    all_goals (apply sk_ret; apply ret_eq; (· apply RetOK.p; (· (apply GvA.cons; (· exact .tmp _); (· exact GvP.c (.lit _))); exact GvA.nil); (· (decide))))
    all_goals rfl

end Go.Proofs.YtefbiejoikpkmaaGreat
