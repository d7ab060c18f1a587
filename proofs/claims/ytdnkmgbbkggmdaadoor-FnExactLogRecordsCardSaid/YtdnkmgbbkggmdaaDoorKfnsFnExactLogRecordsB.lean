/- What the functions that FnExactLogRecords reaches return: part of its proof. No condition beyond those of its theorems. -/
import Derived.Test.YtdnkmgbbkggmdaaDoorKfnsFnExactLogRecordsA
import Derived.Test.YtdnkmgbbkggmdaaDoorKplainC
import Derived.Test.YtdnkmgbbkggmdaaDoorKplainA
set_option linter.unusedVariables false
set_option linter.unusedSimpArgs false
namespace Go.Proofs.YtdnkmgbbkggmdaaDoor
open Go.RowKit
set_option linter.unusedSectionVars false
variable [Glb]
set_option maxRecDepth 10000
set_option maxHeartbeats 4000000
theorem mkR_atZ {k n j : Nat} (h : j < n) : atZ (mkR k n) (j : Int) = (mtT (k + 2 * j), mtT (k + 2 * j + 1)) := by
  unfold atZ; rw [Int.toNat_natCast, List.getD_eq_getElem?_getD, mkR_at k n j h]; rfl
theorem heldLogRecordS_p (n k : Nat) (h0 : 1 ≤ k) (h1 : k + 2 * n < 1000000) : PC Tryd.prog 33 [.c (.sl 2 n (recD (mkR k n))), .c (dI k)] (.p (.c (dI (k + 2 * n)))) := by
  have hn := mkR_len k n
  have e : D.sl 2 n (recD (mkR k n)) = eR (mkR k n) := by rw [eR, hn]
  rw [e]
  refine pc_intro Tryd.func33 rfl rfl rfl (by kernel_rfl) rfl rfl ?_; intro _
  repeat' (first | (refine so_is (.assign _) ?_; (refine so_q (qt_asC rfl) rfl ?_)) | refine so_nil ?_ | refine sk_seq ?_ | refine sk_block ?_ | refine sk_region ?_)
  apply sk_packC [0, 1, 5] [] rfl; (· (repeat (first | exact Pf.nil | apply Pf.cons (.c rfl (.d rfl))))); (· (repeat (exact Pb.nil)))
  refine sk_loopL [0] [] (fun j => [(5, iN j), (1, iZ (k + 2 * j))]) (fun _ => []) (fun j => j ≤ n) (fun j => n - j) (0) ?_ (by (repeat (first | exact trivial | refine ⟨(by (rfl)), ?_⟩))) (by (repeat (exact trivial))) ?_
  · simp
  intro j hj
  by_cases h : j < n
  · have e1 := mkR_atZ (k := k) h
    repeat' (first | (refine so_is (.assign _) ?_; (refine so_q (qt_asC rfl) rfl ?_)) | (refine so_is (.move _) ?_; (refine so_q (qt_mvC rfl) rfl ?_)) | (refine so_is (.call ⟨.builtin .len, _, #[48]⟩) ?_; (refine so_q (qt_len_d rfl (by kernel_rfl)) rfl ?_)) | (refine so_is (.binOp .lss 3 _ _ _) ?_; refine so_q (qt_lss rfl rfl) rfl ?_) | (refine so_is (.indexAddr 48 _ _) ?_; (refine so_q (qt_idxR rfl rfl (by kernel_rfl) (by (omega)) (by (omega))) rfl ?_)) | (refine so_is (.fieldAddr 27 _ 0) ?_; (refine so_q (qt_fld_pt (off := 0) rfl (by kernel_rfl) (by simp)) rfl ?_)) | (refine so_is (.load 9 _) ?_; (refine so_q (qt_load_pt rfl (by kernel_rfl) rfl) rfl ?_)) | (refine so_is (.call ⟨.value (.func 56), _, _⟩) ?_; (first | (apply so_call0 (d := 18) (fid := 56); (· (repeat (first | exact SeA.nil | apply SeA.cons (.c (.d _))))); (· exact markTextZ_p _ (k + 2 * j) (by omega) (by omega) (by omega)); (· rfl)) | (apply so_call0 (d := 28) (fid := 56); (· (repeat (first | exact SeA.nil | apply SeA.cons (.c (.d _))))); (· exact markTextZ_p _ (k + 2 * j + 1) (by omega) (by omega) (by omega)); (· rfl)))) | (refine so_is (.binOp .neq 9 _ _ _) ?_; (refine so_q (qt_neqT rfl rfl) rfl ?_)) | (refine so_is (.binOp .add 3 _ _ _) ?_; refine so_q (qt_addI rfl rfl (by (omega))) rfl ?_) | (refine so_is (.fieldAddr 27 _ 1) ?_; (refine so_q (qt_fld_pt (off := 1) rfl (by kernel_rfl) (by simp)) rfl ?_)) | refine so_nil ?_ | refine sk_seq ?_ | refine sk_block ?_ | refine sk_blk ?_ | refine sk_exit rfl ?_ | refine sk_skip ?_ | refine sk_region ?_ | refine sk_drawQ 4 (fun _ => false) (.step 0 true (.step 1 true (.step 2 true (.step 3 true (.step 4 true (.step 5 true (.step 6 false (.step 7 true .nil)))))))) [(0, 255, 255, true), (0, 255, 255, true), (3, 252, 255, true), (4, 251, 255, true), (8, 247, 255, false), (0, 255, 255, true), (32, 223, 255, false), (80, 175, 255, true)] (by kernel_rfl) (by kernel_rfl) ?_ | refine sk_drawQ 7 (fun _ => false) (.step 0 true (.step 1 true (.step 2 true (.step 3 true (.step 4 true (.step 5 true (.step 6 false (.step 7 true .nil)))))))) [(0, 255, 255, true), (0, 255, 255, true), (3, 252, 255, true), (4, 251, 255, true), (8, 247, 255, false), (0, 255, 255, true), (32, 223, 255, false), (80, 175, 255, true)] (by kernel_rfl) (by kernel_rfl) ?_ | refine sk_if rfl (fun hc => ?_) (fun hc => ?_))
    all_goals first | (exfalso; omega) | (exfalso; simp_all; done) | skip
    refine sk_back ?_; refine ⟨j + 1, ?_, ?_, le_at rfl (by (repeat (first | exact trivial | refine ⟨(by (rfl)), ?_⟩))) (by (repeat (first | exact trivial | refine ⟨rfl, ?_⟩))) (by (repeat (exact trivial))) (by (repeat (exact trivial)))⟩
    · omega
    · omega
  · have hjn : j = n := by omega
    subst hjn
    repeat' (first | (refine so_is (.assign _) ?_; (refine so_q (qt_asC rfl) rfl ?_)) | (refine so_is (.move _) ?_; (refine so_q (qt_mvC rfl) rfl ?_)) | (refine so_is (.call ⟨.builtin .len, _, #[48]⟩) ?_; (refine so_q (qt_len_d rfl (by kernel_rfl)) rfl ?_)) | (refine so_is (.binOp .lss 3 _ _ _) ?_; refine so_q (qt_lss rfl rfl) rfl ?_) | (refine so_is (.indexAddr 48 _ _) ?_; (refine so_q (qt_idxR rfl rfl (by kernel_rfl) (by (omega)) (by (omega))) rfl ?_)) | (refine so_is (.fieldAddr 27 _ 0) ?_; (refine so_q (qt_fld_pt (off := 0) rfl (by kernel_rfl) (by simp)) rfl ?_)) | (refine so_is (.load 9 _) ?_; (refine so_q (qt_load_pt rfl (by kernel_rfl) rfl) rfl ?_)) | refine so_nil ?_ | refine sk_seq ?_ | refine sk_block ?_ | refine sk_exit rfl ?_ | refine sk_skip ?_ | refine sk_region ?_ | refine sk_drawQ 4 (fun _ => false) (.step 0 true (.step 1 true (.step 2 true (.step 3 true (.step 4 true (.step 5 true (.step 6 false (.step 7 true .nil)))))))) [(0, 255, 255, true), (0, 255, 255, true), (3, 252, 255, true), (4, 251, 255, true), (8, 247, 255, false), (0, 255, 255, true), (32, 223, 255, false), (80, 175, 255, true)] (by kernel_rfl) (by kernel_rfl) ?_ | refine sk_if rfl (fun hc => ?_) (fun hc => ?_))
    all_goals first | (exfalso; omega) | skip
    (apply sk_ret; apply ret_eq; (· apply RetOK.p; (· (apply GvA.cons; (· exact .tmp _); (· exact GvP.c (.lit _))); exact GvA.nil); (· (decide))))
    rfl

end Go.Proofs.YtdnkmgbbkggmdaaDoor

namespace Go.Proofs.YtdnkmgbbkggmdaaDoor
open Go.RowKit
set_option linter.unusedSectionVars false
variable [Glb]
variable [GTab Tryd.prog tabNm]
set_option maxRecDepth 10000
set_option maxHeartbeats 4000000
theorem FnExactLogRecords_p (d p : ByteArray) (n : Int) : PC Tryd.prog 9 [.g [dS d, dS p, dI n]] (.p (.c (dB true))) := by
  obtain ⟨d, rfl⟩ := exT d
  obtain ⟨p, rfl⟩ := exT p
  have hr : (if validB d p n then recsT (d ++ p) else []).length ≤ 60 := by
    split
    · rw [recs_len]; exact log_len _
    · simp
  obtain ⟨l, hlE⟩ : ∃ l, l = if validB d p n then recsT (d ++ p) else [] := ⟨_, rfl⟩
  rw [← hlE] at hr
  rcases (by omega : (1048576 < d.length + p.length) ∨ d.length + p.length ≤ 1048576) with hz | hz
  · refine pc_intro Tryd.func9 rfl rfl rfl (by kernel_rfl) rfl rfl ?_; intro _
    repeat' (first | (refine so_is (.box 36 _) ?_; refine so_box rfl rfl ?_) | (refine so_is (.assign _) ?_; (refine so_q (qt_asC rfl) rfl ?_)) | (refine so_is (.load 36 _) ?_; (refine so_q (qt_load_boxs rfl rfl (by kernel_rfl : tAgg _ 36 3 = true) rfl) rfl ?_)) | (refine so_is (.move _) ?_; (refine so_q (qt_mvC rfl) rfl ?_)) | (refine so_is (.binOp .lss 3 _ _ _) ?_; refine so_q (qt_lss rfl rfl) rfl ?_) | (refine so_is (.call ⟨.value (.func 19), _, _⟩) ?_; (apply so_call0 (fid := 19); (· (repeat (first | exact SeA.nil | apply SeA.cons (.c (.d _)) | (apply SeA.cons; (· (apply SeP.g; (repeat (first | exact SeL.nil | apply SeL.cons (.d _))))))))); (· exact szLog_no _ _ _ _ (by omega) (by omega) (by omega)); (· rfl))) | refine so_nil ?_ | refine sk_seq ?_ | refine sk_region (id := 0) ?_ | refine sk_region (id := 1) ?_ | refine sk_region (id := 2) ?_ | refine sk_region (id := 3) ?_ | refine sk_region (id := 4) ?_ | refine sk_true rfl ?_)
    all_goals first | (exfalso; omega) | skip
    all_goals (apply sk_ret; apply ret_eq; (· apply RetOK.p; (· (apply GvA.cons; (· exact .tmp _); (· exact GvP.c (.lit _))); exact GvA.nil); (· (decide))))
    all_goals rfl
  · have c1 := LogRecords_p d p n (by omega)
    have c2 := spLogRecords_p d p n (by omega)
    rw [← hlE] at c1 c2
    refine pc_intro Tryd.func9 rfl rfl rfl (by kernel_rfl) rfl rfl ?_; intro _
    repeat' (first | (refine so_is (.box 36 _) ?_; refine so_box rfl rfl ?_) | (refine so_is (.assign _) ?_; (refine so_q (qt_asC rfl) rfl ?_)) | (refine so_is (.load 36 _) ?_; (refine so_q (qt_load_boxs rfl rfl (by kernel_rfl : tAgg _ 36 3 = true) rfl) rfl ?_)) | (refine so_is (.move _) ?_; (first | refine so_q (qt_mvC rfl) rfl ?_ | refine so_q (qt_mvT rfl) rfl ?_)) | (refine so_is (.binOp .lss 3 _ _ _) ?_; refine so_q (qt_lss rfl rfl) rfl ?_) | (refine so_is (.extract _ _) ?_; refine so_q (qt_extract rfl rfl) rfl ?_) | (refine so_is (.unOp .not 4 _) ?_; refine so_q (qt_not rfl) rfl ?_) | (refine so_is (.binOp .neq 4 _ _ _) ?_; (refine so_q (qt_neqB_same (by kernel_rfl) rfl rfl) rfl ?_)) | (refine so_is (.pick _ _ _) ?_; (refine so_q (qt_pkC rfl rfl) rfl ?_)) | (refine so_is (.binOp .neq 3 _ _ _) ?_; (refine so_q (qt_neq_same rfl rfl) rfl ?_)) | (refine so_is (.call ⟨.value (.func 19), _, _⟩) ?_; ((apply so_call0 (fid := 19); (· (repeat (first | exact SeA.nil | apply SeA.cons (.c (.d _)) | (apply SeA.cons; (· (apply SeP.g; (repeat (first | exact SeL.nil | apply SeL.cons (.d _))))))))); (· exact szLog_ok _ _ _ _ (by omega) (by omega)); (· rfl)))) | (refine so_is (.call ⟨.value (.func 21), _, _⟩) ?_; ((apply so_call0 (fid := 21); (· (repeat (first | exact SeA.nil | (apply SeA.cons; (· (apply SeP.g; (repeat (first | exact SeL.nil | apply SeL.cons (.d _))))))))); (· exact toLog_p _ _ _); (· rfl)))) | (refine so_is (.call ⟨.value (.func 29), _, _⟩) ?_; ((apply so_call0 (fid := 29); (· (repeat (first | exact SeA.nil | (apply SeA.cons; (· (apply SeP.g; (repeat (first | exact SeL.nil | apply SeL.cons (.d _))))))))); (· exact c2); (· rfl)))) | (refine so_is (.call ⟨.value (.func 30), _, _⟩) ?_; ((apply so_callO0 (fid := 30); (· (repeat (first | exact SeA.nil | (apply SeA.cons; (· (apply SeP.g; (repeat (first | exact SeL.nil | apply SeL.cons (.d _))))))))); (· exact c1); (· rfl); (· rfl)))) | (refine so_is (.call ⟨.value (.func 31), _, _⟩) ?_; ((apply so_call0 (fid := 31); (· (repeat (first | exact SeA.nil | apply SeA.cons (.c (.d _)) | apply SeA.cons (.c (.all _ _ _ _ rfl (by ((simp; done)))))))); (· exact eqLogRecordS_same _); (· rfl)))) | (refine so_is (.call ⟨.value (.func 32), _, _⟩) ?_; ((apply so_callM (fid := 32); (· (repeat (first | exact ArgM.nil | apply ArgM.c rfl (.lit _) | apply ArgM.c rfl (.row _ _ _ _ rfl (by ((simp; done))))))); (· (decide)); (· exact markLogRecordS_m _ 1 (by omega) (by omega)); (· rfl); (· rfl)))) | (refine so_is (.call ⟨.value (.func 33), _, _⟩) ?_; ((apply so_call0 (fid := 33); (· (repeat (first | exact SeA.nil | apply SeA.cons (.c (.d _)) | apply SeA.cons (.c (.all _ _ _ _ rfl (by ((simp; done)))))))); (· exact heldLogRecordS_p _ 1 (by omega) (by omega)); (· rfl)))) | refine so_nil ?_ | refine so_g_yes rfl rfl rfl rfl ?_ | refine sk_seq ?_ | refine sk_skip ?_ | refine sk_region (id := 0) ?_ | refine sk_region (id := 1) ?_ | refine sk_region (id := 2) ?_ | refine sk_region (id := 3) ?_ | refine sk_region (id := 4) ?_ | (apply sk_pack 5 [1] [1] rfl; (· (repeat (first | exact Pf.nil | apply Pf.cons (.c rfl (.lp rfl))))); (· (repeat (first | exact Pb.nil | (apply Pb.cons; (· apply Nb.box rfl; (repeat (first | exact Ncs.nil rfl | (apply Ncs.cons rfl; (· (exact .d rfl)))))))))); refine sk_region (id := 5) ?_) | (apply sk_pack 6 [1, 4, 5] [1, 20] rfl; (· (repeat (first | exact Pf.nil | apply Pf.cons (.c rfl (.d rfl)) | apply Pf.cons (.c rfl (.lp rfl))))); (· (repeat (first | exact Pb.nil | (apply Pb.cons; (· apply Nb.box rfl; (repeat (first | exact Ncs.nil rfl | (apply Ncs.cons rfl; (· (exact .d rfl))))))) | apply Pb.skip))); refine sk_region (id := 6) ?_) | (apply sk_pack 7 [1, 4, 5, 6, 7] [1, 20, 26] rfl; (· (repeat (first | exact Pf.nil | apply Pf.cons (.c rfl (.d rfl)) | apply Pf.cons (.c rfl (.ls rfl)) | apply Pf.cons (.c rfl (.lp rfl))))); (· (repeat (first | exact Pb.nil | apply Pb.cons (.row rfl) | (apply Pb.cons; (· apply Nb.box rfl; (repeat (first | exact Ncs.nil rfl | (apply Ncs.cons rfl; (· (exact .d rfl))))))) | apply Pb.skip))); refine sk_region (id := 7) ?_) | refine sk_region (id := 9) ?_ | (apply sk_pack 10 [1, 4, 5, 6, 8] [1, 20, 26] rfl; (· (repeat (first | exact Pf.nil | apply Pf.cons (.c rfl (.d rfl)) | apply Pf.cons (.c rfl (.ls rfl)) | apply Pf.cons (.c rfl (.lp rfl))))); (· (repeat (first | exact Pb.nil | apply Pb.cons (.row rfl) | (apply Pb.cons; (· apply Nb.box rfl; (repeat (first | exact Ncs.nil rfl | (apply Ncs.cons rfl; (· (exact .d rfl))))))) | apply Pb.skip))); refine sk_region (id := 10) ?_) | refine sk_region (id := 11) ?_ | refine sk_region (id := 12) ?_ | refine sk_region (id := 13) ?_ | (apply sk_pack 15 [1, 4, 5, 6, 8, 9] [1, 20, 26] rfl; (· (repeat (first | exact Pf.nil | apply Pf.cons (.c rfl (.d rfl)) | apply Pf.cons (.c rfl (.ls rfl)) | apply Pf.cons (.c rfl (.lp rfl))))); (· (repeat (first | exact Pb.nil | apply Pb.cons (.row rfl) | (apply Pb.cons; (· apply Nb.box rfl; (repeat (first | exact Ncs.nil rfl | (apply Ncs.cons rfl; (· (exact .d rfl))))))) | apply Pb.skip))); refine sk_region (id := 15) ?_) | refine sk_region (id := 17) ?_ | (apply sk_pack 18 [4, 5, 6, 8, 10, 11] [1, 20, 26, 52] rfl; (· (repeat (first | exact Pf.nil | apply Pf.cons (.c rfl (.d rfl)) | apply Pf.cons (.c rfl (.ls rfl))))); (· (repeat (first | exact Pb.nil | apply Pb.cons (.row rfl) | (apply Pb.cons; (· apply Nb.box rfl; (repeat (first | exact Ncs.nil rfl | (apply Ncs.cons rfl; (· (exact .d rfl))))))) | apply Pb.skip))); refine sk_region (id := 18) ?_) | refine sk_region (id := 20) ?_ | (apply sk_pack 21 [6, 8, 9] [1, 20, 26, 52] rfl; (· (repeat (first | exact Pf.nil | apply Pf.cons (.c rfl (.d rfl)) | apply Pf.cons (.c rfl (.ls rfl))))); (· (repeat (first | exact Pb.nil | apply Pb.cons (.row rfl) | (apply Pb.cons; (· apply Nb.box rfl; (repeat (first | exact Ncs.nil rfl | (apply Ncs.cons rfl; (· (exact .d rfl))))))) | apply Pb.skip))); refine sk_region (id := 21) ?_) | refine sk_region (id := 22) ?_ | refine sk_region (id := 24) ?_ | refine sk_region (id := 26) ?_ | refine sk_false rfl ?_ | refine sk_if rfl (fun hc => ?_) (fun hc => ?_))
    all_goals first | (exfalso; omega) | skip
    all_goals (apply sk_ret; apply ret_eq; (· apply RetOK.p; (· (apply GvA.cons; (· exact .tmp _); (· exact GvP.c (.lit _))); exact GvA.nil); (· (decide))))
    all_goals rfl

end Go.Proofs.YtdnkmgbbkggmdaaDoor
