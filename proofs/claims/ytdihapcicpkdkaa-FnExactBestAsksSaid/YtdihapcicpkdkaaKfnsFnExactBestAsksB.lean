/- What the functions that FnExactBestAsks reaches return: part of its proof. No condition beyond those of its theorems. -/
import Derived.Test.YtdihapcicpkdkaaKfnsFnExactBestAsksA
import Derived.Test.YtdihapcicpkdkaaKplainC
import Derived.Test.YtdihapcicpkdkaaKplainA
import Derived.Test.YtdihapcicpkdkaaKplainB
set_option linter.unusedVariables false
set_option linter.unusedSimpArgs false
namespace Go.Proofs.Ytdihapcicpkdkaa
open Go.RowKit
set_option linter.unusedSectionVars false
variable [Glb]
set_option maxRecDepth 10000
set_option maxHeartbeats 4000000
theorem l10Table_p (t : List (List Int)) (n m : Int) : PC Try.prog 236 [.c (eII t), .c (dI n), .c (dI m)] (.p (.c (dB (tabB t n m)))) := by
  refine pc_intro Try.func236 rfl rfl rfl (by kernel_rfl) rfl rfl ?_; rintro ⟨hl, -⟩
  have hl := hl.len
  repeat' (first | (refine so_is (.assign _) ?_; (refine so_q (qt_asC rfl) rfl ?_)) | refine so_nil ?_ | refine sk_seq ?_ | refine sk_block ?_ | refine sk_region ?_)
  apply sk_packC [0, 1, 2, 7] [] rfl; (· (repeat (first | exact Pf.nil | apply Pf.cons (.c rfl (.d rfl))))); (· (repeat (exact Pb.nil)))
  refine sk_loopL [0, 1, 2] [] (fun k => [(7, iN k)]) (fun _ => []) (fun k => k ≤ t.length ∧ (t.take k).all (fun l => bitsB l m) = true) (fun k => t.length - k) (0) ?_ (by (repeat (first | exact trivial | refine ⟨(by (rfl)), ?_⟩))) (by (repeat (exact trivial))) ?_
  · simp
  rintro k ⟨hk, ha⟩
  repeat' (first | (refine so_is (.assign _) ?_; (refine so_q (qt_asC rfl) rfl ?_)) | (refine so_is (.move _) ?_; (refine so_q (qt_mvC rfl) rfl ?_)) | (refine so_is (.call ⟨.builtin .len, _, #[22]⟩) ?_; (refine so_q (qt_len_d rfl (by kernel_rfl)) rfl ?_)) | (refine so_is (.binOp .lss 3 _ _ _) ?_; refine so_q (qt_lss rfl rfl) rfl ?_) | (refine so_is (.indexAddr 22 _ _) ?_; (refine so_q (qt_idxII rfl rfl (by kernel_rfl) (by (omega)) (by (omega))) rfl ?_)) | (refine so_is (.load 26 _) ?_; (refine so_q (qt_load_pt rfl (by kernel_rfl) rfl) rfl ?_)) | (refine so_is (.unOp .not 4 _) ?_; refine so_q (qt_not rfl) rfl ?_) | (refine so_is (.binOp .add 3 _ _ _) ?_; refine so_q (qt_addI rfl rfl (by (omega))) rfl ?_) | (refine so_is (.binOp .eql 3 _ _ _) ?_; refine so_q (qt_eql rfl rfl) rfl ?_) | (refine so_is (.call ⟨.value (.func 146), _, _⟩) ?_; (apply so_call0 (fid := 146); (· (repeat (first | exact SeA.nil | apply SeA.cons (.c (.d _))))); (· exact l2Bits_p _ _); (· rfl))) | refine so_nil ?_ | refine sk_seq ?_ | refine sk_block ?_ | refine sk_blk ?_ | refine sk_exit rfl ?_ | refine sk_skip ?_ | refine sk_region ?_ | refine sk_if rfl (fun hc => ?_) (fun hc => ?_) | refine sk_not rfl (fun hc => ?_) (fun hc => ?_))
  · have hk2 : k < t.length := by omega
    rw [atZ_nat hk2] at hc
    (apply sk_ret; apply ret_eq; (· apply RetOK.p; (· (apply GvA.cons; (· exact .tmp _); (· exact GvP.c (.lit _))); exact GvA.nil); (· (decide))))
    simp only [tabB, all_f (p := fun l => bitsB l m) hk2 hc]; simp
  · have hk2 : k < t.length := by omega
    rw [atZ_nat hk2] at hc
    refine sk_back ?_; refine ⟨k + 1, ?_, ?_, le_at rfl (by (repeat (first | exact trivial | refine ⟨(by (rfl)), ?_⟩))) (by (repeat (first | exact trivial | refine ⟨rfl, ?_⟩))) (by (repeat (exact trivial))) (by (repeat (exact trivial)))⟩
    · exact ⟨by omega, by rw [take_succ_all _ _ _ hk2, ha, hc]; rfl⟩
    · omega
  · have : k = t.length := by omega
    subst this
    rw [List.take_length] at ha
    (apply sk_ret; apply ret_eq; (· apply RetOK.p; (· (apply GvA.cons; (· exact .tmp _); (· exact GvP.c (.lit _))); exact GvA.nil); (· (decide))))
    simp [tabB, ha]
theorem l10Rule_p (f : List Int) (a s : List (List Int)) : PC Try.prog 195 [.g [eI f, eII a, eII s]] (.p (.c (dB (ruleB f a s)))) := by
  refine pc_intro Try.func195 rfl rfl rfl (by kernel_rfl) rfl rfl ?_; intro _
  repeat' (first | (refine so_is (.box 114 _) ?_; refine so_box rfl rfl ?_) | (refine so_is (.assign _) ?_; (refine so_q (qt_asC rfl) rfl ?_)) | (refine so_is (.fieldAddr 114 _ 0) ?_; (refine so_q (qt_fld_lp (off := 0) rfl (by kernel_rfl)) rfl ?_)) | (refine so_is (.load 26 _) ?_; (refine so_q (qt_load_box rfl rfl (by kernel_rfl) rfl) rfl ?_)) | (refine so_is (.move _) ?_; (refine so_q (qt_mvC rfl) rfl ?_)) | (refine so_is (.fieldAddr 114 _ 1) ?_; (refine so_q (qt_fld_lp (off := 1) rfl (by kernel_rfl)) rfl ?_)) | (refine so_is (.load 22 _) ?_; (refine so_q (qt_load_box rfl rfl (by kernel_rfl) rfl) rfl ?_)) | (refine so_is (.pick _ _ _) ?_; (refine so_q (qt_pkC rfl rfl) rfl ?_)) | (refine so_is (.fieldAddr 114 _ 2) ?_; (refine so_q (qt_fld_lp (off := 2) rfl (by kernel_rfl)) rfl ?_)) | (refine so_is (.call ⟨.value (.func 146), _, _⟩) ?_; (apply so_call0 (fid := 146); (· (repeat (first | exact SeA.nil | apply SeA.cons (.c (.d _))))); (· exact l2Bits_p _ _); (· rfl))) | (refine so_is (.call ⟨.value (.func 236), _, _⟩) ?_; (apply so_call0 (fid := 236); (· (repeat (first | exact SeA.nil | apply SeA.cons (.c (.d _))))); (· exact l10Table_p _ _ _); (· rfl))) | refine so_nil ?_ | refine so_g_no rfl rfl rfl rfl ?_ | refine so_g_yes rfl rfl rfl rfl ?_ | refine so_g_b rfl rfl (fun hg => ?_) (fun hg => ?_) | refine sk_seq ?_ | refine sk_region ?_)
  all_goals (apply sk_ret; apply ret_eq; (· apply RetOK.p; (· (apply GvA.cons; (· exact .tmp _); (· exact GvP.c (.lit _))); exact GvA.nil); (· (decide))))
  all_goals ((simp_all [ruleB]; done))

end Go.Proofs.Ytdihapcicpkdkaa

namespace Go.Proofs.Ytdihapcicpkdkaa
open Go.RowKit
set_option linter.unusedSectionVars false
variable [Glb]
set_option maxRecDepth 10000
set_option maxHeartbeats 4000000
theorem l2Sizes_p (x y : Int) : PC Try.prog 196 [.c (dI x), .c (dI y)] (.p (.c (dB (sizeB x y)))) := by
  refine pc_intro Try.func196 rfl rfl rfl (by kernel_rfl) rfl rfl ?_; intro _
  repeat' (first | (refine so_is (.assign _) ?_; (refine so_q (qt_asC rfl) rfl ?_)) | (refine so_is (.move _) ?_; (refine so_q (qt_mvC rfl) rfl ?_)) | (refine so_is (.pick _ _ _) ?_; (refine so_q (qt_pkC rfl rfl) rfl ?_)) | (refine so_is (.call ⟨.value (.func 166), _, _⟩) ?_; (apply so_call0 (fid := 166); (· (repeat (first | exact SeA.nil | apply SeA.cons (.c (.d _))))); (· exact l1In_p _ _ _); (· rfl))) | refine so_nil ?_ | refine so_g_no rfl rfl rfl rfl ?_ | refine so_g_yes rfl rfl rfl rfl ?_ | refine so_g_b rfl rfl (fun hg => ?_) (fun hg => ?_) | refine sk_seq ?_ | refine sk_region ?_)
  all_goals (apply sk_ret; apply ret_eq; (· apply RetOK.p; (· (apply GvA.cons; (· exact .tmp _); (· exact GvP.c (.lit _))); exact GvA.nil); (· (decide))))
  all_goals ((simp_all [sizeB]; done))

end Go.Proofs.Ytdihapcicpkdkaa

namespace Go.Proofs.Ytdihapcicpkdkaa
open Go.RowKit
set_option linter.unusedSectionVars false
variable [Glb]
set_option maxRecDepth 10000
set_option maxHeartbeats 4000000
theorem l2Four_p (l : List Int) (n : Int) : PC Try.prog 197 [.c (eI l), .c (dI n)] (.p (.c (dB (row4B n l)))) := by
  refine pc_intro Try.func197 rfl rfl rfl (by kernel_rfl) rfl rfl ?_; rintro ⟨hl, -⟩
  have hl := hl.len
  repeat' (first | (refine so_is (.assign _) ?_; (refine so_q (qt_asC rfl) rfl ?_)) | refine so_nil ?_ | refine sk_seq ?_ | refine sk_block ?_ | refine sk_region ?_)
  apply sk_packC [0, 1, 5, 6] [] rfl; (· (repeat (first | exact Pf.nil | apply Pf.cons (.c rfl (.d rfl))))); (· (repeat (exact Pb.nil)))
  refine sk_loopL [0, 1] [] (fun k => [(6, iN k), (5, iZ (sum64 (l.take k)))]) (fun _ => []) (fun k => k ≤ l.length ∧ k ≤ 5 ∧ (l.take k).all (fun m => inB m 0 n) = true) (fun k => l.length - k) (0) ?_ (by (repeat (first | exact trivial | refine ⟨(by (rfl)), ?_⟩))) (by (repeat (exact trivial))) ?_
  · simp
  rintro k ⟨hk, hk9, ha⟩
  repeat' (first | (refine so_is (.assign _) ?_; (refine so_q (qt_asC rfl) rfl ?_)) | (refine so_is (.move _) ?_; (refine so_q (qt_mvC rfl) rfl ?_)) | (refine so_is (.call ⟨.builtin .len, _, #[26]⟩) ?_; (refine so_q (qt_len_d rfl (by kernel_rfl)) rfl ?_)) | (refine so_is (.binOp .lss 3 _ _ _) ?_; refine so_q (qt_lss rfl rfl) rfl ?_) | (refine so_is (.pick _ _ _) ?_; (refine so_q (qt_pkC rfl rfl) rfl ?_)) | (refine so_is (.indexAddr 26 _ _) ?_; (refine so_q (qt_idxI rfl rfl (by kernel_rfl) (by (omega)) (by (omega))) rfl ?_)) | (refine so_is (.load 3 _) ?_; (refine so_q (qt_load_pt rfl (by kernel_rfl) rfl) rfl ?_)) | (refine so_is (.unOp .not 4 _) ?_; refine so_q (qt_not rfl) rfl ?_) | (refine so_is (.binOp .add 3 _ _ _) ?_; (first | refine so_q (qt_addI rfl rfl (by (omega))) rfl ?_ | refine so_q (qt_add rfl rfl) rfl ?_)) | (refine so_is (.binOp .eql 3 _ _ _) ?_; refine so_q (qt_eql rfl rfl) rfl ?_) | (refine so_is (.call ⟨.value (.func 166), _, _⟩) ?_; (apply so_call0 (fid := 166); (· (repeat (first | exact SeA.nil | apply SeA.cons (.c (.d _))))); (· exact l1In_p _ _ _); (· rfl))) | refine so_nil ?_ | refine so_g_no rfl rfl rfl rfl ?_ | refine so_g_yes rfl rfl rfl rfl ?_ | refine so_g_if rfl rfl (fun hg => ?_) (fun hg => ?_) | refine sk_seq ?_ | refine sk_block ?_ | refine sk_blk ?_ | refine sk_exit rfl ?_ | refine sk_skip ?_ | refine sk_region ?_ | refine sk_false rfl ?_ | refine sk_if rfl (fun hc => ?_) (fun hc => ?_) | refine sk_not rfl (fun hc => ?_) (fun hc => ?_))
  · rename_i hk'
    have hk2 : k < l.length := by omega
    rw [atZ_nat hk2] at hc
    (apply sk_ret; apply ret_eq; (· apply RetOK.p; (· (apply GvA.cons; (· exact .tmp _); (· exact GvP.c (.lit _))); exact GvA.nil); (· (decide))))
    rw [row4B, allB, all_f hk2 hc]; simp
  · rename_i hk'
    have hk2 : k < l.length := by omega
    rw [atZ_nat hk2] at hc
    refine sk_back ?_; refine ⟨k + 1, ?_, ?_, le_at rfl (by (repeat (first | exact trivial | refine ⟨(by (first | rfl | (refine int_eq rfl ?_; ((simp  [sum64_snoc hk2, atZ_nat hk2]; done))))), ?_⟩))) (by (repeat (first | exact trivial | refine ⟨rfl, ?_⟩))) (by (repeat (exact trivial))) (by (repeat (exact trivial)))⟩
    · exact ⟨by omega, by omega, by rw [take_succ_all _ _ _ hk2, ha, hc]; rfl⟩
    · omega
  all_goals (apply sk_ret; apply ret_eq; (· apply RetOK.p; (· (apply GvA.cons; (· exact .tmp _); (· exact GvP.c (.lit _))); exact GvA.nil); (· (decide))))
  all_goals simp only [row4B]
  · have h8 : l.length = 4 := by omega
    rw [List.take_of_length_le (by omega)] at *
    simp [h8, allB, ha]
  · have h8 : ¬ l.length = 4 := by omega
    simp [h8]
  · have h8 : l.length = 4 := by omega
    have hk8 : k = l.length := by omega
    rw [List.take_of_length_le (by omega)] at *
    simp [h8, allB, ha]
  · have h8 : ¬ l.length = 4 := by omega
    simp [h8]
theorem l2Box_p (x y n : Int) (ll : List (List Int)) : PC Try.prog 109 [.g [dI x, dI y, dI n, eII ll]] (.p (.c (dB (boxB x y n ll)))) := by
  refine pc_intro Try.func109 rfl rfl rfl (by kernel_rfl) rfl rfl ?_; rintro ⟨hl, -⟩
  have hl := (hl _ (List.mem_cons_of_mem _ (List.mem_cons_of_mem _ (List.mem_cons_of_mem _ (List.mem_cons_self ..))))).len
  repeat' (first | (refine so_is (.box 29 _) ?_; refine so_box rfl rfl ?_) | (refine so_is (.assign _) ?_; (refine so_q (qt_asC rfl) rfl ?_)) | (refine so_is (.fieldAddr 29 _ 0) ?_; (refine so_q (qt_fld_lp (off := 0) rfl (by kernel_rfl)) rfl ?_)) | (refine so_is (.load 3 _) ?_; (refine so_q (qt_load_box rfl rfl (by kernel_rfl) rfl) rfl ?_)) | (refine so_is (.fieldAddr 29 _ 1) ?_; (refine so_q (qt_fld_lp (off := 1) rfl (by kernel_rfl)) rfl ?_)) | (refine so_is (.unOp .not 4 _) ?_; refine so_q (qt_not rfl) rfl ?_) | (refine so_is (.move _) ?_; (refine so_q (qt_mvC rfl) rfl ?_)) | (refine so_is (.fieldAddr 29 _ 2) ?_; (refine so_q (qt_fld_lp (off := 2) rfl (by kernel_rfl)) rfl ?_)) | (refine so_is (.pick _ _ _) ?_; (refine so_q (qt_pkC rfl rfl) rfl ?_)) | (refine so_is (.fieldAddr 29 _ 3) ?_; (refine so_q (qt_fld_lp (off := 3) rfl (by kernel_rfl)) rfl ?_)) | (refine so_is (.load 22 _) ?_; (refine so_q (qt_load_box rfl rfl (by kernel_rfl) rfl) rfl ?_)) | (refine so_is (.call ⟨.builtin .len, _, #[22]⟩) ?_; (refine so_q (qt_len_d rfl (by kernel_rfl)) rfl ?_)) | (refine so_is (.binOp .mul 3 _ _ _) ?_; (refine so_q (qt_mul rfl rfl) rfl ?_)) | (refine so_is (.binOp .neq 3 _ _ _) ?_; refine so_q (qt_neq rfl rfl) rfl ?_) | (refine so_is (.call ⟨.value (.func 196), _, _⟩) ?_; (apply so_call0 (fid := 196); (· (repeat (first | exact SeA.nil | apply SeA.cons (.c (.d _))))); (· exact l2Sizes_p _ _); (· rfl))) | (refine so_is (.call ⟨.value (.func 166), _, _⟩) ?_; (apply so_call0 (fid := 166); (· (repeat (first | exact SeA.nil | apply SeA.cons (.c (.d _))))); (· exact l1In_p _ _ _); (· rfl))) | refine so_nil ?_ | refine so_g_no rfl rfl rfl rfl ?_ | refine so_g_yes rfl rfl rfl rfl ?_ | refine so_g_b rfl rfl (fun hg => ?_) (fun hg => ?_) | refine sk_seq ?_ | refine sk_block ?_ | refine sk_skip ?_ | refine sk_region ?_ | refine sk_true rfl ?_ | refine sk_if rfl (fun hc => ?_) (fun hc => ?_))
  · (apply sk_ret; apply ret_eq; (· apply RetOK.p; (· (apply GvA.cons; (· exact .tmp _); (· exact GvP.c (.lit _))); exact GvA.nil); (· (decide))))
    have h9 : sizeB x y = false := by simpa using hg
    simp [boxB, h9]
  · (apply sk_ret; apply ret_eq; (· apply RetOK.p; (· (apply GvA.cons; (· exact .tmp _); (· exact GvP.c (.lit _))); exact GvA.nil); (· (decide))))
    have h9 : inB n 1 1000 = false := by simpa using hg
    simp [boxB, h9]
  · (apply sk_ret; apply ret_eq; (· apply RetOK.p; (· (apply GvA.cons; (· exact .tmp _); (· exact GvP.c (.lit _))); exact GvA.nil); (· (decide))))
    have hs : sizeB x y = true := by simp_all
    rw [wrap_mul3 hs] at hc
    have h3 : ¬ (ll.length : Int) = x * y := by omega
    simp [boxB, h3]
  have hs : sizeB x y = true := by simp_all
  have hn : inB n 1 1000 = true := by simp_all
  have hlen : (ll.length : Int) = x * y := by rw [← wrap_mul3 hs]; omega
  apply sk_packC [1, 3] [1] rfl; (· (repeat (first | exact Pf.nil | apply Pf.cons (.c rfl (.d rfl)) | apply Pf.cons (.c rfl (.lp rfl))))); (· (repeat (first | exact Pb.nil | (apply Pb.cons; (· apply Nb.box rfl; (repeat (first | exact Ncs.nil rfl | (apply Ncs.cons rfl; (· (exact .d rfl))))))))))
  refine sk_loopL [1] [1] (fun k => [(3, iN k)]) (fun _ => []) (fun k => k ≤ ll.length ∧ (ll.take k).all (row4B n) = true) (fun k => ll.length - k) (0) ?_ (by (repeat (first | exact trivial | refine ⟨(by (rfl)), ?_⟩))) (by (repeat (exact trivial))) ?_
  · simp
  rintro k ⟨hk, ha⟩
  repeat' (first | (refine so_is (.assign _) ?_; (refine so_q (qt_asC rfl) rfl ?_)) | (refine so_is (.load 3 _) ?_; (refine so_q (qt_load_box rfl rfl (by kernel_rfl) rfl) rfl ?_)) | (refine so_is (.unOp .not 4 _) ?_; refine so_q (qt_not rfl) rfl ?_) | (refine so_is (.move _) ?_; (refine so_q (qt_mvC rfl) rfl ?_)) | (refine so_is (.fieldAddr 29 _ 2) ?_; (refine so_q (qt_fld_lp (off := 2) rfl (by kernel_rfl)) rfl ?_)) | (refine so_is (.fieldAddr 29 _ 3) ?_; (refine so_q (qt_fld_lp (off := 3) rfl (by kernel_rfl)) rfl ?_)) | (refine so_is (.load 22 _) ?_; (refine so_q (qt_load_box rfl rfl (by kernel_rfl) rfl) rfl ?_)) | (refine so_is (.call ⟨.builtin .len, _, #[22]⟩) ?_; (refine so_q (qt_len_d rfl (by kernel_rfl)) rfl ?_)) | (refine so_is (.binOp .lss 3 _ _ _) ?_; refine so_q (qt_lss rfl rfl) rfl ?_) | (refine so_is (.indexAddr 22 _ _) ?_; (refine so_q (qt_idxII rfl rfl (by kernel_rfl) (by (omega)) (by (omega))) rfl ?_)) | (refine so_is (.load 26 _) ?_; (refine so_q (qt_load_pt rfl (by kernel_rfl) rfl) rfl ?_)) | (refine so_is (.binOp .add 3 _ _ _) ?_; refine so_q (qt_addI rfl rfl (by (omega))) rfl ?_) | (refine so_is (.call ⟨.value (.func 197), _, _⟩) ?_; (apply so_call0 (fid := 197); (· (repeat (first | exact SeA.nil | apply SeA.cons (.c (.d _))))); (· exact l2Four_p _ _); (· rfl))) | refine so_nil ?_ | refine sk_seq ?_ | refine sk_block ?_ | refine sk_blk ?_ | refine sk_exit rfl ?_ | refine sk_skip ?_ | refine sk_region ?_ | refine sk_drawQ 6 (fun _ => false) (.step 0 true (.step 1 true (.step 2 true (.step 3 true (.step 4 true (.step 5 true (.step 6 true (.step 7 false (.step 8 true .nil))))))))) [(0, 511, 511, true), (1, 510, 511, false), (0, 511, 511, true), (6, 505, 511, true), (8, 503, 511, false), (0, 511, 511, true), (32, 479, 511, false), (80, 431, 511, false), (128, 383, 511, true)] (by kernel_rfl) (by kernel_rfl) ?_ | refine sk_if rfl (fun hc => ?_) (fun hc => ?_) | refine sk_not rfl (fun hc => ?_) (fun hc => ?_))
  · have hk2 : k < ll.length := by omega
    rw [atZ_nat hk2] at hc
    (apply sk_ret; apply ret_eq; (· apply RetOK.p; (· (apply GvA.cons; (· exact .tmp _); (· exact GvP.c (.lit _))); exact GvA.nil); (· (decide))))
    rw [boxB, all_f hk2 hc]; simp
  · have hk2 : k < ll.length := by omega
    rw [atZ_nat hk2] at hc
    refine sk_back ?_; refine ⟨k + 1, ?_, ?_, le_at rfl (by (repeat (first | exact trivial | refine ⟨(by (rfl)), ?_⟩))) (by (repeat (first | exact trivial | refine ⟨rfl, ?_⟩))) (by (repeat (exact trivial))) (by (repeat (first | exact trivial | refine ⟨.inr rfl, ?_⟩)))⟩
    · exact ⟨by omega, by rw [take_succ_all _ _ _ hk2, ha, hc]; rfl⟩
    · omega
  · have : k = ll.length := by omega
    subst this
    rw [List.take_length] at ha
    (apply sk_ret; apply ret_eq; (· apply RetOK.p; (· (apply GvA.cons; (· exact .tmp _); (· exact GvP.c (.lit _))); exact GvA.nil); (· (decide))))
    simp [boxB, hs, hn, hlen, ha]

end Go.Proofs.Ytdihapcicpkdkaa

namespace Go.Proofs.Ytdihapcicpkdkaa
open Go.RowKit
set_option linter.unusedSectionVars false
variable [Glb]
set_option maxRecDepth 10000
set_option maxHeartbeats 4000000
theorem l6Two_p (x y n : Int) (ll : List (List Int)) : PC Try.prog 179 [.g [dI x, dI y, dI n, eII ll]] (.p (.c (dB (pairB x y n ll)))) := by
  refine pc_intro Try.func179 rfl rfl rfl (by kernel_rfl) rfl rfl ?_; intro _
  repeat' (first | (refine so_is (.box 29 _) ?_; refine so_box rfl rfl ?_) | (refine so_is (.assign _) ?_; (refine so_q (qt_asC rfl) rfl ?_)) | (refine so_is (.load 29 _) ?_; (refine so_q (qt_load_boxs rfl rfl (by kernel_rfl : tAgg _ 29 4 = true) rfl) rfl ?_)) | (refine so_is (.move _) ?_; (refine so_q (qt_mvC rfl) rfl ?_)) | (refine so_is (.fieldAddr 29 _ 0) ?_; (refine so_q (qt_fld_lp (off := 0) rfl (by kernel_rfl)) rfl ?_)) | (refine so_is (.load 3 _) ?_; (refine so_q (qt_load_box rfl rfl (by kernel_rfl) rfl) rfl ?_)) | (refine so_is (.binOp .eql 3 _ _ _) ?_; refine so_q (qt_eql rfl rfl) rfl ?_) | (refine so_is (.pick _ _ _) ?_; (refine so_q (qt_pkC rfl rfl) rfl ?_)) | (refine so_is (.fieldAddr 29 _ 1) ?_; (refine so_q (qt_fld_lp (off := 1) rfl (by kernel_rfl)) rfl ?_)) | (refine so_is (.call ⟨.value (.func 109), _, _⟩) ?_; (apply so_call0 (fid := 109); (· (repeat (first | exact SeA.nil | (apply SeA.cons; (· (apply SeP.g; (repeat (first | exact SeL.nil | apply SeL.cons (.d _))))))))); (· exact l2Box_p _ _ _ _); (· rfl))) | refine so_nil ?_ | refine so_g_no rfl rfl rfl rfl ?_ | refine so_g_yes rfl rfl rfl rfl ?_ | refine so_g_if rfl rfl (fun hg => ?_) (fun hg => ?_) | refine so_g_b rfl rfl (fun hg => ?_) (fun hg => ?_) | refine sk_seq ?_ | refine sk_region ?_)
  all_goals (apply sk_ret; apply ret_eq; (· apply RetOK.p; (· (apply GvA.cons; (· exact .tmp _); (· exact GvP.c (.lit _))); exact GvA.nil); (· (decide))))
  all_goals ((simp_all [pairB]; done))

end Go.Proofs.Ytdihapcicpkdkaa

namespace Go.Proofs.Ytdihapcicpkdkaa
open Go.RowKit
set_option linter.unusedSectionVars false
variable [Glb]
set_option maxRecDepth 10000
set_option maxHeartbeats 4000000
theorem l10Both_p (xa ya na : Int) (la : List (List Int)) (xb yb nb : Int) (lb : List (List Int)) : PC Try.prog 90 [.g [dI xa, dI ya, dI na, eII la], .g [dI xb, dI yb, dI nb, eII lb]] (.p (.c (dB (wiresB xa ya na la xb yb nb lb)))) := by
  have hm : pairB xa ya na la = true → pairB xb yb nb lb = true → 0 ≤ na * nb ∧ na * nb ≤ 1000000 := fun h1 h2 => mul_whole (pairB_spec h1).2.2.2 (pairB_spec h2).2.2.2
  cases h1 : pairB xa ya na la with
  | false =>
    refine pc_intro Try.func90 rfl rfl rfl (by kernel_rfl) rfl rfl ?_; intro _
    repeat' (first | (refine so_is (.box 29 _) ?_; refine so_box rfl rfl ?_) | (refine so_is (.assign _) ?_; (refine so_q (qt_asC rfl) rfl ?_)) | (refine so_is (.load 29 _) ?_; (refine so_q (qt_load_boxs rfl rfl (by kernel_rfl : tAgg _ 29 4 = true) rfl) rfl ?_)) | (refine so_is (.move _) ?_; (refine so_q (qt_mvC rfl) rfl ?_)) | (refine so_is (.pick _ _ _) ?_; (refine so_q (qt_pkC rfl rfl) rfl ?_)) | (refine so_is (.fieldAddr 29 _ 2) ?_; (refine so_q (qt_fld_lp (off := 2) rfl (by kernel_rfl)) rfl ?_)) | (refine so_is (.load 3 _) ?_; (refine so_q (qt_load_box rfl rfl (by kernel_rfl) rfl) rfl ?_)) | (refine so_is (.call ⟨.value (.func 179), _, _⟩) ?_; (apply so_call0 (fid := 179); (· (repeat (first | exact SeA.nil | (apply SeA.cons; (· (apply SeP.g; (repeat (first | exact SeL.nil | apply SeL.cons (.d _))))))))); (· exact l6Two_p _ _ _ _); (· rfl))) | refine so_nil ?_ | refine so_g_no rfl rfl rfl rfl ?_ | refine so_g_yes rfl rfl rfl rfl ?_ | refine so_g_b rfl rfl (fun hg => ?_) (fun hg => ?_) | refine sk_seq ?_ | refine sk_region ?_)
    all_goals first | (exfalso; simp_all; done) | skip
    all_goals (apply sk_ret; apply ret_eq; (· apply RetOK.p; (· (apply GvA.cons; (· exact .tmp _); (· exact GvP.c (.lit _))); exact GvA.nil); (· (decide))))
    all_goals simp_all [wiresB]
  | true =>
    cases h2 : pairB xb yb nb lb with
    | false =>
      refine pc_intro Try.func90 rfl rfl rfl (by kernel_rfl) rfl rfl ?_; intro _
      repeat' (first | (refine so_is (.box 29 _) ?_; refine so_box rfl rfl ?_) | (refine so_is (.assign _) ?_; (refine so_q (qt_asC rfl) rfl ?_)) | (refine so_is (.load 29 _) ?_; (refine so_q (qt_load_boxs rfl rfl (by kernel_rfl : tAgg _ 29 4 = true) rfl) rfl ?_)) | (refine so_is (.move _) ?_; (refine so_q (qt_mvC rfl) rfl ?_)) | (refine so_is (.pick _ _ _) ?_; (refine so_q (qt_pkC rfl rfl) rfl ?_)) | (refine so_is (.fieldAddr 29 _ 2) ?_; (refine so_q (qt_fld_lp (off := 2) rfl (by kernel_rfl)) rfl ?_)) | (refine so_is (.load 3 _) ?_; (refine so_q (qt_load_box rfl rfl (by kernel_rfl) rfl) rfl ?_)) | (refine so_is (.call ⟨.value (.func 179), _, _⟩) ?_; (apply so_call0 (fid := 179); (· (repeat (first | exact SeA.nil | (apply SeA.cons; (· (apply SeP.g; (repeat (first | exact SeL.nil | apply SeL.cons (.d _))))))))); (· exact l6Two_p _ _ _ _); (· rfl))) | refine so_nil ?_ | refine so_g_no rfl rfl rfl rfl ?_ | refine so_g_yes rfl rfl rfl rfl ?_ | refine so_g_b rfl rfl (fun hg => ?_) (fun hg => ?_) | refine sk_seq ?_ | refine sk_region ?_)
      all_goals first | (exfalso; simp_all; done) | skip
      all_goals (apply sk_ret; apply ret_eq; (· apply RetOK.p; (· (apply GvA.cons; (· exact .tmp _); (· exact GvP.c (.lit _))); exact GvA.nil); (· (decide))))
      all_goals simp_all [wiresB]
    | true =>
      have hm := hm h1 h2
      refine pc_intro Try.func90 rfl rfl rfl (by kernel_rfl) rfl rfl ?_; intro _
      repeat' (first | (refine so_is (.box 29 _) ?_; refine so_box rfl rfl ?_) | (refine so_is (.assign _) ?_; (refine so_q (qt_asC rfl) rfl ?_)) | (refine so_is (.load 29 _) ?_; (refine so_q (qt_load_boxs rfl rfl (by kernel_rfl : tAgg _ 29 4 = true) rfl) rfl ?_)) | (refine so_is (.move _) ?_; (refine so_q (qt_mvC rfl) rfl ?_)) | (refine so_is (.pick _ _ _) ?_; (refine so_q (qt_pkC rfl rfl) rfl ?_)) | (refine so_is (.fieldAddr 29 _ 2) ?_; (refine so_q (qt_fld_lp (off := 2) rfl (by kernel_rfl)) rfl ?_)) | (refine so_is (.load 3 _) ?_; (refine so_q (qt_load_box rfl rfl (by kernel_rfl) rfl) rfl ?_)) | (refine so_is (.binOp .mul 3 _ _ _) ?_; refine so_q (qt_mulI rfl rfl (by (omega))) rfl ?_) | (refine so_is (.binOp .leq 3 _ _ _) ?_; refine so_q (qt_leq rfl rfl) rfl ?_) | (refine so_is (.call ⟨.value (.func 179), _, _⟩) ?_; (apply so_call0 (fid := 179); (· (repeat (first | exact SeA.nil | (apply SeA.cons; (· (apply SeP.g; (repeat (first | exact SeL.nil | apply SeL.cons (.d _))))))))); (· exact l6Two_p _ _ _ _); (· rfl))) | refine so_nil ?_ | refine so_g_no rfl rfl rfl rfl ?_ | refine so_g_yes rfl rfl rfl rfl ?_ | refine so_g_b rfl rfl (fun hg => ?_) (fun hg => ?_) | refine sk_seq ?_ | refine sk_region ?_)
      all_goals first | (exfalso; simp_all; done) | skip
      all_goals (apply sk_ret; apply ret_eq; (· apply RetOK.p; (· (apply GvA.cons; (· exact .tmp _); (· exact GvP.c (.lit _))); exact GvA.nil); (· (decide))))
      all_goals simp_all [wiresB]
theorem spWireBoxes_p (xa ya na : Int) (la : List (List Int)) (xb yb nb : Int) (lb : List (List Int)) (f1 : List Int) (a1 s1 : List (List Int)) (f2 : List Int) (a2 s2 : List (List Int)) : PC Try.prog 107 [.g [dI xa, dI ya, dI na, eII la], .g [dI xb, dI yb, dI nb, eII lb], .g [eI f1, eII a1, eII s1], .g [eI f2, eII a2, eII s2]]
    (.t [.g [dI (whenN (wireOK xa ya na la xb yb nb lb f1 a1 s1 f2 a2 s2) 2), dI (whenN (wireOK xa ya na la xb yb nb lb f1 a1 s1 f2 a2 s2) 2), dI (whenN (wireOK xa ya na la xb yb nb lb f1 a1 s1 f2 a2 s2) (na * nb)), eII (whenL (wireOK xa ya na la xb yb nb lb f1 a1 s1 f2 a2 s2) (wiredL la lb f1 a1 s1 f2 a2 s2))], .c (dB (wireOK xa ya na la xb yb nb lb f1 a1 s1 f2 a2 s2))]) := by
  cases hO : wireOK xa ya na la xb yb nb lb f1 a1 s1 f2 a2 s2 with
  | false =>
    refine pc_intro Try.func107 rfl rfl rfl (by kernel_rfl) rfl rfl ?_; intro _
    repeat' (first | (refine so_is (.box 29 _) ?_; refine so_box rfl rfl ?_) | (refine so_is (.box 114 _) ?_; refine so_box rfl rfl ?_) | (refine so_is (.alloc 29) ?_; refine so_alloc (zs := [.int .i64 0, .int .i64 0, .int .i64 0, .slice none 0 0]) (by kernel_rfl) rfl ?_) | (refine so_is (.assign _) ?_; (refine so_q (qt_asC rfl) rfl ?_)) | (refine so_is (.load 29 _) ?_; (refine so_q (qt_load_boxs rfl rfl (by kernel_rfl : tAgg _ 29 4 = true) rfl) rfl ?_)) | (refine so_is (.unOp .not 4 _) ?_; refine so_q (qt_not rfl) rfl ?_) | (refine so_is (.move _) ?_; (refine so_q (qt_mvC rfl) rfl ?_)) | (refine so_is (.load 114 _) ?_; (refine so_q (qt_load_boxs rfl rfl (by kernel_rfl : tAgg _ 114 3 = true) rfl) rfl ?_)) | (refine so_is (.pick _ _ _) ?_; (refine so_q (qt_pkC rfl rfl) rfl ?_)) | (refine so_is (.build 29 _) ?_; refine so_q (qt_build (cs := [_, _, _, _]) [(0, 1), (1, 1), (2, 1), (3, 1)] [.int .i64 0, .int .i64 0, .int .i64 0, .slice none 0 0] (by kernel_rfl) (by kernel_rfl) rfl) rfl ?_) | (refine so_is (.store 29 _ _) ?_; (refine so_store_box rfl rfl rfl (by kernel_rfl) rfl rfl ?_)) | (refine so_is (.call ⟨.value (.func 90), _, _⟩) ?_; (apply so_call0 (fid := 90); (· (repeat (first | exact SeA.nil | (apply SeA.cons; (· (apply SeP.g; (repeat (first | exact SeL.nil | apply SeL.cons (.d _))))))))); (· exact l10Both_p _ _ _ _ _ _ _ _); (· rfl))) | (refine so_is (.call ⟨.value (.func 195), _, _⟩) ?_; (apply so_call0 (fid := 195); (· (repeat (first | exact SeA.nil | (apply SeA.cons; (· (apply SeP.g; (repeat (first | exact SeL.nil | apply SeL.cons (.d _))))))))); (· exact l10Rule_p _ _ _); (· rfl))) | refine so_nil ?_ | refine so_g_no rfl rfl rfl rfl ?_ | refine so_g_yes rfl rfl rfl rfl ?_ | refine so_g_b rfl rfl (fun hg => ?_) (fun hg => ?_) | refine sk_seq ?_ | refine sk_skip ?_ | refine sk_region ?_ | refine sk_true rfl ?_ | refine sk_not rfl (fun hc => ?_) (fun hc => ?_))
    all_goals first | (exfalso; simp_all [wireOK]; done) | skip
    all_goals (apply sk_ret; apply ret_eq; (· apply RetOK.t; (· (apply GvA.cons; (· (apply RV.cellN (n := 4); (· rfl); (· rfl); (· kernel_rfl); (· rfl))); (· (apply GvP.g; (· (apply GvL.cons (.lit _)); (apply GvL.cons (.lit _)); (apply GvL.cons (.lit _)); ((apply GvL.cons (.nil 1 (by decide)))); exact GvL.nil)))); (apply GvA.cons; (· exact .tmp _); (· exact GvP.c (.lit _))); exact GvA.nil); (· rfl); (· (decide))))
    all_goals simp [whenN, whenL]
  | true =>
    have hO2 := hO
    simp only [wireOK, wiresB, Bool.and_eq_true] at hO2
    obtain ⟨⟨v1, v2, _⟩, v3, v4⟩ := hO2
    obtain ⟨rfl, rfl, ha, a1', a2'⟩ := pairB_spec v1
    obtain ⟨rfl, rfl, hb, b1', b2'⟩ := pairB_spec v2
    refine pc_intro Try.func107 rfl rfl rfl (by kernel_rfl) rfl rfl ?_; intro _
    repeat' (first | (refine so_is (.box 29 _) ?_; refine so_box rfl rfl ?_) | (refine so_is (.box 114 _) ?_; refine so_box rfl rfl ?_) | (refine so_is (.alloc 29) ?_; refine so_alloc (zs := [.int .i64 0, .int .i64 0, .int .i64 0, .slice none 0 0]) (by kernel_rfl) rfl ?_) | (refine so_is (.assign _) ?_; (refine so_q (qt_asC rfl) rfl ?_)) | (refine so_is (.load 29 _) ?_; (refine so_q (qt_load_boxs rfl rfl (by kernel_rfl : tAgg _ 29 4 = true) rfl) rfl ?_)) | (refine so_is (.unOp .not 4 _) ?_; refine so_q (qt_not rfl) rfl ?_) | (refine so_is (.move _) ?_; (refine so_q (qt_mvC rfl) rfl ?_)) | (refine so_is (.load 114 _) ?_; (refine so_q (qt_load_boxs rfl rfl (by kernel_rfl : tAgg _ 114 3 = true) rfl) rfl ?_)) | (refine so_is (.pick _ _ _) ?_; (refine so_q (qt_pkC rfl rfl) rfl ?_)) | (refine so_is (.build 29 _) ?_; refine so_q (qt_build (cs := [_, _, _, _]) [(0, 1), (1, 1), (2, 1), (3, 1)] [.int .i64 0, .int .i64 0, .int .i64 0, .slice none 0 0] (by kernel_rfl) (by kernel_rfl) rfl) rfl ?_) | (refine so_is (.store 29 _ _) ?_; (refine so_store_box rfl rfl rfl (by kernel_rfl) rfl rfl ?_)) | (refine so_is (.call ⟨.value (.func 90), _, _⟩) ?_; (apply so_call0 (fid := 90); (· (repeat (first | exact SeA.nil | (apply SeA.cons; (· (apply SeP.g; (repeat (first | exact SeL.nil | apply SeL.cons (.d _))))))))); (· exact l10Both_p _ _ _ _ _ _ _ _); (· rfl))) | (refine so_is (.call ⟨.value (.func 195), _, _⟩) ?_; (apply so_call0 (fid := 195); (· (repeat (first | exact SeA.nil | (apply SeA.cons; (· (apply SeP.g; (repeat (first | exact SeL.nil | apply SeL.cons (.d _))))))))); (· exact l10Rule_p _ _ _); (· rfl))) | (refine so_is (.call ⟨.value (.func 95), _, _⟩) ?_; (apply so_callO0 (fid := 95); (· (repeat (first | exact SeA.nil | (apply SeA.cons; (· (apply SeP.g; (repeat (first | exact SeL.nil | apply SeL.cons (.d _))))))))); (· exact l10Wire_p _ _ _ _ _ _ _ _ _ _ ha hb v3 v4); (· rfl); (· rfl))) | refine so_nil ?_ | refine so_g_no rfl rfl rfl rfl ?_ | refine so_g_yes rfl rfl rfl rfl ?_ | refine so_g_b rfl rfl (fun hg => ?_) (fun hg => ?_) | refine sk_seq ?_ | refine sk_skip ?_ | refine sk_region ?_ | refine sk_true rfl ?_ | refine sk_not rfl (fun hc => ?_) (fun hc => ?_))
    all_goals first | (exfalso; simp_all [wireOK]; done) | skip
    all_goals (apply sk_ret; apply ret_eq; (· apply RetOK.t; (· (apply GvA.cons; (· (apply RV.cellN (n := 4); (· rfl); (· rfl); (· kernel_rfl); (· rfl))); (· (apply GvP.g; (· (apply GvL.cons (.lit _)); (apply GvL.cons (.lit _)); (apply GvL.cons (.lit _)); ((apply GvL.cons (.row _ _ _ _ rfl (by ((simp; done)))))); exact GvL.nil)))); (apply GvA.cons; (· exact .tmp _); (· exact GvP.c (.lit _))); exact GvA.nil); (· rfl); (· (decide))))
    all_goals simp [whenN, whenL]

end Go.Proofs.Ytdihapcicpkdkaa

namespace Go.Proofs.Ytdihapcicpkdkaa
open Go.RowKit
set_option linter.unusedSectionVars false
variable [Glb]
set_option maxRecDepth 10000
set_option maxHeartbeats 4000000
theorem l6Kind_p (k : Int) : PC Try.prog 91 [.c (dI k)] (.p (.c (dB (inB k 0 7)))) := by
  refine pc_intro Try.func91 rfl rfl rfl (by kernel_rfl) rfl rfl ?_; intro _
  repeat' (first | (refine so_is (.assign _) ?_; (refine so_q (qt_asC rfl) rfl ?_)) | (refine so_is (.move _) ?_; (refine so_q (qt_mvC rfl) rfl ?_)) | (refine so_is (.call ⟨.value (.func 166), _, _⟩) ?_; (apply so_call0 (fid := 166); (· (repeat (first | exact SeA.nil | apply SeA.cons (.c (.d _))))); (· exact l1In_p _ _ _); (· rfl))) | refine so_nil ?_ | refine sk_seq ?_ | refine sk_region ?_)
  (apply sk_ret; apply ret_eq; (· apply RetOK.p; (· (apply GvA.cons; (· exact .tmp _); (· exact GvP.c (.lit _))); exact GvA.nil); (· (decide))))
  rfl
theorem l10Asks_p : PC Try.prog 92 [] (.p (.c (eII (playsF 4)))) := by
  refine pc_intro Try.func92 rfl rfl rfl (by kernel_rfl) rfl rfl ?_; intro _
  repeat' (first | (refine so_is (.assign _) ?_; (refine so_q (qt_asC rfl) rfl ?_)) | (refine so_is (.call ⟨.value (.func 135), _, _⟩) ?_; (apply so_callO0 (fid := 135); (· (repeat (first | exact SeA.nil | apply SeA.cons (.c (.d _))))); (· exact l2Plays_p 2 2 (by omega)); (· rfl); (· rfl))) | refine so_nil ?_ | refine sk_seq ?_ | refine sk_region ?_)
  (apply sk_ret; apply ret_eq; (· apply RetOK.p; (· (apply GvA.cons; (· exact .tmp _); (· (exact GvP.c (.row _ _ _ _ rfl (by ((simp; done))))))); exact GvA.nil); (· (decide))))
  rfl
theorem spBestAsks_p (xa ya na : Int) (la : List (List Int)) (xb yb nb : Int) (lb : List (List Int)) (k : Int) : PC Try.prog 10 [.g [dI xa, dI ya, dI na, eII la], .g [dI xb, dI yb, dI nb, eII lb], .c (dI k)]
    (.t [.c (eI (whenA (bestB xa ya na la xb yb nb lb k) (firstA (askS la lb k.toNat) 256))), .c (eI (whenA (bestB xa ya na la xb yb nb lb k) (secondA (askS la lb k.toNat) 256))), .c (dI (whenN (bestB xa ya na la xb yb nb lb k) (mostA (askS la lb k.toNat) 256))), .c (dB (bestB xa ya na la xb yb nb lb k))]) := by
  cases hB : bestB xa ya na la xb yb nb lb k with
  | false =>
    refine pc_intro Try.func10 rfl rfl rfl (by kernel_rfl) rfl rfl ?_; intro _
    repeat' (first | (refine so_is (.box 29 _) ?_; refine so_box rfl rfl ?_) | (refine so_is (.assign _) ?_; (refine so_q (qt_asC rfl) rfl ?_)) | (refine so_is (.load 29 _) ?_; (refine so_q (qt_load_boxs rfl rfl (by kernel_rfl : tAgg _ 29 4 = true) rfl) rfl ?_)) | (refine so_is (.unOp .not 4 _) ?_; refine so_q (qt_not rfl) rfl ?_) | (refine so_is (.move _) ?_; (refine so_q (qt_mvC rfl) rfl ?_)) | (refine so_is (.pick _ _ _) ?_; (refine so_q (qt_pkC rfl rfl) rfl ?_)) | (refine so_is (.buildSlice 26 0 _) ?_; (apply so_bslice (sz := 1) (by_ := 8); (· kernel_rfl); (· decide); (· (repeat (exact GvS.nil _))); (· (decide)); (· rfl); (· rfl); (· rfl))) | (refine so_is (.call ⟨.value (.func 90), _, _⟩) ?_; (apply so_call0 (fid := 90); (· (repeat (first | exact SeA.nil | (apply SeA.cons; (· (apply SeP.g; (repeat (first | exact SeL.nil | apply SeL.cons (.d _))))))))); (· exact l10Both_p _ _ _ _ _ _ _ _); (· rfl))) | (refine so_is (.call ⟨.value (.func 91), _, _⟩) ?_; (apply so_call0 (fid := 91); (· (repeat (first | exact SeA.nil | apply SeA.cons (.c (.d _))))); (· exact l6Kind_p _); (· rfl))) | refine so_nil ?_ | refine so_g_no rfl rfl rfl rfl ?_ | refine so_g_yes rfl rfl rfl rfl ?_ | refine so_g_b rfl rfl (fun hg => ?_) (fun hg => ?_) | refine sk_seq ?_ | refine sk_skip ?_ | refine sk_region ?_ | refine sk_true rfl ?_ | refine sk_not rfl (fun hc => ?_) (fun hc => ?_))
    all_goals first | (exfalso; simp_all [bestB]; done) | skip
    all_goals (apply sk_ret; apply ret_eq; (· apply RetOK.t; (· (apply GvA.cons; (· exact .tmp _); (· (exact GvP.c (.row _ _ _ _ rfl (by ((simp; done))))))); (apply GvA.cons; (· exact .tmp _); (· (exact GvP.c (.row _ _ _ _ rfl (by ((simp; done))))))); (apply GvA.cons; (· exact .tmp _); (· exact GvP.c (.lit _))); (apply GvA.cons; (· exact .tmp _); (· exact GvP.c (.lit _))); exact GvA.nil); (· rfl); (· (decide))))
    all_goals simp [whenN, whenA]
  | true =>
    have hB2 := hB
    simp only [bestB, wiresB, Bool.and_eq_true, decide_eq_true_eq] at hB2
    obtain ⟨⟨v1, v2, hle⟩, v3⟩ := hB2
    obtain ⟨rfl, rfl, ha, a1, a2⟩ := pairB_spec v1
    obtain ⟨rfl, rfl, hb, b1, b2⟩ := pairB_spec v2
    have hk := inB_iff.1 v3
    obtain ⟨K, rfl⟩ : ∃ K : Nat, k = K := ⟨k.toNat, by omega⟩
    rw [Int.toNat_natCast]
    obtain ⟨s, hs⟩ : ∃ s, s = askS la lb K := ⟨_, rfl⟩
    rw [← hs]
    obtain ⟨P, hP⟩ : ∃ P, P = playsF 4 := ⟨_, rfl⟩
    have hPl : P.length = 16 := by rw [hP]; rfl
    have ap := l10Asks_p
    rw [← hP] at ap
    refine pc_intro Try.func10 rfl rfl rfl (by kernel_rfl) rfl rfl ?_; intro _
    repeat' (first | (refine so_is (.box 29 _) ?_; refine so_box rfl rfl ?_) | (refine so_is (.assign _) ?_; (refine so_q (qt_asC rfl) rfl ?_)) | (refine so_is (.load 29 _) ?_; (refine so_q (qt_load_boxs rfl rfl (by kernel_rfl : tAgg _ 29 4 = true) rfl) rfl ?_)) | (refine so_is (.unOp .not 4 _) ?_; refine so_q (qt_not rfl) rfl ?_) | (refine so_is (.move _) ?_; (refine so_q (qt_mvC rfl) rfl ?_)) | (refine so_is (.pick _ _ _) ?_; (refine so_q (qt_pkC rfl rfl) rfl ?_)) | (refine so_is (.buildSlice 26 0 _) ?_; (apply so_bslice (sz := 1) (by_ := 8); (· kernel_rfl); (· decide); (· (repeat (exact GvS.nil _))); (· (decide)); (· rfl); (· rfl); (· rfl))) | (refine so_is (.call ⟨.value (.func 90), _, _⟩) ?_; ((apply so_call0 (fid := 90); (· (repeat (first | exact SeA.nil | (apply SeA.cons; (· (apply SeP.g; (repeat (first | exact SeL.nil | apply SeL.cons (.d _))))))))); (· exact l10Both_p _ _ _ _ _ _ _ _); (· rfl)))) | (refine so_is (.call ⟨.value (.func 91), _, _⟩) ?_; ((apply so_call0 (fid := 91); (· (repeat (first | exact SeA.nil | apply SeA.cons (.c (.d _))))); (· exact l6Kind_p _); (· rfl)))) | (refine so_is (.call ⟨.value (.func 92), _, _⟩) ?_; (apply so_call0 (fid := 92); (· (repeat (exact SeA.nil))); (· exact ap); (· rfl))) | refine so_nil ?_ | refine so_g_no rfl rfl rfl rfl ?_ | refine so_g_yes rfl rfl rfl rfl ?_ | refine so_g_b rfl rfl (fun hg => ?_) (fun hg => ?_) | refine sk_seq ?_ | refine sk_block ?_ | refine sk_skip ?_ | refine sk_region (id := 0) ?_ | refine sk_region (id := 1) ?_ | refine sk_region (id := 2) ?_ | refine sk_region (id := 3) ?_ | refine sk_region (id := 4) ?_ | refine sk_true rfl ?_ | refine sk_nif rfl (fun hc => ?_) (fun hc => ?_))
    all_goals first | (exfalso; simp_all [bestB]; done) | skip
    refine sk_ghost (sim_dem 34 1 rfl) ?_
    refine sk_ghost (sim_dem 35 1 rfl) ?_
    apply sk_packC [2, 3, 4, 10, 11, 12, 13, 14, 15] [3, 4, 17, 19, 31, 32, 33, 34, 35, 53, 61, 69, 90, 92, 1053, 1061, 2053, 2061, 3068] rfl; (· (repeat (first | exact Pf.nil | apply Pf.cons (.c rfl (.d rfl)) | apply Pf.cons (.c rfl (.lp rfl))))); (· (repeat (first | exact Pb.nil | (apply Pb.cons; (· apply Nb.box rfl; (repeat (first | exact Ncs.nil rfl | (apply Ncs.cons rfl; (· (exact .d rfl))))))) | apply Pb.skip)))
    refine sk_loopL [2, 3, 4, 10] [3, 4, 31, 32, 33, 34, 35, 53, 1053, 2053, 17, 61, 1061, 2061, 19, 3068, 69, 90, 92] (fun i => [(15, iN i), (11, .c (.d (eI (firstA s (16 * i))))), (12, .c (.d (eI (secondA s (16 * i))))), (13, iZ (mostA s (16 * i))), (14, .c (.d (dB (foundA (16 * i)))))]) (fun _ => []) (fun i => i ≤ 16) (fun i => 16 - i) (0) ?_ (by (repeat (first | exact trivial | refine ⟨(by (rfl)), ?_⟩))) (by (repeat (exact trivial))) ?_
    · omega
    intro i hi
    by_cases hi2 : i < 16
    · have pi := ask_at hi2
      rw [← hP] at pi
      repeat' (first | (refine so_is (.assign _) ?_; (refine so_q (qt_asC rfl) rfl ?_)) | (refine so_is (.move _) ?_; (refine so_q (qt_mvC rfl) rfl ?_)) | (refine so_is (.call ⟨.builtin .len, _, #[22]⟩) ?_; (refine so_q (qt_len_d rfl (by kernel_rfl)) rfl ?_)) | (refine so_is (.binOp .lss 3 _ _ _) ?_; refine so_q (qt_lss rfl rfl) rfl ?_) | refine so_nil ?_ | refine sk_seq ?_ | refine sk_block ?_ | refine sk_exit rfl ?_ | refine sk_skip ?_ | refine sk_region ?_ | refine sk_if rfl (fun hc => ?_) (fun hc => ?_))
      all_goals first | (exfalso; omega) | skip
      apply sk_packC [2, 3, 4, 10, 11, 12, 13, 14, 15, 16] [3, 4, 17, 19, 31, 32, 33, 34, 35, 53, 61, 69, 90, 92, 1053, 1061, 2053, 2061, 3068] rfl; (· (repeat (first | exact Pf.nil | apply Pf.cons (.c rfl (.d rfl)) | apply Pf.cons (.c rfl (.lp rfl))))); (· (repeat (first | exact Pb.nil | (apply Pb.cons; (· apply Nb.box rfl; (repeat (first | exact Ncs.nil rfl | (apply Ncs.cons rfl; (· (exact .d rfl))))))) | apply Pb.skip)))
      refine sk_loopL [2, 3, 4, 10, 15] [3, 4, 31, 32, 33, 34, 35, 53, 1053, 2053, 17, 61, 1061, 2061, 19, 3068, 69, 90, 92] (fun n => [(16, iN n), (11, .c (.d (eI (firstA s (16 * i + n))))), (12, .c (.d (eI (secondA s (16 * i + n))))), (13, iZ (mostA s (16 * i + n))), (14, .c (.d (dB (foundA (16 * i + n)))))]) (fun _ => []) (fun n => n ≤ 16) (fun n => 16 - n) (0) ?_ (by (repeat (first | exact trivial | refine ⟨(by (rfl)), ?_⟩))) (by (repeat (exact trivial))) ?_
      · omega
      intro n hn
      by_cases hn2 : n < 16
      · have pn := ask_at hn2
        rw [← hP] at pn
        obtain ⟨t, ht⟩ : ∃ t, t = 16 * i + n := ⟨_, rfl⟩
        have t1 : t / 16 = i := by omega
        have t2 : t % 16 = n := by omega
        obtain ⟨LL, hLL⟩ : ∃ LL, LL = askLL la lb t := ⟨_, rfl⟩
        have wp := l10Wire_p na la nb lb sumF (ruleA (askRow i)) sumS sumF (ruleA (askRow n)) sumS ha hb (askRule i) (askRule n)
        have eLL : wiredL la lb sumF (ruleA (askRow i)) sumS sumF (ruleA (askRow n)) sumS = LL := by rw [hLL, askLL, t1, t2]
        rw [eLL] at wp
        have hbx := wire_box ha hb (askRule i) (askRule n)
        rw [eLL, decide_eq_true hle] at hbx
        have sp := l6Sums_p _ LL hbx
        have sl : (sumsL LL).length = 8 := by simp [sumsL]
        have es : atZ (sumsL LL) (K : Int) = s t := by rw [sumsL_at LL (by omega), hs, hLL]; rfl
        have r1 : PC Try.prog 93 [.c (eI (atZ P (i : Int)))] (.t [.g [eI sumF, eII (ruleA (askRow i)), eII sumS], .c (dB true)]) := by rw [pi]; exact spSumRuleBy_p (askRow i) (askRow_len i) (askRow_bits i)
        have r2 : PC Try.prog 93 [.c (eI (atZ P (n : Int)))] (.t [.g [eI sumF, eII (ruleA (askRow n)), eII sumS], .c (dB true)]) := by rw [pn]; exact spSumRuleBy_p (askRow n) (askRow_len n) (askRow_bits n)
        rw [← ht]
        have en : 16 * i + (n + 1) = t + 1 := by omega
        repeat' (first | (refine so_is (.assign _) ?_; (refine so_q (qt_asC rfl) rfl ?_)) | (refine so_is (.load 29 _) ?_; (refine so_q (qt_load_boxs rfl rfl (by kernel_rfl : tAgg _ 29 4 = true) rfl) rfl ?_)) | (refine so_is (.unOp .not 4 _) ?_; refine so_q (qt_not rfl) rfl ?_) | (refine so_is (.move _) ?_; (first | refine so_q (qt_mvC rfl) rfl ?_ | refine so_q (qt_mvT rfl) rfl ?_)) | (refine so_is (.pick _ _ _) ?_; (refine so_q (qt_pkC rfl rfl) rfl ?_)) | (refine so_is (.call ⟨.builtin .len, _, #[22]⟩) ?_; (refine so_q (qt_len_d rfl (by kernel_rfl)) rfl ?_)) | (refine so_is (.binOp .lss 3 _ _ _) ?_; refine so_q (qt_lss rfl rfl) rfl ?_) | (refine so_is (.indexAddr 22 _ _) ?_; (refine so_q (qt_idxII rfl rfl (by kernel_rfl) (by (omega)) (by (omega))) rfl ?_)) | (refine so_is (.load 26 _) ?_; (refine so_q (qt_load_pt rfl (by kernel_rfl) rfl) rfl ?_)) | (refine so_is (.extract _ _) ?_; refine so_q (qt_extract rfl rfl) rfl ?_) | (refine so_is (.alloc 114) ?_; refine so_alloc (zs := [.slice none 0 0, .slice none 0 0, .slice none 0 0]) (by kernel_rfl) rfl ?_) | (refine so_is (.store 114 _ _) ?_; (refine so_store_box rfl rfl rfl (by kernel_rfl) rfl rfl ?_)) | (refine so_is (.load 114 _) ?_; (refine so_q (qt_load_boxs rfl rfl (by kernel_rfl : tAgg _ 114 3 = true) rfl) rfl ?_)) | (refine so_is (.indexAddr 26 _ _) ?_; (refine so_q (qt_idxI rfl rfl (by kernel_rfl) (by (omega)) (by (omega))) rfl ?_)) | (refine so_is (.load 3 _) ?_; (refine so_q (qt_load_pt rfl (by kernel_rfl) rfl) rfl ?_)) | (refine so_is (.binOp .gtr 3 _ _ _) ?_; refine so_q (qt_gtr rfl rfl) rfl ?_) | (refine so_is (.binOp .add 3 _ _ _) ?_; refine so_q (qt_addI rfl rfl (by (omega))) rfl ?_) | (refine so_is (.call ⟨.value (.func 93), _, _⟩) ?_; (first | (apply so_call0 (fid := 93); (· (repeat (first | exact SeA.nil | apply SeA.cons (.c (.d _))))); (· exact r1); (· rfl)) | (apply so_call0 (fid := 93); (· (repeat (first | exact SeA.nil | apply SeA.cons (.c (.d _))))); (· exact r2); (· rfl)))) | (refine so_is (.call ⟨.value (.func 95), _, _⟩) ?_; ((apply so_call0 (fid := 95); (· (repeat (first | exact SeA.nil | (apply SeA.cons; (· (apply SeP.g; (repeat (first | exact SeL.nil | apply SeL.cons (.d _))))))))); (· exact wp); (· rfl)))) | (refine so_is (.call ⟨.value (.func 94), _, _⟩) ?_; ((apply so_call0 (fid := 94); (· (repeat (first | exact SeA.nil | (apply SeA.cons; (· (apply SeP.g; (repeat (first | exact SeL.nil | apply SeL.cons (.d _))))))))); (· exact sp); (· rfl)))) | refine so_nil ?_ | refine so_g_no rfl rfl rfl rfl ?_ | refine so_g_yes rfl rfl rfl rfl ?_ | refine so_g_b rfl rfl (fun hg => ?_) (fun hg => ?_) | refine sk_seq ?_ | refine sk_block ?_ | refine sk_blk ?_ | refine sk_exit rfl ?_ | refine sk_skip ?_ | refine sk_region (id := 8) ?_ | refine sk_region (id := 10) ?_ | refine sk_region (id := 11) ?_ | refine sk_region (id := 12) ?_ | refine sk_region (id := 13) ?_ | refine sk_region (id := 14) ?_ | refine sk_region (id := 15) ?_ | refine sk_region (id := 16) ?_ | refine sk_region (id := 17) ?_ | refine sk_region (id := 6) ?_ | refine sk_true rfl ?_ | refine sk_if rfl (fun hc => ?_) (fun hc => ?_))
        all_goals first | (exfalso; omega) | skip
        · obtain ⟨e1, e2, e3⟩ := sel_yes (s := s) (t := t) (.inl (by simpa using hg))
          rw [t1] at e1
          rw [t2] at e2
          repeat' (first | (refine so_is (.assign _) ?_; (refine so_q (qt_asC rfl) rfl ?_)) | (refine so_is (.move _) ?_; (refine so_q (qt_mvC rfl) rfl ?_)) | (refine so_is (.binOp .add 3 _ _ _) ?_; refine so_q (qt_addI rfl rfl (by (omega))) rfl ?_) | refine so_nil ?_ | refine sk_region ?_)
          refine sk_back ?_; refine ⟨n + 1, ?_, ?_, le_at rfl (by (repeat (first | exact trivial | refine ⟨(by (first | rfl | (refine int_eq rfl ?_; ((simp  [en, e1, e2, e3, es, pi, pn, foundA]; done))) | (refine d_eq rfl ?_; ((simp  [en, e1, e2, e3, es, pi, pn, foundA]; done))))), ?_⟩))) (by (repeat (first | exact trivial | refine ⟨rfl, ?_⟩))) (by (repeat (exact trivial))) (by (repeat (first | exact trivial | refine ⟨.inr rfl, ?_⟩ | refine ⟨.inl rfl, ?_⟩)))⟩
          · omega
          · omega
        · obtain ⟨e1, e2, e3⟩ := sel_yes (s := s) (t := t) (.inr (by rw [← es]; exact hc))
          rw [t1] at e1
          rw [t2] at e2
          repeat' (first | (refine so_is (.assign _) ?_; (refine so_q (qt_asC rfl) rfl ?_)) | (refine so_is (.move _) ?_; (refine so_q (qt_mvC rfl) rfl ?_)) | (refine so_is (.binOp .add 3 _ _ _) ?_; refine so_q (qt_addI rfl rfl (by (omega))) rfl ?_) | refine so_nil ?_ | refine sk_region ?_)
          refine sk_back ?_; refine ⟨n + 1, ?_, ?_, le_at rfl (by (repeat (first | exact trivial | refine ⟨(by (first | rfl | (refine int_eq rfl ?_; ((simp  [en, e1, e2, e3, es, pi, pn, foundA]; done))) | (refine d_eq rfl ?_; ((simp  [en, e1, e2, e3, es, pi, pn, foundA]; done))))), ?_⟩))) (by (repeat (first | exact trivial | refine ⟨rfl, ?_⟩))) (by (repeat (exact trivial))) (by (repeat (first | exact trivial | refine ⟨.inr rfl, ?_⟩ | refine ⟨.inl rfl, ?_⟩)))⟩
          · omega
          · omega
        · obtain ⟨e1, e2, e3⟩ := sel_no (s := s) (t := t) (by simpa using hg) (by rw [← es]; exact hc)
          have hf : foundA t = true := by simpa using hg
          have e4 : foundA (16 * i + (n + 1)) = foundA t := by rw [en, hf]; rfl
          rw [← en] at e1 e2 e3
          repeat' (first | (refine so_is (.assign _) ?_; (refine so_q (qt_asC rfl) rfl ?_)) | (refine so_is (.move _) ?_; (refine so_q (qt_mvC rfl) rfl ?_)) | (refine so_is (.binOp .add 3 _ _ _) ?_; refine so_q (qt_addI rfl rfl (by (omega))) rfl ?_) | refine so_nil ?_ | refine sk_region ?_)
          refine sk_back ?_; refine ⟨n + 1, ?_, ?_, le_at rfl (by (repeat (first | exact trivial | refine ⟨(by (first | rfl | (refine int_eq rfl ?_; (omega)) | (refine bool_eq rfl ?_; ((simp  [e1, e2, e3, e4]; done))) | (refine d_eq rfl ?_; ((simp  [e1, e2, e3, e4]; done))))), ?_⟩))) (by (repeat (first | exact trivial | refine ⟨rfl, ?_⟩))) (by (repeat (exact trivial))) (by (repeat (first | exact trivial | refine ⟨.inr rfl, ?_⟩ | refine ⟨.inl rfl, ?_⟩)))⟩
          · omega
          · omega
      · have e : n = 16 := by omega
        subst e
        repeat' (first | (refine so_is (.assign _) ?_; (refine so_q (qt_asC rfl) rfl ?_)) | (refine so_is (.move _) ?_; (refine so_q (qt_mvC rfl) rfl ?_)) | (refine so_is (.call ⟨.builtin .len, _, #[22]⟩) ?_; (refine so_q (qt_len_d rfl (by kernel_rfl)) rfl ?_)) | (refine so_is (.binOp .lss 3 _ _ _) ?_; refine so_q (qt_lss rfl rfl) rfl ?_) | (refine so_is (.indexAddr 22 _ _) ?_; (refine so_q (qt_idxII rfl rfl (by kernel_rfl) (by (omega)) (by (omega))) rfl ?_)) | (refine so_is (.load 26 _) ?_; (refine so_q (qt_load_pt rfl (by kernel_rfl) rfl) rfl ?_)) | (refine so_is (.binOp .add 3 _ _ _) ?_; refine so_q (qt_addI rfl rfl (by (omega))) rfl ?_) | refine so_nil ?_ | refine sk_seq ?_ | refine sk_block ?_ | refine sk_blk ?_ | refine sk_exit rfl ?_ | refine sk_skip ?_ | refine sk_region ?_ | refine sk_if rfl (fun hc => ?_) (fun hc => ?_))
        all_goals first | (exfalso; omega) | skip
        refine sk_back ?_; refine ⟨i + 1, ?_, ?_, le_at rfl (by (repeat (first | exact trivial | refine ⟨(by (rfl)), ?_⟩))) (by (repeat (first | exact trivial | refine ⟨rfl, ?_⟩))) (by (repeat (exact trivial))) (by (repeat (first | exact trivial | refine ⟨.inr rfl, ?_⟩)))⟩
        · omega
        · omega
    · have e : i = 16 := by omega
      subst e
      have l1 := firstA_len s (16 * 16)
      have l2 := secondA_len s (16 * 16)
      repeat' (first | (refine so_is (.assign _) ?_; (refine so_q (qt_asC rfl) rfl ?_)) | (refine so_is (.move _) ?_; (refine so_q (qt_mvC rfl) rfl ?_)) | (refine so_is (.call ⟨.builtin .len, _, #[22]⟩) ?_; (refine so_q (qt_len_d rfl (by kernel_rfl)) rfl ?_)) | (refine so_is (.binOp .lss 3 _ _ _) ?_; refine so_q (qt_lss rfl rfl) rfl ?_) | (refine so_is (.call ⟨.value (.func 96), _, _⟩) ?_; (apply so_callO0 (fid := 96); (· (repeat (first | exact SeA.nil | apply SeA.cons (.c (.d _))))); (· exact l1Own_p _ (by omega)); (· rfl); (· rfl))) | refine so_nil ?_ | refine sk_seq ?_ | refine sk_block ?_ | refine sk_exit rfl ?_ | refine sk_skip ?_ | refine sk_region ?_ | refine sk_if rfl (fun hc => ?_) (fun hc => ?_))
      all_goals first | (exfalso; omega) | skip
      (apply sk_ret; apply ret_eq; (· apply RetOK.t; (· (apply GvA.cons; (· exact .tmp _); (· (exact GvP.c (.row _ _ _ _ rfl (by ((simp; done))))))); (apply GvA.cons; (· exact .tmp _); (· (exact GvP.c (.row _ _ _ _ rfl (by ((simp; done))))))); (apply GvA.cons; (· exact .tmp _); (· exact GvP.c (.lit _))); (apply GvA.cons; (· exact .tmp _); (· exact GvP.c (.lit _))); exact GvA.nil); (· rfl); (· (decide))))
      simp [whenN, whenA]

end Go.Proofs.Ytdihapcicpkdkaa

namespace Go.Proofs.Ytdihapcicpkdkaa
open Go.RowKit
set_option linter.unusedSectionVars false
variable [Glb]
set_option maxRecDepth 10000
set_option maxHeartbeats 4000000
theorem agreement_p (row : List Int) (h : row.length = 4) (hb : ∀ k : Int, 0 ≤ k → k < 4 → -1000000000 ≤ atZ row k ∧ atZ row k ≤ 1000000000) : PC Try.prog 184 [.c (eI row)] (.p (.c (dI (agrZ row)))) := by
  have b0 := hb 0 (by omega) (by omega)
  have b1 := hb 1 (by omega) (by omega)
  have b2 := hb 2 (by omega) (by omega)
  have b3 := hb 3 (by omega) (by omega)
  refine pc_intro Try.func184 rfl rfl rfl (by kernel_rfl) rfl rfl ?_; intro _
  repeat' (first | (refine so_is (.assign _) ?_; (refine so_q (qt_asC rfl) rfl ?_)) | (refine so_is (.move _) ?_; (refine so_q (qt_mvC rfl) rfl ?_)) | (refine so_is (.indexAddr 26 _ _) ?_; (refine so_q (qt_idxI rfl rfl (by kernel_rfl) (by (omega)) (by (omega))) rfl ?_)) | (refine so_is (.load 3 _) ?_; (refine so_q (qt_load_pt rfl (by kernel_rfl) rfl) rfl ?_)) | (refine so_is (.binOp .sub 3 _ _ _) ?_; refine so_q (qt_subI rfl rfl (by (omega))) rfl ?_) | (refine so_is (.binOp .add 3 _ _ _) ?_; refine so_q (qt_addI rfl rfl (by (omega))) rfl ?_) | refine so_nil ?_ | refine sk_seq ?_ | refine sk_region ?_ | refine sk_drawQ 1 (fun _ => false) (.step 0 true (.step 1 true (.step 2 true (.step 3 true (.step 4 true (.step 5 true (.step 6 true (.step 7 true (.step 8 true (.step 9 true (.step 10 true (.step 11 true (.step 12 true (.step 13 true (.step 14 true (.step 15 true .nil)))))))))))))))) [(0, 65535, 65535, true), (1, 65534, 65535, true), (2, 65533, 65535, false), (0, 65535, 65535, true), (8, 65527, 65535, true), (16, 65519, 65535, false), (36, 65499, 65535, true), (0, 65535, 65535, true), (128, 65407, 65535, true), (256, 65279, 65535, false), (576, 64959, 65535, true), (0, 65535, 65535, true), (2048, 63487, 65535, true), (4096, 61439, 65535, false), (9216, 56319, 65535, true), (32767, 49151, 65535, true)] (by kernel_rfl) (by kernel_rfl) ?_)
  · (apply sk_ret; apply ret_eq; (· apply RetOK.p; (· (apply GvA.cons; (· exact .tmp _); (· exact GvP.c (.lit _))); exact GvA.nil); (· (decide))))
    rfl

end Go.Proofs.Ytdihapcicpkdkaa

namespace Go.Proofs.Ytdihapcicpkdkaa
open Go.RowKit
set_option linter.unusedSectionVars false
variable [Glb]
set_option maxRecDepth 10000
set_option maxHeartbeats 4000000
theorem differ_p (k x y : Nat) (hk : k < 8) (hx : x < 2) (hy : y < 2) : PC Try.prog 194 [.c (dI k), .c (dI x), .c (dI y)] (.p (.c (dI (difK k x y)))) := by
  have e : ((x : Int) * y + (k : Int) / 4 % 2 * x + (k : Int) / 2 % 2 * y + (k : Int) % 2) % 2 = difK k x y ∧ (0 ≤ (x : Int) * y ∧ (x : Int) * y ≤ 1) ∧ (0 ≤ (k : Int) / 4 % 2 * x ∧ (k : Int) / 4 % 2 * x ≤ 1) ∧ (0 ≤ (k : Int) / 2 % 2 * y ∧ (k : Int) / 2 % 2 * y ≤ 1) := by
    unfold difK
    rcases (by omega : x = 0 ∨ x = 1) with rfl | rfl <;> rcases (by omega : y = 0 ∨ y = 1) with rfl | rfl <;> simp <;> omega
  refine pc_intro Try.func194 rfl rfl rfl (by kernel_rfl) rfl rfl ?_; intro _
  repeat' (first | (refine so_is (.assign _) ?_; (refine so_q (qt_asC rfl) rfl ?_)) | (refine so_is (.move _) ?_; (refine so_q (qt_mvC rfl) rfl ?_)) | (refine so_is (.binOp .shr 3 _ _ _) ?_; (first | refine so_q (qt_shrC (c := 4) rfl rfl (by decide)) rfl ?_ | refine so_q (qt_shrC (c := 2) rfl rfl (by decide)) rfl ?_)) | (refine so_is (.binOp .and 3 _ _ _) ?_; refine so_q (qt_andM 1 (c := 2) rfl rfl (by decide)) rfl ?_) | (refine so_is (.binOp .mul 3 _ _ _) ?_; refine so_q (qt_mulI rfl rfl (by (omega))) rfl ?_) | (refine so_is (.binOp .add 3 _ _ _) ?_; refine so_q (qt_addI rfl rfl (by (omega))) rfl ?_) | (refine so_is (.binOp .rem 3 _ _ _) ?_; (refine so_q (qt_remN rfl rfl (by (omega)) (by (omega)) (by (omega))) rfl ?_)) | refine so_nil ?_ | refine sk_seq ?_ | refine sk_region ?_)
  (apply sk_ret; apply ret_eq; (· apply RetOK.p; (· (apply GvA.cons; (· exact .tmp _); (· exact GvP.c (.lit _))); exact GvA.nil); (· (decide))))
  rw [← e.1]
theorem eightSums_p (n : Int) (ll : List (List Int)) (h : boxB 2 2 n ll = true) : PC Try.prog 103 [.g [dI 2, dI 2, dI n, eII ll]] (.p (.c (eI (sumsL ll)))) := by
  have hb := boxB_spec h
  have n1 := hb.n1; have n2 := hb.n2; have hl := hb.len
  refine pc_intro Try.func103 rfl rfl rfl (by kernel_rfl) rfl rfl ?_; intro _
  repeat' (first | (refine so_is (.box 29 _) ?_; refine so_box rfl rfl ?_) | (refine so_is (.assign _) ?_; (refine so_q (qt_asC rfl) rfl ?_)) | (refine so_is (.buildSlice 26 0 _) ?_; (apply so_bslice (sz := 1) (by_ := 8); (· kernel_rfl); (· decide); (· (repeat (exact GvS.nil _))); (· (decide)); (· rfl); (· rfl); (· rfl))) | (refine so_is (.move _) ?_; (refine so_q (qt_mvC rfl) rfl ?_)) | refine so_nil ?_ | refine sk_seq ?_ | refine sk_block ?_ | refine sk_region ?_)
  apply sk_packC [1, 3, 9] [1, 8, 40, 41] rfl; (· (repeat (first | exact Pf.nil | apply Pf.cons (.c rfl (.d rfl)) | apply Pf.cons (.c rfl (.ls rfl)) | apply Pf.cons (.c rfl (.lp rfl))))); (· (repeat (first | exact Pb.nil | apply Pb.cons (.row rfl) | (apply Pb.cons; (· apply Nb.box rfl; (repeat (first | exact Ncs.nil rfl | (apply Ncs.cons rfl; (· (exact .d rfl))))))) | apply Pb.skip)))
  refine sk_loopL [1] [1, 40, 41] (fun k => [(9, iN k), (3, .c (.ls 8 1 0 k))]) (fun k => [(8, .row 1 (cI (rowF (sgnK ll) k)))]) (fun k => k ≤ 8) (fun k => 8 - k) (0) ?_ (by (repeat (first | exact trivial | refine ⟨(by (rfl)), ?_⟩))) (by (repeat (first | exact trivial | refine ⟨(by (rfl)), ?_⟩))) ?_
  · omega
  intro k hk
  by_cases hk8 : k < 8
  · repeat' (first | (refine so_is (.assign _) ?_; (refine so_q (qt_asC rfl) rfl ?_)) | (refine so_is (.move _) ?_; (refine so_q (qt_mvC rfl) rfl ?_)) | (refine so_is (.binOp .lss 3 _ _ _) ?_; refine so_q (qt_lss rfl rfl) rfl ?_) | refine so_nil ?_ | refine sk_seq ?_ | refine sk_block ?_ | refine sk_exit rfl ?_ | refine sk_skip ?_ | refine sk_region ?_ | refine sk_if rfl (fun hc => ?_) (fun hc => ?_))
    all_goals first | (exfalso; omega) | skip
    apply sk_packC [1, 3, 4, 5, 9, 12] [1, 8, 40, 41] rfl; (· (repeat (first | exact Pf.nil | apply Pf.cons (.c rfl (.d rfl)) | apply Pf.cons (.c rfl (.ls rfl)) | apply Pf.cons (.c rfl (.lp rfl))))); (· (repeat (first | exact Pb.nil | apply Pb.cons (.row rfl) | (apply Pb.cons; (· apply Nb.box rfl; (repeat (first | exact Ncs.nil rfl | (apply Ncs.cons rfl; (· (exact .d rfl))))))) | apply Pb.skip)))
    refine sk_loopL [1, 3, 4, 9] [1, 8, 40, 41] (fun x => [(12, iN x), (5, iZ (accT (sgnT ll k) (2 * x)))]) (fun _ => []) (fun x => x ≤ 2) (fun x => 2 - x) (0) ?_ (by (repeat (first | exact trivial | refine ⟨(by (rfl)), ?_⟩))) (by (repeat (exact trivial))) ?_
    · omega
    intro x hx
    have bx := accT_bd (n := n) (by omega) (t := sgnT ll k) (m := 2 * x) fun j hj => sgnT_bd h k (by omega)
    by_cases hx2 : x < 2
    · repeat' (first | (refine so_is (.assign _) ?_; (refine so_q (qt_asC rfl) rfl ?_)) | (refine so_is (.move _) ?_; (refine so_q (qt_mvC rfl) rfl ?_)) | (refine so_is (.binOp .lss 3 _ _ _) ?_; refine so_q (qt_lss rfl rfl) rfl ?_) | (refine so_is (.binOp .add 3 _ _ _) ?_; refine so_q (qt_addI rfl rfl (by (omega))) rfl ?_) | (refine so_is (.buildSlice 26 1 _) ?_; (apply so_bslice (sz := 1) (by_ := 8); (· kernel_rfl); (· decide); (· (repeat (first | exact GvS.nil _ | apply GvS.c rfl rfl (.lit _) rfl))); (· (decide)); (· rfl); (· rfl); (· rfl))) | (refine so_is (.call ⟨.builtin .append, _, #[26, 26]⟩) ?_; ((apply so_appR (sz := 1) (by_ := 8); (· rfl); (· rfl); (· ((simp; done))); (· exact .row _ _ _ _ rfl (by ((simp; done)))); (· (decide)); (· kernel_rfl); (· decide); (· (omega)); (· (omega)); (· rfl); (· rfl); (· rfl)))) | refine so_nil ?_ | refine sk_seq ?_ | refine sk_block ?_ | refine sk_blk ?_ | refine sk_exit rfl ?_ | refine sk_skip ?_ | refine sk_region ?_ | refine sk_if rfl (fun hc => ?_) (fun hc => ?_))
      all_goals first | (exfalso; omega) | skip
      apply sk_packC [1, 3, 4, 5, 6, 9, 12, 15] [1, 8, 40, 41] rfl; (· (repeat (first | exact Pf.nil | apply Pf.cons (.c rfl (.d rfl)) | apply Pf.cons (.c rfl (.ls rfl)) | apply Pf.cons (.c rfl (.lp rfl))))); (· (repeat (first | exact Pb.nil | apply Pb.cons (.row rfl) | (apply Pb.cons; (· apply Nb.box rfl; (repeat (first | exact Ncs.nil rfl | (apply Ncs.cons rfl; (· (exact .d rfl))))))) | apply Pb.skip)))
      refine sk_loopL [1, 3, 4, 6, 9, 12] [1, 8, 40, 41] (fun y => [(15, iN y), (5, iZ (accT (sgnT ll k) (2 * x + y)))]) (fun _ => []) (fun y => y ≤ 2) (fun y => 2 - y) (0) ?_ (by (repeat (first | exact trivial | refine ⟨(by (rfl)), ?_⟩))) (by (repeat (exact trivial))) ?_
      · omega
      intro y hy
      have hm : 2 * x + y ≤ 4 := by omega
      have by_ := accT_bd (n := n) (by omega) (t := sgnT ll k) (m := 2 * x + y) fun j hj => sgnT_bd h k (by omega)
      have hmn : ((2 * x + y : Nat) : Int) * n ≤ 4 * 1000 := Int.mul_le_mul (by omega) n2 (by omega) (by omega)
      by_cases hy2 : y < 2
      · have a := agr_bd h (j := 2 * x + y) (by omega)
        have d := difK_bd k x y
        have sb := sign_bd a.1 a.2 d
        have hr := boxB_at h (q := 2 * (x : Int) + y) (by omega) (by omega)
        have st : sgnT ll k (2 * x + y) = agrZ (atZ ll (2 * (x : Int) + y)) * (1 - 2 * difK k x y) := by
          unfold sgnT
          rw [show (2 * x + y) / 2 = x by omega, show (2 * x + y) % 2 = y by omega]
          congr 2
        have e2 : ((2 * x + y : Nat) : Int) = 2 * (x : Int) + y := by omega
        rw [e2] at a sb
        have es : accT (sgnT ll k) (2 * x + (y + 1)) = accT (sgnT ll k) (2 * x + y) + agrZ (atZ ll (2 * (x : Int) + y)) * (1 - 2 * difK k x y) := by
          rw [← st]; rfl
        repeat' (first | (refine so_is (.assign _) ?_; (refine so_q (qt_asC rfl) rfl ?_)) | (refine so_is (.move _) ?_; (refine so_q (qt_mvC rfl) rfl ?_)) | (refine so_is (.binOp .lss 3 _ _ _) ?_; refine so_q (qt_lss rfl rfl) rfl ?_) | (refine so_is (.fieldAddr 29 _ 3) ?_; (refine so_q (qt_fld_lp (off := 3) rfl (by kernel_rfl)) rfl ?_)) | (refine so_is (.load 22 _) ?_; (refine so_q (qt_load_box rfl rfl (by kernel_rfl) rfl) rfl ?_)) | (refine so_is (.binOp .mul 3 _ _ _) ?_; refine so_q (qt_mulI rfl rfl (by (omega))) rfl ?_) | (refine so_is (.binOp .add 3 _ _ _) ?_; refine so_q (qt_addI rfl rfl (by (omega))) rfl ?_) | (refine so_is (.indexAddr 22 _ _) ?_; (refine so_q (qt_idxII rfl rfl (by kernel_rfl) (by (omega)) (by (omega))) rfl ?_)) | (refine so_is (.load 26 _) ?_; (refine so_q (qt_load_pt rfl (by kernel_rfl) rfl) rfl ?_)) | (refine so_is (.binOp .sub 3 _ _ _) ?_; refine so_q (qt_subI rfl rfl (by (omega))) rfl ?_) | (refine so_is (.call ⟨.value (.func 184), _, _⟩) ?_; (apply so_call0 (fid := 184); (· (repeat (first | exact SeA.nil | apply SeA.cons (.c (.d _))))); (· exact agreement_p _ hr.1 (fun p h1 h2 => by have := hr.2 p h1 h2; omega)); (· rfl))) | (refine so_is (.call ⟨.value (.func 194), _, _⟩) ?_; (apply so_call0 (fid := 194); (· (repeat (first | exact SeA.nil | apply SeA.cons (.c (.d _))))); (· exact differ_p _ _ _ hk8 hx2 hy2); (· rfl))) | refine so_nil ?_ | refine sk_seq ?_ | refine sk_block ?_ | refine sk_blk ?_ | refine sk_exit rfl ?_ | refine sk_skip ?_ | refine sk_region ?_ | refine sk_if rfl (fun hc => ?_) (fun hc => ?_))
        all_goals first | (exfalso; omega) | skip
        refine sk_back ?_; refine ⟨y + 1, ?_, ?_, le_at rfl (by (repeat (first | exact trivial | refine ⟨(by (first | rfl | (refine int_eq rfl ?_; (omega)))), ?_⟩))) (by (repeat (first | exact trivial | refine ⟨rfl, ?_⟩))) (by (repeat (exact trivial))) (by (repeat (first | exact trivial | refine ⟨.inr rfl, ?_⟩)))⟩
        · omega
        · omega
      · have e : y = 2 := by omega
        subst e
        repeat' (first | (refine so_is (.move _) ?_; (refine so_q (qt_mvC rfl) rfl ?_)) | (refine so_is (.binOp .lss 3 _ _ _) ?_; refine so_q (qt_lss rfl rfl) rfl ?_) | (refine so_is (.binOp .add 3 _ _ _) ?_; refine so_q (qt_addI rfl rfl (by (omega))) rfl ?_) | refine so_nil ?_ | refine sk_seq ?_ | refine sk_blk ?_ | refine sk_exit rfl ?_ | refine sk_region ?_ | refine sk_false rfl ?_)
        all_goals first | (exfalso; omega) | skip
        refine sk_back ?_; refine ⟨x + 1, ?_, ?_, le_at rfl (by (repeat (first | exact trivial | refine ⟨(by (rfl)), ?_⟩))) (by (repeat (first | exact trivial | refine ⟨rfl, ?_⟩))) (by (repeat (exact trivial))) (by (repeat (first | exact trivial | refine ⟨.inr rfl, ?_⟩)))⟩
        · omega
        · omega
    · have e : x = 2 := by omega
      subst e
      repeat' (first | (refine so_is (.assign _) ?_; (refine so_q (qt_asC rfl) rfl ?_)) | (refine so_is (.move _) ?_; (refine so_q (qt_mvC rfl) rfl ?_)) | (refine so_is (.binOp .lss 3 _ _ _) ?_; refine so_q (qt_lss rfl rfl) rfl ?_) | (refine so_is (.binOp .add 3 _ _ _) ?_; refine so_q (qt_addI rfl rfl (by (omega))) rfl ?_) | (refine so_is (.buildSlice 26 1 _) ?_; (apply so_bslice (sz := 1) (by_ := 8); (· kernel_rfl); (· decide); (· (repeat (first | exact GvS.nil _ | apply GvS.c rfl rfl (.lit _) rfl))); (· (decide)); (· rfl); (· rfl); (· rfl))) | (refine so_is (.call ⟨.builtin .append, _, #[26, 26]⟩) ?_; ((apply so_appR (sz := 1) (by_ := 8); (· rfl); (· rfl); (· ((simp; done))); (· exact .row _ _ _ _ rfl (by ((simp; done)))); (· (decide)); (· kernel_rfl); (· decide); (· (omega)); (· (omega)); (· rfl); (· rfl); (· rfl)))) | refine so_nil ?_ | refine sk_seq ?_ | refine sk_blk ?_ | refine sk_exit rfl ?_ | refine sk_region ?_ | refine sk_false rfl ?_)
      all_goals first | (exfalso; omega) | skip
      refine sk_back ?_; refine ⟨k + 1, ?_, ?_, le_at rfl (by (repeat (first | exact trivial | refine ⟨(by (rfl)), ?_⟩))) (by (repeat (first | exact trivial | refine ⟨rfl, ?_⟩))) (by (repeat (first | exact trivial | refine ⟨(by ((refine row_eq rfl ?_; simp  [rowF_snoc, sgnK]; done))), ?_⟩))) (by (repeat (first | exact trivial | refine ⟨.inr rfl, ?_⟩)))⟩
      · omega
      · omega
  · have e : k = 8 := by omega
    subst e
    repeat' (first | (refine so_is (.assign _) ?_; (refine so_q (qt_asC rfl) rfl ?_)) | (refine so_is (.move _) ?_; (refine so_q (qt_mvC rfl) rfl ?_)) | (refine so_is (.binOp .lss 3 _ _ _) ?_; refine so_q (qt_lss rfl rfl) rfl ?_) | refine so_nil ?_ | refine sk_seq ?_ | refine sk_exit rfl ?_ | refine sk_region ?_ | refine sk_false rfl ?_)
    all_goals first | (exfalso; omega) | skip
    (apply sk_ret; apply ret_eq; (· apply RetOK.p; (· (apply GvA.cons; (· exact .tmp _); (· (exact GvP.c (.row _ _ _ _ rfl (by ((simp; done))))))); exact GvA.nil); (· (decide))))
    simp [sumsL]

end Go.Proofs.Ytdihapcicpkdkaa

namespace Go.Proofs.Ytdihapcicpkdkaa
open Go.RowKit
set_option linter.unusedSectionVars false
variable [Glb]
set_option maxRecDepth 10000
set_option maxHeartbeats 4000000
theorem copied_p (l : List Int) (h : l.length ≤ 10000000) : PC Try.prog 208 [.c (eI l)] (.p (.c (eI l))) := by
  refine pc_intro Try.func208 rfl rfl rfl (by kernel_rfl) rfl rfl ?_; intro _
  repeat' (first | (refine so_is (.assign _) ?_; (refine so_q (qt_asC rfl) rfl ?_)) | (refine so_is (.buildSlice 26 0 _) ?_; (apply so_bslice (sz := 1) (by_ := 8); (· kernel_rfl); (· decide); (· (repeat (exact GvS.nil _))); (· (decide)); (· rfl); (· rfl); (· rfl))) | (refine so_is (.move _) ?_; (refine so_q (qt_mvC rfl) rfl ?_)) | (refine so_is (.call ⟨.builtin .append, _, #[26, 26]⟩) ?_; ((apply so_appR (sz := 1) (by_ := 8); (· rfl); (· rfl); (· ((simp; done))); (· exact .see _ _ _ (by (exact Lits.map))); (· (decide)); (· kernel_rfl); (· decide); (· (omega)); (· (omega)); (· rfl); (· rfl); (· rfl)))) | refine so_nil ?_ | refine sk_seq ?_ | refine sk_region ?_)
  · (apply sk_ret; apply ret_eq; (· apply RetOK.p; (· (apply GvA.cons; (· exact .tmp _); (· (exact GvP.c (.row _ _ _ _ rfl (by ((simp; done))))))); exact GvA.nil); (· (decide))))
    simp

end Go.Proofs.Ytdihapcicpkdkaa

namespace Go.Proofs.Ytdihapcicpkdkaa
open Go.RowKit
set_option linter.unusedSectionVars false
variable [Glb]
set_option maxRecDepth 10000
set_option maxHeartbeats 4000000
theorem within_p (n lo hi : Int) : PC Try.prog 99 [.c (dI n), .c (dI lo), .c (dI hi)] (.p (.c (dB (inB n lo hi)))) := by
  refine pc_intro Try.func99 rfl rfl rfl (by kernel_rfl) rfl rfl ?_; intro _
  repeat' (first | (refine so_is (.assign _) ?_; (refine so_q (qt_asC rfl) rfl ?_)) | (refine so_is (.move _) ?_; (refine so_q (qt_mvC rfl) rfl ?_)) | (refine so_is (.binOp .geq 3 _ _ _) ?_; refine so_q (qt_geq rfl rfl) rfl ?_) | (refine so_is (.binOp .leq 3 _ _ _) ?_; refine so_q (qt_leq rfl rfl) rfl ?_) | (refine so_is (.pick _ _ _) ?_; (refine so_q (qt_pkC rfl rfl) rfl ?_)) | refine so_nil ?_ | refine so_g_no rfl rfl rfl rfl ?_ | refine so_g_yes rfl rfl rfl rfl ?_ | refine so_g_if rfl rfl (fun hg => ?_) (fun hg => ?_) | refine sk_seq ?_ | refine sk_region ?_)
  all_goals ((apply sk_ret; apply ret_eq; (· apply RetOK.p; (· (apply GvA.cons; (· exact .tmp _); (· exact GvP.c (.lit _))); exact GvA.nil); (· (decide)))))
  all_goals (simp [dB, inB, *]; try omega)

end Go.Proofs.Ytdihapcicpkdkaa

namespace Go.Proofs.Ytdihapcicpkdkaa
open Go.RowKit
set_option linter.unusedSectionVars false
variable [Glb]
set_option maxRecDepth 10000
set_option maxHeartbeats 4000000
theorem ruleOf_p (asks : List Int) (a b c d : Int) (h : asks.length = 4) : PC Try.prog 193 [.c (eI asks), .g [dI a, dI b, dI c, dI d]] (.p (.g [eI sumF, eII (ruleA asks), eII [[a, b, c, d], [a, b, c, d]]])) := by
  have p4 := part4 h
  have l1 : (partZ asks 0 2).length = 2 := by rw [p4.1]; rfl
  have l2 : (partZ asks 2 asks.length).length = 2 := by rw [p4.2]; rfl
  have cp : PC Try.prog 208 [.c (.sl 1 4 [dI a, dI b, dI c, dI d])] (.p (.c (eI [a, b, c, d]))) := copied_p [a, b, c, d] (by simp)
  refine pc_intro Try.func193 rfl rfl rfl (by kernel_rfl) rfl rfl ?_; intro _
  repeat' (first | (refine so_is (.box 186 _) ?_; refine so_box rfl rfl ?_) | (refine so_is (.alloc 114) ?_; refine so_alloc (zs := [.slice none 0 0, .slice none 0 0, .slice none 0 0]) (by kernel_rfl) rfl ?_) | refine so_nil ?_ | refine sk_seq ?_ | refine sk_region (id := 0) ?_)
  refine sk_ghost (sim_box_row (b := 3) (vs := [.int .i64 a, .int .i64 b, .int .i64 c, .int .i64 d]) rfl rfl) ?_
  repeat' (first | (with_reducible apply so_lt) | intro Y hY | ((with_reducible apply so_j2); (· assumption); (· rfl); (· exact (by (repeat (first | exact trivial | refine ⟨rfl, ?_⟩)))); (· exact (by (repeat (first | exact trivial | refine ⟨rfl, ?_⟩))))) | ((with_reducible apply so_j1); (· rfl); (· (repeat (first | exact Pf.nil | apply Pf.cons (.c rfl (.d rfl)) | apply Pf.cons (.c rfl (.ls rfl)) | apply Pf.cons (.c rfl (.lp rfl)) | (apply Pf.cons; (· apply Nv.g rfl; (repeat (first | exact Ncs.nil rfl | (apply Ncs.cons rfl; (· (exact .ls rfl)))))))))); (· (repeat (first | exact Pb.nil | apply Pb.cons (.row rfl) | (apply Pb.cons; (· apply Nb.box rfl; (repeat (first | exact Ncs.nil rfl | (apply Ncs.cons rfl; (· (exact .d rfl))))))) | apply Pb.skip))); (· assumption)) | refine so_alt ?_ ?_ | (refine so_is (.buildSlice 26 2 _) ?_; (apply so_bslice (sz := 1) (by_ := 8); (· kernel_rfl); (· decide); (· (repeat (first | exact GvS.nil _ | apply GvS.c rfl rfl (.lit _) rfl))); (· (decide)); (· rfl); (· rfl); (· rfl))) | (refine so_is (.move _) ?_; (refine so_q (qt_mvC rfl) rfl ?_)) | (refine so_is (.slice 26 _ none (some _) none) ?_; (refine so_q (qt_slice_dI01 rfl rfl (by kernel_rfl) (by (omega)) (by (omega))) rfl ?_)) | (refine so_is (.slice 26 _ (some _) none none) ?_; (refine so_q (qt_slice_dI10 rfl rfl (by kernel_rfl) (by (omega)) (by (omega))) rfl ?_)) | (refine so_is (.buildSlice 22 2 _) ?_; (apply so_bslice (sz := 1) (by_ := 24); (· kernel_rfl); (· decide); (· (repeat (first | exact GvS.nil _ | apply GvS.c rfl rfl (.row _ _ _ _ rfl (by ((simp; done)))) rfl))); (· (decide)); (· rfl); (· rfl); (· rfl))) | (refine so_is (.slice 186 _ none none none) ?_; refine so_q (qt_slice_arr rfl rfl (by kernel_rfl : tArr _ 186 4 1 = true) (by (rfl)) (by kernel_rfl)) rfl ?_) | (refine so_is (.build 114 _) ?_; refine so_q (qt_build (cs := [_, _, _]) [(0, 1), (1, 1), (2, 1)] [.slice none 0 0, .slice none 0 0, .slice none 0 0] (by kernel_rfl) (by kernel_rfl) rfl) rfl ?_) | (refine so_is (.store 114 _ _) ?_; (refine so_store_box rfl rfl rfl (by kernel_rfl) rfl rfl ?_)) | (refine so_is (.call ⟨.value (.func 208), _, _⟩) ?_; (first | (apply so_callO0 (fid := 208); (· (repeat (first | exact SeA.nil | apply SeA.cons (.c (.d _))))); (· exact copied_p _ (by omega)); (· rfl); (· rfl)) | (apply so_callO0 (fid := 208); (· (repeat (first | exact SeA.nil | apply SeA.cons (.c (.all _ _ _ _ rfl (by ((simp; done)))))))); (· exact cp); (· rfl); (· rfl)))) | refine so_nil ?_ | refine sk_drawQ 1 (fun i => i == 14) (IT.lt (.step 14 false .nil) fun Y11 => (IT.lt (.step 12 false (.step 13 true (IT.ref false [4, 18] [3, 4, 5, 8, 11, 12, 14, 16, 17] Y11))) fun Y10 => (IT.lt (.step 7 false (.step 13 true (IT.ref false [4, 18] [3, 4, 5, 8, 11, 12, 14, 16, 17] Y11))) fun Y9 => (IT.lt (.step 0 false (.step 13 true (IT.ref true [4, 18] [3, 4, 5, 8, 11, 12, 14, 16, 17] Y11))) fun Y8 => (IT.lt (.step 11 false (IT.ref false [4, 5, 12, 14, 16] [3, 4, 5, 8, 11, 12, 14, 16, 17] Y10)) fun Y7 => (IT.lt (.alt 1 (.step 7 false (IT.ref false [4, 5, 12, 14, 16] [3, 4, 5, 8, 11, 12, 14, 16, 17] Y10)) (.step 12 false (IT.ref false [4, 5, 8, 11, 17] [3, 4, 5, 8, 11, 12, 14, 16, 17] Y9))) fun Y6 => (IT.lt (.alt 1 (.step 0 false (IT.ref true [4, 5, 12, 14, 16] [3, 4, 5, 8, 11, 12, 14, 16, 17] Y10)) (.step 12 false (IT.ref false [4, 12, 17] [3, 4, 5, 8, 11, 12, 14, 16, 17] Y8))) fun Y5 => (IT.lt (.step 9 false (IT.ref false [4, 5, 12, 14, 15] [3, 4, 5, 8, 11, 12, 14, 16, 17] Y7)) fun Y4 => (IT.lt (.alt 1 (.step 7 false (IT.ref false [4, 5, 12, 14, 15] [3, 4, 5, 8, 11, 12, 14, 16, 17] Y7)) (.step 11 false (IT.ref false [4, 5, 8, 11, 14, 16] [3, 4, 5, 8, 11, 12, 14, 16, 17] Y6))) fun Y3 => (IT.lt (.alt 1 (.step 0 false (IT.ref true [4, 5, 12, 14, 15] [3, 4, 5, 8, 11, 12, 14, 16, 17] Y7)) (.step 11 false (IT.ref false [4, 12, 14, 16] [3, 4, 5, 8, 11, 12, 14, 16, 17] Y5))) fun Y2 => (IT.lt (.alt 1 (.step 7 false (IT.ref false [4, 5, 12, 13, 15] [3, 4, 5, 8, 11, 12, 14, 16, 17] Y4)) (.step 9 false (IT.ref false [4, 5, 8, 11, 14, 15] [3, 4, 5, 8, 11, 12, 14, 16, 17] Y3))) fun Y1 => (IT.lt (.step 6 false (IT.ref false [4, 5, 8, 11, 13, 15] [3, 4, 5, 8, 11, 12, 14, 16, 17] Y1)) fun Y0 => (.step 1 true (.step 2 true (.step 4 true (.step 5 true (.step 8 true (.step 10 true (.alt 1 (.step 0 false (.step 3 false (IT.ref true [4, 5, 8, 10, 13, 15] [3, 4, 5, 8, 11, 12, 14, 16, 17] Y0))) (.step 3 false (.alt 1 (.step 0 false (IT.ref false [4, 5, 8, 10, 13, 15] [3, 4, 5, 8, 11, 12, 14, 16, 17] Y0)) (.step 6 false (.alt 1 (.step 0 false (IT.ref true [4, 5, 8, 11, 13, 15] [3, 4, 5, 8, 11, 12, 14, 16, 17] Y1)) (.alt 1 (.step 7 false (.alt 1 (.step 0 false (IT.ref true [4, 5, 12, 13, 15] [3, 4, 5, 8, 11, 12, 14, 16, 17] Y4)) (.step 9 false (IT.ref true [4, 12, 14, 15] [3, 4, 5, 8, 11, 12, 14, 16, 17] Y2)))) (.step 9 false (.alt 1 (.step 0 false (IT.ref true [4, 5, 8, 11, 14, 15] [3, 4, 5, 8, 11, 12, 14, 16, 17] Y3)) (.alt 1 (.step 7 false (IT.ref false [4, 12, 14, 15] [3, 4, 5, 8, 11, 12, 14, 16, 17] Y2)) (.step 11 false (.alt 1 (.step 0 false (IT.ref true [4, 5, 8, 11, 14, 16] [3, 4, 5, 8, 11, 12, 14, 16, 17] Y6)) (.alt 1 (.step 7 false (IT.ref true [4, 12, 14, 16] [3, 4, 5, 8, 11, 12, 14, 16, 17] Y5)) (.step 12 false (.alt 1 (.step 0 false (IT.ref true [4, 5, 8, 11, 17] [3, 4, 5, 8, 11, 12, 14, 16, 17] Y9)) (.step 7 false (IT.ref true [4, 12, 17] [3, 4, 5, 8, 11, 12, 14, 16, 17] Y8)))))))))))))))))))))))))))))))))) [(0, 32767, 32767, false), (0, 32767, 32767, true), (2, 32765, 32767, true), (4, 32763, 32767, false), (0, 32767, 32767, true), (16, 32751, 32767, true), (40, 32735, 32767, false), (72, 32695, 32767, false), (0, 32767, 32767, true), (320, 32511, 32767, false), (0, 32767, 32767, true), (1536, 31743, 32767, false), (2560, 30207, 32767, false), (4225, 28542, 32767, true), (16383, 24575, 32767, false)] (by kernel_rfl) (by kernel_rfl) ?_)
  (apply sk_ret; apply ret_eq; (· apply RetOK.p; (· (apply GvA.cons; (· (apply RV.cellN (n := 3); (· rfl); (· rfl); (· kernel_rfl); (· rfl))); (· (apply GvP.g; (· ((apply GvL.cons (.row _ _ _ _ rfl (by ((simp; done)))))); ((apply GvL.cons (.row _ _ _ _ rfl (by ((simp; done)))))); ((apply GvL.cons (.row _ _ _ _ rfl (by ((simp; done)))))); exact GvL.nil)))); exact GvA.nil); (· (decide))))
  rw [p4.1, p4.2]
  rfl
theorem NamedRule3_p : PC Try.prog 176 [.c (dI 3)] (.t [.g [eI sumF, eII sumA, eII sumS], .c (dB true)]) := by
  refine pc_intro Try.func176 rfl rfl rfl (by kernel_rfl) rfl rfl ?_; intro _
  repeat' (first | (refine so_is (.alloc 114) ?_; refine so_alloc (zs := [.slice none 0 0, .slice none 0 0, .slice none 0 0]) (by kernel_rfl) rfl ?_) | (refine so_is (.assign _) ?_; (refine so_q (qt_asC rfl) rfl ?_)) | (refine so_is (.build 186 _) ?_; refine so_q (qt_build (cs := [_, _, _, _]) [(0, 1), (1, 1), (2, 1), (3, 1)] [.int .i64 0, .int .i64 0, .int .i64 0, .int .i64 0] (by kernel_rfl) (by kernel_rfl) rfl) rfl ?_) | (refine so_is (.build 212 _) ?_; refine so_q (qt_build (cs := [_, _, _, _, _, _, _, _, _, _, _, _]) [(0, 4), (4, 4), (8, 4)] [.int .i64 0, .int .i64 0, .int .i64 0, .int .i64 0, .int .i64 0, .int .i64 0, .int .i64 0, .int .i64 0, .int .i64 0, .int .i64 0, .int .i64 0, .int .i64 0] (by kernel_rfl) (by kernel_rfl) rfl) rfl ?_) | (refine so_is (.alloc 212) ?_; refine so_alloc (zs := [.int .i64 0, .int .i64 0, .int .i64 0, .int .i64 0, .int .i64 0, .int .i64 0, .int .i64 0, .int .i64 0, .int .i64 0, .int .i64 0, .int .i64 0, .int .i64 0]) (by kernel_rfl) rfl ?_) | (refine so_is (.store 212 _ _) ?_; (refine so_store_box rfl rfl rfl (by kernel_rfl) rfl rfl ?_)) | (refine so_is (.move _) ?_; (refine so_q (qt_mvC rfl) rfl ?_)) | (refine so_is (.unOp .not 4 _) ?_; refine so_q (qt_not rfl) rfl ?_) | (refine so_is (.store 114 _ _) ?_; (refine so_store_box rfl rfl rfl (by kernel_rfl) rfl rfl ?_)) | (refine so_is (.buildSlice 26 4 _) ?_; (apply so_bslice (sz := 1) (by_ := 8); (· kernel_rfl); (· decide); (· (repeat (first | exact GvS.nil _ | apply GvS.c rfl rfl (.lit _) rfl))); (· (decide)); (· rfl); (· rfl); (· rfl))) | (refine so_is (.binOp .sub 3 _ _ _) ?_; refine so_q (qt_subI rfl rfl (by (omega))) rfl ?_) | (refine so_is (.indexAddr 212 _ _) ?_; (refine so_q (qt_idxa_lp rfl rfl (by kernel_rfl : tArr _ 212 3 4 = true) (by (omega)) (by (omega))) rfl ?_)) | (refine so_is (.load 186 _) ?_; (refine so_q (qt_load_boxs rfl rfl (by kernel_rfl : tAgg _ 186 4 = true) rfl) rfl ?_)) | (refine so_is (.call ⟨.value (.func 99), _, _⟩) ?_; (apply so_call0 (fid := 99); (· (repeat (first | exact SeA.nil | apply SeA.cons (.c (.d _))))); (· exact within_p _ _ _); (· rfl))) | (refine so_is (.call ⟨.value (.func 193), _, _⟩) ?_; (apply so_callO0 (fid := 193); (· (repeat (first | exact SeA.nil | apply SeA.cons (.c (.all _ _ _ _ rfl (by ((simp; done))))) | (apply SeA.cons; (· (apply SeP.g; (repeat (first | exact SeL.nil | apply SeL.cons (.d _))))))))); (· exact ruleOf_p [0, 0, 1, 1] 0 1 1 0 rfl); (· rfl); (· rfl))) | refine so_nil ?_ | refine sk_seq ?_ | refine sk_skip ?_ | refine sk_region ?_ | refine sk_false rfl ?_)
  all_goals first | (exfalso; simp_all [inB]; done) | skip
  (apply sk_ret; apply ret_eq; (· apply RetOK.t; (· (apply GvA.cons; (· (apply RV.cellN (n := 3); (· rfl); (· rfl); (· kernel_rfl); (· rfl))); (· (apply GvP.g; (· ((apply GvL.cons (.row _ _ _ _ rfl (by ((simp; done)))))); ((apply GvL.cons (.row _ _ _ _ rfl (by ((simp; done)))))); ((apply GvL.cons (.row _ _ _ _ rfl (by ((simp; done)))))); exact GvL.nil)))); (apply GvA.cons; (· exact .tmp _); (· exact GvP.c (.lit _))); exact GvA.nil); (· rfl); (· (decide))))
  rfl
theorem sumRuleBy_p (asks : List Int) (h : asks.length = 4) : PC Try.prog 102 [.c (eI asks)] (.p (.g [eI sumF, eII (ruleA asks), eII sumS])) := by
  refine pc_intro Try.func102 rfl rfl rfl (by kernel_rfl) rfl rfl ?_; intro _
  repeat' (first | (refine so_is (.alloc 114) ?_; refine so_alloc (zs := [.slice none 0 0, .slice none 0 0, .slice none 0 0]) (by kernel_rfl) rfl ?_) | (refine so_is (.move _) ?_; (refine so_q (qt_mvC rfl) rfl ?_)) | (refine so_is (.build 186 _) ?_; refine so_q (qt_build (cs := [_, _, _, _]) [(0, 1), (1, 1), (2, 1), (3, 1)] [.int .i64 0, .int .i64 0, .int .i64 0, .int .i64 0] (by kernel_rfl) (by kernel_rfl) rfl) rfl ?_) | (refine so_is (.store 114 _ _) ?_; (refine so_store_box rfl rfl rfl (by kernel_rfl) rfl rfl ?_)) | (refine so_is (.call ⟨.value (.func 193), _, _⟩) ?_; (apply so_callO0 (fid := 193); (· (repeat (first | exact SeA.nil | apply SeA.cons (.c (.d _)) | (apply SeA.cons; (· (apply SeP.g; (repeat (first | exact SeL.nil | apply SeL.cons (.d _))))))))); (· exact ruleOf_p asks 0 1 1 0 h); (· rfl); (· rfl))) | refine so_nil ?_ | refine sk_seq ?_ | refine sk_region ?_)
  all_goals first | (exfalso; simp_all [inB]; done) | skip
  (apply sk_ret; apply ret_eq; (· apply RetOK.p; (· (apply GvA.cons; (· (apply RV.cellN (n := 3); (· rfl); (· rfl); (· kernel_rfl); (· rfl))); (· (apply GvP.g; (· ((apply GvL.cons (.row _ _ _ _ rfl (by ((simp; done)))))); ((apply GvL.cons (.row _ _ _ _ rfl (by ((simp; done)))))); ((apply GvL.cons (.row _ _ _ _ rfl (by ((simp; done)))))); exact GvL.nil)))); exact GvA.nil); (· (decide))))
  rfl

end Go.Proofs.Ytdihapcicpkdkaa

namespace Go.Proofs.Ytdihapcicpkdkaa
open Go.RowKit
set_option linter.unusedSectionVars false
variable [Glb]
set_option maxRecDepth 10000
set_option maxHeartbeats 4000000
theorem at_p (X Y n : Int) (ll : List (List Int)) (h : boxB X Y n ll = true) (x y a c : Int) (x0 : 0 ≤ x) (x1 : x < X) (y0 : 0 ≤ y) (y1 : y < Y) (a0 : 0 ≤ a) (a1 : a ≤ 1) (c0 : 0 ≤ c) (c1 : c ≤ 1) :
    PC Try.prog 192 [.g [dI X, dI Y, dI n, eII ll], .c (dI x), .c (dI y), .c (dI a), .c (dI c)] (.p (.c (dI (atB ll Y x y (2 * a + c))))) := by
  have hb := boxB_spec h
  have hi := idx_lt x0 x1 y0 y1
  have hr := (boxB_at h hi.1 hi.2.1).1
  have hm := mul_bd3 (x := X) (y := Y) (sizeB_iff.2 ⟨⟨hb.x1, hb.x3⟩, hb.y1, hb.y3⟩)
  have hl := hb.len
  refine pc_intro Try.func192 rfl rfl rfl (by kernel_rfl) rfl rfl ?_; intro _
  repeat' (first | (refine so_is (.box 29 _) ?_; refine so_box rfl rfl ?_) | (refine so_is (.assign _) ?_; (refine so_q (qt_asC rfl) rfl ?_)) | (refine so_is (.fieldAddr 29 _ 3) ?_; (refine so_q (qt_fld_lp (off := 3) rfl (by kernel_rfl)) rfl ?_)) | (refine so_is (.load 22 _) ?_; (refine so_q (qt_load_box rfl rfl (by kernel_rfl) rfl) rfl ?_)) | (refine so_is (.move _) ?_; (refine so_q (qt_mvC rfl) rfl ?_)) | (refine so_is (.fieldAddr 29 _ 1) ?_; (refine so_q (qt_fld_lp (off := 1) rfl (by kernel_rfl)) rfl ?_)) | (refine so_is (.load 3 _) ?_; (first | refine so_q (qt_load_box rfl rfl (by kernel_rfl) rfl) rfl ?_ | refine so_q (qt_load_pt rfl (by kernel_rfl) rfl) rfl ?_)) | (refine so_is (.binOp .mul 3 _ _ _) ?_; refine so_q (qt_mulI rfl rfl (by (omega))) rfl ?_) | (refine so_is (.binOp .add 3 _ _ _) ?_; refine so_q (qt_addI rfl rfl (by (omega))) rfl ?_) | (refine so_is (.indexAddr 22 _ _) ?_; (refine so_q (qt_idxII rfl rfl (by kernel_rfl) (by (omega)) (by (omega))) rfl ?_)) | (refine so_is (.load 26 _) ?_; (refine so_q (qt_load_pt rfl (by kernel_rfl) rfl) rfl ?_)) | (refine so_is (.indexAddr 26 _ _) ?_; (refine so_q (qt_idxI rfl rfl (by kernel_rfl) (by (omega)) (by (omega))) rfl ?_)) | refine so_nil ?_ | refine sk_seq ?_ | refine sk_region ?_)
  · (apply sk_ret; apply ret_eq; (· apply RetOK.p; (· (apply GvA.cons; (· exact .tmp _); (· exact GvP.c (.lit _))); exact GvA.nil); (· (decide))))
    rfl

end Go.Proofs.Ytdihapcicpkdkaa

namespace Go.Proofs.Ytdihapcicpkdkaa
open Go.RowKit
set_option linter.unusedSectionVars false
variable [Glb]
set_option maxRecDepth 10000
set_option maxHeartbeats 4000000
theorem newBox_p (x y : Nat) (wh : Int) (fid : FuncId) (caps : List D) (f : Nat → Nat → Nat → Int) (hx : x ≤ 3) (hy : y ≤ 3)
    (hf : ∀ i k p : Nat, i < x → k < y → p < 4 → PC Try.prog fid ([.c (dI i), .c (dI k), .c (dI ((p / 2 : Nat) : Int)), .c (dI ((p % 2 : Nat) : Int))] ++ caps.map RP.c) (.p (.c (dI (f i k p))))) :
    PC Try.prog 190 [.c (dI x), .c (dI y), .c (dI wh), .c (.fn (.func fid) caps)] (.p (.g [dI x, dI y, dI wh, eII (boxF f y (y * x))])) := by
  have hxy : y * x ≤ 3 * 3 := Nat.mul_le_mul hy hx
  refine pc_intro Try.func190 rfl rfl rfl (by kernel_rfl) rfl rfl ?_; intro _
  repeat' (first | (refine so_is (.alloc 29) ?_; refine so_alloc (zs := [.int .i64 0, .int .i64 0, .int .i64 0, .slice none 0 0]) (by kernel_rfl) rfl ?_) | (refine so_is (.move _) ?_; (refine so_q (qt_mvC rfl) rfl ?_)) | (refine so_is (.build 29 _) ?_; refine so_q (qt_build (cs := [_, _, _, _]) [(0, 1), (1, 1), (2, 1), (3, 1)] [.int .i64 0, .int .i64 0, .int .i64 0, .slice none 0 0] (by kernel_rfl) (by kernel_rfl) rfl) rfl ?_) | (refine so_is (.store 29 _ _) ?_; (refine so_store_box rfl rfl rfl (by kernel_rfl) rfl rfl ?_)) | refine so_nil ?_ | refine sk_seq ?_ | refine sk_block ?_ | refine sk_region ?_)
  refine sk_ghost (sim_nil_box 9 3 46 1 rfl (by decide) rfl rfl rfl) ?_
  apply sk_packC [1, 3, 8, 9, 18, 19] [8, 9, 26, 39, 40, 45, 46] rfl; (· (repeat (first | exact Pf.nil | apply Pf.cons (.c rfl (.d rfl)) | apply Pf.cons (.c rfl (.lp rfl))))); (· (repeat (first | exact Pb.nil | apply Pb.cons (.row rfl) | (apply Pb.cons; (· apply Nb.box rfl; (repeat (first | exact Ncs.nil rfl | (apply Ncs.cons rfl; (· (first | exact .d rfl | exact .ls rfl))))))) | apply Pb.skip)))
  refine sk_loopL [1, 3, 8, 9, 18] [8, 26, 39, 40, 45] (fun i => [(19, iN i)]) (fun i => [(9, .box [.d (dI x), .d (dI y), .d (dI wh), .ls 46 1 0 (y * i)]), (46, .row 1 (cII (boxF f y (y * i))))]) (fun i => i ≤ x) (fun i => x - i) (0) ?_ (by (repeat (first | exact trivial | refine ⟨(by (rfl)), ?_⟩))) (by (repeat (first | exact trivial | refine ⟨(by (first | (refine box_eq rfl ?_; simp; done) | rfl)), ?_⟩))) ?_
  · omega
  intro i hi
  repeat' (first | (refine so_is (.move _) ?_; (refine so_q (qt_mvC rfl) rfl ?_)) | (refine so_is (.store 29 _ _) ?_; (refine so_store_box rfl rfl rfl (by kernel_rfl) rfl rfl ?_)) | (refine so_is (.binOp .lss 3 _ _ _) ?_; refine so_q (qt_lss rfl rfl) rfl ?_) | (refine so_is (.assign _) ?_; (refine so_q (qt_asC rfl) rfl ?_)) | (refine so_is (.load 29 _) ?_; (refine so_q (qt_load_boxs rfl rfl (by kernel_rfl : tAgg _ 29 4 = true) rfl) rfl ?_)) | refine so_nil ?_ | refine sk_seq ?_ | refine sk_block ?_ | refine sk_exit rfl ?_ | refine sk_skip ?_ | refine sk_region ?_ | refine sk_if rfl (fun hc => ?_) (fun hc => ?_))
  · apply sk_packC [1, 3, 8, 9, 10, 18, 19, 22, 23] [8, 9, 26, 39, 40, 45, 46] rfl; (· (repeat (first | exact Pf.nil | apply Pf.cons (.c rfl (.d rfl)) | apply Pf.cons (.c rfl (.lp rfl))))); (· (repeat (first | exact Pb.nil | apply Pb.cons (.row rfl) | (apply Pb.cons; (· apply Nb.box rfl; (repeat (first | exact Ncs.nil rfl | (apply Ncs.cons rfl; (· (first | exact .d rfl | exact .ls rfl))))))) | apply Pb.skip)))
    refine sk_loopL [1, 3, 8, 9, 10, 18, 19, 22] [8, 26, 39, 40, 45] (fun k => [(23, iN k)]) (fun k => [(9, .box [.d (dI x), .d (dI y), .d (dI wh), .ls 46 1 0 (y * i + k)]), (46, .row 1 (cII (boxF f y (y * i + k))))]) (fun k => k ≤ y) (fun k => y - k) (0) ?_ (by (repeat (first | exact trivial | refine ⟨(by (rfl)), ?_⟩))) (by (repeat (first | exact trivial | refine ⟨(by (first | (refine row_eq rfl ?_; simp; done) | (refine box_eq rfl ?_; simp; done))), ?_⟩))) ?_
    · omega
    intro k hk
    repeat' (first | (refine so_is (.move _) ?_; (refine so_q (qt_mvC rfl) rfl ?_)) | (refine so_is (.binOp .lss 3 _ _ _) ?_; refine so_q (qt_lss rfl rfl) rfl ?_) | (refine so_is (.assign _) ?_; (refine so_q (qt_asC rfl) rfl ?_)) | (refine so_is (.buildSlice 26 0 _) ?_; (apply so_bslice (sz := 1) (by_ := 8); (· kernel_rfl); (· decide); (· (repeat (exact GvS.nil _))); (· (decide)); (· rfl); (· rfl); (· rfl))) | (refine so_is (.binOp .add 3 _ _ _) ?_; refine so_q (qt_addI rfl rfl (by (omega))) rfl ?_) | refine so_nil ?_ | refine sk_seq ?_ | refine sk_block ?_ | refine sk_blk ?_ | refine sk_exit rfl ?_ | refine sk_skip ?_ | refine sk_region ?_ | refine sk_if rfl (fun hc => ?_) (fun hc => ?_))
    · have hik := idx_ltN (i := i) (k := k) (X := x) (Y := y) (by omega) (by omega)
      apply sk_packC [1, 3, 8, 9, 10, 11, 12, 18, 19, 22, 23, 27] [8, 9, 26, 39, 40, 45, 46] rfl; (· (repeat (first | exact Pf.nil | apply Pf.cons (.c rfl (.d rfl)) | apply Pf.cons (.c rfl (.ls rfl)) | apply Pf.cons (.c rfl (.lp rfl))))); (· (repeat (first | exact Pb.nil | apply Pb.cons (.row rfl) | (apply Pb.cons; (· apply Nb.box rfl; (repeat (first | exact Ncs.nil rfl | (apply Ncs.cons rfl; (· (first | exact .d rfl | exact .ls rfl))))))) | apply Pb.skip)))
      refine sk_loopL [1, 3, 8, 9, 10, 11, 18, 19, 22, 23] [8, 9, 39, 40, 45, 46] (fun p => [(27, iN p), (12, .c (.ls 26 1 0 p))]) (fun p => [(26, .row 1 (cI (rowF (f i k) p)))]) (fun p => p ≤ 4) (fun p => 4 - p) (0) ?_ (by (repeat (first | exact trivial | refine ⟨(by (rfl)), ?_⟩))) (by (repeat (first | exact trivial | refine ⟨(by (rfl)), ?_⟩))) ?_
      · omega
      intro p hp
      repeat' (first | (refine so_is (.move _) ?_; (refine so_q (qt_mvC rfl) rfl ?_)) | (refine so_is (.binOp .lss 3 _ _ _) ?_; refine so_q (qt_lss rfl rfl) rfl ?_) | (refine so_is (.assign _) ?_; (refine so_q (qt_asC rfl) rfl ?_)) | (refine so_is (.binOp .quo 3 _ _ _) ?_; (refine so_q (qt_quoN rfl rfl (by (omega)) (by (omega)) (by (omega))) rfl ?_)) | (refine so_is (.binOp .rem 3 _ _ _) ?_; (refine so_q (qt_remN rfl rfl (by (omega)) (by (omega)) (by (omega))) rfl ?_)) | (refine so_is (.buildSlice 26 1 _) ?_; (apply so_bslice (sz := 1) (by_ := 8); (· kernel_rfl); (· decide); (· (repeat (first | exact GvS.nil _ | apply GvS.c rfl rfl (.lit _) rfl))); (· (decide)); (· rfl); (· rfl); (· rfl))) | (refine so_is (.call ⟨.builtin .append, _, #[26, 26]⟩) ?_; ((apply so_appR (sz := 1) (by_ := 8); (· rfl); (· rfl); (· ((simp; done))); (· exact .row _ _ _ _ rfl (by ((simp; done)))); (· (decide)); (· kernel_rfl); (· decide); (· (omega)); (· (omega)); (· rfl); (· rfl); (· rfl)))) | (refine so_is (.binOp .add 3 _ _ _) ?_; refine so_q (qt_addI rfl rfl (by (omega))) rfl ?_) | (refine so_is (.fieldAddr 29 _ 3) ?_; (refine so_q (qt_fld_lp (off := 3) rfl (by kernel_rfl)) rfl ?_)) | (refine so_is (.load 22 _) ?_; (refine so_q (qt_load_box rfl rfl (by kernel_rfl) rfl) rfl ?_)) | (refine so_is (.buildSlice 22 1 _) ?_; (apply so_bslice (sz := 1) (by_ := 24); (· kernel_rfl); (· decide); (· (repeat (first | exact GvS.nil _ | apply GvS.c rfl rfl (.row _ _ _ _ rfl (by ((simp; done)))) rfl))); (· (decide)); (· rfl); (· rfl); (· rfl))) | (refine so_is (.call ⟨.builtin .append, _, #[22, 22]⟩) ?_; ((apply so_appR (sz := 1) (by_ := 24); (· rfl); (· rfl); (· ((simp; done))); (· exact .row _ _ _ _ rfl (by ((simp; done)))); (· (decide)); (· kernel_rfl); (· decide); (· (omega)); (· (omega)); (· rfl); (· rfl); (· rfl)))) | (refine so_is (.store 22 _ _) ?_; (refine so_store_box1 rfl rfl rfl rfl (by kernel_rfl) rfl rfl ?_)) | (refine so_is (.call ⟨.value (.tmp 31), _, _⟩) ?_; (apply so_call; (· (exact .c (.d _))); (· (repeat (first | exact SeA.nil | apply SeA.cons (.c (.d _))))); (· exact hf i k p (by omega) (by omega) (by omega)); (· rfl))) | refine so_nil ?_ | refine sk_seq ?_ | refine sk_block ?_ | refine sk_blk ?_ | refine sk_exit rfl ?_ | refine sk_skip ?_ | refine sk_region ?_ | refine sk_if rfl (fun hc => ?_) (fun hc => ?_))
      · refine sk_back ?_; refine ⟨p + 1, ?_, ?_, le_at rfl (by (repeat (first | exact trivial | refine ⟨(by (rfl)), ?_⟩))) (by (repeat (first | exact trivial | refine ⟨rfl, ?_⟩))) (by (repeat (first | exact trivial | refine ⟨(by ((refine row_eq rfl ?_; simp  [rowF_snoc]; done))), ?_⟩))) (by (repeat (first | exact trivial | refine ⟨.inr rfl, ?_⟩)))⟩
        · omega
        · omega
      · have h4 : p = 4 := by omega
        subst h4
        refine sk_back ?_; refine ⟨k + 1, ?_, ?_, le_at rfl (by (repeat (first | exact trivial | refine ⟨(by (rfl)), ?_⟩))) (by (repeat (first | exact trivial | refine ⟨rfl, ?_⟩))) (by (repeat (first | exact trivial | refine ⟨(by (first | (refine row_eq rfl ?_; simp  [boxF_snoc _ _ _ _ (show k < y by omega)]; done) | rfl)), ?_⟩))) (by (repeat (first | exact trivial | refine ⟨.inr rfl, ?_⟩)))⟩
        · omega
        · omega
    · have h4 : k = y := by omega
      subst h4
      refine sk_back ?_; refine ⟨i + 1, ?_, ?_, le_at rfl (by (repeat (first | exact trivial | refine ⟨(by (rfl)), ?_⟩))) (by (repeat (first | exact trivial | refine ⟨rfl, ?_⟩))) (by (repeat (first | exact trivial | refine ⟨(by (rfl)), ?_⟩))) (by (repeat (first | exact trivial | refine ⟨.inr rfl, ?_⟩)))⟩
      · omega
      · omega
  · have h4 : i = x := by omega
    subst h4
    (apply sk_ret; apply ret_eq; (· apply RetOK.p; (· (apply GvA.cons; (· (apply RV.cellN (n := 4); (· rfl); (· rfl); (· kernel_rfl); (· rfl))); (· (apply GvP.g; (· (apply GvL.cons (.lit _)); (apply GvL.cons (.lit _)); (apply GvL.cons (.lit _)); ((apply GvL.cons (.row _ _ _ _ rfl (by ((simp; done)))))); exact GvL.nil)))); exact GvA.nil); (· (decide))))
    simp

end Go.Proofs.Ytdihapcicpkdkaa

namespace Go.Proofs.Ytdihapcicpkdkaa
open Go.RowKit
set_option linter.unusedSectionVars false
variable [Glb]
set_option maxRecDepth 10000
set_option maxHeartbeats 4000000
theorem wired1_p (x y a c : Int) : PC Try.prog 191 [.c (dI x), .c (dI y), .c (dI a), .c (dI c)] (.p (.c (dI 0))) := by
  refine pc_intro Try.func191 rfl rfl rfl (by kernel_rfl) rfl rfl ?_; intro _
  repeat' (first | (refine so_is (.assign _) ?_; (refine so_q (qt_asC rfl) rfl ?_)) | refine so_nil ?_ | refine sk_seq ?_ | refine sk_region ?_)
  (apply sk_ret; apply ret_eq; (· apply RetOK.p; (· (apply GvA.cons; (· exact .tmp _); (· exact GvP.c (.lit _))); exact GvA.nil); (· (decide))))
  rfl
theorem wired_p (na : Int) (la : List (List Int)) (nb : Int) (lb : List (List Int)) (f1 : List Int) (a1 s1 : List (List Int)) (f2 : List Int) (a2 s2 : List (List Int)) (ha : boxB 2 2 na la = true) (hb : boxB 2 2 nb lb = true) (h1 : ruleB f1 a1 s1 = true) (h2 : ruleB f2 a2 s2 = true) :
    PC Try.prog 101 [.g [dI 2, dI 2, dI na, eII la], .g [dI 2, dI 2, dI nb, eII lb], .g [eI f1, eII a1, eII s1], .g [eI f2, eII a2, eII s2]] (.p (.g [dI 2, dI 2, dI (na * nb), eII (wiredL la lb f1 a1 s1 f2 a2 s2)])) := by
  have pa := boxB_spec ha
  have pb := boxB_spec hb
  have n1 := pa.n1; have n2 := pa.n2; have n3 := pb.n1; have n4 := pb.n2; have n5 := pa.len; have n6 := pb.len
  have nn := mul_whole ⟨n1, n2⟩ ⟨n3, n4⟩
  have r1 := ruleB_spec h1
  have r2 := ruleB_spec h2
  have q1 := r1.fl; have q2 := r1.al; have q3 := r1.sl; have q4 := r2.fl; have q5 := r2.al; have q6 := r2.sl
  obtain ⟨W, hW⟩ : ∃ W : Nat → Nat → Nat → Nat → Int, W = wI la lb f1 a1 s1 f2 a2 s2 := ⟨_, rfl⟩
  have hL : wiredL la lb f1 a1 s1 f2 a2 s2 = boxF (fun x y p => W x y 16 p) 2 4 := by
    unfold wiredL; rw [hW]; congr 1; funext x y p; rw [wI_P]
  have W0 : ∀ x y p, W x y 0 p = 0 := fun x y p => by rw [hW]; rfl
  have step := fun (x y c : Nat) hx hy hc => wI_step ha hb h1 h2 (x := x) (y := y) (c := c) hx hy hc
  rw [← hW] at step
  have hz := wireM_zero W W0
  have nb := newBox_p 2 2 (na * nb) 191 [] (fun _ _ _ => 0) (by omega) (by omega) (fun i k p _ _ _ => wired1_p _ _ _ _)
  rw [show 2 * 2 = 4 from rfl, hz] at nb
  refine pc_intro Try.func101 rfl rfl rfl (by kernel_rfl) rfl rfl ?_; intro _
  repeat' (first | (refine so_is (.box 29 _) ?_; refine so_box rfl rfl ?_) | (refine so_is (.box 114 _) ?_; refine so_box rfl rfl ?_) | (refine so_is (.alloc 29) ?_; refine so_alloc (zs := [.int .i64 0, .int .i64 0, .int .i64 0, .slice none 0 0]) (by kernel_rfl) rfl ?_) | (refine so_is (.fieldAddr 29 _ 2) ?_; (refine so_q (qt_fld_lp (off := 2) rfl (by kernel_rfl)) rfl ?_)) | (refine so_is (.load 3 _) ?_; (refine so_q (qt_load_box rfl rfl (by kernel_rfl) rfl) rfl ?_)) | (refine so_is (.binOp .mul 3 _ _ _) ?_; refine so_q (qt_mulI rfl rfl (by (omega))) rfl ?_) | (refine so_is (.store 29 _ _) ?_; (refine so_store_box rfl rfl rfl (by kernel_rfl) rfl rfl ?_)) | (refine so_is (.move _) ?_; (refine so_q (qt_mvC rfl) rfl ?_)) | (refine so_is (.call ⟨.value (.func 190), _, _⟩) ?_; (apply so_callO0 (fid := 190); (· (repeat (first | exact SeA.nil | apply SeA.cons (.c (.d _))))); (· exact nb); (· rfl); (· rfl))) | refine so_nil ?_ | refine sk_seq ?_ | refine sk_block ?_ | refine sk_region ?_)
  apply sk_packC [4, 5, 6, 7, 8, 9, 24] [4, 5, 6, 7, 8, 9, 3023] rfl; (· (repeat (first | exact Pf.nil | apply Pf.cons (.c rfl (.d rfl)) | apply Pf.cons (.c rfl (.lp rfl))))); (· (repeat (first | exact Pb.nil | apply Pb.cons (.row rfl) | (apply Pb.cons; (· apply Nb.box rfl; (repeat (first | exact Ncs.nil rfl | (apply Ncs.cons rfl; (· (first | exact .d rfl | exact .ls rfl))))))))))
  refine sk_loopL [4, 5, 6, 7, 8, 9] [4, 5, 6, 7, 8, 9] (fun x => [(24, iN x)]) (fun x => [(3023, .row 1 (cII (wireM W (2 * x) 0)))]) (fun x => x ≤ 2) (fun x => 2 - x) (0) ?_ (by (repeat (first | exact trivial | refine ⟨(by (rfl)), ?_⟩))) (by (repeat (first | exact trivial | refine ⟨(by ((refine row_eq rfl ?_; simp; done))), ?_⟩))) ?_
  · omega
  intro x hx
  by_cases hx2 : x < 2
  · have fx := r1.fb x (by omega) (by omega)
    repeat' (first | (refine so_is (.store 29 _ _) ?_; (refine so_store_box rfl rfl rfl (by kernel_rfl) rfl rfl ?_)) | (refine so_is (.move _) ?_; (refine so_q (qt_mvC rfl) rfl ?_)) | (refine so_is (.binOp .lss 3 _ _ _) ?_; refine so_q (qt_lss rfl rfl) rfl ?_) | (refine so_is (.assign _) ?_; (refine so_q (qt_asC rfl) rfl ?_)) | (refine so_is (.load 29 _) ?_; (refine so_q (qt_load_boxs rfl rfl (by kernel_rfl : tAgg _ 29 4 = true) rfl) rfl ?_)) | refine so_nil ?_ | refine sk_seq ?_ | refine sk_block ?_ | refine sk_exit rfl ?_ | refine sk_skip ?_ | refine sk_region ?_ | refine sk_if rfl (fun hc => ?_) (fun hc => ?_))
    · apply sk_packC [4, 5, 6, 7, 8, 9, 10, 24, 27] [4, 5, 6, 7, 8, 9, 3023] rfl; (· (repeat (first | exact Pf.nil | apply Pf.cons (.c rfl (.d rfl)) | apply Pf.cons (.c rfl (.lp rfl))))); (· (repeat (first | exact Pb.nil | apply Pb.cons (.row rfl) | (apply Pb.cons; (· apply Nb.box rfl; (repeat (first | exact Ncs.nil rfl | (apply Ncs.cons rfl; (· (first | exact .d rfl | exact .ls rfl))))))))))
      refine sk_loopL [4, 5, 6, 7, 8, 9, 10, 24] [4, 5, 6, 7, 8, 9] (fun y => [(27, iN y)]) (fun y => [(3023, .row 1 (cII (wireM W (2 * x + y) 0)))]) (fun y => y ≤ 2) (fun y => 2 - y) (0) ?_ (by (repeat (first | exact trivial | refine ⟨(by (rfl)), ?_⟩))) (by (repeat (first | exact trivial | refine ⟨(by ((refine row_eq rfl ?_; simp; done))), ?_⟩))) ?_
      · omega
      intro y hy
      by_cases hy2 : y < 2
      · have fy := r2.fb y (by omega) (by omega)
        have jx : (2 * x + y) / 2 = x := by omega
        have jy : (2 * x + y) % 2 = y := by omega
        have jt : (2 * (x : Int) + y).toNat = 2 * x + y := by omega
        repeat' (first | (refine so_is (.move _) ?_; (refine so_q (qt_mvC rfl) rfl ?_)) | (refine so_is (.binOp .lss 3 _ _ _) ?_; refine so_q (qt_lss rfl rfl) rfl ?_) | (refine so_is (.assign _) ?_; (refine so_q (qt_asC rfl) rfl ?_)) | (refine so_is (.binOp .add 3 _ _ _) ?_; refine so_q (qt_addI rfl rfl (by (omega))) rfl ?_) | refine so_nil ?_ | refine sk_seq ?_ | refine sk_block ?_ | refine sk_blk ?_ | refine sk_exit rfl ?_ | refine sk_skip ?_ | refine sk_region ?_ | refine sk_if rfl (fun hc => ?_) (fun hc => ?_))
        all_goals first | (exfalso; omega) | skip
        apply sk_packC [4, 5, 6, 7, 8, 9, 10, 11, 24, 27, 30] [4, 5, 6, 7, 8, 9, 3023] rfl; (· (repeat (first | exact Pf.nil | apply Pf.cons (.c rfl (.d rfl)) | apply Pf.cons (.c rfl (.lp rfl))))); (· (repeat (first | exact Pb.nil | apply Pb.cons (.row rfl) | (apply Pb.cons; (· apply Nb.box rfl; (repeat (first | exact Ncs.nil rfl | (apply Ncs.cons rfl; (· (first | exact .d rfl | exact .ls rfl))))))))))
        refine sk_loopL [4, 5, 6, 7, 8, 9, 10, 11, 24, 27] [4, 5, 6, 7, 8, 9] (fun c => [(30, iN c)]) (fun c => [(3023, .row 1 (cII (wireM W (2 * x + y) c)))]) (fun c => c ≤ 16) (fun c => 16 - c) (0) ?_ (by (repeat (first | exact trivial | refine ⟨(by (rfl)), ?_⟩))) (by (repeat (first | exact trivial | refine ⟨(by ((refine row_eq rfl ?_; simp; done))), ?_⟩))) ?_
        · omega
        intro c hc
        by_cases hc16 : c < 16
        · obtain ⟨s, v, e1, e2, e3, e4, e5, e6⟩ := step x y c hx2 hy2 hc16
          have ax := r1.ask (x := x) (i := (c : Int) % 2) (by omega) (by omega) (by omega) (by omega)
          have ay := r2.ask (x := y) (i := (c : Int) / 2 % 2) (by omega) (by omega) (by omega) (by omega)
          have sx := r1.say (x := x) (i := 2 * ((c : Int) % 2) + (c : Int) / 4 % 2) (by omega) (by omega) (by omega) (by omega)
          have sy := r2.say (x := y) (i := 2 * ((c : Int) / 2 % 2) + (c : Int) / 8 % 2) (by omega) (by omega) (by omega) (by omega)
          have ap1 := at_p 2 2 na la ha (atZ f1 x) (atZ f2 y) ((c : Int) % 2) ((c : Int) / 2 % 2) (by omega) (by omega) (by omega) (by omega) (by omega) (by omega) (by omega) (by omega)
          have ap2 := at_p 2 2 _ lb hb (atZ (atZ a1 x) ((c : Int) % 2)) (atZ (atZ a2 y) ((c : Int) / 2 % 2)) ((c : Int) / 4 % 2) ((c : Int) / 8 % 2) (by omega) (by omega) (by omega) (by omega) (by omega) (by omega) (by omega) (by omega)
          have ev : atZ (rowF (W x y c) 4) (2 * atZ (atZ s1 x) (2 * ((c : Int) % 2) + (c : Int) / 4 % 2) + atZ (atZ s2 y) (2 * ((c : Int) / 2 % 2) + (c : Int) / 8 % 2)) = W x y c s := by rw [e1, rowF_atZ _ e2]
          rw [← ev] at e5 e6
          rw [← e3] at e4 e5
          have wg := wireM_get W c (show 2 * x + y < 4 by omega)
          have ws := wireM_set W c (c + 1) (show 2 * x + y < 4 by omega)
          rw [jx, jy] at wg ws
          repeat' (first | (refine so_is (.load 3 _) ?_; (refine so_q (qt_load_pt rfl (by kernel_rfl) rfl) rfl ?_)) | (refine so_is (.binOp .mul 3 _ _ _) ?_; refine so_q (qt_mulI rfl rfl (by (omega))) rfl ?_) | (refine so_is (.move _) ?_; (refine so_q (qt_mvC rfl) rfl ?_)) | (refine so_is (.binOp .lss 3 _ _ _) ?_; refine so_q (qt_lss rfl rfl) rfl ?_) | (refine so_is (.assign _) ?_; (refine so_q (qt_asC rfl) rfl ?_)) | (refine so_is (.binOp .and 3 _ _ _) ?_; refine so_q (qt_andM 1 (c := 2) rfl rfl (by decide)) rfl ?_) | (refine so_is (.binOp .shr 3 _ _ _) ?_; (first | refine so_q (qt_shrC (c := 2) rfl rfl (by decide)) rfl ?_ | refine so_q (qt_shrC (c := 4) rfl rfl (by decide)) rfl ?_ | refine so_q (qt_shrC (c := 8) rfl rfl (by decide)) rfl ?_)) | (refine so_is (.load 29 _) ?_; (refine so_q (qt_load_boxs rfl rfl (by kernel_rfl : tAgg _ 29 4 = true) rfl) rfl ?_)) | (refine so_is (.fieldAddr 114 _ 0) ?_; (refine so_q (qt_fld_lp (off := 0) rfl (by kernel_rfl)) rfl ?_)) | (refine so_is (.load 26 _) ?_; (first | refine so_q (qt_load_box rfl rfl (by kernel_rfl) rfl) rfl ?_ | refine so_q (qt_load_pt rfl (by kernel_rfl) rfl) rfl ?_)) | (refine so_is (.indexAddr 26 _ _) ?_; (refine so_q (qt_idxI rfl rfl (by kernel_rfl) (by (omega)) (by (omega))) rfl ?_)) | (refine so_is (.call ⟨.value (.func 192), _, _⟩) ?_; (first | (apply so_call0 (d := 57) (fid := 192); (· (repeat (first | exact SeA.nil | apply SeA.cons (.c (.d _)) | (apply SeA.cons; (· (apply SeP.g; (repeat (first | exact SeL.nil | apply SeL.cons (.d _))))))))); (· exact ap1); (· rfl)) | (apply so_call0 (d := 77) (fid := 192); (· (repeat (first | exact SeA.nil | apply SeA.cons (.c (.d _)) | (apply SeA.cons; (· (apply SeP.g; (repeat (first | exact SeL.nil | apply SeL.cons (.d _))))))))); (· exact ap2); (· rfl)))) | (refine so_is (.fieldAddr 114 _ 1) ?_; (refine so_q (qt_fld_lp (off := 1) rfl (by kernel_rfl)) rfl ?_)) | (refine so_is (.load 22 _) ?_; (refine so_q (qt_load_box rfl rfl (by kernel_rfl) rfl) rfl ?_)) | (refine so_is (.indexAddr 22 _ _) ?_; (refine so_q (qt_idxII rfl rfl (by kernel_rfl) (by (omega)) (by (omega))) rfl ?_)) | (refine so_is (.binOp .add 3 _ _ _) ?_; refine so_q (qt_addI rfl rfl (by (omega))) rfl ?_) | refine so_nil ?_ | refine sk_seq ?_ | refine sk_block ?_ | refine sk_blk ?_ | refine sk_exit rfl ?_ | refine sk_skip ?_ | refine sk_region (id := 9) ?_ | refine sk_region (id := 10) ?_ | refine sk_region (id := 11) ?_ | refine sk_drawQ 12 (fun _ => false) (.step 0 true (.step 1 true (.step 2 true (.step 3 true (.step 4 true (.step 5 true (.step 6 true (.step 7 true (.step 8 true (.step 9 true (.step 10 true (.step 11 true (.step 12 true (.step 14 true (.step 15 true (.step 16 true (.step 17 true (.step 18 true (.step 19 true (.step 20 true (.step 21 true (.step 22 true (.step 23 true (.step 24 true (.step 25 true (.step 26 true (.step 27 true (.step 28 true (.step 29 true (.step 30 true (.step 31 true (.step 32 true (.step 13 false (.step 33 false (.step 34 true (.step 35 true .nil)))))))))))))))))))))))))))))))))))) [(0, 68719476735, 68719476735, false), (0, 68719476735, 68719476735, true), (2, 68719476733, 68719476735, false), (0, 68719476735, 68719476735, true), (12, 68719476723, 68719476735, true), (16, 68719476719, 68719476735, false), (0, 68719476735, 68719476735, true), (64, 68719476671, 68719476735, false), (0, 68719476735, 68719476735, true), (384, 68719476351, 68719476735, true), (512, 68719476223, 68719476735, false), (0, 68719476735, 68719476735, true), (0, 68719476735, 68719476735, true), (7201, 68719469534, 68719476735, false), (0, 68719476735, 68719476735, false), (0, 68719476735, 68719476735, true), (32768, 68719443967, 68719476735, false), (0, 68719476735, 68719476735, true), (196608, 68719280127, 68719476735, true), (262144, 68719214591, 68719476735, false), (0, 68719476735, 68719476735, true), (1572864, 68717903871, 68719476735, true), (2097152, 68717379583, 68719476735, false), (0, 68719476735, 68719476735, true), (8388608, 68711088127, 68719476735, false), (0, 68719476735, 68719476735, true), (50331648, 68669145087, 68719476735, true), (67108864, 68652367871, 68719476735, false), (0, 68719476735, 68719476735, true), (402653184, 68316823551, 68719476735, true), (536870912, 68182605823, 68719476735, false), (0, 68719476735, 68719476735, true), (0, 68719476735, 68719476735, true), (7520411648, 61199073279, 68719476735, false), (8589942784, 60129533951, 68719476735, true), (34359738367, 51539607551, 68719476735, true)] (by kernel_rfl) (by kernel_rfl) ?_ | refine sk_region (id := 15) ?_ | refine sk_if rfl (fun hc => ?_) (fun hc => ?_))
          all_goals first | (exfalso; omega) | skip
          refine sk_drawQ 13 (fun i => i == 37) (.step 0 true (.step 1 true (.step 2 true (.step 3 true (.step 4 true (.step 5 true (.step 6 true (.step 7 true (.step 8 true (.step 9 true (.step 10 true (.step 11 true (.step 12 true (.step 13 true (.step 14 true (.step 15 true (.step 16 true (.step 17 true (.step 18 true (.step 19 true (.step 20 true (.step 21 true (.step 22 true (.step 23 true (.step 24 true (.step 25 true (.step 26 true (.step 27 true (.step 28 true (.step 29 true (.step 30 true (.step 31 true (.step 32 true (.step 33 true (.step 34 true (.step 35 true (.step 36 true (.step 37 false .nil)))))))))))))))))))))))))))))))))))))) [(0, 274877906943, 274877906943, true), (1, 274877906942, 274877906943, false), (0, 274877906943, 274877906943, true), (4, 274877906939, 274877906943, true), (0, 274877906943, 274877906943, true), (24, 274877906919, 274877906943, true), (34, 274877906909, 274877906943, true), (64, 274877906879, 274877906943, false), (0, 274877906943, 274877906943, true), (256, 274877906687, 274877906943, false), (0, 274877906943, 274877906943, true), (1536, 274877905407, 274877906943, true), (2048, 274877904895, 274877906943, false), (0, 274877906943, 274877906943, true), (8192, 274877898751, 274877906943, true), (0, 274877906943, 274877906943, true), (49152, 274877857791, 274877906943, true), (69632, 274877837311, 274877906943, true), (131072, 274877775871, 274877906943, false), (262144, 274877644799, 274877906943, true), (0, 274877906943, 274877906943, true), (1048576, 274876858367, 274877906943, false), (0, 274877906943, 274877906943, true), (6291456, 274871615487, 274877906943, true), (8388608, 274869518335, 274877906943, false), (0, 274877906943, 274877906943, true), (33554432, 274844352511, 274877906943, true), (0, 274877906943, 274877906943, true), (201326592, 274676580351, 274877906943, true), (285212672, 274592694271, 274877906943, true), (536870912, 274341036031, 274877906943, false), (1074266112, 273803640831, 274877906943, true), (2147483776, 272730423167, 274877906943, true), (4294967296, 270582939647, 274877906943, false), (0, 274877906943, 274877906943, true), (25769803776, 249108103167, 274877906943, true), (68719476735, 272730423167, 274877906943, true), (137438953471, 171798691839, 274877906943, false)] (by kernel_rfl) (by kernel_rfl) ?_
          all_goals ((refine so_q (qt_fld_lp (off := 3) rfl (by kernel_rfl)) rfl ?_))
          all_goals ((refine so_q (qt_load_box rfl rfl (by kernel_rfl) rfl) rfl ?_))
          all_goals ((refine so_q (qt_mvC rfl) rfl ?_))
          all_goals (refine so_q (qt_mulI rfl rfl (by (omega))) rfl ?_)
          all_goals ((refine so_q (qt_mvC rfl) rfl ?_))
          all_goals (refine so_q (qt_addI rfl rfl (by (omega))) rfl ?_)
          all_goals ((refine so_q (qt_idx_ls rfl rfl (by kernel_rfl : tSl _ 22 1 = true) (by (omega)) (by ((simp at *; omega)))) rfl ?_))
          all_goals (refine so_thaw (c := 2000) (sz' := 1) (n := 4) (ds' := cI (rowF (W x y c) 4)) rfl rfl (by kernel_rfl) (by simp [jt, wg]) rfl rfl rfl ?_)
          all_goals ((refine so_q (qt_fld_lp (off := 2) rfl (by kernel_rfl)) rfl ?_))
          all_goals ((refine so_q (qt_load_box rfl rfl (by kernel_rfl) rfl) rfl ?_))
          all_goals ((refine so_q (qt_mvC rfl) rfl ?_))
          all_goals ((refine so_q (qt_idxII rfl rfl (by kernel_rfl) (by (omega)) (by (omega))) rfl ?_))
          all_goals ((refine so_q (qt_load_pt rfl (by kernel_rfl) rfl) rfl ?_))
          all_goals ((refine so_q (qt_mvC rfl) rfl ?_))
          all_goals (refine so_q (qt_mulI rfl rfl (by (omega))) rfl ?_)
          all_goals ((refine so_q (qt_mvC rfl) rfl ?_))
          all_goals (refine so_q (qt_addI rfl rfl (by (omega))) rfl ?_)
          all_goals ((refine so_q (qt_idxI rfl rfl (by kernel_rfl) (by (omega)) (by (omega))) rfl ?_))
          all_goals ((refine so_q (qt_load_pt rfl (by kernel_rfl) rfl) rfl ?_))
          all_goals (refine so_q (qt_mulI rfl rfl (by (omega))) rfl ?_)
          all_goals ((refine so_q (qt_fld_lp (off := 2) rfl (by kernel_rfl)) rfl ?_))
          all_goals ((refine so_q (qt_load_box rfl rfl (by kernel_rfl) rfl) rfl ?_))
          all_goals ((refine so_q (qt_mvC rfl) rfl ?_))
          all_goals ((refine so_q (qt_idxII rfl rfl (by kernel_rfl) (by (omega)) (by (omega))) rfl ?_))
          all_goals ((refine so_q (qt_load_pt rfl (by kernel_rfl) rfl) rfl ?_))
          all_goals ((refine so_q (qt_mvC rfl) rfl ?_))
          all_goals (refine so_q (qt_mulI rfl rfl (by (omega))) rfl ?_)
          all_goals ((refine so_q (qt_mvC rfl) rfl ?_))
          all_goals (refine so_q (qt_addI rfl rfl (by (omega))) rfl ?_)
          all_goals ((refine so_q (qt_idxI rfl rfl (by kernel_rfl) (by (omega)) (by (omega))) rfl ?_))
          all_goals ((refine so_q (qt_load_pt rfl (by kernel_rfl) rfl) rfl ?_))
          all_goals (refine so_q (qt_addI rfl rfl (by (omega))) rfl ?_)
          all_goals ((refine so_q (qt_idx_ls rfl rfl (by kernel_rfl : tSl _ 26 1 = true) (by (omega)) (by (omega))) rfl ?_))
          all_goals ((refine so_q (qt_load_rowI rfl rfl (by kernel_rfl) (by (omega)) (by ((simp only [List.length_map, List.length_append, List.length_replicate, fillL_len, rowF_len, gridF_len, mkI_len, mkII_len, partZ_min] at *; omega)))) rfl ?_))
          all_goals ((refine so_q (qt_mvC rfl) rfl ?_))
          all_goals (refine so_q (qt_addI rfl rfl (by (omega))) rfl ?_)
          all_goals ((refine so_q (qt_idx_ls rfl rfl (by kernel_rfl : tSl _ 26 1 = true) (by (omega)) (by (omega))) rfl ?_))
          all_goals (((refine so_store_row rfl rfl rfl rfl (.lit _) (by simp) (by simp) (by kernel_rfl) (by ((simp only [List.length_map, List.length_append, List.length_replicate, fillL_len, rowF_len, gridF_len, mkI_len, mkII_len, partZ_min] at *; omega))) rfl ?_; simp only [St.drop])))
          all_goals refine so_nil ?_
          refine sk_blk ?_
          refine sk_ghost (sim_back (b := 3023) (c := 2000) rfl rfl (by simp) rfl) ?_
          repeat' (first | (refine so_is (.move _) ?_; (refine so_q (qt_mvC rfl) rfl ?_)) | (refine so_is (.binOp .add 3 _ _ _) ?_; refine so_q (qt_addI rfl rfl (by (omega))) rfl ?_) | refine so_nil ?_ | refine sk_region ?_)
          refine sk_back ?_; refine ⟨c + 1, ?_, ?_, le_at rfl (by (repeat (first | exact trivial | refine ⟨(by (rfl)), ?_⟩))) (by (repeat (first | exact trivial | refine ⟨rfl, ?_⟩))) (by (repeat (first | exact trivial | refine ⟨(by ((refine row_eq rfl ?_; simp  [List.map_set, ← ws, ← e5, jt, e1, eI]; done))), ?_⟩))) (by (repeat (first | exact trivial | refine ⟨.inr rfl, ?_⟩)))⟩
          · omega
          · omega
        · have h8 : c = 16 := by omega
          subst h8
          rw [wireM_next W (by omega)]
          repeat' (first | (refine so_is (.move _) ?_; (refine so_q (qt_mvC rfl) rfl ?_)) | (refine so_is (.binOp .lss 3 _ _ _) ?_; refine so_q (qt_lss rfl rfl) rfl ?_) | (refine so_is (.binOp .add 3 _ _ _) ?_; refine so_q (qt_addI rfl rfl (by (omega))) rfl ?_) | refine so_nil ?_ | refine sk_seq ?_ | refine sk_blk ?_ | refine sk_exit rfl ?_ | refine sk_region ?_ | refine sk_false rfl ?_)
          all_goals first | (exfalso; omega) | skip
          refine sk_back ?_; refine ⟨y + 1, ?_, ?_, le_at rfl (by (repeat (first | exact trivial | refine ⟨(by (rfl)), ?_⟩))) (by (repeat (first | exact trivial | refine ⟨rfl, ?_⟩))) (by (repeat (first | exact trivial | refine ⟨(by ((refine row_eq rfl ?_; simp  [← Nat.add_assoc]; done))), ?_⟩))) (by (repeat (first | exact trivial | refine ⟨.inr rfl, ?_⟩)))⟩
          · omega
          · omega
      · have h8 : y = 2 := by omega
        subst h8
        repeat' (first | (refine so_is (.move _) ?_; (refine so_q (qt_mvC rfl) rfl ?_)) | (refine so_is (.binOp .lss 3 _ _ _) ?_; refine so_q (qt_lss rfl rfl) rfl ?_) | (refine so_is (.binOp .add 3 _ _ _) ?_; refine so_q (qt_addI rfl rfl (by (omega))) rfl ?_) | refine so_nil ?_ | refine sk_seq ?_ | refine sk_blk ?_ | refine sk_exit rfl ?_ | refine sk_region ?_ | refine sk_false rfl ?_)
        all_goals first | (exfalso; omega) | skip
        refine sk_back ?_; refine ⟨x + 1, ?_, ?_, le_at rfl (by (repeat (first | exact trivial | refine ⟨(by (rfl)), ?_⟩))) (by (repeat (first | exact trivial | refine ⟨rfl, ?_⟩))) (by (repeat (first | exact trivial | refine ⟨(by ((refine row_eq rfl ?_; simp  [Nat.mul_add]; done))), ?_⟩))) (by (repeat (first | exact trivial | refine ⟨.inr rfl, ?_⟩)))⟩
        · omega
        · omega
    · exfalso; omega
  · have h8 : x = 2 := by omega
    subst h8
    repeat' (first | (refine so_is (.store 29 _ _) ?_; (refine so_store_box rfl rfl rfl (by kernel_rfl) rfl rfl ?_)) | (refine so_is (.binOp .lss 3 _ _ _) ?_; refine so_q (qt_lss rfl rfl) rfl ?_) | (refine so_is (.load 29 _) ?_; (refine so_q (qt_load_boxs rfl rfl (by kernel_rfl : tAgg _ 29 4 = true) rfl) rfl ?_)) | refine so_nil ?_ | refine sk_seq ?_ | refine sk_exit rfl ?_ | refine sk_region ?_ | refine sk_false rfl ?_)
    all_goals first | (exfalso; omega) | skip
    (apply sk_ret; apply ret_eq; (· apply RetOK.p; (· (apply GvA.cons; (· (apply RV.cellN (n := 4); (· rfl); (· rfl); (· kernel_rfl); (· rfl))); (· (apply GvP.g; (· (apply GvL.cons (.lit _)); (apply GvL.cons (.lit _)); (apply GvL.cons (.lit _)); ((apply GvL.cons (.row _ _ _ _ rfl (by ((simp; done)))))); exact GvL.nil)))); exact GvA.nil); (· (decide))))
    rw [hL, ← wireM_end W 0]; simp

end Go.Proofs.Ytdihapcicpkdkaa

namespace Go.Proofs.Ytdihapcicpkdkaa
open Go.RowKit
set_option linter.unusedSectionVars false
variable [Glb]
set_option maxRecDepth 10000
set_option maxHeartbeats 4000000
theorem plays_p (x y : Nat) (h : x + y ≤ 6) : PC Try.prog 100 [.c (dI x), .c (dI y)] (.p (.c (eII (playsF (x + y))))) := by
  have e2 : (2 : Nat) ^ (x + y) ≤ 64 := Nat.le_trans (Nat.pow_le_pow_right (by omega) h) (by decide)
  obtain ⟨N, hN⟩ : ∃ N : Nat, N = 2 ^ (x + y) := ⟨_, rfl⟩
  rw [← hN] at e2
  have e1 : (1 : Int) * 2 ^ ((x : Int) + y).toNat = N := by
    rw [show ((x : Int) + y).toNat = x + y by omega, hN, Int.natCast_pow]; simp
  refine pc_intro Try.func100 rfl rfl rfl (by kernel_rfl) rfl rfl ?_; intro _
  repeat' (first | (refine so_is (.assign _) ?_; (refine so_q (qt_asC rfl) rfl ?_)) | (refine so_is (.buildSlice 22 0 _) ?_; (apply so_bslice (sz := 1) (by_ := 24); (· kernel_rfl); (· decide); (· (repeat (exact GvS.nil _))); (· (decide)); (· rfl); (· rfl); (· rfl))) | (refine so_is (.move _) ?_; (refine so_q (qt_mvC rfl) rfl ?_)) | (refine so_is (.binOp .add 3 _ _ _) ?_; refine so_q (qt_addI rfl rfl (by (omega))) rfl ?_) | (refine so_is (.binOp .shl 3 _ _ _) ?_; (refine so_q (qt_shlI rfl rfl (by (omega)) (by (omega)) (by (omega))) rfl ?_)) | refine so_nil ?_ | refine sk_seq ?_ | refine sk_block ?_ | refine sk_region ?_)
  apply sk_packC [0, 1, 5, 13, 14] [9, 17, 34, 35, 39, 40] rfl; (· (repeat (first | exact Pf.nil | apply Pf.cons (.c rfl (.d rfl)) | apply Pf.cons (.c rfl (.ls rfl))))); (· (repeat (first | exact Pb.nil | apply Pb.cons (.row rfl) | apply Pb.skip)))
  refine sk_loopL [0, 1, 13] [17, 34, 35, 39, 40] (fun c => [(14, iN c), (5, .c (.ls 9 1 0 c))]) (fun c => [(9, .row 1 (cII ((List.range c).map (bitsM (x + y)))))]) (fun c => c ≤ N) (fun c => N - c) (0) ?_ (by (repeat (first | exact trivial | refine ⟨(by (rfl)), ?_⟩))) (by (repeat (first | exact trivial | refine ⟨(by ((refine row_eq rfl ?_; simp; done))), ?_⟩))) ?_
  · omega
  intro c hc
  repeat' (first | (refine so_is (.assign _) ?_; (refine so_q (qt_asC rfl) rfl ?_)) | (refine so_is (.move _) ?_; (refine so_q (qt_mvC rfl) rfl ?_)) | (refine so_is (.binOp .add 3 _ _ _) ?_; refine so_q (qt_addI rfl rfl (by (omega))) rfl ?_) | (refine so_is (.binOp .lss 3 _ _ _) ?_; refine so_q (qt_lss rfl rfl) rfl ?_) | (refine so_is (.buildSlice 26 0 _) ?_; (apply so_bslice (sz := 1) (by_ := 8); (· kernel_rfl); (· decide); (· (repeat (exact GvS.nil _))); (· (decide)); (· rfl); (· rfl); (· rfl))) | refine so_nil ?_ | refine sk_seq ?_ | refine sk_block ?_ | refine sk_exit rfl ?_ | refine sk_skip ?_ | refine sk_region ?_ | refine sk_if rfl (fun hc => ?_) (fun hc => ?_))
  · apply sk_packC [0, 1, 5, 6, 7, 13, 14, 20, 21] [9, 17, 34, 35, 39, 40] rfl; (· (repeat (first | exact Pf.nil | apply Pf.cons (.c rfl (.d rfl)) | apply Pf.cons (.c rfl (.ls rfl))))); (· (repeat (first | exact Pb.nil | apply Pb.cons (.row rfl) | apply Pb.skip)))
    refine sk_loopL [0, 1, 5, 6, 13, 14, 20] [9, 34, 35, 39, 40] (fun i => [(21, iN i), (7, .c (.ls 17 1 0 i))]) (fun i => [(17, .row 1 (cI (rowF (fun i => (bitN c (x + y - 1 - i) : Int)) i)))]) (fun i => i ≤ x + y) (fun i => x + y - i) (0) ?_ (by (repeat (first | exact trivial | refine ⟨(by (rfl)), ?_⟩))) (by (repeat (first | exact trivial | refine ⟨(by (rfl)), ?_⟩))) ?_
    · omega
    intro i hi
    have e3 : i < x + y → (c : Int) / 2 ^ ((x : Int) + y - 1 - i).toNat % 2 = (bitN c (x + y - 1 - i) : Int) := fun h => by
      rw [show ((x : Int) + y - 1 - i).toNat = x + y - 1 - i by omega, bit_nat]
    repeat' (first | (refine so_is (.assign _) ?_; (refine so_q (qt_asC rfl) rfl ?_)) | (refine so_is (.move _) ?_; (refine so_q (qt_mvC rfl) rfl ?_)) | (refine so_is (.binOp .add 3 _ _ _) ?_; refine so_q (qt_addI rfl rfl (by (omega))) rfl ?_) | (refine so_is (.binOp .lss 3 _ _ _) ?_; refine so_q (qt_lss rfl rfl) rfl ?_) | (refine so_is (.binOp .sub 3 _ _ _) ?_; refine so_q (qt_subI rfl rfl (by (omega))) rfl ?_) | (refine so_is (.binOp .shr 3 _ _ _) ?_; (refine so_q (qt_shrI rfl rfl (by (omega)) (by (omega))) rfl ?_)) | (refine so_is (.binOp .and 3 _ _ _) ?_; refine so_q (qt_andM 1 (c := 2) rfl rfl (by decide)) rfl ?_) | (refine so_is (.buildSlice 26 1 _) ?_; (apply so_bslice (sz := 1) (by_ := 8); (· kernel_rfl); (· decide); (· (repeat (first | exact GvS.nil _ | apply GvS.c rfl rfl (.lit _) rfl))); (· (decide)); (· rfl); (· rfl); (· rfl))) | (refine so_is (.call ⟨.builtin .append, _, #[26, 26]⟩) ?_; ((apply so_appR (sz := 1) (by_ := 8); (· rfl); (· rfl); (· ((simp; done))); (· exact .row _ _ _ _ rfl (by ((simp; done)))); (· (decide)); (· kernel_rfl); (· decide); (· (omega)); (· (omega)); (· rfl); (· rfl); (· rfl)))) | (refine so_is (.buildSlice 22 1 _) ?_; (apply so_bslice (sz := 1) (by_ := 24); (· kernel_rfl); (· decide); (· (repeat (first | exact GvS.nil _ | apply GvS.c rfl rfl (.row _ _ _ _ rfl (by ((simp; done)))) rfl))); (· (decide)); (· rfl); (· rfl); (· rfl))) | (refine so_is (.call ⟨.builtin .append, _, #[22, 22]⟩) ?_; ((apply so_appR (sz := 1) (by_ := 24); (· rfl); (· rfl); (· ((simp; done))); (· exact .row _ _ _ _ rfl (by ((simp; done)))); (· (decide)); (· kernel_rfl); (· decide); (· (omega)); (· (omega)); (· rfl); (· rfl); (· rfl)))) | refine so_nil ?_ | refine sk_seq ?_ | refine sk_block ?_ | refine sk_blk ?_ | refine sk_exit rfl ?_ | refine sk_skip ?_ | refine sk_region ?_ | refine sk_if rfl (fun hc => ?_) (fun hc => ?_))
    · have e3 := e3 (by omega)
      simp at e3
      refine sk_back ?_; refine ⟨i + 1, ?_, ?_, le_at rfl (by (repeat (first | exact trivial | refine ⟨(by (rfl)), ?_⟩))) (by (repeat (first | exact trivial | refine ⟨rfl, ?_⟩))) (by (repeat (first | exact trivial | refine ⟨(by ((refine row_eq rfl ?_; simp  [rowF_snoc, e3]; done))), ?_⟩))) (by (repeat (first | exact trivial | refine ⟨.inr rfl, ?_⟩)))⟩
      · omega
      · omega
    · have h8 : i = x + y := by omega
      subst h8
      refine sk_back ?_; refine ⟨c + 1, ?_, ?_, le_at rfl (by (repeat (first | exact trivial | refine ⟨(by (rfl)), ?_⟩))) (by (repeat (first | exact trivial | refine ⟨rfl, ?_⟩))) (by (repeat (first | exact trivial | refine ⟨(by ((refine row_eq rfl ?_; simp  [plays_snoc, bitsM]; done))), ?_⟩))) (by (repeat (first | exact trivial | refine ⟨.inr rfl, ?_⟩)))⟩
      · omega
      · omega
  · have h8 : c = N := by omega
    subst h8
    subst hN
    (apply sk_ret; apply ret_eq; (· apply RetOK.p; (· (apply GvA.cons; (· exact .tmp _); (· (exact GvP.c (.row _ _ _ _ rfl (by ((simp; done))))))); exact GvA.nil); (· (decide))))
    simp [playsF]

end Go.Proofs.Ytdihapcicpkdkaa

namespace Go.Proofs.Ytdihapcicpkdkaa
open Go.RowKit
set_option linter.unusedSectionVars false
variable [Glb]
set_option maxRecDepth 10000
set_option maxHeartbeats 4000000
theorem allWithin_p (l : List Int) (lo hi : Int) : PC Try.prog 133 [.c (eI l), .c (dI lo), .c (dI hi)] (.p (.c (dB (allB l lo hi)))) := by
  refine pc_intro Try.func133 rfl rfl rfl (by kernel_rfl) rfl rfl ?_; rintro ⟨hl, -⟩
  have hl := hl.len
  repeat' (first | (refine so_is (.assign _) ?_; (refine so_q (qt_asC rfl) rfl ?_)) | (refine so_is (.move _) ?_; (refine so_q (qt_mvC rfl) rfl ?_)) | (refine so_is (.call ⟨.builtin .len, _, #[26]⟩) ?_; (refine so_q (qt_len_d rfl (by kernel_rfl)) rfl ?_)) | refine so_nil ?_ | refine sk_seq ?_ | refine sk_block ?_ | refine sk_region ?_)
  apply sk_packC [1, 2, 9, 10, 11] [] rfl; (· (repeat (first | exact Pf.nil | apply Pf.cons (.c rfl (.d rfl))))); (· (repeat (exact Pb.nil)))
  refine sk_loopL [1, 2, 9, 10] [] (fun k => [(11, iN k)]) (fun _ => []) (fun k => k ≤ l.length ∧ (l.take k).all (fun n => inB n lo hi) = true) (fun k => l.length - k) (0) ?_ (by (repeat (first | exact trivial | refine ⟨(by (rfl)), ?_⟩))) (by (repeat (exact trivial))) ?_
  · simp
  rintro k ⟨hk, ha⟩
  repeat' (first | (refine so_is (.assign _) ?_; (refine so_q (qt_asC rfl) rfl ?_)) | (refine so_is (.move _) ?_; (refine so_q (qt_mvC rfl) rfl ?_)) | (refine so_is (.binOp .lss 3 _ _ _) ?_; refine so_q (qt_lss rfl rfl) rfl ?_) | (refine so_is (.indexAddr 26 _ _) ?_; (refine so_q (qt_idxI rfl rfl (by kernel_rfl) (by (omega)) (by (omega))) rfl ?_)) | (refine so_is (.load 3 _) ?_; (refine so_q (qt_load_pt rfl (by kernel_rfl) rfl) rfl ?_)) | (refine so_is (.unOp .not 4 _) ?_; refine so_q (qt_not rfl) rfl ?_) | (refine so_is (.binOp .add 3 _ _ _) ?_; refine so_q (qt_addI rfl rfl (by (omega))) rfl ?_) | (refine so_is (.call ⟨.value (.func 99), _, _⟩) ?_; (apply so_call0 (fid := 99); (· (repeat (first | exact SeA.nil | apply SeA.cons (.c (.d _))))); (· exact within_p _ _ _); (· rfl))) | refine so_nil ?_ | refine sk_seq ?_ | refine sk_block ?_ | refine sk_blk ?_ | refine sk_exit rfl ?_ | refine sk_skip ?_ | refine sk_region ?_ | refine sk_if rfl (fun hc => ?_) (fun hc => ?_) | refine sk_not rfl (fun hc => ?_) (fun hc => ?_))
  · rename_i hk'
    rw [atZ_nat (by omega)] at hc
    (apply sk_ret; apply ret_eq; (· apply RetOK.p; (· (apply GvA.cons; (· exact .tmp _); (· exact GvP.c (.lit _))); exact GvA.nil); (· (decide))))
    rw [allB, all_f (by omega) hc]
  · rename_i hk'
    rw [atZ_nat (by omega)] at hc
    refine sk_back ?_; refine ⟨k + 1, ?_, ?_, le_at rfl (by (repeat (first | exact trivial | refine ⟨(by (rfl)), ?_⟩))) (by (repeat (first | exact trivial | refine ⟨rfl, ?_⟩))) (by (repeat (exact trivial))) (by (repeat (exact trivial)))⟩
    · exact ⟨by omega, by rw [take_succ_all _ _ _ (by omega), ha, hc]; rfl⟩
    · omega
  · (apply sk_ret; apply ret_eq; (· apply RetOK.p; (· (apply GvA.cons; (· exact .tmp _); (· exact GvP.c (.lit _))); exact GvA.nil); (· (decide))))
    rw [allB, all_t (by omega) ha]

end Go.Proofs.Ytdihapcicpkdkaa

namespace Go.Proofs.Ytdihapcicpkdkaa
open Go.RowKit
set_option linter.unusedSectionVars false
variable [Glb]
set_option maxRecDepth 10000
set_option maxHeartbeats 4000000
theorem areQuestions_p (x y : Int) : PC Try.prog 132 [.c (dI x), .c (dI y)] (.p (.c (dB (sizeB x y)))) := by
  refine pc_intro Try.func132 rfl rfl rfl (by kernel_rfl) rfl rfl ?_; intro _
  repeat' (first | (refine so_is (.assign _) ?_; (refine so_q (qt_asC rfl) rfl ?_)) | (refine so_is (.move _) ?_; (refine so_q (qt_mvC rfl) rfl ?_)) | (refine so_is (.pick _ _ _) ?_; (refine so_q (qt_pkC rfl rfl) rfl ?_)) | (refine so_is (.call ⟨.value (.func 99), _, _⟩) ?_; (apply so_call0 (fid := 99); (· (repeat (first | exact SeA.nil | apply SeA.cons (.c (.d _))))); (· exact within_p _ _ _); (· rfl))) | refine so_nil ?_ | refine so_g_no rfl rfl rfl rfl ?_ | refine so_g_yes rfl rfl rfl rfl ?_ | refine so_g_b rfl rfl (fun hg => ?_) (fun hg => ?_) | refine sk_seq ?_ | refine sk_region ?_)
  all_goals (apply sk_ret; apply ret_eq; (· apply RetOK.p; (· (apply GvA.cons; (· exact .tmp _); (· exact GvP.c (.lit _))); exact GvA.nil); (· (decide))))
  all_goals ((simp_all [sizeB]; done))

end Go.Proofs.Ytdihapcicpkdkaa

namespace Go.Proofs.Ytdihapcicpkdkaa
open Go.RowKit
set_option linter.unusedSectionVars false
variable [Glb]
set_option maxRecDepth 10000
set_option maxHeartbeats 4000000
theorem total_p (l : List Int) : PC Try.prog 134 [.c (eI l)] (.p (.c (dI (sum64 l)))) := by
  refine pc_intro Try.func134 rfl rfl rfl (by kernel_rfl) rfl rfl ?_; rintro ⟨hl, -⟩
  have hl := hl.len
  repeat' (first | (refine so_is (.assign _) ?_; (refine so_q (qt_asC rfl) rfl ?_)) | (refine so_is (.move _) ?_; (refine so_q (qt_mvC rfl) rfl ?_)) | (refine so_is (.call ⟨.builtin .len, _, #[26]⟩) ?_; (refine so_q (qt_len_d rfl (by kernel_rfl)) rfl ?_)) | refine so_nil ?_ | refine sk_seq ?_ | refine sk_block ?_ | refine sk_region ?_)
  apply sk_packC [3, 6, 7, 8] [] rfl; (· (repeat (first | exact Pf.nil | apply Pf.cons (.c rfl (.d rfl))))); (· (repeat (exact Pb.nil)))
  refine sk_loopL [6, 7] [] (fun k => [(8, iN k), (3, iZ (sum64 (l.take k)))]) (fun _ => []) (fun k => k ≤ l.length) (fun k => l.length - k) (0) ?_ (by (repeat (first | exact trivial | refine ⟨(by (rfl)), ?_⟩))) (by (repeat (exact trivial))) ?_
  · simp
  intro k hk
  repeat' (first | (refine so_is (.assign _) ?_; (refine so_q (qt_asC rfl) rfl ?_)) | (refine so_is (.move _) ?_; (refine so_q (qt_mvC rfl) rfl ?_)) | (refine so_is (.binOp .lss 3 _ _ _) ?_; refine so_q (qt_lss rfl rfl) rfl ?_) | (refine so_is (.indexAddr 26 _ _) ?_; (refine so_q (qt_idxI rfl rfl (by kernel_rfl) (by (omega)) (by (omega))) rfl ?_)) | (refine so_is (.load 3 _) ?_; (refine so_q (qt_load_pt rfl (by kernel_rfl) rfl) rfl ?_)) | (refine so_is (.binOp .add 3 _ _ _) ?_; (first | refine so_q (qt_addI rfl rfl (by (omega))) rfl ?_ | refine so_q (qt_add rfl rfl) rfl ?_)) | refine so_nil ?_ | refine sk_seq ?_ | refine sk_block ?_ | refine sk_blk ?_ | refine sk_exit rfl ?_ | refine sk_skip ?_ | refine sk_region ?_ | refine sk_if rfl (fun hc => ?_) (fun hc => ?_))
  · have hk2 : k < l.length := by omega
    refine sk_back ?_; refine ⟨k + 1, ?_, ?_, le_at rfl (by (repeat (first | exact trivial | refine ⟨(by (first | rfl | (refine int_eq rfl ?_; ((simp  [sum64_snoc hk2, atZ_nat hk2]; done))))), ?_⟩))) (by (repeat (first | exact trivial | refine ⟨rfl, ?_⟩))) (by (repeat (exact trivial))) (by (repeat (exact trivial)))⟩
    · omega
    · omega
  · have : k = l.length := by omega
    subst this
    (apply sk_ret; apply ret_eq; (· apply RetOK.p; (· (apply GvA.cons; (· exact .tmp _); (· exact GvP.c (.lit _))); exact GvA.nil); (· (decide))))
    simp

end Go.Proofs.Ytdihapcicpkdkaa

namespace Go.Proofs.Ytdihapcicpkdkaa
open Go.RowKit
set_option linter.unusedSectionVars false
variable [Glb]
set_option maxRecDepth 10000
set_option maxHeartbeats 4000000
theorem IsBox_p (x y n : Int) (ll : List (List Int)) : PC Try.prog 183 [.g [dI x, dI y, dI n, eII ll]] (.p (.c (dB (boxB x y n ll)))) := by
  refine pc_intro Try.func183 rfl rfl rfl (by kernel_rfl) rfl rfl ?_; rintro ⟨hl, -⟩
  have hl := (hl _ (List.mem_cons_of_mem _ (List.mem_cons_of_mem _ (List.mem_cons_of_mem _ (List.mem_cons_self ..))))).len
  repeat' (first | (refine so_is (.box 29 _) ?_; refine so_box rfl rfl ?_) | (refine so_is (.assign _) ?_; (refine so_q (qt_asC rfl) rfl ?_)) | (refine so_is (.fieldAddr 29 _ 0) ?_; (refine so_q (qt_fld_lp (off := 0) rfl (by kernel_rfl)) rfl ?_)) | (refine so_is (.load 3 _) ?_; (refine so_q (qt_load_box rfl rfl (by kernel_rfl) rfl) rfl ?_)) | (refine so_is (.fieldAddr 29 _ 1) ?_; (refine so_q (qt_fld_lp (off := 1) rfl (by kernel_rfl)) rfl ?_)) | (refine so_is (.unOp .not 4 _) ?_; refine so_q (qt_not rfl) rfl ?_) | (refine so_is (.move _) ?_; (refine so_q (qt_mvC rfl) rfl ?_)) | (refine so_is (.fieldAddr 29 _ 2) ?_; (refine so_q (qt_fld_lp (off := 2) rfl (by kernel_rfl)) rfl ?_)) | (refine so_is (.pick _ _ _) ?_; (refine so_q (qt_pkC rfl rfl) rfl ?_)) | (refine so_is (.fieldAddr 29 _ 3) ?_; (refine so_q (qt_fld_lp (off := 3) rfl (by kernel_rfl)) rfl ?_)) | (refine so_is (.load 22 _) ?_; (refine so_q (qt_load_box rfl rfl (by kernel_rfl) rfl) rfl ?_)) | (refine so_is (.call ⟨.builtin .len, _, #[22]⟩) ?_; (refine so_q (qt_len_d rfl (by kernel_rfl)) rfl ?_)) | (refine so_is (.binOp .mul 3 _ _ _) ?_; (refine so_q (qt_mul rfl rfl) rfl ?_)) | (refine so_is (.binOp .neq 3 _ _ _) ?_; refine so_q (qt_neq rfl rfl) rfl ?_) | (refine so_is (.call ⟨.value (.func 132), _, _⟩) ?_; (apply so_call0 (fid := 132); (· (repeat (first | exact SeA.nil | apply SeA.cons (.c (.d _))))); (· exact areQuestions_p _ _); (· rfl))) | (refine so_is (.call ⟨.value (.func 99), _, _⟩) ?_; (apply so_call0 (fid := 99); (· (repeat (first | exact SeA.nil | apply SeA.cons (.c (.d _))))); (· exact within_p _ _ _); (· rfl))) | refine so_nil ?_ | refine so_g_no rfl rfl rfl rfl ?_ | refine so_g_yes rfl rfl rfl rfl ?_ | refine so_g_b rfl rfl (fun hg => ?_) (fun hg => ?_) | refine sk_seq ?_ | refine sk_block ?_ | refine sk_skip ?_ | refine sk_region ?_ | refine sk_true rfl ?_ | refine sk_if rfl (fun hc => ?_) (fun hc => ?_))
  · (apply sk_ret; apply ret_eq; (· apply RetOK.p; (· (apply GvA.cons; (· exact .tmp _); (· exact GvP.c (.lit _))); exact GvA.nil); (· (decide))))
    have h9 : sizeB x y = false := by simpa using hg
    simp [boxB, h9]
  · (apply sk_ret; apply ret_eq; (· apply RetOK.p; (· (apply GvA.cons; (· exact .tmp _); (· exact GvP.c (.lit _))); exact GvA.nil); (· (decide))))
    have h9 : inB n 1 1000 = false := by simpa using hg
    simp [boxB, h9]
  · (apply sk_ret; apply ret_eq; (· apply RetOK.p; (· (apply GvA.cons; (· exact .tmp _); (· exact GvP.c (.lit _))); exact GvA.nil); (· (decide))))
    have hs : sizeB x y = true := by simp_all
    rw [wrap_mul3 hs] at hc
    have h3 : ¬ (ll.length : Int) = x * y := by omega
    simp [boxB, h3]
  have hs : sizeB x y = true := by simp_all
  have hn : inB n 1 1000 = true := by simp_all
  have hlen : (ll.length : Int) = x * y := by rw [← wrap_mul3 hs]; omega
  apply sk_packC [1, 29, 30, 31] [1] rfl; (· (repeat (first | exact Pf.nil | apply Pf.cons (.c rfl (.d rfl)) | apply Pf.cons (.c rfl (.lp rfl))))); (· (repeat (first | exact Pb.nil | (apply Pb.cons; (· apply Nb.box rfl; (repeat (first | exact Ncs.nil rfl | (apply Ncs.cons rfl; (· (exact .d rfl))))))))))
  refine sk_loopL [1, 29, 30] [1] (fun k => [(31, iN k)]) (fun _ => []) (fun k => k ≤ ll.length ∧ (ll.take k).all (row4B n) = true) (fun k => ll.length - k) (0) ?_ (by (repeat (first | exact trivial | refine ⟨(by (rfl)), ?_⟩))) (by (repeat (exact trivial))) ?_
  · simp
  rintro k ⟨hk, ha⟩
  repeat' (first | (refine so_is (.assign _) ?_; (refine so_q (qt_asC rfl) rfl ?_)) | (refine so_is (.load 3 _) ?_; (refine so_q (qt_load_box rfl rfl (by kernel_rfl) rfl) rfl ?_)) | (refine so_is (.unOp .not 4 _) ?_; refine so_q (qt_not rfl) rfl ?_) | (refine so_is (.move _) ?_; (refine so_q (qt_mvC rfl) rfl ?_)) | (refine so_is (.fieldAddr 29 _ 2) ?_; (refine so_q (qt_fld_lp (off := 2) rfl (by kernel_rfl)) rfl ?_)) | (refine so_is (.pick _ _ _) ?_; (refine so_q (qt_pkC rfl rfl) rfl ?_)) | (refine so_is (.binOp .neq 3 _ _ _) ?_; refine so_q (qt_neq rfl rfl) rfl ?_) | (refine so_is (.binOp .lss 3 _ _ _) ?_; refine so_q (qt_lss rfl rfl) rfl ?_) | (refine so_is (.indexAddr 22 _ _) ?_; (refine so_q (qt_idxII rfl rfl (by kernel_rfl) (by (omega)) (by (omega))) rfl ?_)) | (refine so_is (.load 26 _) ?_; (refine so_q (qt_load_pt rfl (by kernel_rfl) rfl) rfl ?_)) | (refine so_is (.call ⟨.builtin .len, _, #[26]⟩) ?_; (refine so_q (qt_len_d rfl (by kernel_rfl)) rfl ?_)) | (refine so_is (.binOp .add 3 _ _ _) ?_; refine so_q (qt_addI rfl rfl (by (omega))) rfl ?_) | (refine so_is (.call ⟨.value (.func 133), _, _⟩) ?_; (apply so_call0 (fid := 133); (· (repeat (first | exact SeA.nil | apply SeA.cons (.c (.d _))))); (· exact allWithin_p _ _ _); (· rfl))) | (refine so_is (.call ⟨.value (.func 134), _, _⟩) ?_; (apply so_call0 (fid := 134); (· (repeat (first | exact SeA.nil | apply SeA.cons (.c (.d _))))); (· exact total_p _); (· rfl))) | refine so_nil ?_ | refine so_g_no rfl rfl rfl rfl ?_ | refine so_g_yes rfl rfl rfl rfl ?_ | refine so_g_if rfl rfl (fun hg => ?_) (fun hg => ?_) | refine so_g_b rfl rfl (fun hg => ?_) (fun hg => ?_) | refine sk_seq ?_ | refine sk_block ?_ | refine sk_blk ?_ | refine sk_exit rfl ?_ | refine sk_skip ?_ | refine sk_region ?_ | refine sk_drawQ 6 (fun _ => false) (.step 0 true (.step 1 true (.step 2 true (.step 3 true (.step 4 true (.step 5 true (.step 6 true (.step 7 false (.step 8 true (.step 9 true (.step 10 true (.step 11 true (.step 13 true (.step 14 true (.step 12 false (.step 15 true (.step 16 true .nil))))))))))))))))) [(0, 131071, 131071, true), (1, 131070, 131071, true), (2, 131069, 131071, true), (4, 131067, 131071, true), (8, 131063, 131071, true), (8, 131063, 131071, true), (40, 131031, 131071, false), (88, 130983, 131071, false), (136, 130935, 131071, true), (264, 130807, 131071, true), (640, 130559, 131071, true), (1024, 130047, 131071, true), (3072, 127999, 131071, false), (1024, 130047, 131071, true), (9216, 121855, 131071, false), (21504, 109567, 131071, true), (33792, 97279, 131071, true)] (by kernel_rfl) (by kernel_rfl) ?_ | refine sk_true rfl ?_ | refine sk_if rfl (fun hc => ?_) (fun hc => ?_))
  · have hk2 : k < ll.length := by omega
    rw [atZ_nat hk2] at hg
    (apply sk_ret; apply ret_eq; (· apply RetOK.p; (· (apply GvA.cons; (· exact .tmp _); (· exact GvP.c (.lit _))); exact GvA.nil); (· (decide))))
    have h9 : row4B n ll[k] = false := by simp [row4B]; omega
    rw [boxB, all_f hk2 h9]; simp
  · rename_i hk'
    have hk2 : k < ll.length := by omega
    rw [atZ_nat hk2] at hg
    (apply sk_ret; apply ret_eq; (· apply RetOK.p; (· (apply GvA.cons; (· exact .tmp _); (· exact GvP.c (.lit _))); exact GvA.nil); (· (decide))))
    have h9 : row4B n ll[k] = false := by simp at hg; simp [row4B, hg]
    rw [boxB, all_f hk2 h9]; simp
  · rename_i hk'
    have hk2 : k < ll.length := by omega
    rw [atZ_nat hk2] at hg hc
    (apply sk_ret; apply ret_eq; (· apply RetOK.p; (· (apply GvA.cons; (· exact .tmp _); (· exact GvP.c (.lit _))); exact GvA.nil); (· (decide))))
    have h9 : row4B n ll[k] = false := by simp [row4B, hc]
    rw [boxB, all_f hk2 h9]; simp
  · rename_i hk' hg'
    have hk2 : k < ll.length := by omega
    rw [atZ_nat hk2] at hg hc hg'
    have h9 : row4B n ll[k] = true := by simp at hg hc hg'; simp [row4B, hg, hc]; omega
    refine sk_back ?_; refine ⟨k + 1, ?_, ?_, le_at rfl (by (repeat (first | exact trivial | refine ⟨(by (rfl)), ?_⟩))) (by (repeat (first | exact trivial | refine ⟨rfl, ?_⟩))) (by (repeat (exact trivial))) (by (repeat (first | exact trivial | refine ⟨.inr rfl, ?_⟩)))⟩
    · exact ⟨by omega, by rw [take_succ_all _ _ _ hk2, ha, h9]; rfl⟩
    · omega
  · have : k = ll.length := by omega
    subst this
    rw [List.take_length] at ha
    (apply sk_ret; apply ret_eq; (· apply RetOK.p; (· (apply GvA.cons; (· exact .tmp _); (· exact GvP.c (.lit _))); exact GvA.nil); (· (decide))))
    simp [boxB, hs, hn, hlen, ha]

end Go.Proofs.Ytdihapcicpkdkaa

namespace Go.Proofs.Ytdihapcicpkdkaa
open Go.RowKit
set_option linter.unusedSectionVars false
variable [Glb]
set_option maxRecDepth 10000
set_option maxHeartbeats 4000000
theorem hasTwo_p (x y : Int) : PC Try.prog 189 [.c (dI x), .c (dI y)] (.p (.c (dB (decide (x = 2) && decide (y = 2))))) := by
  refine pc_intro Try.func189 rfl rfl rfl (by kernel_rfl) rfl rfl ?_; intro _
  repeat' (first | (refine so_is (.assign _) ?_; (refine so_q (qt_asC rfl) rfl ?_)) | (refine so_is (.move _) ?_; (refine so_q (qt_mvC rfl) rfl ?_)) | (refine so_is (.binOp .eql 3 _ _ _) ?_; refine so_q (qt_eql rfl rfl) rfl ?_) | (refine so_is (.pick _ _ _) ?_; (refine so_q (qt_pkC rfl rfl) rfl ?_)) | refine so_nil ?_ | refine so_g_no rfl rfl rfl rfl ?_ | refine so_g_yes rfl rfl rfl rfl ?_ | refine so_g_if rfl rfl (fun hg => ?_) (fun hg => ?_) | refine sk_seq ?_ | refine sk_region ?_)
  all_goals (apply sk_ret; apply ret_eq; (· apply RetOK.p; (· (apply GvA.cons; (· exact .tmp _); (· exact GvP.c (.lit _))); exact GvA.nil); (· (decide))))
  all_goals ((simp_all [hasTwo_p]; done))
theorem isPair_p (x y n : Int) (ll : List (List Int)) : PC Try.prog 98 [.g [dI x, dI y, dI n, eII ll]] (.p (.c (dB (pairB x y n ll)))) := by
  refine pc_intro Try.func98 rfl rfl rfl (by kernel_rfl) rfl rfl ?_; intro _
  repeat' (first | (refine so_is (.box 29 _) ?_; refine so_box rfl rfl ?_) | (refine so_is (.assign _) ?_; (refine so_q (qt_asC rfl) rfl ?_)) | (refine so_is (.load 29 _) ?_; (refine so_q (qt_load_boxs rfl rfl (by kernel_rfl : tAgg _ 29 4 = true) rfl) rfl ?_)) | (refine so_is (.move _) ?_; (refine so_q (qt_mvC rfl) rfl ?_)) | (refine so_is (.fieldAddr 29 _ 0) ?_; (refine so_q (qt_fld_lp (off := 0) rfl (by kernel_rfl)) rfl ?_)) | (refine so_is (.load 3 _) ?_; (refine so_q (qt_load_box rfl rfl (by kernel_rfl) rfl) rfl ?_)) | (refine so_is (.fieldAddr 29 _ 1) ?_; (refine so_q (qt_fld_lp (off := 1) rfl (by kernel_rfl)) rfl ?_)) | (refine so_is (.pick _ _ _) ?_; (refine so_q (qt_pkC rfl rfl) rfl ?_)) | (refine so_is (.call ⟨.value (.func 183), _, _⟩) ?_; (apply so_call0 (fid := 183); (· (repeat (first | exact SeA.nil | (apply SeA.cons; (· (apply SeP.g; (repeat (first | exact SeL.nil | apply SeL.cons (.d _))))))))); (· exact IsBox_p _ _ _ _); (· rfl))) | (refine so_is (.call ⟨.value (.func 189), _, _⟩) ?_; (apply so_call0 (fid := 189); (· (repeat (first | exact SeA.nil | apply SeA.cons (.c (.d _))))); (· exact hasTwo_p _ _); (· rfl))) | refine so_nil ?_ | refine so_g_no rfl rfl rfl rfl ?_ | refine so_g_yes rfl rfl rfl rfl ?_ | refine so_g_b rfl rfl (fun hg => ?_) (fun hg => ?_) | refine sk_seq ?_ | refine sk_region ?_)
  all_goals (apply sk_ret; apply ret_eq; (· apply RetOK.p; (· (apply GvA.cons; (· exact .tmp _); (· exact GvP.c (.lit _))); exact GvA.nil); (· (decide))))
  all_goals ((simp_all [pairB]; done))

end Go.Proofs.Ytdihapcicpkdkaa

namespace Go.Proofs.Ytdihapcicpkdkaa
open Go.RowKit
set_option linter.unusedSectionVars false
variable [Glb]
set_option maxRecDepth 10000
set_option maxHeartbeats 4000000
/-- a list of lists of which the first i have got names of their own -/
def anyR (P : List (List Int)) (i : Nat) : List D := List.replicate i D.any ++ (cII P).drop i
theorem anyR_zero (P : List (List Int)) : anyR P 0 = cII P := rfl
theorem anyR_len (P : List (List Int)) {i : Nat} (h : i ≤ P.length) : (anyR P i).length = P.length := by simp [anyR]; omega
theorem anyR_get (P : List (List Int)) {i : Nat} (h : i < P.length) : (anyR P i)[i]? = some (eI (atZ P (i : Int))) := by
  unfold anyR
  rw [List.getElem?_append_right (by simp), List.length_replicate, Nat.sub_self, List.getElem?_drop, Nat.add_zero, List.getElem?_map, List.getElem?_eq_getElem h, atZ_nat h]
  rfl
theorem anyR_set (P : List (List Int)) {i : Nat} (h : i < P.length) : (anyR P i).set i D.any = anyR P (i + 1) := by
  unfold anyR
  rw [List.set_append_right _ _ (by simp), List.length_replicate, Nat.sub_self, List.drop_eq_getElem_cons (by simpa using h), List.set_cons_zero, List.replicate_succ', List.append_assoc]
  rfl
inductive Md where
  | nil
  | old
  | cur
def fst10 : Md → Nat → Nat → FV
  | .nil, _, _ => .c (.d (.lit (.slice none 0 0)))
  | .old, n, _ => .c (.ls 3000 1 0 n)
  | .cur, _, m => .c (.ls 2000 1 0 m)
def snd11 : Md → Nat → FV
  | .nil, _ => .c (.d (.lit (.slice none 0 0)))
  | _, n => .c (.ls 5000 1 0 n)
def blkM : Md → List Int → List Int → List (Nat × Blk)
  | .nil, _, _ => []
  | .old, f, s => [(3000, .row 1 (cI f)), (5000, .row 1 (cI s))]
  | .cur, _, s => [(5000, .row 1 (cI s))]
theorem BestAsks_p (xa ya na : Int) (la : List (List Int)) (xb yb nb : Int) (lb : List (List Int)) (k : Int) : PC Try.prog 12 [.g [dI xa, dI ya, dI na, eII la], .g [dI xb, dI yb, dI nb, eII lb], .c (dI k)]
    (.t [.c (eI (whenA (bestB xa ya na la xb yb nb lb k) (firstA (askS la lb k.toNat) 256))), .c (eI (whenA (bestB xa ya na la xb yb nb lb k) (secondA (askS la lb k.toNat) 256))), .c (dI (whenN (bestB xa ya na la xb yb nb lb k) (mostA (askS la lb k.toNat) 256))), .c (dB (bestB xa ya na la xb yb nb lb k))]) := by
  cases hB : bestB xa ya na la xb yb nb lb k with
  | false =>
    cases h1 : pairB xa ya na la with
    | false =>
      refine pc_intro Try.func12 rfl rfl rfl (by kernel_rfl) rfl rfl ?_; intro _
      repeat' (first | (refine so_is (.box 29 _) ?_; refine so_box rfl rfl ?_) | (refine so_is (.assign _) ?_; (refine so_q (qt_asC rfl) rfl ?_)) | (refine so_is (.load 29 _) ?_; (refine so_q (qt_load_boxs rfl rfl (by kernel_rfl : tAgg _ 29 4 = true) rfl) rfl ?_)) | (refine so_is (.unOp .not 4 _) ?_; refine so_q (qt_not rfl) rfl ?_) | (refine so_is (.move _) ?_; (refine so_q (qt_mvC rfl) rfl ?_)) | (refine so_is (.pick _ _ _) ?_; (refine so_q (qt_pkC rfl rfl) rfl ?_)) | (refine so_is (.call ⟨.value (.func 98), _, _⟩) ?_; (apply so_call0 (fid := 98); (· (repeat (first | exact SeA.nil | (apply SeA.cons; (· (apply SeP.g; (repeat (first | exact SeL.nil | apply SeL.cons (.d _))))))))); (· exact isPair_p _ _ _ _); (· rfl))) | refine so_nil ?_ | refine so_g_no rfl rfl rfl rfl ?_ | refine so_g_yes rfl rfl rfl rfl ?_ | refine so_g_b rfl rfl (fun hg => ?_) (fun hg => ?_) | refine sk_seq ?_ | refine sk_region ?_ | refine sk_true rfl ?_)
      all_goals first | (exfalso; simp_all; done) | skip
      all_goals (apply sk_ret; apply ret_eq; (· apply RetOK.t; (· (apply GvA.cons; (· exact .tmp _); (· (exact GvP.c (.nil 1 (by decide))))); (apply GvA.cons; (· exact .tmp _); (· (exact GvP.c (.nil 1 (by decide))))); (apply GvA.cons; (· exact .tmp _); (· exact GvP.c (.lit _))); (apply GvA.cons; (· exact .tmp _); (· exact GvP.c (.lit _))); exact GvA.nil); (· rfl); (· (decide))))
      all_goals simp [whenN, whenA]
    | true =>
      cases h2 : pairB xb yb nb lb with
      | false =>
        refine pc_intro Try.func12 rfl rfl rfl (by kernel_rfl) rfl rfl ?_; intro _
        repeat' (first | (refine so_is (.box 29 _) ?_; refine so_box rfl rfl ?_) | (refine so_is (.assign _) ?_; (refine so_q (qt_asC rfl) rfl ?_)) | (refine so_is (.load 29 _) ?_; (refine so_q (qt_load_boxs rfl rfl (by kernel_rfl : tAgg _ 29 4 = true) rfl) rfl ?_)) | (refine so_is (.unOp .not 4 _) ?_; refine so_q (qt_not rfl) rfl ?_) | (refine so_is (.move _) ?_; (refine so_q (qt_mvC rfl) rfl ?_)) | (refine so_is (.pick _ _ _) ?_; (refine so_q (qt_pkC rfl rfl) rfl ?_)) | (refine so_is (.call ⟨.value (.func 98), _, _⟩) ?_; (apply so_call0 (fid := 98); (· (repeat (first | exact SeA.nil | (apply SeA.cons; (· (apply SeP.g; (repeat (first | exact SeL.nil | apply SeL.cons (.d _))))))))); (· exact isPair_p _ _ _ _); (· rfl))) | refine so_nil ?_ | refine so_g_no rfl rfl rfl rfl ?_ | refine so_g_yes rfl rfl rfl rfl ?_ | refine so_g_b rfl rfl (fun hg => ?_) (fun hg => ?_) | refine sk_seq ?_ | refine sk_region ?_ | refine sk_true rfl ?_)
        all_goals first | (exfalso; simp_all; done) | skip
        all_goals (apply sk_ret; apply ret_eq; (· apply RetOK.t; (· (apply GvA.cons; (· exact .tmp _); (· (exact GvP.c (.nil 1 (by decide))))); (apply GvA.cons; (· exact .tmp _); (· (exact GvP.c (.nil 1 (by decide))))); (apply GvA.cons; (· exact .tmp _); (· exact GvP.c (.lit _))); (apply GvA.cons; (· exact .tmp _); (· exact GvP.c (.lit _))); exact GvA.nil); (· rfl); (· (decide))))
        all_goals simp [whenN, whenA]
      | true =>
        have hm := mul_whole (pairB_spec h1).2.2.2 (pairB_spec h2).2.2.2
        have e : na * nb ≤ 1000 → inB k 0 7 = false := fun h => by
          cases h3 : inB k 0 7 with
          | false => rfl
          | true => simp [bestB, wiresB, h1, h2, h3, h] at hB
        have ip1 := isPair_p xa ya na la
        have ip2 := isPair_p xb yb nb lb
        rw [h1] at ip1
        rw [h2] at ip2
        by_cases hle : na * nb ≤ 1000
        · have wp := within_p k 0 7
          rw [e hle] at wp
          refine pc_intro Try.func12 rfl rfl rfl (by kernel_rfl) rfl rfl ?_; intro _
          repeat' (first | (refine so_is (.box 29 _) ?_; refine so_box rfl rfl ?_) | (refine so_is (.assign _) ?_; (refine so_q (qt_asC rfl) rfl ?_)) | (refine so_is (.load 29 _) ?_; (refine so_q (qt_load_boxs rfl rfl (by kernel_rfl : tAgg _ 29 4 = true) rfl) rfl ?_)) | (refine so_is (.unOp .not 4 _) ?_; refine so_q (qt_not rfl) rfl ?_) | (refine so_is (.move _) ?_; (refine so_q (qt_mvC rfl) rfl ?_)) | (refine so_is (.pick _ _ _) ?_; (refine so_q (qt_pkC rfl rfl) rfl ?_)) | (refine so_is (.call ⟨.value (.func 98), _, _⟩) ?_; (first | (apply so_call0 (fid := 98); (· (repeat (first | exact SeA.nil | (apply SeA.cons; (· (apply SeP.g; (repeat (first | exact SeL.nil | apply SeL.cons (.d _))))))))); (· exact ip1); (· rfl)) | (apply so_call0 (fid := 98); (· (repeat (first | exact SeA.nil | (apply SeA.cons; (· (apply SeP.g; (repeat (first | exact SeL.nil | apply SeL.cons (.d _))))))))); (· exact ip2); (· rfl)))) | (refine so_is (.call ⟨.value (.func 99), _, _⟩) ?_; ((apply so_call0 (fid := 99); (· (repeat (first | exact SeA.nil | apply SeA.cons (.c (.d _))))); (· exact wp); (· rfl)))) | refine so_nil ?_ | refine so_g_no rfl rfl rfl rfl ?_ | refine so_g_yes rfl rfl rfl rfl ?_ | refine sk_seq ?_ | refine sk_region ?_ | refine sk_true rfl ?_)
          all_goals first | (exfalso; simp_all; done) | (exfalso; omega) | skip
          all_goals (apply sk_ret; apply ret_eq; (· apply RetOK.t; (· (apply GvA.cons; (· exact .tmp _); (· (exact GvP.c (.nil 1 (by decide))))); (apply GvA.cons; (· exact .tmp _); (· (exact GvP.c (.nil 1 (by decide))))); (apply GvA.cons; (· exact .tmp _); (· exact GvP.c (.lit _))); (apply GvA.cons; (· exact .tmp _); (· exact GvP.c (.lit _))); exact GvA.nil); (· rfl); (· (decide))))
          all_goals simp [whenN, whenA]
        · refine pc_intro Try.func12 rfl rfl rfl (by kernel_rfl) rfl rfl ?_; intro _
          repeat' (first | (refine so_is (.box 29 _) ?_; refine so_box rfl rfl ?_) | (refine so_is (.assign _) ?_; (refine so_q (qt_asC rfl) rfl ?_)) | (refine so_is (.load 29 _) ?_; (refine so_q (qt_load_boxs rfl rfl (by kernel_rfl : tAgg _ 29 4 = true) rfl) rfl ?_)) | (refine so_is (.unOp .not 4 _) ?_; refine so_q (qt_not rfl) rfl ?_) | (refine so_is (.move _) ?_; (refine so_q (qt_mvC rfl) rfl ?_)) | (refine so_is (.pick _ _ _) ?_; (refine so_q (qt_pkC rfl rfl) rfl ?_)) | (refine so_is (.fieldAddr 29 _ 2) ?_; (refine so_q (qt_fld_lp (off := 2) rfl (by kernel_rfl)) rfl ?_)) | (refine so_is (.load 3 _) ?_; (refine so_q (qt_load_box rfl rfl (by kernel_rfl) rfl) rfl ?_)) | (refine so_is (.binOp .mul 3 _ _ _) ?_; refine so_q (qt_mulI rfl rfl (by (omega))) rfl ?_) | (refine so_is (.binOp .gtr 3 _ _ _) ?_; refine so_q (qt_gtr rfl rfl) rfl ?_) | (refine so_is (.call ⟨.value (.func 98), _, _⟩) ?_; (first | (apply so_call0 (fid := 98); (· (repeat (first | exact SeA.nil | (apply SeA.cons; (· (apply SeP.g; (repeat (first | exact SeL.nil | apply SeL.cons (.d _))))))))); (· exact ip1); (· rfl)) | (apply so_call0 (fid := 98); (· (repeat (first | exact SeA.nil | (apply SeA.cons; (· (apply SeP.g; (repeat (first | exact SeL.nil | apply SeL.cons (.d _))))))))); (· exact ip2); (· rfl)))) | (refine so_is (.call ⟨.value (.func 99), _, _⟩) ?_; ((apply so_call0 (fid := 99); (· (repeat (first | exact SeA.nil | apply SeA.cons (.c (.d _))))); (· exact within_p _ _ _); (· rfl)))) | refine so_nil ?_ | refine so_g_no rfl rfl rfl rfl ?_ | refine so_g_yes rfl rfl rfl rfl ?_ | refine so_g_b rfl rfl (fun hg => ?_) (fun hg => ?_) | refine sk_seq ?_ | refine sk_skip ?_ | refine sk_region ?_ | refine sk_true rfl ?_ | refine sk_if rfl (fun hc => ?_) (fun hc => ?_))
          all_goals first | (exfalso; simp_all; done) | (exfalso; omega) | skip
          all_goals (apply sk_ret; apply ret_eq; (· apply RetOK.t; (· (apply GvA.cons; (· exact .tmp _); (· (exact GvP.c (.nil 1 (by decide))))); (apply GvA.cons; (· exact .tmp _); (· (exact GvP.c (.nil 1 (by decide))))); (apply GvA.cons; (· exact .tmp _); (· exact GvP.c (.lit _))); (apply GvA.cons; (· exact .tmp _); (· exact GvP.c (.lit _))); exact GvA.nil); (· rfl); (· (decide))))
          all_goals simp [whenN, whenA]
  | true =>
    have hB2 := hB
    simp only [bestB, wiresB, Bool.and_eq_true, decide_eq_true_eq] at hB2
    obtain ⟨⟨v1, v2, hle⟩, v3⟩ := hB2
    obtain ⟨rfl, rfl, ha, a1, a2⟩ := pairB_spec v1
    obtain ⟨rfl, rfl, hb, b1, b2⟩ := pairB_spec v2
    have hm := mul_whole ⟨a1, a2⟩ ⟨b1, b2⟩
    have hk := inB_iff.1 v3
    obtain ⟨K, rfl⟩ : ∃ K : Nat, k = K := ⟨k.toNat, by omega⟩
    rw [Int.toNat_natCast]
    obtain ⟨s, hs⟩ : ∃ s, s = askS la lb K := ⟨_, rfl⟩
    rw [← hs]
    obtain ⟨P, hP⟩ : ∃ P, P = playsF 4 := ⟨_, rfl⟩
    have hPl : P.length = 16 := by rw [hP]; rfl
    have ap : PC Try.prog 100 [.c (dI 2), .c (dI 2)] (.p (.c (eII P))) := by rw [hP]; exact plays_p 2 2 (by omega)
    refine pc_intro Try.func12 rfl rfl rfl (by kernel_rfl) rfl rfl ?_; intro _
    repeat' (first | (refine so_is (.box 29 _) ?_; refine so_box rfl rfl ?_) | (refine so_is (.assign _) ?_; (refine so_q (qt_asC rfl) rfl ?_)) | (refine so_is (.load 29 _) ?_; (refine so_q (qt_load_boxs rfl rfl (by kernel_rfl : tAgg _ 29 4 = true) rfl) rfl ?_)) | (refine so_is (.unOp .not 4 _) ?_; refine so_q (qt_not rfl) rfl ?_) | (refine so_is (.move _) ?_; (refine so_q (qt_mvC rfl) rfl ?_)) | (refine so_is (.pick _ _ _) ?_; (refine so_q (qt_pkC rfl rfl) rfl ?_)) | (refine so_is (.fieldAddr 29 _ 2) ?_; (refine so_q (qt_fld_lp (off := 2) rfl (by kernel_rfl)) rfl ?_)) | (refine so_is (.load 3 _) ?_; (refine so_q (qt_load_box rfl rfl (by kernel_rfl) rfl) rfl ?_)) | (refine so_is (.binOp .mul 3 _ _ _) ?_; refine so_q (qt_mulI rfl rfl (by (omega))) rfl ?_) | (refine so_is (.binOp .gtr 3 _ _ _) ?_; refine so_q (qt_gtr rfl rfl) rfl ?_) | (refine so_is (.call ⟨.builtin .len, _, #[22]⟩) ?_; (refine so_q (qt_len_ls rfl (by kernel_rfl)) rfl ?_)) | (refine so_is (.call ⟨.value (.func 98), _, _⟩) ?_; ((apply so_call0 (fid := 98); (· (repeat (first | exact SeA.nil | (apply SeA.cons; (· (apply SeP.g; (repeat (first | exact SeL.nil | apply SeL.cons (.d _))))))))); (· exact isPair_p _ _ _ _); (· rfl)))) | (refine so_is (.call ⟨.value (.func 99), _, _⟩) ?_; ((apply so_call0 (fid := 99); (· (repeat (first | exact SeA.nil | apply SeA.cons (.c (.d _))))); (· exact within_p _ _ _); (· rfl)))) | (refine so_is (.call ⟨.value (.func 100), _, _⟩) ?_; (apply so_callO0 (fid := 100); (· (repeat (first | exact SeA.nil | apply SeA.cons (.c (.d _))))); (· exact ap); (· rfl); (· rfl))) | refine so_nil ?_ | refine so_g_no rfl rfl rfl rfl ?_ | refine so_g_yes rfl rfl rfl rfl ?_ | refine so_g_b rfl rfl (fun hg => ?_) (fun hg => ?_) | refine sk_seq ?_ | refine sk_block ?_ | refine sk_skip ?_ | refine sk_region (id := 0) ?_ | refine sk_region (id := 1) ?_ | refine sk_region (id := 2) ?_ | refine sk_region (id := 3) ?_ | refine sk_region (id := 4) ?_ | refine sk_true rfl ?_ | refine sk_if rfl (fun hc => ?_) (fun hc => ?_))
    all_goals first | (exfalso; simp_all [bestB]; done) | (exfalso; omega) | skip
    apply sk_packC [2, 3, 4, 10, 11, 12, 39, 40, 41] [3, 4, 39, 45, 54, 56, 58, 1054, 1056, 2000, 2054, 2056, 3000, 3057, 4000, 5000] rfl; (· (repeat (first | exact Pf.nil | apply Pf.cons (.c rfl (.d rfl)) | apply Pf.cons (.c rfl (.ls rfl)) | apply Pf.cons (.c rfl (.lp rfl))))); (· (repeat (first | exact Pb.nil | apply Pb.cons (.row rfl) | (apply Pb.cons; (· apply Nb.box rfl; (repeat (first | exact Ncs.nil rfl | (apply Ncs.cons rfl; (· (exact .d rfl))))))) | apply Pb.skip)))
    refine sk_loopL [2, 3, 4, 39, 40] [3, 4, 45, 54, 1054, 2054, 56, 1056, 2056, 3057, 58] (fun (g : Nat × Md) => [(41, iN g.1), (10, fst10 g.2 (firstA s (16 * g.1)).length 0), (11, snd11 g.2 (secondA s (16 * g.1)).length), (12, iZ (mostA s (16 * g.1)))]) (fun g => (39, .row 1 (anyR P g.1)) :: blkM g.2 (firstA s (16 * g.1)) (secondA s (16 * g.1))) (fun g => g.1 ≤ 16 ∧ (g.2 = .nil ↔ g.1 = 0) ∧ g.2 ≠ .cur) (fun g => 16 - g.1) (((0 : Nat), Md.nil)) ?_ (by (repeat (first | exact trivial | refine ⟨(by (rfl)), ?_⟩))) (by (repeat (first | exact trivial | refine ⟨(by (rfl)), ?_⟩))) ?_
    · exact ⟨by omega, by simp, by simp⟩
    rintro ⟨i, m⟩ ⟨hi, hmi, hmc⟩
    simp only at hi hmi hmc
    have rl := anyR_len P (i := i) (by omega)
    by_cases hi2 : i < 16
    · have pi := ask_at hi2
      rw [← hP] at pi
      have gi := anyR_get P (i := i) (by omega)
      have si := anyR_set P (i := i) (by omega)
      rw [pi] at gi
      cases m with
      | cur => exact absurd rfl hmc
      | nil =>
        have hi0 : i = 0 := hmi.1 rfl
        repeat' (first | (refine so_is (.assign _) ?_; (refine so_q (qt_asC rfl) rfl ?_)) | (refine so_is (.move _) ?_; (refine so_q (qt_mvC rfl) rfl ?_)) | (refine so_is (.binOp .lss 3 _ _ _) ?_; refine so_q (qt_lss rfl rfl) rfl ?_) | refine so_nil ?_ | refine sk_seq ?_ | refine sk_block ?_ | refine sk_exit rfl ?_ | refine sk_skip ?_ | refine sk_region (id := 5) ?_ | refine sk_region (id := 15) ?_ | refine sk_if rfl (fun hc => ?_) (fun hc => ?_))
        all_goals first | (exfalso; omega) | skip
        refine sk_region (id := 6) ?_
        all_goals ((refine so_q (qt_idx_ls rfl rfl (by kernel_rfl : tSl _ 22 1 = true) (by (omega)) (by (omega))) rfl ?_))
        all_goals (refine so_thaw (c := 2000) (sz' := 1) (n := (askRow i).length) (ds' := cI (askRow i)) rfl rfl (by kernel_rfl) (by simpa using gi) rfl rfl rfl ?_)
        all_goals (refine so_ghost (sim_any (b := 39) rfl) ?_; refine so_q (qt_asC rfl) rfl ?_)
        all_goals refine so_nil ?_
        repeat' (first | (refine so_is (.move _) ?_; (refine so_q (qt_mvC rfl) rfl ?_)) | (refine so_is (.call ⟨.builtin .len, _, #[22]⟩) ?_; (refine so_q (qt_len_ls rfl (by kernel_rfl)) rfl ?_)) | (refine so_is (.call ⟨.value (.func 100), _, _⟩) ?_; (apply so_callO0 (fid := 100); (· (repeat (first | exact SeA.nil | apply SeA.cons (.c (.d _))))); (· exact ap); (· rfl); (· rfl))) | refine so_nil ?_ | refine sk_seq ?_ | refine sk_block ?_ | refine sk_region (id := 7) ?_)
        apply sk_packC [2, 3, 4, 10, 11, 12, 14, 39, 40, 41, 45, 46, 47] [3, 4, 39, 45, 54, 56, 58, 1054, 1056, 2000, 2054, 2056, 3000, 3057, 4000, 5000] rfl; (· (repeat (first | exact Pf.nil | apply Pf.cons (.c rfl (.d rfl)) | apply Pf.cons (.c rfl (.ls rfl)) | apply Pf.cons (.c rfl (.lp rfl))))); (· (repeat (first | exact Pb.nil | apply Pb.cons (.row rfl) | (apply Pb.cons; (· apply Nb.box rfl; (repeat (first | exact Ncs.nil rfl | (apply Ncs.cons rfl; (· (exact .d rfl))))))) | apply Pb.skip)))
        refine sk_loopL [2, 3, 4, 14, 39, 40, 41, 45, 46] [3, 4, 39, 54, 1054, 2054, 56, 1056, 2056, 3057, 58] (fun (g : Nat × Md) => [(47, iN g.1), (10, fst10 g.2 (firstA s (16 * i + g.1)).length (askRow i).length), (11, snd11 g.2 (secondA s (16 * i + g.1)).length), (12, iZ (mostA s (16 * i + g.1)))]) (fun g => (45, .row 1 (anyR P g.1)) :: (2000, .row 1 (cI (askRow i))) :: blkM g.2 (firstA s (16 * i + g.1)) (secondA s (16 * i + g.1))) (fun g => g.1 ≤ 16 ∧ (g.2 = .nil ↔ 16 * i + g.1 = 0) ∧ (g.2 = .cur → firstA s (16 * i + g.1) = askRow i)) (fun g => 16 - g.1) (((0 : Nat), Md.nil)) ?_ (by (repeat (first | exact trivial | refine ⟨(by (rfl)), ?_⟩))) (by (repeat (first | exact trivial | refine ⟨(by (first | (refine row_eq rfl ?_; simp; done) | rfl)), ?_⟩))) ?_
        · refine ⟨by omega, by simp; omega, by simp⟩
        rintro ⟨n, m⟩ ⟨hn, hmn, hmc2⟩
        simp only at hn hmn hmc2
        have rl2 := anyR_len P (i := n) (by omega)
        by_cases hn2 : n < 16
        · have pn := ask_at hn2
          rw [← hP] at pn
          have gn := anyR_get P (i := n) (by omega)
          have sn := anyR_set P (i := n) (by omega)
          rw [pn] at gn
          obtain ⟨t, ht⟩ : ∃ t, t = 16 * i + n := ⟨_, rfl⟩
          have t1 : t / 16 = i := by omega
          have t2 : t % 16 = n := by omega
          obtain ⟨LL, hLL⟩ : ∃ LL, LL = askLL la lb t := ⟨_, rfl⟩
          have wp := wired_p na la nb lb sumF (ruleA (askRow i)) sumS sumF (ruleA (askRow n)) sumS ha hb (askRule i) (askRule n)
          have eLL : wiredL la lb sumF (ruleA (askRow i)) sumS sumF (ruleA (askRow n)) sumS = LL := by rw [hLL, askLL, t1, t2]
          rw [eLL] at wp
          have hbx := wire_box ha hb (askRule i) (askRule n)
          rw [eLL, decide_eq_true hle] at hbx
          have sp := eightSums_p _ LL hbx
          have sl : (sumsL LL).length = 8 := by simp [sumsL]
          have es : atZ (sumsL LL) (K : Int) = s t := by rw [sumsL_at LL (by omega), hs, hLL]; rfl
          have r1 := sumRuleBy_p (askRow i) (askRow_len i)
          have r2 := sumRuleBy_p (askRow n) (askRow_len n)
          rw [← ht]
          have en : 16 * i + (n + 1) = t + 1 := by omega
          cases m with
          | nil =>
            have ht0 : t = 0 := by rw [ht]; exact hmn.1 rfl
            obtain ⟨e1, e2, e3⟩ := sel_yes (s := s) (t := t) (.inl (by rw [ht0]; rfl))
            rw [t1, ← en] at e1
            rw [t2, ← en] at e2
            rw [← en] at e3
            repeat' (first | (refine so_is (.move _) ?_; (refine so_q (qt_mvC rfl) rfl ?_)) | (refine so_is (.binOp .lss 3 _ _ _) ?_; refine so_q (qt_lss rfl rfl) rfl ?_) | (refine so_is (.binOp .add 3 _ _ _) ?_; refine so_q (qt_addI rfl rfl (by (omega))) rfl ?_) | refine so_nil ?_ | refine sk_seq ?_ | refine sk_block ?_ | refine sk_blk ?_ | refine sk_exit rfl ?_ | refine sk_skip ?_ | refine sk_region (id := 8) ?_ | refine sk_region (id := 14) ?_ | refine sk_if rfl (fun hc => ?_) (fun hc => ?_))
            all_goals first | (exfalso; omega) | skip
            refine sk_region (id := 9) ?_
            all_goals ((refine so_q (qt_idx_ls rfl rfl (by kernel_rfl : tSl _ 22 1 = true) (by (omega)) (by (omega))) rfl ?_))
            all_goals (refine so_thaw (c := 4000) (sz' := 1) (n := (askRow n).length) (ds' := cI (askRow n)) rfl rfl (by kernel_rfl) (by simpa using gn) rfl rfl rfl ?_)
            all_goals (refine so_ghost (sim_any (b := 45) rfl) ?_; refine so_q (qt_asC rfl) rfl ?_)
            all_goals refine so_nil ?_
            repeat' (first | (refine so_is (.assign _) ?_; (refine so_q (qt_asC rfl) rfl ?_)) | (refine so_is (.load 29 _) ?_; (refine so_q (qt_load_boxs rfl rfl (by kernel_rfl : tAgg _ 29 4 = true) rfl) rfl ?_)) | (refine so_is (.move _) ?_; (refine so_q (qt_mvC rfl) rfl ?_)) | (refine so_is (.pick _ _ _) ?_; (refine so_q (qt_pkC rfl rfl) rfl ?_)) | (refine so_is (.load 3 _) ?_; (refine so_q (qt_load_pt rfl (by kernel_rfl) rfl) rfl ?_)) | (refine so_is (.indexAddr 26 _ _) ?_; (refine so_q (qt_idxI rfl rfl (by kernel_rfl) (by (omega)) (by (omega))) rfl ?_)) | (refine so_is (.binOp .eql 26 _ _ _) ?_; (refine so_q (qt_eql_nil0 rfl rfl (by kernel_rfl)) rfl ?_)) | (refine so_is (.call ⟨.value (.func 102), _, _⟩) ?_; (first | (apply so_call0 (fid := 102); (· (repeat (first | exact SeA.nil | apply SeA.cons (.c (.all _ _ _ _ rfl (by ((simp; done)))))))); (· exact r1); (· rfl)) | (apply so_call0 (fid := 102); (· (repeat (first | exact SeA.nil | apply SeA.cons (.c (.all _ _ _ _ rfl (by ((simp; done)))))))); (· exact r2); (· rfl)))) | (refine so_is (.call ⟨.value (.func 101), _, _⟩) ?_; ((apply so_call0 (fid := 101); (· (repeat (first | exact SeA.nil | (apply SeA.cons; (· (apply SeP.g; (repeat (first | exact SeL.nil | apply SeL.cons (.d _))))))))); (· exact wp); (· rfl)))) | (refine so_is (.call ⟨.value (.func 103), _, _⟩) ?_; ((apply so_call0 (fid := 103); (· (repeat (first | exact SeA.nil | (apply SeA.cons; (· (apply SeP.g; (repeat (first | exact SeL.nil | apply SeL.cons (.d _))))))))); (· exact sp); (· rfl)))) | refine so_nil ?_ | refine so_g_no rfl rfl rfl rfl ?_ | refine sk_seq ?_ | refine sk_blk ?_ | refine sk_drawQ 10 (fun _ => false) (.step 0 true (.step 1 true (.step 2 true (.step 4 true (.step 8 true (.step 3 false (.step 5 false (.step 6 false (.step 7 false (.step 9 true (.step 10 true (.step 11 true .nil)))))))))))) [(0, 4095, 4095, false), (0, 4095, 4095, false), (0, 4095, 4095, true), (4, 4091, 4095, false), (0, 4095, 4095, true), (24, 4079, 4095, false), (43, 4052, 4095, false), (64, 4031, 4095, false), (0, 4095, 4095, true), (384, 3711, 4095, true), (512, 3583, 4095, false), (2047, 3071, 4095, true)] (by kernel_rfl) (by kernel_rfl) ?_ | refine sk_region (id := 11) ?_ | refine sk_region (id := 12) ?_ | refine sk_true rfl ?_)
            all_goals first | (exfalso; omega) | skip
            refine sk_ghost (sim_ren 4000 5000 rfl rfl rfl rfl) ?_
            repeat' (first | (refine so_is (.move _) ?_; (refine so_q (qt_mvC rfl) rfl ?_)) | (refine so_is (.binOp .add 3 _ _ _) ?_; refine so_q (qt_addI rfl rfl (by (omega))) rfl ?_) | refine so_nil ?_ | refine sk_region ?_)
            refine sk_back ?_; refine ⟨(n + 1, Md.cur), ?_, ?_, le_at rfl (by (repeat (first | exact trivial | refine ⟨(by (first | rfl | (refine int_eq rfl ?_; ((simp  [e1, e2, e3, es, sn]; done))))), ?_⟩))) (by (repeat (first | exact trivial | refine ⟨rfl, ?_⟩))) (by (repeat (first | exact trivial | refine ⟨(by ((refine row_eq rfl ?_; simp  [e1, e2, e3, es, sn]; done))), ?_⟩))) (by (repeat (first | exact trivial | refine ⟨.inr rfl, ?_⟩)))⟩
            · refine ⟨by simp only; omega, by simp, fun _ => e1⟩
            · simp only; omega
          | old =>
            have hf0 : 0 < (firstA s t).length := by
              have hne : ¬ 16 * i + n = 0 := fun h => by have := hmn.2 h; simp at this
              obtain ⟨u, hu⟩ : ∃ u, t = u + 1 := ⟨t - 1, by omega⟩
              rw [hu, firstA, askRow_len]; decide
            have hft : foundA t = true := by
              have hne : ¬ 16 * i + n = 0 := fun h => by have := hmn.2 h; simp at this
              obtain ⟨u, hu⟩ : ∃ u, t = u + 1 := ⟨t - 1, by omega⟩
              rw [hu]; rfl
            repeat' (first | (refine so_is (.move _) ?_; (refine so_q (qt_mvC rfl) rfl ?_)) | (refine so_is (.binOp .lss 3 _ _ _) ?_; refine so_q (qt_lss rfl rfl) rfl ?_) | (refine so_is (.binOp .add 3 _ _ _) ?_; refine so_q (qt_addI rfl rfl (by (omega))) rfl ?_) | refine so_nil ?_ | refine sk_seq ?_ | refine sk_block ?_ | refine sk_blk ?_ | refine sk_exit rfl ?_ | refine sk_skip ?_ | refine sk_region (id := 8) ?_ | refine sk_region (id := 14) ?_ | refine sk_if rfl (fun hc => ?_) (fun hc => ?_))
            all_goals first | (exfalso; omega) | skip
            refine sk_region (id := 9) ?_
            all_goals ((refine so_q (qt_idx_ls rfl rfl (by kernel_rfl : tSl _ 22 1 = true) (by (omega)) (by (omega))) rfl ?_))
            all_goals (refine so_thaw (c := 4000) (sz' := 1) (n := (askRow n).length) (ds' := cI (askRow n)) rfl rfl (by kernel_rfl) (by simpa using gn) rfl rfl rfl ?_)
            all_goals (refine so_ghost (sim_any (b := 45) rfl) ?_; refine so_q (qt_asC rfl) rfl ?_)
            all_goals refine so_nil ?_
            repeat' (first | (refine so_is (.assign _) ?_; (refine so_q (qt_asC rfl) rfl ?_)) | (refine so_is (.load 29 _) ?_; (refine so_q (qt_load_boxs rfl rfl (by kernel_rfl : tAgg _ 29 4 = true) rfl) rfl ?_)) | (refine so_is (.move _) ?_; (refine so_q (qt_mvC rfl) rfl ?_)) | (refine so_is (.pick _ _ _) ?_; (refine so_q (qt_pkC rfl rfl) rfl ?_)) | (refine so_is (.load 3 _) ?_; (refine so_q (qt_load_pt rfl (by kernel_rfl) rfl) rfl ?_)) | (refine so_is (.binOp .gtr 3 _ _ _) ?_; refine so_q (qt_gtr rfl rfl) rfl ?_) | (refine so_is (.indexAddr 26 _ _) ?_; (refine so_q (qt_idxI rfl rfl (by kernel_rfl) (by (omega)) (by (omega))) rfl ?_)) | (refine so_is (.binOp .eql 26 _ _ _) ?_; (refine so_q (qt_eql_nilS rfl rfl (by kernel_rfl) (by (omega))) rfl ?_)) | (refine so_is (.call ⟨.value (.func 102), _, _⟩) ?_; (first | (apply so_call0 (fid := 102); (· (repeat (first | exact SeA.nil | apply SeA.cons (.c (.all _ _ _ _ rfl (by ((simp; done)))))))); (· exact r1); (· rfl)) | (apply so_call0 (fid := 102); (· (repeat (first | exact SeA.nil | apply SeA.cons (.c (.all _ _ _ _ rfl (by ((simp; done)))))))); (· exact r2); (· rfl)))) | (refine so_is (.call ⟨.value (.func 101), _, _⟩) ?_; ((apply so_call0 (fid := 101); (· (repeat (first | exact SeA.nil | (apply SeA.cons; (· (apply SeP.g; (repeat (first | exact SeL.nil | apply SeL.cons (.d _))))))))); (· exact wp); (· rfl)))) | (refine so_is (.call ⟨.value (.func 103), _, _⟩) ?_; ((apply so_call0 (fid := 103); (· (repeat (first | exact SeA.nil | (apply SeA.cons; (· (apply SeP.g; (repeat (first | exact SeL.nil | apply SeL.cons (.d _))))))))); (· exact sp); (· rfl)))) | refine so_nil ?_ | refine so_g_yes rfl rfl rfl rfl ?_ | refine sk_seq ?_ | refine sk_blk ?_ | refine sk_skip ?_ | refine sk_drawQ 10 (fun _ => false) (.step 0 true (.step 1 true (.step 2 true (.step 4 true (.step 8 true (.step 3 false (.step 5 false (.step 6 false (.step 7 false (.step 9 true (.step 10 true (.step 11 true .nil)))))))))))) [(0, 4095, 4095, false), (0, 4095, 4095, false), (0, 4095, 4095, true), (4, 4091, 4095, false), (0, 4095, 4095, true), (24, 4079, 4095, false), (43, 4052, 4095, false), (64, 4031, 4095, false), (0, 4095, 4095, true), (384, 3711, 4095, true), (512, 3583, 4095, false), (2047, 3071, 4095, true)] (by kernel_rfl) (by kernel_rfl) ?_ | refine sk_region (id := 11) ?_ | refine sk_region (id := 12) ?_ | refine sk_if rfl (fun hc => ?_) (fun hc => ?_))
            all_goals first | (exfalso; omega) | skip
            · obtain ⟨e1, e2, e3⟩ := sel_yes (s := s) (t := t) (.inr (by rw [← es]; exact hc))
              rw [t1, ← en] at e1
              rw [t2, ← en] at e2
              rw [← en] at e3
              refine sk_ghost (sim_forget 3000) ?_
              refine sk_ghost (sim_forget 5000) ?_
              refine sk_ghost (sim_ren 4000 5000 rfl rfl rfl rfl) ?_
              repeat' (first | (refine so_is (.move _) ?_; (refine so_q (qt_mvC rfl) rfl ?_)) | (refine so_is (.binOp .add 3 _ _ _) ?_; refine so_q (qt_addI rfl rfl (by (omega))) rfl ?_) | refine so_nil ?_ | refine sk_region ?_)
              refine sk_back ?_; refine ⟨(n + 1, Md.cur), ?_, ?_, le_at rfl (by (repeat (first | exact trivial | refine ⟨(by (first | rfl | (refine int_eq rfl ?_; ((simp  [e1, e2, e3, es, sn]; done))))), ?_⟩))) (by (repeat (first | exact trivial | refine ⟨rfl, ?_⟩))) (by (repeat (first | exact trivial | refine ⟨(by ((refine row_eq rfl ?_; simp  [e1, e2, e3, es, sn]; done))), ?_⟩))) (by (repeat (first | exact trivial | refine ⟨.inr rfl, ?_⟩)))⟩
              · refine ⟨by simp only; omega, by simp, fun _ => e1⟩
              · simp only; omega
            · obtain ⟨e1, e2, e3⟩ := sel_no (s := s) (t := t) hft (by rw [← es]; exact hc)
              rw [← en] at e1 e2 e3
              refine sk_ghost (sim_forget 4000) ?_
              repeat' (first | (refine so_is (.move _) ?_; (refine so_q (qt_mvC rfl) rfl ?_)) | (refine so_is (.binOp .add 3 _ _ _) ?_; refine so_q (qt_addI rfl rfl (by (omega))) rfl ?_) | refine so_nil ?_ | refine sk_region ?_)
              refine sk_back ?_; refine ⟨(n + 1, Md.old), ?_, ?_, le_at rfl (by (repeat (first | exact trivial | refine ⟨(by (first | rfl | (refine int_eq rfl ?_; ((simp  [e1, e2, e3, sn]; done))) | (refine ls_eq rfl ?_; ((simp  [e1, e2, e3, sn]; done))))), ?_⟩))) (by (repeat (first | exact trivial | refine ⟨rfl, ?_⟩))) (by (repeat (first | exact trivial | refine ⟨(by ((refine row_eq rfl ?_; simp  [e1, e2, e3, sn]; done))), ?_⟩))) (by (repeat (first | exact trivial | refine ⟨.inr rfl, ?_⟩)))⟩
              · refine ⟨by simp only; omega, by simp, by simp⟩
              · simp only; omega
          | cur =>
            have hc2 := hmc2 rfl
            rw [← ht] at hc2
            have hf0 : 0 < (askRow i).length := by rw [askRow_len]; decide
            have hft : foundA t = true := by
              have hne : ¬ 16 * i + n = 0 := fun h => by have := hmn.2 h; simp at this
              obtain ⟨u, hu⟩ : ∃ u, t = u + 1 := ⟨t - 1, by omega⟩
              rw [hu]; rfl
            repeat' (first | (refine so_is (.move _) ?_; (refine so_q (qt_mvC rfl) rfl ?_)) | (refine so_is (.binOp .lss 3 _ _ _) ?_; refine so_q (qt_lss rfl rfl) rfl ?_) | (refine so_is (.binOp .add 3 _ _ _) ?_; refine so_q (qt_addI rfl rfl (by (omega))) rfl ?_) | refine so_nil ?_ | refine sk_seq ?_ | refine sk_block ?_ | refine sk_blk ?_ | refine sk_exit rfl ?_ | refine sk_skip ?_ | refine sk_region (id := 8) ?_ | refine sk_region (id := 14) ?_ | refine sk_if rfl (fun hc => ?_) (fun hc => ?_))
            all_goals first | (exfalso; omega) | skip
            refine sk_region (id := 9) ?_
            all_goals ((refine so_q (qt_idx_ls rfl rfl (by kernel_rfl : tSl _ 22 1 = true) (by (omega)) (by (omega))) rfl ?_))
            all_goals (refine so_thaw (c := 4000) (sz' := 1) (n := (askRow n).length) (ds' := cI (askRow n)) rfl rfl (by kernel_rfl) (by simpa using gn) rfl rfl rfl ?_)
            all_goals (refine so_ghost (sim_any (b := 45) rfl) ?_; refine so_q (qt_asC rfl) rfl ?_)
            all_goals refine so_nil ?_
            repeat' (first | (refine so_is (.assign _) ?_; (refine so_q (qt_asC rfl) rfl ?_)) | (refine so_is (.load 29 _) ?_; (refine so_q (qt_load_boxs rfl rfl (by kernel_rfl : tAgg _ 29 4 = true) rfl) rfl ?_)) | (refine so_is (.move _) ?_; (refine so_q (qt_mvC rfl) rfl ?_)) | (refine so_is (.pick _ _ _) ?_; (refine so_q (qt_pkC rfl rfl) rfl ?_)) | (refine so_is (.load 3 _) ?_; (refine so_q (qt_load_pt rfl (by kernel_rfl) rfl) rfl ?_)) | (refine so_is (.binOp .gtr 3 _ _ _) ?_; refine so_q (qt_gtr rfl rfl) rfl ?_) | (refine so_is (.indexAddr 26 _ _) ?_; (refine so_q (qt_idxI rfl rfl (by kernel_rfl) (by (omega)) (by (omega))) rfl ?_)) | (refine so_is (.binOp .eql 26 _ _ _) ?_; (refine so_q (qt_eql_nilS rfl rfl (by kernel_rfl) (by (omega))) rfl ?_)) | (refine so_is (.call ⟨.value (.func 102), _, _⟩) ?_; (first | (apply so_call0 (fid := 102); (· (repeat (first | exact SeA.nil | apply SeA.cons (.c (.all _ _ _ _ rfl (by ((simp; done)))))))); (· exact r1); (· rfl)) | (apply so_call0 (fid := 102); (· (repeat (first | exact SeA.nil | apply SeA.cons (.c (.all _ _ _ _ rfl (by ((simp; done)))))))); (· exact r2); (· rfl)))) | (refine so_is (.call ⟨.value (.func 101), _, _⟩) ?_; ((apply so_call0 (fid := 101); (· (repeat (first | exact SeA.nil | (apply SeA.cons; (· (apply SeP.g; (repeat (first | exact SeL.nil | apply SeL.cons (.d _))))))))); (· exact wp); (· rfl)))) | (refine so_is (.call ⟨.value (.func 103), _, _⟩) ?_; ((apply so_call0 (fid := 103); (· (repeat (first | exact SeA.nil | (apply SeA.cons; (· (apply SeP.g; (repeat (first | exact SeL.nil | apply SeL.cons (.d _))))))))); (· exact sp); (· rfl)))) | refine so_nil ?_ | refine so_g_yes rfl rfl rfl rfl ?_ | refine sk_seq ?_ | refine sk_blk ?_ | refine sk_skip ?_ | refine sk_drawQ 10 (fun _ => false) (.step 0 true (.step 1 true (.step 2 true (.step 4 true (.step 8 true (.step 3 false (.step 5 false (.step 6 false (.step 7 false (.step 9 true (.step 10 true (.step 11 true .nil)))))))))))) [(0, 4095, 4095, false), (0, 4095, 4095, false), (0, 4095, 4095, true), (4, 4091, 4095, false), (0, 4095, 4095, true), (24, 4079, 4095, false), (43, 4052, 4095, false), (64, 4031, 4095, false), (0, 4095, 4095, true), (384, 3711, 4095, true), (512, 3583, 4095, false), (2047, 3071, 4095, true)] (by kernel_rfl) (by kernel_rfl) ?_ | refine sk_region (id := 11) ?_ | refine sk_region (id := 12) ?_ | refine sk_if rfl (fun hc => ?_) (fun hc => ?_))
            all_goals first | (exfalso; omega) | skip
            · obtain ⟨e1, e2, e3⟩ := sel_yes (s := s) (t := t) (.inr (by rw [← es]; exact hc))
              rw [t1, ← en] at e1
              rw [t2, ← en] at e2
              rw [← en] at e3
              refine sk_ghost (sim_forget 5000) ?_
              refine sk_ghost (sim_ren 4000 5000 rfl rfl rfl rfl) ?_
              repeat' (first | (refine so_is (.move _) ?_; (refine so_q (qt_mvC rfl) rfl ?_)) | (refine so_is (.binOp .add 3 _ _ _) ?_; refine so_q (qt_addI rfl rfl (by (omega))) rfl ?_) | refine so_nil ?_ | refine sk_region ?_)
              refine sk_back ?_; refine ⟨(n + 1, Md.cur), ?_, ?_, le_at rfl (by (repeat (first | exact trivial | refine ⟨(by (first | rfl | (refine int_eq rfl ?_; ((simp  [e1, e2, e3, es, sn]; done))))), ?_⟩))) (by (repeat (first | exact trivial | refine ⟨rfl, ?_⟩))) (by (repeat (first | exact trivial | refine ⟨(by ((refine row_eq rfl ?_; simp  [e1, e2, e3, es, sn]; done))), ?_⟩))) (by (repeat (first | exact trivial | refine ⟨.inr rfl, ?_⟩)))⟩
              · refine ⟨by simp only; omega, by simp, fun _ => e1⟩
              · simp only; omega
            · obtain ⟨e1, e2, e3⟩ := sel_no (s := s) (t := t) hft (by rw [← es]; exact hc)
              rw [← en] at e1 e2 e3
              refine sk_ghost (sim_forget 4000) ?_
              repeat' (first | (refine so_is (.move _) ?_; (refine so_q (qt_mvC rfl) rfl ?_)) | (refine so_is (.binOp .add 3 _ _ _) ?_; refine so_q (qt_addI rfl rfl (by (omega))) rfl ?_) | refine so_nil ?_ | refine sk_region ?_)
              refine sk_back ?_; refine ⟨(n + 1, Md.cur), ?_, ?_, le_at rfl (by (repeat (first | exact trivial | refine ⟨(by (first | rfl | (refine int_eq rfl ?_; ((simp  [e1, e2, e3, sn]; done))) | (refine ls_eq rfl ?_; ((simp  [e1, e2, e3, sn]; done))))), ?_⟩))) (by (repeat (first | exact trivial | refine ⟨rfl, ?_⟩))) (by (repeat (first | exact trivial | refine ⟨(by ((refine row_eq rfl ?_; simp  [e1, e2, e3, sn]; done))), ?_⟩))) (by (repeat (first | exact trivial | refine ⟨.inr rfl, ?_⟩)))⟩
              · refine ⟨by simp only; omega, by simp, fun _ => e1.trans hc2⟩
              · simp only; omega
        · have e : n = 16 := by omega
          subst e
          have e16 : 16 * (i + 1) = 16 * i + 16 := by omega
          cases m with
          | nil => exact absurd (hmn.1 rfl) (by omega)
          | old =>
            repeat' (first | (refine so_is (.binOp .lss 3 _ _ _) ?_; refine so_q (qt_lss rfl rfl) rfl ?_) | (refine so_is (.indexAddr 22 _ _) ?_; (refine so_q (qt_idx_ls rfl rfl (by kernel_rfl : tSl _ 22 1 = true) (by (omega)) (by (omega))) rfl ?_)) | refine so_nil ?_ | refine sk_seq ?_ | refine sk_block ?_ | refine sk_blk ?_ | refine sk_exit rfl ?_ | refine sk_skip ?_ | refine sk_region (id := 8) ?_ | refine sk_region (id := 9) ?_ | refine sk_if rfl (fun hc => ?_) (fun hc => ?_))
            all_goals first | (exfalso; omega) | skip
            refine sk_ghost (sim_forget 2000) ?_
            repeat' (first | (refine so_is (.move _) ?_; (refine so_q (qt_mvC rfl) rfl ?_)) | (refine so_is (.binOp .add 3 _ _ _) ?_; refine so_q (qt_addI rfl rfl (by (omega))) rfl ?_) | refine so_nil ?_ | refine sk_region ?_)
            refine sk_back ?_; refine ⟨(i + 1, Md.old), ?_, ?_, le_at rfl (by (repeat (first | exact trivial | refine ⟨(by (rfl)), ?_⟩))) (by (repeat (first | exact trivial | refine ⟨rfl, ?_⟩))) (by (repeat (first | exact trivial | refine ⟨(by ((refine row_eq rfl ?_; simp  [e16, si]; done))), ?_⟩))) (by (repeat (first | exact trivial | refine ⟨.inr rfl, ?_⟩ | refine ⟨.inl rfl, ?_⟩)))⟩
            · refine ⟨by simp only; omega, by simp, by simp⟩
            · simp only; omega
          | cur =>
            have hc2 := hmc2 rfl
            repeat' (first | (refine so_is (.binOp .lss 3 _ _ _) ?_; refine so_q (qt_lss rfl rfl) rfl ?_) | (refine so_is (.indexAddr 22 _ _) ?_; (refine so_q (qt_idx_ls rfl rfl (by kernel_rfl : tSl _ 22 1 = true) (by (omega)) (by (omega))) rfl ?_)) | refine so_nil ?_ | refine sk_seq ?_ | refine sk_block ?_ | refine sk_blk ?_ | refine sk_exit rfl ?_ | refine sk_skip ?_ | refine sk_region (id := 8) ?_ | refine sk_region (id := 9) ?_ | refine sk_if rfl (fun hc => ?_) (fun hc => ?_))
            all_goals first | (exfalso; omega) | skip
            refine sk_ghost (sim_ren 2000 3000 rfl rfl rfl rfl) ?_
            repeat' (first | (refine so_is (.move _) ?_; (refine so_q (qt_mvC rfl) rfl ?_)) | (refine so_is (.binOp .add 3 _ _ _) ?_; refine so_q (qt_addI rfl rfl (by (omega))) rfl ?_) | refine so_nil ?_ | refine sk_region ?_)
            refine sk_back ?_; refine ⟨(i + 1, Md.old), ?_, ?_, le_at rfl (by (repeat (first | exact trivial | refine ⟨(by (rfl)), ?_⟩))) (by (repeat (first | exact trivial | refine ⟨rfl, ?_⟩))) (by (repeat (first | exact trivial | refine ⟨(by ((refine row_eq rfl ?_; simp  [e16, si, hc2]; done))), ?_⟩))) (by (repeat (first | exact trivial | refine ⟨.inr rfl, ?_⟩ | refine ⟨.inl rfl, ?_⟩)))⟩
            · refine ⟨by simp only; omega, by simp, by simp⟩
            · simp only; omega
      | old =>
        have hi0 : i ≠ 0 := fun h => by have := hmi.2 h; simp at this
        repeat' (first | (refine so_is (.assign _) ?_; (refine so_q (qt_asC rfl) rfl ?_)) | (refine so_is (.move _) ?_; (refine so_q (qt_mvC rfl) rfl ?_)) | (refine so_is (.binOp .lss 3 _ _ _) ?_; refine so_q (qt_lss rfl rfl) rfl ?_) | refine so_nil ?_ | refine sk_seq ?_ | refine sk_block ?_ | refine sk_exit rfl ?_ | refine sk_skip ?_ | refine sk_region (id := 5) ?_ | refine sk_region (id := 15) ?_ | refine sk_if rfl (fun hc => ?_) (fun hc => ?_))
        all_goals first | (exfalso; omega) | skip
        refine sk_region (id := 6) ?_
        all_goals ((refine so_q (qt_idx_ls rfl rfl (by kernel_rfl : tSl _ 22 1 = true) (by (omega)) (by (omega))) rfl ?_))
        all_goals (refine so_thaw (c := 2000) (sz' := 1) (n := (askRow i).length) (ds' := cI (askRow i)) rfl rfl (by kernel_rfl) (by simpa using gi) rfl rfl rfl ?_)
        all_goals (refine so_ghost (sim_any (b := 39) rfl) ?_; refine so_q (qt_asC rfl) rfl ?_)
        all_goals refine so_nil ?_
        repeat' (first | (refine so_is (.move _) ?_; (refine so_q (qt_mvC rfl) rfl ?_)) | (refine so_is (.call ⟨.builtin .len, _, #[22]⟩) ?_; (refine so_q (qt_len_ls rfl (by kernel_rfl)) rfl ?_)) | (refine so_is (.call ⟨.value (.func 100), _, _⟩) ?_; (apply so_callO0 (fid := 100); (· (repeat (first | exact SeA.nil | apply SeA.cons (.c (.d _))))); (· exact ap); (· rfl); (· rfl))) | refine so_nil ?_ | refine sk_seq ?_ | refine sk_block ?_ | refine sk_region (id := 7) ?_)
        apply sk_packC [2, 3, 4, 10, 11, 12, 14, 39, 40, 41, 45, 46, 47] [3, 4, 39, 45, 54, 56, 58, 1054, 1056, 2000, 2054, 2056, 3000, 3057, 4000, 5000] rfl; (· (repeat (first | exact Pf.nil | apply Pf.cons (.c rfl (.d rfl)) | apply Pf.cons (.c rfl (.ls rfl)) | apply Pf.cons (.c rfl (.lp rfl))))); (· (repeat (first | exact Pb.nil | apply Pb.cons (.row rfl) | (apply Pb.cons; (· apply Nb.box rfl; (repeat (first | exact Ncs.nil rfl | (apply Ncs.cons rfl; (· (exact .d rfl))))))) | apply Pb.skip)))
        refine sk_loopL [2, 3, 4, 14, 39, 40, 41, 45, 46] [3, 4, 39, 54, 1054, 2054, 56, 1056, 2056, 3057, 58] (fun (g : Nat × Md) => [(47, iN g.1), (10, fst10 g.2 (firstA s (16 * i + g.1)).length (askRow i).length), (11, snd11 g.2 (secondA s (16 * i + g.1)).length), (12, iZ (mostA s (16 * i + g.1)))]) (fun g => (45, .row 1 (anyR P g.1)) :: (2000, .row 1 (cI (askRow i))) :: blkM g.2 (firstA s (16 * i + g.1)) (secondA s (16 * i + g.1))) (fun g => g.1 ≤ 16 ∧ (g.2 = .nil ↔ 16 * i + g.1 = 0) ∧ (g.2 = .cur → firstA s (16 * i + g.1) = askRow i)) (fun g => 16 - g.1) (((0 : Nat), Md.old)) ?_ (by (repeat (first | exact trivial | refine ⟨(by (rfl)), ?_⟩))) (by (repeat (first | exact trivial | refine ⟨(by (first | (refine row_eq rfl ?_; simp; done) | rfl)), ?_⟩))) ?_
        · refine ⟨by omega, by simp; omega, by simp⟩
        rintro ⟨n, m⟩ ⟨hn, hmn, hmc2⟩
        simp only at hn hmn hmc2
        have rl2 := anyR_len P (i := n) (by omega)
        by_cases hn2 : n < 16
        · have pn := ask_at hn2
          rw [← hP] at pn
          have gn := anyR_get P (i := n) (by omega)
          have sn := anyR_set P (i := n) (by omega)
          rw [pn] at gn
          obtain ⟨t, ht⟩ : ∃ t, t = 16 * i + n := ⟨_, rfl⟩
          have t1 : t / 16 = i := by omega
          have t2 : t % 16 = n := by omega
          obtain ⟨LL, hLL⟩ : ∃ LL, LL = askLL la lb t := ⟨_, rfl⟩
          have wp := wired_p na la nb lb sumF (ruleA (askRow i)) sumS sumF (ruleA (askRow n)) sumS ha hb (askRule i) (askRule n)
          have eLL : wiredL la lb sumF (ruleA (askRow i)) sumS sumF (ruleA (askRow n)) sumS = LL := by rw [hLL, askLL, t1, t2]
          rw [eLL] at wp
          have hbx := wire_box ha hb (askRule i) (askRule n)
          rw [eLL, decide_eq_true hle] at hbx
          have sp := eightSums_p _ LL hbx
          have sl : (sumsL LL).length = 8 := by simp [sumsL]
          have es : atZ (sumsL LL) (K : Int) = s t := by rw [sumsL_at LL (by omega), hs, hLL]; rfl
          have r1 := sumRuleBy_p (askRow i) (askRow_len i)
          have r2 := sumRuleBy_p (askRow n) (askRow_len n)
          rw [← ht]
          have en : 16 * i + (n + 1) = t + 1 := by omega
          cases m with
          | nil => exact absurd (hmn.1 rfl) (by omega)
          | old =>
            have hf0 : 0 < (firstA s t).length := by
              have hne : ¬ 16 * i + n = 0 := fun h => by have := hmn.2 h; simp at this
              obtain ⟨u, hu⟩ : ∃ u, t = u + 1 := ⟨t - 1, by omega⟩
              rw [hu, firstA, askRow_len]; decide
            have hft : foundA t = true := by
              have hne : ¬ 16 * i + n = 0 := fun h => by have := hmn.2 h; simp at this
              obtain ⟨u, hu⟩ : ∃ u, t = u + 1 := ⟨t - 1, by omega⟩
              rw [hu]; rfl
            repeat' (first | (refine so_is (.move _) ?_; (refine so_q (qt_mvC rfl) rfl ?_)) | (refine so_is (.binOp .lss 3 _ _ _) ?_; refine so_q (qt_lss rfl rfl) rfl ?_) | (refine so_is (.binOp .add 3 _ _ _) ?_; refine so_q (qt_addI rfl rfl (by (omega))) rfl ?_) | refine so_nil ?_ | refine sk_seq ?_ | refine sk_block ?_ | refine sk_blk ?_ | refine sk_exit rfl ?_ | refine sk_skip ?_ | refine sk_region (id := 8) ?_ | refine sk_region (id := 14) ?_ | refine sk_if rfl (fun hc => ?_) (fun hc => ?_))
            all_goals first | (exfalso; omega) | skip
            refine sk_region (id := 9) ?_
            all_goals ((refine so_q (qt_idx_ls rfl rfl (by kernel_rfl : tSl _ 22 1 = true) (by (omega)) (by (omega))) rfl ?_))
            all_goals (refine so_thaw (c := 4000) (sz' := 1) (n := (askRow n).length) (ds' := cI (askRow n)) rfl rfl (by kernel_rfl) (by simpa using gn) rfl rfl rfl ?_)
            all_goals (refine so_ghost (sim_any (b := 45) rfl) ?_; refine so_q (qt_asC rfl) rfl ?_)
            all_goals refine so_nil ?_
            repeat' (first | (refine so_is (.assign _) ?_; (refine so_q (qt_asC rfl) rfl ?_)) | (refine so_is (.load 29 _) ?_; (refine so_q (qt_load_boxs rfl rfl (by kernel_rfl : tAgg _ 29 4 = true) rfl) rfl ?_)) | (refine so_is (.move _) ?_; (refine so_q (qt_mvC rfl) rfl ?_)) | (refine so_is (.pick _ _ _) ?_; (refine so_q (qt_pkC rfl rfl) rfl ?_)) | (refine so_is (.load 3 _) ?_; (refine so_q (qt_load_pt rfl (by kernel_rfl) rfl) rfl ?_)) | (refine so_is (.binOp .gtr 3 _ _ _) ?_; refine so_q (qt_gtr rfl rfl) rfl ?_) | (refine so_is (.indexAddr 26 _ _) ?_; (refine so_q (qt_idxI rfl rfl (by kernel_rfl) (by (omega)) (by (omega))) rfl ?_)) | (refine so_is (.binOp .eql 26 _ _ _) ?_; (refine so_q (qt_eql_nilS rfl rfl (by kernel_rfl) (by (omega))) rfl ?_)) | (refine so_is (.call ⟨.value (.func 102), _, _⟩) ?_; (first | (apply so_call0 (fid := 102); (· (repeat (first | exact SeA.nil | apply SeA.cons (.c (.all _ _ _ _ rfl (by ((simp; done)))))))); (· exact r1); (· rfl)) | (apply so_call0 (fid := 102); (· (repeat (first | exact SeA.nil | apply SeA.cons (.c (.all _ _ _ _ rfl (by ((simp; done)))))))); (· exact r2); (· rfl)))) | (refine so_is (.call ⟨.value (.func 101), _, _⟩) ?_; ((apply so_call0 (fid := 101); (· (repeat (first | exact SeA.nil | (apply SeA.cons; (· (apply SeP.g; (repeat (first | exact SeL.nil | apply SeL.cons (.d _))))))))); (· exact wp); (· rfl)))) | (refine so_is (.call ⟨.value (.func 103), _, _⟩) ?_; ((apply so_call0 (fid := 103); (· (repeat (first | exact SeA.nil | (apply SeA.cons; (· (apply SeP.g; (repeat (first | exact SeL.nil | apply SeL.cons (.d _))))))))); (· exact sp); (· rfl)))) | refine so_nil ?_ | refine so_g_yes rfl rfl rfl rfl ?_ | refine sk_seq ?_ | refine sk_blk ?_ | refine sk_skip ?_ | refine sk_drawQ 10 (fun _ => false) (.step 0 true (.step 1 true (.step 2 true (.step 4 true (.step 8 true (.step 3 false (.step 5 false (.step 6 false (.step 7 false (.step 9 true (.step 10 true (.step 11 true .nil)))))))))))) [(0, 4095, 4095, false), (0, 4095, 4095, false), (0, 4095, 4095, true), (4, 4091, 4095, false), (0, 4095, 4095, true), (24, 4079, 4095, false), (43, 4052, 4095, false), (64, 4031, 4095, false), (0, 4095, 4095, true), (384, 3711, 4095, true), (512, 3583, 4095, false), (2047, 3071, 4095, true)] (by kernel_rfl) (by kernel_rfl) ?_ | refine sk_region (id := 11) ?_ | refine sk_region (id := 12) ?_ | refine sk_if rfl (fun hc => ?_) (fun hc => ?_))
            all_goals first | (exfalso; omega) | skip
            · obtain ⟨e1, e2, e3⟩ := sel_yes (s := s) (t := t) (.inr (by rw [← es]; exact hc))
              rw [t1, ← en] at e1
              rw [t2, ← en] at e2
              rw [← en] at e3
              refine sk_ghost (sim_forget 3000) ?_
              refine sk_ghost (sim_forget 5000) ?_
              refine sk_ghost (sim_ren 4000 5000 rfl rfl rfl rfl) ?_
              repeat' (first | (refine so_is (.move _) ?_; (refine so_q (qt_mvC rfl) rfl ?_)) | (refine so_is (.binOp .add 3 _ _ _) ?_; refine so_q (qt_addI rfl rfl (by (omega))) rfl ?_) | refine so_nil ?_ | refine sk_region ?_)
              refine sk_back ?_; refine ⟨(n + 1, Md.cur), ?_, ?_, le_at rfl (by (repeat (first | exact trivial | refine ⟨(by (first | rfl | (refine int_eq rfl ?_; ((simp  [e1, e2, e3, es, sn]; done))))), ?_⟩))) (by (repeat (first | exact trivial | refine ⟨rfl, ?_⟩))) (by (repeat (first | exact trivial | refine ⟨(by ((refine row_eq rfl ?_; simp  [e1, e2, e3, es, sn]; done))), ?_⟩))) (by (repeat (first | exact trivial | refine ⟨.inr rfl, ?_⟩)))⟩
              · refine ⟨by simp only; omega, by simp, fun _ => e1⟩
              · simp only; omega
            · obtain ⟨e1, e2, e3⟩ := sel_no (s := s) (t := t) hft (by rw [← es]; exact hc)
              rw [← en] at e1 e2 e3
              refine sk_ghost (sim_forget 4000) ?_
              repeat' (first | (refine so_is (.move _) ?_; (refine so_q (qt_mvC rfl) rfl ?_)) | (refine so_is (.binOp .add 3 _ _ _) ?_; refine so_q (qt_addI rfl rfl (by (omega))) rfl ?_) | refine so_nil ?_ | refine sk_region ?_)
              refine sk_back ?_; refine ⟨(n + 1, Md.old), ?_, ?_, le_at rfl (by (repeat (first | exact trivial | refine ⟨(by (first | rfl | (refine int_eq rfl ?_; ((simp  [e1, e2, e3, sn]; done))) | (refine ls_eq rfl ?_; ((simp  [e1, e2, e3, sn]; done))))), ?_⟩))) (by (repeat (first | exact trivial | refine ⟨rfl, ?_⟩))) (by (repeat (first | exact trivial | refine ⟨(by ((refine row_eq rfl ?_; simp  [e1, e2, e3, sn]; done))), ?_⟩))) (by (repeat (first | exact trivial | refine ⟨.inr rfl, ?_⟩)))⟩
              · refine ⟨by simp only; omega, by simp, by simp⟩
              · simp only; omega
          | cur =>
            have hc2 := hmc2 rfl
            rw [← ht] at hc2
            have hf0 : 0 < (askRow i).length := by rw [askRow_len]; decide
            have hft : foundA t = true := by
              have hne : ¬ 16 * i + n = 0 := fun h => by have := hmn.2 h; simp at this
              obtain ⟨u, hu⟩ : ∃ u, t = u + 1 := ⟨t - 1, by omega⟩
              rw [hu]; rfl
            repeat' (first | (refine so_is (.move _) ?_; (refine so_q (qt_mvC rfl) rfl ?_)) | (refine so_is (.binOp .lss 3 _ _ _) ?_; refine so_q (qt_lss rfl rfl) rfl ?_) | (refine so_is (.binOp .add 3 _ _ _) ?_; refine so_q (qt_addI rfl rfl (by (omega))) rfl ?_) | refine so_nil ?_ | refine sk_seq ?_ | refine sk_block ?_ | refine sk_blk ?_ | refine sk_exit rfl ?_ | refine sk_skip ?_ | refine sk_region (id := 8) ?_ | refine sk_region (id := 14) ?_ | refine sk_if rfl (fun hc => ?_) (fun hc => ?_))
            all_goals first | (exfalso; omega) | skip
            refine sk_region (id := 9) ?_
            all_goals ((refine so_q (qt_idx_ls rfl rfl (by kernel_rfl : tSl _ 22 1 = true) (by (omega)) (by (omega))) rfl ?_))
            all_goals (refine so_thaw (c := 4000) (sz' := 1) (n := (askRow n).length) (ds' := cI (askRow n)) rfl rfl (by kernel_rfl) (by simpa using gn) rfl rfl rfl ?_)
            all_goals (refine so_ghost (sim_any (b := 45) rfl) ?_; refine so_q (qt_asC rfl) rfl ?_)
            all_goals refine so_nil ?_
            repeat' (first | (refine so_is (.assign _) ?_; (refine so_q (qt_asC rfl) rfl ?_)) | (refine so_is (.load 29 _) ?_; (refine so_q (qt_load_boxs rfl rfl (by kernel_rfl : tAgg _ 29 4 = true) rfl) rfl ?_)) | (refine so_is (.move _) ?_; (refine so_q (qt_mvC rfl) rfl ?_)) | (refine so_is (.pick _ _ _) ?_; (refine so_q (qt_pkC rfl rfl) rfl ?_)) | (refine so_is (.load 3 _) ?_; (refine so_q (qt_load_pt rfl (by kernel_rfl) rfl) rfl ?_)) | (refine so_is (.binOp .gtr 3 _ _ _) ?_; refine so_q (qt_gtr rfl rfl) rfl ?_) | (refine so_is (.indexAddr 26 _ _) ?_; (refine so_q (qt_idxI rfl rfl (by kernel_rfl) (by (omega)) (by (omega))) rfl ?_)) | (refine so_is (.binOp .eql 26 _ _ _) ?_; (refine so_q (qt_eql_nilS rfl rfl (by kernel_rfl) (by (omega))) rfl ?_)) | (refine so_is (.call ⟨.value (.func 102), _, _⟩) ?_; (first | (apply so_call0 (fid := 102); (· (repeat (first | exact SeA.nil | apply SeA.cons (.c (.all _ _ _ _ rfl (by ((simp; done)))))))); (· exact r1); (· rfl)) | (apply so_call0 (fid := 102); (· (repeat (first | exact SeA.nil | apply SeA.cons (.c (.all _ _ _ _ rfl (by ((simp; done)))))))); (· exact r2); (· rfl)))) | (refine so_is (.call ⟨.value (.func 101), _, _⟩) ?_; ((apply so_call0 (fid := 101); (· (repeat (first | exact SeA.nil | (apply SeA.cons; (· (apply SeP.g; (repeat (first | exact SeL.nil | apply SeL.cons (.d _))))))))); (· exact wp); (· rfl)))) | (refine so_is (.call ⟨.value (.func 103), _, _⟩) ?_; ((apply so_call0 (fid := 103); (· (repeat (first | exact SeA.nil | (apply SeA.cons; (· (apply SeP.g; (repeat (first | exact SeL.nil | apply SeL.cons (.d _))))))))); (· exact sp); (· rfl)))) | refine so_nil ?_ | refine so_g_yes rfl rfl rfl rfl ?_ | refine sk_seq ?_ | refine sk_blk ?_ | refine sk_skip ?_ | refine sk_drawQ 10 (fun _ => false) (.step 0 true (.step 1 true (.step 2 true (.step 4 true (.step 8 true (.step 3 false (.step 5 false (.step 6 false (.step 7 false (.step 9 true (.step 10 true (.step 11 true .nil)))))))))))) [(0, 4095, 4095, false), (0, 4095, 4095, false), (0, 4095, 4095, true), (4, 4091, 4095, false), (0, 4095, 4095, true), (24, 4079, 4095, false), (43, 4052, 4095, false), (64, 4031, 4095, false), (0, 4095, 4095, true), (384, 3711, 4095, true), (512, 3583, 4095, false), (2047, 3071, 4095, true)] (by kernel_rfl) (by kernel_rfl) ?_ | refine sk_region (id := 11) ?_ | refine sk_region (id := 12) ?_ | refine sk_if rfl (fun hc => ?_) (fun hc => ?_))
            all_goals first | (exfalso; omega) | skip
            · obtain ⟨e1, e2, e3⟩ := sel_yes (s := s) (t := t) (.inr (by rw [← es]; exact hc))
              rw [t1, ← en] at e1
              rw [t2, ← en] at e2
              rw [← en] at e3
              refine sk_ghost (sim_forget 5000) ?_
              refine sk_ghost (sim_ren 4000 5000 rfl rfl rfl rfl) ?_
              repeat' (first | (refine so_is (.move _) ?_; (refine so_q (qt_mvC rfl) rfl ?_)) | (refine so_is (.binOp .add 3 _ _ _) ?_; refine so_q (qt_addI rfl rfl (by (omega))) rfl ?_) | refine so_nil ?_ | refine sk_region ?_)
              refine sk_back ?_; refine ⟨(n + 1, Md.cur), ?_, ?_, le_at rfl (by (repeat (first | exact trivial | refine ⟨(by (first | rfl | (refine int_eq rfl ?_; ((simp  [e1, e2, e3, es, sn]; done))))), ?_⟩))) (by (repeat (first | exact trivial | refine ⟨rfl, ?_⟩))) (by (repeat (first | exact trivial | refine ⟨(by ((refine row_eq rfl ?_; simp  [e1, e2, e3, es, sn]; done))), ?_⟩))) (by (repeat (first | exact trivial | refine ⟨.inr rfl, ?_⟩)))⟩
              · refine ⟨by simp only; omega, by simp, fun _ => e1⟩
              · simp only; omega
            · obtain ⟨e1, e2, e3⟩ := sel_no (s := s) (t := t) hft (by rw [← es]; exact hc)
              rw [← en] at e1 e2 e3
              refine sk_ghost (sim_forget 4000) ?_
              repeat' (first | (refine so_is (.move _) ?_; (refine so_q (qt_mvC rfl) rfl ?_)) | (refine so_is (.binOp .add 3 _ _ _) ?_; refine so_q (qt_addI rfl rfl (by (omega))) rfl ?_) | refine so_nil ?_ | refine sk_region ?_)
              refine sk_back ?_; refine ⟨(n + 1, Md.cur), ?_, ?_, le_at rfl (by (repeat (first | exact trivial | refine ⟨(by (first | rfl | (refine int_eq rfl ?_; ((simp  [e1, e2, e3, sn]; done))) | (refine ls_eq rfl ?_; ((simp  [e1, e2, e3, sn]; done))))), ?_⟩))) (by (repeat (first | exact trivial | refine ⟨rfl, ?_⟩))) (by (repeat (first | exact trivial | refine ⟨(by ((refine row_eq rfl ?_; simp  [e1, e2, e3, sn]; done))), ?_⟩))) (by (repeat (first | exact trivial | refine ⟨.inr rfl, ?_⟩)))⟩
              · refine ⟨by simp only; omega, by simp, fun _ => e1.trans hc2⟩
              · simp only; omega
        · have e : n = 16 := by omega
          subst e
          have e16 : 16 * (i + 1) = 16 * i + 16 := by omega
          cases m with
          | nil => exact absurd (hmn.1 rfl) (by omega)
          | old =>
            repeat' (first | (refine so_is (.binOp .lss 3 _ _ _) ?_; refine so_q (qt_lss rfl rfl) rfl ?_) | (refine so_is (.indexAddr 22 _ _) ?_; (refine so_q (qt_idx_ls rfl rfl (by kernel_rfl : tSl _ 22 1 = true) (by (omega)) (by (omega))) rfl ?_)) | refine so_nil ?_ | refine sk_seq ?_ | refine sk_block ?_ | refine sk_blk ?_ | refine sk_exit rfl ?_ | refine sk_skip ?_ | refine sk_region (id := 8) ?_ | refine sk_region (id := 9) ?_ | refine sk_if rfl (fun hc => ?_) (fun hc => ?_))
            all_goals first | (exfalso; omega) | skip
            refine sk_ghost (sim_forget 2000) ?_
            repeat' (first | (refine so_is (.move _) ?_; (refine so_q (qt_mvC rfl) rfl ?_)) | (refine so_is (.binOp .add 3 _ _ _) ?_; refine so_q (qt_addI rfl rfl (by (omega))) rfl ?_) | refine so_nil ?_ | refine sk_region ?_)
            refine sk_back ?_; refine ⟨(i + 1, Md.old), ?_, ?_, le_at rfl (by (repeat (first | exact trivial | refine ⟨(by (rfl)), ?_⟩))) (by (repeat (first | exact trivial | refine ⟨rfl, ?_⟩))) (by (repeat (first | exact trivial | refine ⟨(by ((refine row_eq rfl ?_; simp  [e16, si]; done))), ?_⟩))) (by (repeat (first | exact trivial | refine ⟨.inr rfl, ?_⟩ | refine ⟨.inl rfl, ?_⟩)))⟩
            · refine ⟨by simp only; omega, by simp, by simp⟩
            · simp only; omega
          | cur =>
            have hc2 := hmc2 rfl
            repeat' (first | (refine so_is (.binOp .lss 3 _ _ _) ?_; refine so_q (qt_lss rfl rfl) rfl ?_) | (refine so_is (.indexAddr 22 _ _) ?_; (refine so_q (qt_idx_ls rfl rfl (by kernel_rfl : tSl _ 22 1 = true) (by (omega)) (by (omega))) rfl ?_)) | refine so_nil ?_ | refine sk_seq ?_ | refine sk_block ?_ | refine sk_blk ?_ | refine sk_exit rfl ?_ | refine sk_skip ?_ | refine sk_region (id := 8) ?_ | refine sk_region (id := 9) ?_ | refine sk_if rfl (fun hc => ?_) (fun hc => ?_))
            all_goals first | (exfalso; omega) | skip
            refine sk_ghost (sim_ren 2000 3000 rfl rfl rfl rfl) ?_
            repeat' (first | (refine so_is (.move _) ?_; (refine so_q (qt_mvC rfl) rfl ?_)) | (refine so_is (.binOp .add 3 _ _ _) ?_; refine so_q (qt_addI rfl rfl (by (omega))) rfl ?_) | refine so_nil ?_ | refine sk_region ?_)
            refine sk_back ?_; refine ⟨(i + 1, Md.old), ?_, ?_, le_at rfl (by (repeat (first | exact trivial | refine ⟨(by (rfl)), ?_⟩))) (by (repeat (first | exact trivial | refine ⟨rfl, ?_⟩))) (by (repeat (first | exact trivial | refine ⟨(by ((refine row_eq rfl ?_; simp  [e16, si, hc2]; done))), ?_⟩))) (by (repeat (first | exact trivial | refine ⟨.inr rfl, ?_⟩ | refine ⟨.inl rfl, ?_⟩)))⟩
            · refine ⟨by simp only; omega, by simp, by simp⟩
            · simp only; omega
    · have e : i = 16 := by omega
      subst e
      cases m with
      | cur => exact absurd rfl hmc
      | nil => exact absurd (hmi.1 rfl) (by omega)
      | old =>
        have l1 := firstA_len s (16 * 16)
        have l2 := secondA_len s (16 * 16)
        repeat' (first | (refine so_is (.assign _) ?_; (refine so_q (qt_asC rfl) rfl ?_)) | (refine so_is (.move _) ?_; (refine so_q (qt_mvC rfl) rfl ?_)) | (refine so_is (.binOp .lss 3 _ _ _) ?_; refine so_q (qt_lss rfl rfl) rfl ?_) | (refine so_is (.indexAddr 22 _ _) ?_; (refine so_q (qt_idx_ls rfl rfl (by kernel_rfl : tSl _ 22 1 = true) (by (omega)) (by (omega))) rfl ?_)) | refine so_nil ?_ | refine sk_seq ?_ | refine sk_block ?_ | refine sk_exit rfl ?_ | refine sk_skip ?_ | refine sk_region ?_ | refine sk_if rfl (fun hc => ?_) (fun hc => ?_))
        all_goals first | (exfalso; omega) | skip
        (apply sk_ret; apply ret_eq; (· apply RetOK.t; (· (apply GvA.cons; (· exact .tmp _); (· (exact GvP.c (.row _ _ _ _ rfl (by ((simp; done))))))); (apply GvA.cons; (· exact .tmp _); (· (exact GvP.c (.row _ _ _ _ rfl (by ((simp; done))))))); (apply GvA.cons; (· exact .tmp _); (· exact GvP.c (.lit _))); (apply GvA.cons; (· exact .tmp _); (· exact GvP.c (.lit _))); exact GvA.nil); (· rfl); (· (decide))))
        simp [whenN, whenA]

end Go.Proofs.Ytdihapcicpkdkaa
