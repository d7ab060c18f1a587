/- What the functions that FnSumWirings reaches return: part of its proof. No condition beyond those of its theorems. -/
import Derived.Test.YtefbiejoikpkmaaKfnsFnSumWiringsA
import Derived.Test.YtefbiejoikpkmaaKfnsFnSumWiringsC
import Derived.Test.YtefbiejoikpkmaaKplainB
import Derived.Test.YtefbiejoikpkmaaKplainA
set_option linter.unusedVariables false
set_option linter.unusedSimpArgs false
namespace Go.Proofs.Ytefbiejoikpkmaa
open Go.RowKit
set_option linter.unusedSectionVars false
variable [Glb]
set_option maxRecDepth 10000
set_option maxHeartbeats 4000000
theorem IsBox_p (x y n : Int) (ll : List (List Int)) : PC Try.prog 176 [.g [dI x, dI y, dI n, eII ll]] (.p (.c (dB (boxB x y n ll)))) := by
  refine pc_intro Try.func176 rfl rfl rfl (by kernel_rfl) rfl rfl ?_; rintro ⟨hl, -⟩
  have hl := (hl _ (List.mem_cons_of_mem _ (List.mem_cons_of_mem _ (List.mem_cons_of_mem _ (List.mem_cons_self ..))))).len
  repeat' (first | (refine so_is (.box 78 _) ?_; refine so_box rfl rfl ?_) | (refine so_is (.assign _) ?_; (refine so_q (qt_asC rfl) rfl ?_)) | (refine so_is (.fieldAddr 78 _ 0) ?_; (refine so_q (qt_fld_lp (off := 0) rfl (by kernel_rfl)) rfl ?_)) | (refine so_is (.load 3 _) ?_; (refine so_q (qt_load_box rfl rfl (by kernel_rfl) rfl) rfl ?_)) | (refine so_is (.fieldAddr 78 _ 1) ?_; (refine so_q (qt_fld_lp (off := 1) rfl (by kernel_rfl)) rfl ?_)) | (refine so_is (.unOp .not 4 _) ?_; refine so_q (qt_not rfl) rfl ?_) | (refine so_is (.move _) ?_; (refine so_q (qt_mvC rfl) rfl ?_)) | (refine so_is (.fieldAddr 78 _ 2) ?_; (refine so_q (qt_fld_lp (off := 2) rfl (by kernel_rfl)) rfl ?_)) | (refine so_is (.pick _ _ _) ?_; (refine so_q (qt_pkC rfl rfl) rfl ?_)) | (refine so_is (.fieldAddr 78 _ 3) ?_; (refine so_q (qt_fld_lp (off := 3) rfl (by kernel_rfl)) rfl ?_)) | (refine so_is (.load 25 _) ?_; (refine so_q (qt_load_box rfl rfl (by kernel_rfl) rfl) rfl ?_)) | (refine so_is (.call ⟨.builtin .len, _, #[25]⟩) ?_; (refine so_q (qt_len_d rfl (by kernel_rfl)) rfl ?_)) | (refine so_is (.binOp .mul 3 _ _ _) ?_; (refine so_q (qt_mul rfl rfl) rfl ?_)) | (refine so_is (.binOp .neq 3 _ _ _) ?_; refine so_q (qt_neq rfl rfl) rfl ?_) | (refine so_is (.call ⟨.value (.func 109), _, _⟩) ?_; (apply so_call0 (fid := 109); (· (repeat (first | exact SeA.nil | apply SeA.cons (.c (.d _))))); (· exact areQuestions_p _ _); (· rfl))) | (refine so_is (.call ⟨.value (.func 130), _, _⟩) ?_; (apply so_call0 (fid := 130); (· (repeat (first | exact SeA.nil | apply SeA.cons (.c (.d _))))); (· exact within_p _ _ _); (· rfl))) | refine so_nil ?_ | refine so_g_no rfl rfl rfl rfl ?_ | refine so_g_yes rfl rfl rfl rfl ?_ | refine so_g_b rfl rfl (fun hg => ?_) (fun hg => ?_) | refine sk_seq ?_ | refine sk_block ?_ | refine sk_skip ?_ | refine sk_region ?_ | refine sk_true rfl ?_ | refine sk_if rfl (fun hc => ?_) (fun hc => ?_))
  · (apply sk_ret; apply ret_eq; (· apply RetOK.p; (· (apply GvA.cons; (· exact .tmp _); (· exact GvP.c (.lit _))); exact GvA.nil); (· (decide))))
    have h9 : sizeB x y = false := by simpa using hg
    simp [boxB, h9]
  · (apply sk_ret; apply ret_eq; (· apply RetOK.p; (· (apply GvA.cons; (· exact .tmp _); (· exact GvP.c (.lit _))); exact GvA.nil); (· (decide))))
    have h9 : inB n 1 1000 = false := by simpa using hg
    simp [boxB, h9]
  · (apply sk_ret; apply ret_eq; (· apply RetOK.p; (· (apply GvA.cons; (· exact .tmp _); (· exact GvP.c (.lit _))); exact GvA.nil); (· (decide))))
    have hs : sizeB x y = true := by simp_all
    rw [wrap_mul3 hs] at hc
    have h3 : ¬ (ll.length : Int) = x * y := by omega
    simp [boxB, h3]
  have hs : sizeB x y = true := by simp_all
  have hn : inB n 1 1000 = true := by simp_all
  have hlen : (ll.length : Int) = x * y := by rw [← wrap_mul3 hs]; omega
  apply sk_packC [1, 29, 30, 31] [1] rfl; (· (repeat (first | exact Pf.nil | apply Pf.cons (.c rfl (.d rfl)) | apply Pf.cons (.c rfl (.lp rfl))))); (· (repeat (first | exact Pb.nil | (apply Pb.cons; (· apply Nb.box rfl; (repeat (first | exact Ncs.nil rfl | (apply Ncs.cons rfl; (· (exact .d rfl))))))))))
  refine sk_loopL [1, 29, 30] [1] (fun k => [(31, iN k)]) (fun _ => []) (fun k => k ≤ ll.length ∧ (ll.take k).all (row4B n) = true) (fun k => ll.length - k) (0) ?_ (by (repeat (first | exact trivial | refine ⟨(by (rfl)), ?_⟩))) (by (repeat (exact trivial))) ?_
  · simp
  rintro k ⟨hk, ha⟩
  repeat' (first | (refine so_is (.assign _) ?_; (refine so_q (qt_asC rfl) rfl ?_)) | (refine so_is (.load 3 _) ?_; (refine so_q (qt_load_box rfl rfl (by kernel_rfl) rfl) rfl ?_)) | (refine so_is (.unOp .not 4 _) ?_; refine so_q (qt_not rfl) rfl ?_) | (refine so_is (.move _) ?_; (refine so_q (qt_mvC rfl) rfl ?_)) | (refine so_is (.fieldAddr 78 _ 2) ?_; (refine so_q (qt_fld_lp (off := 2) rfl (by kernel_rfl)) rfl ?_)) | (refine so_is (.pick _ _ _) ?_; (refine so_q (qt_pkC rfl rfl) rfl ?_)) | (refine so_is (.binOp .neq 3 _ _ _) ?_; refine so_q (qt_neq rfl rfl) rfl ?_) | (refine so_is (.binOp .lss 3 _ _ _) ?_; refine so_q (qt_lss rfl rfl) rfl ?_) | (refine so_is (.indexAddr 25 _ _) ?_; (refine so_q (qt_idxII rfl rfl (by kernel_rfl) (by (omega)) (by (omega))) rfl ?_)) | (refine so_is (.load 24 _) ?_; (refine so_q (qt_load_pt rfl (by kernel_rfl) rfl) rfl ?_)) | (refine so_is (.call ⟨.builtin .len, _, #[24]⟩) ?_; (refine so_q (qt_len_d rfl (by kernel_rfl)) rfl ?_)) | (refine so_is (.binOp .add 3 _ _ _) ?_; refine so_q (qt_addI rfl rfl (by (omega))) rfl ?_) | (refine so_is (.call ⟨.value (.func 119), _, _⟩) ?_; (apply so_call0 (fid := 119); (· (repeat (first | exact SeA.nil | apply SeA.cons (.c (.d _))))); (· exact allWithin_p _ _ _); (· rfl))) | (refine so_is (.call ⟨.value (.func 120), _, _⟩) ?_; (apply so_call0 (fid := 120); (· (repeat (first | exact SeA.nil | apply SeA.cons (.c (.d _))))); (· exact total_p _); (· rfl))) | refine so_nil ?_ | refine so_g_no rfl rfl rfl rfl ?_ | refine so_g_yes rfl rfl rfl rfl ?_ | refine so_g_if rfl rfl (fun hg => ?_) (fun hg => ?_) | refine so_g_b rfl rfl (fun hg => ?_) (fun hg => ?_) | refine sk_seq ?_ | refine sk_block ?_ | refine sk_blk ?_ | refine sk_exit rfl ?_ | refine sk_skip ?_ | refine sk_region ?_ | refine sk_drawQ 6 (fun _ => false) (.step 0 true (.step 1 true (.step 2 true (.step 3 true (.step 4 true (.step 5 true (.step 6 true (.step 7 false (.step 8 true (.step 9 true (.step 10 true (.step 11 true (.step 13 true (.step 14 true (.step 12 false (.step 15 true (.step 16 true .nil))))))))))))))))) [(0, 131071, 131071, true), (1, 131070, 131071, true), (2, 131069, 131071, true), (4, 131067, 131071, true), (8, 131063, 131071, true), (8, 131063, 131071, true), (40, 131031, 131071, false), (88, 130983, 131071, false), (136, 130935, 131071, true), (264, 130807, 131071, true), (640, 130559, 131071, true), (1024, 130047, 131071, true), (3072, 127999, 131071, false), (1024, 130047, 131071, true), (9216, 121855, 131071, false), (21504, 109567, 131071, true), (33792, 97279, 131071, true)] (by kernel_rfl) (by kernel_rfl) ?_ | refine sk_true rfl ?_ | refine sk_if rfl (fun hc => ?_) (fun hc => ?_))
  · have hk2 : k < ll.length := by omega
    rw [atZ_nat hk2] at hg
    (apply sk_ret; apply ret_eq; (· apply RetOK.p; (· (apply GvA.cons; (· exact .tmp _); (· exact GvP.c (.lit _))); exact GvA.nil); (· (decide))))
    have h9 : row4B n ll[k] = false := by simp [row4B]; omega
    rw [boxB, all_f hk2 h9]; simp
  · rename_i hk'
    have hk2 : k < ll.length := by omega
    rw [atZ_nat hk2] at hg
    (apply sk_ret; apply ret_eq; (· apply RetOK.p; (· (apply GvA.cons; (· exact .tmp _); (· exact GvP.c (.lit _))); exact GvA.nil); (· (decide))))
    have h9 : row4B n ll[k] = false := by simp at hg; simp [row4B, hg]
    rw [boxB, all_f hk2 h9]; simp
  · rename_i hk'
    have hk2 : k < ll.length := by omega
    rw [atZ_nat hk2] at hg hc
    (apply sk_ret; apply ret_eq; (· apply RetOK.p; (· (apply GvA.cons; (· exact .tmp _); (· exact GvP.c (.lit _))); exact GvA.nil); (· (decide))))
    have h9 : row4B n ll[k] = false := by simp [row4B, hc]
    rw [boxB, all_f hk2 h9]; simp
  · rename_i hk' hg'
    have hk2 : k < ll.length := by omega
    rw [atZ_nat hk2] at hg hc hg'
    have h9 : row4B n ll[k] = true := by simp at hg hc hg'; simp [row4B, hg, hc]; omega
    refine sk_back ?_; refine ⟨k + 1, ?_, ?_, le_at rfl (by (repeat (first | exact trivial | refine ⟨(by (rfl)), ?_⟩))) (by (repeat (first | exact trivial | refine ⟨rfl, ?_⟩))) (by (repeat (exact trivial))) (by (repeat (first | exact trivial | refine ⟨.inr rfl, ?_⟩)))⟩
    · exact ⟨by omega, by rw [take_succ_all _ _ _ hk2, ha, h9]; rfl⟩
    · omega
  · have : k = ll.length := by omega
    subst this
    rw [List.take_length] at ha
    (apply sk_ret; apply ret_eq; (· apply RetOK.p; (· (apply GvA.cons; (· exact .tmp _); (· exact GvP.c (.lit _))); exact GvA.nil); (· (decide))))
    simp [boxB, hs, hn, hlen, ha]

end Go.Proofs.Ytefbiejoikpkmaa

namespace Go.Proofs.Ytefbiejoikpkmaa
open Go.RowKit
set_option linter.unusedSectionVars false
variable [Glb]
set_option maxRecDepth 10000
set_option maxHeartbeats 4000000
theorem isBits_p (l : List Int) (n : Int) : PC Try.prog 140 [.c (eI l), .c (dI n)] (.p (.c (dB (bitsB l n)))) := by
  refine pc_intro Try.func140 rfl rfl rfl (by kernel_rfl) rfl rfl ?_; intro _
  repeat' (first | (refine so_is (.assign _) ?_; (refine so_q (qt_asC rfl) rfl ?_)) | (refine so_is (.move _) ?_; (refine so_q (qt_mvC rfl) rfl ?_)) | (refine so_is (.call ⟨.builtin .len, _, #[24]⟩) ?_; (refine so_q (qt_len_d rfl (by kernel_rfl)) rfl ?_)) | (refine so_is (.binOp .eql 3 _ _ _) ?_; refine so_q (qt_eql rfl rfl) rfl ?_) | (refine so_is (.pick _ _ _) ?_; (refine so_q (qt_pkC rfl rfl) rfl ?_)) | (refine so_is (.call ⟨.value (.func 119), _, _⟩) ?_; (apply so_call0 (fid := 119); (· (repeat (first | exact SeA.nil | apply SeA.cons (.c (.d _))))); (· exact allWithin_p _ _ _); (· rfl))) | refine so_nil ?_ | refine so_g_no rfl rfl rfl rfl ?_ | refine so_g_yes rfl rfl rfl rfl ?_ | refine so_g_if rfl rfl (fun hg => ?_) (fun hg => ?_) | refine sk_seq ?_ | refine sk_region ?_)
  all_goals (apply sk_ret; apply ret_eq; (· apply RetOK.p; (· (apply GvA.cons; (· exact .tmp _); (· exact GvP.c (.lit _))); exact GvA.nil); (· (decide))))
  all_goals simp [bitsB, *]

end Go.Proofs.Ytefbiejoikpkmaa

namespace Go.Proofs.Ytefbiejoikpkmaa
open Go.RowKit
set_option linter.unusedSectionVars false
variable [Glb]
set_option maxRecDepth 10000
set_option maxHeartbeats 4000000
theorem IsRule_p (f : List Int) (a s : List (List Int)) : PC Try.prog 206 [.g [eI f, eII a, eII s]] (.p (.c (dB (ruleB f a s)))) := by
  refine pc_intro Try.func206 rfl rfl rfl (by kernel_rfl) rfl rfl ?_; intro _
  repeat' (first | (refine so_is (.box 96 _) ?_; refine so_box rfl rfl ?_) | (refine so_is (.assign _) ?_; (refine so_q (qt_asC rfl) rfl ?_)) | (refine so_is (.fieldAddr 96 _ 0) ?_; (refine so_q (qt_fld_lp (off := 0) rfl (by kernel_rfl)) rfl ?_)) | (refine so_is (.load 24 _) ?_; (refine so_q (qt_load_box rfl rfl (by kernel_rfl) rfl) rfl ?_)) | (refine so_is (.unOp .not 4 _) ?_; refine so_q (qt_not rfl) rfl ?_) | (refine so_is (.move _) ?_; (refine so_q (qt_mvC rfl) rfl ?_)) | (refine so_is (.fieldAddr 96 _ 1) ?_; (refine so_q (qt_fld_lp (off := 1) rfl (by kernel_rfl)) rfl ?_)) | (refine so_is (.load 25 _) ?_; (refine so_q (qt_load_box rfl rfl (by kernel_rfl) rfl) rfl ?_)) | (refine so_is (.call ⟨.builtin .len, _, #[25]⟩) ?_; (refine so_q (qt_len_d rfl (by kernel_rfl)) rfl ?_)) | (refine so_is (.binOp .neq 3 _ _ _) ?_; refine so_q (qt_neq rfl rfl) rfl ?_) | (refine so_is (.pick _ _ _) ?_; (refine so_q (qt_pkC rfl rfl) rfl ?_)) | (refine so_is (.fieldAddr 96 _ 2) ?_; (refine so_q (qt_fld_lp (off := 2) rfl (by kernel_rfl)) rfl ?_)) | (refine so_is (.call ⟨.value (.func 140), _, _⟩) ?_; (apply so_call0 (fid := 140); (· (repeat (first | exact SeA.nil | apply SeA.cons (.c (.d _))))); (· exact isBits_p _ _); (· rfl))) | refine so_nil ?_ | refine so_g_no rfl rfl rfl rfl ?_ | refine so_g_yes rfl rfl rfl rfl ?_ | refine so_g_if rfl rfl (fun hg => ?_) (fun hg => ?_) | refine so_g_b rfl rfl (fun hg => ?_) (fun hg => ?_) | refine sk_seq ?_ | refine sk_block ?_ | refine sk_skip ?_ | refine sk_region ?_ | refine sk_true rfl ?_ | refine sk_if rfl (fun hc => ?_) (fun hc => ?_))
  · (apply sk_ret; apply ret_eq; (· apply RetOK.p; (· (apply GvA.cons; (· exact .tmp _); (· exact GvP.c (.lit _))); exact GvA.nil); (· (decide))))
    have : bitsB f 2 = false := by simp_all
    simp [ruleB, this]
  · (apply sk_ret; apply ret_eq; (· apply RetOK.p; (· (apply GvA.cons; (· exact .tmp _); (· exact GvP.c (.lit _))); exact GvA.nil); (· (decide))))
    have : ¬ (a.length : Int) = 2 := by omega
    simp [ruleB, tabB, this]
  · (apply sk_ret; apply ret_eq; (· apply RetOK.p; (· (apply GvA.cons; (· exact .tmp _); (· exact GvP.c (.lit _))); exact GvA.nil); (· (decide))))
    have : ¬ (s.length : Int) = 2 := by omega
    simp [ruleB, tabB, this]
  have h1 : bitsB f 2 = true := by simp_all
  have h2 : (a.length : Int) = 2 := by omega
  have h3 : (s.length : Int) = 2 := by omega
  apply sk_packC [1, 20] [1] rfl; (· (repeat (first | exact Pf.nil | apply Pf.cons (.c rfl (.d rfl)) | apply Pf.cons (.c rfl (.lp rfl))))); (· (repeat (first | exact Pb.nil | (apply Pb.cons; (· apply Nb.box rfl; (repeat (first | exact Ncs.nil rfl | (apply Ncs.cons rfl; (· (exact .d rfl))))))))))
  refine sk_loopL [1] [1] (fun k => [(20, iN k)]) (fun _ => []) (fun k => k ≤ 2 ∧ (a.take k).all (fun l => bitsB l 2) = true ∧ (s.take k).all (fun l => bitsB l 4) = true) (fun k => 2 - k) (0) ?_ (by (repeat (first | exact trivial | refine ⟨(by (rfl)), ?_⟩))) (by (repeat (exact trivial))) ?_
  · simp
  rintro k ⟨hk, hA, hS⟩
  repeat' (first | (refine so_is (.assign _) ?_; (refine so_q (qt_asC rfl) rfl ?_)) | (refine so_is (.load 24 _) ?_; (refine so_q (qt_load_pt rfl (by kernel_rfl) rfl) rfl ?_)) | (refine so_is (.unOp .not 4 _) ?_; refine so_q (qt_not rfl) rfl ?_) | (refine so_is (.move _) ?_; (refine so_q (qt_mvC rfl) rfl ?_)) | (refine so_is (.fieldAddr 96 _ 1) ?_; (refine so_q (qt_fld_lp (off := 1) rfl (by kernel_rfl)) rfl ?_)) | (refine so_is (.load 25 _) ?_; (refine so_q (qt_load_box rfl rfl (by kernel_rfl) rfl) rfl ?_)) | (refine so_is (.pick _ _ _) ?_; (refine so_q (qt_pkC rfl rfl) rfl ?_)) | (refine so_is (.fieldAddr 96 _ 2) ?_; (refine so_q (qt_fld_lp (off := 2) rfl (by kernel_rfl)) rfl ?_)) | (refine so_is (.binOp .lss 3 _ _ _) ?_; refine so_q (qt_lss rfl rfl) rfl ?_) | (refine so_is (.indexAddr 25 _ _) ?_; (refine so_q (qt_idxII rfl rfl (by kernel_rfl) (by (omega)) (by (omega))) rfl ?_)) | (refine so_is (.binOp .add 3 _ _ _) ?_; refine so_q (qt_addI rfl rfl (by (omega))) rfl ?_) | (refine so_is (.call ⟨.value (.func 140), _, _⟩) ?_; (apply so_call0 (fid := 140); (· (repeat (first | exact SeA.nil | apply SeA.cons (.c (.d _))))); (· exact isBits_p _ _); (· rfl))) | refine so_nil ?_ | refine so_g_no rfl rfl rfl rfl ?_ | refine so_g_yes rfl rfl rfl rfl ?_ | refine so_g_b rfl rfl (fun hg => ?_) (fun hg => ?_) | refine sk_seq ?_ | refine sk_block ?_ | refine sk_blk ?_ | refine sk_exit rfl ?_ | refine sk_skip ?_ | refine sk_region ?_ | refine sk_true rfl ?_ | refine sk_if rfl (fun hc => ?_) (fun hc => ?_) | refine sk_not rfl (fun hc => ?_) (fun hc => ?_))
  all_goals first | (exfalso; omega) | skip
  · have hk2 : k < a.length := by omega
    rw [atZ_nat hk2] at hg
    have h9 : bitsB a[k] 2 = false := by simpa using hg
    (apply sk_ret; apply ret_eq; (· apply RetOK.p; (· (apply GvA.cons; (· exact .tmp _); (· exact GvP.c (.lit _))); exact GvA.nil); (· (decide))))
    simp only [ruleB, tabB, all_f (p := fun l => bitsB l 2) hk2 h9]; simp
  · have hk2 : k < s.length := by omega
    rw [atZ_nat hk2] at hc
    (apply sk_ret; apply ret_eq; (· apply RetOK.p; (· (apply GvA.cons; (· exact .tmp _); (· exact GvP.c (.lit _))); exact GvA.nil); (· (decide))))
    simp only [ruleB, tabB, all_f (p := fun l => bitsB l 4) hk2 hc]; simp
  · have hk2 : k < a.length := by omega
    have hk3 : k < s.length := by omega
    rw [atZ_nat hk2] at hg
    rw [atZ_nat hk3] at hc
    have h9 : bitsB a[k] 2 = true := by simpa using hg
    refine sk_back ?_; refine ⟨k + 1, ?_, ?_, le_at rfl (by (repeat (first | exact trivial | refine ⟨(by (rfl)), ?_⟩))) (by (repeat (first | exact trivial | refine ⟨rfl, ?_⟩))) (by (repeat (exact trivial))) (by (repeat (first | exact trivial | refine ⟨.inr rfl, ?_⟩)))⟩
    · exact ⟨by omega, by rw [take_succ_all _ _ _ hk2, hA, h9]; rfl, by rw [take_succ_all _ _ _ hk3, hS, hc]; rfl⟩
    · omega
  · have h8 : k = 2 := by omega
    subst h8
    rw [List.take_of_length_le (by omega)] at hA hS
    (apply sk_ret; apply ret_eq; (· apply RetOK.p; (· (apply GvA.cons; (· exact .tmp _); (· exact GvP.c (.lit _))); exact GvA.nil); (· (decide))))
    simp [ruleB, tabB, h1, h2, h3, hA, hS]

end Go.Proofs.Ytefbiejoikpkmaa

namespace Go.Proofs.Ytefbiejoikpkmaa
open Go.RowKit
set_option linter.unusedSectionVars false
variable [Glb]
set_option maxRecDepth 10000
set_option maxHeartbeats 4000000
theorem hasTwo_p (x y : Int) : PC Try.prog 209 [.c (dI x), .c (dI y)] (.p (.c (dB (decide (x = 2) && decide (y = 2))))) := by
  refine pc_intro Try.func209 rfl rfl rfl (by kernel_rfl) rfl rfl ?_; intro _
  repeat' (first | (refine so_is (.assign _) ?_; (refine so_q (qt_asC rfl) rfl ?_)) | (refine so_is (.move _) ?_; (refine so_q (qt_mvC rfl) rfl ?_)) | (refine so_is (.binOp .eql 3 _ _ _) ?_; refine so_q (qt_eql rfl rfl) rfl ?_) | (refine so_is (.pick _ _ _) ?_; (refine so_q (qt_pkC rfl rfl) rfl ?_)) | refine so_nil ?_ | refine so_g_no rfl rfl rfl rfl ?_ | refine so_g_yes rfl rfl rfl rfl ?_ | refine so_g_if rfl rfl (fun hg => ?_) (fun hg => ?_) | refine sk_seq ?_ | refine sk_region ?_)
  all_goals (apply sk_ret; apply ret_eq; (· apply RetOK.p; (· (apply GvA.cons; (· exact .tmp _); (· exact GvP.c (.lit _))); exact GvA.nil); (· (decide))))
  all_goals ((simp_all [hasTwo_p]; done))
theorem isPair_p (x y n : Int) (ll : List (List Int)) : PC Try.prog 158 [.g [dI x, dI y, dI n, eII ll]] (.p (.c (dB (pairB x y n ll)))) := by
  refine pc_intro Try.func158 rfl rfl rfl (by kernel_rfl) rfl rfl ?_; intro _
  repeat' (first | (refine so_is (.box 78 _) ?_; refine so_box rfl rfl ?_) | (refine so_is (.assign _) ?_; (refine so_q (qt_asC rfl) rfl ?_)) | (refine so_is (.load 78 _) ?_; (refine so_q (qt_load_boxs rfl rfl (by kernel_rfl : tAgg _ 78 4 = true) rfl) rfl ?_)) | (refine so_is (.move _) ?_; (refine so_q (qt_mvC rfl) rfl ?_)) | (refine so_is (.fieldAddr 78 _ 0) ?_; (refine so_q (qt_fld_lp (off := 0) rfl (by kernel_rfl)) rfl ?_)) | (refine so_is (.load 3 _) ?_; (refine so_q (qt_load_box rfl rfl (by kernel_rfl) rfl) rfl ?_)) | (refine so_is (.fieldAddr 78 _ 1) ?_; (refine so_q (qt_fld_lp (off := 1) rfl (by kernel_rfl)) rfl ?_)) | (refine so_is (.pick _ _ _) ?_; (refine so_q (qt_pkC rfl rfl) rfl ?_)) | (refine so_is (.call ⟨.value (.func 176), _, _⟩) ?_; (apply so_call0 (fid := 176); (· (repeat (first | exact SeA.nil | (apply SeA.cons; (· (apply SeP.g; (repeat (first | exact SeL.nil | apply SeL.cons (.d _))))))))); (· exact IsBox_p _ _ _ _); (· rfl))) | (refine so_is (.call ⟨.value (.func 209), _, _⟩) ?_; (apply so_call0 (fid := 209); (· (repeat (first | exact SeA.nil | apply SeA.cons (.c (.d _))))); (· exact hasTwo_p _ _); (· rfl))) | refine so_nil ?_ | refine so_g_no rfl rfl rfl rfl ?_ | refine so_g_yes rfl rfl rfl rfl ?_ | refine so_g_b rfl rfl (fun hg => ?_) (fun hg => ?_) | refine sk_seq ?_ | refine sk_region ?_)
  all_goals (apply sk_ret; apply ret_eq; (· apply RetOK.p; (· (apply GvA.cons; (· exact .tmp _); (· exact GvP.c (.lit _))); exact GvA.nil); (· (decide))))
  all_goals ((simp_all [pairB]; done))

end Go.Proofs.Ytefbiejoikpkmaa

namespace Go.Proofs.Ytefbiejoikpkmaa
open Go.RowKit
set_option linter.unusedSectionVars false
variable [Glb]
set_option maxRecDepth 10000
set_option maxHeartbeats 4000000
theorem at_p (X Y n : Int) (ll : List (List Int)) (h : boxB X Y n ll = true) (x y a c : Int) (x0 : 0 ≤ x) (x1 : x < X) (y0 : 0 ≤ y) (y1 : y < Y) (a0 : 0 ≤ a) (a1 : a ≤ 1) (c0 : 0 ≤ c) (c1 : c ≤ 1) :
    PC Try.prog 212 [.g [dI X, dI Y, dI n, eII ll], .c (dI x), .c (dI y), .c (dI a), .c (dI c)] (.p (.c (dI (atB ll Y x y (2 * a + c))))) := by
  have hb := boxB_spec h
  have hi := idx_lt x0 x1 y0 y1
  have hr := (boxB_at h hi.1 hi.2.1).1
  have hm := mul_bd3 (x := X) (y := Y) (sizeB_iff.2 ⟨⟨hb.x1, hb.x3⟩, hb.y1, hb.y3⟩)
  have hl := hb.len
  refine pc_intro Try.func212 rfl rfl rfl (by kernel_rfl) rfl rfl ?_; intro _
  repeat' (first | (refine so_is (.box 78 _) ?_; refine so_box rfl rfl ?_) | (refine so_is (.assign _) ?_; (refine so_q (qt_asC rfl) rfl ?_)) | (refine so_is (.fieldAddr 78 _ 3) ?_; (refine so_q (qt_fld_lp (off := 3) rfl (by kernel_rfl)) rfl ?_)) | (refine so_is (.load 25 _) ?_; (refine so_q (qt_load_box rfl rfl (by kernel_rfl) rfl) rfl ?_)) | (refine so_is (.move _) ?_; (refine so_q (qt_mvC rfl) rfl ?_)) | (refine so_is (.fieldAddr 78 _ 1) ?_; (refine so_q (qt_fld_lp (off := 1) rfl (by kernel_rfl)) rfl ?_)) | (refine so_is (.load 3 _) ?_; (first | refine so_q (qt_load_box rfl rfl (by kernel_rfl) rfl) rfl ?_ | refine so_q (qt_load_pt rfl (by kernel_rfl) rfl) rfl ?_)) | (refine so_is (.binOp .mul 3 _ _ _) ?_; refine so_q (qt_mulI rfl rfl (by (omega))) rfl ?_) | (refine so_is (.binOp .add 3 _ _ _) ?_; refine so_q (qt_addI rfl rfl (by (omega))) rfl ?_) | (refine so_is (.indexAddr 25 _ _) ?_; (refine so_q (qt_idxII rfl rfl (by kernel_rfl) (by (omega)) (by (omega))) rfl ?_)) | (refine so_is (.load 24 _) ?_; (refine so_q (qt_load_pt rfl (by kernel_rfl) rfl) rfl ?_)) | (refine so_is (.indexAddr 24 _ _) ?_; (refine so_q (qt_idxI rfl rfl (by kernel_rfl) (by (omega)) (by (omega))) rfl ?_)) | refine so_nil ?_ | refine sk_seq ?_ | refine sk_region ?_)
  · (apply sk_ret; apply ret_eq; (· apply RetOK.p; (· (apply GvA.cons; (· exact .tmp _); (· exact GvP.c (.lit _))); exact GvA.nil); (· (decide))))
    rfl

end Go.Proofs.Ytefbiejoikpkmaa

namespace Go.Proofs.Ytefbiejoikpkmaa
open Go.RowKit
set_option linter.unusedSectionVars false
variable [Glb]
set_option maxRecDepth 10000
set_option maxHeartbeats 4000000
theorem newBox_p (x y : Nat) (wh : Int) (fid : FuncId) (caps : List D) (f : Nat → Nat → Nat → Int) (hx : x ≤ 3) (hy : y ≤ 3)
    (hf : ∀ i k p : Nat, i < x → k < y → p < 4 → PC Try.prog fid ([.c (dI i), .c (dI k), .c (dI ((p / 2 : Nat) : Int)), .c (dI ((p % 2 : Nat) : Int))] ++ caps.map RP.c) (.p (.c (dI (f i k p))))) :
    PC Try.prog 210 [.c (dI x), .c (dI y), .c (dI wh), .c (.fn (.func fid) caps)] (.p (.g [dI x, dI y, dI wh, eII (boxF f y (y * x))])) := by
  have hxy : y * x ≤ 3 * 3 := Nat.mul_le_mul hy hx
  refine pc_intro Try.func210 rfl rfl rfl (by kernel_rfl) rfl rfl ?_; intro _
  repeat' (first | (refine so_is (.alloc 78) ?_; refine so_alloc (zs := [.int .i64 0, .int .i64 0, .int .i64 0, .slice none 0 0]) (by kernel_rfl) rfl ?_) | (refine so_is (.move _) ?_; (refine so_q (qt_mvC rfl) rfl ?_)) | (refine so_is (.build 78 _) ?_; refine so_q (qt_build (cs := [_, _, _, _]) [(0, 1), (1, 1), (2, 1), (3, 1)] [.int .i64 0, .int .i64 0, .int .i64 0, .slice none 0 0] (by kernel_rfl) (by kernel_rfl) rfl) rfl ?_) | (refine so_is (.store 78 _ _) ?_; (refine so_store_box rfl rfl rfl (by kernel_rfl) rfl rfl ?_)) | refine so_nil ?_ | refine sk_seq ?_ | refine sk_block ?_ | refine sk_region ?_)
  refine sk_ghost (sim_nil_box 9 3 46 1 rfl (by decide) rfl rfl rfl) ?_
  apply sk_packC [1, 3, 8, 9, 18, 19] [8, 9, 26, 39, 40, 45, 46] rfl; (· (repeat (first | exact Pf.nil | apply Pf.cons (.c rfl (.d rfl)) | apply Pf.cons (.c rfl (.lp rfl))))); (· (repeat (first | exact Pb.nil | apply Pb.cons (.row rfl) | (apply Pb.cons; (· apply Nb.box rfl; (repeat (first | exact Ncs.nil rfl | (apply Ncs.cons rfl; (· (first | exact .d rfl | exact .ls rfl))))))) | apply Pb.skip)))
  refine sk_loopL [1, 3, 8, 9, 18] [8, 26, 39, 40, 45] (fun i => [(19, iN i)]) (fun i => [(9, .box [.d (dI x), .d (dI y), .d (dI wh), .ls 46 1 0 (y * i)]), (46, .row 1 (cII (boxF f y (y * i))))]) (fun i => i ≤ x) (fun i => x - i) (0) ?_ (by (repeat (first | exact trivial | refine ⟨(by (rfl)), ?_⟩))) (by (repeat (first | exact trivial | refine ⟨(by (first | (refine box_eq rfl ?_; simp; done) | rfl)), ?_⟩))) ?_
  · omega
  intro i hi
  repeat' (first | (refine so_is (.move _) ?_; (refine so_q (qt_mvC rfl) rfl ?_)) | (refine so_is (.store 78 _ _) ?_; (refine so_store_box rfl rfl rfl (by kernel_rfl) rfl rfl ?_)) | (refine so_is (.binOp .lss 3 _ _ _) ?_; refine so_q (qt_lss rfl rfl) rfl ?_) | (refine so_is (.assign _) ?_; (refine so_q (qt_asC rfl) rfl ?_)) | (refine so_is (.load 78 _) ?_; (refine so_q (qt_load_boxs rfl rfl (by kernel_rfl : tAgg _ 78 4 = true) rfl) rfl ?_)) | refine so_nil ?_ | refine sk_seq ?_ | refine sk_block ?_ | refine sk_exit rfl ?_ | refine sk_skip ?_ | refine sk_region ?_ | refine sk_if rfl (fun hc => ?_) (fun hc => ?_))
  · apply sk_packC [1, 3, 8, 9, 10, 18, 19, 22, 23] [8, 9, 26, 39, 40, 45, 46] rfl; (· (repeat (first | exact Pf.nil | apply Pf.cons (.c rfl (.d rfl)) | apply Pf.cons (.c rfl (.lp rfl))))); (· (repeat (first | exact Pb.nil | apply Pb.cons (.row rfl) | (apply Pb.cons; (· apply Nb.box rfl; (repeat (first | exact Ncs.nil rfl | (apply Ncs.cons rfl; (· (first | exact .d rfl | exact .ls rfl))))))) | apply Pb.skip)))
    refine sk_loopL [1, 3, 8, 9, 10, 18, 19, 22] [8, 26, 39, 40, 45] (fun k => [(23, iN k)]) (fun k => [(9, .box [.d (dI x), .d (dI y), .d (dI wh), .ls 46 1 0 (y * i + k)]), (46, .row 1 (cII (boxF f y (y * i + k))))]) (fun k => k ≤ y) (fun k => y - k) (0) ?_ (by (repeat (first | exact trivial | refine ⟨(by (rfl)), ?_⟩))) (by (repeat (first | exact trivial | refine ⟨(by (first | (refine row_eq rfl ?_; simp; done) | (refine box_eq rfl ?_; simp; done))), ?_⟩))) ?_
    · omega
    intro k hk
    repeat' (first | (refine so_is (.move _) ?_; (refine so_q (qt_mvC rfl) rfl ?_)) | (refine so_is (.binOp .lss 3 _ _ _) ?_; refine so_q (qt_lss rfl rfl) rfl ?_) | (refine so_is (.assign _) ?_; (refine so_q (qt_asC rfl) rfl ?_)) | (refine so_is (.buildSlice 24 0 _) ?_; (apply so_bslice (sz := 1) (by_ := 8); (· kernel_rfl); (· decide); (· (repeat (exact GvS.nil _))); (· (decide)); (· rfl); (· rfl); (· rfl))) | (refine so_is (.binOp .add 3 _ _ _) ?_; refine so_q (qt_addI rfl rfl (by (omega))) rfl ?_) | refine so_nil ?_ | refine sk_seq ?_ | refine sk_block ?_ | refine sk_blk ?_ | refine sk_exit rfl ?_ | refine sk_skip ?_ | refine sk_region ?_ | refine sk_if rfl (fun hc => ?_) (fun hc => ?_))
    · have hik := idx_ltN (i := i) (k := k) (X := x) (Y := y) (by omega) (by omega)
      apply sk_packC [1, 3, 8, 9, 10, 11, 12, 18, 19, 22, 23, 27] [8, 9, 26, 39, 40, 45, 46] rfl; (· (repeat (first | exact Pf.nil | apply Pf.cons (.c rfl (.d rfl)) | apply Pf.cons (.c rfl (.ls rfl)) | apply Pf.cons (.c rfl (.lp rfl))))); (· (repeat (first | exact Pb.nil | apply Pb.cons (.row rfl) | (apply Pb.cons; (· apply Nb.box rfl; (repeat (first | exact Ncs.nil rfl | (apply Ncs.cons rfl; (· (first | exact .d rfl | exact .ls rfl))))))) | apply Pb.skip)))
      refine sk_loopL [1, 3, 8, 9, 10, 11, 18, 19, 22, 23] [8, 9, 39, 40, 45, 46] (fun p => [(27, iN p), (12, .c (.ls 26 1 0 p))]) (fun p => [(26, .row 1 (cI (rowF (f i k) p)))]) (fun p => p ≤ 4) (fun p => 4 - p) (0) ?_ (by (repeat (first | exact trivial | refine ⟨(by (rfl)), ?_⟩))) (by (repeat (first | exact trivial | refine ⟨(by (rfl)), ?_⟩))) ?_
      · omega
      intro p hp
      repeat' (first | (refine so_is (.move _) ?_; (refine so_q (qt_mvC rfl) rfl ?_)) | (refine so_is (.binOp .lss 3 _ _ _) ?_; refine so_q (qt_lss rfl rfl) rfl ?_) | (refine so_is (.assign _) ?_; (refine so_q (qt_asC rfl) rfl ?_)) | (refine so_is (.binOp .quo 3 _ _ _) ?_; (refine so_q (qt_quoN rfl rfl (by (omega)) (by (omega)) (by (omega))) rfl ?_)) | (refine so_is (.binOp .rem 3 _ _ _) ?_; (refine so_q (qt_remN rfl rfl (by (omega)) (by (omega)) (by (omega))) rfl ?_)) | (refine so_is (.buildSlice 24 1 _) ?_; (apply so_bslice (sz := 1) (by_ := 8); (· kernel_rfl); (· decide); (· (repeat (first | exact GvS.nil _ | apply GvS.c rfl rfl (.lit _) rfl))); (· (decide)); (· rfl); (· rfl); (· rfl))) | (refine so_is (.call ⟨.builtin .append, _, #[24, 24]⟩) ?_; ((apply so_appR (sz := 1) (by_ := 8); (· rfl); (· rfl); (· ((simp; done))); (· exact .row _ _ _ _ rfl (by ((simp; done)))); (· (decide)); (· kernel_rfl); (· decide); (· (omega)); (· (omega)); (· rfl); (· rfl); (· rfl)))) | (refine so_is (.binOp .add 3 _ _ _) ?_; refine so_q (qt_addI rfl rfl (by (omega))) rfl ?_) | (refine so_is (.fieldAddr 78 _ 3) ?_; (refine so_q (qt_fld_lp (off := 3) rfl (by kernel_rfl)) rfl ?_)) | (refine so_is (.load 25 _) ?_; (refine so_q (qt_load_box rfl rfl (by kernel_rfl) rfl) rfl ?_)) | (refine so_is (.buildSlice 25 1 _) ?_; (apply so_bslice (sz := 1) (by_ := 24); (· kernel_rfl); (· decide); (· (repeat (first | exact GvS.nil _ | apply GvS.c rfl rfl (.row _ _ _ _ rfl (by ((simp; done)))) rfl))); (· (decide)); (· rfl); (· rfl); (· rfl))) | (refine so_is (.call ⟨.builtin .append, _, #[25, 25]⟩) ?_; ((apply so_appR (sz := 1) (by_ := 24); (· rfl); (· rfl); (· ((simp; done))); (· exact .row _ _ _ _ rfl (by ((simp; done)))); (· (decide)); (· kernel_rfl); (· decide); (· (omega)); (· (omega)); (· rfl); (· rfl); (· rfl)))) | (refine so_is (.store 25 _ _) ?_; (refine so_store_box1 rfl rfl rfl rfl (by kernel_rfl) rfl rfl ?_)) | (refine so_is (.call ⟨.value (.tmp 31), _, _⟩) ?_; (apply so_call; (· (exact .c (.d _))); (· (repeat (first | exact SeA.nil | apply SeA.cons (.c (.d _))))); (· exact hf i k p (by omega) (by omega) (by omega)); (· rfl))) | refine so_nil ?_ | refine sk_seq ?_ | refine sk_block ?_ | refine sk_blk ?_ | refine sk_exit rfl ?_ | refine sk_skip ?_ | refine sk_region ?_ | refine sk_if rfl (fun hc => ?_) (fun hc => ?_))
      · refine sk_back ?_; refine ⟨p + 1, ?_, ?_, le_at rfl (by (repeat (first | exact trivial | refine ⟨(by (rfl)), ?_⟩))) (by (repeat (first | exact trivial | refine ⟨rfl, ?_⟩))) (by (repeat (first | exact trivial | refine ⟨(by ((refine row_eq rfl ?_; simp  [rowF_snoc]; done))), ?_⟩))) (by (repeat (first | exact trivial | refine ⟨.inr rfl, ?_⟩)))⟩
        · omega
        · omega
      · have h4 : p = 4 := by omega
        subst h4
        refine sk_back ?_; refine ⟨k + 1, ?_, ?_, le_at rfl (by (repeat (first | exact trivial | refine ⟨(by (rfl)), ?_⟩))) (by (repeat (first | exact trivial | refine ⟨rfl, ?_⟩))) (by (repeat (first | exact trivial | refine ⟨(by (first | (refine row_eq rfl ?_; simp  [boxF_snoc _ _ _ _ (show k < y by omega)]; done) | rfl)), ?_⟩))) (by (repeat (first | exact trivial | refine ⟨.inr rfl, ?_⟩)))⟩
        · omega
        · omega
    · have h4 : k = y := by omega
      subst h4
      refine sk_back ?_; refine ⟨i + 1, ?_, ?_, le_at rfl (by (repeat (first | exact trivial | refine ⟨(by (rfl)), ?_⟩))) (by (repeat (first | exact trivial | refine ⟨rfl, ?_⟩))) (by (repeat (first | exact trivial | refine ⟨(by (rfl)), ?_⟩))) (by (repeat (first | exact trivial | refine ⟨.inr rfl, ?_⟩)))⟩
      · omega
      · omega
  · have h4 : i = x := by omega
    subst h4
    (apply sk_ret; apply ret_eq; (· apply RetOK.p; (· (apply GvA.cons; (· (apply RV.cellN (n := 4); (· rfl); (· rfl); (· kernel_rfl); (· rfl))); (· (apply GvP.g; (· (apply GvL.cons (.lit _)); (apply GvL.cons (.lit _)); (apply GvL.cons (.lit _)); ((apply GvL.cons (.row _ _ _ _ rfl (by ((simp; done)))))); exact GvL.nil)))); exact GvA.nil); (· (decide))))
    simp

end Go.Proofs.Ytefbiejoikpkmaa

namespace Go.Proofs.Ytefbiejoikpkmaa
open Go.RowKit
set_option linter.unusedSectionVars false
variable [Glb]
set_option maxRecDepth 10000
set_option maxHeartbeats 4000000
theorem wired1_p (x y a c : Int) : PC Try.prog 213 [.c (dI x), .c (dI y), .c (dI a), .c (dI c)] (.p (.c (dI 0))) := by
  refine pc_intro Try.func213 rfl rfl rfl (by kernel_rfl) rfl rfl ?_; intro _
  repeat' (first | (refine so_is (.assign _) ?_; (refine so_q (qt_asC rfl) rfl ?_)) | refine so_nil ?_ | refine sk_seq ?_ | refine sk_region ?_)
  (apply sk_ret; apply ret_eq; (· apply RetOK.p; (· (apply GvA.cons; (· exact .tmp _); (· exact GvP.c (.lit _))); exact GvA.nil); (· (decide))))
  rfl
theorem wired_p (na : Int) (la : List (List Int)) (nb : Int) (lb : List (List Int)) (f1 : List Int) (a1 s1 : List (List Int)) (f2 : List Int) (a2 s2 : List (List Int)) (ha : boxB 2 2 na la = true) (hb : boxB 2 2 nb lb = true) (h1 : ruleB f1 a1 s1 = true) (h2 : ruleB f2 a2 s2 = true) :
    PC Try.prog 163 [.g [dI 2, dI 2, dI na, eII la], .g [dI 2, dI 2, dI nb, eII lb], .g [eI f1, eII a1, eII s1], .g [eI f2, eII a2, eII s2]] (.p (.g [dI 2, dI 2, dI (na * nb), eII (wiredL la lb f1 a1 s1 f2 a2 s2)])) := by
  have pa := boxB_spec ha
  have pb := boxB_spec hb
  have n1 := pa.n1; have n2 := pa.n2; have n3 := pb.n1; have n4 := pb.n2; have n5 := pa.len; have n6 := pb.len
  have nn := mul_whole ⟨n1, n2⟩ ⟨n3, n4⟩
  have r1 := ruleB_spec h1
  have r2 := ruleB_spec h2
  have q1 := r1.fl; have q2 := r1.al; have q3 := r1.sl; have q4 := r2.fl; have q5 := r2.al; have q6 := r2.sl
  obtain ⟨W, hW⟩ : ∃ W : Nat → Nat → Nat → Nat → Int, W = wI la lb f1 a1 s1 f2 a2 s2 := ⟨_, rfl⟩
  have hL : wiredL la lb f1 a1 s1 f2 a2 s2 = boxF (fun x y p => W x y 16 p) 2 4 := by
    unfold wiredL; rw [hW]; congr 1; funext x y p; rw [wI_P]
  have W0 : ∀ x y p, W x y 0 p = 0 := fun x y p => by rw [hW]; rfl
  have step := fun (x y c : Nat) hx hy hc => wI_step ha hb h1 h2 (x := x) (y := y) (c := c) hx hy hc
  rw [← hW] at step
  have hz := wireM_zero W W0
  have nb := newBox_p 2 2 (na * nb) 213 [] (fun _ _ _ => 0) (by omega) (by omega) (fun i k p _ _ _ => wired1_p _ _ _ _)
  rw [show 2 * 2 = 4 from rfl, hz] at nb
  refine pc_intro Try.func163 rfl rfl rfl (by kernel_rfl) rfl rfl ?_; intro _
  repeat' (first | (refine so_is (.box 78 _) ?_; refine so_box rfl rfl ?_) | (refine so_is (.box 96 _) ?_; refine so_box rfl rfl ?_) | (refine so_is (.alloc 78) ?_; refine so_alloc (zs := [.int .i64 0, .int .i64 0, .int .i64 0, .slice none 0 0]) (by kernel_rfl) rfl ?_) | (refine so_is (.fieldAddr 78 _ 2) ?_; (refine so_q (qt_fld_lp (off := 2) rfl (by kernel_rfl)) rfl ?_)) | (refine so_is (.load 3 _) ?_; (refine so_q (qt_load_box rfl rfl (by kernel_rfl) rfl) rfl ?_)) | (refine so_is (.binOp .mul 3 _ _ _) ?_; refine so_q (qt_mulI rfl rfl (by (omega))) rfl ?_) | (refine so_is (.store 78 _ _) ?_; (refine so_store_box rfl rfl rfl (by kernel_rfl) rfl rfl ?_)) | (refine so_is (.move _) ?_; (refine so_q (qt_mvC rfl) rfl ?_)) | (refine so_is (.call ⟨.value (.func 210), _, _⟩) ?_; (apply so_callO0 (fid := 210); (· (repeat (first | exact SeA.nil | apply SeA.cons (.c (.d _))))); (· exact nb); (· rfl); (· rfl))) | refine so_nil ?_ | refine sk_seq ?_ | refine sk_block ?_ | refine sk_region ?_)
  apply sk_packC [4, 5, 6, 7, 8, 9, 24] [4, 5, 6, 7, 8, 9, 3023] rfl; (· (repeat (first | exact Pf.nil | apply Pf.cons (.c rfl (.d rfl)) | apply Pf.cons (.c rfl (.lp rfl))))); (· (repeat (first | exact Pb.nil | apply Pb.cons (.row rfl) | (apply Pb.cons; (· apply Nb.box rfl; (repeat (first | exact Ncs.nil rfl | (apply Ncs.cons rfl; (· (first | exact .d rfl | exact .ls rfl))))))))))
  refine sk_loopL [4, 5, 6, 7, 8, 9] [4, 5, 6, 7, 8, 9] (fun x => [(24, iN x)]) (fun x => [(3023, .row 1 (cII (wireM W (2 * x) 0)))]) (fun x => x ≤ 2) (fun x => 2 - x) (0) ?_ (by (repeat (first | exact trivial | refine ⟨(by (rfl)), ?_⟩))) (by (repeat (first | exact trivial | refine ⟨(by ((refine row_eq rfl ?_; simp; done))), ?_⟩))) ?_
  · omega
  intro x hx
  by_cases hx2 : x < 2
  · have fx := r1.fb x (by omega) (by omega)
    repeat' (first | (refine so_is (.store 78 _ _) ?_; (refine so_store_box rfl rfl rfl (by kernel_rfl) rfl rfl ?_)) | (refine so_is (.move _) ?_; (refine so_q (qt_mvC rfl) rfl ?_)) | (refine so_is (.binOp .lss 3 _ _ _) ?_; refine so_q (qt_lss rfl rfl) rfl ?_) | (refine so_is (.assign _) ?_; (refine so_q (qt_asC rfl) rfl ?_)) | (refine so_is (.load 78 _) ?_; (refine so_q (qt_load_boxs rfl rfl (by kernel_rfl : tAgg _ 78 4 = true) rfl) rfl ?_)) | refine so_nil ?_ | refine sk_seq ?_ | refine sk_block ?_ | refine sk_exit rfl ?_ | refine sk_skip ?_ | refine sk_region ?_ | refine sk_if rfl (fun hc => ?_) (fun hc => ?_))
    · apply sk_packC [4, 5, 6, 7, 8, 9, 10, 24, 27] [4, 5, 6, 7, 8, 9, 3023] rfl; (· (repeat (first | exact Pf.nil | apply Pf.cons (.c rfl (.d rfl)) | apply Pf.cons (.c rfl (.lp rfl))))); (· (repeat (first | exact Pb.nil | apply Pb.cons (.row rfl) | (apply Pb.cons; (· apply Nb.box rfl; (repeat (first | exact Ncs.nil rfl | (apply Ncs.cons rfl; (· (first | exact .d rfl | exact .ls rfl))))))))))
      refine sk_loopL [4, 5, 6, 7, 8, 9, 10, 24] [4, 5, 6, 7, 8, 9] (fun y => [(27, iN y)]) (fun y => [(3023, .row 1 (cII (wireM W (2 * x + y) 0)))]) (fun y => y ≤ 2) (fun y => 2 - y) (0) ?_ (by (repeat (first | exact trivial | refine ⟨(by (rfl)), ?_⟩))) (by (repeat (first | exact trivial | refine ⟨(by ((refine row_eq rfl ?_; simp; done))), ?_⟩))) ?_
      · omega
      intro y hy
      by_cases hy2 : y < 2
      · have fy := r2.fb y (by omega) (by omega)
        have jx : (2 * x + y) / 2 = x := by omega
        have jy : (2 * x + y) % 2 = y := by omega
        have jt : (2 * (x : Int) + y).toNat = 2 * x + y := by omega
        repeat' (first | (refine so_is (.move _) ?_; (refine so_q (qt_mvC rfl) rfl ?_)) | (refine so_is (.binOp .lss 3 _ _ _) ?_; refine so_q (qt_lss rfl rfl) rfl ?_) | (refine so_is (.assign _) ?_; (refine so_q (qt_asC rfl) rfl ?_)) | (refine so_is (.binOp .add 3 _ _ _) ?_; refine so_q (qt_addI rfl rfl (by (omega))) rfl ?_) | refine so_nil ?_ | refine sk_seq ?_ | refine sk_block ?_ | refine sk_blk ?_ | refine sk_exit rfl ?_ | refine sk_skip ?_ | refine sk_region ?_ | refine sk_if rfl (fun hc => ?_) (fun hc => ?_))
        all_goals first | (exfalso; omega) | skip
        apply sk_packC [4, 5, 6, 7, 8, 9, 10, 11, 24, 27, 30] [4, 5, 6, 7, 8, 9, 3023] rfl; (· (repeat (first | exact Pf.nil | apply Pf.cons (.c rfl (.d rfl)) | apply Pf.cons (.c rfl (.lp rfl))))); (· (repeat (first | exact Pb.nil | apply Pb.cons (.row rfl) | (apply Pb.cons; (· apply Nb.box rfl; (repeat (first | exact Ncs.nil rfl | (apply Ncs.cons rfl; (· (first | exact .d rfl | exact .ls rfl))))))))))
        refine sk_loopL [4, 5, 6, 7, 8, 9, 10, 11, 24, 27] [4, 5, 6, 7, 8, 9] (fun c => [(30, iN c)]) (fun c => [(3023, .row 1 (cII (wireM W (2 * x + y) c)))]) (fun c => c ≤ 16) (fun c => 16 - c) (0) ?_ (by (repeat (first | exact trivial | refine ⟨(by (rfl)), ?_⟩))) (by (repeat (first | exact trivial | refine ⟨(by ((refine row_eq rfl ?_; simp; done))), ?_⟩))) ?_
        · omega
        intro c hc
        by_cases hc16 : c < 16
        · obtain ⟨s, v, e1, e2, e3, e4, e5, e6⟩ := step x y c hx2 hy2 hc16
          have ax := r1.ask (x := x) (i := (c : Int) % 2) (by omega) (by omega) (by omega) (by omega)
          have ay := r2.ask (x := y) (i := (c : Int) / 2 % 2) (by omega) (by omega) (by omega) (by omega)
          have sx := r1.say (x := x) (i := 2 * ((c : Int) % 2) + (c : Int) / 4 % 2) (by omega) (by omega) (by omega) (by omega)
          have sy := r2.say (x := y) (i := 2 * ((c : Int) / 2 % 2) + (c : Int) / 8 % 2) (by omega) (by omega) (by omega) (by omega)
          have ap1 := at_p 2 2 na la ha (atZ f1 x) (atZ f2 y) ((c : Int) % 2) ((c : Int) / 2 % 2) (by omega) (by omega) (by omega) (by omega) (by omega) (by omega) (by omega) (by omega)
          have ap2 := at_p 2 2 _ lb hb (atZ (atZ a1 x) ((c : Int) % 2)) (atZ (atZ a2 y) ((c : Int) / 2 % 2)) ((c : Int) / 4 % 2) ((c : Int) / 8 % 2) (by omega) (by omega) (by omega) (by omega) (by omega) (by omega) (by omega) (by omega)
          have ev : atZ (rowF (W x y c) 4) (2 * atZ (atZ s1 x) (2 * ((c : Int) % 2) + (c : Int) / 4 % 2) + atZ (atZ s2 y) (2 * ((c : Int) / 2 % 2) + (c : Int) / 8 % 2)) = W x y c s := by rw [e1, rowF_atZ _ e2]
          rw [← ev] at e5 e6
          rw [← e3] at e4 e5
          have wg := wireM_get W c (show 2 * x + y < 4 by omega)
          have ws := wireM_set W c (c + 1) (show 2 * x + y < 4 by omega)
          rw [jx, jy] at wg ws
          repeat' (first | (refine so_is (.load 3 _) ?_; (refine so_q (qt_load_pt rfl (by kernel_rfl) rfl) rfl ?_)) | (refine so_is (.binOp .mul 3 _ _ _) ?_; refine so_q (qt_mulI rfl rfl (by (omega))) rfl ?_) | (refine so_is (.move _) ?_; (refine so_q (qt_mvC rfl) rfl ?_)) | (refine so_is (.binOp .lss 3 _ _ _) ?_; refine so_q (qt_lss rfl rfl) rfl ?_) | (refine so_is (.assign _) ?_; (refine so_q (qt_asC rfl) rfl ?_)) | (refine so_is (.binOp .and 3 _ _ _) ?_; refine so_q (qt_andM 1 (c := 2) rfl rfl (by decide)) rfl ?_) | (refine so_is (.binOp .shr 3 _ _ _) ?_; (first | refine so_q (qt_shrC (c := 2) rfl rfl (by decide)) rfl ?_ | refine so_q (qt_shrC (c := 4) rfl rfl (by decide)) rfl ?_ | refine so_q (qt_shrC (c := 8) rfl rfl (by decide)) rfl ?_)) | (refine so_is (.load 78 _) ?_; (refine so_q (qt_load_boxs rfl rfl (by kernel_rfl : tAgg _ 78 4 = true) rfl) rfl ?_)) | (refine so_is (.fieldAddr 96 _ 0) ?_; (refine so_q (qt_fld_lp (off := 0) rfl (by kernel_rfl)) rfl ?_)) | (refine so_is (.load 24 _) ?_; (first | refine so_q (qt_load_box rfl rfl (by kernel_rfl) rfl) rfl ?_ | refine so_q (qt_load_pt rfl (by kernel_rfl) rfl) rfl ?_)) | (refine so_is (.indexAddr 24 _ _) ?_; (refine so_q (qt_idxI rfl rfl (by kernel_rfl) (by (omega)) (by (omega))) rfl ?_)) | (refine so_is (.call ⟨.value (.func 212), _, _⟩) ?_; (first | (apply so_call0 (d := 57) (fid := 212); (· (repeat (first | exact SeA.nil | apply SeA.cons (.c (.d _)) | (apply SeA.cons; (· (apply SeP.g; (repeat (first | exact SeL.nil | apply SeL.cons (.d _))))))))); (· exact ap1); (· rfl)) | (apply so_call0 (d := 77) (fid := 212); (· (repeat (first | exact SeA.nil | apply SeA.cons (.c (.d _)) | (apply SeA.cons; (· (apply SeP.g; (repeat (first | exact SeL.nil | apply SeL.cons (.d _))))))))); (· exact ap2); (· rfl)))) | (refine so_is (.fieldAddr 96 _ 1) ?_; (refine so_q (qt_fld_lp (off := 1) rfl (by kernel_rfl)) rfl ?_)) | (refine so_is (.load 25 _) ?_; (refine so_q (qt_load_box rfl rfl (by kernel_rfl) rfl) rfl ?_)) | (refine so_is (.indexAddr 25 _ _) ?_; (refine so_q (qt_idxII rfl rfl (by kernel_rfl) (by (omega)) (by (omega))) rfl ?_)) | (refine so_is (.binOp .add 3 _ _ _) ?_; refine so_q (qt_addI rfl rfl (by (omega))) rfl ?_) | refine so_nil ?_ | refine sk_seq ?_ | refine sk_block ?_ | refine sk_blk ?_ | refine sk_exit rfl ?_ | refine sk_skip ?_ | refine sk_region (id := 9) ?_ | refine sk_region (id := 10) ?_ | refine sk_region (id := 11) ?_ | refine sk_drawQ 12 (fun _ => false) (.step 0 true (.step 1 true (.step 2 true (.step 3 true (.step 4 true (.step 5 true (.step 6 true (.step 7 true (.step 8 true (.step 9 true (.step 10 true (.step 11 true (.step 12 true (.step 14 true (.step 15 true (.step 16 true (.step 17 true (.step 18 true (.step 19 true (.step 20 true (.step 21 true (.step 22 true (.step 23 true (.step 24 true (.step 25 true (.step 26 true (.step 27 true (.step 28 true (.step 29 true (.step 30 true (.step 31 true (.step 32 true (.step 13 false (.step 33 false (.step 34 true (.step 35 true .nil)))))))))))))))))))))))))))))))))))) [(0, 68719476735, 68719476735, false), (0, 68719476735, 68719476735, true), (2, 68719476733, 68719476735, false), (0, 68719476735, 68719476735, true), (12, 68719476723, 68719476735, true), (16, 68719476719, 68719476735, false), (0, 68719476735, 68719476735, true), (64, 68719476671, 68719476735, false), (0, 68719476735, 68719476735, true), (384, 68719476351, 68719476735, true), (512, 68719476223, 68719476735, false), (0, 68719476735, 68719476735, true), (0, 68719476735, 68719476735, true), (7201, 68719469534, 68719476735, false), (0, 68719476735, 68719476735, false), (0, 68719476735, 68719476735, true), (32768, 68719443967, 68719476735, false), (0, 68719476735, 68719476735, true), (196608, 68719280127, 68719476735, true), (262144, 68719214591, 68719476735, false), (0, 68719476735, 68719476735, true), (1572864, 68717903871, 68719476735, true), (2097152, 68717379583, 68719476735, false), (0, 68719476735, 68719476735, true), (8388608, 68711088127, 68719476735, false), (0, 68719476735, 68719476735, true), (50331648, 68669145087, 68719476735, true), (67108864, 68652367871, 68719476735, false), (0, 68719476735, 68719476735, true), (402653184, 68316823551, 68719476735, true), (536870912, 68182605823, 68719476735, false), (0, 68719476735, 68719476735, true), (0, 68719476735, 68719476735, true), (7520411648, 61199073279, 68719476735, false), (8589942784, 60129533951, 68719476735, true), (34359738367, 51539607551, 68719476735, true)] (by kernel_rfl) (by kernel_rfl) ?_ | refine sk_region (id := 15) ?_ | refine sk_if rfl (fun hc => ?_) (fun hc => ?_))
          all_goals first | (exfalso; omega) | skip
          refine sk_drawQ 13 (fun i => i == 37) (.step 0 true (.step 1 true (.step 2 true (.step 3 true (.step 4 true (.step 5 true (.step 6 true (.step 7 true (.step 8 true (.step 9 true (.step 10 true (.step 11 true (.step 12 true (.step 13 true (.step 14 true (.step 15 true (.step 16 true (.step 17 true (.step 18 true (.step 19 true (.step 20 true (.step 21 true (.step 22 true (.step 23 true (.step 24 true (.step 25 true (.step 26 true (.step 27 true (.step 28 true (.step 29 true (.step 30 true (.step 31 true (.step 32 true (.step 33 true (.step 34 true (.step 35 true (.step 36 true (.step 37 false .nil)))))))))))))))))))))))))))))))))))))) [(0, 274877906943, 274877906943, true), (1, 274877906942, 274877906943, false), (0, 274877906943, 274877906943, true), (4, 274877906939, 274877906943, true), (0, 274877906943, 274877906943, true), (24, 274877906919, 274877906943, true), (34, 274877906909, 274877906943, true), (64, 274877906879, 274877906943, false), (0, 274877906943, 274877906943, true), (256, 274877906687, 274877906943, false), (0, 274877906943, 274877906943, true), (1536, 274877905407, 274877906943, true), (2048, 274877904895, 274877906943, false), (0, 274877906943, 274877906943, true), (8192, 274877898751, 274877906943, true), (0, 274877906943, 274877906943, true), (49152, 274877857791, 274877906943, true), (69632, 274877837311, 274877906943, true), (131072, 274877775871, 274877906943, false), (262144, 274877644799, 274877906943, true), (0, 274877906943, 274877906943, true), (1048576, 274876858367, 274877906943, false), (0, 274877906943, 274877906943, true), (6291456, 274871615487, 274877906943, true), (8388608, 274869518335, 274877906943, false), (0, 274877906943, 274877906943, true), (33554432, 274844352511, 274877906943, true), (0, 274877906943, 274877906943, true), (201326592, 274676580351, 274877906943, true), (285212672, 274592694271, 274877906943, true), (536870912, 274341036031, 274877906943, false), (1074266112, 273803640831, 274877906943, true), (2147483776, 272730423167, 274877906943, true), (4294967296, 270582939647, 274877906943, false), (0, 274877906943, 274877906943, true), (25769803776, 249108103167, 274877906943, true), (68719476735, 272730423167, 274877906943, true), (137438953471, 171798691839, 274877906943, false)] (by kernel_rfl) (by kernel_rfl) ?_
          all_goals ((refine so_q (qt_fld_lp (off := 3) rfl (by kernel_rfl)) rfl ?_))
          all_goals ((refine so_q (qt_load_box rfl rfl (by kernel_rfl) rfl) rfl ?_))
          all_goals ((refine so_q (qt_mvC rfl) rfl ?_))
          all_goals (refine so_q (qt_mulI rfl rfl (by (omega))) rfl ?_)
          all_goals ((refine so_q (qt_mvC rfl) rfl ?_))
          all_goals (refine so_q (qt_addI rfl rfl (by (omega))) rfl ?_)
          all_goals ((refine so_q (qt_idx_ls rfl rfl (by kernel_rfl : tSl _ 25 1 = true) (by (omega)) (by ((simp at *; omega)))) rfl ?_))
          all_goals (refine so_thaw (c := 2000) (sz' := 1) (n := 4) (ds' := cI (rowF (W x y c) 4)) rfl rfl (by kernel_rfl) (by simp [jt, wg]) rfl rfl rfl ?_)
          all_goals ((refine so_q (qt_fld_lp (off := 2) rfl (by kernel_rfl)) rfl ?_))
          all_goals ((refine so_q (qt_load_box rfl rfl (by kernel_rfl) rfl) rfl ?_))
          all_goals ((refine so_q (qt_mvC rfl) rfl ?_))
          all_goals ((refine so_q (qt_idxII rfl rfl (by kernel_rfl) (by (omega)) (by (omega))) rfl ?_))
          all_goals ((refine so_q (qt_load_pt rfl (by kernel_rfl) rfl) rfl ?_))
          all_goals ((refine so_q (qt_mvC rfl) rfl ?_))
          all_goals (refine so_q (qt_mulI rfl rfl (by (omega))) rfl ?_)
          all_goals ((refine so_q (qt_mvC rfl) rfl ?_))
          all_goals (refine so_q (qt_addI rfl rfl (by (omega))) rfl ?_)
          all_goals ((refine so_q (qt_idxI rfl rfl (by kernel_rfl) (by (omega)) (by (omega))) rfl ?_))
          all_goals ((refine so_q (qt_load_pt rfl (by kernel_rfl) rfl) rfl ?_))
          all_goals (refine so_q (qt_mulI rfl rfl (by (omega))) rfl ?_)
          all_goals ((refine so_q (qt_fld_lp (off := 2) rfl (by kernel_rfl)) rfl ?_))
          all_goals ((refine so_q (qt_load_box rfl rfl (by kernel_rfl) rfl) rfl ?_))
          all_goals ((refine so_q (qt_mvC rfl) rfl ?_))
          all_goals ((refine so_q (qt_idxII rfl rfl (by kernel_rfl) (by (omega)) (by (omega))) rfl ?_))
          all_goals ((refine so_q (qt_load_pt rfl (by kernel_rfl) rfl) rfl ?_))
          all_goals ((refine so_q (qt_mvC rfl) rfl ?_))
          all_goals (refine so_q (qt_mulI rfl rfl (by (omega))) rfl ?_)
          all_goals ((refine so_q (qt_mvC rfl) rfl ?_))
          all_goals (refine so_q (qt_addI rfl rfl (by (omega))) rfl ?_)
          all_goals ((refine so_q (qt_idxI rfl rfl (by kernel_rfl) (by (omega)) (by (omega))) rfl ?_))
          all_goals ((refine so_q (qt_load_pt rfl (by kernel_rfl) rfl) rfl ?_))
          all_goals (refine so_q (qt_addI rfl rfl (by (omega))) rfl ?_)
          all_goals ((refine so_q (qt_idx_ls rfl rfl (by kernel_rfl : tSl _ 24 1 = true) (by (omega)) (by (omega))) rfl ?_))
          all_goals ((refine so_q (qt_load_rowI rfl rfl (by kernel_rfl) (by (omega)) (by ((simp only [List.length_map, List.length_append, List.length_replicate, fillL_len, rowF_len, gridF_len, mkI_len, mkII_len, partZ_min] at *; omega)))) rfl ?_))
          all_goals ((refine so_q (qt_mvC rfl) rfl ?_))
          all_goals (refine so_q (qt_addI rfl rfl (by (omega))) rfl ?_)
          all_goals ((refine so_q (qt_idx_ls rfl rfl (by kernel_rfl : tSl _ 24 1 = true) (by (omega)) (by (omega))) rfl ?_))
          all_goals (((refine so_store_row rfl rfl rfl rfl (.lit _) (by simp) (by simp) (by kernel_rfl) (by ((simp only [List.length_map, List.length_append, List.length_replicate, fillL_len, rowF_len, gridF_len, mkI_len, mkII_len, partZ_min] at *; omega))) rfl ?_; simp only [St.drop])))
          all_goals refine so_nil ?_
          refine sk_blk ?_
          refine sk_ghost (sim_back (b := 3023) (c := 2000) rfl rfl (by simp) rfl) ?_
          repeat' (first | (refine so_is (.move _) ?_; (refine so_q (qt_mvC rfl) rfl ?_)) | (refine so_is (.binOp .add 3 _ _ _) ?_; refine so_q (qt_addI rfl rfl (by (omega))) rfl ?_) | refine so_nil ?_ | refine sk_region ?_)
          refine sk_back ?_; refine ⟨c + 1, ?_, ?_, le_at rfl (by (repeat (first | exact trivial | refine ⟨(by (rfl)), ?_⟩))) (by (repeat (first | exact trivial | refine ⟨rfl, ?_⟩))) (by (repeat (first | exact trivial | refine ⟨(by ((refine row_eq rfl ?_; simp  [List.map_set, ← ws, ← e5, jt, e1, eI]; done))), ?_⟩))) (by (repeat (first | exact trivial | refine ⟨.inr rfl, ?_⟩)))⟩
          · omega
          · omega
        · have h8 : c = 16 := by omega
          subst h8
          rw [wireM_next W (by omega)]
          repeat' (first | (refine so_is (.move _) ?_; (refine so_q (qt_mvC rfl) rfl ?_)) | (refine so_is (.binOp .lss 3 _ _ _) ?_; refine so_q (qt_lss rfl rfl) rfl ?_) | (refine so_is (.binOp .add 3 _ _ _) ?_; refine so_q (qt_addI rfl rfl (by (omega))) rfl ?_) | refine so_nil ?_ | refine sk_seq ?_ | refine sk_blk ?_ | refine sk_exit rfl ?_ | refine sk_region ?_ | refine sk_false rfl ?_)
          all_goals first | (exfalso; omega) | skip
          refine sk_back ?_; refine ⟨y + 1, ?_, ?_, le_at rfl (by (repeat (first | exact trivial | refine ⟨(by (rfl)), ?_⟩))) (by (repeat (first | exact trivial | refine ⟨rfl, ?_⟩))) (by (repeat (first | exact trivial | refine ⟨(by ((refine row_eq rfl ?_; simp  [← Nat.add_assoc]; done))), ?_⟩))) (by (repeat (first | exact trivial | refine ⟨.inr rfl, ?_⟩)))⟩
          · omega
          · omega
      · have h8 : y = 2 := by omega
        subst h8
        repeat' (first | (refine so_is (.move _) ?_; (refine so_q (qt_mvC rfl) rfl ?_)) | (refine so_is (.binOp .lss 3 _ _ _) ?_; refine so_q (qt_lss rfl rfl) rfl ?_) | (refine so_is (.binOp .add 3 _ _ _) ?_; refine so_q (qt_addI rfl rfl (by (omega))) rfl ?_) | refine so_nil ?_ | refine sk_seq ?_ | refine sk_blk ?_ | refine sk_exit rfl ?_ | refine sk_region ?_ | refine sk_false rfl ?_)
        all_goals first | (exfalso; omega) | skip
        refine sk_back ?_; refine ⟨x + 1, ?_, ?_, le_at rfl (by (repeat (first | exact trivial | refine ⟨(by (rfl)), ?_⟩))) (by (repeat (first | exact trivial | refine ⟨rfl, ?_⟩))) (by (repeat (first | exact trivial | refine ⟨(by ((refine row_eq rfl ?_; simp  [Nat.mul_add]; done))), ?_⟩))) (by (repeat (first | exact trivial | refine ⟨.inr rfl, ?_⟩)))⟩
        · omega
        · omega
    · exfalso; omega
  · have h8 : x = 2 := by omega
    subst h8
    repeat' (first | (refine so_is (.store 78 _ _) ?_; (refine so_store_box rfl rfl rfl (by kernel_rfl) rfl rfl ?_)) | (refine so_is (.binOp .lss 3 _ _ _) ?_; refine so_q (qt_lss rfl rfl) rfl ?_) | (refine so_is (.load 78 _) ?_; (refine so_q (qt_load_boxs rfl rfl (by kernel_rfl : tAgg _ 78 4 = true) rfl) rfl ?_)) | refine so_nil ?_ | refine sk_seq ?_ | refine sk_exit rfl ?_ | refine sk_region ?_ | refine sk_false rfl ?_)
    all_goals first | (exfalso; omega) | skip
    (apply sk_ret; apply ret_eq; (· apply RetOK.p; (· (apply GvA.cons; (· (apply RV.cellN (n := 4); (· rfl); (· rfl); (· kernel_rfl); (· rfl))); (· (apply GvP.g; (· (apply GvL.cons (.lit _)); (apply GvL.cons (.lit _)); (apply GvL.cons (.lit _)); ((apply GvL.cons (.row _ _ _ _ rfl (by ((simp; done)))))); exact GvL.nil)))); exact GvA.nil); (· (decide))))
    rw [hL, ← wireM_end W 0]; simp

end Go.Proofs.Ytefbiejoikpkmaa

namespace Go.Proofs.Ytefbiejoikpkmaa
open Go.RowKit
set_option linter.unusedSectionVars false
variable [Glb]
set_option maxRecDepth 10000
set_option maxHeartbeats 4000000
theorem wire_p (xa ya na : Int) (la : List (List Int)) (xb yb nb : Int) (lb : List (List Int)) (f1 : List Int) (a1 s1 : List (List Int)) (f2 : List Int) (a2 s2 : List (List Int)) : PC Try.prog 154 [.g [dI xa, dI ya, dI na, eII la], .g [dI xb, dI yb, dI nb, eII lb], .g [eI f1, eII a1, eII s1], .g [eI f2, eII a2, eII s2]]
    (.t [.g [dI (whenN (wireOK xa ya na la xb yb nb lb f1 a1 s1 f2 a2 s2) 2), dI (whenN (wireOK xa ya na la xb yb nb lb f1 a1 s1 f2 a2 s2) 2), dI (whenN (wireOK xa ya na la xb yb nb lb f1 a1 s1 f2 a2 s2) (na * nb)), eII (whenL (wireOK xa ya na la xb yb nb lb f1 a1 s1 f2 a2 s2) (wiredL la lb f1 a1 s1 f2 a2 s2))], .c (dB (wireOK xa ya na la xb yb nb lb f1 a1 s1 f2 a2 s2))]) := by
  by_cases hV : pairB xa ya na la = true ∧ pairB xb yb nb lb = true ∧ ruleB f1 a1 s1 = true ∧ ruleB f2 a2 s2 = true
  · obtain ⟨v1, v2, v3, v4⟩ := hV
    obtain ⟨rfl, rfl, ha, a1', a2'⟩ := pairB_spec v1
    obtain ⟨rfl, rfl, hb, b1', b2'⟩ := pairB_spec v2
    have hw := wire_box ha hb v3 v4
    refine pc_intro Try.func154 rfl rfl rfl (by kernel_rfl) rfl rfl ?_; intro _
    repeat' (first | (refine so_is (.box 78 _) ?_; refine so_box rfl rfl ?_) | (refine so_is (.box 96 _) ?_; refine so_box rfl rfl ?_) | (refine so_is (.alloc 78) ?_; refine so_alloc (zs := [.int .i64 0, .int .i64 0, .int .i64 0, .slice none 0 0]) (by kernel_rfl) rfl ?_) | (refine so_is (.assign _) ?_; (refine so_q (qt_asC rfl) rfl ?_)) | (refine so_is (.load 78 _) ?_; (refine so_q (qt_load_boxs rfl rfl (by kernel_rfl : tAgg _ 78 4 = true) rfl) rfl ?_)) | (refine so_is (.unOp .not 4 _) ?_; refine so_q (qt_not rfl) rfl ?_) | (refine so_is (.move _) ?_; (refine so_q (qt_mvC rfl) rfl ?_)) | (refine so_is (.pick _ _ _) ?_; (refine so_q (qt_pkC rfl rfl) rfl ?_)) | (refine so_is (.load 96 _) ?_; (refine so_q (qt_load_boxs rfl rfl (by kernel_rfl : tAgg _ 96 3 = true) rfl) rfl ?_)) | (refine so_is (.build 78 _) ?_; refine so_q (qt_build (cs := [_, _, _, _]) [(0, 1), (1, 1), (2, 1), (3, 1)] [.int .i64 0, .int .i64 0, .int .i64 0, .slice none 0 0] (by kernel_rfl) (by kernel_rfl) rfl) rfl ?_) | (refine so_is (.store 78 _ _) ?_; (refine so_store_box rfl rfl rfl (by kernel_rfl) rfl rfl ?_)) | (refine so_is (.call ⟨.value (.func 158), _, _⟩) ?_; (apply so_call0 (fid := 158); (· (repeat (first | exact SeA.nil | (apply SeA.cons; (· (apply SeP.g; (repeat (first | exact SeL.nil | apply SeL.cons (.d _))))))))); (· exact isPair_p _ _ _ _); (· rfl))) | (refine so_is (.call ⟨.value (.func 206), _, _⟩) ?_; (apply so_call0 (fid := 206); (· (repeat (first | exact SeA.nil | (apply SeA.cons; (· (apply SeP.g; (repeat (first | exact SeL.nil | apply SeL.cons (.d _))))))))); (· exact IsRule_p _ _ _); (· rfl))) | (refine so_is (.call ⟨.value (.func 163), _, _⟩) ?_; (apply so_callO0 (fid := 163); (· (repeat (first | exact SeA.nil | (apply SeA.cons; (· (apply SeP.g; (repeat (first | exact SeL.nil | apply SeL.cons (.d _))))))))); (· exact wired_p _ _ _ _ _ _ _ _ _ _ ha hb v3 v4); (· rfl); (· rfl))) | (refine so_is (.call ⟨.value (.func 176), _, _⟩) ?_; (apply so_call0 (fid := 176); (· (repeat (first | exact SeA.nil | (apply SeA.cons; (· (apply SeP.g; (repeat (first | exact SeL.nil | apply SeL.cons (.d _) | apply SeL.cons (.all _ _ _ _ rfl (by ((simp; done)))))))))))); (· exact IsBox_p _ _ _ _); (· rfl))) | refine so_nil ?_ | refine so_g_no rfl rfl rfl rfl ?_ | refine so_g_yes rfl rfl rfl rfl ?_ | refine so_g_b rfl rfl (fun hg => ?_) (fun hg => ?_) | refine sk_seq ?_ | refine sk_skip ?_ | refine sk_region ?_ | refine sk_true rfl ?_ | refine sk_not rfl (fun hc => ?_) (fun hc => ?_))
    all_goals first | (exfalso; simp_all; done) | skip
    all_goals (apply sk_ret; apply ret_eq; (· apply RetOK.t; (· (apply GvA.cons; (· (apply RV.cellN (n := 4); (· rfl); (· rfl); (· kernel_rfl); (· rfl))); (· (apply GvP.g; (· (apply GvL.cons (.lit _)); (apply GvL.cons (.lit _)); (apply GvL.cons (.lit _)); ((first | apply GvL.cons (.nil 1 (by decide)) | apply GvL.cons (.row _ _ _ _ rfl (by ((simp; done)))))); exact GvL.nil)))); (apply GvA.cons; (· exact .tmp _); (· exact GvP.c (.lit _))); exact GvA.nil); (· rfl); (· (decide))))
    all_goals by_cases hle : na * nb ≤ 1000
    all_goals first | (simp [wireOK, wiresB, whenN, whenL, v1, v2, v3, v4, hle]; done) | (exfalso; simp_all; done) | (exfalso; simp_all; omega)
  · have hO : wireOK xa ya na la xb yb nb lb f1 a1 s1 f2 a2 s2 = false := by
      cases h : wireOK xa ya na la xb yb nb lb f1 a1 s1 f2 a2 s2 with
      | false => rfl
      | true => exfalso; simp only [wireOK, wiresB, Bool.and_eq_true] at h; exact hV ⟨h.1.1, h.1.2.1, h.2.1, h.2.2⟩
    refine pc_intro Try.func154 rfl rfl rfl (by kernel_rfl) rfl rfl ?_; intro _
    repeat' (first | (refine so_is (.box 78 _) ?_; refine so_box rfl rfl ?_) | (refine so_is (.box 96 _) ?_; refine so_box rfl rfl ?_) | (refine so_is (.alloc 78) ?_; refine so_alloc (zs := [.int .i64 0, .int .i64 0, .int .i64 0, .slice none 0 0]) (by kernel_rfl) rfl ?_) | (refine so_is (.assign _) ?_; (refine so_q (qt_asC rfl) rfl ?_)) | (refine so_is (.load 78 _) ?_; (refine so_q (qt_load_boxs rfl rfl (by kernel_rfl : tAgg _ 78 4 = true) rfl) rfl ?_)) | (refine so_is (.unOp .not 4 _) ?_; refine so_q (qt_not rfl) rfl ?_) | (refine so_is (.move _) ?_; (refine so_q (qt_mvC rfl) rfl ?_)) | (refine so_is (.pick _ _ _) ?_; (refine so_q (qt_pkC rfl rfl) rfl ?_)) | (refine so_is (.load 96 _) ?_; (refine so_q (qt_load_boxs rfl rfl (by kernel_rfl : tAgg _ 96 3 = true) rfl) rfl ?_)) | (refine so_is (.build 78 _) ?_; refine so_q (qt_build (cs := [_, _, _, _]) [(0, 1), (1, 1), (2, 1), (3, 1)] [.int .i64 0, .int .i64 0, .int .i64 0, .slice none 0 0] (by kernel_rfl) (by kernel_rfl) rfl) rfl ?_) | (refine so_is (.store 78 _ _) ?_; (refine so_store_box rfl rfl rfl (by kernel_rfl) rfl rfl ?_)) | (refine so_is (.call ⟨.value (.func 158), _, _⟩) ?_; (apply so_call0 (fid := 158); (· (repeat (first | exact SeA.nil | (apply SeA.cons; (· (apply SeP.g; (repeat (first | exact SeL.nil | apply SeL.cons (.d _))))))))); (· exact isPair_p _ _ _ _); (· rfl))) | (refine so_is (.call ⟨.value (.func 206), _, _⟩) ?_; (apply so_call0 (fid := 206); (· (repeat (first | exact SeA.nil | (apply SeA.cons; (· (apply SeP.g; (repeat (first | exact SeL.nil | apply SeL.cons (.d _))))))))); (· exact IsRule_p _ _ _); (· rfl))) | refine so_nil ?_ | refine so_g_no rfl rfl rfl rfl ?_ | refine so_g_yes rfl rfl rfl rfl ?_ | refine so_g_b rfl rfl (fun hg => ?_) (fun hg => ?_) | refine sk_seq ?_ | refine sk_skip ?_ | refine sk_region ?_ | refine sk_true rfl ?_ | refine sk_not rfl (fun hc => ?_) (fun hc => ?_))
    all_goals first | (exfalso; simp_all; done) | skip
    all_goals (apply sk_ret; apply ret_eq; (· apply RetOK.t; (· (apply GvA.cons; (· (apply RV.cellN (n := 4); (· rfl); (· rfl); (· kernel_rfl); (· rfl))); (· (apply GvP.g; (· (apply GvL.cons (.lit _)); (apply GvL.cons (.lit _)); (apply GvL.cons (.lit _)); ((apply GvL.cons (.nil 1 (by decide)))); exact GvL.nil)))); (apply GvA.cons; (· exact .tmp _); (· exact GvP.c (.lit _))); exact GvA.nil); (· rfl); (· (decide))))
    all_goals simp [hO, whenN, whenL]
theorem WireBoxes_p (xa ya na : Int) (la : List (List Int)) (xb yb nb : Int) (lb : List (List Int)) (f1 : List Int) (a1 s1 : List (List Int)) (f2 : List Int) (a2 s2 : List (List Int)) : PC Try.prog 78 [.g [dI xa, dI ya, dI na, eII la], .g [dI xb, dI yb, dI nb, eII lb], .g [eI f1, eII a1, eII s1], .g [eI f2, eII a2, eII s2]]
    (.t [.g [dI (whenN (wireOK xa ya na la xb yb nb lb f1 a1 s1 f2 a2 s2) 2), dI (whenN (wireOK xa ya na la xb yb nb lb f1 a1 s1 f2 a2 s2) 2), dI (whenN (wireOK xa ya na la xb yb nb lb f1 a1 s1 f2 a2 s2) (na * nb)), eII (whenL (wireOK xa ya na la xb yb nb lb f1 a1 s1 f2 a2 s2) (wiredL la lb f1 a1 s1 f2 a2 s2))], .c (dB (wireOK xa ya na la xb yb nb lb f1 a1 s1 f2 a2 s2))]) := by
  refine pc_intro Try.func78 rfl rfl rfl (by kernel_rfl) rfl rfl ?_; intro _
  repeat' (first | (refine so_is (.box 78 _) ?_; refine so_box rfl rfl ?_) | (refine so_is (.box 96 _) ?_; refine so_box rfl rfl ?_) | (refine so_is (.alloc 78) ?_; refine so_alloc (zs := [.int .i64 0, .int .i64 0, .int .i64 0, .slice none 0 0]) (by kernel_rfl) rfl ?_) | (refine so_is (.assign _) ?_; (refine so_q (qt_asC rfl) rfl ?_)) | (refine so_is (.load 78 _) ?_; (refine so_q (qt_load_boxs rfl rfl (by kernel_rfl : tAgg _ 78 4 = true) rfl) rfl ?_)) | (refine so_is (.load 96 _) ?_; (refine so_q (qt_load_boxs rfl rfl (by kernel_rfl : tAgg _ 96 3 = true) rfl) rfl ?_)) | (refine so_is (.extract _ _) ?_; refine so_q (qt_extract rfl rfl) rfl ?_) | (refine so_is (.store 78 _ _) ?_; (refine so_store_box rfl rfl rfl (by kernel_rfl) rfl rfl ?_)) | (refine so_is (.call ⟨.value (.func 154), _, _⟩) ?_; (apply so_callO0 (fid := 154); (· (repeat (first | exact SeA.nil | (apply SeA.cons; (· (apply SeP.g; (repeat (first | exact SeL.nil | apply SeL.cons (.d _))))))))); (· exact wire_p _ _ _ _ _ _ _ _ _ _ _ _ _ _); (· rfl); (· rfl))) | refine so_nil ?_ | refine sk_seq ?_ | refine sk_region ?_)
  (apply sk_ret; apply ret_eq; (· apply RetOK.t; (· (apply GvA.cons; (· (apply RV.cellN (n := 4); (· rfl); (· rfl); (· kernel_rfl); (· rfl))); (· (apply GvP.g; (· (apply GvL.cons (.lit _)); (apply GvL.cons (.lit _)); (apply GvL.cons (.lit _)); ((apply GvL.cons (.row _ _ _ _ rfl (by ((simp; done)))))); exact GvL.nil)))); (apply GvA.cons; (· exact .tmp _); (· exact GvP.c (.lit _))); exact GvA.nil); (· rfl); (· (decide))))
  rfl

end Go.Proofs.Ytefbiejoikpkmaa

namespace Go.Proofs.Ytefbiejoikpkmaa
open Go.RowKit
set_option linter.unusedSectionVars false
variable [Glb]
set_option maxRecDepth 10000
set_option maxHeartbeats 4000000
theorem SumBoxes_p (xa ya na : Int) (la : List (List Int)) (xb yb nb : Int) (lb : List (List Int)) : PC Try.prog 65 [.g [dI xa, dI ya, dI na, eII la], .g [dI xb, dI yb, dI nb, eII lb]]
    (.t [.g [dI (whenN (wiresB xa ya na la xb yb nb lb) 2), dI (whenN (wiresB xa ya na la xb yb nb lb) 2), dI (whenN (wiresB xa ya na la xb yb nb lb) (na * nb)), eII (whenL (wiresB xa ya na la xb yb nb lb) (wiredL la lb sumF sumA sumS sumF sumA sumS))], .c (dB (wiresB xa ya na la xb yb nb lb))]) := by
  have wp := wire_p xa ya na la xb yb nb lb sumF sumA sumS sumF sumA sumS
  simp only [wireOK, sum_rule, Bool.and_true] at wp
  refine pc_intro Try.func65 rfl rfl rfl (by kernel_rfl) rfl rfl ?_; intro _
  repeat' (first | (refine so_is (.box 78 _) ?_; refine so_box rfl rfl ?_) | (refine so_is (.alloc 78) ?_; refine so_alloc (zs := [.int .i64 0, .int .i64 0, .int .i64 0, .slice none 0 0]) (by kernel_rfl) rfl ?_) | (refine so_is (.assign _) ?_; (refine so_q (qt_asC rfl) rfl ?_)) | (refine so_is (.move _) ?_; (refine so_q (qt_mvT rfl) rfl ?_)) | (refine so_is (.extract _ _) ?_; refine so_q (qt_extract rfl rfl) rfl ?_) | (refine so_is (.alloc 96) ?_; refine so_alloc (zs := [.slice none 0 0, .slice none 0 0, .slice none 0 0]) (by kernel_rfl) rfl ?_) | (refine so_is (.store 96 _ _) ?_; (refine so_store_box rfl rfl rfl (by kernel_rfl) rfl rfl ?_)) | (refine so_is (.load 78 _) ?_; (refine so_q (qt_load_boxs rfl rfl (by kernel_rfl : tAgg _ 78 4 = true) rfl) rfl ?_)) | (refine so_is (.load 96 _) ?_; (refine so_q (qt_load_boxs rfl rfl (by kernel_rfl : tAgg _ 96 3 = true) rfl) rfl ?_)) | (refine so_is (.store 78 _ _) ?_; (refine so_store_box rfl rfl rfl (by kernel_rfl) rfl rfl ?_)) | (refine so_is (.call ⟨.value (.func 153), _, _⟩) ?_; ((apply so_callO0 (fid := 153); (· (repeat (first | exact SeA.nil | apply SeA.cons (.c (.d _))))); (· exact NamedRule3_p); (· rfl); (· rfl)))) | (refine so_is (.call ⟨.value (.func 154), _, _⟩) ?_; (apply so_callO0 (fid := 154); (· (repeat (first | exact SeA.nil | (apply SeA.cons; (· (apply SeP.g; (repeat (first | exact SeL.nil | apply SeL.cons (.d _) | apply SeL.cons (.all _ _ _ _ rfl (by ((simp; done)))))))))))); (· exact wp); (· rfl); (· rfl))) | refine so_nil ?_ | refine sk_seq ?_ | refine sk_region ?_)
  (apply sk_ret; apply ret_eq; (· apply RetOK.t; (· (apply GvA.cons; (· (apply RV.cellN (n := 4); (· rfl); (· rfl); (· kernel_rfl); (· rfl))); (· (apply GvP.g; (· (apply GvL.cons (.lit _)); (apply GvL.cons (.lit _)); (apply GvL.cons (.lit _)); ((apply GvL.cons (.row _ _ _ _ rfl (by ((simp; done)))))); exact GvL.nil)))); (apply GvA.cons; (· exact .tmp _); (· exact GvP.c (.lit _))); exact GvA.nil); (· rfl); (· (decide))))
  rfl

end Go.Proofs.Ytefbiejoikpkmaa

namespace Go.Proofs.Ytefbiejoikpkmaa
open Go.RowKit
set_option linter.unusedSectionVars false
variable [Glb]
set_option maxRecDepth 10000
set_option maxHeartbeats 4000000
theorem l2Bits_p (l : List Int) (n : Int) : PC Try.prog 87 [.c (eI l), .c (dI n)] (.p (.c (dB (bitsB l n)))) := by
  refine pc_intro Try.func87 rfl rfl rfl (by kernel_rfl) rfl rfl ?_; rintro ⟨hl, -⟩
  have hl := hl.len
  repeat' (first | (refine so_is (.assign _) ?_; (refine so_q (qt_asC rfl) rfl ?_)) | refine so_nil ?_ | refine sk_seq ?_ | refine sk_block ?_ | refine sk_region ?_)
  apply sk_packC [0, 1, 5] [] rfl; (· (repeat (first | exact Pf.nil | apply Pf.cons (.c rfl (.d rfl))))); (· (repeat (exact Pb.nil)))
  refine sk_loopL [0, 1] [] (fun k => [(5, iN k)]) (fun _ => []) (fun k => k ≤ l.length ∧ (l.take k).all (fun n => inB n 0 1) = true) (fun k => l.length - k) (0) ?_ (by (repeat (first | exact trivial | refine ⟨(by (rfl)), ?_⟩))) (by (repeat (exact trivial))) ?_
  · simp
  rintro k ⟨hk, ha⟩
  repeat' (first | (refine so_is (.assign _) ?_; (refine so_q (qt_asC rfl) rfl ?_)) | (refine so_is (.move _) ?_; (refine so_q (qt_mvC rfl) rfl ?_)) | (refine so_is (.call ⟨.builtin .len, _, #[24]⟩) ?_; (refine so_q (qt_len_d rfl (by kernel_rfl)) rfl ?_)) | (refine so_is (.binOp .lss 3 _ _ _) ?_; refine so_q (qt_lss rfl rfl) rfl ?_) | (refine so_is (.indexAddr 24 _ _) ?_; (refine so_q (qt_idxI rfl rfl (by kernel_rfl) (by (omega)) (by (omega))) rfl ?_)) | (refine so_is (.load 3 _) ?_; (refine so_q (qt_load_pt rfl (by kernel_rfl) rfl) rfl ?_)) | (refine so_is (.unOp .not 4 _) ?_; refine so_q (qt_not rfl) rfl ?_) | (refine so_is (.binOp .add 3 _ _ _) ?_; refine so_q (qt_addI rfl rfl (by (omega))) rfl ?_) | (refine so_is (.binOp .eql 3 _ _ _) ?_; refine so_q (qt_eql rfl rfl) rfl ?_) | (refine so_is (.call ⟨.value (.func 144), _, _⟩) ?_; (apply so_call0 (fid := 144); (· (repeat (first | exact SeA.nil | apply SeA.cons (.c (.d _))))); (· exact l1In_p _ _ _); (· rfl))) | refine so_nil ?_ | refine sk_seq ?_ | refine sk_block ?_ | refine sk_blk ?_ | refine sk_exit rfl ?_ | refine sk_skip ?_ | refine sk_region ?_ | refine sk_if rfl (fun hc => ?_) (fun hc => ?_) | refine sk_not rfl (fun hc => ?_) (fun hc => ?_))
  · rename_i hk'
    rw [atZ_nat (by omega)] at hc
    (apply sk_ret; apply ret_eq; (· apply RetOK.p; (· (apply GvA.cons; (· exact .tmp _); (· exact GvP.c (.lit _))); exact GvA.nil); (· (decide))))
    rw [bitsB, allB, all_f (by omega) hc]; simp
  · rename_i hk'
    rw [atZ_nat (by omega)] at hc
    refine sk_back ?_; refine ⟨k + 1, ?_, ?_, le_at rfl (by (repeat (first | exact trivial | refine ⟨(by (rfl)), ?_⟩))) (by (repeat (first | exact trivial | refine ⟨rfl, ?_⟩))) (by (repeat (exact trivial))) (by (repeat (exact trivial)))⟩
    · exact ⟨by omega, by rw [take_succ_all _ _ _ (by omega), ha, hc]; rfl⟩
    · omega
  · (apply sk_ret; apply ret_eq; (· apply RetOK.p; (· (apply GvA.cons; (· exact .tmp _); (· exact GvP.c (.lit _))); exact GvA.nil); (· (decide))))
    rw [bitsB, allB, all_t (by omega) ha]; simp

end Go.Proofs.Ytefbiejoikpkmaa

namespace Go.Proofs.Ytefbiejoikpkmaa
open Go.RowKit
set_option linter.unusedSectionVars false
variable [Glb]
set_option maxRecDepth 10000
set_option maxHeartbeats 4000000
theorem l10Table_p (t : List (List Int)) (n m : Int) : PC Try.prog 236 [.c (eII t), .c (dI n), .c (dI m)] (.p (.c (dB (tabB t n m)))) := by
  refine pc_intro Try.func236 rfl rfl rfl (by kernel_rfl) rfl rfl ?_; rintro ⟨hl, -⟩
  have hl := hl.len
  repeat' (first | (refine so_is (.assign _) ?_; (refine so_q (qt_asC rfl) rfl ?_)) | refine so_nil ?_ | refine sk_seq ?_ | refine sk_block ?_ | refine sk_region ?_)
  apply sk_packC [0, 1, 2, 7] [] rfl; (· (repeat (first | exact Pf.nil | apply Pf.cons (.c rfl (.d rfl))))); (· (repeat (exact Pb.nil)))
  refine sk_loopL [0, 1, 2] [] (fun k => [(7, iN k)]) (fun _ => []) (fun k => k ≤ t.length ∧ (t.take k).all (fun l => bitsB l m) = true) (fun k => t.length - k) (0) ?_ (by (repeat (first | exact trivial | refine ⟨(by (rfl)), ?_⟩))) (by (repeat (exact trivial))) ?_
  · simp
  rintro k ⟨hk, ha⟩
  repeat' (first | (refine so_is (.assign _) ?_; (refine so_q (qt_asC rfl) rfl ?_)) | (refine so_is (.move _) ?_; (refine so_q (qt_mvC rfl) rfl ?_)) | (refine so_is (.call ⟨.builtin .len, _, #[25]⟩) ?_; (refine so_q (qt_len_d rfl (by kernel_rfl)) rfl ?_)) | (refine so_is (.binOp .lss 3 _ _ _) ?_; refine so_q (qt_lss rfl rfl) rfl ?_) | (refine so_is (.indexAddr 25 _ _) ?_; (refine so_q (qt_idxII rfl rfl (by kernel_rfl) (by (omega)) (by (omega))) rfl ?_)) | (refine so_is (.load 24 _) ?_; (refine so_q (qt_load_pt rfl (by kernel_rfl) rfl) rfl ?_)) | (refine so_is (.unOp .not 4 _) ?_; refine so_q (qt_not rfl) rfl ?_) | (refine so_is (.binOp .add 3 _ _ _) ?_; refine so_q (qt_addI rfl rfl (by (omega))) rfl ?_) | (refine so_is (.binOp .eql 3 _ _ _) ?_; refine so_q (qt_eql rfl rfl) rfl ?_) | (refine so_is (.call ⟨.value (.func 87), _, _⟩) ?_; (apply so_call0 (fid := 87); (· (repeat (first | exact SeA.nil | apply SeA.cons (.c (.d _))))); (· exact l2Bits_p _ _); (· rfl))) | refine so_nil ?_ | refine sk_seq ?_ | refine sk_block ?_ | refine sk_blk ?_ | refine sk_exit rfl ?_ | refine sk_skip ?_ | refine sk_region ?_ | refine sk_if rfl (fun hc => ?_) (fun hc => ?_) | refine sk_not rfl (fun hc => ?_) (fun hc => ?_))
  · have hk2 : k < t.length := by omega
    rw [atZ_nat hk2] at hc
    (apply sk_ret; apply ret_eq; (· apply RetOK.p; (· (apply GvA.cons; (· exact .tmp _); (· exact GvP.c (.lit _))); exact GvA.nil); (· (decide))))
    simp only [tabB, all_f (p := fun l => bitsB l m) hk2 hc]; simp
  · have hk2 : k < t.length := by omega
    rw [atZ_nat hk2] at hc
    refine sk_back ?_; refine ⟨k + 1, ?_, ?_, le_at rfl (by (repeat (first | exact trivial | refine ⟨(by (rfl)), ?_⟩))) (by (repeat (first | exact trivial | refine ⟨rfl, ?_⟩))) (by (repeat (exact trivial))) (by (repeat (exact trivial)))⟩
    · exact ⟨by omega, by rw [take_succ_all _ _ _ hk2, ha, hc]; rfl⟩
    · omega
  · have : k = t.length := by omega
    subst this
    rw [List.take_length] at ha
    (apply sk_ret; apply ret_eq; (· apply RetOK.p; (· (apply GvA.cons; (· exact .tmp _); (· exact GvP.c (.lit _))); exact GvA.nil); (· (decide))))
    simp [tabB, ha]
theorem l10Rule_p (f : List Int) (a s : List (List Int)) : PC Try.prog 219 [.g [eI f, eII a, eII s]] (.p (.c (dB (ruleB f a s)))) := by
  refine pc_intro Try.func219 rfl rfl rfl (by kernel_rfl) rfl rfl ?_; intro _
  repeat' (first | (refine so_is (.box 96 _) ?_; refine so_box rfl rfl ?_) | (refine so_is (.assign _) ?_; (refine so_q (qt_asC rfl) rfl ?_)) | (refine so_is (.fieldAddr 96 _ 0) ?_; (refine so_q (qt_fld_lp (off := 0) rfl (by kernel_rfl)) rfl ?_)) | (refine so_is (.load 24 _) ?_; (refine so_q (qt_load_box rfl rfl (by kernel_rfl) rfl) rfl ?_)) | (refine so_is (.move _) ?_; (refine so_q (qt_mvC rfl) rfl ?_)) | (refine so_is (.fieldAddr 96 _ 1) ?_; (refine so_q (qt_fld_lp (off := 1) rfl (by kernel_rfl)) rfl ?_)) | (refine so_is (.load 25 _) ?_; (refine so_q (qt_load_box rfl rfl (by kernel_rfl) rfl) rfl ?_)) | (refine so_is (.pick _ _ _) ?_; (refine so_q (qt_pkC rfl rfl) rfl ?_)) | (refine so_is (.fieldAddr 96 _ 2) ?_; (refine so_q (qt_fld_lp (off := 2) rfl (by kernel_rfl)) rfl ?_)) | (refine so_is (.call ⟨.value (.func 87), _, _⟩) ?_; (apply so_call0 (fid := 87); (· (repeat (first | exact SeA.nil | apply SeA.cons (.c (.d _))))); (· exact l2Bits_p _ _); (· rfl))) | (refine so_is (.call ⟨.value (.func 236), _, _⟩) ?_; (apply so_call0 (fid := 236); (· (repeat (first | exact SeA.nil | apply SeA.cons (.c (.d _))))); (· exact l10Table_p _ _ _); (· rfl))) | refine so_nil ?_ | refine so_g_no rfl rfl rfl rfl ?_ | refine so_g_yes rfl rfl rfl rfl ?_ | refine so_g_b rfl rfl (fun hg => ?_) (fun hg => ?_) | refine sk_seq ?_ | refine sk_region ?_)
  all_goals (apply sk_ret; apply ret_eq; (· apply RetOK.p; (· (apply GvA.cons; (· exact .tmp _); (· exact GvP.c (.lit _))); exact GvA.nil); (· (decide))))
  all_goals ((simp_all [ruleB]; done))

end Go.Proofs.Ytefbiejoikpkmaa

namespace Go.Proofs.Ytefbiejoikpkmaa
open Go.RowKit
set_option linter.unusedSectionVars false
variable [Glb]
set_option maxRecDepth 10000
set_option maxHeartbeats 4000000
theorem l10Wire_p (na : Int) (la : List (List Int)) (nb : Int) (lb : List (List Int)) (f1 : List Int) (a1 s1 : List (List Int)) (f2 : List Int) (a2 s2 : List (List Int)) (ha : boxB 2 2 na la = true) (hb : boxB 2 2 nb lb = true) (h1 : ruleB f1 a1 s1 = true) (h2 : ruleB f2 a2 s2 = true) :
    PC Try.prog 156 [.g [dI 2, dI 2, dI na, eII la], .g [dI 2, dI 2, dI nb, eII lb], .g [eI f1, eII a1, eII s1], .g [eI f2, eII a2, eII s2]] (.p (.g [dI 2, dI 2, dI (na * nb), eII (wiredL la lb f1 a1 s1 f2 a2 s2)])) := by
  have pa := boxB_spec ha
  have pb := boxB_spec hb
  have n1 := pa.n1; have n2 := pa.n2; have n3 := pb.n1; have n4 := pb.n2; have n5 := pa.len; have n6 := pb.len
  have nn : 0 ≤ na * nb ∧ na * nb ≤ 1000000 := ⟨Int.mul_nonneg (by omega) (by omega), Int.le_trans (Int.mul_le_mul n2 n4 (by omega) (by omega)) (by decide)⟩
  have r1 := ruleB_spec h1
  have r2 := ruleB_spec h2
  have q1 := r1.fl; have q2 := r1.al; have q3 := r1.sl; have q4 := r2.fl; have q5 := r2.al; have q6 := r2.sl
  obtain ⟨W, hW⟩ : ∃ W : Nat → Nat → Nat → Nat → Int, W = wP la lb f1 a1 s1 f2 a2 s2 := ⟨_, rfl⟩
  have hL : wiredL la lb f1 a1 s1 f2 a2 s2 = boxF (fun x y p => W x y 16 p) 2 4 := by rw [hW]; rfl
  have W0 : ∀ x y, rowF (W x y 0) 4 = [0, 0, 0, 0] := fun x y => by rw [hW]; rfl
  have step := fun (x y k n : Nat) hx hy hk hn => wP_step ha hb h1 h2 (x := x) (y := y) (k := k) (n := n) hx hy hk hn
  rw [← hW] at step
  refine pc_intro Try.func156 rfl rfl rfl (by kernel_rfl) rfl rfl ?_; intro _
  repeat' (first | (refine so_is (.box 78 _) ?_; refine so_box rfl rfl ?_) | (refine so_is (.box 96 _) ?_; refine so_box rfl rfl ?_) | (refine so_is (.alloc 78) ?_; refine so_alloc (zs := [.int .i64 0, .int .i64 0, .int .i64 0, .slice none 0 0]) (by kernel_rfl) rfl ?_) | (refine so_is (.fieldAddr 78 _ 2) ?_; (refine so_q (qt_fld_lp (off := 2) rfl (by kernel_rfl)) rfl ?_)) | (refine so_is (.load 3 _) ?_; (refine so_q (qt_load_box rfl rfl (by kernel_rfl) rfl) rfl ?_)) | (refine so_is (.binOp .mul 3 _ _ _) ?_; refine so_q (qt_mulI rfl rfl (by (omega))) rfl ?_) | (refine so_is (.buildSlice 25 0 _) ?_; (apply so_bslice (sz := 1) (by_ := 24); (· kernel_rfl); (· decide); (· (repeat (exact GvS.nil _))); (· (decide)); (· rfl); (· rfl); (· rfl))) | (refine so_is (.build 78 _) ?_; refine so_q (qt_build (cs := [_, _, _, _]) [(0, 1), (1, 1), (2, 1), (3, 1)] [.int .i64 0, .int .i64 0, .int .i64 0, .slice none 0 0] (by kernel_rfl) (by kernel_rfl) rfl) rfl ?_) | (refine so_is (.store 78 _ _) ?_; (refine so_store_box rfl rfl rfl (by kernel_rfl) rfl rfl ?_)) | (refine so_is (.assign _) ?_; (refine so_q (qt_asC rfl) rfl ?_)) | refine so_nil ?_ | refine sk_seq ?_ | refine sk_block ?_ | refine sk_region ?_)
  apply sk_packC [4, 5, 6, 7, 8, 9, 10] [4, 5, 6, 7, 8, 9, 23, 33, 45, 69, 122, 123] rfl; (· (repeat (first | exact Pf.nil | apply Pf.cons (.c rfl (.d rfl)) | apply Pf.cons (.c rfl (.lp rfl))))); (· (repeat (first | exact Pb.nil | apply Pb.cons (.row rfl) | (apply Pb.cons; (· apply Nb.box rfl; (repeat (first | exact Ncs.nil rfl | (apply Ncs.cons rfl; (· (first | exact .d rfl | exact .ls rfl))))))) | apply Pb.skip)))
  refine sk_loopL [4, 5, 6, 7, 8, 9] [4, 5, 6, 7, 8, 33, 45, 69, 122, 123] (fun x => [(10, iN x)]) (fun x => [(9, .box [.d (dI 2), .d (dI 2), .d (dI (na * nb)), .ls 23 1 0 (2 * x)]), (23, .row 1 (cII (boxF (fun x y p => W x y 16 p) 2 (2 * x))))]) (fun x => x ≤ 2) (fun x => 2 - x) (0) ?_ (by (repeat (first | exact trivial | refine ⟨(by (rfl)), ?_⟩))) (by (repeat (first | exact trivial | refine ⟨(by (first | (refine row_eq rfl ?_; simp  [boxF]; done) | (refine box_eq rfl ?_; simp  [boxF]; done))), ?_⟩))) ?_
  · omega
  intro x hx
  by_cases hx2 : x < 2
  · have fx := r1.fb x (by omega) (by omega)
    repeat' (first | (refine so_is (.store 78 _ _) ?_; (refine so_store_box rfl rfl rfl (by kernel_rfl) rfl rfl ?_)) | (refine so_is (.assign _) ?_; (refine so_q (qt_asC rfl) rfl ?_)) | (refine so_is (.move _) ?_; (refine so_q (qt_mvC rfl) rfl ?_)) | (refine so_is (.binOp .lss 3 _ _ _) ?_; refine so_q (qt_lss rfl rfl) rfl ?_) | (refine so_is (.load 78 _) ?_; (refine so_q (qt_load_boxs rfl rfl (by kernel_rfl : tAgg _ 78 4 = true) rfl) rfl ?_)) | refine so_nil ?_ | refine sk_seq ?_ | refine sk_block ?_ | refine sk_exit rfl ?_ | refine sk_skip ?_ | refine sk_region ?_ | refine sk_if rfl (fun hc => ?_) (fun hc => ?_))
    · apply sk_packC [4, 5, 6, 7, 8, 9, 10, 11] [4, 5, 6, 7, 8, 9, 23, 33, 45, 69, 122, 123] rfl; (· (repeat (first | exact Pf.nil | apply Pf.cons (.c rfl (.d rfl)) | apply Pf.cons (.c rfl (.lp rfl))))); (· (repeat (first | exact Pb.nil | apply Pb.cons (.row rfl) | (apply Pb.cons; (· apply Nb.box rfl; (repeat (first | exact Ncs.nil rfl | (apply Ncs.cons rfl; (· (first | exact .d rfl | exact .ls rfl))))))) | apply Pb.skip)))
      refine sk_loopL [4, 5, 6, 7, 8, 9, 10] [4, 5, 6, 7, 8, 33, 45, 69, 122, 123] (fun y => [(11, iN y)]) (fun y => [(9, .box [.d (dI 2), .d (dI 2), .d (dI (na * nb)), .ls 23 1 0 (2 * x + y)]), (23, .row 1 (cII (boxF (fun x y p => W x y 16 p) 2 (2 * x + y))))]) (fun y => y ≤ 2) (fun y => 2 - y) (0) ?_ (by (repeat (first | exact trivial | refine ⟨(by (rfl)), ?_⟩))) (by (repeat (first | exact trivial | refine ⟨(by (first | (refine row_eq rfl ?_; simp; done) | (refine box_eq rfl ?_; simp; done))), ?_⟩))) ?_
      · omega
      intro y hy
      by_cases hy2 : y < 2
      · have fy := r2.fb y (by omega) (by omega)
        have ra := boxB_at ha (q := atZ f1 x * 2 + atZ f2 y) (by omega) (by omega)
        repeat' (first | (with_reducible apply so_lt) | intro Y hY | ((with_reducible apply so_j2); (· assumption); (· rfl); (· exact (by (repeat (first | exact trivial | refine ⟨rfl, ?_⟩)))); (· exact (by (repeat (first | exact trivial | refine ⟨rfl, ?_⟩))))) | ((with_reducible apply so_j1); (· rfl); (· (repeat (first | exact Pf.nil | apply Pf.cons (.c rfl (.d rfl)) | apply Pf.cons (.c rfl (.ls rfl)) | apply Pf.cons (.c rfl (.lp rfl))))); (· (repeat (first | exact Pb.nil | apply Pb.cons (.row rfl) | (apply Pb.cons; (· apply Nb.box rfl; (repeat (first | exact Ncs.nil rfl | (apply Ncs.cons rfl; (· (first | exact .d rfl | exact .ls rfl))))))) | apply Pb.skip))); (· assumption)) | refine so_alt ?_ ?_ | (refine so_is (.load 3 _) ?_; (refine so_q (qt_load_pt rfl (by kernel_rfl) rfl) rfl ?_)) | (refine so_is (.assign _) ?_; (refine so_q (qt_asC rfl) rfl ?_)) | (refine so_is (.move _) ?_; (refine so_q (qt_mvC rfl) rfl ?_)) | (refine so_is (.binOp .lss 3 _ _ _) ?_; refine so_q (qt_lss rfl rfl) rfl ?_) | (refine so_is (.makeSlice 24 _ _) ?_; (refine so_make (by_ := 8) (z := .int .i64 0) (y := .lit (.int .i64 0)) rfl rfl (by kernel_rfl) (by kernel_rfl) rfl (fun _ => .lit _ rfl) (by (omega)) (by (omega)) (by (omega)) rfl ?_)) | (refine so_is (.load 78 _) ?_; (refine so_q (qt_load_boxs rfl rfl (by kernel_rfl : tAgg _ 78 4 = true) rfl) rfl ?_)) | (refine so_is (.fieldAddr 96 _ 0) ?_; (refine so_q (qt_fld_lp (off := 0) rfl (by kernel_rfl)) rfl ?_)) | (refine so_is (.load 24 _) ?_; (refine so_q (qt_load_box rfl rfl (by kernel_rfl) rfl) rfl ?_)) | (refine so_is (.indexAddr 24 _ _) ?_; (refine so_q (qt_idxI rfl rfl (by kernel_rfl) (by (omega)) (by (omega))) rfl ?_)) | (refine so_is (.binOp .add 3 _ _ _) ?_; refine so_q (qt_addI rfl rfl (by (omega))) rfl ?_) | (refine so_is (.call ⟨.value (.func 207), _, _⟩) ?_; (apply so_callV (fid := 207); (· (repeat (first | exact SdA.nil | apply SdA.c rfl | (apply SdA.g rfl; (· (repeat (first | exact SdL.nil | apply SdL.cons))))))); (· exact l2Row_v _ _ _ _ _ _ (by omega) (by omega) (by omega) (by omega) (by omega)); (· rfl))) | refine so_nil ?_ | refine sk_seq ?_ | refine sk_block ?_ | refine sk_blk ?_ | refine sk_exit rfl ?_ | refine sk_skip ?_ | refine sk_region ?_ | refine sk_drawQ 8 (fun _ => false) (IT.lt .nil fun Y0 => (.step 1 true (.step 2 true (.step 3 true (.step 4 true (.step 5 true (.step 6 true (.step 7 true (.step 8 true (.step 9 true (.step 10 true (.step 11 true (.alt 8 (.step 0 false (.step 12 false (.step 13 true (.step 14 true (IT.ref true [4, 5, 6, 7, 8, 9, 10, 11, 12, 13] [4, 5, 6, 7, 8, 23, 9, 33, 45] Y0))))) (.step 12 false (.step 0 false (.step 13 true (.step 14 true (IT.ref false [4, 5, 6, 7, 8, 9, 10, 11, 12, 13] [4, 5, 6, 7, 8, 23, 9, 33, 45] Y0)))))))))))))))))) [(0, 32767, 32767, false), (0, 32767, 32767, false), (0, 32767, 32767, true), (4, 32763, 32767, false), (0, 32767, 32767, true), (24, 32743, 32767, true), (32, 32735, 32767, false), (0, 32767, 32767, true), (128, 32639, 32767, false), (0, 32767, 32767, true), (768, 31999, 32767, true), (1024, 31743, 32767, false), (2114, 30653, 32767, false), (4097, 32766, 32767, true), (16383, 28671, 32767, true)] (by kernel_rfl) (by kernel_rfl) ?_ | refine sk_if rfl (fun hc => ?_) (fun hc => ?_))
        all_goals first | (exfalso; omega) | skip
        apply sk_packC [4, 5, 6, 7, 8, 9, 10, 11, 12, 13, 14] [4, 5, 6, 7, 8, 9, 23, 33, 45, 69, 122, 123] rfl; (· (repeat (first | exact Pf.nil | apply Pf.cons (.c rfl (.d rfl)) | apply Pf.cons (.c rfl (.ls rfl)) | apply Pf.cons (.c rfl (.lp rfl))))); (· (repeat (first | exact Pb.nil | apply Pb.cons (.row rfl) | (apply Pb.cons; (· apply Nb.box rfl; (repeat (first | exact Ncs.nil rfl | (apply Ncs.cons rfl; (· (first | exact .d rfl | exact .ls rfl))))))) | apply Pb.skip)))
        refine sk_loopL [4, 5, 6, 7, 8, 9, 10, 11, 12, 13] [4, 5, 6, 7, 8, 23, 9, 45, 69, 122, 123] (fun k => [(14, iN k)]) (fun k => [(33, .row 1 (cI (rowF (W x y (4 * k)) 4)))]) (fun k => k ≤ 4) (fun k => 4 - k) (0) ?_ (by (repeat (first | exact trivial | refine ⟨(by (rfl)), ?_⟩))) (by (repeat (first | exact trivial | refine ⟨(by ((refine row_eq rfl ?_; simp  [W0]; done))), ?_⟩))) ?_
        · omega
        intro k hk
        by_cases hk4 : k < 4
        · have ax := r1.ask (x := x) (i := (k : Int) / 2) (by omega) (by omega) (by omega) (by omega)
          have ay := r2.ask (x := y) (i := (k : Int) % 2) (by omega) (by omega) (by omega) (by omega)
          have rb := boxB_at hb (q := atZ (atZ a1 x) ((k : Int) / 2) * 2 + atZ (atZ a2 y) ((k : Int) % 2)) (by omega) (by omega)
          have va := ra.2 k (by omega) (by omega)
          repeat' (first | (refine so_is (.load 3 _) ?_; (refine so_q (qt_load_pt rfl (by kernel_rfl) rfl) rfl ?_)) | (refine so_is (.assign _) ?_; (refine so_q (qt_asC rfl) rfl ?_)) | (refine so_is (.move _) ?_; (refine so_q (qt_mvC rfl) rfl ?_)) | (refine so_is (.binOp .lss 3 _ _ _) ?_; refine so_q (qt_lss rfl rfl) rfl ?_) | (refine so_is (.load 78 _) ?_; (refine so_q (qt_load_boxs rfl rfl (by kernel_rfl : tAgg _ 78 4 = true) rfl) rfl ?_)) | (refine so_is (.load 24 _) ?_; (refine so_q (qt_load_pt rfl (by kernel_rfl) rfl) rfl ?_)) | (refine so_is (.indexAddr 24 _ _) ?_; (refine so_q (qt_idxI rfl rfl (by kernel_rfl) (by (omega)) (by (omega))) rfl ?_)) | (refine so_is (.fieldAddr 96 _ 1) ?_; (refine so_q (qt_fld_lp (off := 1) rfl (by kernel_rfl)) rfl ?_)) | (refine so_is (.load 25 _) ?_; (refine so_q (qt_load_box rfl rfl (by kernel_rfl) rfl) rfl ?_)) | (refine so_is (.indexAddr 25 _ _) ?_; (refine so_q (qt_idxII rfl rfl (by kernel_rfl) (by (omega)) (by (omega))) rfl ?_)) | (refine so_is (.binOp .shr 3 _ _ _) ?_; refine so_q (qt_shrC (c := 2) rfl rfl (by decide)) rfl ?_) | (refine so_is (.binOp .and 3 _ _ _) ?_; refine so_q (qt_andM 1 (c := 2) rfl rfl (by decide)) rfl ?_) | (refine so_is (.binOp .add 3 _ _ _) ?_; refine so_q (qt_addI rfl rfl (by (omega))) rfl ?_) | (refine so_is (.fieldAddr 78 _ 3) ?_; (refine so_q (qt_fld_lp (off := 3) rfl (by kernel_rfl)) rfl ?_)) | (refine so_is (.buildSlice 25 1 _) ?_; (apply so_bslice (sz := 1) (by_ := 24); (· kernel_rfl); (· decide); (· (repeat (first | exact GvS.nil _ | apply GvS.c rfl rfl (.row _ _ _ _ rfl (by ((simp; done)))) rfl))); (· (decide)); (· rfl); (· rfl); (· rfl))) | (refine so_is (.call ⟨.builtin .append, _, #[25, 25]⟩) ?_; ((apply so_appR (sz := 1) (by_ := 24); (· rfl); (· rfl); (· ((simp; done))); (· exact .row _ _ _ _ rfl (by ((simp; done)))); (· (decide)); (· kernel_rfl); (· decide); (· (omega)); (· (omega)); (· rfl); (· rfl); (· rfl)))) | (refine so_is (.store 25 _ _) ?_; (refine so_store_box1 rfl rfl rfl rfl (by kernel_rfl) rfl rfl ?_)) | (refine so_is (.call ⟨.value (.func 207), _, _⟩) ?_; (apply so_callV (fid := 207); (· (repeat (first | exact SdA.nil | apply SdA.c rfl | (apply SdA.g rfl; (· (repeat (first | exact SdL.nil | apply SdL.cons))))))); (· exact l2Row_v _ _ _ _ _ _ (by omega) (by omega) (by omega) (by omega) (by omega)); (· rfl))) | refine so_nil ?_ | refine sk_seq ?_ | refine sk_block ?_ | refine sk_blk ?_ | refine sk_exit rfl ?_ | refine sk_skip ?_ | refine sk_region ?_ | refine sk_drawQ 12 (fun _ => false) (.step 0 true (.step 1 true (.step 2 true (.step 3 true (.step 4 true (.step 5 true (.step 6 true (.step 7 true (.step 8 true (.step 9 true (.step 10 true (.step 11 true (.step 12 true (.step 13 true (.step 14 true (.step 15 true (.step 16 true (.step 17 true (.step 18 true (.step 19 false (.step 20 true .nil))))))))))))))))))))) [(0, 2097151, 2097151, false), (0, 2097151, 2097151, true), (2, 2097149, 2097151, false), (0, 2097151, 2097151, true), (12, 2097139, 2097151, true), (16, 2097135, 2097151, false), (0, 2097151, 2097151, true), (64, 2097087, 2097151, true), (160, 2096991, 2097151, true), (256, 2096895, 2097151, false), (0, 2097151, 2097151, true), (1024, 2096127, 2097151, false), (0, 2097151, 2097151, true), (6144, 2091007, 2097151, true), (8192, 2088959, 2097151, false), (0, 2097151, 2097151, true), (32768, 2064383, 2097151, true), (81920, 2015231, 2097151, true), (131072, 1966079, 2097151, false), (262657, 1834494, 2097151, false), (1048575, 1572863, 2097151, true)] (by kernel_rfl) (by kernel_rfl) ?_ | refine sk_if rfl (fun hc => ?_) (fun hc => ?_))
          all_goals first | (exfalso; omega) | skip
          apply sk_packC [4, 5, 6, 7, 8, 9, 10, 11, 12, 13, 14, 15, 16] [4, 5, 6, 7, 8, 9, 23, 33, 45, 69, 122, 123] rfl; (· (repeat (first | exact Pf.nil | apply Pf.cons (.c rfl (.d rfl)) | apply Pf.cons (.c rfl (.ls rfl)) | apply Pf.cons (.c rfl (.lp rfl))))); (· (repeat (first | exact Pb.nil | apply Pb.cons (.row rfl) | (apply Pb.cons; (· apply Nb.box rfl; (repeat (first | exact Ncs.nil rfl | (apply Ncs.cons rfl; (· (first | exact .d rfl | exact .ls rfl))))))) | apply Pb.skip)))
          refine sk_loopL [4, 5, 6, 7, 8, 9, 10, 11, 12, 13, 14, 15] [4, 5, 6, 7, 8, 23, 9, 45, 69, 122, 123] (fun n => [(16, iN n)]) (fun n => [(33, .row 1 (cI (rowF (W x y (4 * k + n)) 4)))]) (fun n => n ≤ 4) (fun n => 4 - n) (0) ?_ (by (repeat (first | exact trivial | refine ⟨(by (rfl)), ?_⟩))) (by (repeat (first | exact trivial | refine ⟨(by ((refine row_eq rfl ?_; simp; done))), ?_⟩))) ?_
          · omega
          intro n hn
          by_cases hn4 : n < 4
          · obtain ⟨s, v, e1, e2, e3, e4, e5, e6⟩ := step x y k n hx2 hy2 hk4 hn4
            have sx := r1.say (x := x) (i := 2 * ((k : Int) / 2) + (n : Int) / 2) (by omega) (by omega) (by omega) (by omega)
            have sy := r2.say (x := y) (i := 2 * ((k : Int) % 2) + (n : Int) % 2) (by omega) (by omega) (by omega) (by omega)
            have vb := rb.2 n (by omega) (by omega)
            have ev : atZ (rowF (W x y (4 * k + n)) 4) (2 * atZ (atZ s1 x) (2 * ((k : Int) / 2) + (n : Int) / 2) + atZ (atZ s2 y) (2 * ((k : Int) % 2) + (n : Int) % 2)) = W x y (4 * k + n) s := by rw [e1, rowF_atZ _ e2]
            rw [← ev] at e5 e6
            rw [← e3] at e4 e5
            repeat' (first | (refine so_is (.load 3 _) ?_; (first | refine so_q (qt_load_pt rfl (by kernel_rfl) rfl) rfl ?_ | refine so_q (qt_load_rowI rfl rfl (by kernel_rfl) (by (omega)) (by ((simp only [List.length_map, List.length_append, List.length_replicate, fillL_len, rowF_len, gridF_len, mkI_len, mkII_len, partZ_min] at *; omega)))) rfl ?_)) | (refine so_is (.binOp .mul 3 _ _ _) ?_; refine so_q (qt_mulI rfl rfl (by (omega))) rfl ?_) | (refine so_is (.assign _) ?_; (refine so_q (qt_asC rfl) rfl ?_)) | (refine so_is (.move _) ?_; (refine so_q (qt_mvC rfl) rfl ?_)) | (refine so_is (.binOp .lss 3 _ _ _) ?_; refine so_q (qt_lss rfl rfl) rfl ?_) | (refine so_is (.load 24 _) ?_; (refine so_q (qt_load_pt rfl (by kernel_rfl) rfl) rfl ?_)) | (refine so_is (.indexAddr 24 _ _) ?_; (first | refine so_q (qt_idxI rfl rfl (by kernel_rfl) (by (omega)) (by (omega))) rfl ?_ | refine so_q (qt_idx_ls rfl rfl (by kernel_rfl : tSl _ 24 1 = true) (by (omega)) (by (omega))) rfl ?_)) | (refine so_is (.load 25 _) ?_; (refine so_q (qt_load_box rfl rfl (by kernel_rfl) rfl) rfl ?_)) | (refine so_is (.indexAddr 25 _ _) ?_; (refine so_q (qt_idxII rfl rfl (by kernel_rfl) (by (omega)) (by (omega))) rfl ?_)) | (refine so_is (.binOp .shr 3 _ _ _) ?_; refine so_q (qt_shrC (c := 2) rfl rfl (by decide)) rfl ?_) | (refine so_is (.binOp .and 3 _ _ _) ?_; refine so_q (qt_andM 1 (c := 2) rfl rfl (by decide)) rfl ?_) | (refine so_is (.fieldAddr 96 _ 2) ?_; (refine so_q (qt_fld_lp (off := 2) rfl (by kernel_rfl)) rfl ?_)) | (refine so_is (.binOp .add 3 _ _ _) ?_; refine so_q (qt_addI rfl rfl (by (omega))) rfl ?_) | (refine so_is (.store 3 _ _) ?_; ((refine so_store_row rfl rfl rfl rfl (.lit _) (by simp) (by simp) (by kernel_rfl) (by ((simp only [List.length_map, List.length_append, List.length_replicate, fillL_len, rowF_len, gridF_len, mkI_len, mkII_len, partZ_min] at *; omega))) rfl ?_; simp only [St.drop]))) | refine so_nil ?_ | refine sk_seq ?_ | refine sk_block ?_ | refine sk_blk ?_ | refine sk_exit rfl ?_ | refine sk_skip ?_ | refine sk_region ?_ | refine sk_drawQ 16 (fun _ => false) (.step 0 true (.step 1 true (.step 2 true (.step 3 true (.step 4 true (.step 5 true (.step 6 true (.step 7 true (.step 8 true (.step 9 true (.step 10 true (.step 11 true (.step 12 true (.step 13 true (.step 14 true (.step 15 true (.step 16 true (.step 17 true (.step 18 true (.step 19 true (.step 20 true (.step 21 true (.step 22 true (.step 23 true (.step 24 true (.step 25 true (.step 26 true (.step 27 true (.step 28 true .nil))))))))))))))))))))))))))))) [(0, 536870911, 536870911, true), (1, 536870910, 536870911, false), (0, 536870911, 536870911, true), (6, 536870905, 536870911, true), (8, 536870903, 536870911, false), (0, 536870911, 536870911, true), (32, 536870879, 536870911, true), (64, 536870847, 536870911, true), (0, 536870911, 536870911, true), (256, 536870655, 536870911, true), (640, 536870271, 536870911, true), (1040, 536869871, 536870911, true), (2048, 536868863, 536870911, false), (4096, 536866815, 536870911, true), (0, 536870911, 536870911, true), (16384, 536854527, 536870911, false), (0, 536870911, 536870911, true), (98304, 536772607, 536870911, true), (131072, 536739839, 536870911, false), (0, 536870911, 536870911, true), (524288, 536346623, 536870911, true), (1048576, 535822335, 536870911, true), (0, 536870911, 536870911, true), (4194304, 532676607, 536870911, true), (10485760, 526385151, 536870911, true), (17039360, 519831551, 536870911, true), (33554432, 503316479, 536870911, false), (67117056, 469753855, 536870911, true), (268435455, 402653183, 536870911, true)] (by kernel_rfl) (by kernel_rfl) ?_ | refine sk_drawQ 17 (fun i => i == 17) (.step 0 true (.step 1 true (.step 2 true (.step 3 true (.step 4 true (.step 5 true (.step 6 true (.step 7 true (.step 8 true (.step 9 true (.step 10 true (.step 11 true (.step 12 true (.step 13 true (.step 14 true (.step 15 true (.step 16 true (.step 17 false .nil)))))))))))))))))) [(0, 262143, 262143, true), (0, 262143, 262143, true), (0, 262143, 262143, true), (0, 262143, 262143, true), (12, 262131, 262143, true), (16, 262127, 262143, false), (0, 262143, 262143, true), (0, 262143, 262143, true), (192, 261951, 262143, true), (256, 261887, 262143, false), (0, 262143, 262143, true), (0, 262143, 262143, true), (3072, 259071, 262143, true), (4096, 258047, 262143, false), (8704, 253439, 262143, true), (16416, 245727, 262143, true), (65535, 262140, 262143, true), (131071, 163839, 262143, false)] (by kernel_rfl) (by kernel_rfl) ?_ | refine sk_if rfl (fun hc => ?_) (fun hc => ?_))
            all_goals first | (exfalso; omega) | skip
            refine sk_back ?_; refine ⟨n + 1, ?_, ?_, le_at rfl (by (repeat (first | exact trivial | refine ⟨(by (rfl)), ?_⟩))) (by (repeat (first | exact trivial | refine ⟨rfl, ?_⟩))) (by (repeat (first | exact trivial | refine ⟨(by ((refine row_eq rfl ?_; simp  [← Nat.add_assoc, ← e5, e1, List.map_set]; done))), ?_⟩))) (by (repeat (first | exact trivial | refine ⟨.inr rfl, ?_⟩)))⟩
            · omega
            · omega
          · have h8 : n = 4 := by omega
            subst h8
            repeat' (first | (refine so_is (.assign _) ?_; (refine so_q (qt_asC rfl) rfl ?_)) | (refine so_is (.move _) ?_; (refine so_q (qt_mvC rfl) rfl ?_)) | (refine so_is (.binOp .lss 3 _ _ _) ?_; refine so_q (qt_lss rfl rfl) rfl ?_) | (refine so_is (.binOp .add 3 _ _ _) ?_; refine so_q (qt_addI rfl rfl (by (omega))) rfl ?_) | refine so_nil ?_ | refine sk_seq ?_ | refine sk_blk ?_ | refine sk_exit rfl ?_ | refine sk_region ?_ | refine sk_false rfl ?_)
            all_goals first | (exfalso; omega) | skip
            refine sk_back ?_; refine ⟨k + 1, ?_, ?_, le_at rfl (by (repeat (first | exact trivial | refine ⟨(by (rfl)), ?_⟩))) (by (repeat (first | exact trivial | refine ⟨rfl, ?_⟩))) (by (repeat (first | exact trivial | refine ⟨(by ((refine row_eq rfl ?_; simp  [Nat.mul_add]; done))), ?_⟩))) (by (repeat (first | exact trivial | refine ⟨.inr rfl, ?_⟩)))⟩
            · omega
            · omega
        · have h8 : k = 4 := by omega
          subst h8
          repeat' (first | (refine so_is (.assign _) ?_; (refine so_q (qt_asC rfl) rfl ?_)) | (refine so_is (.move _) ?_; (refine so_q (qt_mvC rfl) rfl ?_)) | (refine so_is (.binOp .lss 3 _ _ _) ?_; refine so_q (qt_lss rfl rfl) rfl ?_) | (refine so_is (.load 25 _) ?_; (refine so_q (qt_load_box rfl rfl (by kernel_rfl) rfl) rfl ?_)) | (refine so_is (.binOp .add 3 _ _ _) ?_; refine so_q (qt_addI rfl rfl (by (omega))) rfl ?_) | (refine so_is (.fieldAddr 78 _ 3) ?_; (refine so_q (qt_fld_lp (off := 3) rfl (by kernel_rfl)) rfl ?_)) | (refine so_is (.buildSlice 25 1 _) ?_; (apply so_bslice (sz := 1) (by_ := 24); (· kernel_rfl); (· decide); (· (repeat (first | exact GvS.nil _ | apply GvS.c rfl rfl (.row _ _ _ _ rfl (by ((simp; done)))) rfl))); (· (decide)); (· rfl); (· rfl); (· rfl))) | (refine so_is (.call ⟨.builtin .append, _, #[25, 25]⟩) ?_; ((apply so_appR (sz := 1) (by_ := 24); (· rfl); (· rfl); (· ((simp; done))); (· exact .row _ _ _ _ rfl (by ((simp; done)))); (· (decide)); (· kernel_rfl); (· decide); (· (omega)); (· (omega)); (· rfl); (· rfl); (· rfl)))) | (refine so_is (.store 25 _ _) ?_; (refine so_store_box1 rfl rfl rfl rfl (by kernel_rfl) rfl rfl ?_)) | refine so_nil ?_ | refine sk_seq ?_ | refine sk_blk ?_ | refine sk_exit rfl ?_ | refine sk_region ?_ | refine sk_false rfl ?_)
          all_goals first | (exfalso; omega) | skip
          refine sk_back ?_; refine ⟨y + 1, ?_, ?_, le_at rfl (by (repeat (first | exact trivial | refine ⟨(by (rfl)), ?_⟩))) (by (repeat (first | exact trivial | refine ⟨rfl, ?_⟩))) (by (repeat (first | exact trivial | refine ⟨(by (first | (refine row_eq rfl ?_; simp  [boxF_snoc _ _ _ _ hy2]; done) | rfl)), ?_⟩))) (by (repeat (first | exact trivial | refine ⟨.inr rfl, ?_⟩)))⟩
          · omega
          · omega
      · have h8 : y = 2 := by omega
        subst h8
        repeat' (first | (refine so_is (.assign _) ?_; (refine so_q (qt_asC rfl) rfl ?_)) | (refine so_is (.move _) ?_; (refine so_q (qt_mvC rfl) rfl ?_)) | (refine so_is (.binOp .lss 3 _ _ _) ?_; refine so_q (qt_lss rfl rfl) rfl ?_) | (refine so_is (.binOp .add 3 _ _ _) ?_; refine so_q (qt_addI rfl rfl (by (omega))) rfl ?_) | refine so_nil ?_ | refine sk_seq ?_ | refine sk_blk ?_ | refine sk_exit rfl ?_ | refine sk_region ?_ | refine sk_false rfl ?_)
        all_goals first | (exfalso; omega) | skip
        refine sk_back ?_; refine ⟨x + 1, ?_, ?_, le_at rfl (by (repeat (first | exact trivial | refine ⟨(by (rfl)), ?_⟩))) (by (repeat (first | exact trivial | refine ⟨rfl, ?_⟩))) (by (repeat (first | exact trivial | refine ⟨(by (first | (refine row_eq rfl ?_; simp  [Nat.mul_add]; done) | (refine box_eq rfl ?_; simp  [Nat.mul_add]; done))), ?_⟩))) (by (repeat (first | exact trivial | refine ⟨.inr rfl, ?_⟩)))⟩
        · omega
        · omega
    · exfalso; omega
  · have h8 : x = 2 := by omega
    subst h8
    repeat' (first | (refine so_is (.store 78 _ _) ?_; (refine so_store_box rfl rfl rfl (by kernel_rfl) rfl rfl ?_)) | (refine so_is (.move _) ?_; (refine so_q (qt_mvC rfl) rfl ?_)) | (refine so_is (.binOp .lss 3 _ _ _) ?_; refine so_q (qt_lss rfl rfl) rfl ?_) | (refine so_is (.load 78 _) ?_; (refine so_q (qt_load_boxs rfl rfl (by kernel_rfl : tAgg _ 78 4 = true) rfl) rfl ?_)) | refine so_nil ?_ | refine sk_seq ?_ | refine sk_exit rfl ?_ | refine sk_region ?_ | refine sk_false rfl ?_)
    all_goals first | (exfalso; omega) | skip
    (apply sk_ret; apply ret_eq; (· apply RetOK.p; (· (apply GvA.cons; (· (apply RV.cellN (n := 4); (· rfl); (· rfl); (· kernel_rfl); (· rfl))); (· (apply GvP.g; (· (apply GvL.cons (.lit _)); (apply GvL.cons (.lit _)); (apply GvL.cons (.lit _)); ((apply GvL.cons (.row _ _ _ _ rfl (by ((simp; done)))))); exact GvL.nil)))); exact GvA.nil); (· (decide))))
    rw [hL]; simp

end Go.Proofs.Ytefbiejoikpkmaa

namespace Go.Proofs.Ytefbiejoikpkmaa
open Go.RowKit
set_option linter.unusedSectionVars false
variable [Glb]
set_option maxRecDepth 10000
set_option maxHeartbeats 4000000
theorem l10Both_p (xa ya na : Int) (la : List (List Int)) (xb yb nb : Int) (lb : List (List Int)) : PC Try.prog 155 [.g [dI xa, dI ya, dI na, eII la], .g [dI xb, dI yb, dI nb, eII lb]] (.p (.c (dB (wiresB xa ya na la xb yb nb lb)))) := by
  have hm : pairB xa ya na la = true → pairB xb yb nb lb = true → 0 ≤ na * nb ∧ na * nb ≤ 1000000 := fun h1 h2 => mul_whole (pairB_spec h1).2.2.2 (pairB_spec h2).2.2.2
  cases h1 : pairB xa ya na la with
  | false =>
    refine pc_intro Try.func155 rfl rfl rfl (by kernel_rfl) rfl rfl ?_; intro _
    repeat' (first | (refine so_is (.box 78 _) ?_; refine so_box rfl rfl ?_) | (refine so_is (.assign _) ?_; (refine so_q (qt_asC rfl) rfl ?_)) | (refine so_is (.load 78 _) ?_; (refine so_q (qt_load_boxs rfl rfl (by kernel_rfl : tAgg _ 78 4 = true) rfl) rfl ?_)) | (refine so_is (.move _) ?_; (refine so_q (qt_mvC rfl) rfl ?_)) | (refine so_is (.pick _ _ _) ?_; (refine so_q (qt_pkC rfl rfl) rfl ?_)) | (refine so_is (.fieldAddr 78 _ 2) ?_; (refine so_q (qt_fld_lp (off := 2) rfl (by kernel_rfl)) rfl ?_)) | (refine so_is (.load 3 _) ?_; (refine so_q (qt_load_box rfl rfl (by kernel_rfl) rfl) rfl ?_)) | (refine so_is (.call ⟨.value (.func 160), _, _⟩) ?_; (apply so_call0 (fid := 160); (· (repeat (first | exact SeA.nil | (apply SeA.cons; (· (apply SeP.g; (repeat (first | exact SeL.nil | apply SeL.cons (.d _))))))))); (· exact l6Two_p _ _ _ _); (· rfl))) | refine so_nil ?_ | refine so_g_no rfl rfl rfl rfl ?_ | refine so_g_yes rfl rfl rfl rfl ?_ | refine so_g_b rfl rfl (fun hg => ?_) (fun hg => ?_) | refine sk_seq ?_ | refine sk_region ?_)
    all_goals first | (exfalso; simp_all; done) | skip
    all_goals (apply sk_ret; apply ret_eq; (· apply RetOK.p; (· (apply GvA.cons; (· exact .tmp _); (· exact GvP.c (.lit _))); exact GvA.nil); (· (decide))))
    all_goals simp_all [wiresB]
  | true =>
    cases h2 : pairB xb yb nb lb with
    | false =>
      refine pc_intro Try.func155 rfl rfl rfl (by kernel_rfl) rfl rfl ?_; intro _
      repeat' (first | (refine so_is (.box 78 _) ?_; refine so_box rfl rfl ?_) | (refine so_is (.assign _) ?_; (refine so_q (qt_asC rfl) rfl ?_)) | (refine so_is (.load 78 _) ?_; (refine so_q (qt_load_boxs rfl rfl (by kernel_rfl : tAgg _ 78 4 = true) rfl) rfl ?_)) | (refine so_is (.move _) ?_; (refine so_q (qt_mvC rfl) rfl ?_)) | (refine so_is (.pick _ _ _) ?_; (refine so_q (qt_pkC rfl rfl) rfl ?_)) | (refine so_is (.fieldAddr 78 _ 2) ?_; (refine so_q (qt_fld_lp (off := 2) rfl (by kernel_rfl)) rfl ?_)) | (refine so_is (.load 3 _) ?_; (refine so_q (qt_load_box rfl rfl (by kernel_rfl) rfl) rfl ?_)) | (refine so_is (.call ⟨.value (.func 160), _, _⟩) ?_; (apply so_call0 (fid := 160); (· (repeat (first | exact SeA.nil | (apply SeA.cons; (· (apply SeP.g; (repeat (first | exact SeL.nil | apply SeL.cons (.d _))))))))); (· exact l6Two_p _ _ _ _); (· rfl))) | refine so_nil ?_ | refine so_g_no rfl rfl rfl rfl ?_ | refine so_g_yes rfl rfl rfl rfl ?_ | refine so_g_b rfl rfl (fun hg => ?_) (fun hg => ?_) | refine sk_seq ?_ | refine sk_region ?_)
      all_goals first | (exfalso; simp_all; done) | skip
      all_goals (apply sk_ret; apply ret_eq; (· apply RetOK.p; (· (apply GvA.cons; (· exact .tmp _); (· exact GvP.c (.lit _))); exact GvA.nil); (· (decide))))
      all_goals simp_all [wiresB]
    | true =>
      have hm := hm h1 h2
      refine pc_intro Try.func155 rfl rfl rfl (by kernel_rfl) rfl rfl ?_; intro _
      repeat' (first | (refine so_is (.box 78 _) ?_; refine so_box rfl rfl ?_) | (refine so_is (.assign _) ?_; (refine so_q (qt_asC rfl) rfl ?_)) | (refine so_is (.load 78 _) ?_; (refine so_q (qt_load_boxs rfl rfl (by kernel_rfl : tAgg _ 78 4 = true) rfl) rfl ?_)) | (refine so_is (.move _) ?_; (refine so_q (qt_mvC rfl) rfl ?_)) | (refine so_is (.pick _ _ _) ?_; (refine so_q (qt_pkC rfl rfl) rfl ?_)) | (refine so_is (.fieldAddr 78 _ 2) ?_; (refine so_q (qt_fld_lp (off := 2) rfl (by kernel_rfl)) rfl ?_)) | (refine so_is (.load 3 _) ?_; (refine so_q (qt_load_box rfl rfl (by kernel_rfl) rfl) rfl ?_)) | (refine so_is (.binOp .mul 3 _ _ _) ?_; refine so_q (qt_mulI rfl rfl (by (omega))) rfl ?_) | (refine so_is (.binOp .leq 3 _ _ _) ?_; refine so_q (qt_leq rfl rfl) rfl ?_) | (refine so_is (.call ⟨.value (.func 160), _, _⟩) ?_; (apply so_call0 (fid := 160); (· (repeat (first | exact SeA.nil | (apply SeA.cons; (· (apply SeP.g; (repeat (first | exact SeL.nil | apply SeL.cons (.d _))))))))); (· exact l6Two_p _ _ _ _); (· rfl))) | refine so_nil ?_ | refine so_g_no rfl rfl rfl rfl ?_ | refine so_g_yes rfl rfl rfl rfl ?_ | refine so_g_b rfl rfl (fun hg => ?_) (fun hg => ?_) | refine sk_seq ?_ | refine sk_region ?_)
      all_goals first | (exfalso; simp_all; done) | skip
      all_goals (apply sk_ret; apply ret_eq; (· apply RetOK.p; (· (apply GvA.cons; (· exact .tmp _); (· exact GvP.c (.lit _))); exact GvA.nil); (· (decide))))
      all_goals simp_all [wiresB]
theorem spWireBoxes_p (xa ya na : Int) (la : List (List Int)) (xb yb nb : Int) (lb : List (List Int)) (f1 : List Int) (a1 s1 : List (List Int)) (f2 : List Int) (a2 s2 : List (List Int)) : PC Try.prog 173 [.g [dI xa, dI ya, dI na, eII la], .g [dI xb, dI yb, dI nb, eII lb], .g [eI f1, eII a1, eII s1], .g [eI f2, eII a2, eII s2]]
    (.t [.g [dI (whenN (wireOK xa ya na la xb yb nb lb f1 a1 s1 f2 a2 s2) 2), dI (whenN (wireOK xa ya na la xb yb nb lb f1 a1 s1 f2 a2 s2) 2), dI (whenN (wireOK xa ya na la xb yb nb lb f1 a1 s1 f2 a2 s2) (na * nb)), eII (whenL (wireOK xa ya na la xb yb nb lb f1 a1 s1 f2 a2 s2) (wiredL la lb f1 a1 s1 f2 a2 s2))], .c (dB (wireOK xa ya na la xb yb nb lb f1 a1 s1 f2 a2 s2))]) := by
  cases hO : wireOK xa ya na la xb yb nb lb f1 a1 s1 f2 a2 s2 with
  | false =>
    refine pc_intro Try.func173 rfl rfl rfl (by kernel_rfl) rfl rfl ?_; intro _
    repeat' (first | (refine so_is (.box 78 _) ?_; refine so_box rfl rfl ?_) | (refine so_is (.box 96 _) ?_; refine so_box rfl rfl ?_) | (refine so_is (.alloc 78) ?_; refine so_alloc (zs := [.int .i64 0, .int .i64 0, .int .i64 0, .slice none 0 0]) (by kernel_rfl) rfl ?_) | (refine so_is (.assign _) ?_; (refine so_q (qt_asC rfl) rfl ?_)) | (refine so_is (.load 78 _) ?_; (refine so_q (qt_load_boxs rfl rfl (by kernel_rfl : tAgg _ 78 4 = true) rfl) rfl ?_)) | (refine so_is (.unOp .not 4 _) ?_; refine so_q (qt_not rfl) rfl ?_) | (refine so_is (.move _) ?_; (refine so_q (qt_mvC rfl) rfl ?_)) | (refine so_is (.load 96 _) ?_; (refine so_q (qt_load_boxs rfl rfl (by kernel_rfl : tAgg _ 96 3 = true) rfl) rfl ?_)) | (refine so_is (.pick _ _ _) ?_; (refine so_q (qt_pkC rfl rfl) rfl ?_)) | (refine so_is (.build 78 _) ?_; refine so_q (qt_build (cs := [_, _, _, _]) [(0, 1), (1, 1), (2, 1), (3, 1)] [.int .i64 0, .int .i64 0, .int .i64 0, .slice none 0 0] (by kernel_rfl) (by kernel_rfl) rfl) rfl ?_) | (refine so_is (.store 78 _ _) ?_; (refine so_store_box rfl rfl rfl (by kernel_rfl) rfl rfl ?_)) | (refine so_is (.call ⟨.value (.func 155), _, _⟩) ?_; (apply so_call0 (fid := 155); (· (repeat (first | exact SeA.nil | (apply SeA.cons; (· (apply SeP.g; (repeat (first | exact SeL.nil | apply SeL.cons (.d _))))))))); (· exact l10Both_p _ _ _ _ _ _ _ _); (· rfl))) | (refine so_is (.call ⟨.value (.func 219), _, _⟩) ?_; (apply so_call0 (fid := 219); (· (repeat (first | exact SeA.nil | (apply SeA.cons; (· (apply SeP.g; (repeat (first | exact SeL.nil | apply SeL.cons (.d _))))))))); (· exact l10Rule_p _ _ _); (· rfl))) | refine so_nil ?_ | refine so_g_no rfl rfl rfl rfl ?_ | refine so_g_yes rfl rfl rfl rfl ?_ | refine so_g_b rfl rfl (fun hg => ?_) (fun hg => ?_) | refine sk_seq ?_ | refine sk_skip ?_ | refine sk_region ?_ | refine sk_true rfl ?_ | refine sk_not rfl (fun hc => ?_) (fun hc => ?_))
    all_goals first | (exfalso; simp_all [wireOK]; done) | skip
    all_goals (apply sk_ret; apply ret_eq; (· apply RetOK.t; (· (apply GvA.cons; (· (apply RV.cellN (n := 4); (· rfl); (· rfl); (· kernel_rfl); (· rfl))); (· (apply GvP.g; (· (apply GvL.cons (.lit _)); (apply GvL.cons (.lit _)); (apply GvL.cons (.lit _)); ((apply GvL.cons (.nil 1 (by decide)))); exact GvL.nil)))); (apply GvA.cons; (· exact .tmp _); (· exact GvP.c (.lit _))); exact GvA.nil); (· rfl); (· (decide))))
    all_goals simp [whenN, whenL]
  | true =>
    have hO2 := hO
    simp only [wireOK, wiresB, Bool.and_eq_true] at hO2
    obtain ⟨⟨v1, v2, _⟩, v3, v4⟩ := hO2
    obtain ⟨rfl, rfl, ha, a1', a2'⟩ := pairB_spec v1
    obtain ⟨rfl, rfl, hb, b1', b2'⟩ := pairB_spec v2
    refine pc_intro Try.func173 rfl rfl rfl (by kernel_rfl) rfl rfl ?_; intro _
    repeat' (first | (refine so_is (.box 78 _) ?_; refine so_box rfl rfl ?_) | (refine so_is (.box 96 _) ?_; refine so_box rfl rfl ?_) | (refine so_is (.alloc 78) ?_; refine so_alloc (zs := [.int .i64 0, .int .i64 0, .int .i64 0, .slice none 0 0]) (by kernel_rfl) rfl ?_) | (refine so_is (.assign _) ?_; (refine so_q (qt_asC rfl) rfl ?_)) | (refine so_is (.load 78 _) ?_; (refine so_q (qt_load_boxs rfl rfl (by kernel_rfl : tAgg _ 78 4 = true) rfl) rfl ?_)) | (refine so_is (.unOp .not 4 _) ?_; refine so_q (qt_not rfl) rfl ?_) | (refine so_is (.move _) ?_; (refine so_q (qt_mvC rfl) rfl ?_)) | (refine so_is (.load 96 _) ?_; (refine so_q (qt_load_boxs rfl rfl (by kernel_rfl : tAgg _ 96 3 = true) rfl) rfl ?_)) | (refine so_is (.pick _ _ _) ?_; (refine so_q (qt_pkC rfl rfl) rfl ?_)) | (refine so_is (.build 78 _) ?_; refine so_q (qt_build (cs := [_, _, _, _]) [(0, 1), (1, 1), (2, 1), (3, 1)] [.int .i64 0, .int .i64 0, .int .i64 0, .slice none 0 0] (by kernel_rfl) (by kernel_rfl) rfl) rfl ?_) | (refine so_is (.store 78 _ _) ?_; (refine so_store_box rfl rfl rfl (by kernel_rfl) rfl rfl ?_)) | (refine so_is (.call ⟨.value (.func 155), _, _⟩) ?_; (apply so_call0 (fid := 155); (· (repeat (first | exact SeA.nil | (apply SeA.cons; (· (apply SeP.g; (repeat (first | exact SeL.nil | apply SeL.cons (.d _))))))))); (· exact l10Both_p _ _ _ _ _ _ _ _); (· rfl))) | (refine so_is (.call ⟨.value (.func 219), _, _⟩) ?_; (apply so_call0 (fid := 219); (· (repeat (first | exact SeA.nil | (apply SeA.cons; (· (apply SeP.g; (repeat (first | exact SeL.nil | apply SeL.cons (.d _))))))))); (· exact l10Rule_p _ _ _); (· rfl))) | (refine so_is (.call ⟨.value (.func 156), _, _⟩) ?_; (apply so_callO0 (fid := 156); (· (repeat (first | exact SeA.nil | (apply SeA.cons; (· (apply SeP.g; (repeat (first | exact SeL.nil | apply SeL.cons (.d _))))))))); (· exact l10Wire_p _ _ _ _ _ _ _ _ _ _ ha hb v3 v4); (· rfl); (· rfl))) | refine so_nil ?_ | refine so_g_no rfl rfl rfl rfl ?_ | refine so_g_yes rfl rfl rfl rfl ?_ | refine so_g_b rfl rfl (fun hg => ?_) (fun hg => ?_) | refine sk_seq ?_ | refine sk_skip ?_ | refine sk_region ?_ | refine sk_true rfl ?_ | refine sk_not rfl (fun hc => ?_) (fun hc => ?_))
    all_goals first | (exfalso; simp_all [wireOK]; done) | skip
    all_goals (apply sk_ret; apply ret_eq; (· apply RetOK.t; (· (apply GvA.cons; (· (apply RV.cellN (n := 4); (· rfl); (· rfl); (· kernel_rfl); (· rfl))); (· (apply GvP.g; (· (apply GvL.cons (.lit _)); (apply GvL.cons (.lit _)); (apply GvL.cons (.lit _)); ((apply GvL.cons (.row _ _ _ _ rfl (by ((simp; done)))))); exact GvL.nil)))); (apply GvA.cons; (· exact .tmp _); (· exact GvP.c (.lit _))); exact GvA.nil); (· rfl); (· (decide))))
    all_goals simp [whenN, whenL]

end Go.Proofs.Ytefbiejoikpkmaa

namespace Go.Proofs.Ytefbiejoikpkmaa
open Go.RowKit
set_option linter.unusedSectionVars false
variable [Glb]
set_option maxRecDepth 10000
set_option maxHeartbeats 4000000
theorem spSumBoxes_p (xa ya na : Int) (la : List (List Int)) (xb yb nb : Int) (lb : List (List Int)) : PC Try.prog 66 [.g [dI xa, dI ya, dI na, eII la], .g [dI xb, dI yb, dI nb, eII lb]]
    (.t [.g [dI (whenN (wiresB xa ya na la xb yb nb lb) 2), dI (whenN (wiresB xa ya na la xb yb nb lb) 2), dI (whenN (wiresB xa ya na la xb yb nb lb) (na * nb)), eII (whenL (wiresB xa ya na la xb yb nb lb) (wiredL la lb sumF sumA sumS sumF sumA sumS))], .c (dB (wiresB xa ya na la xb yb nb lb))]) := by
  cases hO : wiresB xa ya na la xb yb nb lb with
  | false =>
    refine pc_intro Try.func66 rfl rfl rfl (by kernel_rfl) rfl rfl ?_; intro _
    repeat' (first | (refine so_is (.box 78 _) ?_; refine so_box rfl rfl ?_) | (refine so_is (.alloc 78) ?_; refine so_alloc (zs := [.int .i64 0, .int .i64 0, .int .i64 0, .slice none 0 0]) (by kernel_rfl) rfl ?_) | (refine so_is (.assign _) ?_; (refine so_q (qt_asC rfl) rfl ?_)) | (refine so_is (.load 78 _) ?_; (refine so_q (qt_load_boxs rfl rfl (by kernel_rfl : tAgg _ 78 4 = true) rfl) rfl ?_)) | (refine so_is (.unOp .not 4 _) ?_; refine so_q (qt_not rfl) rfl ?_) | (refine so_is (.build 78 _) ?_; refine so_q (qt_build (cs := [_, _, _, _]) [(0, 1), (1, 1), (2, 1), (3, 1)] [.int .i64 0, .int .i64 0, .int .i64 0, .slice none 0 0] (by kernel_rfl) (by kernel_rfl) rfl) rfl ?_) | (refine so_is (.store 78 _ _) ?_; (refine so_store_box rfl rfl rfl (by kernel_rfl) rfl rfl ?_)) | (refine so_is (.call ⟨.value (.func 155), _, _⟩) ?_; (apply so_call0 (fid := 155); (· (repeat (first | exact SeA.nil | (apply SeA.cons; (· (apply SeP.g; (repeat (first | exact SeL.nil | apply SeL.cons (.d _))))))))); (· exact l10Both_p _ _ _ _ _ _ _ _); (· rfl))) | refine so_nil ?_ | refine sk_seq ?_ | refine sk_skip ?_ | refine sk_region ?_ | refine sk_drawQ 3 (fun i => i == 5) (.step 0 true (.step 1 true (.step 2 false (.step 3 false (.step 4 false (.step 5 false (.step 6 true .nil))))))) [(0, 127, 127, false), (0, 127, 127, false), (0, 127, 127, false), (4, 127, 127, false), (15, 112, 127, false), (31, 111, 127, false), (63, 127, 95, true)] (by kernel_rfl) (by kernel_rfl) ?_ | refine sk_not rfl (fun hc => ?_) (fun hc => ?_))
    all_goals first | (exfalso; simp_all; done) | skip
    all_goals (apply sk_ret; apply ret_eq; (· apply RetOK.t; (· (apply GvA.cons; (· (apply RV.cellN (n := 4); (· rfl); (· rfl); (· kernel_rfl); (· rfl))); (· (apply GvP.g; (· (apply GvL.cons (.lit _)); (apply GvL.cons (.lit _)); (apply GvL.cons (.lit _)); ((apply GvL.cons (.nil 1 (by decide)))); exact GvL.nil)))); (apply GvA.cons; (· exact .tmp _); (· exact GvP.c (.lit _))); exact GvA.nil); (· rfl); (· (decide))))
    all_goals simp [whenN, whenL]
  | true =>
    have hO2 := hO
    simp only [wiresB, Bool.and_eq_true] at hO2
    obtain ⟨v1, v2, _⟩ := hO2
    obtain ⟨rfl, rfl, ha, a1', a2'⟩ := pairB_spec v1
    obtain ⟨rfl, rfl, hb, b1', b2'⟩ := pairB_spec v2
    refine pc_intro Try.func66 rfl rfl rfl (by kernel_rfl) rfl rfl ?_; intro _
    repeat' (first | (refine so_is (.box 78 _) ?_; refine so_box rfl rfl ?_) | (refine so_is (.alloc 78) ?_; refine so_alloc (zs := [.int .i64 0, .int .i64 0, .int .i64 0, .slice none 0 0]) (by kernel_rfl) rfl ?_) | (refine so_is (.assign _) ?_; (refine so_q (qt_asC rfl) rfl ?_)) | (refine so_is (.load 78 _) ?_; (refine so_q (qt_load_boxs rfl rfl (by kernel_rfl : tAgg _ 78 4 = true) rfl) rfl ?_)) | (refine so_is (.unOp .not 4 _) ?_; refine so_q (qt_not rfl) rfl ?_) | (refine so_is (.build 78 _) ?_; refine so_q (qt_build (cs := [_, _, _, _]) [(0, 1), (1, 1), (2, 1), (3, 1)] [.int .i64 0, .int .i64 0, .int .i64 0, .slice none 0 0] (by kernel_rfl) (by kernel_rfl) rfl) rfl ?_) | (refine so_is (.store 78 _ _) ?_; (refine so_store_box rfl rfl rfl (by kernel_rfl) rfl rfl ?_)) | (refine so_is (.call ⟨.value (.func 155), _, _⟩) ?_; (apply so_call0 (fid := 155); (· (repeat (first | exact SeA.nil | (apply SeA.cons; (· (apply SeP.g; (repeat (first | exact SeL.nil | apply SeL.cons (.d _))))))))); (· exact l10Both_p _ _ _ _ _ _ _ _); (· rfl))) | (refine so_is (.call ⟨.value (.func 157), _, _⟩) ?_; (apply so_callO0 (fid := 157); (· (repeat (first | exact SeA.nil | apply SeA.cons (.c (.d _))))); (· exact l10Named3_p); (· rfl); (· rfl))) | (refine so_is (.call ⟨.value (.func 156), _, _⟩) ?_; (apply so_callO0 (fid := 156); (· (repeat (first | exact SeA.nil | (apply SeA.cons; (· (apply SeP.g; (repeat (first | exact SeL.nil | apply SeL.cons (.d _) | apply SeL.cons (.all _ _ _ _ rfl (by ((simp; done)))))))))))); (· exact l10Wire_p _ _ _ _ _ _ _ _ _ _ ha hb sum_rule sum_rule); (· rfl); (· rfl))) | refine so_nil ?_ | refine sk_seq ?_ | refine sk_skip ?_ | refine sk_region ?_ | refine sk_drawQ 3 (fun i => i == 5) (.step 0 true (.step 1 true (.step 2 false (.step 3 false (.step 4 false (.step 5 false (.step 6 true .nil))))))) [(0, 127, 127, false), (0, 127, 127, false), (0, 127, 127, false), (4, 127, 127, false), (15, 112, 127, false), (31, 111, 127, false), (63, 127, 95, true)] (by kernel_rfl) (by kernel_rfl) ?_ | refine sk_not rfl (fun hc => ?_) (fun hc => ?_))
    all_goals first | (exfalso; simp_all; done) | skip
    all_goals (apply sk_ret; apply ret_eq; (· apply RetOK.t; (· (apply GvA.cons; (· (apply RV.cellN (n := 4); (· rfl); (· rfl); (· kernel_rfl); (· rfl))); (· (apply GvP.g; (· (apply GvL.cons (.lit _)); (apply GvL.cons (.lit _)); (apply GvL.cons (.lit _)); ((apply GvL.cons (.row _ _ _ _ rfl (by ((simp; done)))))); exact GvL.nil)))); (apply GvA.cons; (· exact .tmp _); (· exact GvP.c (.lit _))); exact GvA.nil); (· rfl); (· (decide))))
    all_goals simp [whenN, whenL]

end Go.Proofs.Ytefbiejoikpkmaa

namespace Go.Proofs.Ytefbiejoikpkmaa
open Go.RowKit
set_option linter.unusedSectionVars false
variable [Glb]
set_option maxRecDepth 10000
set_option maxHeartbeats 4000000
theorem ScaleBox1_1_p (n : Int) (ll : List (List Int)) (hb : boxB 2 2 n ll = true) (i k p : Nat) (hi : i < 2) (hk : k < 2) (hp : p < 4) :
    PC Try.prog 211 [.c (dI i), .c (dI k), .c (dI ((p / 2 : Nat) : Int)), .c (dI ((p % 2 : Nat) : Int)), .c (.pt [dI 1]), .c (.pt [dI 2, dI 2, dI n, eII ll])] (.p (.c (dI (1 * atB ll 2 i k p)))) := by
  have ap := at_p 2 2 n ll hb i k ((p / 2 : Nat) : Int) ((p % 2 : Nat) : Int) (by omega) (by omega) (by omega) (by omega) (by omega) (by omega) (by omega) (by omega)
  have e : 2 * ((p / 2 : Nat) : Int) + ((p % 2 : Nat) : Int) = (p : Int) := by omega
  rw [e] at ap
  have hv := (boxB_at hb (q := (i : Int) * 2 + k) (by omega) (by omega)).2 p (by omega) (by omega)
  have hn := (boxB_spec hb).n2
  have hv2 : 0 ≤ atB ll 2 i k p ∧ atB ll 2 i k p ≤ 1000 := by unfold atB; omega
  obtain ⟨a, ha⟩ : ∃ a, a = ((p / 2 : Nat) : Int) := ⟨_, rfl⟩
  obtain ⟨c, hc⟩ : ∃ c, c = ((p % 2 : Nat) : Int) := ⟨_, rfl⟩
  rw [← ha, ← hc] at ap ⊢
  clear e
  refine pc_intro Try.func211 rfl rfl rfl (by kernel_rfl) rfl rfl ?_; intro _
  repeat' (first | (refine so_is (.assign _) ?_; (refine so_q (qt_asC rfl) rfl ?_)) | (refine so_is (.load 3 _) ?_; (refine so_q (qt_load_pt rfl (by kernel_rfl) rfl) rfl ?_)) | (refine so_is (.load 78 _) ?_; (refine so_q (qt_load_pts rfl (by kernel_rfl : tAgg _ 78 4 = true) (by simp)) rfl ?_)) | (refine so_is (.move _) ?_; (refine so_q (qt_mvC rfl) rfl ?_)) | (refine so_is (.binOp .mul 3 _ _ _) ?_; refine so_q (qt_mulI rfl rfl (by (omega))) rfl ?_) | (refine so_is (.call ⟨.value (.func 212), _, _⟩) ?_; (apply so_call0 (fid := 212); (· (repeat (first | exact SeA.nil | apply SeA.cons (.c (.d _)) | (apply SeA.cons; (· (apply SeP.g; (repeat (first | exact SeL.nil | apply SeL.cons (.d _))))))))); (· exact ap); (· rfl))) | refine so_nil ?_ | refine sk_seq ?_ | refine sk_region ?_ | refine sk_drawQ 1 (fun _ => false) (.step 0 true (.step 1 true (.step 2 true (.step 3 true (.step 4 true (.step 5 true (.step 6 false (.step 7 true (.step 8 true .nil))))))))) [(0, 511, 511, false), (0, 511, 511, false), (0, 511, 511, true), (0, 511, 511, true), (0, 511, 511, true), (0, 511, 511, true), (62, 449, 511, false), (65, 446, 511, true), (255, 383, 511, true)] (by kernel_rfl) (by kernel_rfl) ?_)
  (apply sk_ret; apply ret_eq; (· apply RetOK.p; (· (apply GvA.cons; (· exact .tmp _); (· exact GvP.c (.lit _))); exact GvA.nil); (· (decide))))
  rfl
theorem ScaleBox1_p (n : Int) (ll : List (List Int)) (hp : pairB 2 2 n ll = true) : PC Try.prog 159 [.g [dI 2, dI 2, dI n, eII ll], .c (dI 1)] (.t [.g [dI 2, dI 2, dI n, eII ll], .c (dB true)]) := by
  obtain ⟨_, _, hb, n1, n2⟩ := pairB_spec hp
  have nb := newBox_p 2 2 (1 * n) 211 [.pt [dI 1], .pt [dI 2, dI 2, dI n, eII ll]] (fun i k p => 1 * atB ll 2 i k p) (by omega) (by omega) (fun i k p hi hk hp => ScaleBox1_1_p n ll hb i k p hi hk hp)
  rw [show 2 * 2 = 4 from rfl, box_self hb] at nb
  refine pc_intro Try.func159 rfl rfl rfl (by kernel_rfl) rfl rfl ?_; intro _
  repeat' (first | (refine so_is (.box 78 _) ?_; refine so_box rfl rfl ?_) | (refine so_is (.box 3 _) ?_; refine so_box rfl rfl ?_) | (refine so_is (.alloc 78) ?_; refine so_alloc (zs := [.int .i64 0, .int .i64 0, .int .i64 0, .slice none 0 0]) (by kernel_rfl) rfl ?_) | (refine so_is (.assign _) ?_; (refine so_q (qt_asC rfl) rfl ?_)) | (refine so_is (.load 78 _) ?_; (refine so_q (qt_load_boxs rfl rfl (by kernel_rfl : tAgg _ 78 4 = true) rfl) rfl ?_)) | (refine so_is (.unOp .not 4 _) ?_; refine so_q (qt_not rfl) rfl ?_) | (refine so_is (.move _) ?_; (refine so_q (qt_mvC rfl) rfl ?_)) | (refine so_is (.load 3 _) ?_; (refine so_q (qt_load_box rfl rfl (by kernel_rfl) rfl) rfl ?_)) | (refine so_is (.pick _ _ _) ?_; (refine so_q (qt_pkC rfl rfl) rfl ?_)) | (refine so_is (.fieldAddr 78 _ 2) ?_; (refine so_q (qt_fld_lp (off := 2) rfl (by kernel_rfl)) rfl ?_)) | (refine so_is (.binOp .mul 3 _ _ _) ?_; refine so_q (qt_mulI rfl rfl (by (omega))) rfl ?_) | (refine so_is (.binOp .gtr 3 _ _ _) ?_; refine so_q (qt_gtr rfl rfl) rfl ?_) | (refine so_is (.build 78 _) ?_; refine so_q (qt_build (cs := [_, _, _, _]) [(0, 1), (1, 1), (2, 1), (3, 1)] [.int .i64 0, .int .i64 0, .int .i64 0, .slice none 0 0] (by kernel_rfl) (by kernel_rfl) rfl) rfl ?_) | (refine so_is (.store 78 _ _) ?_; (refine so_store_box rfl rfl rfl (by kernel_rfl) rfl rfl ?_)) | (refine so_is (.fieldAddr 78 _ 0) ?_; (refine so_q (qt_fld_lp (off := 0) rfl (by kernel_rfl)) rfl ?_)) | (refine so_is (.fieldAddr 78 _ 1) ?_; (refine so_q (qt_fld_lp (off := 1) rfl (by kernel_rfl)) rfl ?_)) | (refine so_is (.makeFunc _ _ _) ?_; (apply so_q; (· apply qt_makeFunc; (repeat (first | exact EvL.nil | (apply EvL.cons; (· rfl))))); (· rfl))) | (refine so_is (.call ⟨.value (.func 176), _, _⟩) ?_; ((apply so_call0 (fid := 176); (· (repeat (first | exact SeA.nil | (apply SeA.cons; (· (apply SeP.g; (repeat (first | exact SeL.nil | apply SeL.cons (.d _))))))))); (· exact IsBox_p _ _ _ _); (· rfl)))) | (refine so_is (.call ⟨.value (.func 130), _, _⟩) ?_; ((apply so_call0 (fid := 130); (· (repeat (first | exact SeA.nil | apply SeA.cons (.c (.d _))))); (· exact within_p _ _ _); (· rfl)))) | (refine so_is (.call ⟨.value (.func 210), _, _⟩) ?_; (apply so_callO0 (fid := 210); (· (repeat (first | exact SeA.nil | apply SeA.cons (.c (.d _)) | (apply SeA.cons; (· (apply SeP.c; apply Se.fn; (repeat (first | exact SeL.nil | (apply SeL.cons; (· apply Se.pt; (· rfl); (· rfl); (· (repeat (first | exact SeL.nil | apply SeL.cons (.d _)))))))))))))); (· exact nb); (· rfl); (· rfl))) | refine so_nil ?_ | refine so_g_no rfl rfl rfl rfl ?_ | refine so_g_yes rfl rfl rfl rfl ?_ | refine so_g_b rfl rfl (fun hg => ?_) (fun hg => ?_) | refine sk_seq ?_ | refine sk_skip ?_ | refine sk_region ?_ | refine sk_true rfl ?_ | refine sk_if rfl (fun hc => ?_) (fun hc => ?_))
  all_goals first | (exfalso; simp_all [inB]; done) | (exfalso; omega) | skip
  (apply sk_ret; apply ret_eq; (· apply RetOK.t; (· (apply GvA.cons; (· (apply RV.cellN (n := 4); (· rfl); (· rfl); (· kernel_rfl); (· rfl))); (· (apply GvP.g; (· (apply GvL.cons (.lit _)); (apply GvL.cons (.lit _)); (apply GvL.cons (.lit _)); ((apply GvL.cons (.row _ _ _ _ rfl (by ((simp; done)))))); exact GvL.nil)))); (apply GvA.cons; (· exact .tmp _); (· exact GvP.c (.lit _))); exact GvA.nil); (· rfl); (· (decide))))
  simp
theorem RepeatSum_p (x y n : Int) (ll : List (List Int)) (m : Int) : PC Try.prog 69 [.g [dI x, dI y, dI n, eII ll], .c (dI m)] (.t [.g [dI (whenN (repeatOK x y n ll m) 2), dI (whenN (repeatOK x y n ll m) 2), dI (whenN (repeatOK x y n ll m) (pwr n (m - 1).toNat)), eII (whenL (repeatOK x y n ll m) (repL ll (m - 1).toNat))], .c (dB (repeatOK x y n ll m))]) := by
  cases hB : repeatB x y n ll m with
  | false =>
    have hO : repeatOK x y n ll m = false := by simp [repeatOK, hB]
    refine pc_intro Try.func69 rfl rfl rfl (by kernel_rfl) rfl rfl ?_; intro _
    repeat' (first | (refine so_is (.box 78 _) ?_; refine so_box rfl rfl ?_) | (refine so_is (.alloc 78) ?_; refine so_alloc (zs := [.int .i64 0, .int .i64 0, .int .i64 0, .slice none 0 0]) (by kernel_rfl) rfl ?_) | (refine so_is (.assign _) ?_; (refine so_q (qt_asC rfl) rfl ?_)) | (refine so_is (.load 78 _) ?_; (refine so_q (qt_load_boxs rfl rfl (by kernel_rfl : tAgg _ 78 4 = true) rfl) rfl ?_)) | (refine so_is (.unOp .not 4 _) ?_; refine so_q (qt_not rfl) rfl ?_) | (refine so_is (.move _) ?_; (refine so_q (qt_mvC rfl) rfl ?_)) | (refine so_is (.pick _ _ _) ?_; (refine so_q (qt_pkC rfl rfl) rfl ?_)) | (refine so_is (.build 78 _) ?_; refine so_q (qt_build (cs := [_, _, _, _]) [(0, 1), (1, 1), (2, 1), (3, 1)] [.int .i64 0, .int .i64 0, .int .i64 0, .slice none 0 0] (by kernel_rfl) (by kernel_rfl) rfl) rfl ?_) | (refine so_is (.store 78 _ _) ?_; (refine so_store_box rfl rfl rfl (by kernel_rfl) rfl rfl ?_)) | (refine so_is (.call ⟨.value (.func 158), _, _⟩) ?_; (apply so_call0 (fid := 158); (· (repeat (first | exact SeA.nil | (apply SeA.cons; (· (apply SeP.g; (repeat (first | exact SeL.nil | apply SeL.cons (.d _))))))))); (· exact isPair_p _ _ _ _); (· rfl))) | (refine so_is (.call ⟨.value (.func 130), _, _⟩) ?_; (apply so_call0 (fid := 130); (· (repeat (first | exact SeA.nil | apply SeA.cons (.c (.d _))))); (· exact within_p _ _ _); (· rfl))) | refine so_nil ?_ | refine so_g_no rfl rfl rfl rfl ?_ | refine so_g_yes rfl rfl rfl rfl ?_ | refine so_g_b rfl rfl (fun hg => ?_) (fun hg => ?_) | refine sk_seq ?_ | refine sk_skip ?_ | refine sk_region ?_ | refine sk_true rfl ?_ | refine sk_not rfl (fun hc => ?_) (fun hc => ?_))
    all_goals first | (exfalso; simp_all [repeatB]; done) | skip
    all_goals (apply sk_ret; apply ret_eq; (· apply RetOK.t; (· (apply GvA.cons; (· (apply RV.cellN (n := 4); (· rfl); (· rfl); (· kernel_rfl); (· rfl))); (· (apply GvP.g; (· (apply GvL.cons (.lit _)); (apply GvL.cons (.lit _)); (apply GvL.cons (.lit _)); ((apply GvL.cons (.nil 1 (by decide)))); exact GvL.nil)))); (apply GvA.cons; (· exact .tmp _); (· exact GvP.c (.lit _))); exact GvA.nil); (· rfl); (· (decide))))
    all_goals simp [hO, whenN, whenL]
  | true =>
    have hO : repeatOK x y n ll m = repOK n (m - 1).toNat := by simp [repeatOK, hB]
    have hB2 := hB
    simp only [repeatB, Bool.and_eq_true] at hB2
    obtain ⟨v1, v2⟩ := hB2
    have hm := inB_iff.1 v2
    have v1' := v1
    obtain ⟨rfl, rfl, hb, n1, n2⟩ := pairB_spec v1
    rw [hO]
    obtain ⟨M, hM⟩ : ∃ M : Nat, m = (M : Int) + 1 := ⟨(m - 1).toNat, by omega⟩
    subst hM
    rw [show ((M : Int) + 1 - 1).toNat = M by omega]
    refine pc_intro Try.func69 rfl rfl rfl (by kernel_rfl) rfl rfl ?_; intro _
    repeat' (first | (refine so_is (.box 78 _) ?_; refine so_box rfl rfl ?_) | (refine so_is (.alloc 78) ?_; refine so_alloc (zs := [.int .i64 0, .int .i64 0, .int .i64 0, .slice none 0 0]) (by kernel_rfl) rfl ?_) | (refine so_is (.assign _) ?_; (refine so_q (qt_asC rfl) rfl ?_)) | (refine so_is (.load 78 _) ?_; (refine so_q (qt_load_boxs rfl rfl (by kernel_rfl : tAgg _ 78 4 = true) rfl) rfl ?_)) | (refine so_is (.unOp .not 4 _) ?_; refine so_q (qt_not rfl) rfl ?_) | (refine so_is (.move _) ?_; (first | refine so_q (qt_mvC rfl) rfl ?_ | refine so_q (qt_mvT rfl) rfl ?_)) | (refine so_is (.pick _ _ _) ?_; (refine so_q (qt_pkC rfl rfl) rfl ?_)) | (refine so_is (.build 78 _) ?_; refine so_q (qt_build (cs := [_, _, _, _]) [(0, 1), (1, 1), (2, 1), (3, 1)] [.int .i64 0, .int .i64 0, .int .i64 0, .slice none 0 0] (by kernel_rfl) (by kernel_rfl) rfl) rfl ?_) | (refine so_is (.store 78 _ _) ?_; (refine so_store_box rfl rfl rfl (by kernel_rfl) rfl rfl ?_)) | (refine so_is (.extract _ _) ?_; refine so_q (qt_extract rfl rfl) rfl ?_) | (refine so_is (.call ⟨.value (.func 158), _, _⟩) ?_; (apply so_call0 (fid := 158); (· (repeat (first | exact SeA.nil | (apply SeA.cons; (· (apply SeP.g; (repeat (first | exact SeL.nil | apply SeL.cons (.d _))))))))); (· exact isPair_p _ _ _ _); (· rfl))) | (refine so_is (.call ⟨.value (.func 130), _, _⟩) ?_; (apply so_call0 (fid := 130); (· (repeat (first | exact SeA.nil | apply SeA.cons (.c (.d _))))); (· exact within_p _ _ _); (· rfl))) | (refine so_is (.call ⟨.value (.func 159), _, _⟩) ?_; (apply so_callO0 (fid := 159); (· (repeat (first | exact SeA.nil | apply SeA.cons (.c (.d _)) | (apply SeA.cons; (· (apply SeP.g; (repeat (first | exact SeL.nil | apply SeL.cons (.d _))))))))); (· exact ScaleBox1_p _ _ v1); (· rfl); (· rfl))) | refine so_nil ?_ | refine so_g_no rfl rfl rfl rfl ?_ | refine so_g_yes rfl rfl rfl rfl ?_ | refine so_g_b rfl rfl (fun hg => ?_) (fun hg => ?_) | refine sk_seq ?_ | refine sk_block ?_ | refine sk_skip ?_ | refine sk_region ?_ | refine sk_true rfl ?_ | refine sk_not rfl (fun hc => ?_) (fun hc => ?_))
    all_goals first | (exfalso; simp_all [repeatB]; done) | skip
    apply sk_packC [1, 2, 4, 6, 7, 8] [2, 4, 6, 3020, 3034] rfl; (· (repeat (first | exact Pf.nil | apply Pf.cons (.c rfl (.d rfl)) | apply Pf.cons (.c rfl (.lp rfl))))); (· (repeat (first | exact Pb.nil | apply Pb.cons (.row rfl) | (apply Pb.cons; (· apply Nb.box rfl; (repeat (first | exact Ncs.nil rfl | (apply Ncs.cons rfl; (· (first | exact .d rfl | exact .ls rfl))))))) | apply Pb.skip)))
    refine sk_loopL [1, 2, 4, 6] [2, 4, 3034] (fun (j : Nat) => [(8, .c (.d (dI (j + 1)))), (7, .c (.d (dB (repOK n j))))]) (fun j => [(6, .box [.d (dI (whenN (repOK n j) 2)), .d (dI (whenN (repOK n j) 2)), .d (dI (whenN (repOK n j) (pwr n j))), .ls 3020 1 0 (whenL (repOK n j) (repL ll j)).length]), (3020, .row 1 (cII (whenL (repOK n j) (repL ll j))))]) (fun j => j ≤ M) (fun j => M - j) (0) ?_ (by (repeat (first | exact trivial | refine ⟨(by (rfl)), ?_⟩))) (by (repeat (first | exact trivial | refine ⟨(by (first | (refine row_eq rfl ?_; simp  [repOK, pwr, repL, whenN, whenL]; done) | (refine box_eq rfl ?_; simp  [repOK, pwr, repL, whenN, whenL]; done))), ?_⟩))) ?_
    · omega
    intro j hj
    cases hj2 : repOK n j with
    | false =>
      have hM2 := repOK_mono hj hj2
      repeat' (first | (refine so_is (.assign _) ?_; (refine so_q (qt_asC rfl) rfl ?_)) | (refine so_is (.load 78 _) ?_; (refine so_q (qt_load_boxs rfl rfl (by kernel_rfl : tAgg _ 78 4 = true) rfl) rfl ?_)) | (refine so_is (.move _) ?_; (refine so_q (qt_mvC rfl) rfl ?_)) | (refine so_is (.pick _ _ _) ?_; (refine so_q (qt_pkC rfl rfl) rfl ?_)) | (refine so_is (.store 78 _ _) ?_; (refine so_store_box rfl rfl rfl (by kernel_rfl) rfl rfl ?_)) | refine so_nil ?_ | refine so_g_no rfl rfl rfl rfl ?_ | refine sk_seq ?_ | refine sk_exit rfl ?_ | refine sk_region ?_ | refine sk_false rfl ?_)
      all_goals first | (exfalso; simp_all; done) | skip
      (apply sk_ret; apply ret_eq; (· apply RetOK.t; (· (apply GvA.cons; (· (apply RV.cellN (n := 4); (· rfl); (· rfl); (· kernel_rfl); (· rfl))); (· (apply GvP.g; (· (apply GvL.cons (.lit _)); (apply GvL.cons (.lit _)); (apply GvL.cons (.lit _)); ((apply GvL.cons (.row _ _ _ _ rfl (by ((simp; done)))))); exact GvL.nil)))); (apply GvA.cons; (· exact .tmp _); (· exact GvP.c (.lit _))); exact GvA.nil); (· rfl); (· (decide))))
      rw [hM2]; simp [whenN, whenL]
    | true =>
      have sb : PC Try.prog 65 [.g [dI (whenN true 2), dI (whenN true 2), dI (whenN true (pwr n j)), eII (whenL true (repL ll j))], .g [dI 2, dI 2, dI n, eII ll]] _ := SumBoxes_p 2 2 (pwr n j) (repL ll j) 2 2 n ll
      rw [rep_wires hb hj2] at sb
      repeat' (first | (refine so_is (.assign _) ?_; (refine so_q (qt_asC rfl) rfl ?_)) | (refine so_is (.load 78 _) ?_; (refine so_q (qt_load_boxs rfl rfl (by kernel_rfl : tAgg _ 78 4 = true) rfl) rfl ?_)) | (refine so_is (.move _) ?_; (first | refine so_q (qt_mvC rfl) rfl ?_ | refine so_q (qt_mvT rfl) rfl ?_)) | (refine so_is (.pick _ _ _) ?_; (refine so_q (qt_pkC rfl rfl) rfl ?_)) | (refine so_is (.store 78 _ _) ?_; (refine so_store_box rfl rfl rfl (by kernel_rfl) rfl rfl ?_)) | (refine so_is (.extract _ _) ?_; refine so_q (qt_extract rfl rfl) rfl ?_) | (refine so_is (.binOp .lss 3 _ _ _) ?_; refine so_q (qt_lss rfl rfl) rfl ?_) | (refine so_is (.call ⟨.value (.func 65), _, _⟩) ?_; (apply so_callO0 (fid := 65); (· (repeat (first | exact SeA.nil | (apply SeA.cons; (· (apply SeP.g; (repeat (first | exact SeL.nil | apply SeL.cons (.d _) | apply SeL.cons (.all _ _ _ _ rfl (by ((simp; done)))))))))))); (· exact sb); (· rfl); (· rfl))) | refine so_nil ?_ | refine so_g_yes rfl rfl rfl rfl ?_ | refine sk_seq ?_ | refine sk_block ?_ | refine sk_blk ?_ | refine sk_exit rfl ?_ | refine sk_skip ?_ | refine sk_region (id := 5) ?_ | refine sk_region (id := 7) ?_ | refine sk_region (id := 8) ?_ | refine sk_if rfl (fun hc => ?_) (fun hc => ?_))
      all_goals first | (exfalso; simp_all; done) | skip
      · refine sk_ghost (sim_forget 3020) ?_
        refine sk_ghost (sim_ren 3034 3020 rfl rfl rfl rfl) ?_
        repeat' (first | (refine so_is (.assign _) ?_; (refine so_q (qt_asC rfl) rfl ?_)) | (refine so_is (.move _) ?_; (refine so_q (qt_mvC rfl) rfl ?_)) | (refine so_is (.binOp .add 3 _ _ _) ?_; refine so_q (qt_addI rfl rfl (by (omega))) rfl ?_) | refine so_nil ?_ | refine sk_region ?_)
        refine sk_back ?_; refine ⟨j + 1, ?_, ?_, le_at rfl (by (repeat (first | exact trivial | refine ⟨(by (rfl)), ?_⟩))) (by (repeat (first | exact trivial | refine ⟨rfl, ?_⟩))) (by (repeat (first | exact trivial | refine ⟨(by (rfl)), ?_⟩))) (by (repeat (first | exact trivial | refine ⟨.inr rfl, ?_⟩)))⟩
        · omega
        · omega
      · have h8 : j = M := by omega
        subst h8
        (apply sk_ret; apply ret_eq; (· apply RetOK.t; (· (apply GvA.cons; (· (apply RV.cellN (n := 4); (· rfl); (· rfl); (· kernel_rfl); (· rfl))); (· (apply GvP.g; (· (apply GvL.cons (.lit _)); (apply GvL.cons (.lit _)); (apply GvL.cons (.lit _)); ((apply GvL.cons (.row _ _ _ _ rfl (by ((simp; done)))))); exact GvL.nil)))); (apply GvA.cons; (· exact .tmp _); (· exact GvP.c (.lit _))); exact GvA.nil); (· rfl); (· (decide))))
        rw [hj2]

end Go.Proofs.Ytefbiejoikpkmaa

namespace Go.Proofs.Ytefbiejoikpkmaa
open Go.RowKit
set_option linter.unusedSectionVars false
variable [Glb]
set_option maxRecDepth 10000
set_option maxHeartbeats 4000000
theorem l2Times11_p (n : Int) (ll : List (List Int)) (hb : boxB 2 2 n ll = true) : PC Try.prog 161 [.g [dI 2, dI 2, dI n, eII ll], .c (dI 1), .c (dI 1)] (.p (.g [dI 2, dI 2, dI n, eII ll])) := by
  have b := boxB_spec hb
  have n1 := b.n1; have n2 := b.n2; have hl := b.len
  refine pc_intro Try.func161 rfl rfl rfl (by kernel_rfl) rfl rfl ?_; intro _
  repeat' (first | (with_reducible apply so_lt) | intro Y hY | ((with_reducible apply so_j2); (· assumption); (· rfl); (· exact (by (repeat (first | exact trivial | refine ⟨rfl, ?_⟩)))); (· exact (by (repeat (first | exact trivial | refine ⟨rfl, ?_⟩))))) | ((with_reducible apply so_j1); (· rfl); (· (repeat (first | exact Pf.nil | apply Pf.cons (.c rfl (.d rfl)) | apply Pf.cons (.c rfl (.lp rfl)) | (apply Pf.cons; (· apply Nv.g rfl; (repeat (first | exact Ncs.nil rfl | (apply Ncs.cons rfl; (· (first | exact .d rfl | exact .ls rfl)))))))))); (· (repeat (first | exact Pb.nil | apply Pb.cons (.row rfl) | (apply Pb.cons; (· apply Nb.box rfl; (repeat (first | exact Ncs.nil rfl | (apply Ncs.cons rfl; (· (exact .d rfl)))))))))); (· assumption)) | refine so_alt ?_ ?_ | (refine so_is (.box 78 _) ?_; refine so_box rfl rfl ?_) | (refine so_is (.alloc 78) ?_; refine so_alloc (zs := [.int .i64 0, .int .i64 0, .int .i64 0, .slice none 0 0]) (by kernel_rfl) rfl ?_) | (refine so_is (.fieldAddr 78 _ 0) ?_; (refine so_q (qt_fld_lp (off := 0) rfl (by kernel_rfl)) rfl ?_)) | (refine so_is (.load 3 _) ?_; (refine so_q (qt_load_box rfl rfl (by kernel_rfl) rfl) rfl ?_)) | (refine so_is (.fieldAddr 78 _ 1) ?_; (refine so_q (qt_fld_lp (off := 1) rfl (by kernel_rfl)) rfl ?_)) | (refine so_is (.fieldAddr 78 _ 2) ?_; (refine so_q (qt_fld_lp (off := 2) rfl (by kernel_rfl)) rfl ?_)) | (refine so_is (.move _) ?_; (refine so_q (qt_mvC rfl) rfl ?_)) | (refine so_is (.binOp .mul 3 _ _ _) ?_; refine so_q (qt_mulI rfl rfl (by (omega))) rfl ?_) | (refine so_is (.binOp .quo 3 _ _ _) ?_; (refine so_q (qt_quoN rfl rfl (by (omega)) (by (omega)) (by (omega))) rfl ?_)) | (refine so_is (.buildSlice 25 0 _) ?_; (apply so_bslice (sz := 1) (by_ := 24); (· kernel_rfl); (· decide); (· (repeat (exact GvS.nil _))); (· (decide)); (· rfl); (· rfl); (· rfl))) | (refine so_is (.build 78 _) ?_; refine so_q (qt_build (cs := [_, _, _, _]) [(0, 1), (1, 1), (2, 1), (3, 1)] [.int .i64 0, .int .i64 0, .int .i64 0, .slice none 0 0] (by kernel_rfl) (by kernel_rfl) rfl) rfl ?_) | (refine so_is (.store 78 _ _) ?_; (refine so_store_box rfl rfl rfl (by kernel_rfl) rfl rfl ?_)) | (refine so_is (.assign _) ?_; (refine so_q (qt_asC rfl) rfl ?_)) | refine so_nil ?_ | refine sk_seq ?_ | refine sk_block ?_ | refine sk_region ?_ | refine sk_drawQ 1 (fun i => i == 13) (IT.lt (.step 13 false .nil) fun Y0 => (.step 0 true (.step 1 true (.step 2 true (.step 3 true (.step 4 true (.step 5 true (.step 6 true (.step 7 true (.step 8 true (.step 9 true (.alt 1 (.step 10 false (.step 11 true (.step 12 false (IT.ref true [1, 2, 3, 6, 7, 22] [3, 6, 21, 7] Y0)))) (.step 12 false (.step 10 false (.step 11 true (IT.ref false [1, 2, 3, 6, 7, 22] [3, 6, 21, 7] Y0)))))))))))))))) [(0, 16383, 16383, true), (1, 16382, 16383, false), (0, 16383, 16383, true), (4, 16379, 16383, false), (0, 16383, 16383, true), (16, 16367, 16383, false), (0, 16383, 16383, true), (96, 16287, 16383, true), (0, 16383, 16383, true), (384, 15999, 16383, true), (0, 16383, 16383, false), (1546, 14837, 16383, true), (0, 16383, 16383, false), (8191, 10239, 16383, false)] (by kernel_rfl) (by kernel_rfl) ?_)
  apply sk_packC [1, 2, 3, 6, 7, 8] [3, 6, 7, 21, 30, 54, 55, 59, 60] rfl; (· (repeat (first | exact Pf.nil | apply Pf.cons (.c rfl (.d rfl)) | apply Pf.cons (.c rfl (.lp rfl))))); (· (repeat (first | exact Pb.nil | apply Pb.cons (.row rfl) | (apply Pb.cons; (· apply Nb.box rfl; (repeat (first | exact Ncs.nil rfl | (apply Ncs.cons rfl; (· (first | exact .d rfl | exact .ls rfl))))))) | apply Pb.skip)))
  refine sk_loopL [1, 2, 3, 6, 7] [3, 6, 30, 54, 55, 59, 60] (fun i => [(8, iN i)]) (fun i => [(7, .box [.d (dI 2), .d (dI 2), .d (dI n), .ls 21 1 0 i]), (21, .row 1 (cII (ll.take i)))]) (fun i => i ≤ ll.length) (fun i => ll.length - i) (0) ?_ (by (repeat (first | exact trivial | refine ⟨(by (rfl)), ?_⟩))) (by (repeat (first | exact trivial | refine ⟨(by (first | (refine row_eq rfl ?_; simp; done) | (refine box_eq rfl ?_; simp; done))), ?_⟩))) ?_
  · omega
  intro i hi
  have L0 : (ll.take i).length = i := by simp; omega
  by_cases hi2 : i < ll.length
  · have rr := boxB_at hb (q := i) (by omega) (by omega)
    have r4 := rr.1
    repeat' (first | (refine so_is (.move _) ?_; (refine so_q (qt_mvC rfl) rfl ?_)) | (refine so_is (.store 78 _ _) ?_; (refine so_store_box rfl rfl rfl (by kernel_rfl) rfl rfl ?_)) | (refine so_is (.assign _) ?_; (refine so_q (qt_asC rfl) rfl ?_)) | (refine so_is (.fieldAddr 78 _ 3) ?_; (refine so_q (qt_fld_lp (off := 3) rfl (by kernel_rfl)) rfl ?_)) | (refine so_is (.load 25 _) ?_; (refine so_q (qt_load_box rfl rfl (by kernel_rfl) rfl) rfl ?_)) | (refine so_is (.call ⟨.builtin .len, _, #[25]⟩) ?_; (refine so_q (qt_len_d rfl (by kernel_rfl)) rfl ?_)) | (refine so_is (.binOp .lss 3 _ _ _) ?_; refine so_q (qt_lss rfl rfl) rfl ?_) | (refine so_is (.buildSlice 24 0 _) ?_; (apply so_bslice (sz := 1) (by_ := 8); (· kernel_rfl); (· decide); (· (repeat (exact GvS.nil _))); (· (decide)); (· rfl); (· rfl); (· rfl))) | (refine so_is (.load 78 _) ?_; (refine so_q (qt_load_boxs rfl rfl (by kernel_rfl : tAgg _ 78 4 = true) rfl) rfl ?_)) | refine so_nil ?_ | refine sk_seq ?_ | refine sk_block ?_ | refine sk_exit rfl ?_ | refine sk_skip ?_ | refine sk_region ?_ | refine sk_if rfl (fun hc => ?_) (fun hc => ?_))
    · apply sk_packC [1, 2, 3, 6, 7, 8, 9, 10] [3, 6, 7, 21, 30, 54, 55, 59, 60] rfl; (· (repeat (first | exact Pf.nil | apply Pf.cons (.c rfl (.d rfl)) | apply Pf.cons (.c rfl (.ls rfl)) | apply Pf.cons (.c rfl (.lp rfl))))); (· (repeat (first | exact Pb.nil | apply Pb.cons (.row rfl) | (apply Pb.cons; (· apply Nb.box rfl; (repeat (first | exact Ncs.nil rfl | (apply Ncs.cons rfl; (· (first | exact .d rfl | exact .ls rfl))))))) | apply Pb.skip)))
      refine sk_loopL [1, 2, 3, 6, 7, 8] [3, 6, 21, 7, 54, 55, 59, 60] (fun k => [(10, iN k), (9, .c (.ls 30 1 0 k))]) (fun k => [(30, .row 1 (cI ((atZ ll i).take k)))]) (fun k => k ≤ (atZ ll i).length) (fun k => (atZ ll i).length - k) (0) ?_ (by (repeat (first | exact trivial | refine ⟨(by (rfl)), ?_⟩))) (by (repeat (first | exact trivial | refine ⟨(by ((refine row_eq rfl ?_; simp; done))), ?_⟩))) ?_
      · omega
      intro k hk
      have L1 : ((atZ ll i).take k).length = k := by simp; omega
      by_cases hk2 : k < (atZ ll i).length
      · have e := List.take_succ_eq_append_getElem hk2
        rw [← atZ_nat hk2] at e
        have v := rr.2 k (by omega) (by omega)
        repeat' (first | (refine so_is (.load 3 _) ?_; (refine so_q (qt_load_pt rfl (by kernel_rfl) rfl) rfl ?_)) | (refine so_is (.move _) ?_; (refine so_q (qt_mvC rfl) rfl ?_)) | (refine so_is (.binOp .mul 3 _ _ _) ?_; refine so_q (qt_mulI rfl rfl (by (omega))) rfl ?_) | (refine so_is (.binOp .quo 3 _ _ _) ?_; (refine so_q (qt_quoN rfl rfl (by (omega)) (by (omega)) (by (omega))) rfl ?_)) | (refine so_is (.assign _) ?_; (refine so_q (qt_asC rfl) rfl ?_)) | (refine so_is (.fieldAddr 78 _ 3) ?_; (refine so_q (qt_fld_lp (off := 3) rfl (by kernel_rfl)) rfl ?_)) | (refine so_is (.load 25 _) ?_; (refine so_q (qt_load_box rfl rfl (by kernel_rfl) rfl) rfl ?_)) | (refine so_is (.binOp .lss 3 _ _ _) ?_; refine so_q (qt_lss rfl rfl) rfl ?_) | (refine so_is (.indexAddr 25 _ _) ?_; (refine so_q (qt_idxII rfl rfl (by kernel_rfl) (by (omega)) (by (omega))) rfl ?_)) | (refine so_is (.load 24 _) ?_; (refine so_q (qt_load_pt rfl (by kernel_rfl) rfl) rfl ?_)) | (refine so_is (.call ⟨.builtin .len, _, #[24]⟩) ?_; (refine so_q (qt_len_d rfl (by kernel_rfl)) rfl ?_)) | (refine so_is (.indexAddr 24 _ _) ?_; (refine so_q (qt_idxI rfl rfl (by kernel_rfl) (by (omega)) (by (omega))) rfl ?_)) | (refine so_is (.buildSlice 24 1 _) ?_; (apply so_bslice (sz := 1) (by_ := 8); (· kernel_rfl); (· decide); (· (repeat (first | exact GvS.nil _ | apply GvS.c rfl rfl (.lit _) rfl))); (· (decide)); (· rfl); (· rfl); (· rfl))) | (refine so_is (.call ⟨.builtin .append, _, #[24, 24]⟩) ?_; ((apply so_appR (sz := 1) (by_ := 8); (· rfl); (· rfl); (· ((simp; omega))); (· exact .row _ _ _ _ rfl (by ((simp; done)))); (· (decide)); (· kernel_rfl); (· decide); (· (omega)); (· (omega)); (· rfl); (· rfl); (· rfl)))) | (refine so_is (.binOp .add 3 _ _ _) ?_; refine so_q (qt_addI rfl rfl (by (omega))) rfl ?_) | (refine so_is (.buildSlice 25 1 _) ?_; (apply so_bslice (sz := 1) (by_ := 24); (· kernel_rfl); (· decide); (· (repeat (first | exact GvS.nil _ | apply GvS.c rfl rfl (.row _ _ _ _ rfl (by ((simp; omega)))) rfl))); (· (decide)); (· rfl); (· rfl); (· rfl))) | (refine so_is (.call ⟨.builtin .append, _, #[25, 25]⟩) ?_; ((apply so_appR (sz := 1) (by_ := 24); (· rfl); (· rfl); (· ((simp; omega))); (· exact .row _ _ _ _ rfl (by ((simp; done)))); (· (decide)); (· kernel_rfl); (· decide); (· (omega)); (· (omega)); (· rfl); (· rfl); (· rfl)))) | (refine so_is (.store 25 _ _) ?_; (refine so_store_box1 rfl rfl rfl rfl (by kernel_rfl) rfl rfl ?_)) | refine so_nil ?_ | refine sk_seq ?_ | refine sk_block ?_ | refine sk_blk ?_ | refine sk_exit rfl ?_ | refine sk_skip ?_ | refine sk_region ?_ | refine sk_if rfl (fun hc => ?_) (fun hc => ?_))
        all_goals first | (exfalso; omega) | skip
        refine sk_back ?_; refine ⟨k + 1, ?_, ?_, le_at rfl (by (repeat (first | exact trivial | refine ⟨(by (rfl)), ?_⟩))) (by (repeat (first | exact trivial | refine ⟨rfl, ?_⟩))) (by (repeat (first | exact trivial | refine ⟨(by ((refine row_eq rfl ?_; simp  [e]; done))), ?_⟩))) (by (repeat (first | exact trivial | refine ⟨.inr rfl, ?_⟩)))⟩
        · omega
        · omega
      · have h8 : k = (atZ ll i).length := by omega
        subst h8
        have e := List.take_succ_eq_append_getElem hi2
        rw [← atZ_nat hi2] at e
        rw [List.take_length] at L1 ⊢
        repeat' (first | (refine so_is (.load 3 _) ?_; (refine so_q (qt_load_pt rfl (by kernel_rfl) rfl) rfl ?_)) | (refine so_is (.move _) ?_; (refine so_q (qt_mvC rfl) rfl ?_)) | (refine so_is (.binOp .mul 3 _ _ _) ?_; refine so_q (qt_mulI rfl rfl (by (omega))) rfl ?_) | (refine so_is (.binOp .quo 3 _ _ _) ?_; (refine so_q (qt_quoN rfl rfl (by (omega)) (by (omega)) (by (omega))) rfl ?_)) | (refine so_is (.assign _) ?_; (refine so_q (qt_asC rfl) rfl ?_)) | (refine so_is (.fieldAddr 78 _ 3) ?_; (refine so_q (qt_fld_lp (off := 3) rfl (by kernel_rfl)) rfl ?_)) | (refine so_is (.load 25 _) ?_; (refine so_q (qt_load_box rfl rfl (by kernel_rfl) rfl) rfl ?_)) | (refine so_is (.binOp .lss 3 _ _ _) ?_; refine so_q (qt_lss rfl rfl) rfl ?_) | (refine so_is (.indexAddr 25 _ _) ?_; (refine so_q (qt_idxII rfl rfl (by kernel_rfl) (by (omega)) (by (omega))) rfl ?_)) | (refine so_is (.load 24 _) ?_; (refine so_q (qt_load_pt rfl (by kernel_rfl) rfl) rfl ?_)) | (refine so_is (.call ⟨.builtin .len, _, #[24]⟩) ?_; (refine so_q (qt_len_d rfl (by kernel_rfl)) rfl ?_)) | (refine so_is (.indexAddr 24 _ _) ?_; (refine so_q (qt_idxI rfl rfl (by kernel_rfl) (by (omega)) (by (omega))) rfl ?_)) | (refine so_is (.buildSlice 24 1 _) ?_; (apply so_bslice (sz := 1) (by_ := 8); (· kernel_rfl); (· decide); (· (repeat (first | exact GvS.nil _ | apply GvS.c rfl rfl (.lit _) rfl))); (· (decide)); (· rfl); (· rfl); (· rfl))) | (refine so_is (.call ⟨.builtin .append, _, #[24, 24]⟩) ?_; ((apply so_appR (sz := 1) (by_ := 8); (· rfl); (· rfl); (· ((simp; done))); (· exact .row _ _ _ _ rfl (by ((simp; done)))); (· (decide)); (· kernel_rfl); (· decide); (· (omega)); (· (omega)); (· rfl); (· rfl); (· rfl)))) | (refine so_is (.binOp .add 3 _ _ _) ?_; refine so_q (qt_addI rfl rfl (by (omega))) rfl ?_) | (refine so_is (.buildSlice 25 1 _) ?_; (apply so_bslice (sz := 1) (by_ := 24); (· kernel_rfl); (· decide); (· (repeat (first | exact GvS.nil _ | apply GvS.c rfl rfl (.row _ _ _ _ rfl (by ((simp; done)))) rfl))); (· (decide)); (· rfl); (· rfl); (· rfl))) | (refine so_is (.call ⟨.builtin .append, _, #[25, 25]⟩) ?_; ((apply so_appR (sz := 1) (by_ := 24); (· rfl); (· rfl); (· ((simp; omega))); (· exact .row _ _ _ _ rfl (by ((simp; done)))); (· (decide)); (· kernel_rfl); (· decide); (· (omega)); (· (omega)); (· rfl); (· rfl); (· rfl)))) | (refine so_is (.store 25 _ _) ?_; (refine so_store_box1 rfl rfl rfl rfl (by kernel_rfl) rfl rfl ?_)) | refine so_nil ?_ | refine sk_seq ?_ | refine sk_block ?_ | refine sk_blk ?_ | refine sk_exit rfl ?_ | refine sk_skip ?_ | refine sk_region ?_ | refine sk_if rfl (fun hc => ?_) (fun hc => ?_))
        all_goals first | (exfalso; omega) | skip
        refine sk_back ?_; refine ⟨i + 1, ?_, ?_, le_at rfl (by (repeat (first | exact trivial | refine ⟨(by (rfl)), ?_⟩))) (by (repeat (first | exact trivial | refine ⟨rfl, ?_⟩))) (by (repeat (first | exact trivial | refine ⟨(by (first | (refine row_eq rfl ?_; simp  [e]; done) | rfl)), ?_⟩))) (by (repeat (first | exact trivial | refine ⟨.inr rfl, ?_⟩)))⟩
        · omega
        · omega
    · exfalso; omega
  · have h8 : i = ll.length := by omega
    subst h8
    rw [List.take_length]
    repeat' (first | (refine so_is (.move _) ?_; (refine so_q (qt_mvC rfl) rfl ?_)) | (refine so_is (.store 78 _ _) ?_; (refine so_store_box rfl rfl rfl (by kernel_rfl) rfl rfl ?_)) | (refine so_is (.assign _) ?_; (refine so_q (qt_asC rfl) rfl ?_)) | (refine so_is (.fieldAddr 78 _ 3) ?_; (refine so_q (qt_fld_lp (off := 3) rfl (by kernel_rfl)) rfl ?_)) | (refine so_is (.load 25 _) ?_; (refine so_q (qt_load_box rfl rfl (by kernel_rfl) rfl) rfl ?_)) | (refine so_is (.call ⟨.builtin .len, _, #[25]⟩) ?_; (refine so_q (qt_len_d rfl (by kernel_rfl)) rfl ?_)) | (refine so_is (.binOp .lss 3 _ _ _) ?_; refine so_q (qt_lss rfl rfl) rfl ?_) | (refine so_is (.buildSlice 24 0 _) ?_; (apply so_bslice (sz := 1) (by_ := 8); (· kernel_rfl); (· decide); (· (repeat (exact GvS.nil _))); (· (decide)); (· rfl); (· rfl); (· rfl))) | (refine so_is (.load 78 _) ?_; (refine so_q (qt_load_boxs rfl rfl (by kernel_rfl : tAgg _ 78 4 = true) rfl) rfl ?_)) | refine so_nil ?_ | refine sk_seq ?_ | refine sk_block ?_ | refine sk_exit rfl ?_ | refine sk_skip ?_ | refine sk_region ?_ | refine sk_if rfl (fun hc => ?_) (fun hc => ?_))
    all_goals first | (exfalso; omega) | skip
    (apply sk_ret; apply ret_eq; (· apply RetOK.p; (· (apply GvA.cons; (· (apply RV.cellN (n := 4); (· rfl); (· rfl); (· kernel_rfl); (· rfl))); (· (apply GvP.g; (· (apply GvL.cons (.lit _)); (apply GvL.cons (.lit _)); (apply GvL.cons (.lit _)); ((apply GvL.cons (.row _ _ _ _ rfl (by ((simp; done)))))); exact GvL.nil)))); exact GvA.nil); (· (decide))))
    rfl
theorem spRepeatSum_p (x y n : Int) (ll : List (List Int)) (m : Int) : PC Try.prog 70 [.g [dI x, dI y, dI n, eII ll], .c (dI m)] (.t [.g [dI (whenN (repeatOK x y n ll m) 2), dI (whenN (repeatOK x y n ll m) 2), dI (whenN (repeatOK x y n ll m) (pwr n (m - 1).toNat)), eII (whenL (repeatOK x y n ll m) (repL ll (m - 1).toNat))], .c (dB (repeatOK x y n ll m))]) := by
  cases hB : repeatB x y n ll m with
  | false =>
    have hO : repeatOK x y n ll m = false := by simp [repeatOK, hB]
    refine pc_intro Try.func70 rfl rfl rfl (by kernel_rfl) rfl rfl ?_; intro _
    repeat' (first | (refine so_is (.box 78 _) ?_; refine so_box rfl rfl ?_) | (refine so_is (.alloc 78) ?_; refine so_alloc (zs := [.int .i64 0, .int .i64 0, .int .i64 0, .slice none 0 0]) (by kernel_rfl) rfl ?_) | (refine so_is (.assign _) ?_; (refine so_q (qt_asC rfl) rfl ?_)) | (refine so_is (.load 78 _) ?_; (refine so_q (qt_load_boxs rfl rfl (by kernel_rfl : tAgg _ 78 4 = true) rfl) rfl ?_)) | (refine so_is (.unOp .not 4 _) ?_; refine so_q (qt_not rfl) rfl ?_) | (refine so_is (.move _) ?_; (refine so_q (qt_mvC rfl) rfl ?_)) | (refine so_is (.pick _ _ _) ?_; (refine so_q (qt_pkC rfl rfl) rfl ?_)) | (refine so_is (.build 78 _) ?_; refine so_q (qt_build (cs := [_, _, _, _]) [(0, 1), (1, 1), (2, 1), (3, 1)] [.int .i64 0, .int .i64 0, .int .i64 0, .slice none 0 0] (by kernel_rfl) (by kernel_rfl) rfl) rfl ?_) | (refine so_is (.store 78 _ _) ?_; (refine so_store_box rfl rfl rfl (by kernel_rfl) rfl rfl ?_)) | (refine so_is (.call ⟨.value (.func 160), _, _⟩) ?_; (apply so_call0 (fid := 160); (· (repeat (first | exact SeA.nil | (apply SeA.cons; (· (apply SeP.g; (repeat (first | exact SeL.nil | apply SeL.cons (.d _))))))))); (· exact l6Two_p _ _ _ _); (· rfl))) | (refine so_is (.call ⟨.value (.func 144), _, _⟩) ?_; (apply so_call0 (fid := 144); (· (repeat (first | exact SeA.nil | apply SeA.cons (.c (.d _))))); (· exact l1In_p _ _ _); (· rfl))) | refine so_nil ?_ | refine so_g_no rfl rfl rfl rfl ?_ | refine so_g_yes rfl rfl rfl rfl ?_ | refine so_g_b rfl rfl (fun hg => ?_) (fun hg => ?_) | refine sk_seq ?_ | refine sk_skip ?_ | refine sk_region ?_ | refine sk_true rfl ?_ | refine sk_not rfl (fun hc => ?_) (fun hc => ?_))
    all_goals first | (exfalso; simp_all [repeatB]; done) | skip
    all_goals (apply sk_ret; apply ret_eq; (· apply RetOK.t; (· (apply GvA.cons; (· (apply RV.cellN (n := 4); (· rfl); (· rfl); (· kernel_rfl); (· rfl))); (· (apply GvP.g; (· (apply GvL.cons (.lit _)); (apply GvL.cons (.lit _)); (apply GvL.cons (.lit _)); ((apply GvL.cons (.nil 1 (by decide)))); exact GvL.nil)))); (apply GvA.cons; (· exact .tmp _); (· exact GvP.c (.lit _))); exact GvA.nil); (· rfl); (· (decide))))
    all_goals simp [hO, whenN, whenL]
  | true =>
    have hO : repeatOK x y n ll m = repOK n (m - 1).toNat := by simp [repeatOK, hB]
    have hB2 := hB
    simp only [repeatB, Bool.and_eq_true] at hB2
    obtain ⟨v1, v2⟩ := hB2
    have hm := inB_iff.1 v2
    have v1' := v1
    obtain ⟨rfl, rfl, hb, n1, n2⟩ := pairB_spec v1
    rw [hO]
    obtain ⟨M, hM⟩ : ∃ M : Nat, m = (M : Int) + 1 := ⟨(m - 1).toNat, by omega⟩
    subst hM
    rw [show ((M : Int) + 1 - 1).toNat = M by omega]
    refine pc_intro Try.func70 rfl rfl rfl (by kernel_rfl) rfl rfl ?_; intro _
    repeat' (first | (refine so_is (.box 78 _) ?_; refine so_box rfl rfl ?_) | (refine so_is (.alloc 78) ?_; refine so_alloc (zs := [.int .i64 0, .int .i64 0, .int .i64 0, .slice none 0 0]) (by kernel_rfl) rfl ?_) | (refine so_is (.assign _) ?_; (refine so_q (qt_asC rfl) rfl ?_)) | (refine so_is (.load 78 _) ?_; (refine so_q (qt_load_boxs rfl rfl (by kernel_rfl : tAgg _ 78 4 = true) rfl) rfl ?_)) | (refine so_is (.unOp .not 4 _) ?_; refine so_q (qt_not rfl) rfl ?_) | (refine so_is (.move _) ?_; (refine so_q (qt_mvC rfl) rfl ?_)) | (refine so_is (.pick _ _ _) ?_; (refine so_q (qt_pkC rfl rfl) rfl ?_)) | (refine so_is (.build 78 _) ?_; refine so_q (qt_build (cs := [_, _, _, _]) [(0, 1), (1, 1), (2, 1), (3, 1)] [.int .i64 0, .int .i64 0, .int .i64 0, .slice none 0 0] (by kernel_rfl) (by kernel_rfl) rfl) rfl ?_) | (refine so_is (.store 78 _ _) ?_; (refine so_store_box rfl rfl rfl (by kernel_rfl) rfl rfl ?_)) | (refine so_is (.call ⟨.value (.func 160), _, _⟩) ?_; (apply so_call0 (fid := 160); (· (repeat (first | exact SeA.nil | (apply SeA.cons; (· (apply SeP.g; (repeat (first | exact SeL.nil | apply SeL.cons (.d _))))))))); (· exact l6Two_p _ _ _ _); (· rfl))) | (refine so_is (.call ⟨.value (.func 144), _, _⟩) ?_; (apply so_call0 (fid := 144); (· (repeat (first | exact SeA.nil | apply SeA.cons (.c (.d _))))); (· exact l1In_p _ _ _); (· rfl))) | (refine so_is (.call ⟨.value (.func 161), _, _⟩) ?_; (apply so_callO0 (fid := 161); (· (repeat (first | exact SeA.nil | apply SeA.cons (.c (.d _)) | (apply SeA.cons; (· (apply SeP.g; (repeat (first | exact SeL.nil | apply SeL.cons (.d _))))))))); (· exact l2Times11_p _ _ hb); (· rfl); (· rfl))) | refine so_nil ?_ | refine so_g_no rfl rfl rfl rfl ?_ | refine so_g_yes rfl rfl rfl rfl ?_ | refine so_g_b rfl rfl (fun hg => ?_) (fun hg => ?_) | refine sk_seq ?_ | refine sk_block ?_ | refine sk_skip ?_ | refine sk_region ?_ | refine sk_true rfl ?_ | refine sk_not rfl (fun hc => ?_) (fun hc => ?_))
    all_goals first | (exfalso; simp_all [repeatB]; done) | skip
    apply sk_packC [1, 2, 4, 6, 7] [2, 4, 6, 31, 32, 1031, 1032, 2031, 2032, 3018, 3033] rfl; (· (repeat (first | exact Pf.nil | apply Pf.cons (.c rfl (.d rfl)) | apply Pf.cons (.c rfl (.lp rfl))))); (· (repeat (first | exact Pb.nil | apply Pb.cons (.row rfl) | (apply Pb.cons; (· apply Nb.box rfl; (repeat (first | exact Ncs.nil rfl | (apply Ncs.cons rfl; (· (first | exact .d rfl | exact .ls rfl))))))) | apply Pb.skip)))
    refine sk_loopL [1, 2, 4, 6] [2, 4, 31, 1031, 2031, 32, 1032, 2032, 3033] (fun (j : Nat) => [(7, .c (.d (dI (j + 1))))]) (fun j => [(6, .box [.d (dI 2), .d (dI 2), .d (dI (pwr n j)), .ls 3018 1 0 (repL ll j).length]), (3018, .row 1 (cII (repL ll j)))]) (fun j => j ≤ M ∧ repOK n j = true) (fun j => M - j) (0) ?_ (by (repeat (first | exact trivial | refine ⟨(by (rfl)), ?_⟩))) (by (repeat (first | exact trivial | refine ⟨(by (first | (refine row_eq rfl ?_; simp  [pwr, repL]; done) | (refine box_eq rfl ?_; simp  [pwr, repL]; done))), ?_⟩))) ?_
    · exact ⟨by omega, rfl⟩
    rintro j ⟨hj, hj2⟩
    have rb := rep_box hb j hj2
    have rwE := rep_wires hb hj2
    repeat' (first | (refine so_is (.assign _) ?_; (refine so_q (qt_asC rfl) rfl ?_)) | (refine so_is (.load 78 _) ?_; (refine so_q (qt_load_boxs rfl rfl (by kernel_rfl : tAgg _ 78 4 = true) rfl) rfl ?_)) | (refine so_is (.unOp .not 4 _) ?_; refine so_q (qt_not rfl) rfl ?_) | (refine so_is (.move _) ?_; (refine so_q (qt_mvC rfl) rfl ?_)) | (refine so_is (.build 78 _) ?_; refine so_q (qt_build (cs := [_, _, _, _]) [(0, 1), (1, 1), (2, 1), (3, 1)] [.int .i64 0, .int .i64 0, .int .i64 0, .slice none 0 0] (by kernel_rfl) (by kernel_rfl) rfl) rfl ?_) | (refine so_is (.store 78 _ _) ?_; (refine so_store_box rfl rfl rfl (by kernel_rfl) rfl rfl ?_)) | (refine so_is (.binOp .lss 3 _ _ _) ?_; refine so_q (qt_lss rfl rfl) rfl ?_) | (refine so_is (.call ⟨.value (.func 155), _, _⟩) ?_; (apply so_call0 (fid := 155); (· (repeat (first | exact SeA.nil | (apply SeA.cons; (· (apply SeP.g; (repeat (first | exact SeL.nil | apply SeL.cons (.d _) | apply SeL.cons (.all _ _ _ _ rfl (by ((simp; done)))))))))))); (· exact l10Both_p _ _ _ _ _ _ _ _); (· rfl))) | (refine so_is (.call ⟨.value (.func 157), _, _⟩) ?_; (apply so_callO0 (fid := 157); (· (repeat (first | exact SeA.nil | apply SeA.cons (.c (.d _))))); (· exact l10Named3_p); (· rfl); (· rfl))) | (refine so_is (.call ⟨.value (.func 156), _, _⟩) ?_; (apply so_callO0 (fid := 156); (· (repeat (first | exact SeA.nil | (apply SeA.cons; (· (apply SeP.g; (repeat (first | exact SeL.nil | apply SeL.cons (.d _) | apply SeL.cons (.all _ _ _ _ rfl (by ((simp; done)))))))))))); (· exact l10Wire_p _ _ _ _ _ _ _ _ _ _ rb hb sum_rule sum_rule); (· rfl); (· rfl))) | refine so_nil ?_ | refine sk_seq ?_ | refine sk_block ?_ | refine sk_blk ?_ | refine sk_exit rfl ?_ | refine sk_skip ?_ | refine sk_region (id := 5) ?_ | refine sk_region (id := 7) ?_ | refine sk_region (id := 8) ?_ | refine sk_drawQ 9 (fun i => i == 5) (.step 0 true (.step 1 true (.step 2 false (.step 3 false (.step 4 false (.step 5 false .nil)))))) [(0, 63, 63, false), (0, 63, 63, false), (0, 63, 63, false), (4, 63, 63, false), (15, 48, 63, false), (31, 47, 63, false)] (by kernel_rfl) (by kernel_rfl) ?_ | refine sk_region (id := 10) ?_ | refine sk_if rfl (fun hc => ?_) (fun hc => ?_) | refine sk_not rfl (fun hc => ?_) (fun hc => ?_))
    all_goals first | (exfalso; simp_all; done) | skip
    · have hM2 := repOK_mono (n := n) (k := j + 1) (m := M) (by omega) (by rw [← rwE]; exact hc)
      (apply sk_ret; apply ret_eq; (· apply RetOK.t; (· (apply GvA.cons; (· (apply RV.cellN (n := 4); (· rfl); (· rfl); (· kernel_rfl); (· rfl))); (· (apply GvP.g; (· (apply GvL.cons (.lit _)); (apply GvL.cons (.lit _)); (apply GvL.cons (.lit _)); ((apply GvL.cons (.nil 1 (by decide)))); exact GvL.nil)))); (apply GvA.cons; (· exact .tmp _); (· exact GvP.c (.lit _))); exact GvA.nil); (· rfl); (· (decide))))
      rw [hM2]; simp [whenN, whenL]
    · refine sk_ghost (sim_forget 3018) ?_
      refine sk_ghost (sim_ren 3033 3018 rfl rfl rfl rfl) ?_
      repeat' (first | (refine so_is (.assign _) ?_; (refine so_q (qt_asC rfl) rfl ?_)) | (refine so_is (.move _) ?_; (refine so_q (qt_mvC rfl) rfl ?_)) | (refine so_is (.binOp .add 3 _ _ _) ?_; refine so_q (qt_addI rfl rfl (by (omega))) rfl ?_) | refine so_nil ?_ | refine sk_region ?_)
      refine sk_back ?_; refine ⟨j + 1, ?_, ?_, le_at rfl (by (repeat (first | exact trivial | refine ⟨(by (rfl)), ?_⟩))) (by (repeat (first | exact trivial | refine ⟨rfl, ?_⟩))) (by (repeat (first | exact trivial | refine ⟨(by (rfl)), ?_⟩))) (by (repeat (first | exact trivial | refine ⟨.inr rfl, ?_⟩ | refine ⟨.inl rfl, ?_⟩)))⟩
      · exact ⟨by omega, by rw [← rwE]; exact hc⟩
      · omega
    · have h8 : j = M := by omega
      subst h8
      (apply sk_ret; apply ret_eq; (· apply RetOK.t; (· (apply GvA.cons; (· (apply RV.cellN (n := 4); (· rfl); (· rfl); (· kernel_rfl); (· rfl))); (· (apply GvP.g; (· (apply GvL.cons (.lit _)); (apply GvL.cons (.lit _)); (apply GvL.cons (.lit _)); ((apply GvL.cons (.row _ _ _ _ rfl (by ((simp; done)))))); exact GvL.nil)))); (apply GvA.cons; (· exact .tmp _); (· exact GvP.c (.lit _))); exact GvA.nil); (· rfl); (· (decide))))
      rw [hj2]; simp [whenN, whenL]

end Go.Proofs.Ytefbiejoikpkmaa

namespace Go.Proofs.Ytefbiejoikpkmaa
open Go.RowKit
set_option linter.unusedSectionVars false
variable [Glb]
set_option maxRecDepth 10000
set_option maxHeartbeats 4000000
theorem agreement_p (row : List Int) (h : row.length = 4) (hb : ∀ k : Int, 0 ≤ k → k < 4 → -1000000000 ≤ atZ row k ∧ atZ row k ≤ 1000000000) : PC Try.prog 177 [.c (eI row)] (.p (.c (dI (agrZ row)))) := by
  have b0 := hb 0 (by omega) (by omega)
  have b1 := hb 1 (by omega) (by omega)
  have b2 := hb 2 (by omega) (by omega)
  have b3 := hb 3 (by omega) (by omega)
  refine pc_intro Try.func177 rfl rfl rfl (by kernel_rfl) rfl rfl ?_; intro _
  repeat' (first | (refine so_is (.assign _) ?_; (refine so_q (qt_asC rfl) rfl ?_)) | (refine so_is (.move _) ?_; (refine so_q (qt_mvC rfl) rfl ?_)) | (refine so_is (.indexAddr 24 _ _) ?_; (refine so_q (qt_idxI rfl rfl (by kernel_rfl) (by (omega)) (by (omega))) rfl ?_)) | (refine so_is (.load 3 _) ?_; (refine so_q (qt_load_pt rfl (by kernel_rfl) rfl) rfl ?_)) | (refine so_is (.binOp .sub 3 _ _ _) ?_; refine so_q (qt_subI rfl rfl (by (omega))) rfl ?_) | (refine so_is (.binOp .add 3 _ _ _) ?_; refine so_q (qt_addI rfl rfl (by (omega))) rfl ?_) | refine so_nil ?_ | refine sk_seq ?_ | refine sk_region ?_ | refine sk_drawQ 1 (fun _ => false) (.step 0 true (.step 1 true (.step 2 true (.step 3 true (.step 4 true (.step 5 true (.step 6 true (.step 7 true (.step 8 true (.step 9 true (.step 10 true (.step 11 true (.step 12 true (.step 13 true (.step 14 true (.step 15 true .nil)))))))))))))))) [(0, 65535, 65535, true), (1, 65534, 65535, true), (2, 65533, 65535, false), (0, 65535, 65535, true), (8, 65527, 65535, true), (16, 65519, 65535, false), (36, 65499, 65535, true), (0, 65535, 65535, true), (128, 65407, 65535, true), (256, 65279, 65535, false), (576, 64959, 65535, true), (0, 65535, 65535, true), (2048, 63487, 65535, true), (4096, 61439, 65535, false), (9216, 56319, 65535, true), (32767, 49151, 65535, true)] (by kernel_rfl) (by kernel_rfl) ?_)
  · (apply sk_ret; apply ret_eq; (· apply RetOK.p; (· (apply GvA.cons; (· exact .tmp _); (· exact GvP.c (.lit _))); exact GvA.nil); (· (decide))))
    rfl

end Go.Proofs.Ytefbiejoikpkmaa

namespace Go.Proofs.Ytefbiejoikpkmaa
open Go.RowKit
set_option linter.unusedSectionVars false
variable [Glb]
set_option maxRecDepth 10000
set_option maxHeartbeats 4000000
theorem differ_p (k x y : Nat) (hk : k < 8) (hx : x < 2) (hy : y < 2) : PC Try.prog 214 [.c (dI k), .c (dI x), .c (dI y)] (.p (.c (dI (difK k x y)))) := by
  have e : ((x : Int) * y + (k : Int) / 4 % 2 * x + (k : Int) / 2 % 2 * y + (k : Int) % 2) % 2 = difK k x y ∧ (0 ≤ (x : Int) * y ∧ (x : Int) * y ≤ 1) ∧ (0 ≤ (k : Int) / 4 % 2 * x ∧ (k : Int) / 4 % 2 * x ≤ 1) ∧ (0 ≤ (k : Int) / 2 % 2 * y ∧ (k : Int) / 2 % 2 * y ≤ 1) := by
    unfold difK
    rcases (by omega : x = 0 ∨ x = 1) with rfl | rfl <;> rcases (by omega : y = 0 ∨ y = 1) with rfl | rfl <;> simp <;> omega
  refine pc_intro Try.func214 rfl rfl rfl (by kernel_rfl) rfl rfl ?_; intro _
  repeat' (first | (refine so_is (.assign _) ?_; (refine so_q (qt_asC rfl) rfl ?_)) | (refine so_is (.move _) ?_; (refine so_q (qt_mvC rfl) rfl ?_)) | (refine so_is (.binOp .shr 3 _ _ _) ?_; (first | refine so_q (qt_shrC (c := 4) rfl rfl (by decide)) rfl ?_ | refine so_q (qt_shrC (c := 2) rfl rfl (by decide)) rfl ?_)) | (refine so_is (.binOp .and 3 _ _ _) ?_; refine so_q (qt_andM 1 (c := 2) rfl rfl (by decide)) rfl ?_) | (refine so_is (.binOp .mul 3 _ _ _) ?_; refine so_q (qt_mulI rfl rfl (by (omega))) rfl ?_) | (refine so_is (.binOp .add 3 _ _ _) ?_; refine so_q (qt_addI rfl rfl (by (omega))) rfl ?_) | (refine so_is (.binOp .rem 3 _ _ _) ?_; (refine so_q (qt_remN rfl rfl (by (omega)) (by (omega)) (by (omega))) rfl ?_)) | refine so_nil ?_ | refine sk_seq ?_ | refine sk_region ?_)
  (apply sk_ret; apply ret_eq; (· apply RetOK.p; (· (apply GvA.cons; (· exact .tmp _); (· exact GvP.c (.lit _))); exact GvA.nil); (· (decide))))
  rw [← e.1]
theorem eightSums_p (n : Int) (ll : List (List Int)) (h : boxB 2 2 n ll = true) : PC Try.prog 165 [.g [dI 2, dI 2, dI n, eII ll]] (.p (.c (eI (sumsL ll)))) := by
  have hb := boxB_spec h
  have n1 := hb.n1; have n2 := hb.n2; have hl := hb.len
  refine pc_intro Try.func165 rfl rfl rfl (by kernel_rfl) rfl rfl ?_; intro _
  repeat' (first | (refine so_is (.box 78 _) ?_; refine so_box rfl rfl ?_) | (refine so_is (.assign _) ?_; (refine so_q (qt_asC rfl) rfl ?_)) | (refine so_is (.buildSlice 24 0 _) ?_; (apply so_bslice (sz := 1) (by_ := 8); (· kernel_rfl); (· decide); (· (repeat (exact GvS.nil _))); (· (decide)); (· rfl); (· rfl); (· rfl))) | (refine so_is (.move _) ?_; (refine so_q (qt_mvC rfl) rfl ?_)) | refine so_nil ?_ | refine sk_seq ?_ | refine sk_block ?_ | refine sk_region ?_)
  apply sk_packC [1, 3, 9] [1, 8, 40, 41] rfl; (· (repeat (first | exact Pf.nil | apply Pf.cons (.c rfl (.d rfl)) | apply Pf.cons (.c rfl (.ls rfl)) | apply Pf.cons (.c rfl (.lp rfl))))); (· (repeat (first | exact Pb.nil | apply Pb.cons (.row rfl) | (apply Pb.cons; (· apply Nb.box rfl; (repeat (first | exact Ncs.nil rfl | (apply Ncs.cons rfl; (· (exact .d rfl))))))) | apply Pb.skip)))
  refine sk_loopL [1] [1, 40, 41] (fun k => [(9, iN k), (3, .c (.ls 8 1 0 k))]) (fun k => [(8, .row 1 (cI (rowF (sgnK ll) k)))]) (fun k => k ≤ 8) (fun k => 8 - k) (0) ?_ (by (repeat (first | exact trivial | refine ⟨(by (rfl)), ?_⟩))) (by (repeat (first | exact trivial | refine ⟨(by (rfl)), ?_⟩))) ?_
  · omega
  intro k hk
  by_cases hk8 : k < 8
  · repeat' (first | (refine so_is (.assign _) ?_; (refine so_q (qt_asC rfl) rfl ?_)) | (refine so_is (.move _) ?_; (refine so_q (qt_mvC rfl) rfl ?_)) | (refine so_is (.binOp .lss 3 _ _ _) ?_; refine so_q (qt_lss rfl rfl) rfl ?_) | refine so_nil ?_ | refine sk_seq ?_ | refine sk_block ?_ | refine sk_exit rfl ?_ | refine sk_skip ?_ | refine sk_region ?_ | refine sk_if rfl (fun hc => ?_) (fun hc => ?_))
    all_goals first | (exfalso; omega) | skip
    apply sk_packC [1, 3, 4, 5, 9, 12] [1, 8, 40, 41] rfl; (· (repeat (first | exact Pf.nil | apply Pf.cons (.c rfl (.d rfl)) | apply Pf.cons (.c rfl (.ls rfl)) | apply Pf.cons (.c rfl (.lp rfl))))); (· (repeat (first | exact Pb.nil | apply Pb.cons (.row rfl) | (apply Pb.cons; (· apply Nb.box rfl; (repeat (first | exact Ncs.nil rfl | (apply Ncs.cons rfl; (· (exact .d rfl))))))) | apply Pb.skip)))
    refine sk_loopL [1, 3, 4, 9] [1, 8, 40, 41] (fun x => [(12, iN x), (5, iZ (accT (sgnT ll k) (2 * x)))]) (fun _ => []) (fun x => x ≤ 2) (fun x => 2 - x) (0) ?_ (by (repeat (first | exact trivial | refine ⟨(by (rfl)), ?_⟩))) (by (repeat (exact trivial))) ?_
    · omega
    intro x hx
    have bx := accT_bd (n := n) (by omega) (t := sgnT ll k) (m := 2 * x) fun j hj => sgnT_bd h k (by omega)
    by_cases hx2 : x < 2
    · repeat' (first | (refine so_is (.assign _) ?_; (refine so_q (qt_asC rfl) rfl ?_)) | (refine so_is (.move _) ?_; (refine so_q (qt_mvC rfl) rfl ?_)) | (refine so_is (.binOp .lss 3 _ _ _) ?_; refine so_q (qt_lss rfl rfl) rfl ?_) | (refine so_is (.binOp .add 3 _ _ _) ?_; refine so_q (qt_addI rfl rfl (by (omega))) rfl ?_) | (refine so_is (.buildSlice 24 1 _) ?_; (apply so_bslice (sz := 1) (by_ := 8); (· kernel_rfl); (· decide); (· (repeat (first | exact GvS.nil _ | apply GvS.c rfl rfl (.lit _) rfl))); (· (decide)); (· rfl); (· rfl); (· rfl))) | (refine so_is (.call ⟨.builtin .append, _, #[24, 24]⟩) ?_; ((apply so_appR (sz := 1) (by_ := 8); (· rfl); (· rfl); (· ((simp; done))); (· exact .row _ _ _ _ rfl (by ((simp; done)))); (· (decide)); (· kernel_rfl); (· decide); (· (omega)); (· (omega)); (· rfl); (· rfl); (· rfl)))) | refine so_nil ?_ | refine sk_seq ?_ | refine sk_block ?_ | refine sk_blk ?_ | refine sk_exit rfl ?_ | refine sk_skip ?_ | refine sk_region ?_ | refine sk_if rfl (fun hc => ?_) (fun hc => ?_))
      all_goals first | (exfalso; omega) | skip
      apply sk_packC [1, 3, 4, 5, 6, 9, 12, 15] [1, 8, 40, 41] rfl; (· (repeat (first | exact Pf.nil | apply Pf.cons (.c rfl (.d rfl)) | apply Pf.cons (.c rfl (.ls rfl)) | apply Pf.cons (.c rfl (.lp rfl))))); (· (repeat (first | exact Pb.nil | apply Pb.cons (.row rfl) | (apply Pb.cons; (· apply Nb.box rfl; (repeat (first | exact Ncs.nil rfl | (apply Ncs.cons rfl; (· (exact .d rfl))))))) | apply Pb.skip)))
      refine sk_loopL [1, 3, 4, 6, 9, 12] [1, 8, 40, 41] (fun y => [(15, iN y), (5, iZ (accT (sgnT ll k) (2 * x + y)))]) (fun _ => []) (fun y => y ≤ 2) (fun y => 2 - y) (0) ?_ (by (repeat (first | exact trivial | refine ⟨(by (rfl)), ?_⟩))) (by (repeat (exact trivial))) ?_
      · omega
      intro y hy
      have hm : 2 * x + y ≤ 4 := by omega
      have by_ := accT_bd (n := n) (by omega) (t := sgnT ll k) (m := 2 * x + y) fun j hj => sgnT_bd h k (by omega)
      have hmn : ((2 * x + y : Nat) : Int) * n ≤ 4 * 1000 := Int.mul_le_mul (by omega) n2 (by omega) (by omega)
      by_cases hy2 : y < 2
      · have a := agr_bd h (j := 2 * x + y) (by omega)
        have d := difK_bd k x y
        have sb := sign_bd a.1 a.2 d
        have hr := boxB_at h (q := 2 * (x : Int) + y) (by omega) (by omega)
        have st : sgnT ll k (2 * x + y) = agrZ (atZ ll (2 * (x : Int) + y)) * (1 - 2 * difK k x y) := by
          unfold sgnT
          rw [show (2 * x + y) / 2 = x by omega, show (2 * x + y) % 2 = y by omega]
          congr 2
        have e2 : ((2 * x + y : Nat) : Int) = 2 * (x : Int) + y := by omega
        rw [e2] at a sb
        have es : accT (sgnT ll k) (2 * x + (y + 1)) = accT (sgnT ll k) (2 * x + y) + agrZ (atZ ll (2 * (x : Int) + y)) * (1 - 2 * difK k x y) := by
          rw [← st]; rfl
        repeat' (first | (refine so_is (.assign _) ?_; (refine so_q (qt_asC rfl) rfl ?_)) | (refine so_is (.move _) ?_; (refine so_q (qt_mvC rfl) rfl ?_)) | (refine so_is (.binOp .lss 3 _ _ _) ?_; refine so_q (qt_lss rfl rfl) rfl ?_) | (refine so_is (.fieldAddr 78 _ 3) ?_; (refine so_q (qt_fld_lp (off := 3) rfl (by kernel_rfl)) rfl ?_)) | (refine so_is (.load 25 _) ?_; (refine so_q (qt_load_box rfl rfl (by kernel_rfl) rfl) rfl ?_)) | (refine so_is (.binOp .mul 3 _ _ _) ?_; refine so_q (qt_mulI rfl rfl (by (omega))) rfl ?_) | (refine so_is (.binOp .add 3 _ _ _) ?_; refine so_q (qt_addI rfl rfl (by (omega))) rfl ?_) | (refine so_is (.indexAddr 25 _ _) ?_; (refine so_q (qt_idxII rfl rfl (by kernel_rfl) (by (omega)) (by (omega))) rfl ?_)) | (refine so_is (.load 24 _) ?_; (refine so_q (qt_load_pt rfl (by kernel_rfl) rfl) rfl ?_)) | (refine so_is (.binOp .sub 3 _ _ _) ?_; refine so_q (qt_subI rfl rfl (by (omega))) rfl ?_) | (refine so_is (.call ⟨.value (.func 177), _, _⟩) ?_; (apply so_call0 (fid := 177); (· (repeat (first | exact SeA.nil | apply SeA.cons (.c (.d _))))); (· exact agreement_p _ hr.1 (fun p h1 h2 => by have := hr.2 p h1 h2; omega)); (· rfl))) | (refine so_is (.call ⟨.value (.func 214), _, _⟩) ?_; (apply so_call0 (fid := 214); (· (repeat (first | exact SeA.nil | apply SeA.cons (.c (.d _))))); (· exact differ_p _ _ _ hk8 hx2 hy2); (· rfl))) | refine so_nil ?_ | refine sk_seq ?_ | refine sk_block ?_ | refine sk_blk ?_ | refine sk_exit rfl ?_ | refine sk_skip ?_ | refine sk_region ?_ | refine sk_if rfl (fun hc => ?_) (fun hc => ?_))
        all_goals first | (exfalso; omega) | skip
        refine sk_back ?_; refine ⟨y + 1, ?_, ?_, le_at rfl (by (repeat (first | exact trivial | refine ⟨(by (first | rfl | (refine int_eq rfl ?_; (omega)))), ?_⟩))) (by (repeat (first | exact trivial | refine ⟨rfl, ?_⟩))) (by (repeat (exact trivial))) (by (repeat (first | exact trivial | refine ⟨.inr rfl, ?_⟩)))⟩
        · omega
        · omega
      · have e : y = 2 := by omega
        subst e
        repeat' (first | (refine so_is (.move _) ?_; (refine so_q (qt_mvC rfl) rfl ?_)) | (refine so_is (.binOp .lss 3 _ _ _) ?_; refine so_q (qt_lss rfl rfl) rfl ?_) | (refine so_is (.binOp .add 3 _ _ _) ?_; refine so_q (qt_addI rfl rfl (by (omega))) rfl ?_) | refine so_nil ?_ | refine sk_seq ?_ | refine sk_blk ?_ | refine sk_exit rfl ?_ | refine sk_region ?_ | refine sk_false rfl ?_)
        all_goals first | (exfalso; omega) | skip
        refine sk_back ?_; refine ⟨x + 1, ?_, ?_, le_at rfl (by (repeat (first | exact trivial | refine ⟨(by (rfl)), ?_⟩))) (by (repeat (first | exact trivial | refine ⟨rfl, ?_⟩))) (by (repeat (exact trivial))) (by (repeat (first | exact trivial | refine ⟨.inr rfl, ?_⟩)))⟩
        · omega
        · omega
    · have e : x = 2 := by omega
      subst e
      repeat' (first | (refine so_is (.assign _) ?_; (refine so_q (qt_asC rfl) rfl ?_)) | (refine so_is (.move _) ?_; (refine so_q (qt_mvC rfl) rfl ?_)) | (refine so_is (.binOp .lss 3 _ _ _) ?_; refine so_q (qt_lss rfl rfl) rfl ?_) | (refine so_is (.binOp .add 3 _ _ _) ?_; refine so_q (qt_addI rfl rfl (by (omega))) rfl ?_) | (refine so_is (.buildSlice 24 1 _) ?_; (apply so_bslice (sz := 1) (by_ := 8); (· kernel_rfl); (· decide); (· (repeat (first | exact GvS.nil _ | apply GvS.c rfl rfl (.lit _) rfl))); (· (decide)); (· rfl); (· rfl); (· rfl))) | (refine so_is (.call ⟨.builtin .append, _, #[24, 24]⟩) ?_; ((apply so_appR (sz := 1) (by_ := 8); (· rfl); (· rfl); (· ((simp; done))); (· exact .row _ _ _ _ rfl (by ((simp; done)))); (· (decide)); (· kernel_rfl); (· decide); (· (omega)); (· (omega)); (· rfl); (· rfl); (· rfl)))) | refine so_nil ?_ | refine sk_seq ?_ | refine sk_blk ?_ | refine sk_exit rfl ?_ | refine sk_region ?_ | refine sk_false rfl ?_)
      all_goals first | (exfalso; omega) | skip
      refine sk_back ?_; refine ⟨k + 1, ?_, ?_, le_at rfl (by (repeat (first | exact trivial | refine ⟨(by (rfl)), ?_⟩))) (by (repeat (first | exact trivial | refine ⟨rfl, ?_⟩))) (by (repeat (first | exact trivial | refine ⟨(by ((refine row_eq rfl ?_; simp  [rowF_snoc, sgnK]; done))), ?_⟩))) (by (repeat (first | exact trivial | refine ⟨.inr rfl, ?_⟩)))⟩
      · omega
      · omega
  · have e : k = 8 := by omega
    subst e
    repeat' (first | (refine so_is (.assign _) ?_; (refine so_q (qt_asC rfl) rfl ?_)) | (refine so_is (.move _) ?_; (refine so_q (qt_mvC rfl) rfl ?_)) | (refine so_is (.binOp .lss 3 _ _ _) ?_; refine so_q (qt_lss rfl rfl) rfl ?_) | refine so_nil ?_ | refine sk_seq ?_ | refine sk_exit rfl ?_ | refine sk_region ?_ | refine sk_false rfl ?_)
    all_goals first | (exfalso; omega) | skip
    (apply sk_ret; apply ret_eq; (· apply RetOK.p; (· (apply GvA.cons; (· exact .tmp _); (· (exact GvP.c (.row _ _ _ _ rfl (by ((simp; done))))))); exact GvA.nil); (· (decide))))
    simp [sumsL]

end Go.Proofs.Ytefbiejoikpkmaa

namespace Go.Proofs.Ytefbiejoikpkmaa
open Go.RowKit
set_option linter.unusedSectionVars false
variable [Glb]
set_option maxRecDepth 10000
set_option maxHeartbeats 4000000
theorem plays_p (x y : Nat) (h : x + y ≤ 6) : PC Try.prog 92 [.c (dI x), .c (dI y)] (.p (.c (eII (playsF (x + y))))) := by
  have e2 : (2 : Nat) ^ (x + y) ≤ 64 := Nat.le_trans (Nat.pow_le_pow_right (by omega) h) (by decide)
  obtain ⟨N, hN⟩ : ∃ N : Nat, N = 2 ^ (x + y) := ⟨_, rfl⟩
  rw [← hN] at e2
  have e1 : (1 : Int) * 2 ^ ((x : Int) + y).toNat = N := by
    rw [show ((x : Int) + y).toNat = x + y by omega, hN, Int.natCast_pow]; simp
  refine pc_intro Try.func92 rfl rfl rfl (by kernel_rfl) rfl rfl ?_; intro _
  repeat' (first | (refine so_is (.assign _) ?_; (refine so_q (qt_asC rfl) rfl ?_)) | (refine so_is (.buildSlice 25 0 _) ?_; (apply so_bslice (sz := 1) (by_ := 24); (· kernel_rfl); (· decide); (· (repeat (exact GvS.nil _))); (· (decide)); (· rfl); (· rfl); (· rfl))) | (refine so_is (.move _) ?_; (refine so_q (qt_mvC rfl) rfl ?_)) | (refine so_is (.binOp .add 3 _ _ _) ?_; refine so_q (qt_addI rfl rfl (by (omega))) rfl ?_) | (refine so_is (.binOp .shl 3 _ _ _) ?_; (refine so_q (qt_shlI rfl rfl (by (omega)) (by (omega)) (by (omega))) rfl ?_)) | refine so_nil ?_ | refine sk_seq ?_ | refine sk_block ?_ | refine sk_region ?_)
  apply sk_packC [0, 1, 5, 13, 14] [9, 17, 34, 35, 39, 40] rfl; (· (repeat (first | exact Pf.nil | apply Pf.cons (.c rfl (.d rfl)) | apply Pf.cons (.c rfl (.ls rfl))))); (· (repeat (first | exact Pb.nil | apply Pb.cons (.row rfl) | apply Pb.skip)))
  refine sk_loopL [0, 1, 13] [17, 34, 35, 39, 40] (fun c => [(14, iN c), (5, .c (.ls 9 1 0 c))]) (fun c => [(9, .row 1 (cII ((List.range c).map (bitsM (x + y)))))]) (fun c => c ≤ N) (fun c => N - c) (0) ?_ (by (repeat (first | exact trivial | refine ⟨(by (rfl)), ?_⟩))) (by (repeat (first | exact trivial | refine ⟨(by ((refine row_eq rfl ?_; simp; done))), ?_⟩))) ?_
  · omega
  intro c hc
  repeat' (first | (refine so_is (.assign _) ?_; (refine so_q (qt_asC rfl) rfl ?_)) | (refine so_is (.move _) ?_; (refine so_q (qt_mvC rfl) rfl ?_)) | (refine so_is (.binOp .add 3 _ _ _) ?_; refine so_q (qt_addI rfl rfl (by (omega))) rfl ?_) | (refine so_is (.binOp .lss 3 _ _ _) ?_; refine so_q (qt_lss rfl rfl) rfl ?_) | (refine so_is (.buildSlice 24 0 _) ?_; (apply so_bslice (sz := 1) (by_ := 8); (· kernel_rfl); (· decide); (· (repeat (exact GvS.nil _))); (· (decide)); (· rfl); (· rfl); (· rfl))) | refine so_nil ?_ | refine sk_seq ?_ | refine sk_block ?_ | refine sk_exit rfl ?_ | refine sk_skip ?_ | refine sk_region ?_ | refine sk_if rfl (fun hc => ?_) (fun hc => ?_))
  · apply sk_packC [0, 1, 5, 6, 7, 13, 14, 20, 21] [9, 17, 34, 35, 39, 40] rfl; (· (repeat (first | exact Pf.nil | apply Pf.cons (.c rfl (.d rfl)) | apply Pf.cons (.c rfl (.ls rfl))))); (· (repeat (first | exact Pb.nil | apply Pb.cons (.row rfl) | apply Pb.skip)))
    refine sk_loopL [0, 1, 5, 6, 13, 14, 20] [9, 34, 35, 39, 40] (fun i => [(21, iN i), (7, .c (.ls 17 1 0 i))]) (fun i => [(17, .row 1 (cI (rowF (fun i => (bitN c (x + y - 1 - i) : Int)) i)))]) (fun i => i ≤ x + y) (fun i => x + y - i) (0) ?_ (by (repeat (first | exact trivial | refine ⟨(by (rfl)), ?_⟩))) (by (repeat (first | exact trivial | refine ⟨(by (rfl)), ?_⟩))) ?_
    · omega
    intro i hi
    have e3 : i < x + y → (c : Int) / 2 ^ ((x : Int) + y - 1 - i).toNat % 2 = (bitN c (x + y - 1 - i) : Int) := fun h => by
      rw [show ((x : Int) + y - 1 - i).toNat = x + y - 1 - i by omega, bit_nat]
    repeat' (first | (refine so_is (.assign _) ?_; (refine so_q (qt_asC rfl) rfl ?_)) | (refine so_is (.move _) ?_; (refine so_q (qt_mvC rfl) rfl ?_)) | (refine so_is (.binOp .add 3 _ _ _) ?_; refine so_q (qt_addI rfl rfl (by (omega))) rfl ?_) | (refine so_is (.binOp .lss 3 _ _ _) ?_; refine so_q (qt_lss rfl rfl) rfl ?_) | (refine so_is (.binOp .sub 3 _ _ _) ?_; refine so_q (qt_subI rfl rfl (by (omega))) rfl ?_) | (refine so_is (.binOp .shr 3 _ _ _) ?_; (refine so_q (qt_shrI rfl rfl (by (omega)) (by (omega))) rfl ?_)) | (refine so_is (.binOp .and 3 _ _ _) ?_; refine so_q (qt_andM 1 (c := 2) rfl rfl (by decide)) rfl ?_) | (refine so_is (.buildSlice 24 1 _) ?_; (apply so_bslice (sz := 1) (by_ := 8); (· kernel_rfl); (· decide); (· (repeat (first | exact GvS.nil _ | apply GvS.c rfl rfl (.lit _) rfl))); (· (decide)); (· rfl); (· rfl); (· rfl))) | (refine so_is (.call ⟨.builtin .append, _, #[24, 24]⟩) ?_; ((apply so_appR (sz := 1) (by_ := 8); (· rfl); (· rfl); (· ((simp; done))); (· exact .row _ _ _ _ rfl (by ((simp; done)))); (· (decide)); (· kernel_rfl); (· decide); (· (omega)); (· (omega)); (· rfl); (· rfl); (· rfl)))) | (refine so_is (.buildSlice 25 1 _) ?_; (apply so_bslice (sz := 1) (by_ := 24); (· kernel_rfl); (· decide); (· (repeat (first | exact GvS.nil _ | apply GvS.c rfl rfl (.row _ _ _ _ rfl (by ((simp; done)))) rfl))); (· (decide)); (· rfl); (· rfl); (· rfl))) | (refine so_is (.call ⟨.builtin .append, _, #[25, 25]⟩) ?_; ((apply so_appR (sz := 1) (by_ := 24); (· rfl); (· rfl); (· ((simp; done))); (· exact .row _ _ _ _ rfl (by ((simp; done)))); (· (decide)); (· kernel_rfl); (· decide); (· (omega)); (· (omega)); (· rfl); (· rfl); (· rfl)))) | refine so_nil ?_ | refine sk_seq ?_ | refine sk_block ?_ | refine sk_blk ?_ | refine sk_exit rfl ?_ | refine sk_skip ?_ | refine sk_region ?_ | refine sk_if rfl (fun hc => ?_) (fun hc => ?_))
    · have e3 := e3 (by omega)
      simp at e3
      refine sk_back ?_; refine ⟨i + 1, ?_, ?_, le_at rfl (by (repeat (first | exact trivial | refine ⟨(by (rfl)), ?_⟩))) (by (repeat (first | exact trivial | refine ⟨rfl, ?_⟩))) (by (repeat (first | exact trivial | refine ⟨(by ((refine row_eq rfl ?_; simp  [rowF_snoc, e3]; done))), ?_⟩))) (by (repeat (first | exact trivial | refine ⟨.inr rfl, ?_⟩)))⟩
      · omega
      · omega
    · have h8 : i = x + y := by omega
      subst h8
      refine sk_back ?_; refine ⟨c + 1, ?_, ?_, le_at rfl (by (repeat (first | exact trivial | refine ⟨(by (rfl)), ?_⟩))) (by (repeat (first | exact trivial | refine ⟨rfl, ?_⟩))) (by (repeat (first | exact trivial | refine ⟨(by ((refine row_eq rfl ?_; simp  [plays_snoc, bitsM]; done))), ?_⟩))) (by (repeat (first | exact trivial | refine ⟨.inr rfl, ?_⟩)))⟩
      · omega
      · omega
  · have h8 : c = N := by omega
    subst h8
    subst hN
    (apply sk_ret; apply ret_eq; (· apply RetOK.p; (· (apply GvA.cons; (· exact .tmp _); (· (exact GvP.c (.row _ _ _ _ rfl (by ((simp; done))))))); exact GvA.nil); (· (decide))))
    simp [playsF]

end Go.Proofs.Ytefbiejoikpkmaa
