/- What the functions that FnExactIsValidConsole reaches return: part of its proof. No condition beyond those of its theorems. -/
import Derived.Test.YtdihapcicpkdkaaGreatDoorKfnsFnExactIsValidConsoleA
import Derived.Test.YtdihapcicpkdkaaGreatDoorKplainC
import Derived.Test.YtdihapcicpkdkaaGreatDoorKplainA
set_option linter.unusedVariables false
set_option linter.unusedSimpArgs false
namespace Go.Proofs.YtdihapcicpkdkaaGreatDoor
open Go.RowKit
set_option linter.unusedSectionVars false
variable [Glb]
set_option maxRecDepth 10000
set_option maxHeartbeats 4000000
theorem plB_f {s : Tx} {k : Nat} {most : Int} {o : Tx} (h : k < s.length) (e : byt s k < 32 ∨ 126 < byt s k) : plainB s most o = false := by
  have : s.all plB = false := by
    refine all_f h ?_
    rw [byt_nat h] at e
    simp [plB]; omega
  unfold plainB; rw [this]; rfl
theorem plB_go {s : Tx} {k : Nat} (h : k < s.length) (e : ¬ byt s k < 32) (e2 : ¬ 126 < byt s k) (ht : (s.take k).all plB = true) : (s.take (k + 1)).all plB = true := by
  rw [take_succ_all _ _ _ h, ht, Bool.true_and]
  rw [byt_nat h] at e e2
  simp [plB]; omega
theorem isPlain_p (s o : Tx) (most : Int) (h1 : most ≤ 4000000) (h2 : o.length ≤ 100) (h4 : ∀ b ∈ o, b.toNat < 128) : PC Tryz.prog 72 [.c (dT s), .c (dI most), .c (dT o)] (.p (.c (dB (plainB s most o)))) := by
  refine pc_intro Tryz.func72 rfl rfl rfl (by kernel_rfl) rfl rfl ?_; rintro ⟨hl, -⟩
  have hl := FitT hl
  repeat' (first | (refine so_is (.assign _) ?_; (refine so_q (qt_asC rfl) rfl ?_)) | (refine so_is (.move _) ?_; (refine so_q (qt_mvC rfl) rfl ?_)) | (refine so_is (.call ⟨.builtin .len, _, #[9]⟩) ?_; (refine so_q (qt_lenT rfl (by kernel_rfl)) rfl ?_)) | refine so_nil ?_ | refine sk_seq ?_ | refine sk_block ?_ | refine sk_region ?_)
  apply sk_packC [0, 1, 2, 9, 10] [] rfl; (· (repeat (first | exact Pf.nil | apply Pf.cons (.c rfl (.d rfl))))); (· (repeat (exact Pb.nil)))
  refine sk_loopL [0, 1, 2, 9] [] (fun k => [(10, iN k)]) (fun _ => []) (fun k => k ≤ s.length ∧ (s.take k).all plB = true) (fun k => s.length - k) (0) ?_ (by (repeat (first | exact trivial | refine ⟨(by (rfl)), ?_⟩))) (by (repeat (exact trivial))) ?_
  · simp
  rintro k ⟨hk, ht⟩
  have hb := byt_lt s k
  by_cases h : k < s.length
  · repeat' (first | (refine so_is (.assign _) ?_; (refine so_q (qt_asC rfl) rfl ?_)) | (refine so_is (.move _) ?_; (refine so_q (qt_mvC rfl) rfl ?_)) | (refine so_is (.call ⟨.builtin .len, _, #[9]⟩) ?_; (refine so_q (qt_lenT rfl (by kernel_rfl)) rfl ?_)) | (refine so_is (.binOp .lss 3 _ _ _) ?_; refine so_q (qt_lss rfl rfl) rfl ?_) | (refine so_is (.index 9 _ _) ?_; (refine so_q (qt_indexT rfl rfl (by kernel_rfl) (by (omega)) (by (omega))) rfl ?_)) | (refine so_is (.binOp .lss 5 _ _ _) ?_; refine so_q (qt_lss rfl rfl) rfl ?_) | (refine so_is (.binOp .gtr 5 _ _ _) ?_; refine so_q (qt_gtr rfl rfl) rfl ?_) | (refine so_is (.pick _ _ _) ?_; (refine so_q (qt_pkC rfl rfl) rfl ?_)) | (refine so_is (.binOp .add 3 _ _ _) ?_; refine so_q (qt_addI rfl rfl (by (omega))) rfl ?_) | (refine so_is (.binOp .leq 3 _ _ _) ?_; refine so_q (qt_leq rfl rfl) rfl ?_) | refine so_nil ?_ | refine so_g_no rfl rfl rfl rfl ?_ | refine so_g_yes rfl rfl rfl rfl ?_ | refine so_g_if rfl rfl (fun hg => ?_) (fun hg => ?_) | refine sk_seq ?_ | refine sk_block ?_ | refine sk_blk ?_ | refine sk_exit rfl ?_ | refine sk_skip ?_ | refine sk_region ?_ | refine sk_true rfl ?_ | refine sk_if rfl (fun hc => ?_) (fun hc => ?_))
    all_goals first | (exfalso; omega) | skip
    · (apply sk_ret; apply ret_eq; (· apply RetOK.p; (· (apply GvA.cons; (· exact .tmp _); (· exact GvP.c (.lit _))); exact GvA.nil); (· (decide))))
      rw [plB_f h (.inl (by assumption))]
    · (apply sk_ret; apply ret_eq; (· apply RetOK.p; (· (apply GvA.cons; (· exact .tmp _); (· exact GvP.c (.lit _))); exact GvA.nil); (· (decide))))
      rw [plB_f h (.inr (by omega))]
    · refine sk_back ?_; refine ⟨k + 1, ?_, ?_, le_at rfl (by (repeat (first | exact trivial | refine ⟨(by (rfl)), ?_⟩))) (by (repeat (first | exact trivial | refine ⟨rfl, ?_⟩))) (by (repeat (exact trivial))) (by (repeat (exact trivial)))⟩
      · exact ⟨by omega, plB_go h (by assumption) (by omega) ht⟩
      · omega
  · have : k = s.length := by omega
    subst this
    rw [List.take_length] at ht
    have h3 : ∀ b ∈ s, b.toNat < 128 := fun b hb => by
      have := List.all_eq_true.1 ht b hb
      simp [plB] at this; omega
    by_cases hm : (s.length : Int) ≤ most
    · have h5 : s.length ≤ 4000000 := by omega
      repeat' (first | (refine so_is (.assign _) ?_; (refine so_q (qt_asC rfl) rfl ?_)) | (refine so_is (.move _) ?_; (refine so_q (qt_mvC rfl) rfl ?_)) | (refine so_is (.call ⟨.builtin .len, _, #[9]⟩) ?_; (refine so_q (qt_lenT rfl (by kernel_rfl)) rfl ?_)) | (refine so_is (.binOp .lss 3 _ _ _) ?_; refine so_q (qt_lss rfl rfl) rfl ?_) | (refine so_is (.index 9 _ _) ?_; (refine so_q (qt_indexT rfl rfl (by kernel_rfl) (by (omega)) (by (omega))) rfl ?_)) | (refine so_is (.binOp .lss 5 _ _ _) ?_; refine so_q (qt_lss rfl rfl) rfl ?_) | (refine so_is (.binOp .gtr 5 _ _ _) ?_; refine so_q (qt_gtr rfl rfl) rfl ?_) | (refine so_is (.pick _ _ _) ?_; (refine so_q (qt_pkC rfl rfl) rfl ?_)) | (refine so_is (.binOp .add 3 _ _ _) ?_; refine so_q (qt_addI rfl rfl (by (omega))) rfl ?_) | (refine so_is (.binOp .leq 3 _ _ _) ?_; refine so_q (qt_leq rfl rfl) rfl ?_) | (refine so_is (.unOp .not 4 _) ?_; refine so_q (qt_not rfl) rfl ?_) | (refine so_is (.call ⟨.value (.func 80), _, _⟩) ?_; (apply so_call0 (fid := 80); (· (repeat (first | exact SeA.nil | apply SeA.cons (.c (.d _))))); (· exact containsAny_p _ _ (by assumption) (by assumption) (by assumption) (by assumption)); (· rfl))) | refine so_nil ?_ | refine so_g_no rfl rfl rfl rfl ?_ | refine so_g_yes rfl rfl rfl rfl ?_ | refine so_g_if rfl rfl (fun hg => ?_) (fun hg => ?_) | refine sk_seq ?_ | refine sk_block ?_ | refine sk_blk ?_ | refine sk_exit rfl ?_ | refine sk_skip ?_ | refine sk_region ?_ | refine sk_true rfl ?_ | refine sk_if rfl (fun hc => ?_) (fun hc => ?_))
      all_goals first | (exfalso; omega) | skip
      all_goals (apply sk_ret; apply ret_eq; (· apply RetOK.p; (· (apply GvA.cons; (· exact .tmp _); (· exact GvP.c (.lit _))); exact GvA.nil); (· (decide))))
      all_goals simp [plainB, ht, hm]
    · repeat' (first | (refine so_is (.assign _) ?_; (refine so_q (qt_asC rfl) rfl ?_)) | (refine so_is (.move _) ?_; (refine so_q (qt_mvC rfl) rfl ?_)) | (refine so_is (.call ⟨.builtin .len, _, #[9]⟩) ?_; (refine so_q (qt_lenT rfl (by kernel_rfl)) rfl ?_)) | (refine so_is (.binOp .lss 3 _ _ _) ?_; refine so_q (qt_lss rfl rfl) rfl ?_) | (refine so_is (.index 9 _ _) ?_; (refine so_q (qt_indexT rfl rfl (by kernel_rfl) (by (omega)) (by (omega))) rfl ?_)) | (refine so_is (.binOp .lss 5 _ _ _) ?_; refine so_q (qt_lss rfl rfl) rfl ?_) | (refine so_is (.binOp .gtr 5 _ _ _) ?_; refine so_q (qt_gtr rfl rfl) rfl ?_) | (refine so_is (.pick _ _ _) ?_; (refine so_q (qt_pkC rfl rfl) rfl ?_)) | (refine so_is (.binOp .add 3 _ _ _) ?_; refine so_q (qt_addI rfl rfl (by (omega))) rfl ?_) | (refine so_is (.binOp .leq 3 _ _ _) ?_; refine so_q (qt_leq rfl rfl) rfl ?_) | refine so_nil ?_ | refine so_g_no rfl rfl rfl rfl ?_ | refine so_g_yes rfl rfl rfl rfl ?_ | refine so_g_if rfl rfl (fun hg => ?_) (fun hg => ?_) | refine sk_seq ?_ | refine sk_block ?_ | refine sk_blk ?_ | refine sk_exit rfl ?_ | refine sk_skip ?_ | refine sk_region ?_ | refine sk_true rfl ?_ | refine sk_if rfl (fun hc => ?_) (fun hc => ?_))
      all_goals first | (exfalso; omega) | skip
      all_goals (apply sk_ret; apply ret_eq; (· apply RetOK.p; (· (apply GvA.cons; (· exact .tmp _); (· exact GvP.c (.lit _))); exact GvA.nil); (· (decide))))
      all_goals simp [plainB, ht, hm]

end Go.Proofs.YtdihapcicpkdkaaGreatDoor

namespace Go.Proofs.YtdihapcicpkdkaaGreatDoor
open Go.RowKit
set_option linter.unusedSectionVars false
variable [Glb]
set_option maxRecDepth 10000
set_option maxHeartbeats 4000000
theorem isCommand_p (s : Tx) : PC Tryz.prog 71 [.c (dT s)] (.p (.c (dB (decide (s ≠ []) && plainB s 160 [35, 64])))) := by
  refine pc_intro Tryz.func71 rfl rfl rfl (by kernel_rfl) rfl rfl ?_; intro _
  repeat' (first | (refine so_is (.assign _) ?_; (refine so_q (qt_asC rfl) rfl ?_)) | (refine so_is (.move _) ?_; (refine so_q (qt_mvC rfl) rfl ?_)) | (refine so_is (.binOp .neq 9 _ _ _) ?_; (refine so_q (qt_neqT rfl rfl) rfl ?_)) | (refine so_is (.pick _ _ _) ?_; (refine so_q (qt_pkC rfl rfl) rfl ?_)) | (refine so_is (.call ⟨.value (.func 72), _, _⟩) ?_; (apply so_call0 (fid := 72); (· (repeat (first | exact SeA.nil | apply SeA.cons (.c (.d _))))); (· exact isPlain_p _ [35, 64] _ (by decide) (by decide) (by decide)); (· rfl))) | refine so_nil ?_ | refine so_g_no rfl rfl rfl rfl ?_ | refine so_g_yes rfl rfl rfl rfl ?_ | refine so_g_if rfl rfl (fun hg => ?_) (fun hg => ?_) | refine sk_seq ?_ | refine sk_region ?_)
  all_goals (apply sk_ret; apply ret_eq; (· apply RetOK.p; (· (apply GvA.cons; (· exact .tmp _); (· exact GvP.c (.lit _))); exact GvA.nil); (· (decide))))
  all_goals simp_all

end Go.Proofs.YtdihapcicpkdkaaGreatDoor

namespace Go.Proofs.YtdihapcicpkdkaaGreatDoor
open Go.RowKit
set_option linter.unusedSectionVars false
variable [Glb]
set_option maxRecDepth 10000
set_option maxHeartbeats 4000000
theorem IsValidRecord_p (c r : Tx) : PC Tryz.prog 63 [.g [dT c, dT r]] (.p (.c (dB (recB c r)))) := by
  refine pc_intro Tryz.func63 rfl rfl rfl (by kernel_rfl) rfl rfl ?_; intro _
  repeat' (first | (refine so_is (.box 80 _) ?_; refine so_box rfl rfl ?_) | (refine so_is (.assign _) ?_; (refine so_q (qt_asC rfl) rfl ?_)) | (refine so_is (.fieldAddr 80 _ 0) ?_; (refine so_q (qt_fld_lp (off := 0) rfl (by kernel_rfl)) rfl ?_)) | (refine so_is (.load 9 _) ?_; (refine so_q (qt_load_box rfl rfl (by kernel_rfl) rfl) rfl ?_)) | (refine so_is (.move _) ?_; (refine so_q (qt_mvC rfl) rfl ?_)) | (refine so_is (.fieldAddr 80 _ 1) ?_; (refine so_q (qt_fld_lp (off := 1) rfl (by kernel_rfl)) rfl ?_)) | (refine so_is (.pick _ _ _) ?_; (refine so_q (qt_pkC rfl rfl) rfl ?_)) | (refine so_is (.call ⟨.value (.func 71), _, _⟩) ?_; (apply so_call0 (fid := 71); (· (repeat (first | exact SeA.nil | apply SeA.cons (.c (.d _))))); (· exact isCommand_p _); (· rfl))) | (refine so_is (.call ⟨.value (.func 72), _, _⟩) ?_; (apply so_call0 (fid := 72); (· (repeat (first | exact SeA.nil | apply SeA.cons (.c (.d _))))); (· exact isPlain_p _ [35] _ (by decide) (by decide) (by decide)); (· rfl))) | refine so_nil ?_ | refine so_g_no rfl rfl rfl rfl ?_ | refine so_g_yes rfl rfl rfl rfl ?_ | refine so_g_b rfl rfl (fun hg => ?_) (fun hg => ?_) | refine sk_seq ?_ | refine sk_region ?_)
  all_goals (apply sk_ret; apply ret_eq; (· apply RetOK.p; (· (apply GvA.cons; (· exact .tmp _); (· exact GvP.c (.lit _))); exact GvA.nil); (· (decide))))
  all_goals rw [← recB_eq]
  all_goals simp_all

end Go.Proofs.YtdihapcicpkdkaaGreatDoor

namespace Go.Proofs.YtdihapcicpkdkaaGreatDoor
open Go.RowKit
set_option linter.unusedSectionVars false
variable [Glb]
variable [GTab Tryz.prog tabNm]
set_option maxRecDepth 10000
set_option maxHeartbeats 4000000
theorem ac_line {k : Nat} {c r : Tx} (hk : k < 60) (h : RecP c r) : acT (textT k c r) = lineT k c r := by
  have h1 := text_len hk h
  have h2 := seal_len (textT k c r)
  have h3 := text35 (k := k) h
  have : acOK (textT k c r) = true := by simp [acOK, h3]; omega
  simp [acT, this, lineT]
theorem EncodeRecord_no (k : Int) (c r : Tx) (h : (inB k 0 59 && recB c r) = false) : PC Tryz.prog 54 [.c (dI k), .g [dT c, dT r]] (.t [.c (dT []), .c (dB false)]) := by
  refine pc_intro Tryz.func54 rfl rfl rfl (by kernel_rfl) rfl rfl ?_; intro _
  repeat' (first | (refine so_is (.box 80 _) ?_; refine so_box rfl rfl ?_) | (refine so_is (.assign _) ?_; (refine so_q (qt_asC rfl) rfl ?_)) | (refine so_is (.move _) ?_; (refine so_q (qt_mvC rfl) rfl ?_)) | (refine so_is (.unOp .not 4 _) ?_; refine so_q (qt_not rfl) rfl ?_) | (refine so_is (.load 80 _) ?_; (refine so_q (qt_load_boxs rfl rfl (by kernel_rfl : tAgg _ 80 2 = true) rfl) rfl ?_)) | (refine so_is (.pick _ _ _) ?_; (refine so_q (qt_pkC rfl rfl) rfl ?_)) | (refine so_is (.fieldAddr 80 _ 0) ?_; (refine so_q (qt_fld_lp (off := 0) rfl (by kernel_rfl)) rfl ?_)) | (refine so_is (.load 9 _) ?_; (refine so_q (qt_load_box rfl rfl (by kernel_rfl) rfl) rfl ?_)) | (refine so_is (.fieldAddr 80 _ 1) ?_; (refine so_q (qt_fld_lp (off := 1) rfl (by kernel_rfl)) rfl ?_)) | (refine so_is (.call ⟨.value (.func 35), _, _⟩) ?_; (apply so_call0 (fid := 35); (· (repeat (first | exact SeA.nil | apply SeA.cons (.c (.d _))))); (· exact within_p _ _ _); (· rfl))) | (refine so_is (.call ⟨.value (.func 63), _, _⟩) ?_; (apply so_call0 (fid := 63); (· (repeat (first | exact SeA.nil | (apply SeA.cons; (· (apply SeP.g; (repeat (first | exact SeL.nil | apply SeL.cons (.d _))))))))); (· exact IsValidRecord_p _ _); (· rfl))) | refine so_nil ?_ | refine so_g_no rfl rfl rfl rfl ?_ | refine so_g_yes rfl rfl rfl rfl ?_ | refine so_g_b rfl rfl (fun hg => ?_) (fun hg => ?_) | refine sk_seq ?_ | refine sk_skip ?_ | refine sk_region ?_ | refine sk_drawQ 3 (fun _ => false) (.step 0 true (.step 3 true (.step 4 true (.step 7 true (.step 8 true (.step 1 false (.step 2 true (.step 5 true (.step 6 true (.step 9 true (.step 10 false (.step 11 true (.step 12 true (.step 13 true (.step 14 true (.step 15 true .nil)))))))))))))))) [(0, 65535, 65535, true), (1, 65534, 65535, false), (2, 65533, 65535, true), (0, 65535, 65535, true), (8, 65527, 65535, false), (20, 65515, 65535, true), (32, 65503, 65535, true), (0, 65535, 65535, true), (128, 65407, 65535, false), (320, 65215, 65535, true), (514, 65023, 65535, false), (1024, 64511, 65535, true), (2048, 63487, 65535, true), (2048, 63487, 65535, true), (8191, 61439, 65535, true), (32767, 57343, 65535, true)] (by kernel_rfl) (by kernel_rfl) ?_ | refine sk_true rfl ?_ | refine sk_not rfl (fun hc => ?_) (fun hc => ?_))
  all_goals first | (exfalso; simp_all; done) | skip
  all_goals (apply sk_ret; apply ret_eq; (· apply RetOK.t; (· (apply GvA.cons; (· exact .tmp _); (· exact GvP.c (.lit _))); (apply GvA.cons; (· exact .tmp _); (· exact GvP.c (.lit _))); exact GvA.nil); (· rfl); (· (decide))))
  all_goals simp_all [bsT_nil]
theorem EncodeRecord_p (k : Nat) (c r : Tx) (h : k < 60) (hr : recB c r = true) : PC Tryz.prog 54 [.c (dI k), .g [dT c, dT r]] (.t [.c (dT (lineT k c r ++ [10])), .c (dB true)]) := by
  have hp := recB_p hr
  have h1 := text_len h hp
  have h2 := seal_len (textT k c r)
  have h3 := (num60 h).2
  have h4 := hp.cl
  have h5 := hp.rl
  have h6 : inB (k : Int) 0 59 = true := by rw [inB_iff]; omega
  have e := ac_line h hp
  have h7 : (acT (textT k c r)).length ≤ 4000 := by rw [e]; unfold lineT; omega
  unfold textT at h7
  refine pc_intro Tryz.func54 rfl rfl rfl (by kernel_rfl) rfl rfl ?_; intro _
  repeat' (first | (refine so_is (.box 80 _) ?_; refine so_box rfl rfl ?_) | (refine so_is (.assign _) ?_; (refine so_q (qt_asC rfl) rfl ?_)) | (refine so_is (.move _) ?_; (first | refine so_q (qt_mvC rfl) rfl ?_ | refine so_q (qt_mvT rfl) rfl ?_)) | (refine so_is (.unOp .not 4 _) ?_; refine so_q (qt_not rfl) rfl ?_) | (refine so_is (.load 80 _) ?_; (refine so_q (qt_load_boxs rfl rfl (by kernel_rfl : tAgg _ 80 2 = true) rfl) rfl ?_)) | (refine so_is (.pick _ _ _) ?_; (refine so_q (qt_pkC rfl rfl) rfl ?_)) | (refine so_is (.binOp .add 9 _ _ _) ?_; (refine so_q (qt_addT rfl rfl (by ((simp at *; omega)))) rfl ?_)) | (refine so_is (.fieldAddr 80 _ 0) ?_; (refine so_q (qt_fld_lp (off := 0) rfl (by kernel_rfl)) rfl ?_)) | (refine so_is (.load 9 _) ?_; (refine so_q (qt_load_box rfl rfl (by kernel_rfl) rfl) rfl ?_)) | (refine so_is (.fieldAddr 80 _ 1) ?_; (refine so_q (qt_fld_lp (off := 1) rfl (by kernel_rfl)) rfl ?_)) | (refine so_is (.extract _ _) ?_; refine so_q (qt_extract rfl rfl) rfl ?_) | (refine so_is (.call ⟨.value (.func 35), _, _⟩) ?_; (apply so_call0 (fid := 35); (· (repeat (first | exact SeA.nil | apply SeA.cons (.c (.d _))))); (· exact within_p _ _ _); (· rfl))) | (refine so_is (.call ⟨.value (.func 63), _, _⟩) ?_; (apply so_call0 (fid := 63); (· (repeat (first | exact SeA.nil | (apply SeA.cons; (· (apply SeP.g; (repeat (first | exact SeL.nil | apply SeL.cons (.d _))))))))); (· exact IsValidRecord_p _ _); (· rfl))) | (refine so_is (.call ⟨.value (.func 64), _, _⟩) ?_; (apply so_call0 (fid := 64); (· (repeat (first | exact SeA.nil | apply SeA.cons (.c (.d _))))); (· exact itoa_p _ (by omega)); (· rfl))) | (refine so_is (.call ⟨.value (.func 62), _, _⟩) ?_; (apply so_call0 (fid := 62); (· (repeat (first | exact SeA.nil | apply SeA.cons (.c (.d _))))); (· exact AppendChecksum_p _); (· rfl))) | refine so_nil ?_ | refine so_g_no rfl rfl rfl rfl ?_ | refine so_g_yes rfl rfl rfl rfl ?_ | refine so_g_b rfl rfl (fun hg => ?_) (fun hg => ?_) | refine sk_seq ?_ | refine sk_skip ?_ | refine sk_region ?_ | refine sk_drawQ 3 (fun _ => false) (.step 0 true (.step 3 true (.step 4 true (.step 7 true (.step 8 true (.step 1 false (.step 2 true (.step 5 true (.step 6 true (.step 9 true (.step 10 false (.step 11 true (.step 12 true (.step 13 true (.step 14 true (.step 15 true .nil)))))))))))))))) [(0, 65535, 65535, true), (1, 65534, 65535, false), (2, 65533, 65535, true), (0, 65535, 65535, true), (8, 65527, 65535, false), (20, 65515, 65535, true), (32, 65503, 65535, true), (0, 65535, 65535, true), (128, 65407, 65535, false), (320, 65215, 65535, true), (514, 65023, 65535, false), (1024, 64511, 65535, true), (2048, 63487, 65535, true), (2048, 63487, 65535, true), (8191, 61439, 65535, true), (32767, 57343, 65535, true)] (by kernel_rfl) (by kernel_rfl) ?_ | refine sk_true rfl ?_ | refine sk_not rfl (fun hc => ?_) (fun hc => ?_))
  all_goals first | (exfalso; simp_all; done) | skip
  all_goals (apply sk_ret; apply ret_eq; (· apply RetOK.t; (· (apply GvA.cons; (· exact .tmp _); (· exact GvP.c (.lit _))); (apply GvA.cons; (· exact .tmp _); (· exact GvP.c (.lit _))); exact GvA.nil); (· rfl); (· (decide))))
  all_goals rw [show acT (numT k ++ [32] ++ c ++ [64] ++ r) = lineT k c r from e]

end Go.Proofs.YtdihapcicpkdkaaGreatDoor

namespace Go.Proofs.YtdihapcicpkdkaaGreatDoor
open Go.RowKit
set_option linter.unusedSectionVars false
variable [Glb]
set_option maxRecDepth 10000
set_option maxHeartbeats 4000000
theorem part_nil (s : Tx) (i : Int) : partZ s i i = [] := by simp [partZ]
theorem part_last {s : Tx} {f : Nat} (h : f ≤ s.length) : partZ s f s.length = s.drop f := by
  unfold partZ
  rw [List.take_of_length_le (by simp)]
  simp
theorem part_snoc {s : Tx} {f i : Nat} (h : f ≤ i) (h2 : i < s.length) : partZ s f (i + 1) = partZ s f i ++ [s[i]] := by
  unfold partZ
  have e1 : ((i : Int) + 1).toNat - (f : Int).toNat = (i - f) + 1 := by omega
  have e2 : (i : Int).toNat - (f : Int).toNat = i - f := by omega
  rw [e1, e2]
  have h3 : i - f < (s.drop (f : Int).toNat).length := by simp; omega
  rw [List.take_succ_eq_append_getElem h3]
  congr 2
  rw [List.getElem_drop]
  congr 1
  omega
theorem l1Split_p (s : Tx) (b : UInt8) (hs : s.length ≤ 4000000) : PC Tryz.prog 45 [.c (dT s), .c (.lit (.int .u8 b.toNat))] (.p (.c (eT (splitT b s)))) := by
  refine pc_intro Tryz.func45 rfl rfl rfl (by kernel_rfl) rfl rfl ?_; intro _
  repeat' (first | (refine so_is (.assign _) ?_; (refine so_q (qt_asC rfl) rfl ?_)) | (refine so_is (.buildSlice 77 0 _) ?_; (apply so_bslice (sz := 1) (by_ := 16); (· kernel_rfl); (· decide); (· (repeat (exact GvS.nil _))); (· (decide)); (· rfl); (· rfl); (· rfl))) | refine so_nil ?_ | refine sk_seq ?_ | refine sk_block ?_ | refine sk_region ?_)
  apply sk_packC [0, 1, 5, 6, 7] [8, 25, 26, 33, 34] rfl; (· (repeat (first | exact Pf.nil | apply Pf.cons (.c rfl (.d rfl)) | apply Pf.cons (.c rfl (.ls rfl))))); (· (repeat (first | exact Pb.nil | apply Pb.cons (.row rfl) | apply Pb.skip)))
  refine sk_loopL [0, 1] [25, 26, 33, 34] (fun (g : List Tx × Nat × Nat) => [(5, .c (.ls 8 1 0 g.1.length)), (6, iN g.2.1), (7, iN g.2.2)]) (fun g => [(8, .row 1 (g.1.map dT))]) (fun g => g.1.length ≤ g.2.2 ∧ g.2.1 ≤ g.2.2 ∧ g.2.2 ≤ s.length ∧ g.1 ++ preT (partZ s g.2.1 g.2.2) (splitT b (s.drop g.2.2)) = splitT b s) (fun g => s.length - g.2.2) (([], 0, 0)) ?_ (by (repeat (first | exact trivial | refine ⟨(by (rfl)), ?_⟩))) (by (repeat (first | exact trivial | refine ⟨(by ((refine row_eq rfl ?_; simp; done))), ?_⟩))) ?_
  · simp [partZ, preT_nil (splitT_ne b s)]
  rintro ⟨out, f, i⟩ ⟨h0, h1, h2, h3⟩
  simp only at h0 h1 h2 h3 ⊢
  by_cases h : i < s.length
  · repeat' (first | (refine so_is (.assign _) ?_; (refine so_q (qt_asC rfl) rfl ?_)) | (refine so_is (.move _) ?_; (refine so_q (qt_mvC rfl) rfl ?_)) | (refine so_is (.call ⟨.builtin .len, _, #[9]⟩) ?_; (refine so_q (qt_lenT rfl (by kernel_rfl)) rfl ?_)) | (refine so_is (.binOp .lss 3 _ _ _) ?_; refine so_q (qt_lss rfl rfl) rfl ?_) | (refine so_is (.index 9 _ _) ?_; (refine so_q (qt_indexT rfl rfl (by kernel_rfl) (by (omega)) (by (omega))) rfl ?_)) | (refine so_is (.binOp .eql 5 _ _ _) ?_; refine so_q (qt_eql rfl rfl) rfl ?_) | (refine so_is (.slice 9 _ (some _) (some _) none) ?_; (refine so_q (qt_sliceT11 rfl rfl rfl (by kernel_rfl) (by (omega)) (by (omega)) (by (omega))) rfl ?_)) | (refine so_is (.buildSlice 77 1 _) ?_; (apply so_bslice (sz := 1) (by_ := 16); (· kernel_rfl); (· decide); (· (repeat (first | exact GvS.nil _ | apply GvS.c rfl rfl (.lit _) rfl))); (· (decide)); (· rfl); (· rfl); (· rfl))) | (refine so_is (.call ⟨.builtin .append, _, #[77, 77]⟩) ?_; ((apply so_appR (sz := 1) (by_ := 16); (· rfl); (· rfl); (· ((simp; done))); (· exact .row _ _ _ _ rfl (by ((simp; done)))); (· (decide)); (· kernel_rfl); (· decide); (· (omega)); (· (omega)); (· rfl); (· rfl); (· rfl)))) | (refine so_is (.binOp .add 3 _ _ _) ?_; refine so_q (qt_addI rfl rfl (by (omega))) rfl ?_) | (refine so_is (.slice 9 _ (some _) none none) ?_; (refine so_q (qt_sliceT10 rfl rfl (by kernel_rfl) (by (omega)) (by (omega))) rfl ?_)) | refine so_nil ?_ | refine sk_seq ?_ | refine sk_block ?_ | refine sk_blk ?_ | refine sk_exit rfl ?_ | refine sk_skip ?_ | refine sk_region ?_ | refine sk_if rfl (fun hc => ?_) (fun hc => ?_))
    all_goals first | (exfalso; omega) | skip
    · have e : s[i] = b := UInt8.toNat_inj.1 (by have := byt_nat h; omega)
      refine sk_back ?_; refine ⟨(out ++ [partZ s f i], i + 1, i + 1), ?_, ?_, le_at rfl (by (repeat (first | exact trivial | refine ⟨(by (first | rfl | (refine ls_eq rfl ?_; ((simp; done))))), ?_⟩))) (by (repeat (first | exact trivial | refine ⟨rfl, ?_⟩))) (by (repeat (first | exact trivial | refine ⟨(by ((refine row_eq rfl ?_; simp; done))), ?_⟩))) (by (repeat (first | exact trivial | refine ⟨.inr rfl, ?_⟩)))⟩
      · rw [split_hit h e, ← List.append_assoc] at h3
        refine ⟨by simp; omega, Nat.le_refl _, by simp only; omega, ?_⟩
        simp only [part_nil]
        exact h3
      · simp only; omega
    · have e : s[i] ≠ b := fun e => by have := byt_nat h; rw [e] at this; contradiction
      refine sk_back ?_; refine ⟨(out, f, i + 1), ?_, ?_, le_at rfl (by (repeat (first | exact trivial | refine ⟨(by (rfl)), ?_⟩))) (by (repeat (first | exact trivial | refine ⟨rfl, ?_⟩))) (by (repeat (first | exact trivial | refine ⟨(by ((refine row_eq rfl ?_; simp; done))), ?_⟩))) (by (repeat (first | exact trivial | refine ⟨.inr rfl, ?_⟩)))⟩
      · rw [split_no h e, ← part_snoc h1 h] at h3
        refine ⟨by simp only; omega, by simp only; omega, by simp only; omega, ?_⟩
        simpa using h3
      · simp only; omega
  · have hi : i = s.length := by omega
    subst hi
    rw [List.drop_length, show splitT b [] = [[]] from rfl, show ∀ p : Tx, preT p [[]] = [p ++ []] from fun _ => rfl, List.append_nil] at h3
    repeat' (first | (refine so_is (.assign _) ?_; (refine so_q (qt_asC rfl) rfl ?_)) | (refine so_is (.move _) ?_; (refine so_q (qt_mvC rfl) rfl ?_)) | (refine so_is (.call ⟨.builtin .len, _, #[9]⟩) ?_; (refine so_q (qt_lenT rfl (by kernel_rfl)) rfl ?_)) | (refine so_is (.binOp .lss 3 _ _ _) ?_; refine so_q (qt_lss rfl rfl) rfl ?_) | (refine so_is (.index 9 _ _) ?_; (refine so_q (qt_indexT rfl rfl (by kernel_rfl) (by (omega)) (by (omega))) rfl ?_)) | (refine so_is (.binOp .eql 5 _ _ _) ?_; refine so_q (qt_eql rfl rfl) rfl ?_) | (refine so_is (.slice 9 _ (some _) (some _) none) ?_; (refine so_q (qt_sliceT11 rfl rfl rfl (by kernel_rfl) (by (omega)) (by (omega)) (by (omega))) rfl ?_)) | (refine so_is (.buildSlice 77 1 _) ?_; (apply so_bslice (sz := 1) (by_ := 16); (· kernel_rfl); (· decide); (· (repeat (first | exact GvS.nil _ | apply GvS.c rfl rfl (.lit _) rfl))); (· (decide)); (· rfl); (· rfl); (· rfl))) | (refine so_is (.call ⟨.builtin .append, _, #[77, 77]⟩) ?_; ((apply so_appR (sz := 1) (by_ := 16); (· rfl); (· rfl); (· ((simp; done))); (· exact .row _ _ _ _ rfl (by ((simp; done)))); (· (decide)); (· kernel_rfl); (· decide); (· (omega)); (· (omega)); (· rfl); (· rfl); (· rfl)))) | (refine so_is (.binOp .add 3 _ _ _) ?_; refine so_q (qt_addI rfl rfl (by (omega))) rfl ?_) | (refine so_is (.slice 9 _ (some _) none none) ?_; (refine so_q (qt_sliceT10 rfl rfl (by kernel_rfl) (by (omega)) (by (omega))) rfl ?_)) | refine so_nil ?_ | refine sk_seq ?_ | refine sk_block ?_ | refine sk_blk ?_ | refine sk_exit rfl ?_ | refine sk_skip ?_ | refine sk_region ?_ | refine sk_if rfl (fun hc => ?_) (fun hc => ?_))
    all_goals first | (exfalso; omega) | skip
    all_goals (apply sk_ret; apply ret_eq; (· apply RetOK.p; (· (apply GvA.cons; (· exact .tmp _); (· (exact GvP.c (.row _ _ _ _ rfl (by ((simp; done))))))); exact GvA.nil); (· (decide))))
    all_goals rw [← h3]
    all_goals simp

end Go.Proofs.YtdihapcicpkdkaaGreatDoor

namespace Go.Proofs.YtdihapcicpkdkaaGreatDoor
open Go.RowKit
set_option linter.unusedSectionVars false
variable [Glb]
set_option maxRecDepth 10000
set_option maxHeartbeats 4000000
theorem l1Sum_p (s : Tx) : PC Tryz.prog 74 [.c (dT s)] (.p (.c (dI (sumN s)))) := by
  refine pc_intro Tryz.func74 rfl rfl rfl (by kernel_rfl) rfl rfl ?_; rintro ⟨hl, -⟩
  have hl := FitT hl
  repeat' (first | (refine so_is (.assign _) ?_; (refine so_q (qt_asC rfl) rfl ?_)) | refine so_nil ?_ | refine sk_seq ?_ | refine sk_block ?_ | refine sk_region ?_)
  apply sk_packC [0, 3, 4] [] rfl; (· (repeat (first | exact Pf.nil | apply Pf.cons (.c rfl (.d rfl))))); (· (repeat (exact Pb.nil)))
  refine sk_loopL [0] [] (fun k => [(3, iN (sumN (s.take k))), (4, iN k)]) (fun _ => []) (fun k => k ≤ s.length) (fun k => s.length - k) (0) ?_ (by (repeat (first | exact trivial | refine ⟨(by (rfl)), ?_⟩))) (by (repeat (exact trivial))) ?_
  · simp
  rintro k hk
  have h0 := sumN_lt (s.take k)
  have hb := byt_lt s k
  by_cases h : k < s.length
  · have e : ((41 * (sumN (s.take k) : Int) + byt s k + 1) % 999979) = (sumN (s.take (k + 1)) : Int) := by rw [sumN_take h, byt_nat h]; omega
    repeat' (first | (refine so_is (.assign _) ?_; (refine so_q (qt_asC rfl) rfl ?_)) | (refine so_is (.move _) ?_; (refine so_q (qt_mvC rfl) rfl ?_)) | (refine so_is (.call ⟨.builtin .len, _, #[9]⟩) ?_; (refine so_q (qt_lenT rfl (by kernel_rfl)) rfl ?_)) | (refine so_is (.binOp .lss 3 _ _ _) ?_; refine so_q (qt_lss rfl rfl) rfl ?_) | (refine so_is (.binOp .mul 3 _ _ _) ?_; refine so_q (qt_mulI rfl rfl (by (omega))) rfl ?_) | (refine so_is (.index 9 _ _) ?_; (refine so_q (qt_indexT rfl rfl (by kernel_rfl) (by (omega)) (by (omega))) rfl ?_)) | (refine so_is (.convert 5 3 _) ?_; (refine so_q (qt_convI (k' := .i64) rfl (by kernel_rfl) (by kernel_rfl) (by (exact IntWalk.i64_in _ (by (omega))))) rfl ?_)) | (refine so_is (.binOp .add 3 _ _ _) ?_; refine so_q (qt_addI rfl rfl (by (omega))) rfl ?_) | (refine so_is (.binOp .rem 3 _ _ _) ?_; (refine so_q (qt_remN rfl rfl (by (omega)) (by (omega)) (by (omega))) rfl ?_)) | refine so_nil ?_ | refine sk_seq ?_ | refine sk_block ?_ | refine sk_blk ?_ | refine sk_exit rfl ?_ | refine sk_skip ?_ | refine sk_region ?_ | refine sk_if rfl (fun hc => ?_) (fun hc => ?_))
    all_goals first | (exfalso; omega) | skip
    refine sk_back ?_; refine ⟨k + 1, ?_, ?_, le_at rfl (by (repeat (first | exact trivial | refine ⟨(by (first | rfl | (refine int_eq rfl ?_; (omega)))), ?_⟩))) (by (repeat (first | exact trivial | refine ⟨rfl, ?_⟩))) (by (repeat (exact trivial))) (by (repeat (exact trivial)))⟩
    · omega
    · omega
  · repeat' (first | (refine so_is (.assign _) ?_; (refine so_q (qt_asC rfl) rfl ?_)) | (refine so_is (.move _) ?_; (refine so_q (qt_mvC rfl) rfl ?_)) | (refine so_is (.call ⟨.builtin .len, _, #[9]⟩) ?_; (refine so_q (qt_lenT rfl (by kernel_rfl)) rfl ?_)) | (refine so_is (.binOp .lss 3 _ _ _) ?_; refine so_q (qt_lss rfl rfl) rfl ?_) | (refine so_is (.binOp .mul 3 _ _ _) ?_; refine so_q (qt_mulI rfl rfl (by (omega))) rfl ?_) | (refine so_is (.index 9 _ _) ?_; (refine so_q (qt_indexT rfl rfl (by kernel_rfl) (by (omega)) (by (omega))) rfl ?_)) | (refine so_is (.convert 5 3 _) ?_; (refine so_q (qt_convI (k' := .i64) rfl (by kernel_rfl) (by kernel_rfl) (by (exact IntWalk.i64_in _ (by (omega))))) rfl ?_)) | (refine so_is (.binOp .add 3 _ _ _) ?_; refine so_q (qt_addI rfl rfl (by (omega))) rfl ?_) | (refine so_is (.binOp .rem 3 _ _ _) ?_; (refine so_q (qt_remN rfl rfl (by (omega)) (by (omega)) (by (omega))) rfl ?_)) | refine so_nil ?_ | refine sk_seq ?_ | refine sk_block ?_ | refine sk_blk ?_ | refine sk_exit rfl ?_ | refine sk_skip ?_ | refine sk_region ?_ | refine sk_if rfl (fun hc => ?_) (fun hc => ?_))
    all_goals first | (exfalso; omega) | skip
    have : k = s.length := by omega
    subst this
    (apply sk_ret; apply ret_eq; (· apply RetOK.p; (· (apply GvA.cons; (· exact .tmp _); (· exact GvP.c (.lit _))); exact GvA.nil); (· (decide))))
    simp

end Go.Proofs.YtdihapcicpkdkaaGreatDoor

namespace Go.Proofs.YtdihapcicpkdkaaGreatDoor
open Go.RowKit
set_option linter.unusedSectionVars false
variable [Glb]
set_option maxRecDepth 10000
set_option maxHeartbeats 4000000
theorem l1Num_p : ∀ n : Nat, n ≤ 9223372036854775807 → PC Tryz.prog 58 [.c (dI n)] (.p (.c (dT (numT n)))) := by
  intro n
  induction n using Nat.strongRecOn with
  | ind n ih =>
    intro hn
    refine pc_intro Tryz.func58 rfl rfl rfl (by kernel_rfl) rfl rfl ?_; intro _
    by_cases h : n < 10
    · repeat' (first | (refine so_is (.assign _) ?_; (refine so_q (qt_asC rfl) rfl ?_)) | (refine so_is (.move _) ?_; (refine so_q (qt_mvC rfl) rfl ?_)) | (refine so_is (.binOp .lss 3 _ _ _) ?_; refine so_q (qt_lss rfl rfl) rfl ?_) | (refine so_is (.binOp .add 3 _ _ _) ?_; refine so_q (qt_addI rfl rfl (by (omega))) rfl ?_) | (refine so_is (.slice 9 _ (some _) (some _) none) ?_; (refine so_q (qt_sliceT11 rfl rfl rfl (by kernel_rfl) (by (omega)) (by (omega)) (by (first | omega | (simp at *; omega)))) rfl ?_)) | (refine so_is (.binOp .quo 3 _ _ _) ?_; (refine so_q (qt_quoN rfl rfl (by (omega)) (by (omega)) (by (omega))) rfl ?_)) | (refine so_is (.binOp .rem 3 _ _ _) ?_; (refine so_q (qt_remN rfl rfl (by (omega)) (by (omega)) (by (omega))) rfl ?_)) | refine so_nil ?_ | refine sk_seq ?_ | refine sk_skip ?_ | refine sk_region ?_ | refine sk_drawQ 5 (fun _ => false) (.step 0 true (.step 1 true (.step 3 true (.step 4 true (.step 5 true (.step 6 true (.step 7 true (.step 8 true (.step 2 false (.step 9 true (.step 10 true .nil))))))))))) [(0, 2047, 2047, true), (1, 2046, 2047, true), (2, 2045, 2047, false), (0, 2047, 2047, true), (8, 2039, 2047, true), (0, 2047, 2047, true), (32, 2015, 2047, true), (64, 1983, 2047, true), (144, 1903, 2047, true), (260, 1787, 2047, true), (1023, 1535, 2047, true)] (by kernel_rfl) (by kernel_rfl) ?_ | refine sk_false rfl ?_ | refine sk_if rfl (fun hc => ?_) (fun hc => ?_))
      all_goals first | (exfalso; omega) | skip
      have e := numT_rec n
      rw [if_pos h, ← dig_at h] at e
      (apply sk_ret; apply ret_eq; (· apply RetOK.p; (· (apply GvA.cons; (· exact .tmp _); (· exact GvP.c (.lit _))); exact GvA.nil); (· (decide))))
      rw [e]; simp [partZ, digT]
    · have hlen : (numT (n / 10)).length ≤ 19 := (numT_len 18 _ (by omega)).2
      have ih2 := ih (n / 10) (by omega) (by omega)
      rw [show ((n / 10 : Nat) : Int) = (n : Int) / 10 by omega] at ih2
      clear ih
      repeat' (first | (refine so_is (.assign _) ?_; (refine so_q (qt_asC rfl) rfl ?_)) | (refine so_is (.move _) ?_; (refine so_q (qt_mvC rfl) rfl ?_)) | (refine so_is (.binOp .lss 3 _ _ _) ?_; refine so_q (qt_lss rfl rfl) rfl ?_) | (refine so_is (.binOp .add 9 _ _ _) ?_; (refine so_q (qt_addT rfl rfl (addP (by ((simp; omega))))) rfl ?_)) | (refine so_is (.binOp .add 3 _ _ _) ?_; refine so_q (qt_addI rfl rfl (by (omega))) rfl ?_) | (refine so_is (.slice 9 _ (some _) (some _) none) ?_; (refine so_q (qt_sliceT11 rfl rfl rfl (by kernel_rfl) (by (omega)) (by (omega)) (by (first | omega | (simp at *; omega)))) rfl ?_)) | (refine so_is (.binOp .quo 3 _ _ _) ?_; (refine so_q (qt_quoN rfl rfl (by (omega)) (by (omega)) (by (omega))) rfl ?_)) | (refine so_is (.binOp .rem 3 _ _ _) ?_; (refine so_q (qt_remN rfl rfl (by (omega)) (by (omega)) (by (omega))) rfl ?_)) | (refine so_is (.call ⟨.value (.func 58), _, _⟩) ?_; (apply so_call0 (fid := 58); (· (repeat (first | exact SeA.nil | apply SeA.cons (.c (.d _))))); (· exact ih2); (· rfl))) | refine so_nil ?_ | refine sk_seq ?_ | refine sk_skip ?_ | refine sk_region ?_ | refine sk_drawQ 5 (fun _ => false) (.step 0 true (.step 1 true (.step 3 true (.step 4 true (.step 5 true (.step 6 true (.step 7 true (.step 8 true (.step 2 false (.step 9 true (.step 10 true .nil))))))))))) [(0, 2047, 2047, true), (1, 2046, 2047, true), (2, 2045, 2047, false), (0, 2047, 2047, true), (8, 2039, 2047, true), (0, 2047, 2047, true), (32, 2015, 2047, true), (64, 1983, 2047, true), (144, 1903, 2047, true), (260, 1787, 2047, true), (1023, 1535, 2047, true)] (by kernel_rfl) (by kernel_rfl) ?_ | refine sk_false rfl ?_ | refine sk_if rfl (fun hc => ?_) (fun hc => ?_))
      all_goals first | (exfalso; omega) | skip
      have e := numT_rec n
      rw [if_neg h, ← dig_at (n := n % 10) (by omega)] at e
      have h2 : ((n : Int) % 10).toNat = n % 10 := by omega
      have h3 : ((n : Int) % 10 + 1).toNat = n % 10 + 1 := by omega
      all_goals (apply sk_ret; apply ret_eq; (· apply RetOK.p; (· (apply GvA.cons; (· exact .tmp _); (· exact GvP.c (.lit _))); exact GvA.nil); (· (decide))))
      rw [e]; simp [partZ, digT, h2, h3]

end Go.Proofs.YtdihapcicpkdkaaGreatDoor

namespace Go.Proofs.YtdihapcicpkdkaaGreatDoor
open Go.RowKit
set_option linter.unusedSectionVars false
variable [Glb]
set_option maxRecDepth 10000
set_option maxHeartbeats 4000000
theorem l1Seal_p (s : Tx) (h : s.length ≤ 4000000) : PC Tryz.prog 67 [.c (dT s)] (.p (.c (dT (sealT s)))) := by
  have h0 := sumN_lt s
  have h1 := (numS s).2
  refine pc_intro Tryz.func67 rfl rfl rfl (by kernel_rfl) rfl rfl ?_; intro _
  repeat' (first | (refine so_is (.assign _) ?_; (refine so_q (qt_asC rfl) rfl ?_)) | (refine so_is (.move _) ?_; (refine so_q (qt_mvC rfl) rfl ?_)) | (refine so_is (.binOp .add 9 _ _ _) ?_; (refine so_q (qt_addT rfl rfl (by ((simp at *; omega)))) rfl ?_)) | (refine so_is (.call ⟨.value (.func 74), _, _⟩) ?_; (apply so_call0 (fid := 74); (· (repeat (first | exact SeA.nil | apply SeA.cons (.c (.d _))))); (· exact l1Sum_p _); (· rfl))) | (refine so_is (.call ⟨.value (.func 58), _, _⟩) ?_; (apply so_call0 (fid := 58); (· (repeat (first | exact SeA.nil | apply SeA.cons (.c (.d _))))); (· exact l1Num_p _ (by omega)); (· rfl))) | refine so_nil ?_ | refine sk_seq ?_ | refine sk_region ?_)
  (apply sk_ret; apply ret_eq; (· apply RetOK.p; (· (apply GvA.cons; (· exact .tmp _); (· exact GvP.c (.lit _))); exact GvA.nil); (· (decide))))
  simp [sealT]

end Go.Proofs.YtdihapcicpkdkaaGreatDoor

namespace Go.Proofs.YtdihapcicpkdkaaGreatDoor
open Go.RowKit
set_option linter.unusedSectionVars false
variable [Glb]
set_option maxRecDepth 10000
set_option maxHeartbeats 4000000
theorem l12Line_p (k : Nat) (c r : Tx) (hk : k < 60) (h1 : c.length ≤ 1000000) (h2 : r.length ≤ 1000000) : PC Tryz.prog 60 [.c (dI k), .g [dT c, dT r]] (.p (.c (dT (lineT k c r ++ [10])))) := by
  have h3 := (num60 hk).2
  have h4 := seal_len (textT k c r)
  have h5 : (textT k c r).length ≤ 2000004 := by simp [textT]; omega
  have h6 : (sealT (numT k ++ [32] ++ c ++ [64] ++ r)).length ≤ 2000011 := by
    have : sealT (numT k ++ [32] ++ c ++ [64] ++ r) = sealT (textT k c r) := rfl
    rw [this]; omega
  refine pc_intro Tryz.func60 rfl rfl rfl (by kernel_rfl) rfl rfl ?_; intro _
  repeat' (first | (refine so_is (.box 80 _) ?_; refine so_box rfl rfl ?_) | (refine so_is (.assign _) ?_; (refine so_q (qt_asC rfl) rfl ?_)) | (refine so_is (.move _) ?_; (refine so_q (qt_mvC rfl) rfl ?_)) | (refine so_is (.binOp .add 9 _ _ _) ?_; (refine so_q (qt_addT rfl rfl (by ((simp at *; omega)))) rfl ?_)) | (refine so_is (.fieldAddr 80 _ 0) ?_; (refine so_q (qt_fld_lp (off := 0) rfl (by kernel_rfl)) rfl ?_)) | (refine so_is (.load 9 _) ?_; (refine so_q (qt_load_box rfl rfl (by kernel_rfl) rfl) rfl ?_)) | (refine so_is (.fieldAddr 80 _ 1) ?_; (refine so_q (qt_fld_lp (off := 1) rfl (by kernel_rfl)) rfl ?_)) | (refine so_is (.call ⟨.value (.func 58), _, _⟩) ?_; (apply so_call0 (fid := 58); (· (repeat (first | exact SeA.nil | apply SeA.cons (.c (.d _))))); (· exact l1Num_p _ (by omega)); (· rfl))) | (refine so_is (.call ⟨.value (.func 67), _, _⟩) ?_; (apply so_call0 (fid := 67); (· (repeat (first | exact SeA.nil | apply SeA.cons (.c (.d _))))); (· exact l1Seal_p _ (by simp; omega)); (· rfl))) | refine so_nil ?_ | refine sk_seq ?_ | refine sk_region ?_ | refine sk_drawQ 1 (fun _ => false) (.step 0 true (.step 3 true (.step 4 true (.step 7 true (.step 8 true (.step 1 false (.step 2 true (.step 5 true (.step 6 true (.step 9 true (.step 10 false (.step 11 true (.step 12 true .nil))))))))))))) [(0, 8191, 8191, true), (1, 8190, 8191, false), (2, 8189, 8191, true), (0, 8191, 8191, true), (8, 8183, 8191, false), (20, 8171, 8191, true), (32, 8159, 8191, true), (0, 8191, 8191, true), (128, 8063, 8191, false), (320, 7871, 8191, true), (514, 7679, 8191, false), (1024, 7167, 8191, true), (4095, 6143, 8191, true)] (by kernel_rfl) (by kernel_rfl) ?_)
  (apply sk_ret; apply ret_eq; (· apply RetOK.p; (· (apply GvA.cons; (· exact .tmp _); (· exact GvP.c (.lit _))); exact GvA.nil); (· (decide))))
  simp [lineT, textT]

end Go.Proofs.YtdihapcicpkdkaaGreatDoor

namespace Go.Proofs.YtdihapcicpkdkaaGreatDoor
open Go.RowKit
set_option linter.unusedSectionVars false
variable [Glb]
set_option maxRecDepth 10000
set_option maxHeartbeats 4000000
theorem l1In_p (n lo hi : Int) : PC Tryz.prog 24 [.c (dI n), .c (dI lo), .c (dI hi)] (.p (.c (dB (inB n lo hi)))) := by
  refine pc_intro Tryz.func24 rfl rfl rfl (by kernel_rfl) rfl rfl ?_; intro _
  repeat' (first | (refine so_is (.assign _) ?_; (refine so_q (qt_asC rfl) rfl ?_)) | (refine so_is (.move _) ?_; (refine so_q (qt_mvC rfl) rfl ?_)) | (refine so_is (.binOp .geq 3 _ _ _) ?_; refine so_q (qt_geq rfl rfl) rfl ?_) | (refine so_is (.binOp .leq 3 _ _ _) ?_; refine so_q (qt_leq rfl rfl) rfl ?_) | (refine so_is (.pick _ _ _) ?_; (refine so_q (qt_pkC rfl rfl) rfl ?_)) | refine so_nil ?_ | refine so_g_no rfl rfl rfl rfl ?_ | refine so_g_yes rfl rfl rfl rfl ?_ | refine so_g_if rfl rfl (fun hg => ?_) (fun hg => ?_) | refine sk_seq ?_ | refine sk_region ?_)
  all_goals ((apply sk_ret; apply ret_eq; (· apply RetOK.p; (· (apply GvA.cons; (· exact .tmp _); (· exact GvP.c (.lit _))); exact GvA.nil); (· (decide)))))
  all_goals (simp [dB, inB, *]; try omega)

end Go.Proofs.YtdihapcicpkdkaaGreatDoor

namespace Go.Proofs.YtdihapcicpkdkaaGreatDoor
open Go.RowKit
set_option linter.unusedSectionVars false
variable [Glb]
set_option maxRecDepth 10000
set_option maxHeartbeats 4000000
theorem bytB_f {s : Tx} {most : Int} {k : Nat} (h : k < s.length) (e : inB (byt s k) 32 126 = false ∨ byt s k = 35) : bytB s most = false := by
  have : (s.all fun b => plB b && b != 35) = false := by
    refine all_f h ?_
    rw [byt_nat h] at e
    rcases e with e | e
    · rw [inB_iffF] at e
      simp [plB]; omega
    · have : s[k] = 35 := UInt8.toNat_inj.1 (by show s[k].toNat = 35; omega)
      simp [this]
  unfold bytB; rw [this]; rfl
theorem bytB_go {s : Tx} {k : Nat} (h : k < s.length) (e : inB (byt s k) 32 126 = true) (e2 : byt s k ≠ 35) (ht : ((s.take k).all fun b => plB b && b != 35) = true) : ((s.take (k + 1)).all fun b => plB b && b != 35) = true := by
  rw [take_succ_all _ _ _ h, ht, Bool.true_and]
  rw [byt_nat h] at e e2
  rw [inB_iff] at e
  simp [plB]
  refine ⟨by omega, fun h => e2 ?_⟩
  rw [h]; rfl
theorem l12Bytes_p (s : Tx) (most : Int) : PC Tryz.prog 65 [.c (dT s), .c (dI most)] (.p (.c (dB (bytB s most)))) := by
  refine pc_intro Tryz.func65 rfl rfl rfl (by kernel_rfl) rfl rfl ?_; rintro ⟨hl, -⟩
  have hl := FitT hl
  repeat' (first | (refine so_is (.assign _) ?_; (refine so_q (qt_asC rfl) rfl ?_)) | refine so_nil ?_ | refine sk_seq ?_ | refine sk_block ?_ | refine sk_region ?_)
  apply sk_packC [0, 1, 5] [] rfl; (· (repeat (first | exact Pf.nil | apply Pf.cons (.c rfl (.d rfl))))); (· (repeat (exact Pb.nil)))
  refine sk_loopL [0, 1] [] (fun k => [(5, iN k)]) (fun _ => []) (fun k => k ≤ s.length ∧ ((s.take k).all fun b => plB b && b != 35) = true) (fun k => s.length - k) (0) ?_ (by (repeat (first | exact trivial | refine ⟨(by (rfl)), ?_⟩))) (by (repeat (exact trivial))) ?_
  · simp
  rintro k ⟨hk, ht⟩
  have hb := byt_lt s k
  by_cases h : k < s.length
  · repeat' (first | (refine so_is (.assign _) ?_; (refine so_q (qt_asC rfl) rfl ?_)) | (refine so_is (.move _) ?_; (refine so_q (qt_mvC rfl) rfl ?_)) | (refine so_is (.call ⟨.builtin .len, _, #[9]⟩) ?_; (refine so_q (qt_lenT rfl (by kernel_rfl)) rfl ?_)) | (refine so_is (.binOp .lss 3 _ _ _) ?_; refine so_q (qt_lss rfl rfl) rfl ?_) | (refine so_is (.index 9 _ _) ?_; (refine so_q (qt_indexT rfl rfl (by kernel_rfl) (by (omega)) (by (omega))) rfl ?_)) | (refine so_is (.convert 5 3 _) ?_; (refine so_q (qt_convI (k' := .i64) rfl (by kernel_rfl) (by kernel_rfl) (by (exact IntWalk.i64_in _ (by (omega))))) rfl ?_)) | (refine so_is (.unOp .not 4 _) ?_; refine so_q (qt_not rfl) rfl ?_) | (refine so_is (.binOp .eql 5 _ _ _) ?_; refine so_q (qt_eql rfl rfl) rfl ?_) | (refine so_is (.pick _ _ _) ?_; (refine so_q (qt_pkC rfl rfl) rfl ?_)) | (refine so_is (.binOp .add 3 _ _ _) ?_; refine so_q (qt_addI rfl rfl (by (omega))) rfl ?_) | (refine so_is (.binOp .leq 3 _ _ _) ?_; refine so_q (qt_leq rfl rfl) rfl ?_) | (refine so_is (.call ⟨.value (.func 24), _, _⟩) ?_; (apply so_call0 (fid := 24); (· (repeat (first | exact SeA.nil | apply SeA.cons (.c (.d _))))); (· exact l1In_p _ _ _); (· rfl))) | refine so_nil ?_ | refine so_g_no rfl rfl rfl rfl ?_ | refine so_g_yes rfl rfl rfl rfl ?_ | refine so_g_b rfl rfl (fun hg => ?_) (fun hg => ?_) | refine sk_seq ?_ | refine sk_block ?_ | refine sk_blk ?_ | refine sk_exit rfl ?_ | refine sk_skip ?_ | refine sk_region ?_ | refine sk_true rfl ?_ | refine sk_if rfl (fun hc => ?_) (fun hc => ?_))
    all_goals first | (exfalso; omega) | skip
    · (apply sk_ret; apply ret_eq; (· apply RetOK.p; (· (apply GvA.cons; (· exact .tmp _); (· exact GvP.c (.lit _))); exact GvA.nil); (· (decide))))
      rw [bytB_f h (.inl (by simp_all))]
    · (apply sk_ret; apply ret_eq; (· apply RetOK.p; (· (apply GvA.cons; (· exact .tmp _); (· exact GvP.c (.lit _))); exact GvA.nil); (· (decide))))
      rw [bytB_f h (.inr (by assumption))]
    · refine sk_back ?_; refine ⟨k + 1, ?_, ?_, le_at rfl (by (repeat (first | exact trivial | refine ⟨(by (rfl)), ?_⟩))) (by (repeat (first | exact trivial | refine ⟨rfl, ?_⟩))) (by (repeat (exact trivial))) (by (repeat (exact trivial)))⟩
      · exact ⟨by omega, bytB_go h (by simp_all) (by assumption) ht⟩
      · omega
  · repeat' (first | (refine so_is (.assign _) ?_; (refine so_q (qt_asC rfl) rfl ?_)) | (refine so_is (.move _) ?_; (refine so_q (qt_mvC rfl) rfl ?_)) | (refine so_is (.call ⟨.builtin .len, _, #[9]⟩) ?_; (refine so_q (qt_lenT rfl (by kernel_rfl)) rfl ?_)) | (refine so_is (.binOp .lss 3 _ _ _) ?_; refine so_q (qt_lss rfl rfl) rfl ?_) | (refine so_is (.index 9 _ _) ?_; (refine so_q (qt_indexT rfl rfl (by kernel_rfl) (by (omega)) (by (omega))) rfl ?_)) | (refine so_is (.convert 5 3 _) ?_; (refine so_q (qt_convI (k' := .i64) rfl (by kernel_rfl) (by kernel_rfl) (by (exact IntWalk.i64_in _ (by (omega))))) rfl ?_)) | (refine so_is (.binOp .leq 3 _ _ _) ?_; refine so_q (qt_leq rfl rfl) rfl ?_) | refine so_nil ?_ | refine sk_seq ?_ | refine sk_block ?_ | refine sk_exit rfl ?_ | refine sk_skip ?_ | refine sk_region ?_ | refine sk_if rfl (fun hc => ?_) (fun hc => ?_))
    all_goals first | (exfalso; omega) | skip
    have : k = s.length := by omega
    subst this
    rw [List.take_length] at ht
    (apply sk_ret; apply ret_eq; (· apply RetOK.p; (· (apply GvA.cons; (· exact .tmp _); (· exact GvP.c (.lit _))); exact GvA.nil); (· (decide))))
    simp [bytB, ht]

end Go.Proofs.YtdihapcicpkdkaaGreatDoor

namespace Go.Proofs.YtdihapcicpkdkaaGreatDoor
open Go.RowKit
set_option linter.unusedSectionVars false
variable [Glb]
set_option maxRecDepth 10000
set_option maxHeartbeats 4000000
theorem stands_no {s : Tx} {c : UInt8} {k : Nat} (h : k < s.length) (e : byt s k = (c.toNat : Int)) : s.contains c = true := by
  rw [byt_nat h] at e
  have : s[k] = c := UInt8.toNat_inj.1 (by omega)
  rw [List.contains_iff_mem, ← this]; exact List.getElem_mem h
theorem stands_go {s : Tx} {c : UInt8} {k : Nat} (h : k < s.length) (e : byt s k ≠ (c.toNat : Int)) (ht : c ∉ s.take k) : c ∉ s.take (k + 1) := by
  rw [List.take_succ_eq_append_getElem h, List.mem_append, not_or]
  refine ⟨ht, fun hm => e ?_⟩
  rw [List.mem_singleton] at hm
  rw [byt_nat h, hm]
theorem l1Stands_p (s : Tx) (c : UInt8) : PC Tryz.prog 66 [.c (dT s), .c (.lit (.int .u8 c.toNat))] (.p (.c (dB (s.contains c)))) := by
  refine pc_intro Tryz.func66 rfl rfl rfl (by kernel_rfl) rfl rfl ?_; rintro ⟨hl, -⟩
  have hl := FitT hl
  repeat' (first | (refine so_is (.assign _) ?_; (refine so_q (qt_asC rfl) rfl ?_)) | refine so_nil ?_ | refine sk_seq ?_ | refine sk_block ?_ | refine sk_region ?_)
  apply sk_packC [0, 1, 5] [] rfl; (· (repeat (first | exact Pf.nil | apply Pf.cons (.c rfl (.d rfl))))); (· (repeat (exact Pb.nil)))
  refine sk_loopL [0, 1] [] (fun k => [(5, iN k)]) (fun _ => []) (fun k => k ≤ s.length ∧ c ∉ s.take k) (fun k => s.length - k) (0) ?_ (by (repeat (first | exact trivial | refine ⟨(by (rfl)), ?_⟩))) (by (repeat (exact trivial))) ?_
  · simp
  rintro k ⟨hk, ht⟩
  by_cases h : k < s.length
  · repeat' (first | (refine so_is (.assign _) ?_; (refine so_q (qt_asC rfl) rfl ?_)) | (refine so_is (.move _) ?_; (refine so_q (qt_mvC rfl) rfl ?_)) | (refine so_is (.call ⟨.builtin .len, _, #[9]⟩) ?_; (refine so_q (qt_lenT rfl (by kernel_rfl)) rfl ?_)) | (refine so_is (.binOp .lss 3 _ _ _) ?_; refine so_q (qt_lss rfl rfl) rfl ?_) | (refine so_is (.index 9 _ _) ?_; (refine so_q (qt_indexT rfl rfl (by kernel_rfl) (by (omega)) (by (omega))) rfl ?_)) | (refine so_is (.binOp .eql 5 _ _ _) ?_; refine so_q (qt_eql rfl rfl) rfl ?_) | (refine so_is (.binOp .add 3 _ _ _) ?_; refine so_q (qt_addI rfl rfl (by (omega))) rfl ?_) | refine so_nil ?_ | refine sk_seq ?_ | refine sk_block ?_ | refine sk_blk ?_ | refine sk_exit rfl ?_ | refine sk_skip ?_ | refine sk_region ?_ | refine sk_if rfl (fun hc => ?_) (fun hc => ?_))
    all_goals first | (exfalso; omega) | skip
    · (apply sk_ret; apply ret_eq; (· apply RetOK.p; (· (apply GvA.cons; (· exact .tmp _); (· exact GvP.c (.lit _))); exact GvA.nil); (· (decide))))
      rw [stands_no h (by assumption)]
    · refine sk_back ?_; refine ⟨k + 1, ?_, ?_, le_at rfl (by (repeat (first | exact trivial | refine ⟨(by (rfl)), ?_⟩))) (by (repeat (first | exact trivial | refine ⟨rfl, ?_⟩))) (by (repeat (exact trivial))) (by (repeat (exact trivial)))⟩
      · exact ⟨by omega, stands_go h (by assumption) ht⟩
      · omega
  · repeat' (first | (refine so_is (.assign _) ?_; (refine so_q (qt_asC rfl) rfl ?_)) | (refine so_is (.move _) ?_; (refine so_q (qt_mvC rfl) rfl ?_)) | (refine so_is (.call ⟨.builtin .len, _, #[9]⟩) ?_; (refine so_q (qt_lenT rfl (by kernel_rfl)) rfl ?_)) | (refine so_is (.binOp .lss 3 _ _ _) ?_; refine so_q (qt_lss rfl rfl) rfl ?_) | (refine so_is (.index 9 _ _) ?_; (refine so_q (qt_indexT rfl rfl (by kernel_rfl) (by (omega)) (by (omega))) rfl ?_)) | (refine so_is (.binOp .eql 5 _ _ _) ?_; refine so_q (qt_eql rfl rfl) rfl ?_) | (refine so_is (.binOp .add 3 _ _ _) ?_; refine so_q (qt_addI rfl rfl (by (omega))) rfl ?_) | refine so_nil ?_ | refine sk_seq ?_ | refine sk_block ?_ | refine sk_blk ?_ | refine sk_exit rfl ?_ | refine sk_skip ?_ | refine sk_region ?_ | refine sk_if rfl (fun hc => ?_) (fun hc => ?_))
    all_goals first | (exfalso; omega) | skip
    have : k = s.length := by omega
    subst this
    rw [List.take_length] at ht
    (apply sk_ret; apply ret_eq; (· apply RetOK.p; (· (apply GvA.cons; (· exact .tmp _); (· exact GvP.c (.lit _))); exact GvA.nil); (· (decide))))
    simp [ht]

end Go.Proofs.YtdihapcicpkdkaaGreatDoor

namespace Go.Proofs.YtdihapcicpkdkaaGreatDoor
open Go.RowKit
set_option linter.unusedSectionVars false
variable [Glb]
set_option maxRecDepth 10000
set_option maxHeartbeats 4000000
theorem l12Record_p (c r : Tx) : PC Tryz.prog 59 [.g [dT c, dT r]] (.p (.c (dB (recB c r)))) := by
  refine pc_intro Tryz.func59 rfl rfl rfl (by kernel_rfl) rfl rfl ?_; intro _
  repeat' (first | (refine so_is (.box 80 _) ?_; refine so_box rfl rfl ?_) | (refine so_is (.assign _) ?_; (refine so_q (qt_asC rfl) rfl ?_)) | (refine so_is (.fieldAddr 80 _ 0) ?_; (refine so_q (qt_fld_lp (off := 0) rfl (by kernel_rfl)) rfl ?_)) | (refine so_is (.load 9 _) ?_; (refine so_q (qt_load_box rfl rfl (by kernel_rfl) rfl) rfl ?_)) | (refine so_is (.binOp .neq 9 _ _ _) ?_; (refine so_q (qt_neqT rfl rfl) rfl ?_)) | (refine so_is (.move _) ?_; (refine so_q (qt_mvC rfl) rfl ?_)) | (refine so_is (.pick _ _ _) ?_; (refine so_q (qt_pkC rfl rfl) rfl ?_)) | (refine so_is (.unOp .not 4 _) ?_; refine so_q (qt_not rfl) rfl ?_) | (refine so_is (.fieldAddr 80 _ 1) ?_; (refine so_q (qt_fld_lp (off := 1) rfl (by kernel_rfl)) rfl ?_)) | (refine so_is (.call ⟨.value (.func 65), _, _⟩) ?_; (apply so_call0 (fid := 65); (· (repeat (first | exact SeA.nil | apply SeA.cons (.c (.d _))))); (· exact l12Bytes_p _ _); (· rfl))) | (refine so_is (.call ⟨.value (.func 66), _, _⟩) ?_; (apply so_call0 (fid := 66); (· (repeat (first | exact SeA.nil | apply SeA.cons (.c (.d _))))); (· exact l1Stands_p _ 64); (· rfl))) | refine so_nil ?_ | refine so_g_no rfl rfl rfl rfl ?_ | refine so_g_yes rfl rfl rfl rfl ?_ | refine so_g_if rfl rfl (fun hg => ?_) (fun hg => ?_) | refine so_g_b rfl rfl (fun hg => ?_) (fun hg => ?_) | refine sk_seq ?_ | refine sk_region ?_)
  all_goals (apply sk_ret; apply ret_eq; (· apply RetOK.p; (· (apply GvA.cons; (· exact .tmp _); (· exact GvP.c (.lit _))); exact GvA.nil); (· (decide))))
  all_goals simp_all [recB]

end Go.Proofs.YtdihapcicpkdkaaGreatDoor

namespace Go.Proofs.YtdihapcicpkdkaaGreatDoor
open Go.RowKit
set_option linter.unusedSectionVars false
variable [Glb]
set_option maxRecDepth 10000
set_option maxHeartbeats 4000000
theorem bef_len (b : UInt8) (s : Tx) : (bef b s).length ≤ s.length := by
  by_cases h : b ∈ s
  · have := congrArg List.length (split_at_b h).1
    simp at this; omega
  · rw [bef_miss h]; omega
theorem ahd_len {k : Nat} (h : k < 60) : (ahdT k).length ≤ 3 := by have := num60 h; simp [ahdT]; omega
theorem part_to (s : Tx) (n : Nat) : partZ s 0 n = s.take n := by simp [partZ]
theorem part_from (s : Tx) (n : Nat) (h : n ≤ s.length) : partZ s n s.length = s.drop n := by
  unfold partZ; rw [List.take_of_length_le (by simp)]; simp
def restS (k : Nat) (l : Tx) : Tx := (rstT k l).drop ((bef 64 (rstT k l)).length + 1)
theorem dec_1 (k : Nat) (l : Tx) (hk : k < 60) (hl : l.length ≤ 1000000) (h : (bef 35 l).length < (ahdT k).length ∨ (bef 35 l).take (ahdT k).length ≠ ahdT k) : PC Tryz.prog 46 [.c (dT l), .c (dI k)] (.t [.g [dT [], dT []], .c (dB false)]) := by
  have b1 := bef_len 35 l
  have h3 := ahd_len hk
  have h4 := num60 hk
  unfold ahdT at h h3
  rw [← part_to] at h
  refine pc_intro Tryz.func46 rfl rfl rfl (by kernel_rfl) rfl rfl ?_; intro _
  repeat' (first | (refine so_is (.alloc 80) ?_; refine so_alloc (zs := [.string ByteArray.empty, .string ByteArray.empty]) (by kernel_rfl) rfl ?_) | (refine so_is (.assign _) ?_; (refine so_q (qt_asC rfl) rfl ?_)) | (refine so_is (.move _) ?_; (refine so_q (qt_mvC rfl) rfl ?_)) | (refine so_is (.binOp .add 9 _ _ _) ?_; (refine so_q (qt_addT rfl rfl (by ((simp only [List.length_map, List.length_append, List.length_replicate, fillL_len, rowF_len, gridF_len, mkI_len, mkII_len, partZ_min] at *; omega)))) rfl ?_)) | (refine so_is (.indexAddr 77 _ _) ?_; (refine so_q (qt_idx0 rfl rfl (by kernel_rfl)) rfl ?_)) | (refine so_is (.load 9 _) ?_; (refine so_q (qt_load_pt rfl (by kernel_rfl) rfl) rfl ?_)) | (refine so_is (.call ⟨.builtin .len, _, #[9]⟩) ?_; (refine so_q (qt_lenT rfl (by kernel_rfl)) rfl ?_)) | (refine so_is (.binOp .lss 3 _ _ _) ?_; refine so_q (qt_lss rfl rfl) rfl ?_) | (refine so_is (.slice 9 _ none (some _) none) ?_; (refine so_q (qt_sliceT01 rfl rfl (by kernel_rfl) (by (omega)) (by (omega))) rfl ?_)) | (refine so_is (.binOp .neq 9 _ _ _) ?_; (refine so_q (qt_neqT rfl rfl) rfl ?_)) | (refine so_is (.pick _ _ _) ?_; (refine so_q (qt_pkC rfl rfl) rfl ?_)) | (refine so_is (.build 80 _) ?_; refine so_q (qt_build (cs := [_, _]) [(0, 1), (1, 1)] [.string ByteArray.empty, .string ByteArray.empty] (by kernel_rfl) (by kernel_rfl) rfl) rfl ?_) | (refine so_is (.store 80 _ _) ?_; (refine so_store_box rfl rfl rfl (by kernel_rfl) rfl rfl ?_)) | (refine so_is (.slice 9 _ (some _) none none) ?_; (refine so_q (qt_sliceT10 rfl rfl (by kernel_rfl) (by (omega)) (by (omega))) rfl ?_)) | (refine so_is (.call ⟨.value (.func 58), _, _⟩) ?_; (apply so_call0 (fid := 58); (· (repeat (first | exact SeA.nil | apply SeA.cons (.c (.d _))))); (· exact l1Num_p _ (by omega)); (· rfl))) | (refine so_is (.call ⟨.value (.func 45), _, _⟩) ?_; (apply so_call0 (fid := 45); (· (repeat (first | exact SeA.nil | apply SeA.cons (.c (.d _))))); (· exact l1Split_p _ 35 (by omega)); (· rfl))) | refine so_nil ?_ | refine so_g_no rfl rfl rfl rfl ?_ | refine so_g_yes rfl rfl rfl rfl ?_ | refine so_g_if rfl rfl (fun hg => ?_) (fun hg => ?_) | refine sk_seq ?_ | refine sk_skip ?_ | refine sk_region ?_ | refine sk_true rfl ?_ | refine sk_if rfl (fun hc => ?_) (fun hc => ?_))
  all_goals first | (exfalso; rcases h with h | h; (omega); (exact absurd h (by assumption))) | skip
  all_goals (apply sk_ret; apply ret_eq; (· apply RetOK.t; (· (apply GvA.cons; (· (apply RV.cellN (n := 2); (· rfl); (· rfl); (· kernel_rfl); (· rfl))); (· (apply GvP.g; (· (apply GvL.cons (.lit _)); (apply GvL.cons (.lit _)); exact GvL.nil)))); (apply GvA.cons; (· exact .tmp _); (· exact GvP.c (.lit _))); exact GvA.nil); (· rfl); (· (decide))))
  all_goals rfl
theorem dec_2 (k : Nat) (l : Tx) (hk : k < 60) (hl : l.length ≤ 1000000) (h : ¬ ((bef 35 l).length < (ahdT k).length ∨ (bef 35 l).take (ahdT k).length ≠ ahdT k)) (h2 : (bef 64 (rstT k l)).length = (rstT k l).length) : PC Tryz.prog 46 [.c (dT l), .c (dI k)] (.t [.g [dT [], dT []], .c (dB false)]) := by
  have b1 := bef_len 35 l
  have h3 := ahd_len hk
  have h4 := num60 hk
  rw [not_or] at h
  unfold rstT at h2
  unfold ahdT at h h3 h2
  rw [← part_from _ _ (by omega)] at h2
  rw [← part_to] at h
  have b2 := partZ_le (bef 35 l) (numT k ++ [32]).length (bef 35 l).length
  refine pc_intro Tryz.func46 rfl rfl rfl (by kernel_rfl) rfl rfl ?_; intro _
  repeat' (first | (refine so_is (.alloc 80) ?_; refine so_alloc (zs := [.string ByteArray.empty, .string ByteArray.empty]) (by kernel_rfl) rfl ?_) | (refine so_is (.assign _) ?_; (refine so_q (qt_asC rfl) rfl ?_)) | (refine so_is (.move _) ?_; (refine so_q (qt_mvC rfl) rfl ?_)) | (refine so_is (.binOp .add 9 _ _ _) ?_; (refine so_q (qt_addT rfl rfl (by ((simp only [List.length_map, List.length_append, List.length_replicate, fillL_len, rowF_len, gridF_len, mkI_len, mkII_len, partZ_min] at *; omega)))) rfl ?_)) | (refine so_is (.call ⟨.value (.func 45), _, _⟩) ?_; (first | (apply so_call0 (d := 15) (fid := 45); (· (repeat (first | exact SeA.nil | apply SeA.cons (.c (.d _))))); (· exact l1Split_p _ 35 (by omega)); (· rfl)) | (apply so_call0 (d := 37) (fid := 45); (· (repeat (first | exact SeA.nil | apply SeA.cons (.c (.d _))))); (· exact l1Split_p _ 64 (by omega)); (· rfl)))) | (refine so_is (.indexAddr 77 _ _) ?_; (refine so_q (qt_idx0 rfl rfl (by kernel_rfl)) rfl ?_)) | (refine so_is (.load 9 _) ?_; (refine so_q (qt_load_pt rfl (by kernel_rfl) rfl) rfl ?_)) | (refine so_is (.call ⟨.builtin .len, _, #[9]⟩) ?_; (refine so_q (qt_lenT rfl (by kernel_rfl)) rfl ?_)) | (refine so_is (.binOp .lss 3 _ _ _) ?_; refine so_q (qt_lss rfl rfl) rfl ?_) | (refine so_is (.slice 9 _ none (some _) none) ?_; (refine so_q (qt_sliceT01 rfl rfl (by kernel_rfl) (by (omega)) (by (omega))) rfl ?_)) | (refine so_is (.binOp .neq 9 _ _ _) ?_; (refine so_q (qt_neqT rfl rfl) rfl ?_)) | (refine so_is (.pick _ _ _) ?_; (refine so_q (qt_pkC rfl rfl) rfl ?_)) | (refine so_is (.build 80 _) ?_; refine so_q (qt_build (cs := [_, _]) [(0, 1), (1, 1)] [.string ByteArray.empty, .string ByteArray.empty] (by kernel_rfl) (by kernel_rfl) rfl) rfl ?_) | (refine so_is (.store 80 _ _) ?_; (refine so_store_box rfl rfl rfl (by kernel_rfl) rfl rfl ?_)) | (refine so_is (.slice 9 _ (some _) none none) ?_; (refine so_q (qt_sliceT10 rfl rfl (by kernel_rfl) (by (omega)) (by (omega))) rfl ?_)) | (refine so_is (.binOp .eql 3 _ _ _) ?_; refine so_q (qt_eql rfl rfl) rfl ?_) | (refine so_is (.binOp .add 3 _ _ _) ?_; refine so_q (qt_addI rfl rfl (by (omega))) rfl ?_) | (refine so_is (.load 80 _) ?_; (refine so_q (qt_load_boxs rfl rfl (by kernel_rfl : tAgg _ 80 2 = true) rfl) rfl ?_)) | (refine so_is (.call ⟨.value (.func 58), _, _⟩) ?_; (apply so_call0 (fid := 58); (· (repeat (first | exact SeA.nil | apply SeA.cons (.c (.d _))))); (· exact l1Num_p _ (by omega)); (· rfl))) | refine so_nil ?_ | refine so_g_no rfl rfl rfl rfl ?_ | refine so_g_yes rfl rfl rfl rfl ?_ | refine so_g_if rfl rfl (fun hg => ?_) (fun hg => ?_) | refine sk_seq ?_ | refine sk_skip ?_ | refine sk_region ?_ | refine sk_drawQ 10 (fun i => i == 11) (.step 0 true (.step 1 true (.step 2 false (.step 3 true (.step 4 true (.step 5 true (.step 7 true (.step 8 true (.step 6 false (.step 9 true (.step 10 true (.step 11 false (.step 12 true .nil))))))))))))) [(0, 8191, 8191, false), (0, 8191, 8191, false), (2, 8189, 8191, false), (4, 8187, 8191, true), (8, 8183, 8191, true), (8, 8183, 8191, false), (56, 8135, 8191, false), (8, 8183, 6143, true), (136, 8055, 6143, true), (328, 7863, 6143, true), (520, 7671, 6143, true), (65, 8190, 8191, false), (4095, 7167, 6143, true)] (by kernel_rfl) (by kernel_rfl) ?_ | refine sk_true rfl ?_ | refine sk_if rfl (fun hc => ?_) (fun hc => ?_))
  all_goals first | (exfalso; omega) | (exfalso; exact absurd (by assumption) h.2) | skip
  all_goals (apply sk_ret; apply ret_eq; (· apply RetOK.t; (· (apply GvA.cons; (· (apply RV.cellN (n := 2); (· rfl); (· rfl); (· kernel_rfl); (· rfl))); (· (apply GvP.g; (· (apply GvL.cons (.lit _)); (apply GvL.cons (.lit _)); exact GvL.nil)))); (apply GvA.cons; (· exact .tmp _); (· exact GvP.c (.lit _))); exact GvA.nil); (· rfl); (· (decide))))
  all_goals rfl
theorem dec_3 (k : Nat) (l : Tx) (hk : k < 60) (hl : l.length ≤ 1000000) (h : ¬ ((bef 35 l).length < (ahdT k).length ∨ (bef 35 l).take (ahdT k).length ≠ ahdT k)) (h2 : (bef 64 (rstT k l)).length ≠ (rstT k l).length) : PC Tryz.prog 46 [.c (dT l), .c (dI k)] (.t [.g [dT (bef 64 (rstT k l)), dT (restS k l)], .c (dB (recB (bef 64 (rstT k l)) (restS k l) && decide (lineT k (bef 64 (rstT k l)) (restS k l) = l)))]) := by
  have b1 := bef_len 35 l
  have h3 := ahd_len hk
  have h4 := num60 hk
  rw [not_or] at h
  have b3 := bef_len 64 (rstT k l)
  unfold restS
  rw [← part_from (rstT k l) _ (by omega)]
  unfold rstT at h2 b3 ⊢
  unfold ahdT at h h3 h2 b3 ⊢
  rw [← part_from _ _ (by omega)] at h2 b3 ⊢
  rw [← part_to] at h
  have hc1 : ∀ n : Nat, ((n + 1 : Nat) : Int) = (n : Int) + 1 := fun n => by omega
  simp only [hc1]
  clear hc1
  have b2 := partZ_le (bef 35 l) (numT k ++ [32]).length (bef 35 l).length
  have b4 := partZ_le (partZ (bef 35 l) (numT k ++ [32]).length (bef 35 l).length) (((bef 64 (partZ (bef 35 l) (numT k ++ [32]).length (bef 35 l).length)).length : Int) + 1) (partZ (bef 35 l) (numT k ++ [32]).length (bef 35 l).length).length
  refine pc_intro Tryz.func46 rfl rfl rfl (by kernel_rfl) rfl rfl ?_; intro _
  repeat' (first | (refine so_is (.alloc 80) ?_; refine so_alloc (zs := [.string ByteArray.empty, .string ByteArray.empty]) (by kernel_rfl) rfl ?_) | (refine so_is (.assign _) ?_; (refine so_q (qt_asC rfl) rfl ?_)) | (refine so_is (.move _) ?_; (refine so_q (qt_mvC rfl) rfl ?_)) | (refine so_is (.binOp .add 9 _ _ _) ?_; (refine so_q (qt_addT rfl rfl (by (first | (simp only [List.length_map, List.length_append, List.length_replicate, fillL_len, rowF_len, gridF_len, mkI_len, mkII_len, partZ_min] at *; omega) | (simp at *; omega)))) rfl ?_)) | (refine so_is (.call ⟨.value (.func 45), _, _⟩) ?_; (first | (apply so_call0 (d := 15) (fid := 45); (· (repeat (first | exact SeA.nil | apply SeA.cons (.c (.d _))))); (· exact l1Split_p _ 35 (by omega)); (· rfl)) | (apply so_call0 (d := 37) (fid := 45); (· (repeat (first | exact SeA.nil | apply SeA.cons (.c (.d _))))); (· exact l1Split_p _ 64 (by omega)); (· rfl)))) | (refine so_is (.indexAddr 77 _ _) ?_; (refine so_q (qt_idx0 rfl rfl (by kernel_rfl)) rfl ?_)) | (refine so_is (.load 9 _) ?_; (refine so_q (qt_load_pt rfl (by kernel_rfl) rfl) rfl ?_)) | (refine so_is (.call ⟨.builtin .len, _, #[9]⟩) ?_; (refine so_q (qt_lenT rfl (by kernel_rfl)) rfl ?_)) | (refine so_is (.binOp .lss 3 _ _ _) ?_; refine so_q (qt_lss rfl rfl) rfl ?_) | (refine so_is (.slice 9 _ none (some _) none) ?_; (refine so_q (qt_sliceT01 rfl rfl (by kernel_rfl) (by (omega)) (by (omega))) rfl ?_)) | (refine so_is (.binOp .neq 9 _ _ _) ?_; (refine so_q (qt_neqT rfl rfl) rfl ?_)) | (refine so_is (.pick _ _ _) ?_; (refine so_q (qt_pkC rfl rfl) rfl ?_)) | (refine so_is (.build 80 _) ?_; refine so_q (qt_build (cs := [_, _]) [(0, 1), (1, 1)] [.string ByteArray.empty, .string ByteArray.empty] (by kernel_rfl) (by kernel_rfl) rfl) rfl ?_) | (refine so_is (.store 80 _ _) ?_; (refine so_store_box rfl rfl rfl (by kernel_rfl) rfl rfl ?_)) | (refine so_is (.slice 9 _ (some _) none none) ?_; (refine so_q (qt_sliceT10 rfl rfl (by kernel_rfl) (by (omega)) (by (omega))) rfl ?_)) | (refine so_is (.binOp .eql 3 _ _ _) ?_; refine so_q (qt_eql rfl rfl) rfl ?_) | (refine so_is (.binOp .add 3 _ _ _) ?_; refine so_q (qt_addI rfl rfl (by (omega))) rfl ?_) | (refine so_is (.load 80 _) ?_; (refine so_q (qt_load_boxs rfl rfl (by kernel_rfl : tAgg _ 80 2 = true) rfl) rfl ?_)) | (refine so_is (.binOp .eql 9 _ _ _) ?_; (refine so_q (qt_eqlT rfl rfl) rfl ?_)) | (refine so_is (.call ⟨.value (.func 58), _, _⟩) ?_; (apply so_call0 (fid := 58); (· (repeat (first | exact SeA.nil | apply SeA.cons (.c (.d _))))); (· exact l1Num_p _ (by omega)); (· rfl))) | (refine so_is (.call ⟨.value (.func 59), _, _⟩) ?_; (apply so_call0 (fid := 59); (· (repeat (first | exact SeA.nil | (apply SeA.cons; (· (apply SeP.g; (repeat (first | exact SeL.nil | apply SeL.cons (.d _))))))))); (· exact l12Record_p _ _); (· rfl))) | (refine so_is (.call ⟨.value (.func 60), _, _⟩) ?_; (apply so_call0 (fid := 60); (· (repeat (first | exact SeA.nil | apply SeA.cons (.c (.d _)) | (apply SeA.cons; (· (apply SeP.g; (repeat (first | exact SeL.nil | apply SeL.cons (.d _))))))))); (· exact l12Line_p _ _ _ hk (by omega) (by omega)); (· rfl))) | refine so_nil ?_ | refine so_g_no rfl rfl rfl rfl ?_ | refine so_g_yes rfl rfl rfl rfl ?_ | refine so_g_if rfl rfl (fun hg => ?_) (fun hg => ?_) | refine so_g_b rfl rfl (fun hg => ?_) (fun hg => ?_) | refine sk_seq ?_ | refine sk_skip ?_ | refine sk_region ?_ | refine sk_drawQ 10 (fun i => i == 11) (.step 0 true (.step 1 true (.step 2 false (.step 3 true (.step 4 true (.step 5 true (.step 7 true (.step 8 true (.step 6 false (.step 9 true (.step 10 true (.step 11 false (.step 12 true .nil))))))))))))) [(0, 8191, 8191, false), (0, 8191, 8191, false), (2, 8189, 8191, false), (4, 8187, 8191, true), (8, 8183, 8191, true), (8, 8183, 8191, false), (56, 8135, 8191, false), (8, 8183, 6143, true), (136, 8055, 6143, true), (328, 7863, 6143, true), (520, 7671, 6143, true), (65, 8190, 8191, false), (4095, 7167, 6143, true)] (by kernel_rfl) (by kernel_rfl) ?_ | refine sk_true rfl ?_ | refine sk_if rfl (fun hc => ?_) (fun hc => ?_))
  all_goals first | (exfalso; omega) | (exfalso; exact absurd (by assumption) h.2) | skip
  all_goals (apply sk_ret; apply ret_eq; (· apply RetOK.t; (· (apply GvA.cons; (· (apply RV.cellN (n := 2); (· rfl); (· rfl); (· kernel_rfl); (· rfl))); (· (apply GvP.g; (· (apply GvL.cons (.lit _)); (apply GvL.cons (.lit _)); exact GvL.nil)))); (apply GvA.cons; (· exact .tmp _); (· exact GvP.c (.lit _))); exact GvA.nil); (· rfl); (· (decide))))
  all_goals simp_all

end Go.Proofs.YtdihapcicpkdkaaGreatDoor

namespace Go.Proofs.YtdihapcicpkdkaaGreatDoor
open Go.RowKit
set_option linter.unusedSectionVars false
variable [Glb]
variable [GTab Tryz.prog tabNm]
set_option maxRecDepth 10000
set_option maxHeartbeats 4000000
theorem bef_no (b : UInt8) (s : Tx) : b ∉ bef b s := by
  by_cases h : b ∈ s
  · exact (split_at_b h).2
  · rw [bef_miss h]; exact h
theorem vc_eq (l : Tx) : vcT l = vtxT l := by
  unfold vcT vtxT
  have : vcOK l = verT l := by
    unfold vcOK verT acT
    have h := bef_no 35 l
    have e : acOK (bef 35 l) = (decide ((bef 35 l).length ≤ 4000) && decide ((sealT (bef 35 l)).length ≤ 4000)) := by simp [acOK, h]
    rw [← e]
    cases acOK (bef 35 l) <;> simp
  rw [this]
theorem readRecords_p (s : Tx) (hs : s.length ≤ 1000000) : PC Tryz.prog 36 [.c (dT s)] (.t [.c (eR (recsT s)), .c (eI (endsL s (numR s)))]) := by
  refine pc_intro Tryz.func36 rfl rfl rfl (by kernel_rfl) rfl rfl ?_; intro _
  repeat' (first | (refine so_is (.assign _) ?_; (refine so_q (qt_asC rfl) rfl ?_)) | (refine so_is (.buildSlice 62 0 _) ?_; (apply so_bslice (sz := 2) (by_ := 32); (· kernel_rfl); (· decide); (· (repeat (exact GvS.nil _))); (· (decide)); (· rfl); (· rfl); (· rfl))) | (refine so_is (.buildSlice 25 1 _) ?_; (apply so_bslice (sz := 1) (by_ := 8); (· kernel_rfl); (· decide); (· (repeat (first | exact GvS.nil _ | apply GvS.c rfl rfl (.lit _) rfl))); (· (decide)); (· rfl); (· rfl); (· rfl))) | refine so_nil ?_ | refine sk_seq ?_ | refine sk_block ?_ | refine sk_region ?_)
  apply sk_packC [0, 4, 5, 6] [15, 18, 19, 75, 76, 79, 80] rfl; (· (repeat (first | exact Pf.nil | apply Pf.cons (.c rfl (.d rfl)) | apply Pf.cons (.c rfl (.ls rfl))))); (· (repeat (first | exact Pb.nil | apply Pb.cons (.row rfl) | apply Pb.skip)))
  refine sk_loopL [0] [15, 75, 76, 79, 80] (fun j => [(4, .c (.ls 18 2 0 j)), (5, .c (.ls 19 1 0 (j + 1))), (6, iN (endsT s j))]) (fun j => [(18, .row 2 (recD ((recsT s).take j))), (19, .row 1 (cI (endsL s j)))]) (fun j => j ≤ numR s) (fun j => 60 - j) (0) ?_ (by (repeat (first | exact trivial | refine ⟨(by (rfl)), ?_⟩))) (by (repeat (first | exact trivial | refine ⟨(by ((refine row_eq rfl ?_; simp  [ends_zero, recD, endsL_zero]; done))), ?_⟩))) ?_
  · omega
  intro j hj
  have h60 := log_len s
  have hle := ends_le s j
  have hlr : ((recsT s).take j).length = j := by rw [List.length_take, recs_len]; omega
  have hrl : (recD ((recsT s).take j)).length = j * 2 := by rw [recD_len, hlr]
  have hel : (cI (endsL s j)).length = (j + 1) * 1 := by simp
  have hrest : partZ s (endsT s j) s.length = s.drop (endsT s j) := part_from s _ hle
  have hfin : numR s = j → (recsT s).take j = recsT s ∧ (recsT s).length = j := fun e => ⟨List.take_of_length_le (by rw [recs_len]; omega), (recs_len s).trans e⟩
  have hpl := partZ_le s (endsT s j) s.length
  have hbl := bef_len 10 (partZ s (endsT s j) s.length)
  by_cases h : j < 60
  · by_cases hm : 10 ∈ partZ s (endsT s j) s.length
    · have hd := decI (l := bef 10 (partZ s (endsT s j) s.length)) h
      rw [← vc_eq] at hd
      by_cases hr : recB (bef 64 (aft 32 (vcT (bef 10 (partZ s (endsT s j) s.length))))) (aft 64 (aft 32 (vcT (bef 10 (partZ s (endsT s j) s.length))))) = true
      · by_cases hl : lineT j (bef 64 (aft 32 (vcT (bef 10 (partZ s (endsT s j) s.length))))) (aft 64 (aft 32 (vcT (bef 10 (partZ s (endsT s j) s.length))))) = bef 10 (partZ s (endsT s j) s.length)
        · rw [if_pos ⟨hr, hl⟩] at hd
          have hst : stepT j (s.drop (endsT s j)) = some ((bef 64 (aft 32 (vcT (bef 10 (partZ s (endsT s j) s.length)))), aft 64 (aft 32 (vcT (bef 10 (partZ s (endsT s j) s.length))))), (bef 10 (s.drop (endsT s j))).length + 1) := step_some (by rw [← hrest]; exact hm) (by rw [← hrest]; exact hd)
          obtain ⟨g1, g2, g3⟩ := log_go hj h hst
          rw [← hrest] at g3
          clear hfin hrest hst hd
          repeat' (first | (refine so_is (.assign _) ?_; (refine so_q (qt_asC rfl) rfl ?_)) | (refine so_is (.buildSlice 25 1 _) ?_; (apply so_bslice (sz := 1) (by_ := 8); (· kernel_rfl); (· decide); (· (repeat (first | exact GvS.nil _ | apply GvS.c rfl rfl (.lit _) rfl))); (· (decide)); (· rfl); (· rfl); (· rfl))) | (refine so_is (.move _) ?_; (first | refine so_q (qt_mvC rfl) rfl ?_ | refine so_q (qt_mvT rfl) rfl ?_)) | (refine so_is (.call ⟨.builtin .len, _, #[62]⟩) ?_; (refine so_q (qt_len_ls rfl (by kernel_rfl)) rfl ?_)) | (refine so_is (.binOp .lss 3 _ _ _) ?_; refine so_q (qt_lss rfl rfl) rfl ?_) | (refine so_is (.slice 9 _ (some _) none none) ?_; (refine so_q (qt_sliceT10 rfl rfl (by kernel_rfl) (by (omega)) (by (omega))) rfl ?_)) | (refine so_is (.call ⟨.value (.func 52), _, _⟩) ?_; (first | (apply so_call0 (d := 27) (fid := 52); (· (repeat (first | exact SeA.nil | apply SeA.cons (.c (.d _))))); (· exact cut_p _ 10); (· rfl)) | (apply so_call0 (d := 40) (fid := 52); (· (repeat (first | exact SeA.nil | apply SeA.cons (.c (.d _))))); (· exact cut_p _ 32); (· rfl)) | (apply so_call0 (d := 46) (fid := 52); (· (repeat (first | exact SeA.nil | apply SeA.cons (.c (.d _))))); (· exact cut_p _ 64); (· rfl)))) | (refine so_is (.extract _ _) ?_; refine so_q (qt_extract rfl rfl) rfl ?_) | (refine so_is (.unOp .not 4 _) ?_; refine so_q (qt_not rfl) rfl ?_) | (refine so_is (.build 80 _) ?_; refine so_q (qt_build (cs := [_, _]) [(0, 1), (1, 1)] [.string ByteArray.empty, .string ByteArray.empty] (by kernel_rfl) (by kernel_rfl) rfl) rfl ?_) | (refine so_is (.alloc 80) ?_; refine so_alloc (zs := [.string ByteArray.empty, .string ByteArray.empty]) (by kernel_rfl) rfl ?_) | (refine so_is (.store 80 _ _) ?_; (refine so_store_box rfl rfl rfl (by kernel_rfl) rfl rfl ?_)) | (refine so_is (.load 80 _) ?_; (refine so_q (qt_load_boxs rfl rfl (by kernel_rfl : tAgg _ 80 2 = true) rfl) rfl ?_)) | (refine so_is (.binOp .add 9 _ _ _) ?_; (refine so_q (qt_addT rfl rfl (by ((simp at *; omega)))) rfl ?_)) | (refine so_is (.binOp .neq 9 _ _ _) ?_; (refine so_q (qt_neqT rfl rfl) rfl ?_)) | (refine so_is (.pick _ _ _) ?_; (refine so_q (qt_pkC rfl rfl) rfl ?_)) | (refine so_is (.call ⟨.builtin .len, _, #[9]⟩) ?_; (refine so_q (qt_lenT rfl (by kernel_rfl)) rfl ?_)) | (refine so_is (.binOp .add 3 _ _ _) ?_; refine so_q (qt_addI rfl rfl (by (omega))) rfl ?_) | (refine so_is (.buildSlice 62 1 _) ?_; (apply so_bslice (sz := 2) (by_ := 32); (· kernel_rfl); (· decide); (· (repeat (first | exact GvS.nil _ | (apply GvS.g rfl; (· (repeat (first | exact GvL.nil | apply GvL.cons (.lit _)))); (· rfl))))); (· (decide)); (· rfl); (· rfl); (· rfl))) | (refine so_is (.call ⟨.builtin .append, _, #[62, 62]⟩) ?_; ((apply so_appR (sz := 2) (by_ := 32); (· rfl); (· rfl); (· (assumption)); (· exact .row _ _ _ _ rfl (by ((simp; done)))); (· (decide)); (· kernel_rfl); (· decide); (· (omega)); (· (omega)); (· rfl); (· rfl); (· rfl)))) | (refine so_is (.call ⟨.builtin .append, _, #[25, 25]⟩) ?_; ((apply so_appR (sz := 1) (by_ := 8); (· rfl); (· rfl); (· (assumption)); (· exact .row _ _ _ _ rfl (by ((simp; done)))); (· (decide)); (· kernel_rfl); (· decide); (· (omega)); (· (omega)); (· rfl); (· rfl); (· rfl)))) | (refine so_is (.call ⟨.value (.func 53), _, _⟩) ?_; (apply so_call0 (fid := 53); (· (repeat (first | exact SeA.nil | apply SeA.cons (.c (.d _))))); (· exact VerifyChecksum_p _); (· rfl))) | (refine so_is (.call ⟨.value (.func 54), _, _⟩) ?_; (apply so_call0 (fid := 54); (· (repeat (first | exact SeA.nil | apply SeA.cons (.c (.d _)) | (apply SeA.cons; (· (apply SeP.g; (repeat (first | exact SeL.nil | apply SeL.cons (.d _))))))))); (· exact EncodeRecord_p _ _ _ h hr); (· rfl))) | refine so_nil ?_ | refine so_g_yes rfl rfl rfl rfl ?_ | refine sk_seq ?_ | refine sk_block ?_ | refine sk_blk ?_ | refine sk_exit rfl ?_ | refine sk_skip ?_ | refine sk_region ?_ | refine sk_if rfl (fun hc => ?_) (fun hc => ?_) | refine sk_not rfl (fun hc => ?_) (fun hc => ?_))
          all_goals first | (exfalso; omega) | (exfalso; simp_all; done) | skip
          refine sk_back ?_; refine ⟨j + 1, ?_, ?_, le_at rfl (by (repeat (first | exact trivial | refine ⟨(by (first | rfl | (refine int_eq rfl ?_; (omega)))), ?_⟩))) (by (repeat (first | exact trivial | refine ⟨rfl, ?_⟩))) (by (repeat (first | exact trivial | refine ⟨(by ((refine row_eq rfl ?_; simp  [recs_snoc g2, endsL_snoc, g3, Nat.add_assoc]; done))), ?_⟩))) (by (repeat (first | exact trivial | refine ⟨.inr rfl, ?_⟩ | refine ⟨.inl rfl, ?_⟩)))⟩
          · omega
          · omega
        · rw [if_neg (fun h => hl h.2)] at hd
          have hst := log_stop hj (step_none (by rw [← hrest]; exact hd))
          obtain ⟨f1, f2⟩ := hfin hst
          clear hfin hrest hd
          repeat' (first | (refine so_is (.assign _) ?_; (refine so_q (qt_asC rfl) rfl ?_)) | (refine so_is (.buildSlice 25 1 _) ?_; (apply so_bslice (sz := 1) (by_ := 8); (· kernel_rfl); (· decide); (· (repeat (first | exact GvS.nil _ | apply GvS.c rfl rfl (.lit _) rfl))); (· (decide)); (· rfl); (· rfl); (· rfl))) | (refine so_is (.move _) ?_; (first | refine so_q (qt_mvC rfl) rfl ?_ | refine so_q (qt_mvT rfl) rfl ?_)) | (refine so_is (.call ⟨.builtin .len, _, #[62]⟩) ?_; (refine so_q (qt_len_ls rfl (by kernel_rfl)) rfl ?_)) | (refine so_is (.binOp .lss 3 _ _ _) ?_; refine so_q (qt_lss rfl rfl) rfl ?_) | (refine so_is (.slice 9 _ (some _) none none) ?_; (refine so_q (qt_sliceT10 rfl rfl (by kernel_rfl) (by (omega)) (by (omega))) rfl ?_)) | (refine so_is (.call ⟨.value (.func 52), _, _⟩) ?_; (first | (apply so_call0 (d := 27) (fid := 52); (· (repeat (first | exact SeA.nil | apply SeA.cons (.c (.d _))))); (· exact cut_p _ 10); (· rfl)) | (apply so_call0 (d := 40) (fid := 52); (· (repeat (first | exact SeA.nil | apply SeA.cons (.c (.d _))))); (· exact cut_p _ 32); (· rfl)) | (apply so_call0 (d := 46) (fid := 52); (· (repeat (first | exact SeA.nil | apply SeA.cons (.c (.d _))))); (· exact cut_p _ 64); (· rfl)))) | (refine so_is (.extract _ _) ?_; refine so_q (qt_extract rfl rfl) rfl ?_) | (refine so_is (.unOp .not 4 _) ?_; refine so_q (qt_not rfl) rfl ?_) | (refine so_is (.build 80 _) ?_; refine so_q (qt_build (cs := [_, _]) [(0, 1), (1, 1)] [.string ByteArray.empty, .string ByteArray.empty] (by kernel_rfl) (by kernel_rfl) rfl) rfl ?_) | (refine so_is (.alloc 80) ?_; refine so_alloc (zs := [.string ByteArray.empty, .string ByteArray.empty]) (by kernel_rfl) rfl ?_) | (refine so_is (.store 80 _ _) ?_; (refine so_store_box rfl rfl rfl (by kernel_rfl) rfl rfl ?_)) | (refine so_is (.load 80 _) ?_; (refine so_q (qt_load_boxs rfl rfl (by kernel_rfl : tAgg _ 80 2 = true) rfl) rfl ?_)) | (refine so_is (.binOp .add 9 _ _ _) ?_; (refine so_q (qt_addT rfl rfl (by ((simp at *; omega)))) rfl ?_)) | (refine so_is (.binOp .neq 9 _ _ _) ?_; (refine so_q (qt_neqT rfl rfl) rfl ?_)) | (refine so_is (.pick _ _ _) ?_; (refine so_q (qt_pkC rfl rfl) rfl ?_)) | (refine so_is (.call ⟨.builtin .len, _, #[9]⟩) ?_; (refine so_q (qt_lenT rfl (by kernel_rfl)) rfl ?_)) | (refine so_is (.binOp .add 3 _ _ _) ?_; refine so_q (qt_addI rfl rfl (by (omega))) rfl ?_) | (refine so_is (.buildSlice 62 1 _) ?_; (apply so_bslice (sz := 2) (by_ := 32); (· kernel_rfl); (· decide); (· (repeat (first | exact GvS.nil _ | (apply GvS.g rfl; (· (repeat (first | exact GvL.nil | apply GvL.cons (.lit _)))); (· rfl))))); (· (decide)); (· rfl); (· rfl); (· rfl))) | (refine so_is (.call ⟨.builtin .append, _, #[62, 62]⟩) ?_; ((apply so_appR (sz := 2) (by_ := 32); (· rfl); (· rfl); (· (assumption)); (· exact .row _ _ _ _ rfl (by ((simp; done)))); (· (decide)); (· kernel_rfl); (· decide); (· (omega)); (· (omega)); (· rfl); (· rfl); (· rfl)))) | (refine so_is (.call ⟨.builtin .append, _, #[25, 25]⟩) ?_; ((apply so_appR (sz := 1) (by_ := 8); (· rfl); (· rfl); (· (assumption)); (· exact .row _ _ _ _ rfl (by ((simp; done)))); (· (decide)); (· kernel_rfl); (· decide); (· (omega)); (· (omega)); (· rfl); (· rfl); (· rfl)))) | (refine so_is (.call ⟨.value (.func 53), _, _⟩) ?_; (apply so_call0 (fid := 53); (· (repeat (first | exact SeA.nil | apply SeA.cons (.c (.d _))))); (· exact VerifyChecksum_p _); (· rfl))) | (refine so_is (.call ⟨.value (.func 54), _, _⟩) ?_; (apply so_call0 (fid := 54); (· (repeat (first | exact SeA.nil | apply SeA.cons (.c (.d _)) | (apply SeA.cons; (· (apply SeP.g; (repeat (first | exact SeL.nil | apply SeL.cons (.d _))))))))); (· exact EncodeRecord_p _ _ _ h hr); (· rfl))) | refine so_nil ?_ | refine so_g_yes rfl rfl rfl rfl ?_ | refine sk_seq ?_ | refine sk_block ?_ | refine sk_blk ?_ | refine sk_exit rfl ?_ | refine sk_skip ?_ | refine sk_region ?_ | refine sk_if rfl (fun hc => ?_) (fun hc => ?_) | refine sk_not rfl (fun hc => ?_) (fun hc => ?_))
          all_goals first | (exfalso; omega) | (exfalso; simp_all; done) | skip
          all_goals (apply sk_ret; apply ret_eq; (· apply RetOK.t; (· (apply GvA.cons; (· exact .tmp _); (· (exact GvP.c (.row _ _ _ _ rfl (by (assumption)))))); (apply GvA.cons; (· exact .tmp _); (· (exact GvP.c (.row _ _ _ _ rfl (by (assumption)))))); exact GvA.nil); (· rfl); (· (decide))))
          all_goals simp only [eR, eI, f1, f2, hst, endsL_len]
      · rw [if_neg (fun h => hr h.1)] at hd
        have hst := log_stop hj (step_none (by rw [← hrest]; exact hd))
        obtain ⟨f1, f2⟩ := hfin hst
        clear hfin hrest hd
        repeat' (first | (refine so_is (.assign _) ?_; (refine so_q (qt_asC rfl) rfl ?_)) | (refine so_is (.move _) ?_; (first | refine so_q (qt_mvC rfl) rfl ?_ | refine so_q (qt_mvT rfl) rfl ?_)) | (refine so_is (.call ⟨.builtin .len, _, #[62]⟩) ?_; (refine so_q (qt_len_ls rfl (by kernel_rfl)) rfl ?_)) | (refine so_is (.binOp .lss 3 _ _ _) ?_; refine so_q (qt_lss rfl rfl) rfl ?_) | (refine so_is (.slice 9 _ (some _) none none) ?_; (refine so_q (qt_sliceT10 rfl rfl (by kernel_rfl) (by (omega)) (by (omega))) rfl ?_)) | (refine so_is (.call ⟨.value (.func 52), _, _⟩) ?_; (first | (apply so_call0 (d := 27) (fid := 52); (· (repeat (first | exact SeA.nil | apply SeA.cons (.c (.d _))))); (· exact cut_p _ 10); (· rfl)) | (apply so_call0 (d := 40) (fid := 52); (· (repeat (first | exact SeA.nil | apply SeA.cons (.c (.d _))))); (· exact cut_p _ 32); (· rfl)) | (apply so_call0 (d := 46) (fid := 52); (· (repeat (first | exact SeA.nil | apply SeA.cons (.c (.d _))))); (· exact cut_p _ 64); (· rfl)))) | (refine so_is (.extract _ _) ?_; refine so_q (qt_extract rfl rfl) rfl ?_) | (refine so_is (.unOp .not 4 _) ?_; refine so_q (qt_not rfl) rfl ?_) | (refine so_is (.build 80 _) ?_; refine so_q (qt_build (cs := [_, _]) [(0, 1), (1, 1)] [.string ByteArray.empty, .string ByteArray.empty] (by kernel_rfl) (by kernel_rfl) rfl) rfl ?_) | (refine so_is (.alloc 80) ?_; refine so_alloc (zs := [.string ByteArray.empty, .string ByteArray.empty]) (by kernel_rfl) rfl ?_) | (refine so_is (.store 80 _ _) ?_; (refine so_store_box rfl rfl rfl (by kernel_rfl) rfl rfl ?_)) | (refine so_is (.load 80 _) ?_; (refine so_q (qt_load_boxs rfl rfl (by kernel_rfl : tAgg _ 80 2 = true) rfl) rfl ?_)) | (refine so_is (.pick _ _ _) ?_; (refine so_q (qt_pkC rfl rfl) rfl ?_)) | (refine so_is (.call ⟨.value (.func 53), _, _⟩) ?_; (apply so_call0 (fid := 53); (· (repeat (first | exact SeA.nil | apply SeA.cons (.c (.d _))))); (· exact VerifyChecksum_p _); (· rfl))) | (refine so_is (.call ⟨.value (.func 54), _, _⟩) ?_; (apply so_call0 (fid := 54); (· (repeat (first | exact SeA.nil | apply SeA.cons (.c (.d _)) | (apply SeA.cons; (· (apply SeP.g; (repeat (first | exact SeL.nil | apply SeL.cons (.d _))))))))); (· exact EncodeRecord_no _ _ _ (by simp_all)); (· rfl))) | refine so_nil ?_ | refine so_g_no rfl rfl rfl rfl ?_ | refine sk_seq ?_ | refine sk_block ?_ | refine sk_exit rfl ?_ | refine sk_skip ?_ | refine sk_region ?_ | refine sk_true rfl ?_ | refine sk_if rfl (fun hc => ?_) (fun hc => ?_) | refine sk_not rfl (fun hc => ?_) (fun hc => ?_))
        all_goals first | (exfalso; omega) | (exfalso; simp_all; done) | skip
        all_goals (apply sk_ret; apply ret_eq; (· apply RetOK.t; (· (apply GvA.cons; (· exact .tmp _); (· (exact GvP.c (.row _ _ _ _ rfl (by (assumption)))))); (apply GvA.cons; (· exact .tmp _); (· (exact GvP.c (.row _ _ _ _ rfl (by (assumption)))))); exact GvA.nil); (· rfl); (· (decide))))
        all_goals simp only [eR, eI, f1, f2, hst, endsL_len]
    · have hst := log_stop hj (step_no (by rw [← hrest]; exact hm))
      obtain ⟨f1, f2⟩ := hfin hst
      clear hfin hrest
      repeat' (first | (refine so_is (.assign _) ?_; (refine so_q (qt_asC rfl) rfl ?_)) | (refine so_is (.move _) ?_; (first | refine so_q (qt_mvC rfl) rfl ?_ | refine so_q (qt_mvT rfl) rfl ?_)) | (refine so_is (.call ⟨.builtin .len, _, #[62]⟩) ?_; (refine so_q (qt_len_ls rfl (by kernel_rfl)) rfl ?_)) | (refine so_is (.binOp .lss 3 _ _ _) ?_; refine so_q (qt_lss rfl rfl) rfl ?_) | (refine so_is (.slice 9 _ (some _) none none) ?_; (refine so_q (qt_sliceT10 rfl rfl (by kernel_rfl) (by (omega)) (by (omega))) rfl ?_)) | (refine so_is (.call ⟨.value (.func 52), _, _⟩) ?_; (apply so_call0 (d := 27) (fid := 52); (· (repeat (first | exact SeA.nil | apply SeA.cons (.c (.d _))))); (· exact cut_p _ 10); (· rfl))) | (refine so_is (.extract _ _) ?_; refine so_q (qt_extract rfl rfl) rfl ?_) | (refine so_is (.unOp .not 4 _) ?_; refine so_q (qt_not rfl) rfl ?_) | refine so_nil ?_ | refine sk_seq ?_ | refine sk_block ?_ | refine sk_exit rfl ?_ | refine sk_skip ?_ | refine sk_region ?_ | refine sk_if rfl (fun hc => ?_) (fun hc => ?_) | refine sk_not rfl (fun hc => ?_) (fun hc => ?_))
      all_goals first | (exfalso; omega) | (exfalso; simp_all; done) | skip
      all_goals (apply sk_ret; apply ret_eq; (· apply RetOK.t; (· (apply GvA.cons; (· exact .tmp _); (· (exact GvP.c (.row _ _ _ _ rfl (by (assumption)))))); (apply GvA.cons; (· exact .tmp _); (· (exact GvP.c (.row _ _ _ _ rfl (by (assumption)))))); exact GvA.nil); (· rfl); (· (decide))))
      all_goals simp only [eR, eI, f1, f2, hst, endsL_len]
  · have hst : numR s = j := by omega
    obtain ⟨f1, f2⟩ := hfin hst
    clear hfin hrest
    repeat' (first | (refine so_is (.assign _) ?_; (refine so_q (qt_asC rfl) rfl ?_)) | (refine so_is (.move _) ?_; (refine so_q (qt_mvC rfl) rfl ?_)) | (refine so_is (.call ⟨.builtin .len, _, #[62]⟩) ?_; (refine so_q (qt_len_ls rfl (by kernel_rfl)) rfl ?_)) | (refine so_is (.binOp .lss 3 _ _ _) ?_; refine so_q (qt_lss rfl rfl) rfl ?_) | (refine so_is (.slice 9 _ (some _) none none) ?_; (refine so_q (qt_sliceT10 rfl rfl (by kernel_rfl) (by (omega)) (by (omega))) rfl ?_)) | refine so_nil ?_ | refine sk_seq ?_ | refine sk_block ?_ | refine sk_exit rfl ?_ | refine sk_skip ?_ | refine sk_region ?_ | refine sk_if rfl (fun hc => ?_) (fun hc => ?_))
    all_goals first | (exfalso; omega) | (exfalso; simp_all; done) | skip
    all_goals (apply sk_ret; apply ret_eq; (· apply RetOK.t; (· (apply GvA.cons; (· exact .tmp _); (· (exact GvP.c (.row _ _ _ _ rfl (by (assumption)))))); (apply GvA.cons; (· exact .tmp _); (· (exact GvP.c (.row _ _ _ _ rfl (by (assumption)))))); exact GvA.nil); (· rfl); (· (decide))))
    all_goals simp only [eR, eI, f1, f2, hst, endsL_len]

end Go.Proofs.YtdihapcicpkdkaaGreatDoor

namespace Go.Proofs.YtdihapcicpkdkaaGreatDoor
open Go.RowKit
set_option linter.unusedSectionVars false
variable [Glb]
set_option maxRecDepth 10000
set_option maxHeartbeats 4000000
def ixI (x : Int) : List Int → Int
  | [] => -1
  | z :: r => if z = x then 0 else if ixI x r = -1 then -1 else ixI x r + 1
theorem ixI_none {x : Int} : ∀ {l : List Int}, x ∉ l → ixI x l = -1
  | [], _ => rfl
  | z :: r, h => by
    rw [List.mem_cons, not_or] at h
    rw [ixI, if_neg (Ne.symm h.1), ixI_none h.2, if_pos rfl]
theorem ixI_at {x : Int} : ∀ {l : List Int} {k : Nat} (h : k < l.length), l[k] = x → x ∉ l.take k → ixI x l = k
  | z :: r, 0, _, e, _ => by rw [ixI, if_pos (by simpa using e)]; rfl
  | z :: r, k + 1, h, e, ht => by
    rw [List.take_succ_cons, List.mem_cons, not_or] at ht
    have := ixI_at (l := r) (k := k) (by simpa using h) (by simpa using e) ht.2
    rw [ixI, if_neg (Ne.symm ht.1), this, if_neg (by omega)]; omega
theorem ixI_has (x : Int) : ∀ l : List Int, -1 ≤ ixI x l ∧ decide (ixI x l ≥ 0) = l.contains x
  | [] => ⟨by simp [ixI], rfl⟩
  | z :: r => by
    obtain ⟨h1, h2⟩ := ixI_has x r
    rw [ixI]
    by_cases hz : z = x
    · rw [if_pos hz]; simp [hz]
    · rw [if_neg hz]
      have : (z :: r).contains x = r.contains x := by
        rw [List.contains_cons]; simp [Ne.symm hz]
      rw [this, ← h2]
      split
      · rename_i e; rw [e]; exact ⟨by omega, rfl⟩
      · exact ⟨by omega, decide_eq_decide.2 ⟨fun _ => by omega, fun _ => by omega⟩⟩
theorem slIndex_p (l : List Int) (x : Int) : PC Tryz.prog 55 [.c (eI l), .c (dI x)] (.p (.c (dI (ixI x l)))) := by
  refine pc_intro Tryz.func55 rfl rfl rfl (by kernel_rfl) rfl rfl ?_; rintro ⟨hl, -⟩
  have hl := hl.len
  repeat' (first | (refine so_is (.assign _) ?_; (refine so_q (qt_asC rfl) rfl ?_)) | (refine so_is (.move _) ?_; (refine so_q (qt_mvC rfl) rfl ?_)) | (refine so_is (.call ⟨.builtin .len, _, #[25]⟩) ?_; (refine so_q (qt_len_d rfl (by kernel_rfl)) rfl ?_)) | refine so_nil ?_ | refine sk_seq ?_ | refine sk_block ?_ | refine sk_region ?_)
  apply sk_packC [0, 1, 7, 8] [] rfl; (· (repeat (first | exact Pf.nil | apply Pf.cons (.c rfl (.d rfl))))); (· (repeat (exact Pb.nil)))
  refine sk_loopL [0, 1, 7] [] (fun k => [(8, iN k)]) (fun _ => []) (fun k => k ≤ l.length ∧ x ∉ l.take k) (fun k => l.length - k) (0) ?_ (by (repeat (first | exact trivial | refine ⟨(by (rfl)), ?_⟩))) (by (repeat (exact trivial))) ?_
  · simp
  rintro k ⟨hk, ht⟩
  by_cases h : k < l.length
  · repeat' (first | (refine so_is (.assign _) ?_; (refine so_q (qt_asC rfl) rfl ?_)) | (refine so_is (.move _) ?_; (refine so_q (qt_mvC rfl) rfl ?_)) | (refine so_is (.binOp .lss 3 _ _ _) ?_; refine so_q (qt_lss rfl rfl) rfl ?_) | (refine so_is (.indexAddr 25 _ _) ?_; (refine so_q (qt_idxI rfl rfl (by kernel_rfl) (by (omega)) (by (omega))) rfl ?_)) | (refine so_is (.load 3 _) ?_; (refine so_q (qt_load_pt rfl (by kernel_rfl) rfl) rfl ?_)) | (refine so_is (.binOp .eql 3 _ _ _) ?_; refine so_q (qt_eql rfl rfl) rfl ?_) | (refine so_is (.binOp .add 3 _ _ _) ?_; refine so_q (qt_addI rfl rfl (by (omega))) rfl ?_) | refine so_nil ?_ | refine sk_seq ?_ | refine sk_block ?_ | refine sk_blk ?_ | refine sk_exit rfl ?_ | refine sk_skip ?_ | refine sk_region ?_ | refine sk_if rfl (fun hc => ?_) (fun hc => ?_))
    all_goals first | (exfalso; omega) | skip
    · (apply sk_ret; apply ret_eq; (· apply RetOK.p; (· (apply GvA.cons; (· exact .tmp _); (· exact GvP.c (.lit _))); exact GvA.nil); (· (decide))))
      have e : l[k] = x := by rw [← atZ_nat h]; apply Eq.symm; assumption
      rw [ixI_at h e ht]
    · refine sk_back ?_; refine ⟨k + 1, ?_, ?_, le_at rfl (by (repeat (first | exact trivial | refine ⟨(by (rfl)), ?_⟩))) (by (repeat (first | exact trivial | refine ⟨rfl, ?_⟩))) (by (repeat (exact trivial))) (by (repeat (exact trivial)))⟩
      · refine ⟨by omega, ?_⟩
        rw [List.take_succ_eq_append_getElem h, List.mem_append, not_or, List.mem_singleton, ← atZ_nat h]
        exact ⟨ht, by assumption⟩
      · omega
  · repeat' (first | (refine so_is (.assign _) ?_; (refine so_q (qt_asC rfl) rfl ?_)) | (refine so_is (.move _) ?_; (refine so_q (qt_mvC rfl) rfl ?_)) | (refine so_is (.binOp .lss 3 _ _ _) ?_; refine so_q (qt_lss rfl rfl) rfl ?_) | (refine so_is (.indexAddr 25 _ _) ?_; (refine so_q (qt_idxI rfl rfl (by kernel_rfl) (by (omega)) (by (omega))) rfl ?_)) | (refine so_is (.load 3 _) ?_; (refine so_q (qt_load_pt rfl (by kernel_rfl) rfl) rfl ?_)) | (refine so_is (.binOp .eql 3 _ _ _) ?_; refine so_q (qt_eql rfl rfl) rfl ?_) | (refine so_is (.binOp .add 3 _ _ _) ?_; refine so_q (qt_addI rfl rfl (by (omega))) rfl ?_) | refine so_nil ?_ | refine sk_seq ?_ | refine sk_block ?_ | refine sk_blk ?_ | refine sk_exit rfl ?_ | refine sk_skip ?_ | refine sk_region ?_ | refine sk_if rfl (fun hc => ?_) (fun hc => ?_))
    all_goals first | (exfalso; omega) | skip
    have : k = l.length := by omega
    subst this
    rw [List.take_length] at ht
    (apply sk_ret; apply ret_eq; (· apply RetOK.p; (· (apply GvA.cons; (· exact .tmp _); (· exact GvP.c (.lit _))); exact GvA.nil); (· (decide))))
    rw [ixI_none ht]
theorem containsI_p (l : List Int) (x : Int) : PC Tryz.prog 37 [.c (eI l), .c (dI x)] (.p (.c (dB (l.contains x)))) := by
  have h := (ixI_has x l).2
  refine pc_intro Tryz.func37 rfl rfl rfl (by kernel_rfl) rfl rfl ?_; intro _
  repeat' (first | (refine so_is (.assign _) ?_; (refine so_q (qt_asC rfl) rfl ?_)) | (refine so_is (.move _) ?_; (refine so_q (qt_mvC rfl) rfl ?_)) | (refine so_is (.binOp .geq 3 _ _ _) ?_; refine so_q (qt_geq rfl rfl) rfl ?_) | (refine so_is (.call ⟨.value (.func 55), _, _⟩) ?_; (apply so_call0 (fid := 55); (· (repeat (first | exact SeA.nil | apply SeA.cons (.c (.d _))))); (· exact slIndex_p _ _); (· rfl))) | refine so_nil ?_ | refine sk_seq ?_ | refine sk_region ?_)
  (apply sk_ret; apply ret_eq; (· apply RetOK.p; (· (apply GvA.cons; (· exact .tmp _); (· exact GvP.c (.lit _))); exact GvA.nil); (· (decide))))
  rw [← h]

end Go.Proofs.YtdihapcicpkdkaaGreatDoor

namespace Go.Proofs.YtdihapcicpkdkaaGreatDoor
open Go.RowKit
set_option linter.unusedSectionVars false
variable [Glb]
variable [GTab Tryz.prog tabNm]
set_option maxRecDepth 10000
set_option maxHeartbeats 4000000
theorem IsValidLog_p (d p : Tx) (c : Int) (hb : (d.length : Int) + p.length ≤ 1000000000) : PC Tryz.prog 16 [.g [dT d, dT p, dI c]] (.p (.c (dB (validB d p c)))) := by
  refine pc_intro Tryz.func16 rfl rfl rfl (by kernel_rfl) rfl rfl ?_; rintro ⟨hf, -⟩
  have hf0 := FitT (hf (dT d) (by simp))
  have hf1 := FitT (hf (dT p) (by simp))
  clear hf
  by_cases h : (d.length : Int) + p.length ≤ 30000
  · have h1 := recs_len (d ++ p)
    have h2 : ((d ++ p).length : Int) = d.length + p.length := by simp
    have h3 := endsL_len (d ++ p) (numR (d ++ p))
    repeat' (first | (refine so_is (.box 40 _) ?_; refine so_box rfl rfl ?_) | (refine so_is (.assign _) ?_; (refine so_q (qt_asC rfl) rfl ?_)) | (refine so_is (.fieldAddr 40 _ 0) ?_; (refine so_q (qt_fld_lp (off := 0) rfl (by kernel_rfl)) rfl ?_)) | (refine so_is (.load 9 _) ?_; (refine so_q (qt_load_box rfl rfl (by kernel_rfl) rfl) rfl ?_)) | (refine so_is (.call ⟨.builtin .len, _, #[9]⟩) ?_; (refine so_q (qt_lenT rfl (by kernel_rfl)) rfl ?_)) | (refine so_is (.fieldAddr 40 _ 1) ?_; (refine so_q (qt_fld_lp (off := 1) rfl (by kernel_rfl)) rfl ?_)) | (refine so_is (.binOp .add 3 _ _ _) ?_; refine so_q (qt_addI rfl rfl (by (omega))) rfl ?_) | (refine so_is (.binOp .gtr 3 _ _ _) ?_; refine so_q (qt_gtr rfl rfl) rfl ?_) | (refine so_is (.binOp .add 9 _ _ _) ?_; (refine so_q (qt_addT rfl rfl (by (omega))) rfl ?_)) | (refine so_is (.move _) ?_; (first | refine so_q (qt_mvC rfl) rfl ?_ | refine so_q (qt_mvT rfl) rfl ?_)) | (refine so_is (.extract _ _) ?_; refine so_q (qt_extract rfl rfl) rfl ?_) | (refine so_is (.call ⟨.builtin .len, _, #[62]⟩) ?_; (refine so_q (qt_len_d rfl (by kernel_rfl)) rfl ?_)) | (refine so_is (.indexAddr 25 _ _) ?_; (refine so_q (qt_idxI rfl rfl (by kernel_rfl) (by (omega)) (by (omega))) rfl ?_)) | (refine so_is (.load 3 _) ?_; (first | refine so_q (qt_load_box rfl rfl (by kernel_rfl) rfl) rfl ?_ | refine so_q (qt_load_pt rfl (by kernel_rfl) rfl) rfl ?_)) | (refine so_is (.binOp .eql 3 _ _ _) ?_; refine so_q (qt_eql rfl rfl) rfl ?_) | (refine so_is (.fieldAddr 40 _ 2) ?_; (refine so_q (qt_fld_lp (off := 2) rfl (by kernel_rfl)) rfl ?_)) | (refine so_is (.pick _ _ _) ?_; (refine so_q (qt_pkC rfl rfl) rfl ?_)) | (refine so_is (.call ⟨.value (.func 36), _, _⟩) ?_; (apply so_call0 (fid := 36); (· (repeat (first | exact SeA.nil | apply SeA.cons (.c (.d _))))); (· exact readRecords_p _ (by simp; omega)); (· rfl))) | (refine so_is (.call ⟨.value (.func 37), _, _⟩) ?_; (apply so_call0 (fid := 37); (· (repeat (first | exact SeA.nil | apply SeA.cons (.c (.d _))))); (· exact containsI_p _ _); (· rfl))) | refine so_nil ?_ | refine so_g_no rfl rfl rfl rfl ?_ | refine so_g_yes rfl rfl rfl rfl ?_ | refine so_g_if rfl rfl (fun hg => ?_) (fun hg => ?_) | refine sk_seq ?_ | refine sk_skip ?_ | refine sk_region ?_ | refine sk_drawQ 4 (fun _ => false) (.step 0 true (.step 1 true (.step 2 true (.step 3 true (.step 4 true (.step 5 true (.step 6 true (.step 7 true (.step 8 true (.step 9 true (.step 10 true (.step 11 true (.step 12 true (.step 13 true (.step 14 true (.step 15 true (.step 16 true (.step 17 true (.step 18 true (.step 19 true (.step 20 true (.step 21 true (.step 22 true (.step 23 true (.step 24 true (.step 25 false (.step 26 true (.step 27 true .nil)))))))))))))))))))))))))))) [(0, 268435455, 268435455, true), (0, 268435455, 268435455, true), (2, 268435453, 268435455, true), (5, 268435450, 268435455, true), (8, 268435447, 268435455, false), (0, 268435455, 268435455, true), (32, 268435423, 268435455, false), (64, 268435391, 268435455, true), (0, 268435455, 268435455, true), (256, 268435199, 268435455, false), (512, 268434943, 268435455, true), (1152, 268434303, 268435455, true), (2064, 268433391, 268435455, true), (4096, 268431359, 268435455, true), (8192, 268427263, 268435455, true), (24576, 268410879, 268435455, false), (8192, 268427263, 268435455, true), (73728, 268361727, 268435455, true), (172032, 268263423, 268435455, true), (270336, 268165119, 268435455, true), (532480, 267911167, 268435455, true), (1048576, 267386879, 268435455, true), (1048576, 267386879, 268435455, true), (5242880, 263192575, 268435455, false), (9437184, 258998271, 268435455, true), (19922944, 248512511, 268435455, false), (34603008, 233832447, 268435455, true), (134217727, 201326591, 268435455, true)] (by kernel_rfl) (by kernel_rfl) ?_ | refine sk_if rfl (fun hc => ?_) (fun hc => ?_))
    all_goals first | (exfalso; omega) | skip
    all_goals (apply sk_ret; apply ret_eq; (· apply RetOK.p; (· (apply GvA.cons; (· exact .tmp _); (· exact GvP.c (.lit _))); exact GvA.nil); (· (decide))))
    all_goals refine dB_eq (Bool.eq_iff_iff.2 ?_)
    all_goals rw [valid_iff h]
    all_goals try rw [endsL_at] at *
    · have hv := part_valid (x := d) (y := p) (by omega)
      rw [endsL_has, hv, decide_eq_true_eq]; omega
    · simp only [Bool.false_eq_true, false_iff]; omega
    · simp only [Bool.false_eq_true, false_iff]; omega
  · repeat' (first | (refine so_is (.box 40 _) ?_; refine so_box rfl rfl ?_) | (refine so_is (.assign _) ?_; (refine so_q (qt_asC rfl) rfl ?_)) | (refine so_is (.fieldAddr 40 _ 0) ?_; (refine so_q (qt_fld_lp (off := 0) rfl (by kernel_rfl)) rfl ?_)) | (refine so_is (.load 9 _) ?_; (refine so_q (qt_load_box rfl rfl (by kernel_rfl) rfl) rfl ?_)) | (refine so_is (.call ⟨.builtin .len, _, #[9]⟩) ?_; (refine so_q (qt_lenT rfl (by kernel_rfl)) rfl ?_)) | (refine so_is (.fieldAddr 40 _ 1) ?_; (refine so_q (qt_fld_lp (off := 1) rfl (by kernel_rfl)) rfl ?_)) | (refine so_is (.binOp .add 3 _ _ _) ?_; refine so_q (qt_addI rfl rfl (by (omega))) rfl ?_) | (refine so_is (.binOp .gtr 3 _ _ _) ?_; refine so_q (qt_gtr rfl rfl) rfl ?_) | (refine so_is (.binOp .add 9 _ _ _) ?_; (refine so_q (qt_addT rfl rfl (by (omega))) rfl ?_)) | (refine so_is (.move _) ?_; (first | refine so_q (qt_mvC rfl) rfl ?_ | refine so_q (qt_mvT rfl) rfl ?_)) | (refine so_is (.extract _ _) ?_; refine so_q (qt_extract rfl rfl) rfl ?_) | (refine so_is (.call ⟨.builtin .len, _, #[62]⟩) ?_; (refine so_q (qt_len_d rfl (by kernel_rfl)) rfl ?_)) | (refine so_is (.indexAddr 25 _ _) ?_; (refine so_q (qt_idxI rfl rfl (by kernel_rfl) (by (omega)) (by (omega))) rfl ?_)) | (refine so_is (.load 3 _) ?_; (first | refine so_q (qt_load_box rfl rfl (by kernel_rfl) rfl) rfl ?_ | refine so_q (qt_load_pt rfl (by kernel_rfl) rfl) rfl ?_)) | (refine so_is (.binOp .eql 3 _ _ _) ?_; refine so_q (qt_eql rfl rfl) rfl ?_) | (refine so_is (.fieldAddr 40 _ 2) ?_; (refine so_q (qt_fld_lp (off := 2) rfl (by kernel_rfl)) rfl ?_)) | (refine so_is (.pick _ _ _) ?_; (refine so_q (qt_pkC rfl rfl) rfl ?_)) | (refine so_is (.call ⟨.value (.func 36), _, _⟩) ?_; (apply so_call0 (fid := 36); (· (repeat (first | exact SeA.nil | apply SeA.cons (.c (.d _))))); (· exact readRecords_p _ (by simp; omega)); (· rfl))) | refine so_nil ?_ | refine so_g_no rfl rfl rfl rfl ?_ | refine so_g_yes rfl rfl rfl rfl ?_ | refine so_g_if rfl rfl (fun hg => ?_) (fun hg => ?_) | refine sk_seq ?_ | refine sk_skip ?_ | refine sk_region ?_ | refine sk_drawQ 4 (fun _ => false) (.step 0 true (.step 1 true (.step 2 true (.step 3 true (.step 4 true (.step 5 true (.step 6 true (.step 7 true (.step 8 true (.step 9 true (.step 10 true (.step 11 true (.step 12 true (.step 13 true (.step 14 true (.step 15 true (.step 16 true (.step 17 true (.step 18 true (.step 19 true (.step 20 true (.step 21 true (.step 22 true (.step 23 true (.step 24 true (.step 25 false (.step 26 true (.step 27 true .nil)))))))))))))))))))))))))))) [(0, 268435455, 268435455, true), (0, 268435455, 268435455, true), (2, 268435453, 268435455, true), (5, 268435450, 268435455, true), (8, 268435447, 268435455, false), (0, 268435455, 268435455, true), (32, 268435423, 268435455, false), (64, 268435391, 268435455, true), (0, 268435455, 268435455, true), (256, 268435199, 268435455, false), (512, 268434943, 268435455, true), (1152, 268434303, 268435455, true), (2064, 268433391, 268435455, true), (4096, 268431359, 268435455, true), (8192, 268427263, 268435455, true), (24576, 268410879, 268435455, false), (8192, 268427263, 268435455, true), (73728, 268361727, 268435455, true), (172032, 268263423, 268435455, true), (270336, 268165119, 268435455, true), (532480, 267911167, 268435455, true), (1048576, 267386879, 268435455, true), (1048576, 267386879, 268435455, true), (5242880, 263192575, 268435455, false), (9437184, 258998271, 268435455, true), (19922944, 248512511, 268435455, false), (34603008, 233832447, 268435455, true), (134217727, 201326591, 268435455, true)] (by kernel_rfl) (by kernel_rfl) ?_ | refine sk_if rfl (fun hc => ?_) (fun hc => ?_))
    all_goals first | (exfalso; omega) | skip
    all_goals (apply sk_ret; apply ret_eq; (· apply RetOK.p; (· (apply GvA.cons; (· exact .tmp _); (· exact GvP.c (.lit _))); exact GvA.nil); (· (decide))))
    all_goals rw [valid_long h]

end Go.Proofs.YtdihapcicpkdkaaGreatDoor

namespace Go.Proofs.YtdihapcicpkdkaaGreatDoor
open Go.RowKit
set_option linter.unusedSectionVars false
variable [Glb]
variable [GTab Tryz.prog tabNm]
set_option maxRecDepth 10000
set_option maxHeartbeats 4000000
theorem IsValidConsole_p (bx by_ bwh : Int) (bll : List (List Int)) (pl : List Int) (ev : Int) (cc : List (List Int)) (ss nu : List Int) (co : Int) (d p : Tx) (n : Int) (hb : (d.length : Int) + p.length ≤ 1000000000) :
    PC Tryz.prog 7 [.g [dI bx, dI by_, dI bwh, eII bll, eI pl, dI ev, eII cc, eI ss, eI nu, dI co, dT d, dT p, dI n]] (.p (.c (dB (hallB bx by_ bwh bll pl ev cc ss nu co && validB d p n)))) := by
  refine pc_intro Tryz.func7 rfl rfl rfl (by kernel_rfl) rfl rfl ?_; intro _
  repeat' (first | (refine so_is (.box 42 _) ?_; refine so_box rfl rfl ?_) | (refine so_is (.assign _) ?_; (refine so_q (qt_asC rfl) rfl ?_)) | (refine so_is (.fieldAddr 42 _ 0) ?_; (refine so_q (qt_fld_lp (off := 0) rfl (by kernel_rfl)) rfl ?_)) | (refine so_is (.load 39 _) ?_; (refine so_q (qt_load_boxs rfl rfl (by kernel_rfl : tAgg _ 39 10 = true) rfl) rfl ?_)) | (refine so_is (.move _) ?_; (refine so_q (qt_mvC rfl) rfl ?_)) | (refine so_is (.fieldAddr 42 _ 1) ?_; (refine so_q (qt_fld_lp (off := 10) rfl (by kernel_rfl)) rfl ?_)) | (refine so_is (.load 40 _) ?_; (refine so_q (qt_load_boxs rfl rfl (by kernel_rfl : tAgg _ 40 3 = true) rfl) rfl ?_)) | (refine so_is (.pick _ _ _) ?_; (refine so_q (qt_pkC rfl rfl) rfl ?_)) | (refine so_is (.call ⟨.value (.func 15), _, _⟩) ?_; (apply so_call0 (fid := 15); (· (repeat (first | exact SeA.nil | (apply SeA.cons; (· (apply SeP.g; (repeat (first | exact SeL.nil | apply SeL.cons (.d _))))))))); (· exact IsHall_p _ _ _ _ _ _ _ _ _ _); (· rfl))) | (refine so_is (.call ⟨.value (.func 16), _, _⟩) ?_; (apply so_call0 (fid := 16); (· (repeat (first | exact SeA.nil | (apply SeA.cons; (· (apply SeP.g; (repeat (first | exact SeL.nil | apply SeL.cons (.d _))))))))); (· exact IsValidLog_p _ _ _ (by omega)); (· rfl))) | refine so_nil ?_ | refine so_g_no rfl rfl rfl rfl ?_ | refine so_g_yes rfl rfl rfl rfl ?_ | refine so_g_b rfl rfl (fun hg => ?_) (fun hg => ?_) | refine sk_seq ?_ | refine sk_region ?_)
  all_goals (apply sk_ret; apply ret_eq; (· apply RetOK.p; (· (apply GvA.cons; (· exact .tmp _); (· exact GvP.c (.lit _))); exact GvA.nil); (· (decide))))
  all_goals simp_all

end Go.Proofs.YtdihapcicpkdkaaGreatDoor

namespace Go.Proofs.YtdihapcicpkdkaaGreatDoor
open Go.RowKit
set_option linter.unusedSectionVars false
variable [Glb]
set_option maxRecDepth 10000
set_option maxHeartbeats 4000000
theorem l1Rising_p (l : List Int) (lo hi : Int) : PC Tryz.prog 57 [.c (eI l), .c (dI lo), .c (dI hi)] (.p (.c (dB (riseB l lo hi)))) := by
  refine pc_intro Tryz.func57 rfl rfl rfl (by kernel_rfl) rfl rfl ?_; rintro ⟨hl, -⟩
  have hl := hl.len
  repeat' (first | (refine so_is (.assign _) ?_; (refine so_q (qt_asC rfl) rfl ?_)) | refine so_nil ?_ | refine sk_seq ?_ | refine sk_block ?_ | refine sk_region ?_)
  apply sk_packC [0, 1, 2, 7] [] rfl; (· (repeat (first | exact Pf.nil | apply Pf.cons (.c rfl (.d rfl))))); (· (repeat (exact Pb.nil)))
  refine sk_loopL [0, 1, 2] [] (fun k => [(7, iN k)]) (fun _ => []) (fun k => k ≤ l.length ∧ (List.range k).all (riseAt l lo hi) = true) (fun k => l.length - k) (0) ?_ (by (repeat (first | exact trivial | refine ⟨(by (rfl)), ?_⟩))) (by (repeat (exact trivial))) ?_
  · simp
  rintro k ⟨hk, ha⟩
  repeat' (first | (refine so_is (.assign _) ?_; (refine so_q (qt_asC rfl) rfl ?_)) | (refine so_is (.move _) ?_; (refine so_q (qt_mvC rfl) rfl ?_)) | (refine so_is (.call ⟨.builtin .len, _, #[25]⟩) ?_; (refine so_q (qt_len_d rfl (by kernel_rfl)) rfl ?_)) | (refine so_is (.binOp .lss 3 _ _ _) ?_; refine so_q (qt_lss rfl rfl) rfl ?_) | (refine so_is (.indexAddr 25 _ _) ?_; (refine so_q (qt_idxI rfl rfl (by kernel_rfl) (by (omega)) (by (omega))) rfl ?_)) | (refine so_is (.load 3 _) ?_; (refine so_q (qt_load_pt rfl (by kernel_rfl) rfl) rfl ?_)) | (refine so_is (.unOp .not 4 _) ?_; refine so_q (qt_not rfl) rfl ?_) | (refine so_is (.binOp .gtr 3 _ _ _) ?_; refine so_q (qt_gtr rfl rfl) rfl ?_) | (refine so_is (.binOp .sub 3 _ _ _) ?_; refine so_q (qt_subI rfl rfl (by (omega))) rfl ?_) | (refine so_is (.binOp .geq 3 _ _ _) ?_; refine so_q (qt_geq rfl rfl) rfl ?_) | (refine so_is (.pick _ _ _) ?_; (refine so_q (qt_pkC rfl rfl) rfl ?_)) | (refine so_is (.binOp .add 3 _ _ _) ?_; refine so_q (qt_addI rfl rfl (by (omega))) rfl ?_) | (refine so_is (.call ⟨.value (.func 24), _, _⟩) ?_; (apply so_call0 (fid := 24); (· (repeat (first | exact SeA.nil | apply SeA.cons (.c (.d _))))); (· exact l1In_p _ _ _); (· rfl))) | refine so_nil ?_ | refine so_g_un rfl rfl rfl rfl rfl ?_ | refine so_g_no rfl rfl rfl rfl ?_ | refine so_g_yes rfl rfl rfl rfl ?_ | refine so_g_if rfl rfl (fun hg => ?_) (fun hg => ?_) | refine so_g_b rfl rfl (fun hg => ?_) (fun hg => ?_) | refine sk_seq ?_ | refine sk_block ?_ | refine sk_blk ?_ | refine sk_exit rfl ?_ | refine sk_skip ?_ | refine sk_region ?_ | refine sk_drawQ 4 (fun _ => false) (.step 0 true (.step 1 true (.step 2 true (.step 3 true (.step 4 true (.step 5 true (.step 6 false (.step 7 true (.step 8 true (.step 9 true (.step 10 true (.step 11 true (.step 12 true (.step 13 true (.step 14 true (.step 15 true (.step 16 true (.step 17 true (.step 18 true (.step 19 true (.step 20 true (.step 21 true (.step 22 true (.step 23 true .nil)))))))))))))))))))))))) [(0, 16777215, 16777215, true), (0, 16777215, 16777215, true), (3, 16777212, 16777215, true), (4, 16777211, 16777215, false), (0, 16777215, 16777215, true), (0, 16777215, 16777215, true), (56, 16777159, 16777215, false), (64, 16777151, 16777215, true), (192, 16777087, 16777215, true), (256, 16776959, 16777215, true), (768, 16776447, 16777215, true), (1280, 16775935, 16777215, true), (2048, 16775167, 16777215, true), (2048, 16775167, 16777215, true), (10240, 16766975, 16777215, true), (22528, 16754687, 16777215, true), (34816, 16742399, 16777215, false), (2048, 16775167, 16777215, true), (2048, 16775167, 16777215, true), (395264, 16381951, 16777215, true), (526336, 16250879, 16777215, false), (1116160, 15661055, 16777215, true), (2099456, 14677759, 16777215, true), (4194560, 12582655, 16777215, true)] (by kernel_rfl) (by kernel_rfl) ?_ | refine sk_true rfl ?_ | refine sk_false rfl ?_ | refine sk_if rfl (fun hc => ?_) (fun hc => ?_))
  all_goals first | (exfalso; omega) | skip
  · (apply sk_ret; apply ret_eq; (· apply RetOK.p; (· (apply GvA.cons; (· exact .tmp _); (· exact GvP.c (.lit _))); exact GvA.nil); (· (decide))))
    rw [rise_no (k := k) (by assumption) (.inl (by simp_all))]
  · (apply sk_ret; apply ret_eq; (· apply RetOK.p; (· (apply GvA.cons; (· exact .tmp _); (· exact GvP.c (.lit _))); exact GvA.nil); (· (decide))))
    rw [rise_no (k := k) (by omega) (.inr ⟨by assumption, by assumption⟩)]
  · refine sk_back ?_; refine ⟨k + 1, ?_, ?_, le_at rfl (by (repeat (first | exact trivial | refine ⟨(by (rfl)), ?_⟩))) (by (repeat (first | exact trivial | refine ⟨rfl, ?_⟩))) (by (repeat (exact trivial))) (by (repeat (exact trivial)))⟩
    · exact ⟨by omega, rise_yes ha (by simp_all) (.inr (by assumption))⟩
    · omega
  · refine sk_back ?_; refine ⟨k + 1, ?_, ?_, le_at rfl (by (repeat (first | exact trivial | refine ⟨(by (rfl)), ?_⟩))) (by (repeat (first | exact trivial | refine ⟨rfl, ?_⟩))) (by (repeat (exact trivial))) (by (repeat (exact trivial)))⟩
    · exact ⟨by omega, rise_yes ha (by simp_all) (.inl (by assumption))⟩
    · omega
  · have : k = l.length := by omega
    subst this
    (apply sk_ret; apply ret_eq; (· apply RetOK.p; (· (apply GvA.cons; (· exact .tmp _); (· exact GvP.c (.lit _))); exact GvA.nil); (· (decide))))
    unfold riseB; rw [ha]

end Go.Proofs.YtdihapcicpkdkaaGreatDoor

namespace Go.Proofs.YtdihapcicpkdkaaGreatDoor
open Go.RowKit
set_option linter.unusedSectionVars false
variable [Glb]
set_option maxRecDepth 10000
set_option maxHeartbeats 4000000
theorem l2Bits_p (l : List Int) (n : Int) : PC Tryz.prog 26 [.c (eI l), .c (dI n)] (.p (.c (dB (bitsB l n)))) := by
  refine pc_intro Tryz.func26 rfl rfl rfl (by kernel_rfl) rfl rfl ?_; rintro ⟨hl, -⟩
  have hl := hl.len
  repeat' (first | (refine so_is (.assign _) ?_; (refine so_q (qt_asC rfl) rfl ?_)) | refine so_nil ?_ | refine sk_seq ?_ | refine sk_block ?_ | refine sk_region ?_)
  apply sk_packC [0, 1, 5] [] rfl; (· (repeat (first | exact Pf.nil | apply Pf.cons (.c rfl (.d rfl))))); (· (repeat (exact Pb.nil)))
  refine sk_loopL [0, 1] [] (fun k => [(5, iN k)]) (fun _ => []) (fun k => k ≤ l.length ∧ (l.take k).all (fun n => inB n 0 1) = true) (fun k => l.length - k) (0) ?_ (by (repeat (first | exact trivial | refine ⟨(by (rfl)), ?_⟩))) (by (repeat (exact trivial))) ?_
  · simp
  rintro k ⟨hk, ha⟩
  repeat' (first | (refine so_is (.assign _) ?_; (refine so_q (qt_asC rfl) rfl ?_)) | (refine so_is (.move _) ?_; (refine so_q (qt_mvC rfl) rfl ?_)) | (refine so_is (.call ⟨.builtin .len, _, #[25]⟩) ?_; (refine so_q (qt_len_d rfl (by kernel_rfl)) rfl ?_)) | (refine so_is (.binOp .lss 3 _ _ _) ?_; refine so_q (qt_lss rfl rfl) rfl ?_) | (refine so_is (.indexAddr 25 _ _) ?_; (refine so_q (qt_idxI rfl rfl (by kernel_rfl) (by (omega)) (by (omega))) rfl ?_)) | (refine so_is (.load 3 _) ?_; (refine so_q (qt_load_pt rfl (by kernel_rfl) rfl) rfl ?_)) | (refine so_is (.unOp .not 4 _) ?_; refine so_q (qt_not rfl) rfl ?_) | (refine so_is (.binOp .add 3 _ _ _) ?_; refine so_q (qt_addI rfl rfl (by (omega))) rfl ?_) | (refine so_is (.binOp .eql 3 _ _ _) ?_; refine so_q (qt_eql rfl rfl) rfl ?_) | (refine so_is (.call ⟨.value (.func 24), _, _⟩) ?_; (apply so_call0 (fid := 24); (· (repeat (first | exact SeA.nil | apply SeA.cons (.c (.d _))))); (· exact l1In_p _ _ _); (· rfl))) | refine so_nil ?_ | refine sk_seq ?_ | refine sk_block ?_ | refine sk_blk ?_ | refine sk_exit rfl ?_ | refine sk_skip ?_ | refine sk_region ?_ | refine sk_if rfl (fun hc => ?_) (fun hc => ?_) | refine sk_not rfl (fun hc => ?_) (fun hc => ?_))
  · rename_i hk'
    rw [atZ_nat (by omega)] at hc
    (apply sk_ret; apply ret_eq; (· apply RetOK.p; (· (apply GvA.cons; (· exact .tmp _); (· exact GvP.c (.lit _))); exact GvA.nil); (· (decide))))
    rw [bitsB, allB, all_f (by omega) hc]; simp
  · rename_i hk'
    rw [atZ_nat (by omega)] at hc
    refine sk_back ?_; refine ⟨k + 1, ?_, ?_, le_at rfl (by (repeat (first | exact trivial | refine ⟨(by (rfl)), ?_⟩))) (by (repeat (first | exact trivial | refine ⟨rfl, ?_⟩))) (by (repeat (exact trivial))) (by (repeat (exact trivial)))⟩
    · exact ⟨by omega, by rw [take_succ_all _ _ _ (by omega), ha, hc]; rfl⟩
    · omega
  · (apply sk_ret; apply ret_eq; (· apply RetOK.p; (· (apply GvA.cons; (· exact .tmp _); (· exact GvP.c (.lit _))); exact GvA.nil); (· (decide))))
    rw [bitsB, allB, all_t (by omega) ha]; simp

end Go.Proofs.YtdihapcicpkdkaaGreatDoor

namespace Go.Proofs.YtdihapcicpkdkaaGreatDoor
open Go.RowKit
set_option linter.unusedSectionVars false
variable [Glb]
set_option maxRecDepth 10000
set_option maxHeartbeats 4000000
theorem l2Sizes_p (x y : Int) : PC Tryz.prog 42 [.c (dI x), .c (dI y)] (.p (.c (dB (sizeB x y)))) := by
  refine pc_intro Tryz.func42 rfl rfl rfl (by kernel_rfl) rfl rfl ?_; intro _
  repeat' (first | (refine so_is (.assign _) ?_; (refine so_q (qt_asC rfl) rfl ?_)) | (refine so_is (.move _) ?_; (refine so_q (qt_mvC rfl) rfl ?_)) | (refine so_is (.pick _ _ _) ?_; (refine so_q (qt_pkC rfl rfl) rfl ?_)) | (refine so_is (.call ⟨.value (.func 24), _, _⟩) ?_; (apply so_call0 (fid := 24); (· (repeat (first | exact SeA.nil | apply SeA.cons (.c (.d _))))); (· exact l1In_p _ _ _); (· rfl))) | refine so_nil ?_ | refine so_g_no rfl rfl rfl rfl ?_ | refine so_g_yes rfl rfl rfl rfl ?_ | refine so_g_b rfl rfl (fun hg => ?_) (fun hg => ?_) | refine sk_seq ?_ | refine sk_region ?_)
  all_goals (apply sk_ret; apply ret_eq; (· apply RetOK.p; (· (apply GvA.cons; (· exact .tmp _); (· exact GvP.c (.lit _))); exact GvA.nil); (· (decide))))
  all_goals ((simp_all [sizeB]; done))

end Go.Proofs.YtdihapcicpkdkaaGreatDoor

namespace Go.Proofs.YtdihapcicpkdkaaGreatDoor
open Go.RowKit
set_option linter.unusedSectionVars false
variable [Glb]
set_option maxRecDepth 10000
set_option maxHeartbeats 4000000
theorem l2Four_p (l : List Int) (n : Int) : PC Tryz.prog 43 [.c (eI l), .c (dI n)] (.p (.c (dB (row4B n l)))) := by
  refine pc_intro Tryz.func43 rfl rfl rfl (by kernel_rfl) rfl rfl ?_; rintro ⟨hl, -⟩
  have hl := hl.len
  repeat' (first | (refine so_is (.assign _) ?_; (refine so_q (qt_asC rfl) rfl ?_)) | refine so_nil ?_ | refine sk_seq ?_ | refine sk_block ?_ | refine sk_region ?_)
  apply sk_packC [0, 1, 5, 6] [] rfl; (· (repeat (first | exact Pf.nil | apply Pf.cons (.c rfl (.d rfl))))); (· (repeat (exact Pb.nil)))
  refine sk_loopL [0, 1] [] (fun k => [(6, iN k), (5, iZ (sum64 (l.take k)))]) (fun _ => []) (fun k => k ≤ l.length ∧ k ≤ 5 ∧ (l.take k).all (fun m => inB m 0 n) = true) (fun k => l.length - k) (0) ?_ (by (repeat (first | exact trivial | refine ⟨(by (rfl)), ?_⟩))) (by (repeat (exact trivial))) ?_
  · simp
  rintro k ⟨hk, hk9, ha⟩
  repeat' (first | (refine so_is (.assign _) ?_; (refine so_q (qt_asC rfl) rfl ?_)) | (refine so_is (.move _) ?_; (refine so_q (qt_mvC rfl) rfl ?_)) | (refine so_is (.call ⟨.builtin .len, _, #[25]⟩) ?_; (refine so_q (qt_len_d rfl (by kernel_rfl)) rfl ?_)) | (refine so_is (.binOp .lss 3 _ _ _) ?_; refine so_q (qt_lss rfl rfl) rfl ?_) | (refine so_is (.pick _ _ _) ?_; (refine so_q (qt_pkC rfl rfl) rfl ?_)) | (refine so_is (.indexAddr 25 _ _) ?_; (refine so_q (qt_idxI rfl rfl (by kernel_rfl) (by (omega)) (by (omega))) rfl ?_)) | (refine so_is (.load 3 _) ?_; (refine so_q (qt_load_pt rfl (by kernel_rfl) rfl) rfl ?_)) | (refine so_is (.unOp .not 4 _) ?_; refine so_q (qt_not rfl) rfl ?_) | (refine so_is (.binOp .add 3 _ _ _) ?_; (first | refine so_q (qt_addI rfl rfl (by (omega))) rfl ?_ | refine so_q (qt_add rfl rfl) rfl ?_)) | (refine so_is (.binOp .eql 3 _ _ _) ?_; refine so_q (qt_eql rfl rfl) rfl ?_) | (refine so_is (.call ⟨.value (.func 24), _, _⟩) ?_; (apply so_call0 (fid := 24); (· (repeat (first | exact SeA.nil | apply SeA.cons (.c (.d _))))); (· exact l1In_p _ _ _); (· rfl))) | refine so_nil ?_ | refine so_g_no rfl rfl rfl rfl ?_ | refine so_g_yes rfl rfl rfl rfl ?_ | refine so_g_if rfl rfl (fun hg => ?_) (fun hg => ?_) | refine sk_seq ?_ | refine sk_block ?_ | refine sk_blk ?_ | refine sk_exit rfl ?_ | refine sk_skip ?_ | refine sk_region ?_ | refine sk_false rfl ?_ | refine sk_if rfl (fun hc => ?_) (fun hc => ?_) | refine sk_not rfl (fun hc => ?_) (fun hc => ?_))
  · rename_i hk'
    have hk2 : k < l.length := by omega
    rw [atZ_nat hk2] at hc
    (apply sk_ret; apply ret_eq; (· apply RetOK.p; (· (apply GvA.cons; (· exact .tmp _); (· exact GvP.c (.lit _))); exact GvA.nil); (· (decide))))
    rw [row4B, allB, all_f hk2 hc]; simp
  · rename_i hk'
    have hk2 : k < l.length := by omega
    rw [atZ_nat hk2] at hc
    refine sk_back ?_; refine ⟨k + 1, ?_, ?_, le_at rfl (by (repeat (first | exact trivial | refine ⟨(by (first | rfl | (refine int_eq rfl ?_; ((simp  [sum64_snoc hk2, atZ_nat hk2]; done))))), ?_⟩))) (by (repeat (first | exact trivial | refine ⟨rfl, ?_⟩))) (by (repeat (exact trivial))) (by (repeat (exact trivial)))⟩
    · exact ⟨by omega, by omega, by rw [take_succ_all _ _ _ hk2, ha, hc]; rfl⟩
    · omega
  all_goals (apply sk_ret; apply ret_eq; (· apply RetOK.p; (· (apply GvA.cons; (· exact .tmp _); (· exact GvP.c (.lit _))); exact GvA.nil); (· (decide))))
  all_goals simp only [row4B]
  · have h8 : l.length = 4 := by omega
    rw [List.take_of_length_le (by omega)] at *
    simp [h8, allB, ha]
  · have h8 : ¬ l.length = 4 := by omega
    simp [h8]
  · have h8 : l.length = 4 := by omega
    have hk8 : k = l.length := by omega
    rw [List.take_of_length_le (by omega)] at *
    simp [h8, allB, ha]
  · have h8 : ¬ l.length = 4 := by omega
    simp [h8]
theorem l2Box_p (x y n : Int) (ll : List (List Int)) : PC Tryz.prog 22 [.g [dI x, dI y, dI n, eII ll]] (.p (.c (dB (boxB x y n ll)))) := by
  refine pc_intro Tryz.func22 rfl rfl rfl (by kernel_rfl) rfl rfl ?_; rintro ⟨hl, -⟩
  have hl := (hl _ (List.mem_cons_of_mem _ (List.mem_cons_of_mem _ (List.mem_cons_of_mem _ (List.mem_cons_self ..))))).len
  repeat' (first | (refine so_is (.box 36 _) ?_; refine so_box rfl rfl ?_) | (refine so_is (.assign _) ?_; (refine so_q (qt_asC rfl) rfl ?_)) | (refine so_is (.fieldAddr 36 _ 0) ?_; (refine so_q (qt_fld_lp (off := 0) rfl (by kernel_rfl)) rfl ?_)) | (refine so_is (.load 3 _) ?_; (refine so_q (qt_load_box rfl rfl (by kernel_rfl) rfl) rfl ?_)) | (refine so_is (.fieldAddr 36 _ 1) ?_; (refine so_q (qt_fld_lp (off := 1) rfl (by kernel_rfl)) rfl ?_)) | (refine so_is (.unOp .not 4 _) ?_; refine so_q (qt_not rfl) rfl ?_) | (refine so_is (.move _) ?_; (refine so_q (qt_mvC rfl) rfl ?_)) | (refine so_is (.fieldAddr 36 _ 2) ?_; (refine so_q (qt_fld_lp (off := 2) rfl (by kernel_rfl)) rfl ?_)) | (refine so_is (.pick _ _ _) ?_; (refine so_q (qt_pkC rfl rfl) rfl ?_)) | (refine so_is (.fieldAddr 36 _ 3) ?_; (refine so_q (qt_fld_lp (off := 3) rfl (by kernel_rfl)) rfl ?_)) | (refine so_is (.load 22 _) ?_; (refine so_q (qt_load_box rfl rfl (by kernel_rfl) rfl) rfl ?_)) | (refine so_is (.call ⟨.builtin .len, _, #[22]⟩) ?_; (refine so_q (qt_len_d rfl (by kernel_rfl)) rfl ?_)) | (refine so_is (.binOp .mul 3 _ _ _) ?_; (refine so_q (qt_mul rfl rfl) rfl ?_)) | (refine so_is (.binOp .neq 3 _ _ _) ?_; refine so_q (qt_neq rfl rfl) rfl ?_) | (refine so_is (.call ⟨.value (.func 42), _, _⟩) ?_; (apply so_call0 (fid := 42); (· (repeat (first | exact SeA.nil | apply SeA.cons (.c (.d _))))); (· exact l2Sizes_p _ _); (· rfl))) | (refine so_is (.call ⟨.value (.func 24), _, _⟩) ?_; (apply so_call0 (fid := 24); (· (repeat (first | exact SeA.nil | apply SeA.cons (.c (.d _))))); (· exact l1In_p _ _ _); (· rfl))) | refine so_nil ?_ | refine so_g_no rfl rfl rfl rfl ?_ | refine so_g_yes rfl rfl rfl rfl ?_ | refine so_g_b rfl rfl (fun hg => ?_) (fun hg => ?_) | refine sk_seq ?_ | refine sk_block ?_ | refine sk_skip ?_ | refine sk_region ?_ | refine sk_true rfl ?_ | refine sk_if rfl (fun hc => ?_) (fun hc => ?_))
  · (apply sk_ret; apply ret_eq; (· apply RetOK.p; (· (apply GvA.cons; (· exact .tmp _); (· exact GvP.c (.lit _))); exact GvA.nil); (· (decide))))
    have h9 : sizeB x y = false := by simpa using hg
    simp [boxB, h9]
  · (apply sk_ret; apply ret_eq; (· apply RetOK.p; (· (apply GvA.cons; (· exact .tmp _); (· exact GvP.c (.lit _))); exact GvA.nil); (· (decide))))
    have h9 : inB n 1 1000 = false := by simpa using hg
    simp [boxB, h9]
  · (apply sk_ret; apply ret_eq; (· apply RetOK.p; (· (apply GvA.cons; (· exact .tmp _); (· exact GvP.c (.lit _))); exact GvA.nil); (· (decide))))
    have hs : sizeB x y = true := by simp_all
    rw [wrap_mul3 hs] at hc
    have h3 : ¬ (ll.length : Int) = x * y := by omega
    simp [boxB, h3]
  have hs : sizeB x y = true := by simp_all
  have hn : inB n 1 1000 = true := by simp_all
  have hlen : (ll.length : Int) = x * y := by rw [← wrap_mul3 hs]; omega
  apply sk_packC [1, 3] [1] rfl; (· (repeat (first | exact Pf.nil | apply Pf.cons (.c rfl (.d rfl)) | apply Pf.cons (.c rfl (.lp rfl))))); (· (repeat (first | exact Pb.nil | (apply Pb.cons; (· apply Nb.box rfl; (repeat (first | exact Ncs.nil rfl | (apply Ncs.cons rfl; (· (exact .d rfl))))))))))
  refine sk_loopL [1] [1] (fun k => [(3, iN k)]) (fun _ => []) (fun k => k ≤ ll.length ∧ (ll.take k).all (row4B n) = true) (fun k => ll.length - k) (0) ?_ (by (repeat (first | exact trivial | refine ⟨(by (rfl)), ?_⟩))) (by (repeat (exact trivial))) ?_
  · simp
  rintro k ⟨hk, ha⟩
  repeat' (first | (refine so_is (.assign _) ?_; (refine so_q (qt_asC rfl) rfl ?_)) | (refine so_is (.load 3 _) ?_; (refine so_q (qt_load_box rfl rfl (by kernel_rfl) rfl) rfl ?_)) | (refine so_is (.unOp .not 4 _) ?_; refine so_q (qt_not rfl) rfl ?_) | (refine so_is (.move _) ?_; (refine so_q (qt_mvC rfl) rfl ?_)) | (refine so_is (.fieldAddr 36 _ 2) ?_; (refine so_q (qt_fld_lp (off := 2) rfl (by kernel_rfl)) rfl ?_)) | (refine so_is (.fieldAddr 36 _ 3) ?_; (refine so_q (qt_fld_lp (off := 3) rfl (by kernel_rfl)) rfl ?_)) | (refine so_is (.load 22 _) ?_; (refine so_q (qt_load_box rfl rfl (by kernel_rfl) rfl) rfl ?_)) | (refine so_is (.call ⟨.builtin .len, _, #[22]⟩) ?_; (refine so_q (qt_len_d rfl (by kernel_rfl)) rfl ?_)) | (refine so_is (.binOp .lss 3 _ _ _) ?_; refine so_q (qt_lss rfl rfl) rfl ?_) | (refine so_is (.indexAddr 22 _ _) ?_; (refine so_q (qt_idxII rfl rfl (by kernel_rfl) (by (omega)) (by (omega))) rfl ?_)) | (refine so_is (.load 25 _) ?_; (refine so_q (qt_load_pt rfl (by kernel_rfl) rfl) rfl ?_)) | (refine so_is (.binOp .add 3 _ _ _) ?_; refine so_q (qt_addI rfl rfl (by (omega))) rfl ?_) | (refine so_is (.call ⟨.value (.func 43), _, _⟩) ?_; (apply so_call0 (fid := 43); (· (repeat (first | exact SeA.nil | apply SeA.cons (.c (.d _))))); (· exact l2Four_p _ _); (· rfl))) | refine so_nil ?_ | refine sk_seq ?_ | refine sk_block ?_ | refine sk_blk ?_ | refine sk_exit rfl ?_ | refine sk_skip ?_ | refine sk_region ?_ | refine sk_drawQ 6 (fun _ => false) (.step 0 true (.step 1 true (.step 2 true (.step 3 true (.step 4 true (.step 5 true (.step 6 true (.step 7 false (.step 8 true .nil))))))))) [(0, 511, 511, true), (1, 510, 511, false), (0, 511, 511, true), (6, 505, 511, true), (8, 503, 511, false), (0, 511, 511, true), (32, 479, 511, false), (80, 431, 511, false), (128, 383, 511, true)] (by kernel_rfl) (by kernel_rfl) ?_ | refine sk_if rfl (fun hc => ?_) (fun hc => ?_) | refine sk_not rfl (fun hc => ?_) (fun hc => ?_))
  · have hk2 : k < ll.length := by omega
    rw [atZ_nat hk2] at hc
    (apply sk_ret; apply ret_eq; (· apply RetOK.p; (· (apply GvA.cons; (· exact .tmp _); (· exact GvP.c (.lit _))); exact GvA.nil); (· (decide))))
    rw [boxB, all_f hk2 hc]; simp
  · have hk2 : k < ll.length := by omega
    rw [atZ_nat hk2] at hc
    refine sk_back ?_; refine ⟨k + 1, ?_, ?_, le_at rfl (by (repeat (first | exact trivial | refine ⟨(by (rfl)), ?_⟩))) (by (repeat (first | exact trivial | refine ⟨rfl, ?_⟩))) (by (repeat (exact trivial))) (by (repeat (first | exact trivial | refine ⟨.inr rfl, ?_⟩)))⟩
    · exact ⟨by omega, by rw [take_succ_all _ _ _ hk2, ha, hc]; rfl⟩
    · omega
  · have : k = ll.length := by omega
    subst this
    rw [List.take_length] at ha
    (apply sk_ret; apply ret_eq; (· apply RetOK.p; (· (apply GvA.cons; (· exact .tmp _); (· exact GvP.c (.lit _))); exact GvA.nil); (· (decide))))
    simp [boxB, hs, hn, hlen, ha]

end Go.Proofs.YtdihapcicpkdkaaGreatDoor

namespace Go.Proofs.YtdihapcicpkdkaaGreatDoor
open Go.RowKit
set_option linter.unusedSectionVars false
variable [Glb]
set_option maxRecDepth 10000
set_option maxHeartbeats 4000000
theorem l7Context_p (n : Int) (l : List Int) : PC Tryz.prog 44 [.c (dI n), .c (eI l)] (.p (.c (dB (ctxB (IntKind.i64.wrap (n - 1) + 1) l)))) := by
  refine pc_intro Tryz.func44 rfl rfl rfl (by kernel_rfl) rfl rfl ?_; intro _
  repeat' (first | (refine so_is (.assign _) ?_; (refine so_q (qt_asC rfl) rfl ?_)) | (refine so_is (.move _) ?_; (refine so_q (qt_mvC rfl) rfl ?_)) | (refine so_is (.call ⟨.builtin .len, _, #[25]⟩) ?_; (refine so_q (qt_len_d rfl (by kernel_rfl)) rfl ?_)) | (refine so_is (.binOp .gtr 3 _ _ _) ?_; refine so_q (qt_gtr rfl rfl) rfl ?_) | (refine so_is (.binOp .sub 3 _ _ _) ?_; (refine so_q (qt_sub rfl rfl) rfl ?_)) | (refine so_is (.pick _ _ _) ?_; (refine so_q (qt_pkC rfl rfl) rfl ?_)) | (refine so_is (.call ⟨.value (.func 57), _, _⟩) ?_; (apply so_call0 (fid := 57); (· (repeat (first | exact SeA.nil | apply SeA.cons (.c (.d _))))); (· exact l1Rising_p _ _ _); (· rfl))) | refine so_nil ?_ | refine so_g_no rfl rfl rfl rfl ?_ | refine so_g_yes rfl rfl rfl rfl ?_ | refine so_g_if rfl rfl (fun hg => ?_) (fun hg => ?_) | refine sk_seq ?_ | refine sk_region ?_)
  · (apply sk_ret; apply ret_eq; (· apply RetOK.p; (· (apply GvA.cons; (· exact .tmp _); (· exact GvP.c (.lit _))); exact GvA.nil); (· (decide))))
    simp [ctxB]; omega
  · (apply sk_ret; apply ret_eq; (· apply RetOK.p; (· (apply GvA.cons; (· exact .tmp _); (· exact GvP.c (.lit _))); exact GvA.nil); (· (decide))))
    simp [ctxB]; omega
theorem l7Good_p (ev : Int) (cc : List (List Int)) (ss : List Int) : PC Tryz.prog 25 [.g [dI ev, eII cc, eI ss]] (.p (.c (dB (sceneB ev cc ss)))) := by
  have hev : inB ev 0 12 = true → IntKind.i64.wrap (ev - 1) + 1 = ev := fun h => by have := inB_iff.1 h; rw [IntWalk.i64_in _ (by omega)]; omega
  refine pc_intro Tryz.func25 rfl rfl rfl (by kernel_rfl) rfl rfl ?_; rintro ⟨hl, -⟩
  have hl := (hl _ (List.mem_cons_of_mem _ (List.mem_cons_self ..))).len
  repeat' (first | (refine so_is (.box 37 _) ?_; refine so_box rfl rfl ?_) | (refine so_is (.assign _) ?_; (refine so_q (qt_asC rfl) rfl ?_)) | refine so_nil ?_ | refine sk_seq ?_ | refine sk_block ?_ | refine sk_region ?_)
  apply sk_packC [1, 3] [1] rfl; (· (repeat (first | exact Pf.nil | apply Pf.cons (.c rfl (.d rfl)) | apply Pf.cons (.c rfl (.lp rfl))))); (· (repeat (first | exact Pb.nil | (apply Pb.cons; (· apply Nb.box rfl; (repeat (first | exact Ncs.nil rfl | (apply Ncs.cons rfl; (· (exact .d rfl))))))))))
  refine sk_loopL [1] [1] (fun k => [(3, iN k)]) (fun _ => []) (fun k => k ≤ cc.length ∧ (cc.take k).all (ctxB (IntKind.i64.wrap (ev - 1) + 1)) = true) (fun k => cc.length - k) (0) ?_ (by (repeat (first | exact trivial | refine ⟨(by (rfl)), ?_⟩))) (by (repeat (exact trivial))) ?_
  · simp
  rintro k ⟨hk, ha⟩
  repeat' (first | (refine so_is (.assign _) ?_; (refine so_q (qt_asC rfl) rfl ?_)) | (refine so_is (.move _) ?_; (refine so_q (qt_mvC rfl) rfl ?_)) | (refine so_is (.fieldAddr 37 _ 1) ?_; (refine so_q (qt_fld_lp (off := 1) rfl (by kernel_rfl)) rfl ?_)) | (refine so_is (.load 22 _) ?_; (refine so_q (qt_load_box rfl rfl (by kernel_rfl) rfl) rfl ?_)) | (refine so_is (.call ⟨.builtin .len, _, #[22]⟩) ?_; (refine so_q (qt_len_d rfl (by kernel_rfl)) rfl ?_)) | (refine so_is (.binOp .lss 3 _ _ _) ?_; refine so_q (qt_lss rfl rfl) rfl ?_) | (refine so_is (.fieldAddr 37 _ 0) ?_; (refine so_q (qt_fld_lp (off := 0) rfl (by kernel_rfl)) rfl ?_)) | (refine so_is (.load 3 _) ?_; (refine so_q (qt_load_box rfl rfl (by kernel_rfl) rfl) rfl ?_)) | (refine so_is (.indexAddr 22 _ _) ?_; (refine so_q (qt_idxII rfl rfl (by kernel_rfl) (by (omega)) (by (omega))) rfl ?_)) | (refine so_is (.load 25 _) ?_; (first | refine so_q (qt_load_box rfl rfl (by kernel_rfl) rfl) rfl ?_ | refine so_q (qt_load_pt rfl (by kernel_rfl) rfl) rfl ?_)) | (refine so_is (.unOp .not 4 _) ?_; refine so_q (qt_not rfl) rfl ?_) | (refine so_is (.binOp .add 3 _ _ _) ?_; refine so_q (qt_addI rfl rfl (by (omega))) rfl ?_) | (refine so_is (.binOp .leq 3 _ _ _) ?_; refine so_q (qt_leq rfl rfl) rfl ?_) | (refine so_is (.pick _ _ _) ?_; (refine so_q (qt_pkC rfl rfl) rfl ?_)) | (refine so_is (.fieldAddr 37 _ 2) ?_; (refine so_q (qt_fld_lp (off := 2) rfl (by kernel_rfl)) rfl ?_)) | (refine so_is (.call ⟨.value (.func 44), _, _⟩) ?_; (apply so_call0 (fid := 44); (· (repeat (first | exact SeA.nil | apply SeA.cons (.c (.d _))))); (· exact l7Context_p _ _); (· rfl))) | (refine so_is (.call ⟨.value (.func 24), _, _⟩) ?_; (apply so_call0 (fid := 24); (· (repeat (first | exact SeA.nil | apply SeA.cons (.c (.d _))))); (· exact l1In_p _ _ _); (· rfl))) | (refine so_is (.call ⟨.value (.func 26), _, _⟩) ?_; (apply so_call0 (fid := 26); (· (repeat (first | exact SeA.nil | apply SeA.cons (.c (.d _))))); (· exact l2Bits_p _ _); (· rfl))) | refine so_nil ?_ | refine so_g_no rfl rfl rfl rfl ?_ | refine so_g_yes rfl rfl rfl rfl ?_ | refine so_g_if rfl rfl (fun hg => ?_) (fun hg => ?_) | refine so_g_b rfl rfl (fun hg => ?_) (fun hg => ?_) | refine sk_seq ?_ | refine sk_block ?_ | refine sk_blk ?_ | refine sk_exit rfl ?_ | refine sk_skip ?_ | refine sk_region ?_ | refine sk_drawQ 4 (fun _ => false) (.step 0 true (.step 1 true (.step 2 true (.step 3 true (.step 4 true (.step 5 true (.step 6 true (.step 7 false (.step 8 true .nil))))))))) [(0, 511, 511, true), (1, 510, 511, false), (0, 511, 511, true), (4, 507, 511, false), (0, 511, 511, true), (24, 487, 511, true), (32, 479, 511, false), (66, 445, 511, false), (128, 383, 511, true)] (by kernel_rfl) (by kernel_rfl) ?_ | refine sk_if rfl (fun hc => ?_) (fun hc => ?_) | refine sk_not rfl (fun hc => ?_) (fun hc => ?_))
  · have hk2 : k < cc.length := by omega
    rw [atZ_nat hk2] at hc
    (apply sk_ret; apply ret_eq; (· apply RetOK.p; (· (apply GvA.cons; (· exact .tmp _); (· exact GvP.c (.lit _))); exact GvA.nil); (· (decide))))
    cases h0 : inB ev 0 12 with
    | false => simp [sceneB, h0]
    | true => rw [hev h0] at hc; simp only [sceneB, all_f (p := ctxB ev) hk2 hc]; simp
  · have hk2 : k < cc.length := by omega
    rw [atZ_nat hk2] at hc
    refine sk_back ?_; refine ⟨k + 1, ?_, ?_, le_at rfl (by (repeat (first | exact trivial | refine ⟨(by (rfl)), ?_⟩))) (by (repeat (first | exact trivial | refine ⟨rfl, ?_⟩))) (by (repeat (exact trivial))) (by (repeat (first | exact trivial | refine ⟨.inr rfl, ?_⟩)))⟩
    · exact ⟨by omega, by rw [take_succ_all _ _ _ hk2, ha, hc]; rfl⟩
    · omega
  all_goals
    have : k = cc.length := by omega
    subst this
    rw [List.take_length] at ha
    (apply sk_ret; apply ret_eq; (· apply RetOK.p; (· (apply GvA.cons; (· exact .tmp _); (· exact GvP.c (.lit _))); exact GvA.nil); (· (decide))))
  · cases h0 : inB ev 0 12 with
    | false => simp_all
    | true =>
      rw [hev h0] at ha
      have h10 : cc.length ≤ 10 := by omega
      simp [sceneB, h0, h10, ha]
  · have h10 : ¬ cc.length ≤ 10 := by omega
    simp [sceneB, h10]
  · simp [sceneB, hg]
theorem l2Play_p (x y : Int) (l : List Int) : PC Tryz.prog 23 [.c (dI x), .c (dI y), .c (eI l)] (.p (.c (dB (sizeB x y && bitsB l (IntKind.i64.wrap (x + y)))))) := by
  refine pc_intro Tryz.func23 rfl rfl rfl (by kernel_rfl) rfl rfl ?_; intro _
  repeat' (first | (refine so_is (.assign _) ?_; (refine so_q (qt_asC rfl) rfl ?_)) | (refine so_is (.move _) ?_; (refine so_q (qt_mvC rfl) rfl ?_)) | (refine so_is (.binOp .add 3 _ _ _) ?_; (refine so_q (qt_add rfl rfl) rfl ?_)) | (refine so_is (.pick _ _ _) ?_; (refine so_q (qt_pkC rfl rfl) rfl ?_)) | (refine so_is (.call ⟨.value (.func 42), _, _⟩) ?_; (apply so_call0 (fid := 42); (· (repeat (first | exact SeA.nil | apply SeA.cons (.c (.d _))))); (· exact l2Sizes_p _ _); (· rfl))) | (refine so_is (.call ⟨.value (.func 26), _, _⟩) ?_; (apply so_call0 (fid := 26); (· (repeat (first | exact SeA.nil | apply SeA.cons (.c (.d _))))); (· exact l2Bits_p _ _); (· rfl))) | refine so_nil ?_ | refine so_g_no rfl rfl rfl rfl ?_ | refine so_g_yes rfl rfl rfl rfl ?_ | refine so_g_b rfl rfl (fun hg => ?_) (fun hg => ?_) | refine sk_seq ?_ | refine sk_region ?_)
  all_goals (apply sk_ret; apply ret_eq; (· apply RetOK.p; (· (apply GvA.cons; (· exact .tmp _); (· exact GvP.c (.lit _))); exact GvA.nil); (· (decide))))
  all_goals simp_all
theorem l12Good_p (bx by_ bwh : Int) (bll : List (List Int)) (pl : List Int) (ev : Int) (cc : List (List Int)) (ss nu : List Int) (co : Int) :
    PC Tryz.prog 11 [.g [dI bx, dI by_, dI bwh, eII bll, eI pl, dI ev, eII cc, eI ss, eI nu, dI co]] (.p (.c (dB (hallB bx by_ bwh bll pl ev cc ss nu co)))) := by
  have hw : boxB bx by_ bwh bll = true → IntKind.i64.wrap (bx + by_) = bx + by_ ∧ sizeB bx by_ = true := fun h => by have := boxB_spec h; have a := this.x1; have b := this.x3; have c := this.y1; have d := this.y3; exact ⟨IntWalk.i64_in _ (by omega), sizeB_iff.2 ⟨⟨a, b⟩, c, d⟩⟩
  refine pc_intro Tryz.func11 rfl rfl rfl (by kernel_rfl) rfl rfl ?_; intro _
  repeat' (first | (refine so_is (.box 39 _) ?_; refine so_box rfl rfl ?_) | (refine so_is (.assign _) ?_; (refine so_q (qt_asC rfl) rfl ?_)) | (refine so_is (.fieldAddr 39 _ 0) ?_; (refine so_q (qt_fld_lp (off := 0) rfl (by kernel_rfl)) rfl ?_)) | (refine so_is (.load 36 _) ?_; (refine so_q (qt_load_boxs rfl rfl (by kernel_rfl : tAgg _ 36 4 = true) rfl) rfl ?_)) | (refine so_is (.unOp .not 4 _) ?_; refine so_q (qt_not rfl) rfl ?_) | (refine so_is (.move _) ?_; (refine so_q (qt_mvC rfl) rfl ?_)) | (refine so_is (.fieldAddr 36 _ 0) ?_; (refine so_q (qt_fld_lp (off := 0) rfl (by kernel_rfl)) rfl ?_)) | (refine so_is (.load 3 _) ?_; (refine so_q (qt_load_box rfl rfl (by kernel_rfl) rfl) rfl ?_)) | (refine so_is (.fieldAddr 36 _ 1) ?_; (refine so_q (qt_fld_lp (off := 1) rfl (by kernel_rfl)) rfl ?_)) | (refine so_is (.fieldAddr 39 _ 1) ?_; (refine so_q (qt_fld_lp (off := 4) rfl (by kernel_rfl)) rfl ?_)) | (refine so_is (.load 25 _) ?_; (refine so_q (qt_load_box rfl rfl (by kernel_rfl) rfl) rfl ?_)) | (refine so_is (.pick _ _ _) ?_; (refine so_q (qt_pkC rfl rfl) rfl ?_)) | (refine so_is (.fieldAddr 39 _ 4) ?_; (refine so_q (qt_fld_lp (off := 9) rfl (by kernel_rfl)) rfl ?_)) | (refine so_is (.fieldAddr 39 _ 2) ?_; (refine so_q (qt_fld_lp (off := 5) rfl (by kernel_rfl)) rfl ?_)) | (refine so_is (.load 37 _) ?_; (refine so_q (qt_load_boxs rfl rfl (by kernel_rfl : tAgg _ 37 3 = true) rfl) rfl ?_)) | (refine so_is (.fieldAddr 39 _ 3) ?_; (refine so_q (qt_fld_lp (off := 8) rfl (by kernel_rfl)) rfl ?_)) | (refine so_is (.fieldAddr 37 _ 0) ?_; (refine so_q (qt_fld_lp (off := 0) rfl (by kernel_rfl)) rfl ?_)) | (refine so_is (.call ⟨.value (.func 22), _, _⟩) ?_; (apply so_call0 (fid := 22); (· (repeat (first | exact SeA.nil | (apply SeA.cons; (· (apply SeP.g; (repeat (first | exact SeL.nil | apply SeL.cons (.d _))))))))); (· exact l2Box_p _ _ _ _); (· rfl))) | (refine so_is (.call ⟨.value (.func 23), _, _⟩) ?_; (apply so_call0 (fid := 23); (· (repeat (first | exact SeA.nil | apply SeA.cons (.c (.d _))))); (· exact l2Play_p _ _ _); (· rfl))) | (refine so_is (.call ⟨.value (.func 24), _, _⟩) ?_; (apply so_call0 (fid := 24); (· (repeat (first | exact SeA.nil | apply SeA.cons (.c (.d _))))); (· exact l1In_p _ _ _); (· rfl))) | (refine so_is (.call ⟨.value (.func 25), _, _⟩) ?_; (apply so_call0 (fid := 25); (· (repeat (first | exact SeA.nil | (apply SeA.cons; (· (apply SeP.g; (repeat (first | exact SeL.nil | apply SeL.cons (.d _))))))))); (· exact l7Good_p _ _ _); (· rfl))) | (refine so_is (.call ⟨.value (.func 26), _, _⟩) ?_; (apply so_call0 (fid := 26); (· (repeat (first | exact SeA.nil | apply SeA.cons (.c (.d _))))); (· exact l2Bits_p _ _); (· rfl))) | refine so_nil ?_ | refine so_g_no rfl rfl rfl rfl ?_ | refine so_g_yes rfl rfl rfl rfl ?_ | refine so_g_b rfl rfl (fun hg => ?_) (fun hg => ?_) | refine sk_seq ?_ | refine sk_skip ?_ | refine sk_region ?_ | refine sk_true rfl ?_ | refine sk_not rfl (fun hc => ?_) (fun hc => ?_))
  all_goals (apply sk_ret; apply ret_eq; (· apply RetOK.p; (· (apply GvA.cons; (· exact .tmp _); (· exact GvP.c (.lit _))); exact GvA.nil); (· (decide))))
  all_goals cases hb : boxB bx by_ bwh bll <;> simp_all [hallB]

end Go.Proofs.YtdihapcicpkdkaaGreatDoor

namespace Go.Proofs.YtdihapcicpkdkaaGreatDoor
open Go.RowKit
set_option linter.unusedSectionVars false
variable [Glb]
set_option maxRecDepth 10000
set_option maxHeartbeats 4000000
theorem l12Decode_c (k : Nat) (l : Tx) (hk : k < 60) (hl : l.length ≤ 1000000) : ∃ c r b, (b = true → decT k l = some (c, r)) ∧ (b = false → decT k l = none) ∧ PC Tryz.prog 46 [.c (dT l), .c (dI k)] (.t [.g [dT c, dT r], .c (dB b)]) := by
  by_cases h : (bef 35 l).length < (ahdT k).length ∨ (bef 35 l).take (ahdT k).length ≠ ahdT k
  · exact ⟨_, _, _, fun h => (by cases h), fun _ => decS1 h, dec_1 k l hk hl h⟩
  · by_cases h2 : (bef 64 (rstT k l)).length = (rstT k l).length
    · exact ⟨_, _, _, fun h => (by cases h), fun _ => decS2 h2, dec_2 k l hk hl h h2⟩
    · refine ⟨_, _, _, fun h3 => ?_, fun h3 => ?_, dec_3 k l hk hl h h2⟩
      · simp only [Bool.and_eq_true, decide_eq_true_eq] at h3; exact decS3.1 h3
      · refine decS3.2 fun h4 => ?_
        have : (recB (bef 64 (rstT k l)) (restS k l) && decide (lineT k (bef 64 (rstT k l)) (restS k l) = l)) = true := by simp only [Bool.and_eq_true, decide_eq_true_eq]; exact h4
        rw [this] at h3; cases h3
theorem l12Open_p (s : Tx) (hs : s.length ≤ 1000000) : PC Tryz.prog 27 [.c (dT s)] (.t [.c (eR (recsT s)), .c (dI (endT s))]) := by
  refine pc_intro Tryz.func27 rfl rfl rfl (by kernel_rfl) rfl rfl ?_; intro _
  repeat' (first | (refine so_is (.assign _) ?_; (refine so_q (qt_asC rfl) rfl ?_)) | (refine so_is (.buildSlice 62 0 _) ?_; (apply so_bslice (sz := 2) (by_ := 32); (· kernel_rfl); (· decide); (· (repeat (exact GvS.nil _))); (· (decide)); (· rfl); (· rfl); (· rfl))) | refine so_nil ?_ | refine sk_seq ?_ | refine sk_block ?_ | refine sk_region ?_)
  apply sk_packC [0, 4, 5] [7, 9, 22, 41, 42] rfl; (· (repeat (first | exact Pf.nil | apply Pf.cons (.c rfl (.d rfl)) | apply Pf.cons (.c rfl (.ls rfl))))); (· (repeat (first | exact Pb.nil | apply Pb.cons (.row rfl) | apply Pb.skip)))
  refine sk_loopL [0] [22, 7, 41, 42] (fun j => [(4, .c (.ls 9 2 0 j)), (5, iN (endsT s j))]) (fun j => [(9, .row 2 (recD ((recsT s).take j)))]) (fun j => j ≤ numR s) (fun j => 60 - j) (0) ?_ (by (repeat (first | exact trivial | refine ⟨(by (rfl)), ?_⟩))) (by (repeat (first | exact trivial | refine ⟨(by ((refine row_eq rfl ?_; simp  [ends_zero, recD]; done))), ?_⟩))) ?_
  · omega
  intro j hj
  have h60 := log_len s
  have hle := ends_le s j
  have hlr : ((recsT s).take j).length = j := by rw [List.length_take, recs_len]; omega
  have hrl : (recD ((recsT s).take j)).length = j * 2 := by rw [recD_len, hlr]
  have hrest : partZ s (endsT s j) s.length = s.drop (endsT s j) := part_from s _ hle
  have hfin : numR s = j → (recsT s).take j = recsT s ∧ endT s = endsT s j := fun e => ⟨by rw [List.take_of_length_le (by rw [recs_len]; omega)], by unfold endT; rw [e]⟩
  have hpl := partZ_le s (endsT s j) s.length
  have hbl := bef_len 10 (partZ s (endsT s j) s.length)
  by_cases h : endsT s j < s.length ∧ j < 60
  · obtain ⟨c, r, b, hb1, hb2, hpc⟩ := l12Decode_c j (bef 10 (partZ s (endsT s j) s.length)) h.2 (by omega)
    have hsl := splitT_len 10 (partZ s (endsT s j) s.length)
    by_cases hm : 10 ∈ partZ s (endsT s j) s.length
    · cases hb : b with
      | true =>
        subst hb
        have hst : stepT j (s.drop (endsT s j)) = some ((c, r), (bef 10 (s.drop (endsT s j))).length + 1) := step_some (by rw [← hrest]; exact hm) (by rw [← hrest]; exact hb1 rfl)
        obtain ⟨g1, g2, g3⟩ := log_go hj h.2 hst
        rw [← hrest] at g3
        rw [show ((splitT 10 (partZ s (endsT s j) s.length)).length < 2 ↔ 10 ∉ (partZ s (endsT s j) s.length)) ↔ True by simp [hsl]] at hsl
        have hsl2 : ¬ (splitT 10 (partZ s (endsT s j) s.length)).length < 2 := fun h => absurd hm ((splitT_len 10 _).1 h)
        clear hfin hrest hst hb1 hb2
        repeat' (first | (refine so_is (.assign _) ?_; (refine so_q (qt_asC rfl) rfl ?_)) | (refine so_is (.move _) ?_; (first | refine so_q (qt_mvC rfl) rfl ?_ | refine so_q (qt_mvT rfl) rfl ?_)) | (refine so_is (.call ⟨.builtin .len, _, #[9]⟩) ?_; (refine so_q (qt_lenT rfl (by kernel_rfl)) rfl ?_)) | (refine so_is (.binOp .lss 3 _ _ _) ?_; refine so_q (qt_lss rfl rfl) rfl ?_) | (refine so_is (.call ⟨.builtin .len, _, #[62]⟩) ?_; (refine so_q (qt_len_ls rfl (by kernel_rfl)) rfl ?_)) | (refine so_is (.pick _ _ _) ?_; (refine so_q (qt_pkC rfl rfl) rfl ?_)) | (refine so_is (.slice 9 _ (some _) none none) ?_; (refine so_q (qt_sliceT10 rfl rfl (by kernel_rfl) (by (omega)) (by (omega))) rfl ?_)) | (refine so_is (.indexAddr 77 _ _) ?_; (refine so_q (qt_idx0 rfl rfl (by kernel_rfl)) rfl ?_)) | (refine so_is (.load 9 _) ?_; (refine so_q (qt_load_pt rfl (by kernel_rfl) rfl) rfl ?_)) | (refine so_is (.extract _ _) ?_; refine so_q (qt_extract rfl rfl) rfl ?_) | (refine so_is (.alloc 80) ?_; refine so_alloc (zs := [.string ByteArray.empty, .string ByteArray.empty]) (by kernel_rfl) rfl ?_) | (refine so_is (.store 80 _ _) ?_; (refine so_store_box rfl rfl rfl (by kernel_rfl) rfl rfl ?_)) | (refine so_is (.call ⟨.builtin .len, _, #[77]⟩) ?_; (refine so_q (qt_len_d rfl (by kernel_rfl)) rfl ?_)) | (refine so_is (.unOp .not 4 _) ?_; refine so_q (qt_not rfl) rfl ?_) | (refine so_is (.load 80 _) ?_; (refine so_q (qt_load_boxs rfl rfl (by kernel_rfl : tAgg _ 80 2 = true) rfl) rfl ?_)) | (refine so_is (.buildSlice 62 1 _) ?_; (apply so_bslice (sz := 2) (by_ := 32); (· kernel_rfl); (· decide); (· (repeat (first | exact GvS.nil _ | (apply GvS.g rfl; (· (repeat (first | exact GvL.nil | apply GvL.cons (.lit _)))); (· rfl))))); (· (decide)); (· rfl); (· rfl); (· rfl))) | (refine so_is (.call ⟨.builtin .append, _, #[62, 62]⟩) ?_; ((apply so_appR (sz := 2) (by_ := 32); (· rfl); (· rfl); (· (assumption)); (· exact .row _ _ _ _ rfl (by ((simp; done)))); (· (decide)); (· kernel_rfl); (· decide); (· (omega)); (· (omega)); (· rfl); (· rfl); (· rfl)))) | (refine so_is (.binOp .add 3 _ _ _) ?_; refine so_q (qt_addI rfl rfl (by (omega))) rfl ?_) | (refine so_is (.call ⟨.value (.func 45), _, _⟩) ?_; ((apply so_call0 (fid := 45); (· (repeat (first | exact SeA.nil | apply SeA.cons (.c (.d _))))); (· exact l1Split_p _ 10 (by omega)); (· rfl)))) | (refine so_is (.call ⟨.value (.func 46), _, _⟩) ?_; (apply so_call0 (fid := 46); (· (repeat (first | exact SeA.nil | apply SeA.cons (.c (.d _))))); (· exact hpc); (· rfl))) | refine so_nil ?_ | refine so_g_no rfl rfl rfl rfl ?_ | refine so_g_yes rfl rfl rfl rfl ?_ | refine so_g_if rfl rfl (fun hg => ?_) (fun hg => ?_) | refine sk_seq ?_ | refine sk_block ?_ | refine sk_blk ?_ | refine sk_exit rfl ?_ | refine sk_skip ?_ | refine sk_region ?_ | refine sk_true rfl ?_ | refine sk_false rfl ?_ | refine sk_if rfl (fun hc => ?_) (fun hc => ?_))
        all_goals first | (exfalso; omega) | (exfalso; simp_all; done) | skip
        refine sk_back ?_; refine ⟨j + 1, ?_, ?_, le_at rfl (by (repeat (first | exact trivial | refine ⟨(by (first | rfl | (refine int_eq rfl ?_; (omega)))), ?_⟩))) (by (repeat (first | exact trivial | refine ⟨rfl, ?_⟩))) (by (repeat (first | exact trivial | refine ⟨(by ((refine row_eq rfl ?_; simp  [recs_snoc g2, g3, Nat.add_assoc]; done))), ?_⟩))) (by (repeat (first | exact trivial | refine ⟨.inr rfl, ?_⟩ | refine ⟨.inl rfl, ?_⟩)))⟩
        · omega
        · omega
      | false =>
        subst hb
        have hst := log_stop hj (step_none (by rw [← hrest]; exact hb2 rfl))
        obtain ⟨f1, f2⟩ := hfin hst; have f3 : (recsT s).length = j := (recs_len s).trans hst
        clear hfin hrest hb1 hb2
        repeat' (first | (refine so_is (.assign _) ?_; (refine so_q (qt_asC rfl) rfl ?_)) | (refine so_is (.move _) ?_; (first | refine so_q (qt_mvC rfl) rfl ?_ | refine so_q (qt_mvT rfl) rfl ?_)) | (refine so_is (.call ⟨.builtin .len, _, #[9]⟩) ?_; (refine so_q (qt_lenT rfl (by kernel_rfl)) rfl ?_)) | (refine so_is (.binOp .lss 3 _ _ _) ?_; refine so_q (qt_lss rfl rfl) rfl ?_) | (refine so_is (.call ⟨.builtin .len, _, #[62]⟩) ?_; (refine so_q (qt_len_ls rfl (by kernel_rfl)) rfl ?_)) | (refine so_is (.pick _ _ _) ?_; (refine so_q (qt_pkC rfl rfl) rfl ?_)) | (refine so_is (.slice 9 _ (some _) none none) ?_; (refine so_q (qt_sliceT10 rfl rfl (by kernel_rfl) (by (omega)) (by (omega))) rfl ?_)) | (refine so_is (.indexAddr 77 _ _) ?_; (refine so_q (qt_idx0 rfl rfl (by kernel_rfl)) rfl ?_)) | (refine so_is (.load 9 _) ?_; (refine so_q (qt_load_pt rfl (by kernel_rfl) rfl) rfl ?_)) | (refine so_is (.extract _ _) ?_; refine so_q (qt_extract rfl rfl) rfl ?_) | (refine so_is (.alloc 80) ?_; refine so_alloc (zs := [.string ByteArray.empty, .string ByteArray.empty]) (by kernel_rfl) rfl ?_) | (refine so_is (.store 80 _ _) ?_; (refine so_store_box rfl rfl rfl (by kernel_rfl) rfl rfl ?_)) | (refine so_is (.call ⟨.builtin .len, _, #[77]⟩) ?_; (refine so_q (qt_len_d rfl (by kernel_rfl)) rfl ?_)) | (refine so_is (.unOp .not 4 _) ?_; refine so_q (qt_not rfl) rfl ?_) | (refine so_is (.call ⟨.value (.func 45), _, _⟩) ?_; ((apply so_call0 (fid := 45); (· (repeat (first | exact SeA.nil | apply SeA.cons (.c (.d _))))); (· exact l1Split_p _ 10 (by omega)); (· rfl)))) | (refine so_is (.call ⟨.value (.func 46), _, _⟩) ?_; (apply so_call0 (fid := 46); (· (repeat (first | exact SeA.nil | apply SeA.cons (.c (.d _))))); (· exact hpc); (· rfl))) | refine so_nil ?_ | refine so_g_no rfl rfl rfl rfl ?_ | refine so_g_yes rfl rfl rfl rfl ?_ | refine so_g_if rfl rfl (fun hg => ?_) (fun hg => ?_) | refine sk_seq ?_ | refine sk_block ?_ | refine sk_exit rfl ?_ | refine sk_skip ?_ | refine sk_region ?_ | refine sk_true rfl ?_ | refine sk_false rfl ?_ | refine sk_if rfl (fun hc => ?_) (fun hc => ?_))
        all_goals first | (exfalso; omega) | (exfalso; simp_all; done) | skip
        all_goals (apply sk_ret; apply ret_eq; (· apply RetOK.t; (· (apply GvA.cons; (· exact .tmp _); (· (exact GvP.c (.row _ _ _ _ rfl (by (assumption)))))); (apply GvA.cons; (· exact .tmp _); (· exact GvP.c (.lit _))); exact GvA.nil); (· rfl); (· (decide))))
        all_goals simp only [eR, f1, f2, f3]
    · have hst := log_stop hj (step_no (by rw [← hrest]; exact hm))
      obtain ⟨f1, f2⟩ := hfin hst; have f3 : (recsT s).length = j := (recs_len s).trans hst
      have hsl2 : (splitT 10 (partZ s (endsT s j) s.length)).length < 2 := hsl.2 hm
      clear hfin hrest hb1 hb2
      repeat' (first | (refine so_is (.assign _) ?_; (refine so_q (qt_asC rfl) rfl ?_)) | (refine so_is (.move _) ?_; (first | refine so_q (qt_mvC rfl) rfl ?_ | refine so_q (qt_mvT rfl) rfl ?_)) | (refine so_is (.call ⟨.builtin .len, _, #[9]⟩) ?_; (refine so_q (qt_lenT rfl (by kernel_rfl)) rfl ?_)) | (refine so_is (.binOp .lss 3 _ _ _) ?_; refine so_q (qt_lss rfl rfl) rfl ?_) | (refine so_is (.call ⟨.builtin .len, _, #[62]⟩) ?_; (refine so_q (qt_len_ls rfl (by kernel_rfl)) rfl ?_)) | (refine so_is (.pick _ _ _) ?_; (refine so_q (qt_pkC rfl rfl) rfl ?_)) | (refine so_is (.slice 9 _ (some _) none none) ?_; (refine so_q (qt_sliceT10 rfl rfl (by kernel_rfl) (by (omega)) (by (omega))) rfl ?_)) | (refine so_is (.indexAddr 77 _ _) ?_; (refine so_q (qt_idx0 rfl rfl (by kernel_rfl)) rfl ?_)) | (refine so_is (.load 9 _) ?_; (refine so_q (qt_load_pt rfl (by kernel_rfl) rfl) rfl ?_)) | (refine so_is (.extract _ _) ?_; refine so_q (qt_extract rfl rfl) rfl ?_) | (refine so_is (.alloc 80) ?_; refine so_alloc (zs := [.string ByteArray.empty, .string ByteArray.empty]) (by kernel_rfl) rfl ?_) | (refine so_is (.store 80 _ _) ?_; (refine so_store_box rfl rfl rfl (by kernel_rfl) rfl rfl ?_)) | (refine so_is (.call ⟨.builtin .len, _, #[77]⟩) ?_; (refine so_q (qt_len_d rfl (by kernel_rfl)) rfl ?_)) | (refine so_is (.unOp .not 4 _) ?_; refine so_q (qt_not rfl) rfl ?_) | (refine so_is (.load 80 _) ?_; (refine so_q (qt_load_boxs rfl rfl (by kernel_rfl : tAgg _ 80 2 = true) rfl) rfl ?_)) | (refine so_is (.buildSlice 62 1 _) ?_; (apply so_bslice (sz := 2) (by_ := 32); (· kernel_rfl); (· decide); (· (repeat (first | exact GvS.nil _ | (apply GvS.g rfl; (· (repeat (first | exact GvL.nil | apply GvL.cons (.lit _)))); (· rfl))))); (· (decide)); (· rfl); (· rfl); (· rfl))) | (refine so_is (.call ⟨.builtin .append, _, #[62, 62]⟩) ?_; ((apply so_appR (sz := 2) (by_ := 32); (· rfl); (· rfl); (· (assumption)); (· exact .row _ _ _ _ rfl (by ((simp; done)))); (· (decide)); (· kernel_rfl); (· decide); (· (omega)); (· (omega)); (· rfl); (· rfl); (· rfl)))) | (refine so_is (.binOp .add 3 _ _ _) ?_; refine so_q (qt_addI rfl rfl (by (omega))) rfl ?_) | (refine so_is (.call ⟨.value (.func 45), _, _⟩) ?_; ((apply so_call0 (fid := 45); (· (repeat (first | exact SeA.nil | apply SeA.cons (.c (.d _))))); (· exact l1Split_p _ 10 (by omega)); (· rfl)))) | (refine so_is (.call ⟨.value (.func 46), _, _⟩) ?_; (apply so_call0 (fid := 46); (· (repeat (first | exact SeA.nil | apply SeA.cons (.c (.d _))))); (· exact hpc); (· rfl))) | refine so_nil ?_ | refine so_g_no rfl rfl rfl rfl ?_ | refine so_g_yes rfl rfl rfl rfl ?_ | refine so_g_if rfl rfl (fun hg => ?_) (fun hg => ?_) | refine sk_seq ?_ | refine sk_block ?_ | refine sk_blk ?_ | refine sk_exit rfl ?_ | refine sk_skip ?_ | refine sk_region ?_ | refine sk_true rfl ?_ | refine sk_false rfl ?_ | refine sk_if rfl (fun hc => ?_) (fun hc => ?_) | refine sk_not rfl (fun hc => ?_) (fun hc => ?_))
      all_goals first | (exfalso; omega) | (exfalso; simp_all; done) | skip
      all_goals (apply sk_ret; apply ret_eq; (· apply RetOK.t; (· (apply GvA.cons; (· exact .tmp _); (· (exact GvP.c (.row _ _ _ _ rfl (by (assumption)))))); (apply GvA.cons; (· exact .tmp _); (· exact GvP.c (.lit _))); exact GvA.nil); (· rfl); (· (decide))))
      all_goals simp only [eR, f1, f2, f3]
  · have hst : numR s = j := by
      by_cases h2 : j < 60
      · refine log_stop hj (step_no ?_)
        rw [List.drop_eq_nil_of_le (by omega)]; simp
      · omega
    obtain ⟨f1, f2⟩ := hfin hst; have f3 : (recsT s).length = j := (recs_len s).trans hst
    clear hfin hrest
    repeat' (first | (refine so_is (.assign _) ?_; (refine so_q (qt_asC rfl) rfl ?_)) | (refine so_is (.move _) ?_; (refine so_q (qt_mvC rfl) rfl ?_)) | (refine so_is (.call ⟨.builtin .len, _, #[9]⟩) ?_; (refine so_q (qt_lenT rfl (by kernel_rfl)) rfl ?_)) | (refine so_is (.binOp .lss 3 _ _ _) ?_; refine so_q (qt_lss rfl rfl) rfl ?_) | (refine so_is (.call ⟨.builtin .len, _, #[62]⟩) ?_; (refine so_q (qt_len_ls rfl (by kernel_rfl)) rfl ?_)) | (refine so_is (.pick _ _ _) ?_; (refine so_q (qt_pkC rfl rfl) rfl ?_)) | (refine so_is (.slice 9 _ (some _) none none) ?_; (refine so_q (qt_sliceT10 rfl rfl (by kernel_rfl) (by (omega)) (by (omega))) rfl ?_)) | refine so_nil ?_ | refine so_g_no rfl rfl rfl rfl ?_ | refine so_g_yes rfl rfl rfl rfl ?_ | refine so_g_if rfl rfl (fun hg => ?_) (fun hg => ?_) | refine sk_seq ?_ | refine sk_block ?_ | refine sk_exit rfl ?_ | refine sk_skip ?_ | refine sk_region ?_ | refine sk_false rfl ?_ | refine sk_if rfl (fun hc => ?_) (fun hc => ?_))
    all_goals first | (exfalso; omega) | (exfalso; simp_all; done) | skip
    all_goals (apply sk_ret; apply ret_eq; (· apply RetOK.t; (· (apply GvA.cons; (· exact .tmp _); (· (exact GvP.c (.row _ _ _ _ rfl (by (assumption)))))); (apply GvA.cons; (· exact .tmp _); (· exact GvP.c (.lit _))); exact GvA.nil); (· rfl); (· (decide))))
    all_goals simp only [eR, f1, f2, f3]

end Go.Proofs.YtdihapcicpkdkaaGreatDoor

namespace Go.Proofs.YtdihapcicpkdkaaGreatDoor
open Go.RowKit
set_option linter.unusedSectionVars false
variable [Glb]
set_option maxRecDepth 10000
set_option maxHeartbeats 4000000
theorem l12Valid_p (d p : Tx) (c : Int) (hb : (d.length : Int) + p.length ≤ 1000000000) : PC Tryz.prog 12 [.g [dT d, dT p, dI c]] (.p (.c (dB (validB d p c)))) := by
  refine pc_intro Tryz.func12 rfl rfl rfl (by kernel_rfl) rfl rfl ?_; rintro ⟨hf, -⟩
  have hf0 := FitT (hf (dT d) (by simp))
  have hf1 := FitT (hf (dT p) (by simp))
  clear hf
  by_cases h : (d.length : Int) + p.length ≤ 30000
  · have h1 := recs_len (d ++ p)
    have h2 : ((d ++ p).length : Int) = d.length + p.length := by simp
    repeat' (first | (refine so_is (.box 40 _) ?_; refine so_box rfl rfl ?_) | (refine so_is (.assign _) ?_; (refine so_q (qt_asC rfl) rfl ?_)) | (refine so_is (.fieldAddr 40 _ 0) ?_; (refine so_q (qt_fld_lp (off := 0) rfl (by kernel_rfl)) rfl ?_)) | (refine so_is (.load 9 _) ?_; (refine so_q (qt_load_box rfl rfl (by kernel_rfl) rfl) rfl ?_)) | (refine so_is (.call ⟨.builtin .len, _, #[9]⟩) ?_; (refine so_q (qt_lenT rfl (by kernel_rfl)) rfl ?_)) | (refine so_is (.fieldAddr 40 _ 1) ?_; (refine so_q (qt_fld_lp (off := 1) rfl (by kernel_rfl)) rfl ?_)) | (refine so_is (.binOp .add 3 _ _ _) ?_; refine so_q (qt_addI rfl rfl (by (omega))) rfl ?_) | (refine so_is (.binOp .gtr 3 _ _ _) ?_; refine so_q (qt_gtr rfl rfl) rfl ?_) | (refine so_is (.binOp .add 9 _ _ _) ?_; (refine so_q (qt_addT rfl rfl (by (omega))) rfl ?_)) | (refine so_is (.call ⟨.value (.func 27), _, _⟩) ?_; (first | (apply so_call0 (d := 21) (fid := 27); (· (repeat (first | exact SeA.nil | apply SeA.cons (.c (.d _))))); (· exact l12Open_p _ (by simp; omega)); (· rfl)) | (apply so_call0 (d := 27) (fid := 27); (· (repeat (first | exact SeA.nil | apply SeA.cons (.c (.d _))))); (· exact l12Open_p _ (by omega)); (· rfl)))) | (refine so_is (.move _) ?_; (first | refine so_q (qt_mvC rfl) rfl ?_ | refine so_q (qt_mvT rfl) rfl ?_)) | (refine so_is (.extract _ _) ?_; refine so_q (qt_extract rfl rfl) rfl ?_) | (refine so_is (.binOp .eql 3 _ _ _) ?_; refine so_q (qt_eql rfl rfl) rfl ?_) | (refine so_is (.pick _ _ _) ?_; (refine so_q (qt_pkC rfl rfl) rfl ?_)) | (refine so_is (.call ⟨.builtin .len, _, #[62]⟩) ?_; (refine so_q (qt_len_d rfl (by kernel_rfl)) rfl ?_)) | (refine so_is (.fieldAddr 40 _ 2) ?_; (refine so_q (qt_fld_lp (off := 2) rfl (by kernel_rfl)) rfl ?_)) | (refine so_is (.load 3 _) ?_; (refine so_q (qt_load_box rfl rfl (by kernel_rfl) rfl) rfl ?_)) | refine so_nil ?_ | refine so_g_no rfl rfl rfl rfl ?_ | refine so_g_yes rfl rfl rfl rfl ?_ | refine so_g_if rfl rfl (fun hg => ?_) (fun hg => ?_) | refine sk_seq ?_ | refine sk_skip ?_ | refine sk_region ?_ | refine sk_if rfl (fun hc => ?_) (fun hc => ?_))
    all_goals first | (exfalso; omega) | skip
    all_goals (apply sk_ret; apply ret_eq; (· apply RetOK.p; (· (apply GvA.cons; (· exact .tmp _); (· exact GvP.c (.lit _))); exact GvA.nil); (· (decide))))
    all_goals refine dB_eq (Bool.eq_iff_iff.2 ?_)
    all_goals rw [valid_iff h]
    · rw [decide_eq_true_eq]; omega
    · simp only [Bool.false_eq_true, false_iff]; omega
    · simp only [Bool.false_eq_true, false_iff]; omega
  · repeat' (first | (refine so_is (.box 40 _) ?_; refine so_box rfl rfl ?_) | (refine so_is (.assign _) ?_; (refine so_q (qt_asC rfl) rfl ?_)) | (refine so_is (.fieldAddr 40 _ 0) ?_; (refine so_q (qt_fld_lp (off := 0) rfl (by kernel_rfl)) rfl ?_)) | (refine so_is (.load 9 _) ?_; (refine so_q (qt_load_box rfl rfl (by kernel_rfl) rfl) rfl ?_)) | (refine so_is (.call ⟨.builtin .len, _, #[9]⟩) ?_; (refine so_q (qt_lenT rfl (by kernel_rfl)) rfl ?_)) | (refine so_is (.fieldAddr 40 _ 1) ?_; (refine so_q (qt_fld_lp (off := 1) rfl (by kernel_rfl)) rfl ?_)) | (refine so_is (.binOp .add 3 _ _ _) ?_; refine so_q (qt_addI rfl rfl (by (omega))) rfl ?_) | (refine so_is (.binOp .gtr 3 _ _ _) ?_; refine so_q (qt_gtr rfl rfl) rfl ?_) | (refine so_is (.binOp .add 9 _ _ _) ?_; (refine so_q (qt_addT rfl rfl (by (omega))) rfl ?_)) | (refine so_is (.call ⟨.value (.func 27), _, _⟩) ?_; (first | (apply so_call0 (d := 21) (fid := 27); (· (repeat (first | exact SeA.nil | apply SeA.cons (.c (.d _))))); (· exact l12Open_p _ (by simp; omega)); (· rfl)) | (apply so_call0 (d := 27) (fid := 27); (· (repeat (first | exact SeA.nil | apply SeA.cons (.c (.d _))))); (· exact l12Open_p _ (by omega)); (· rfl)))) | (refine so_is (.move _) ?_; (first | refine so_q (qt_mvC rfl) rfl ?_ | refine so_q (qt_mvT rfl) rfl ?_)) | (refine so_is (.extract _ _) ?_; refine so_q (qt_extract rfl rfl) rfl ?_) | (refine so_is (.binOp .eql 3 _ _ _) ?_; refine so_q (qt_eql rfl rfl) rfl ?_) | (refine so_is (.pick _ _ _) ?_; (refine so_q (qt_pkC rfl rfl) rfl ?_)) | (refine so_is (.call ⟨.builtin .len, _, #[62]⟩) ?_; (refine so_q (qt_len_d rfl (by kernel_rfl)) rfl ?_)) | (refine so_is (.fieldAddr 40 _ 2) ?_; (refine so_q (qt_fld_lp (off := 2) rfl (by kernel_rfl)) rfl ?_)) | (refine so_is (.load 3 _) ?_; (refine so_q (qt_load_box rfl rfl (by kernel_rfl) rfl) rfl ?_)) | refine so_nil ?_ | refine so_g_no rfl rfl rfl rfl ?_ | refine so_g_yes rfl rfl rfl rfl ?_ | refine so_g_if rfl rfl (fun hg => ?_) (fun hg => ?_) | refine sk_seq ?_ | refine sk_skip ?_ | refine sk_region ?_ | refine sk_if rfl (fun hc => ?_) (fun hc => ?_))
    all_goals first | (exfalso; omega) | skip
    all_goals (apply sk_ret; apply ret_eq; (· apply RetOK.p; (· (apply GvA.cons; (· exact .tmp _); (· exact GvP.c (.lit _))); exact GvA.nil); (· (decide))))
    all_goals rw [valid_long h]

end Go.Proofs.YtdihapcicpkdkaaGreatDoor

namespace Go.Proofs.YtdihapcicpkdkaaGreatDoor
open Go.RowKit
set_option linter.unusedSectionVars false
variable [Glb]
set_option maxRecDepth 10000
set_option maxHeartbeats 4000000
theorem spIsValidConsole_p (bx by_ bwh : Int) (bll : List (List Int)) (pl : List Int) (ev : Int) (cc : List (List Int)) (ss nu : List Int) (co : Int) (d p : Tx) (n : Int) (hb : (d.length : Int) + p.length ≤ 1000000000) :
    PC Tryz.prog 5 [.g [dI bx, dI by_, dI bwh, eII bll, eI pl, dI ev, eII cc, eI ss, eI nu, dI co, dT d, dT p, dI n]] (.p (.c (dB (hallB bx by_ bwh bll pl ev cc ss nu co && validB d p n)))) := by
  refine pc_intro Tryz.func5 rfl rfl rfl (by kernel_rfl) rfl rfl ?_; intro _
  repeat' (first | (refine so_is (.box 42 _) ?_; refine so_box rfl rfl ?_) | (refine so_is (.assign _) ?_; (refine so_q (qt_asC rfl) rfl ?_)) | (refine so_is (.fieldAddr 42 _ 0) ?_; (refine so_q (qt_fld_lp (off := 0) rfl (by kernel_rfl)) rfl ?_)) | (refine so_is (.load 39 _) ?_; (refine so_q (qt_load_boxs rfl rfl (by kernel_rfl : tAgg _ 39 10 = true) rfl) rfl ?_)) | (refine so_is (.move _) ?_; (refine so_q (qt_mvC rfl) rfl ?_)) | (refine so_is (.fieldAddr 42 _ 1) ?_; (refine so_q (qt_fld_lp (off := 10) rfl (by kernel_rfl)) rfl ?_)) | (refine so_is (.load 40 _) ?_; (refine so_q (qt_load_boxs rfl rfl (by kernel_rfl : tAgg _ 40 3 = true) rfl) rfl ?_)) | (refine so_is (.pick _ _ _) ?_; (refine so_q (qt_pkC rfl rfl) rfl ?_)) | (refine so_is (.call ⟨.value (.func 11), _, _⟩) ?_; (apply so_call0 (fid := 11); (· (repeat (first | exact SeA.nil | (apply SeA.cons; (· (apply SeP.g; (repeat (first | exact SeL.nil | apply SeL.cons (.d _))))))))); (· exact l12Good_p _ _ _ _ _ _ _ _ _ _); (· rfl))) | (refine so_is (.call ⟨.value (.func 12), _, _⟩) ?_; (apply so_call0 (fid := 12); (· (repeat (first | exact SeA.nil | (apply SeA.cons; (· (apply SeP.g; (repeat (first | exact SeL.nil | apply SeL.cons (.d _))))))))); (· exact l12Valid_p _ _ _ (by omega)); (· rfl))) | refine so_nil ?_ | refine so_g_no rfl rfl rfl rfl ?_ | refine so_g_yes rfl rfl rfl rfl ?_ | refine so_g_b rfl rfl (fun hg => ?_) (fun hg => ?_) | refine sk_seq ?_ | refine sk_region ?_)
  all_goals (apply sk_ret; apply ret_eq; (· apply RetOK.p; (· (apply GvA.cons; (· exact .tmp _); (· exact GvP.c (.lit _))); exact GvA.nil); (· (decide))))
  all_goals simp_all

end Go.Proofs.YtdihapcicpkdkaaGreatDoor

namespace Go.Proofs.YtdihapcicpkdkaaGreatDoor
open Go.RowKit
set_option linter.unusedSectionVars false
variable [Glb]
variable [GTab Tryz.prog tabNm]
set_option maxRecDepth 10000
set_option maxHeartbeats 4000000
theorem FnExactIsValidConsole_p (bx by_ bwh : Int) (bll : List (List Int)) (pl : List Int) (ev : Int) (cc : List (List Int)) (ss nu : List Int) (co : Int) (d p : ByteArray) (n : Int) : PC Tryz.prog 3 [.g [dI bx, dI by_, dI bwh, eII bll, eI pl, dI ev, eII cc, eI ss, eI nu, dI co, dS d, dS p, dI n]] (.p (.c (dB true))) := by
  obtain ⟨d, rfl⟩ := exT d
  obtain ⟨p, rfl⟩ := exT p
  rcases (by omega : (1048576 < bll.length + cnt bll + pl.length + cc.length + cnt cc + ss.length + nu.length + d.length + p.length) ∨ bll.length + cnt bll + pl.length + cc.length + cnt cc + ss.length + nu.length + d.length + p.length ≤ 1048576) with hz | hz
  all_goals
    refine pc_intro Tryz.func3 rfl rfl rfl (by kernel_rfl) rfl rfl ?_; intro _
    repeat' (first | (refine so_is (.box 33 _) ?_; refine so_box rfl rfl ?_) | (refine so_is (.assign _) ?_; (refine so_q (qt_asC rfl) rfl ?_)) | (refine so_is (.load 33 _) ?_; (refine so_q (qt_load_boxs rfl rfl (by kernel_rfl : tAgg _ 33 13 = true) rfl) rfl ?_)) | (refine so_is (.move _) ?_; (refine so_q (qt_mvC rfl) rfl ?_)) | (refine so_is (.binOp .lss 3 _ _ _) ?_; refine so_q (qt_lss rfl rfl) rfl ?_) | (refine so_is (.alloc 42) ?_; refine so_alloc (zs := [.int .i64 0, .int .i64 0, .int .i64 0, .slice none 0 0, .slice none 0 0, .int .i64 0, .slice none 0 0, .slice none 0 0, .slice none 0 0, .int .i64 0, .string ByteArray.empty, .string ByteArray.empty, .int .i64 0]) (by kernel_rfl) rfl ?_) | (refine so_is (.store 42 _ _) ?_; (refine so_store_box rfl rfl rfl (by kernel_rfl) rfl rfl ?_)) | (refine so_is (.load 42 _) ?_; (refine so_q (qt_load_boxs rfl rfl (by kernel_rfl : tAgg _ 42 13 = true) rfl) rfl ?_)) | (refine so_is (.binOp .neq 4 _ _ _) ?_; (refine so_q (qt_neqB_same (by kernel_rfl) rfl rfl) rfl ?_)) | (refine so_is (.unOp .not 4 _) ?_; refine so_q (qt_not rfl) rfl ?_) | (refine so_is (.call ⟨.value (.func 4), _, _⟩) ?_; (first | (apply so_call0 (fid := 4); (· (repeat (first | exact SeA.nil | apply SeA.cons (.c (.d _)) | (apply SeA.cons; (· (apply SeP.g; (repeat (first | exact SeL.nil | apply SeL.cons (.d _))))))))); (· exact szConsole_ok _ _ _ _ _ _ _ _ _ _ _ _ _ _ (by omega) (by omega)); (· rfl)) | (apply so_call0 (fid := 4); (· (repeat (first | exact SeA.nil | apply SeA.cons (.c (.d _)) | (apply SeA.cons; (· (apply SeP.g; (repeat (first | exact SeL.nil | apply SeL.cons (.d _))))))))); (· exact szConsole_no _ _ _ _ _ _ _ _ _ _ _ _ _ _ (by omega) (by omega) (by omega)); (· rfl)))) | (refine so_is (.call ⟨.value (.func 6), _, _⟩) ?_; (apply so_callO0 (fid := 6); (· (repeat (first | exact SeA.nil | (apply SeA.cons; (· (apply SeP.g; (repeat (first | exact SeL.nil | apply SeL.cons (.d _))))))))); (· exact toConsole_p _ _ _ _ _ _ _ _ _ _ _ _ _ (by omega)); (· rfl); (· rfl))) | (refine so_is (.call ⟨.value (.func 5), _, _⟩) ?_; (apply so_call0 (fid := 5); (· (repeat (first | exact SeA.nil | (apply SeA.cons; (· (apply SeP.g; (repeat (first | exact SeL.nil | apply SeL.cons (.d _) | apply SeL.cons (.all _ _ _ _ rfl (by ((simp; done)))))))))))); (· exact spIsValidConsole_p _ _ _ _ _ _ _ _ _ _ _ _ _ (by omega)); (· rfl))) | (refine so_is (.call ⟨.value (.func 7), _, _⟩) ?_; (apply so_call0 (fid := 7); (· (repeat (first | exact SeA.nil | (apply SeA.cons; (· (apply SeP.g; (repeat (first | exact SeL.nil | apply SeL.cons (.d _) | apply SeL.cons (.all _ _ _ _ rfl (by ((simp; done)))))))))))); (· exact IsValidConsole_p _ _ _ _ _ _ _ _ _ _ _ _ _ (by omega)); (· rfl))) | (refine so_is (.call ⟨.value (.func 8), _, _⟩) ?_; (apply so_call0 (fid := 8); (· (repeat (first | exact SeA.nil | (apply SeA.cons; (· (apply SeP.g; (repeat (first | exact SeL.nil | apply SeL.cons (.d _) | apply SeL.cons (.all _ _ _ _ rfl (by ((simp; done)))))))))))); (· exact eqConsole_same _ _ _ _ _ _ _ _ _ _ _ _ _); (· rfl))) | refine so_nil ?_ | refine sk_seq ?_ | refine sk_skip ?_ | refine sk_region (id := 0) ?_ | refine sk_region (id := 1) ?_ | refine sk_region (id := 2) ?_ | refine sk_region (id := 3) ?_ | refine sk_region (id := 4) ?_ | (apply sk_pack 5 [1] [1] rfl; (· (repeat (first | exact Pf.nil | apply Pf.cons (.c rfl (.lp rfl))))); (· (repeat (first | exact Pb.nil | (apply Pb.cons; (· apply Nb.box rfl; (repeat (first | exact Ncs.nil rfl | (apply Ncs.cons rfl; (· (exact .d rfl)))))))))); refine sk_region (id := 5) ?_) | refine sk_region (id := 6) ?_ | refine sk_region (id := 7) ?_ | (apply sk_pack 8 [1, 4, 5, 6] [1, 3013, 4013, 6013, 7013, 8013, 3016, 4016, 6016, 7016, 8016, 5] rfl; (· (repeat (first | exact Pf.nil | apply Pf.cons (.c rfl (.d rfl)) | apply Pf.cons (.c rfl (.lp rfl))))); (· (repeat (first | exact Pb.nil | apply Pb.cons (.row rfl) | (apply Pb.cons; (· apply Nb.box rfl; (repeat (first | exact Ncs.nil rfl | (apply Ncs.cons rfl; (· (first | exact .d rfl | exact .ls rfl)))))))))); refine sk_region (id := 8) ?_) | refine sk_drawQ 10 (fun _ => false) (.step 0 true (.step 1 true (.step 2 false (.step 3 false (.step 4 true .nil))))) [(0, 31, 31, false), (0, 31, 31, false), (2, 29, 31, false), (5, 26, 31, false), (8, 23, 31, true)] (by kernel_rfl) (by kernel_rfl) ?_ | refine sk_region (id := 12) ?_ | refine sk_true rfl ?_ | refine sk_false rfl ?_ | refine sk_if rfl (fun hc => ?_) (fun hc => ?_))
    all_goals first | (exfalso; omega) | skip
    all_goals (apply sk_ret; apply ret_eq; (· apply RetOK.p; (· (apply GvA.cons; (· exact .tmp _); (· exact GvP.c (.lit _))); exact GvA.nil); (· (decide))))
    all_goals rfl

end Go.Proofs.YtdihapcicpkdkaaGreatDoor
