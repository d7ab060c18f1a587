/- What the functions that FnExactAskGame reaches return: part of its proof. No condition beyond those of its theorems. -/
import Derived.Test.YtdnkmgbbkggmdaaKfnsFnExactAskGameA
import Derived.Test.YtdnkmgbbkggmdaaKplainC
import Derived.Test.YtdnkmgbbkggmdaaKplainA
import Derived.WalkKit
set_option linter.unusedVariables false
set_option linter.unusedSimpArgs false
namespace Go.Proofs.Ytdnkmgbbkggmdaa
open Go.RowKit
set_option linter.unusedSectionVars false
variable [Glb]
set_option maxRecDepth 10000
set_option maxHeartbeats 4000000
theorem l1Has_p (l : List Int) (x : Int) (h0 : l.length ≤ 100000000) : PC Try.prog 53 [.c (eI l), .c (dI x)] (.p (.c (dB (l.contains x)))) := by
  refine pc_intro Try.func53 rfl rfl rfl (by kernel_rfl) rfl rfl ?_; intro _
  repeat' (first | (refine so_is (.assign _) ?_; (refine so_q (qt_asC rfl) rfl ?_)) | refine so_nil ?_ | refine sk_seq ?_ | refine sk_block ?_ | refine sk_region ?_)
  apply sk_packC [0, 1, 5] [] rfl; (· (repeat (first | exact Pf.nil | apply Pf.cons (.c rfl (.d rfl))))); (· (repeat (exact Pb.nil)))
  refine sk_loopL [0, 1] [] (fun k => [(5, iN k)]) (fun k => []) (fun k => k ≤ l.length ∧ x ∉ l.take k) (fun k => l.length - k) (0) ?_ (by (repeat (first | exact trivial | refine ⟨(by (rfl)), ?_⟩))) (by (repeat (exact trivial))) ?_
  · simp
  intro k hk
  obtain ⟨hk, ht⟩ := hk
  by_cases h : k < l.length
  · have e := List.take_succ_eq_append_getElem h
    rw [← atZ_nat h] at e
    by_cases hx : atZ l k = x
    · have hm : l.contains x = true := by
        rw [List.contains_iff_mem, ← hx]
        exact mem_atZ h
      repeat' (first | (refine so_is (.assign _) ?_; (refine so_q (qt_asC rfl) rfl ?_)) | (refine so_is (.move _) ?_; (refine so_q (qt_mvC rfl) rfl ?_)) | (refine so_is (.call ⟨.builtin .len, _, #[29]⟩) ?_; (refine so_q (qt_len_d rfl (by kernel_rfl)) rfl ?_)) | (refine so_is (.binOp .lss 3 _ _ _) ?_; refine so_q (qt_lss rfl rfl) rfl ?_) | (refine so_is (.indexAddr 29 _ _) ?_; (refine so_q (qt_idxI rfl rfl (by kernel_rfl) (by (omega)) (by (omega))) rfl ?_)) | (refine so_is (.load 3 _) ?_; (refine so_q (qt_load_pt rfl (by kernel_rfl) rfl) rfl ?_)) | (refine so_is (.binOp .eql 3 _ _ _) ?_; refine so_q (qt_eql rfl rfl) rfl ?_) | (refine so_is (.binOp .add 3 _ _ _) ?_; refine so_q (qt_addI rfl rfl (by (omega))) rfl ?_) | refine so_nil ?_ | refine sk_seq ?_ | refine sk_block ?_ | refine sk_blk ?_ | refine sk_exit rfl ?_ | refine sk_skip ?_ | refine sk_region ?_ | refine sk_if rfl (fun hc => ?_) (fun hc => ?_))
      all_goals first | (exfalso; omega) | (exfalso; simp_all; done) | skip
      (apply sk_ret; apply ret_eq; (· apply RetOK.p; (· (apply GvA.cons; (· exact .tmp _); (· exact GvP.c (.lit _))); exact GvA.nil); (· (decide))))
      rw [hm]
    · repeat' (first | (refine so_is (.assign _) ?_; (refine so_q (qt_asC rfl) rfl ?_)) | (refine so_is (.move _) ?_; (refine so_q (qt_mvC rfl) rfl ?_)) | (refine so_is (.call ⟨.builtin .len, _, #[29]⟩) ?_; (refine so_q (qt_len_d rfl (by kernel_rfl)) rfl ?_)) | (refine so_is (.binOp .lss 3 _ _ _) ?_; refine so_q (qt_lss rfl rfl) rfl ?_) | (refine so_is (.indexAddr 29 _ _) ?_; (refine so_q (qt_idxI rfl rfl (by kernel_rfl) (by (omega)) (by (omega))) rfl ?_)) | (refine so_is (.load 3 _) ?_; (refine so_q (qt_load_pt rfl (by kernel_rfl) rfl) rfl ?_)) | (refine so_is (.binOp .eql 3 _ _ _) ?_; refine so_q (qt_eql rfl rfl) rfl ?_) | (refine so_is (.binOp .add 3 _ _ _) ?_; refine so_q (qt_addI rfl rfl (by (omega))) rfl ?_) | refine so_nil ?_ | refine sk_seq ?_ | refine sk_block ?_ | refine sk_blk ?_ | refine sk_exit rfl ?_ | refine sk_skip ?_ | refine sk_region ?_ | refine sk_if rfl (fun hc => ?_) (fun hc => ?_))
      all_goals first | (exfalso; omega) | (exfalso; simp_all; done) | skip
      refine sk_back ?_; refine ⟨k + 1, ?_, ?_, le_at rfl (by (repeat (first | exact trivial | refine ⟨(by (rfl)), ?_⟩))) (by (repeat (first | exact trivial | refine ⟨rfl, ?_⟩))) (by (repeat (exact trivial))) (by (repeat (exact trivial)))⟩
      · refine ⟨by omega, ?_⟩
        rw [e, List.mem_append, not_or, List.mem_singleton]
        exact ⟨ht, fun hh => hx hh.symm⟩
      · omega
  · repeat' (first | (refine so_is (.assign _) ?_; (refine so_q (qt_asC rfl) rfl ?_)) | (refine so_is (.move _) ?_; (refine so_q (qt_mvC rfl) rfl ?_)) | (refine so_is (.call ⟨.builtin .len, _, #[29]⟩) ?_; (refine so_q (qt_len_d rfl (by kernel_rfl)) rfl ?_)) | (refine so_is (.binOp .lss 3 _ _ _) ?_; refine so_q (qt_lss rfl rfl) rfl ?_) | (refine so_is (.indexAddr 29 _ _) ?_; (refine so_q (qt_idxI rfl rfl (by kernel_rfl) (by (omega)) (by (omega))) rfl ?_)) | (refine so_is (.load 3 _) ?_; (refine so_q (qt_load_pt rfl (by kernel_rfl) rfl) rfl ?_)) | (refine so_is (.binOp .eql 3 _ _ _) ?_; refine so_q (qt_eql rfl rfl) rfl ?_) | (refine so_is (.binOp .add 3 _ _ _) ?_; refine so_q (qt_addI rfl rfl (by (omega))) rfl ?_) | refine so_nil ?_ | refine sk_seq ?_ | refine sk_block ?_ | refine sk_blk ?_ | refine sk_exit rfl ?_ | refine sk_skip ?_ | refine sk_region ?_ | refine sk_if rfl (fun hc => ?_) (fun hc => ?_))
    all_goals first | (exfalso; omega) | skip
    have h8 : k = l.length := by omega
    subst h8
    rw [List.take_length] at ht
    (apply sk_ret; apply ret_eq; (· apply RetOK.p; (· (apply GvA.cons; (· exact .tmp _); (· exact GvP.c (.lit _))); exact GvA.nil); (· (decide))))
    simp [ht]

end Go.Proofs.Ytdnkmgbbkggmdaa

namespace Go.Proofs.Ytdnkmgbbkggmdaa
open Go.RowKit
set_option linter.unusedSectionVars false
variable [Glb]
set_option maxRecDepth 10000
set_option maxHeartbeats 4000000
theorem l1In_p (n lo hi : Int) : PC Try.prog 51 [.c (dI n), .c (dI lo), .c (dI hi)] (.p (.c (dB (inB n lo hi)))) := by
  refine pc_intro Try.func51 rfl rfl rfl (by kernel_rfl) rfl rfl ?_; intro _
  repeat' (first | (refine so_is (.assign _) ?_; (refine so_q (qt_asC rfl) rfl ?_)) | (refine so_is (.move _) ?_; (refine so_q (qt_mvC rfl) rfl ?_)) | (refine so_is (.binOp .geq 3 _ _ _) ?_; refine so_q (qt_geq rfl rfl) rfl ?_) | (refine so_is (.binOp .leq 3 _ _ _) ?_; refine so_q (qt_leq rfl rfl) rfl ?_) | (refine so_is (.pick _ _ _) ?_; (refine so_q (qt_pkC rfl rfl) rfl ?_)) | refine so_nil ?_ | refine so_g_no rfl rfl rfl rfl ?_ | refine so_g_yes rfl rfl rfl rfl ?_ | refine so_g_if rfl rfl (fun hg => ?_) (fun hg => ?_) | refine sk_seq ?_ | refine sk_region ?_)
  all_goals ((apply sk_ret; apply ret_eq; (· apply RetOK.p; (· (apply GvA.cons; (· exact .tmp _); (· exact GvP.c (.lit _))); exact GvA.nil); (· (decide)))))
  all_goals (simp [dB, inB, *]; try omega)

end Go.Proofs.Ytdnkmgbbkggmdaa

namespace Go.Proofs.Ytdnkmgbbkggmdaa
open Go.RowKit
set_option linter.unusedSectionVars false
variable [Glb]
set_option maxRecDepth 10000
set_option maxHeartbeats 4000000
theorem l2Bits_p (l : List Int) (n : Int) : PC Try.prog 52 [.c (eI l), .c (dI n)] (.p (.c (dB (bitsB l n)))) := by
  refine pc_intro Try.func52 rfl rfl rfl (by kernel_rfl) rfl rfl ?_; rintro ⟨hl, -⟩
  have hl := hl.len
  repeat' (first | (refine so_is (.assign _) ?_; (refine so_q (qt_asC rfl) rfl ?_)) | refine so_nil ?_ | refine sk_seq ?_ | refine sk_block ?_ | refine sk_region ?_)
  apply sk_packC [0, 1, 5] [] rfl; (· (repeat (first | exact Pf.nil | apply Pf.cons (.c rfl (.d rfl))))); (· (repeat (exact Pb.nil)))
  refine sk_loopL [0, 1] [] (fun k => [(5, iN k)]) (fun _ => []) (fun k => k ≤ l.length ∧ (l.take k).all (fun n => inB n 0 1) = true) (fun k => l.length - k) (0) ?_ (by (repeat (first | exact trivial | refine ⟨(by (rfl)), ?_⟩))) (by (repeat (exact trivial))) ?_
  · simp
  rintro k ⟨hk, ha⟩
  repeat' (first | (refine so_is (.assign _) ?_; (refine so_q (qt_asC rfl) rfl ?_)) | (refine so_is (.move _) ?_; (refine so_q (qt_mvC rfl) rfl ?_)) | (refine so_is (.call ⟨.builtin .len, _, #[29]⟩) ?_; (refine so_q (qt_len_d rfl (by kernel_rfl)) rfl ?_)) | (refine so_is (.binOp .lss 3 _ _ _) ?_; refine so_q (qt_lss rfl rfl) rfl ?_) | (refine so_is (.indexAddr 29 _ _) ?_; (refine so_q (qt_idxI rfl rfl (by kernel_rfl) (by (omega)) (by (omega))) rfl ?_)) | (refine so_is (.load 3 _) ?_; (refine so_q (qt_load_pt rfl (by kernel_rfl) rfl) rfl ?_)) | (refine so_is (.unOp .not 4 _) ?_; refine so_q (qt_not rfl) rfl ?_) | (refine so_is (.binOp .add 3 _ _ _) ?_; refine so_q (qt_addI rfl rfl (by (omega))) rfl ?_) | (refine so_is (.binOp .eql 3 _ _ _) ?_; refine so_q (qt_eql rfl rfl) rfl ?_) | (refine so_is (.call ⟨.value (.func 51), _, _⟩) ?_; (apply so_call0 (fid := 51); (· (repeat (first | exact SeA.nil | apply SeA.cons (.c (.d _))))); (· exact l1In_p _ _ _); (· rfl))) | refine so_nil ?_ | refine sk_seq ?_ | refine sk_block ?_ | refine sk_blk ?_ | refine sk_exit rfl ?_ | refine sk_skip ?_ | refine sk_region ?_ | refine sk_if rfl (fun hc => ?_) (fun hc => ?_) | refine sk_not rfl (fun hc => ?_) (fun hc => ?_))
  · rename_i hk'
    rw [atZ_nat (by omega)] at hc
    (apply sk_ret; apply ret_eq; (· apply RetOK.p; (· (apply GvA.cons; (· exact .tmp _); (· exact GvP.c (.lit _))); exact GvA.nil); (· (decide))))
    rw [bitsB, allB, all_f (by omega) hc]; simp
  · rename_i hk'
    rw [atZ_nat (by omega)] at hc
    refine sk_back ?_; refine ⟨k + 1, ?_, ?_, le_at rfl (by (repeat (first | exact trivial | refine ⟨(by (rfl)), ?_⟩))) (by (repeat (first | exact trivial | refine ⟨rfl, ?_⟩))) (by (repeat (exact trivial))) (by (repeat (exact trivial)))⟩
    · exact ⟨by omega, by rw [take_succ_all _ _ _ (by omega), ha, hc]; rfl⟩
    · omega
  · (apply sk_ret; apply ret_eq; (· apply RetOK.p; (· (apply GvA.cons; (· exact .tmp _); (· exact GvP.c (.lit _))); exact GvA.nil); (· (decide))))
    rw [bitsB, allB, all_t (by omega) ha]; simp

end Go.Proofs.Ytdnkmgbbkggmdaa

namespace Go.Proofs.Ytdnkmgbbkggmdaa
open Go.RowKit
set_option linter.unusedSectionVars false
variable [Glb]
set_option maxRecDepth 10000
set_option maxHeartbeats 4000000
theorem l2Sizes_p (x y : Int) : PC Try.prog 50 [.c (dI x), .c (dI y)] (.p (.c (dB (sizeB x y)))) := by
  refine pc_intro Try.func50 rfl rfl rfl (by kernel_rfl) rfl rfl ?_; intro _
  repeat' (first | (refine so_is (.assign _) ?_; (refine so_q (qt_asC rfl) rfl ?_)) | (refine so_is (.move _) ?_; (refine so_q (qt_mvC rfl) rfl ?_)) | (refine so_is (.pick _ _ _) ?_; (refine so_q (qt_pkC rfl rfl) rfl ?_)) | (refine so_is (.call ⟨.value (.func 51), _, _⟩) ?_; (apply so_call0 (fid := 51); (· (repeat (first | exact SeA.nil | apply SeA.cons (.c (.d _))))); (· exact l1In_p _ _ _); (· rfl))) | refine so_nil ?_ | refine so_g_no rfl rfl rfl rfl ?_ | refine so_g_yes rfl rfl rfl rfl ?_ | refine so_g_b rfl rfl (fun hg => ?_) (fun hg => ?_) | refine sk_seq ?_ | refine sk_region ?_)
  all_goals (apply sk_ret; apply ret_eq; (· apply RetOK.p; (· (apply GvA.cons; (· exact .tmp _); (· exact GvP.c (.lit _))); exact GvA.nil); (· (decide))))
  all_goals ((simp_all [sizeB]; done))

end Go.Proofs.Ytdnkmgbbkggmdaa

namespace Go.Proofs.Ytdnkmgbbkggmdaa
open Go.RowKit
set_option linter.unusedSectionVars false
variable [Glb]
set_option maxRecDepth 10000
set_option maxHeartbeats 4000000
theorem l4Game_p (x y : Int) (ws : List Int) (wi : List (List Int)) : PC Try.prog 27 [.g [dI x, dI y, eI ws, eII wi]] (.p (.c (dB (gameB x y ws wi)))) := by
  refine pc_intro Try.func27 rfl rfl rfl (by kernel_rfl) rfl rfl ?_; rintro ⟨hl, -⟩
  have hl := (hl _ (List.mem_cons_of_mem _ (List.mem_cons_of_mem _ (List.mem_cons_self ..)))).len
  have hw := wrap_mul3 (x := x) (y := y)
  repeat' (first | (refine so_is (.box 36 _) ?_; refine so_box rfl rfl ?_) | (refine so_is (.assign _) ?_; (refine so_q (qt_asC rfl) rfl ?_)) | (refine so_is (.fieldAddr 36 _ 0) ?_; (refine so_q (qt_fld_lp (off := 0) rfl (by kernel_rfl)) rfl ?_)) | (refine so_is (.load 3 _) ?_; (refine so_q (qt_load_box rfl rfl (by kernel_rfl) rfl) rfl ?_)) | (refine so_is (.fieldAddr 36 _ 1) ?_; (refine so_q (qt_fld_lp (off := 1) rfl (by kernel_rfl)) rfl ?_)) | (refine so_is (.unOp .not 4 _) ?_; refine so_q (qt_not rfl) rfl ?_) | (refine so_is (.move _) ?_; (refine so_q (qt_mvC rfl) rfl ?_)) | (refine so_is (.fieldAddr 36 _ 2) ?_; (refine so_q (qt_fld_lp (off := 2) rfl (by kernel_rfl)) rfl ?_)) | (refine so_is (.load 29 _) ?_; (refine so_q (qt_load_box rfl rfl (by kernel_rfl) rfl) rfl ?_)) | (refine so_is (.call ⟨.builtin .len, _, #[29]⟩) ?_; (refine so_q (qt_len_d rfl (by kernel_rfl)) rfl ?_)) | (refine so_is (.binOp .mul 3 _ _ _) ?_; (refine so_q (qt_mul rfl rfl) rfl ?_)) | (refine so_is (.binOp .neq 3 _ _ _) ?_; refine so_q (qt_neq rfl rfl) rfl ?_) | (refine so_is (.pick _ _ _) ?_; (refine so_q (qt_pkC rfl rfl) rfl ?_)) | (refine so_is (.fieldAddr 36 _ 3) ?_; (refine so_q (qt_fld_lp (off := 3) rfl (by kernel_rfl)) rfl ?_)) | (refine so_is (.load 30 _) ?_; (refine so_q (qt_load_box rfl rfl (by kernel_rfl) rfl) rfl ?_)) | (refine so_is (.call ⟨.builtin .len, _, #[30]⟩) ?_; (refine so_q (qt_len_d rfl (by kernel_rfl)) rfl ?_)) | (refine so_is (.call ⟨.value (.func 50), _, _⟩) ?_; (apply so_call0 (fid := 50); (· (repeat (first | exact SeA.nil | apply SeA.cons (.c (.d _))))); (· exact l2Sizes_p _ _); (· rfl))) | refine so_nil ?_ | refine so_g_no rfl rfl rfl rfl ?_ | refine so_g_yes rfl rfl rfl rfl ?_ | refine so_g_if rfl rfl (fun hg => ?_) (fun hg => ?_) | refine so_g_b rfl rfl (fun hg => ?_) (fun hg => ?_) | refine sk_seq ?_ | refine sk_block ?_ | refine sk_skip ?_ | refine sk_region ?_ | refine sk_true rfl ?_ | refine sk_if rfl (fun hc => ?_) (fun hc => ?_))
  · (apply sk_ret; apply ret_eq; (· apply RetOK.p; (· (apply GvA.cons; (· exact .tmp _); (· exact GvP.c (.lit _))); exact GvA.nil); (· (decide))))
    have h9 : sizeB x y = false := by simpa using hg
    simp [gameB, h9]
  · (apply sk_ret; apply ret_eq; (· apply RetOK.p; (· (apply GvA.cons; (· exact .tmp _); (· exact GvP.c (.lit _))); exact GvA.nil); (· (decide))))
    have h9 : ¬ (ws.length : Int) = x * y := by rw [← hw (by simp_all)]; omega
    simp [gameB, h9]
  · (apply sk_ret; apply ret_eq; (· apply RetOK.p; (· (apply GvA.cons; (· exact .tmp _); (· exact GvP.c (.lit _))); exact GvA.nil); (· (decide))))
    have h9 : ¬ (wi.length : Int) = x * y := by rw [← hw (by simp_all)]; omega
    simp [gameB, h9]
  have hs : sizeB x y = true := by simp_all
  have h1 : (ws.length : Int) = x * y := by rw [← hw hs]; simp_all
  have h4 : (wi.length : Int) = x * y := by rw [← hw hs]; simp_all
  have hm := mul_bd3 hs
  apply sk_packC [1, 3, 4] [1] rfl; (· (repeat (first | exact Pf.nil | apply Pf.cons (.c rfl (.d rfl)) | apply Pf.cons (.c rfl (.lp rfl))))); (· (repeat (first | exact Pb.nil | (apply Pb.cons; (· apply Nb.box rfl; (repeat (first | exact Ncs.nil rfl | (apply Ncs.cons rfl; (· (exact .d rfl))))))))))
  refine sk_loopL [1] [1] (fun k => [(4, iN k), (3, iZ (sum64 (ws.take k)))]) (fun _ => []) (fun k => k ≤ ws.length ∧ (ws.take k).all (fun m => inB m 0 99) = true ∧ (wi.take k).all (fun l => bitsB l 4) = true) (fun k => ws.length - k) (0) ?_ (by (repeat (first | exact trivial | refine ⟨(by (rfl)), ?_⟩))) (by (repeat (exact trivial))) ?_
  · simp
  rintro k ⟨hk, ha, hb⟩
  repeat' (first | (refine so_is (.assign _) ?_; (refine so_q (qt_asC rfl) rfl ?_)) | (refine so_is (.load 3 _) ?_; (refine so_q (qt_load_pt rfl (by kernel_rfl) rfl) rfl ?_)) | (refine so_is (.unOp .not 4 _) ?_; refine so_q (qt_not rfl) rfl ?_) | (refine so_is (.move _) ?_; (refine so_q (qt_mvC rfl) rfl ?_)) | (refine so_is (.fieldAddr 36 _ 2) ?_; (refine so_q (qt_fld_lp (off := 2) rfl (by kernel_rfl)) rfl ?_)) | (refine so_is (.load 29 _) ?_; (first | refine so_q (qt_load_box rfl rfl (by kernel_rfl) rfl) rfl ?_ | refine so_q (qt_load_pt rfl (by kernel_rfl) rfl) rfl ?_)) | (refine so_is (.call ⟨.builtin .len, _, #[29]⟩) ?_; (refine so_q (qt_len_d rfl (by kernel_rfl)) rfl ?_)) | (refine so_is (.pick _ _ _) ?_; (refine so_q (qt_pkC rfl rfl) rfl ?_)) | (refine so_is (.fieldAddr 36 _ 3) ?_; (refine so_q (qt_fld_lp (off := 3) rfl (by kernel_rfl)) rfl ?_)) | (refine so_is (.load 30 _) ?_; (refine so_q (qt_load_box rfl rfl (by kernel_rfl) rfl) rfl ?_)) | (refine so_is (.binOp .lss 3 _ _ _) ?_; refine so_q (qt_lss rfl rfl) rfl ?_) | (refine so_is (.indexAddr 29 _ _) ?_; (refine so_q (qt_idxI rfl rfl (by kernel_rfl) (by (omega)) (by (omega))) rfl ?_)) | (refine so_is (.indexAddr 30 _ _) ?_; (refine so_q (qt_idxII rfl rfl (by kernel_rfl) (by (omega)) (by (omega))) rfl ?_)) | (refine so_is (.binOp .add 3 _ _ _) ?_; (first | refine so_q (qt_addI rfl rfl (by (omega))) rfl ?_ | refine so_q (qt_add rfl rfl) rfl ?_)) | (refine so_is (.binOp .gtr 3 _ _ _) ?_; refine so_q (qt_gtr rfl rfl) rfl ?_) | (refine so_is (.call ⟨.value (.func 51), _, _⟩) ?_; (apply so_call0 (fid := 51); (· (repeat (first | exact SeA.nil | apply SeA.cons (.c (.d _))))); (· exact l1In_p _ _ _); (· rfl))) | (refine so_is (.call ⟨.value (.func 52), _, _⟩) ?_; (apply so_call0 (fid := 52); (· (repeat (first | exact SeA.nil | apply SeA.cons (.c (.d _))))); (· exact l2Bits_p _ _); (· rfl))) | refine so_nil ?_ | refine so_g_no rfl rfl rfl rfl ?_ | refine so_g_yes rfl rfl rfl rfl ?_ | refine so_g_b rfl rfl (fun hg => ?_) (fun hg => ?_) | refine sk_seq ?_ | refine sk_block ?_ | refine sk_blk ?_ | refine sk_exit rfl ?_ | refine sk_skip ?_ | refine sk_region ?_ | refine sk_true rfl ?_ | refine sk_if rfl (fun hc => ?_) (fun hc => ?_) | refine sk_not rfl (fun hc => ?_) (fun hc => ?_))
  · have hk2 : k < ws.length := by omega
    rw [atZ_nat hk2] at hg
    (apply sk_ret; apply ret_eq; (· apply RetOK.p; (· (apply GvA.cons; (· exact .tmp _); (· exact GvP.c (.lit _))); exact GvA.nil); (· (decide))))
    have h9 : allB ws 0 99 = false := all_f hk2 (by simpa using hg)
    simp [gameB, h9]
  · have hk2 : k < wi.length := by omega
    rw [atZ_nat hk2] at hc
    (apply sk_ret; apply ret_eq; (· apply RetOK.p; (· (apply GvA.cons; (· exact .tmp _); (· exact GvP.c (.lit _))); exact GvA.nil); (· (decide))))
    simp only [gameB, all_f (p := fun l => bitsB l 4) hk2 hc]; simp
  · have hk2 : k < ws.length := by omega
    have hk3 : k < wi.length := by omega
    rw [atZ_nat hk2] at hg
    rw [atZ_nat hk3] at hc
    have h9 : inB ws[k] 0 99 = true := by simpa using hg
    refine sk_back ?_; refine ⟨k + 1, ?_, ?_, le_at rfl (by (repeat (first | exact trivial | refine ⟨(by (first | rfl | (refine int_eq rfl ?_; ((simp  [sum64_snoc hk2, atZ_nat hk2]; done))))), ?_⟩))) (by (repeat (first | exact trivial | refine ⟨rfl, ?_⟩))) (by (repeat (exact trivial))) (by (repeat (first | exact trivial | refine ⟨.inr rfl, ?_⟩)))⟩
    · exact ⟨by omega, by rw [take_succ_all _ _ _ hk2, ha, h9]; rfl, by rw [take_succ_all _ _ _ hk3, hb, hc]; rfl⟩
    · omega
  · have : k = ws.length := by omega
    subst this
    have e : ws.length = wi.length := by omega
    rw [List.take_length] at ha
    rw [e, List.take_length] at hb
    have h5 := sum64_small (l := ws) (m := 99) (by omega) ha (by omega) (by omega)
    (apply sk_ret; apply ret_eq; (· apply RetOK.p; (· (apply GvA.cons; (· exact .tmp _); (· exact GvP.c (.lit _))); exact GvA.nil); (· (decide))))
    have ha2 : allB ws 0 99 = true := ha
    simp [gameB, hs, h1, h4, ha2, hb]
    rw [h5.1]
    by_cases h0 : ws.sum = 0 <;> simp [h0] <;> omega

end Go.Proofs.Ytdnkmgbbkggmdaa

namespace Go.Proofs.Ytdnkmgbbkggmdaa
open Go.RowKit
set_option linter.unusedSectionVars false
variable [Glb]
set_option maxRecDepth 10000
set_option maxHeartbeats 4000000
theorem l4Order_p (l : List Int) (n : Int) (h : l.length ≤ 1048576) (h1 : 1 ≤ n ∧ n ≤ 3) : PC Try.prog 41 [.c (eI l), .c (dI n)] (.p (.c (dB (orderB l n)))) := by
  obtain ⟨m, rfl⟩ : ∃ m : Nat, n = m := ⟨n.toNat, by omega⟩
  refine pc_intro Try.func41 rfl rfl rfl (by kernel_rfl) rfl rfl ?_; intro _
  repeat' (first | (refine so_is (.assign _) ?_; (refine so_q (qt_asC rfl) rfl ?_)) | refine so_nil ?_ | refine sk_seq ?_ | refine sk_block ?_ | refine sk_region ?_)
  apply sk_packC [0, 1, 5] [] rfl; (· (repeat (first | exact Pf.nil | apply Pf.cons (.c rfl (.d rfl))))); (· (repeat (exact Pb.nil)))
  refine sk_loopL [0, 1] [] (fun i => [(5, iN i)]) (fun _ => []) (fun i => i ≤ m ∧ ∀ k : Nat, k < i → (k : Int) ∈ l) (fun i => m - i) (0) ?_ (by (repeat (first | exact trivial | refine ⟨(by (rfl)), ?_⟩))) (by (repeat (exact trivial))) ?_
  · exact ⟨Nat.zero_le _, fun k hk => by omega⟩
  rintro i ⟨hi, hk⟩
  by_cases hi2 : i < m
  · by_cases hin : (i : Int) ∈ l
    · repeat' (first | (refine so_is (.assign _) ?_; (refine so_q (qt_asC rfl) rfl ?_)) | (refine so_is (.move _) ?_; (refine so_q (qt_mvC rfl) rfl ?_)) | (refine so_is (.binOp .lss 3 _ _ _) ?_; refine so_q (qt_lss rfl rfl) rfl ?_) | (refine so_is (.unOp .not 4 _) ?_; refine so_q (qt_not rfl) rfl ?_) | (refine so_is (.binOp .add 3 _ _ _) ?_; refine so_q (qt_addI rfl rfl (by (omega))) rfl ?_) | (refine so_is (.call ⟨.builtin .len, _, #[29]⟩) ?_; (refine so_q (qt_len_d rfl (by kernel_rfl)) rfl ?_)) | (refine so_is (.binOp .eql 3 _ _ _) ?_; refine so_q (qt_eql rfl rfl) rfl ?_) | (refine so_is (.call ⟨.value (.func 53), _, _⟩) ?_; (apply so_call0 (fid := 53); (· (repeat (first | exact SeA.nil | apply SeA.cons (.c (.d _))))); (· exact l1Has_p _ _ (by omega)); (· rfl))) | refine so_nil ?_ | refine sk_seq ?_ | refine sk_block ?_ | refine sk_blk ?_ | refine sk_exit rfl ?_ | refine sk_skip ?_ | refine sk_region ?_ | refine sk_if rfl (fun hc => ?_) (fun hc => ?_) | refine sk_not rfl (fun hc => ?_) (fun hc => ?_))
      all_goals first | (exfalso; omega) | (exfalso; simp_all; done) | skip
      refine sk_back ?_; refine ⟨i + 1, ?_, ?_, le_at rfl (by (repeat (first | exact trivial | refine ⟨(by (rfl)), ?_⟩))) (by (repeat (first | exact trivial | refine ⟨rfl, ?_⟩))) (by (repeat (exact trivial))) (by (repeat (exact trivial)))⟩
      · refine ⟨by omega, fun k h => ?_⟩
        by_cases hki : k = i
        · subst hki; exact hin
        · exact hk k (by omega)
      · omega
    · have hno : orderB l (m : Int) = false := by
        rw [← Bool.not_eq_true]
        intro h
        simp only [orderB, Bool.and_eq_true, List.all_eq_true, List.contains_iff_mem] at h
        exact hin (h.1 _ (cntL_has (by omega)))
      repeat' (first | (refine so_is (.assign _) ?_; (refine so_q (qt_asC rfl) rfl ?_)) | (refine so_is (.move _) ?_; (refine so_q (qt_mvC rfl) rfl ?_)) | (refine so_is (.binOp .lss 3 _ _ _) ?_; refine so_q (qt_lss rfl rfl) rfl ?_) | (refine so_is (.unOp .not 4 _) ?_; refine so_q (qt_not rfl) rfl ?_) | (refine so_is (.binOp .add 3 _ _ _) ?_; refine so_q (qt_addI rfl rfl (by (omega))) rfl ?_) | (refine so_is (.call ⟨.builtin .len, _, #[29]⟩) ?_; (refine so_q (qt_len_d rfl (by kernel_rfl)) rfl ?_)) | (refine so_is (.binOp .eql 3 _ _ _) ?_; refine so_q (qt_eql rfl rfl) rfl ?_) | (refine so_is (.call ⟨.value (.func 53), _, _⟩) ?_; (apply so_call0 (fid := 53); (· (repeat (first | exact SeA.nil | apply SeA.cons (.c (.d _))))); (· exact l1Has_p _ _ (by omega)); (· rfl))) | refine so_nil ?_ | refine sk_seq ?_ | refine sk_block ?_ | refine sk_blk ?_ | refine sk_exit rfl ?_ | refine sk_skip ?_ | refine sk_region ?_ | refine sk_if rfl (fun hc => ?_) (fun hc => ?_) | refine sk_not rfl (fun hc => ?_) (fun hc => ?_))
      all_goals first | (exfalso; omega) | (exfalso; simp_all; done) | skip
      (apply sk_ret; apply ret_eq; (· apply RetOK.p; (· (apply GvA.cons; (· exact .tmp _); (· exact GvP.c (.lit _))); exact GvA.nil); (· (decide))))
      rw [hno]
  · have e : i = m := by omega
    subst e
    have hall : ((cntL (i : Int).toNat).all fun k => l.contains k) = true := by
      simp only [List.all_eq_true, List.contains_iff_mem]
      intro x hx
      have := cntL_mem hx
      have h2 := hk x.toNat (by omega)
      rwa [Int.toNat_of_nonneg (by omega)] at h2
    have e2 : orderB l (i : Int) = decide ((l.length : Int) = i) := by unfold orderB; rw [hall]; rfl
    rw [e2]
    repeat' (first | (refine so_is (.assign _) ?_; (refine so_q (qt_asC rfl) rfl ?_)) | (refine so_is (.move _) ?_; (refine so_q (qt_mvC rfl) rfl ?_)) | (refine so_is (.binOp .lss 3 _ _ _) ?_; refine so_q (qt_lss rfl rfl) rfl ?_) | (refine so_is (.unOp .not 4 _) ?_; refine so_q (qt_not rfl) rfl ?_) | (refine so_is (.binOp .add 3 _ _ _) ?_; refine so_q (qt_addI rfl rfl (by (omega))) rfl ?_) | (refine so_is (.call ⟨.builtin .len, _, #[29]⟩) ?_; (refine so_q (qt_len_d rfl (by kernel_rfl)) rfl ?_)) | (refine so_is (.binOp .eql 3 _ _ _) ?_; refine so_q (qt_eql rfl rfl) rfl ?_) | (refine so_is (.call ⟨.value (.func 53), _, _⟩) ?_; (apply so_call0 (fid := 53); (· (repeat (first | exact SeA.nil | apply SeA.cons (.c (.d _))))); (· exact l1Has_p _ _ (by omega)); (· rfl))) | refine so_nil ?_ | refine sk_seq ?_ | refine sk_block ?_ | refine sk_blk ?_ | refine sk_exit rfl ?_ | refine sk_skip ?_ | refine sk_region ?_ | refine sk_if rfl (fun hc => ?_) (fun hc => ?_) | refine sk_not rfl (fun hc => ?_) (fun hc => ?_))
    all_goals first | (exfalso; omega) | skip
    (apply sk_ret; apply ret_eq; (· apply RetOK.p; (· (apply GvA.cons; (· exact .tmp _); (· exact GvP.c (.lit _))); exact GvA.nil); (· (decide))))
    rfl
theorem spAskGame_p (X Y : Int) (ws : List Int) (wi : List (List Int)) (fs ss : List Int) (hf : fs.length ≤ 1048576) (hs : ss.length ≤ 1048576) : PC Try.prog 15 [.g [dI X, dI Y, eI ws, eII wi], .c (eI fs), .c (eI ss)]
    (.t [.g [dI (whenN (askB X Y ws wi fs ss) fs.length), dI (whenN (askB X Y ws wi fs ss) ss.length), eI (whenA (askB X Y ws wi fs ss) (askGW Y ws fs ss)), eII (whenL (askB X Y ws wi fs ss) (askGR Y wi fs ss))], .c (dB (askB X Y ws wi fs ss))]) := by
  cases hG : gameB X Y ws wi with
  | false =>
    have e : askB X Y ws wi fs ss = false := by simp [askB, hG]
    rw [e]
    refine pc_intro Try.func15 rfl rfl rfl (by kernel_rfl) rfl rfl ?_; intro _
    repeat' (first | (refine so_is (.box 36 _) ?_; refine so_box rfl rfl ?_) | (refine so_is (.alloc 36) ?_; refine so_alloc (zs := [.int .i64 0, .int .i64 0, .slice none 0 0, .slice none 0 0]) (by kernel_rfl) rfl ?_) | (refine so_is (.assign _) ?_; (refine so_q (qt_asC rfl) rfl ?_)) | (refine so_is (.load 36 _) ?_; (refine so_q (qt_load_boxs rfl rfl (by kernel_rfl : tAgg _ 36 4 = true) rfl) rfl ?_)) | (refine so_is (.unOp .not 4 _) ?_; refine so_q (qt_not rfl) rfl ?_) | (refine so_is (.move _) ?_; (refine so_q (qt_mvC rfl) rfl ?_)) | (refine so_is (.fieldAddr 36 _ 0) ?_; (refine so_q (qt_fld_lp (off := 0) rfl (by kernel_rfl)) rfl ?_)) | (refine so_is (.load 3 _) ?_; (refine so_q (qt_load_box rfl rfl (by kernel_rfl) rfl) rfl ?_)) | (refine so_is (.pick _ _ _) ?_; (refine so_q (qt_pkC rfl rfl) rfl ?_)) | (refine so_is (.build 36 _) ?_; refine so_q (qt_build (cs := [_, _, _, _]) [(0, 1), (1, 1), (2, 1), (3, 1)] [.int .i64 0, .int .i64 0, .slice none 0 0, .slice none 0 0] (by kernel_rfl) (by kernel_rfl) rfl) rfl ?_) | (refine so_is (.store 36 _ _) ?_; (refine so_store_box rfl rfl rfl (by kernel_rfl) rfl rfl ?_)) | (refine so_is (.call ⟨.value (.func 27), _, _⟩) ?_; (apply so_call0 (fid := 27); (· (repeat (first | exact SeA.nil | (apply SeA.cons; (· (apply SeP.g; (repeat (first | exact SeL.nil | apply SeL.cons (.d _))))))))); (· exact l4Game_p _ _ _ _); (· rfl))) | refine so_nil ?_ | refine so_g_no rfl rfl rfl rfl ?_ | refine so_g_yes rfl rfl rfl rfl ?_ | refine so_g_b rfl rfl (fun hg => ?_) (fun hg => ?_) | refine sk_seq ?_ | refine sk_region ?_ | refine sk_true rfl ?_)
    all_goals first | (exfalso; simp_all; done) | skip
    all_goals (apply sk_ret; apply ret_eq; (· apply RetOK.t; (· (apply GvA.cons; (· (apply RV.cellN (n := 4); (· rfl); (· rfl); (· kernel_rfl); (· rfl))); (· (apply GvP.g; (· (apply GvL.cons (.lit _)); (apply GvL.cons (.lit _)); ((apply GvL.cons (.nil 1 (by decide)))); ((apply GvL.cons (.nil 1 (by decide)))); exact GvL.nil)))); (apply GvA.cons; (· exact .tmp _); (· exact GvP.c (.lit _))); exact GvA.nil); (· rfl); (· (decide))))
    all_goals simp [whenN, whenL, whenA]
  | true =>
    have g := gameB_spec hG
    have g1 := g.x1; have g2 := g.x3; have g3 := g.y1; have g4 := g.y3
    cases e : askB X Y ws wi fs ss with
    | false =>
      have e' := e
      simp only [askB, hG, Bool.true_and] at e'
      refine pc_intro Try.func15 rfl rfl rfl (by kernel_rfl) rfl rfl ?_; intro _
      repeat' (first | (refine so_is (.box 36 _) ?_; refine so_box rfl rfl ?_) | (refine so_is (.alloc 36) ?_; refine so_alloc (zs := [.int .i64 0, .int .i64 0, .slice none 0 0, .slice none 0 0]) (by kernel_rfl) rfl ?_) | (refine so_is (.assign _) ?_; (refine so_q (qt_asC rfl) rfl ?_)) | (refine so_is (.load 36 _) ?_; (refine so_q (qt_load_boxs rfl rfl (by kernel_rfl : tAgg _ 36 4 = true) rfl) rfl ?_)) | (refine so_is (.unOp .not 4 _) ?_; refine so_q (qt_not rfl) rfl ?_) | (refine so_is (.move _) ?_; (refine so_q (qt_mvC rfl) rfl ?_)) | (refine so_is (.fieldAddr 36 _ 0) ?_; (refine so_q (qt_fld_lp (off := 0) rfl (by kernel_rfl)) rfl ?_)) | (refine so_is (.load 3 _) ?_; (refine so_q (qt_load_box rfl rfl (by kernel_rfl) rfl) rfl ?_)) | (refine so_is (.pick _ _ _) ?_; (refine so_q (qt_pkC rfl rfl) rfl ?_)) | (refine so_is (.fieldAddr 36 _ 1) ?_; (refine so_q (qt_fld_lp (off := 1) rfl (by kernel_rfl)) rfl ?_)) | (refine so_is (.build 36 _) ?_; refine so_q (qt_build (cs := [_, _, _, _]) [(0, 1), (1, 1), (2, 1), (3, 1)] [.int .i64 0, .int .i64 0, .slice none 0 0, .slice none 0 0] (by kernel_rfl) (by kernel_rfl) rfl) rfl ?_) | (refine so_is (.store 36 _ _) ?_; (refine so_store_box rfl rfl rfl (by kernel_rfl) rfl rfl ?_)) | (refine so_is (.call ⟨.value (.func 27), _, _⟩) ?_; (apply so_call0 (fid := 27); (· (repeat (first | exact SeA.nil | (apply SeA.cons; (· (apply SeP.g; (repeat (first | exact SeL.nil | apply SeL.cons (.d _))))))))); (· exact l4Game_p _ _ _ _); (· rfl))) | (refine so_is (.call ⟨.value (.func 41), _, _⟩) ?_; (apply so_call0 (fid := 41); (· (repeat (first | exact SeA.nil | apply SeA.cons (.c (.d _))))); (· exact l4Order_p _ _ (by omega) (by omega)); (· rfl))) | refine so_nil ?_ | refine so_g_no rfl rfl rfl rfl ?_ | refine so_g_yes rfl rfl rfl rfl ?_ | refine so_g_b rfl rfl (fun hg => ?_) (fun hg => ?_) | refine sk_seq ?_ | refine sk_skip ?_ | refine sk_region ?_ | refine sk_true rfl ?_ | refine sk_not rfl (fun hc => ?_) (fun hc => ?_))
      all_goals first | (exfalso; simp_all; done) | skip
      all_goals (apply sk_ret; apply ret_eq; (· apply RetOK.t; (· (apply GvA.cons; (· (apply RV.cellN (n := 4); (· rfl); (· rfl); (· kernel_rfl); (· rfl))); (· (apply GvP.g; (· (apply GvL.cons (.lit _)); (apply GvL.cons (.lit _)); ((apply GvL.cons (.nil 1 (by decide)))); ((apply GvL.cons (.nil 1 (by decide)))); exact GvL.nil)))); (apply GvA.cons; (· exact .tmp _); (· exact GvP.c (.lit _))); exact GvA.nil); (· rfl); (· (decide))))
      all_goals simp [whenN, whenL, whenA]
    | true =>
      have e' := e
      simp only [askB, hG, Bool.true_and, Bool.and_eq_true] at e'
      have l1 := orderB_len e'.1
      have l2 := orderB_len e'.2
      have m1 : ∀ x ∈ fs, 0 ≤ x ∧ x < X := fun x hx => orderB_mem (by omega) e'.1 hx
      have m2 : ∀ x ∈ ss, 0 ≤ x ∧ x < Y := fun x hx => orderB_mem (by omega) e'.2 hx
      refine pc_intro Try.func15 rfl rfl rfl (by kernel_rfl) rfl rfl ?_; intro _
      repeat' (first | (refine so_is (.box 36 _) ?_; refine so_box rfl rfl ?_) | (refine so_is (.alloc 36) ?_; refine so_alloc (zs := [.int .i64 0, .int .i64 0, .slice none 0 0, .slice none 0 0]) (by kernel_rfl) rfl ?_) | (refine so_is (.assign _) ?_; (refine so_q (qt_asC rfl) rfl ?_)) | (refine so_is (.load 36 _) ?_; (refine so_q (qt_load_boxs rfl rfl (by kernel_rfl : tAgg _ 36 4 = true) rfl) rfl ?_)) | (refine so_is (.unOp .not 4 _) ?_; refine so_q (qt_not rfl) rfl ?_) | (refine so_is (.move _) ?_; (refine so_q (qt_mvC rfl) rfl ?_)) | (refine so_is (.fieldAddr 36 _ 0) ?_; (refine so_q (qt_fld_lp (off := 0) rfl (by kernel_rfl)) rfl ?_)) | (refine so_is (.load 3 _) ?_; (refine so_q (qt_load_box rfl rfl (by kernel_rfl) rfl) rfl ?_)) | (refine so_is (.pick _ _ _) ?_; (refine so_q (qt_pkC rfl rfl) rfl ?_)) | (refine so_is (.fieldAddr 36 _ 1) ?_; (refine so_q (qt_fld_lp (off := 1) rfl (by kernel_rfl)) rfl ?_)) | (refine so_is (.build 36 _) ?_; refine so_q (qt_build (cs := [_, _, _, _]) [(0, 1), (1, 1), (2, 1), (3, 1)] [.int .i64 0, .int .i64 0, .slice none 0 0, .slice none 0 0] (by kernel_rfl) (by kernel_rfl) rfl) rfl ?_) | (refine so_is (.store 36 _ _) ?_; (refine so_store_box rfl rfl rfl (by kernel_rfl) rfl rfl ?_)) | (refine so_is (.call ⟨.value (.func 27), _, _⟩) ?_; (apply so_call0 (fid := 27); (· (repeat (first | exact SeA.nil | (apply SeA.cons; (· (apply SeP.g; (repeat (first | exact SeL.nil | apply SeL.cons (.d _))))))))); (· exact l4Game_p _ _ _ _); (· rfl))) | (refine so_is (.call ⟨.value (.func 41), _, _⟩) ?_; (apply so_call0 (fid := 41); (· (repeat (first | exact SeA.nil | apply SeA.cons (.c (.d _))))); (· exact l4Order_p _ _ (by omega) (by omega)); (· rfl))) | (refine so_is (.call ⟨.value (.func 30), _, _⟩) ?_; (apply so_callO0 (fid := 30); (· (repeat (first | exact SeA.nil | apply SeA.cons (.c (.d _)) | (apply SeA.cons; (· (apply SeP.g; (repeat (first | exact SeL.nil | apply SeL.cons (.d _))))))))); (· exact l4Ask_p _ _ _ _ _ _ hG m1 m2 (by omega) (by omega)); (· rfl); (· rfl))) | refine so_nil ?_ | refine so_g_no rfl rfl rfl rfl ?_ | refine so_g_yes rfl rfl rfl rfl ?_ | refine so_g_b rfl rfl (fun hg => ?_) (fun hg => ?_) | refine sk_seq ?_ | refine sk_skip ?_ | refine sk_region ?_ | refine sk_true rfl ?_ | refine sk_not rfl (fun hc => ?_) (fun hc => ?_))
      all_goals first | (exfalso; simp_all; done) | skip
      all_goals (apply sk_ret; apply ret_eq; (· apply RetOK.t; (· (apply GvA.cons; (· (apply RV.cellN (n := 4); (· rfl); (· rfl); (· kernel_rfl); (· rfl))); (· (apply GvP.g; (· (apply GvL.cons (.lit _)); (apply GvL.cons (.lit _)); ((apply GvL.cons (.row _ _ _ _ rfl (by ((simp; done)))))); ((apply GvL.cons (.row _ _ _ _ rfl (by ((simp; done)))))); exact GvL.nil)))); (apply GvA.cons; (· exact .tmp _); (· exact GvP.c (.lit _))); exact GvA.nil); (· rfl); (· (decide))))
      all_goals simp [whenN, whenL, whenA, askGW, askGR]

end Go.Proofs.Ytdnkmgbbkggmdaa

namespace Go.Proofs.Ytdnkmgbbkggmdaa
open Go.RowKit
set_option linter.unusedSectionVars false
variable [Glb]
set_option maxRecDepth 10000
set_option maxHeartbeats 4000000
theorem FnExactAskGame_p (a0x : Int) (a0y : Int) (a0we : List Int) (a0wi : List (List Int)) (a1 : List Int) (a2 : List Int) : PC Try.prog 5 [.g [dI a0x, dI a0y, eI a0we, eII a0wi], .c (eI a1), .c (eI a2)] (.p (.c (dB true))) := by
  have hk := askGR_cnt a0x a0y a0we a0wi a1 a2
  have hk2 := askGW_len a0x a0y a0we a0wi a1 a2
  rcases (by omega : (1048576 < a0we.length + a0wi.length + cnt a0wi) ∨ a0we.length + a0wi.length + cnt a0wi ≤ 1048576) with hz | hz
  all_goals
    refine pc_intro Try.func5 rfl rfl rfl (by kernel_rfl) rfl rfl ?_; intro _
    repeat' (first | (refine so_is (.box 32 _) ?_; refine so_box rfl rfl ?_) | (refine so_is (.assign _) ?_; (refine so_q (qt_asC rfl) rfl ?_)) | (refine so_is (.move _) ?_; (first | refine so_q (qt_mvC rfl) rfl ?_ | refine so_q (qt_mvT rfl) rfl ?_)) | (refine so_is (.call ⟨.builtin .len, _, #[29]⟩) ?_; (refine so_q (qt_len_d rfl (by kernel_rfl)) rfl ?_)) | (refine so_is (.binOp .gtr 3 _ _ _) ?_; refine so_q (qt_gtr rfl rfl) rfl ?_) | (refine so_is (.load 32 _) ?_; (refine so_q (qt_load_boxs rfl rfl (by kernel_rfl : tAgg _ 32 4 = true) rfl) rfl ?_)) | (refine so_is (.binOp .lss 3 _ _ _) ?_; refine so_q (qt_lss rfl rfl) rfl ?_) | (refine so_is (.extract _ _) ?_; refine so_q (qt_extract rfl rfl) rfl ?_) | (refine so_is (.alloc 36) ?_; refine so_alloc (zs := [.int .i64 0, .int .i64 0, .slice none 0 0, .slice none 0 0]) (by kernel_rfl) rfl ?_) | (refine so_is (.store 36 _ _) ?_; (refine so_store_box rfl rfl rfl (by kernel_rfl) rfl rfl ?_)) | (refine so_is (.load 36 _) ?_; (refine so_q (qt_load_boxs rfl rfl (by kernel_rfl : tAgg _ 36 4 = true) rfl) rfl ?_)) | (refine so_is (.unOp .not 4 _) ?_; refine so_q (qt_not rfl) rfl ?_) | (refine so_is (.binOp .neq 4 _ _ _) ?_; (refine so_q (qt_neqB_same (by kernel_rfl) rfl rfl) rfl ?_)) | (refine so_is (.pick _ _ _) ?_; (refine so_q (qt_pkC rfl rfl) rfl ?_)) | (refine so_is (.binOp .neq 3 _ _ _) ?_; (refine so_q (qt_neq_same rfl rfl) rfl ?_)) | (refine so_is (.call ⟨.value (.func 10), _, _⟩) ?_; (first | (apply so_call0 (fid := 10); (· (repeat (first | exact SeA.nil | apply SeA.cons (.c (.d _)) | (apply SeA.cons; (· (apply SeP.g; (repeat (first | exact SeL.nil | apply SeL.cons (.d _))))))))); (· exact szGame_ok _ _ _ _ _ (by omega) (by omega)); (· rfl)) | (apply so_call0 (fid := 10); (· (repeat (first | exact SeA.nil | apply SeA.cons (.c (.d _)) | (apply SeA.cons; (· (apply SeP.g; (repeat (first | exact SeL.nil | apply SeL.cons (.d _))))))))); (· exact szGame_no _ _ _ _ _ (by omega) (by omega) (by omega)); (· rfl)))) | (refine so_is (.call ⟨.value (.func 12), _, _⟩) ?_; (apply so_callO0 (fid := 12); (· (repeat (first | exact SeA.nil | (apply SeA.cons; (· (apply SeP.g; (repeat (first | exact SeL.nil | apply SeL.cons (.d _))))))))); (· exact toGame_p _ _ _ _ (by omega)); (· rfl); (· rfl))) | (refine so_is (.call ⟨.value (.func 16), _, _⟩) ?_; (apply so_callO0 (fid := 16); (· (repeat (first | exact SeA.nil | apply SeA.cons (.c (.d _))))); (· exact toIntS_p _ (by omega)); (· rfl); (· rfl))) | (refine so_is (.call ⟨.value (.func 15), _, _⟩) ?_; (apply so_call0 (fid := 15); (· (repeat (first | exact SeA.nil | apply SeA.cons (.c (.all _ _ _ _ rfl (by ((simp; done))))) | (apply SeA.cons; (· (apply SeP.g; (repeat (first | exact SeL.nil | apply SeL.cons (.d _) | apply SeL.cons (.all _ _ _ _ rfl (by ((simp; done)))))))))))); (· exact spAskGame_p _ _ _ _ _ _ (by omega) (by omega)); (· rfl))) | (refine so_is (.call ⟨.value (.func 17), _, _⟩) ?_; (apply so_callO0 (fid := 17); (· (repeat (first | exact SeA.nil | apply SeA.cons (.c (.all _ _ _ _ rfl (by ((simp; done))))) | (apply SeA.cons; (· (apply SeP.g; (repeat (first | exact SeL.nil | apply SeL.cons (.d _) | apply SeL.cons (.all _ _ _ _ rfl (by ((simp; done)))))))))))); (· exact AskGame_p _ _ _ _ _ _ (by omega) (by omega)); (· rfl); (· rfl))) | (refine so_is (.call ⟨.value (.func 14), _, _⟩) ?_; (apply so_call0 (fid := 14); (· (repeat (first | exact SeA.nil | (apply SeA.cons; (· (apply SeP.g; (repeat (first | exact SeL.nil | apply SeL.cons (.d _) | apply SeL.cons (.all _ _ _ _ rfl (by ((simp; done)))))))))))); (· exact eqGame_same _ _ _ _); (· rfl))) | (refine so_is (.call ⟨.value (.func 18), _, _⟩) ?_; (apply so_call0 (fid := 18); (· (repeat (first | exact SeA.nil | apply SeA.cons (.c (.all _ _ _ _ rfl (by ((simp; done)))))))); (· exact eqIntS_same _); (· rfl))) | (refine so_is (.call ⟨.value (.func 19), _, _⟩) ?_; (apply so_callM (fid := 19); (· (repeat (first | exact ArgM.nil | apply ArgM.c rfl (.lit _) | (apply ArgM.g rfl; (· (repeat (first | exact GvM.nil | apply GvM.cons (.lit _) | apply GvM.cons (.row _ _ _ _ rfl (by ((simp; done))))))))))); (· (decide)); (· exact markGame_m _ _ _ _ _ (by omega) (by omega)); (· rfl); (· rfl))) | (refine so_is (.call ⟨.value (.func 20), _, _⟩) ?_; (apply so_callM (fid := 20); (· (repeat (first | exact ArgM.nil | apply ArgM.c rfl (.lit _) | apply ArgM.c rfl (.row _ _ _ _ rfl (by ((simp; done))))))); (· (decide)); (· exact markIntS_m _ _ (by omega) (by omega)); (· rfl); (· rfl))) | (refine so_is (.call ⟨.value (.func 21), _, _⟩) ?_; (apply so_call0 (fid := 21); (· (repeat (first | exact SeA.nil | apply SeA.cons (.c (.d _)) | (apply SeA.cons; (· (apply SeP.g; (repeat (first | exact SeL.nil | apply SeL.cons (.d _) | apply SeL.cons (.all _ _ _ _ rfl (by ((simp; done)))))))))))); (· exact heldGame_k _ _ _ _ _ (by omega) (by omega)); (· rfl))) | refine so_nil ?_ | refine so_g_yes rfl rfl rfl rfl ?_ | refine sk_seq ?_ | refine sk_skip ?_ | refine sk_region (id := 0) ?_ | refine sk_region (id := 1) ?_ | refine sk_region (id := 2) ?_ | refine sk_region (id := 3) ?_ | refine sk_region (id := 4) ?_ | refine sk_region (id := 5) ?_ | (apply sk_pack 6 [1, 2, 3, 7] [3] rfl; (· (repeat (first | exact Pf.nil | apply Pf.cons (.c rfl (.d rfl)) | apply Pf.cons (.c rfl (.lp rfl))))); (· (repeat (first | exact Pb.nil | (apply Pb.cons; (· apply Nb.box rfl; (repeat (first | exact Ncs.nil rfl | (apply Ncs.cons rfl; (· (exact .d rfl)))))))))); refine sk_region (id := 6) ?_) | refine sk_region (id := 7) ?_ | refine sk_region (id := 8) ?_ | (apply sk_pack 9 [1, 2, 3] [3] rfl; (· (repeat (first | exact Pf.nil | apply Pf.cons (.c rfl (.d rfl)) | apply Pf.cons (.c rfl (.lp rfl))))); (· (repeat (first | exact Pb.nil | (apply Pb.cons; (· apply Nb.box rfl; (repeat (first | exact Ncs.nil rfl | (apply Ncs.cons rfl; (· (exact .d rfl)))))))))); refine sk_region (id := 9) ?_) | (apply sk_pack 10 [1, 2, 3, 8, 9] [3, 2033, 3033, 35, 37, 2038, 3038, 8] rfl; (· (repeat (first | exact Pf.nil | apply Pf.cons (.c rfl (.d rfl)) | apply Pf.cons (.c rfl (.lp rfl))))); (· (repeat (first | exact Pb.nil | apply Pb.cons (.row rfl) | (apply Pb.cons; (· apply Nb.box rfl; (repeat (first | exact Ncs.nil rfl | (apply Ncs.cons rfl; (· (exact .d rfl))))))) | apply Pb.skip))); refine sk_region (id := 10) ?_) | refine sk_region (id := 11) ?_ | refine sk_region (id := 12) ?_ | (apply sk_pack 13 [1, 2, 3, 8, 9, 10, 11, 12] [3, 2033, 3033, 35, 37, 2038, 3038, 8, 2042, 3042, 10, 44, 46] rfl; (· (repeat (first | exact Pf.nil | apply Pf.cons (.c rfl (.d rfl)) | apply Pf.cons (.c rfl (.ls rfl)) | apply Pf.cons (.c rfl (.lp rfl))))); (· (repeat (first | exact Pb.nil | apply Pb.cons (.row rfl) | (apply Pb.cons; (· apply Nb.box rfl; (repeat (first | exact Ncs.nil rfl | (apply Ncs.cons rfl; (· (first | exact .d rfl | exact .ls rfl))))))) | apply Pb.skip))); refine sk_region (id := 13) ?_) | (apply sk_pack 14 [1, 2, 3, 8, 9, 10, 11, 12, 13, 14] [3, 2033, 3033, 35, 37, 2038, 3038, 8, 2042, 3042, 10, 44, 46, 2051, 3051, 13] rfl; (· (repeat (first | exact Pf.nil | apply Pf.cons (.c rfl (.d rfl)) | apply Pf.cons (.c rfl (.ls rfl)) | apply Pf.cons (.c rfl (.lp rfl))))); (· (repeat (first | exact Pb.nil | apply Pb.cons (.row rfl) | (apply Pb.cons; (· apply Nb.box rfl; (repeat (first | exact Ncs.nil rfl | (apply Ncs.cons rfl; (· (first | exact .d rfl | exact .ls rfl))))))) | apply Pb.skip))); refine sk_region (id := 14) ?_) | (apply sk_pack 16 [1, 2, 3, 8, 9, 10, 11, 12, 13, 14] [3, 2033, 3033, 35, 37, 2038, 3038, 8, 2042, 3042, 10, 44, 46, 2051, 3051, 13] rfl; (· (repeat (first | exact Pf.nil | apply Pf.cons (.c rfl (.d rfl)) | apply Pf.cons (.c rfl (.ls rfl)) | apply Pf.cons (.c rfl (.lp rfl))))); (· (repeat (first | exact Pb.nil | apply Pb.cons (.row rfl) | (apply Pb.cons; (· apply Nb.box rfl; (repeat (first | exact Ncs.nil rfl | (apply Ncs.cons rfl; (· (first | exact .d rfl | exact .ls rfl))))))) | apply Pb.skip))); refine sk_drawQ 16 (fun _ => false) (.step 0 true (.step 1 true (.step 2 false (.step 3 false (.step 4 true .nil))))) [(0, 31, 31, false), (0, 31, 31, false), (2, 29, 31, false), (5, 26, 31, false), (8, 23, 31, true)] (by kernel_rfl) (by kernel_rfl) ?_) | refine sk_region (id := 18) ?_ | (apply sk_pack 20 [1, 2, 3, 8, 9, 10, 11, 12, 13, 14] [3, 2033, 3033, 35, 37, 2038, 3038, 8, 2042, 3042, 10, 44, 46, 2051, 3051, 13, 2065, 3065, 70] rfl; (· (repeat (first | exact Pf.nil | apply Pf.cons (.c rfl (.d rfl)) | apply Pf.cons (.c rfl (.ls rfl)) | apply Pf.cons (.c rfl (.lp rfl))))); (· (repeat (first | exact Pb.nil | apply Pb.cons (.row rfl) | (apply Pb.cons; (· apply Nb.box rfl; (repeat (first | exact Ncs.nil rfl | (apply Ncs.cons rfl; (· (first | exact .d rfl | exact .ls rfl))))))) | apply Pb.skip))); refine sk_region (id := 20) ?_) | refine sk_region (id := 22) ?_ | refine sk_region (id := 23) ?_ | (apply sk_pack 24 [1, 2, 3, 8, 9, 11, 12, 13, 14, 15] [3, 2033, 3033, 35, 37, 2038, 3038, 8, 2042, 3042, 10, 44, 46, 2051, 3051, 13, 2065, 3065, 70, 75] rfl; (· (repeat (first | exact Pf.nil | apply Pf.cons (.c rfl (.d rfl)) | apply Pf.cons (.c rfl (.ls rfl)) | apply Pf.cons (.c rfl (.lp rfl))))); (· (repeat (first | exact Pb.nil | apply Pb.cons (.row rfl) | (apply Pb.cons; (· apply Nb.box rfl; (repeat (first | exact Ncs.nil rfl | (apply Ncs.cons rfl; (· (first | exact .d rfl | exact .ls rfl))))))) | apply Pb.skip))); refine sk_region (id := 24) ?_) | refine sk_region (id := 25) ?_ | (apply sk_pack 26 [1, 2, 3, 8, 9, 13, 14, 15] [3, 2033, 3033, 35, 37, 2038, 3038, 8, 2042, 3042, 10, 44, 46, 2051, 3051, 13, 2065, 3065, 70, 75] rfl; (· (repeat (first | exact Pf.nil | apply Pf.cons (.c rfl (.d rfl)) | apply Pf.cons (.c rfl (.lp rfl))))); (· (repeat (first | exact Pb.nil | apply Pb.cons (.row rfl) | (apply Pb.cons; (· apply Nb.box rfl; (repeat (first | exact Ncs.nil rfl | (apply Ncs.cons rfl; (· (first | exact .d rfl | exact .ls rfl))))))) | apply Pb.skip))); refine sk_region (id := 26) ?_) | refine sk_region (id := 28) ?_ | refine sk_region (id := 29) ?_ | refine sk_region (id := 30) ?_ | refine sk_region (id := 31) ?_ | (apply sk_pack 32 [1, 2, 3, 8, 9, 13, 16, 17] [3, 2033, 3033, 35, 37, 2038, 3038, 8, 2042, 3042, 10, 44, 46, 2051, 3051, 13, 2065, 3065, 70, 75] rfl; (· (repeat (first | exact Pf.nil | apply Pf.cons (.c rfl (.d rfl)) | apply Pf.cons (.c rfl (.lp rfl))))); (· (repeat (first | exact Pb.nil | apply Pb.cons (.row rfl) | (apply Pb.cons; (· apply Nb.box rfl; (repeat (first | exact Ncs.nil rfl | (apply Ncs.cons rfl; (· (first | exact .d rfl | exact .ls rfl))))))) | apply Pb.skip))); refine sk_region (id := 32) ?_) | refine sk_region (id := 34) ?_ | (apply sk_pack 36 [1, 2, 3, 8, 9, 13, 16] [3, 2033, 3033, 35, 37, 2038, 3038, 8, 2042, 3042, 10, 44, 46, 2051, 3051, 13, 2065, 3065, 70, 75] rfl; (· (repeat (first | exact Pf.nil | apply Pf.cons (.c rfl (.d rfl)) | apply Pf.cons (.c rfl (.lp rfl))))); (· (repeat (first | exact Pb.nil | apply Pb.cons (.row rfl) | (apply Pb.cons; (· apply Nb.box rfl; (repeat (first | exact Ncs.nil rfl | (apply Ncs.cons rfl; (· (first | exact .d rfl | exact .ls rfl))))))) | apply Pb.skip))); refine sk_region (id := 36) ?_) | (apply sk_pack 37 [8, 9, 13, 16, 18, 19] [3, 2033, 3033, 35, 37, 2038, 3038, 8, 2042, 3042, 10, 44, 46, 2051, 3051, 13, 2065, 3065, 70, 75, 2113, 3113, 115, 117, 2118, 3118, 18] rfl; (· (repeat (first | exact Pf.nil | apply Pf.cons (.c rfl (.d rfl)) | apply Pf.cons (.c rfl (.lp rfl))))); (· (repeat (first | exact Pb.nil | apply Pb.cons (.row rfl) | (apply Pb.cons; (· apply Nb.box rfl; (repeat (first | exact Ncs.nil rfl | (apply Ncs.cons rfl; (· (first | exact .d rfl | exact .ls rfl))))))) | apply Pb.skip))); refine sk_region (id := 37) ?_) | refine sk_region (id := 39) ?_ | (apply sk_pack 40 [13, 16, 17] [3, 2033, 3033, 35, 37, 2038, 3038, 8, 2042, 3042, 10, 44, 46, 2051, 3051, 13, 2065, 3065, 70, 75, 2113, 3113, 115, 117, 2118, 3118, 18] rfl; (· (repeat (first | exact Pf.nil | apply Pf.cons (.c rfl (.d rfl)) | apply Pf.cons (.c rfl (.lp rfl))))); (· (repeat (first | exact Pb.nil | apply Pb.cons (.row rfl) | (apply Pb.cons; (· apply Nb.box rfl; (repeat (first | exact Ncs.nil rfl | (apply Ncs.cons rfl; (· (first | exact .d rfl | exact .ls rfl))))))) | apply Pb.skip))); refine sk_region (id := 40) ?_) | refine sk_region (id := 41) ?_ | refine sk_region (id := 43) ?_ | refine sk_region (id := 45) ?_ | refine sk_true rfl ?_ | refine sk_false rfl ?_ | refine sk_if rfl (fun hc => ?_) (fun hc => ?_))
    all_goals first | (exfalso; omega) | skip
    all_goals (apply sk_ret; apply ret_eq; (· apply RetOK.p; (· (apply GvA.cons; (· exact .tmp _); (· exact GvP.c (.lit _))); exact GvA.nil); (· (decide))))
    all_goals rfl

end Go.Proofs.Ytdnkmgbbkggmdaa

namespace Go.Proofs.Ytdnkmgbbkggmdaa
open Go.RowKit
open Go
/-! numbers added up at places -/
def accN (s : Nat → Nat) (v : Nat → Int) : Nat → Nat → Int
  | 0, _ => 0
  | m + 1, p => accN s v m p + if s m = p then v m else 0
theorem accN_set (s : Nat → Nat) (v : Nat → Int) (m : Nat) (h : s m < 4) : (rowF (accN s v m) 4).set (s m) (accN s v m (s m) + v m) = rowF (accN s v (m + 1)) 4 := by
  rcases (by omega : s m = 0 ∨ s m = 1 ∨ s m = 2 ∨ s m = 3) with e | e | e | e <;> simp [rowF, accN, e, List.range, List.range.loop, List.set]
theorem accN_sum (s : Nat → Nat) (v : Nat → Int) : ∀ m, (∀ t, t < m → s t < 4) → accN s v m 0 + accN s v m 1 + accN s v m 2 + accN s v m 3 = ((List.range m).map v).sum
  | 0, _ => by simp [accN]
  | m + 1, h => by
    have ih := accN_sum s v m fun t ht => h t (by omega)
    have hs := h m (by omega)
    simp only [accN, List.range_succ, List.map_append, List.sum_append, List.map_cons, List.map_nil, List.sum_cons, List.sum_nil]
    rcases (by omega : s m = 0 ∨ s m = 1 ∨ s m = 2 ∨ s m = 3) with e | e | e | e <;> simp [e] <;> omega
theorem accN_nn (s : Nat → Nat) (v : Nat → Int) : ∀ m p, (∀ t, t < m → 0 ≤ v t) → 0 ≤ accN s v m p
  | 0, _, _ => by simp [accN]
  | m + 1, p, h => by
    have := accN_nn s v m p fun t ht => h t (by omega)
    have := h m (by omega)
    simp only [accN]; split <;> omega
def pairB (x y n : Int) (ll : List (List Int)) : Bool := boxB x y n ll && (decide (x = 2) && decide (y = 2))
def agrZ (row : List Int) : Int := atZ row 0 - atZ row 1 - atZ row 2 + atZ row 3

end Go.Proofs.Ytdnkmgbbkggmdaa

namespace Go.Proofs.Ytdnkmgbbkggmdaa
open Go.RowKit
set_option linter.unusedSectionVars false
variable [Glb]
open Go
/-! rules, wirings -/
def tabB (t : List (List Int)) (n m : Int) : Bool := decide ((t.length : Int) = n) && t.all (fun l => bitsB l m)
def ruleB (f : List Int) (a s : List (List Int)) : Bool := bitsB f 2 && (tabB a 2 2 && tabB s 2 4)
theorem tabB_at {t : List (List Int)} {n m : Int} (h : tabB t n m = true) {i : Int} (h0 : 0 ≤ i) (h1 : i < n) : bitsB (atZ t i) m = true := by
  simp only [tabB, Bool.and_eq_true, decide_eq_true_eq, List.all_eq_true] at h
  obtain ⟨k, rfl⟩ := Int.eq_ofNat_of_zero_le h0
  rw [atZ_nat (by omega)]
  exact h.2 _ (List.getElem_mem _)
theorem tabB_len {t : List (List Int)} {n m : Int} (h : tabB t n m = true) : (t.length : Int) = n := by
  simp [tabB] at h; exact h.1
structure RuleOK (f : List Int) (a s : List (List Int)) : Prop where
  fl : f.length = 2
  al : a.length = 2
  sl : s.length = 2
  fb : ∀ i : Int, 0 ≤ i → i < 2 → 0 ≤ atZ f i ∧ atZ f i ≤ 1
  ab : ∀ i : Int, 0 ≤ i → i < 2 → bitsB (atZ a i) 2 = true
  sb : ∀ i : Int, 0 ≤ i → i < 2 → bitsB (atZ s i) 4 = true
theorem ruleB_spec {f : List Int} {a s : List (List Int)} (h : ruleB f a s = true) : RuleOK f a s := by
  simp only [ruleB, Bool.and_eq_true] at h
  obtain ⟨h1, h2, h3⟩ := h
  have l1 := bitsB_len h1
  have l2 := tabB_len h2
  have l3 := tabB_len h3
  exact ⟨by omega, by omega, by omega, fun i h0 h2 => bitsB_at h1 h0 h2, fun i h0 hi => tabB_at h2 h0 hi, fun i h0 hi => tabB_at h3 h0 hi⟩
theorem RuleOK.ask {f : List Int} {a s : List (List Int)} (h : RuleOK f a s) {x i : Int} (x0 : 0 ≤ x) (x1 : x < 2) (i0 : 0 ≤ i) (i1 : i < 2) : (atZ a x).length = 2 ∧ 0 ≤ atZ (atZ a x) i ∧ atZ (atZ a x) i ≤ 1 := by
  have hb := h.ab x x0 x1
  have hl := bitsB_len hb
  exact ⟨by omega, bitsB_at hb i0 i1⟩
theorem RuleOK.say {f : List Int} {a s : List (List Int)} (h : RuleOK f a s) {x i : Int} (x0 : 0 ≤ x) (x1 : x < 2) (i0 : 0 ≤ i) (i1 : i < 4) : (atZ s x).length = 4 ∧ 0 ≤ atZ (atZ s x) i ∧ atZ (atZ s x) i ≤ 1 := by
  have hb := h.sb x x0 x1
  have hl := bitsB_len hb
  exact ⟨by omega, bitsB_at hb i0 i1⟩
/-- a sum, term by term -/
def accT (t : Nat → Int) : Nat → Int
  | 0 => 0
  | m + 1 => accT t m + t m
theorem accN_T (s : Nat → Nat) (v : Nat → Int) (p : Nat) : ∀ m, accN s v m p = accT (fun c => if s c = p then v c else 0) m
  | 0 => rfl
  | m + 1 => by simp only [accN, accT, accN_T s v p m]
theorem accT_nn {t : Nat → Int} : ∀ {m : Nat}, (∀ c, c < m → 0 ≤ t c) → 0 ≤ accT t m
  | 0, _ => by simp [accT]
  | m + 1, h => by
    have := accT_nn fun c hc => h c (Nat.lt_succ_of_lt hc)
    have := h m (by omega)
    simp only [accT]; omega
theorem accT_le {t u : Nat → Int} : ∀ {m : Nat}, (∀ c, c < m → t c ≤ u c) → accT t m ≤ accT u m
  | 0, _ => by simp [accT]
  | m + 1, h => by
    have := accT_le fun c hc => h c (Nat.lt_succ_of_lt hc)
    have := h m (by omega)
    simp only [accT]; omega
theorem accT_add {t u : Nat → Int} : ∀ {m : Nat}, accT (fun c => t c + u c) m = accT t m + accT u m
  | 0 => by simp [accT]
  | m + 1 => by
    have := accT_add (t := t) (u := u) (m := m)
    simp only [accT] at this ⊢; omega
theorem accT_congr {t u : Nat → Int} : ∀ {m : Nat}, (∀ c, c < m → t c = u c) → accT t m = accT u m
  | 0, _ => rfl
  | m + 1, h => by
    have := accT_congr fun c hc => h c (Nat.lt_succ_of_lt hc)
    have := h m (by omega)
    simp only [accT]; omega
theorem accT_const (M : Int) : ∀ m : Nat, accT (fun _ => M) m = m * M
  | 0 => by simp [accT]
  | m + 1 => by
    have := accT_const M m
    simp only [accT, this, Int.natCast_add, Int.add_mul]; omega
theorem accN_le {s : Nat → Nat} {v : Nat → Int} {M : Int} {m : Nat} (p : Nat) (h0 : 0 ≤ M) (h : ∀ c, c < m → v c ≤ M) : accN s v m p ≤ m * M := by
  rw [accN_T, ← accT_const]
  refine accT_le fun c hc => ?_
  have := h c hc
  split <;> omega
/-- two orders of sixteen terms -/
theorem acc16 (T : Nat → Nat → Nat → Nat → Int) : accT (fun c => T (c % 2) (c / 2 % 2) (c / 4 % 2) (c / 8 % 2)) 16 = accT (fun m => T (m / 8) (m / 4 % 2) (m / 2 % 2) (m % 2)) 16 := by
  simp only [accT, Nat.reduceDiv, Nat.reduceMod, Nat.zero_div, Nat.zero_mod]
  omega
section
variable (la lb : List (List Int)) (f1 : List Int) (a1 s1 : List (List Int)) (f2 : List Int) (a2 s2 : List (List Int))
def wV (x y i j k l : Nat) : Int := atB la 2 (atZ f1 x) (atZ f2 y) ((2 * i + j : Nat) : Int) * atB lb 2 (atZ (atZ a1 x) i) (atZ (atZ a2 y) j) ((2 * k + l : Nat) : Int)
def wS (x y i j k l : Nat) : Nat := (2 * atZ (atZ s1 x) ((2 * i + k : Nat) : Int) + atZ (atZ s2 y) ((2 * j + l : Nat) : Int)).toNat
def wI (x y m p : Nat) : Int := accN (fun c => wS s1 s2 x y (c % 2) (c / 2 % 2) (c / 4 % 2) (c / 8 % 2)) (fun c => wV la lb f1 a1 f2 a2 x y (c % 2) (c / 2 % 2) (c / 4 % 2) (c / 8 % 2)) m p
def wP (x y m p : Nat) : Int := accN (fun m => wS s1 s2 x y (m / 8) (m / 4 % 2) (m / 2 % 2) (m % 2)) (fun m => wV la lb f1 a1 f2 a2 x y (m / 8) (m / 4 % 2) (m / 2 % 2) (m % 2)) m p
theorem wI_P (x y p : Nat) : wI la lb f1 a1 s1 f2 a2 s2 x y 16 p = wP la lb f1 a1 s1 f2 a2 s2 x y 16 p := by
  unfold wI wP
  rw [accN_T, accN_T]
  exact acc16 fun i j k l => if wS s1 s2 x y i j k l = p then wV la lb f1 a1 f2 a2 x y i j k l else 0
/-- the rows of a wiring -/
def wiredL : List (List Int) := boxF (fun x y p => wP la lb f1 a1 s1 f2 a2 s2 x y 16 p) 2 4
end
theorem box4 {X Y n : Int} {ll : List (List Int)} (h : boxB X Y n ll = true) {q : Int} (h0 : 0 ≤ q) (h1 : q < X * Y) : atZ (atZ ll q) 0 + atZ (atZ ll q) 1 + atZ (atZ ll q) 2 + atZ (atZ ll q) 3 = n := by
  have hb := boxB_spec h
  obtain ⟨i, rfl⟩ := Int.eq_ofNat_of_zero_le h0
  have hi : i < ll.length := by have := hb.len; omega
  rw [atZ_nat hi]
  have hr := hb.row i hi
  have hs := row4B_sum hr
  have hl := (row4B_len hr).1
  have hn := hb.n2
  have ha : allB ll[i] 0 n = true := by simp only [row4B, Bool.and_eq_true] at hr; exact hr.1.2
  rw [(sum64_small (l := ll[i]) (m := n) (by omega) ha (by have := hb.n1; omega) (by omega)).1] at hs
  generalize ll[i] = r at hs hl
  match r, hl with
  | [a, b, c, d], _ => simp [atZ] at hs ⊢; omega
theorem rowF4_sum (f : Nat → Int) (h : ∀ p, p < 4 → 0 ≤ f p ∧ f p ≤ 1000000) : sum64 (rowF f 4) = f 0 + f 1 + f 2 + f 3 := by
  have h0 := h 0 (by omega); have h1 := h 1 (by omega); have h2 := h 2 (by omega); have h3 := h 3 (by omega)
  have ha : allB (rowF f 4) 0 1000000 = true := by
    unfold allB; rw [List.all_eq_true]; intro x hx
    unfold rowF at hx; obtain ⟨p, hp, rfl⟩ := List.mem_map.1 hx
    exact inB_iff.2 (h p (List.mem_range.1 hp))
  rw [(sum64_small (l := rowF f 4) (m := 1000000) (by simp) ha (by omega) (by omega)).1]
  simp [rowF, List.range, List.range.loop]; omega
/-- rows told by a function make a box -/
theorem rows_box {x y : Nat} {n : Int} {f : Nat → Nat → Nat → Int} (hx : 1 ≤ x ∧ x ≤ 3) (hy : 1 ≤ y ∧ y ≤ 3) (h0 : 1 ≤ n) (h1 : n ≤ 1000000) (hf : ∀ i k, i < x → k < y → (∀ p, p < 4 → 0 ≤ f i k p) ∧ f i k 0 + f i k 1 + f i k 2 + f i k 3 = n) :
    boxB x y n (boxF f y (y * x)) = decide (n ≤ 1000) := by
  have hs : sizeB x y = true := sizeB_iff.2 ⟨⟨by omega, by omega⟩, by omega, by omega⟩
  have hl : ((boxF f y (y * x)).length : Int) = (x : Int) * y := by rw [boxF_len, Int.natCast_mul, Int.mul_comm]
  have hr : (boxF f y (y * x)).all (row4B n) = true := by
    rw [List.all_eq_true]; intro r hr
    unfold boxF at hr
    obtain ⟨j, hj, rfl⟩ := List.mem_map.1 hr
    have hj := List.mem_range.1 hj
    have hi : j / y < x := Nat.div_lt_of_lt_mul hj
    have hk : j % y < y := Nat.mod_lt _ (by omega)
    obtain ⟨a, b⟩ := hf _ _ hi hk
    generalize f (j / y) (j % y) = g at a b
    have a0 := a 0 (by omega); have a1 := a 1 (by omega); have a2 := a 2 (by omega); have a3 := a 3 (by omega)
    have bd : ∀ p, p < 4 → 0 ≤ g p ∧ g p ≤ n := fun p hp => by rcases (by omega : p = 0 ∨ p = 1 ∨ p = 2 ∨ p = 3) with rfl | rfl | rfl | rfl <;> omega
    have hsum := rowF4_sum g fun p hp => by have := bd p hp; omega
    simp only [row4B, rowF_len, decide_true, Bool.true_and, Bool.and_eq_true, decide_eq_true_eq, hsum, allB, List.all_eq_true]
    refine ⟨fun m hm => ?_, b⟩
    unfold rowF at hm; obtain ⟨p, hp, rfl⟩ := List.mem_map.1 hm
    exact inB_iff.2 (bd p (List.mem_range.1 hp))
  simp only [boxB, hs, hl, hr, decide_true, Bool.and_true, Bool.true_and, inB]
  simp; omega
section
variable {la lb : List (List Int)} {f1 : List Int} {a1 s1 : List (List Int)} {f2 : List Int} {a2 s2 : List (List Int)} {na nb : Int}
theorem wS_lt (h1 : ruleB f1 a1 s1 = true) (h2 : ruleB f2 a2 s2 = true) {x y i j k l : Nat} (hx : x < 2) (hy : y < 2) (hi : i < 2) (hj : j < 2) (hk : k < 2) (hl : l < 2) : wS s1 s2 x y i j k l < 4 := by
  have b1 := (ruleB_spec h1).say (x := x) (i := ((2 * i + k : Nat) : Int)) (by omega) (by omega) (by omega) (by omega)
  have b2 := (ruleB_spec h2).say (x := y) (i := ((2 * j + l : Nat) : Int)) (by omega) (by omega) (by omega) (by omega)
  unfold wS; omega
theorem atB_bd (ha : boxB 2 2 na la = true) {x y : Int} (x0 : 0 ≤ x) (x1 : x ≤ 1) (y0 : 0 ≤ y) (y1 : y ≤ 1) : (∀ p : Nat, p < 4 → 0 ≤ atB la 2 x y p ∧ atB la 2 x y p ≤ na) ∧ atB la 2 x y (0 : Nat) + atB la 2 x y (1 : Nat) + atB la 2 x y (2 : Nat) + atB la 2 x y (3 : Nat) = na :=
  ⟨fun p hp => (boxB_at ha (q := x * 2 + y) (by omega) (by omega)).2 p (by omega) (by omega), box4 ha (q := x * 2 + y) (by omega) (by omega)⟩
theorem wV_bd (ha : boxB 2 2 na la = true) (hb : boxB 2 2 nb lb = true) (h1 : ruleB f1 a1 s1 = true) (h2 : ruleB f2 a2 s2 = true) {x y : Nat} (hx : x < 2) (hy : y < 2) :
    (∀ i j k l, i < 2 → j < 2 → k < 2 → l < 2 → 0 ≤ wV la lb f1 a1 f2 a2 x y i j k l ∧ wV la lb f1 a1 f2 a2 x y i j k l ≤ 1000000) ∧ accT (fun m => wV la lb f1 a1 f2 a2 x y (m / 8) (m / 4 % 2) (m / 2 % 2) (m % 2)) 16 = na * nb := by
  have r1 := ruleB_spec h1
  have r2 := ruleB_spec h2
  have A := atB_bd ha (r1.fb x (by omega) (by omega)).1 (r1.fb x (by omega) (by omega)).2 (r2.fb y (by omega) (by omega)).1 (r2.fb y (by omega) (by omega)).2
  have B := fun (i j : Nat) (hi : i < 2) (hj : j < 2) => atB_bd hb (r1.ask (x := x) (i := i) (by omega) (by omega) (by omega) (by omega)).2.1 (r1.ask (x := x) (i := i) (by omega) (by omega) (by omega) (by omega)).2.2
    (r2.ask (x := y) (i := j) (by omega) (by omega) (by omega) (by omega)).2.1 (r2.ask (x := y) (i := j) (by omega) (by omega) (by omega) (by omega)).2.2
  have na1 := (boxB_spec ha).n2
  have nb1 := (boxB_spec hb).n2
  unfold wV
  generalize atB la 2 (atZ f1 x) (atZ f2 y) = a at A ⊢
  obtain ⟨b, hb'⟩ : ∃ b : Nat → Nat → Int → Int, ∀ i j, b i j = atB lb 2 (atZ (atZ a1 x) i) (atZ (atZ a2 y) j) := ⟨_, fun _ _ => rfl⟩
  simp only [← hb'] at B ⊢
  refine ⟨fun i j k l hi hj hk hl => ?_, ?_⟩
  · have p := A.1 (2 * i + j) (by omega)
    have q := (B i j hi hj).1 (2 * k + l) (by omega)
    refine ⟨Int.mul_nonneg p.1 q.1, Int.le_trans (Int.mul_le_mul p.2 q.2 q.1 (by omega)) (Int.le_trans (Int.mul_le_mul na1 nb1 (by omega) (by omega)) (by decide))⟩
  · have b00 := (B 0 0 (by omega) (by omega)).2
    have b01 := (B 0 1 (by omega) (by omega)).2
    have b10 := (B 1 0 (by omega) (by omega)).2
    have b11 := (B 1 1 (by omega) (by omega)).2
    have a0 := A.2
    simp only [accT, Nat.reduceDiv, Nat.reduceMod, Nat.reduceMul, Nat.reduceAdd, Nat.zero_div, Nat.zero_mod, Nat.mul_zero, Nat.mul_one, Nat.zero_add]
    have e00 := congrArg (a (0 : Nat) * ·) b00
    have e01 := congrArg (a (1 : Nat) * ·) b01
    have e10 := congrArg (a (2 : Nat) * ·) b10
    have e11 := congrArg (a (3 : Nat) * ·) b11
    have e := congrArg (· * nb) a0
    simp only [Int.mul_add, Int.add_mul] at e00 e01 e10 e11 e
    omega
theorem wire_box (ha : boxB 2 2 na la = true) (hb : boxB 2 2 nb lb = true) (h1 : ruleB f1 a1 s1 = true) (h2 : ruleB f2 a2 s2 = true) : boxB 2 2 (na * nb) (wiredL la lb f1 a1 s1 f2 a2 s2) = decide (na * nb ≤ 1000) := by
  have a1' := boxB_spec ha
  have b1' := boxB_spec hb
  have n1 : 1 ≤ na * nb := by have := Int.mul_le_mul a1'.n1 b1'.n1 (by omega) (by have := a1'.n1; omega); omega
  have n2 : na * nb ≤ 1000000 := Int.le_trans (Int.mul_le_mul a1'.n2 b1'.n2 (by have := b1'.n1; omega) (by omega)) (by decide)
  refine rows_box (x := 2) (y := 2) (by omega) (by omega) n1 n2 fun x y hx hy => ?_
  obtain ⟨vb, vs⟩ := wV_bd ha hb h1 h2 hx hy
  refine ⟨fun p hp => accN_nn _ _ _ _ fun m hm => (vb _ _ _ _ (by omega) (by omega) (by omega) (by omega)).1, ?_⟩
  rw [← vs]
  have := accN_sum (fun m => wS s1 s2 x y (m / 8) (m / 4 % 2) (m / 2 % 2) (m % 2)) (fun m => wV la lb f1 a1 f2 a2 x y (m / 8) (m / 4 % 2) (m / 2 % 2) (m % 2)) 16 fun m hm => wS_lt h1 h2 hx hy (by omega) (by omega) (by omega) (by omega)
  unfold wP
  rw [this]
  simp [List.range, List.range.loop, accT]
  omega
end
section
variable {la lb : List (List Int)} {f1 : List Int} {a1 s1 : List (List Int)} {f2 : List Int} {a2 s2 : List (List Int)} {na nb : Int}
theorem acc_bd {s : Nat → Nat} {v : Nat → Int} {m : Nat} (hm : m ≤ 16) (h : ∀ t, t < m → 0 ≤ v t ∧ v t ≤ 1000000) (p : Nat) : 0 ≤ accN s v m p ∧ accN s v m p ≤ 16000000 := by
  refine ⟨accN_nn _ _ _ _ fun t ht => (h t ht).1, ?_⟩
  have := accN_le (s := s) (M := 1000000) (m := m) p (by omega) fun t ht => (h t ht).2
  omega
theorem wP_step (ha : boxB 2 2 na la = true) (hb : boxB 2 2 nb lb = true) (h1 : ruleB f1 a1 s1 = true) (h2 : ruleB f2 a2 s2 = true) {x y k n : Nat} (hx : x < 2) (hy : y < 2) (hk : k < 4) (hn : n < 4) :
    ∃ (s : Nat) (v : Int), 2 * atZ (atZ s1 x) (2 * ((k : Int) / 2) + (n : Int) / 2) + atZ (atZ s2 y) (2 * ((k : Int) % 2) + (n : Int) % 2) = (s : Int) ∧ s < 4 ∧
      atZ (atZ la (atZ f1 x * 2 + atZ f2 y)) k * atZ (atZ lb (atZ (atZ a1 x) ((k : Int) / 2) * 2 + atZ (atZ a2 y) ((k : Int) % 2))) n = v ∧ (0 ≤ v ∧ v ≤ 1000000) ∧
      (rowF (wP la lb f1 a1 s1 f2 a2 s2 x y (4 * k + n)) 4).set s (wP la lb f1 a1 s1 f2 a2 s2 x y (4 * k + n) s + v) = rowF (wP la lb f1 a1 s1 f2 a2 s2 x y (4 * k + n + 1)) 4 ∧
      (0 ≤ wP la lb f1 a1 s1 f2 a2 s2 x y (4 * k + n) s ∧ wP la lb f1 a1 s1 f2 a2 s2 x y (4 * k + n) s ≤ 16000000) := by
  have vb := (wV_bd ha hb h1 h2 hx hy).1
  have e1 : (4 * k + n) / 8 = k / 2 := by omega
  have e2 : (4 * k + n) / 4 % 2 = k % 2 := by omega
  have e3 : (4 * k + n) / 2 % 2 = n / 2 := by omega
  have e4 : (4 * k + n) % 2 = n % 2 := by omega
  have b1 := (ruleB_spec h1).say (x := x) (i := ((2 * (k / 2) + n / 2 : Nat) : Int)) (by omega) (by omega) (by omega) (by omega)
  have b2 := (ruleB_spec h2).say (x := y) (i := ((2 * (k % 2) + n % 2 : Nat) : Int)) (by omega) (by omega) (by omega) (by omega)
  refine ⟨wS s1 s2 x y (k / 2) (k % 2) (n / 2) (n % 2), wV la lb f1 a1 f2 a2 x y (k / 2) (k % 2) (n / 2) (n % 2), ?_, wS_lt h1 h2 hx hy (by omega) (by omega) (by omega) (by omega), ?_, vb _ _ _ _ (by omega) (by omega) (by omega) (by omega), ?_, ?_⟩
  · unfold wS
    have c1 : (2 * ((k : Int) / 2) + (n : Int) / 2) = ((2 * (k / 2) + n / 2 : Nat) : Int) := by omega
    have c2 : (2 * ((k : Int) % 2) + (n : Int) % 2) = ((2 * (k % 2) + n % 2 : Nat) : Int) := by omega
    rw [c1, c2]; omega
  · unfold wV atB
    have c1 : ((2 * (k / 2) + k % 2 : Nat) : Int) = k := by omega
    have c2 : ((2 * (n / 2) + n % 2 : Nat) : Int) = n := by omega
    have c3 : ((k / 2 : Nat) : Int) = (k : Int) / 2 := by omega
    have c4 : ((k % 2 : Nat) : Int) = (k : Int) % 2 := by omega
    rw [c1, c2, c3, c4]
  · have := accN_set (fun m => wS s1 s2 x y (m / 8) (m / 4 % 2) (m / 2 % 2) (m % 2)) (fun m => wV la lb f1 a1 f2 a2 x y (m / 8) (m / 4 % 2) (m / 2 % 2) (m % 2)) (4 * k + n) (wS_lt h1 h2 hx hy (by omega) (by omega) (by omega) (by omega))
    simp only [e1, e2, e3, e4] at this
    exact this
  · exact acc_bd (by omega) (fun t ht => vb _ _ _ _ (by omega) (by omega) (by omega) (by omega)) _
theorem wI_step (ha : boxB 2 2 na la = true) (hb : boxB 2 2 nb lb = true) (h1 : ruleB f1 a1 s1 = true) (h2 : ruleB f2 a2 s2 = true) {x y c : Nat} (hx : x < 2) (hy : y < 2) (hc : c < 16) :
    ∃ (s : Nat) (v : Int), 2 * atZ (atZ s1 x) (2 * ((c : Int) % 2) + (c : Int) / 4 % 2) + atZ (atZ s2 y) (2 * ((c : Int) / 2 % 2) + (c : Int) / 8 % 2) = (s : Int) ∧ s < 4 ∧
      atB la 2 (atZ f1 x) (atZ f2 y) (2 * ((c : Int) % 2) + (c : Int) / 2 % 2) * atB lb 2 (atZ (atZ a1 x) ((c : Int) % 2)) (atZ (atZ a2 y) ((c : Int) / 2 % 2)) (2 * ((c : Int) / 4 % 2) + (c : Int) / 8 % 2) = v ∧ (0 ≤ v ∧ v ≤ 1000000) ∧
      (rowF (wI la lb f1 a1 s1 f2 a2 s2 x y c) 4).set s (wI la lb f1 a1 s1 f2 a2 s2 x y c s + v) = rowF (wI la lb f1 a1 s1 f2 a2 s2 x y (c + 1)) 4 ∧
      (0 ≤ wI la lb f1 a1 s1 f2 a2 s2 x y c s ∧ wI la lb f1 a1 s1 f2 a2 s2 x y c s ≤ 16000000) := by
  have vb := (wV_bd ha hb h1 h2 hx hy).1
  have b1 := (ruleB_spec h1).say (x := x) (i := ((2 * (c % 2) + c / 4 % 2 : Nat) : Int)) (by omega) (by omega) (by omega) (by omega)
  have b2 := (ruleB_spec h2).say (x := y) (i := ((2 * (c / 2 % 2) + c / 8 % 2 : Nat) : Int)) (by omega) (by omega) (by omega) (by omega)
  refine ⟨wS s1 s2 x y (c % 2) (c / 2 % 2) (c / 4 % 2) (c / 8 % 2), wV la lb f1 a1 f2 a2 x y (c % 2) (c / 2 % 2) (c / 4 % 2) (c / 8 % 2), ?_, wS_lt h1 h2 hx hy (by omega) (by omega) (by omega) (by omega), ?_, vb _ _ _ _ (by omega) (by omega) (by omega) (by omega), ?_, ?_⟩
  · unfold wS
    have c1 : (2 * ((c : Int) % 2) + (c : Int) / 4 % 2) = ((2 * (c % 2) + c / 4 % 2 : Nat) : Int) := by omega
    have c2 : (2 * ((c : Int) / 2 % 2) + (c : Int) / 8 % 2) = ((2 * (c / 2 % 2) + c / 8 % 2 : Nat) : Int) := by omega
    rw [c1, c2]; omega
  · unfold wV
    have c1 : ((2 * (c % 2) + c / 2 % 2 : Nat) : Int) = 2 * ((c : Int) % 2) + (c : Int) / 2 % 2 := by omega
    have c2 : ((2 * (c / 4 % 2) + c / 8 % 2 : Nat) : Int) = 2 * ((c : Int) / 4 % 2) + (c : Int) / 8 % 2 := by omega
    have c3 : ((c % 2 : Nat) : Int) = (c : Int) % 2 := by omega
    have c4 : ((c / 2 % 2 : Nat) : Int) = (c : Int) / 2 % 2 := by omega
    rw [c1, c2, c3, c4]
  · exact accN_set (fun c => wS s1 s2 x y (c % 2) (c / 2 % 2) (c / 4 % 2) (c / 8 % 2)) (fun c => wV la lb f1 a1 f2 a2 x y (c % 2) (c / 2 % 2) (c / 4 % 2) (c / 8 % 2)) c (wS_lt h1 h2 hx hy (by omega) (by omega) (by omega) (by omega))
  · exact acc_bd (by omega) (fun t ht => vb _ _ _ _ (by omega) (by omega) (by omega) (by omega)) _
end
def wiresB (xa ya na : Int) (la : List (List Int)) (xb yb nb : Int) (lb : List (List Int)) : Bool := pairB xa ya na la && (pairB xb yb nb lb && decide (na * nb ≤ 1000))
def wireOK (xa ya na : Int) (la : List (List Int)) (xb yb nb : Int) (lb : List (List Int)) (f1 : List Int) (a1 s1 : List (List Int)) (f2 : List Int) (a2 s2 : List (List Int)) : Bool :=
  wiresB xa ya na la xb yb nb lb && (ruleB f1 a1 s1 && ruleB f2 a2 s2)
theorem pairB_spec {x y n : Int} {ll : List (List Int)} (h : pairB x y n ll = true) : x = 2 ∧ y = 2 ∧ boxB 2 2 n ll = true ∧ 1 ≤ n ∧ n ≤ 1000 := by
  simp only [pairB, Bool.and_eq_true, decide_eq_true_eq] at h
  obtain ⟨h1, rfl, rfl⟩ := h
  exact ⟨rfl, rfl, h1, (boxB_spec h1).n1, (boxB_spec h1).n2⟩
theorem mul_whole {na nb : Int} (h1 : 1 ≤ na ∧ na ≤ 1000) (h2 : 1 ≤ nb ∧ nb ≤ 1000) : 0 ≤ na * nb ∧ na * nb ≤ 1000000 :=
  ⟨Int.mul_nonneg (by omega) (by omega), Int.le_trans (Int.mul_le_mul h1.2 h2.2 (by omega) (by omega)) (by decide)⟩
def sumF : List Int := [0, 1]
def sumA : List (List Int) := [[0, 0], [1, 1]]
def sumS : List (List Int) := [[0, 1, 1, 0], [0, 1, 1, 0]]
theorem sum_rule : ruleB sumF sumA sumS = true := by decide
def ruleA (asks : List Int) : List (List Int) := [[atZ asks 0, atZ asks 1], [atZ asks 2, atZ asks 3]]
theorem part4 {asks : List Int} (h : asks.length = 4) : partZ asks 0 2 = [atZ asks 0, atZ asks 1] ∧ partZ asks 2 asks.length = [atZ asks 2, atZ asks 3] := by
  match asks, h with
  | [a, b, c, d], _ => exact ⟨by simp [partZ, atZ], by simp [partZ, atZ]⟩
/-- the rows of a wiring on the way -/
def wireM (W : Nat → Nat → Nat → Nat → Int) (j0 m : Nat) : List (List Int) := (List.range 4).map fun j => rowF (W (j / 2) (j % 2) (if j < j0 then 16 else if j = j0 then m else 0)) 4
@[simp] theorem wireM_len (W : Nat → Nat → Nat → Nat → Int) (j0 m : Nat) : (wireM W j0 m).length = 4 := by simp [wireM]
theorem wireM_get (W : Nat → Nat → Nat → Nat → Int) {j0 : Nat} (m : Nat) (h : j0 < 4) : (wireM W j0 m)[j0]? = some (rowF (W (j0 / 2) (j0 % 2) m) 4) := by
  rcases (by omega : j0 = 0 ∨ j0 = 1 ∨ j0 = 2 ∨ j0 = 3) with rfl | rfl | rfl | rfl <;> simp [wireM, List.range, List.range.loop]
theorem wireM_set (W : Nat → Nat → Nat → Nat → Int) {j0 : Nat} (m m' : Nat) (h : j0 < 4) : (wireM W j0 m).set j0 (rowF (W (j0 / 2) (j0 % 2) m') 4) = wireM W j0 m' := by
  rcases (by omega : j0 = 0 ∨ j0 = 1 ∨ j0 = 2 ∨ j0 = 3) with rfl | rfl | rfl | rfl <;> simp [wireM, List.range, List.range.loop]
theorem wireM_next (W : Nat → Nat → Nat → Nat → Int) {j0 : Nat} (h : j0 < 4) : wireM W j0 16 = wireM W (j0 + 1) 0 := by
  rcases (by omega : j0 = 0 ∨ j0 = 1 ∨ j0 = 2 ∨ j0 = 3) with rfl | rfl | rfl | rfl <;> simp [wireM, List.range, List.range.loop]
theorem wireM_zero (W : Nat → Nat → Nat → Nat → Int) (h : ∀ x y p, W x y 0 p = 0) : boxF (fun _ _ _ => 0) 2 4 = wireM W 0 0 := by
  simp [wireM, boxF, rowF, List.range, List.range.loop, h]
theorem wireM_end (W : Nat → Nat → Nat → Nat → Int) (m : Nat) : wireM W 4 m = boxF (fun x y p => W x y 16 p) 2 4 := by
  simp [wireM, boxF, List.range, List.range.loop]
theorem cnt_wired (b : Bool) (la lb : List (List Int)) (f1 : List Int) (a1 s1 : List (List Int)) (f2 : List Int) (a2 s2 : List (List Int)) : cnt (whenL b (wiredL la lb f1 a1 s1 f2 a2 s2)) ≤ 16 :=
  Nat.le_trans (cnt_whenL _ _) (by unfold wiredL; rw [cnt_boxF]; decide)

end Go.Proofs.Ytdnkmgbbkggmdaa

namespace Go.Proofs.Ytdnkmgbbkggmdaa
open Go.RowKit
open Go
/-! quiet trios -/
def at2 (ll : List (List Int)) (q k : Nat) : Int := atZ (atZ ll (q : Int)) (k : Int)
/-- the numbers of the places that differ by a digit add up alike for the questions that differ by it -/
def quietAt (ll : List (List Int)) (d q a : Nat) : Bool := (q &&& d != 0) || decide (at2 ll q a + at2 ll q (a ^^^ d) = at2 ll (q ||| d) a + at2 ll (q ||| d) (a ^^^ d))
def quiet3 (ll : List (List Int)) : Bool := [4, 2, 1].all fun d => (List.range 8).all fun q => (List.range 8).all fun a => quietAt ll d q a
theorem range_all_f {f : Nat → Bool} {n k : Nat} (h : k < n) (hf : f k = false) : (List.range n).all f = false := by
  rw [← Bool.not_eq_true, List.all_eq_true]; intro H; have := H k (List.mem_range.2 h); rw [hf] at this; cases this
theorem range_all_s {f : Nat → Bool} {k : Nat} : (List.range (k + 1)).all f = ((List.range k).all f && f k) := by simp [List.range_succ]
theorem quiet_digit (p : Nat) (h : p < 3) : ∃ d : Nat, (4 : Int) / 2 ^ p = (d : Int) ∧ (∀ f : Nat → Bool, (List.take (p + 1) [4, 2, 1]).all f = ((List.take p [4, 2, 1]).all f && f d)) ∧ d ≤ 4 ∧ (∀ f : Nat → Bool, f d = false → [4, 2, 1].all f = false) ∧ (∀ a, a < 8 → a ^^^ d < 8) ∧ (∀ q, q < 8 → q ||| d < 8) ∧ 1 ≤ d := by
  have : p = 0 ∨ p = 1 ∨ p = 2 := by omega
  rcases this with rfl | rfl | rfl
  · exact ⟨4, by decide, fun f => by simp, by decide, fun f h => by simp [h], by decide, by decide, by decide⟩
  · exact ⟨2, by decide, fun f => by simp, by decide, fun f h => by simp [h], by decide, by decide, by decide⟩
  · exact ⟨1, by decide, fun f => by simp [Bool.and_assoc], by decide, fun f h => by simp [h], by decide, by decide, by decide⟩
def spQuietAt (ll : List (List Int)) (d q a : Nat) : Bool := (q &&& d != 0) || (a &&& d != 0) || decide (at2 ll q a + at2 ll q (a ^^^ d) = at2 ll (q ||| d) a + at2 ll (q ||| d) (a ^^^ d))
def spQuiet (ll : List (List Int)) (p : Nat) : Bool := (List.take p [1, 2, 4]).all fun d => (List.range 8).all fun q => (List.range 8).all fun a => spQuietAt ll d q a
theorem spQuiet_row {ll : List (List Int)} {d q : Nat} (h : d = 1 ∨ d = 2 ∨ d = 4) : ((List.range 8).all fun a => spQuietAt ll d q a) = ((List.range 8).all fun a => quietAt ll d q a) := by
  rw [Bool.eq_iff_iff, List.all_eq_true, List.all_eq_true]
  constructor
  · intro H a ha
    by_cases hd : a &&& d = 0
    · have := H a ha
      simpa [spQuietAt, quietAt, hd] using this
    · have hx : a ^^^ d < 8 ∧ (a ^^^ d) &&& d = 0 ∧ (a ^^^ d) ^^^ d = a := by
        have ha' := List.mem_range.1 ha
        have hall : ∀ d, (d = 1 ∨ d = 2 ∨ d = 4) → ∀ a, a < 8 → a &&& d ≠ 0 → a ^^^ d < 8 ∧ (a ^^^ d) &&& d = 0 ∧ (a ^^^ d) ^^^ d = a := by
          rintro d (rfl | rfl | rfl) <;> decide
        exact hall d h a ha' hd
      have := H (a ^^^ d) (List.mem_range.2 hx.1)
      simp only [spQuietAt, quietAt, hx.2.1, hx.2.2, Bool.or_eq_true, bne_iff_ne, ne_eq, not_true_eq_false, or_false, decide_eq_true_eq] at this ⊢
      rcases this with h1 | h1
      · exact .inl h1
      · right; omega
  · intro H a ha
    have := H a ha
    simp only [spQuietAt, quietAt, Bool.or_eq_true] at this ⊢
    rcases this with h1 | h1
    · exact .inl (.inl h1)
    · exact .inr h1
theorem spQuiet_eq (ll : List (List Int)) : spQuiet ll 3 = quiet3 ll := by
  have e : ∀ d, (d = 1 ∨ d = 2 ∨ d = 4) → ((List.range 8).all fun q => (List.range 8).all fun a => spQuietAt ll d q a) = ((List.range 8).all fun q => (List.range 8).all fun a => quietAt ll d q a) := fun d hd =>
    congrArg (List.all (List.range 8)) (funext fun q => spQuiet_row hd)
  unfold spQuiet quiet3
  simp only [List.take_succ_cons, List.take_zero, List.all_cons, List.all_nil, Bool.and_true]
  rw [e 1 (by simp), e 2 (by simp), e 4 (by simp)]
  cases (List.range 8).all fun q => (List.range 8).all fun a => quietAt ll 1 q a <;> cases (List.range 8).all fun q => (List.range 8).all fun a => quietAt ll 2 q a <;> cases (List.range 8).all fun q => (List.range 8).all fun a => quietAt ll 4 q a <;> rfl
def pw2 (p : Nat) : Nat := 2 ^ p
theorem spQuiet_digit (p : Nat) (h : p < 3) : ∃ d : Nat, pw2 p = d ∧ pw2 (p + 1) = d * 2 ∧ (∀ f : Nat → Bool, (List.take (p + 1) [1, 2, 4]).all f = ((List.take p [1, 2, 4]).all f && f d)) ∧ (∀ f : Nat → Bool, f d = false → (List.take 3 [1, 2, 4]).all f = false) ∧ (d = 1 ∨ d = 2 ∨ d = 4) := by
  have : p = 0 ∨ p = 1 ∨ p = 2 := by omega
  rcases this with rfl | rfl | rfl
  · exact ⟨1, by decide, by decide, fun f => by simp, fun f h => by simp [h], by simp⟩
  · exact ⟨2, by decide, by decide, fun f => by simp, fun f h => by simp [h], by simp⟩
  · exact ⟨4, by decide, by decide, fun f => by simp [Bool.and_assoc], fun f h => by simp [h], by simp⟩
theorem digit_add {d k : Nat} (hd : d = 1 ∨ d = 2 ∨ d = 4) (hk : k < 8) (h : k &&& d = 0) : k + d = k ^^^ d ∧ k + d = k ||| d ∧ k + d < 8 := by
  have hall : ∀ d, (d = 1 ∨ d = 2 ∨ d = 4) → ∀ k, k < 8 → k &&& d = 0 → k + d = k ^^^ d ∧ k + d = k ||| d ∧ k + d < 8 := by rintro d (rfl | rfl | rfl) <;> decide
  exact hall d hd k hk h

end Go.Proofs.Ytdnkmgbbkggmdaa

namespace Go.Proofs.Ytdnkmgbbkggmdaa
open Go.RowKit
set_option linter.unusedSectionVars false
variable [Glb]
open Go
/-! scenes, halls -/
def riseAt (l : List Int) (lo hi : Int) (i : Nat) : Bool := inB (atZ l i) lo hi && (decide (i = 0) || decide (atZ l ((i : Int) - 1) < atZ l i))
def riseB (l : List Int) (lo hi : Int) : Bool := (List.range l.length).all fun i => riseAt l lo hi i
theorem riseB_f {l : List Int} {lo hi : Int} {k : Nat} (h : k < l.length) (hf : riseAt l lo hi k = false) : riseB l lo hi = false := range_all_f h hf
def ctxB (n : Int) (l : List Int) : Bool := decide (0 < l.length) && riseB l 0 (n - 1)
def sceneB (ev : Int) (cc : List (List Int)) (ss : List Int) : Bool := inB ev 0 12 && (decide (cc.length ≤ 10) && (bitsB ss cc.length && cc.all (ctxB ev)))
structure SceneOK (ev : Int) (cc : List (List Int)) (ss : List Int) : Prop where
  e0 : 0 ≤ ev
  e12 : ev ≤ 12
  c10 : cc.length ≤ 10
  sl : ss.length = cc.length
  sb : bitsB ss cc.length = true
  ctx : ∀ q, (hq : q < cc.length) → ctxB ev cc[q] = true
theorem sceneB_spec {ev : Int} {cc : List (List Int)} {ss : List Int} (h : sceneB ev cc ss = true) : SceneOK ev cc ss := by
  simp only [sceneB, Bool.and_eq_true, decide_eq_true_eq, List.all_eq_true] at h
  obtain ⟨h1, h2, h3, h4⟩ := h
  have a := inB_iff.1 h1
  have := bitsB_len h3
  exact ⟨a.1, a.2, h2, by omega, h3, fun q hq => h4 _ (List.getElem_mem hq)⟩
def hallB (bx by_ bwh : Int) (bll : List (List Int)) (pl : List Int) (ev : Int) (cc : List (List Int)) (ss nu : List Int) (co : Int) : Bool :=
  boxB bx by_ bwh bll && (bitsB pl (bx + by_) && (sceneB ev cc ss && (bitsB nu ev && inB co 0 1000)))
/-- the least of numbers -/
def leastN (m : Int) (f : Nat → Int) : Nat → Int
  | 0 => m
  | k + 1 => min (leastN m f k) (f k)
def chanceF (Y X : Nat) (ll : List (List Int)) (pl : List Int) (j : Nat) : Int := atZ (atZ ll j) (2 * atZ pl ((j / Y : Nat) : Int) + atZ pl ((X : Int) + (j % Y : Nat)))
theorem rise_no {l : List Int} {lo hi : Int} {k : Nat} (hk : (k : Int) < l.length) (h : inB (atZ l k) lo hi = false ∨ ((k : Int) > 0 ∧ atZ l ((k : Int) - 1) ≥ atZ l k)) : riseB l lo hi = false := by
  refine riseB_f (k := k) (by omega) ?_
  unfold riseAt
  rcases h with h | ⟨h1, h2⟩
  · simp [h]
  · have : ¬ k = 0 := by omega
    have h3 : ¬ atZ l ((k : Int) - 1) < atZ l k := by omega
    simp [this, h3]
theorem rise_yes {l : List Int} {lo hi : Int} {k : Nat} (ha : (List.range k).all (riseAt l lo hi) = true) (h : inB (atZ l k) lo hi = true) (h2 : ¬ (k : Int) > 0 ∨ ¬ atZ l ((k : Int) - 1) ≥ atZ l k) : (List.range (k + 1)).all (riseAt l lo hi) = true := by
  rw [range_all_s, ha, Bool.true_and]
  unfold riseAt
  rcases h2 with h2 | h2
  · have : k = 0 := by omega
    simp [h, this]
    subst this; simpa using h
  · have h3 : atZ l ((k : Int) - 1) < atZ l k := by omega
    simp [h, h3]
structure HallOK (bx by_ bwh : Int) (bll : List (List Int)) (pl : List Int) (ev : Int) (cc : List (List Int)) (ss nu : List Int) (co : Int) : Prop where
  box : boxB bx by_ bwh bll = true
  pl : bitsB pl (bx + by_) = true
  sc : sceneB ev cc ss = true
  nu : bitsB nu ev = true
  co : inB co 0 1000 = true
theorem hallB_spec {bx by_ bwh : Int} {bll : List (List Int)} {pl : List Int} {ev : Int} {cc : List (List Int)} {ss nu : List Int} {co : Int} (h : hallB bx by_ bwh bll pl ev cc ss nu co = true) : HallOK bx by_ bwh bll pl ev cc ss nu co := by
  simp only [hallB, Bool.and_eq_true] at h
  exact ⟨h.1, h.2.1, h.2.2.1, h.2.2.2.1, h.2.2.2.2⟩
theorem chance_at {X Y : Nat} {ll : List (List Int)} {pl : List Int} {i k : Nat} (hk : k < Y) : chanceF Y X ll pl (Y * i + k) = atB ll Y i k (2 * atZ pl i + atZ pl ((X : Int) + k)) := by
  have e1 : (Y * i + k) / Y = i := by rw [Nat.mul_comm, Nat.add_comm, Nat.add_mul_div_right _ _ (by omega), Nat.div_eq_of_lt hk, Nat.zero_add]
  have e2 : (Y * i + k) % Y = k := by rw [Nat.mul_comm, Nat.add_comm, Nat.add_mul_mod_self_right, Nat.mod_eq_of_lt hk]
  unfold chanceF atB
  rw [e1, e2, Int.natCast_add, Int.natCast_mul, Int.mul_comm]
theorem chance_split {X Y : Nat} (ll : List (List Int)) (pl : List Int) {i : Nat} (hY : 1 ≤ Y) (hi : i < Y * X) :
    ∃ a m : Nat, (i : Int) / Y = a ∧ (i : Int) % Y = m ∧ a < X ∧ m < Y ∧ chanceF Y X ll pl i = atZ (atZ ll i) (2 * atZ pl a + atZ pl ((X : Int) + m)) :=
  ⟨i / Y, i % Y, by simp, by simp, Nat.div_lt_of_lt_mul hi, Nat.mod_lt _ hY, rfl⟩

end Go.Proofs.Ytdnkmgbbkggmdaa

namespace Go.Proofs.Ytdnkmgbbkggmdaa
open Go.RowKit
set_option linter.unusedSectionVars false
variable [Glb]
open Go
/-! new halls -/
def newB (bx by_ bwh : Int) (bll : List (List Int)) (ev : Int) (cc : List (List Int)) (ss : List Int) : Bool := boxB bx by_ bwh bll && sceneB ev cc ss
structure NewOK (bx by_ bwh : Int) (bll : List (List Int)) (ev : Int) (cc : List (List Int)) (ss : List Int) : Prop where
  x1 : 1 ≤ bx
  x3 : bx ≤ 3
  y1 : 1 ≤ by_
  y3 : by_ ≤ 3
  e0 : 0 ≤ ev
  e12 : ev ≤ 12
  bl : bll.length ≤ 9
  br : ∀ r ∈ bll, r.length ≤ 1000000
  cl : cc.length ≤ 10
  cr : ∀ r ∈ cc, r.length ≤ 1000000
  cb : ∀ r ∈ cc, allB r 0 1000 = true
  sl : ss.length ≤ 10
theorem rise_lt {l : List Int} {lo hi : Int} (h : riseB l lo hi = true) : ∀ i : Nat, i < l.length → lo + i ≤ atZ l i ∧ atZ l i ≤ hi := by
  intro i
  induction i with
  | zero =>
    intro hi
    unfold riseB at h
    rw [List.all_eq_true] at h
    have := h 0 (List.mem_range.2 hi)
    simp only [riseAt, Bool.and_eq_true] at this
    have := inB_iff.1 this.1
    simp at this ⊢; omega
  | succ i ih =>
    intro hi
    have a := ih (by omega)
    unfold riseB at h
    rw [List.all_eq_true] at h
    have b := h (i + 1) (List.mem_range.2 hi)
    simp only [riseAt, Bool.and_eq_true, Bool.or_eq_true, decide_eq_true_eq] at b
    have c := inB_iff.1 b.1
    rcases b.2 with e | e
    · omega
    · rw [show ((i + 1 : Nat) : Int) - 1 = (i : Int) by omega] at e
      omega
theorem ctxB_len {n : Int} {l : List Int} (hn : n ≤ 1000) (h : ctxB n l = true) : l.length ≤ 1000 ∧ allB l 0 1000 = true := by
  simp only [ctxB, Bool.and_eq_true] at h
  have hr := rise_lt h.2
  constructor
  · rcases Nat.eq_zero_or_pos l.length with e | e
    · omega
    · have := hr (l.length - 1) (by omega); omega
  · unfold allB
    rw [List.all_eq_true]
    intro x hx
    obtain ⟨i, hi, rfl⟩ := List.getElem_of_mem hx
    have := hr i hi
    rw [atZ_nat hi] at this
    exact inB_iff.2 (by omega)
theorem newB_spec {bx by_ bwh : Int} {bll : List (List Int)} {ev : Int} {cc : List (List Int)} {ss : List Int} (h : newB bx by_ bwh bll ev cc ss = true) : NewOK bx by_ bwh bll ev cc ss := by
  simp only [newB, Bool.and_eq_true] at h
  have b := boxB_spec h.1
  have s := sceneB_spec h.2
  have m := mul_bd3 (sizeB_iff.2 ⟨⟨b.x1, b.x3⟩, b.y1, b.y3⟩)
  have hl := b.len
  have c : ∀ r ∈ cc, r.length ≤ 1000 ∧ allB r 0 1000 = true := fun r hr => by
    obtain ⟨i, hi, rfl⟩ := List.getElem_of_mem hr
    exact ctxB_len (by have := s.e12; omega) (s.ctx i hi)
  refine ⟨b.x1, b.x3, b.y1, b.y3, s.e0, s.e12, by omega, fun r hr => ?_, s.c10, fun r hr => by have := (c r hr).1; omega, fun r hr => (c r hr).2, by have := s.sl; have := s.c10; omega⟩
  obtain ⟨i, hi, rfl⟩ := List.getElem_of_mem hr
  have := (row4B_len (b.row i hi)).1
  omega
theorem len_le_cnt : ∀ {cc : List (List Int)} {n m : Nat}, cc.length ≤ n → (∀ r ∈ cc, r.length ≤ m) → cnt cc ≤ n * m
  | [], _, _, _, _ => by simp [cnt]
  | r :: cc, 0, _, h, _ => by simp at h
  | r :: cc, n + 1, m, h, h2 => by
    have a := len_le_cnt (n := n) (m := m) (cc := cc) (by simpa using h) fun x hx => h2 x (List.mem_cons_of_mem _ hx)
    have b := h2 r (List.mem_cons_self ..)
    simp only [cnt, Nat.succ_mul]; omega
theorem newB_cnt (bx by_ bwh : Int) (bll : List (List Int)) (ev : Int) (cc : List (List Int)) (ss : List Int) :
    (cnt (whenL (newB bx by_ bwh bll ev cc ss) bll) ≤ cnt bll ∧ (whenA (newB bx by_ bwh bll ev cc ss) (zerosL (bx + by_).toNat)).length ≤ 6) ∧ (cnt (whenL (newB bx by_ bwh bll ev cc ss) cc) ≤ cnt cc ∧ (whenA (newB bx by_ bwh bll ev cc ss) ss).length ≤ ss.length) ∧ (whenA (newB bx by_ bwh bll ev cc ss) (zerosL ev.toNat)).length ≤ 12 := by
  refine ⟨⟨cnt_whenL _ _, ?_⟩, ⟨cnt_whenL _ _, whenA_len _ _⟩, ?_⟩
  · cases h : newB bx by_ bwh bll ev cc ss with
    | false => simp [whenA]
    | true => have := newB_spec h; have a := this.x3; have b := this.y3; simp [whenA]; omega
  · cases h : newB bx by_ bwh bll ev cc ss with
    | false => simp [whenA]
    | true => have := newB_spec h; have a := this.e12; simp [whenA]; omega
structure HallBd (bll : List (List Int)) (pl : List Int) (cc : List (List Int)) (ss nu : List Int) : Prop where
  bl : bll.length ≤ 9
  br : ∀ r ∈ bll, r.length ≤ 1000000
  cl : cc.length ≤ 10
  cr : ∀ r ∈ cc, r.length ≤ 1000000
  cb : ∀ r ∈ cc, allB r 0 1000 = true
  sl : ss.length ≤ 10
  pl6 : pl.length ≤ 6
  nl : nu.length ≤ 12
theorem hallB_bd {bx by_ bwh : Int} {bll : List (List Int)} {pl : List Int} {ev : Int} {cc : List (List Int)} {ss nu : List Int} {co : Int} (h : hallB bx by_ bwh bll pl ev cc ss nu co = true) : HallBd bll pl cc ss nu := by
  have hH := hallB_spec h
  have hN := newB_spec (bx := bx) (by_ := by_) (bwh := bwh) (bll := bll) (ev := ev) (cc := cc) (ss := ss) (by simp [newB, hH.box, hH.sc])
  have a := bitsB_len hH.pl
  have b := bitsB_len hH.nu
  have x3 := hN.x3; have y3 := hN.y3; have e12 := hN.e12
  exact ⟨hN.bl, hN.br, hN.cl, hN.cr, hN.cb, hN.sl, by omega, by omega⟩
theorem hall_cnt (bx by_ bwh : Int) (bll : List (List Int)) (pl : List Int) (ev : Int) (cc : List (List Int)) (ss nu : List Int) (co : Int) (b : Bool) :
    (cnt (whenL b bll) ≤ cnt bll ∧ (whenA b pl).length ≤ pl.length) ∧ (cnt (whenL b cc) ≤ cnt cc ∧ (whenA b ss).length ≤ ss.length) ∧ (whenA b nu).length ≤ nu.length :=
  ⟨⟨cnt_whenL _ _, whenA_len _ _⟩, ⟨cnt_whenL _ _, whenA_len _ _⟩, whenA_len _ _⟩

end Go.Proofs.Ytdnkmgbbkggmdaa

namespace Go.Proofs.Ytdnkmgbbkggmdaa
open Go.RowKit
set_option linter.unusedSectionVars false
variable [Glb]
open Go
/-! the calls of a hall -/
theorem box_at {x y : Nat} {n : Int} {ll : List (List Int)} (h : boxB x y n ll = true) {i k : Nat} (hi : i < x) (hk : k < y) : (∀ p : Nat, p < 4 → 0 ≤ atB ll y i k p ∧ atB ll y i k p ≤ n) ∧ atB ll y i k ((0 : Nat) : Int) + atB ll y i k ((1 : Nat) : Int) + atB ll y i k ((2 : Nat) : Int) + atB ll y i k ((3 : Nat) : Int) = n := by
  have ix := idx_lt (i := (i : Int)) (k := (k : Int)) (X := x) (Y := y) (by omega) (by omega) (by omega) (by omega)
  exact ⟨fun p hp => (boxB_at h ix.1 ix.2.1).2 p (by omega) (by omega), by have := box4 h ix.1 ix.2.1; unfold atB; simpa using this⟩
theorem box_nat {X Y n : Int} {ll : List (List Int)} (h : boxB X Y n ll = true) : ∃ x y : Nat, X = x ∧ Y = y ∧ (1 ≤ x ∧ x ≤ 3) ∧ (1 ≤ y ∧ y ≤ 3) := by
  have b := boxB_spec h
  have a1 := b.x1; have a2 := b.x3; have a3 := b.y1; have a4 := b.y3
  exact ⟨X.toNat, Y.toNat, by omega, by omega, by omega, by omega⟩
/-- the sum of two boxes -/
def bmixF (la lb : List (List Int)) (Y : Nat) (i k p : Nat) : Int := atB la Y i k p + atB lb Y i k p
def bmixL (la lb : List (List Int)) (X Y : Int) : List (List Int) := boxF (bmixF la lb Y.toNat) Y.toNat (Y.toNat * X.toNat)
def sameB (x y n : Int) (la : List (List Int)) (x2 y2 m : Int) (lb : List (List Int)) : Bool := boxB x y n la && (boxB x2 y2 m lb && (decide (x = x2) && decide (y = y2)))
def bmixB (x y n : Int) (la : List (List Int)) (x2 y2 m : Int) (lb : List (List Int)) : Bool := sameB x y n la x2 y2 m lb && decide (n + m ≤ 1000)
theorem sameB_spec {x y n : Int} {la : List (List Int)} {x2 y2 m : Int} {lb : List (List Int)} (h : sameB x y n la x2 y2 m lb = true) : boxB x y n la = true ∧ boxB x y m lb = true ∧ x2 = x ∧ y2 = y := by
  simp only [sameB, Bool.and_eq_true, decide_eq_true_eq] at h
  obtain ⟨h1, h2, rfl, rfl⟩ := h
  exact ⟨h1, h2, rfl, rfl⟩
theorem mix_box {x y : Nat} {n m : Int} {la lb : List (List Int)} (ha : boxB x y n la = true) (hb : boxB x y m lb = true) : boxB x y (n + m) (bmixL la lb x y) = decide (n + m ≤ 1000) := by
  have a := boxB_spec ha; have b := boxB_spec hb
  have a1 := a.x1; have a2 := a.x3; have a3 := a.y1; have a4 := a.y3; have a5 := a.n1; have a6 := a.n2; have b5 := b.n1; have b6 := b.n2
  unfold bmixL
  simp only [Int.toNat_natCast]
  refine rows_box (by omega) (by omega) (by omega) (by omega) fun i k hi hk => ?_
  obtain ⟨a7, a8⟩ := box_at ha hi hk
  obtain ⟨b7, b8⟩ := box_at hb hi hk
  exact ⟨fun p hp => by have := a7 p hp; have := b7 p hp; unfold bmixF; omega, by unfold bmixF; omega⟩
/-- the box of a play -/
def playF (pl : List Int) (X : Nat) (wh : Int) (i k p : Nat) : Int := if atZ pl i = ((p / 2 : Nat) : Int) ∧ atZ pl ((X : Int) + k) = ((p % 2 : Nat) : Int) then wh else 0
def playL (pl : List Int) (X Y wh : Int) : List (List Int) := boxF (playF pl X.toNat wh) Y.toNat (Y.toNat * X.toNat)
def playB (x y : Int) (pl : List Int) (wh : Int) : Bool := sizeB x y && (bitsB pl (x + y) && inB wh 1 1000)
/-- the box with the players swapped -/
def swapF (ll : List (List Int)) (Y : Nat) (i k p : Nat) : Int := atB ll Y k i ((2 * (p % 2) + p / 2 : Nat) : Int)
def swapL (ll : List (List Int)) (X Y : Int) : List (List Int) := boxF (swapF ll Y.toNat) X.toNat (X.toNat * Y.toNat)
/-- the box with flipped answers -/
def bflF (ll : List (List Int)) (X Y : Nat) (fl : List Int) (i k p : Nat) : Int := atB ll Y i k (xor4 p (flipOf fl X i k))
def bflL (ll : List (List Int)) (X Y : Int) (fl : List Int) : List (List Int) := boxF (bflF ll X.toNat Y.toNat fl) Y.toNat (Y.toNat * X.toNat)
/-- the box with the least numbers -/
def gcdI (a b : Int) : Int := ((Nat.gcd a.toNat b.toNat : Nat) : Int)
def gcdR (d : Int) (row : List Int) : Int := row.foldl gcdI d
def gcdL (d : Int) (ll : List (List Int)) : Int := ll.foldl gcdR d
theorem gcdI_pos {a b : Int} (ha : 1 ≤ a) : 1 ≤ gcdI a b ∧ gcdI a b ≤ a := by
  have h1 : 0 < Nat.gcd a.toNat b.toNat := Nat.gcd_pos_of_pos_left _ (by omega)
  have h2 : Nat.gcd a.toNat b.toNat ≤ a.toNat := Nat.gcd_le_left _ (by omega)
  unfold gcdI; omega
theorem gcdR_pos : ∀ {row : List Int} {d : Int}, 1 ≤ d → 1 ≤ gcdR d row ∧ gcdR d row ≤ d
  | [], d, h => ⟨h, Int.le_refl _⟩
  | x :: row, d, h => by
    have a := gcdI_pos (b := x) h
    have b := gcdR_pos (row := row) a.1
    unfold gcdR at *
    rw [List.foldl_cons]; omega
theorem gcdL_pos : ∀ {ll : List (List Int)} {d : Int}, 1 ≤ d → 1 ≤ gcdL d ll ∧ gcdL d ll ≤ d
  | [], d, h => ⟨h, Int.le_refl _⟩
  | x :: ll, d, h => by
    have a := gcdR_pos (row := x) h
    have b := gcdL_pos (ll := ll) a.1
    unfold gcdL at *
    rw [List.foldl_cons]; omega
theorem gcdR_snoc {row : List Int} {d : Int} {k : Nat} (h : k < row.length) : gcdR d (row.take (k + 1)) = gcdI (gcdR d (row.take k)) (atZ row k) := by
  unfold gcdR; rw [List.take_succ_eq_append_getElem h, List.foldl_append, atZ_nat h]; rfl
theorem gcdL_snoc {ll : List (List Int)} {d : Int} {k : Nat} (h : k < ll.length) : gcdL d (ll.take (k + 1)) = gcdR (gcdL d (ll.take k)) (atZ ll k) := by
  unfold gcdL; rw [List.take_succ_eq_append_getElem h, List.foldl_append, atZ_nat h]; rfl
theorem gcd_step {a b : Int} (ha : 0 ≤ a) (hb : 1 ≤ b) : gcdI b (a % b) = gcdI a b := by
  have h0 := Int.emod_nonneg a (show b ≠ 0 by omega)
  have e : (a % b).toNat = a.toNat % b.toNat := by
    have h1 := Int.toNat_of_nonneg ha
    have h2 := Int.toNat_of_nonneg (show 0 ≤ b by omega)
    have : (a % b) = ((a.toNat % b.toNat : Nat) : Int) := by rw [Int.natCast_emod, h1, h2]
    omega
  unfold gcdI
  rw [e, Nat.gcd_comm a.toNat b.toNat, Nat.gcd_rec b.toNat a.toNat, Nat.gcd_comm]
theorem gcd_zero {a : Int} (ha : 0 ≤ a) : gcdI a 0 = a := by
  unfold gcdI; simp; omega
def redF (ll : List (List Int)) (Y : Nat) (d : Int) (i k p : Nat) : Int := atB ll Y i k p / d
def redL (ll : List (List Int)) (X Y : Int) (d : Int) : List (List Int) := boxF (redF ll Y.toNat d) Y.toNat (Y.toNat * X.toNat)
/-- the sums of a scene with an event flipped -/
def evF (cc : List (List Int)) (ss : List Int) (e : Int) (i : Nat) : Int := if (atZ cc (i : Int)).contains e = true then 1 - atZ ss i else atZ ss i
def evL (cc : List (List Int)) (ss : List Int) (e : Int) : List Int := rowF (evF cc ss e) ss.length
theorem xor_pair {p : Nat} {f g : Int} (hp : p < 4) (hf : 0 ≤ f ∧ f ≤ 1) (hg : 0 ≤ g ∧ g ≤ 1) : ((0 ≤ bits .xor .i64 ((p / 2 : Nat) : Int) f ∧ bits .xor .i64 ((p / 2 : Nat) : Int) f ≤ 1) ∧ 0 ≤ bits .xor .i64 ((p % 2 : Nat) : Int) g ∧ bits .xor .i64 ((p % 2 : Nat) : Int) g ≤ 1) ∧
    2 * bits .xor .i64 ((p / 2 : Nat) : Int) f + bits .xor .i64 ((p % 2 : Nat) : Int) g = xor4 p (2 * f + g) := by
  rcases (by omega : p = 0 ∨ p = 1 ∨ p = 2 ∨ p = 3) with rfl | rfl | rfl | rfl <;> rcases (by omega : f = 0 ∨ f = 1) with rfl | rfl <;> rcases (by omega : g = 0 ∨ g = 1) with rfl | rfl <;> exact ⟨by decide, rfl⟩
/-- the sums of which the first k are done -/
def evM (cc : List (List Int)) (ss : List Int) (e : Int) (k : Nat) : List Int := rowF (fun j => if j < k then evF cc ss e j else atZ ss (j : Int)) ss.length
theorem evM_zero (cc : List (List Int)) (ss : List Int) (e : Int) : evM cc ss e 0 = ss := by
  apply List.ext_getElem
  · simp [evM]
  · intro i h1 h2
    simp [evM, rowF, atZ_nat h2]
theorem evM_all (cc : List (List Int)) (ss : List Int) (e : Int) : evM cc ss e ss.length = evL cc ss e := by
  unfold evM evL
  exact rowF_congr fun k hk => if_pos hk
@[simp] theorem evM_len (cc : List (List Int)) (ss : List Int) (e : Int) (k : Nat) : (evM cc ss e k).length = ss.length := by simp [evM]
@[simp] theorem evL_len (cc : List (List Int)) (ss : List Int) (e : Int) : (evL cc ss e).length = ss.length := by simp [evL]
theorem evM_at (cc : List (List Int)) (ss : List Int) (e : Int) {k : Nat} (h : k < ss.length) : atZ (evM cc ss e k) (k : Int) = atZ ss (k : Int) := by
  rw [atZ_nat (by simpa using h)]; simp [evM, rowF]
theorem evM_hit {cc : List (List Int)} {ss : List Int} {e : Int} {k : Nat} (h : k < ss.length) (hc : (atZ cc (k : Int)).contains e = true) : (evM cc ss e k).set k (1 - atZ ss (k : Int)) = evM cc ss e (k + 1) := by
  apply List.ext_getElem
  · simp
  · intro i h1 h2
    rw [List.getElem_set]
    simp only [evM, rowF, List.getElem_map, List.getElem_range]
    by_cases hi : k = i
    · subst hi; rw [if_pos rfl, if_pos (by omega), evF, if_pos hc]
    · rw [if_neg hi]
      by_cases h3 : i < k
      · rw [if_pos h3, if_pos (by omega)]
      · rw [if_neg h3, if_neg (by omega)]
theorem evM_miss {cc : List (List Int)} {ss : List Int} {e : Int} {k : Nat} (hc : ¬ (atZ cc (k : Int)).contains e = true) : evM cc ss e k = evM cc ss e (k + 1) := by
  unfold evM
  refine rowF_congr fun i hi => ?_
  by_cases h3 : i < k
  · rw [if_pos h3, if_pos (by omega)]
  · rw [if_neg h3]
    by_cases h4 : i = k
    · subst h4; rw [if_pos (by omega), evF, if_neg hc]
    · rw [if_neg (by omega)]
theorem emod_bd0 {x n : Int} (hx : 0 ≤ x) (hn : 0 < n) : 0 ≤ x % n ∧ x % n < n ∧ x % n ≤ x := by
  refine ⟨Int.emod_nonneg _ (by omega), Int.emod_lt_of_pos _ (by omega), ?_⟩
  have h1 := Int.emod_add_mul_ediv x n
  have h2 : 0 ≤ n * (x / n) := Int.mul_nonneg (by omega) (Int.ediv_nonneg hx (by omega))
  omega
/-! halls as data -/
structure HD where
  bx : Int
  by_ : Int
  bwh : Int
  bll : List (List Int)
  pl : List Int
  ev : Int
  cc : List (List Int)
  ss : List Int
  nu : List Int
  co : Int
structure HV (h : HD) : Prop where
  box : boxB h.bx h.by_ h.bwh h.bll = true
  pl : bitsB h.pl (h.bx + h.by_) = true
  sc : sceneB h.ev h.cc h.ss = true
  nu : bitsB h.nu h.ev = true
/-- 1 at one place -/
def oneL (n : Nat) (a : Int) : List Int := (List.replicate n (0 : Int)).set a.toNat 1
@[simp] theorem oneL_len (n : Nat) (a : Int) : (oneL n a).length = n := by simp [oneL]
theorem oneL_bits (n : Nat) (a : Int) : bitsB (oneL n a) n = true := by
  simp only [bitsB, oneL_len, decide_true, Bool.true_and, allB, List.all_eq_true]
  intro x hx
  unfold oneL at hx
  rcases List.mem_or_eq_of_mem_set hx with h | h
  · have := List.eq_of_mem_replicate h; subst this; decide
  · subst h; decide
theorem xor_one {v : Int} (h : 0 ≤ v ∧ v ≤ 1) : bits .xor .i64 v 1 = 1 - v := by
  rcases (by omega : v = 0 ∨ v = 1) with rfl | rfl <;> rfl
def mixOK (h : HD) (a : Int) : Bool := playB h.bx h.by_ h.pl a && bmixB h.bx h.by_ h.bwh h.bll h.bx h.by_ a (playL h.pl h.bx h.by_ a)
def callT (h : HD) (k a : Int) : Option HD :=
  if k = 1 then if mixOK h a = true then some { h with bwh := h.bwh + a, bll := bmixL h.bll (playL h.pl h.bx h.by_ a) h.bx h.by_ } else none
  else if k = 2 then if inB a 0 (h.pl.length - 1) = true then some { h with pl := h.pl.set a.toNat (1 - atZ h.pl a) } else none
  else if k = 3 then if inB a 0 (h.pl.length - 1) = true then some { h with bll := bflL h.bll h.bx h.by_ (oneL h.pl.length a) } else none
  else if k = 4 then if a = 0 then some { h with bx := h.by_, by_ := h.bx, bll := swapL h.bll h.bx h.by_, pl := partZ h.pl h.bx h.pl.length ++ partZ h.pl 0 h.bx } else none
  else if k = 5 then if a = 0 then some { h with bwh := h.bwh / gcdL h.bwh h.bll, bll := redL h.bll h.bx h.by_ (gcdL h.bwh h.bll) } else none
  else if k = 6 then if inB a 0 (h.nu.length - 1) = true then some { h with nu := h.nu.set a.toNat (1 - atZ h.nu a) } else none
  else if k = 7 then if inB a 0 (h.ev - 1) = true then some { h with ss := evL h.cc h.ss a } else none
  else none
/-! rows told one by one -/
def rowsF (g : Nat → Nat → Int) (n : Nat) : List (List Int) := (List.range n).map fun j => rowF (g j) 4
@[simp] theorem rowsF_len (g : Nat → Nat → Int) (n : Nat) : (rowsF g n).length = n := by simp [rowsF]
theorem rowsF_snoc (g : Nat → Nat → Int) (n : Nat) : rowsF g (n + 1) = rowsF g n ++ [rowF (g n) 4] := by simp [rowsF, List.range_succ]
theorem boxF_rows {f : Nat → Nat → Nat → Int} {g : Nat → Nat → Int} {y n : Nat} (h : ∀ j p, j < n → p < 4 → f (j / y) (j % y) p = g j p) : boxF f y n = rowsF g n := by
  unfold boxF rowsF
  exact List.map_congr_left fun j hj => rowF_congr fun p hp => h j p (List.mem_range.1 hj) hp
theorem atB_row (ll : List (List Int)) (y j : Nat) (p : Int) : atB ll y ((j / y : Nat) : Int) ((j % y : Nat) : Int) p = atZ (atZ ll (j : Int)) p := by
  unfold atB
  have : ((j / y : Nat) : Int) * (y : Int) + ((j % y : Nat) : Int) = (j : Int) := by
    have := Nat.div_add_mod j y
    rw [← Int.natCast_mul, ← Int.natCast_add, Nat.mul_comm, this]
  rw [this]
def mixR (la lb : List (List Int)) (j p : Nat) : Int := atZ (atZ la (j : Int)) (p : Int) + atZ (atZ lb (j : Int)) (p : Int)
theorem bmixL_rows {x y : Nat} (la lb : List (List Int)) : bmixL la lb x y = rowsF (mixR la lb) (y * x) := by
  unfold bmixL
  simp only [Int.toNat_natCast]
  exact boxF_rows fun j p _ _ => by unfold bmixF mixR; rw [atB_row, atB_row]
def redR (ll : List (List Int)) (d : Int) (j p : Nat) : Int := atZ (atZ ll (j : Int)) (p : Int) / d
theorem redL_rows {x y : Nat} (ll : List (List Int)) (d : Int) : redL ll x y d = rowsF (redR ll d) (y * x) := by
  unfold redL
  simp only [Int.toNat_natCast]
  exact boxF_rows fun j p _ _ => by unfold redF redR; rw [atB_row]
/-- a row with flipped answers, on the way -/
def flM (row : List Int) (m : Int) (k : Nat) : List Int := rowF (fun j => if (xor4 j m).toNat < k then atZ row (xor4 j m) else 0) 4
@[simp] theorem flM_len (row : List Int) (m : Int) (k : Nat) : (flM row m k).length = 4 := by simp [flM]
theorem flM_zero (row : List Int) (m : Int) : flM row m 0 = List.replicate 4 0 := by simp [flM, rowF, List.range, List.range.loop]
theorem flM_set {row : List Int} {m : Int} {k : Nat} (hm : 0 ≤ m ∧ m < 4) (hk : k < 4) : (flM row m k).set (xor4 k m).toNat (atZ row k) = flM row m (k + 1) := by
  rcases (by omega : k = 0 ∨ k = 1 ∨ k = 2 ∨ k = 3) with rfl | rfl | rfl | rfl <;> rcases (by omega : m = 0 ∨ m = 1 ∨ m = 2 ∨ m = 3) with rfl | rfl | rfl | rfl <;> rfl
theorem flM_all (row : List Int) {m : Int} (hm : 0 ≤ m ∧ m < 4) : flM row m 4 = rowF (fun j => atZ row (xor4 j m)) 4 := by
  unfold flM
  refine rowF_congr fun j hj => if_pos ?_
  have := (xor4_eq hj hm.1 hm.2).2
  omega
theorem play_row {f g wh : Int} (hf : 0 ≤ f ∧ f ≤ 1) (hg : 0 ≤ g ∧ g ≤ 1) : (List.replicate 4 (0 : Int)).set (2 * f + g).toNat wh = rowF (fun p => if f = ((p / 2 : Nat) : Int) ∧ g = ((p % 2 : Nat) : Int) then wh else 0) 4 := by
  rcases (by omega : f = 0 ∨ f = 1) with rfl | rfl <;> rcases (by omega : g = 0 ∨ g = 1) with rfl | rfl <;> simp [rowF, List.range, List.range.loop]

end Go.Proofs.Ytdnkmgbbkggmdaa

namespace Go.Proofs.Ytdnkmgbbkggmdaa
open Go.RowKit
set_option linter.unusedSectionVars false
variable [Glb]
open Go Go.RowKit
/-! lists of structs -/
section
variable {α : Type} {c : α → List D} {n : Nat}
theorem flatL_len (hc : ∀ a, (c a).length = n) : ∀ l : List α, (l.flatMap c).length = l.length * n
  | [] => by simp
  | a :: l => by rw [List.flatMap_cons, List.length_append, hc, flatL_len hc l, List.length_cons, Nat.add_mul]; omega
theorem flatL_split (hc : ∀ a, (c a).length = n) {l : List α} {j : Nat} (h : j < l.length) : l.flatMap c = (l.take j).flatMap c ++ (c l[j] ++ (l.drop (j + 1)).flatMap c) ∧ ((l.take j).flatMap c).length = j * n := by
  refine ⟨?_, by rw [flatL_len hc, List.length_take]; congr 1; omega⟩
  conv => lhs; rw [← List.take_append_drop j l, List.drop_eq_getElem_cons h]
  simp only [List.flatMap_append, List.flatMap_cons]
theorem flatL_cut (hc : ∀ a, (c a).length = n) {l : List α} {j : Nat} {e : α} (h : l[j]? = some e) : ((l.flatMap c).drop (j * n)).take n = c e := by
  obtain ⟨hlt, rfl⟩ := List.getElem?_eq_some_iff.1 h
  obtain ⟨h1, h2⟩ := flatL_split hc hlt
  rw [h1, ← h2, List.drop_left, ← hc l[j], List.take_left]
theorem flatL_at (hc : ∀ a, (c a).length = n) {l : List α} {j i : Nat} {e : α} (h : l[j]? = some e) (hi : i < n) : (l.flatMap c)[j * n + i]? = (c e)[i]? := by
  obtain ⟨hlt, rfl⟩ := List.getElem?_eq_some_iff.1 h
  obtain ⟨h1, h2⟩ := flatL_split hc hlt
  rw [h1, List.getElem?_append_right (by omega), h2, Nat.add_sub_cancel_left, List.getElem?_append_left (by rw [hc]; exact hi)]
theorem flatL_set (hc : ∀ a, (c a).length = n) {l : List α} {j i : Nat} {e e' : α} {d : D} (h : l[j]? = some e) (hi : i < n) (he : (c e).set i d = c e') : (l.flatMap c).set (j * n + i) d = (l.set j e').flatMap c := by
  obtain ⟨hlt, rfl⟩ := List.getElem?_eq_some_iff.1 h
  obtain ⟨h1, h2⟩ := flatL_split hc hlt
  have hlt' : j < (l.set j e').length := by simpa using hlt
  obtain ⟨g1, g2⟩ := flatL_split hc hlt'
  rw [h1, g1, List.set_append_right _ _ (by omega), h2, Nat.add_sub_cancel_left, List.set_append_left _ _ (by rw [hc]; exact hi), he]
  have e1 : (l.set j e').take j = l.take j := by rw [List.take_set, List.set_eq_of_length_le (by rw [List.length_take]; omega)]
  rw [e1]
  simp [List.drop_set]
/-- a list that is filled from the front -/
def fillS (c : α → List D) (z : List D) (l : List α) (k : Nat) : List D := (l.take k).flatMap c ++ repL' (l.length - k) z
theorem fillS_zero (z : List D) (l : List α) : fillS c z l 0 = repL' l.length z := by simp [fillS]
theorem fillS_all (z : List D) (l : List α) : fillS c z l l.length = l.flatMap c := by simp [fillS, repL']
theorem fillS_len (hc : ∀ a, (c a).length = n) {z : List D} (hz : z.length = n) (l : List α) {k : Nat} (hk : k ≤ l.length) : (fillS c z l k).length = l.length * n := by
  unfold fillS
  rw [List.length_append, flatL_len hc, repL'_len, hz, List.length_take, Nat.min_eq_left hk, ← Nat.add_mul]
  congr 1; omega
theorem fillS_set (hc : ∀ a, (c a).length = n) {z : List D} (hz : z.length = n) {l : List α} {k : Nat} {ys : List D} (hk : k < l.length) (hy : ys = c l[k]) : (fillS c z l k).take (k * n) ++ ys ++ (fillS c z l k).drop (k * n + n) = fillS c z l (k + 1) := by
  have h2 := (flatL_split hc hk).2
  unfold fillS
  rw [show l.length - k = (l.length - (k + 1)) + 1 by omega, repL'_succ, hy]
  have e1 : ((l.take k).flatMap c ++ (z ++ repL' (l.length - (k + 1)) z)).take (k * n) = (l.take k).flatMap c := by rw [← h2, List.take_left]
  have e2 : ((l.take k).flatMap c ++ (z ++ repL' (l.length - (k + 1)) z)).drop (k * n + n) = repL' (l.length - (k + 1)) z := by
    rw [← List.append_assoc, show k * n + n = ((l.take k).flatMap c ++ z).length by rw [List.length_append, h2, hz], List.drop_left]
  rw [e1, e2, List.take_succ_eq_append_getElem hk, List.flatMap_append]
  simp
end
/-! marks -/
def mkS {α : Type} (m : Int → α → α) (w : α → Nat) : Int → List α → List α
  | _, [] => []
  | k, r :: l => m k r :: mkS m w (k + w r) l
def cntS {α : Type} (w : α → Nat) : List α → Nat
  | [] => 0
  | r :: l => w r + cntS w l
def mkSL {α : Type} (m : Int → α → α) (w : α → Nat) (l : List α) (k : Int) (j : Nat) : List α := mkS m w k (l.take j) ++ l.drop j
section
variable {α : Type} {m : Int → α → α} {w : α → Nat}
@[simp] theorem mkS_len : ∀ (k : Int) (l : List α), (mkS m w k l).length = l.length
  | _, [] => rfl
  | k, r :: l => by simp [mkS, mkS_len]
theorem cntS_append : ∀ a b : List α, cntS w (a ++ b) = cntS w a + cntS w b
  | [], b => by simp [cntS]
  | l :: a, b => by simp [cntS, cntS_append a b]; omega
theorem cntS_take {l : List α} {i : Nat} (h : i < l.length) : cntS w (l.take (i + 1)) = cntS w (l.take i) + w l[i] := by
  rw [List.take_succ_eq_append_getElem h, cntS_append]; simp [cntS]
theorem cntS_take_le (l : List α) (i : Nat) : cntS w (l.take i) ≤ cntS w l := by
  conv => rhs; rw [← List.take_append_drop i l, cntS_append]
  omega
theorem mkS_append : ∀ (a b : List α) (k : Int), mkS m w k (a ++ b) = mkS m w k a ++ mkS m w (k + cntS w a) b
  | [], b, k => by simp [mkS, cntS]
  | l :: a, b, k => by simp [mkS, mkS_append a b, cntS]; congr 1; omega
theorem mkSL_zero (l : List α) (k : Int) : mkSL m w l k 0 = l := by simp [mkSL, mkS]
theorem mkSL_all (l : List α) (k : Int) : mkSL m w l k l.length = mkS m w k l := by simp [mkSL]
theorem mkSL_len (l : List α) (k : Int) {j : Nat} (h : j ≤ l.length) : (mkSL m w l k j).length = l.length := by simp [mkSL]; omega
theorem mkSL_get {l : List α} {k : Int} {j : Nat} (h : j < l.length) : (mkSL m w l k j)[j]? = some l[j] := by
  unfold mkSL
  rw [List.getElem?_append_right (by simp; omega), mkS_len, List.length_take, Nat.min_eq_left (by omega), Nat.sub_self, List.getElem?_drop]
  simp [h]
theorem mkSL_set {l : List α} {k : Int} {j : Nat} (h : j < l.length) : (mkSL m w l k j).set j (m (k + cntS w (l.take j)) l[j]) = mkSL m w l k (j + 1) := by
  unfold mkSL
  have hl : (mkS m w k (l.take j)).length = j := by simp; omega
  rw [List.set_append_right _ _ (by omega), hl, Nat.sub_self, List.drop_eq_getElem_cons h, List.set_cons_zero, List.take_succ_eq_append_getElem h, mkS_append]
  simp [mkS]
end
theorem cntS_mem {α : Type} {w : α → Nat} : ∀ {l : List α} {e : α}, e ∈ l → w e ≤ cntS w l
  | x :: l, e, h => by
    rcases List.mem_cons.1 h with rfl | h
    · simp [cntS]
    · have := cntS_mem (w := w) h; simp only [cntS]; omega
/-! calls, rules -/
abbrev CallE := Int × Int × Unit
def mC (k : Int) (_ : CallE) : CallE := (k, k + 1, ())
def wC (_ : CallE) : Nat := 2
theorem cntC : ∀ l : List CallE, cntS wC l = 2 * l.length
  | [] => rfl
  | e :: l => by simp [cntS, cntC l, wC]; omega
abbrev RuleE := List Int × List (List Int) × List (List Int) × Unit
def mU (k : Int) (e : RuleE) : RuleE := (mkI k e.1.length, mkII (k + e.1.length) e.2.1, mkII (k + e.1.length + cnt e.2.1) e.2.2.1, ())
def wU (e : RuleE) : Nat := e.1.length + cnt e.2.1 + cnt e.2.2.1
/-- the cells that a list of rules holds -/
def zU (e : RuleE) : Nat := e.1.length + e.2.1.length + cnt e.2.1 + e.2.2.1.length + cnt e.2.2.1
theorem wU_le : ∀ l : List RuleE, cntS wU l ≤ cntS zU l
  | [] => by simp [cntS]
  | e :: l => by have := wU_le l; simp only [cntS, wU, zU]; omega

end Go.Proofs.Ytdnkmgbbkggmdaa

namespace Go.Proofs.Ytdnkmgbbkggmdaa
open Go.RowKit
set_option linter.unusedSectionVars false
variable [Glb]
open Go
/-! mixtures of wirings -/
def wirR (la lb : List (List Int)) (r s : RuleE) : List (List Int) := wiredL la lb r.1 r.2.1 r.2.2.1 s.1 s.2.1 s.2.2.1
def wirOK (xa ya na : Int) (la : List (List Int)) (xb yb nb : Int) (lb : List (List Int)) (r s : RuleE) : Bool := wireOK xa ya na la xb yb nb lb r.1 r.2.1 r.2.2.1 s.1 s.2.1 s.2.2.1
def mwN (w : Int) : Nat → Int
  | 0 => 0
  | 1 => w
  | k + 2 => mwN w (k + 1) + w
def mwL (la lb : List (List Int)) (l1 l2 : List RuleE) : Nat → List (List Int)
  | 0 => []
  | 1 => wirR la lb (atZ l1 ((0 : Nat) : Int)) (atZ l2 ((0 : Nat) : Int))
  | k + 2 => bmixL (mwL la lb l1 l2 (k + 1)) (wirR la lb (atZ l1 ((k + 1 : Nat) : Int)) (atZ l2 ((k + 1 : Nat) : Int))) 2 2
def mwOK (xa ya na : Int) (la : List (List Int)) (xb yb nb : Int) (lb : List (List Int)) (l1 l2 : List RuleE) : Nat → Bool
  | 0 => true
  | k + 1 => mwOK xa ya na la xb yb nb lb l1 l2 k && (wirOK xa ya na la xb yb nb lb (atZ l1 (k : Int)) (atZ l2 (k : Int)) && decide (mwN (na * nb) (k + 1) ≤ 1000))
def mwB (xa ya na : Int) (la : List (List Int)) (xb yb nb : Int) (lb : List (List Int)) (l1 l2 : List RuleE) : Bool := (decide (0 < l1.length) && decide (l1.length = l2.length)) && mwOK xa ya na la xb yb nb lb l1 l2 l1.length
theorem mwN_one (w : Int) : mwN w 1 = w := rfl
section
variable {xa ya na : Int} {la : List (List Int)} {xb yb nb : Int} {lb : List (List Int)} {l1 l2 : List RuleE}
theorem mwOK_mono : ∀ {m k : Nat}, k ≤ m → mwOK xa ya na la xb yb nb lb l1 l2 m = true → mwOK xa ya na la xb yb nb lb l1 l2 k = true
  | 0, k, h, _ => by
    have : k = 0 := by omega
    subst this; rfl
  | m + 1, k, h, h2 => by
    by_cases hk : k = m + 1
    · subst hk; exact h2
    · simp only [mwOK, Bool.and_eq_true] at h2
      exact mwOK_mono (by omega) h2.1
theorem mwOK_no {m k : Nat} (h : k < m) (h2 : wirOK xa ya na la xb yb nb lb (atZ l1 (k : Int)) (atZ l2 (k : Int)) = false ∨ ¬ mwN (na * nb) (k + 1) ≤ 1000) : mwOK xa ya na la xb yb nb lb l1 l2 m = false := by
  cases hm : mwOK xa ya na la xb yb nb lb l1 l2 m with
  | false => rfl
  | true =>
    have := mwOK_mono (k := k + 1) (by omega) hm
    simp only [mwOK, Bool.and_eq_true, decide_eq_true_eq] at this
    rcases h2 with h2 | h2
    · rw [h2] at this; exact absurd this.2.1 (by simp)
    · exact absurd this.2.2 h2
theorem wirOK_spec {r s : RuleE} (h : wirOK xa ya na la xb yb nb lb r s = true) : xa = 2 ∧ ya = 2 ∧ xb = 2 ∧ yb = 2 ∧ boxB 2 2 na la = true ∧ boxB 2 2 nb lb = true ∧ (1 ≤ na * nb ∧ na * nb ≤ 1000) ∧ boxB 2 2 (na * nb) (wirR la lb r s) = true ∧ (ruleB r.1 r.2.1 r.2.2.1 = true ∧ ruleB s.1 s.2.1 s.2.2.1 = true) := by
  simp only [wirOK, wireOK, wiresB, Bool.and_eq_true, decide_eq_true_eq] at h
  obtain ⟨⟨v1, v2, hn⟩, v3, v4⟩ := h
  obtain ⟨rfl, rfl, ha, a1, a2⟩ := pairB_spec v1
  obtain ⟨rfl, rfl, hb, b1, b2⟩ := pairB_spec v2
  have hw := wire_box ha hb v3 v4
  rw [decide_eq_true hn] at hw
  have h1 := (boxB_spec hw).n1
  exact ⟨rfl, rfl, rfl, rfl, ha, hb, ⟨h1, hn⟩, hw, v3, v4⟩
theorem mw_box : ∀ {k : Nat}, mwOK xa ya na la xb yb nb lb l1 l2 (k + 1) = true → boxB 2 2 (mwN (na * nb) (k + 1)) (mwL la lb l1 l2 (k + 1)) = true
  | 0, h => by
    simp only [mwOK, Bool.and_eq_true] at h
    rw [mwN_one]
    exact (wirOK_spec h.2.1).2.2.2.2.2.2.2.1
  | k + 1, h => by
    rw [mwOK] at h
    simp only [Bool.and_eq_true, decide_eq_true_eq] at h
    have ih := mw_box h.1
    have w := (wirOK_spec h.2.1).2.2.2.2.2.2.2.1
    have m := mix_box (x := 2) (y := 2) ih w
    rw [show mwN (na * nb) (k + 1) + na * nb = mwN (na * nb) (k + 1 + 1) from rfl, decide_eq_true h.2.2] at m
    exact m
theorem mw_bd {k : Nat} (h : mwOK xa ya na la xb yb nb lb l1 l2 k = true) : 0 ≤ mwN (na * nb) k ∧ mwN (na * nb) k ≤ 1000 := by
  cases k with
  | zero => simp [mwN]
  | succ k => have b := boxB_spec (mw_box h); have := b.n1; have := b.n2; omega
theorem mw_cnt {k : Nat} : cnt (mwL la lb l1 l2 k) ≤ 16 := by
  match k with
  | 0 => simp [mwL, cnt]
  | 1 => 
    have : cnt (wirR la lb (atZ l1 ((0 : Nat) : Int)) (atZ l2 ((0 : Nat) : Int))) = 16 := by unfold wirR wiredL; rw [cnt_boxF]
    exact Nat.le_of_eq this
  | k + 2 =>
    have : cnt (mwL la lb l1 l2 (k + 2)) = 16 := by unfold mwL bmixL; rw [cnt_boxF]; rfl
    exact Nat.le_of_eq this
end
def q2 : Nat → Int
  | 0 => 0
  | _ + 1 => 2
theorem bmix_ok {n m : Int} {la lb : List (List Int)} (ha : boxB 2 2 n la = true) (hb : boxB 2 2 m lb = true) : bmixB 2 2 n la 2 2 m lb = decide (n + m ≤ 1000) := by
  simp [bmixB, sameB, ha, hb]
theorem mwOK_step {xa ya na : Int} {la : List (List Int)} {xb yb nb : Int} {lb : List (List Int)} {l1 l2 : List RuleE} {k : Nat} (h : mwOK xa ya na la xb yb nb lb l1 l2 k = true) (h2 : wirOK xa ya na la xb yb nb lb (atZ l1 (k : Int)) (atZ l2 (k : Int)) = true) (h3 : mwN (na * nb) (k + 1) ≤ 1000) : mwOK xa ya na la xb yb nb lb l1 l2 (k + 1) = true := by
  simp [mwOK, h, h2, h3]

end Go.Proofs.Ytdnkmgbbkggmdaa
