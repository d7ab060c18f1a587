/- What the functions that FnExactBestAsks reaches return: part of its proof. No condition beyond those of its theorems. -/
import Derived.Test.YtdihapcicpkdkaaKfnsFnExactBestAsksA
import Derived.Test.YtdihapcicpkdkaaKplainC
import Derived.Test.YtdihapcicpkdkaaKplainA
import Derived.Test.YtdihapcicpkdkaaKplainB
import Derived.Test.YtdihapcicpkdkaaKfnsFnExactBestAsksB
set_option linter.unusedVariables false
set_option linter.unusedSimpArgs false
namespace Go.Proofs.Ytdihapcicpkdkaa
open Go.RowKit
set_option linter.unusedSectionVars false
variable [Glb]
set_option maxRecDepth 10000
set_option maxHeartbeats 4000000
theorem eqIntS_p (a b : List Int) : PC Try.prog 13 [.c (eI a), .c (eI b)] (.p (.c (dB (decide (a = b))))) := by
  refine pc_intro Try.func13 rfl rfl rfl (by kernel_rfl) rfl rfl ?_; rintro ⟨hl, hm, -⟩
  have hl := hl.len
  have hm := hm.len
  repeat' (first | (refine so_is (.assign _) ?_; (refine so_q (qt_asC rfl) rfl ?_)) | (refine so_is (.move _) ?_; (refine so_q (qt_mvC rfl) rfl ?_)) | (refine so_is (.call ⟨.builtin .len, _, #[26]⟩) ?_; (refine so_q (qt_len_d rfl (by kernel_rfl)) rfl ?_)) | (refine so_is (.binOp .neq 3 _ _ _) ?_; refine so_q (qt_neq rfl rfl) rfl ?_) | refine so_nil ?_ | refine sk_seq ?_ | refine sk_block ?_ | refine sk_skip ?_ | refine sk_region ?_ | refine sk_if rfl (fun hc => ?_) (fun hc => ?_))
  · (apply sk_ret; apply ret_eq; (· apply RetOK.p; (· (apply GvA.cons; (· exact .tmp _); (· exact GvP.c (.lit _))); exact GvA.nil); (· (decide))))
    have : a ≠ b := fun e => by subst e; simp at *
    simp [this]
  have hab : a.length = b.length := by simp at *; omega
  apply sk_packC [0, 1, 5] [] rfl; (· (repeat (first | exact Pf.nil | apply Pf.cons (.c rfl (.d rfl))))); (· (repeat (exact Pb.nil)))
  refine sk_loopL [0, 1] [] (fun k => [(5, iN k)]) (fun _ => []) (fun k => k ≤ a.length ∧ a.take k = b.take k) (fun k => a.length - k) (0) ?_ (by (repeat (first | exact trivial | refine ⟨(by (rfl)), ?_⟩))) (by (repeat (exact trivial))) ?_
  · simp
  rintro k ⟨hk, hs⟩
  repeat' (first | (refine so_is (.assign _) ?_; (refine so_q (qt_asC rfl) rfl ?_)) | (refine so_is (.move _) ?_; (refine so_q (qt_mvC rfl) rfl ?_)) | (refine so_is (.call ⟨.builtin .len, _, #[26]⟩) ?_; (refine so_q (qt_len_d rfl (by kernel_rfl)) rfl ?_)) | (refine so_is (.binOp .neq 3 _ _ _) ?_; refine so_q (qt_neq rfl rfl) rfl ?_) | (refine so_is (.binOp .lss 3 _ _ _) ?_; refine so_q (qt_lss rfl rfl) rfl ?_) | (refine so_is (.indexAddr 26 _ _) ?_; (refine so_q (qt_idxI rfl rfl (by kernel_rfl) (by (omega)) (by (omega))) rfl ?_)) | (refine so_is (.load 3 _) ?_; (refine so_q (qt_load_pt rfl (by kernel_rfl) rfl) rfl ?_)) | (refine so_is (.binOp .add 3 _ _ _) ?_; refine so_q (qt_addI rfl rfl (by (omega))) rfl ?_) | refine so_nil ?_ | refine sk_seq ?_ | refine sk_block ?_ | refine sk_blk ?_ | refine sk_exit rfl ?_ | refine sk_skip ?_ | refine sk_region ?_ | refine sk_drawQ 6 (fun _ => false) (.step 0 true (.step 1 true (.step 2 true (.step 3 true (.step 4 true (.step 5 true (.step 6 true (.step 7 true (.step 8 true .nil))))))))) [(0, 511, 511, true), (0, 511, 511, true), (3, 508, 511, true), (4, 507, 511, false), (0, 511, 511, true), (0, 511, 511, true), (48, 463, 511, true), (64, 447, 511, false), (136, 375, 511, true)] (by kernel_rfl) (by kernel_rfl) ?_ | refine sk_if rfl (fun hc => ?_) (fun hc => ?_))
  · rename_i hk'
    rw [atZ_nat (by omega), atZ_nat (by omega)] at hc
    (apply sk_ret; apply ret_eq; (· apply RetOK.p; (· (apply GvA.cons; (· exact .tmp _); (· exact GvP.c (.lit _))); exact GvA.nil); (· (decide))))
    have : a ≠ b := fun e => by subst e; exact hc rfl
    simp [this]
  · rename_i hk'
    rw [atZ_nat (by omega), atZ_nat (by omega)] at hc
    refine sk_back ?_; refine ⟨k + 1, ?_, ?_, le_at rfl (by (repeat (first | exact trivial | refine ⟨(by (rfl)), ?_⟩))) (by (repeat (first | exact trivial | refine ⟨rfl, ?_⟩))) (by (repeat (exact trivial))) (by (repeat (exact trivial)))⟩
    · exact ⟨by omega, by rw [List.take_succ_eq_append_getElem (by omega), List.take_succ_eq_append_getElem (by omega), hs]; simp at hc; rw [hc]⟩
    · omega
  · have e : k = a.length := by omega
    subst e
    rw [List.take_length, hab, List.take_length] at hs
    (apply sk_ret; apply ret_eq; (· apply RetOK.p; (· (apply GvA.cons; (· exact .tmp _); (· exact GvP.c (.lit _))); exact GvA.nil); (· (decide))))
    simp [hs]
theorem eqIntS_same (a : List Int) : PC Try.prog 13 [.c (eI a), .c (eI a)] (.p (.c (dB true))) := by
  have := eqIntS_p a a; rwa [decide_eq_true rfl] at this

end Go.Proofs.Ytdihapcicpkdkaa

namespace Go.Proofs.Ytdihapcicpkdkaa
open Go.RowKit
set_option linter.unusedSectionVars false
variable [Glb]
set_option maxRecDepth 10000
set_option maxHeartbeats 4000000
theorem eqIntSS_p (a b : List (List Int)) : PC Try.prog 104 [.c (eII a), .c (eII b)] (.p (.c (dB (decide (a = b))))) := by
  refine pc_intro Try.func104 rfl rfl rfl (by kernel_rfl) rfl rfl ?_; rintro ⟨hl, hm, -⟩
  have hl := hl.len
  have hm := hm.len
  repeat' (first | (refine so_is (.assign _) ?_; (refine so_q (qt_asC rfl) rfl ?_)) | (refine so_is (.move _) ?_; (refine so_q (qt_mvC rfl) rfl ?_)) | (refine so_is (.call ⟨.builtin .len, _, #[22]⟩) ?_; (refine so_q (qt_len_d rfl (by kernel_rfl)) rfl ?_)) | (refine so_is (.binOp .neq 3 _ _ _) ?_; refine so_q (qt_neq rfl rfl) rfl ?_) | refine so_nil ?_ | refine sk_seq ?_ | refine sk_block ?_ | refine sk_skip ?_ | refine sk_region ?_ | refine sk_if rfl (fun hc => ?_) (fun hc => ?_))
  · (apply sk_ret; apply ret_eq; (· apply RetOK.p; (· (apply GvA.cons; (· exact .tmp _); (· exact GvP.c (.lit _))); exact GvA.nil); (· (decide))))
    have : a ≠ b := fun e => by subst e; simp at *
    simp [this]
  have hab : a.length = b.length := by simp at *; omega
  apply sk_packC [0, 1, 5] [] rfl; (· (repeat (first | exact Pf.nil | apply Pf.cons (.c rfl (.d rfl))))); (· (repeat (exact Pb.nil)))
  refine sk_loopL [0, 1] [] (fun k => [(5, iN k)]) (fun _ => []) (fun k => k ≤ a.length ∧ a.take k = b.take k) (fun k => a.length - k) (0) ?_ (by (repeat (first | exact trivial | refine ⟨(by (rfl)), ?_⟩))) (by (repeat (exact trivial))) ?_
  · simp
  rintro k ⟨hk, hs⟩
  repeat' (first | (refine so_is (.assign _) ?_; (refine so_q (qt_asC rfl) rfl ?_)) | (refine so_is (.move _) ?_; (refine so_q (qt_mvC rfl) rfl ?_)) | (refine so_is (.call ⟨.builtin .len, _, #[22]⟩) ?_; (refine so_q (qt_len_d rfl (by kernel_rfl)) rfl ?_)) | (refine so_is (.binOp .lss 3 _ _ _) ?_; refine so_q (qt_lss rfl rfl) rfl ?_) | (refine so_is (.indexAddr 22 _ _) ?_; (refine so_q (qt_idxII rfl rfl (by kernel_rfl) (by (omega)) (by (omega))) rfl ?_)) | (refine so_is (.load 26 _) ?_; (refine so_q (qt_load_pt rfl (by kernel_rfl) rfl) rfl ?_)) | (refine so_is (.unOp .not 4 _) ?_; refine so_q (qt_not rfl) rfl ?_) | (refine so_is (.binOp .add 3 _ _ _) ?_; refine so_q (qt_addI rfl rfl (by (omega))) rfl ?_) | (refine so_is (.call ⟨.value (.func 13), _, _⟩) ?_; (apply so_call0 (fid := 13); (· (repeat (first | exact SeA.nil | apply SeA.cons (.c (.d _))))); (· exact eqIntS_p _ _); (· rfl))) | refine so_nil ?_ | refine sk_seq ?_ | refine sk_block ?_ | refine sk_blk ?_ | refine sk_exit rfl ?_ | refine sk_skip ?_ | refine sk_region ?_ | refine sk_drawQ 6 (fun _ => false) (.step 0 true (.step 1 true (.step 2 true (.step 3 true (.step 4 true (.step 5 true (.step 6 true (.step 7 true (.step 8 false (.step 9 true .nil)))))))))) [(0, 1023, 1023, true), (0, 1023, 1023, true), (3, 1020, 1023, true), (4, 1019, 1023, false), (0, 1023, 1023, true), (0, 1023, 1023, true), (48, 975, 1023, true), (64, 959, 1023, false), (136, 887, 1023, false), (256, 767, 1023, true)] (by kernel_rfl) (by kernel_rfl) ?_ | refine sk_if rfl (fun hc => ?_) (fun hc => ?_) | refine sk_nif rfl (fun hc => ?_) (fun hc => ?_))
  · rename_i hk'
    rw [atZ_nat (by omega), atZ_nat (by omega)] at hc
    (apply sk_ret; apply ret_eq; (· apply RetOK.p; (· (apply GvA.cons; (· exact .tmp _); (· exact GvP.c (.lit _))); exact GvA.nil); (· (decide))))
    have : a ≠ b := fun e => by subst e; simp at hc
    simp [this]
  · rename_i hk'
    rw [atZ_nat (by omega), atZ_nat (by omega)] at hc
    refine sk_back ?_; refine ⟨k + 1, ?_, ?_, le_at rfl (by (repeat (first | exact trivial | refine ⟨(by (rfl)), ?_⟩))) (by (repeat (first | exact trivial | refine ⟨rfl, ?_⟩))) (by (repeat (exact trivial))) (by (repeat (exact trivial)))⟩
    · exact ⟨by omega, by rw [List.take_succ_eq_append_getElem (by omega), List.take_succ_eq_append_getElem (by omega), hs, hc]⟩
    · omega
  · have e : k = a.length := by omega
    subst e
    rw [List.take_length, hab, List.take_length] at hs
    (apply sk_ret; apply ret_eq; (· apply RetOK.p; (· (apply GvA.cons; (· exact .tmp _); (· exact GvP.c (.lit _))); exact GvA.nil); (· (decide))))
    simp [hs]
theorem eqIntSS_same (a : List (List Int)) : PC Try.prog 104 [.c (eII a), .c (eII a)] (.p (.c (dB true))) := by
  have := eqIntSS_p a a; rwa [decide_eq_true rfl] at this

end Go.Proofs.Ytdihapcicpkdkaa

namespace Go.Proofs.Ytdihapcicpkdkaa
open Go.RowKit
set_option linter.unusedSectionVars false
variable [Glb]
set_option maxRecDepth 10000
set_option maxHeartbeats 4000000
theorem eqBox_same (x : Int) (y : Int) (wh : Int) (ll : List (List Int)) : PC Try.prog 14 [.g [dI x, dI y, dI wh, eII ll], .g [dI x, dI y, dI wh, eII ll]] (.p (.c (dB true))) := by
  refine pc_intro Try.func14 rfl rfl rfl (by kernel_rfl) rfl rfl ?_; intro _
  repeat' (first | (refine so_is (.box 29 _) ?_; refine so_box rfl rfl ?_) | (refine so_is (.assign _) ?_; (refine so_q (qt_asC rfl) rfl ?_)) | (refine so_is (.fieldAddr 29 _ 0) ?_; (refine so_q (qt_fld_lp (off := 0) rfl (by kernel_rfl)) rfl ?_)) | (refine so_is (.load 3 _) ?_; (refine so_q (qt_load_box rfl rfl (by kernel_rfl) rfl) rfl ?_)) | (refine so_is (.binOp .neq 3 _ _ _) ?_; (refine so_q (qt_neq_same rfl rfl) rfl ?_)) | (refine so_is (.fieldAddr 29 _ 1) ?_; (refine so_q (qt_fld_lp (off := 1) rfl (by kernel_rfl)) rfl ?_)) | (refine so_is (.fieldAddr 29 _ 2) ?_; (refine so_q (qt_fld_lp (off := 2) rfl (by kernel_rfl)) rfl ?_)) | (refine so_is (.fieldAddr 29 _ 3) ?_; (refine so_q (qt_fld_lp (off := 3) rfl (by kernel_rfl)) rfl ?_)) | (refine so_is (.load 22 _) ?_; (refine so_q (qt_load_box rfl rfl (by kernel_rfl) rfl) rfl ?_)) | (refine so_is (.unOp .not 4 _) ?_; refine so_q (qt_not rfl) rfl ?_) | (refine so_is (.call ⟨.value (.func 104), _, _⟩) ?_; (apply so_call0 (fid := 104); (· (repeat (first | exact SeA.nil | apply SeA.cons (.c (.d _))))); (· exact eqIntSS_same _); (· rfl))) | refine so_nil ?_ | refine sk_seq ?_ | refine sk_skip ?_ | refine sk_region ?_ | refine sk_false rfl ?_)
  · (apply sk_ret; apply ret_eq; (· apply RetOK.p; (· (apply GvA.cons; (· exact .tmp _); (· exact GvP.c (.lit _))); exact GvA.nil); (· (decide))))
    rfl

end Go.Proofs.Ytdihapcicpkdkaa

namespace Go.Proofs.Ytdihapcicpkdkaa
open Go.RowKit
set_option linter.unusedSectionVars false
variable [Glb]
set_option maxRecDepth 10000
set_option maxHeartbeats 4000000
theorem heldIntS_p (l : List Int) (n : Nat) (k : Int) (e : l = mkI k n) (h0 : 0 ≤ k) (h1 : k + n ≤ 1099511627776) : PC Try.prog 17 [.c (eI l), .c (dI k)] (.p (.c (dI (k + n)))) := by
  subst e
  refine pc_intro Try.func17 rfl rfl rfl (by kernel_rfl) rfl rfl ?_; rintro -
  repeat' (first | (refine so_is (.assign _) ?_; (refine so_q (qt_asC rfl) rfl ?_)) | refine so_nil ?_ | refine sk_seq ?_ | refine sk_block ?_ | refine sk_region ?_)
  apply sk_packC [0, 1, 5] [] rfl; (· (repeat (first | exact Pf.nil | apply Pf.cons (.c rfl (.d rfl))))); (· (repeat (exact Pb.nil)))
  refine sk_loopL [0] [] (fun j => [(5, iN j), (1, iZ (k + j))]) (fun _ => []) (fun j => j ≤ n) (fun j => n - j) (0) ?_ (by (repeat (first | exact trivial | refine ⟨(by (first | rfl | (refine int_eq rfl ?_; (omega)))), ?_⟩))) (by (repeat (exact trivial))) ?_
  · simp
  intro j hj
  have hn := mkI_len k n
  repeat' (first | (refine so_is (.assign _) ?_; (refine so_q (qt_asC rfl) rfl ?_)) | (refine so_is (.move _) ?_; (refine so_q (qt_mvC rfl) rfl ?_)) | (refine so_is (.call ⟨.builtin .len, _, #[26]⟩) ?_; (refine so_q (qt_len_d rfl (by kernel_rfl)) rfl ?_)) | (refine so_is (.binOp .lss 3 _ _ _) ?_; refine so_q (qt_lss rfl rfl) rfl ?_) | (refine so_is (.indexAddr 26 _ _) ?_; (refine so_q (qt_idxI rfl rfl (by kernel_rfl) (by (omega)) (by (omega))) rfl ?_)) | (refine so_is (.load 3 _) ?_; (refine so_q (qt_load_pt rfl (by kernel_rfl) rfl) rfl ?_)) | (refine so_is (.binOp .neq 3 _ _ _) ?_; refine so_q (qt_neq rfl rfl) rfl ?_) | (refine so_is (.binOp .add 3 _ _ _) ?_; refine so_q (qt_addI rfl rfl (by (omega))) rfl ?_) | refine so_nil ?_ | refine sk_seq ?_ | refine sk_block ?_ | refine sk_blk ?_ | refine sk_exit rfl ?_ | refine sk_skip ?_ | refine sk_region ?_ | refine sk_if rfl (fun hc => ?_) (fun hc => ?_))
  · rename_i hj'
    have hj2 : j < n := by simp at *; omega
    rw [atZ_nat (by simpa using hj2), mkI_get] at hc
    exact absurd rfl hc
  · rename_i hj'
    have hj2 : j < n := by simp at *; omega
    refine sk_back ?_; refine ⟨j + 1, ?_, ?_, le_at rfl (by (repeat (first | exact trivial | refine ⟨(by (first | rfl | (refine int_eq rfl ?_; (omega)))), ?_⟩))) (by (repeat (first | exact trivial | refine ⟨rfl, ?_⟩))) (by (repeat (exact trivial))) (by (repeat (exact trivial)))⟩
    · omega
    · omega
  · have : j = n := by simp at *; omega
    subst this
    (apply sk_ret; apply ret_eq; (· apply RetOK.p; (· (apply GvA.cons; (· exact .tmp _); (· exact GvP.c (.lit _))); exact GvA.nil); (· (decide))))
    rfl
theorem heldIntS_k (n : Nat) (k : Int) (h0 : 0 ≤ k) (h1 : k + n ≤ 1099511627776) : PC Try.prog 17 [.c (.sl 1 n (cI (mkI k n))), .c (dI k)] (.p (.c (dI (k + n)))) := by
  have := heldIntS_p (mkI k n) n k rfl h0 h1; simp only [eI, mkI_len] at this; exact this

end Go.Proofs.Ytdihapcicpkdkaa

namespace Go.Proofs.Ytdihapcicpkdkaa
open Go.RowKit
set_option linter.unusedSectionVars false
variable [Glb]
set_option maxRecDepth 10000
set_option maxHeartbeats 4000000
theorem markIntS_m (l : List Int) (k : Int) (h0 : 0 ≤ k) (h1 : k + l.length ≤ 1099511627776) : PM Try.prog 16 [.c (eI l), .c (dI k)] [eI (mkI k l.length), dI k] (.c (dI (k + l.length))) := by
  refine pm_intro Try.func16 rfl rfl rfl (by kernel_rfl) rfl rfl ?_; intro _
  repeat' (first | (refine so_is (.assign _) ?_; (refine so_q (qt_asC rfl) rfl ?_)) | refine so_nil ?_ | refine sk_seq ?_ | refine sk_block ?_ | refine sk_region ?_)
  apply sk_packC [0, 1, 5] [1000000] rfl; (· (repeat (first | exact Pf.nil | apply Pf.cons (.c rfl (.d rfl)) | apply Pf.cons (.c rfl (.ls rfl))))); (· (repeat (first | exact Pb.nil | apply Pb.cons (.row rfl))))
  refine sk_loopL [0] [] (fun j => [(5, iN j), (1, iZ (k + j))]) (fun j => [(1000000, .row 1 (cI (mkL l k j)))]) (fun j => j ≤ l.length) (fun j => l.length - j) (0) ?_ (by (repeat (first | exact trivial | refine ⟨(by (first | rfl | (refine int_eq rfl ?_; (omega)))), ?_⟩))) (by (repeat (first | exact trivial | refine ⟨(by ((refine row_eq rfl ?_; simp  [mkL_zero]; done))), ?_⟩))) ?_
  · simp
  intro j hj
  have hL := mkL_len l k hj
  repeat' (first | (refine so_is (.assign _) ?_; (refine so_q (qt_asC rfl) rfl ?_)) | (refine so_is (.move _) ?_; (refine so_q (qt_mvC rfl) rfl ?_)) | (refine so_is (.call ⟨.builtin .len, _, #[26]⟩) ?_; (refine so_q (qt_len_ls rfl (by kernel_rfl)) rfl ?_)) | (refine so_is (.binOp .lss 3 _ _ _) ?_; refine so_q (qt_lss rfl rfl) rfl ?_) | (refine so_is (.indexAddr 26 _ _) ?_; (refine so_q (qt_idx_ls rfl rfl (by kernel_rfl : tSl _ 26 1 = true) (by (omega)) (by (omega))) rfl ?_)) | (refine so_is (.store 3 _ _) ?_; ((refine so_store_row rfl rfl rfl rfl (.lit _) (by simp) (by simp) (by kernel_rfl) (by ((simp only [List.length_map, List.length_append, List.length_replicate, fillL_len, rowF_len, gridF_len, mkI_len, mkII_len, partZ_min] at *; omega))) rfl ?_; simp only [St.drop]))) | (refine so_is (.binOp .add 3 _ _ _) ?_; refine so_q (qt_addI rfl rfl (by (omega))) rfl ?_) | refine so_nil ?_ | refine sk_seq ?_ | refine sk_block ?_ | refine sk_blk ?_ | refine sk_exit rfl ?_ | refine sk_skip ?_ | refine sk_region ?_ | refine sk_if rfl (fun hc => ?_) (fun hc => ?_))
  · have hj' : j < l.length := by omega
    refine sk_back ?_; refine ⟨j + 1, ?_, ?_, le_at rfl (by (repeat (first | exact trivial | refine ⟨(by (first | rfl | (refine int_eq rfl ?_; (omega)))), ?_⟩))) (by (repeat (first | exact trivial | refine ⟨rfl, ?_⟩))) (by (repeat (first | exact trivial | refine ⟨(by ((refine row_eq rfl ?_; simp  [← List.map_set, mkL_set hj']; done))), ?_⟩))) (by (repeat (exact trivial)))⟩
    · omega
    · omega
  · have : j = l.length := by omega
    subst this
    rw [mkL_all]
    (refine sk_mret rfl ?_ ?_; rotate_left; (· (repeat (first | exact .nil _ | refine .lit ?_ | refine .sl2 rfl (by ((simp; done))) (by ((simp; done))) ?_))))
    rfl

end Go.Proofs.Ytdihapcicpkdkaa

namespace Go.Proofs.Ytdihapcicpkdkaa
open Go.RowKit
set_option linter.unusedSectionVars false
variable [Glb]
set_option maxRecDepth 10000
set_option maxHeartbeats 4000000
theorem markIntSS_m (ll : List (List Int)) (k : Int) (h0 : 0 ≤ k) (h1 : k + cnt ll ≤ 1099511627776) : PM Try.prog 105 [.c (eII ll), .c (dI k)] [eII (mkII k ll), dI k] (.c (dI (k + cnt ll))) := by
  refine pm_intro Try.func105 rfl rfl rfl (by kernel_rfl) rfl rfl ?_; rintro hf
  have hl := (hf.at 0 rfl).len
  repeat' (first | (refine so_is (.assign _) ?_; (refine so_q (qt_asC rfl) rfl ?_)) | refine so_nil ?_ | refine sk_seq ?_ | refine sk_block ?_ | refine sk_region ?_)
  apply sk_packC [0, 1, 5] [1000000] rfl; (· (repeat (first | exact Pf.nil | apply Pf.cons (.c rfl (.d rfl)) | apply Pf.cons (.c rfl (.ls rfl))))); (· (repeat (first | exact Pb.nil | apply Pb.cons (.row rfl))))
  refine sk_loopL [0] [] (fun j => [(5, iN j), (1, iZ (k + cnt (ll.take j)))]) (fun j => [(1000000, .row 1 (cII (mkLL ll k j)))]) (fun j => j ≤ ll.length) (fun j => ll.length - j) (0) ?_ (by (repeat (first | exact trivial | refine ⟨(by (first | rfl | (refine int_eq rfl ?_; ((simp  [mkLL_zero, cnt]; done))))), ?_⟩))) (by (repeat (first | exact trivial | refine ⟨(by ((refine row_eq rfl ?_; simp  [mkLL_zero, cnt]; done))), ?_⟩))) ?_
  · simp
  intro j hj
  have hL := mkLL_len ll k hj
  have hle := cnt_take_le ll (j + 1)
  have hst : ∀ h : j < ll.length, _ := fun h => cnt_take ll j h
  repeat' (first | (refine so_is (.assign _) ?_; (refine so_q (qt_asC rfl) rfl ?_)) | (refine so_is (.move _) ?_; (refine so_q (qt_mvC rfl) rfl ?_)) | (refine so_is (.call ⟨.builtin .len, _, #[22]⟩) ?_; (refine so_q (qt_len_ls rfl (by kernel_rfl)) rfl ?_)) | (refine so_is (.binOp .lss 3 _ _ _) ?_; refine so_q (qt_lss rfl rfl) rfl ?_) | refine so_nil ?_ | refine sk_seq ?_ | refine sk_block ?_ | refine sk_exit rfl ?_ | refine sk_skip ?_ | refine sk_region (id := 2) ?_ | refine sk_region (id := 5) ?_ | refine sk_if rfl (fun hc => ?_) (fun hc => ?_))
  · refine sk_region (id := 4) ?_
    all_goals ((refine so_q (qt_mvC rfl) rfl ?_))
    all_goals ((refine so_q (qt_mvC rfl) rfl ?_))
    all_goals ((refine so_q (qt_idx_ls rfl rfl (by kernel_rfl : tSl _ 22 1 = true) (by (omega)) (by (omega))) rfl ?_))
    all_goals (refine so_thaw (c := 2000) (sz' := 1) (n := (ll[j]'(by omega)).length) (ds' := cI (ll[j]'(by omega))) rfl rfl (by kernel_rfl) (by simp [mkLL_get (show j < ll.length by omega)]) rfl rfl rfl ?_)
    all_goals ((refine so_q (qt_mvC rfl) rfl ?_))
    all_goals ((apply so_callM (fid := 16); (· (repeat (first | exact ArgM.nil | apply ArgM.c rfl (.lit _) | apply ArgM.c rfl (.row _ _ _ _ rfl (by ((simp; done))))))); (· (decide)); (· exact markIntS_m _ _ (by omega) (by have := hst (by omega); omega)); (· rfl); (· rfl)))
    all_goals (refine so_ghost (sim_back (b := 1000000) (c := 2000) rfl rfl (by simp) rfl) ?_; refine so_q (qt_asC rfl) rfl ?_)
    all_goals refine so_nil ?_
    repeat' (first | (refine so_is (.assign _) ?_; (refine so_q (qt_asC rfl) rfl ?_)) | (refine so_is (.move _) ?_; (refine so_q (qt_mvC rfl) rfl ?_)) | (refine so_is (.binOp .add 3 _ _ _) ?_; refine so_q (qt_addI rfl rfl (by (omega))) rfl ?_) | refine so_nil ?_ | refine sk_blk ?_ | refine sk_region ?_)
    have := hst (by omega)
    have hj1 : j < ll.length := by omega
    refine sk_back ?_; refine ⟨j + 1, ?_, ?_, le_at rfl (by (repeat (first | exact trivial | refine ⟨(by (first | rfl | (refine int_eq rfl ?_; (omega)))), ?_⟩))) (by (repeat (first | exact trivial | refine ⟨rfl, ?_⟩))) (by (repeat (first | exact trivial | refine ⟨(by ((refine row_eq rfl ?_; simp  [List.map_set, ← mkLL_set hj1, eI]; done))), ?_⟩))) (by (repeat (exact trivial)))⟩
    · omega
    · omega
  · have : j = ll.length := by omega
    subst this
    rw [mkLL_all, List.take_length]
    (refine sk_mret rfl ?_ ?_; rotate_left; (· (repeat (first | exact .nil _ | refine .lit ?_ | refine .sl2 rfl (by ((simp; done))) (by ((simp; done))) ?_))))
    rfl

end Go.Proofs.Ytdihapcicpkdkaa

namespace Go.Proofs.Ytdihapcicpkdkaa
open Go.RowKit
set_option linter.unusedSectionVars false
variable [Glb]
set_option maxRecDepth 10000
set_option maxHeartbeats 4000000
theorem markBox_m (x : Int) (y : Int) (wh : Int) (ll : List (List Int)) (k : Int) (h0 : 0 ≤ k) (h1 : k + cnt ll ≤ 1099511627776) : PM Try.prog 15 [.g [dI x, dI y, dI wh, eII ll], .c (dI k)] [dI x, dI y, dI wh, .sl 1 ll.length (cII (mkII (k) ll)), dI k] (.c (dI (k + cnt ll))) := by
  refine pm_intro Try.func15 rfl rfl rfl (by kernel_rfl) rfl rfl ?_; intro _
  repeat' (first | (refine so_is (.box 29 _) ?_; refine so_box rfl rfl ?_) | (refine so_is (.assign _) ?_; (refine so_q (qt_asC rfl) rfl ?_)) | (refine so_is (.fieldAddr 29 _ 3) ?_; (refine so_q (qt_fld_lp (off := 3) rfl (by kernel_rfl)) rfl ?_)) | (refine so_is (.load 22 _) ?_; (refine so_q (qt_load_box rfl rfl (by kernel_rfl) rfl) rfl ?_)) | (refine so_is (.move _) ?_; (refine so_q (qt_mvC rfl) rfl ?_)) | (refine so_is (.call ⟨.value (.func 105), _, _⟩) ?_; (apply so_callM (fid := 105); (· (repeat (first | exact ArgM.nil | apply ArgM.c rfl (.lit _) | apply ArgM.c rfl (.row _ _ _ _ rfl (by ((simp; done))))))); (· (decide)); (· exact markIntSS_m _ _ (by omega) (by omega)); (· rfl); (· rfl))) | refine so_nil ?_ | refine sk_seq ?_ | refine sk_region ?_)
  · (refine sk_mret rfl ?_ ?_; rotate_left; (· (repeat (first | exact .nil _ | refine .lit ?_ | refine .sl rfl (by ((simp; done))) ?_))))
    rfl

end Go.Proofs.Ytdihapcicpkdkaa

namespace Go.Proofs.Ytdihapcicpkdkaa
open Go.RowKit
set_option linter.unusedSectionVars false
variable [Glb]
set_option maxRecDepth 10000
set_option maxHeartbeats 4000000
theorem szIntS_p (l : List Int) (left : Int) (h0 : 0 ≤ left) (h1 : left ≤ 1048576) : PC Try.prog 115 [.c (eI l), .c (dI left)] (.p (.c (dI (szI l.length left)))) := by
  refine pc_intro Try.func115 rfl rfl rfl (by kernel_rfl) rfl rfl ?_; rintro ⟨hl, -⟩
  have hl := hl.len
  repeat' (first | (refine so_is (.assign _) ?_; (refine so_q (qt_asC rfl) rfl ?_)) | (refine so_is (.move _) ?_; (refine so_q (qt_mvC rfl) rfl ?_)) | (refine so_is (.call ⟨.builtin .len, _, #[26]⟩) ?_; (refine so_q (qt_len_d rfl (by kernel_rfl)) rfl ?_)) | (refine so_is (.binOp .sub 3 _ _ _) ?_; refine so_q (qt_subI rfl rfl (by (omega))) rfl ?_) | (refine so_is (.binOp .lss 3 _ _ _) ?_; refine so_q (qt_lss rfl rfl) rfl ?_) | refine so_nil ?_ | refine sk_seq ?_ | refine sk_skip ?_ | refine sk_region ?_ | refine sk_if rfl (fun hc => ?_) (fun hc => ?_))
  all_goals ((apply sk_ret; apply ret_eq; (· apply RetOK.p; (· (apply GvA.cons; (· exact .tmp _); (· exact GvP.c (.lit _))); exact GvA.nil); (· (decide)))))
  all_goals simp [szI]
  all_goals omega
theorem szIntS_ok (l : List Int) (left : Int) (h : l.length ≤ left) (h1 : left ≤ 1048576) : PC Try.prog 115 [.c (eI l), .c (dI left)] (.p (.c (dI (left - l.length)))) := by
  have := szIntS_p l left (by omega) h1; rwa [show szI l.length left = left - l.length by unfold szI; rw [if_neg (by omega)]] at this
theorem szIntS_no (l : List Int) (left : Int) (h : left < l.length) (h0 : 0 ≤ left) (h1 : left ≤ 1048576) : PC Try.prog 115 [.c (eI l), .c (dI left)] (.p (.c (dI (-1)))) := by
  have := szIntS_p l left h0 h1; rwa [show szI l.length left = -1 by unfold szI; rw [if_pos (by omega)]] at this

end Go.Proofs.Ytdihapcicpkdkaa

namespace Go.Proofs.Ytdihapcicpkdkaa
open Go.RowKit
set_option linter.unusedSectionVars false
variable [Glb]
set_option maxRecDepth 10000
set_option maxHeartbeats 4000000
theorem szR_take (ll : List (List Int)) (k : Nat) (left : Int) (h : k < ll.length) : szR (ll.drop k) left = if szI ll[k].length left < 0 then -1 else szR (ll.drop (k + 1)) (szI ll[k].length left) := by
  rw [List.drop_eq_getElem_cons h]; rfl
theorem szIntSS_p (ll : List (List Int)) (left : Int) (h0 : 0 ≤ left) (h1 : left ≤ 1048576) : PC Try.prog 89 [.c (eII ll), .c (dI left)] (.p (.c (dI (szL ll.length ll left)))) := by
  refine pc_intro Try.func89 rfl rfl rfl (by kernel_rfl) rfl rfl ?_; rintro ⟨hl, -⟩
  have hl := hl.len
  repeat' (first | (refine so_is (.assign _) ?_; (refine so_q (qt_asC rfl) rfl ?_)) | (refine so_is (.move _) ?_; (refine so_q (qt_mvC rfl) rfl ?_)) | (refine so_is (.call ⟨.builtin .len, _, #[22]⟩) ?_; (refine so_q (qt_len_d rfl (by kernel_rfl)) rfl ?_)) | (refine so_is (.binOp .sub 3 _ _ _) ?_; refine so_q (qt_subI rfl rfl (by (omega))) rfl ?_) | (refine so_is (.binOp .lss 3 _ _ _) ?_; refine so_q (qt_lss rfl rfl) rfl ?_) | refine so_nil ?_ | refine sk_seq ?_ | refine sk_block ?_ | refine sk_skip ?_ | refine sk_region ?_ | refine sk_if rfl (fun hc => ?_) (fun hc => ?_))
  · (apply sk_ret; apply ret_eq; (· apply RetOK.p; (· (apply GvA.cons; (· exact .tmp _); (· exact GvP.c (.lit _))); exact GvA.nil); (· (decide))))
    simp [szL]; omega
  apply sk_packC [0, 1, 5] [] rfl; (· (repeat (first | exact Pf.nil | apply Pf.cons (.c rfl (.d rfl))))); (· (repeat (exact Pb.nil)))
  refine sk_loopL [0] [] (fun g => [(5, iN g.1), (1, iZ g.2)]) (fun _ => []) (fun g => g.1 ≤ ll.length ∧ 0 ≤ g.2 ∧ g.2 ≤ 1048576 ∧ szR (ll.drop g.1) g.2 = szR ll (left - ll.length)) (fun g => ll.length - g.1) (((0 : Nat), left - ll.length)) ?_ (by (repeat (first | exact trivial | refine ⟨(by (rfl)), ?_⟩))) (by (repeat (exact trivial))) ?_
  · simp; omega
  rintro ⟨k, c⟩ ⟨hk, hc0, hc1, hs⟩
  simp only at hk hc0 hc1 hs
  repeat' (first | (refine so_is (.assign _) ?_; (refine so_q (qt_asC rfl) rfl ?_)) | (refine so_is (.move _) ?_; (refine so_q (qt_mvC rfl) rfl ?_)) | (refine so_is (.call ⟨.builtin .len, _, #[22]⟩) ?_; (refine so_q (qt_len_d rfl (by kernel_rfl)) rfl ?_)) | (refine so_is (.binOp .lss 3 _ _ _) ?_; refine so_q (qt_lss rfl rfl) rfl ?_) | (refine so_is (.indexAddr 22 _ _) ?_; (refine so_q (qt_idxII rfl rfl (by kernel_rfl) (by (omega)) (by (omega))) rfl ?_)) | (refine so_is (.load 26 _) ?_; (refine so_q (qt_load_pt rfl (by kernel_rfl) rfl) rfl ?_)) | (refine so_is (.binOp .add 3 _ _ _) ?_; refine so_q (qt_addI rfl rfl (by (omega))) rfl ?_) | (refine so_is (.call ⟨.value (.func 115), _, _⟩) ?_; (apply so_call0 (fid := 115); (· (repeat (first | exact SeA.nil | apply SeA.cons (.c (.d _))))); (· exact szIntS_p _ _ hc0 hc1); (· rfl))) | refine so_nil ?_ | refine sk_seq ?_ | refine sk_block ?_ | refine sk_blk ?_ | refine sk_exit rfl ?_ | refine sk_skip ?_ | refine sk_region ?_ | refine sk_if rfl (fun hc => ?_) (fun hc => ?_))
  · rename_i hk'
    rw [atZ_nat (by omega)] at hc
    have e := szR_take ll k c (by omega)
    rw [if_pos hc, hs] at e
    (apply sk_ret; apply ret_eq; (· apply RetOK.p; (· (apply GvA.cons; (· exact .tmp _); (· exact GvP.c (.lit _))); exact GvA.nil); (· (decide))))
    simp [szL, e]
  · rename_i hk'
    rw [atZ_nat (by omega)] at hc
    have e := szR_take ll k c (by omega)
    rw [if_neg hc, hs] at e
    have h2 : szI ll[k].length c ≤ c := by unfold szI; split <;> omega
    refine sk_back ?_; refine ⟨(k + 1, szI ll[k].length c), ?_, ?_, le_at rfl (by (repeat (first | exact trivial | refine ⟨(by (first | rfl | (refine int_eq rfl ?_; ((simp  [atZ_nat (show k < ll.length by omega)]; done))))), ?_⟩))) (by (repeat (first | exact trivial | refine ⟨rfl, ?_⟩))) (by (repeat (exact trivial))) (by (repeat (exact trivial)))⟩
    · have h3 : 0 ≤ szI ll[k].length c := by simp only at hc; omega
      exact ⟨by simp only; omega, by simp only; omega, by simp only; omega, e.symm⟩
    · simp only; omega
  · have e : k = ll.length := by omega
    subst e
    rw [List.drop_length] at hs
    (apply sk_ret; apply ret_eq; (· apply RetOK.p; (· (apply GvA.cons; (· exact .tmp _); (· exact GvP.c (.lit _))); exact GvA.nil); (· (decide))))
    simp only [szR] at hs
    have h9 : ¬ left - (ll.length : Int) < 0 := by simp at *; omega
    simp [szL, ← hs, h9]
theorem szIntSS_ok (ll : List (List Int)) (left : Int) (h : ll.length + cnt ll ≤ left) (h1 : left ≤ 1048576) : PC Try.prog 89 [.c (eII ll), .c (dI left)] (.p (.c (dI (left - ll.length - cnt ll)))) := by
  have := szIntSS_p ll left (by omega) h1; rwa [szL_ok h] at this
theorem szIntSS_no (ll : List (List Int)) (left : Int) (h : left < ll.length + cnt ll) (h0 : 0 ≤ left) (h1 : left ≤ 1048576) : PC Try.prog 89 [.c (eII ll), .c (dI left)] (.p (.c (dI (-1)))) := by
  have := szIntSS_p ll left h0 h1; rwa [szL_no h h0] at this

end Go.Proofs.Ytdihapcicpkdkaa

namespace Go.Proofs.Ytdihapcicpkdkaa
open Go.RowKit
set_option linter.unusedSectionVars false
variable [Glb]
set_option maxRecDepth 10000
set_option maxHeartbeats 4000000
theorem szBox_ok (x : Int) (y : Int) (wh : Int) (ll : List (List Int)) (left : Int) (h : ll.length + cnt ll ≤ left) (h1 : left ≤ 1048576) : PC Try.prog 9 [.g [dI x, dI y, dI wh, eII ll], .c (dI left)] (.p (.c (dI (left - ll.length - cnt ll)))) := by
  refine pc_intro Try.func9 rfl rfl rfl (by kernel_rfl) rfl rfl ?_; intro _
  repeat' (first | (refine so_is (.box 24 _) ?_; refine so_box rfl rfl ?_) | (refine so_is (.assign _) ?_; (refine so_q (qt_asC rfl) rfl ?_)) | (refine so_is (.fieldAddr 24 _ 3) ?_; (refine so_q (qt_fld_lp (off := 3) rfl (by kernel_rfl)) rfl ?_)) | (refine so_is (.load 22 _) ?_; (refine so_q (qt_load_box rfl rfl (by kernel_rfl) rfl) rfl ?_)) | (refine so_is (.move _) ?_; (refine so_q (qt_mvC rfl) rfl ?_)) | (refine so_is (.binOp .lss 3 _ _ _) ?_; refine so_q (qt_lss rfl rfl) rfl ?_) | (refine so_is (.call ⟨.value (.func 89), _, _⟩) ?_; (apply so_call0 (fid := 89); (· (repeat (first | exact SeA.nil | apply SeA.cons (.c (.d _))))); (· exact szIntSS_ok _ _ (by omega) (by omega)); (· rfl))) | refine so_nil ?_ | refine sk_seq ?_ | refine sk_skip ?_ | refine sk_region ?_ | refine sk_if rfl (fun hc => ?_) (fun hc => ?_))
  all_goals first | (exfalso; omega) | skip
  · (apply sk_ret; apply ret_eq; (· apply RetOK.p; (· (apply GvA.cons; (· exact .tmp _); (· exact GvP.c (.lit _))); exact GvA.nil); (· (decide))))
    rfl
theorem szBox_no (x : Int) (y : Int) (wh : Int) (ll : List (List Int)) (left : Int) (h : left < ll.length + cnt ll) (h0 : 0 ≤ left) (h1 : left ≤ 1048576) : PC Try.prog 9 [.g [dI x, dI y, dI wh, eII ll], .c (dI left)] (.p (.c (dI (-1)))) := by
  refine pc_intro Try.func9 rfl rfl rfl (by kernel_rfl) rfl rfl ?_; intro _
  repeat' (first | (refine so_is (.box 24 _) ?_; refine so_box rfl rfl ?_) | (refine so_is (.assign _) ?_; (refine so_q (qt_asC rfl) rfl ?_)) | (refine so_is (.fieldAddr 24 _ 3) ?_; (refine so_q (qt_fld_lp (off := 3) rfl (by kernel_rfl)) rfl ?_)) | (refine so_is (.load 22 _) ?_; (refine so_q (qt_load_box rfl rfl (by kernel_rfl) rfl) rfl ?_)) | (refine so_is (.move _) ?_; (refine so_q (qt_mvC rfl) rfl ?_)) | (refine so_is (.binOp .lss 3 _ _ _) ?_; refine so_q (qt_lss rfl rfl) rfl ?_) | (refine so_is (.call ⟨.value (.func 89), _, _⟩) ?_; ((apply so_call0 (fid := 89); (· (repeat (first | exact SeA.nil | apply SeA.cons (.c (.d _))))); (· exact szIntSS_no _ _ (by omega) (by omega) (by omega)); (· rfl)))) | refine so_nil ?_ | refine sk_seq ?_ | refine sk_region ?_ | refine sk_true rfl ?_)
  all_goals first | (exfalso; omega) | skip
  all_goals (apply sk_ret; apply ret_eq; (· apply RetOK.p; (· (apply GvA.cons; (· exact .tmp _); (· exact GvP.c (.lit _))); exact GvA.nil); (· (decide))))
  all_goals rfl

end Go.Proofs.Ytdihapcicpkdkaa

namespace Go.Proofs.Ytdihapcicpkdkaa
open Go.RowKit
set_option linter.unusedSectionVars false
variable [Glb]
set_option maxRecDepth 10000
set_option maxHeartbeats 4000000
theorem toIntS_p (l : List Int) (h : l.length ≤ 1048576) : PC Try.prog 119 [.c (eI l)] (.p (.c (eI l))) := by
  refine pc_intro Try.func119 rfl rfl rfl (by kernel_rfl) rfl rfl ?_; intro _
  repeat' (first | (refine so_is (.assign _) ?_; (refine so_q (qt_asC rfl) rfl ?_)) | (refine so_is (.move _) ?_; (refine so_q (qt_mvC rfl) rfl ?_)) | (refine so_is (.call ⟨.builtin .len, _, #[26]⟩) ?_; (refine so_q (qt_len_d rfl (by kernel_rfl)) rfl ?_)) | (refine so_is (.makeSlice 26 _ _) ?_; (refine so_make (by_ := 8) (z := .int .i64 0) (y := .lit (.int .i64 0)) rfl rfl (by kernel_rfl) (by kernel_rfl) rfl (fun _ => .lit _ rfl) (by (omega)) (by (omega)) (by (omega)) rfl ?_)) | refine so_nil ?_ | refine sk_seq ?_ | refine sk_block ?_ | refine sk_region ?_)
  apply sk_packC [0, 3, 4] [7] rfl; (· (repeat (first | exact Pf.nil | apply Pf.cons (.c rfl (.d rfl)) | apply Pf.cons (.c rfl (.ls rfl))))); (· (repeat (first | exact Pb.nil | apply Pb.cons (.row rfl))))
  refine sk_loopL [0, 3] [] (fun k => [(4, iN k)]) (fun k => [(7, .row 1 (cI (fillL l 0 k)))]) (fun k => k ≤ l.length) (fun k => l.length - k) (0) ?_ (by (repeat (first | exact trivial | refine ⟨(by (rfl)), ?_⟩))) (by (repeat (first | exact trivial | refine ⟨(by ((refine row_eq rfl ?_; simp  [fillL_zero, cI]; done))), ?_⟩))) ?_
  · simp
  intro k hk
  repeat' (first | (refine so_is (.assign _) ?_; (refine so_q (qt_asC rfl) rfl ?_)) | (refine so_is (.move _) ?_; (refine so_q (qt_mvC rfl) rfl ?_)) | (refine so_is (.call ⟨.builtin .len, _, #[26]⟩) ?_; (refine so_q (qt_len_d rfl (by kernel_rfl)) rfl ?_)) | (refine so_is (.binOp .lss 3 _ _ _) ?_; refine so_q (qt_lss rfl rfl) rfl ?_) | (refine so_is (.indexAddr 26 _ _) ?_; (first | refine so_q (qt_idxI rfl rfl (by kernel_rfl) (by (omega)) (by (omega))) rfl ?_ | refine so_q (qt_idx_ls rfl rfl (by kernel_rfl : tSl _ 26 1 = true) (by (omega)) (by (omega))) rfl ?_)) | (refine so_is (.load 3 _) ?_; (refine so_q (qt_load_pt rfl (by kernel_rfl) rfl) rfl ?_)) | (refine so_is (.store 3 _ _) ?_; ((refine so_store_row rfl rfl rfl rfl (.lit _) (by simp) (by simp) (by kernel_rfl) (by ((simp only [List.length_map, List.length_append, List.length_replicate, fillL_len, rowF_len, gridF_len, mkI_len, mkII_len, partZ_min] at *; omega))) rfl ?_; simp only [St.drop]))) | (refine so_is (.binOp .add 3 _ _ _) ?_; refine so_q (qt_addI rfl rfl (by (omega))) rfl ?_) | refine so_nil ?_ | refine sk_seq ?_ | refine sk_block ?_ | refine sk_blk ?_ | refine sk_exit rfl ?_ | refine sk_skip ?_ | refine sk_region ?_ | refine sk_if rfl (fun hc => ?_) (fun hc => ?_))
  · have hk' : k < l.length := by omega
    refine sk_back ?_; refine ⟨k + 1, ?_, ?_, le_at rfl (by (repeat (first | exact trivial | refine ⟨(by (rfl)), ?_⟩))) (by (repeat (first | exact trivial | refine ⟨rfl, ?_⟩))) (by (repeat (first | exact trivial | refine ⟨(by ((refine row_eq rfl ?_; simp  [atZ_nat hk', ← List.map_set, fillL_set 0 hk']; done))), ?_⟩))) (by (repeat (exact trivial)))⟩
    · omega
    · omega
  · have : k = l.length := by omega
    subst this
    rw [fillL_all]
    (apply sk_ret; apply ret_eq; (· apply RetOK.p; (· (apply GvA.cons; (· exact .tmp _); (· (exact GvP.c (.row _ _ _ _ rfl (by ((simp; done))))))); exact GvA.nil); (· (decide))))
    simp

end Go.Proofs.Ytdihapcicpkdkaa

namespace Go.Proofs.Ytdihapcicpkdkaa
open Go.RowKit
set_option linter.unusedSectionVars false
variable [Glb]
set_option maxRecDepth 10000
set_option maxHeartbeats 4000000
theorem toIntSS_p (ll : List (List Int)) (h : ll.length ≤ 1048576) (hr : ∀ l ∈ ll, l.length ≤ 1048576) : PC Try.prog 97 [.c (eII ll)] (.p (.c (eII ll))) := by
  refine pc_intro Try.func97 rfl rfl rfl (by kernel_rfl) rfl rfl ?_; intro _
  repeat' (first | (refine so_is (.assign _) ?_; (refine so_q (qt_asC rfl) rfl ?_)) | (refine so_is (.move _) ?_; (refine so_q (qt_mvC rfl) rfl ?_)) | (refine so_is (.call ⟨.builtin .len, _, #[22]⟩) ?_; (refine so_q (qt_len_d rfl (by kernel_rfl)) rfl ?_)) | (refine so_is (.makeSlice 22 _ _) ?_; (refine so_make (by_ := 24) (z := .slice none 0 0) (y := .sl 1 0 []) rfl rfl (by kernel_rfl) (by kernel_rfl) rfl (fun _ => .nil _ (by decide)) (by (omega)) (by (omega)) (by (omega)) rfl ?_)) | refine so_nil ?_ | refine sk_seq ?_ | refine sk_block ?_ | refine sk_region ?_)
  apply sk_packC [0, 3, 4] [7, 20] rfl; (· (repeat (first | exact Pf.nil | apply Pf.cons (.c rfl (.d rfl)) | apply Pf.cons (.c rfl (.ls rfl))))); (· (repeat (first | exact Pb.nil | apply Pb.cons (.row rfl) | apply Pb.skip)))
  refine sk_loopL [0, 3] [20] (fun k => [(4, iN k)]) (fun k => [(7, .row 1 (cII (fillL ll [] k)))]) (fun k => k ≤ ll.length) (fun k => ll.length - k) (0) ?_ (by (repeat (first | exact trivial | refine ⟨(by (rfl)), ?_⟩))) (by (repeat (first | exact trivial | refine ⟨(by ((refine row_eq rfl ?_; simp  [fillL_zero]; done))), ?_⟩))) ?_
  · simp
  intro k hk
  repeat' (first | (refine so_is (.assign _) ?_; (refine so_q (qt_asC rfl) rfl ?_)) | (refine so_is (.move _) ?_; (refine so_q (qt_mvC rfl) rfl ?_)) | (refine so_is (.call ⟨.builtin .len, _, #[22]⟩) ?_; (refine so_q (qt_len_d rfl (by kernel_rfl)) rfl ?_)) | (refine so_is (.binOp .lss 3 _ _ _) ?_; refine so_q (qt_lss rfl rfl) rfl ?_) | (refine so_is (.indexAddr 22 _ _) ?_; (first | refine so_q (qt_idxII rfl rfl (by kernel_rfl) (by (omega)) (by (omega))) rfl ?_ | refine so_q (qt_idx_ls rfl rfl (by kernel_rfl : tSl _ 22 1 = true) (by (omega)) (by (omega))) rfl ?_)) | (refine so_is (.load 26 _) ?_; (refine so_q (qt_load_pt rfl (by kernel_rfl) rfl) rfl ?_)) | (refine so_is (.store 26 _ _) ?_; (refine so_store_row rfl rfl rfl rfl (.row _ _ _ _ rfl (by ((simp; done)))) (by decide) (by decide) (by kernel_rfl) (by ((simp only [List.length_map, List.length_append, List.length_replicate, fillL_len, rowF_len, gridF_len, mkI_len, mkII_len, partZ_min] at *; omega))) rfl ?_)) | (refine so_is (.binOp .add 3 _ _ _) ?_; refine so_q (qt_addI rfl rfl (by (omega))) rfl ?_) | (refine so_is (.call ⟨.value (.func 119), _, _⟩) ?_; (apply so_callO0 (fid := 119); (· (repeat (first | exact SeA.nil | apply SeA.cons (.c (.d _))))); (· exact toIntS_p (atZ ll k) (by rw [atZ_nat (by omega)]; exact hr _ (List.getElem_mem _))); (· rfl); (· rfl))) | refine so_nil ?_ | refine sk_seq ?_ | refine sk_block ?_ | refine sk_blk ?_ | refine sk_exit rfl ?_ | refine sk_skip ?_ | refine sk_region ?_ | refine sk_if rfl (fun hc => ?_) (fun hc => ?_))
  · have hk' : k < ll.length := by omega
    refine sk_back ?_; refine ⟨k + 1, ?_, ?_, le_at rfl (by (repeat (first | exact trivial | refine ⟨(by (rfl)), ?_⟩))) (by (repeat (first | exact trivial | refine ⟨rfl, ?_⟩))) (by (repeat (first | exact trivial | refine ⟨(by ((refine row_eq rfl ?_; simp  [atZ_nat hk', ← fillL_set [] hk']; done))), ?_⟩))) (by (repeat (first | exact trivial | refine ⟨.inr rfl, ?_⟩)))⟩
    · omega
    · omega
  · have : k = ll.length := by omega
    subst this
    rw [fillL_all]
    (apply sk_ret; apply ret_eq; (· apply RetOK.p; (· (apply GvA.cons; (· exact .tmp _); (· (exact GvP.c (.row _ _ _ _ rfl (by ((simp; done))))))); exact GvA.nil); (· (decide))))
    simp
theorem toIntSS_z (ll : List (List Int)) (h : ll.length + cnt ll ≤ 1048576) : PC Try.prog 97 [.c (eII ll)] (.p (.c (eII ll))) :=
  toIntSS_p ll (by omega) fun l hl => by have := cnt_mem hl; omega

end Go.Proofs.Ytdihapcicpkdkaa

namespace Go.Proofs.Ytdihapcicpkdkaa
open Go.RowKit
set_option linter.unusedSectionVars false
variable [Glb]
set_option maxRecDepth 10000
set_option maxHeartbeats 4000000
theorem toBox_p (x : Int) (y : Int) (wh : Int) (ll : List (List Int)) (h : ll.length + cnt ll ≤ 1048576) : PC Try.prog 11 [.g [dI x, dI y, dI wh, eII ll]] (.p (.g [dI x, dI y, dI wh, eII ll])) := by
  refine pc_intro Try.func11 rfl rfl rfl (by kernel_rfl) rfl rfl ?_; intro _
  repeat' (first | (refine so_is (.box 24 _) ?_; refine so_box rfl rfl ?_) | (refine so_is (.alloc 29) ?_; refine so_alloc (zs := [.int .i64 0, .int .i64 0, .int .i64 0, .slice none 0 0]) (by kernel_rfl) rfl ?_) | (refine so_is (.fieldAddr 24 _ 0) ?_; (refine so_q (qt_fld_lp (off := 0) rfl (by kernel_rfl)) rfl ?_)) | (refine so_is (.load 3 _) ?_; (refine so_q (qt_load_box rfl rfl (by kernel_rfl) rfl) rfl ?_)) | (refine so_is (.fieldAddr 29 _ 0) ?_; (refine so_q (qt_fld_lp (off := 0) rfl (by kernel_rfl)) rfl ?_)) | (refine so_is (.store 3 _ _) ?_; (refine so_store_box1 rfl rfl rfl rfl (by kernel_rfl) rfl rfl ?_)) | (refine so_is (.fieldAddr 24 _ 1) ?_; (refine so_q (qt_fld_lp (off := 1) rfl (by kernel_rfl)) rfl ?_)) | (refine so_is (.fieldAddr 29 _ 1) ?_; (refine so_q (qt_fld_lp (off := 1) rfl (by kernel_rfl)) rfl ?_)) | (refine so_is (.fieldAddr 24 _ 2) ?_; (refine so_q (qt_fld_lp (off := 2) rfl (by kernel_rfl)) rfl ?_)) | (refine so_is (.fieldAddr 29 _ 2) ?_; (refine so_q (qt_fld_lp (off := 2) rfl (by kernel_rfl)) rfl ?_)) | (refine so_is (.fieldAddr 24 _ 3) ?_; (refine so_q (qt_fld_lp (off := 3) rfl (by kernel_rfl)) rfl ?_)) | (refine so_is (.load 22 _) ?_; (refine so_q (qt_load_box rfl rfl (by kernel_rfl) rfl) rfl ?_)) | (refine so_is (.fieldAddr 29 _ 3) ?_; (refine so_q (qt_fld_lp (off := 3) rfl (by kernel_rfl)) rfl ?_)) | (refine so_is (.store 22 _ _) ?_; (refine so_store_box1 rfl rfl rfl rfl (by kernel_rfl) rfl rfl ?_)) | (refine so_is (.load 29 _) ?_; (refine so_q (qt_load_boxs rfl rfl (by kernel_rfl : tAgg _ 29 4 = true) rfl) rfl ?_)) | (refine so_is (.store 29 _ _) ?_; (refine so_store_box rfl rfl rfl (by kernel_rfl) rfl rfl ?_)) | (refine so_is (.call ⟨.value (.func 97), _, _⟩) ?_; (apply so_callO0 (fid := 97); (· (repeat (first | exact SeA.nil | apply SeA.cons (.c (.d _))))); (· exact toIntSS_z _ (by omega)); (· rfl); (· rfl))) | refine so_nil ?_ | refine sk_seq ?_ | refine sk_region (id := 0) ?_ | refine sk_region (id := 1) ?_ | refine sk_region (id := 2) ?_ | refine sk_region (id := 3) ?_ | (apply sk_pack 4 [1, 2, 3] [1, 2, 3] rfl; (· (repeat (first | exact Pf.nil | apply Pf.cons (.c rfl (.lp rfl))))); (· (repeat (first | exact Pb.nil | (apply Pb.cons; (· apply Nb.box rfl; (repeat (first | exact Ncs.nil rfl | (apply Ncs.cons rfl; (· (exact .d rfl)))))))))); refine sk_region (id := 4) ?_) | refine sk_region (id := 5) ?_ | refine sk_region (id := 6) ?_)
  · (apply sk_ret; apply ret_eq; (· apply RetOK.p; (· (apply GvA.cons; (· (apply RV.cellN (n := 4); (· rfl); (· rfl); (· kernel_rfl); (· rfl))); (· (apply GvP.g; (· (apply GvL.cons (.lit _)); (apply GvL.cons (.lit _)); (apply GvL.cons (.lit _)); ((apply GvL.cons (.row _ _ _ _ rfl (by ((simp; done)))))); exact GvL.nil)))); exact GvA.nil); (· (decide))))
    rfl

end Go.Proofs.Ytdihapcicpkdkaa

namespace Go.Proofs.Ytdihapcicpkdkaa
open Go.RowKit
set_option linter.unusedSectionVars false
variable [Glb]
set_option maxRecDepth 10000
set_option maxHeartbeats 4000000
theorem FnExactBestAsks_p (a0x : Int) (a0y : Int) (a0wh : Int) (a0ll : List (List Int)) (a1x : Int) (a1y : Int) (a1wh : Int) (a1ll : List (List Int)) (k : Int) : PC Try.prog 3 [.g [dI a0x, dI a0y, dI a0wh, eII a0ll], .g [dI a1x, dI a1y, dI a1wh, eII a1ll], .c (dI k)] (.p (.c (dB true))) := by
  have sp := spBestAsks_p a0x a0y a0wh a0ll a1x a1y a1wh a1ll k
  have im := BestAsks_p a0x a0y a0wh a0ll a1x a1y a1wh a1ll k
  obtain ⟨f, hf⟩ : ∃ f, f = whenA (bestB a0x a0y a0wh a0ll a1x a1y a1wh a1ll k) (firstA (askS a0ll a1ll k.toNat) 256) := ⟨_, rfl⟩
  obtain ⟨s, hs⟩ : ∃ s, s = whenA (bestB a0x a0y a0wh a0ll a1x a1y a1wh a1ll k) (secondA (askS a0ll a1ll k.toNat) 256) := ⟨_, rfl⟩
  have f4 : f.length ≤ 4 := by rw [hf]; exact Nat.le_trans (whenA_len _ _) (firstA_len _ _)
  have s4 : s.length ≤ 4 := by rw [hs]; exact Nat.le_trans (whenA_len _ _) (secondA_len _ _)
  rw [← hf, ← hs] at sp im
  clear hf hs
  rcases (by omega : (1048576 < a0ll.length + cnt a0ll) ∨ (a0ll.length + cnt a0ll ≤ 1048576 ∧ 1048576 < a0ll.length + cnt a0ll + a1ll.length + cnt a1ll) ∨ a0ll.length + cnt a0ll + a1ll.length + cnt a1ll ≤ 1048576) with hz | hz | hz
  all_goals
    refine pc_intro Try.func3 rfl rfl rfl (by kernel_rfl) rfl rfl ?_; intro _
    repeat' (first | (refine so_is (.box 24 _) ?_; refine so_box rfl rfl ?_) | (refine so_is (.assign _) ?_; (refine so_q (qt_asC rfl) rfl ?_)) | (refine so_is (.load 24 _) ?_; (refine so_q (qt_load_boxs rfl rfl (by kernel_rfl : tAgg _ 24 4 = true) rfl) rfl ?_)) | (refine so_is (.move _) ?_; (first | refine so_q (qt_mvC rfl) rfl ?_ | refine so_q (qt_mvT rfl) rfl ?_)) | (refine so_is (.binOp .lss 3 _ _ _) ?_; refine so_q (qt_lss rfl rfl) rfl ?_) | (refine so_is (.extract _ _) ?_; refine so_q (qt_extract rfl rfl) rfl ?_) | (refine so_is (.alloc 29) ?_; refine so_alloc (zs := [.int .i64 0, .int .i64 0, .int .i64 0, .slice none 0 0]) (by kernel_rfl) rfl ?_) | (refine so_is (.store 29 _ _) ?_; (refine so_store_box rfl rfl rfl (by kernel_rfl) rfl rfl ?_)) | (refine so_is (.load 29 _) ?_; (refine so_q (qt_load_boxs rfl rfl (by kernel_rfl : tAgg _ 29 4 = true) rfl) rfl ?_)) | (refine so_is (.unOp .not 4 _) ?_; refine so_q (qt_not rfl) rfl ?_) | (refine so_is (.pick _ _ _) ?_; (refine so_q (qt_pkC rfl rfl) rfl ?_)) | (refine so_is (.binOp .neq 3 _ _ _) ?_; (refine so_q (qt_neq_same rfl rfl) rfl ?_)) | (refine so_is (.binOp .neq 4 _ _ _) ?_; (refine so_q (qt_neqB_same (by kernel_rfl) rfl rfl) rfl ?_)) | (refine so_is (.call ⟨.value (.func 9), _, _⟩) ?_; (first | (apply so_call0 (fid := 9); (· (repeat (first | exact SeA.nil | apply SeA.cons (.c (.d _)) | (apply SeA.cons; (· (apply SeP.g; (repeat (first | exact SeL.nil | apply SeL.cons (.d _))))))))); (· exact szBox_ok _ _ _ _ _ (by omega) (by omega)); (· rfl)) | (apply so_call0 (fid := 9); (· (repeat (first | exact SeA.nil | apply SeA.cons (.c (.d _)) | (apply SeA.cons; (· (apply SeP.g; (repeat (first | exact SeL.nil | apply SeL.cons (.d _))))))))); (· exact szBox_no _ _ _ _ _ (by omega) (by omega) (by omega)); (· rfl)))) | (refine so_is (.call ⟨.value (.func 11), _, _⟩) ?_; ((apply so_callO0 (fid := 11); (· (repeat (first | exact SeA.nil | (apply SeA.cons; (· (apply SeP.g; (repeat (first | exact SeL.nil | apply SeL.cons (.d _))))))))); (· exact toBox_p _ _ _ _ (by omega)); (· rfl); (· rfl)))) | (refine so_is (.call ⟨.value (.func 10), _, _⟩) ?_; ((apply so_call0 (fid := 10); (· (repeat (first | exact SeA.nil | apply SeA.cons (.c (.d _)) | (apply SeA.cons; (· (apply SeP.g; (repeat (first | exact SeL.nil | apply SeL.cons (.d _) | apply SeL.cons (.all _ _ _ _ rfl (by ((simp; done)))))))))))); (· exact sp); (· rfl)))) | (refine so_is (.call ⟨.value (.func 12), _, _⟩) ?_; ((apply so_callO0 (fid := 12); (· (repeat (first | exact SeA.nil | apply SeA.cons (.c (.d _)) | (apply SeA.cons; (· (apply SeP.g; (repeat (first | exact SeL.nil | apply SeL.cons (.d _) | apply SeL.cons (.all _ _ _ _ rfl (by ((simp; done)))))))))))); (· exact im); (· rfl); (· rfl)))) | (refine so_is (.call ⟨.value (.func 13), _, _⟩) ?_; ((apply so_call0 (fid := 13); (· (repeat (first | exact SeA.nil | apply SeA.cons (.c (.d _)) | apply SeA.cons (.c (.all _ _ _ _ rfl (by ((simp; done)))))))); (· exact eqIntS_same _); (· rfl)))) | (refine so_is (.call ⟨.value (.func 14), _, _⟩) ?_; ((apply so_call0 (fid := 14); (· (repeat (first | exact SeA.nil | (apply SeA.cons; (· (apply SeP.g; (repeat (first | exact SeL.nil | apply SeL.cons (.d _) | apply SeL.cons (.all _ _ _ _ rfl (by ((simp; done)))))))))))); (· exact eqBox_same _ _ _ _); (· rfl)))) | (refine so_is (.call ⟨.value (.func 15), _, _⟩) ?_; ((apply so_callM (fid := 15); (· (repeat (first | exact ArgM.nil | apply ArgM.c rfl (.lit _) | (apply ArgM.g rfl; (· (repeat (first | exact GvM.nil | apply GvM.cons (.lit _) | apply GvM.cons (.row _ _ _ _ rfl (by ((simp; done))))))))))); (· (decide)); (· exact markBox_m _ _ _ _ _ (by omega) (by omega)); (· rfl); (· rfl)))) | (refine so_is (.call ⟨.value (.func 16), _, _⟩) ?_; ((apply so_callM (fid := 16); (· (repeat (first | exact ArgM.nil | apply ArgM.c rfl (.lit _) | apply ArgM.c rfl (.row _ _ _ _ rfl (by ((simp; done))))))); (· (decide)); (· exact markIntS_m _ _ (by omega) (by omega)); (· rfl); (· rfl)))) | (refine so_is (.call ⟨.value (.func 17), _, _⟩) ?_; ((apply so_call0 (fid := 17); (· (repeat (first | exact SeA.nil | apply SeA.cons (.c (.d _)) | apply SeA.cons (.c (.all _ _ _ _ rfl (by ((simp; done)))))))); (· exact heldIntS_k _ _ (by omega) (by omega)); (· rfl)))) | refine so_nil ?_ | refine so_g_yes rfl rfl rfl rfl ?_ | refine sk_seq ?_ | refine sk_skip ?_ | refine sk_region (id := 0) ?_ | refine sk_region (id := 1) ?_ | refine sk_region (id := 2) ?_ | refine sk_region (id := 3) ?_ | refine sk_region (id := 4) ?_ | (apply sk_pack 5 [2, 3, 4, 7] [3, 4] rfl; (· (repeat (first | exact Pf.nil | apply Pf.cons (.c rfl (.d rfl)) | apply Pf.cons (.c rfl (.lp rfl))))); (· (repeat (first | exact Pb.nil | (apply Pb.cons; (· apply Nb.box rfl; (repeat (first | exact Ncs.nil rfl | (apply Ncs.cons rfl; (· (exact .d rfl)))))))))); refine sk_region (id := 5) ?_) | refine sk_region (id := 6) ?_ | refine sk_region (id := 7) ?_ | (apply sk_pack 8 [2, 3, 4] [3, 4] rfl; (· (repeat (first | exact Pf.nil | apply Pf.cons (.c rfl (.d rfl)) | apply Pf.cons (.c rfl (.lp rfl))))); (· (repeat (first | exact Pb.nil | (apply Pb.cons; (· apply Nb.box rfl; (repeat (first | exact Ncs.nil rfl | (apply Ncs.cons rfl; (· (exact .d rfl)))))))))); refine sk_drawQ 8 (fun _ => false) (.step 0 true (.step 2 true (.step 4 true (.step 1 false (.step 3 false (.step 5 false (.step 6 true (.step 7 true (.step 8 true (.step 9 true (.step 10 true (.step 11 true (.step 12 true (.step 13 true (.step 14 true .nil))))))))))))))) [(0, 32767, 32767, false), (1, 32766, 32767, false), (0, 32767, 32767, false), (6, 32763, 32767, false), (0, 32767, 32767, true), (26, 32741, 32767, false), (32, 32735, 32767, true), (64, 32703, 32767, true), (64, 32703, 32767, true), (64, 32703, 32767, true), (64, 32703, 32767, true), (255, 32639, 32767, true), (2559, 32511, 32767, true), (7167, 32255, 32767, true), (16383, 31743, 32767, true)] (by kernel_rfl) (by kernel_rfl) ?_) | (apply sk_pack 9 [2, 3, 4, 8, 9, 10, 11] [3, 4, 3037, 3039, 41, 1041] rfl; (· (repeat (first | exact Pf.nil | apply Pf.cons (.c rfl (.d rfl)) | apply Pf.cons (.c rfl (.lp rfl))))); (· (repeat (first | exact Pb.nil | apply Pb.cons (.row rfl) | (apply Pb.cons; (· apply Nb.box rfl; (repeat (first | exact Ncs.nil rfl | (apply Ncs.cons rfl; (· (exact .d rfl))))))) | apply Pb.skip))); refine sk_region (id := 9) ?_) | refine sk_region (id := 10) ?_ | (apply sk_pack 11 [2, 3, 4, 8, 9, 10, 11, 12, 13] [3, 4, 3037, 3039, 41, 1041, 3047, 12, 3049, 13] rfl; (· (repeat (first | exact Pf.nil | apply Pf.cons (.c rfl (.d rfl)) | apply Pf.cons (.c rfl (.lp rfl))))); (· (repeat (first | exact Pb.nil | apply Pb.cons (.row rfl) | (apply Pb.cons; (· apply Nb.box rfl; (repeat (first | exact Ncs.nil rfl | (apply Ncs.cons rfl; (· (first | exact .d rfl | exact .ls rfl))))))) | apply Pb.skip))); refine sk_region (id := 11) ?_) | (apply sk_pack 12 [2, 3, 4, 8, 9, 10, 11, 12, 13, 14, 15, 16, 17] [3, 4, 3037, 3039, 41, 1041, 3047, 12, 3049, 13, 54, 1054] rfl; (· (repeat (first | exact Pf.nil | apply Pf.cons (.c rfl (.d rfl)) | apply Pf.cons (.c rfl (.ls rfl)) | apply Pf.cons (.c rfl (.lp rfl))))); (· (repeat (first | exact Pb.nil | apply Pb.cons (.row rfl) | (apply Pb.cons; (· apply Nb.box rfl; (repeat (first | exact Ncs.nil rfl | (apply Ncs.cons rfl; (· (first | exact .d rfl | exact .ls rfl))))))) | apply Pb.skip))); refine sk_region (id := 12) ?_) | refine sk_drawQ 14 (fun _ => false) (.step 0 true (.step 1 true (.step 2 false (.step 3 false (.step 4 true .nil))))) [(0, 31, 31, false), (0, 31, 31, false), (2, 29, 31, false), (5, 26, 31, false), (8, 23, 31, true)] (by kernel_rfl) (by kernel_rfl) ?_ | refine sk_drawQ 16 (fun _ => false) (.step 0 true (.step 1 true (.step 2 false (.step 3 false (.step 4 true .nil))))) [(0, 31, 31, false), (0, 31, 31, false), (2, 29, 31, false), (5, 26, 31, false), (8, 23, 31, true)] (by kernel_rfl) (by kernel_rfl) ?_ | refine sk_region (id := 18) ?_ | refine sk_region (id := 19) ?_ | refine sk_region (id := 20) ?_ | (apply sk_pack 21 [2, 3, 4, 8, 9, 10, 11, 14, 15, 16, 17, 18] [3, 4, 3037, 3039, 41, 1041, 3047, 12, 3049, 13, 54, 1054, 3081, 3086] rfl; (· (repeat (first | exact Pf.nil | apply Pf.cons (.c rfl (.d rfl)) | apply Pf.cons (.c rfl (.ls rfl)) | apply Pf.cons (.c rfl (.lp rfl))))); (· (repeat (first | exact Pb.nil | apply Pb.cons (.row rfl) | (apply Pb.cons; (· apply Nb.box rfl; (repeat (first | exact Ncs.nil rfl | (apply Ncs.cons rfl; (· (first | exact .d rfl | exact .ls rfl))))))) | apply Pb.skip))); refine sk_region (id := 21) ?_) | refine sk_region (id := 23) ?_ | refine sk_region (id := 24) ?_ | refine sk_region (id := 25) ?_ | refine sk_region (id := 26) ?_ | (apply sk_pack 27 [2, 3, 4, 8, 9, 10, 11, 14, 15, 19, 20] [3, 4, 3037, 3039, 41, 1041, 3047, 12, 3049, 13, 54, 1054, 3081, 3086] rfl; (· (repeat (first | exact Pf.nil | apply Pf.cons (.c rfl (.d rfl)) | apply Pf.cons (.c rfl (.ls rfl)) | apply Pf.cons (.c rfl (.lp rfl))))); (· (repeat (first | exact Pb.nil | apply Pb.cons (.row rfl) | (apply Pb.cons; (· apply Nb.box rfl; (repeat (first | exact Ncs.nil rfl | (apply Ncs.cons rfl; (· (first | exact .d rfl | exact .ls rfl))))))) | apply Pb.skip))); refine sk_region (id := 27) ?_) | refine sk_region (id := 28) ?_ | refine sk_region (id := 30) ?_ | (apply sk_pack 31 [2, 3, 4, 8, 9, 10, 11, 14, 15, 19, 20] [3, 4, 3037, 3039, 41, 1041, 3047, 12, 3049, 13, 54, 1054, 3081, 3086] rfl; (· (repeat (first | exact Pf.nil | apply Pf.cons (.c rfl (.d rfl)) | apply Pf.cons (.c rfl (.ls rfl)) | apply Pf.cons (.c rfl (.lp rfl))))); (· (repeat (first | exact Pb.nil | apply Pb.cons (.row rfl) | (apply Pb.cons; (· apply Nb.box rfl; (repeat (first | exact Ncs.nil rfl | (apply Ncs.cons rfl; (· (first | exact .d rfl | exact .ls rfl))))))) | apply Pb.skip))); refine sk_region (id := 31) ?_) | refine sk_region (id := 33) ?_ | (apply sk_pack 35 [2, 3, 4, 8, 9, 10, 11, 14, 15, 19] [3, 4, 3037, 3039, 41, 1041, 3047, 12, 3049, 13, 54, 1054, 3081, 3086] rfl; (· (repeat (first | exact Pf.nil | apply Pf.cons (.c rfl (.d rfl)) | apply Pf.cons (.c rfl (.ls rfl)) | apply Pf.cons (.c rfl (.lp rfl))))); (· (repeat (first | exact Pb.nil | apply Pb.cons (.row rfl) | (apply Pb.cons; (· apply Nb.box rfl; (repeat (first | exact Ncs.nil rfl | (apply Ncs.cons rfl; (· (first | exact .d rfl | exact .ls rfl))))))) | apply Pb.skip))); refine sk_drawQ 35 (fun _ => false) (.step 0 true (.step 2 true (.step 4 true (.step 1 false (.step 3 false (.step 5 false (.step 6 true (.step 7 true (.step 8 true (.step 9 true (.step 10 true (.step 11 true (.step 12 true (.step 13 true (.step 14 true .nil))))))))))))))) [(0, 32767, 32767, false), (1, 32766, 32767, false), (0, 32767, 32767, false), (6, 32763, 32767, false), (0, 32767, 32767, true), (26, 32741, 32767, false), (32, 32735, 32767, true), (64, 32703, 32767, true), (64, 32703, 32767, true), (64, 32703, 32767, true), (64, 32703, 32767, true), (255, 32639, 32767, true), (2559, 32511, 32767, true), (7167, 32255, 32767, true), (16383, 31743, 32767, true)] (by kernel_rfl) (by kernel_rfl) ?_) | (apply sk_pack 36 [8, 9, 10, 11, 14, 15, 19, 21, 22, 23, 24] [3, 4, 3037, 3039, 41, 1041, 3047, 12, 3049, 13, 54, 1054, 3081, 3086, 3140, 3142, 144, 1144] rfl; (· (repeat (first | exact Pf.nil | apply Pf.cons (.c rfl (.d rfl)) | apply Pf.cons (.c rfl (.ls rfl))))); (· (repeat (first | exact Pb.nil | apply Pb.cons (.row rfl) | (apply Pb.cons; (· apply Nb.box rfl; (repeat (first | exact Ncs.nil rfl | (apply Ncs.cons rfl; (· (first | exact .d rfl | exact .ls rfl))))))) | apply Pb.skip))); refine sk_region (id := 36) ?_) | refine sk_region (id := 38) ?_ | refine sk_region (id := 39) ?_ | refine sk_region (id := 40) ?_ | (apply sk_pack 42 [15, 19, 20] [3, 4, 3037, 3039, 41, 1041, 3047, 12, 3049, 13, 54, 1054, 3081, 3086, 3140, 3142, 144, 1144] rfl; (· (repeat (first | exact Pf.nil | apply Pf.cons (.c rfl (.d rfl)) | apply Pf.cons (.c rfl (.ls rfl))))); (· (repeat (first | exact Pb.nil | apply Pb.cons (.row rfl) | (apply Pb.cons; (· apply Nb.box rfl; (repeat (first | exact Ncs.nil rfl | (apply Ncs.cons rfl; (· (first | exact .d rfl | exact .ls rfl))))))) | apply Pb.skip))); refine sk_region (id := 42) ?_) | refine sk_region (id := 43) ?_ | refine sk_region (id := 45) ?_ | refine sk_region (id := 47) ?_ | refine sk_true rfl ?_ | refine sk_false rfl ?_ | refine sk_if rfl (fun hc => ?_) (fun hc => ?_))
    all_goals first | (exfalso; omega) | skip
    all_goals (apply sk_ret; apply ret_eq; (· apply RetOK.p; (· (apply GvA.cons; (· exact .tmp _); (· exact GvP.c (.lit _))); exact GvA.nil); (· (decide))))
    all_goals rfl

end Go.Proofs.Ytdihapcicpkdkaa
