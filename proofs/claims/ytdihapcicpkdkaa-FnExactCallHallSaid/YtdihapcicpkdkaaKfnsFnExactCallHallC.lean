/- What the functions that FnExactCallHall reaches return: part of its proof. No condition beyond those of its theorems. -/
import Derived.Test.YtdihapcicpkdkaaKfnsFnExactCallHallA
import Derived.Test.YtdihapcicpkdkaaKplainC
import Derived.Test.YtdihapcicpkdkaaKplainA
import Derived.Test.YtdihapcicpkdkaaKfnsFnExactCallHallB
import Derived.Test.YtdihapcicpkdkaaKplainB
set_option linter.unusedVariables false
set_option linter.unusedSimpArgs false
namespace Go.Proofs.Ytdihapcicpkdkaa
open Go.RowKit
set_option linter.unusedSectionVars false
variable [Glb]
set_option maxRecDepth 10000
set_option maxHeartbeats 4000000
theorem mkII_atZ {ll : List (List Int)} {k : Int} {j : Nat} (h : j < ll.length) : atZ (mkII k ll) (j : Int) = mkI (k + cnt (ll.take j)) ll[j].length := by
  unfold atZ; rw [Int.toNat_natCast, List.getD_eq_getElem?_getD, mkII_at h]; rfl
theorem heldIntSS_p (lk ll : List (List Int)) (k : Int) (e : lk = mkII k ll) (h0 : 0 ≤ k) (h1 : k + cnt ll ≤ 1099511627776) : PC Try.prog 114 [.c (eII lk), .c (dI k)] (.p (.c (dI (k + cnt ll)))) := by
  subst e
  refine pc_intro Try.func114 rfl rfl rfl (by kernel_rfl) rfl rfl ?_; rintro ⟨hl, -⟩
  have hl := hl.len
  rw [mkII_len] at hl
  repeat' (first | (refine so_is (.assign _) ?_; (refine so_q (qt_asC rfl) rfl ?_)) | refine so_nil ?_ | refine sk_seq ?_ | refine sk_block ?_ | refine sk_region ?_)
  apply sk_packC [0, 1, 5] [] rfl; (· (repeat (first | exact Pf.nil | apply Pf.cons (.c rfl (.d rfl))))); (· (repeat (exact Pb.nil)))
  refine sk_loopL [0] [] (fun j => [(5, iN j), (1, iZ (k + cnt (ll.take j)))]) (fun _ => []) (fun j => j ≤ ll.length) (fun j => ll.length - j) (0) ?_ (by (repeat (first | exact trivial | refine ⟨(by (first | rfl | (refine int_eq rfl ?_; ((simp  [cnt]; done))))), ?_⟩))) (by (repeat (exact trivial))) ?_
  · simp
  intro j hj
  have hn := mkII_len k ll
  have hle := cnt_take_le ll (j + 1)
  have hst : ∀ h : j < ll.length, _ := fun h => cnt_take ll j h
  repeat' (first | (refine so_is (.assign _) ?_; (refine so_q (qt_asC rfl) rfl ?_)) | (refine so_is (.move _) ?_; (refine so_q (qt_mvC rfl) rfl ?_)) | (refine so_is (.call ⟨.builtin .len, _, #[22]⟩) ?_; (refine so_q (qt_len_d rfl (by kernel_rfl)) rfl ?_)) | (refine so_is (.binOp .lss 3 _ _ _) ?_; refine so_q (qt_lss rfl rfl) rfl ?_) | (refine so_is (.indexAddr 22 _ _) ?_; (refine so_q (qt_idxII rfl rfl (by kernel_rfl) (by (omega)) (by (omega))) rfl ?_)) | (refine so_is (.load 26 _) ?_; (refine so_q (qt_load_pt rfl (by kernel_rfl) rfl) rfl ?_)) | (refine so_is (.binOp .add 3 _ _ _) ?_; refine so_q (qt_addI rfl rfl (by (omega))) rfl ?_) | (refine so_is (.call ⟨.value (.func 17), _, _⟩) ?_; (apply so_call0 (fid := 17); (· (repeat (first | exact SeA.nil | apply SeA.cons (.c (.d _))))); (· exact heldIntS_p _ (ll[j]'(by omega)).length _ (mkII_atZ (by omega)) (by omega) (by have := hst (by omega); omega)); (· rfl))) | refine so_nil ?_ | refine sk_seq ?_ | refine sk_block ?_ | refine sk_blk ?_ | refine sk_exit rfl ?_ | refine sk_skip ?_ | refine sk_region ?_ | refine sk_if rfl (fun hc => ?_) (fun hc => ?_))
  · rename_i hj'
    have := hst (by omega)
    exfalso; omega
  · rename_i hj'
    have := hst (by omega)
    refine sk_back ?_; refine ⟨j + 1, ?_, ?_, le_at rfl (by (repeat (first | exact trivial | refine ⟨(by (first | rfl | (refine int_eq rfl ?_; (omega)))), ?_⟩))) (by (repeat (first | exact trivial | refine ⟨rfl, ?_⟩))) (by (repeat (exact trivial))) (by (repeat (exact trivial)))⟩
    · omega
    · omega
  · have : j = ll.length := by omega
    subst this
    (apply sk_ret; apply ret_eq; (· apply RetOK.p; (· (apply GvA.cons; (· exact .tmp _); (· exact GvP.c (.lit _))); exact GvA.nil); (· (decide))))
    simp
theorem heldIntSS_k (ll : List (List Int)) (k : Int) (h0 : 0 ≤ k) (h1 : k + cnt ll ≤ 1099511627776) : PC Try.prog 114 [.c (.sl 1 ll.length (cII (mkII k ll))), .c (dI k)] (.p (.c (dI (k + cnt ll)))) := by
  have := heldIntSS_p (mkII k ll) ll k rfl h0 h1; simp only [eII, mkII_len] at this; exact this

end Go.Proofs.Ytdihapcicpkdkaa

namespace Go.Proofs.Ytdihapcicpkdkaa
open Go.RowKit
set_option linter.unusedSectionVars false
variable [Glb]
set_option maxRecDepth 10000
set_option maxHeartbeats 4000000
theorem heldBox_k (x : Int) (y : Int) (wh : Int) (ll : List (List Int)) (k : Int) (h0 : 0 ≤ k) (h1 : k + cnt ll ≤ 1099511627776) : PC Try.prog 24 [.g [dI x, dI y, dI wh, .sl 1 ll.length (cII (mkII (k) ll))], .c (dI k)] (.p (.c (dI (k + cnt ll)))) := by
  refine pc_intro Try.func24 rfl rfl rfl (by kernel_rfl) rfl rfl ?_; intro _
  repeat' (first | (refine so_is (.box 29 _) ?_; refine so_box rfl rfl ?_) | (refine so_is (.assign _) ?_; (refine so_q (qt_asC rfl) rfl ?_)) | (refine so_is (.fieldAddr 29 _ 3) ?_; (refine so_q (qt_fld_lp (off := 3) rfl (by kernel_rfl)) rfl ?_)) | (refine so_is (.load 22 _) ?_; (refine so_q (qt_load_box rfl rfl (by kernel_rfl) rfl) rfl ?_)) | (refine so_is (.move _) ?_; (refine so_q (qt_mvC rfl) rfl ?_)) | (refine so_is (.binOp .lss 3 _ _ _) ?_; refine so_q (qt_lss rfl rfl) rfl ?_) | (refine so_is (.call ⟨.value (.func 114), _, _⟩) ?_; (apply so_call0 (fid := 114); (· (repeat (first | exact SeA.nil | apply SeA.cons (.c (.d _))))); (· exact heldIntSS_k _ _ (by omega) (by omega)); (· rfl))) | refine so_nil ?_ | refine sk_seq ?_ | refine sk_skip ?_ | refine sk_region ?_ | refine sk_if rfl (fun hc => ?_) (fun hc => ?_))
  all_goals first | (exfalso; omega) | skip
  · (apply sk_ret; apply ret_eq; (· apply RetOK.p; (· (apply GvA.cons; (· exact .tmp _); (· exact GvP.c (.lit _))); exact GvA.nil); (· (decide))))
    rfl

end Go.Proofs.Ytdihapcicpkdkaa

namespace Go.Proofs.Ytdihapcicpkdkaa
open Go.RowKit
set_option linter.unusedSectionVars false
variable [Glb]
set_option maxRecDepth 10000
set_option maxHeartbeats 4000000
theorem heldScene_k (ev : Int) (cc : List (List Int)) (ss : List Int) (k : Int) (h0 : 0 ≤ k) (h1 : k + cnt cc + ss.length ≤ 1099511627776) : PC Try.prog 126 [.g [dI ev, .sl 1 cc.length (cII (mkII (k) cc)), .sl 1 ss.length (cI (mkI (k + cnt cc) ss.length))], .c (dI k)] (.p (.c (dI (k + cnt cc + ss.length)))) := by
  refine pc_intro Try.func126 rfl rfl rfl (by kernel_rfl) rfl rfl ?_; intro _
  repeat' (first | (refine so_is (.box 52 _) ?_; refine so_box rfl rfl ?_) | (refine so_is (.assign _) ?_; (refine so_q (qt_asC rfl) rfl ?_)) | (refine so_is (.fieldAddr 52 _ 1) ?_; (refine so_q (qt_fld_lp (off := 1) rfl (by kernel_rfl)) rfl ?_)) | (refine so_is (.load 22 _) ?_; (refine so_q (qt_load_box rfl rfl (by kernel_rfl) rfl) rfl ?_)) | (refine so_is (.move _) ?_; (refine so_q (qt_mvC rfl) rfl ?_)) | (refine so_is (.binOp .lss 3 _ _ _) ?_; refine so_q (qt_lss rfl rfl) rfl ?_) | (refine so_is (.fieldAddr 52 _ 2) ?_; (refine so_q (qt_fld_lp (off := 2) rfl (by kernel_rfl)) rfl ?_)) | (refine so_is (.load 26 _) ?_; (refine so_q (qt_load_box rfl rfl (by kernel_rfl) rfl) rfl ?_)) | (refine so_is (.call ⟨.value (.func 114), _, _⟩) ?_; (apply so_call0 (fid := 114); (· (repeat (first | exact SeA.nil | apply SeA.cons (.c (.d _))))); (· exact heldIntSS_k _ _ (by omega) (by omega)); (· rfl))) | (refine so_is (.call ⟨.value (.func 17), _, _⟩) ?_; (apply so_call0 (fid := 17); (· (repeat (first | exact SeA.nil | apply SeA.cons (.c (.d _))))); (· exact heldIntS_k _ _ (by omega) (by omega)); (· rfl))) | refine so_nil ?_ | refine sk_seq ?_ | refine sk_skip ?_ | refine sk_region ?_ | refine sk_if rfl (fun hc => ?_) (fun hc => ?_))
  all_goals first | (exfalso; omega) | skip
  · (apply sk_ret; apply ret_eq; (· apply RetOK.p; (· (apply GvA.cons; (· exact .tmp _); (· exact GvP.c (.lit _))); exact GvA.nil); (· (decide))))
    rfl

end Go.Proofs.Ytdihapcicpkdkaa

namespace Go.Proofs.Ytdihapcicpkdkaa
open Go.RowKit
set_option linter.unusedSectionVars false
variable [Glb]
set_option maxRecDepth 10000
set_option maxHeartbeats 4000000
theorem heldHall_k (box : Int) (boy : Int) (bowh : Int) (boll : List (List Int)) (pl : List Int) (scev : Int) (sccc : List (List Int)) (scss : List Int) (nu : List Int) (co : Int) (k : Int) (h0 : 0 ≤ k) (h1 : k + cnt boll + pl.length + cnt sccc + scss.length + nu.length ≤ 1099511627776) : PC Try.prog 32 [.g [dI box, dI boy, dI bowh, .sl 1 boll.length (cII (mkII (k) boll)), .sl 1 pl.length (cI (mkI (k + cnt boll) pl.length)), dI scev, .sl 1 sccc.length (cII (mkII (k + cnt boll + pl.length) sccc)), .sl 1 scss.length (cI (mkI (k + cnt boll + pl.length + cnt sccc) scss.length)), .sl 1 nu.length (cI (mkI (k + cnt boll + pl.length + cnt sccc + scss.length) nu.length)), dI co], .c (dI k)] (.p (.c (dI (k + cnt boll + pl.length + cnt sccc + scss.length + nu.length)))) := by
  refine pc_intro Try.func32 rfl rfl rfl (by kernel_rfl) rfl rfl ?_; intro _
  repeat' (first | (refine so_is (.box 54 _) ?_; refine so_box rfl rfl ?_) | (refine so_is (.assign _) ?_; (refine so_q (qt_asC rfl) rfl ?_)) | (refine so_is (.fieldAddr 54 _ 0) ?_; (refine so_q (qt_fld_lp (off := 0) rfl (by kernel_rfl)) rfl ?_)) | (refine so_is (.load 29 _) ?_; (refine so_q (qt_load_boxs rfl rfl (by kernel_rfl : tAgg _ 29 4 = true) rfl) rfl ?_)) | (refine so_is (.move _) ?_; (refine so_q (qt_mvC rfl) rfl ?_)) | (refine so_is (.binOp .lss 3 _ _ _) ?_; refine so_q (qt_lss rfl rfl) rfl ?_) | (refine so_is (.fieldAddr 54 _ 1) ?_; (refine so_q (qt_fld_lp (off := 4) rfl (by kernel_rfl)) rfl ?_)) | (refine so_is (.load 26 _) ?_; (refine so_q (qt_load_box rfl rfl (by kernel_rfl) rfl) rfl ?_)) | (refine so_is (.fieldAddr 54 _ 2) ?_; (refine so_q (qt_fld_lp (off := 5) rfl (by kernel_rfl)) rfl ?_)) | (refine so_is (.load 52 _) ?_; (refine so_q (qt_load_boxs rfl rfl (by kernel_rfl : tAgg _ 52 3 = true) rfl) rfl ?_)) | (refine so_is (.fieldAddr 54 _ 3) ?_; (refine so_q (qt_fld_lp (off := 8) rfl (by kernel_rfl)) rfl ?_)) | (refine so_is (.call ⟨.value (.func 24), _, _⟩) ?_; (apply so_call0 (fid := 24); (· (repeat (first | exact SeA.nil | apply SeA.cons (.c (.d _)) | (apply SeA.cons; (· (apply SeP.g; (repeat (first | exact SeL.nil | apply SeL.cons (.d _))))))))); (· exact heldBox_k _ _ _ _ _ (by omega) (by omega)); (· rfl))) | (refine so_is (.call ⟨.value (.func 17), _, _⟩) ?_; (apply so_call0 (fid := 17); (· (repeat (first | exact SeA.nil | apply SeA.cons (.c (.d _))))); (· exact heldIntS_k _ _ (by omega) (by omega)); (· rfl))) | (refine so_is (.call ⟨.value (.func 126), _, _⟩) ?_; (apply so_call0 (fid := 126); (· (repeat (first | exact SeA.nil | apply SeA.cons (.c (.d _)) | (apply SeA.cons; (· (apply SeP.g; (repeat (first | exact SeL.nil | apply SeL.cons (.d _))))))))); (· exact heldScene_k _ _ _ _ (by omega) (by omega)); (· rfl))) | refine so_nil ?_ | refine sk_seq ?_ | refine sk_skip ?_ | refine sk_region ?_ | refine sk_if rfl (fun hc => ?_) (fun hc => ?_))
  all_goals first | (exfalso; omega) | skip
  · (apply sk_ret; apply ret_eq; (· apply RetOK.p; (· (apply GvA.cons; (· exact .tmp _); (· exact GvP.c (.lit _))); exact GvA.nil); (· (decide))))
    rfl

end Go.Proofs.Ytdihapcicpkdkaa

namespace Go.Proofs.Ytdihapcicpkdkaa
open Go.RowKit
set_option linter.unusedSectionVars false
variable [Glb]
set_option maxRecDepth 10000
set_option maxHeartbeats 4000000
theorem markIntS_m (l : List Int) (k : Int) (h0 : 0 ≤ k) (h1 : k + l.length ≤ 1099511627776) : PM Try.prog 16 [.c (eI l), .c (dI k)] [eI (mkI k l.length), dI k] (.c (dI (k + l.length))) := by
  refine pm_intro Try.func16 rfl rfl rfl (by kernel_rfl) rfl rfl ?_; intro _
  repeat' (first | (refine so_is (.assign _) ?_; (refine so_q (qt_asC rfl) rfl ?_)) | refine so_nil ?_ | refine sk_seq ?_ | refine sk_block ?_ | refine sk_region ?_)
  apply sk_packC [0, 1, 5] [1000000] rfl; (· (repeat (first | exact Pf.nil | apply Pf.cons (.c rfl (.d rfl)) | apply Pf.cons (.c rfl (.ls rfl))))); (· (repeat (first | exact Pb.nil | apply Pb.cons (.row rfl))))
  refine sk_loopL [0] [] (fun j => [(5, iN j), (1, iZ (k + j))]) (fun j => [(1000000, .row 1 (cI (mkL l k j)))]) (fun j => j ≤ l.length) (fun j => l.length - j) (0) ?_ (by (repeat (first | exact trivial | refine ⟨(by (first | rfl | (refine int_eq rfl ?_; (omega)))), ?_⟩))) (by (repeat (first | exact trivial | refine ⟨(by ((refine row_eq rfl ?_; simp  [mkL_zero]; done))), ?_⟩))) ?_
  · simp
  intro j hj
  have hL := mkL_len l k hj
  repeat' (first | (refine so_is (.assign _) ?_; (refine so_q (qt_asC rfl) rfl ?_)) | (refine so_is (.move _) ?_; (refine so_q (qt_mvC rfl) rfl ?_)) | (refine so_is (.call ⟨.builtin .len, _, #[26]⟩) ?_; (refine so_q (qt_len_ls rfl (by kernel_rfl)) rfl ?_)) | (refine so_is (.binOp .lss 3 _ _ _) ?_; refine so_q (qt_lss rfl rfl) rfl ?_) | (refine so_is (.indexAddr 26 _ _) ?_; (refine so_q (qt_idx_ls rfl rfl (by kernel_rfl : tSl _ 26 1 = true) (by (omega)) (by (omega))) rfl ?_)) | (refine so_is (.store 3 _ _) ?_; ((refine so_store_row rfl rfl rfl rfl (.lit _) (by simp) (by simp) (by kernel_rfl) (by ((simp only [List.length_map, List.length_append, List.length_replicate, fillL_len, rowF_len, gridF_len, mkI_len, mkII_len, partZ_min] at *; omega))) rfl ?_; simp only [St.drop]))) | (refine so_is (.binOp .add 3 _ _ _) ?_; refine so_q (qt_addI rfl rfl (by (omega))) rfl ?_) | refine so_nil ?_ | refine sk_seq ?_ | refine sk_block ?_ | refine sk_blk ?_ | refine sk_exit rfl ?_ | refine sk_skip ?_ | refine sk_region ?_ | refine sk_if rfl (fun hc => ?_) (fun hc => ?_))
  · have hj' : j < l.length := by omega
    refine sk_back ?_; refine ⟨j + 1, ?_, ?_, le_at rfl (by (repeat (first | exact trivial | refine ⟨(by (first | rfl | (refine int_eq rfl ?_; (omega)))), ?_⟩))) (by (repeat (first | exact trivial | refine ⟨rfl, ?_⟩))) (by (repeat (first | exact trivial | refine ⟨(by ((refine row_eq rfl ?_; simp  [← List.map_set, mkL_set hj']; done))), ?_⟩))) (by (repeat (exact trivial)))⟩
    · omega
    · omega
  · have : j = l.length := by omega
    subst this
    rw [mkL_all]
    (refine sk_mret rfl ?_ ?_; rotate_left; (· (repeat (first | exact .nil _ | refine .lit ?_ | refine .sl2 rfl (by ((simp; done))) (by ((simp; done))) ?_))))
    rfl

end Go.Proofs.Ytdihapcicpkdkaa

namespace Go.Proofs.Ytdihapcicpkdkaa
open Go.RowKit
set_option linter.unusedSectionVars false
variable [Glb]
set_option maxRecDepth 10000
set_option maxHeartbeats 4000000
theorem markIntSS_m (ll : List (List Int)) (k : Int) (h0 : 0 ≤ k) (h1 : k + cnt ll ≤ 1099511627776) : PM Try.prog 105 [.c (eII ll), .c (dI k)] [eII (mkII k ll), dI k] (.c (dI (k + cnt ll))) := by
  refine pm_intro Try.func105 rfl rfl rfl (by kernel_rfl) rfl rfl ?_; rintro hf
  have hl := (hf.at 0 rfl).len
  repeat' (first | (refine so_is (.assign _) ?_; (refine so_q (qt_asC rfl) rfl ?_)) | refine so_nil ?_ | refine sk_seq ?_ | refine sk_block ?_ | refine sk_region ?_)
  apply sk_packC [0, 1, 5] [1000000] rfl; (· (repeat (first | exact Pf.nil | apply Pf.cons (.c rfl (.d rfl)) | apply Pf.cons (.c rfl (.ls rfl))))); (· (repeat (first | exact Pb.nil | apply Pb.cons (.row rfl))))
  refine sk_loopL [0] [] (fun j => [(5, iN j), (1, iZ (k + cnt (ll.take j)))]) (fun j => [(1000000, .row 1 (cII (mkLL ll k j)))]) (fun j => j ≤ ll.length) (fun j => ll.length - j) (0) ?_ (by (repeat (first | exact trivial | refine ⟨(by (first | rfl | (refine int_eq rfl ?_; ((simp  [mkLL_zero, cnt]; done))))), ?_⟩))) (by (repeat (first | exact trivial | refine ⟨(by ((refine row_eq rfl ?_; simp  [mkLL_zero, cnt]; done))), ?_⟩))) ?_
  · simp
  intro j hj
  have hL := mkLL_len ll k hj
  have hle := cnt_take_le ll (j + 1)
  have hst : ∀ h : j < ll.length, _ := fun h => cnt_take ll j h
  repeat' (first | (refine so_is (.assign _) ?_; (refine so_q (qt_asC rfl) rfl ?_)) | (refine so_is (.move _) ?_; (refine so_q (qt_mvC rfl) rfl ?_)) | (refine so_is (.call ⟨.builtin .len, _, #[22]⟩) ?_; (refine so_q (qt_len_ls rfl (by kernel_rfl)) rfl ?_)) | (refine so_is (.binOp .lss 3 _ _ _) ?_; refine so_q (qt_lss rfl rfl) rfl ?_) | refine so_nil ?_ | refine sk_seq ?_ | refine sk_block ?_ | refine sk_exit rfl ?_ | refine sk_skip ?_ | refine sk_region (id := 2) ?_ | refine sk_region (id := 5) ?_ | refine sk_if rfl (fun hc => ?_) (fun hc => ?_))
  · refine sk_region (id := 4) ?_
    all_goals ((refine so_q (qt_mvC rfl) rfl ?_))
    all_goals ((refine so_q (qt_mvC rfl) rfl ?_))
    all_goals ((refine so_q (qt_idx_ls rfl rfl (by kernel_rfl : tSl _ 22 1 = true) (by (omega)) (by (omega))) rfl ?_))
    all_goals (refine so_thaw (c := 2000) (sz' := 1) (n := (ll[j]'(by omega)).length) (ds' := cI (ll[j]'(by omega))) rfl rfl (by kernel_rfl) (by simp [mkLL_get (show j < ll.length by omega)]) rfl rfl rfl ?_)
    all_goals ((refine so_q (qt_mvC rfl) rfl ?_))
    all_goals ((apply so_callM (fid := 16); (· (repeat (first | exact ArgM.nil | apply ArgM.c rfl (.lit _) | apply ArgM.c rfl (.row _ _ _ _ rfl (by ((simp; done))))))); (· (decide)); (· exact markIntS_m _ _ (by omega) (by have := hst (by omega); omega)); (· rfl); (· rfl)))
    all_goals (refine so_ghost (sim_back (b := 1000000) (c := 2000) rfl rfl (by simp) rfl) ?_; refine so_q (qt_asC rfl) rfl ?_)
    all_goals refine so_nil ?_
    repeat' (first | (refine so_is (.assign _) ?_; (refine so_q (qt_asC rfl) rfl ?_)) | (refine so_is (.move _) ?_; (refine so_q (qt_mvC rfl) rfl ?_)) | (refine so_is (.binOp .add 3 _ _ _) ?_; refine so_q (qt_addI rfl rfl (by (omega))) rfl ?_) | refine so_nil ?_ | refine sk_blk ?_ | refine sk_region ?_)
    have := hst (by omega)
    have hj1 : j < ll.length := by omega
    refine sk_back ?_; refine ⟨j + 1, ?_, ?_, le_at rfl (by (repeat (first | exact trivial | refine ⟨(by (first | rfl | (refine int_eq rfl ?_; (omega)))), ?_⟩))) (by (repeat (first | exact trivial | refine ⟨rfl, ?_⟩))) (by (repeat (first | exact trivial | refine ⟨(by ((refine row_eq rfl ?_; simp  [List.map_set, ← mkLL_set hj1, eI]; done))), ?_⟩))) (by (repeat (exact trivial)))⟩
    · omega
    · omega
  · have : j = ll.length := by omega
    subst this
    rw [mkLL_all, List.take_length]
    (refine sk_mret rfl ?_ ?_; rotate_left; (· (repeat (first | exact .nil _ | refine .lit ?_ | refine .sl2 rfl (by ((simp; done))) (by ((simp; done))) ?_))))
    rfl

end Go.Proofs.Ytdihapcicpkdkaa

namespace Go.Proofs.Ytdihapcicpkdkaa
open Go.RowKit
set_option linter.unusedSectionVars false
variable [Glb]
set_option maxRecDepth 10000
set_option maxHeartbeats 4000000
theorem markBox_m (x : Int) (y : Int) (wh : Int) (ll : List (List Int)) (k : Int) (h0 : 0 ≤ k) (h1 : k + cnt ll ≤ 1099511627776) : PM Try.prog 15 [.g [dI x, dI y, dI wh, eII ll], .c (dI k)] [dI x, dI y, dI wh, .sl 1 ll.length (cII (mkII (k) ll)), dI k] (.c (dI (k + cnt ll))) := by
  refine pm_intro Try.func15 rfl rfl rfl (by kernel_rfl) rfl rfl ?_; intro _
  repeat' (first | (refine so_is (.box 29 _) ?_; refine so_box rfl rfl ?_) | (refine so_is (.assign _) ?_; (refine so_q (qt_asC rfl) rfl ?_)) | (refine so_is (.fieldAddr 29 _ 3) ?_; (refine so_q (qt_fld_lp (off := 3) rfl (by kernel_rfl)) rfl ?_)) | (refine so_is (.load 22 _) ?_; (refine so_q (qt_load_box rfl rfl (by kernel_rfl) rfl) rfl ?_)) | (refine so_is (.move _) ?_; (refine so_q (qt_mvC rfl) rfl ?_)) | (refine so_is (.call ⟨.value (.func 105), _, _⟩) ?_; (apply so_callM (fid := 105); (· (repeat (first | exact ArgM.nil | apply ArgM.c rfl (.lit _) | apply ArgM.c rfl (.row _ _ _ _ rfl (by ((simp; done))))))); (· (decide)); (· exact markIntSS_m _ _ (by omega) (by omega)); (· rfl); (· rfl))) | refine so_nil ?_ | refine sk_seq ?_ | refine sk_region ?_)
  · (refine sk_mret rfl ?_ ?_; rotate_left; (· (repeat (first | exact .nil _ | refine .lit ?_ | refine .sl rfl (by ((simp; done))) ?_))))
    rfl

end Go.Proofs.Ytdihapcicpkdkaa

namespace Go.Proofs.Ytdihapcicpkdkaa
open Go.RowKit
set_option linter.unusedSectionVars false
variable [Glb]
set_option maxRecDepth 10000
set_option maxHeartbeats 4000000
theorem markScene_m (ev : Int) (cc : List (List Int)) (ss : List Int) (k : Int) (h0 : 0 ≤ k) (h1 : k + cnt cc + ss.length ≤ 1099511627776) : PM Try.prog 125 [.g [dI ev, eII cc, eI ss], .c (dI k)] [dI ev, .sl 1 cc.length (cII (mkII (k) cc)), .sl 1 ss.length (cI (mkI (k + cnt cc) ss.length)), dI k] (.c (dI (k + cnt cc + ss.length))) := by
  refine pm_intro Try.func125 rfl rfl rfl (by kernel_rfl) rfl rfl ?_; intro _
  repeat' (first | (refine so_is (.box 52 _) ?_; refine so_box rfl rfl ?_) | (refine so_is (.assign _) ?_; (refine so_q (qt_asC rfl) rfl ?_)) | (refine so_is (.fieldAddr 52 _ 1) ?_; (refine so_q (qt_fld_lp (off := 1) rfl (by kernel_rfl)) rfl ?_)) | (refine so_is (.load 22 _) ?_; (refine so_q (qt_load_box rfl rfl (by kernel_rfl) rfl) rfl ?_)) | (refine so_is (.move _) ?_; (refine so_q (qt_mvC rfl) rfl ?_)) | (refine so_is (.fieldAddr 52 _ 2) ?_; (refine so_q (qt_fld_lp (off := 2) rfl (by kernel_rfl)) rfl ?_)) | (refine so_is (.load 26 _) ?_; (refine so_q (qt_load_box rfl rfl (by kernel_rfl) rfl) rfl ?_)) | (refine so_is (.call ⟨.value (.func 105), _, _⟩) ?_; (apply so_callM (fid := 105); (· (repeat (first | exact ArgM.nil | apply ArgM.c rfl (.lit _) | apply ArgM.c rfl (.row _ _ _ _ rfl (by ((simp; done))))))); (· (decide)); (· exact markIntSS_m _ _ (by omega) (by omega)); (· rfl); (· rfl))) | (refine so_is (.call ⟨.value (.func 16), _, _⟩) ?_; (apply so_callM (fid := 16); (· (repeat (first | exact ArgM.nil | apply ArgM.c rfl (.lit _) | apply ArgM.c rfl (.row _ _ _ _ rfl (by ((simp; done))))))); (· (decide)); (· exact markIntS_m _ _ (by omega) (by omega)); (· rfl); (· rfl))) | refine so_nil ?_ | refine sk_seq ?_ | refine sk_region ?_)
  · (refine sk_mret rfl ?_ ?_; rotate_left; (· (repeat (first | exact .nil _ | refine .lit ?_ | refine .sl rfl (by ((simp; done))) ?_))))
    rfl

end Go.Proofs.Ytdihapcicpkdkaa

namespace Go.Proofs.Ytdihapcicpkdkaa
open Go.RowKit
set_option linter.unusedSectionVars false
variable [Glb]
set_option maxRecDepth 10000
set_option maxHeartbeats 4000000
theorem markHall_m (box : Int) (boy : Int) (bowh : Int) (boll : List (List Int)) (pl : List Int) (scev : Int) (sccc : List (List Int)) (scss : List Int) (nu : List Int) (co : Int) (k : Int) (h0 : 0 ≤ k) (h1 : k + cnt boll + pl.length + cnt sccc + scss.length + nu.length ≤ 1099511627776) : PM Try.prog 31 [.g [dI box, dI boy, dI bowh, eII boll, eI pl, dI scev, eII sccc, eI scss, eI nu, dI co], .c (dI k)] [dI box, dI boy, dI bowh, .sl 1 boll.length (cII (mkII (k) boll)), .sl 1 pl.length (cI (mkI (k + cnt boll) pl.length)), dI scev, .sl 1 sccc.length (cII (mkII (k + cnt boll + pl.length) sccc)), .sl 1 scss.length (cI (mkI (k + cnt boll + pl.length + cnt sccc) scss.length)), .sl 1 nu.length (cI (mkI (k + cnt boll + pl.length + cnt sccc + scss.length) nu.length)), dI co, dI k] (.c (dI (k + cnt boll + pl.length + cnt sccc + scss.length + nu.length))) := by
  refine pm_intro Try.func31 rfl rfl rfl (by kernel_rfl) rfl rfl ?_; intro _
  repeat' (first | (refine so_is (.box 54 _) ?_; refine so_box rfl rfl ?_) | (refine so_is (.assign _) ?_; (refine so_q (qt_asC rfl) rfl ?_)) | (refine so_is (.fieldAddr 54 _ 0) ?_; (refine so_q (qt_fld_lp (off := 0) rfl (by kernel_rfl)) rfl ?_)) | (refine so_is (.load 29 _) ?_; (refine so_q (qt_load_boxs rfl rfl (by kernel_rfl : tAgg _ 29 4 = true) rfl) rfl ?_)) | (refine so_is (.move _) ?_; (refine so_q (qt_mvC rfl) rfl ?_)) | (refine so_is (.fieldAddr 54 _ 1) ?_; (refine so_q (qt_fld_lp (off := 4) rfl (by kernel_rfl)) rfl ?_)) | (refine so_is (.load 26 _) ?_; (refine so_q (qt_load_box rfl rfl (by kernel_rfl) rfl) rfl ?_)) | (refine so_is (.fieldAddr 54 _ 2) ?_; (refine so_q (qt_fld_lp (off := 5) rfl (by kernel_rfl)) rfl ?_)) | (refine so_is (.load 52 _) ?_; (refine so_q (qt_load_boxs rfl rfl (by kernel_rfl : tAgg _ 52 3 = true) rfl) rfl ?_)) | (refine so_is (.fieldAddr 54 _ 3) ?_; (refine so_q (qt_fld_lp (off := 8) rfl (by kernel_rfl)) rfl ?_)) | (refine so_is (.call ⟨.value (.func 15), _, _⟩) ?_; (apply so_callM (fid := 15); (· (repeat (first | exact ArgM.nil | apply ArgM.c rfl (.lit _) | (apply ArgM.g rfl; (· (repeat (first | exact GvM.nil | apply GvM.cons (.lit _) | apply GvM.cons (.row _ _ _ _ rfl (by ((simp; done))))))))))); (· (decide)); (· exact markBox_m _ _ _ _ _ (by omega) (by omega)); (· rfl); (· rfl))) | (refine so_is (.call ⟨.value (.func 16), _, _⟩) ?_; (apply so_callM (fid := 16); (· (repeat (first | exact ArgM.nil | apply ArgM.c rfl (.lit _) | apply ArgM.c rfl (.row _ _ _ _ rfl (by ((simp; done))))))); (· (decide)); (· exact markIntS_m _ _ (by omega) (by omega)); (· rfl); (· rfl))) | (refine so_is (.call ⟨.value (.func 125), _, _⟩) ?_; (apply so_callM (fid := 125); (· (repeat (first | exact ArgM.nil | apply ArgM.c rfl (.lit _) | (apply ArgM.g rfl; (· (repeat (first | exact GvM.nil | apply GvM.cons (.lit _) | apply GvM.cons (.row _ _ _ _ rfl (by ((simp; done))))))))))); (· (decide)); (· exact markScene_m _ _ _ _ (by omega) (by omega)); (· rfl); (· rfl))) | refine so_nil ?_ | refine sk_seq ?_ | refine sk_region ?_)
  · (refine sk_mret rfl ?_ ?_; rotate_left; (· (repeat (first | exact .nil _ | refine .lit ?_ | refine .sl rfl (by ((simp; done))) ?_))))
    rfl

end Go.Proofs.Ytdihapcicpkdkaa

namespace Go.Proofs.Ytdihapcicpkdkaa
open Go.RowKit
set_option linter.unusedSectionVars false
variable [Glb]
set_option maxRecDepth 10000
set_option maxHeartbeats 4000000
theorem szIntS_p (l : List Int) (left : Int) (h0 : 0 ≤ left) (h1 : left ≤ 1048576) : PC Try.prog 115 [.c (eI l), .c (dI left)] (.p (.c (dI (szI l.length left)))) := by
  refine pc_intro Try.func115 rfl rfl rfl (by kernel_rfl) rfl rfl ?_; rintro ⟨hl, -⟩
  have hl := hl.len
  repeat' (first | (refine so_is (.assign _) ?_; (refine so_q (qt_asC rfl) rfl ?_)) | (refine so_is (.move _) ?_; (refine so_q (qt_mvC rfl) rfl ?_)) | (refine so_is (.call ⟨.builtin .len, _, #[26]⟩) ?_; (refine so_q (qt_len_d rfl (by kernel_rfl)) rfl ?_)) | (refine so_is (.binOp .sub 3 _ _ _) ?_; refine so_q (qt_subI rfl rfl (by (omega))) rfl ?_) | (refine so_is (.binOp .lss 3 _ _ _) ?_; refine so_q (qt_lss rfl rfl) rfl ?_) | refine so_nil ?_ | refine sk_seq ?_ | refine sk_skip ?_ | refine sk_region ?_ | refine sk_if rfl (fun hc => ?_) (fun hc => ?_))
  all_goals ((apply sk_ret; apply ret_eq; (· apply RetOK.p; (· (apply GvA.cons; (· exact .tmp _); (· exact GvP.c (.lit _))); exact GvA.nil); (· (decide)))))
  all_goals simp [szI]
  all_goals omega
theorem szIntS_ok (l : List Int) (left : Int) (h : l.length ≤ left) (h1 : left ≤ 1048576) : PC Try.prog 115 [.c (eI l), .c (dI left)] (.p (.c (dI (left - l.length)))) := by
  have := szIntS_p l left (by omega) h1; rwa [show szI l.length left = left - l.length by unfold szI; rw [if_neg (by omega)]] at this
theorem szIntS_no (l : List Int) (left : Int) (h : left < l.length) (h0 : 0 ≤ left) (h1 : left ≤ 1048576) : PC Try.prog 115 [.c (eI l), .c (dI left)] (.p (.c (dI (-1)))) := by
  have := szIntS_p l left h0 h1; rwa [show szI l.length left = -1 by unfold szI; rw [if_pos (by omega)]] at this

end Go.Proofs.Ytdihapcicpkdkaa

namespace Go.Proofs.Ytdihapcicpkdkaa
open Go.RowKit
set_option linter.unusedSectionVars false
variable [Glb]
set_option maxRecDepth 10000
set_option maxHeartbeats 4000000
theorem szR_take (ll : List (List Int)) (k : Nat) (left : Int) (h : k < ll.length) : szR (ll.drop k) left = if szI ll[k].length left < 0 then -1 else szR (ll.drop (k + 1)) (szI ll[k].length left) := by
  rw [List.drop_eq_getElem_cons h]; rfl
theorem szIntSS_p (ll : List (List Int)) (left : Int) (h0 : 0 ≤ left) (h1 : left ≤ 1048576) : PC Try.prog 89 [.c (eII ll), .c (dI left)] (.p (.c (dI (szL ll.length ll left)))) := by
  refine pc_intro Try.func89 rfl rfl rfl (by kernel_rfl) rfl rfl ?_; rintro ⟨hl, -⟩
  have hl := hl.len
  repeat' (first | (refine so_is (.assign _) ?_; (refine so_q (qt_asC rfl) rfl ?_)) | (refine so_is (.move _) ?_; (refine so_q (qt_mvC rfl) rfl ?_)) | (refine so_is (.call ⟨.builtin .len, _, #[22]⟩) ?_; (refine so_q (qt_len_d rfl (by kernel_rfl)) rfl ?_)) | (refine so_is (.binOp .sub 3 _ _ _) ?_; refine so_q (qt_subI rfl rfl (by (omega))) rfl ?_) | (refine so_is (.binOp .lss 3 _ _ _) ?_; refine so_q (qt_lss rfl rfl) rfl ?_) | refine so_nil ?_ | refine sk_seq ?_ | refine sk_block ?_ | refine sk_skip ?_ | refine sk_region ?_ | refine sk_if rfl (fun hc => ?_) (fun hc => ?_))
  · (apply sk_ret; apply ret_eq; (· apply RetOK.p; (· (apply GvA.cons; (· exact .tmp _); (· exact GvP.c (.lit _))); exact GvA.nil); (· (decide))))
    simp [szL]; omega
  apply sk_packC [0, 1, 5] [] rfl; (· (repeat (first | exact Pf.nil | apply Pf.cons (.c rfl (.d rfl))))); (· (repeat (exact Pb.nil)))
  refine sk_loopL [0] [] (fun g => [(5, iN g.1), (1, iZ g.2)]) (fun _ => []) (fun g => g.1 ≤ ll.length ∧ 0 ≤ g.2 ∧ g.2 ≤ 1048576 ∧ szR (ll.drop g.1) g.2 = szR ll (left - ll.length)) (fun g => ll.length - g.1) (((0 : Nat), left - ll.length)) ?_ (by (repeat (first | exact trivial | refine ⟨(by (rfl)), ?_⟩))) (by (repeat (exact trivial))) ?_
  · simp; omega
  rintro ⟨k, c⟩ ⟨hk, hc0, hc1, hs⟩
  simp only at hk hc0 hc1 hs
  repeat' (first | (refine so_is (.assign _) ?_; (refine so_q (qt_asC rfl) rfl ?_)) | (refine so_is (.move _) ?_; (refine so_q (qt_mvC rfl) rfl ?_)) | (refine so_is (.call ⟨.builtin .len, _, #[22]⟩) ?_; (refine so_q (qt_len_d rfl (by kernel_rfl)) rfl ?_)) | (refine so_is (.binOp .lss 3 _ _ _) ?_; refine so_q (qt_lss rfl rfl) rfl ?_) | (refine so_is (.indexAddr 22 _ _) ?_; (refine so_q (qt_idxII rfl rfl (by kernel_rfl) (by (omega)) (by (omega))) rfl ?_)) | (refine so_is (.load 26 _) ?_; (refine so_q (qt_load_pt rfl (by kernel_rfl) rfl) rfl ?_)) | (refine so_is (.binOp .add 3 _ _ _) ?_; refine so_q (qt_addI rfl rfl (by (omega))) rfl ?_) | (refine so_is (.call ⟨.value (.func 115), _, _⟩) ?_; (apply so_call0 (fid := 115); (· (repeat (first | exact SeA.nil | apply SeA.cons (.c (.d _))))); (· exact szIntS_p _ _ hc0 hc1); (· rfl))) | refine so_nil ?_ | refine sk_seq ?_ | refine sk_block ?_ | refine sk_blk ?_ | refine sk_exit rfl ?_ | refine sk_skip ?_ | refine sk_region ?_ | refine sk_if rfl (fun hc => ?_) (fun hc => ?_))
  · rename_i hk'
    rw [atZ_nat (by omega)] at hc
    have e := szR_take ll k c (by omega)
    rw [if_pos hc, hs] at e
    (apply sk_ret; apply ret_eq; (· apply RetOK.p; (· (apply GvA.cons; (· exact .tmp _); (· exact GvP.c (.lit _))); exact GvA.nil); (· (decide))))
    simp [szL, e]
  · rename_i hk'
    rw [atZ_nat (by omega)] at hc
    have e := szR_take ll k c (by omega)
    rw [if_neg hc, hs] at e
    have h2 : szI ll[k].length c ≤ c := by unfold szI; split <;> omega
    refine sk_back ?_; refine ⟨(k + 1, szI ll[k].length c), ?_, ?_, le_at rfl (by (repeat (first | exact trivial | refine ⟨(by (first | rfl | (refine int_eq rfl ?_; ((simp  [atZ_nat (show k < ll.length by omega)]; done))))), ?_⟩))) (by (repeat (first | exact trivial | refine ⟨rfl, ?_⟩))) (by (repeat (exact trivial))) (by (repeat (exact trivial)))⟩
    · have h3 : 0 ≤ szI ll[k].length c := by simp only at hc; omega
      exact ⟨by simp only; omega, by simp only; omega, by simp only; omega, e.symm⟩
    · simp only; omega
  · have e : k = ll.length := by omega
    subst e
    rw [List.drop_length] at hs
    (apply sk_ret; apply ret_eq; (· apply RetOK.p; (· (apply GvA.cons; (· exact .tmp _); (· exact GvP.c (.lit _))); exact GvA.nil); (· (decide))))
    simp only [szR] at hs
    have h9 : ¬ left - (ll.length : Int) < 0 := by simp at *; omega
    simp [szL, ← hs, h9]
theorem szIntSS_ok (ll : List (List Int)) (left : Int) (h : ll.length + cnt ll ≤ left) (h1 : left ≤ 1048576) : PC Try.prog 89 [.c (eII ll), .c (dI left)] (.p (.c (dI (left - ll.length - cnt ll)))) := by
  have := szIntSS_p ll left (by omega) h1; rwa [szL_ok h] at this
theorem szIntSS_no (ll : List (List Int)) (left : Int) (h : left < ll.length + cnt ll) (h0 : 0 ≤ left) (h1 : left ≤ 1048576) : PC Try.prog 89 [.c (eII ll), .c (dI left)] (.p (.c (dI (-1)))) := by
  have := szIntSS_p ll left h0 h1; rwa [szL_no h h0] at this

end Go.Proofs.Ytdihapcicpkdkaa

namespace Go.Proofs.Ytdihapcicpkdkaa
open Go.RowKit
set_option linter.unusedSectionVars false
variable [Glb]
set_option maxRecDepth 10000
set_option maxHeartbeats 4000000
theorem szBox_ok (x : Int) (y : Int) (wh : Int) (ll : List (List Int)) (left : Int) (h : ll.length + cnt ll ≤ left) (h1 : left ≤ 1048576) : PC Try.prog 9 [.g [dI x, dI y, dI wh, eII ll], .c (dI left)] (.p (.c (dI (left - ll.length - cnt ll)))) := by
  refine pc_intro Try.func9 rfl rfl rfl (by kernel_rfl) rfl rfl ?_; intro _
  repeat' (first | (refine so_is (.box 24 _) ?_; refine so_box rfl rfl ?_) | (refine so_is (.assign _) ?_; (refine so_q (qt_asC rfl) rfl ?_)) | (refine so_is (.fieldAddr 24 _ 3) ?_; (refine so_q (qt_fld_lp (off := 3) rfl (by kernel_rfl)) rfl ?_)) | (refine so_is (.load 22 _) ?_; (refine so_q (qt_load_box rfl rfl (by kernel_rfl) rfl) rfl ?_)) | (refine so_is (.move _) ?_; (refine so_q (qt_mvC rfl) rfl ?_)) | (refine so_is (.binOp .lss 3 _ _ _) ?_; refine so_q (qt_lss rfl rfl) rfl ?_) | (refine so_is (.call ⟨.value (.func 89), _, _⟩) ?_; (apply so_call0 (fid := 89); (· (repeat (first | exact SeA.nil | apply SeA.cons (.c (.d _))))); (· exact szIntSS_ok _ _ (by omega) (by omega)); (· rfl))) | refine so_nil ?_ | refine sk_seq ?_ | refine sk_skip ?_ | refine sk_region ?_ | refine sk_if rfl (fun hc => ?_) (fun hc => ?_))
  all_goals first | (exfalso; omega) | skip
  · (apply sk_ret; apply ret_eq; (· apply RetOK.p; (· (apply GvA.cons; (· exact .tmp _); (· exact GvP.c (.lit _))); exact GvA.nil); (· (decide))))
    rfl
theorem szBox_no (x : Int) (y : Int) (wh : Int) (ll : List (List Int)) (left : Int) (h : left < ll.length + cnt ll) (h0 : 0 ≤ left) (h1 : left ≤ 1048576) : PC Try.prog 9 [.g [dI x, dI y, dI wh, eII ll], .c (dI left)] (.p (.c (dI (-1)))) := by
  refine pc_intro Try.func9 rfl rfl rfl (by kernel_rfl) rfl rfl ?_; intro _
  repeat' (first | (refine so_is (.box 24 _) ?_; refine so_box rfl rfl ?_) | (refine so_is (.assign _) ?_; (refine so_q (qt_asC rfl) rfl ?_)) | (refine so_is (.fieldAddr 24 _ 3) ?_; (refine so_q (qt_fld_lp (off := 3) rfl (by kernel_rfl)) rfl ?_)) | (refine so_is (.load 22 _) ?_; (refine so_q (qt_load_box rfl rfl (by kernel_rfl) rfl) rfl ?_)) | (refine so_is (.move _) ?_; (refine so_q (qt_mvC rfl) rfl ?_)) | (refine so_is (.binOp .lss 3 _ _ _) ?_; refine so_q (qt_lss rfl rfl) rfl ?_) | (refine so_is (.call ⟨.value (.func 89), _, _⟩) ?_; ((apply so_call0 (fid := 89); (· (repeat (first | exact SeA.nil | apply SeA.cons (.c (.d _))))); (· exact szIntSS_no _ _ (by omega) (by omega) (by omega)); (· rfl)))) | refine so_nil ?_ | refine sk_seq ?_ | refine sk_region ?_ | refine sk_true rfl ?_)
  all_goals first | (exfalso; omega) | skip
  all_goals (apply sk_ret; apply ret_eq; (· apply RetOK.p; (· (apply GvA.cons; (· exact .tmp _); (· exact GvP.c (.lit _))); exact GvA.nil); (· (decide))))
  all_goals rfl

end Go.Proofs.Ytdihapcicpkdkaa

namespace Go.Proofs.Ytdihapcicpkdkaa
open Go.RowKit
set_option linter.unusedSectionVars false
variable [Glb]
set_option maxRecDepth 10000
set_option maxHeartbeats 4000000
theorem szScene_ok (ev : Int) (cc : List (List Int)) (ss : List Int) (left : Int) (h : cc.length + cnt cc + ss.length ≤ left) (h1 : left ≤ 1048576) : PC Try.prog 116 [.g [dI ev, eII cc, eI ss], .c (dI left)] (.p (.c (dI (left - cc.length - cnt cc - ss.length)))) := by
  refine pc_intro Try.func116 rfl rfl rfl (by kernel_rfl) rfl rfl ?_; intro _
  repeat' (first | (refine so_is (.box 46 _) ?_; refine so_box rfl rfl ?_) | (refine so_is (.assign _) ?_; (refine so_q (qt_asC rfl) rfl ?_)) | (refine so_is (.fieldAddr 46 _ 1) ?_; (refine so_q (qt_fld_lp (off := 1) rfl (by kernel_rfl)) rfl ?_)) | (refine so_is (.load 22 _) ?_; (refine so_q (qt_load_box rfl rfl (by kernel_rfl) rfl) rfl ?_)) | (refine so_is (.move _) ?_; (refine so_q (qt_mvC rfl) rfl ?_)) | (refine so_is (.binOp .lss 3 _ _ _) ?_; refine so_q (qt_lss rfl rfl) rfl ?_) | (refine so_is (.fieldAddr 46 _ 2) ?_; (refine so_q (qt_fld_lp (off := 2) rfl (by kernel_rfl)) rfl ?_)) | (refine so_is (.load 26 _) ?_; (refine so_q (qt_load_box rfl rfl (by kernel_rfl) rfl) rfl ?_)) | (refine so_is (.call ⟨.value (.func 89), _, _⟩) ?_; (apply so_call0 (fid := 89); (· (repeat (first | exact SeA.nil | apply SeA.cons (.c (.d _))))); (· exact szIntSS_ok _ _ (by omega) (by omega)); (· rfl))) | (refine so_is (.call ⟨.value (.func 115), _, _⟩) ?_; (apply so_call0 (fid := 115); (· (repeat (first | exact SeA.nil | apply SeA.cons (.c (.d _))))); (· exact szIntS_ok _ _ (by omega) (by omega)); (· rfl))) | refine so_nil ?_ | refine sk_seq ?_ | refine sk_skip ?_ | refine sk_region ?_ | refine sk_if rfl (fun hc => ?_) (fun hc => ?_))
  all_goals first | (exfalso; omega) | skip
  · (apply sk_ret; apply ret_eq; (· apply RetOK.p; (· (apply GvA.cons; (· exact .tmp _); (· exact GvP.c (.lit _))); exact GvA.nil); (· (decide))))
    rfl
theorem szScene_no (ev : Int) (cc : List (List Int)) (ss : List Int) (left : Int) (h : left < cc.length + cnt cc + ss.length) (h0 : 0 ≤ left) (h1 : left ≤ 1048576) : PC Try.prog 116 [.g [dI ev, eII cc, eI ss], .c (dI left)] (.p (.c (dI (-1)))) := by
  by_cases c0 : left < cc.length + cnt cc
  · refine pc_intro Try.func116 rfl rfl rfl (by kernel_rfl) rfl rfl ?_; intro _
    repeat' (first | (refine so_is (.box 46 _) ?_; refine so_box rfl rfl ?_) | (refine so_is (.assign _) ?_; (refine so_q (qt_asC rfl) rfl ?_)) | (refine so_is (.fieldAddr 46 _ 1) ?_; (refine so_q (qt_fld_lp (off := 1) rfl (by kernel_rfl)) rfl ?_)) | (refine so_is (.load 22 _) ?_; (refine so_q (qt_load_box rfl rfl (by kernel_rfl) rfl) rfl ?_)) | (refine so_is (.move _) ?_; (refine so_q (qt_mvC rfl) rfl ?_)) | (refine so_is (.binOp .lss 3 _ _ _) ?_; refine so_q (qt_lss rfl rfl) rfl ?_) | (refine so_is (.call ⟨.value (.func 89), _, _⟩) ?_; ((apply so_call0 (fid := 89); (· (repeat (first | exact SeA.nil | apply SeA.cons (.c (.d _))))); (· exact szIntSS_no _ _ (by omega) (by omega) (by omega)); (· rfl)))) | refine so_nil ?_ | refine sk_seq ?_ | refine sk_region ?_ | refine sk_true rfl ?_)
    all_goals first | (exfalso; omega) | skip
    all_goals (apply sk_ret; apply ret_eq; (· apply RetOK.p; (· (apply GvA.cons; (· exact .tmp _); (· exact GvP.c (.lit _))); exact GvA.nil); (· (decide))))
    all_goals rfl
  · refine pc_intro Try.func116 rfl rfl rfl (by kernel_rfl) rfl rfl ?_; intro _
    repeat' (first | (refine so_is (.box 46 _) ?_; refine so_box rfl rfl ?_) | (refine so_is (.assign _) ?_; (refine so_q (qt_asC rfl) rfl ?_)) | (refine so_is (.fieldAddr 46 _ 1) ?_; (refine so_q (qt_fld_lp (off := 1) rfl (by kernel_rfl)) rfl ?_)) | (refine so_is (.load 22 _) ?_; (refine so_q (qt_load_box rfl rfl (by kernel_rfl) rfl) rfl ?_)) | (refine so_is (.move _) ?_; (refine so_q (qt_mvC rfl) rfl ?_)) | (refine so_is (.binOp .lss 3 _ _ _) ?_; refine so_q (qt_lss rfl rfl) rfl ?_) | (refine so_is (.fieldAddr 46 _ 2) ?_; (refine so_q (qt_fld_lp (off := 2) rfl (by kernel_rfl)) rfl ?_)) | (refine so_is (.load 26 _) ?_; (refine so_q (qt_load_box rfl rfl (by kernel_rfl) rfl) rfl ?_)) | (refine so_is (.call ⟨.value (.func 89), _, _⟩) ?_; ((apply so_call0 (fid := 89); (· (repeat (first | exact SeA.nil | apply SeA.cons (.c (.d _))))); (· exact szIntSS_ok _ _ (by omega) (by omega)); (· rfl)))) | (refine so_is (.call ⟨.value (.func 115), _, _⟩) ?_; ((apply so_call0 (fid := 115); (· (repeat (first | exact SeA.nil | apply SeA.cons (.c (.d _))))); (· exact szIntS_no _ _ (by omega) (by omega) (by omega)); (· rfl)))) | refine so_nil ?_ | refine sk_seq ?_ | refine sk_skip ?_ | refine sk_region ?_ | refine sk_true rfl ?_ | refine sk_if rfl (fun hc => ?_) (fun hc => ?_))
    all_goals first | (exfalso; omega) | skip
    all_goals (apply sk_ret; apply ret_eq; (· apply RetOK.p; (· (apply GvA.cons; (· exact .tmp _); (· exact GvP.c (.lit _))); exact GvA.nil); (· (decide))))
    all_goals rfl

end Go.Proofs.Ytdihapcicpkdkaa

namespace Go.Proofs.Ytdihapcicpkdkaa
open Go.RowKit
set_option linter.unusedSectionVars false
variable [Glb]
set_option maxRecDepth 10000
set_option maxHeartbeats 4000000
theorem szHall_ok (box : Int) (boy : Int) (bowh : Int) (boll : List (List Int)) (pl : List Int) (scev : Int) (sccc : List (List Int)) (scss : List Int) (nu : List Int) (co : Int) (left : Int) (h : boll.length + cnt boll + pl.length + sccc.length + cnt sccc + scss.length + nu.length ≤ left) (h1 : left ≤ 1048576) : PC Try.prog 25 [.g [dI box, dI boy, dI bowh, eII boll, eI pl, dI scev, eII sccc, eI scss, eI nu, dI co], .c (dI left)] (.p (.c (dI (left - boll.length - cnt boll - pl.length - sccc.length - cnt sccc - scss.length - nu.length)))) := by
  refine pc_intro Try.func25 rfl rfl rfl (by kernel_rfl) rfl rfl ?_; intro _
  repeat' (first | (refine so_is (.box 48 _) ?_; refine so_box rfl rfl ?_) | (refine so_is (.assign _) ?_; (refine so_q (qt_asC rfl) rfl ?_)) | (refine so_is (.fieldAddr 48 _ 0) ?_; (refine so_q (qt_fld_lp (off := 0) rfl (by kernel_rfl)) rfl ?_)) | (refine so_is (.load 24 _) ?_; (refine so_q (qt_load_boxs rfl rfl (by kernel_rfl : tAgg _ 24 4 = true) rfl) rfl ?_)) | (refine so_is (.move _) ?_; (refine so_q (qt_mvC rfl) rfl ?_)) | (refine so_is (.binOp .lss 3 _ _ _) ?_; refine so_q (qt_lss rfl rfl) rfl ?_) | (refine so_is (.fieldAddr 48 _ 1) ?_; (refine so_q (qt_fld_lp (off := 4) rfl (by kernel_rfl)) rfl ?_)) | (refine so_is (.load 26 _) ?_; (refine so_q (qt_load_box rfl rfl (by kernel_rfl) rfl) rfl ?_)) | (refine so_is (.fieldAddr 48 _ 2) ?_; (refine so_q (qt_fld_lp (off := 5) rfl (by kernel_rfl)) rfl ?_)) | (refine so_is (.load 46 _) ?_; (refine so_q (qt_load_boxs rfl rfl (by kernel_rfl : tAgg _ 46 3 = true) rfl) rfl ?_)) | (refine so_is (.fieldAddr 48 _ 3) ?_; (refine so_q (qt_fld_lp (off := 8) rfl (by kernel_rfl)) rfl ?_)) | (refine so_is (.call ⟨.value (.func 9), _, _⟩) ?_; (apply so_call0 (fid := 9); (· (repeat (first | exact SeA.nil | apply SeA.cons (.c (.d _)) | (apply SeA.cons; (· (apply SeP.g; (repeat (first | exact SeL.nil | apply SeL.cons (.d _))))))))); (· exact szBox_ok _ _ _ _ _ (by omega) (by omega)); (· rfl))) | (refine so_is (.call ⟨.value (.func 115), _, _⟩) ?_; (apply so_call0 (fid := 115); (· (repeat (first | exact SeA.nil | apply SeA.cons (.c (.d _))))); (· exact szIntS_ok _ _ (by omega) (by omega)); (· rfl))) | (refine so_is (.call ⟨.value (.func 116), _, _⟩) ?_; (apply so_call0 (fid := 116); (· (repeat (first | exact SeA.nil | apply SeA.cons (.c (.d _)) | (apply SeA.cons; (· (apply SeP.g; (repeat (first | exact SeL.nil | apply SeL.cons (.d _))))))))); (· exact szScene_ok _ _ _ _ (by omega) (by omega)); (· rfl))) | refine so_nil ?_ | refine sk_seq ?_ | refine sk_skip ?_ | refine sk_region ?_ | refine sk_if rfl (fun hc => ?_) (fun hc => ?_))
  all_goals first | (exfalso; omega) | skip
  · (apply sk_ret; apply ret_eq; (· apply RetOK.p; (· (apply GvA.cons; (· exact .tmp _); (· exact GvP.c (.lit _))); exact GvA.nil); (· (decide))))
    rfl
theorem szHall_no (box : Int) (boy : Int) (bowh : Int) (boll : List (List Int)) (pl : List Int) (scev : Int) (sccc : List (List Int)) (scss : List Int) (nu : List Int) (co : Int) (left : Int) (h : left < boll.length + cnt boll + pl.length + sccc.length + cnt sccc + scss.length + nu.length) (h0 : 0 ≤ left) (h1 : left ≤ 1048576) : PC Try.prog 25 [.g [dI box, dI boy, dI bowh, eII boll, eI pl, dI scev, eII sccc, eI scss, eI nu, dI co], .c (dI left)] (.p (.c (dI (-1)))) := by
  by_cases c0 : left < boll.length + cnt boll
  · refine pc_intro Try.func25 rfl rfl rfl (by kernel_rfl) rfl rfl ?_; intro _
    repeat' (first | (refine so_is (.box 48 _) ?_; refine so_box rfl rfl ?_) | (refine so_is (.assign _) ?_; (refine so_q (qt_asC rfl) rfl ?_)) | (refine so_is (.fieldAddr 48 _ 0) ?_; (refine so_q (qt_fld_lp (off := 0) rfl (by kernel_rfl)) rfl ?_)) | (refine so_is (.load 24 _) ?_; (refine so_q (qt_load_boxs rfl rfl (by kernel_rfl : tAgg _ 24 4 = true) rfl) rfl ?_)) | (refine so_is (.move _) ?_; (refine so_q (qt_mvC rfl) rfl ?_)) | (refine so_is (.binOp .lss 3 _ _ _) ?_; refine so_q (qt_lss rfl rfl) rfl ?_) | (refine so_is (.call ⟨.value (.func 9), _, _⟩) ?_; ((apply so_call0 (fid := 9); (· (repeat (first | exact SeA.nil | apply SeA.cons (.c (.d _)) | (apply SeA.cons; (· (apply SeP.g; (repeat (first | exact SeL.nil | apply SeL.cons (.d _))))))))); (· exact szBox_no _ _ _ _ _ (by omega) (by omega) (by omega)); (· rfl)))) | refine so_nil ?_ | refine sk_seq ?_ | refine sk_region ?_ | refine sk_true rfl ?_)
    all_goals first | (exfalso; omega) | skip
    all_goals (apply sk_ret; apply ret_eq; (· apply RetOK.p; (· (apply GvA.cons; (· exact .tmp _); (· exact GvP.c (.lit _))); exact GvA.nil); (· (decide))))
    all_goals rfl
  · by_cases c1 : left < boll.length + cnt boll + pl.length
    · refine pc_intro Try.func25 rfl rfl rfl (by kernel_rfl) rfl rfl ?_; intro _
      repeat' (first | (refine so_is (.box 48 _) ?_; refine so_box rfl rfl ?_) | (refine so_is (.assign _) ?_; (refine so_q (qt_asC rfl) rfl ?_)) | (refine so_is (.fieldAddr 48 _ 0) ?_; (refine so_q (qt_fld_lp (off := 0) rfl (by kernel_rfl)) rfl ?_)) | (refine so_is (.load 24 _) ?_; (refine so_q (qt_load_boxs rfl rfl (by kernel_rfl : tAgg _ 24 4 = true) rfl) rfl ?_)) | (refine so_is (.move _) ?_; (refine so_q (qt_mvC rfl) rfl ?_)) | (refine so_is (.binOp .lss 3 _ _ _) ?_; refine so_q (qt_lss rfl rfl) rfl ?_) | (refine so_is (.fieldAddr 48 _ 1) ?_; (refine so_q (qt_fld_lp (off := 4) rfl (by kernel_rfl)) rfl ?_)) | (refine so_is (.load 26 _) ?_; (refine so_q (qt_load_box rfl rfl (by kernel_rfl) rfl) rfl ?_)) | (refine so_is (.call ⟨.value (.func 9), _, _⟩) ?_; ((apply so_call0 (fid := 9); (· (repeat (first | exact SeA.nil | apply SeA.cons (.c (.d _)) | (apply SeA.cons; (· (apply SeP.g; (repeat (first | exact SeL.nil | apply SeL.cons (.d _))))))))); (· exact szBox_ok _ _ _ _ _ (by omega) (by omega)); (· rfl)))) | (refine so_is (.call ⟨.value (.func 115), _, _⟩) ?_; ((apply so_call0 (fid := 115); (· (repeat (first | exact SeA.nil | apply SeA.cons (.c (.d _))))); (· exact szIntS_no _ _ (by omega) (by omega) (by omega)); (· rfl)))) | refine so_nil ?_ | refine sk_seq ?_ | refine sk_skip ?_ | refine sk_region ?_ | refine sk_true rfl ?_ | refine sk_if rfl (fun hc => ?_) (fun hc => ?_))
      all_goals first | (exfalso; omega) | skip
      all_goals (apply sk_ret; apply ret_eq; (· apply RetOK.p; (· (apply GvA.cons; (· exact .tmp _); (· exact GvP.c (.lit _))); exact GvA.nil); (· (decide))))
      all_goals rfl
    · by_cases c2 : left < boll.length + cnt boll + pl.length + sccc.length + cnt sccc + scss.length
      · refine pc_intro Try.func25 rfl rfl rfl (by kernel_rfl) rfl rfl ?_; intro _
        repeat' (first | (refine so_is (.box 48 _) ?_; refine so_box rfl rfl ?_) | (refine so_is (.assign _) ?_; (refine so_q (qt_asC rfl) rfl ?_)) | (refine so_is (.fieldAddr 48 _ 0) ?_; (refine so_q (qt_fld_lp (off := 0) rfl (by kernel_rfl)) rfl ?_)) | (refine so_is (.load 24 _) ?_; (refine so_q (qt_load_boxs rfl rfl (by kernel_rfl : tAgg _ 24 4 = true) rfl) rfl ?_)) | (refine so_is (.move _) ?_; (refine so_q (qt_mvC rfl) rfl ?_)) | (refine so_is (.binOp .lss 3 _ _ _) ?_; refine so_q (qt_lss rfl rfl) rfl ?_) | (refine so_is (.fieldAddr 48 _ 1) ?_; (refine so_q (qt_fld_lp (off := 4) rfl (by kernel_rfl)) rfl ?_)) | (refine so_is (.load 26 _) ?_; (refine so_q (qt_load_box rfl rfl (by kernel_rfl) rfl) rfl ?_)) | (refine so_is (.fieldAddr 48 _ 2) ?_; (refine so_q (qt_fld_lp (off := 5) rfl (by kernel_rfl)) rfl ?_)) | (refine so_is (.load 46 _) ?_; (refine so_q (qt_load_boxs rfl rfl (by kernel_rfl : tAgg _ 46 3 = true) rfl) rfl ?_)) | (refine so_is (.call ⟨.value (.func 9), _, _⟩) ?_; ((apply so_call0 (fid := 9); (· (repeat (first | exact SeA.nil | apply SeA.cons (.c (.d _)) | (apply SeA.cons; (· (apply SeP.g; (repeat (first | exact SeL.nil | apply SeL.cons (.d _))))))))); (· exact szBox_ok _ _ _ _ _ (by omega) (by omega)); (· rfl)))) | (refine so_is (.call ⟨.value (.func 115), _, _⟩) ?_; ((apply so_call0 (fid := 115); (· (repeat (first | exact SeA.nil | apply SeA.cons (.c (.d _))))); (· exact szIntS_ok _ _ (by omega) (by omega)); (· rfl)))) | (refine so_is (.call ⟨.value (.func 116), _, _⟩) ?_; ((apply so_call0 (fid := 116); (· (repeat (first | exact SeA.nil | apply SeA.cons (.c (.d _)) | (apply SeA.cons; (· (apply SeP.g; (repeat (first | exact SeL.nil | apply SeL.cons (.d _))))))))); (· exact szScene_no _ _ _ _ (by omega) (by omega) (by omega)); (· rfl)))) | refine so_nil ?_ | refine sk_seq ?_ | refine sk_skip ?_ | refine sk_region ?_ | refine sk_true rfl ?_ | refine sk_if rfl (fun hc => ?_) (fun hc => ?_))
        all_goals first | (exfalso; omega) | skip
        all_goals (apply sk_ret; apply ret_eq; (· apply RetOK.p; (· (apply GvA.cons; (· exact .tmp _); (· exact GvP.c (.lit _))); exact GvA.nil); (· (decide))))
        all_goals rfl
      · refine pc_intro Try.func25 rfl rfl rfl (by kernel_rfl) rfl rfl ?_; intro _
        repeat' (first | (refine so_is (.box 48 _) ?_; refine so_box rfl rfl ?_) | (refine so_is (.assign _) ?_; (refine so_q (qt_asC rfl) rfl ?_)) | (refine so_is (.fieldAddr 48 _ 0) ?_; (refine so_q (qt_fld_lp (off := 0) rfl (by kernel_rfl)) rfl ?_)) | (refine so_is (.load 24 _) ?_; (refine so_q (qt_load_boxs rfl rfl (by kernel_rfl : tAgg _ 24 4 = true) rfl) rfl ?_)) | (refine so_is (.move _) ?_; (refine so_q (qt_mvC rfl) rfl ?_)) | (refine so_is (.binOp .lss 3 _ _ _) ?_; refine so_q (qt_lss rfl rfl) rfl ?_) | (refine so_is (.fieldAddr 48 _ 1) ?_; (refine so_q (qt_fld_lp (off := 4) rfl (by kernel_rfl)) rfl ?_)) | (refine so_is (.load 26 _) ?_; (refine so_q (qt_load_box rfl rfl (by kernel_rfl) rfl) rfl ?_)) | (refine so_is (.fieldAddr 48 _ 2) ?_; (refine so_q (qt_fld_lp (off := 5) rfl (by kernel_rfl)) rfl ?_)) | (refine so_is (.load 46 _) ?_; (refine so_q (qt_load_boxs rfl rfl (by kernel_rfl : tAgg _ 46 3 = true) rfl) rfl ?_)) | (refine so_is (.fieldAddr 48 _ 3) ?_; (refine so_q (qt_fld_lp (off := 8) rfl (by kernel_rfl)) rfl ?_)) | (refine so_is (.call ⟨.value (.func 9), _, _⟩) ?_; ((apply so_call0 (fid := 9); (· (repeat (first | exact SeA.nil | apply SeA.cons (.c (.d _)) | (apply SeA.cons; (· (apply SeP.g; (repeat (first | exact SeL.nil | apply SeL.cons (.d _))))))))); (· exact szBox_ok _ _ _ _ _ (by omega) (by omega)); (· rfl)))) | (refine so_is (.call ⟨.value (.func 115), _, _⟩) ?_; (first | (apply so_call0 (fid := 115); (· (repeat (first | exact SeA.nil | apply SeA.cons (.c (.d _))))); (· exact szIntS_ok _ _ (by omega) (by omega)); (· rfl)) | (apply so_call0 (fid := 115); (· (repeat (first | exact SeA.nil | apply SeA.cons (.c (.d _))))); (· exact szIntS_no _ _ (by omega) (by omega) (by omega)); (· rfl)))) | (refine so_is (.call ⟨.value (.func 116), _, _⟩) ?_; ((apply so_call0 (fid := 116); (· (repeat (first | exact SeA.nil | apply SeA.cons (.c (.d _)) | (apply SeA.cons; (· (apply SeP.g; (repeat (first | exact SeL.nil | apply SeL.cons (.d _))))))))); (· exact szScene_ok _ _ _ _ (by omega) (by omega)); (· rfl)))) | refine so_nil ?_ | refine sk_seq ?_ | refine sk_skip ?_ | refine sk_region ?_ | refine sk_true rfl ?_ | refine sk_if rfl (fun hc => ?_) (fun hc => ?_))
        all_goals first | (exfalso; omega) | skip
        all_goals (apply sk_ret; apply ret_eq; (· apply RetOK.p; (· (apply GvA.cons; (· exact .tmp _); (· exact GvP.c (.lit _))); exact GvA.nil); (· (decide))))
        all_goals rfl

end Go.Proofs.Ytdihapcicpkdkaa

namespace Go.Proofs.Ytdihapcicpkdkaa
open Go.RowKit
set_option linter.unusedSectionVars false
variable [Glb]
set_option maxRecDepth 10000
set_option maxHeartbeats 4000000
theorem toCall_p (ki : Int) (ca : Int) : PC Try.prog 28 [.g [dI ki, dI ca]] (.p (.g [dI ki, dI ca])) := by
  refine pc_intro Try.func28 rfl rfl rfl (by kernel_rfl) rfl rfl ?_; intro _
  repeat' (first | (refine so_is (.box 50 _) ?_; refine so_box rfl rfl ?_) | (refine so_is (.alloc 58) ?_; refine so_alloc (zs := [.int .i64 0, .int .i64 0]) (by kernel_rfl) rfl ?_) | (refine so_is (.fieldAddr 50 _ 0) ?_; (refine so_q (qt_fld_lp (off := 0) rfl (by kernel_rfl)) rfl ?_)) | (refine so_is (.load 3 _) ?_; (refine so_q (qt_load_box rfl rfl (by kernel_rfl) rfl) rfl ?_)) | (refine so_is (.fieldAddr 58 _ 0) ?_; (refine so_q (qt_fld_lp (off := 0) rfl (by kernel_rfl)) rfl ?_)) | (refine so_is (.store 3 _ _) ?_; (refine so_store_box1 rfl rfl rfl rfl (by kernel_rfl) rfl rfl ?_)) | (refine so_is (.fieldAddr 50 _ 1) ?_; (refine so_q (qt_fld_lp (off := 1) rfl (by kernel_rfl)) rfl ?_)) | (refine so_is (.fieldAddr 58 _ 1) ?_; (refine so_q (qt_fld_lp (off := 1) rfl (by kernel_rfl)) rfl ?_)) | (refine so_is (.load 58 _) ?_; (refine so_q (qt_load_boxs rfl rfl (by kernel_rfl : tAgg _ 58 2 = true) rfl) rfl ?_)) | (refine so_is (.store 58 _ _) ?_; (refine so_store_box rfl rfl rfl (by kernel_rfl) rfl rfl ?_)) | refine so_nil ?_ | refine sk_seq ?_ | refine sk_region (id := 0) ?_ | refine sk_region (id := 1) ?_ | refine sk_region (id := 2) ?_ | refine sk_region (id := 3) ?_ | (apply sk_pack 4 [2, 3] [1, 2, 3] rfl; (· (repeat (first | exact Pf.nil | apply Pf.cons (.c rfl (.lp rfl))))); (· (repeat (first | exact Pb.nil | (apply Pb.cons; (· apply Nb.box rfl; (repeat (first | exact Ncs.nil rfl | (apply Ncs.cons rfl; (· (exact .d rfl)))))))))); refine sk_region (id := 4) ?_))
  · (apply sk_ret; apply ret_eq; (· apply RetOK.p; (· (apply GvA.cons; (· (apply RV.cellN (n := 2); (· rfl); (· rfl); (· kernel_rfl); (· rfl))); (· (apply GvP.g; (· (apply GvL.cons (.lit _)); (apply GvL.cons (.lit _)); exact GvL.nil)))); exact GvA.nil); (· (decide))))
    rfl

end Go.Proofs.Ytdihapcicpkdkaa

namespace Go.Proofs.Ytdihapcicpkdkaa
open Go.RowKit
set_option linter.unusedSectionVars false
variable [Glb]
set_option maxRecDepth 10000
set_option maxHeartbeats 4000000
theorem toIntS_p (l : List Int) (h : l.length ≤ 1048576) : PC Try.prog 119 [.c (eI l)] (.p (.c (eI l))) := by
  refine pc_intro Try.func119 rfl rfl rfl (by kernel_rfl) rfl rfl ?_; intro _
  repeat' (first | (refine so_is (.assign _) ?_; (refine so_q (qt_asC rfl) rfl ?_)) | (refine so_is (.move _) ?_; (refine so_q (qt_mvC rfl) rfl ?_)) | (refine so_is (.call ⟨.builtin .len, _, #[26]⟩) ?_; (refine so_q (qt_len_d rfl (by kernel_rfl)) rfl ?_)) | (refine so_is (.makeSlice 26 _ _) ?_; (refine so_make (by_ := 8) (z := .int .i64 0) (y := .lit (.int .i64 0)) rfl rfl (by kernel_rfl) (by kernel_rfl) rfl (fun _ => .lit _ rfl) (by (omega)) (by (omega)) (by (omega)) rfl ?_)) | refine so_nil ?_ | refine sk_seq ?_ | refine sk_block ?_ | refine sk_region ?_)
  apply sk_packC [0, 3, 4] [7] rfl; (· (repeat (first | exact Pf.nil | apply Pf.cons (.c rfl (.d rfl)) | apply Pf.cons (.c rfl (.ls rfl))))); (· (repeat (first | exact Pb.nil | apply Pb.cons (.row rfl))))
  refine sk_loopL [0, 3] [] (fun k => [(4, iN k)]) (fun k => [(7, .row 1 (cI (fillL l 0 k)))]) (fun k => k ≤ l.length) (fun k => l.length - k) (0) ?_ (by (repeat (first | exact trivial | refine ⟨(by (rfl)), ?_⟩))) (by (repeat (first | exact trivial | refine ⟨(by ((refine row_eq rfl ?_; simp  [fillL_zero, cI]; done))), ?_⟩))) ?_
  · simp
  intro k hk
  repeat' (first | (refine so_is (.assign _) ?_; (refine so_q (qt_asC rfl) rfl ?_)) | (refine so_is (.move _) ?_; (refine so_q (qt_mvC rfl) rfl ?_)) | (refine so_is (.call ⟨.builtin .len, _, #[26]⟩) ?_; (refine so_q (qt_len_d rfl (by kernel_rfl)) rfl ?_)) | (refine so_is (.binOp .lss 3 _ _ _) ?_; refine so_q (qt_lss rfl rfl) rfl ?_) | (refine so_is (.indexAddr 26 _ _) ?_; (first | refine so_q (qt_idxI rfl rfl (by kernel_rfl) (by (omega)) (by (omega))) rfl ?_ | refine so_q (qt_idx_ls rfl rfl (by kernel_rfl : tSl _ 26 1 = true) (by (omega)) (by (omega))) rfl ?_)) | (refine so_is (.load 3 _) ?_; (refine so_q (qt_load_pt rfl (by kernel_rfl) rfl) rfl ?_)) | (refine so_is (.store 3 _ _) ?_; ((refine so_store_row rfl rfl rfl rfl (.lit _) (by simp) (by simp) (by kernel_rfl) (by ((simp only [List.length_map, List.length_append, List.length_replicate, fillL_len, rowF_len, gridF_len, mkI_len, mkII_len, partZ_min] at *; omega))) rfl ?_; simp only [St.drop]))) | (refine so_is (.binOp .add 3 _ _ _) ?_; refine so_q (qt_addI rfl rfl (by (omega))) rfl ?_) | refine so_nil ?_ | refine sk_seq ?_ | refine sk_block ?_ | refine sk_blk ?_ | refine sk_exit rfl ?_ | refine sk_skip ?_ | refine sk_region ?_ | refine sk_if rfl (fun hc => ?_) (fun hc => ?_))
  · have hk' : k < l.length := by omega
    refine sk_back ?_; refine ⟨k + 1, ?_, ?_, le_at rfl (by (repeat (first | exact trivial | refine ⟨(by (rfl)), ?_⟩))) (by (repeat (first | exact trivial | refine ⟨rfl, ?_⟩))) (by (repeat (first | exact trivial | refine ⟨(by ((refine row_eq rfl ?_; simp  [atZ_nat hk', ← List.map_set, fillL_set 0 hk']; done))), ?_⟩))) (by (repeat (exact trivial)))⟩
    · omega
    · omega
  · have : k = l.length := by omega
    subst this
    rw [fillL_all]
    (apply sk_ret; apply ret_eq; (· apply RetOK.p; (· (apply GvA.cons; (· exact .tmp _); (· (exact GvP.c (.row _ _ _ _ rfl (by ((simp; done))))))); exact GvA.nil); (· (decide))))
    simp

end Go.Proofs.Ytdihapcicpkdkaa

namespace Go.Proofs.Ytdihapcicpkdkaa
open Go.RowKit
set_option linter.unusedSectionVars false
variable [Glb]
set_option maxRecDepth 10000
set_option maxHeartbeats 4000000
theorem toIntSS_p (ll : List (List Int)) (h : ll.length ≤ 1048576) (hr : ∀ l ∈ ll, l.length ≤ 1048576) : PC Try.prog 97 [.c (eII ll)] (.p (.c (eII ll))) := by
  refine pc_intro Try.func97 rfl rfl rfl (by kernel_rfl) rfl rfl ?_; intro _
  repeat' (first | (refine so_is (.assign _) ?_; (refine so_q (qt_asC rfl) rfl ?_)) | (refine so_is (.move _) ?_; (refine so_q (qt_mvC rfl) rfl ?_)) | (refine so_is (.call ⟨.builtin .len, _, #[22]⟩) ?_; (refine so_q (qt_len_d rfl (by kernel_rfl)) rfl ?_)) | (refine so_is (.makeSlice 22 _ _) ?_; (refine so_make (by_ := 24) (z := .slice none 0 0) (y := .sl 1 0 []) rfl rfl (by kernel_rfl) (by kernel_rfl) rfl (fun _ => .nil _ (by decide)) (by (omega)) (by (omega)) (by (omega)) rfl ?_)) | refine so_nil ?_ | refine sk_seq ?_ | refine sk_block ?_ | refine sk_region ?_)
  apply sk_packC [0, 3, 4] [7, 20] rfl; (· (repeat (first | exact Pf.nil | apply Pf.cons (.c rfl (.d rfl)) | apply Pf.cons (.c rfl (.ls rfl))))); (· (repeat (first | exact Pb.nil | apply Pb.cons (.row rfl) | apply Pb.skip)))
  refine sk_loopL [0, 3] [20] (fun k => [(4, iN k)]) (fun k => [(7, .row 1 (cII (fillL ll [] k)))]) (fun k => k ≤ ll.length) (fun k => ll.length - k) (0) ?_ (by (repeat (first | exact trivial | refine ⟨(by (rfl)), ?_⟩))) (by (repeat (first | exact trivial | refine ⟨(by ((refine row_eq rfl ?_; simp  [fillL_zero]; done))), ?_⟩))) ?_
  · simp
  intro k hk
  repeat' (first | (refine so_is (.assign _) ?_; (refine so_q (qt_asC rfl) rfl ?_)) | (refine so_is (.move _) ?_; (refine so_q (qt_mvC rfl) rfl ?_)) | (refine so_is (.call ⟨.builtin .len, _, #[22]⟩) ?_; (refine so_q (qt_len_d rfl (by kernel_rfl)) rfl ?_)) | (refine so_is (.binOp .lss 3 _ _ _) ?_; refine so_q (qt_lss rfl rfl) rfl ?_) | (refine so_is (.indexAddr 22 _ _) ?_; (first | refine so_q (qt_idxII rfl rfl (by kernel_rfl) (by (omega)) (by (omega))) rfl ?_ | refine so_q (qt_idx_ls rfl rfl (by kernel_rfl : tSl _ 22 1 = true) (by (omega)) (by (omega))) rfl ?_)) | (refine so_is (.load 26 _) ?_; (refine so_q (qt_load_pt rfl (by kernel_rfl) rfl) rfl ?_)) | (refine so_is (.store 26 _ _) ?_; (refine so_store_row rfl rfl rfl rfl (.row _ _ _ _ rfl (by ((simp; done)))) (by decide) (by decide) (by kernel_rfl) (by ((simp only [List.length_map, List.length_append, List.length_replicate, fillL_len, rowF_len, gridF_len, mkI_len, mkII_len, partZ_min] at *; omega))) rfl ?_)) | (refine so_is (.binOp .add 3 _ _ _) ?_; refine so_q (qt_addI rfl rfl (by (omega))) rfl ?_) | (refine so_is (.call ⟨.value (.func 119), _, _⟩) ?_; (apply so_callO0 (fid := 119); (· (repeat (first | exact SeA.nil | apply SeA.cons (.c (.d _))))); (· exact toIntS_p (atZ ll k) (by rw [atZ_nat (by omega)]; exact hr _ (List.getElem_mem _))); (· rfl); (· rfl))) | refine so_nil ?_ | refine sk_seq ?_ | refine sk_block ?_ | refine sk_blk ?_ | refine sk_exit rfl ?_ | refine sk_skip ?_ | refine sk_region ?_ | refine sk_if rfl (fun hc => ?_) (fun hc => ?_))
  · have hk' : k < ll.length := by omega
    refine sk_back ?_; refine ⟨k + 1, ?_, ?_, le_at rfl (by (repeat (first | exact trivial | refine ⟨(by (rfl)), ?_⟩))) (by (repeat (first | exact trivial | refine ⟨rfl, ?_⟩))) (by (repeat (first | exact trivial | refine ⟨(by ((refine row_eq rfl ?_; simp  [atZ_nat hk', ← fillL_set [] hk']; done))), ?_⟩))) (by (repeat (first | exact trivial | refine ⟨.inr rfl, ?_⟩)))⟩
    · omega
    · omega
  · have : k = ll.length := by omega
    subst this
    rw [fillL_all]
    (apply sk_ret; apply ret_eq; (· apply RetOK.p; (· (apply GvA.cons; (· exact .tmp _); (· (exact GvP.c (.row _ _ _ _ rfl (by ((simp; done))))))); exact GvA.nil); (· (decide))))
    simp
theorem toIntSS_z (ll : List (List Int)) (h : ll.length + cnt ll ≤ 1048576) : PC Try.prog 97 [.c (eII ll)] (.p (.c (eII ll))) :=
  toIntSS_p ll (by omega) fun l hl => by have := cnt_mem hl; omega

end Go.Proofs.Ytdihapcicpkdkaa

namespace Go.Proofs.Ytdihapcicpkdkaa
open Go.RowKit
set_option linter.unusedSectionVars false
variable [Glb]
set_option maxRecDepth 10000
set_option maxHeartbeats 4000000
theorem toBox_p (x : Int) (y : Int) (wh : Int) (ll : List (List Int)) (h : ll.length + cnt ll ≤ 1048576) : PC Try.prog 11 [.g [dI x, dI y, dI wh, eII ll]] (.p (.g [dI x, dI y, dI wh, eII ll])) := by
  refine pc_intro Try.func11 rfl rfl rfl (by kernel_rfl) rfl rfl ?_; intro _
  repeat' (first | (refine so_is (.box 24 _) ?_; refine so_box rfl rfl ?_) | (refine so_is (.alloc 29) ?_; refine so_alloc (zs := [.int .i64 0, .int .i64 0, .int .i64 0, .slice none 0 0]) (by kernel_rfl) rfl ?_) | (refine so_is (.fieldAddr 24 _ 0) ?_; (refine so_q (qt_fld_lp (off := 0) rfl (by kernel_rfl)) rfl ?_)) | (refine so_is (.load 3 _) ?_; (refine so_q (qt_load_box rfl rfl (by kernel_rfl) rfl) rfl ?_)) | (refine so_is (.fieldAddr 29 _ 0) ?_; (refine so_q (qt_fld_lp (off := 0) rfl (by kernel_rfl)) rfl ?_)) | (refine so_is (.store 3 _ _) ?_; (refine so_store_box1 rfl rfl rfl rfl (by kernel_rfl) rfl rfl ?_)) | (refine so_is (.fieldAddr 24 _ 1) ?_; (refine so_q (qt_fld_lp (off := 1) rfl (by kernel_rfl)) rfl ?_)) | (refine so_is (.fieldAddr 29 _ 1) ?_; (refine so_q (qt_fld_lp (off := 1) rfl (by kernel_rfl)) rfl ?_)) | (refine so_is (.fieldAddr 24 _ 2) ?_; (refine so_q (qt_fld_lp (off := 2) rfl (by kernel_rfl)) rfl ?_)) | (refine so_is (.fieldAddr 29 _ 2) ?_; (refine so_q (qt_fld_lp (off := 2) rfl (by kernel_rfl)) rfl ?_)) | (refine so_is (.fieldAddr 24 _ 3) ?_; (refine so_q (qt_fld_lp (off := 3) rfl (by kernel_rfl)) rfl ?_)) | (refine so_is (.load 22 _) ?_; (refine so_q (qt_load_box rfl rfl (by kernel_rfl) rfl) rfl ?_)) | (refine so_is (.fieldAddr 29 _ 3) ?_; (refine so_q (qt_fld_lp (off := 3) rfl (by kernel_rfl)) rfl ?_)) | (refine so_is (.store 22 _ _) ?_; (refine so_store_box1 rfl rfl rfl rfl (by kernel_rfl) rfl rfl ?_)) | (refine so_is (.load 29 _) ?_; (refine so_q (qt_load_boxs rfl rfl (by kernel_rfl : tAgg _ 29 4 = true) rfl) rfl ?_)) | (refine so_is (.store 29 _ _) ?_; (refine so_store_box rfl rfl rfl (by kernel_rfl) rfl rfl ?_)) | (refine so_is (.call ⟨.value (.func 97), _, _⟩) ?_; (apply so_callO0 (fid := 97); (· (repeat (first | exact SeA.nil | apply SeA.cons (.c (.d _))))); (· exact toIntSS_z _ (by omega)); (· rfl); (· rfl))) | refine so_nil ?_ | refine sk_seq ?_ | refine sk_region (id := 0) ?_ | refine sk_region (id := 1) ?_ | refine sk_region (id := 2) ?_ | refine sk_region (id := 3) ?_ | (apply sk_pack 4 [1, 2, 3] [1, 2, 3] rfl; (· (repeat (first | exact Pf.nil | apply Pf.cons (.c rfl (.lp rfl))))); (· (repeat (first | exact Pb.nil | (apply Pb.cons; (· apply Nb.box rfl; (repeat (first | exact Ncs.nil rfl | (apply Ncs.cons rfl; (· (exact .d rfl)))))))))); refine sk_region (id := 4) ?_) | refine sk_region (id := 5) ?_ | refine sk_region (id := 6) ?_)
  · (apply sk_ret; apply ret_eq; (· apply RetOK.p; (· (apply GvA.cons; (· (apply RV.cellN (n := 4); (· rfl); (· rfl); (· kernel_rfl); (· rfl))); (· (apply GvP.g; (· (apply GvL.cons (.lit _)); (apply GvL.cons (.lit _)); (apply GvL.cons (.lit _)); ((apply GvL.cons (.row _ _ _ _ rfl (by ((simp; done)))))); exact GvL.nil)))); exact GvA.nil); (· (decide))))
    rfl

end Go.Proofs.Ytdihapcicpkdkaa

namespace Go.Proofs.Ytdihapcicpkdkaa
open Go.RowKit
set_option linter.unusedSectionVars false
variable [Glb]
set_option maxRecDepth 10000
set_option maxHeartbeats 4000000
theorem toScene_p (ev : Int) (cc : List (List Int)) (ss : List Int) (h : cc.length + cnt cc + ss.length ≤ 1048576) : PC Try.prog 120 [.g [dI ev, eII cc, eI ss]] (.p (.g [dI ev, eII cc, eI ss])) := by
  refine pc_intro Try.func120 rfl rfl rfl (by kernel_rfl) rfl rfl ?_; intro _
  repeat' (first | (refine so_is (.box 46 _) ?_; refine so_box rfl rfl ?_) | (refine so_is (.alloc 52) ?_; refine so_alloc (zs := [.int .i64 0, .slice none 0 0, .slice none 0 0]) (by kernel_rfl) rfl ?_) | (refine so_is (.fieldAddr 46 _ 0) ?_; (refine so_q (qt_fld_lp (off := 0) rfl (by kernel_rfl)) rfl ?_)) | (refine so_is (.load 3 _) ?_; (refine so_q (qt_load_box rfl rfl (by kernel_rfl) rfl) rfl ?_)) | (refine so_is (.fieldAddr 52 _ 0) ?_; (refine so_q (qt_fld_lp (off := 0) rfl (by kernel_rfl)) rfl ?_)) | (refine so_is (.store 3 _ _) ?_; (refine so_store_box1 rfl rfl rfl rfl (by kernel_rfl) rfl rfl ?_)) | (refine so_is (.fieldAddr 46 _ 1) ?_; (refine so_q (qt_fld_lp (off := 1) rfl (by kernel_rfl)) rfl ?_)) | (refine so_is (.load 22 _) ?_; (refine so_q (qt_load_box rfl rfl (by kernel_rfl) rfl) rfl ?_)) | (refine so_is (.fieldAddr 52 _ 1) ?_; (refine so_q (qt_fld_lp (off := 1) rfl (by kernel_rfl)) rfl ?_)) | (refine so_is (.store 22 _ _) ?_; (refine so_store_box1 rfl rfl rfl rfl (by kernel_rfl) rfl rfl ?_)) | (refine so_is (.fieldAddr 46 _ 2) ?_; (refine so_q (qt_fld_lp (off := 2) rfl (by kernel_rfl)) rfl ?_)) | (refine so_is (.load 26 _) ?_; (refine so_q (qt_load_box rfl rfl (by kernel_rfl) rfl) rfl ?_)) | (refine so_is (.fieldAddr 52 _ 2) ?_; (refine so_q (qt_fld_lp (off := 2) rfl (by kernel_rfl)) rfl ?_)) | (refine so_is (.store 26 _ _) ?_; (refine so_store_box1 rfl rfl rfl rfl (by kernel_rfl) rfl rfl ?_)) | (refine so_is (.load 52 _) ?_; (refine so_q (qt_load_boxs rfl rfl (by kernel_rfl : tAgg _ 52 3 = true) rfl) rfl ?_)) | (refine so_is (.store 52 _ _) ?_; (refine so_store_box rfl rfl rfl (by kernel_rfl) rfl rfl ?_)) | (refine so_is (.call ⟨.value (.func 97), _, _⟩) ?_; (apply so_callO0 (fid := 97); (· (repeat (first | exact SeA.nil | apply SeA.cons (.c (.d _))))); (· exact toIntSS_z _ (by omega)); (· rfl); (· rfl))) | (refine so_is (.call ⟨.value (.func 119), _, _⟩) ?_; (apply so_callO0 (fid := 119); (· (repeat (first | exact SeA.nil | apply SeA.cons (.c (.d _))))); (· exact toIntS_p _ (by omega)); (· rfl); (· rfl))) | refine so_nil ?_ | refine sk_seq ?_ | refine sk_region (id := 0) ?_ | refine sk_region (id := 1) ?_ | refine sk_region (id := 2) ?_ | refine sk_region (id := 3) ?_ | (apply sk_pack 4 [1, 2, 3] [1, 2, 3, 9] rfl; (· (repeat (first | exact Pf.nil | apply Pf.cons (.c rfl (.lp rfl))))); (· (repeat (first | exact Pb.nil | apply Pb.cons (.row rfl) | (apply Pb.cons; (· apply Nb.box rfl; (repeat (first | exact Ncs.nil rfl | (apply Ncs.cons rfl; (· (first | exact .d rfl | exact .ls rfl)))))))))); refine sk_region (id := 4) ?_) | refine sk_region (id := 5) ?_)
  · (apply sk_ret; apply ret_eq; (· apply RetOK.p; (· (apply GvA.cons; (· (apply RV.cellN (n := 3); (· rfl); (· rfl); (· kernel_rfl); (· rfl))); (· (apply GvP.g; (· (apply GvL.cons (.lit _)); ((apply GvL.cons (.row _ _ _ _ rfl (by ((simp; done)))))); ((apply GvL.cons (.row _ _ _ _ rfl (by ((simp; done)))))); exact GvL.nil)))); exact GvA.nil); (· (decide))))
    rfl

end Go.Proofs.Ytdihapcicpkdkaa

namespace Go.Proofs.Ytdihapcicpkdkaa
open Go.RowKit
set_option linter.unusedSectionVars false
variable [Glb]
set_option maxRecDepth 10000
set_option maxHeartbeats 4000000
theorem toHall_p (box : Int) (boy : Int) (bowh : Int) (boll : List (List Int)) (pl : List Int) (scev : Int) (sccc : List (List Int)) (scss : List Int) (nu : List Int) (co : Int) (h : boll.length + cnt boll + pl.length + sccc.length + cnt sccc + scss.length + nu.length ≤ 1048576) : PC Try.prog 27 [.g [dI box, dI boy, dI bowh, eII boll, eI pl, dI scev, eII sccc, eI scss, eI nu, dI co]] (.p (.g [dI box, dI boy, dI bowh, eII boll, eI pl, dI scev, eII sccc, eI scss, eI nu, dI co])) := by
  refine pc_intro Try.func27 rfl rfl rfl (by kernel_rfl) rfl rfl ?_; intro _
  repeat' (first | (refine so_is (.box 48 _) ?_; refine so_box rfl rfl ?_) | (refine so_is (.alloc 54) ?_; refine so_alloc (zs := [.int .i64 0, .int .i64 0, .int .i64 0, .slice none 0 0, .slice none 0 0, .int .i64 0, .slice none 0 0, .slice none 0 0, .slice none 0 0, .int .i64 0]) (by kernel_rfl) rfl ?_) | (refine so_is (.fieldAddr 48 _ 0) ?_; (refine so_q (qt_fld_lp (off := 0) rfl (by kernel_rfl)) rfl ?_)) | (refine so_is (.load 24 _) ?_; (refine so_q (qt_load_boxs rfl rfl (by kernel_rfl : tAgg _ 24 4 = true) rfl) rfl ?_)) | (refine so_is (.fieldAddr 54 _ 0) ?_; (refine so_q (qt_fld_lp (off := 0) rfl (by kernel_rfl)) rfl ?_)) | (refine so_is (.store 29 _ _) ?_; (refine so_store_box rfl rfl rfl (by kernel_rfl) rfl rfl ?_)) | (refine so_is (.fieldAddr 48 _ 1) ?_; (refine so_q (qt_fld_lp (off := 4) rfl (by kernel_rfl)) rfl ?_)) | (refine so_is (.load 26 _) ?_; (refine so_q (qt_load_box rfl rfl (by kernel_rfl) rfl) rfl ?_)) | (refine so_is (.fieldAddr 54 _ 1) ?_; (refine so_q (qt_fld_lp (off := 4) rfl (by kernel_rfl)) rfl ?_)) | (refine so_is (.store 26 _ _) ?_; (refine so_store_box1 rfl rfl rfl rfl (by kernel_rfl) rfl rfl ?_)) | (refine so_is (.fieldAddr 48 _ 2) ?_; (refine so_q (qt_fld_lp (off := 5) rfl (by kernel_rfl)) rfl ?_)) | (refine so_is (.load 46 _) ?_; (refine so_q (qt_load_boxs rfl rfl (by kernel_rfl : tAgg _ 46 3 = true) rfl) rfl ?_)) | (refine so_is (.fieldAddr 54 _ 2) ?_; (refine so_q (qt_fld_lp (off := 5) rfl (by kernel_rfl)) rfl ?_)) | (refine so_is (.store 52 _ _) ?_; (refine so_store_box rfl rfl rfl (by kernel_rfl) rfl rfl ?_)) | (refine so_is (.fieldAddr 48 _ 3) ?_; (refine so_q (qt_fld_lp (off := 8) rfl (by kernel_rfl)) rfl ?_)) | (refine so_is (.fieldAddr 54 _ 3) ?_; (refine so_q (qt_fld_lp (off := 8) rfl (by kernel_rfl)) rfl ?_)) | (refine so_is (.fieldAddr 48 _ 4) ?_; (refine so_q (qt_fld_lp (off := 9) rfl (by kernel_rfl)) rfl ?_)) | (refine so_is (.load 3 _) ?_; (refine so_q (qt_load_box rfl rfl (by kernel_rfl) rfl) rfl ?_)) | (refine so_is (.fieldAddr 54 _ 4) ?_; (refine so_q (qt_fld_lp (off := 9) rfl (by kernel_rfl)) rfl ?_)) | (refine so_is (.store 3 _ _) ?_; (refine so_store_box1 rfl rfl rfl rfl (by kernel_rfl) rfl rfl ?_)) | (refine so_is (.load 54 _) ?_; (refine so_q (qt_load_boxs rfl rfl (by kernel_rfl : tAgg _ 54 10 = true) rfl) rfl ?_)) | (refine so_is (.store 54 _ _) ?_; (refine so_store_box rfl rfl rfl (by kernel_rfl) rfl rfl ?_)) | (refine so_is (.call ⟨.value (.func 11), _, _⟩) ?_; (apply so_callO0 (fid := 11); (· (repeat (first | exact SeA.nil | (apply SeA.cons; (· (apply SeP.g; (repeat (first | exact SeL.nil | apply SeL.cons (.d _))))))))); (· exact toBox_p _ _ _ _ (by omega)); (· rfl); (· rfl))) | (refine so_is (.call ⟨.value (.func 119), _, _⟩) ?_; (apply so_callO0 (fid := 119); (· (repeat (first | exact SeA.nil | apply SeA.cons (.c (.d _))))); (· exact toIntS_p _ (by omega)); (· rfl); (· rfl))) | (refine so_is (.call ⟨.value (.func 120), _, _⟩) ?_; (apply so_callO0 (fid := 120); (· (repeat (first | exact SeA.nil | (apply SeA.cons; (· (apply SeP.g; (repeat (first | exact SeL.nil | apply SeL.cons (.d _))))))))); (· exact toScene_p _ _ _ (by omega)); (· rfl); (· rfl))) | refine so_nil ?_ | refine sk_seq ?_ | refine sk_region (id := 0) ?_ | refine sk_region (id := 1) ?_ | refine sk_region (id := 2) ?_ | (apply sk_pack 3 [1, 2, 3] [1, 2, 3, 3006] rfl; (· (repeat (first | exact Pf.nil | apply Pf.cons (.c rfl (.lp rfl))))); (· (repeat (first | exact Pb.nil | apply Pb.cons (.row rfl) | (apply Pb.cons; (· apply Nb.box rfl; (repeat (first | exact Ncs.nil rfl | (apply Ncs.cons rfl; (· (first | exact .d rfl | exact .ls rfl)))))))))); refine sk_region (id := 3) ?_) | refine sk_region (id := 4) ?_ | (apply sk_pack 5 [1, 2, 3] [1, 2, 3, 3006, 10, 1014, 2014] rfl; (· (repeat (first | exact Pf.nil | apply Pf.cons (.c rfl (.lp rfl))))); (· (repeat (first | exact Pb.nil | apply Pb.cons (.row rfl) | (apply Pb.cons; (· apply Nb.box rfl; (repeat (first | exact Ncs.nil rfl | (apply Ncs.cons rfl; (· (first | exact .d rfl | exact .ls rfl)))))))))); refine sk_region (id := 5) ?_) | refine sk_region (id := 6) ?_ | refine sk_region (id := 7) ?_)
  · (apply sk_ret; apply ret_eq; (· apply RetOK.p; (· (apply GvA.cons; (· (apply RV.cellN (n := 10); (· rfl); (· rfl); (· kernel_rfl); (· rfl))); (· (apply GvP.g; (· (apply GvL.cons (.lit _)); (apply GvL.cons (.lit _)); (apply GvL.cons (.lit _)); ((apply GvL.cons (.row _ _ _ _ rfl (by ((simp; done)))))); ((apply GvL.cons (.row _ _ _ _ rfl (by ((simp; done)))))); (apply GvL.cons (.lit _)); ((apply GvL.cons (.row _ _ _ _ rfl (by ((simp; done)))))); ((apply GvL.cons (.row _ _ _ _ rfl (by ((simp; done)))))); ((apply GvL.cons (.row _ _ _ _ rfl (by ((simp; done)))))); (apply GvL.cons (.lit _)); exact GvL.nil)))); exact GvA.nil); (· (decide))))
    rfl

end Go.Proofs.Ytdihapcicpkdkaa

namespace Go.Proofs.Ytdihapcicpkdkaa
open Go.RowKit
set_option linter.unusedSectionVars false
variable [Glb]
set_option maxRecDepth 10000
set_option maxHeartbeats 4000000
theorem l1In_p (n lo hi : Int) : PC Try.prog 166 [.c (dI n), .c (dI lo), .c (dI hi)] (.p (.c (dB (inB n lo hi)))) := by
  refine pc_intro Try.func166 rfl rfl rfl (by kernel_rfl) rfl rfl ?_; intro _
  repeat' (first | (refine so_is (.assign _) ?_; (refine so_q (qt_asC rfl) rfl ?_)) | (refine so_is (.move _) ?_; (refine so_q (qt_mvC rfl) rfl ?_)) | (refine so_is (.binOp .geq 3 _ _ _) ?_; refine so_q (qt_geq rfl rfl) rfl ?_) | (refine so_is (.binOp .leq 3 _ _ _) ?_; refine so_q (qt_leq rfl rfl) rfl ?_) | (refine so_is (.pick _ _ _) ?_; (refine so_q (qt_pkC rfl rfl) rfl ?_)) | refine so_nil ?_ | refine so_g_no rfl rfl rfl rfl ?_ | refine so_g_yes rfl rfl rfl rfl ?_ | refine so_g_if rfl rfl (fun hg => ?_) (fun hg => ?_) | refine sk_seq ?_ | refine sk_region ?_)
  all_goals ((apply sk_ret; apply ret_eq; (· apply RetOK.p; (· (apply GvA.cons; (· exact .tmp _); (· exact GvP.c (.lit _))); exact GvA.nil); (· (decide)))))
  all_goals (simp [dB, inB, *]; try omega)

end Go.Proofs.Ytdihapcicpkdkaa

namespace Go.Proofs.Ytdihapcicpkdkaa
open Go.RowKit
set_option linter.unusedSectionVars false
variable [Glb]
set_option maxRecDepth 10000
set_option maxHeartbeats 4000000
theorem l2Sizes_p (x y : Int) : PC Try.prog 196 [.c (dI x), .c (dI y)] (.p (.c (dB (sizeB x y)))) := by
  refine pc_intro Try.func196 rfl rfl rfl (by kernel_rfl) rfl rfl ?_; intro _
  repeat' (first | (refine so_is (.assign _) ?_; (refine so_q (qt_asC rfl) rfl ?_)) | (refine so_is (.move _) ?_; (refine so_q (qt_mvC rfl) rfl ?_)) | (refine so_is (.pick _ _ _) ?_; (refine so_q (qt_pkC rfl rfl) rfl ?_)) | (refine so_is (.call ⟨.value (.func 166), _, _⟩) ?_; (apply so_call0 (fid := 166); (· (repeat (first | exact SeA.nil | apply SeA.cons (.c (.d _))))); (· exact l1In_p _ _ _); (· rfl))) | refine so_nil ?_ | refine so_g_no rfl rfl rfl rfl ?_ | refine so_g_yes rfl rfl rfl rfl ?_ | refine so_g_b rfl rfl (fun hg => ?_) (fun hg => ?_) | refine sk_seq ?_ | refine sk_region ?_)
  all_goals (apply sk_ret; apply ret_eq; (· apply RetOK.p; (· (apply GvA.cons; (· exact .tmp _); (· exact GvP.c (.lit _))); exact GvA.nil); (· (decide))))
  all_goals ((simp_all [sizeB]; done))

end Go.Proofs.Ytdihapcicpkdkaa

namespace Go.Proofs.Ytdihapcicpkdkaa
open Go.RowKit
set_option linter.unusedSectionVars false
variable [Glb]
set_option maxRecDepth 10000
set_option maxHeartbeats 4000000
theorem l2Four_p (l : List Int) (n : Int) : PC Try.prog 197 [.c (eI l), .c (dI n)] (.p (.c (dB (row4B n l)))) := by
  refine pc_intro Try.func197 rfl rfl rfl (by kernel_rfl) rfl rfl ?_; rintro ⟨hl, -⟩
  have hl := hl.len
  repeat' (first | (refine so_is (.assign _) ?_; (refine so_q (qt_asC rfl) rfl ?_)) | refine so_nil ?_ | refine sk_seq ?_ | refine sk_block ?_ | refine sk_region ?_)
  apply sk_packC [0, 1, 5, 6] [] rfl; (· (repeat (first | exact Pf.nil | apply Pf.cons (.c rfl (.d rfl))))); (· (repeat (exact Pb.nil)))
  refine sk_loopL [0, 1] [] (fun k => [(6, iN k), (5, iZ (sum64 (l.take k)))]) (fun _ => []) (fun k => k ≤ l.length ∧ k ≤ 5 ∧ (l.take k).all (fun m => inB m 0 n) = true) (fun k => l.length - k) (0) ?_ (by (repeat (first | exact trivial | refine ⟨(by (rfl)), ?_⟩))) (by (repeat (exact trivial))) ?_
  · simp
  rintro k ⟨hk, hk9, ha⟩
  repeat' (first | (refine so_is (.assign _) ?_; (refine so_q (qt_asC rfl) rfl ?_)) | (refine so_is (.move _) ?_; (refine so_q (qt_mvC rfl) rfl ?_)) | (refine so_is (.call ⟨.builtin .len, _, #[26]⟩) ?_; (refine so_q (qt_len_d rfl (by kernel_rfl)) rfl ?_)) | (refine so_is (.binOp .lss 3 _ _ _) ?_; refine so_q (qt_lss rfl rfl) rfl ?_) | (refine so_is (.pick _ _ _) ?_; (refine so_q (qt_pkC rfl rfl) rfl ?_)) | (refine so_is (.indexAddr 26 _ _) ?_; (refine so_q (qt_idxI rfl rfl (by kernel_rfl) (by (omega)) (by (omega))) rfl ?_)) | (refine so_is (.load 3 _) ?_; (refine so_q (qt_load_pt rfl (by kernel_rfl) rfl) rfl ?_)) | (refine so_is (.unOp .not 4 _) ?_; refine so_q (qt_not rfl) rfl ?_) | (refine so_is (.binOp .add 3 _ _ _) ?_; (first | refine so_q (qt_addI rfl rfl (by (omega))) rfl ?_ | refine so_q (qt_add rfl rfl) rfl ?_)) | (refine so_is (.binOp .eql 3 _ _ _) ?_; refine so_q (qt_eql rfl rfl) rfl ?_) | (refine so_is (.call ⟨.value (.func 166), _, _⟩) ?_; (apply so_call0 (fid := 166); (· (repeat (first | exact SeA.nil | apply SeA.cons (.c (.d _))))); (· exact l1In_p _ _ _); (· rfl))) | refine so_nil ?_ | refine so_g_no rfl rfl rfl rfl ?_ | refine so_g_yes rfl rfl rfl rfl ?_ | refine so_g_if rfl rfl (fun hg => ?_) (fun hg => ?_) | refine sk_seq ?_ | refine sk_block ?_ | refine sk_blk ?_ | refine sk_exit rfl ?_ | refine sk_skip ?_ | refine sk_region ?_ | refine sk_false rfl ?_ | refine sk_if rfl (fun hc => ?_) (fun hc => ?_) | refine sk_not rfl (fun hc => ?_) (fun hc => ?_))
  · rename_i hk'
    have hk2 : k < l.length := by omega
    rw [atZ_nat hk2] at hc
    (apply sk_ret; apply ret_eq; (· apply RetOK.p; (· (apply GvA.cons; (· exact .tmp _); (· exact GvP.c (.lit _))); exact GvA.nil); (· (decide))))
    rw [row4B, allB, all_f hk2 hc]; simp
  · rename_i hk'
    have hk2 : k < l.length := by omega
    rw [atZ_nat hk2] at hc
    refine sk_back ?_; refine ⟨k + 1, ?_, ?_, le_at rfl (by (repeat (first | exact trivial | refine ⟨(by (first | rfl | (refine int_eq rfl ?_; ((simp  [sum64_snoc hk2, atZ_nat hk2]; done))))), ?_⟩))) (by (repeat (first | exact trivial | refine ⟨rfl, ?_⟩))) (by (repeat (exact trivial))) (by (repeat (exact trivial)))⟩
    · exact ⟨by omega, by omega, by rw [take_succ_all _ _ _ hk2, ha, hc]; rfl⟩
    · omega
  all_goals (apply sk_ret; apply ret_eq; (· apply RetOK.p; (· (apply GvA.cons; (· exact .tmp _); (· exact GvP.c (.lit _))); exact GvA.nil); (· (decide))))
  all_goals simp only [row4B]
  · have h8 : l.length = 4 := by omega
    rw [List.take_of_length_le (by omega)] at *
    simp [h8, allB, ha]
  · have h8 : ¬ l.length = 4 := by omega
    simp [h8]
  · have h8 : l.length = 4 := by omega
    have hk8 : k = l.length := by omega
    rw [List.take_of_length_le (by omega)] at *
    simp [h8, allB, ha]
  · have h8 : ¬ l.length = 4 := by omega
    simp [h8]
theorem l2Box_p (x y n : Int) (ll : List (List Int)) : PC Try.prog 109 [.g [dI x, dI y, dI n, eII ll]] (.p (.c (dB (boxB x y n ll)))) := by
  refine pc_intro Try.func109 rfl rfl rfl (by kernel_rfl) rfl rfl ?_; rintro ⟨hl, -⟩
  have hl := (hl _ (List.mem_cons_of_mem _ (List.mem_cons_of_mem _ (List.mem_cons_of_mem _ (List.mem_cons_self ..))))).len
  repeat' (first | (refine so_is (.box 29 _) ?_; refine so_box rfl rfl ?_) | (refine so_is (.assign _) ?_; (refine so_q (qt_asC rfl) rfl ?_)) | (refine so_is (.fieldAddr 29 _ 0) ?_; (refine so_q (qt_fld_lp (off := 0) rfl (by kernel_rfl)) rfl ?_)) | (refine so_is (.load 3 _) ?_; (refine so_q (qt_load_box rfl rfl (by kernel_rfl) rfl) rfl ?_)) | (refine so_is (.fieldAddr 29 _ 1) ?_; (refine so_q (qt_fld_lp (off := 1) rfl (by kernel_rfl)) rfl ?_)) | (refine so_is (.unOp .not 4 _) ?_; refine so_q (qt_not rfl) rfl ?_) | (refine so_is (.move _) ?_; (refine so_q (qt_mvC rfl) rfl ?_)) | (refine so_is (.fieldAddr 29 _ 2) ?_; (refine so_q (qt_fld_lp (off := 2) rfl (by kernel_rfl)) rfl ?_)) | (refine so_is (.pick _ _ _) ?_; (refine so_q (qt_pkC rfl rfl) rfl ?_)) | (refine so_is (.fieldAddr 29 _ 3) ?_; (refine so_q (qt_fld_lp (off := 3) rfl (by kernel_rfl)) rfl ?_)) | (refine so_is (.load 22 _) ?_; (refine so_q (qt_load_box rfl rfl (by kernel_rfl) rfl) rfl ?_)) | (refine so_is (.call ⟨.builtin .len, _, #[22]⟩) ?_; (refine so_q (qt_len_d rfl (by kernel_rfl)) rfl ?_)) | (refine so_is (.binOp .mul 3 _ _ _) ?_; (refine so_q (qt_mul rfl rfl) rfl ?_)) | (refine so_is (.binOp .neq 3 _ _ _) ?_; refine so_q (qt_neq rfl rfl) rfl ?_) | (refine so_is (.call ⟨.value (.func 196), _, _⟩) ?_; (apply so_call0 (fid := 196); (· (repeat (first | exact SeA.nil | apply SeA.cons (.c (.d _))))); (· exact l2Sizes_p _ _); (· rfl))) | (refine so_is (.call ⟨.value (.func 166), _, _⟩) ?_; (apply so_call0 (fid := 166); (· (repeat (first | exact SeA.nil | apply SeA.cons (.c (.d _))))); (· exact l1In_p _ _ _); (· rfl))) | refine so_nil ?_ | refine so_g_no rfl rfl rfl rfl ?_ | refine so_g_yes rfl rfl rfl rfl ?_ | refine so_g_b rfl rfl (fun hg => ?_) (fun hg => ?_) | refine sk_seq ?_ | refine sk_block ?_ | refine sk_skip ?_ | refine sk_region ?_ | refine sk_true rfl ?_ | refine sk_if rfl (fun hc => ?_) (fun hc => ?_))
  · (apply sk_ret; apply ret_eq; (· apply RetOK.p; (· (apply GvA.cons; (· exact .tmp _); (· exact GvP.c (.lit _))); exact GvA.nil); (· (decide))))
    have h9 : sizeB x y = false := by simpa using hg
    simp [boxB, h9]
  · (apply sk_ret; apply ret_eq; (· apply RetOK.p; (· (apply GvA.cons; (· exact .tmp _); (· exact GvP.c (.lit _))); exact GvA.nil); (· (decide))))
    have h9 : inB n 1 1000 = false := by simpa using hg
    simp [boxB, h9]
  · (apply sk_ret; apply ret_eq; (· apply RetOK.p; (· (apply GvA.cons; (· exact .tmp _); (· exact GvP.c (.lit _))); exact GvA.nil); (· (decide))))
    have hs : sizeB x y = true := by simp_all
    rw [wrap_mul3 hs] at hc
    have h3 : ¬ (ll.length : Int) = x * y := by omega
    simp [boxB, h3]
  have hs : sizeB x y = true := by simp_all
  have hn : inB n 1 1000 = true := by simp_all
  have hlen : (ll.length : Int) = x * y := by rw [← wrap_mul3 hs]; omega
  apply sk_packC [1, 3] [1] rfl; (· (repeat (first | exact Pf.nil | apply Pf.cons (.c rfl (.d rfl)) | apply Pf.cons (.c rfl (.lp rfl))))); (· (repeat (first | exact Pb.nil | (apply Pb.cons; (· apply Nb.box rfl; (repeat (first | exact Ncs.nil rfl | (apply Ncs.cons rfl; (· (exact .d rfl))))))))))
  refine sk_loopL [1] [1] (fun k => [(3, iN k)]) (fun _ => []) (fun k => k ≤ ll.length ∧ (ll.take k).all (row4B n) = true) (fun k => ll.length - k) (0) ?_ (by (repeat (first | exact trivial | refine ⟨(by (rfl)), ?_⟩))) (by (repeat (exact trivial))) ?_
  · simp
  rintro k ⟨hk, ha⟩
  repeat' (first | (refine so_is (.assign _) ?_; (refine so_q (qt_asC rfl) rfl ?_)) | (refine so_is (.load 3 _) ?_; (refine so_q (qt_load_box rfl rfl (by kernel_rfl) rfl) rfl ?_)) | (refine so_is (.unOp .not 4 _) ?_; refine so_q (qt_not rfl) rfl ?_) | (refine so_is (.move _) ?_; (refine so_q (qt_mvC rfl) rfl ?_)) | (refine so_is (.fieldAddr 29 _ 2) ?_; (refine so_q (qt_fld_lp (off := 2) rfl (by kernel_rfl)) rfl ?_)) | (refine so_is (.fieldAddr 29 _ 3) ?_; (refine so_q (qt_fld_lp (off := 3) rfl (by kernel_rfl)) rfl ?_)) | (refine so_is (.load 22 _) ?_; (refine so_q (qt_load_box rfl rfl (by kernel_rfl) rfl) rfl ?_)) | (refine so_is (.call ⟨.builtin .len, _, #[22]⟩) ?_; (refine so_q (qt_len_d rfl (by kernel_rfl)) rfl ?_)) | (refine so_is (.binOp .lss 3 _ _ _) ?_; refine so_q (qt_lss rfl rfl) rfl ?_) | (refine so_is (.indexAddr 22 _ _) ?_; (refine so_q (qt_idxII rfl rfl (by kernel_rfl) (by (omega)) (by (omega))) rfl ?_)) | (refine so_is (.load 26 _) ?_; (refine so_q (qt_load_pt rfl (by kernel_rfl) rfl) rfl ?_)) | (refine so_is (.binOp .add 3 _ _ _) ?_; refine so_q (qt_addI rfl rfl (by (omega))) rfl ?_) | (refine so_is (.call ⟨.value (.func 197), _, _⟩) ?_; (apply so_call0 (fid := 197); (· (repeat (first | exact SeA.nil | apply SeA.cons (.c (.d _))))); (· exact l2Four_p _ _); (· rfl))) | refine so_nil ?_ | refine sk_seq ?_ | refine sk_block ?_ | refine sk_blk ?_ | refine sk_exit rfl ?_ | refine sk_skip ?_ | refine sk_region ?_ | refine sk_drawQ 6 (fun _ => false) (.step 0 true (.step 1 true (.step 2 true (.step 3 true (.step 4 true (.step 5 true (.step 6 true (.step 7 false (.step 8 true .nil))))))))) [(0, 511, 511, true), (1, 510, 511, false), (0, 511, 511, true), (6, 505, 511, true), (8, 503, 511, false), (0, 511, 511, true), (32, 479, 511, false), (80, 431, 511, false), (128, 383, 511, true)] (by kernel_rfl) (by kernel_rfl) ?_ | refine sk_if rfl (fun hc => ?_) (fun hc => ?_) | refine sk_not rfl (fun hc => ?_) (fun hc => ?_))
  · have hk2 : k < ll.length := by omega
    rw [atZ_nat hk2] at hc
    (apply sk_ret; apply ret_eq; (· apply RetOK.p; (· (apply GvA.cons; (· exact .tmp _); (· exact GvP.c (.lit _))); exact GvA.nil); (· (decide))))
    rw [boxB, all_f hk2 hc]; simp
  · have hk2 : k < ll.length := by omega
    rw [atZ_nat hk2] at hc
    refine sk_back ?_; refine ⟨k + 1, ?_, ?_, le_at rfl (by (repeat (first | exact trivial | refine ⟨(by (rfl)), ?_⟩))) (by (repeat (first | exact trivial | refine ⟨rfl, ?_⟩))) (by (repeat (exact trivial))) (by (repeat (first | exact trivial | refine ⟨.inr rfl, ?_⟩)))⟩
    · exact ⟨by omega, by rw [take_succ_all _ _ _ hk2, ha, hc]; rfl⟩
    · omega
  · have : k = ll.length := by omega
    subst this
    rw [List.take_length] at ha
    (apply sk_ret; apply ret_eq; (· apply RetOK.p; (· (apply GvA.cons; (· exact .tmp _); (· exact GvP.c (.lit _))); exact GvA.nil); (· (decide))))
    simp [boxB, hs, hn, hlen, ha]

end Go.Proofs.Ytdihapcicpkdkaa

namespace Go.Proofs.Ytdihapcicpkdkaa
open Go.RowKit
set_option linter.unusedSectionVars false
variable [Glb]
set_option maxRecDepth 10000
set_option maxHeartbeats 4000000
theorem l2Same_p (x y n : Int) (la : List (List Int)) (x2 y2 m : Int) (lb : List (List Int)) : PC Try.prog 274 [.g [dI x, dI y, dI n, eII la], .g [dI x2, dI y2, dI m, eII lb]] (.p (.c (dB (sameB x y n la x2 y2 m lb)))) := by
  refine pc_intro Try.func274 rfl rfl rfl (by kernel_rfl) rfl rfl ?_; intro _
  repeat' (first | (refine so_is (.box 29 _) ?_; refine so_box rfl rfl ?_) | (refine so_is (.assign _) ?_; (refine so_q (qt_asC rfl) rfl ?_)) | (refine so_is (.load 29 _) ?_; (refine so_q (qt_load_boxs rfl rfl (by kernel_rfl : tAgg _ 29 4 = true) rfl) rfl ?_)) | (refine so_is (.move _) ?_; (refine so_q (qt_mvC rfl) rfl ?_)) | (refine so_is (.pick _ _ _) ?_; (refine so_q (qt_pkC rfl rfl) rfl ?_)) | (refine so_is (.fieldAddr 29 _ 0) ?_; (refine so_q (qt_fld_lp (off := 0) rfl (by kernel_rfl)) rfl ?_)) | (refine so_is (.load 3 _) ?_; (refine so_q (qt_load_box rfl rfl (by kernel_rfl) rfl) rfl ?_)) | (refine so_is (.binOp .eql 3 _ _ _) ?_; refine so_q (qt_eql rfl rfl) rfl ?_) | (refine so_is (.fieldAddr 29 _ 1) ?_; (refine so_q (qt_fld_lp (off := 1) rfl (by kernel_rfl)) rfl ?_)) | (refine so_is (.call ⟨.value (.func 109), _, _⟩) ?_; (apply so_call0 (fid := 109); (· (repeat (first | exact SeA.nil | (apply SeA.cons; (· (apply SeP.g; (repeat (first | exact SeL.nil | apply SeL.cons (.d _))))))))); (· exact l2Box_p _ _ _ _); (· rfl))) | refine so_nil ?_ | refine so_g_no rfl rfl rfl rfl ?_ | refine so_g_yes rfl rfl rfl rfl ?_ | refine so_g_if rfl rfl (fun hg => ?_) (fun hg => ?_) | refine so_g_b rfl rfl (fun hg => ?_) (fun hg => ?_) | refine sk_seq ?_ | refine sk_region ?_)
  all_goals (apply sk_ret; apply ret_eq; (· apply RetOK.p; (· (apply GvA.cons; (· exact .tmp _); (· exact GvP.c (.lit _))); exact GvA.nil); (· (decide))))
  all_goals simp_all [sameB]
theorem l2Kept_t (x y n : Int) (ll : List (List Int)) : PT Try.prog 270 [.g [dI x, dI y, dI n, eII ll]] (.t [.g [dI (whenN (boxB x y n ll) x), dI (whenN (boxB x y n ll) y), dI (whenN (boxB x y n ll) n), eII (whenL (boxB x y n ll) ll)], .c (dB (boxB x y n ll))]) := by
  cases h : boxB x y n ll
  all_goals
    refine pt_intro Try.func270 rfl rfl rfl (by kernel_rfl) rfl rfl ?_; intro _
    repeat' (first | (refine so_is (.box 29 _) ?_; refine so_box rfl rfl ?_) | (refine so_is (.alloc 29) ?_; refine so_alloc (zs := [.int .i64 0, .int .i64 0, .int .i64 0, .slice none 0 0]) (by kernel_rfl) rfl ?_) | (refine so_is (.assign _) ?_; (refine so_q (qt_asC rfl) rfl ?_)) | (refine so_is (.load 29 _) ?_; (refine so_q (qt_load_boxs rfl rfl (by kernel_rfl : tAgg _ 29 4 = true) rfl) rfl ?_)) | (refine so_is (.unOp .not 4 _) ?_; refine so_q (qt_not rfl) rfl ?_) | (refine so_is (.build 29 _) ?_; refine so_q (qt_build (cs := [_, _, _, _]) [(0, 1), (1, 1), (2, 1), (3, 1)] [.int .i64 0, .int .i64 0, .int .i64 0, .slice none 0 0] (by kernel_rfl) (by kernel_rfl) rfl) rfl ?_) | (refine so_is (.store 29 _ _) ?_; (refine so_store_box rfl rfl rfl (by kernel_rfl) rfl rfl ?_)) | (refine so_is (.call ⟨.value (.func 109), _, _⟩) ?_; (apply so_call0 (fid := 109); (· (repeat (first | exact SeA.nil | (apply SeA.cons; (· (apply SeP.g; (repeat (first | exact SeL.nil | apply SeL.cons (.d _) | apply SeL.cons (.all _ _ _ _ rfl (by ((simp; done)))))))))))); (· exact l2Box_p _ _ _ _); (· rfl))) | refine so_nil ?_ | refine sk_seq ?_ | refine sk_skip ?_ | refine sk_region ?_ | refine sk_not rfl (fun hc => ?_) (fun hc => ?_))
    all_goals first | (exfalso; simp_all; done) | skip
    all_goals (apply sk_ret; apply ret_eq; (· apply RetOK.t; (· (apply GvA.cons; (· (apply RV.cellN (n := 4); (· rfl); (· rfl); (· kernel_rfl); (· rfl))); (· (apply GvP.g; (· (apply GvL.cons (.lit _)); (apply GvL.cons (.lit _)); (apply GvL.cons (.lit _)); ((first | apply GvL.cons (.nil 1 (by decide)) | apply GvL.cons (.row _ _ _ _ rfl (by ((simp; done)))))); exact GvL.nil)))); (apply GvA.cons; (· exact .tmp _); (· exact GvP.c (.lit _))); exact GvA.nil); (· rfl); (· (decide))))
    all_goals simp [whenN, whenL]
theorem l2Mix_p (x y : Nat) (n m : Int) (la lb : List (List Int)) (ha : boxB x y n la = true) (hb : boxB x y m lb = true) : PC Try.prog 108 [.g [dI x, dI y, dI n, eII la], .g [dI x, dI y, dI m, eII lb]] (.p (.g [dI x, dI y, dI (n + m), eII (bmixL la lb x y)])) := by
  have a := boxB_spec ha; have b := boxB_spec hb
  have a1 := a.x1; have a2 := a.x3; have a3 := a.y1; have a4 := a.y3; have a5 := a.n1; have a6 := a.n2; have b5 := b.n1; have b6 := b.n2; have al := a.len; have bl := b.len
  have hxy : y * x ≤ 3 * 3 := Nat.mul_le_mul (by omega) (by omega)
  have hxe : ((y * x : Nat) : Int) = (x : Int) * y := by rw [Int.natCast_mul, Int.mul_comm]
  rw [bmixL_rows]
  refine pc_intro Try.func108 rfl rfl rfl (by kernel_rfl) rfl rfl ?_; intro _
  repeat' (first | (refine so_is (.box 29 _) ?_; refine so_box rfl rfl ?_) | (refine so_is (.alloc 29) ?_; refine so_alloc (zs := [.int .i64 0, .int .i64 0, .int .i64 0, .slice none 0 0]) (by kernel_rfl) rfl ?_) | (refine so_is (.fieldAddr 29 _ 0) ?_; (refine so_q (qt_fld_lp (off := 0) rfl (by kernel_rfl)) rfl ?_)) | (refine so_is (.load 3 _) ?_; (refine so_q (qt_load_box rfl rfl (by kernel_rfl) rfl) rfl ?_)) | (refine so_is (.fieldAddr 29 _ 1) ?_; (refine so_q (qt_fld_lp (off := 1) rfl (by kernel_rfl)) rfl ?_)) | (refine so_is (.fieldAddr 29 _ 2) ?_; (refine so_q (qt_fld_lp (off := 2) rfl (by kernel_rfl)) rfl ?_)) | (refine so_is (.binOp .add 3 _ _ _) ?_; refine so_q (qt_addI rfl rfl (by (omega))) rfl ?_) | (refine so_is (.buildSlice 22 0 _) ?_; (apply so_bslice (sz := 1) (by_ := 24); (· kernel_rfl); (· decide); (· (repeat (exact GvS.nil _))); (· (decide)); (· rfl); (· rfl); (· rfl))) | (refine so_is (.build 29 _) ?_; refine so_q (qt_build (cs := [_, _, _, _]) [(0, 1), (1, 1), (2, 1), (3, 1)] [.int .i64 0, .int .i64 0, .int .i64 0, .slice none 0 0] (by kernel_rfl) (by kernel_rfl) rfl) rfl ?_) | (refine so_is (.store 29 _ _) ?_; (refine so_store_box rfl rfl rfl (by kernel_rfl) rfl rfl ?_)) | (refine so_is (.assign _) ?_; (refine so_q (qt_asC rfl) rfl ?_)) | refine so_nil ?_ | refine sk_seq ?_ | refine sk_block ?_ | refine sk_region ?_)
  apply sk_packC [2, 3, 4, 5, 6] [2, 3, 4, 5, 18, 27, 50, 51, 55, 56] rfl; (· (repeat (first | exact Pf.nil | apply Pf.cons (.c rfl (.d rfl)) | apply Pf.cons (.c rfl (.lp rfl))))); (· (repeat (first | exact Pb.nil | apply Pb.cons (.row rfl) | (apply Pb.cons; (· apply Nb.box rfl; (repeat (first | exact Ncs.nil rfl | (apply Ncs.cons rfl; (· (first | exact .d rfl | exact .ls rfl))))))) | apply Pb.skip)))
  refine sk_loopL [2, 3, 4, 5] [2, 3, 4, 27, 50, 51, 55, 56] (fun i => [(6, iN i)]) (fun i => [(5, .box [.d (dI x), .d (dI y), .d (dI (n + m)), .ls 18 1 0 i]), (18, .row 1 (cII (rowsF (mixR la lb) i)))]) (fun i => i ≤ y * x) (fun i => y * x - i) (0) ?_ (by (repeat (first | exact trivial | refine ⟨(by (rfl)), ?_⟩))) (by (repeat (first | exact trivial | refine ⟨(by (first | (refine row_eq rfl ?_; simp  [rowsF]; done) | (refine box_eq rfl ?_; simp  [rowsF]; done))), ?_⟩))) ?_
  · omega
  intro i hi
  by_cases h : i < y * x
  · obtain ⟨r1, r2⟩ := boxB_at ha (q := (i : Int)) (by omega) (by omega)
    obtain ⟨s1, s2⟩ := boxB_at hb (q := (i : Int)) (by omega) (by omega)
    repeat' (first | (refine so_is (.store 29 _ _) ?_; (refine so_store_box rfl rfl rfl (by kernel_rfl) rfl rfl ?_)) | (refine so_is (.assign _) ?_; (refine so_q (qt_asC rfl) rfl ?_)) | (refine so_is (.move _) ?_; (refine so_q (qt_mvC rfl) rfl ?_)) | (refine so_is (.fieldAddr 29 _ 3) ?_; (refine so_q (qt_fld_lp (off := 3) rfl (by kernel_rfl)) rfl ?_)) | (refine so_is (.load 22 _) ?_; (refine so_q (qt_load_box rfl rfl (by kernel_rfl) rfl) rfl ?_)) | (refine so_is (.call ⟨.builtin .len, _, #[22]⟩) ?_; (refine so_q (qt_len_d rfl (by kernel_rfl)) rfl ?_)) | (refine so_is (.binOp .lss 3 _ _ _) ?_; refine so_q (qt_lss rfl rfl) rfl ?_) | (refine so_is (.buildSlice 26 0 _) ?_; (apply so_bslice (sz := 1) (by_ := 8); (· kernel_rfl); (· decide); (· (repeat (exact GvS.nil _))); (· (decide)); (· rfl); (· rfl); (· rfl))) | (refine so_is (.load 29 _) ?_; (refine so_q (qt_load_boxs rfl rfl (by kernel_rfl : tAgg _ 29 4 = true) rfl) rfl ?_)) | refine so_nil ?_ | refine sk_seq ?_ | refine sk_block ?_ | refine sk_exit rfl ?_ | refine sk_skip ?_ | refine sk_region ?_ | refine sk_if rfl (fun hc => ?_) (fun hc => ?_))
    all_goals first | (exfalso; omega) | skip
    apply sk_packC [2, 3, 4, 5, 6, 7, 8] [2, 3, 4, 5, 18, 27, 50, 51, 55, 56] rfl; (· (repeat (first | exact Pf.nil | apply Pf.cons (.c rfl (.d rfl)) | apply Pf.cons (.c rfl (.ls rfl)) | apply Pf.cons (.c rfl (.lp rfl))))); (· (repeat (first | exact Pb.nil | apply Pb.cons (.row rfl) | (apply Pb.cons; (· apply Nb.box rfl; (repeat (first | exact Ncs.nil rfl | (apply Ncs.cons rfl; (· (first | exact .d rfl | exact .ls rfl))))))) | apply Pb.skip)))
    refine sk_loopL [2, 3, 4, 5, 6] [2, 3, 4, 18, 5, 50, 51, 55, 56] (fun k => [(8, iN k), (7, .c (.ls 27 1 0 k))]) (fun k => [(27, .row 1 (cI (rowF (mixR la lb i) k)))]) (fun k => k ≤ 4) (fun k => 4 - k) (0) ?_ (by (repeat (first | exact trivial | refine ⟨(by (rfl)), ?_⟩))) (by (repeat (first | exact trivial | refine ⟨(by (rfl)), ?_⟩))) ?_
    · omega
    intro k hk
    by_cases hk4 : k < 4
    · have v1 := r2 k (by omega) (by omega)
      have v2 := s2 k (by omega) (by omega)
      repeat' (first | (refine so_is (.load 3 _) ?_; (refine so_q (qt_load_pt rfl (by kernel_rfl) rfl) rfl ?_)) | (refine so_is (.binOp .add 3 _ _ _) ?_; refine so_q (qt_addI rfl rfl (by (omega))) rfl ?_) | (refine so_is (.assign _) ?_; (refine so_q (qt_asC rfl) rfl ?_)) | (refine so_is (.move _) ?_; (refine so_q (qt_mvC rfl) rfl ?_)) | (refine so_is (.fieldAddr 29 _ 3) ?_; (refine so_q (qt_fld_lp (off := 3) rfl (by kernel_rfl)) rfl ?_)) | (refine so_is (.load 22 _) ?_; (refine so_q (qt_load_box rfl rfl (by kernel_rfl) rfl) rfl ?_)) | (refine so_is (.binOp .lss 3 _ _ _) ?_; refine so_q (qt_lss rfl rfl) rfl ?_) | (refine so_is (.indexAddr 22 _ _) ?_; (refine so_q (qt_idxII rfl rfl (by kernel_rfl) (by (omega)) (by (omega))) rfl ?_)) | (refine so_is (.load 26 _) ?_; (refine so_q (qt_load_pt rfl (by kernel_rfl) rfl) rfl ?_)) | (refine so_is (.indexAddr 26 _ _) ?_; (refine so_q (qt_idxI rfl rfl (by kernel_rfl) (by (omega)) (by (omega))) rfl ?_)) | (refine so_is (.buildSlice 26 1 _) ?_; (apply so_bslice (sz := 1) (by_ := 8); (· kernel_rfl); (· decide); (· (repeat (first | exact GvS.nil _ | apply GvS.c rfl rfl (.lit _) rfl))); (· (decide)); (· rfl); (· rfl); (· rfl))) | (refine so_is (.call ⟨.builtin .append, _, #[26, 26]⟩) ?_; ((apply so_appR (sz := 1) (by_ := 8); (· rfl); (· rfl); (· ((simp; done))); (· exact .row _ _ _ _ rfl (by ((simp; done)))); (· (decide)); (· kernel_rfl); (· decide); (· (omega)); (· (omega)); (· rfl); (· rfl); (· rfl)))) | (refine so_is (.buildSlice 22 1 _) ?_; (apply so_bslice (sz := 1) (by_ := 24); (· kernel_rfl); (· decide); (· (repeat (first | exact GvS.nil _ | apply GvS.c rfl rfl (.row _ _ _ _ rfl (by ((simp; done)))) rfl))); (· (decide)); (· rfl); (· rfl); (· rfl))) | (refine so_is (.call ⟨.builtin .append, _, #[22, 22]⟩) ?_; ((apply so_appR (sz := 1) (by_ := 24); (· rfl); (· rfl); (· ((simp; done))); (· exact .row _ _ _ _ rfl (by ((simp; done)))); (· (decide)); (· kernel_rfl); (· decide); (· (omega)); (· (omega)); (· rfl); (· rfl); (· rfl)))) | (refine so_is (.store 22 _ _) ?_; (refine so_store_box1 rfl rfl rfl rfl (by kernel_rfl) rfl rfl ?_)) | refine so_nil ?_ | refine sk_seq ?_ | refine sk_block ?_ | refine sk_blk ?_ | refine sk_exit rfl ?_ | refine sk_skip ?_ | refine sk_region ?_ | refine sk_drawQ 9 (fun i => i == 19) (.step 0 true (.step 1 true (.step 2 true (.step 3 true (.step 4 true (.step 5 true (.step 6 true (.step 7 true (.step 8 true (.step 9 true (.step 10 true (.step 11 true (.step 12 true (.step 13 true (.step 14 true (.step 15 true (.step 16 true (.step 17 true (.step 18 false (.step 19 false (.step 20 true .nil))))))))))))))))))))) [(0, 2097151, 2097151, true), (0, 2097151, 2097151, true), (2, 2097149, 2097151, false), (0, 2097151, 2097151, true), (12, 2097139, 2097151, true), (16, 2097135, 2097151, false), (0, 2097151, 2097151, true), (96, 2097055, 2097151, true), (128, 2097023, 2097151, false), (0, 2097151, 2097151, true), (512, 2096639, 2097151, false), (0, 2097151, 2097151, true), (3072, 2094079, 2097151, true), (4096, 2093055, 2097151, false), (0, 2097151, 2097151, true), (24576, 2072575, 2097151, true), (32768, 2064383, 2097151, false), (65792, 2031359, 2097151, true), (131072, 1966079, 2097151, false), (262145, 1835006, 2097151, false), (1048575, 1572862, 1572863, true)] (by kernel_rfl) (by kernel_rfl) ?_ | refine sk_if rfl (fun hc => ?_) (fun hc => ?_))
      all_goals first | (exfalso; omega) | skip
      refine sk_back ?_; refine ⟨k + 1, ?_, ?_, le_at rfl (by (repeat (first | exact trivial | refine ⟨(by (rfl)), ?_⟩))) (by (repeat (first | exact trivial | refine ⟨rfl, ?_⟩))) (by (repeat (first | exact trivial | refine ⟨(by ((refine row_eq rfl ?_; simp  [rowF_snoc, mixR]; done))), ?_⟩))) (by (repeat (first | exact trivial | refine ⟨.inr rfl, ?_⟩)))⟩
      · omega
      · omega
    · have e : k = 4 := by omega
      subst e
      repeat' (first | (refine so_is (.binOp .add 3 _ _ _) ?_; refine so_q (qt_addI rfl rfl (by (omega))) rfl ?_) | (refine so_is (.assign _) ?_; (refine so_q (qt_asC rfl) rfl ?_)) | (refine so_is (.move _) ?_; (refine so_q (qt_mvC rfl) rfl ?_)) | (refine so_is (.fieldAddr 29 _ 3) ?_; (refine so_q (qt_fld_lp (off := 3) rfl (by kernel_rfl)) rfl ?_)) | (refine so_is (.load 22 _) ?_; (refine so_q (qt_load_box rfl rfl (by kernel_rfl) rfl) rfl ?_)) | (refine so_is (.binOp .lss 3 _ _ _) ?_; refine so_q (qt_lss rfl rfl) rfl ?_) | (refine so_is (.buildSlice 22 1 _) ?_; (apply so_bslice (sz := 1) (by_ := 24); (· kernel_rfl); (· decide); (· (repeat (first | exact GvS.nil _ | apply GvS.c rfl rfl (.row _ _ _ _ rfl (by ((simp; done)))) rfl))); (· (decide)); (· rfl); (· rfl); (· rfl))) | (refine so_is (.call ⟨.builtin .append, _, #[22, 22]⟩) ?_; ((apply so_appR (sz := 1) (by_ := 24); (· rfl); (· rfl); (· ((simp; done))); (· exact .row _ _ _ _ rfl (by ((simp; done)))); (· (decide)); (· kernel_rfl); (· decide); (· (omega)); (· (omega)); (· rfl); (· rfl); (· rfl)))) | (refine so_is (.store 22 _ _) ?_; (refine so_store_box1 rfl rfl rfl rfl (by kernel_rfl) rfl rfl ?_)) | refine so_nil ?_ | refine sk_seq ?_ | refine sk_blk ?_ | refine sk_exit rfl ?_ | refine sk_region ?_ | refine sk_false rfl ?_)
      all_goals first | (exfalso; omega) | skip
      refine sk_back ?_; refine ⟨i + 1, ?_, ?_, le_at rfl (by (repeat (first | exact trivial | refine ⟨(by (rfl)), ?_⟩))) (by (repeat (first | exact trivial | refine ⟨rfl, ?_⟩))) (by (repeat (first | exact trivial | refine ⟨(by (first | (refine row_eq rfl ?_; simp  [rowsF_snoc]; done) | rfl)), ?_⟩))) (by (repeat (first | exact trivial | refine ⟨.inr rfl, ?_⟩)))⟩
      · omega
      · omega
  · have e : i = y * x := by omega
    subst e
    repeat' (first | (refine so_is (.store 29 _ _) ?_; (refine so_store_box rfl rfl rfl (by kernel_rfl) rfl rfl ?_)) | (refine so_is (.assign _) ?_; (refine so_q (qt_asC rfl) rfl ?_)) | (refine so_is (.move _) ?_; (refine so_q (qt_mvC rfl) rfl ?_)) | (refine so_is (.fieldAddr 29 _ 3) ?_; (refine so_q (qt_fld_lp (off := 3) rfl (by kernel_rfl)) rfl ?_)) | (refine so_is (.load 22 _) ?_; (refine so_q (qt_load_box rfl rfl (by kernel_rfl) rfl) rfl ?_)) | (refine so_is (.call ⟨.builtin .len, _, #[22]⟩) ?_; (refine so_q (qt_len_d rfl (by kernel_rfl)) rfl ?_)) | (refine so_is (.binOp .lss 3 _ _ _) ?_; refine so_q (qt_lss rfl rfl) rfl ?_) | (refine so_is (.buildSlice 26 0 _) ?_; (apply so_bslice (sz := 1) (by_ := 8); (· kernel_rfl); (· decide); (· (repeat (exact GvS.nil _))); (· (decide)); (· rfl); (· rfl); (· rfl))) | (refine so_is (.load 29 _) ?_; (refine so_q (qt_load_boxs rfl rfl (by kernel_rfl : tAgg _ 29 4 = true) rfl) rfl ?_)) | refine so_nil ?_ | refine sk_seq ?_ | refine sk_block ?_ | refine sk_exit rfl ?_ | refine sk_skip ?_ | refine sk_region ?_ | refine sk_if rfl (fun hc => ?_) (fun hc => ?_))
    all_goals first | (exfalso; omega) | skip
    (apply sk_ret; apply ret_eq; (· apply RetOK.p; (· (apply GvA.cons; (· (apply RV.cellN (n := 4); (· rfl); (· rfl); (· kernel_rfl); (· rfl))); (· (apply GvP.g; (· (apply GvL.cons (.lit _)); (apply GvL.cons (.lit _)); (apply GvL.cons (.lit _)); ((apply GvL.cons (.row _ _ _ _ rfl (by ((simp; done)))))); exact GvL.nil)))); exact GvA.nil); (· (decide))))
    simp
theorem spMixBoxes_p (x y n : Int) (la : List (List Int)) (x2 y2 m : Int) (lb : List (List Int)) : PC Try.prog 262 [.g [dI x, dI y, dI n, eII la], .g [dI x2, dI y2, dI m, eII lb]]
    (.t [.g [dI (whenN (bmixB x y n la x2 y2 m lb) x), dI (whenN (bmixB x y n la x2 y2 m lb) y), dI (whenN (bmixB x y n la x2 y2 m lb) (n + m)), eII (whenL (bmixB x y n la x2 y2 m lb) (bmixL la lb x y))], .c (dB (bmixB x y n la x2 y2 m lb))]) := by
  cases hs : sameB x y n la x2 y2 m lb with
  | false =>
    have hB : bmixB x y n la x2 y2 m lb = false := by simp [bmixB, hs]
    rw [hB]
    refine pc_intro Try.func262 rfl rfl rfl (by kernel_rfl) rfl rfl ?_; intro _
    repeat' (first | (refine so_is (.box 29 _) ?_; refine so_box rfl rfl ?_) | (refine so_is (.alloc 29) ?_; refine so_alloc (zs := [.int .i64 0, .int .i64 0, .int .i64 0, .slice none 0 0]) (by kernel_rfl) rfl ?_) | (refine so_is (.assign _) ?_; (refine so_q (qt_asC rfl) rfl ?_)) | (refine so_is (.load 29 _) ?_; (refine so_q (qt_load_boxs rfl rfl (by kernel_rfl : tAgg _ 29 4 = true) rfl) rfl ?_)) | (refine so_is (.unOp .not 4 _) ?_; refine so_q (qt_not rfl) rfl ?_) | (refine so_is (.build 29 _) ?_; refine so_q (qt_build (cs := [_, _, _, _]) [(0, 1), (1, 1), (2, 1), (3, 1)] [.int .i64 0, .int .i64 0, .int .i64 0, .slice none 0 0] (by kernel_rfl) (by kernel_rfl) rfl) rfl ?_) | (refine so_is (.store 29 _ _) ?_; (refine so_store_box rfl rfl rfl (by kernel_rfl) rfl rfl ?_)) | (refine so_is (.call ⟨.value (.func 274), _, _⟩) ?_; (apply so_call0 (fid := 274); (· (repeat (first | exact SeA.nil | (apply SeA.cons; (· (apply SeP.g; (repeat (first | exact SeL.nil | apply SeL.cons (.d _))))))))); (· exact l2Same_p _ _ _ _ _ _ _ _); (· rfl))) | refine so_nil ?_ | refine sk_seq ?_ | refine sk_skip ?_ | refine sk_region ?_ | refine sk_not rfl (fun hc => ?_) (fun hc => ?_))
    all_goals first | (exfalso; simp_all; done) | skip
    all_goals (apply sk_ret; apply ret_eq; (· apply RetOK.t; (· (apply GvA.cons; (· (apply RV.cellN (n := 4); (· rfl); (· rfl); (· kernel_rfl); (· rfl))); (· (apply GvP.g; (· (apply GvL.cons (.lit _)); (apply GvL.cons (.lit _)); (apply GvL.cons (.lit _)); ((apply GvL.cons (.nil 1 (by decide)))); exact GvL.nil)))); (apply GvA.cons; (· exact .tmp _); (· exact GvP.c (.lit _))); exact GvA.nil); (· rfl); (· (decide))))
    all_goals simp [whenN, whenL]
  | true =>
    obtain ⟨ha, hb, rfl, rfl⟩ := sameB_spec hs
    have hB : bmixB x2 y2 n la x2 y2 m lb = decide (n + m ≤ 1000) := by simp [bmixB, hs]
    rw [hB]
    obtain ⟨x, y, rfl, rfl, hx, hy⟩ := box_nat ha
    have hM := mix_box ha hb
    have hK := l2Kept_t x y (n + m) (bmixL la lb x y)
    rw [hM] at hK
    refine pc_intro Try.func262 rfl rfl rfl (by kernel_rfl) rfl rfl ?_; intro _
    repeat' (first | (refine so_is (.box 29 _) ?_; refine so_box rfl rfl ?_) | (refine so_is (.alloc 29) ?_; refine so_alloc (zs := [.int .i64 0, .int .i64 0, .int .i64 0, .slice none 0 0]) (by kernel_rfl) rfl ?_) | (refine so_is (.assign _) ?_; (refine so_q (qt_asC rfl) rfl ?_)) | (refine so_is (.load 29 _) ?_; (refine so_q (qt_load_boxs rfl rfl (by kernel_rfl : tAgg _ 29 4 = true) rfl) rfl ?_)) | (refine so_is (.unOp .not 4 _) ?_; refine so_q (qt_not rfl) rfl ?_) | (refine so_is (.build 29 _) ?_; refine so_q (qt_build (cs := [_, _, _, _]) [(0, 1), (1, 1), (2, 1), (3, 1)] [.int .i64 0, .int .i64 0, .int .i64 0, .slice none 0 0] (by kernel_rfl) (by kernel_rfl) rfl) rfl ?_) | (refine so_is (.store 29 _ _) ?_; (refine so_store_box rfl rfl rfl (by kernel_rfl) rfl rfl ?_)) | (refine so_is (.extract _ _) ?_; refine so_q (qt_extract rfl rfl) rfl ?_) | (refine so_is (.call ⟨.value (.func 274), _, _⟩) ?_; ((apply so_call0 (fid := 274); (· (repeat (first | exact SeA.nil | (apply SeA.cons; (· (apply SeP.g; (repeat (first | exact SeL.nil | apply SeL.cons (.d _))))))))); (· exact l2Same_p _ _ _ _ _ _ _ _); (· rfl)))) | (refine so_is (.call ⟨.value (.func 108), _, _⟩) ?_; ((apply so_callO0 (fid := 108); (· (repeat (first | exact SeA.nil | (apply SeA.cons; (· (apply SeP.g; (repeat (first | exact SeL.nil | apply SeL.cons (.d _))))))))); (· exact l2Mix_p _ _ _ _ _ _ ha hb); (· rfl); (· rfl)))) | (refine so_is (.call ⟨.value (.func 270), _, _⟩) ?_; (apply so_callT (fid := 270); (· (repeat (first | exact ArgM.nil | (apply ArgM.g rfl; (· (repeat (first | exact GvM.nil | apply GvM.cons (.lit _) | apply GvM.cons (.row _ _ _ _ rfl (by ((simp; done))))))))))); (· (decide)); (· exact hK); (· rfl); (· rfl); (· rfl))) | refine so_nil ?_ | refine sk_seq ?_ | refine sk_skip ?_ | refine sk_region ?_ | refine sk_not rfl (fun hc => ?_) (fun hc => ?_))
    all_goals first | (exfalso; simp_all; done) | skip
    all_goals (apply sk_ret; apply ret_eq; (· apply RetOK.t; (· (apply GvA.cons; (· (apply RV.cellN (n := 4); (· rfl); (· rfl); (· kernel_rfl); (· rfl))); (· (apply GvP.g; (· (apply GvL.cons (.lit _)); (apply GvL.cons (.lit _)); (apply GvL.cons (.lit _)); ((apply GvL.cons (.row _ _ _ _ rfl (by ((simp; done)))))); exact GvL.nil)))); (apply GvA.cons; (· exact .tmp _); (· exact GvP.c (.lit _))); exact GvA.nil); (· rfl); (· (decide))))
    all_goals rfl
theorem l2PlayBox_p (x y : Nat) (pl : List Int) (wh : Int) (hx : x ≤ 3) (hy : y ≤ 3) (hp : bitsB pl ((x : Int) + y) = true) : PC Try.prog 269 [.c (dI x), .c (dI y), .c (eI pl), .c (dI wh)] (.p (.g [dI x, dI y, dI wh, eII (playL pl x y wh)])) := by
  have hl := bitsB_len hp
  have hxy : y * x ≤ 3 * 3 := Nat.mul_le_mul (by omega) (by omega)
  have hP : playL pl x y wh = boxF (playF pl x wh) y (y * x) := by unfold playL; simp
  rw [hP]
  refine pc_intro Try.func269 rfl rfl rfl (by kernel_rfl) rfl rfl ?_; intro _
  repeat' (first | (refine so_is (.alloc 29) ?_; refine so_alloc (zs := [.int .i64 0, .int .i64 0, .int .i64 0, .slice none 0 0]) (by kernel_rfl) rfl ?_) | (refine so_is (.move _) ?_; (refine so_q (qt_mvC rfl) rfl ?_)) | (refine so_is (.buildSlice 22 0 _) ?_; (apply so_bslice (sz := 1) (by_ := 24); (· kernel_rfl); (· decide); (· (repeat (exact GvS.nil _))); (· (decide)); (· rfl); (· rfl); (· rfl))) | (refine so_is (.build 29 _) ?_; refine so_q (qt_build (cs := [_, _, _, _]) [(0, 1), (1, 1), (2, 1), (3, 1)] [.int .i64 0, .int .i64 0, .int .i64 0, .slice none 0 0] (by kernel_rfl) (by kernel_rfl) rfl) rfl ?_) | (refine so_is (.store 29 _ _) ?_; (refine so_store_box rfl rfl rfl (by kernel_rfl) rfl rfl ?_)) | (refine so_is (.assign _) ?_; (refine so_q (qt_asC rfl) rfl ?_)) | refine so_nil ?_ | refine sk_seq ?_ | refine sk_block ?_ | refine sk_region ?_)
  apply sk_packC [0, 1, 2, 3, 8, 9, 10] [8, 9, 16, 28, 47, 48] rfl; (· (repeat (first | exact Pf.nil | apply Pf.cons (.c rfl (.d rfl)) | apply Pf.cons (.c rfl (.lp rfl))))); (· (repeat (first | exact Pb.nil | apply Pb.cons (.row rfl) | (apply Pb.cons; (· apply Nb.box rfl; (repeat (first | exact Ncs.nil rfl | (apply Ncs.cons rfl; (· (first | exact .d rfl | exact .ls rfl))))))) | apply Pb.skip)))
  refine sk_loopL [0, 1, 2, 3, 8, 9] [8, 28, 47, 48] (fun i => [(10, iN i)]) (fun i => [(9, .box [.d (dI x), .d (dI y), .d (dI wh), .ls 16 1 0 (y * i)]), (16, .row 1 (cII (boxF (playF pl x wh) y (y * i))))]) (fun i => i ≤ x) (fun i => x - i) (0) ?_ (by (repeat (first | exact trivial | refine ⟨(by (rfl)), ?_⟩))) (by (repeat (first | exact trivial | refine ⟨(by (first | (refine box_eq rfl ?_; simp; done) | rfl)), ?_⟩))) ?_
  · omega
  intro i hi
  by_cases h : i < x
  · repeat' (first | (refine so_is (.move _) ?_; (refine so_q (qt_mvC rfl) rfl ?_)) | (refine so_is (.store 29 _ _) ?_; (refine so_store_box rfl rfl rfl (by kernel_rfl) rfl rfl ?_)) | (refine so_is (.assign _) ?_; (refine so_q (qt_asC rfl) rfl ?_)) | (refine so_is (.binOp .lss 3 _ _ _) ?_; refine so_q (qt_lss rfl rfl) rfl ?_) | (refine so_is (.load 29 _) ?_; (refine so_q (qt_load_boxs rfl rfl (by kernel_rfl : tAgg _ 29 4 = true) rfl) rfl ?_)) | refine so_nil ?_ | refine sk_seq ?_ | refine sk_block ?_ | refine sk_exit rfl ?_ | refine sk_skip ?_ | refine sk_region ?_ | refine sk_if rfl (fun hc => ?_) (fun hc => ?_))
    all_goals first | (exfalso; omega) | skip
    apply sk_packC [0, 1, 2, 3, 8, 9, 10, 11] [8, 9, 16, 28, 47, 48] rfl; (· (repeat (first | exact Pf.nil | apply Pf.cons (.c rfl (.d rfl)) | apply Pf.cons (.c rfl (.lp rfl))))); (· (repeat (first | exact Pb.nil | apply Pb.cons (.row rfl) | (apply Pb.cons; (· apply Nb.box rfl; (repeat (first | exact Ncs.nil rfl | (apply Ncs.cons rfl; (· (first | exact .d rfl | exact .ls rfl))))))) | apply Pb.skip)))
    refine sk_loopL [0, 1, 2, 3, 8, 9, 10] [8, 28, 47, 48] (fun k => [(11, iN k)]) (fun k => [(9, .box [.d (dI x), .d (dI y), .d (dI wh), .ls 16 1 0 (y * i + k)]), (16, .row 1 (cII (boxF (playF pl x wh) y (y * i + k))))]) (fun k => k ≤ y) (fun k => y - k) (0) ?_ (by (repeat (first | exact trivial | refine ⟨(by (rfl)), ?_⟩))) (by (repeat (first | exact trivial | refine ⟨(by (first | (refine row_eq rfl ?_; simp; done) | (refine box_eq rfl ?_; simp; done))), ?_⟩))) ?_
    · omega
    intro k hk
    by_cases hk2 : k < y
    · have hik := idx_ltN (i := i) (k := k) (X := x) (Y := y) (by omega) (by omega)
      have f1 := bitsB_at hp (i := (i : Int)) (by omega) (by omega)
      have f2 := bitsB_at hp (i := (x : Int) + k) (by omega) (by omega)
      have hr := play_row (wh := wh) f1 f2
      have hr2 : rowF (playF pl x wh i k) 4 = (List.replicate 4 (0 : Int)).set (2 * atZ pl i + atZ pl ((x : Int) + k)).toNat wh := hr.symm
      repeat' (first | (refine so_is (.move _) ?_; (refine so_q (qt_mvC rfl) rfl ?_)) | (refine so_is (.assign _) ?_; (refine so_q (qt_asC rfl) rfl ?_)) | (refine so_is (.binOp .lss 3 _ _ _) ?_; refine so_q (qt_lss rfl rfl) rfl ?_) | (refine so_is (.makeSlice 26 _ _) ?_; (refine so_make (by_ := 8) (z := .int .i64 0) (y := .lit (.int .i64 0)) rfl rfl (by kernel_rfl) (by kernel_rfl) rfl (fun _ => .lit _ rfl) (by (omega)) (by (omega)) (by (omega)) rfl ?_)) | (refine so_is (.indexAddr 26 _ _) ?_; (first | refine so_q (qt_idxI rfl rfl (by kernel_rfl) (by (omega)) (by (omega))) rfl ?_ | refine so_q (qt_idx_ls rfl rfl (by kernel_rfl : tSl _ 26 1 = true) (by (omega)) (by (omega))) rfl ?_)) | (refine so_is (.load 3 _) ?_; (refine so_q (qt_load_pt rfl (by kernel_rfl) rfl) rfl ?_)) | (refine so_is (.binOp .mul 3 _ _ _) ?_; refine so_q (qt_mulI rfl rfl (by (omega))) rfl ?_) | (refine so_is (.binOp .add 3 _ _ _) ?_; refine so_q (qt_addI rfl rfl (by (omega))) rfl ?_) | (refine so_is (.store 3 _ _) ?_; ((refine so_store_row rfl rfl rfl rfl (.lit _) (by simp) (by simp) (by kernel_rfl) (by ((simp only [List.length_map, List.length_append, List.length_replicate, fillL_len, rowF_len, gridF_len, mkI_len, mkII_len, partZ_min] at *; omega))) rfl ?_; simp only [St.drop]))) | (refine so_is (.fieldAddr 29 _ 3) ?_; (refine so_q (qt_fld_lp (off := 3) rfl (by kernel_rfl)) rfl ?_)) | (refine so_is (.load 22 _) ?_; (refine so_q (qt_load_box rfl rfl (by kernel_rfl) rfl) rfl ?_)) | (refine so_is (.buildSlice 22 1 _) ?_; (apply so_bslice (sz := 1) (by_ := 24); (· kernel_rfl); (· decide); (· (repeat (first | exact GvS.nil _ | apply GvS.c rfl rfl (.row _ _ _ _ rfl (by ((simp; done)))) rfl))); (· (decide)); (· rfl); (· rfl); (· rfl))) | (refine so_is (.call ⟨.builtin .append, _, #[22, 22]⟩) ?_; ((apply so_appR (sz := 1) (by_ := 24); (· rfl); (· rfl); (· ((simp; done))); (· exact .row _ _ _ _ rfl (by ((simp; done)))); (· (decide)); (· kernel_rfl); (· decide); (· (omega)); (· (omega)); (· rfl); (· rfl); (· rfl)))) | (refine so_is (.store 22 _ _) ?_; (refine so_store_box1 rfl rfl rfl rfl (by kernel_rfl) rfl rfl ?_)) | refine so_nil ?_ | refine sk_seq ?_ | refine sk_block ?_ | refine sk_blk ?_ | refine sk_exit rfl ?_ | refine sk_skip ?_ | refine sk_region ?_ | refine sk_drawQ 9 (fun i => i == 15) (.step 0 true (.step 1 true (.step 2 true (.step 3 true (.step 4 true (.step 5 true (.step 6 true (.step 7 true (.step 8 true (.step 9 true (.step 10 true (.step 11 true (.step 12 true (.step 13 true (.step 14 true (.step 15 false .nil)))))))))))))))) [(0, 65535, 65535, true), (0, 65535, 65535, true), (0, 65535, 65535, true), (6, 65529, 65535, true), (8, 65527, 65535, false), (16, 65519, 65535, true), (0, 65535, 65535, true), (0, 65535, 65535, true), (0, 65535, 65535, true), (384, 65151, 65535, true), (576, 64959, 65535, true), (1024, 64511, 65535, false), (2080, 63455, 65535, true), (0, 65535, 65535, true), (16383, 61438, 65535, true), (32767, 40959, 65535, false)] (by kernel_rfl) (by kernel_rfl) ?_ | refine sk_if rfl (fun hc => ?_) (fun hc => ?_))
      all_goals first | (exfalso; omega) | skip
      refine sk_back ?_; refine ⟨k + 1, ?_, ?_, le_at rfl (by (repeat (first | exact trivial | refine ⟨(by (rfl)), ?_⟩))) (by (repeat (first | exact trivial | refine ⟨rfl, ?_⟩))) (by (repeat (first | exact trivial | refine ⟨(by (first | (refine row_eq rfl ?_; simp  [boxF_snoc _ _ _ _ hk2, hr2, List.map_set]; done) | rfl)), ?_⟩))) (by (repeat (first | exact trivial | refine ⟨.inr rfl, ?_⟩)))⟩
      · omega
      · omega
    · have e : k = y := by omega
      subst e
      repeat' (first | (refine so_is (.move _) ?_; (refine so_q (qt_mvC rfl) rfl ?_)) | (refine so_is (.assign _) ?_; (refine so_q (qt_asC rfl) rfl ?_)) | (refine so_is (.binOp .lss 3 _ _ _) ?_; refine so_q (qt_lss rfl rfl) rfl ?_) | (refine so_is (.makeSlice 26 _ _) ?_; (refine so_make (by_ := 8) (z := .int .i64 0) (y := .lit (.int .i64 0)) rfl rfl (by kernel_rfl) (by kernel_rfl) rfl (fun _ => .lit _ rfl) (by (omega)) (by (omega)) (by (omega)) rfl ?_)) | (refine so_is (.indexAddr 26 _ _) ?_; (first | refine so_q (qt_idxI rfl rfl (by kernel_rfl) (by (omega)) (by (omega))) rfl ?_ | refine so_q (qt_idx_ls rfl rfl (by kernel_rfl : tSl _ 26 1 = true) (by (omega)) (by (omega))) rfl ?_)) | (refine so_is (.load 3 _) ?_; (refine so_q (qt_load_pt rfl (by kernel_rfl) rfl) rfl ?_)) | (refine so_is (.binOp .mul 3 _ _ _) ?_; refine so_q (qt_mulI rfl rfl (by (omega))) rfl ?_) | (refine so_is (.binOp .add 3 _ _ _) ?_; refine so_q (qt_addI rfl rfl (by (omega))) rfl ?_) | (refine so_is (.store 3 _ _) ?_; ((refine so_store_row rfl rfl rfl rfl (.lit _) (by simp) (by simp) (by kernel_rfl) (by (omega)) rfl ?_; simp only [St.drop]))) | (refine so_is (.fieldAddr 29 _ 3) ?_; (refine so_q (qt_fld_lp (off := 3) rfl (by kernel_rfl)) rfl ?_)) | (refine so_is (.load 22 _) ?_; (refine so_q (qt_load_box rfl rfl (by kernel_rfl) rfl) rfl ?_)) | (refine so_is (.buildSlice 22 1 _) ?_; (apply so_bslice (sz := 1) (by_ := 24); (· kernel_rfl); (· decide); (· (repeat (first | exact GvS.nil _ | apply GvS.c rfl rfl (.row _ _ _ _ rfl (by ((simp; done)))) rfl))); (· (decide)); (· rfl); (· rfl); (· rfl))) | (refine so_is (.call ⟨.builtin .append, _, #[22, 22]⟩) ?_; ((apply so_appR (sz := 1) (by_ := 24); (· rfl); (· rfl); (· ((simp; done))); (· exact .row _ _ _ _ rfl (by ((simp; done)))); (· (decide)); (· kernel_rfl); (· decide); (· (omega)); (· (omega)); (· rfl); (· rfl); (· rfl)))) | (refine so_is (.store 22 _ _) ?_; (refine so_store_box1 rfl rfl rfl rfl (by kernel_rfl) rfl rfl ?_)) | refine so_nil ?_ | refine sk_seq ?_ | refine sk_block ?_ | refine sk_blk ?_ | refine sk_exit rfl ?_ | refine sk_skip ?_ | refine sk_region ?_ | refine sk_drawQ 9 (fun i => i == 15) (.step 0 true (.step 1 true (.step 2 true (.step 3 true (.step 4 true (.step 5 true (.step 6 true (.step 7 true (.step 8 true (.step 9 true (.step 10 true (.step 11 true (.step 12 true (.step 13 true (.step 14 true (.step 15 false .nil)))))))))))))))) [(0, 65535, 65535, true), (0, 65535, 65535, true), (0, 65535, 65535, true), (6, 65529, 65535, true), (8, 65527, 65535, false), (16, 65519, 65535, true), (0, 65535, 65535, true), (0, 65535, 65535, true), (0, 65535, 65535, true), (384, 65151, 65535, true), (576, 64959, 65535, true), (1024, 64511, 65535, false), (2080, 63455, 65535, true), (0, 65535, 65535, true), (16383, 61438, 65535, true), (32767, 40959, 65535, false)] (by kernel_rfl) (by kernel_rfl) ?_ | refine sk_if rfl (fun hc => ?_) (fun hc => ?_))
      all_goals first | (exfalso; omega) | skip
      refine sk_back ?_; refine ⟨i + 1, ?_, ?_, le_at rfl (by (repeat (first | exact trivial | refine ⟨(by (rfl)), ?_⟩))) (by (repeat (first | exact trivial | refine ⟨rfl, ?_⟩))) (by (repeat (first | exact trivial | refine ⟨(by (first | (refine row_eq rfl ?_; simp  [Nat.mul_succ]; done) | (refine box_eq rfl ?_; simp  [Nat.mul_succ]; done))), ?_⟩))) (by (repeat (first | exact trivial | refine ⟨.inr rfl, ?_⟩)))⟩
      · omega
      · omega
  · have e : i = x := by omega
    subst e
    repeat' (first | (refine so_is (.move _) ?_; (refine so_q (qt_mvC rfl) rfl ?_)) | (refine so_is (.store 29 _ _) ?_; (refine so_store_box rfl rfl rfl (by kernel_rfl) rfl rfl ?_)) | (refine so_is (.assign _) ?_; (refine so_q (qt_asC rfl) rfl ?_)) | (refine so_is (.binOp .lss 3 _ _ _) ?_; refine so_q (qt_lss rfl rfl) rfl ?_) | (refine so_is (.load 29 _) ?_; (refine so_q (qt_load_boxs rfl rfl (by kernel_rfl : tAgg _ 29 4 = true) rfl) rfl ?_)) | refine so_nil ?_ | refine sk_seq ?_ | refine sk_block ?_ | refine sk_exit rfl ?_ | refine sk_skip ?_ | refine sk_region ?_ | refine sk_if rfl (fun hc => ?_) (fun hc => ?_))
    all_goals first | (exfalso; omega) | skip
    (apply sk_ret; apply ret_eq; (· apply RetOK.p; (· (apply GvA.cons; (· (apply RV.cellN (n := 4); (· rfl); (· rfl); (· kernel_rfl); (· rfl))); (· (apply GvP.g; (· (apply GvL.cons (.lit _)); (apply GvL.cons (.lit _)); (apply GvL.cons (.lit _)); ((apply GvL.cons (.row _ _ _ _ rfl (by ((simp; done)))))); exact GvL.nil)))); exact GvA.nil); (· (decide))))
    simp

end Go.Proofs.Ytdihapcicpkdkaa

namespace Go.Proofs.Ytdihapcicpkdkaa
open Go.RowKit
set_option linter.unusedSectionVars false
variable [Glb]
set_option maxRecDepth 10000
set_option maxHeartbeats 4000000
theorem l1Rising_p (l : List Int) (lo hi : Int) : PC Try.prog 258 [.c (eI l), .c (dI lo), .c (dI hi)] (.p (.c (dB (riseB l lo hi)))) := by
  refine pc_intro Try.func258 rfl rfl rfl (by kernel_rfl) rfl rfl ?_; rintro ⟨hl, -⟩
  have hl := hl.len
  repeat' (first | (refine so_is (.assign _) ?_; (refine so_q (qt_asC rfl) rfl ?_)) | refine so_nil ?_ | refine sk_seq ?_ | refine sk_block ?_ | refine sk_region ?_)
  apply sk_packC [0, 1, 2, 7] [] rfl; (· (repeat (first | exact Pf.nil | apply Pf.cons (.c rfl (.d rfl))))); (· (repeat (exact Pb.nil)))
  refine sk_loopL [0, 1, 2] [] (fun k => [(7, iN k)]) (fun _ => []) (fun k => k ≤ l.length ∧ (List.range k).all (riseAt l lo hi) = true) (fun k => l.length - k) (0) ?_ (by (repeat (first | exact trivial | refine ⟨(by (rfl)), ?_⟩))) (by (repeat (exact trivial))) ?_
  · simp
  rintro k ⟨hk, ha⟩
  repeat' (first | (refine so_is (.assign _) ?_; (refine so_q (qt_asC rfl) rfl ?_)) | (refine so_is (.move _) ?_; (refine so_q (qt_mvC rfl) rfl ?_)) | (refine so_is (.call ⟨.builtin .len, _, #[26]⟩) ?_; (refine so_q (qt_len_d rfl (by kernel_rfl)) rfl ?_)) | (refine so_is (.binOp .lss 3 _ _ _) ?_; refine so_q (qt_lss rfl rfl) rfl ?_) | (refine so_is (.indexAddr 26 _ _) ?_; (refine so_q (qt_idxI rfl rfl (by kernel_rfl) (by (omega)) (by (omega))) rfl ?_)) | (refine so_is (.load 3 _) ?_; (refine so_q (qt_load_pt rfl (by kernel_rfl) rfl) rfl ?_)) | (refine so_is (.unOp .not 4 _) ?_; refine so_q (qt_not rfl) rfl ?_) | (refine so_is (.binOp .gtr 3 _ _ _) ?_; refine so_q (qt_gtr rfl rfl) rfl ?_) | (refine so_is (.binOp .sub 3 _ _ _) ?_; refine so_q (qt_subI rfl rfl (by (omega))) rfl ?_) | (refine so_is (.binOp .geq 3 _ _ _) ?_; refine so_q (qt_geq rfl rfl) rfl ?_) | (refine so_is (.pick _ _ _) ?_; (refine so_q (qt_pkC rfl rfl) rfl ?_)) | (refine so_is (.binOp .add 3 _ _ _) ?_; refine so_q (qt_addI rfl rfl (by (omega))) rfl ?_) | (refine so_is (.call ⟨.value (.func 166), _, _⟩) ?_; (apply so_call0 (fid := 166); (· (repeat (first | exact SeA.nil | apply SeA.cons (.c (.d _))))); (· exact l1In_p _ _ _); (· rfl))) | refine so_nil ?_ | refine so_g_un rfl rfl rfl rfl rfl ?_ | refine so_g_no rfl rfl rfl rfl ?_ | refine so_g_yes rfl rfl rfl rfl ?_ | refine so_g_if rfl rfl (fun hg => ?_) (fun hg => ?_) | refine so_g_b rfl rfl (fun hg => ?_) (fun hg => ?_) | refine sk_seq ?_ | refine sk_block ?_ | refine sk_blk ?_ | refine sk_exit rfl ?_ | refine sk_skip ?_ | refine sk_region ?_ | refine sk_drawQ 4 (fun _ => false) (.step 0 true (.step 1 true (.step 2 true (.step 3 true (.step 4 true (.step 5 true (.step 6 false (.step 7 true (.step 8 true (.step 9 true (.step 10 true (.step 11 true (.step 12 true (.step 13 true (.step 14 true (.step 15 true (.step 16 true (.step 17 true (.step 18 true (.step 19 true (.step 20 true (.step 21 true (.step 22 true (.step 23 true .nil)))))))))))))))))))))))) [(0, 16777215, 16777215, true), (0, 16777215, 16777215, true), (3, 16777212, 16777215, true), (4, 16777211, 16777215, false), (0, 16777215, 16777215, true), (0, 16777215, 16777215, true), (56, 16777159, 16777215, false), (64, 16777151, 16777215, true), (192, 16777087, 16777215, true), (256, 16776959, 16777215, true), (768, 16776447, 16777215, true), (1280, 16775935, 16777215, true), (2048, 16775167, 16777215, true), (2048, 16775167, 16777215, true), (10240, 16766975, 16777215, true), (22528, 16754687, 16777215, true), (34816, 16742399, 16777215, false), (2048, 16775167, 16777215, true), (2048, 16775167, 16777215, true), (395264, 16381951, 16777215, true), (526336, 16250879, 16777215, false), (1116160, 15661055, 16777215, true), (2099456, 14677759, 16777215, true), (4194560, 12582655, 16777215, true)] (by kernel_rfl) (by kernel_rfl) ?_ | refine sk_true rfl ?_ | refine sk_false rfl ?_ | refine sk_if rfl (fun hc => ?_) (fun hc => ?_))
  all_goals first | (exfalso; omega) | skip
  · (apply sk_ret; apply ret_eq; (· apply RetOK.p; (· (apply GvA.cons; (· exact .tmp _); (· exact GvP.c (.lit _))); exact GvA.nil); (· (decide))))
    rw [rise_no (k := k) (by assumption) (.inl (by simp_all))]
  · (apply sk_ret; apply ret_eq; (· apply RetOK.p; (· (apply GvA.cons; (· exact .tmp _); (· exact GvP.c (.lit _))); exact GvA.nil); (· (decide))))
    rw [rise_no (k := k) (by omega) (.inr ⟨by assumption, by assumption⟩)]
  · refine sk_back ?_; refine ⟨k + 1, ?_, ?_, le_at rfl (by (repeat (first | exact trivial | refine ⟨(by (rfl)), ?_⟩))) (by (repeat (first | exact trivial | refine ⟨rfl, ?_⟩))) (by (repeat (exact trivial))) (by (repeat (exact trivial)))⟩
    · exact ⟨by omega, rise_yes ha (by simp_all) (.inr (by assumption))⟩
    · omega
  · refine sk_back ?_; refine ⟨k + 1, ?_, ?_, le_at rfl (by (repeat (first | exact trivial | refine ⟨(by (rfl)), ?_⟩))) (by (repeat (first | exact trivial | refine ⟨rfl, ?_⟩))) (by (repeat (exact trivial))) (by (repeat (exact trivial)))⟩
    · exact ⟨by omega, rise_yes ha (by simp_all) (.inl (by assumption))⟩
    · omega
  · have : k = l.length := by omega
    subst this
    (apply sk_ret; apply ret_eq; (· apply RetOK.p; (· (apply GvA.cons; (· exact .tmp _); (· exact GvP.c (.lit _))); exact GvA.nil); (· (decide))))
    unfold riseB; rw [ha]

end Go.Proofs.Ytdihapcicpkdkaa

namespace Go.Proofs.Ytdihapcicpkdkaa
open Go.RowKit
set_option linter.unusedSectionVars false
variable [Glb]
set_option maxRecDepth 10000
set_option maxHeartbeats 4000000
theorem l2Bits_p (l : List Int) (n : Int) : PC Try.prog 146 [.c (eI l), .c (dI n)] (.p (.c (dB (bitsB l n)))) := by
  refine pc_intro Try.func146 rfl rfl rfl (by kernel_rfl) rfl rfl ?_; rintro ⟨hl, -⟩
  have hl := hl.len
  repeat' (first | (refine so_is (.assign _) ?_; (refine so_q (qt_asC rfl) rfl ?_)) | refine so_nil ?_ | refine sk_seq ?_ | refine sk_block ?_ | refine sk_region ?_)
  apply sk_packC [0, 1, 5] [] rfl; (· (repeat (first | exact Pf.nil | apply Pf.cons (.c rfl (.d rfl))))); (· (repeat (exact Pb.nil)))
  refine sk_loopL [0, 1] [] (fun k => [(5, iN k)]) (fun _ => []) (fun k => k ≤ l.length ∧ (l.take k).all (fun n => inB n 0 1) = true) (fun k => l.length - k) (0) ?_ (by (repeat (first | exact trivial | refine ⟨(by (rfl)), ?_⟩))) (by (repeat (exact trivial))) ?_
  · simp
  rintro k ⟨hk, ha⟩
  repeat' (first | (refine so_is (.assign _) ?_; (refine so_q (qt_asC rfl) rfl ?_)) | (refine so_is (.move _) ?_; (refine so_q (qt_mvC rfl) rfl ?_)) | (refine so_is (.call ⟨.builtin .len, _, #[26]⟩) ?_; (refine so_q (qt_len_d rfl (by kernel_rfl)) rfl ?_)) | (refine so_is (.binOp .lss 3 _ _ _) ?_; refine so_q (qt_lss rfl rfl) rfl ?_) | (refine so_is (.indexAddr 26 _ _) ?_; (refine so_q (qt_idxI rfl rfl (by kernel_rfl) (by (omega)) (by (omega))) rfl ?_)) | (refine so_is (.load 3 _) ?_; (refine so_q (qt_load_pt rfl (by kernel_rfl) rfl) rfl ?_)) | (refine so_is (.unOp .not 4 _) ?_; refine so_q (qt_not rfl) rfl ?_) | (refine so_is (.binOp .add 3 _ _ _) ?_; refine so_q (qt_addI rfl rfl (by (omega))) rfl ?_) | (refine so_is (.binOp .eql 3 _ _ _) ?_; refine so_q (qt_eql rfl rfl) rfl ?_) | (refine so_is (.call ⟨.value (.func 166), _, _⟩) ?_; (apply so_call0 (fid := 166); (· (repeat (first | exact SeA.nil | apply SeA.cons (.c (.d _))))); (· exact l1In_p _ _ _); (· rfl))) | refine so_nil ?_ | refine sk_seq ?_ | refine sk_block ?_ | refine sk_blk ?_ | refine sk_exit rfl ?_ | refine sk_skip ?_ | refine sk_region ?_ | refine sk_if rfl (fun hc => ?_) (fun hc => ?_) | refine sk_not rfl (fun hc => ?_) (fun hc => ?_))
  · rename_i hk'
    rw [atZ_nat (by omega)] at hc
    (apply sk_ret; apply ret_eq; (· apply RetOK.p; (· (apply GvA.cons; (· exact .tmp _); (· exact GvP.c (.lit _))); exact GvA.nil); (· (decide))))
    rw [bitsB, allB, all_f (by omega) hc]; simp
  · rename_i hk'
    rw [atZ_nat (by omega)] at hc
    refine sk_back ?_; refine ⟨k + 1, ?_, ?_, le_at rfl (by (repeat (first | exact trivial | refine ⟨(by (rfl)), ?_⟩))) (by (repeat (first | exact trivial | refine ⟨rfl, ?_⟩))) (by (repeat (exact trivial))) (by (repeat (exact trivial)))⟩
    · exact ⟨by omega, by rw [take_succ_all _ _ _ (by omega), ha, hc]; rfl⟩
    · omega
  · (apply sk_ret; apply ret_eq; (· apply RetOK.p; (· (apply GvA.cons; (· exact .tmp _); (· exact GvP.c (.lit _))); exact GvA.nil); (· (decide))))
    rw [bitsB, allB, all_t (by omega) ha]; simp

end Go.Proofs.Ytdihapcicpkdkaa

namespace Go.Proofs.Ytdihapcicpkdkaa
open Go.RowKit
set_option linter.unusedSectionVars false
variable [Glb]
set_option maxRecDepth 10000
set_option maxHeartbeats 4000000
theorem l7Context_p (n : Int) (l : List Int) : PC Try.prog 237 [.c (dI n), .c (eI l)] (.p (.c (dB (ctxB (IntKind.i64.wrap (n - 1) + 1) l)))) := by
  refine pc_intro Try.func237 rfl rfl rfl (by kernel_rfl) rfl rfl ?_; intro _
  repeat' (first | (refine so_is (.assign _) ?_; (refine so_q (qt_asC rfl) rfl ?_)) | (refine so_is (.move _) ?_; (refine so_q (qt_mvC rfl) rfl ?_)) | (refine so_is (.call ⟨.builtin .len, _, #[26]⟩) ?_; (refine so_q (qt_len_d rfl (by kernel_rfl)) rfl ?_)) | (refine so_is (.binOp .gtr 3 _ _ _) ?_; refine so_q (qt_gtr rfl rfl) rfl ?_) | (refine so_is (.binOp .sub 3 _ _ _) ?_; (refine so_q (qt_sub rfl rfl) rfl ?_)) | (refine so_is (.pick _ _ _) ?_; (refine so_q (qt_pkC rfl rfl) rfl ?_)) | (refine so_is (.call ⟨.value (.func 258), _, _⟩) ?_; (apply so_call0 (fid := 258); (· (repeat (first | exact SeA.nil | apply SeA.cons (.c (.d _))))); (· exact l1Rising_p _ _ _); (· rfl))) | refine so_nil ?_ | refine so_g_no rfl rfl rfl rfl ?_ | refine so_g_yes rfl rfl rfl rfl ?_ | refine so_g_if rfl rfl (fun hg => ?_) (fun hg => ?_) | refine sk_seq ?_ | refine sk_region ?_)
  · (apply sk_ret; apply ret_eq; (· apply RetOK.p; (· (apply GvA.cons; (· exact .tmp _); (· exact GvP.c (.lit _))); exact GvA.nil); (· (decide))))
    simp [ctxB]; omega
  · (apply sk_ret; apply ret_eq; (· apply RetOK.p; (· (apply GvA.cons; (· exact .tmp _); (· exact GvP.c (.lit _))); exact GvA.nil); (· (decide))))
    simp [ctxB]; omega
theorem l7Good_p (ev : Int) (cc : List (List Int)) (ss : List Int) : PC Try.prog 202 [.g [dI ev, eII cc, eI ss]] (.p (.c (dB (sceneB ev cc ss)))) := by
  have hev : inB ev 0 12 = true → IntKind.i64.wrap (ev - 1) + 1 = ev := fun h => by have := inB_iff.1 h; rw [IntWalk.i64_in _ (by omega)]; omega
  refine pc_intro Try.func202 rfl rfl rfl (by kernel_rfl) rfl rfl ?_; rintro ⟨hl, -⟩
  have hl := (hl _ (List.mem_cons_of_mem _ (List.mem_cons_self ..))).len
  repeat' (first | (refine so_is (.box 52 _) ?_; refine so_box rfl rfl ?_) | (refine so_is (.assign _) ?_; (refine so_q (qt_asC rfl) rfl ?_)) | refine so_nil ?_ | refine sk_seq ?_ | refine sk_block ?_ | refine sk_region ?_)
  apply sk_packC [1, 3] [1] rfl; (· (repeat (first | exact Pf.nil | apply Pf.cons (.c rfl (.d rfl)) | apply Pf.cons (.c rfl (.lp rfl))))); (· (repeat (first | exact Pb.nil | (apply Pb.cons; (· apply Nb.box rfl; (repeat (first | exact Ncs.nil rfl | (apply Ncs.cons rfl; (· (exact .d rfl))))))))))
  refine sk_loopL [1] [1] (fun k => [(3, iN k)]) (fun _ => []) (fun k => k ≤ cc.length ∧ (cc.take k).all (ctxB (IntKind.i64.wrap (ev - 1) + 1)) = true) (fun k => cc.length - k) (0) ?_ (by (repeat (first | exact trivial | refine ⟨(by (rfl)), ?_⟩))) (by (repeat (exact trivial))) ?_
  · simp
  rintro k ⟨hk, ha⟩
  repeat' (first | (refine so_is (.assign _) ?_; (refine so_q (qt_asC rfl) rfl ?_)) | (refine so_is (.move _) ?_; (refine so_q (qt_mvC rfl) rfl ?_)) | (refine so_is (.fieldAddr 52 _ 1) ?_; (refine so_q (qt_fld_lp (off := 1) rfl (by kernel_rfl)) rfl ?_)) | (refine so_is (.load 22 _) ?_; (refine so_q (qt_load_box rfl rfl (by kernel_rfl) rfl) rfl ?_)) | (refine so_is (.call ⟨.builtin .len, _, #[22]⟩) ?_; (refine so_q (qt_len_d rfl (by kernel_rfl)) rfl ?_)) | (refine so_is (.binOp .lss 3 _ _ _) ?_; refine so_q (qt_lss rfl rfl) rfl ?_) | (refine so_is (.fieldAddr 52 _ 0) ?_; (refine so_q (qt_fld_lp (off := 0) rfl (by kernel_rfl)) rfl ?_)) | (refine so_is (.load 3 _) ?_; (refine so_q (qt_load_box rfl rfl (by kernel_rfl) rfl) rfl ?_)) | (refine so_is (.indexAddr 22 _ _) ?_; (refine so_q (qt_idxII rfl rfl (by kernel_rfl) (by (omega)) (by (omega))) rfl ?_)) | (refine so_is (.load 26 _) ?_; (first | refine so_q (qt_load_box rfl rfl (by kernel_rfl) rfl) rfl ?_ | refine so_q (qt_load_pt rfl (by kernel_rfl) rfl) rfl ?_)) | (refine so_is (.unOp .not 4 _) ?_; refine so_q (qt_not rfl) rfl ?_) | (refine so_is (.binOp .add 3 _ _ _) ?_; refine so_q (qt_addI rfl rfl (by (omega))) rfl ?_) | (refine so_is (.binOp .leq 3 _ _ _) ?_; refine so_q (qt_leq rfl rfl) rfl ?_) | (refine so_is (.pick _ _ _) ?_; (refine so_q (qt_pkC rfl rfl) rfl ?_)) | (refine so_is (.fieldAddr 52 _ 2) ?_; (refine so_q (qt_fld_lp (off := 2) rfl (by kernel_rfl)) rfl ?_)) | (refine so_is (.call ⟨.value (.func 237), _, _⟩) ?_; (apply so_call0 (fid := 237); (· (repeat (first | exact SeA.nil | apply SeA.cons (.c (.d _))))); (· exact l7Context_p _ _); (· rfl))) | (refine so_is (.call ⟨.value (.func 166), _, _⟩) ?_; (apply so_call0 (fid := 166); (· (repeat (first | exact SeA.nil | apply SeA.cons (.c (.d _))))); (· exact l1In_p _ _ _); (· rfl))) | (refine so_is (.call ⟨.value (.func 146), _, _⟩) ?_; (apply so_call0 (fid := 146); (· (repeat (first | exact SeA.nil | apply SeA.cons (.c (.d _))))); (· exact l2Bits_p _ _); (· rfl))) | refine so_nil ?_ | refine so_g_no rfl rfl rfl rfl ?_ | refine so_g_yes rfl rfl rfl rfl ?_ | refine so_g_if rfl rfl (fun hg => ?_) (fun hg => ?_) | refine so_g_b rfl rfl (fun hg => ?_) (fun hg => ?_) | refine sk_seq ?_ | refine sk_block ?_ | refine sk_blk ?_ | refine sk_exit rfl ?_ | refine sk_skip ?_ | refine sk_region ?_ | refine sk_drawQ 4 (fun _ => false) (.step 0 true (.step 1 true (.step 2 true (.step 3 true (.step 4 true (.step 5 true (.step 6 true (.step 7 false (.step 8 true .nil))))))))) [(0, 511, 511, true), (1, 510, 511, false), (0, 511, 511, true), (4, 507, 511, false), (0, 511, 511, true), (24, 487, 511, true), (32, 479, 511, false), (66, 445, 511, false), (128, 383, 511, true)] (by kernel_rfl) (by kernel_rfl) ?_ | refine sk_if rfl (fun hc => ?_) (fun hc => ?_) | refine sk_not rfl (fun hc => ?_) (fun hc => ?_))
  · have hk2 : k < cc.length := by omega
    rw [atZ_nat hk2] at hc
    (apply sk_ret; apply ret_eq; (· apply RetOK.p; (· (apply GvA.cons; (· exact .tmp _); (· exact GvP.c (.lit _))); exact GvA.nil); (· (decide))))
    cases h0 : inB ev 0 12 with
    | false => simp [sceneB, h0]
    | true => rw [hev h0] at hc; simp only [sceneB, all_f (p := ctxB ev) hk2 hc]; simp
  · have hk2 : k < cc.length := by omega
    rw [atZ_nat hk2] at hc
    refine sk_back ?_; refine ⟨k + 1, ?_, ?_, le_at rfl (by (repeat (first | exact trivial | refine ⟨(by (rfl)), ?_⟩))) (by (repeat (first | exact trivial | refine ⟨rfl, ?_⟩))) (by (repeat (exact trivial))) (by (repeat (first | exact trivial | refine ⟨.inr rfl, ?_⟩)))⟩
    · exact ⟨by omega, by rw [take_succ_all _ _ _ hk2, ha, hc]; rfl⟩
    · omega
  all_goals
    have : k = cc.length := by omega
    subst this
    rw [List.take_length] at ha
    (apply sk_ret; apply ret_eq; (· apply RetOK.p; (· (apply GvA.cons; (· exact .tmp _); (· exact GvP.c (.lit _))); exact GvA.nil); (· (decide))))
  · cases h0 : inB ev 0 12 with
    | false => simp_all
    | true =>
      rw [hev h0] at ha
      have h10 : cc.length ≤ 10 := by omega
      simp [sceneB, h0, h10, ha]
  · have h10 : ¬ cc.length ≤ 10 := by omega
    simp [sceneB, h10]
  · simp [sceneB, hg]
theorem l2Play_p (x y : Int) (l : List Int) : PC Try.prog 201 [.c (dI x), .c (dI y), .c (eI l)] (.p (.c (dB (sizeB x y && bitsB l (IntKind.i64.wrap (x + y)))))) := by
  refine pc_intro Try.func201 rfl rfl rfl (by kernel_rfl) rfl rfl ?_; intro _
  repeat' (first | (refine so_is (.assign _) ?_; (refine so_q (qt_asC rfl) rfl ?_)) | (refine so_is (.move _) ?_; (refine so_q (qt_mvC rfl) rfl ?_)) | (refine so_is (.binOp .add 3 _ _ _) ?_; (refine so_q (qt_add rfl rfl) rfl ?_)) | (refine so_is (.pick _ _ _) ?_; (refine so_q (qt_pkC rfl rfl) rfl ?_)) | (refine so_is (.call ⟨.value (.func 196), _, _⟩) ?_; (apply so_call0 (fid := 196); (· (repeat (first | exact SeA.nil | apply SeA.cons (.c (.d _))))); (· exact l2Sizes_p _ _); (· rfl))) | (refine so_is (.call ⟨.value (.func 146), _, _⟩) ?_; (apply so_call0 (fid := 146); (· (repeat (first | exact SeA.nil | apply SeA.cons (.c (.d _))))); (· exact l2Bits_p _ _); (· rfl))) | refine so_nil ?_ | refine so_g_no rfl rfl rfl rfl ?_ | refine so_g_yes rfl rfl rfl rfl ?_ | refine so_g_b rfl rfl (fun hg => ?_) (fun hg => ?_) | refine sk_seq ?_ | refine sk_region ?_)
  all_goals (apply sk_ret; apply ret_eq; (· apply RetOK.p; (· (apply GvA.cons; (· exact .tmp _); (· exact GvP.c (.lit _))); exact GvA.nil); (· (decide))))
  all_goals simp_all
theorem l12Good_p (bx by_ bwh : Int) (bll : List (List Int)) (pl : List Int) (ev : Int) (cc : List (List Int)) (ss nu : List Int) (co : Int) :
    PC Try.prog 117 [.g [dI bx, dI by_, dI bwh, eII bll, eI pl, dI ev, eII cc, eI ss, eI nu, dI co]] (.p (.c (dB (hallB bx by_ bwh bll pl ev cc ss nu co)))) := by
  have hw : boxB bx by_ bwh bll = true → IntKind.i64.wrap (bx + by_) = bx + by_ ∧ sizeB bx by_ = true := fun h => by have := boxB_spec h; have a := this.x1; have b := this.x3; have c := this.y1; have d := this.y3; exact ⟨IntWalk.i64_in _ (by omega), sizeB_iff.2 ⟨⟨a, b⟩, c, d⟩⟩
  refine pc_intro Try.func117 rfl rfl rfl (by kernel_rfl) rfl rfl ?_; intro _
  repeat' (first | (refine so_is (.box 54 _) ?_; refine so_box rfl rfl ?_) | (refine so_is (.assign _) ?_; (refine so_q (qt_asC rfl) rfl ?_)) | (refine so_is (.fieldAddr 54 _ 0) ?_; (refine so_q (qt_fld_lp (off := 0) rfl (by kernel_rfl)) rfl ?_)) | (refine so_is (.load 29 _) ?_; (refine so_q (qt_load_boxs rfl rfl (by kernel_rfl : tAgg _ 29 4 = true) rfl) rfl ?_)) | (refine so_is (.unOp .not 4 _) ?_; refine so_q (qt_not rfl) rfl ?_) | (refine so_is (.move _) ?_; (refine so_q (qt_mvC rfl) rfl ?_)) | (refine so_is (.fieldAddr 29 _ 0) ?_; (refine so_q (qt_fld_lp (off := 0) rfl (by kernel_rfl)) rfl ?_)) | (refine so_is (.load 3 _) ?_; (refine so_q (qt_load_box rfl rfl (by kernel_rfl) rfl) rfl ?_)) | (refine so_is (.fieldAddr 29 _ 1) ?_; (refine so_q (qt_fld_lp (off := 1) rfl (by kernel_rfl)) rfl ?_)) | (refine so_is (.fieldAddr 54 _ 1) ?_; (refine so_q (qt_fld_lp (off := 4) rfl (by kernel_rfl)) rfl ?_)) | (refine so_is (.load 26 _) ?_; (refine so_q (qt_load_box rfl rfl (by kernel_rfl) rfl) rfl ?_)) | (refine so_is (.pick _ _ _) ?_; (refine so_q (qt_pkC rfl rfl) rfl ?_)) | (refine so_is (.fieldAddr 54 _ 4) ?_; (refine so_q (qt_fld_lp (off := 9) rfl (by kernel_rfl)) rfl ?_)) | (refine so_is (.fieldAddr 54 _ 2) ?_; (refine so_q (qt_fld_lp (off := 5) rfl (by kernel_rfl)) rfl ?_)) | (refine so_is (.load 52 _) ?_; (refine so_q (qt_load_boxs rfl rfl (by kernel_rfl : tAgg _ 52 3 = true) rfl) rfl ?_)) | (refine so_is (.fieldAddr 54 _ 3) ?_; (refine so_q (qt_fld_lp (off := 8) rfl (by kernel_rfl)) rfl ?_)) | (refine so_is (.fieldAddr 52 _ 0) ?_; (refine so_q (qt_fld_lp (off := 0) rfl (by kernel_rfl)) rfl ?_)) | (refine so_is (.call ⟨.value (.func 109), _, _⟩) ?_; (apply so_call0 (fid := 109); (· (repeat (first | exact SeA.nil | (apply SeA.cons; (· (apply SeP.g; (repeat (first | exact SeL.nil | apply SeL.cons (.d _))))))))); (· exact l2Box_p _ _ _ _); (· rfl))) | (refine so_is (.call ⟨.value (.func 201), _, _⟩) ?_; (apply so_call0 (fid := 201); (· (repeat (first | exact SeA.nil | apply SeA.cons (.c (.d _))))); (· exact l2Play_p _ _ _); (· rfl))) | (refine so_is (.call ⟨.value (.func 166), _, _⟩) ?_; (apply so_call0 (fid := 166); (· (repeat (first | exact SeA.nil | apply SeA.cons (.c (.d _))))); (· exact l1In_p _ _ _); (· rfl))) | (refine so_is (.call ⟨.value (.func 202), _, _⟩) ?_; (apply so_call0 (fid := 202); (· (repeat (first | exact SeA.nil | (apply SeA.cons; (· (apply SeP.g; (repeat (first | exact SeL.nil | apply SeL.cons (.d _))))))))); (· exact l7Good_p _ _ _); (· rfl))) | (refine so_is (.call ⟨.value (.func 146), _, _⟩) ?_; (apply so_call0 (fid := 146); (· (repeat (first | exact SeA.nil | apply SeA.cons (.c (.d _))))); (· exact l2Bits_p _ _); (· rfl))) | refine so_nil ?_ | refine so_g_no rfl rfl rfl rfl ?_ | refine so_g_yes rfl rfl rfl rfl ?_ | refine so_g_b rfl rfl (fun hg => ?_) (fun hg => ?_) | refine sk_seq ?_ | refine sk_skip ?_ | refine sk_region ?_ | refine sk_true rfl ?_ | refine sk_not rfl (fun hc => ?_) (fun hc => ?_))
  all_goals (apply sk_ret; apply ret_eq; (· apply RetOK.p; (· (apply GvA.cons; (· exact .tmp _); (· exact GvP.c (.lit _))); exact GvA.nil); (· (decide))))
  all_goals cases hb : boxB bx by_ bwh bll <;> simp_all [hallB]

end Go.Proofs.Ytdihapcicpkdkaa

namespace Go.Proofs.Ytdihapcicpkdkaa
open Go.RowKit
set_option linter.unusedSectionVars false
variable [Glb]
set_option maxRecDepth 10000
set_option maxHeartbeats 4000000
theorem l2Row_v (X Y n : Int) (ll : List (List Int)) (x y : Int) (h0 : 0 ≤ x * Y + y) (h1 : x * Y + y < ll.length) (h2 : 0 ≤ x * Y) (h3 : x * Y ≤ 1000) (h4 : y ≤ 1000) :
    PV Try.prog 188 [.g [dI X, dI Y, dI n, eII ll], .c (dI x), .c (dI y)] (.p (.c (eI (atZ ll (x * Y + y))))) := by
  refine pv_intro Try.func188 rfl rfl rfl (by kernel_rfl) rfl rfl ?_; intro X c0 _
  repeat' (first | (refine so_is (.box 29 _) ?_; refine so_box rfl rfl ?_) | (refine so_is (.assign _) ?_; (refine so_q (qt_asC rfl) rfl ?_)) | (refine so_is (.fieldAddr 29 _ 3) ?_; (refine so_q (qt_fld_lp (off := 3) rfl (by kernel_rfl)) rfl ?_)) | (refine so_is (.load 22 _) ?_; (refine so_q (qt_load_box rfl rfl (by kernel_rfl) rfl) rfl ?_)) | (refine so_is (.move _) ?_; (refine so_q (qt_mvC rfl) rfl ?_)) | (refine so_is (.fieldAddr 29 _ 1) ?_; (refine so_q (qt_fld_lp (off := 1) rfl (by kernel_rfl)) rfl ?_)) | (refine so_is (.load 3 _) ?_; (refine so_q (qt_load_box rfl rfl (by kernel_rfl) rfl) rfl ?_)) | (refine so_is (.binOp .mul 3 _ _ _) ?_; refine so_q (qt_mulI rfl rfl (by (omega))) rfl ?_) | (refine so_is (.binOp .add 3 _ _ _) ?_; refine so_q (qt_addI rfl rfl (by (omega))) rfl ?_) | (refine so_is (.indexAddr 22 _ _) ?_; (refine so_q (qt_idxII rfl rfl (by kernel_rfl) (by (omega)) (by (omega))) rfl ?_)) | (refine so_is (.load 26 _) ?_; (refine so_q (qt_load_pt rfl (by kernel_rfl) rfl) rfl ?_)) | refine so_nil ?_ | refine sk_seq ?_ | refine sk_region ?_)
  · (apply sk_retv; apply retv_eq; (· apply RetV.p rfl; (· (apply RvA.cons; (· exact .tmp _); (· (apply RvP.c; (· (exact .d _))))); exact RvA.nil)))
    rfl

end Go.Proofs.Ytdihapcicpkdkaa

namespace Go.Proofs.Ytdihapcicpkdkaa
open Go.RowKit
set_option linter.unusedSectionVars false
variable [Glb]
set_option maxRecDepth 10000
set_option maxHeartbeats 4000000
theorem spPlayBox_p (x y : Int) (pl : List Int) (wh : Int) : PC Try.prog 261 [.c (dI x), .c (dI y), .c (eI pl), .c (dI wh)]
    (.t [.g [dI (whenN (playB x y pl wh) x), dI (whenN (playB x y pl wh) y), dI (whenN (playB x y pl wh) wh), eII (whenL (playB x y pl wh) (playL pl x y wh))], .c (dB (playB x y pl wh))]) := by
  have hw : sizeB x y = true → IntKind.i64.wrap (x + y) = x + y := fun h => by have := sizeB_iff.1 h; exact IntWalk.i64_in _ (by omega)
  have hQ : (sizeB x y && bitsB pl (IntKind.i64.wrap (x + y))) = (sizeB x y && bitsB pl (x + y)) := by
    cases hz : sizeB x y with
    | false => rfl
    | true => rw [hw hz]
  have hpl := l2Play_p x y pl
  rw [hQ] at hpl
  cases hB : playB x y pl wh with
  | false =>
    refine pc_intro Try.func261 rfl rfl rfl (by kernel_rfl) rfl rfl ?_; intro _
    repeat' (first | (refine so_is (.alloc 29) ?_; refine so_alloc (zs := [.int .i64 0, .int .i64 0, .int .i64 0, .slice none 0 0]) (by kernel_rfl) rfl ?_) | (refine so_is (.assign _) ?_; (refine so_q (qt_asC rfl) rfl ?_)) | (refine so_is (.move _) ?_; (refine so_q (qt_mvC rfl) rfl ?_)) | (refine so_is (.unOp .not 4 _) ?_; refine so_q (qt_not rfl) rfl ?_) | (refine so_is (.pick _ _ _) ?_; (refine so_q (qt_pkC rfl rfl) rfl ?_)) | (refine so_is (.build 29 _) ?_; refine so_q (qt_build (cs := [_, _, _, _]) [(0, 1), (1, 1), (2, 1), (3, 1)] [.int .i64 0, .int .i64 0, .int .i64 0, .slice none 0 0] (by kernel_rfl) (by kernel_rfl) rfl) rfl ?_) | (refine so_is (.store 29 _ _) ?_; (refine so_store_box rfl rfl rfl (by kernel_rfl) rfl rfl ?_)) | (refine so_is (.call ⟨.value (.func 201), _, _⟩) ?_; (apply so_call0 (fid := 201); (· (repeat (first | exact SeA.nil | apply SeA.cons (.c (.d _))))); (· exact hpl); (· rfl))) | (refine so_is (.call ⟨.value (.func 166), _, _⟩) ?_; ((apply so_call0 (fid := 166); (· (repeat (first | exact SeA.nil | apply SeA.cons (.c (.d _))))); (· exact l1In_p _ _ _); (· rfl)))) | refine so_nil ?_ | refine so_g_no rfl rfl rfl rfl ?_ | refine so_g_yes rfl rfl rfl rfl ?_ | refine so_g_b rfl rfl (fun hg => ?_) (fun hg => ?_) | refine sk_seq ?_ | refine sk_skip ?_ | refine sk_region ?_ | refine sk_true rfl ?_ | refine sk_not rfl (fun hc => ?_) (fun hc => ?_))
    all_goals first | (exfalso; simp_all [playB]; done) | skip
    all_goals (apply sk_ret; apply ret_eq; (· apply RetOK.t; (· (apply GvA.cons; (· (apply RV.cellN (n := 4); (· rfl); (· rfl); (· kernel_rfl); (· rfl))); (· (apply GvP.g; (· (apply GvL.cons (.lit _)); (apply GvL.cons (.lit _)); (apply GvL.cons (.lit _)); ((apply GvL.cons (.nil 1 (by decide)))); exact GvL.nil)))); (apply GvA.cons; (· exact .tmp _); (· exact GvP.c (.lit _))); exact GvA.nil); (· rfl); (· (decide))))
    all_goals simp [whenN, whenL]
  | true =>
    have hB2 := hB
    simp only [playB, Bool.and_eq_true] at hB2
    obtain ⟨h1, h2, h3⟩ := hB2
    have hs := sizeB_iff.1 h1
    obtain ⟨X, rfl⟩ := Int.eq_ofNat_of_zero_le (by omega : 0 ≤ x)
    obtain ⟨Y, rfl⟩ := Int.eq_ofNat_of_zero_le (by omega : 0 ≤ y)
    refine pc_intro Try.func261 rfl rfl rfl (by kernel_rfl) rfl rfl ?_; intro _
    repeat' (first | (refine so_is (.alloc 29) ?_; refine so_alloc (zs := [.int .i64 0, .int .i64 0, .int .i64 0, .slice none 0 0]) (by kernel_rfl) rfl ?_) | (refine so_is (.assign _) ?_; (refine so_q (qt_asC rfl) rfl ?_)) | (refine so_is (.move _) ?_; (refine so_q (qt_mvC rfl) rfl ?_)) | (refine so_is (.unOp .not 4 _) ?_; refine so_q (qt_not rfl) rfl ?_) | (refine so_is (.pick _ _ _) ?_; (refine so_q (qt_pkC rfl rfl) rfl ?_)) | (refine so_is (.build 29 _) ?_; refine so_q (qt_build (cs := [_, _, _, _]) [(0, 1), (1, 1), (2, 1), (3, 1)] [.int .i64 0, .int .i64 0, .int .i64 0, .slice none 0 0] (by kernel_rfl) (by kernel_rfl) rfl) rfl ?_) | (refine so_is (.store 29 _ _) ?_; (refine so_store_box rfl rfl rfl (by kernel_rfl) rfl rfl ?_)) | (refine so_is (.call ⟨.value (.func 201), _, _⟩) ?_; (apply so_call0 (fid := 201); (· (repeat (first | exact SeA.nil | apply SeA.cons (.c (.d _))))); (· exact hpl); (· rfl))) | (refine so_is (.call ⟨.value (.func 166), _, _⟩) ?_; ((apply so_call0 (fid := 166); (· (repeat (first | exact SeA.nil | apply SeA.cons (.c (.d _))))); (· exact l1In_p _ _ _); (· rfl)))) | (refine so_is (.call ⟨.value (.func 269), _, _⟩) ?_; ((apply so_callO0 (fid := 269); (· (repeat (first | exact SeA.nil | apply SeA.cons (.c (.d _))))); (· exact l2PlayBox_p _ _ _ _ (by omega) (by omega) h2); (· rfl); (· rfl)))) | refine so_nil ?_ | refine so_g_no rfl rfl rfl rfl ?_ | refine so_g_yes rfl rfl rfl rfl ?_ | refine so_g_b rfl rfl (fun hg => ?_) (fun hg => ?_) | refine sk_seq ?_ | refine sk_skip ?_ | refine sk_region ?_ | refine sk_true rfl ?_ | refine sk_not rfl (fun hc => ?_) (fun hc => ?_))
    all_goals first | (exfalso; simp_all; done) | skip
    all_goals (apply sk_ret; apply ret_eq; (· apply RetOK.t; (· (apply GvA.cons; (· (apply RV.cellN (n := 4); (· rfl); (· rfl); (· kernel_rfl); (· rfl))); (· (apply GvP.g; (· (apply GvL.cons (.lit _)); (apply GvL.cons (.lit _)); (apply GvL.cons (.lit _)); ((apply GvL.cons (.row _ _ _ _ rfl (by ((simp; done)))))); exact GvL.nil)))); (apply GvA.cons; (· exact .tmp _); (· exact GvP.c (.lit _))); exact GvA.nil); (· rfl); (· (decide))))
    all_goals simp [whenN, whenL]
theorem l2Flip_p (x y : Nat) (n : Int) (ll : List (List Int)) (fl : List Int) (hb : boxB x y n ll = true) (hf : bitsB fl ((x : Int) + y) = true) : PC Try.prog 271 [.g [dI x, dI y, dI n, eII ll], .c (eI fl)] (.p (.g [dI x, dI y, dI n, eII (bflL ll x y fl)])) := by
  have b := boxB_spec hb
  have a1 := b.x1; have a2 := b.x3; have a3 := b.y1; have a4 := b.y3; have a5 := b.n1; have a6 := b.n2; have al := b.len
  have hl := bitsB_len hf
  have hxy : y * x ≤ 3 * 3 := Nat.mul_le_mul (by omega) (by omega)
  have hm9 := mul_bd3 (x := (x : Int)) (y := (y : Int)) (sizeB_iff.2 ⟨⟨by omega, by omega⟩, by omega, by omega⟩)
  have hP : bflL ll x y fl = boxF (bflF ll x y fl) y (y * x) := by unfold bflL; simp
  rw [hP]
  refine pc_intro Try.func271 rfl rfl rfl (by kernel_rfl) rfl rfl ?_; intro _
  repeat' (first | (refine so_is (.box 29 _) ?_; refine so_box rfl rfl ?_) | (refine so_is (.alloc 29) ?_; refine so_alloc (zs := [.int .i64 0, .int .i64 0, .int .i64 0, .slice none 0 0]) (by kernel_rfl) rfl ?_) | (refine so_is (.fieldAddr 29 _ 0) ?_; (refine so_q (qt_fld_lp (off := 0) rfl (by kernel_rfl)) rfl ?_)) | (refine so_is (.load 3 _) ?_; (refine so_q (qt_load_box rfl rfl (by kernel_rfl) rfl) rfl ?_)) | (refine so_is (.fieldAddr 29 _ 1) ?_; (refine so_q (qt_fld_lp (off := 1) rfl (by kernel_rfl)) rfl ?_)) | (refine so_is (.fieldAddr 29 _ 2) ?_; (refine so_q (qt_fld_lp (off := 2) rfl (by kernel_rfl)) rfl ?_)) | (refine so_is (.buildSlice 22 0 _) ?_; (apply so_bslice (sz := 1) (by_ := 24); (· kernel_rfl); (· decide); (· (repeat (exact GvS.nil _))); (· (decide)); (· rfl); (· rfl); (· rfl))) | (refine so_is (.build 29 _) ?_; refine so_q (qt_build (cs := [_, _, _, _]) [(0, 1), (1, 1), (2, 1), (3, 1)] [.int .i64 0, .int .i64 0, .int .i64 0, .slice none 0 0] (by kernel_rfl) (by kernel_rfl) rfl) rfl ?_) | (refine so_is (.store 29 _ _) ?_; (refine so_store_box rfl rfl rfl (by kernel_rfl) rfl rfl ?_)) | (refine so_is (.assign _) ?_; (refine so_q (qt_asC rfl) rfl ?_)) | refine so_nil ?_ | refine sk_seq ?_ | refine sk_block ?_ | refine sk_region ?_)
  apply sk_packC [1, 2, 4, 5, 6] [2, 4, 5, 17, 34, 35, 64, 65] rfl; (· (repeat (first | exact Pf.nil | apply Pf.cons (.c rfl (.d rfl)) | apply Pf.cons (.c rfl (.lp rfl))))); (· (repeat (first | exact Pb.nil | apply Pb.cons (.row rfl) | (apply Pb.cons; (· apply Nb.box rfl; (repeat (first | exact Ncs.nil rfl | (apply Ncs.cons rfl; (· (first | exact .d rfl | exact .ls rfl))))))) | apply Pb.skip)))
  refine sk_loopL [1, 2, 4, 5] [2, 4, 34, 35, 64, 65] (fun i => [(6, iN i)]) (fun i => [(5, .box [.d (dI x), .d (dI y), .d (dI n), .ls 17 1 0 (y * i)]), (17, .row 1 (cII (boxF (bflF ll x y fl) y (y * i))))]) (fun i => i ≤ x) (fun i => x - i) (0) ?_ (by (repeat (first | exact trivial | refine ⟨(by (rfl)), ?_⟩))) (by (repeat (first | exact trivial | refine ⟨(by (first | (refine box_eq rfl ?_; simp; done) | rfl)), ?_⟩))) ?_
  · omega
  intro i hi
  by_cases h : i < x
  · repeat' (first | (refine so_is (.fieldAddr 29 _ 0) ?_; (refine so_q (qt_fld_lp (off := 0) rfl (by kernel_rfl)) rfl ?_)) | (refine so_is (.load 3 _) ?_; (refine so_q (qt_load_box rfl rfl (by kernel_rfl) rfl) rfl ?_)) | (refine so_is (.store 29 _ _) ?_; (refine so_store_box rfl rfl rfl (by kernel_rfl) rfl rfl ?_)) | (refine so_is (.assign _) ?_; (refine so_q (qt_asC rfl) rfl ?_)) | (refine so_is (.move _) ?_; (refine so_q (qt_mvC rfl) rfl ?_)) | (refine so_is (.binOp .lss 3 _ _ _) ?_; refine so_q (qt_lss rfl rfl) rfl ?_) | (refine so_is (.load 29 _) ?_; (refine so_q (qt_load_boxs rfl rfl (by kernel_rfl : tAgg _ 29 4 = true) rfl) rfl ?_)) | refine so_nil ?_ | refine sk_seq ?_ | refine sk_block ?_ | refine sk_exit rfl ?_ | refine sk_skip ?_ | refine sk_region ?_ | refine sk_if rfl (fun hc => ?_) (fun hc => ?_))
    all_goals first | (exfalso; omega) | skip
    apply sk_packC [1, 2, 4, 5, 6, 7] [2, 4, 5, 17, 34, 35, 64, 65] rfl; (· (repeat (first | exact Pf.nil | apply Pf.cons (.c rfl (.d rfl)) | apply Pf.cons (.c rfl (.lp rfl))))); (· (repeat (first | exact Pb.nil | apply Pb.cons (.row rfl) | (apply Pb.cons; (· apply Nb.box rfl; (repeat (first | exact Ncs.nil rfl | (apply Ncs.cons rfl; (· (first | exact .d rfl | exact .ls rfl))))))) | apply Pb.skip)))
    refine sk_loopL [1, 2, 4, 5, 6] [2, 4, 34, 35, 64, 65] (fun k => [(7, iN k)]) (fun k => [(5, .box [.d (dI x), .d (dI y), .d (dI n), .ls 17 1 0 (y * i + k)]), (17, .row 1 (cII (boxF (bflF ll x y fl) y (y * i + k))))]) (fun k => k ≤ y) (fun k => y - k) (0) ?_ (by (repeat (first | exact trivial | refine ⟨(by (rfl)), ?_⟩))) (by (repeat (first | exact trivial | refine ⟨(by (first | (refine row_eq rfl ?_; simp; done) | (refine box_eq rfl ?_; simp; done))), ?_⟩))) ?_
    · omega
    intro k hk
    by_cases hk2 : k < y
    · have hik := idx_ltN (i := i) (k := k) (X := x) (Y := y) (by omega) (by omega)
      have ix := idx_lt (i := (i : Int)) (k := (k : Int)) (X := x) (Y := y) (by omega) (by omega) (by omega) (by omega)
      have f1 := bitsB_at hf (i := (i : Int)) (by omega) (by omega)
      have f2 := bitsB_at hf (i := (x : Int) + k) (by omega) (by omega)
      obtain ⟨r1, r2⟩ := boxB_at hb ix.1 ix.2.1
      have hm4 : 0 ≤ flipOf fl x i k ∧ flipOf fl x i k < 4 := by unfold flipOf; omega
      have hall := flM_all (atZ ll ((i : Int) * y + k)) hm4
      have hrow : rowF (bflF ll x y fl i k) 4 = flM (atZ ll ((i : Int) * y + k)) (flipOf fl x i k) 4 := by rw [hall]; rfl
      repeat' (first | (with_reducible apply so_lt) | intro Y hY | ((with_reducible apply so_j2); (· assumption); (· rfl); (· exact (by (repeat (first | exact trivial | refine ⟨rfl, ?_⟩)))); (· exact (by (repeat (first | exact trivial | refine ⟨rfl, ?_⟩))))) | ((with_reducible apply so_j1); (· rfl); (· (repeat (first | exact Pf.nil | apply Pf.cons (.c rfl (.d rfl)) | apply Pf.cons (.c rfl (.ls rfl)) | apply Pf.cons (.c rfl (.lp rfl))))); (· (repeat (first | exact Pb.nil | apply Pb.cons (.row rfl) | (apply Pb.cons; (· apply Nb.box rfl; (repeat (first | exact Ncs.nil rfl | (apply Ncs.cons rfl; (· (first | exact .d rfl | exact .ls rfl))))))) | apply Pb.skip))); (· assumption)) | refine so_alt ?_ ?_ | (refine so_is (.load 3 _) ?_; (refine so_q (qt_load_box rfl rfl (by kernel_rfl) rfl) rfl ?_)) | (refine so_is (.fieldAddr 29 _ 1) ?_; (refine so_q (qt_fld_lp (off := 1) rfl (by kernel_rfl)) rfl ?_)) | (refine so_is (.assign _) ?_; (refine so_q (qt_asC rfl) rfl ?_)) | (refine so_is (.move _) ?_; (refine so_q (qt_mvC rfl) rfl ?_)) | (refine so_is (.binOp .lss 3 _ _ _) ?_; refine so_q (qt_lss rfl rfl) rfl ?_) | (refine so_is (.load 29 _) ?_; (refine so_q (qt_load_boxs rfl rfl (by kernel_rfl : tAgg _ 29 4 = true) rfl) rfl ?_)) | (refine so_is (.makeSlice 26 _ _) ?_; (refine so_make (by_ := 8) (z := .int .i64 0) (y := .lit (.int .i64 0)) rfl rfl (by kernel_rfl) (by kernel_rfl) rfl (fun _ => .lit _ rfl) (by (omega)) (by (omega)) (by (omega)) rfl ?_)) | (refine so_is (.binOp .add 3 _ _ _) ?_; refine so_q (qt_addI rfl rfl (by (omega))) rfl ?_) | (refine so_is (.call ⟨.value (.func 188), _, _⟩) ?_; (apply so_callV (fid := 188); (· (repeat (first | exact SdA.nil | apply SdA.c rfl | (apply SdA.g rfl; (· (repeat (first | exact SdL.nil | apply SdL.cons))))))); (· exact l2Row_v _ _ _ _ _ _ (by omega) (by omega) (by omega) (by omega) (by omega)); (· rfl))) | refine so_nil ?_ | refine sk_seq ?_ | refine sk_block ?_ | refine sk_blk ?_ | refine sk_exit rfl ?_ | refine sk_skip ?_ | refine sk_region ?_ | refine sk_drawQ 8 (fun _ => false) (IT.lt .nil fun Y0 => (.step 0 true (.step 1 true (.step 2 true (.alt 8 (.step 3 false (.step 5 true (.step 4 false (.step 6 true (IT.ref true [1, 2, 4, 5, 6, 7, 8, 9] [2, 4, 17, 5, 34, 35] Y0))))) (.step 4 false (.step 3 false (.step 5 true (.step 6 true (IT.ref false [1, 2, 4, 5, 6, 7, 8, 9] [2, 4, 17, 5, 34, 35] Y0)))))))))) [(0, 127, 127, false), (0, 127, 127, true), (0, 127, 127, true), (7, 120, 127, false), (0, 127, 127, false), (15, 119, 127, true), (63, 111, 127, true)] (by kernel_rfl) (by kernel_rfl) ?_ | refine sk_if rfl (fun hc => ?_) (fun hc => ?_))
      all_goals first | (exfalso; omega) | skip
      apply sk_packC [1, 2, 4, 5, 6, 7, 8, 9, 10] [2, 4, 5, 17, 34, 35, 64, 65] rfl; (· (repeat (first | exact Pf.nil | apply Pf.cons (.c rfl (.d rfl)) | apply Pf.cons (.c rfl (.ls rfl)) | apply Pf.cons (.c rfl (.lp rfl))))); (· (repeat (first | exact Pb.nil | apply Pb.cons (.row rfl) | (apply Pb.cons; (· apply Nb.box rfl; (repeat (first | exact Ncs.nil rfl | (apply Ncs.cons rfl; (· (first | exact .d rfl | exact .ls rfl))))))) | apply Pb.skip)))
      refine sk_loopL [1, 2, 4, 5, 6, 7, 8, 9] [2, 4, 17, 5, 34, 64, 65] (fun p => [(10, iN p)]) (fun p => [(35, .row 1 (cI (flM (atZ ll ((i : Int) * y + k)) (flipOf fl x i k) p)))]) (fun p => p ≤ 4) (fun p => 4 - p) (0) ?_ (by (repeat (first | exact trivial | refine ⟨(by (rfl)), ?_⟩))) (by (repeat (first | exact trivial | refine ⟨(by ((refine row_eq rfl ?_; simp  [flM_zero]; done))), ?_⟩))) ?_
      · omega
      intro p hp
      by_cases hp4 : p < 4
      · have xe := xor4_eq hp4 hm4.1 hm4.2
        have st := flM_set (row := atZ ll ((i : Int) * y + k)) hm4 hp4
        unfold flipOf at xe st
        repeat' (first | (refine so_is (.fieldAddr 29 _ 0) ?_; (refine so_q (qt_fld_lp (off := 0) rfl (by kernel_rfl)) rfl ?_)) | (refine so_is (.load 3 _) ?_; (first | refine so_q (qt_load_box rfl rfl (by kernel_rfl) rfl) rfl ?_ | refine so_q (qt_load_pt rfl (by kernel_rfl) rfl) rfl ?_)) | (refine so_is (.assign _) ?_; (refine so_q (qt_asC rfl) rfl ?_)) | (refine so_is (.move _) ?_; (refine so_q (qt_mvC rfl) rfl ?_)) | (refine so_is (.binOp .lss 3 _ _ _) ?_; refine so_q (qt_lss rfl rfl) rfl ?_) | (refine so_is (.indexAddr 26 _ _) ?_; (first | refine so_q (qt_idxI rfl rfl (by kernel_rfl) (by (omega)) (by (omega))) rfl ?_ | refine so_q (qt_idx_ls rfl rfl (by kernel_rfl : tSl _ 26 1 = true) (by (omega)) (by (omega))) rfl ?_)) | (refine so_is (.binOp .mul 3 _ _ _) ?_; refine so_q (qt_mulI rfl rfl (by (omega))) rfl ?_) | (refine so_is (.binOp .add 3 _ _ _) ?_; refine so_q (qt_addI rfl rfl (by (omega))) rfl ?_) | (refine so_is (.binOp .xor 3 _ _ _) ?_; refine so_q (qt_bits rfl rfl (by simp)) rfl ?_) | (refine so_is (.store 3 _ _) ?_; ((refine so_store_row rfl rfl rfl rfl (.lit _) (by simp) (by simp) (by kernel_rfl) (by ((simp [*]; done))) rfl ?_; simp only [St.drop]))) | (refine so_is (.fieldAddr 29 _ 3) ?_; (refine so_q (qt_fld_lp (off := 3) rfl (by kernel_rfl)) rfl ?_)) | (refine so_is (.load 22 _) ?_; (refine so_q (qt_load_box rfl rfl (by kernel_rfl) rfl) rfl ?_)) | (refine so_is (.buildSlice 22 1 _) ?_; (apply so_bslice (sz := 1) (by_ := 24); (· kernel_rfl); (· decide); (· (repeat (first | exact GvS.nil _ | apply GvS.c rfl rfl (.row _ _ _ _ rfl (by ((simp; done)))) rfl))); (· (decide)); (· rfl); (· rfl); (· rfl))) | (refine so_is (.call ⟨.builtin .append, _, #[22, 22]⟩) ?_; ((apply so_appR (sz := 1) (by_ := 24); (· rfl); (· rfl); (· ((simp; done))); (· exact .row _ _ _ _ rfl (by ((simp; done)))); (· (decide)); (· kernel_rfl); (· decide); (· (omega)); (· (omega)); (· rfl); (· rfl); (· rfl)))) | (refine so_is (.store 22 _ _) ?_; (refine so_store_box1 rfl rfl rfl rfl (by kernel_rfl) rfl rfl ?_)) | refine so_nil ?_ | refine sk_seq ?_ | refine sk_block ?_ | refine sk_blk ?_ | refine sk_exit rfl ?_ | refine sk_skip ?_ | refine sk_region ?_ | refine sk_drawQ 12 (fun i => i == 21) (.step 0 true (.step 1 true (.step 2 true (.step 3 true (.step 4 true (.step 5 true (.step 6 true (.step 7 true (.step 8 true (.step 9 true (.step 10 true (.step 11 true (.step 12 true (.step 13 true (.step 14 true (.step 15 true (.step 16 true (.step 17 true (.step 18 true (.step 19 true (.step 20 true (.step 21 false .nil)))))))))))))))))))))) [(0, 4194303, 4194303, true), (0, 4194303, 4194303, true), (0, 4194303, 4194303, true), (0, 4194303, 4194303, true), (12, 4194291, 4194303, true), (16, 4194287, 4194303, false), (32, 4194271, 4194303, true), (0, 4194303, 4194303, true), (0, 4194303, 4194303, true), (256, 4194047, 4194303, false), (0, 4194303, 4194303, true), (1536, 4192767, 4194303, true), (2176, 4192127, 4194303, true), (4096, 4190207, 4194303, false), (8256, 4186047, 4194303, true), (16386, 4177917, 4194303, true), (0, 4194303, 4194303, true), (0, 4194303, 4194303, true), (196608, 3997695, 4194303, true), (262144, 3932159, 4194303, false), (1048575, 4161534, 4194303, true), (2097151, 2621439, 4194303, false)] (by kernel_rfl) (by kernel_rfl) ?_ | refine sk_if rfl (fun hc => ?_) (fun hc => ?_))
        all_goals first | (exfalso; omega) | skip
        refine sk_back ?_; refine ⟨p + 1, ?_, ?_, le_at rfl (by (repeat (first | exact trivial | refine ⟨(by (rfl)), ?_⟩))) (by (repeat (first | exact trivial | refine ⟨rfl, ?_⟩))) (by (repeat (first | exact trivial | refine ⟨(by ((refine row_eq rfl ?_; simp  [flipOf, xe.1, ← List.map_set, st]; done))), ?_⟩))) (by (repeat (first | exact trivial | refine ⟨.inr rfl, ?_⟩)))⟩
        · omega
        · omega
      · have e : p = 4 := by omega
        subst e
        repeat' (first | (refine so_is (.assign _) ?_; (refine so_q (qt_asC rfl) rfl ?_)) | (refine so_is (.move _) ?_; (refine so_q (qt_mvC rfl) rfl ?_)) | (refine so_is (.binOp .lss 3 _ _ _) ?_; refine so_q (qt_lss rfl rfl) rfl ?_) | (refine so_is (.binOp .add 3 _ _ _) ?_; refine so_q (qt_addI rfl rfl (by (omega))) rfl ?_) | (refine so_is (.fieldAddr 29 _ 3) ?_; (refine so_q (qt_fld_lp (off := 3) rfl (by kernel_rfl)) rfl ?_)) | (refine so_is (.load 22 _) ?_; (refine so_q (qt_load_box rfl rfl (by kernel_rfl) rfl) rfl ?_)) | (refine so_is (.buildSlice 22 1 _) ?_; (apply so_bslice (sz := 1) (by_ := 24); (· kernel_rfl); (· decide); (· (repeat (first | exact GvS.nil _ | apply GvS.c rfl rfl (.row _ _ _ _ rfl (by ((simp; done)))) rfl))); (· (decide)); (· rfl); (· rfl); (· rfl))) | (refine so_is (.call ⟨.builtin .append, _, #[22, 22]⟩) ?_; ((apply so_appR (sz := 1) (by_ := 24); (· rfl); (· rfl); (· ((simp; done))); (· exact .row _ _ _ _ rfl (by ((simp; done)))); (· (decide)); (· kernel_rfl); (· decide); (· (omega)); (· (omega)); (· rfl); (· rfl); (· rfl)))) | (refine so_is (.store 22 _ _) ?_; (refine so_store_box1 rfl rfl rfl rfl (by kernel_rfl) rfl rfl ?_)) | refine so_nil ?_ | refine sk_seq ?_ | refine sk_blk ?_ | refine sk_exit rfl ?_ | refine sk_region ?_ | refine sk_false rfl ?_)
        all_goals first | (exfalso; omega) | skip
        refine sk_back ?_; refine ⟨k + 1, ?_, ?_, le_at rfl (by (repeat (first | exact trivial | refine ⟨(by (rfl)), ?_⟩))) (by (repeat (first | exact trivial | refine ⟨rfl, ?_⟩))) (by (repeat (first | exact trivial | refine ⟨(by (first | (refine row_eq rfl ?_; simp  [boxF_snoc _ _ _ _ hk2, hrow]; done) | rfl)), ?_⟩))) (by (repeat (first | exact trivial | refine ⟨.inr rfl, ?_⟩)))⟩
        · omega
        · omega
    · have e : k = y := by omega
      subst e
      repeat' (first | (with_reducible apply so_lt) | intro Y hY | refine so_alt ?_ ?_ | (refine so_is (.load 3 _) ?_; (refine so_q (qt_load_box rfl rfl (by kernel_rfl) rfl) rfl ?_)) | (refine so_is (.fieldAddr 29 _ 1) ?_; (refine so_q (qt_fld_lp (off := 1) rfl (by kernel_rfl)) rfl ?_)) | (refine so_is (.assign _) ?_; (refine so_q (qt_asC rfl) rfl ?_)) | (refine so_is (.move _) ?_; (refine so_q (qt_mvC rfl) rfl ?_)) | (refine so_is (.binOp .lss 3 _ _ _) ?_; refine so_q (qt_lss rfl rfl) rfl ?_) | (refine so_is (.load 29 _) ?_; (refine so_q (qt_load_boxs rfl rfl (by kernel_rfl : tAgg _ 29 4 = true) rfl) rfl ?_)) | (refine so_is (.makeSlice 26 _ _) ?_; (refine so_make (by_ := 8) (z := .int .i64 0) (y := .lit (.int .i64 0)) rfl rfl (by kernel_rfl) (by kernel_rfl) rfl (fun _ => .lit _ rfl) (by (omega)) (by (omega)) (by (omega)) rfl ?_)) | (refine so_is (.binOp .add 3 _ _ _) ?_; refine so_q (qt_addI rfl rfl (by (omega))) rfl ?_) | refine so_nil ?_ | refine sk_seq ?_ | refine sk_block ?_ | refine sk_blk ?_ | refine sk_exit rfl ?_ | refine sk_skip ?_ | refine sk_region ?_ | refine sk_drawQ 8 (fun _ => false) (IT.lt .nil fun Y0 => (.step 0 true (.step 1 true (.step 2 true (.alt 8 (.step 3 false (.step 5 true (.step 4 false (.step 6 true (IT.ref true [1, 2, 4, 5, 6, 7, 8, 9] [2, 4, 17, 5, 34, 35] Y0))))) (.step 4 false (.step 3 false (.step 5 true (.step 6 true (IT.ref false [1, 2, 4, 5, 6, 7, 8, 9] [2, 4, 17, 5, 34, 35] Y0)))))))))) [(0, 127, 127, false), (0, 127, 127, true), (0, 127, 127, true), (7, 120, 127, false), (0, 127, 127, false), (15, 119, 127, true), (63, 111, 127, true)] (by kernel_rfl) (by kernel_rfl) ?_ | refine sk_if rfl (fun hc => ?_) (fun hc => ?_))
      all_goals first | (exfalso; omega) | skip
      refine sk_back ?_; refine ⟨i + 1, ?_, ?_, le_at rfl (by (repeat (first | exact trivial | refine ⟨(by (rfl)), ?_⟩))) (by (repeat (first | exact trivial | refine ⟨rfl, ?_⟩))) (by (repeat (first | exact trivial | refine ⟨(by (first | (refine row_eq rfl ?_; simp  [Nat.mul_succ]; done) | (refine box_eq rfl ?_; simp  [Nat.mul_succ]; done))), ?_⟩))) (by (repeat (first | exact trivial | refine ⟨.inr rfl, ?_⟩)))⟩
      · omega
      · omega
  · have e : i = x := by omega
    subst e
    repeat' (first | (refine so_is (.fieldAddr 29 _ 0) ?_; (refine so_q (qt_fld_lp (off := 0) rfl (by kernel_rfl)) rfl ?_)) | (refine so_is (.load 3 _) ?_; (refine so_q (qt_load_box rfl rfl (by kernel_rfl) rfl) rfl ?_)) | (refine so_is (.store 29 _ _) ?_; (refine so_store_box rfl rfl rfl (by kernel_rfl) rfl rfl ?_)) | (refine so_is (.assign _) ?_; (refine so_q (qt_asC rfl) rfl ?_)) | (refine so_is (.move _) ?_; (refine so_q (qt_mvC rfl) rfl ?_)) | (refine so_is (.binOp .lss 3 _ _ _) ?_; refine so_q (qt_lss rfl rfl) rfl ?_) | (refine so_is (.load 29 _) ?_; (refine so_q (qt_load_boxs rfl rfl (by kernel_rfl : tAgg _ 29 4 = true) rfl) rfl ?_)) | refine so_nil ?_ | refine sk_seq ?_ | refine sk_block ?_ | refine sk_exit rfl ?_ | refine sk_skip ?_ | refine sk_region ?_ | refine sk_if rfl (fun hc => ?_) (fun hc => ?_))
    all_goals first | (exfalso; omega) | skip
    (apply sk_ret; apply ret_eq; (· apply RetOK.p; (· (apply GvA.cons; (· (apply RV.cellN (n := 4); (· rfl); (· rfl); (· kernel_rfl); (· rfl))); (· (apply GvP.g; (· (apply GvL.cons (.lit _)); (apply GvL.cons (.lit _)); (apply GvL.cons (.lit _)); ((apply GvL.cons (.row _ _ _ _ rfl (by ((simp; done)))))); exact GvL.nil)))); exact GvA.nil); (· (decide))))
    simp

end Go.Proofs.Ytdihapcicpkdkaa
