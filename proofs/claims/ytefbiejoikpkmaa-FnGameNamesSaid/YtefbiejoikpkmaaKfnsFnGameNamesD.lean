/- What the functions that FnGameNames reaches return: part of its proof. No condition beyond those of its theorems. -/
import Derived.Test.YtefbiejoikpkmaaKfnsFnGameNamesA
import Derived.Test.YtefbiejoikpkmaaKplainB
import Derived.Test.YtefbiejoikpkmaaKplainA
import Derived.Test.YtefbiejoikpkmaaKplainC
import Derived.Test.YtefbiejoikpkmaaKfnsFnGameNamesC
import Derived.WalkKit
import Derived.Laws.IdiomCopy
import Derived.Shelf.Spec.SlicesInsert
import Derived.Shelf.Spec.SlicesInsertGrow
import Derived.WalkSpells
import Derived.Test.YtefbiejoikpkmaaKfnsFnGameNamesB
set_option linter.unusedVariables false
set_option linter.unusedSimpArgs false
namespace Go.Proofs.Ytefbiejoikpkmaa
open Go.RowKit
set_option linter.unusedSectionVars false
variable [Glb]
set_option maxRecDepth 10000
set_option maxHeartbeats 4000000
theorem slEqual_p (a b : List Int) : PC Try.prog 185 [.c (eI a), .c (eI b)] (.p (.c (dB (decide (a = b))))) := by
  refine pc_intro Try.func185 rfl rfl rfl (by kernel_rfl) rfl rfl ?_; rintro ⟨hl, hm, -⟩
  have hl := hl.len
  have hm := hm.len
  repeat' (first | (refine so_is (.assign _) ?_; (refine so_q (qt_asC rfl) rfl ?_)) | (refine so_is (.move _) ?_; (refine so_q (qt_mvC rfl) rfl ?_)) | (refine so_is (.call ⟨.builtin .len, _, #[24]⟩) ?_; (refine so_q (qt_len_d rfl (by kernel_rfl)) rfl ?_)) | (refine so_is (.binOp .neq 3 _ _ _) ?_; refine so_q (qt_neq rfl rfl) rfl ?_) | refine so_nil ?_ | refine sk_seq ?_ | refine sk_block ?_ | refine sk_skip ?_ | refine sk_region ?_ | refine sk_if rfl (fun hc => ?_) (fun hc => ?_))
  · (apply sk_ret; apply ret_eq; (· apply RetOK.p; (· (apply GvA.cons; (· exact .tmp _); (· exact GvP.c (.lit _))); exact GvA.nil); (· (decide))))
    have : a ≠ b := fun e => by subst e; simp at *
    simp [this]
  have hab : a.length = b.length := by simp at *; omega
  apply sk_packC [0, 1, 12, 13] [] rfl; (· (repeat (first | exact Pf.nil | apply Pf.cons (.c rfl (.d rfl))))); (· (repeat (exact Pb.nil)))
  refine sk_loopL [0, 1, 12] [] (fun k => [(13, iN k)]) (fun _ => []) (fun k => k ≤ a.length ∧ a.take k = b.take k) (fun k => a.length - k) (0) ?_ (by (repeat (first | exact trivial | refine ⟨(by (rfl)), ?_⟩))) (by (repeat (exact trivial))) ?_
  · simp
  rintro k ⟨hk, hs⟩
  repeat' (first | (refine so_is (.assign _) ?_; (refine so_q (qt_asC rfl) rfl ?_)) | (refine so_is (.move _) ?_; (refine so_q (qt_mvC rfl) rfl ?_)) | (refine so_is (.binOp .neq 3 _ _ _) ?_; refine so_q (qt_neq rfl rfl) rfl ?_) | (refine so_is (.binOp .lss 3 _ _ _) ?_; refine so_q (qt_lss rfl rfl) rfl ?_) | (refine so_is (.indexAddr 24 _ _) ?_; (refine so_q (qt_idxI rfl rfl (by kernel_rfl) (by (omega)) (by (omega))) rfl ?_)) | (refine so_is (.load 3 _) ?_; (refine so_q (qt_load_pt rfl (by kernel_rfl) rfl) rfl ?_)) | (refine so_is (.binOp .add 3 _ _ _) ?_; refine so_q (qt_addI rfl rfl (by (omega))) rfl ?_) | refine so_nil ?_ | refine sk_seq ?_ | refine sk_block ?_ | refine sk_blk ?_ | refine sk_exit rfl ?_ | refine sk_skip ?_ | refine sk_region ?_ | refine sk_drawQ 6 (fun _ => false) (.step 0 true (.step 1 true (.step 2 true (.step 3 true (.step 4 true (.step 5 true (.step 6 true (.step 7 true (.step 8 true .nil))))))))) [(0, 511, 511, true), (0, 511, 511, true), (3, 508, 511, true), (4, 507, 511, false), (0, 511, 511, true), (0, 511, 511, true), (48, 463, 511, true), (64, 447, 511, false), (136, 375, 511, true)] (by kernel_rfl) (by kernel_rfl) ?_ | refine sk_if rfl (fun hc => ?_) (fun hc => ?_))
  · rename_i hk'
    rw [atZ_nat (by omega), atZ_nat (by omega)] at hc
    (apply sk_ret; apply ret_eq; (· apply RetOK.p; (· (apply GvA.cons; (· exact .tmp _); (· exact GvP.c (.lit _))); exact GvA.nil); (· (decide))))
    have : a ≠ b := fun e => by subst e; exact hc rfl
    simp [this]
  · rename_i hk'
    rw [atZ_nat (by omega), atZ_nat (by omega)] at hc
    refine sk_back ?_; refine ⟨k + 1, ?_, ?_, le_at rfl (by (repeat (first | exact trivial | refine ⟨(by (rfl)), ?_⟩))) (by (repeat (first | exact trivial | refine ⟨rfl, ?_⟩))) (by (repeat (exact trivial))) (by (repeat (exact trivial)))⟩
    · exact ⟨by omega, by rw [List.take_succ_eq_append_getElem (by omega), List.take_succ_eq_append_getElem (by omega), hs]; simp at hc; rw [hc]⟩
    · omega
  · have e : k = a.length := by omega
    subst e
    rw [List.take_length, hab, List.take_length] at hs
    (apply sk_ret; apply ret_eq; (· apply RetOK.p; (· (apply GvA.cons; (· exact .tmp _); (· exact GvP.c (.lit _))); exact GvA.nil); (· (decide))))
    simp [hs]

end Go.Proofs.Ytefbiejoikpkmaa

namespace Go.Proofs.Ytefbiejoikpkmaa
open Go.RowKit
set_option linter.unusedSectionVars false
variable [Glb]
set_option maxRecDepth 10000
set_option maxHeartbeats 4000000
theorem noFlips_p (X Y : Int) (ws : List Int) (wi : List (List Int)) (h1 : 0 ≤ X) (h2 : X ≤ 1000) (h3 : 0 ≤ Y) (h4 : Y ≤ 1000) : PC Try.prog 105 [.g [dI X, dI Y, eI ws, eII wi]] (.p (.c (eI (zerosL (X + Y).toNat)))) := by
  refine pc_intro Try.func105 rfl rfl rfl (by kernel_rfl) rfl rfl ?_; intro _
  repeat' (first | (refine so_is (.box 27 _) ?_; refine so_box rfl rfl ?_) | (refine so_is (.assign _) ?_; (refine so_q (qt_asC rfl) rfl ?_)) | (refine so_is (.fieldAddr 27 _ 0) ?_; (refine so_q (qt_fld_lp (off := 0) rfl (by kernel_rfl)) rfl ?_)) | (refine so_is (.load 3 _) ?_; (refine so_q (qt_load_box rfl rfl (by kernel_rfl) rfl) rfl ?_)) | (refine so_is (.fieldAddr 27 _ 1) ?_; (refine so_q (qt_fld_lp (off := 1) rfl (by kernel_rfl)) rfl ?_)) | (refine so_is (.binOp .add 3 _ _ _) ?_; refine so_q (qt_addI rfl rfl (by (omega))) rfl ?_) | (refine so_is (.makeSlice 24 _ _) ?_; (refine so_make (by_ := 8) (z := .int .i64 0) (y := .lit (.int .i64 0)) rfl rfl (by kernel_rfl) (by kernel_rfl) rfl (fun _ => .lit _ rfl) (by (omega)) (by (omega)) (by (omega)) rfl ?_)) | refine so_nil ?_ | refine sk_seq ?_ | refine sk_region ?_)
  (apply sk_ret; apply ret_eq; (· apply RetOK.p; (· (apply GvA.cons; (· exact .tmp _); (· (exact GvP.c (.row _ _ _ _ rfl (by ((simp; done))))))); exact GvA.nil); (· (decide))))
  simp [zerosL]

end Go.Proofs.Ytefbiejoikpkmaa

namespace Go.Proofs.Ytefbiejoikpkmaa
open Go.RowKit
set_option linter.unusedSectionVars false
variable [Glb]
set_option maxRecDepth 10000
set_option maxHeartbeats 4000000
theorem copied_p (l : List Int) (h : l.length ≤ 10000000) : PC Try.prog 111 [.c (eI l)] (.p (.c (eI l))) := by
  refine pc_intro Try.func111 rfl rfl rfl (by kernel_rfl) rfl rfl ?_; intro _
  repeat' (first | (refine so_is (.assign _) ?_; (refine so_q (qt_asC rfl) rfl ?_)) | (refine so_is (.buildSlice 24 0 _) ?_; (apply so_bslice (sz := 1) (by_ := 8); (· kernel_rfl); (· decide); (· (repeat (exact GvS.nil _))); (· (decide)); (· rfl); (· rfl); (· rfl))) | (refine so_is (.move _) ?_; (refine so_q (qt_mvC rfl) rfl ?_)) | (refine so_is (.call ⟨.builtin .append, _, #[24, 24]⟩) ?_; ((apply so_appR (sz := 1) (by_ := 8); (· rfl); (· rfl); (· ((simp; done))); (· exact .see _ _ _ (by (exact Lits.map))); (· (decide)); (· kernel_rfl); (· decide); (· (omega)); (· (omega)); (· rfl); (· rfl); (· rfl)))) | refine so_nil ?_ | refine sk_seq ?_ | refine sk_region ?_)
  · (apply sk_ret; apply ret_eq; (· apply RetOK.p; (· (apply GvA.cons; (· exact .tmp _); (· (exact GvP.c (.row _ _ _ _ rfl (by ((simp; done))))))); exact GvA.nil); (· (decide))))
    simp

end Go.Proofs.Ytefbiejoikpkmaa

namespace Go.Proofs.Ytefbiejoikpkmaa
open Go.RowKit
set_option linter.unusedSectionVars false
variable [Glb]
set_option maxRecDepth 10000
set_option maxHeartbeats 4000000
theorem isOrder_p (l : List Int) (n : Int) (h : l.length ≤ 1048576) (h1 : 1 ≤ n ∧ n ≤ 3) : PC Try.prog 104 [.c (eI l), .c (dI n)] (.p (.c (dB (orderB l n)))) := by
  obtain ⟨S, hS⟩ : ∃ S, S = l.mergeSort fun x y => decide (x ≤ y) := ⟨_, rfl⟩
  have hSl : S.length = l.length := by rw [hS, List.length_mergeSort]
  have sn := sort_n l (by omega)
  rw [← hS] at sn
  have eS : eI S = .sl 1 l.length (cI S) := by unfold eI; rw [hSl]
  have eqp := slEqual_p S (cntL n.toNat)
  rw [eS] at eqp
  have ho := order_sort (l := l) (n := n) (by omega)
  rw [← hS] at ho
  rw [ho] at eqp
  refine pc_intro Try.func104 rfl rfl rfl (by kernel_rfl) rfl rfl ?_; intro _
  repeat' (first | (refine so_is (.assign _) ?_; (refine so_q (qt_asC rfl) rfl ?_)) | (refine so_is (.move _) ?_; (refine so_q (qt_mvC rfl) rfl ?_)) | (refine so_is (.call ⟨.value (.func 111), _, _⟩) ?_; ((apply so_callO0 (fid := 111); (· (repeat (first | exact SeA.nil | apply SeA.cons (.c (.d _))))); (· exact copied_p _ (by omega)); (· rfl); (· rfl)))) | (refine so_is (.call ⟨.value (.func 188), _, _⟩) ?_; ((apply so_callN (fid := 188); (· (repeat (first | exact ArgM.nil | apply ArgM.c rfl (.row _ _ _ _ rfl (by ((simp; done))))))); (· (decide)); (· exact sn); (· rfl); (· rfl)))) | (refine so_is (.call ⟨.value (.func 101), _, _⟩) ?_; ((apply so_call0 (fid := 101); (· (repeat (first | exact SeA.nil | apply SeA.cons (.c (.d _))))); (· exact counting_p _ (by omega) (by omega)); (· rfl)))) | (refine so_is (.call ⟨.value (.func 185), _, _⟩) ?_; ((apply so_call0 (fid := 185); (· (repeat (first | exact SeA.nil | apply SeA.cons (.c (.d _)) | apply SeA.cons (.c (.all _ _ _ _ rfl (by ((simp; omega)))))))); (· exact eqp); (· rfl)))) | refine so_nil ?_ | refine sk_seq ?_ | refine sk_region ?_)
  (apply sk_ret; apply ret_eq; (· apply RetOK.p; (· (apply GvA.cons; (· exact .tmp _); (· exact GvP.c (.lit _))); exact GvA.nil); (· (decide))))
  rfl
theorem AskGame_p (X Y : Int) (ws : List Int) (wi : List (List Int)) (fs ss : List Int) (hf : fs.length ≤ 1048576) (hs : ss.length ≤ 1048576) : PC Try.prog 17 [.g [dI X, dI Y, eI ws, eII wi], .c (eI fs), .c (eI ss)]
    (.t [.g [dI (whenN (askB X Y ws wi fs ss) fs.length), dI (whenN (askB X Y ws wi fs ss) ss.length), eI (whenA (askB X Y ws wi fs ss) (askGW Y ws fs ss)), eII (whenL (askB X Y ws wi fs ss) (askGR Y wi fs ss))], .c (dB (askB X Y ws wi fs ss))]) := by
  cases hg : gameB X Y ws wi with
  | false =>
    have e : askB X Y ws wi fs ss = false := by simp [askB, hg]
    rw [e]
    refine pc_intro Try.func17 rfl rfl rfl (by kernel_rfl) rfl rfl ?_; intro _
    repeat' (first | (refine so_is (.box 27 _) ?_; refine so_box rfl rfl ?_) | (refine so_is (.alloc 27) ?_; refine so_alloc (zs := [.int .i64 0, .int .i64 0, .slice none 0 0, .slice none 0 0]) (by kernel_rfl) rfl ?_) | (refine so_is (.assign _) ?_; (refine so_q (qt_asC rfl) rfl ?_)) | (refine so_is (.load 27 _) ?_; (refine so_q (qt_load_boxs rfl rfl (by kernel_rfl : tAgg _ 27 4 = true) rfl) rfl ?_)) | (refine so_is (.unOp .not 4 _) ?_; refine so_q (qt_not rfl) rfl ?_) | (refine so_is (.move _) ?_; (refine so_q (qt_mvC rfl) rfl ?_)) | (refine so_is (.fieldAddr 27 _ 0) ?_; (refine so_q (qt_fld_lp (off := 0) rfl (by kernel_rfl)) rfl ?_)) | (refine so_is (.load 3 _) ?_; (refine so_q (qt_load_box rfl rfl (by kernel_rfl) rfl) rfl ?_)) | (refine so_is (.pick _ _ _) ?_; (refine so_q (qt_pkC rfl rfl) rfl ?_)) | (refine so_is (.build 27 _) ?_; refine so_q (qt_build (cs := [_, _, _, _]) [(0, 1), (1, 1), (2, 1), (3, 1)] [.int .i64 0, .int .i64 0, .slice none 0 0, .slice none 0 0] (by kernel_rfl) (by kernel_rfl) rfl) rfl ?_) | (refine so_is (.store 27 _ _) ?_; (refine so_store_box rfl rfl rfl (by kernel_rfl) rfl rfl ?_)) | (refine so_is (.call ⟨.value (.func 29), _, _⟩) ?_; (apply so_call0 (fid := 29); (· (repeat (first | exact SeA.nil | (apply SeA.cons; (· (apply SeP.g; (repeat (first | exact SeL.nil | apply SeL.cons (.d _))))))))); (· exact IsGame_p _ _ _ _); (· rfl))) | refine so_nil ?_ | refine so_g_no rfl rfl rfl rfl ?_ | refine so_g_yes rfl rfl rfl rfl ?_ | refine so_g_b rfl rfl (fun hg => ?_) (fun hg => ?_) | refine sk_seq ?_ | refine sk_region ?_ | refine sk_true rfl ?_)
    all_goals first | (exfalso; simp_all; done) | skip
    all_goals (apply sk_ret; apply ret_eq; (· apply RetOK.t; (· (apply GvA.cons; (· (apply RV.cellN (n := 4); (· rfl); (· rfl); (· kernel_rfl); (· rfl))); (· (apply GvP.g; (· (apply GvL.cons (.lit _)); (apply GvL.cons (.lit _)); ((apply GvL.cons (.nil 1 (by decide)))); ((apply GvL.cons (.nil 1 (by decide)))); exact GvL.nil)))); (apply GvA.cons; (· exact .tmp _); (· exact GvP.c (.lit _))); exact GvA.nil); (· rfl); (· (decide))))
    all_goals simp [whenN, whenL, whenA]
  | true =>
    have g := gameB_spec hg
    have g1 := g.x1; have g2 := g.x3; have g3 := g.y1; have g4 := g.y3
    cases e : askB X Y ws wi fs ss with
    | false =>
      have e' := e
      simp only [askB, hg, Bool.true_and] at e'
      refine pc_intro Try.func17 rfl rfl rfl (by kernel_rfl) rfl rfl ?_; intro _
      repeat' (first | (refine so_is (.box 27 _) ?_; refine so_box rfl rfl ?_) | (refine so_is (.alloc 27) ?_; refine so_alloc (zs := [.int .i64 0, .int .i64 0, .slice none 0 0, .slice none 0 0]) (by kernel_rfl) rfl ?_) | (refine so_is (.assign _) ?_; (refine so_q (qt_asC rfl) rfl ?_)) | (refine so_is (.load 27 _) ?_; (refine so_q (qt_load_boxs rfl rfl (by kernel_rfl : tAgg _ 27 4 = true) rfl) rfl ?_)) | (refine so_is (.unOp .not 4 _) ?_; refine so_q (qt_not rfl) rfl ?_) | (refine so_is (.move _) ?_; (refine so_q (qt_mvC rfl) rfl ?_)) | (refine so_is (.fieldAddr 27 _ 0) ?_; (refine so_q (qt_fld_lp (off := 0) rfl (by kernel_rfl)) rfl ?_)) | (refine so_is (.load 3 _) ?_; (refine so_q (qt_load_box rfl rfl (by kernel_rfl) rfl) rfl ?_)) | (refine so_is (.pick _ _ _) ?_; (refine so_q (qt_pkC rfl rfl) rfl ?_)) | (refine so_is (.fieldAddr 27 _ 1) ?_; (refine so_q (qt_fld_lp (off := 1) rfl (by kernel_rfl)) rfl ?_)) | (refine so_is (.build 27 _) ?_; refine so_q (qt_build (cs := [_, _, _, _]) [(0, 1), (1, 1), (2, 1), (3, 1)] [.int .i64 0, .int .i64 0, .slice none 0 0, .slice none 0 0] (by kernel_rfl) (by kernel_rfl) rfl) rfl ?_) | (refine so_is (.store 27 _ _) ?_; (refine so_store_box rfl rfl rfl (by kernel_rfl) rfl rfl ?_)) | (refine so_is (.call ⟨.value (.func 29), _, _⟩) ?_; (apply so_call0 (fid := 29); (· (repeat (first | exact SeA.nil | (apply SeA.cons; (· (apply SeP.g; (repeat (first | exact SeL.nil | apply SeL.cons (.d _))))))))); (· exact IsGame_p _ _ _ _); (· rfl))) | (refine so_is (.call ⟨.value (.func 104), _, _⟩) ?_; (apply so_call0 (fid := 104); (· (repeat (first | exact SeA.nil | apply SeA.cons (.c (.d _))))); (· exact isOrder_p _ _ (by omega) (by omega)); (· rfl))) | refine so_nil ?_ | refine so_g_no rfl rfl rfl rfl ?_ | refine so_g_yes rfl rfl rfl rfl ?_ | refine so_g_b rfl rfl (fun hg => ?_) (fun hg => ?_) | refine sk_seq ?_ | refine sk_skip ?_ | refine sk_region ?_ | refine sk_drawQ 3 (fun i => i == 6) (.step 0 true (.step 1 true (.step 2 true (.step 3 true (.step 4 false (.step 5 false (.step 6 false (.step 7 true .nil)))))))) [(0, 255, 255, false), (0, 255, 255, true), (0, 255, 255, true), (0, 255, 255, false), (8, 247, 255, false), (23, 232, 255, false), (63, 223, 255, false), (127, 255, 191, true)] (by kernel_rfl) (by kernel_rfl) ?_ | refine sk_true rfl ?_ | refine sk_not rfl (fun hc => ?_) (fun hc => ?_))
      all_goals first | (exfalso; simp_all; done) | skip
      all_goals (apply sk_ret; apply ret_eq; (· apply RetOK.t; (· (apply GvA.cons; (· (apply RV.cellN (n := 4); (· rfl); (· rfl); (· kernel_rfl); (· rfl))); (· (apply GvP.g; (· (apply GvL.cons (.lit _)); (apply GvL.cons (.lit _)); ((apply GvL.cons (.nil 1 (by decide)))); ((apply GvL.cons (.nil 1 (by decide)))); exact GvL.nil)))); (apply GvA.cons; (· exact .tmp _); (· exact GvP.c (.lit _))); exact GvA.nil); (· rfl); (· (decide))))
      all_goals simp [whenN, whenL, whenA]
    | true =>
      have e' := e
      simp only [askB, hg, Bool.true_and, Bool.and_eq_true] at e'
      have l1 := orderB_len e'.1
      have l2 := orderB_len e'.2
      have m1 : ∀ x ∈ fs, 0 ≤ x ∧ x < X := fun x hx => orderB_mem (by omega) e'.1 hx
      have m2 : ∀ x ∈ ss, 0 ≤ x ∧ x < Y := fun x hx => orderB_mem (by omega) e'.2 hx
      have fl : bitsB (zerosL (X + Y).toNat) (X + Y) = true := by have := zerosL_bits (X + Y).toNat; rwa [Int.toNat_of_nonneg (by omega)] at this
      have ap := asked_p X Y ws wi fs ss _ hg m1 m2 fl (by omega) (by omega)
      have hsame := ask_same hg m1 m2 (X + Y).toNat
      rw [hsame] at ap
      refine pc_intro Try.func17 rfl rfl rfl (by kernel_rfl) rfl rfl ?_; intro _
      repeat' (first | (refine so_is (.box 27 _) ?_; refine so_box rfl rfl ?_) | (refine so_is (.alloc 27) ?_; refine so_alloc (zs := [.int .i64 0, .int .i64 0, .slice none 0 0, .slice none 0 0]) (by kernel_rfl) rfl ?_) | (refine so_is (.assign _) ?_; (refine so_q (qt_asC rfl) rfl ?_)) | (refine so_is (.load 27 _) ?_; (refine so_q (qt_load_boxs rfl rfl (by kernel_rfl : tAgg _ 27 4 = true) rfl) rfl ?_)) | (refine so_is (.unOp .not 4 _) ?_; refine so_q (qt_not rfl) rfl ?_) | (refine so_is (.move _) ?_; (refine so_q (qt_mvC rfl) rfl ?_)) | (refine so_is (.fieldAddr 27 _ 0) ?_; (refine so_q (qt_fld_lp (off := 0) rfl (by kernel_rfl)) rfl ?_)) | (refine so_is (.load 3 _) ?_; (refine so_q (qt_load_box rfl rfl (by kernel_rfl) rfl) rfl ?_)) | (refine so_is (.pick _ _ _) ?_; (refine so_q (qt_pkC rfl rfl) rfl ?_)) | (refine so_is (.fieldAddr 27 _ 1) ?_; (refine so_q (qt_fld_lp (off := 1) rfl (by kernel_rfl)) rfl ?_)) | (refine so_is (.build 27 _) ?_; refine so_q (qt_build (cs := [_, _, _, _]) [(0, 1), (1, 1), (2, 1), (3, 1)] [.int .i64 0, .int .i64 0, .slice none 0 0, .slice none 0 0] (by kernel_rfl) (by kernel_rfl) rfl) rfl ?_) | (refine so_is (.store 27 _ _) ?_; (refine so_store_box rfl rfl rfl (by kernel_rfl) rfl rfl ?_)) | (refine so_is (.call ⟨.value (.func 29), _, _⟩) ?_; ((apply so_call0 (fid := 29); (· (repeat (first | exact SeA.nil | (apply SeA.cons; (· (apply SeP.g; (repeat (first | exact SeL.nil | apply SeL.cons (.d _))))))))); (· exact IsGame_p _ _ _ _); (· rfl)))) | (refine so_is (.call ⟨.value (.func 104), _, _⟩) ?_; ((apply so_call0 (fid := 104); (· (repeat (first | exact SeA.nil | apply SeA.cons (.c (.d _))))); (· exact isOrder_p _ _ (by omega) (by omega)); (· rfl)))) | (refine so_is (.call ⟨.value (.func 105), _, _⟩) ?_; ((apply so_call0 (fid := 105); (· (repeat (first | exact SeA.nil | (apply SeA.cons; (· (apply SeP.g; (repeat (first | exact SeL.nil | apply SeL.cons (.d _))))))))); (· exact noFlips_p _ _ _ _ (by omega) (by omega) (by omega) (by omega)); (· rfl)))) | (refine so_is (.call ⟨.value (.func 93), _, _⟩) ?_; (apply so_callO0 (fid := 93); (· (repeat (first | exact SeA.nil | apply SeA.cons (.c (.d _)) | (apply SeA.cons; (· (apply SeP.g; (repeat (first | exact SeL.nil | apply SeL.cons (.d _))))))))); (· exact ap); (· rfl); (· rfl))) | refine so_nil ?_ | refine so_g_no rfl rfl rfl rfl ?_ | refine so_g_yes rfl rfl rfl rfl ?_ | refine so_g_b rfl rfl (fun hg => ?_) (fun hg => ?_) | refine sk_seq ?_ | refine sk_skip ?_ | refine sk_region ?_ | refine sk_drawQ 3 (fun i => i == 6) (.step 0 true (.step 1 true (.step 2 true (.step 3 true (.step 4 false (.step 5 false (.step 6 false (.step 7 true .nil)))))))) [(0, 255, 255, false), (0, 255, 255, true), (0, 255, 255, true), (0, 255, 255, false), (8, 247, 255, false), (23, 232, 255, false), (63, 223, 255, false), (127, 255, 191, true)] (by kernel_rfl) (by kernel_rfl) ?_ | refine sk_true rfl ?_ | refine sk_not rfl (fun hc => ?_) (fun hc => ?_))
      all_goals first | (exfalso; simp_all; done) | skip
      all_goals (apply sk_ret; apply ret_eq; (· apply RetOK.t; (· (apply GvA.cons; (· (apply RV.cellN (n := 4); (· rfl); (· rfl); (· kernel_rfl); (· rfl))); (· (apply GvP.g; (· (apply GvL.cons (.lit _)); (apply GvL.cons (.lit _)); ((apply GvL.cons (.row _ _ _ _ rfl (by ((simp; done)))))); ((apply GvL.cons (.row _ _ _ _ rfl (by ((simp; done)))))); exact GvL.nil)))); (apply GvA.cons; (· exact .tmp _); (· exact GvP.c (.lit _))); exact GvA.nil); (· rfl); (· (decide))))
      all_goals simp [whenN, whenL, whenA, askGW, askGR]

end Go.Proofs.Ytefbiejoikpkmaa

namespace Go.Proofs.Ytefbiejoikpkmaa
open Go.RowKit
set_option linter.unusedSectionVars false
variable [Glb]
set_option maxRecDepth 10000
set_option maxHeartbeats 4000000
def xorP (p q : List Int) (k : Nat) : List Int := (xorL p q).take k ++ p.drop k
theorem xorP_zero (p q : List Int) : xorP p q 0 = p := by simp [xorP]
theorem xorP_all (p q : List Int) : xorP p q p.length = xorL p q := by
  unfold xorP
  rw [List.take_of_length_le (by simp), List.drop_length, List.append_nil]
theorem xorP_len (p q : List Int) {k : Nat} (h : k ≤ p.length) : (xorP p q k).length = p.length := by simp [xorP]; omega
theorem xorP_at (p q : List Int) {k : Nat} (h : k < p.length) : atZ (xorP p q k) (k : Int) = atZ p (k : Int) := by
  rw [atZ_nat (by rw [xorP_len _ _ (by omega)]; exact h), atZ_nat h]
  unfold xorP
  rw [List.getElem_append_right (by simp; omega)]
  simp [Nat.min_eq_left (Nat.le_of_lt h)]
theorem xorP_set (p q : List Int) {k : Nat} (h : k < p.length) : (xorP p q k).set k (atZ (xorL p q) (k : Int)) = xorP p q (k + 1) := by
  unfold xorP
  have hl : ((xorL p q).take k).length = k := by simp; omega
  have hx : k < (xorL p q).length := by simpa using h
  have e : (xorL p q).take (k + 1) = (xorL p q).take k ++ [(xorL p q)[k]] := List.take_succ_eq_append_getElem hx
  rw [List.set_append_right _ _ (by omega), hl, Nat.sub_self, List.drop_eq_getElem_cons h, List.set_cons_zero, e, atZ_nat hx, List.append_assoc]
  rfl
theorem bits_xor01 {a b : Int} (ha : 0 ≤ a ∧ a ≤ 1) (hb : 0 ≤ b ∧ b ≤ 1) : bits .xor .i64 a b = ((a.toNat ^^^ b.toNat : Nat) : Int) := by
  rcases (by omega : a = 0 ∨ a = 1) with rfl | rfl <;> rcases (by omega : b = 0 ∨ b = 1) with rfl | rfl <;> rfl
theorem FlipPlay_p (X Y : Nat) (p q : List Int) (hs : sizeB X Y = true) (hp : bitsB p ((X : Int) + Y) = true) (hq : bitsB q ((X : Int) + Y) = true) : PC Try.prog 22 [.c (dI X), .c (dI Y), .c (eI p), .c (eI q)] (.t [.c (eI (xorL p q)), .c (dB true)]) := by
  have i0 := areQuestions_p X Y
  rw [hs] at i0
  have s1 := sizeB_iff.1 hs
  have w : IntKind.i64.wrap ((X : Int) + Y) = (X : Int) + Y := IntWalk.i64_in _ (by omega)
  have i1 := isPlay_p X Y p
  have i2 := isPlay_p X Y q
  rw [w, hp] at i1
  rw [w, hq] at i2
  have l1 := bitsB_len hp
  have l2 := bitsB_len hq
  refine pc_intro Try.func22 rfl rfl rfl (by kernel_rfl) rfl rfl ?_; intro _
  repeat' (first | (refine so_is (.assign _) ?_; (refine so_q (qt_asC rfl) rfl ?_)) | (refine so_is (.move _) ?_; (refine so_q (qt_mvC rfl) rfl ?_)) | (refine so_is (.unOp .not 4 _) ?_; refine so_q (qt_not rfl) rfl ?_) | (refine so_is (.pick _ _ _) ?_; (refine so_q (qt_pkC rfl rfl) rfl ?_)) | (refine so_is (.call ⟨.builtin .len, _, #[24]⟩) ?_; (refine so_q (qt_len_d rfl (by kernel_rfl)) rfl ?_)) | (refine so_is (.call ⟨.value (.func 109), _, _⟩) ?_; ((apply so_call0 (fid := 109); (· (repeat (first | exact SeA.nil | apply SeA.cons (.c (.d _))))); (· exact i0); (· rfl)))) | (refine so_is (.call ⟨.value (.func 110), _, _⟩) ?_; (first | (apply so_call0 (fid := 110); (· (repeat (first | exact SeA.nil | apply SeA.cons (.c (.d _))))); (· exact i1); (· rfl)) | (apply so_call0 (fid := 110); (· (repeat (first | exact SeA.nil | apply SeA.cons (.c (.d _))))); (· exact i2); (· rfl)))) | (refine so_is (.call ⟨.value (.func 111), _, _⟩) ?_; ((apply so_callO0 (fid := 111); (· (repeat (first | exact SeA.nil | apply SeA.cons (.c (.d _))))); (· exact copied_p _ (by omega)); (· rfl); (· rfl)))) | refine so_nil ?_ | refine so_g_yes rfl rfl rfl rfl ?_ | refine sk_seq ?_ | refine sk_block ?_ | refine sk_skip ?_ | refine sk_region ?_ | refine sk_false rfl ?_)
  all_goals first | (exfalso; omega) | (exfalso; simp_all; done) | skip
  apply sk_packC [10, 33, 34, 35] [32] rfl; (· (repeat (first | exact Pf.nil | apply Pf.cons (.c rfl (.d rfl)) | apply Pf.cons (.c rfl (.ls rfl))))); (· (repeat (first | exact Pb.nil | apply Pb.cons (.row rfl))))
  refine sk_loopL [10, 33, 34] [] (fun k => [(35, iN k)]) (fun k => [(32, .row 1 (cI (xorP p q k)))]) (fun k => k ≤ p.length) (fun k => p.length - k) (0) ?_ (by (repeat (first | exact trivial | refine ⟨(by (rfl)), ?_⟩))) (by (repeat (first | exact trivial | refine ⟨(by ((refine row_eq rfl ?_; simp  [xorP_zero]; done))), ?_⟩))) ?_
  · omega
  intro k hk
  have L := xorP_len p q hk
  by_cases hk2 : k < p.length
  · have b1 := bitsB_at hp (i := (k : Int)) (by omega) (by omega)
    have b2 := bitsB_at hq (i := (k : Int)) (by omega) (by omega)
    have e := bits_xor01 b1 b2
    have e2 := xorP_at p q hk2
    have e3 := xorP_set p q hk2
    rw [xorL_at hk2] at e3
    repeat' (first | (refine so_is (.assign _) ?_; (refine so_q (qt_asC rfl) rfl ?_)) | (refine so_is (.move _) ?_; (refine so_q (qt_mvC rfl) rfl ?_)) | (refine so_is (.binOp .lss 3 _ _ _) ?_; refine so_q (qt_lss rfl rfl) rfl ?_) | (refine so_is (.indexAddr 24 _ _) ?_; (first | refine so_q (qt_idxI rfl rfl (by kernel_rfl) (by (omega)) (by (omega))) rfl ?_ | refine so_q (qt_idx_ls rfl rfl (by kernel_rfl : tSl _ 24 1 = true) (by (omega)) (by (omega))) rfl ?_)) | (refine so_is (.load 3 _) ?_; (first | refine so_q (qt_load_pt rfl (by kernel_rfl) rfl) rfl ?_ | refine so_q (qt_load_rowI rfl rfl (by kernel_rfl) (by (omega)) (by (omega))) rfl ?_)) | (refine so_is (.binOp .xor 3 _ _ _) ?_; refine so_q (qt_bits rfl rfl (by simp)) rfl ?_) | (refine so_is (.store 3 _ _) ?_; ((refine so_store_row rfl rfl rfl rfl (.lit _) (by simp) (by simp) (by kernel_rfl) (by ((simp only [List.length_map, List.length_append, List.length_replicate, fillL_len, rowF_len, gridF_len, mkI_len, mkII_len, partZ_min] at *; omega))) rfl ?_; simp only [St.drop]))) | (refine so_is (.binOp .add 3 _ _ _) ?_; refine so_q (qt_addI rfl rfl (by (omega))) rfl ?_) | refine so_nil ?_ | refine sk_seq ?_ | refine sk_block ?_ | refine sk_blk ?_ | refine sk_exit rfl ?_ | refine sk_skip ?_ | refine sk_region ?_ | refine sk_if rfl (fun hc => ?_) (fun hc => ?_))
    all_goals first | (exfalso; omega) | skip
    refine sk_back ?_; refine ⟨k + 1, ?_, ?_, le_at rfl (by (repeat (first | exact trivial | refine ⟨(by (rfl)), ?_⟩))) (by (repeat (first | exact trivial | refine ⟨rfl, ?_⟩))) (by (repeat (first | exact trivial | refine ⟨(by ((refine row_eq rfl ?_; simp  [List.map_set, ← e3, e, e2]; done))), ?_⟩))) (by (repeat (exact trivial)))⟩
    · omega
    · omega
  · have ek : k = p.length := by omega
    subst ek
    repeat' (first | (refine so_is (.assign _) ?_; (refine so_q (qt_asC rfl) rfl ?_)) | (refine so_is (.move _) ?_; (refine so_q (qt_mvC rfl) rfl ?_)) | (refine so_is (.binOp .lss 3 _ _ _) ?_; refine so_q (qt_lss rfl rfl) rfl ?_) | (refine so_is (.indexAddr 24 _ _) ?_; (first | refine so_q (qt_idxI rfl rfl (by kernel_rfl) (by (omega)) (by (omega))) rfl ?_ | refine so_q (qt_idx_ls rfl rfl (by kernel_rfl : tSl _ 24 1 = true) (by (omega)) (by (omega))) rfl ?_)) | (refine so_is (.load 3 _) ?_; (first | refine so_q (qt_load_pt rfl (by kernel_rfl) rfl) rfl ?_ | refine so_q (qt_load_rowI rfl rfl (by kernel_rfl) (by (omega)) (by (omega))) rfl ?_)) | (refine so_is (.binOp .xor 3 _ _ _) ?_; refine so_q (qt_bits rfl rfl (by simp)) rfl ?_) | (refine so_is (.store 3 _ _) ?_; ((refine so_store_row rfl rfl rfl rfl (.lit _) (by simp) (by simp) (by kernel_rfl) (by (omega)) rfl ?_; simp only [St.drop]))) | (refine so_is (.binOp .add 3 _ _ _) ?_; refine so_q (qt_addI rfl rfl (by (omega))) rfl ?_) | refine so_nil ?_ | refine sk_seq ?_ | refine sk_block ?_ | refine sk_blk ?_ | refine sk_exit rfl ?_ | refine sk_skip ?_ | refine sk_region ?_ | refine sk_if rfl (fun hc => ?_) (fun hc => ?_))
    all_goals first | (exfalso; omega) | skip
    (apply sk_ret; apply ret_eq; (· apply RetOK.t; (· (apply GvA.cons; (· exact .tmp _); (· (exact GvP.c (.row _ _ _ _ rfl (by ((simp; omega))))))); (apply GvA.cons; (· exact .tmp _); (· exact GvP.c (.lit _))); exact GvA.nil); (· rfl); (· (decide))))
    simp [xorP_all]

end Go.Proofs.Ytefbiejoikpkmaa

namespace Go.Proofs.Ytefbiejoikpkmaa
open Go.RowKit
set_option linter.unusedSectionVars false
variable [Glb]
set_option maxRecDepth 10000
set_option maxHeartbeats 4000000
theorem equal1_p (a b : List Int) : PC Try.prog 187 [.c (eI a), .c (eI b)] (.p (.c (dB (decide (a = b))))) := by
  refine pc_intro Try.func187 rfl rfl rfl (by kernel_rfl) rfl rfl ?_; intro _
  repeat' (first | (refine so_is (.assign _) ?_; (refine so_q (qt_asC rfl) rfl ?_)) | (refine so_is (.move _) ?_; (refine so_q (qt_mvC rfl) rfl ?_)) | (refine so_is (.call ⟨.value (.func 185), _, _⟩) ?_; (apply so_call0 (fid := 185); (· (repeat (first | exact SeA.nil | apply SeA.cons (.c (.d _))))); (· exact slEqual_p _ _); (· rfl))) | refine so_nil ?_ | refine sk_seq ?_ | refine sk_region ?_)
  (apply sk_ret; apply ret_eq; (· apply RetOK.p; (· (apply GvA.cons; (· exact .tmp _); (· exact GvP.c (.lit _))); exact GvA.nil); (· (decide))))
  rfl
theorem slEqualFunc_p (a b : List (List Int)) : PC Try.prog 186 [.c (eII a), .c (eII b), .c (.fn (.func 187) [])] (.p (.c (dB (decide (a = b))))) := by
  refine pc_intro Try.func186 rfl rfl rfl (by kernel_rfl) rfl rfl ?_; rintro ⟨hl, hm, -⟩
  have hl := hl.len
  have hm := hm.len
  repeat' (first | (refine so_is (.assign _) ?_; (refine so_q (qt_asC rfl) rfl ?_)) | (refine so_is (.move _) ?_; (refine so_q (qt_mvC rfl) rfl ?_)) | (refine so_is (.call ⟨.builtin .len, _, #[25]⟩) ?_; (refine so_q (qt_len_d rfl (by kernel_rfl)) rfl ?_)) | (refine so_is (.binOp .neq 3 _ _ _) ?_; refine so_q (qt_neq rfl rfl) rfl ?_) | refine so_nil ?_ | refine sk_seq ?_ | refine sk_block ?_ | refine sk_skip ?_ | refine sk_region ?_ | refine sk_if rfl (fun hc => ?_) (fun hc => ?_))
  · (apply sk_ret; apply ret_eq; (· apply RetOK.p; (· (apply GvA.cons; (· exact .tmp _); (· exact GvP.c (.lit _))); exact GvA.nil); (· (decide))))
    have : a ≠ b := fun e => by subst e; simp at *
    simp [this]
  have hab : a.length = b.length := by simp at *; omega
  apply sk_packC [1, 2, 15, 16, 17] [] rfl; (· (repeat (first | exact Pf.nil | apply Pf.cons (.c rfl (.d rfl))))); (· (repeat (exact Pb.nil)))
  refine sk_loopL [1, 2, 15, 16] [] (fun k => [(17, iN k)]) (fun _ => []) (fun k => k ≤ a.length ∧ a.take k = b.take k) (fun k => a.length - k) (0) ?_ (by (repeat (first | exact trivial | refine ⟨(by (rfl)), ?_⟩))) (by (repeat (exact trivial))) ?_
  · simp
  rintro k ⟨hk, hs⟩
  by_cases hk' : k < a.length
  · cases he : decide (atZ a (k : Int) = atZ b (k : Int)) with
    | false =>
      have eq1 := equal1_p (atZ a (k : Int)) (atZ b (k : Int))
      rw [he] at eq1
      repeat' (first | (refine so_is (.assign _) ?_; (refine so_q (qt_asC rfl) rfl ?_)) | (refine so_is (.move _) ?_; (refine so_q (qt_mvC rfl) rfl ?_)) | (refine so_is (.binOp .lss 3 _ _ _) ?_; refine so_q (qt_lss rfl rfl) rfl ?_) | (refine so_is (.indexAddr 25 _ _) ?_; (refine so_q (qt_idxII rfl rfl (by kernel_rfl) (by (omega)) (by (omega))) rfl ?_)) | (refine so_is (.load 24 _) ?_; (refine so_q (qt_load_pt rfl (by kernel_rfl) rfl) rfl ?_)) | (refine so_is (.unOp .not 4 _) ?_; refine so_q (qt_not rfl) rfl ?_) | (refine so_is (.call ⟨.value (.tmp 26), _, _⟩) ?_; (apply so_call; (· (exact .c (.d _))); (· (repeat (first | exact SeA.nil | apply SeA.cons (.c (.d _))))); (· exact eq1); (· rfl))) | refine so_nil ?_ | refine sk_seq ?_ | refine sk_block ?_ | refine sk_exit rfl ?_ | refine sk_skip ?_ | refine sk_region ?_ | refine sk_true rfl ?_ | refine sk_if rfl (fun hc => ?_) (fun hc => ?_))
      all_goals first | (exfalso; omega) | (exfalso; simp_all; done) | skip
      (apply sk_ret; apply ret_eq; (· apply RetOK.p; (· (apply GvA.cons; (· exact .tmp _); (· exact GvP.c (.lit _))); exact GvA.nil); (· (decide))))
      have : a ≠ b := fun e => by subst e; simp at he
      simp [this]
    | true =>
      have eq1 := equal1_p (atZ a (k : Int)) (atZ b (k : Int))
      rw [he] at eq1
      repeat' (first | (refine so_is (.assign _) ?_; (refine so_q (qt_asC rfl) rfl ?_)) | (refine so_is (.move _) ?_; (refine so_q (qt_mvC rfl) rfl ?_)) | (refine so_is (.binOp .lss 3 _ _ _) ?_; refine so_q (qt_lss rfl rfl) rfl ?_) | (refine so_is (.indexAddr 25 _ _) ?_; (refine so_q (qt_idxII rfl rfl (by kernel_rfl) (by (omega)) (by (omega))) rfl ?_)) | (refine so_is (.load 24 _) ?_; (refine so_q (qt_load_pt rfl (by kernel_rfl) rfl) rfl ?_)) | (refine so_is (.unOp .not 4 _) ?_; refine so_q (qt_not rfl) rfl ?_) | (refine so_is (.binOp .add 3 _ _ _) ?_; refine so_q (qt_addI rfl rfl (by (omega))) rfl ?_) | (refine so_is (.call ⟨.value (.tmp 26), _, _⟩) ?_; (apply so_call; (· (exact .c (.d _))); (· (repeat (first | exact SeA.nil | apply SeA.cons (.c (.d _))))); (· exact eq1); (· rfl))) | refine so_nil ?_ | refine sk_seq ?_ | refine sk_block ?_ | refine sk_blk ?_ | refine sk_exit rfl ?_ | refine sk_skip ?_ | refine sk_region ?_ | refine sk_false rfl ?_ | refine sk_if rfl (fun hc => ?_) (fun hc => ?_))
      all_goals first | (exfalso; omega) | (exfalso; simp_all; done) | skip
      refine sk_back ?_; refine ⟨k + 1, ?_, ?_, le_at rfl (by (repeat (first | exact trivial | refine ⟨(by (rfl)), ?_⟩))) (by (repeat (first | exact trivial | refine ⟨rfl, ?_⟩))) (by (repeat (exact trivial))) (by (repeat (exact trivial)))⟩
      · have he := of_decide_eq_true he
        rw [atZ_nat (by omega), atZ_nat (by omega)] at he
        exact ⟨by omega, by rw [List.take_succ_eq_append_getElem (by omega), List.take_succ_eq_append_getElem (by omega), hs]; rw [he]⟩
      · omega
  · have e : k = a.length := by omega
    subst e
    rw [List.take_length, hab, List.take_length] at hs
    repeat' (first | (refine so_is (.assign _) ?_; (refine so_q (qt_asC rfl) rfl ?_)) | (refine so_is (.move _) ?_; (refine so_q (qt_mvC rfl) rfl ?_)) | (refine so_is (.binOp .lss 3 _ _ _) ?_; refine so_q (qt_lss rfl rfl) rfl ?_) | (refine so_is (.indexAddr 25 _ _) ?_; (refine so_q (qt_idxII rfl rfl (by kernel_rfl) (by (omega)) (by (omega))) rfl ?_)) | (refine so_is (.load 24 _) ?_; (refine so_q (qt_load_pt rfl (by kernel_rfl) rfl) rfl ?_)) | (refine so_is (.unOp .not 4 _) ?_; refine so_q (qt_not rfl) rfl ?_) | (refine so_is (.binOp .add 3 _ _ _) ?_; refine so_q (qt_addI rfl rfl (by (omega))) rfl ?_) | (refine so_is (.call ⟨.value (.tmp 26), _, _⟩) ?_; (apply so_call; (· (exact .c (.d _))); (· (repeat (first | exact SeA.nil | apply SeA.cons (.c (.d _))))); (· exact equal1_p _ _); (· rfl))) | refine so_nil ?_ | refine sk_seq ?_ | refine sk_block ?_ | refine sk_blk ?_ | refine sk_exit rfl ?_ | refine sk_skip ?_ | refine sk_region ?_ | refine sk_if rfl (fun hc => ?_) (fun hc => ?_) | refine sk_nif rfl (fun hc => ?_) (fun hc => ?_))
    all_goals first | (exfalso; omega) | skip
    (apply sk_ret; apply ret_eq; (· apply RetOK.p; (· (apply GvA.cons; (· exact .tmp _); (· exact GvP.c (.lit _))); exact GvA.nil); (· (decide))))
    simp [hs]
theorem gameEqual_p (x y : Int) (ws : List Int) (wi : List (List Int)) (x2 y2 : Int) (ws2 : List Int) (wi2 : List (List Int)) : PC Try.prog 94 [.g [dI x, dI y, eI ws, eII wi], .g [dI x2, dI y2, eI ws2, eII wi2]] (.p (.c (dB (decide (ws = ws2) && decide (wi = wi2))))) := by
  refine pc_intro Try.func94 rfl rfl rfl (by kernel_rfl) rfl rfl ?_; intro _
  repeat' (first | (refine so_is (.box 27 _) ?_; refine so_box rfl rfl ?_) | (refine so_is (.assign _) ?_; (refine so_q (qt_asC rfl) rfl ?_)) | (refine so_is (.fieldAddr 27 _ 2) ?_; (refine so_q (qt_fld_lp (off := 2) rfl (by kernel_rfl)) rfl ?_)) | (refine so_is (.load 24 _) ?_; (refine so_q (qt_load_box rfl rfl (by kernel_rfl) rfl) rfl ?_)) | (refine so_is (.move _) ?_; (refine so_q (qt_mvC rfl) rfl ?_)) | (refine so_is (.fieldAddr 27 _ 3) ?_; (refine so_q (qt_fld_lp (off := 3) rfl (by kernel_rfl)) rfl ?_)) | (refine so_is (.load 25 _) ?_; (refine so_q (qt_load_box rfl rfl (by kernel_rfl) rfl) rfl ?_)) | (refine so_is (.pick _ _ _) ?_; (refine so_q (qt_pkC rfl rfl) rfl ?_)) | (refine so_is (.call ⟨.value (.func 185), _, _⟩) ?_; (apply so_call0 (fid := 185); (· (repeat (first | exact SeA.nil | apply SeA.cons (.c (.d _))))); (· exact slEqual_p _ _); (· rfl))) | (refine so_is (.call ⟨.value (.func 186), _, _⟩) ?_; (apply so_call0 (fid := 186); (· (repeat (first | exact SeA.nil | apply SeA.cons (.c (.d _))))); (· exact slEqualFunc_p _ _); (· rfl))) | refine so_nil ?_ | refine so_g_no rfl rfl rfl rfl ?_ | refine so_g_yes rfl rfl rfl rfl ?_ | refine so_g_if rfl rfl (fun hg => ?_) (fun hg => ?_) | refine sk_seq ?_ | refine sk_region ?_)
  all_goals (apply sk_ret; apply ret_eq; (· apply RetOK.p; (· (apply GvA.cons; (· exact .tmp _); (· exact GvP.c (.lit _))); exact GvA.nil); (· (decide))))
  all_goals simp_all

end Go.Proofs.Ytefbiejoikpkmaa

namespace Go.Proofs.Ytefbiejoikpkmaa
open Go.RowKit
set_option linter.unusedSectionVars false
variable [Glb]
open Go Go.RowKit
/-! a whole row that is looked at only -/
theorem dem_all (b : Nat) {n : Nat} {ds : List D} (hn : n = ds.length) : C.dem b ds (.ls b 1 0 n) = .d (.sl 1 n ds) := by
  subst hn
  have b1 : Nat.beq b b = true := by simp
  have b2 : Nat.blt 0 1 = true := rfl
  have b3 : ds.length.ble ds.length = true := by simp
  simp [C.dem, b1, b2, b3]
theorem dem_slot {st : St} (t b : Nat) {n : Nat} {ds : List D} (hb : st.fr t = .c (C.dem b ds (.ls b 1 0 n))) (hn : n = ds.length) : ∀ w0 a w, Sim w0 st a w → Sim w0 (st.put t (.c (.d (.sl 1 n ds)))) a w :=
  sim_sloteq t (.c (.d (.sl 1 n ds))) hb (by rw [dem_all b hn])

end Go.Proofs.Ytefbiejoikpkmaa

namespace Go.Proofs.Ytefbiejoikpkmaa
open Go.RowKit
set_option linter.unusedSectionVars false
variable [Glb]
open Go Go.RowKit
/-! cells of a row, set one by one -/
theorem setCell_at {w : World} {g o : Nat} {v : Value} {cs : Array Value} {E : TypeId} {t : Nat × Nat} (hg : w.heap[g]? = some (.cells cs E t)) : (w.setCell ⟨g, o, none⟩ v).heap[g]? = some (.cells (cs.setIfInBounds o v) E t) := by
  unfold World.setCell
  simp [Array.getElem?_modify, hg]
theorem setCells_row {g : Nat} {E : TypeId} {t : Nat × Nat} : ∀ (vs : List Value) (o : Nat) (w : World) (cs : Array Value), w.heap[g]? = some (.cells cs E t) →
    ∃ cs', (w.setCells g o vs).heap[g]? = some (.cells cs' E t) ∧ cs'.size = cs.size ∧ ∀ k, k < cs.size → cs'[k]? = if o ≤ k ∧ k < o + vs.length then vs[k - o]? else cs[k]?
  | [], o, w, cs, hg => ⟨cs, hg, rfl, fun k _ => by rw [if_neg (by simp)]⟩
  | v :: vs, o, w, cs, hg => by
    obtain ⟨cs', h1, h2, h3⟩ := setCells_row vs (o + 1) (w.setCell ⟨g, o, none⟩ v) _ (setCell_at hg)
    refine ⟨cs', h1, by rw [h2]; simp, fun k hk => ?_⟩
    rw [h3 k (by simpa using hk)]
    by_cases e : k = o
    · subst e
      rw [if_neg (by omega), if_pos (by simp)]
      simp [hk]
    · by_cases h : o + 1 ≤ k ∧ k < o + 1 + vs.length
      · rw [if_pos h, if_pos (by simp; omega), show k - o = (k - (o + 1)) + 1 by omega]; simp
      · rw [if_neg h, if_neg (by simp; omega)]
        rw [Array.getElem?_setIfInBounds_ne (by omega)]
theorem setCells_rest (g : Nat) : ∀ (vs : List Value) (o : Nat) (w : World), (w.setCells g o vs).os = w.os ∧ (w.setCells g o vs).tape = w.tape ∧ (w.setCells g o vs).output = w.output ∧ (w.setCells g o vs).heap.size = w.heap.size ∧ ∀ k, k ≠ g → (w.setCells g o vs).heap[k]? = w.heap[k]?
  | [], o, w => ⟨rfl, rfl, rfl, rfl, fun _ _ => rfl⟩
  | v :: vs, o, w => by
    obtain ⟨h1, h2, h3, h4, h5⟩ := setCells_rest g vs (o + 1) (w.setCell ⟨g, o, none⟩ v)
    refine ⟨h1, h2, h3, by rw [World.setCells, h4]; simp [World.setCell], fun k hk => ?_⟩
    rw [World.setCells, h5 k hk]
    unfold World.setCell
    simp [Array.getElem?_modify, Ne.symm hk]
theorem ow_ints {w : World} {g cap : Nat} {E : TypeId} {cs : Array Value} {M : List Int} (hg : w.heap[g]? = some (.cells cs E (0, 0))) (hle : cap ≤ 9223372036854775807) (hnc : M.length ≤ cap) (_ : M.length ≤ 9223372036854775807) (hcap : cap ≤ cs.size)
    (hc : ∀ k, (hk : k < M.length) → cs[k]? = some (.int .i64 M[k])) : Ow w (.slice (some ⟨g, 0, none⟩) M.length cap) (.sl 1 M.length (M.map fun k => .lit (.int .i64 k))) [g] := by
  have e : [g] = g :: parts (M.map fun k => D.lit (.int .i64 k)).length (fun _ => []) := by simp [parts]
  rw [e]
  refine .sl g M.length cap 1 E cs _ (fun k => .int .i64 (M.getD k 0)) (fun _ => []) (by simp) (by decide) hle hg hnc (by omega) (fun k hk => ?_) fun k hk => ?_
  · have hk' : k < M.length := by simpa using hk
    rw [hc k hk']
    simp [hk']
  · rw [List.getElem_map]
    have hk' : k < M.length := by simpa using hk
    rw [List.getD_eq_getElem?_getD, List.getElem?_eq_getElem hk']
    exact .lit _ rfl
theorem alloc_new (w : World) (o : Obj) : (w.alloc o).heap[w.heap.size]? = some o := by show (w.heap.push o)[w.heap.size]? = _; simp
theorem alloc_old (w : World) (o : Obj) {k : Nat} (h : k < w.heap.size) : (w.alloc o).heap[k]? = w.heap[k]? := by
  show (w.heap.push o)[k]? = _
  rw [Array.getElem?_push, if_neg (by omega)]
theorem alloc_size (w : World) (o : Obj) : (w.alloc o).heap.size = w.heap.size + 1 := by show (w.heap.push o).size = _; simp
theorem alloc_le (w : World) (o : Obj) : w.heap.size ≤ (w.alloc o).heap.size := by rw [alloc_size]; omega

end Go.Proofs.Ytefbiejoikpkmaa

namespace Go.Proofs.Ytefbiejoikpkmaa
open Go.RowKit
set_option linter.unusedSectionVars false
variable [Glb]
set_option maxRecDepth 10000
set_option maxHeartbeats 4000000
open Go.Shelf Go.Proofs
def Try.laysNm221_ren_slices_Insert_int_shiftslices_Insert_int_end_roomslices_Insert_int_end_growslices_Insert_int_grow : Go.Shelf.Ren := ⟨fun | 21 => 183 | 27 => 224 | 28 => 225 | 35 => 237 | 39 => 254 | n => n, fun | 22 => 24 | 3 => 3 | 4 => 4 | 0 => 0 | n => n, fun | n => n⟩
theorem Try.laysNm221_slices_Insert_int_shiftslices_Insert_int_end_roomslices_Insert_int_end_growslices_Insert_int_grow : Go.Proofs.Lays2.n21 Try.prog Try.laysNm221_ren_slices_Insert_int_shiftslices_Insert_int_end_roomslices_Insert_int_end_growslices_Insert_int_grow := {
  mixed := by kernel_rfl
  f21 := Try.func183.trans (congrArg some (by kernel_rfl))
  f27 := Try.func224.trans (congrArg some (by kernel_rfl))
  f28 := Try.func225.trans (congrArg some (by kernel_rfl))
  f35 := Try.func237.trans (congrArg some (by kernel_rfl))
  f39 := Try.func254.trans (congrArg some (by kernel_rfl))
  t0 := Try.underlying0
  a0 := Try.isAgg0
  z0 := Try.sizeOf0
  v0 := Try.zeroValue0
  t3 := Try.underlying3
  a3 := Try.isAgg3
  z3 := Try.sizeOf3
  v3 := Try.zeroValue3
  t4 := Try.underlying4
  a4 := Try.isAgg4
  z4 := Try.sizeOf4
  v4 := Try.zeroValue4
  t22 := Try.underlying24
  a22 := Try.isAgg24
  z22 := Try.sizeOf24
  v22 := Try.zeroValue24
  i3 := by kernel_rfl }
open Go.RowKit Go.Lib in
theorem Try.slices_Insert_int_shift (b off n c i vb voff m vc : Nat) (cs vs : List Value) (w : World) (hi : i < n) (hm : 0 < m) (hroom : n + m ≤ c) (hc63 : c ≤ 9223372036854775807) (hvb : vb ≠ b) (hcl : cs.length = n) (hvl : vs.length = m) (hcs : ∀ j v, cs[j]? = some v → w.cell? ⟨b, off + j, none⟩ = some v) (hsp : ∀ j, j < n + m → (w.cell? ⟨b, off + j, none⟩).isSome = true) (hfz : ∀ j, j < n + m → w.frozen? ⟨b, off + j, none⟩ = false) (hvs : ∀ j v, vs[j]? = some v → w.cell? ⟨vb, voff + j, none⟩ = some v) (h1c : ∀ v ∈ cs, v.oneCell' = true) (h1v : ∀ v ∈ vs, v.oneCell' = true) (tA tB : TypeId) (kA kB : Nat) (hsa : w.shape? vb = some (tA, kA)) (hsb : w.shape? b = some (tB, kB)) (hkB : kB ≠ 0) (hfa : w.frozen? ⟨vb, voff, none⟩ = false) (hfe : w.frozen? ⟨vb, kA, none⟩ = false) :
    Calls Try.prog 183 #[.slice (some ⟨b, off, none⟩) n c, .int .i64 i, .slice (some ⟨vb, voff, none⟩) m vc] w fun e w' => e = .returned (.slice (some ⟨b, off, none⟩) (n + m) c) ∧ w' = (w.drew.setCells b (off + (i + m)) (cs.drop i)).setCells b (off + i) vs := Any2.slices_Insert_int_shift Try.laysNm221_slices_Insert_int_shiftslices_Insert_int_end_roomslices_Insert_int_end_growslices_Insert_int_grow b off n c i vb voff m vc cs vs w hi hm hroom hc63 hvb hcl hvl hcs hsp hfz hvs h1c h1v tA tB kA kB hsa hsb hkB hfa hfe
open Go.RowKit Go.Lib in
theorem Try.slices_Insert_int_end_room (b off n c vb voff m vc : Nat) (vs : List Value) (w : World) (hm : 0 < m) (hroom : n + m ≤ c) (hc63 : c ≤ 9223372036854775807) (hvl : vs.length = m) (hsp : ∀ j, j < m → (w.cell? ⟨b, off + n + j, none⟩).isSome = true) (hfz : ∀ j, j < m → w.frozen? ⟨b, off + n + j, none⟩ = false) (hvs : ∀ j v, vs[j]? = some v → w.cell? ⟨vb, voff + j, none⟩ = some v) (h1v : ∀ v ∈ vs, v.oneCell' = true) :
    Calls Try.prog 183 #[.slice (some ⟨b, off, none⟩) n c, .int .i64 n, .slice (some ⟨vb, voff, none⟩) m vc] w fun e w' => e = .returned (.slice (some ⟨b, off, none⟩) (n + m) c) ∧ w' = w.setCells b (off + n) vs := Any2.slices_Insert_int_end_room Try.laysNm221_slices_Insert_int_shiftslices_Insert_int_end_roomslices_Insert_int_end_growslices_Insert_int_grow b off n c vb voff m vc vs w hm hroom hc63 hvl hsp hfz hvs h1v
open Go.RowKit Go.Lib in
theorem Try.slices_Insert_int_end_grow (base : Option Addr) (n c vb voff m vc : Nat) (cs vs : List Value) (w : World) (hm : 0 < m) (hnc : n ≤ c) (hroom : c < n + m) (hbig : (n + m) * 8 ≤ 140737488355328) (hcl : cs.length = n) (hvl : vs.length = m) (hnil : base = none → n = 0) (hcs : ∀ a, base = some a → ∀ j v, cs[j]? = some v → w.cell? (a.add j) = some v) (hvs : ∀ j v, vs[j]? = some v → w.cell? ⟨vb, voff + j, none⟩ = some v) (h1v : ∀ v ∈ vs, v.oneCell' = true) :
    Calls Try.prog 183 #[.slice base n c, .int .i64 n, .slice (some ⟨vb, voff, none⟩) m vc] w fun e w' => e = .returned (.slice (some ⟨w.heap.size, 0, none⟩) (n + m) (grownCap w (n + m) c 3)) ∧ w' = w.drew.alloc (.cells ((cs ++ vs).toArray ++ Builtin.zeroCells (Value.int .i64 0).cells (grownCap w (n + m) c 3 - (n + m))) 3) := Any2.slices_Insert_int_end_grow Try.laysNm221_slices_Insert_int_shiftslices_Insert_int_end_roomslices_Insert_int_end_growslices_Insert_int_grow base n c vb voff m vc cs vs w hm hnc hroom hbig hcl hvl hnil hcs hvs h1v
open Go.RowKit Go.Lib in
theorem Try.slices_Insert_int_grow (b off n c i vb voff m vc : Nat) (cs vs : List Value) (w : World) (hi : i < n) (hm : 0 < m) (hnc : n ≤ c) (hroom : c < n + m) (hbig : (n + m) * 8 ≤ 140737488355328) (hcl : cs.length = n) (hvl : vs.length = m) (hcs : ∀ j v, cs[j]? = some v → w.cell? ⟨b, off + j, none⟩ = some v) (hvs : ∀ j v, vs[j]? = some v → w.cell? ⟨vb, voff + j, none⟩ = some v) (h1c : ∀ v ∈ cs, v.oneCell' = true) (h1v : ∀ v ∈ vs, v.oneCell' = true) :
    Calls Try.prog 183 #[.slice (some ⟨b, off, none⟩) n c, .int .i64 i, .slice (some ⟨vb, voff, none⟩) m vc] w fun e w' => e = .returned (.slice (some ⟨w.heap.size, 0, none⟩) (n + m) (grownCap w (n + m) c 3)) ∧ w' = (((w.alloc (.cells ((cs.take i).toArray ++ Builtin.zeroCells (Value.int .i64 0).cells (n + m - i) ++ Builtin.zeroCells (Value.int .i64 0).cells (grownCap w (n + m) c 3 - (n + m))) 3)).drew.setCells w.heap.size i vs).drew).setCells w.heap.size (i + m) (cs.drop i) := Any2.slices_Insert_int_grow Try.laysNm221_slices_Insert_int_shiftslices_Insert_int_end_roomslices_Insert_int_end_growslices_Insert_int_grow b off n c i vb voff m vc cs vs w hi hm hnc hroom hbig hcl hvl hcs hvs h1c h1v

end Go.Proofs.Ytefbiejoikpkmaa

namespace Go.Proofs.Ytefbiejoikpkmaa
open Go.RowKit
set_option linter.unusedSectionVars false
variable [Glb]
open Go Go.RowKit
/-! lists of structs -/
section
variable {α : Type} {c : α → List D} {n : Nat}
/-- a list that is filled from the front -/
def fillS (c : α → List D) (z : List D) (l : List α) (k : Nat) : List D := (l.take k).flatMap c ++ repL' (l.length - k) z
end
/-! marks -/
def mkS {α : Type} (m : Int → α → α) (w : α → Nat) : Int → List α → List α
  | _, [] => []
  | k, r :: l => m k r :: mkS m w (k + w r) l
def cntS {α : Type} (w : α → Nat) : List α → Nat
  | [] => 0
  | r :: l => w r + cntS w l
def mkSL {α : Type} (m : Int → α → α) (w : α → Nat) (l : List α) (k : Int) (j : Nat) : List α := mkS m w k (l.take j) ++ l.drop j
section
variable {α : Type} {m : Int → α → α} {w : α → Nat}
@[simp] theorem mkS_len : ∀ (k : Int) (l : List α), (mkS m w k l).length = l.length
  | _, [] => rfl
  | k, r :: l => by simp [mkS, mkS_len]
end
/-! calls, rules -/
abbrev CallE := Int × Int × Unit
def mC (k : Int) (_ : CallE) : CallE := (k, k + 1, ())
def wC (_ : CallE) : Nat := 2
abbrev RuleE := List Int × List (List Int) × List (List Int) × Unit
def mU (k : Int) (e : RuleE) : RuleE := (mkI k e.1.length, mkII (k + e.1.length) e.2.1, mkII (k + e.1.length + cnt e.2.1) e.2.2.1, ())
def wU (e : RuleE) : Nat := e.1.length + cnt e.2.1 + cnt e.2.2.1
/-- the cells that a list of rules holds -/
def zU (e : RuleE) : Nat := e.1.length + e.2.1.length + cnt e.2.1 + e.2.2.1.length + cnt e.2.2.1
end Go.Proofs.Ytefbiejoikpkmaa

namespace Go.Proofs.Ytefbiejoikpkmaa
open Go.RowKit
set_option linter.unusedSectionVars false
variable [Glb]
open Go
/-! mixtures of wirings -/
def wirR (la lb : List (List Int)) (r s : RuleE) : List (List Int) := wiredL la lb r.1 r.2.1 r.2.2.1 s.1 s.2.1 s.2.2.1
def wirOK (xa ya na : Int) (la : List (List Int)) (xb yb nb : Int) (lb : List (List Int)) (r s : RuleE) : Bool := wireOK xa ya na la xb yb nb lb r.1 r.2.1 r.2.2.1 s.1 s.2.1 s.2.2.1
def mwN (w : Int) : Nat → Int
  | 0 => 0
  | 1 => w
  | k + 2 => mwN w (k + 1) + w
def mwL (la lb : List (List Int)) (l1 l2 : List RuleE) : Nat → List (List Int)
  | 0 => []
  | 1 => wirR la lb (atZ l1 ((0 : Nat) : Int)) (atZ l2 ((0 : Nat) : Int))
  | k + 2 => bmixL (mwL la lb l1 l2 (k + 1)) (wirR la lb (atZ l1 ((k + 1 : Nat) : Int)) (atZ l2 ((k + 1 : Nat) : Int))) 2 2
def mwOK (xa ya na : Int) (la : List (List Int)) (xb yb nb : Int) (lb : List (List Int)) (l1 l2 : List RuleE) : Nat → Bool
  | 0 => true
  | k + 1 => mwOK xa ya na la xb yb nb lb l1 l2 k && (wirOK xa ya na la xb yb nb lb (atZ l1 (k : Int)) (atZ l2 (k : Int)) && decide (mwN (na * nb) (k + 1) ≤ 1000))
def mwB (xa ya na : Int) (la : List (List Int)) (xb yb nb : Int) (lb : List (List Int)) (l1 l2 : List RuleE) : Bool := (decide (0 < l1.length) && decide (l1.length = l2.length)) && mwOK xa ya na la xb yb nb lb l1 l2 l1.length
section
variable {xa ya na : Int} {la : List (List Int)} {xb yb nb : Int} {lb : List (List Int)} {l1 l2 : List RuleE}
end
def q2 : Nat → Int
  | 0 => 0
  | _ + 1 => 2
end Go.Proofs.Ytefbiejoikpkmaa

namespace Go.Proofs.Ytefbiejoikpkmaa
open Go.RowKit
set_option linter.unusedSectionVars false
variable [Glb]
set_option maxRecDepth 10000
set_option maxHeartbeats 4000000
theorem insN_get {l : List Int} {i : Nat} {x : Int} (hi : i ≤ l.length) {k : Nat} (hk : k < (insN l i x).length) : (insN l i x)[k]? = if k < i then l[k]? else if k = i then some x else l[k - 1]? := by
  unfold insN
  by_cases h1 : k < i
  · rw [if_pos h1, List.getElem?_append_left (by simp; omega), List.getElem?_take, if_pos h1]
  · rw [if_neg h1, List.getElem?_append_right (by simp; omega)]
    by_cases h2 : k = i
    · subst h2; simp [Nat.min_eq_left hi]
    · rw [if_neg h2, show k - (l.take i).length = (k - i - 1) + 1 by simp; omega, List.getElem?_cons_succ, List.getElem?_drop]
      congr 1; omega
theorem insert_t (l : List Int) (i : Nat) (x : Int) (hi : i ≤ l.length) (hl : l.length ≤ 1000) : PT Try.prog 183 [.c (eI l), .c (dI i), .c (eI [x])] (.p (.c (eI (insN l i x)))) := by
  refine ⟨Go.Proofs.enters_of Try.func183 (by kernel_rfl) rfl, fun w us Fs ho hnd ok gl => ?_⟩
  have ho' : OwC w us [eI l, dI i, eI [x]] Fs := ho
  have hML : (insN l i x).length = l.length + 1 := insN_len l x hi
  cases ho' with
  | cons h1 t =>
  cases t with
  | cons h2 t =>
  cases t with
  | cons h3 t =>
  cases t
  rename_i v1 F1 v2 F2 v3 F3
  cases h2
  have hv : asmL [RP.c (eI l), RP.c (dI i), RP.c (eI [x])] [v1, .int .i64 i, v3] = [v1, .int .i64 i, v3] := rfl
  rw [hv]
  obtain ⟨q, hq⟩ : ∃ q, q = eI [x] := ⟨_, rfl⟩
  rw [← hq] at h3
  cases h3 with
  | lit v h => cases hq
  | any v h => cases hq
  | nil sz hz => simp [eI] at hq
  | sl vb n3 vc sz3 E3 cs3 ds3 us3 Fs3 hn3 hz3 hle3 hg3 hnc3 hcap3 hc3 hr3 =>
    simp only [eI, D.sl.injEq] at hq
    obtain ⟨rfl, rfl, rfl⟩ := hq
    simp only [List.length_map, List.length_cons, List.length_nil, Nat.zero_add, Nat.one_mul, Nat.mul_one] at hn3 hnc3 hcap3 hc3 hr3
    have c3 : cs3[0]? = some (.int .i64 x) := by
      have a := hc3 0 (by decide)
      have b := hr3 0 (by decide)
      rw [List.getElem_map] at b
      simp only [List.getElem_cons_zero] at b
      have : us3 0 = .int .i64 x := by
        generalize us3 0 = u at b
        generalize Fs3 0 = F at b
        cases b; rfl
      rw [a, this]
    have hvs : ∀ j v, [Value.int .i64 x][j]? = some v → w.cell? ⟨vb, 0 + j, none⟩ = some v := fun j v hj => by
      have h0 : j = 0 := by have := (List.getElem?_eq_some_iff.1 hj).1; simp at this; exact this
      subst h0
      rw [cell_of_row w vb _ cs3 E3 (0, 0) hg3, c3]
      simpa using hj
    have h1v : ∀ v ∈ [Value.int .i64 x], v.oneCell' = true := fun v hv => by simp at hv; subst hv; rfl
    obtain ⟨y, hy⟩ : ∃ y, y = eI l := ⟨_, rfl⟩
    rw [← hy] at h1
    -- a new row
    have fresh : ∀ {W' : World} {cap : Nat} {E : TypeId} {cs : Array Value}, W'.heap[w.heap.size]? = some (.cells cs E (0, 0)) → l.length + 1 ≤ cap → cap ≤ maxLen → cap ≤ cs.size → (∀ k, (hk : k < (insN l i x).length) → cs[k]? = some (.int .i64 (insN l i x)[k])) →
        W'.os = w.os → W'.tape = w.tape → W'.output = w.output → w.heap.size ≤ W'.heap.size → (∀ k, k < w.heap.size → W'.heap[k]? = w.heap[k]?) →
        ∃ v F, Ending.returned (.slice (some ⟨w.heap.size, 0, none⟩) (l.length + 1) cap) = .returned v ∧ OwR W' v (.p (.c (eI (insN l i x)))) F ∧ F.Nodup ∧ (∀ g ∈ F, g ∈ ([F1, [], vb :: parts (cI [x]).length Fs3] : List (List Nat)).flatten ∨ w.heap.size ≤ g) ∧ Kp ⟨w, fun g => g ∈ ([F1, [], vb :: parts (cI [x]).length Fs3] : List (List Nat)).flatten, fun _ => none, fun _ _ => rfl, ok, gl⟩ w W' := by
      intro W' cap E cs hg hcap1 hmx hcap2 hc e1 e2 e3 e4 e5
      refine ⟨_, [w.heap.size], rfl, .p (.c ?_), by simp, fun g hg => by simp at hg; exact .inr (by omega), ⟨e1, e2, e3, e4, fun k cs E hk => ⟨cs, by rw [e5 k (Array.getElem?_eq_some_iff.1 hk).1]; exact hk, rfl⟩, fun k hk => ?_⟩⟩
      · have := ow_ints (M := insN l i x) (cap := cap) hg (by unfold maxLen at hmx; omega) (by omega) (by omega) hcap2 hc
        rw [hML] at this
        rw [eI, hML]
        exact this
      · by_cases hlt : k < w.heap.size
        · exact e5 k hlt
        · exact absurd (.inl (Nat.le_of_not_lt hlt)) hk
    cases h1 with
    | lit v h => cases hy
    | any v h => cases hy
    | nil sz hz =>
      simp only [eI, D.sl.injEq] at hy
      have hl0 : l = [] := List.length_eq_zero_iff.1 hy.2.1.symm
      subst hl0
      have hi0 : i = 0 := by simpa using hi
      subst hi0
      refine Calls.mono (Try.slices_Insert_int_end_grow none 0 0 vb 0 1 vc [] [.int .i64 x] w (by decide) (by decide) (by decide) (by decide) rfl rfl (fun _ => rfl) (fun a ha => by cases ha) hvs h1v) ?_
      rintro e w' ⟨rfl, rfl⟩
      have gc := grownCap_ge w (0 + 1) 0 3
      have gm := grownCap_le_maxLen w (0 + 1) 0 3 (by decide)
      generalize grownCap w (0 + 1) 0 3 = G at *
      refine fresh (alloc_new w.drew _) gc gm (by simp [Builtin.zeroCells, Value.cells]; omega) (fun k hk => ?_) rfl rfl rfl (alloc_le w.drew _) (fun k hk => ?_)
      · have : k = 0 := by simp [insN] at hk; omega
        subst this
        rw [Array.getElem?_append_left (by simp)]
        simp [insN]
      · exact alloc_old w.drew _ hk
    | sl g n cap sz E cs ds us Fs hn hz hle hg hnc hcap hc hr =>
      simp only [eI, D.sl.injEq] at hy
      obtain ⟨rfl, rfl, rfl⟩ := hy
      simp only [List.length_map, Nat.mul_one] at hn hcap hc hr
      have hcell : ∀ j (hj : j < l.length), cs[j]? = some (.int .i64 l[j]) := fun j hj => by
        have h1 := hc j (by simpa using hj)
        have h2 := hr j (by simpa using hj)
        rw [List.getElem_map] at h2
        have : us j = .int .i64 l[j] := by
          generalize us j = u at h2
          generalize Fs j = F at h2
          cases h2; rfl
        rw [h1, this]
      have hvg : vb ≠ g := fun e => by
        subst e
        simp [List.nodup_cons] at hnd
      have hxc : ∀ j, j < cap → (w.cell? ⟨g, 0 + j, none⟩).isSome = true := fun j hj => by
        rw [cell_of_row w g _ cs E (0, 0) hg, Array.getElem?_eq_getElem (by omega)]; rfl
      have hfz : ∀ j, w.frozen? ⟨g, 0 + j, none⟩ = false := fun j => by simp [World.frozen?, hg]
      obtain ⟨C, hC⟩ : ∃ C : List Value, C = l.map (Value.int .i64) := ⟨_, rfl⟩
      have hCl : C.length = l.length := by rw [hC, List.length_map]
      have hCg : ∀ j (hj : j < l.length), C[j]? = some (.int .i64 l[j]) := fun j hj => by rw [hC]; simp [hj]
      have hcs : ∀ j v, C[j]? = some v → w.cell? ⟨g, 0 + j, none⟩ = some v := fun j v hj => by
        have hj' : j < l.length := by have := (List.getElem?_eq_some_iff.1 hj).1; omega
        rw [cell_of_row w g _ cs E (0, 0) hg, Nat.zero_add, hcell j hj', ← hCg j hj', hj]
      have h1c : ∀ v ∈ C, v.oneCell' = true := fun v hv => by rw [hC] at hv; obtain ⟨k, _, rfl⟩ := List.mem_map.1 hv; rfl
      -- the old row
      have inpl : ∀ {W' : World} {cs' : Array Value}, W'.heap[g]? = some (.cells cs' E (0, 0)) → cs'.size = cs.size → l.length + 1 ≤ cap → (∀ k, (hk : k < (insN l i x).length) → cs'[k]? = some (.int .i64 (insN l i x)[k])) →
          W'.os = w.os → W'.tape = w.tape → W'.output = w.output → W'.heap.size = w.heap.size → (∀ k, k ≠ g → W'.heap[k]? = w.heap[k]?) →
          ∃ v F, Ending.returned (.slice (some ⟨g, 0, none⟩) (l.length + 1) cap) = .returned v ∧ OwR W' v (.p (.c (eI (insN l i x)))) F ∧ F.Nodup ∧ (∀ k ∈ F, k ∈ ([g :: parts (cI l).length Fs, [], vb :: parts (cI [x]).length Fs3] : List (List Nat)).flatten ∨ w.heap.size ≤ k) ∧ Kp ⟨w, fun k => k ∈ ([g :: parts (cI l).length Fs, [], vb :: parts (cI [x]).length Fs3] : List (List Nat)).flatten, fun _ => none, fun _ _ => rfl, ok, gl⟩ w W' := by
        intro W' cs' h1 h2 h3 h4 e1 e2 e3 e4 e5
        refine ⟨_, [g], rfl, .p (.c ?_), by simp, fun k hk => by simp at hk; subst hk; exact .inl (by simp), ⟨e1, e2, e3, by omega, fun k c E' hk => ?_, fun k hk => ?_⟩⟩
        · have := ow_ints (M := insN l i x) (cap := cap) h1 hle (by omega) (by omega) (by omega) h4
          rw [hML] at this
          rw [eI, hML]
          exact this
        · by_cases hkg : k = g
          · subst hkg
            rw [hg] at hk; cases hk
            exact ⟨cs', h1, h2⟩
          · exact ⟨c, by rw [e5 k hkg]; exact hk, rfl⟩
        · by_cases hkg : k = g
          · subst hkg; exact absurd (.inr (by simp)) hk
          · exact e5 k hkg
      have hins : ∀ k, (hk : k < (insN l i x).length) → ∀ {o : Option Value}, (if k < i then C[k]? else if k = i then some (.int .i64 x) else C[k - 1]?) = o → o = some (.int .i64 (insN l i x)[k]) := fun k hk o ho => by
        have := insN_get (x := x) hi hk
        rw [List.getElem?_eq_getElem hk] at this
        rw [← ho]
        by_cases h1 : k < i
        · rw [if_pos h1] at this ⊢
          rw [hC, List.getElem?_map, ← this]; rfl
        · rw [if_neg h1] at this ⊢
          by_cases h2 : k = i
          · rw [if_pos h2] at this ⊢
            rw [Option.some.inj this]
          · rw [if_neg h2] at this ⊢
            rw [hC, List.getElem?_map, ← this]; rfl
      by_cases hin : i = l.length
      · by_cases hroom : l.length + 1 ≤ cap
        · subst hin
          refine Calls.mono (Try.slices_Insert_int_end_room g 0 l.length cap vb 0 1 vc [.int .i64 x] w (by decide) hroom hle rfl (fun j hj => by rw [Nat.add_assoc]; exact hxc _ (by omega)) (fun j hj => by rw [Nat.add_assoc]; exact hfz _) hvs h1v) ?_
          rintro e w' ⟨rfl, rfl⟩
          obtain ⟨cs', r1, r2, r3⟩ := setCells_row [Value.int .i64 x] (0 + l.length) w cs hg
          obtain ⟨q1, q2, q3, q4, q5⟩ := setCells_rest g [Value.int .i64 x] (0 + l.length) w
          refine inpl r1 r2 hroom (fun k hk => hins k hk ?_) q1 q2 q3 q4 q5
          rw [r3 k (by omega)]
          by_cases h1 : k < l.length
          · rw [if_pos h1, if_neg (by omega), hcell k h1, hCg k h1]
          · have h2 : k = l.length := by omega
            rw [if_neg h1, if_pos h2, if_pos (by simp; omega), h2]; simp
        · subst hin
          refine Calls.mono (Try.slices_Insert_int_end_grow (some ⟨g, 0, none⟩) l.length cap vb 0 1 vc C [.int .i64 x] w (by decide) hnc (by omega) (by omega) hCl rfl (fun h => by cases h) (fun a ha => by cases ha; intro j v hj; rw [adr_mk]; exact hcs j v hj) hvs h1v) ?_
          rintro e w' ⟨rfl, rfl⟩
          have gc := grownCap_ge w (l.length + 1) cap 3
          have gm := grownCap_le_maxLen w (l.length + 1) cap 3 (by unfold maxLen; omega)
          generalize grownCap w (l.length + 1) cap 3 = G at *
          refine fresh (alloc_new w.drew _) gc gm (by simp [Builtin.zeroCells, Value.cells, hCl]; omega) (fun k hk => hins k hk ?_) rfl rfl rfl (alloc_le w.drew _) (fun k hk => ?_)
          · by_cases h1 : k < l.length
            · rw [if_pos h1, Array.getElem?_append_left (by simp [hCl]; omega)]
              simp only [List.getElem?_toArray]
              rw [List.getElem?_append_left (by omega)]
            · have h2 : k = l.length := by omega
              rw [if_neg h1, if_pos h2, Array.getElem?_append_left (by simp [hCl]; omega)]
              simp only [List.getElem?_toArray]
              rw [List.getElem?_append_right (by omega), h2, hCl]; simp
          · exact alloc_old w.drew _ hk
      · have hilt : i < l.length := by omega
        by_cases hroom : l.length + 1 ≤ cap
        · refine Calls.mono (Try.slices_Insert_int_shift g 0 l.length cap i vb 0 1 vc C [.int .i64 x] w hilt (by decide) hroom hle hvg hCl rfl hcs (fun j hj => hxc j (by omega)) (fun j hj => hfz j) hvs h1c h1v E3 E cs3.size cs.size (by simp [World.shape?, hg3]) (by simp [World.shape?, hg]) (by omega) (by simp [World.frozen?, hg3]) (by simp [World.frozen?, hg3])) ?_
          rintro e w' ⟨rfl, rfl⟩
          obtain ⟨c1, r1, r2, r3⟩ := setCells_row (C.drop i) (0 + (i + 1)) w.drew cs hg
          obtain ⟨q1, q2, q3, q4, q5⟩ := setCells_rest g (C.drop i) (0 + (i + 1)) w.drew
          obtain ⟨c2, s1, s2, s3⟩ := setCells_row [Value.int .i64 x] (0 + i) _ c1 r1
          obtain ⟨p1, p2, p3, p4, p5⟩ := setCells_rest g [Value.int .i64 x] (0 + i) (w.drew.setCells g (0 + (i + 1)) (C.drop i))
          refine inpl s1 (by omega) hroom (fun k hk => hins k hk ?_) (p1.trans q1) (p2.trans q2) (p3.trans q3) (p4.trans q4) fun k hk => (p5 k hk).trans (q5 k hk)
          have hdl : (C.drop i).length = l.length - i := by rw [List.length_drop, hCl]
          rw [s3 k (by omega)]
          by_cases h1 : k < i
          · rw [if_pos h1, if_neg (by omega), r3 k (by omega), if_neg (by omega), hcell k (by omega), hCg k (by omega)]
          · rw [if_neg h1]
            by_cases h2 : k = i
            · rw [if_pos h2, if_pos (by simp; omega), h2]; simp
            · rw [if_neg h2, if_neg (by simp; omega), r3 k (by omega), if_pos (by omega), List.getElem?_drop]
              congr 1; omega
        · refine Calls.mono (Try.slices_Insert_int_grow g 0 l.length cap i vb 0 1 vc C [.int .i64 x] w hilt (by decide) hnc (by omega) (by omega) hCl rfl hcs hvs h1c h1v) ?_
          rintro e w' ⟨rfl, rfl⟩
          have gc := grownCap_ge w (l.length + 1) cap 3
          have gm := grownCap_le_maxLen w (l.length + 1) cap 3 (by unfold maxLen; omega)
          generalize grownCap w (l.length + 1) cap 3 = G at *
          obtain ⟨R, hR⟩ : ∃ R : Array Value, R = (C.take i).toArray ++ Builtin.zeroCells (Value.int .i64 0).cells (l.length + 1 - i) ++ Builtin.zeroCells (Value.int .i64 0).cells (G - (l.length + 1)) := ⟨_, rfl⟩
          rw [← hR]
          have hRs : R.size = G := by rw [hR]; simp [Builtin.zeroCells, Value.cells, hCl]; omega
          have hRi : ∀ k, k < i → R[k]? = C[k]? := fun k hk => by
            rw [hR, Array.getElem?_append_left (by simp [hCl]; omega), Array.getElem?_append_left (by simp [hCl]; omega)]
            simp only [List.getElem?_toArray]
            rw [List.getElem?_take, if_pos hk]
          have h0 : (w.alloc (.cells R 3)).drew.heap[w.heap.size]? = some (.cells R 3 (0, 0)) := alloc_new w _
          obtain ⟨c1, r1, r2, r3⟩ := setCells_row [Value.int .i64 x] i _ R h0
          obtain ⟨q1, q2, q3, q4, q5⟩ := setCells_rest w.heap.size [Value.int .i64 x] i (w.alloc (.cells R 3)).drew
          obtain ⟨c2, s1, s2, s3⟩ := setCells_row (C.drop i) (i + 1) (((w.alloc (.cells R 3)).drew.setCells w.heap.size i [Value.int .i64 x]).drew) c1 r1
          obtain ⟨p1, p2, p3, p4, p5⟩ := setCells_rest w.heap.size (C.drop i) (i + 1) (((w.alloc (.cells R 3)).drew.setCells w.heap.size i [Value.int .i64 x]).drew)
          have hdl : (C.drop i).length = l.length - i := by rw [List.length_drop, hCl]
          refine fresh s1 gc gm (by omega) (fun k hk => hins k hk ?_) (p1.trans q1) (p2.trans q2) (p3.trans q3) ?_ fun k hk => ?_
          · rw [s3 k (by omega)]
            by_cases h1 : k < i
            · rw [if_pos h1, if_neg (by omega), r3 k (by omega), if_neg (by omega), hRi k h1]
            · rw [if_neg h1]
              by_cases h2 : k = i
              · rw [if_pos h2, if_neg (by omega), r3 k (by omega), if_pos (by simp; omega), h2]; simp
              · rw [if_neg h2, if_pos (by omega), List.getElem?_drop]
                congr 1; omega
          · refine Nat.le_trans ?_ (Nat.le_of_eq (p4.trans q4).symm)
            exact alloc_le w _
          · refine (p5 k (Nat.ne_of_lt hk)).trans ((q5 k (Nat.ne_of_lt hk)).trans ?_)
            exact alloc_old w _ hk

end Go.Proofs.Ytefbiejoikpkmaa

namespace Go.Proofs.Ytefbiejoikpkmaa
open Go.RowKit
set_option linter.unusedSectionVars false
variable [Glb]
open Go Go.RowKit
/-! an empty slice that may be nil or not, compared with nil -/
section
variable {P : Program} {st : St} {ty : TypeId} {pos : String} {af : Array Edge} {T T' : TypeId} {x y : Operand} {ops : Array Oper} {mu : Nat → Bool} {r : OT} {K : St → Prop} {i : Nat}
theorem so_nilU {d sz n : Nat} {ds : List D} (hx : st.ev x = .c (.d (.sl sz n ds))) (hy : st.ev y = .c (.d (.lit (.slice none 0 0)))) (ht : tIsSl P T = true) (hd : Nat.blt d st.n = true)
    (h : ∀ b, SO P ops mu r (st.put d (.c (.d (.lit (.bool b))))) K) : SO P ops mu (.cons (some ⟨some d, .binOp .eql T x y T', ty, pos, af, none⟩, i, false) r) st K := by
  obtain ⟨E, hT⟩ := tIsSl_spec ht
  refine ⟨fun w0 a w hs => ?_⟩
  obtain ⟨ρ, Φ, hm⟩ := hs
  have hv := hm.ev x
  rw [hx] at hv
  obtain ⟨F, h', hF⟩ := hv.d_inv
  have hy' : a.eval y = .slice none 0 0 := FR.lit_inv (by rw [← hy]; exact hm.ev y)
  obtain ⟨ao, c, hx'⟩ : ∃ ao c, a.eval x = .slice ao n c := by
    generalize a.eval x = v at *
    cases h' with
    | sl ao _ cap => exact ⟨ao, cap, rfl⟩
  have h1 := (h ao.isNone).run w0 _ w ⟨ρ, Φ, hm.put (.litI (v := .bool ao.isNone) rfl) d (by simpa using hd)⟩
  unfold wpT
  rw [if_pos (show Region.wanted _ _ = true from rfl)]
  refine .inl ?_
  unfold Oper.wp
  have := (nil_cmp (x := x) (y := y) hT ao n c w).1
  simp only [Sem.run_bind] at this
  simp only [execOp, hx', hy', Sem.run_bind]
  generalize Sem.run P (eqGuard .eql T x y (.slice ao n c) (.slice none 0 0)) w = z at *
  cases z with
  | ok _ w1 =>
    simp only [Result.andThen_ok] at this ⊢
    simp only [this, Result.andThen_ok]
    exact ⟨fun _ => CellS.refl w, h1⟩
  | halt _ _ => simp [Result.andThen] at this
end

end Go.Proofs.Ytefbiejoikpkmaa

namespace Go.Proofs.Ytefbiejoikpkmaa
open Go.RowKit
set_option linter.unusedSectionVars false
variable [Glb]
set_option maxRecDepth 10000
set_option maxHeartbeats 4000000
theorem clone_p (l : List Int) (hl : l.length ≤ 1000000) : PC Try.prog 184 [.c (eI l)] (.p (.c (eI l))) := by
  by_cases h0 : l = []
  · subst h0
    refine pc_intro Try.func184 rfl rfl rfl (by kernel_rfl) rfl rfl ?_; intro _
    repeat' (first | (refine so_is (.assign _) ?_; (refine so_q (qt_asC rfl) rfl ?_)) | (refine so_is (.move _) ?_; (refine so_q (qt_mvC rfl) rfl ?_)) | (refine so_is (.binOp .eql 24 _ _ _) ?_; ((refine so_nilU rfl rfl (by kernel_rfl) rfl fun b => ?_))) | (refine so_is (.buildSlice 24 0 _) ?_; (apply so_bslice (sz := 1) (by_ := 8); (· kernel_rfl); (· decide); (· (repeat (exact GvS.nil _))); (· (decide)); (· rfl); (· rfl); (· rfl))) | (refine so_is (.call ⟨.builtin .append, _, #[24, 24]⟩) ?_; ((apply so_appR (sz := 1) (by_ := 8); (· rfl); (· rfl); (· ((simp; done))); (· exact .see _ _ _ (by (exact Lits.nil))); (· (decide)); (· kernel_rfl); (· decide); (· (omega)); (· (omega)); (· rfl); (· rfl); (· rfl)))) | refine so_nil ?_ | refine sk_seq ?_ | refine sk_skip ?_ | refine sk_region ?_ | refine sk_cond rfl (fun hc => ?_) (fun hc => ?_))
    all_goals (apply sk_ret; apply ret_eq; (· apply RetOK.p; (· (apply GvA.cons; (· exact .tmp _); (· (first | exact GvP.c (.nil 1 (by decide)) | exact GvP.c (.row _ _ _ _ rfl (by ((simp; done))))))); exact GvA.nil); (· (decide))))
    all_goals simp
  · have : 0 < l.length := List.length_pos_iff.2 h0
    refine pc_intro Try.func184 rfl rfl rfl (by kernel_rfl) rfl rfl ?_; intro _
    repeat' (first | (refine so_is (.assign _) ?_; (refine so_q (qt_asC rfl) rfl ?_)) | (refine so_is (.move _) ?_; (refine so_q (qt_mvC rfl) rfl ?_)) | (refine so_is (.binOp .eql 24 _ _ _) ?_; (refine so_q (qt_eql_nilD rfl rfl (by kernel_rfl) (by (omega))) rfl ?_)) | (refine so_is (.buildSlice 24 0 _) ?_; (apply so_bslice (sz := 1) (by_ := 8); (· kernel_rfl); (· decide); (· (repeat (exact GvS.nil _))); (· (decide)); (· rfl); (· rfl); (· rfl))) | (refine so_is (.call ⟨.builtin .append, _, #[24, 24]⟩) ?_; ((apply so_appR (sz := 1) (by_ := 8); (· rfl); (· rfl); (· ((simp; done))); (· exact .see _ _ _ (by (exact Lits.map))); (· (decide)); (· kernel_rfl); (· decide); (· (omega)); (· (omega)); (· rfl); (· rfl); (· rfl)))) | refine so_nil ?_ | refine sk_seq ?_ | refine sk_skip ?_ | refine sk_region ?_ | refine sk_false rfl ?_)
    all_goals (apply sk_ret; apply ret_eq; (· apply RetOK.p; (· (apply GvA.cons; (· exact .tmp _); (· (exact GvP.c (.row _ _ _ _ rfl (by ((simp; done))))))); exact GvA.nil); (· (decide))))
    all_goals simp

end Go.Proofs.Ytefbiejoikpkmaa

namespace Go.Proofs.Ytefbiejoikpkmaa
open Go.RowKit
set_option linter.unusedSectionVars false
variable [Glb]
set_option maxRecDepth 10000
set_option maxHeartbeats 4000000
theorem orders_p (n : Nat) (h : n ≤ 3) : PC Try.prog 91 [.c (dI n)] (.p (.c (eII (ordI n)))) := by
  refine pc_intro Try.func91 rfl rfl rfl (by kernel_rfl) rfl rfl ?_; intro _
  repeat' (first | (refine so_is (.assign _) ?_; (refine so_q (qt_asC rfl) rfl ?_)) | (refine so_is (.buildSlice 24 0 _) ?_; (apply so_bslice (sz := 1) (by_ := 8); (· kernel_rfl); (· decide); (· (repeat (exact GvS.nil _))); (· (decide)); (· rfl); (· rfl); (· rfl))) | (refine so_is (.buildSlice 25 1 _) ?_; (apply so_bslice (sz := 1) (by_ := 24); (· kernel_rfl); (· decide); (· (repeat (first | exact GvS.nil _ | apply GvS.c rfl rfl (.row _ _ _ _ rfl (by ((simp; done)))) rfl))); (· (decide)); (· rfl); (· rfl); (· rfl))) | (refine so_is (.move _) ?_; (refine so_q (qt_mvC rfl) rfl ?_)) | refine so_nil ?_ | refine sk_seq ?_ | refine sk_block ?_ | refine sk_region ?_)
  apply sk_packC [3, 11, 12] [9, 10, 15, 29, 32, 33, 34, 35] rfl; (· (repeat (first | exact Pf.nil | apply Pf.cons (.c rfl (.d rfl)) | apply Pf.cons (.c rfl (.ls rfl))))); (· (repeat (first | exact Pb.nil | apply Pb.cons (.row rfl) | apply Pb.skip)))
  refine sk_loopL [11] [9, 15, 29, 32, 33, 34, 35] (fun k => [(12, iN k), (3, .c (.ls 10 1 0 (ordI k).length))]) (fun k => [(10, .row 1 (cII (ordI k)))]) (fun k => k ≤ n) (fun k => n - k) (0) ?_ (by (repeat (first | exact trivial | refine ⟨(by (rfl)), ?_⟩))) (by (repeat (first | exact trivial | refine ⟨(by ((refine row_eq rfl ?_; simp  [ordI]; done))), ?_⟩))) ?_
  · omega
  intro k hk
  by_cases hk2 : k < n
  · have OL := ord_len (n := k) (by omega)
    have OE := fun j => ord_each (n := k) (by omega) (i := j)
    have ON : ordP k (ordI k) (ordI k).length 0 = ordI (k + 1) := ordP_all k
    have ONl := ordP_len k (ordI k) 0 (Nat.le_refl _)
    have O3 := ord_len (n := k + 1) (by omega)
    generalize ordI k = L at *
    refine sk_ghost (sim_dem 10 1 rfl) ?_
    refine sk_ghost (dem_slot 3 10 rfl (by simp)) ?_
    repeat' (first | (refine so_is (.assign _) ?_; (refine so_q (qt_asC rfl) rfl ?_)) | (refine so_is (.move _) ?_; (refine so_q (qt_mvC rfl) rfl ?_)) | (refine so_is (.binOp .lss 3 _ _ _) ?_; refine so_q (qt_lss rfl rfl) rfl ?_) | (refine so_is (.buildSlice 25 0 _) ?_; (apply so_bslice (sz := 1) (by_ := 24); (· kernel_rfl); (· decide); (· (repeat (exact GvS.nil _))); (· (decide)); (· rfl); (· rfl); (· rfl))) | (refine so_is (.call ⟨.builtin .len, _, #[25]⟩) ?_; (refine so_q (qt_len_d rfl (by kernel_rfl)) rfl ?_)) | refine so_nil ?_ | refine sk_seq ?_ | refine sk_block ?_ | refine sk_exit rfl ?_ | refine sk_skip ?_ | refine sk_region ?_ | refine sk_if rfl (fun hc => ?_) (fun hc => ?_))
    all_goals first | (exfalso; omega) | skip
    apply sk_packC [4, 5, 11, 12, 16, 17, 18] [9, 10, 15, 29, 32, 33, 34, 35] rfl; (· (repeat (first | exact Pf.nil | apply Pf.cons (.c rfl (.d rfl)) | apply Pf.cons (.c rfl (.ls rfl))))); (· (repeat (first | exact Pb.nil | apply Pb.cons (.row rfl) | apply Pb.skip)))
    refine sk_loopL [4, 11, 12, 16, 17] [9, 10, 29, 32, 33, 34, 35] (fun j => [(18, iN j), (5, .c (.ls 15 1 0 ((k + 1) * j)))]) (fun j => [(15, .row 1 (cII (ordP k L j 0)))]) (fun j => j ≤ L.length) (fun j => L.length - j) (0) ?_ (by (repeat (first | exact trivial | refine ⟨(by (rfl)), ?_⟩))) (by (repeat (first | exact trivial | refine ⟨(by ((refine row_eq rfl ?_; simp  [ordP_zero]; done))), ?_⟩))) ?_
    · omega
    intro j hj
    by_cases hj2 : j < L.length
    · have OE := OE j hj2
      have e9 : (k + 1) * j ≤ 4 * 6 := Nat.mul_le_mul (by omega) (by omega)
      repeat' (first | (refine so_is (.assign _) ?_; (refine so_q (qt_asC rfl) rfl ?_)) | (refine so_is (.move _) ?_; (refine so_q (qt_mvC rfl) rfl ?_)) | (refine so_is (.binOp .lss 3 _ _ _) ?_; refine so_q (qt_lss rfl rfl) rfl ?_) | (refine so_is (.indexAddr 25 _ _) ?_; (refine so_q (qt_idxII rfl rfl (by kernel_rfl) (by (omega)) (by (omega))) rfl ?_)) | (refine so_is (.load 24 _) ?_; (refine so_q (qt_load_pt rfl (by kernel_rfl) rfl) rfl ?_)) | (refine so_is (.binOp .add 3 _ _ _) ?_; refine so_q (qt_addI rfl rfl (by (omega))) rfl ?_) | refine so_nil ?_ | refine sk_seq ?_ | refine sk_block ?_ | refine sk_blk ?_ | refine sk_exit rfl ?_ | refine sk_skip ?_ | refine sk_region ?_ | refine sk_if rfl (fun hc => ?_) (fun hc => ?_))
      all_goals first | (exfalso; omega) | skip
      apply sk_packC [4, 5, 7, 11, 12, 16, 17, 18, 23, 24] [9, 10, 15, 29, 32, 33, 34, 35] rfl; (· (repeat (first | exact Pf.nil | apply Pf.cons (.c rfl (.d rfl)) | apply Pf.cons (.c rfl (.ls rfl))))); (· (repeat (first | exact Pb.nil | apply Pb.cons (.row rfl) | apply Pb.skip)))
      refine sk_loopL [4, 7, 11, 12, 16, 17, 18, 23] [9, 10, 29, 32, 33, 34, 35] (fun i => [(24, iN i), (5, .c (.ls 15 1 0 ((k + 1) * j + i)))]) (fun i => [(15, .row 1 (cII (ordP k L j i)))]) (fun i => i ≤ k + 1) (fun i => k + 1 - i) (0) ?_ (by (repeat (first | exact trivial | refine ⟨(by (rfl)), ?_⟩))) (by (repeat (first | exact trivial | refine ⟨(by ((refine row_eq rfl ?_; simp; done))), ?_⟩))) ?_
      · omega
      intro i hi
      by_cases hi2 : i < k + 1
      · have L1 := ordP_len k L i (Nat.le_of_lt hj2)
        repeat' (first | (refine so_is (.assign _) ?_; (refine so_q (qt_asC rfl) rfl ?_)) | (refine so_is (.buildSlice 25 1 _) ?_; (apply so_bslice (sz := 1) (by_ := 24); (· kernel_rfl); (· decide); (· (repeat (first | exact GvS.nil _ | apply GvS.c rfl rfl (.row _ _ _ _ rfl (by ((simp; done)))) rfl))); (· (decide)); (· rfl); (· rfl); (· rfl))) | (refine so_is (.move _) ?_; (refine so_q (qt_mvC rfl) rfl ?_)) | (refine so_is (.binOp .lss 3 _ _ _) ?_; refine so_q (qt_lss rfl rfl) rfl ?_) | (refine so_is (.binOp .add 3 _ _ _) ?_; refine so_q (qt_addI rfl rfl (by (omega))) rfl ?_) | (refine so_is (.buildSlice 24 1 _) ?_; (apply so_bslice (sz := 1) (by_ := 8); (· kernel_rfl); (· decide); (· (repeat (first | exact GvS.nil _ | apply GvS.c rfl rfl (.lit _) rfl))); (· (decide)); (· rfl); (· rfl); (· rfl))) | (refine so_is (.call ⟨.builtin .append, _, #[25, 25]⟩) ?_; ((apply so_appR (sz := 1) (by_ := 24); (· rfl); (· rfl); (· ((simp; omega))); (· exact .row _ _ _ _ rfl (by ((simp; done)))); (· (decide)); (· kernel_rfl); (· decide); (· (omega)); (· (omega)); (· rfl); (· rfl); (· rfl)))) | (refine so_is (.call ⟨.value (.func 184), _, _⟩) ?_; (apply so_callO0 (fid := 184); (· (repeat (first | exact SeA.nil | apply SeA.cons (.c (.d _))))); (· exact clone_p (atZ L (j : Int)) (by omega)); (· rfl); (· rfl))) | (refine so_is (.call ⟨.value (.func 183), _, _⟩) ?_; (apply so_callT (fid := 183); (· (repeat (first | exact ArgM.nil | apply ArgM.c rfl (.lit _) | apply ArgM.c rfl (.row _ _ _ _ rfl (by ((simp; done))))))); (· (decide)); (· exact insert_t (atZ L (j : Int)) i (k : Int) (by omega) (by omega)); (· rfl); (· rfl); (· rfl))) | refine so_nil ?_ | refine sk_seq ?_ | refine sk_block ?_ | refine sk_blk ?_ | refine sk_exit rfl ?_ | refine sk_skip ?_ | refine sk_region ?_ | refine sk_if rfl (fun hc => ?_) (fun hc => ?_))
        all_goals first | (exfalso; omega) | skip
        refine sk_back ?_; refine ⟨i + 1, ?_, ?_, le_at rfl (by (repeat (first | exact trivial | refine ⟨(by (rfl)), ?_⟩))) (by (repeat (first | exact trivial | refine ⟨rfl, ?_⟩))) (by (repeat (first | exact trivial | refine ⟨(by ((refine row_eq rfl ?_; simp  [ordP_snoc]; done))), ?_⟩))) (by (repeat (first | exact trivial | refine ⟨.inr rfl, ?_⟩)))⟩
        · omega
        · omega
      · have e : i = k + 1 := by omega
        subst e
        repeat' (first | (refine so_is (.assign _) ?_; (refine so_q (qt_asC rfl) rfl ?_)) | (refine so_is (.move _) ?_; (refine so_q (qt_mvC rfl) rfl ?_)) | (refine so_is (.binOp .lss 3 _ _ _) ?_; refine so_q (qt_lss rfl rfl) rfl ?_) | (refine so_is (.binOp .add 3 _ _ _) ?_; refine so_q (qt_addI rfl rfl (by (omega))) rfl ?_) | refine so_nil ?_ | refine sk_seq ?_ | refine sk_block ?_ | refine sk_blk ?_ | refine sk_exit rfl ?_ | refine sk_skip ?_ | refine sk_region ?_ | refine sk_if rfl (fun hc => ?_) (fun hc => ?_))
        all_goals first | (exfalso; omega) | skip
        refine sk_back ?_; refine ⟨j + 1, ?_, ?_, le_at rfl (by (repeat (first | exact trivial | refine ⟨(by (rfl)), ?_⟩))) (by (repeat (first | exact trivial | refine ⟨rfl, ?_⟩))) (by (repeat (first | exact trivial | refine ⟨(by ((refine row_eq rfl ?_; simp  [ordP_row _ _ hj2, Nat.mul_add]; done))), ?_⟩))) (by (repeat (first | exact trivial | refine ⟨.inr rfl, ?_⟩)))⟩
        · omega
        · omega
    · have e : j = L.length := by omega
      subst e
      repeat' (first | (refine so_is (.assign _) ?_; (refine so_q (qt_asC rfl) rfl ?_)) | (refine so_is (.move _) ?_; (refine so_q (qt_mvC rfl) rfl ?_)) | (refine so_is (.binOp .lss 3 _ _ _) ?_; refine so_q (qt_lss rfl rfl) rfl ?_) | (refine so_is (.indexAddr 25 _ _) ?_; (refine so_q (qt_idxII rfl rfl (by kernel_rfl) (by (omega)) (by (omega))) rfl ?_)) | (refine so_is (.load 24 _) ?_; (refine so_q (qt_load_pt rfl (by kernel_rfl) rfl) rfl ?_)) | (refine so_is (.binOp .add 3 _ _ _) ?_; refine so_q (qt_addI rfl rfl (by (omega))) rfl ?_) | refine so_nil ?_ | refine sk_seq ?_ | refine sk_block ?_ | refine sk_blk ?_ | refine sk_exit rfl ?_ | refine sk_skip ?_ | refine sk_region (id := 7) ?_ | refine sk_region (id := 8) ?_ | refine sk_region (id := 9) ?_ | refine sk_region (id := 15) ?_ | refine sk_if rfl (fun hc => ?_) (fun hc => ?_))
      all_goals first | (exfalso; omega) | skip
      refine sk_ghost (sim_forget 10) ?_
      refine sk_ghost (sim_ren 15 10 rfl rfl rfl rfl) ?_
      repeat' (first | (refine so_is (.move _) ?_; (refine so_q (qt_mvC rfl) rfl ?_)) | (refine so_is (.binOp .add 3 _ _ _) ?_; refine so_q (qt_addI rfl rfl (by (omega))) rfl ?_) | refine so_nil ?_ | refine sk_region ?_)
      rw [Nat.add_zero] at ONl
      refine sk_back ?_; refine ⟨k + 1, ?_, ?_, le_at rfl (by (repeat (first | exact trivial | refine ⟨(by (first | rfl | (refine ls_eq rfl ?_; ((simp  [← ON, ONl]; done))))), ?_⟩))) (by (repeat (first | exact trivial | refine ⟨rfl, ?_⟩))) (by (repeat (first | exact trivial | refine ⟨(by ((refine row_eq rfl ?_; simp  [← ON, ONl]; done))), ?_⟩))) (by (repeat (first | exact trivial | refine ⟨.inr rfl, ?_⟩)))⟩
      · omega
      · omega
  · have e : k = n := by omega
    subst e
    repeat' (first | (refine so_is (.assign _) ?_; (refine so_q (qt_asC rfl) rfl ?_)) | (refine so_is (.move _) ?_; (refine so_q (qt_mvC rfl) rfl ?_)) | (refine so_is (.binOp .lss 3 _ _ _) ?_; refine so_q (qt_lss rfl rfl) rfl ?_) | (refine so_is (.buildSlice 25 0 _) ?_; (apply so_bslice (sz := 1) (by_ := 24); (· kernel_rfl); (· decide); (· (repeat (exact GvS.nil _))); (· (decide)); (· rfl); (· rfl); (· rfl))) | (refine so_is (.call ⟨.builtin .len, _, #[25]⟩) ?_; (refine so_q (qt_len_ls rfl (by kernel_rfl)) rfl ?_)) | refine so_nil ?_ | refine sk_seq ?_ | refine sk_block ?_ | refine sk_exit rfl ?_ | refine sk_skip ?_ | refine sk_region ?_ | refine sk_if rfl (fun hc => ?_) (fun hc => ?_))
    all_goals first | (exfalso; omega) | skip
    (apply sk_ret; apply ret_eq; (· apply RetOK.p; (· (apply GvA.cons; (· exact .tmp _); (· (exact GvP.c (.row _ _ _ _ rfl (by ((simp; done))))))); exact GvA.nil); (· (decide))))
    rfl

end Go.Proofs.Ytefbiejoikpkmaa

namespace Go.Proofs.Ytefbiejoikpkmaa
open Go.RowKit
set_option linter.unusedSectionVars false
variable [Glb]
set_option maxRecDepth 10000
set_option maxHeartbeats 4000000
theorem SameByNames_no (X Y : Int) (ws : List Int) (wi : List (List Int)) (X2 Y2 : Int) (ws2 : List Int) (wi2 : List (List Int)) (h : nameB X Y ws wi X2 Y2 ws2 wi2 = false) :
    PC Try.prog 10 [.g [dI X, dI Y, eI ws, eII wi], .g [dI X2, dI Y2, eI ws2, eII wi2]] (.t [.c (dB false), .c (dB false)]) := by
  have i1 := IsGame_p X Y ws wi
  have i2 := IsGame_p X2 Y2 ws2 wi2
  unfold nameB at h
  cases h1 : gameB X Y ws wi with
  | false =>
    rw [h1] at i1
    refine pc_intro Try.func10 rfl rfl rfl (by kernel_rfl) rfl rfl ?_; intro _
    repeat' (first | (refine so_is (.box 27 _) ?_; refine so_box rfl rfl ?_) | (refine so_is (.assign _) ?_; (refine so_q (qt_asC rfl) rfl ?_)) | (refine so_is (.load 27 _) ?_; (refine so_q (qt_load_boxs rfl rfl (by kernel_rfl : tAgg _ 27 4 = true) rfl) rfl ?_)) | (refine so_is (.unOp .not 4 _) ?_; refine so_q (qt_not rfl) rfl ?_) | (refine so_is (.move _) ?_; (refine so_q (qt_mvC rfl) rfl ?_)) | (refine so_is (.pick _ _ _) ?_; (refine so_q (qt_pkC rfl rfl) rfl ?_)) | (refine so_is (.call ⟨.value (.func 29), _, _⟩) ?_; ((apply so_call0 (fid := 29); (· (repeat (first | exact SeA.nil | (apply SeA.cons; (· (apply SeP.g; (repeat (first | exact SeL.nil | apply SeL.cons (.d _))))))))); (· exact i1); (· rfl)))) | refine so_nil ?_ | refine so_g_no rfl rfl rfl rfl ?_ | refine sk_seq ?_ | refine sk_region (id := 0) ?_ | refine sk_region (id := 1) ?_ | refine sk_region (id := 2) ?_ | refine sk_true rfl ?_)
    all_goals first | (exfalso; simp_all; done) | skip
    all_goals (apply sk_ret; apply ret_eq; (· apply RetOK.t; (· (apply GvA.cons; (· exact .tmp _); (· exact GvP.c (.lit _))); (apply GvA.cons; (· exact .tmp _); (· exact GvP.c (.lit _))); exact GvA.nil); (· rfl); (· (decide))))
    all_goals rfl
  | true =>
    cases h2 : gameB X2 Y2 ws2 wi2 with
    | false =>
      rw [h1] at i1
      rw [h2] at i2
      refine pc_intro Try.func10 rfl rfl rfl (by kernel_rfl) rfl rfl ?_; intro _
      repeat' (first | (refine so_is (.box 27 _) ?_; refine so_box rfl rfl ?_) | (refine so_is (.assign _) ?_; (refine so_q (qt_asC rfl) rfl ?_)) | (refine so_is (.load 27 _) ?_; (refine so_q (qt_load_boxs rfl rfl (by kernel_rfl : tAgg _ 27 4 = true) rfl) rfl ?_)) | (refine so_is (.unOp .not 4 _) ?_; refine so_q (qt_not rfl) rfl ?_) | (refine so_is (.move _) ?_; (refine so_q (qt_mvC rfl) rfl ?_)) | (refine so_is (.pick _ _ _) ?_; (refine so_q (qt_pkC rfl rfl) rfl ?_)) | (refine so_is (.call ⟨.value (.func 29), _, _⟩) ?_; (first | (apply so_call0 (fid := 29); (· (repeat (first | exact SeA.nil | (apply SeA.cons; (· (apply SeP.g; (repeat (first | exact SeL.nil | apply SeL.cons (.d _))))))))); (· exact i1); (· rfl)) | (apply so_call0 (fid := 29); (· (repeat (first | exact SeA.nil | (apply SeA.cons; (· (apply SeP.g; (repeat (first | exact SeL.nil | apply SeL.cons (.d _))))))))); (· exact i2); (· rfl)))) | refine so_nil ?_ | refine so_g_no rfl rfl rfl rfl ?_ | refine so_g_yes rfl rfl rfl rfl ?_ | refine sk_seq ?_ | refine sk_region (id := 0) ?_ | refine sk_region (id := 1) ?_ | refine sk_region (id := 2) ?_ | refine sk_true rfl ?_)
      all_goals first | (exfalso; simp_all; done) | skip
      all_goals (apply sk_ret; apply ret_eq; (· apply RetOK.t; (· (apply GvA.cons; (· exact .tmp _); (· exact GvP.c (.lit _))); (apply GvA.cons; (· exact .tmp _); (· exact GvP.c (.lit _))); exact GvA.nil); (· rfl); (· (decide))))
      all_goals rfl
    | true =>
      rw [h1] at i1
      rw [h2] at i2
      rw [h1, h2] at h
      by_cases hX : X = X2
      · have hY : Y ≠ Y2 := fun e => by simp [hX, e] at h
        refine pc_intro Try.func10 rfl rfl rfl (by kernel_rfl) rfl rfl ?_; intro _
        repeat' (first | (refine so_is (.box 27 _) ?_; refine so_box rfl rfl ?_) | (refine so_is (.assign _) ?_; (refine so_q (qt_asC rfl) rfl ?_)) | (refine so_is (.load 27 _) ?_; (refine so_q (qt_load_boxs rfl rfl (by kernel_rfl : tAgg _ 27 4 = true) rfl) rfl ?_)) | (refine so_is (.unOp .not 4 _) ?_; refine so_q (qt_not rfl) rfl ?_) | (refine so_is (.move _) ?_; (refine so_q (qt_mvC rfl) rfl ?_)) | (refine so_is (.pick _ _ _) ?_; (refine so_q (qt_pkC rfl rfl) rfl ?_)) | (refine so_is (.fieldAddr 27 _ 0) ?_; (refine so_q (qt_fld_lp (off := 0) rfl (by kernel_rfl)) rfl ?_)) | (refine so_is (.load 3 _) ?_; (refine so_q (qt_load_box rfl rfl (by kernel_rfl) rfl) rfl ?_)) | (refine so_is (.binOp .neq 3 _ _ _) ?_; refine so_q (qt_neq rfl rfl) rfl ?_) | (refine so_is (.fieldAddr 27 _ 1) ?_; (refine so_q (qt_fld_lp (off := 1) rfl (by kernel_rfl)) rfl ?_)) | (refine so_is (.call ⟨.value (.func 29), _, _⟩) ?_; (first | (apply so_call0 (fid := 29); (· (repeat (first | exact SeA.nil | (apply SeA.cons; (· (apply SeP.g; (repeat (first | exact SeL.nil | apply SeL.cons (.d _))))))))); (· exact i1); (· rfl)) | (apply so_call0 (fid := 29); (· (repeat (first | exact SeA.nil | (apply SeA.cons; (· (apply SeP.g; (repeat (first | exact SeL.nil | apply SeL.cons (.d _))))))))); (· exact i2); (· rfl)))) | refine so_nil ?_ | refine so_g_no rfl rfl rfl rfl ?_ | refine so_g_yes rfl rfl rfl rfl ?_ | refine so_g_if rfl rfl (fun hg => ?_) (fun hg => ?_) | refine sk_seq ?_ | refine sk_skip ?_ | refine sk_region (id := 0) ?_ | refine sk_region (id := 1) ?_ | refine sk_region (id := 2) ?_ | refine sk_true rfl ?_ | refine sk_if rfl (fun hc => ?_) (fun hc => ?_))
        all_goals first | (exfalso; simp_all; done) | skip
        all_goals (apply sk_ret; apply ret_eq; (· apply RetOK.t; (· (apply GvA.cons; (· exact .tmp _); (· exact GvP.c (.lit _))); (apply GvA.cons; (· exact .tmp _); (· exact GvP.c (.lit _))); exact GvA.nil); (· rfl); (· (decide))))
        all_goals rfl
      · refine pc_intro Try.func10 rfl rfl rfl (by kernel_rfl) rfl rfl ?_; intro _
        repeat' (first | (refine so_is (.box 27 _) ?_; refine so_box rfl rfl ?_) | (refine so_is (.assign _) ?_; (refine so_q (qt_asC rfl) rfl ?_)) | (refine so_is (.load 27 _) ?_; (refine so_q (qt_load_boxs rfl rfl (by kernel_rfl : tAgg _ 27 4 = true) rfl) rfl ?_)) | (refine so_is (.unOp .not 4 _) ?_; refine so_q (qt_not rfl) rfl ?_) | (refine so_is (.move _) ?_; (refine so_q (qt_mvC rfl) rfl ?_)) | (refine so_is (.pick _ _ _) ?_; (refine so_q (qt_pkC rfl rfl) rfl ?_)) | (refine so_is (.fieldAddr 27 _ 0) ?_; (refine so_q (qt_fld_lp (off := 0) rfl (by kernel_rfl)) rfl ?_)) | (refine so_is (.load 3 _) ?_; (refine so_q (qt_load_box rfl rfl (by kernel_rfl) rfl) rfl ?_)) | (refine so_is (.binOp .neq 3 _ _ _) ?_; refine so_q (qt_neq rfl rfl) rfl ?_) | (refine so_is (.fieldAddr 27 _ 1) ?_; (refine so_q (qt_fld_lp (off := 1) rfl (by kernel_rfl)) rfl ?_)) | (refine so_is (.call ⟨.value (.func 29), _, _⟩) ?_; (first | (apply so_call0 (fid := 29); (· (repeat (first | exact SeA.nil | (apply SeA.cons; (· (apply SeP.g; (repeat (first | exact SeL.nil | apply SeL.cons (.d _))))))))); (· exact i1); (· rfl)) | (apply so_call0 (fid := 29); (· (repeat (first | exact SeA.nil | (apply SeA.cons; (· (apply SeP.g; (repeat (first | exact SeL.nil | apply SeL.cons (.d _))))))))); (· exact i2); (· rfl)))) | refine so_nil ?_ | refine so_g_no rfl rfl rfl rfl ?_ | refine so_g_yes rfl rfl rfl rfl ?_ | refine so_g_if rfl rfl (fun hg => ?_) (fun hg => ?_) | refine sk_seq ?_ | refine sk_skip ?_ | refine sk_region (id := 0) ?_ | refine sk_region (id := 1) ?_ | refine sk_region (id := 2) ?_ | refine sk_true rfl ?_ | refine sk_if rfl (fun hc => ?_) (fun hc => ?_))
        all_goals first | (exfalso; simp_all; done) | skip
        all_goals (apply sk_ret; apply ret_eq; (· apply RetOK.t; (· (apply GvA.cons; (· exact .tmp _); (· exact GvP.c (.lit _))); (apply GvA.cons; (· exact .tmp _); (· exact GvP.c (.lit _))); exact GvA.nil); (· rfl); (· (decide))))
        all_goals rfl
theorem SameByNames_p (X Y : Nat) (ws : List Int) (wi : List (List Int)) (ws2 : List Int) (wi2 : List (List Int)) (h : gameB X Y ws wi = true) (h2 : gameB X Y ws2 wi2 = true) :
    PC Try.prog 10 [.g [dI X, dI Y, eI ws, eII wi], .g [dI X, dI Y, eI ws2, eII wi2]] (.t [.c (dB (sameG X Y ws wi ws2 wi2)), .c (dB true)]) := by
  obtain ⟨x, y, e1, e2, hx, hy, wl, il, h9⟩ := game_nat h
  obtain rfl : X = x := by omega
  obtain rfl : Y = y := by omega
  have i1 := IsGame_p X Y ws wi
  have i2 := IsGame_p X Y ws2 wi2
  rw [h] at i1
  rw [h2] at i2
  have o1 := orders_p X (by omega)
  have o2 := orders_p Y (by omega)
  have pl := plays_p X Y (by omega)
  have l1 := ord_len (n := X) (by omega)
  have l2 := ord_len (n := Y) (by omega)
  have l3 : (playsF (X + Y)).length ≤ 64 := by
    simp only [playsF, List.length_map, List.length_range]
    exact Nat.le_trans (Nat.pow_le_pow_right (by omega) (by omega)) (by decide : 2 ^ 6 ≤ 64)
  have ea := fun i => ord_each (n := X) (by omega) (i := i)
  have eb := fun i => ord_each (n := Y) (by omega) (i := i)
  have ec : ∀ i : Nat, i < (playsF (X + Y)).length → bitsB (atZ (playsF (X + Y)) (i : Int)) ((X : Int) + Y) = true := fun i hi => by
    have := plays_mem.1 (mem_atZ hi)
    rwa [Int.natCast_add] at this
  have yes : ∀ i k n : Nat, i < (ordI X).length → k < (ordI Y).length → n < (playsF (X + Y)).length → sameT X Y ws wi ws2 wi2 (atZ (ordI X) i) (atZ (ordI Y) k) (atZ (playsF (X + Y)) n) = true → sameG X Y ws wi ws2 wi2 = true := fun i k n hi hk hn ht =>
    List.any_eq_true.2 ⟨_, mem_atZ hi, List.any_eq_true.2 ⟨_, mem_atZ hk, List.any_eq_true.2 ⟨_, mem_atZ hn, ht⟩⟩⟩
  have no : (∀ i k n : Nat, i < (ordI X).length → k < (ordI Y).length → n < (playsF (X + Y)).length → sameT X Y ws wi ws2 wi2 (atZ (ordI X) i) (atZ (ordI Y) k) (atZ (playsF (X + Y)) n) = false) → sameG X Y ws wi ws2 wi2 = false := fun hno => by
    rw [← Bool.not_eq_true]
    intro ht
    obtain ⟨f, hf, ht⟩ := List.any_eq_true.1 ht
    obtain ⟨s, hs, ht⟩ := List.any_eq_true.1 ht
    obtain ⟨q, hq, ht⟩ := List.any_eq_true.1 ht
    obtain ⟨i, hi, rfl⟩ := List.getElem_of_mem hf
    obtain ⟨k, hk, rfl⟩ := List.getElem_of_mem hs
    obtain ⟨n, hn, rfl⟩ := List.getElem_of_mem hq
    have := hno i k n hi hk hn
    rw [atZ_nat hi, atZ_nat hk, atZ_nat hn, ht] at this
    cases this
  have ask : ∀ f s q : List Int, orderB f X = true → orderB s Y = true → bitsB q ((X : Int) + Y) = true → PC Try.prog 93 [.g [dI X, dI Y, eI ws, eII wi], .c (eI f), .c (eI s), .c (eI q)] (.p (.g [dI f.length, dI s.length, eI (pairsF (askW Y ws) f s), eII (pairsF (askR X Y wi q) f s)])) := fun f s q hf hs hq => by
    have a := orderB_len hf
    have b := orderB_len hs
    exact asked_p X Y ws wi f s q h (fun x hx => orderB_mem (by omega) hf hx) (fun x hx => orderB_mem (by omega) hs hx) hq (by omega) (by omega)
  have eqp : ∀ f s q : List Int, PC Try.prog 94 [.g [dI f.length, dI s.length, eI (pairsF (askW Y ws) f s), eII (pairsF (askR X Y wi q) f s)], .g [dI X, dI Y, eI ws2, eII wi2]] (.p (.c (dB (sameT X Y ws wi ws2 wi2 f s q)))) := fun f s q => gameEqual_p _ _ _ _ _ _ _ _
  generalize ordI X = A at *
  generalize ordI Y = B at *
  generalize playsF (X + Y) = C at *
  generalize sameG X Y ws wi ws2 wi2 = R at *
  generalize sameT X Y ws wi ws2 wi2 = T at *
  refine pc_intro Try.func10 rfl rfl rfl (by kernel_rfl) rfl rfl ?_; intro _
  repeat' (first | (refine so_is (.box 27 _) ?_; refine so_box rfl rfl ?_) | (refine so_is (.assign _) ?_; (refine so_q (qt_asC rfl) rfl ?_)) | (refine so_is (.load 27 _) ?_; (refine so_q (qt_load_boxs rfl rfl (by kernel_rfl : tAgg _ 27 4 = true) rfl) rfl ?_)) | (refine so_is (.unOp .not 4 _) ?_; refine so_q (qt_not rfl) rfl ?_) | (refine so_is (.move _) ?_; (refine so_q (qt_mvC rfl) rfl ?_)) | (refine so_is (.pick _ _ _) ?_; (refine so_q (qt_pkC rfl rfl) rfl ?_)) | (refine so_is (.fieldAddr 27 _ 0) ?_; (refine so_q (qt_fld_lp (off := 0) rfl (by kernel_rfl)) rfl ?_)) | (refine so_is (.load 3 _) ?_; (refine so_q (qt_load_box rfl rfl (by kernel_rfl) rfl) rfl ?_)) | (refine so_is (.binOp .neq 3 _ _ _) ?_; refine so_q (qt_neq rfl rfl) rfl ?_) | (refine so_is (.fieldAddr 27 _ 1) ?_; (refine so_q (qt_fld_lp (off := 1) rfl (by kernel_rfl)) rfl ?_)) | (refine so_is (.call ⟨.builtin .len, _, #[25]⟩) ?_; (refine so_q (qt_len_d rfl (by kernel_rfl)) rfl ?_)) | (refine so_is (.call ⟨.value (.func 29), _, _⟩) ?_; (first | (apply so_call0 (fid := 29); (· (repeat (first | exact SeA.nil | (apply SeA.cons; (· (apply SeP.g; (repeat (first | exact SeL.nil | apply SeL.cons (.d _))))))))); (· exact i1); (· rfl)) | (apply so_call0 (fid := 29); (· (repeat (first | exact SeA.nil | (apply SeA.cons; (· (apply SeP.g; (repeat (first | exact SeL.nil | apply SeL.cons (.d _))))))))); (· exact i2); (· rfl)))) | (refine so_is (.call ⟨.value (.func 91), _, _⟩) ?_; ((apply so_call0 (fid := 91); (· (repeat (first | exact SeA.nil | apply SeA.cons (.c (.d _))))); (· exact o1); (· rfl)))) | refine so_nil ?_ | refine so_g_no rfl rfl rfl rfl ?_ | refine so_g_yes rfl rfl rfl rfl ?_ | refine so_g_if rfl rfl (fun hg => ?_) (fun hg => ?_) | refine sk_seq ?_ | refine sk_block ?_ | refine sk_skip ?_ | refine sk_region ?_ | refine sk_true rfl ?_ | refine sk_if rfl (fun hc => ?_) (fun hc => ?_))
  all_goals first | (exfalso; omega) | (exfalso; simp_all; done) | skip
  apply sk_packC [2, 3, 36, 37, 38] [2, 3, 36, 44, 54, 2064, 3064] rfl; (· (repeat (first | exact Pf.nil | apply Pf.cons (.c rfl (.d rfl)) | apply Pf.cons (.c rfl (.lp rfl))))); (· (repeat (first | exact Pb.nil | (apply Pb.cons; (· apply Nb.box rfl; (repeat (first | exact Ncs.nil rfl | (apply Ncs.cons rfl; (· (exact .d rfl))))))) | apply Pb.skip)))
  refine sk_loopL [2, 3, 36, 37] [2, 3, 36, 44, 54, 2064, 3064] (fun i => [(38, iN i)]) (fun _ => []) (fun i => i ≤ A.length ∧ ∀ i' k' n' : Nat, i' < i → k' < B.length → n' < C.length → T (atZ A i') (atZ B k') (atZ C n') = false) (fun i => A.length - i) (0) ?_ (by (repeat (first | exact trivial | refine ⟨(by (rfl)), ?_⟩))) (by (repeat (exact trivial))) ?_
  · exact ⟨Nat.zero_le _, fun i' k' n' h => by omega⟩
  rintro i ⟨hi, H1⟩
  by_cases hi2 : i < A.length
  · have ea := ea i hi2
    repeat' (first | (refine so_is (.assign _) ?_; (refine so_q (qt_asC rfl) rfl ?_)) | (refine so_is (.move _) ?_; (refine so_q (qt_mvC rfl) rfl ?_)) | (refine so_is (.load 3 _) ?_; (refine so_q (qt_load_box rfl rfl (by kernel_rfl) rfl) rfl ?_)) | (refine so_is (.fieldAddr 27 _ 1) ?_; (refine so_q (qt_fld_lp (off := 1) rfl (by kernel_rfl)) rfl ?_)) | (refine so_is (.call ⟨.builtin .len, _, #[25]⟩) ?_; (refine so_q (qt_len_d rfl (by kernel_rfl)) rfl ?_)) | (refine so_is (.binOp .lss 3 _ _ _) ?_; refine so_q (qt_lss rfl rfl) rfl ?_) | (refine so_is (.indexAddr 25 _ _) ?_; (refine so_q (qt_idxII rfl rfl (by kernel_rfl) (by (omega)) (by (omega))) rfl ?_)) | (refine so_is (.load 24 _) ?_; (refine so_q (qt_load_pt rfl (by kernel_rfl) rfl) rfl ?_)) | (refine so_is (.call ⟨.value (.func 91), _, _⟩) ?_; ((apply so_call0 (fid := 91); (· (repeat (first | exact SeA.nil | apply SeA.cons (.c (.d _))))); (· exact o2); (· rfl)))) | refine so_nil ?_ | refine sk_seq ?_ | refine sk_block ?_ | refine sk_exit rfl ?_ | refine sk_skip ?_ | refine sk_region ?_ | refine sk_if rfl (fun hc => ?_) (fun hc => ?_))
    all_goals first | (exfalso; omega) | (exfalso; simp_all; done) | skip
    apply sk_packC [2, 3, 7, 36, 37, 38, 44, 45, 46] [2, 3, 36, 44, 54, 2064, 3064] rfl; (· (repeat (first | exact Pf.nil | apply Pf.cons (.c rfl (.d rfl)) | apply Pf.cons (.c rfl (.lp rfl))))); (· (repeat (first | exact Pb.nil | (apply Pb.cons; (· apply Nb.box rfl; (repeat (first | exact Ncs.nil rfl | (apply Ncs.cons rfl; (· (exact .d rfl))))))) | apply Pb.skip)))
    refine sk_loopL [2, 3, 7, 36, 37, 38, 44, 45] [2, 3, 36, 44, 54, 2064, 3064] (fun k => [(46, iN k)]) (fun _ => []) (fun k => k ≤ B.length ∧ ∀ k' n' : Nat, k' < k → n' < C.length → T (atZ A i) (atZ B k') (atZ C n') = false) (fun k => B.length - k) (0) ?_ (by (repeat (first | exact trivial | refine ⟨(by (rfl)), ?_⟩))) (by (repeat (exact trivial))) ?_
    · exact ⟨Nat.zero_le _, fun k' n' h => by omega⟩
    rintro k ⟨hk, H2⟩
    by_cases hk2 : k < B.length
    · have eb := eb k hk2
      repeat' (first | (refine so_is (.assign _) ?_; (refine so_q (qt_asC rfl) rfl ?_)) | (refine so_is (.move _) ?_; (refine so_q (qt_mvC rfl) rfl ?_)) | (refine so_is (.fieldAddr 27 _ 0) ?_; (refine so_q (qt_fld_lp (off := 0) rfl (by kernel_rfl)) rfl ?_)) | (refine so_is (.load 3 _) ?_; (refine so_q (qt_load_box rfl rfl (by kernel_rfl) rfl) rfl ?_)) | (refine so_is (.fieldAddr 27 _ 1) ?_; (refine so_q (qt_fld_lp (off := 1) rfl (by kernel_rfl)) rfl ?_)) | (refine so_is (.call ⟨.builtin .len, _, #[25]⟩) ?_; (refine so_q (qt_len_d rfl (by kernel_rfl)) rfl ?_)) | (refine so_is (.binOp .lss 3 _ _ _) ?_; refine so_q (qt_lss rfl rfl) rfl ?_) | (refine so_is (.indexAddr 25 _ _) ?_; (refine so_q (qt_idxII rfl rfl (by kernel_rfl) (by (omega)) (by (omega))) rfl ?_)) | (refine so_is (.load 24 _) ?_; (refine so_q (qt_load_pt rfl (by kernel_rfl) rfl) rfl ?_)) | (refine so_is (.binOp .add 3 _ _ _) ?_; refine so_q (qt_addI rfl rfl (by (omega))) rfl ?_) | (refine so_is (.call ⟨.value (.func 92), _, _⟩) ?_; (apply so_call0 (fid := 92); (· (repeat (first | exact SeA.nil | apply SeA.cons (.c (.d _))))); (· exact pl); (· rfl))) | refine so_nil ?_ | refine sk_seq ?_ | refine sk_block ?_ | refine sk_blk ?_ | refine sk_exit rfl ?_ | refine sk_skip ?_ | refine sk_region ?_ | refine sk_if rfl (fun hc => ?_) (fun hc => ?_))
      all_goals first | (exfalso; omega) | (exfalso; simp_all; done) | skip
      apply sk_packC [2, 3, 7, 9, 36, 37, 38, 44, 45, 46, 54, 55, 56] [2, 3, 36, 44, 54, 2064, 3064] rfl; (· (repeat (first | exact Pf.nil | apply Pf.cons (.c rfl (.d rfl)) | apply Pf.cons (.c rfl (.lp rfl))))); (· (repeat (first | exact Pb.nil | (apply Pb.cons; (· apply Nb.box rfl; (repeat (first | exact Ncs.nil rfl | (apply Ncs.cons rfl; (· (exact .d rfl))))))) | apply Pb.skip)))
      refine sk_loopL [2, 3, 7, 9, 36, 37, 38, 44, 45, 46, 54, 55] [2, 3, 36, 44, 54, 2064, 3064] (fun n => [(56, iN n)]) (fun _ => []) (fun n => n ≤ C.length ∧ ∀ n' : Nat, n' < n → T (atZ A i) (atZ B k) (atZ C n') = false) (fun n => C.length - n) (0) ?_ (by (repeat (first | exact trivial | refine ⟨(by (rfl)), ?_⟩))) (by (repeat (exact trivial))) ?_
      · exact ⟨Nat.zero_le _, fun n' h => by omega⟩
      rintro n ⟨hn, H3⟩
      by_cases hn2 : n < C.length
      · have ak := ask _ _ _ ea.2 eb.2 (ec n hn2)
        have ep := eqp (atZ A (i : Int)) (atZ B (k : Int)) (atZ C (n : Int))
        have ys := yes i k n hi2 hk2 hn2
        cases ht : T (atZ A i) (atZ B k) (atZ C n) with
        | true =>
          rw [ht] at ep
          repeat' (first | (refine so_is (.assign _) ?_; (refine so_q (qt_asC rfl) rfl ?_)) | (refine so_is (.load 27 _) ?_; (refine so_q (qt_load_boxs rfl rfl (by kernel_rfl : tAgg _ 27 4 = true) rfl) rfl ?_)) | (refine so_is (.move _) ?_; (refine so_q (qt_mvC rfl) rfl ?_)) | (refine so_is (.binOp .lss 3 _ _ _) ?_; refine so_q (qt_lss rfl rfl) rfl ?_) | (refine so_is (.indexAddr 25 _ _) ?_; (refine so_q (qt_idxII rfl rfl (by kernel_rfl) (by (omega)) (by (omega))) rfl ?_)) | (refine so_is (.load 24 _) ?_; (refine so_q (qt_load_pt rfl (by kernel_rfl) rfl) rfl ?_)) | (refine so_is (.binOp .add 3 _ _ _) ?_; refine so_q (qt_addI rfl rfl (by (omega))) rfl ?_) | (refine so_is (.call ⟨.value (.func 93), _, _⟩) ?_; ((apply so_call0 (fid := 93); (· (repeat (first | exact SeA.nil | apply SeA.cons (.c (.d _)) | (apply SeA.cons; (· (apply SeP.g; (repeat (first | exact SeL.nil | apply SeL.cons (.d _))))))))); (· exact ak); (· rfl)))) | (refine so_is (.call ⟨.value (.func 94), _, _⟩) ?_; ((apply so_call0 (fid := 94); (· (repeat (first | exact SeA.nil | (apply SeA.cons; (· (apply SeP.g; (repeat (first | exact SeL.nil | apply SeL.cons (.d _))))))))); (· exact ep); (· rfl)))) | refine so_nil ?_ | refine sk_seq ?_ | refine sk_block ?_ | refine sk_blk ?_ | refine sk_exit rfl ?_ | refine sk_skip ?_ | refine sk_region ?_ | refine sk_drawQ 12 (fun _ => false) (.step 0 true (.step 1 true (.step 2 true (.step 3 true (.step 5 true (.step 4 false (.step 6 false .nil))))))) [(0, 127, 127, false), (0, 127, 127, true), (0, 127, 127, true), (0, 127, 127, true), (15, 112, 127, false), (0, 127, 127, false), (48, 79, 127, false)] (by kernel_rfl) (by kernel_rfl) ?_ | refine sk_true rfl ?_ | refine sk_if rfl (fun hc => ?_) (fun hc => ?_))
          all_goals first | (exfalso; omega) | (exfalso; simp_all; done) | skip
          all_goals (apply sk_ret; apply ret_eq; (· apply RetOK.t; (· (apply GvA.cons; (· exact .tmp _); (· exact GvP.c (.lit _))); (apply GvA.cons; (· exact .tmp _); (· exact GvP.c (.lit _))); exact GvA.nil); (· rfl); (· (decide))))
          all_goals rw [ys ht]
        | false =>
          rw [ht] at ep
          repeat' (first | (refine so_is (.assign _) ?_; (refine so_q (qt_asC rfl) rfl ?_)) | (refine so_is (.load 27 _) ?_; (refine so_q (qt_load_boxs rfl rfl (by kernel_rfl : tAgg _ 27 4 = true) rfl) rfl ?_)) | (refine so_is (.move _) ?_; (refine so_q (qt_mvC rfl) rfl ?_)) | (refine so_is (.binOp .lss 3 _ _ _) ?_; refine so_q (qt_lss rfl rfl) rfl ?_) | (refine so_is (.indexAddr 25 _ _) ?_; (refine so_q (qt_idxII rfl rfl (by kernel_rfl) (by (omega)) (by (omega))) rfl ?_)) | (refine so_is (.load 24 _) ?_; (refine so_q (qt_load_pt rfl (by kernel_rfl) rfl) rfl ?_)) | (refine so_is (.binOp .add 3 _ _ _) ?_; refine so_q (qt_addI rfl rfl (by (omega))) rfl ?_) | (refine so_is (.call ⟨.value (.func 93), _, _⟩) ?_; ((apply so_call0 (fid := 93); (· (repeat (first | exact SeA.nil | apply SeA.cons (.c (.d _)) | (apply SeA.cons; (· (apply SeP.g; (repeat (first | exact SeL.nil | apply SeL.cons (.d _))))))))); (· exact ak); (· rfl)))) | (refine so_is (.call ⟨.value (.func 94), _, _⟩) ?_; ((apply so_call0 (fid := 94); (· (repeat (first | exact SeA.nil | (apply SeA.cons; (· (apply SeP.g; (repeat (first | exact SeL.nil | apply SeL.cons (.d _))))))))); (· exact ep); (· rfl)))) | refine so_nil ?_ | refine sk_seq ?_ | refine sk_block ?_ | refine sk_blk ?_ | refine sk_exit rfl ?_ | refine sk_skip ?_ | refine sk_region ?_ | refine sk_drawQ 12 (fun _ => false) (.step 0 true (.step 1 true (.step 2 true (.step 3 true (.step 5 true (.step 4 false (.step 6 false .nil))))))) [(0, 127, 127, false), (0, 127, 127, true), (0, 127, 127, true), (0, 127, 127, true), (15, 112, 127, false), (0, 127, 127, false), (48, 79, 127, false)] (by kernel_rfl) (by kernel_rfl) ?_ | refine sk_false rfl ?_ | refine sk_if rfl (fun hc => ?_) (fun hc => ?_))
          all_goals first | (exfalso; omega) | (exfalso; simp_all; done) | skip
          refine sk_back ?_; refine ⟨n + 1, ?_, ?_, le_at rfl (by (repeat (first | exact trivial | refine ⟨(by (rfl)), ?_⟩))) (by (repeat (first | exact trivial | refine ⟨rfl, ?_⟩))) (by (repeat (exact trivial))) (by (repeat (first | exact trivial | refine ⟨.inr rfl, ?_⟩)))⟩
          · refine ⟨by omega, fun n' h => ?_⟩
            rcases Nat.lt_succ_iff_lt_or_eq.1 h with h | rfl
            · exact H3 n' h
            · exact ht
          · omega
      · have e : n = C.length := by omega
        subst e
        repeat' (first | (refine so_is (.assign _) ?_; (refine so_q (qt_asC rfl) rfl ?_)) | (refine so_is (.load 27 _) ?_; (refine so_q (qt_load_boxs rfl rfl (by kernel_rfl : tAgg _ 27 4 = true) rfl) rfl ?_)) | (refine so_is (.move _) ?_; (refine so_q (qt_mvC rfl) rfl ?_)) | (refine so_is (.binOp .lss 3 _ _ _) ?_; refine so_q (qt_lss rfl rfl) rfl ?_) | (refine so_is (.indexAddr 25 _ _) ?_; (refine so_q (qt_idxII rfl rfl (by kernel_rfl) (by (omega)) (by (omega))) rfl ?_)) | (refine so_is (.load 24 _) ?_; (refine so_q (qt_load_pt rfl (by kernel_rfl) rfl) rfl ?_)) | (refine so_is (.binOp .add 3 _ _ _) ?_; refine so_q (qt_addI rfl rfl (by (omega))) rfl ?_) | refine so_nil ?_ | refine sk_seq ?_ | refine sk_block ?_ | refine sk_blk ?_ | refine sk_exit rfl ?_ | refine sk_skip ?_ | refine sk_region ?_ | refine sk_drawQ 12 (fun _ => false) (.step 0 true (.step 1 true (.step 2 true (.step 3 true (.step 5 true (.step 4 false (.step 6 false .nil))))))) [(0, 127, 127, false), (0, 127, 127, true), (0, 127, 127, true), (0, 127, 127, true), (15, 112, 127, false), (0, 127, 127, false), (48, 79, 127, false)] (by kernel_rfl) (by kernel_rfl) ?_ | refine sk_if rfl (fun hc => ?_) (fun hc => ?_))
        all_goals first | (exfalso; omega) | (exfalso; simp_all; done) | skip
        refine sk_back ?_; refine ⟨k + 1, ?_, ?_, le_at rfl (by (repeat (first | exact trivial | refine ⟨(by (rfl)), ?_⟩))) (by (repeat (first | exact trivial | refine ⟨rfl, ?_⟩))) (by (repeat (exact trivial))) (by (repeat (first | exact trivial | refine ⟨.inr rfl, ?_⟩)))⟩
        · refine ⟨by omega, fun k' n' h hn' => ?_⟩
          rcases Nat.lt_succ_iff_lt_or_eq.1 h with h | rfl
          · exact H2 k' n' h hn'
          · exact H3 n' hn'
        · omega
    · have e : k = B.length := by omega
      subst e
      repeat' (first | (refine so_is (.assign _) ?_; (refine so_q (qt_asC rfl) rfl ?_)) | (refine so_is (.move _) ?_; (refine so_q (qt_mvC rfl) rfl ?_)) | (refine so_is (.fieldAddr 27 _ 0) ?_; (refine so_q (qt_fld_lp (off := 0) rfl (by kernel_rfl)) rfl ?_)) | (refine so_is (.load 3 _) ?_; (refine so_q (qt_load_box rfl rfl (by kernel_rfl) rfl) rfl ?_)) | (refine so_is (.fieldAddr 27 _ 1) ?_; (refine so_q (qt_fld_lp (off := 1) rfl (by kernel_rfl)) rfl ?_)) | (refine so_is (.binOp .lss 3 _ _ _) ?_; refine so_q (qt_lss rfl rfl) rfl ?_) | (refine so_is (.indexAddr 25 _ _) ?_; (refine so_q (qt_idxII rfl rfl (by kernel_rfl) (by (omega)) (by (omega))) rfl ?_)) | (refine so_is (.load 24 _) ?_; (refine so_q (qt_load_pt rfl (by kernel_rfl) rfl) rfl ?_)) | (refine so_is (.binOp .add 3 _ _ _) ?_; refine so_q (qt_addI rfl rfl (by (omega))) rfl ?_) | refine so_nil ?_ | refine sk_seq ?_ | refine sk_block ?_ | refine sk_blk ?_ | refine sk_exit rfl ?_ | refine sk_skip ?_ | refine sk_region ?_ | refine sk_if rfl (fun hc => ?_) (fun hc => ?_))
      all_goals first | (exfalso; omega) | (exfalso; simp_all; done) | skip
      refine sk_back ?_; refine ⟨i + 1, ?_, ?_, le_at rfl (by (repeat (first | exact trivial | refine ⟨(by (rfl)), ?_⟩))) (by (repeat (first | exact trivial | refine ⟨rfl, ?_⟩))) (by (repeat (exact trivial))) (by (repeat (first | exact trivial | refine ⟨.inr rfl, ?_⟩)))⟩
      · refine ⟨by omega, fun i' k' n' h hk' hn' => ?_⟩
        rcases Nat.lt_succ_iff_lt_or_eq.1 h with h | rfl
        · exact H1 i' k' n' h hk' hn'
        · exact H2 k' n' hk' hn'
      · omega
  · have e : i = A.length := by omega
    subst e
    repeat' (first | (refine so_is (.assign _) ?_; (refine so_q (qt_asC rfl) rfl ?_)) | (refine so_is (.load 3 _) ?_; (refine so_q (qt_load_box rfl rfl (by kernel_rfl) rfl) rfl ?_)) | (refine so_is (.fieldAddr 27 _ 1) ?_; (refine so_q (qt_fld_lp (off := 1) rfl (by kernel_rfl)) rfl ?_)) | (refine so_is (.binOp .lss 3 _ _ _) ?_; refine so_q (qt_lss rfl rfl) rfl ?_) | (refine so_is (.indexAddr 25 _ _) ?_; (refine so_q (qt_idxII rfl rfl (by kernel_rfl) (by (omega)) (by (omega))) rfl ?_)) | (refine so_is (.load 24 _) ?_; (refine so_q (qt_load_pt rfl (by kernel_rfl) rfl) rfl ?_)) | refine so_nil ?_ | refine sk_seq ?_ | refine sk_block ?_ | refine sk_exit rfl ?_ | refine sk_skip ?_ | refine sk_region ?_ | refine sk_if rfl (fun hc => ?_) (fun hc => ?_))
    all_goals first | (exfalso; omega) | (exfalso; simp_all; done) | skip
    all_goals (apply sk_ret; apply ret_eq; (· apply RetOK.t; (· (apply GvA.cons; (· exact .tmp _); (· exact GvP.c (.lit _))); (apply GvA.cons; (· exact .tmp _); (· exact GvP.c (.lit _))); exact GvA.nil); (· rfl); (· (decide))))
    all_goals rw [no fun i k n hi hk hn => H1 i k n hi hk hn]

end Go.Proofs.Ytefbiejoikpkmaa

namespace Go.Proofs.Ytefbiejoikpkmaa
open Go.RowKit
set_option linter.unusedSectionVars false
variable [Glb]
set_option maxRecDepth 10000
set_option maxHeartbeats 4000000
theorem l1Same_p (a b : List Int) : PC Try.prog 97 [.c (eI a), .c (eI b)] (.p (.c (dB (decide (a = b))))) := by
  refine pc_intro Try.func97 rfl rfl rfl (by kernel_rfl) rfl rfl ?_; rintro ⟨hl, hm, -⟩
  have hl := hl.len
  have hm := hm.len
  repeat' (first | (refine so_is (.assign _) ?_; (refine so_q (qt_asC rfl) rfl ?_)) | (refine so_is (.move _) ?_; (refine so_q (qt_mvC rfl) rfl ?_)) | (refine so_is (.call ⟨.builtin .len, _, #[24]⟩) ?_; (refine so_q (qt_len_d rfl (by kernel_rfl)) rfl ?_)) | (refine so_is (.binOp .neq 3 _ _ _) ?_; refine so_q (qt_neq rfl rfl) rfl ?_) | refine so_nil ?_ | refine sk_seq ?_ | refine sk_block ?_ | refine sk_skip ?_ | refine sk_region ?_ | refine sk_if rfl (fun hc => ?_) (fun hc => ?_))
  · (apply sk_ret; apply ret_eq; (· apply RetOK.p; (· (apply GvA.cons; (· exact .tmp _); (· exact GvP.c (.lit _))); exact GvA.nil); (· (decide))))
    have : a ≠ b := fun e => by subst e; simp at *
    simp [this]
  have hab : a.length = b.length := by simp at *; omega
  apply sk_packC [0, 1, 5] [] rfl; (· (repeat (first | exact Pf.nil | apply Pf.cons (.c rfl (.d rfl))))); (· (repeat (exact Pb.nil)))
  refine sk_loopL [0, 1] [] (fun k => [(5, iN k)]) (fun _ => []) (fun k => k ≤ a.length ∧ a.take k = b.take k) (fun k => a.length - k) (0) ?_ (by (repeat (first | exact trivial | refine ⟨(by (rfl)), ?_⟩))) (by (repeat (exact trivial))) ?_
  · simp
  rintro k ⟨hk, hs⟩
  by_cases hk' : k < a.length
  · by_cases he : atZ a (k : Int) = atZ b (k : Int)
    · repeat' (first | (refine so_is (.assign _) ?_; (refine so_q (qt_asC rfl) rfl ?_)) | (refine so_is (.move _) ?_; (refine so_q (qt_mvC rfl) rfl ?_)) | (refine so_is (.call ⟨.builtin .len, _, #[24]⟩) ?_; (refine so_q (qt_len_d rfl (by kernel_rfl)) rfl ?_)) | (refine so_is (.binOp .neq 3 _ _ _) ?_; refine so_q (qt_neq rfl rfl) rfl ?_) | (refine so_is (.binOp .lss 3 _ _ _) ?_; refine so_q (qt_lss rfl rfl) rfl ?_) | (refine so_is (.indexAddr 24 _ _) ?_; (refine so_q (qt_idxI rfl rfl (by kernel_rfl) (by (omega)) (by (omega))) rfl ?_)) | (refine so_is (.load 3 _) ?_; (refine so_q (qt_load_pt rfl (by kernel_rfl) rfl) rfl ?_)) | (refine so_is (.binOp .add 3 _ _ _) ?_; refine so_q (qt_addI rfl rfl (by (omega))) rfl ?_) | refine so_nil ?_ | refine sk_seq ?_ | refine sk_block ?_ | refine sk_blk ?_ | refine sk_exit rfl ?_ | refine sk_skip ?_ | refine sk_region ?_ | refine sk_drawQ 6 (fun _ => false) (.step 0 true (.step 1 true (.step 2 true (.step 3 true (.step 4 true (.step 5 true (.step 6 true (.step 7 true (.step 8 true .nil))))))))) [(0, 511, 511, true), (0, 511, 511, true), (3, 508, 511, true), (4, 507, 511, false), (0, 511, 511, true), (0, 511, 511, true), (48, 463, 511, true), (64, 447, 511, false), (136, 375, 511, true)] (by kernel_rfl) (by kernel_rfl) ?_ | refine sk_if rfl (fun hc => ?_) (fun hc => ?_))
      all_goals first | (exfalso; omega) | (exfalso; simp_all; done) | skip
      refine sk_back ?_; refine ⟨k + 1, ?_, ?_, le_at rfl (by (repeat (first | exact trivial | refine ⟨(by (rfl)), ?_⟩))) (by (repeat (first | exact trivial | refine ⟨rfl, ?_⟩))) (by (repeat (exact trivial))) (by (repeat (exact trivial)))⟩
      · rw [atZ_nat (by omega), atZ_nat (by omega)] at he
        exact ⟨by omega, by rw [List.take_succ_eq_append_getElem (by omega), List.take_succ_eq_append_getElem (by omega), hs]; rw [he]⟩
      · omega
    · repeat' (first | (refine so_is (.assign _) ?_; (refine so_q (qt_asC rfl) rfl ?_)) | (refine so_is (.move _) ?_; (refine so_q (qt_mvC rfl) rfl ?_)) | (refine so_is (.call ⟨.builtin .len, _, #[24]⟩) ?_; (refine so_q (qt_len_d rfl (by kernel_rfl)) rfl ?_)) | (refine so_is (.binOp .neq 3 _ _ _) ?_; refine so_q (qt_neq rfl rfl) rfl ?_) | (refine so_is (.binOp .lss 3 _ _ _) ?_; refine so_q (qt_lss rfl rfl) rfl ?_) | (refine so_is (.indexAddr 24 _ _) ?_; (refine so_q (qt_idxI rfl rfl (by kernel_rfl) (by (omega)) (by (omega))) rfl ?_)) | (refine so_is (.load 3 _) ?_; (refine so_q (qt_load_pt rfl (by kernel_rfl) rfl) rfl ?_)) | (refine so_is (.binOp .add 3 _ _ _) ?_; refine so_q (qt_addI rfl rfl (by (omega))) rfl ?_) | refine so_nil ?_ | refine sk_seq ?_ | refine sk_block ?_ | refine sk_blk ?_ | refine sk_exit rfl ?_ | refine sk_skip ?_ | refine sk_region ?_ | refine sk_drawQ 6 (fun _ => false) (.step 0 true (.step 1 true (.step 2 true (.step 3 true (.step 4 true (.step 5 true (.step 6 true (.step 7 true (.step 8 true .nil))))))))) [(0, 511, 511, true), (0, 511, 511, true), (3, 508, 511, true), (4, 507, 511, false), (0, 511, 511, true), (0, 511, 511, true), (48, 463, 511, true), (64, 447, 511, false), (136, 375, 511, true)] (by kernel_rfl) (by kernel_rfl) ?_ | refine sk_if rfl (fun hc => ?_) (fun hc => ?_))
      all_goals first | (exfalso; omega) | (exfalso; simp_all; done) | skip
      (apply sk_ret; apply ret_eq; (· apply RetOK.p; (· (apply GvA.cons; (· exact .tmp _); (· exact GvP.c (.lit _))); exact GvA.nil); (· (decide))))
      have : a ≠ b := fun e => by subst e; exact he rfl
      simp [this]
  · have e : k = a.length := by omega
    subst e
    rw [List.take_length, hab, List.take_length] at hs
    repeat' (first | (refine so_is (.assign _) ?_; (refine so_q (qt_asC rfl) rfl ?_)) | (refine so_is (.move _) ?_; (refine so_q (qt_mvC rfl) rfl ?_)) | (refine so_is (.call ⟨.builtin .len, _, #[24]⟩) ?_; (refine so_q (qt_len_d rfl (by kernel_rfl)) rfl ?_)) | (refine so_is (.binOp .neq 3 _ _ _) ?_; refine so_q (qt_neq rfl rfl) rfl ?_) | (refine so_is (.binOp .lss 3 _ _ _) ?_; refine so_q (qt_lss rfl rfl) rfl ?_) | (refine so_is (.indexAddr 24 _ _) ?_; (refine so_q (qt_idxI rfl rfl (by kernel_rfl) (by (omega)) (by (omega))) rfl ?_)) | (refine so_is (.load 3 _) ?_; (refine so_q (qt_load_pt rfl (by kernel_rfl) rfl) rfl ?_)) | (refine so_is (.binOp .add 3 _ _ _) ?_; refine so_q (qt_addI rfl rfl (by (omega))) rfl ?_) | refine so_nil ?_ | refine sk_seq ?_ | refine sk_block ?_ | refine sk_blk ?_ | refine sk_exit rfl ?_ | refine sk_skip ?_ | refine sk_region ?_ | refine sk_drawQ 6 (fun _ => false) (.step 0 true (.step 1 true (.step 2 true (.step 3 true (.step 4 true (.step 5 true (.step 6 true (.step 7 true (.step 8 true .nil))))))))) [(0, 511, 511, true), (0, 511, 511, true), (3, 508, 511, true), (4, 507, 511, false), (0, 511, 511, true), (0, 511, 511, true), (48, 463, 511, true), (64, 447, 511, false), (136, 375, 511, true)] (by kernel_rfl) (by kernel_rfl) ?_ | refine sk_if rfl (fun hc => ?_) (fun hc => ?_))
    all_goals first | (exfalso; omega) | skip
    (apply sk_ret; apply ret_eq; (· apply RetOK.p; (· (apply GvA.cons; (· exact .tmp _); (· exact GvP.c (.lit _))); exact GvA.nil); (· (decide))))
    simp [hs]
theorem l4Same_p (x y : Int) (ws : List Int) (wi : List (List Int)) (x2 y2 : Int) (wi2 : List (List Int)) (h : ws.length = wi.length) (h2 : ws.length = wi2.length) : PC Try.prog 98 [.g [dI x, dI y, eI ws, eII wi], .g [dI x2, dI y2, eI ws, eII wi2]] (.p (.c (dB (decide (wi = wi2))))) := by
  refine pc_intro Try.func98 rfl rfl rfl (by kernel_rfl) rfl rfl ?_; rintro ⟨hl, -⟩
  have hl := (hl _ (List.mem_cons_of_mem _ (List.mem_cons_of_mem _ (List.mem_cons_self ..)))).len
  repeat' (first | (refine so_is (.box 27 _) ?_; refine so_box rfl rfl ?_) | (refine so_is (.assign _) ?_; (refine so_q (qt_asC rfl) rfl ?_)) | refine so_nil ?_ | refine sk_seq ?_ | refine sk_block ?_ | refine sk_region ?_)
  apply sk_packC [2, 3, 5] [2, 3] rfl; (· (repeat (first | exact Pf.nil | apply Pf.cons (.c rfl (.d rfl)) | apply Pf.cons (.c rfl (.lp rfl))))); (· (repeat (first | exact Pb.nil | (apply Pb.cons; (· apply Nb.box rfl; (repeat (first | exact Ncs.nil rfl | (apply Ncs.cons rfl; (· (exact .d rfl))))))))))
  refine sk_loopL [2, 3] [2, 3] (fun k => [(5, iN k)]) (fun _ => []) (fun k => k ≤ wi.length ∧ wi.take k = wi2.take k) (fun k => wi.length - k) (0) ?_ (by (repeat (first | exact trivial | refine ⟨(by (rfl)), ?_⟩))) (by (repeat (exact trivial))) ?_
  · simp
  rintro k ⟨hk, hs⟩
  by_cases hk' : k < wi.length
  · cases he : decide (atZ wi (k : Int) = atZ wi2 (k : Int)) with
    | true =>
      have sp := l1Same_p (atZ wi (k : Int)) (atZ wi2 (k : Int))
      rw [he] at sp
      repeat' (first | (refine so_is (.assign _) ?_; (refine so_q (qt_asC rfl) rfl ?_)) | (refine so_is (.move _) ?_; (refine so_q (qt_mvC rfl) rfl ?_)) | (refine so_is (.fieldAddr 27 _ 3) ?_; (refine so_q (qt_fld_lp (off := 3) rfl (by kernel_rfl)) rfl ?_)) | (refine so_is (.load 25 _) ?_; (refine so_q (qt_load_box rfl rfl (by kernel_rfl) rfl) rfl ?_)) | (refine so_is (.call ⟨.builtin .len, _, #[25]⟩) ?_; (refine so_q (qt_len_d rfl (by kernel_rfl)) rfl ?_)) | (refine so_is (.binOp .lss 3 _ _ _) ?_; refine so_q (qt_lss rfl rfl) rfl ?_) | (refine so_is (.fieldAddr 27 _ 2) ?_; (refine so_q (qt_fld_lp (off := 2) rfl (by kernel_rfl)) rfl ?_)) | (refine so_is (.load 24 _) ?_; (first | refine so_q (qt_load_box rfl rfl (by kernel_rfl) rfl) rfl ?_ | refine so_q (qt_load_pt rfl (by kernel_rfl) rfl) rfl ?_)) | (refine so_is (.indexAddr 24 _ _) ?_; (refine so_q (qt_idxI rfl rfl (by kernel_rfl) (by (omega)) (by (omega))) rfl ?_)) | (refine so_is (.load 3 _) ?_; (refine so_q (qt_load_pt rfl (by kernel_rfl) rfl) rfl ?_)) | (refine so_is (.binOp .neq 3 _ _ _) ?_; (refine so_q (qt_neq_same rfl rfl) rfl ?_)) | (refine so_is (.indexAddr 25 _ _) ?_; (refine so_q (qt_idxII rfl rfl (by kernel_rfl) (by (omega)) (by (omega))) rfl ?_)) | (refine so_is (.unOp .not 4 _) ?_; refine so_q (qt_not rfl) rfl ?_) | (refine so_is (.pick _ _ _) ?_; (refine so_q (qt_pkC rfl rfl) rfl ?_)) | (refine so_is (.binOp .add 3 _ _ _) ?_; refine so_q (qt_addI rfl rfl (by (omega))) rfl ?_) | (refine so_is (.call ⟨.value (.func 97), _, _⟩) ?_; (apply so_call0 (fid := 97); (· (repeat (first | exact SeA.nil | apply SeA.cons (.c (.d _))))); (· exact sp); (· rfl))) | refine so_nil ?_ | refine so_g_yes rfl rfl rfl rfl ?_ | refine sk_seq ?_ | refine sk_block ?_ | refine sk_blk ?_ | refine sk_exit rfl ?_ | refine sk_skip ?_ | refine sk_region ?_ | refine sk_drawQ 4 (fun _ => false) (.step 0 true (.step 1 true (.step 2 true (.step 3 true (.step 4 true (.step 5 true (.step 6 true (.step 7 true (.step 8 true (.step 9 true (.step 10 true (.step 11 true (.step 12 true (.step 13 true (.step 14 true (.step 15 true (.step 16 true (.step 17 true (.step 18 true (.step 19 true (.step 20 true (.step 21 true (.step 22 false (.step 23 true (.step 24 true .nil))))))))))))))))))))))))) [(0, 33554431, 33554431, true), (1, 33554430, 33554431, false), (0, 33554431, 33554431, true), (6, 33554425, 33554431, true), (8, 33554423, 33554431, false), (0, 33554431, 33554431, true), (32, 33554399, 33554431, false), (0, 33554431, 33554431, true), (192, 33554239, 33554431, true), (256, 33554175, 33554431, false), (528, 33553903, 33554431, true), (1024, 33553407, 33554431, true), (2048, 33552383, 33554431, true), (6144, 33548287, 33554431, false), (2048, 33552383, 33554431, true), (26624, 33527807, 33554431, true), (34816, 33519615, 33554431, false), (2048, 33552383, 33554431, true), (133120, 33421311, 33554431, false), (2048, 33552383, 33554431, true), (788480, 32765951, 33554431, true), (1050624, 32503807, 33554431, false), (2164736, 31389695, 33554431, false), (4196352, 29358079, 33554431, true), (8390656, 25163775, 33554431, true)] (by kernel_rfl) (by kernel_rfl) ?_ | refine sk_false rfl ?_ | refine sk_if rfl (fun hc => ?_) (fun hc => ?_))
      all_goals first | (exfalso; omega) | (exfalso; simp_all; done) | skip
      refine sk_back ?_; refine ⟨k + 1, ?_, ?_, le_at rfl (by (repeat (first | exact trivial | refine ⟨(by (rfl)), ?_⟩))) (by (repeat (first | exact trivial | refine ⟨rfl, ?_⟩))) (by (repeat (exact trivial))) (by (repeat (first | exact trivial | refine ⟨.inr rfl, ?_⟩)))⟩
      · have he := of_decide_eq_true he
        rw [atZ_nat (by omega), atZ_nat (by omega)] at he
        exact ⟨by omega, by rw [List.take_succ_eq_append_getElem (by omega), List.take_succ_eq_append_getElem (by omega), hs]; rw [he]⟩
      · omega
    | false =>
      have sp := l1Same_p (atZ wi (k : Int)) (atZ wi2 (k : Int))
      rw [he] at sp
      repeat' (first | (refine so_is (.assign _) ?_; (refine so_q (qt_asC rfl) rfl ?_)) | (refine so_is (.move _) ?_; (refine so_q (qt_mvC rfl) rfl ?_)) | (refine so_is (.fieldAddr 27 _ 3) ?_; (refine so_q (qt_fld_lp (off := 3) rfl (by kernel_rfl)) rfl ?_)) | (refine so_is (.load 25 _) ?_; (refine so_q (qt_load_box rfl rfl (by kernel_rfl) rfl) rfl ?_)) | (refine so_is (.call ⟨.builtin .len, _, #[25]⟩) ?_; (refine so_q (qt_len_d rfl (by kernel_rfl)) rfl ?_)) | (refine so_is (.binOp .lss 3 _ _ _) ?_; refine so_q (qt_lss rfl rfl) rfl ?_) | (refine so_is (.fieldAddr 27 _ 2) ?_; (refine so_q (qt_fld_lp (off := 2) rfl (by kernel_rfl)) rfl ?_)) | (refine so_is (.load 24 _) ?_; (first | refine so_q (qt_load_box rfl rfl (by kernel_rfl) rfl) rfl ?_ | refine so_q (qt_load_pt rfl (by kernel_rfl) rfl) rfl ?_)) | (refine so_is (.indexAddr 24 _ _) ?_; (refine so_q (qt_idxI rfl rfl (by kernel_rfl) (by (omega)) (by (omega))) rfl ?_)) | (refine so_is (.load 3 _) ?_; (refine so_q (qt_load_pt rfl (by kernel_rfl) rfl) rfl ?_)) | (refine so_is (.binOp .neq 3 _ _ _) ?_; (refine so_q (qt_neq_same rfl rfl) rfl ?_)) | (refine so_is (.indexAddr 25 _ _) ?_; (refine so_q (qt_idxII rfl rfl (by kernel_rfl) (by (omega)) (by (omega))) rfl ?_)) | (refine so_is (.unOp .not 4 _) ?_; refine so_q (qt_not rfl) rfl ?_) | (refine so_is (.pick _ _ _) ?_; (refine so_q (qt_pkC rfl rfl) rfl ?_)) | (refine so_is (.call ⟨.value (.func 97), _, _⟩) ?_; (apply so_call0 (fid := 97); (· (repeat (first | exact SeA.nil | apply SeA.cons (.c (.d _))))); (· exact sp); (· rfl))) | refine so_nil ?_ | refine so_g_yes rfl rfl rfl rfl ?_ | refine sk_seq ?_ | refine sk_block ?_ | refine sk_exit rfl ?_ | refine sk_skip ?_ | refine sk_region ?_ | refine sk_drawQ 4 (fun _ => false) (.step 0 true (.step 1 true (.step 2 true (.step 3 true (.step 4 true (.step 5 true (.step 6 true (.step 7 true (.step 8 true (.step 9 true (.step 10 true (.step 11 true (.step 12 true (.step 13 true (.step 14 true (.step 15 true (.step 16 true (.step 17 true (.step 18 true (.step 19 true (.step 20 true (.step 21 true (.step 22 false (.step 23 true (.step 24 true .nil))))))))))))))))))))))))) [(0, 33554431, 33554431, true), (1, 33554430, 33554431, false), (0, 33554431, 33554431, true), (6, 33554425, 33554431, true), (8, 33554423, 33554431, false), (0, 33554431, 33554431, true), (32, 33554399, 33554431, false), (0, 33554431, 33554431, true), (192, 33554239, 33554431, true), (256, 33554175, 33554431, false), (528, 33553903, 33554431, true), (1024, 33553407, 33554431, true), (2048, 33552383, 33554431, true), (6144, 33548287, 33554431, false), (2048, 33552383, 33554431, true), (26624, 33527807, 33554431, true), (34816, 33519615, 33554431, false), (2048, 33552383, 33554431, true), (133120, 33421311, 33554431, false), (2048, 33552383, 33554431, true), (788480, 32765951, 33554431, true), (1050624, 32503807, 33554431, false), (2164736, 31389695, 33554431, false), (4196352, 29358079, 33554431, true), (8390656, 25163775, 33554431, true)] (by kernel_rfl) (by kernel_rfl) ?_ | refine sk_true rfl ?_ | refine sk_if rfl (fun hc => ?_) (fun hc => ?_))
      all_goals first | (exfalso; omega) | (exfalso; simp_all; done) | skip
      (apply sk_ret; apply ret_eq; (· apply RetOK.p; (· (apply GvA.cons; (· exact .tmp _); (· exact GvP.c (.lit _))); exact GvA.nil); (· (decide))))
      have : wi ≠ wi2 := fun e => by subst e; simp at he
      simp [this]
  · have e : k = wi.length := by omega
    subst e
    rw [List.take_length, ← h, h2, List.take_length] at hs
    repeat' (first | (refine so_is (.assign _) ?_; (refine so_q (qt_asC rfl) rfl ?_)) | (refine so_is (.move _) ?_; (refine so_q (qt_mvC rfl) rfl ?_)) | (refine so_is (.fieldAddr 27 _ 3) ?_; (refine so_q (qt_fld_lp (off := 3) rfl (by kernel_rfl)) rfl ?_)) | (refine so_is (.load 25 _) ?_; (refine so_q (qt_load_box rfl rfl (by kernel_rfl) rfl) rfl ?_)) | (refine so_is (.call ⟨.builtin .len, _, #[25]⟩) ?_; (refine so_q (qt_len_d rfl (by kernel_rfl)) rfl ?_)) | (refine so_is (.binOp .lss 3 _ _ _) ?_; refine so_q (qt_lss rfl rfl) rfl ?_) | (refine so_is (.fieldAddr 27 _ 2) ?_; (refine so_q (qt_fld_lp (off := 2) rfl (by kernel_rfl)) rfl ?_)) | (refine so_is (.load 24 _) ?_; (first | refine so_q (qt_load_box rfl rfl (by kernel_rfl) rfl) rfl ?_ | refine so_q (qt_load_pt rfl (by kernel_rfl) rfl) rfl ?_)) | (refine so_is (.indexAddr 24 _ _) ?_; (refine so_q (qt_idxI rfl rfl (by kernel_rfl) (by (omega)) (by (omega))) rfl ?_)) | (refine so_is (.load 3 _) ?_; (refine so_q (qt_load_pt rfl (by kernel_rfl) rfl) rfl ?_)) | (refine so_is (.binOp .neq 3 _ _ _) ?_; refine so_q (qt_neq rfl rfl) rfl ?_) | (refine so_is (.indexAddr 25 _ _) ?_; (refine so_q (qt_idxII rfl rfl (by kernel_rfl) (by (omega)) (by (omega))) rfl ?_)) | (refine so_is (.pick _ _ _) ?_; (refine so_q (qt_pkC rfl rfl) rfl ?_)) | refine so_nil ?_ | refine so_g_no rfl rfl rfl rfl ?_ | refine so_g_yes rfl rfl rfl rfl ?_ | refine so_g_if rfl rfl (fun hg => ?_) (fun hg => ?_) | refine sk_seq ?_ | refine sk_block ?_ | refine sk_exit rfl ?_ | refine sk_skip ?_ | refine sk_region ?_ | refine sk_drawQ 4 (fun _ => false) (.step 0 true (.step 1 true (.step 2 true (.step 3 true (.step 4 true (.step 5 true (.step 6 true (.step 7 true (.step 8 true (.step 9 true (.step 10 true (.step 11 true (.step 12 true (.step 13 true (.step 14 true (.step 15 true (.step 16 true (.step 17 true (.step 18 true (.step 19 true (.step 20 true (.step 21 true (.step 22 false (.step 23 true (.step 24 true .nil))))))))))))))))))))))))) [(0, 33554431, 33554431, true), (1, 33554430, 33554431, false), (0, 33554431, 33554431, true), (6, 33554425, 33554431, true), (8, 33554423, 33554431, false), (0, 33554431, 33554431, true), (32, 33554399, 33554431, false), (0, 33554431, 33554431, true), (192, 33554239, 33554431, true), (256, 33554175, 33554431, false), (528, 33553903, 33554431, true), (1024, 33553407, 33554431, true), (2048, 33552383, 33554431, true), (6144, 33548287, 33554431, false), (2048, 33552383, 33554431, true), (26624, 33527807, 33554431, true), (34816, 33519615, 33554431, false), (2048, 33552383, 33554431, true), (133120, 33421311, 33554431, false), (2048, 33552383, 33554431, true), (788480, 32765951, 33554431, true), (1050624, 32503807, 33554431, false), (2164736, 31389695, 33554431, false), (4196352, 29358079, 33554431, true), (8390656, 25163775, 33554431, true)] (by kernel_rfl) (by kernel_rfl) ?_ | refine sk_true rfl ?_ | refine sk_if rfl (fun hc => ?_) (fun hc => ?_))
    all_goals first | (exfalso; omega) | skip
    (apply sk_ret; apply ret_eq; (· apply RetOK.p; (· (apply GvA.cons; (· exact .tmp _); (· exact GvP.c (.lit _))); exact GvA.nil); (· (decide))))
    simp [hs]

end Go.Proofs.Ytefbiejoikpkmaa

namespace Go.Proofs.Ytefbiejoikpkmaa
open Go.RowKit
set_option linter.unusedSectionVars false
variable [Glb]
set_option maxRecDepth 10000
set_option maxHeartbeats 4000000
theorem l4Orders_t (n : Nat) (hn : n ≤ 3) : ∀ (f : Nat) (b : List Int), b.length + f = n → PT Try.prog 95 [.c (dI n), .c (eI b)] (.p (.c (eII (ordS f n b))))
  | 0, b, h => by
    refine pt_intro Try.func95 rfl rfl rfl (by kernel_rfl) rfl rfl ?_; intro _
    repeat' (first | (refine so_is (.assign _) ?_; (refine so_q (qt_asC rfl) rfl ?_)) | (refine so_is (.move _) ?_; (refine so_q (qt_mvC rfl) rfl ?_)) | (refine so_is (.call ⟨.builtin .len, _, #[24]⟩) ?_; (refine so_q (qt_len_ls rfl (by kernel_rfl)) rfl ?_)) | (refine so_is (.binOp .eql 3 _ _ _) ?_; refine so_q (qt_eql rfl rfl) rfl ?_) | (refine so_is (.buildSlice 25 1 _) ?_; (apply so_bslice (sz := 1) (by_ := 24); (· kernel_rfl); (· decide); (· (repeat (first | exact GvS.nil _ | apply GvS.c rfl rfl (.row _ _ _ _ rfl (by ((simp; done)))) rfl))); (· (decide)); (· rfl); (· rfl); (· rfl))) | (refine so_is (.buildSlice 25 0 _) ?_; (apply so_bslice (sz := 1) (by_ := 24); (· kernel_rfl); (· decide); (· (repeat (exact GvS.nil _))); (· (decide)); (· rfl); (· rfl); (· rfl))) | refine so_nil ?_ | refine sk_seq ?_ | refine sk_block ?_ | refine sk_skip ?_ | refine sk_region ?_ | refine sk_if rfl (fun hc => ?_) (fun hc => ?_))
    all_goals first | (exfalso; omega) | skip
    (apply sk_ret; apply ret_eq; (· apply RetOK.p; (· (apply GvA.cons; (· exact .tmp _); (· (exact GvP.c (.row _ _ _ _ rfl (by ((simp; done))))))); exact GvA.nil); (· (decide))))
    rfl
  | f + 1, b, h => by
    have ih : ∀ (x m : Nat) (ds : List D), D.sl 1 m ds = eI (b ++ [(x : Int)]) → PT Try.prog 95 [.c (dI n), .c (.sl 1 m ds)] (.p (.c (eII (ordS f n (b ++ [(x : Int)]))))) := fun x m ds e => by rw [e]; exact l4Orders_t n hn f (b ++ [(x : Int)]) (by simp; omega)
    refine pt_intro Try.func95 rfl rfl rfl (by kernel_rfl) rfl rfl ?_; intro _
    repeat' (first | (refine so_is (.assign _) ?_; (refine so_q (qt_asC rfl) rfl ?_)) | (refine so_is (.move _) ?_; (refine so_q (qt_mvC rfl) rfl ?_)) | (refine so_is (.call ⟨.builtin .len, _, #[24]⟩) ?_; (refine so_q (qt_len_ls rfl (by kernel_rfl)) rfl ?_)) | (refine so_is (.binOp .eql 3 _ _ _) ?_; refine so_q (qt_eql rfl rfl) rfl ?_) | (refine so_is (.buildSlice 25 1 _) ?_; (apply so_bslice (sz := 1) (by_ := 24); (· kernel_rfl); (· decide); (· (repeat (first | exact GvS.nil _ | apply GvS.c rfl rfl (.row _ _ _ _ rfl (by ((simp; done)))) rfl))); (· (decide)); (· rfl); (· rfl); (· rfl))) | (refine so_is (.buildSlice 25 0 _) ?_; (apply so_bslice (sz := 1) (by_ := 24); (· kernel_rfl); (· decide); (· (repeat (exact GvS.nil _))); (· (decide)); (· rfl); (· rfl); (· rfl))) | refine so_nil ?_ | refine sk_seq ?_ | refine sk_block ?_ | refine sk_skip ?_ | refine sk_region ?_ | refine sk_if rfl (fun hc => ?_) (fun hc => ?_))
    all_goals first | (exfalso; omega) | skip
    apply sk_packC [0, 1, 5, 6] [12, 13, 26, 28, 29, 30, 31, 1001000] rfl; (· (repeat (first | exact Pf.nil | apply Pf.cons (.c rfl (.d rfl)) | apply Pf.cons (.c rfl (.ls rfl))))); (· (repeat (first | exact Pb.nil | apply Pb.cons (.row rfl) | apply Pb.skip)))
    refine sk_loopL [0, 1] [12, 26, 28, 29, 30, 31] (fun x => [(6, iN x), (5, .c (.ls 13 1 0 (ordQ f n b x).length))]) (fun x => [(13, .row 1 (cII (ordQ f n b x))), (1001000, .row 1 (cI b))]) (fun x => x ≤ n) (fun x => n - x) (0) ?_ (by (repeat (first | exact trivial | refine ⟨(by (rfl)), ?_⟩))) (by (repeat (first | exact trivial | refine ⟨(by ((refine row_eq rfl ?_; simp  [ordQ_zero]; done))), ?_⟩))) ?_
    · omega
    intro x hx
    have L1 := ordQ_le (f := f) b hn (by omega) hx
    by_cases hx2 : x < n
    · have L2 := ordS_le (f := f) (n := n) (b ++ [(x : Int)]) hn (by omega)
      cases hb : b.contains (x : Int) with
      | true =>
        have hh := l1Has_p b (x : Int) (by omega)
        rw [hb] at hh
        repeat' (first | (refine so_is (.assign _) ?_; (refine so_q (qt_asC rfl) rfl ?_)) | (refine so_is (.move _) ?_; (refine so_q (qt_mvC rfl) rfl ?_)) | (refine so_is (.binOp .lss 3 _ _ _) ?_; refine so_q (qt_lss rfl rfl) rfl ?_) | (refine so_is (.unOp .not 4 _) ?_; refine so_q (qt_not rfl) rfl ?_) | (refine so_is (.binOp .add 3 _ _ _) ?_; refine so_q (qt_addI rfl rfl (by (omega))) rfl ?_) | (refine so_is (.call ⟨.value (.func 182), _, _⟩) ?_; (apply so_call0 (fid := 182); (· (repeat (first | exact SeA.nil | apply SeA.cons (.c (.d _)) | apply SeA.cons (.c (.all _ _ _ _ rfl (by ((simp; done)))))))); (· exact hh); (· rfl))) | refine so_nil ?_ | refine sk_seq ?_ | refine sk_block ?_ | refine sk_blk ?_ | refine sk_exit rfl ?_ | refine sk_skip ?_ | refine sk_region ?_ | refine sk_false rfl ?_ | refine sk_if rfl (fun hc => ?_) (fun hc => ?_))
        all_goals first | (exfalso; omega) | (exfalso; simp_all; done) | skip
        refine sk_back ?_; refine ⟨x + 1, ?_, ?_, le_at rfl (by (repeat (first | exact trivial | refine ⟨(by (first | rfl | (refine ls_eq rfl ?_; ((simp  [ordQ_yes hb]; done))))), ?_⟩))) (by (repeat (first | exact trivial | refine ⟨rfl, ?_⟩))) (by (repeat (first | exact trivial | refine ⟨(by ((refine row_eq rfl ?_; simp  [ordQ_yes hb]; done))), ?_⟩))) (by (repeat (first | exact trivial | refine ⟨.inr rfl, ?_⟩)))⟩
        · omega
        · omega
      | false =>
        have hh := l1Has_p b (x : Int) (by omega)
        rw [hb] at hh
        repeat' (first | (refine so_is (.assign _) ?_; (refine so_q (qt_asC rfl) rfl ?_)) | (refine so_is (.move _) ?_; (refine so_q (qt_mvC rfl) rfl ?_)) | (refine so_is (.binOp .lss 3 _ _ _) ?_; refine so_q (qt_lss rfl rfl) rfl ?_) | (refine so_is (.unOp .not 4 _) ?_; refine so_q (qt_not rfl) rfl ?_) | (refine so_is (.buildSlice 24 1 _) ?_; (apply so_bslice (sz := 1) (by_ := 8); (· kernel_rfl); (· decide); (· (repeat (first | exact GvS.nil _ | apply GvS.c rfl rfl (.lit _) rfl))); (· (decide)); (· rfl); (· rfl); (· rfl))) | (refine so_is (.call ⟨.builtin .append, _, #[24, 24]⟩) ?_; ((apply so_appR (sz := 1) (by_ := 8); (· rfl); (· rfl); (· ((simp; done))); (· exact .row _ _ _ _ rfl (by ((simp; done)))); (· (decide)); (· kernel_rfl); (· decide); (· (omega)); (· (omega)); (· rfl); (· rfl); (· rfl)))) | (refine so_is (.call ⟨.builtin .append, _, #[25, 25]⟩) ?_; ((apply so_appR (sz := 1) (by_ := 24); (· rfl); (· rfl); (· ((simp; done))); (· exact .row _ _ _ _ rfl (by ((simp; done)))); (· (decide)); (· kernel_rfl); (· decide); (· (omega)); (· (omega)); (· rfl); (· rfl); (· rfl)))) | (refine so_is (.binOp .add 3 _ _ _) ?_; refine so_q (qt_addI rfl rfl (by (omega))) rfl ?_) | (refine so_is (.call ⟨.value (.func 182), _, _⟩) ?_; ((apply so_call0 (fid := 182); (· (repeat (first | exact SeA.nil | apply SeA.cons (.c (.d _)) | apply SeA.cons (.c (.all _ _ _ _ rfl (by ((simp; done)))))))); (· exact hh); (· rfl)))) | (refine so_is (.call ⟨.value (.func 170), _, _⟩) ?_; ((apply so_callO0 (fid := 170); (· (repeat (first | exact SeA.nil | apply SeA.cons (.c (.all _ _ _ _ rfl (by ((simp; done)))))))); (· exact l1Own_p b (by omega)); (· rfl); (· rfl)))) | (refine so_is (.call ⟨.value (.func 95), _, _⟩) ?_; ((apply so_callT (fid := 95); (· (repeat (first | exact ArgM.nil | apply ArgM.c rfl (.lit _) | apply ArgM.c rfl (.row _ _ _ _ rfl (by ((simp; done))))))); (· (decide)); (· exact ih x _ _ (by simp)); (· rfl); (· rfl); (· rfl)))) | refine so_nil ?_ | refine sk_seq ?_ | refine sk_block ?_ | refine sk_blk ?_ | refine sk_exit rfl ?_ | refine sk_skip ?_ | refine sk_region ?_ | refine sk_true rfl ?_ | refine sk_if rfl (fun hc => ?_) (fun hc => ?_))
        all_goals first | (exfalso; omega) | (exfalso; simp_all; done) | skip
        refine sk_back ?_; refine ⟨x + 1, ?_, ?_, le_at rfl (by (repeat (first | exact trivial | refine ⟨(by (first | rfl | (refine ls_eq rfl ?_; ((simp  [ordQ_no hb]; done))))), ?_⟩))) (by (repeat (first | exact trivial | refine ⟨rfl, ?_⟩))) (by (repeat (first | exact trivial | refine ⟨(by ((refine row_eq rfl ?_; simp  [ordQ_no hb]; done))), ?_⟩))) (by (repeat (first | exact trivial | refine ⟨.inr rfl, ?_⟩)))⟩
        · omega
        · omega
    · have e : x = n := by omega
      subst e
      repeat' (first | (refine so_is (.assign _) ?_; (refine so_q (qt_asC rfl) rfl ?_)) | (refine so_is (.move _) ?_; (refine so_q (qt_mvC rfl) rfl ?_)) | (refine so_is (.binOp .lss 3 _ _ _) ?_; refine so_q (qt_lss rfl rfl) rfl ?_) | refine so_nil ?_ | refine sk_seq ?_ | refine sk_block ?_ | refine sk_exit rfl ?_ | refine sk_skip ?_ | refine sk_region ?_ | refine sk_if rfl (fun hc => ?_) (fun hc => ?_))
      all_goals first | (exfalso; omega) | skip
      (apply sk_ret; apply ret_eq; (· apply RetOK.p; (· (apply GvA.cons; (· exact .tmp _); (· (exact GvP.c (.row _ _ _ _ rfl (by ((simp; done))))))); exact GvA.nil); (· (decide))))
      rfl

end Go.Proofs.Ytefbiejoikpkmaa

namespace Go.Proofs.Ytefbiejoikpkmaa
open Go.RowKit
set_option linter.unusedSectionVars false
variable [Glb]
set_option maxRecDepth 10000
set_option maxHeartbeats 4000000
theorem spSameByNames_no (X Y : Int) (ws : List Int) (wi : List (List Int)) (X2 Y2 : Int) (ws2 : List Int) (wi2 : List (List Int)) (h : nameB X Y ws wi X2 Y2 ws2 wi2 = false) :
    PC Try.prog 11 [.g [dI X, dI Y, eI ws, eII wi], .g [dI X2, dI Y2, eI ws2, eII wi2]] (.t [.c (dB false), .c (dB false)]) := by
  have i1 := l4Game_p X Y ws wi
  have i2 := l4Game_p X2 Y2 ws2 wi2
  unfold nameB at h
  cases h1 : gameB X Y ws wi with
  | false =>
    rw [h1] at i1
    refine pc_intro Try.func11 rfl rfl rfl (by kernel_rfl) rfl rfl ?_; intro _
    repeat' (first | (refine so_is (.box 27 _) ?_; refine so_box rfl rfl ?_) | (refine so_is (.assign _) ?_; (refine so_q (qt_asC rfl) rfl ?_)) | (refine so_is (.load 27 _) ?_; (refine so_q (qt_load_boxs rfl rfl (by kernel_rfl : tAgg _ 27 4 = true) rfl) rfl ?_)) | (refine so_is (.unOp .not 4 _) ?_; refine so_q (qt_not rfl) rfl ?_) | (refine so_is (.move _) ?_; (refine so_q (qt_mvC rfl) rfl ?_)) | (refine so_is (.pick _ _ _) ?_; (refine so_q (qt_pkC rfl rfl) rfl ?_)) | (refine so_is (.call ⟨.value (.func 85), _, _⟩) ?_; ((apply so_call0 (fid := 85); (· (repeat (first | exact SeA.nil | (apply SeA.cons; (· (apply SeP.g; (repeat (first | exact SeL.nil | apply SeL.cons (.d _))))))))); (· exact i1); (· rfl)))) | refine so_nil ?_ | refine so_g_no rfl rfl rfl rfl ?_ | refine sk_seq ?_ | refine sk_region (id := 0) ?_ | refine sk_region (id := 1) ?_ | refine sk_region (id := 2) ?_ | refine sk_true rfl ?_)
    all_goals first | (exfalso; simp_all; done) | skip
    all_goals (apply sk_ret; apply ret_eq; (· apply RetOK.t; (· (apply GvA.cons; (· exact .tmp _); (· exact GvP.c (.lit _))); (apply GvA.cons; (· exact .tmp _); (· exact GvP.c (.lit _))); exact GvA.nil); (· rfl); (· (decide))))
    all_goals rfl
  | true =>
    cases h2 : gameB X2 Y2 ws2 wi2 with
    | false =>
      rw [h1] at i1
      rw [h2] at i2
      refine pc_intro Try.func11 rfl rfl rfl (by kernel_rfl) rfl rfl ?_; intro _
      repeat' (first | (refine so_is (.box 27 _) ?_; refine so_box rfl rfl ?_) | (refine so_is (.assign _) ?_; (refine so_q (qt_asC rfl) rfl ?_)) | (refine so_is (.load 27 _) ?_; (refine so_q (qt_load_boxs rfl rfl (by kernel_rfl : tAgg _ 27 4 = true) rfl) rfl ?_)) | (refine so_is (.unOp .not 4 _) ?_; refine so_q (qt_not rfl) rfl ?_) | (refine so_is (.move _) ?_; (refine so_q (qt_mvC rfl) rfl ?_)) | (refine so_is (.pick _ _ _) ?_; (refine so_q (qt_pkC rfl rfl) rfl ?_)) | (refine so_is (.call ⟨.value (.func 85), _, _⟩) ?_; (first | (apply so_call0 (fid := 85); (· (repeat (first | exact SeA.nil | (apply SeA.cons; (· (apply SeP.g; (repeat (first | exact SeL.nil | apply SeL.cons (.d _))))))))); (· exact i1); (· rfl)) | (apply so_call0 (fid := 85); (· (repeat (first | exact SeA.nil | (apply SeA.cons; (· (apply SeP.g; (repeat (first | exact SeL.nil | apply SeL.cons (.d _))))))))); (· exact i2); (· rfl)))) | refine so_nil ?_ | refine so_g_no rfl rfl rfl rfl ?_ | refine so_g_yes rfl rfl rfl rfl ?_ | refine sk_seq ?_ | refine sk_region (id := 0) ?_ | refine sk_region (id := 1) ?_ | refine sk_region (id := 2) ?_ | refine sk_true rfl ?_)
      all_goals first | (exfalso; simp_all; done) | skip
      all_goals (apply sk_ret; apply ret_eq; (· apply RetOK.t; (· (apply GvA.cons; (· exact .tmp _); (· exact GvP.c (.lit _))); (apply GvA.cons; (· exact .tmp _); (· exact GvP.c (.lit _))); exact GvA.nil); (· rfl); (· (decide))))
      all_goals rfl
    | true =>
      rw [h1] at i1
      rw [h2] at i2
      rw [h1, h2] at h
      by_cases hX : X = X2
      · have hY : Y ≠ Y2 := fun e => by simp [hX, e] at h
        refine pc_intro Try.func11 rfl rfl rfl (by kernel_rfl) rfl rfl ?_; intro _
        repeat' (first | (refine so_is (.box 27 _) ?_; refine so_box rfl rfl ?_) | (refine so_is (.assign _) ?_; (refine so_q (qt_asC rfl) rfl ?_)) | (refine so_is (.load 27 _) ?_; (refine so_q (qt_load_boxs rfl rfl (by kernel_rfl : tAgg _ 27 4 = true) rfl) rfl ?_)) | (refine so_is (.unOp .not 4 _) ?_; refine so_q (qt_not rfl) rfl ?_) | (refine so_is (.move _) ?_; (refine so_q (qt_mvC rfl) rfl ?_)) | (refine so_is (.pick _ _ _) ?_; (refine so_q (qt_pkC rfl rfl) rfl ?_)) | (refine so_is (.fieldAddr 27 _ 0) ?_; (refine so_q (qt_fld_lp (off := 0) rfl (by kernel_rfl)) rfl ?_)) | (refine so_is (.load 3 _) ?_; (refine so_q (qt_load_box rfl rfl (by kernel_rfl) rfl) rfl ?_)) | (refine so_is (.binOp .neq 3 _ _ _) ?_; refine so_q (qt_neq rfl rfl) rfl ?_) | (refine so_is (.fieldAddr 27 _ 1) ?_; (refine so_q (qt_fld_lp (off := 1) rfl (by kernel_rfl)) rfl ?_)) | (refine so_is (.call ⟨.value (.func 85), _, _⟩) ?_; (first | (apply so_call0 (fid := 85); (· (repeat (first | exact SeA.nil | (apply SeA.cons; (· (apply SeP.g; (repeat (first | exact SeL.nil | apply SeL.cons (.d _))))))))); (· exact i1); (· rfl)) | (apply so_call0 (fid := 85); (· (repeat (first | exact SeA.nil | (apply SeA.cons; (· (apply SeP.g; (repeat (first | exact SeL.nil | apply SeL.cons (.d _))))))))); (· exact i2); (· rfl)))) | refine so_nil ?_ | refine so_g_no rfl rfl rfl rfl ?_ | refine so_g_yes rfl rfl rfl rfl ?_ | refine so_g_if rfl rfl (fun hg => ?_) (fun hg => ?_) | refine sk_seq ?_ | refine sk_skip ?_ | refine sk_region (id := 0) ?_ | refine sk_region (id := 1) ?_ | refine sk_region (id := 2) ?_ | refine sk_true rfl ?_ | refine sk_if rfl (fun hc => ?_) (fun hc => ?_))
        all_goals first | (exfalso; simp_all; done) | skip
        all_goals (apply sk_ret; apply ret_eq; (· apply RetOK.t; (· (apply GvA.cons; (· exact .tmp _); (· exact GvP.c (.lit _))); (apply GvA.cons; (· exact .tmp _); (· exact GvP.c (.lit _))); exact GvA.nil); (· rfl); (· (decide))))
        all_goals rfl
      · refine pc_intro Try.func11 rfl rfl rfl (by kernel_rfl) rfl rfl ?_; intro _
        repeat' (first | (refine so_is (.box 27 _) ?_; refine so_box rfl rfl ?_) | (refine so_is (.assign _) ?_; (refine so_q (qt_asC rfl) rfl ?_)) | (refine so_is (.load 27 _) ?_; (refine so_q (qt_load_boxs rfl rfl (by kernel_rfl : tAgg _ 27 4 = true) rfl) rfl ?_)) | (refine so_is (.unOp .not 4 _) ?_; refine so_q (qt_not rfl) rfl ?_) | (refine so_is (.move _) ?_; (refine so_q (qt_mvC rfl) rfl ?_)) | (refine so_is (.pick _ _ _) ?_; (refine so_q (qt_pkC rfl rfl) rfl ?_)) | (refine so_is (.fieldAddr 27 _ 0) ?_; (refine so_q (qt_fld_lp (off := 0) rfl (by kernel_rfl)) rfl ?_)) | (refine so_is (.load 3 _) ?_; (refine so_q (qt_load_box rfl rfl (by kernel_rfl) rfl) rfl ?_)) | (refine so_is (.binOp .neq 3 _ _ _) ?_; refine so_q (qt_neq rfl rfl) rfl ?_) | (refine so_is (.fieldAddr 27 _ 1) ?_; (refine so_q (qt_fld_lp (off := 1) rfl (by kernel_rfl)) rfl ?_)) | (refine so_is (.call ⟨.value (.func 85), _, _⟩) ?_; (first | (apply so_call0 (fid := 85); (· (repeat (first | exact SeA.nil | (apply SeA.cons; (· (apply SeP.g; (repeat (first | exact SeL.nil | apply SeL.cons (.d _))))))))); (· exact i1); (· rfl)) | (apply so_call0 (fid := 85); (· (repeat (first | exact SeA.nil | (apply SeA.cons; (· (apply SeP.g; (repeat (first | exact SeL.nil | apply SeL.cons (.d _))))))))); (· exact i2); (· rfl)))) | refine so_nil ?_ | refine so_g_no rfl rfl rfl rfl ?_ | refine so_g_yes rfl rfl rfl rfl ?_ | refine so_g_if rfl rfl (fun hg => ?_) (fun hg => ?_) | refine sk_seq ?_ | refine sk_skip ?_ | refine sk_region (id := 0) ?_ | refine sk_region (id := 1) ?_ | refine sk_region (id := 2) ?_ | refine sk_true rfl ?_ | refine sk_if rfl (fun hc => ?_) (fun hc => ?_))
        all_goals first | (exfalso; simp_all; done) | skip
        all_goals (apply sk_ret; apply ret_eq; (· apply RetOK.t; (· (apply GvA.cons; (· exact .tmp _); (· exact GvP.c (.lit _))); (apply GvA.cons; (· exact .tmp _); (· exact GvP.c (.lit _))); exact GvA.nil); (· rfl); (· (decide))))
        all_goals rfl
theorem spSameByNames_p (X Y : Nat) (ws : List Int) (wi : List (List Int)) (ws2 : List Int) (wi2 : List (List Int)) (h : gameB X Y ws wi = true) (h2 : gameB X Y ws2 wi2 = true) :
    PC Try.prog 11 [.g [dI X, dI Y, eI ws, eII wi], .g [dI X, dI Y, eI ws2, eII wi2]] (.t [.c (dB (sameG X Y ws wi ws2 wi2)), .c (dB true)]) := by
  obtain ⟨x, y, e1, e2, hx, hy, wl, il, h9⟩ := game_nat h
  obtain rfl : X = x := by omega
  obtain rfl : Y = y := by omega
  obtain ⟨x, y, e1, e2, -, -, wl2, il2, -⟩ := game_nat h2
  obtain rfl : X = x := by omega
  obtain rfl : Y = y := by omega
  rw [← same_eq (by omega) (by omega)]
  have i1 := l4Game_p X Y ws wi
  have i2 := l4Game_p X Y ws2 wi2
  rw [h] at i1
  rw [h2] at i2
  have o1 := l4Orders_t X (by omega) X [] (by simp)
  have o2 := l4Orders_t Y (by omega) Y [] (by simp)
  have pl := l2Plays_p X Y (by omega)
  have l1 := ordF_len (n := X) (by omega)
  have l2 := ordF_len (n := Y) (by omega)
  have l3 : (playsF (X + Y)).length ≤ 64 := by
    simp only [playsF, List.length_map, List.length_range]
    exact Nat.le_trans (Nat.pow_le_pow_right (by omega) (by omega)) (by decide : 2 ^ 6 ≤ 64)
  have ea := fun i => ordF_each (n := X) (by omega) (i := i)
  have eb := fun i => ordF_each (n := Y) (by omega) (i := i)
  have ec : ∀ i : Nat, i < (playsF (X + Y)).length → bitsB (atZ (playsF (X + Y)) (i : Int)) ((X : Int) + Y) = true := fun i hi => by
    have := plays_mem.1 (mem_atZ hi)
    rwa [Int.natCast_add] at this
  have ask : ∀ f s : List Int, orderB f X = true → orderB s Y = true → PC Try.prog 90 [.g [dI X, dI Y, eI ws, eII wi], .c (eI f), .c (eI s)] (.p (.g [dI X, dI Y, eI (pairsF (askW Y ws) f s), eII (pairsF (askO Y wi) f s)])) := fun f s hf hs => by
    have a := orderB_len hf
    have b := orderB_len hs
    have := l4Ask_p X Y ws wi f s h (fun x hx => orderB_mem (by omega) hf hx) (fun x hx => orderB_mem (by omega) hs hx) (by omega) (by omega)
    rw [a, b] at this
    exact this
  have flp : ∀ f s q : List Int, orderB f X = true → orderB s Y = true → bitsB q ((X : Int) + Y) = true → PC Try.prog 89 [.g [dI X, dI Y, eI (pairsF (askW Y ws) f s), eII (pairsF (askO Y wi) f s)], .c (eI q)] (.p (.g [dI X, dI Y, eI (pairsF (askW Y ws) f s), eII (flipR X Y (pairsF (askO Y wi) f s) q)])) := fun f s q hf hs hq => by
    have g := (ask_all h hf hs).1
    exact l4Flip_p X Y _ _ q (by unfold flipB; rw [hq, Bool.and_true]; exact g)
  have wsp : ∀ f s : List Int, PC Try.prog 97 [.c (eI (pairsF (askW Y ws) f s)), .c (eI ws2)] (.p (.c (dB (decide (pairsF (askW Y ws) f s = ws2))))) := fun f s => l1Same_p _ _
  have smp : ∀ f s q : List Int, pairsF (askW Y ws) f s = ws2 → PC Try.prog 98 [.g [dI X, dI Y, eI (pairsF (askW Y ws) f s), eII (flipR X Y (pairsF (askO Y wi) f s) q)], .g [dI X, dI Y, eI ws2, eII wi2]] (.p (.c (dB (decide (flipR X Y (pairsF (askO Y wi) f s) q = wi2))))) := fun f s q e => by
    rw [e]
    exact l4Same_p _ _ _ _ _ _ _ (by rw [wl2]; simp [flipR, pairsF_len, Nat.mul_comm]) (by omega)
  obtain ⟨U, hU⟩ : ∃ U : List Int → List Int → Bool, U = fun f s => decide (pairsF (askW Y ws) f s = ws2) := ⟨_, rfl⟩
  obtain ⟨T, hT⟩ : ∃ T : List Int → List Int → List Int → Bool, T = fun f s q => decide (flipR X Y (pairsF (askO Y wi) f s) q = wi2) := ⟨_, rfl⟩
  have hR : sameH X Y ws wi ws2 wi2 = (ordF X).any fun f => (ordF Y).any fun s => U f s && (playsF (X + Y)).any fun q => T f s q := by rw [hU, hT]; rfl
  have wsp : ∀ f s : List Int, PC Try.prog 97 [.c (eI (pairsF (askW Y ws) f s)), .c (eI ws2)] (.p (.c (dB (U f s)))) := fun f s => by rw [hU]; exact wsp f s
  have smp : ∀ f s q : List Int, U f s = true → PC Try.prog 98 [.g [dI X, dI Y, eI (pairsF (askW Y ws) f s), eII (flipR X Y (pairsF (askO Y wi) f s) q)], .g [dI X, dI Y, eI ws2, eII wi2]] (.p (.c (dB (T f s q)))) := fun f s q hu => by
    rw [hU] at hu
    rw [hT]
    exact smp f s q (of_decide_eq_true hu)
  clear hU hT
  have yes : ∀ i k n : Nat, i < (ordF X).length → k < (ordF Y).length → n < (playsF (X + Y)).length → U (atZ (ordF X) i) (atZ (ordF Y) k) = true → T (atZ (ordF X) i) (atZ (ordF Y) k) (atZ (playsF (X + Y)) n) = true → sameH X Y ws wi ws2 wi2 = true := fun i k n hi hk hn hu ht => by
    rw [hR]
    exact List.any_eq_true.2 ⟨_, mem_atZ hi, List.any_eq_true.2 ⟨_, mem_atZ hk, by rw [hu, Bool.true_and]; exact List.any_eq_true.2 ⟨_, mem_atZ hn, ht⟩⟩⟩
  have no : (∀ i k n : Nat, i < (ordF X).length → k < (ordF Y).length → n < (playsF (X + Y)).length → U (atZ (ordF X) i) (atZ (ordF Y) k) = true → T (atZ (ordF X) i) (atZ (ordF Y) k) (atZ (playsF (X + Y)) n) = false) → sameH X Y ws wi ws2 wi2 = false := fun hno => by
    rw [← Bool.not_eq_true, hR]
    intro ht
    obtain ⟨f, hf, ht⟩ := List.any_eq_true.1 ht
    obtain ⟨s, hs, ht⟩ := List.any_eq_true.1 ht
    rw [Bool.and_eq_true] at ht
    obtain ⟨hu, ht⟩ := ht
    obtain ⟨q, hq, ht⟩ := List.any_eq_true.1 ht
    obtain ⟨i, hi, rfl⟩ := List.getElem_of_mem hf
    obtain ⟨k, hk, rfl⟩ := List.getElem_of_mem hs
    obtain ⟨n, hn, rfl⟩ := List.getElem_of_mem hq
    have := hno i k n hi hk hn
    rw [atZ_nat hi, atZ_nat hk, atZ_nat hn, ht] at this
    cases this hu
  clear hR
  replace o1 : PT Try.prog 95 [.c (dI X), .c (.sl 1 0 [])] (.p (.c (eII (ordF X)))) := o1
  replace o2 : PT Try.prog 95 [.c (dI Y), .c (.sl 1 0 [])] (.p (.c (eII (ordF Y)))) := o2
  generalize ordF X = A at *
  generalize ordF Y = B at *
  generalize playsF (X + Y) = C at *
  generalize sameH X Y ws wi ws2 wi2 = R at *
  refine pc_intro Try.func11 rfl rfl rfl (by kernel_rfl) rfl rfl ?_; intro _
  repeat' (first | (with_reducible apply so_lt) | intro Y hY | ((with_reducible apply so_j2); (· assumption); (· rfl); (· exact (by (repeat (first | exact trivial | refine ⟨rfl, ?_⟩)))); (· exact (by (repeat (first | exact trivial | refine ⟨rfl, ?_⟩))))) | ((with_reducible apply so_j1); (· rfl); (· (repeat (first | exact Pf.nil | apply Pf.cons (.c rfl (.d rfl)) | apply Pf.cons (.c rfl (.ls rfl)) | apply Pf.cons (.c rfl (.lp rfl)) | apply Pf.skip))); (· (repeat (first | exact Pb.nil | apply Pb.cons (.row rfl) | (apply Pb.cons; (· apply Nb.box rfl; (repeat (first | exact Ncs.nil rfl | (apply Ncs.cons rfl; (· (exact .d rfl))))))) | apply Pb.skip))); (· assumption)) | refine so_alt ?_ ?_ | (refine so_is (.box 27 _) ?_; refine so_box rfl rfl ?_) | (refine so_is (.assign _) ?_; (refine so_q (qt_asC rfl) rfl ?_)) | (refine so_is (.load 27 _) ?_; (refine so_q (qt_load_boxs rfl rfl (by kernel_rfl : tAgg _ 27 4 = true) rfl) rfl ?_)) | (refine so_is (.unOp .not 4 _) ?_; refine so_q (qt_not rfl) rfl ?_) | (refine so_is (.move _) ?_; (refine so_q (qt_mvC rfl) rfl ?_)) | (refine so_is (.pick _ _ _) ?_; (refine so_q (qt_pkC rfl rfl) rfl ?_)) | (refine so_is (.fieldAddr 27 _ 0) ?_; (refine so_q (qt_fld_lp (off := 0) rfl (by kernel_rfl)) rfl ?_)) | (refine so_is (.load 3 _) ?_; (refine so_q (qt_load_box rfl rfl (by kernel_rfl) rfl) rfl ?_)) | (refine so_is (.binOp .neq 3 _ _ _) ?_; refine so_q (qt_neq rfl rfl) rfl ?_) | (refine so_is (.fieldAddr 27 _ 1) ?_; (refine so_q (qt_fld_lp (off := 1) rfl (by kernel_rfl)) rfl ?_)) | (refine so_is (.buildSlice 24 0 _) ?_; (apply so_bslice (sz := 1) (by_ := 8); (· kernel_rfl); (· decide); (· (repeat (exact GvS.nil _))); (· (decide)); (· rfl); (· rfl); (· rfl))) | (refine so_is (.call ⟨.value (.func 85), _, _⟩) ?_; (first | (apply so_call0 (fid := 85); (· (repeat (first | exact SeA.nil | (apply SeA.cons; (· (apply SeP.g; (repeat (first | exact SeL.nil | apply SeL.cons (.d _))))))))); (· exact i1); (· rfl)) | (apply so_call0 (fid := 85); (· (repeat (first | exact SeA.nil | (apply SeA.cons; (· (apply SeP.g; (repeat (first | exact SeL.nil | apply SeL.cons (.d _))))))))); (· exact i2); (· rfl)))) | (refine so_is (.call ⟨.value (.func 95), _, _⟩) ?_; (first | (apply so_callT (fid := 95); (· (repeat (first | exact ArgM.nil | apply ArgM.c rfl (.lit _) | apply ArgM.c rfl (.row _ _ _ _ rfl (by ((simp; done))))))); (· (decide)); (· exact o1); (· rfl); (· rfl); (· rfl)) | (apply so_callT (fid := 95); (· (repeat (first | exact ArgM.nil | apply ArgM.c rfl (.lit _) | apply ArgM.c rfl (.row _ _ _ _ rfl (by ((simp; done))))))); (· (decide)); (· exact o2); (· rfl); (· rfl); (· rfl)))) | (refine so_is (.call ⟨.value (.func 96), _, _⟩) ?_; ((apply so_call0 (fid := 96); (· (repeat (first | exact SeA.nil | apply SeA.cons (.c (.d _))))); (· exact pl); (· rfl)))) | refine so_nil ?_ | refine so_g_no rfl rfl rfl rfl ?_ | refine so_g_yes rfl rfl rfl rfl ?_ | refine so_g_if rfl rfl (fun hg => ?_) (fun hg => ?_) | refine sk_seq ?_ | refine sk_skip ?_ | refine sk_region (id := 0) ?_ | refine sk_region (id := 1) ?_ | refine sk_region (id := 2) ?_ | refine sk_drawQ 3 (fun i => i == 3 || i == 7 || i == 12) (IT.lt (.step 12 false (.step 13 true (.step 14 true (.step 15 true .nil)))) fun Y34 => (IT.lt (.step 7 false (IT.ref false [2, 3, 6, 7, 8, 38, 42, 44, 46] [2, 3, 37, 38, 41, 42, 47] Y34)) fun Y33 => (IT.lt (.alt 3 (.step 7 false (.step 11 true (IT.ref false [2, 3, 6, 7, 8, 38, 42, 44, 46] [2, 3, 37, 38, 41, 42, 47] Y34))) (.step 11 false (IT.ref false [2, 3, 6, 7, 8, 38, 40, 41, 44, 46] [2, 3, 37, 38, 41, 42, 47] Y33))) fun Y32 => (IT.lt (.alt 3 (.step 7 false (.step 9 true (IT.ref false [2, 3, 6, 7, 8, 38, 42, 44, 46] [2, 3, 37, 38, 41, 42, 47] Y34))) (.step 9 false (IT.ref false [2, 3, 6, 7, 8, 38, 40, 41, 44, 46] [2, 3, 37, 38, 41, 42, 47] Y33))) fun Y31 => (IT.lt (.step 6 false (IT.ref false [2, 3, 6, 7, 8, 38, 40, 41, 44, 46] [2, 3, 37, 38, 41, 42, 47] Y33)) fun Y30 => (IT.lt (.step 3 false (IT.ref false [2, 3, 6, 7, 8, 38, 40, 41, 44, 46] [2, 3, 37, 38, 41, 42, 47] Y33)) fun Y29 => (IT.lt (.alt 3 (.step 7 false (.step 9 true (.step 11 true (IT.ref true [2, 3, 6, 7, 8, 38, 42, 44, 46] [2, 3, 37, 38, 41, 42, 47] Y34)))) (.alt 3 (.step 9 false (IT.ref false [2, 3, 6, 7, 8, 38, 40, 41, 44, 45] [2, 3, 37, 38, 41, 42, 47] Y32)) (.step 11 false (IT.ref false [2, 3, 6, 7, 8, 38, 40, 41, 43, 46] [2, 3, 37, 38, 41, 42, 47] Y31)))) fun Y28 => (IT.lt (.alt 3 (.step 6 false (IT.ref false [2, 3, 6, 7, 8, 38, 40, 41, 44, 45] [2, 3, 37, 38, 41, 42, 47] Y32)) (.step 11 false (IT.ref false [2, 3, 6, 7, 8, 38, 40, 44, 46] [2, 3, 37, 38, 41, 42, 47] Y30))) fun Y27 => (IT.lt (.alt 3 (.step 3 false (IT.ref false [2, 3, 6, 7, 8, 38, 40, 41, 44, 45] [2, 3, 37, 38, 41, 42, 47] Y32)) (.step 11 false (IT.ref false [2, 3, 6, 7, 8, 36, 37, 40, 41, 44, 46] [2, 3, 37, 38, 41, 42, 47] Y29))) fun Y26 => (IT.lt (.alt 3 (.step 6 false (IT.ref false [2, 3, 6, 7, 8, 38, 40, 41, 43, 46] [2, 3, 37, 38, 41, 42, 47] Y31)) (.step 9 false (IT.ref false [2, 3, 6, 7, 8, 38, 40, 44, 46] [2, 3, 37, 38, 41, 42, 47] Y30))) fun Y25 => (IT.lt (.alt 3 (.step 3 false (IT.ref false [2, 3, 6, 7, 8, 38, 40, 41, 43, 46] [2, 3, 37, 38, 41, 42, 47] Y31)) (.step 9 false (IT.ref false [2, 3, 6, 7, 8, 36, 37, 40, 41, 44, 46] [2, 3, 37, 38, 41, 42, 47] Y29))) fun Y24 => (IT.lt (.alt 3 (.step 3 false (IT.ref false [2, 3, 6, 7, 8, 38, 40, 44, 46] [2, 3, 37, 38, 41, 42, 47] Y30)) (.step 6 false (IT.ref false [2, 3, 6, 7, 8, 36, 37, 40, 41, 44, 46] [2, 3, 37, 38, 41, 42, 47] Y29))) fun Y23 => (IT.lt (.alt 3 (.step 3 false (.step 5 true (IT.ref true [2, 3, 6, 7, 8, 38, 40, 41, 44, 46] [2, 3, 37, 38, 41, 42, 47] Y33))) (.step 5 false (IT.ref false [2, 3, 6, 7, 8, 36, 37, 40, 41, 44, 46] [2, 3, 37, 38, 41, 42, 47] Y29))) fun Y22 => (IT.lt (.step 2 false (IT.ref true [2, 3, 6, 7, 8, 36, 37, 40, 41, 44, 46] [2, 3, 37, 38, 41, 42, 47] Y29)) fun Y21 => (IT.lt (.alt 3 (.step 6 false (IT.ref false [2, 3, 6, 7, 8, 38, 40, 41, 43, 45] [2, 3, 37, 38, 41, 42, 47] Y28)) (.alt 3 (.step 9 false (IT.ref false [2, 3, 6, 7, 8, 38, 40, 44, 45] [2, 3, 37, 38, 41, 42, 47] Y27)) (.step 11 false (IT.ref false [2, 3, 6, 7, 8, 38, 40, 43, 46] [2, 3, 37, 38, 41, 42, 47] Y25)))) fun Y20 => (IT.lt (.alt 3 (.step 3 false (IT.ref false [2, 3, 6, 7, 8, 38, 40, 41, 43, 45] [2, 3, 37, 38, 41, 42, 47] Y28)) (.alt 3 (.step 9 false (IT.ref false [2, 3, 6, 7, 8, 36, 37, 40, 41, 44, 45] [2, 3, 37, 38, 41, 42, 47] Y26)) (.step 11 false (IT.ref false [2, 3, 6, 7, 8, 36, 37, 40, 41, 43, 46] [2, 3, 37, 38, 41, 42, 47] Y24)))) fun Y19 => (IT.lt (.alt 3 (.step 3 false (IT.ref false [2, 3, 6, 7, 8, 38, 40, 44, 45] [2, 3, 37, 38, 41, 42, 47] Y27)) (.alt 3 (.step 6 false (IT.ref false [2, 3, 6, 7, 8, 36, 37, 40, 41, 44, 45] [2, 3, 37, 38, 41, 42, 47] Y26)) (.step 11 false (IT.ref false [2, 3, 6, 7, 8, 36, 37, 40, 44, 46] [2, 3, 37, 38, 41, 42, 47] Y23)))) fun Y18 => (IT.lt (.alt 3 (.step 3 false (.step 5 true (IT.ref true [2, 3, 6, 7, 8, 38, 40, 41, 44, 45] [2, 3, 37, 38, 41, 42, 47] Y32))) (.alt 3 (.step 5 false (IT.ref false [2, 3, 6, 7, 8, 36, 37, 40, 41, 44, 45] [2, 3, 37, 38, 41, 42, 47] Y26)) (.step 11 false (IT.ref false [2, 3, 6, 7, 8, 36, 37, 39, 41, 44, 46] [2, 3, 37, 38, 41, 42, 47] Y22)))) fun Y17 => (IT.lt (.alt 3 (.step 2 false (IT.ref true [2, 3, 6, 7, 8, 36, 37, 40, 41, 44, 45] [2, 3, 37, 38, 41, 42, 47] Y26)) (.step 11 false (IT.ref false [2, 3, 6, 7, 8, 36, 40, 41, 44, 46] [2, 3, 37, 38, 41, 42, 47] Y21))) fun Y16 => (IT.lt (.alt 3 (.step 3 false (IT.ref false [2, 3, 6, 7, 8, 38, 40, 43, 46] [2, 3, 37, 38, 41, 42, 47] Y25)) (.alt 3 (.step 6 false (IT.ref false [2, 3, 6, 7, 8, 36, 37, 40, 41, 43, 46] [2, 3, 37, 38, 41, 42, 47] Y24)) (.step 9 false (IT.ref false [2, 3, 6, 7, 8, 36, 37, 40, 44, 46] [2, 3, 37, 38, 41, 42, 47] Y23)))) fun Y15 => (IT.lt (.alt 3 (.step 3 false (.step 5 true (IT.ref true [2, 3, 6, 7, 8, 38, 40, 41, 43, 46] [2, 3, 37, 38, 41, 42, 47] Y31))) (.alt 3 (.step 5 false (IT.ref false [2, 3, 6, 7, 8, 36, 37, 40, 41, 43, 46] [2, 3, 37, 38, 41, 42, 47] Y24)) (.step 9 false (IT.ref false [2, 3, 6, 7, 8, 36, 37, 39, 41, 44, 46] [2, 3, 37, 38, 41, 42, 47] Y22)))) fun Y14 => (IT.lt (.alt 3 (.step 2 false (IT.ref true [2, 3, 6, 7, 8, 36, 37, 40, 41, 43, 46] [2, 3, 37, 38, 41, 42, 47] Y24)) (.step 9 false (IT.ref false [2, 3, 6, 7, 8, 36, 40, 41, 44, 46] [2, 3, 37, 38, 41, 42, 47] Y21))) fun Y13 => (IT.lt (.alt 3 (.step 3 false (.step 5 true (IT.ref true [2, 3, 6, 7, 8, 38, 40, 44, 46] [2, 3, 37, 38, 41, 42, 47] Y30))) (.alt 3 (.step 5 false (IT.ref false [2, 3, 6, 7, 8, 36, 37, 40, 44, 46] [2, 3, 37, 38, 41, 42, 47] Y23)) (.step 6 false (IT.ref false [2, 3, 6, 7, 8, 36, 37, 39, 41, 44, 46] [2, 3, 37, 38, 41, 42, 47] Y22)))) fun Y12 => (IT.lt (.alt 3 (.step 2 false (IT.ref true [2, 3, 6, 7, 8, 36, 37, 40, 44, 46] [2, 3, 37, 38, 41, 42, 47] Y23)) (.step 6 false (IT.ref false [2, 3, 6, 7, 8, 36, 40, 41, 44, 46] [2, 3, 37, 38, 41, 42, 47] Y21))) fun Y11 => (IT.lt (.alt 3 (.step 2 false (IT.ref true [2, 3, 6, 7, 8, 36, 37, 39, 41, 44, 46] [2, 3, 37, 38, 41, 42, 47] Y22)) (.step 5 false (IT.ref true [2, 3, 6, 7, 8, 36, 40, 41, 44, 46] [2, 3, 37, 38, 41, 42, 47] Y21))) fun Y10 => (IT.lt (.alt 3 (.step 3 false (IT.ref false [2, 3, 6, 7, 8, 38, 40, 43, 45] [2, 3, 37, 38, 41, 42, 47] Y20)) (.alt 3 (.step 6 false (IT.ref false [2, 3, 6, 7, 8, 36, 37, 40, 41, 43, 45] [2, 3, 37, 38, 41, 42, 47] Y19)) (.alt 3 (.step 9 false (IT.ref false [2, 3, 6, 7, 8, 36, 37, 40, 44, 45] [2, 3, 37, 38, 41, 42, 47] Y18)) (.step 11 false (IT.ref false [2, 3, 6, 7, 8, 36, 37, 40, 43, 46] [2, 3, 37, 38, 41, 42, 47] Y15))))) fun Y9 => (IT.lt (.alt 3 (.step 3 false (.step 5 true (IT.ref true [2, 3, 6, 7, 8, 38, 40, 41, 43, 45] [2, 3, 37, 38, 41, 42, 47] Y28))) (.alt 3 (.step 5 false (IT.ref false [2, 3, 6, 7, 8, 36, 37, 40, 41, 43, 45] [2, 3, 37, 38, 41, 42, 47] Y19)) (.alt 3 (.step 9 false (IT.ref false [2, 3, 6, 7, 8, 36, 37, 39, 41, 44, 45] [2, 3, 37, 38, 41, 42, 47] Y17)) (.step 11 false (IT.ref false [2, 3, 6, 7, 8, 36, 37, 39, 41, 43, 46] [2, 3, 37, 38, 41, 42, 47] Y14))))) fun Y8 => (IT.lt (.alt 3 (.step 2 false (IT.ref true [2, 3, 6, 7, 8, 36, 37, 40, 41, 43, 45] [2, 3, 37, 38, 41, 42, 47] Y19)) (.alt 3 (.step 9 false (IT.ref false [2, 3, 6, 7, 8, 36, 40, 41, 44, 45] [2, 3, 37, 38, 41, 42, 47] Y16)) (.step 11 false (IT.ref false [2, 3, 6, 7, 8, 36, 40, 41, 43, 46] [2, 3, 37, 38, 41, 42, 47] Y13)))) fun Y7 => (IT.lt (.alt 3 (.step 3 false (.step 5 true (IT.ref true [2, 3, 6, 7, 8, 38, 40, 44, 45] [2, 3, 37, 38, 41, 42, 47] Y27))) (.alt 3 (.step 5 false (IT.ref false [2, 3, 6, 7, 8, 36, 37, 40, 44, 45] [2, 3, 37, 38, 41, 42, 47] Y18)) (.alt 3 (.step 6 false (IT.ref false [2, 3, 6, 7, 8, 36, 37, 39, 41, 44, 45] [2, 3, 37, 38, 41, 42, 47] Y17)) (.step 11 false (IT.ref false [2, 3, 6, 7, 8, 36, 37, 39, 44, 46] [2, 3, 37, 38, 41, 42, 47] Y12))))) fun Y6 => (IT.lt (.alt 3 (.step 2 false (IT.ref true [2, 3, 6, 7, 8, 36, 37, 40, 44, 45] [2, 3, 37, 38, 41, 42, 47] Y18)) (.alt 3 (.step 6 false (IT.ref false [2, 3, 6, 7, 8, 36, 40, 41, 44, 45] [2, 3, 37, 38, 41, 42, 47] Y16)) (.step 11 false (IT.ref false [2, 3, 6, 7, 8, 36, 40, 44, 46] [2, 3, 37, 38, 41, 42, 47] Y11)))) fun Y5 => (IT.lt (.alt 3 (.step 2 false (IT.ref true [2, 3, 6, 7, 8, 36, 37, 39, 41, 44, 45] [2, 3, 37, 38, 41, 42, 47] Y17)) (.alt 3 (.step 5 false (IT.ref true [2, 3, 6, 7, 8, 36, 40, 41, 44, 45] [2, 3, 37, 38, 41, 42, 47] Y16)) (.step 11 false (IT.ref false [2, 3, 6, 7, 8, 36, 39, 41, 44, 46] [2, 3, 37, 38, 41, 42, 47] Y10)))) fun Y4 => (IT.lt (.alt 3 (.step 3 false (.step 5 true (IT.ref true [2, 3, 6, 7, 8, 38, 40, 43, 46] [2, 3, 37, 38, 41, 42, 47] Y25))) (.alt 3 (.step 5 false (IT.ref false [2, 3, 6, 7, 8, 36, 37, 40, 43, 46] [2, 3, 37, 38, 41, 42, 47] Y15)) (.alt 3 (.step 6 false (IT.ref false [2, 3, 6, 7, 8, 36, 37, 39, 41, 43, 46] [2, 3, 37, 38, 41, 42, 47] Y14)) (.step 9 false (IT.ref false [2, 3, 6, 7, 8, 36, 37, 39, 44, 46] [2, 3, 37, 38, 41, 42, 47] Y12))))) fun Y3 => (IT.lt (.alt 3 (.step 2 false (IT.ref true [2, 3, 6, 7, 8, 36, 37, 40, 43, 46] [2, 3, 37, 38, 41, 42, 47] Y15)) (.alt 3 (.step 6 false (IT.ref false [2, 3, 6, 7, 8, 36, 40, 41, 43, 46] [2, 3, 37, 38, 41, 42, 47] Y13)) (.step 9 false (IT.ref false [2, 3, 6, 7, 8, 36, 40, 44, 46] [2, 3, 37, 38, 41, 42, 47] Y11)))) fun Y2 => (IT.lt (.alt 3 (.step 2 false (IT.ref true [2, 3, 6, 7, 8, 36, 37, 39, 41, 43, 46] [2, 3, 37, 38, 41, 42, 47] Y14)) (.alt 3 (.step 5 false (IT.ref true [2, 3, 6, 7, 8, 36, 40, 41, 43, 46] [2, 3, 37, 38, 41, 42, 47] Y13)) (.step 9 false (IT.ref false [2, 3, 6, 7, 8, 36, 39, 41, 44, 46] [2, 3, 37, 38, 41, 42, 47] Y10)))) fun Y1 => (IT.lt (.alt 3 (.step 2 false (IT.ref true [2, 3, 6, 7, 8, 36, 37, 39, 44, 46] [2, 3, 37, 38, 41, 42, 47] Y12)) (.alt 3 (.step 5 false (IT.ref true [2, 3, 6, 7, 8, 36, 40, 44, 46] [2, 3, 37, 38, 41, 42, 47] Y11)) (.step 6 false (IT.ref true [2, 3, 6, 7, 8, 36, 39, 41, 44, 46] [2, 3, 37, 38, 41, 42, 47] Y10)))) fun Y0 => (.step 0 true (.step 1 true (.step 4 true (.step 8 true (.step 10 true (.alt 3 (.step 2 false (.alt 3 (.step 3 false (.step 5 true (IT.ref true [2, 3, 6, 7, 8, 38, 40, 43, 45] [2, 3, 37, 38, 41, 42, 47] Y20))) (.alt 3 (.step 5 false (IT.ref true [2, 3, 6, 7, 8, 36, 37, 40, 43, 45] [2, 3, 37, 38, 41, 42, 47] Y9)) (.alt 3 (.step 6 false (IT.ref true [2, 3, 6, 7, 8, 36, 37, 39, 41, 43, 45] [2, 3, 37, 38, 41, 42, 47] Y8)) (.alt 3 (.step 9 false (IT.ref true [2, 3, 6, 7, 8, 36, 37, 39, 44, 45] [2, 3, 37, 38, 41, 42, 47] Y6)) (.step 11 false (IT.ref true [2, 3, 6, 7, 8, 36, 37, 39, 43, 46] [2, 3, 37, 38, 41, 42, 47] Y3))))))) (.alt 3 (.step 5 false (.alt 3 (.step 2 false (IT.ref false [2, 3, 6, 7, 8, 36, 37, 40, 43, 45] [2, 3, 37, 38, 41, 42, 47] Y9)) (.alt 3 (.step 6 false (IT.ref true [2, 3, 6, 7, 8, 36, 40, 41, 43, 45] [2, 3, 37, 38, 41, 42, 47] Y7)) (.alt 3 (.step 9 false (IT.ref true [2, 3, 6, 7, 8, 36, 40, 44, 45] [2, 3, 37, 38, 41, 42, 47] Y5)) (.step 11 false (IT.ref true [2, 3, 6, 7, 8, 36, 40, 43, 46] [2, 3, 37, 38, 41, 42, 47] Y2)))))) (.alt 3 (.step 6 false (.alt 3 (.step 2 false (IT.ref false [2, 3, 6, 7, 8, 36, 37, 39, 41, 43, 45] [2, 3, 37, 38, 41, 42, 47] Y8)) (.alt 3 (.step 5 false (IT.ref false [2, 3, 6, 7, 8, 36, 40, 41, 43, 45] [2, 3, 37, 38, 41, 42, 47] Y7)) (.alt 3 (.step 9 false (IT.ref true [2, 3, 6, 7, 8, 36, 39, 41, 44, 45] [2, 3, 37, 38, 41, 42, 47] Y4)) (.step 11 false (IT.ref true [2, 3, 6, 7, 8, 36, 39, 41, 43, 46] [2, 3, 37, 38, 41, 42, 47] Y1)))))) (.alt 3 (.step 9 false (.alt 3 (.step 2 false (IT.ref false [2, 3, 6, 7, 8, 36, 37, 39, 44, 45] [2, 3, 37, 38, 41, 42, 47] Y6)) (.alt 3 (.step 5 false (IT.ref false [2, 3, 6, 7, 8, 36, 40, 44, 45] [2, 3, 37, 38, 41, 42, 47] Y5)) (.alt 3 (.step 6 false (IT.ref false [2, 3, 6, 7, 8, 36, 39, 41, 44, 45] [2, 3, 37, 38, 41, 42, 47] Y4)) (.step 11 false (IT.ref true [2, 3, 6, 7, 8, 36, 39, 44, 46] [2, 3, 37, 38, 41, 42, 47] Y0)))))) (.step 11 false (.alt 3 (.step 2 false (IT.ref false [2, 3, 6, 7, 8, 36, 37, 39, 43, 46] [2, 3, 37, 38, 41, 42, 47] Y3)) (.alt 3 (.step 5 false (IT.ref false [2, 3, 6, 7, 8, 36, 40, 43, 46] [2, 3, 37, 38, 41, 42, 47] Y2)) (.alt 3 (.step 6 false (IT.ref false [2, 3, 6, 7, 8, 36, 39, 41, 43, 46] [2, 3, 37, 38, 41, 42, 47] Y1)) (.step 9 false (IT.ref false [2, 3, 6, 7, 8, 36, 39, 44, 46] [2, 3, 37, 38, 41, 42, 47] Y0)))))))))))))))))))))))))))))))))))))))))))))))))) [(0, 65535, 65535, true), (1, 65534, 65535, false), (0, 65535, 65535, false), (6, 65529, 65535, false), (0, 65535, 65527, true), (16, 65519, 65527, false), (0, 65535, 65527, false), (104, 65439, 65527, false), (0, 65535, 65399, true), (256, 65279, 65399, false), (0, 65535, 65399, true), (1024, 64511, 65399, false), (2688, 62975, 65399, false), (4111, 65527, 61303, true), (8447, 65407, 61303, true), (32767, 61439, 61303, true)] (by kernel_rfl) (by kernel_rfl) ?_ | refine sk_true rfl ?_ | refine sk_if rfl (fun hc => ?_) (fun hc => ?_))
  all_goals first | (exfalso; omega) | (exfalso; simp_all; done) | skip
  refine sk_ghost (sim_dem 38 1 rfl) ?_
  refine sk_ghost (dem_slot 6 38 rfl (by simp)) ?_
  refine sk_ghost (sim_dem 42 1 rfl) ?_
  refine sk_ghost (dem_slot 7 42 rfl (by simp)) ?_
  repeat' (first | (refine so_is (.assign _) ?_; (refine so_q (qt_asC rfl) rfl ?_)) | refine so_nil ?_ | refine sk_block ?_ | refine sk_region ?_)
  all_goals first | (exfalso; omega) | (exfalso; simp_all; done) | skip
  apply sk_packC [2, 3, 6, 7, 8, 9] [2, 3, 11, 37, 38, 41, 42, 47, 2069, 2087, 3069, 3087] rfl; (· (repeat (first | exact Pf.nil | apply Pf.cons (.c rfl (.d rfl)) | apply Pf.cons (.c rfl (.lp rfl))))); (· (repeat (first | exact Pb.nil | (apply Pb.cons; (· apply Nb.box rfl; (repeat (first | exact Ncs.nil rfl | (apply Ncs.cons rfl; (· (exact .d rfl))))))) | apply Pb.skip)))
  refine sk_loopL [2, 3, 6, 7, 8] [2, 3, 37, 38, 41, 42, 47, 2069, 3069, 11, 2087, 3087] (fun i => [(9, iN i)]) (fun _ => []) (fun i => i ≤ A.length ∧ ∀ i' k' n' : Nat, i' < i → k' < B.length → n' < C.length → U (atZ A i') (atZ B k') = true → T (atZ A i') (atZ B k') (atZ C n') = false) (fun i => A.length - i) (0) ?_ (by (repeat (first | exact trivial | refine ⟨(by (rfl)), ?_⟩))) (by (repeat (exact trivial))) ?_
  · exact ⟨Nat.zero_le _, fun i' k' n' h => by omega⟩
  rintro i ⟨hi, H1⟩
  by_cases hi2 : i < A.length
  · have ea := ea i hi2
    repeat' (first | (refine so_is (.assign _) ?_; (refine so_q (qt_asC rfl) rfl ?_)) | (refine so_is (.move _) ?_; (refine so_q (qt_mvC rfl) rfl ?_)) | (refine so_is (.call ⟨.builtin .len, _, #[25]⟩) ?_; (refine so_q (qt_len_d rfl (by kernel_rfl)) rfl ?_)) | (refine so_is (.binOp .lss 3 _ _ _) ?_; refine so_q (qt_lss rfl rfl) rfl ?_) | refine so_nil ?_ | refine sk_seq ?_ | refine sk_block ?_ | refine sk_exit rfl ?_ | refine sk_skip ?_ | refine sk_region ?_ | refine sk_if rfl (fun hc => ?_) (fun hc => ?_))
    all_goals first | (exfalso; omega) | (exfalso; simp_all; done) | skip
    apply sk_packC [2, 3, 6, 7, 8, 9, 10] [2, 3, 11, 37, 38, 41, 42, 47, 2069, 2087, 3069, 3087] rfl; (· (repeat (first | exact Pf.nil | apply Pf.cons (.c rfl (.d rfl)) | apply Pf.cons (.c rfl (.lp rfl))))); (· (repeat (first | exact Pb.nil | (apply Pb.cons; (· apply Nb.box rfl; (repeat (first | exact Ncs.nil rfl | (apply Ncs.cons rfl; (· (exact .d rfl))))))) | apply Pb.skip)))
    refine sk_loopL [2, 3, 6, 7, 8, 9] [2, 3, 37, 38, 41, 42, 47, 2069, 3069, 11, 2087, 3087] (fun k => [(10, iN k)]) (fun _ => []) (fun k => k ≤ B.length ∧ ∀ k' n' : Nat, k' < k → n' < C.length → U (atZ A i) (atZ B k') = true → T (atZ A i) (atZ B k') (atZ C n') = false) (fun k => B.length - k) (0) ?_ (by (repeat (first | exact trivial | refine ⟨(by (rfl)), ?_⟩))) (by (repeat (exact trivial))) ?_
    · exact ⟨Nat.zero_le _, fun k' n' h => by omega⟩
    rintro k ⟨hk, H2⟩
    by_cases hk2 : k < B.length
    · have eb := eb k hk2
      have ak := ask _ _ ea.2 eb.2
      have wp := wsp (atZ A (i : Int)) (atZ B (k : Int))
      have pl1 : (pairsF (askW Y ws) (atZ A (i : Int)) (atZ B (k : Int))).length ≤ 9 := by
        rw [pairsF_len, ea.1, eb.1, Nat.mul_comm]; omega
      cases hu : U (atZ A i) (atZ B k) with
      | false =>
        rw [hu] at wp
        repeat' (first | (with_reducible apply so_lt) | intro Y hY | ((with_reducible apply so_j2); (· assumption); (· rfl); (· exact (by (repeat (first | exact trivial | refine ⟨rfl, ?_⟩)))); (· exact (by (repeat (first | exact trivial | refine ⟨rfl, ?_⟩))))) | ((with_reducible apply so_j1); (· rfl); (· (repeat (first | exact Pf.nil | apply Pf.cons (.c rfl (.d rfl)) | apply Pf.cons (.c rfl (.lp rfl)) | (apply Pf.cons; (· apply Nv.g rfl; (repeat (first | exact Ncs.nil rfl | (apply Ncs.cons rfl; (· (first | exact .d rfl | exact .ls rfl)))))))))); (· (repeat (first | exact Pb.nil | apply Pb.cons (.row rfl) | (apply Pb.cons; (· apply Nb.box rfl; (repeat (first | exact Ncs.nil rfl | (apply Ncs.cons rfl; (· (exact .d rfl))))))) | apply Pb.skip))); (· assumption)) | refine so_alt ?_ ?_ | (refine so_is (.assign _) ?_; (refine so_q (qt_asC rfl) rfl ?_)) | (refine so_is (.load 27 _) ?_; (refine so_q (qt_load_boxs rfl rfl (by kernel_rfl : tAgg _ 27 4 = true) rfl) rfl ?_)) | (refine so_is (.unOp .not 4 _) ?_; refine so_q (qt_not rfl) rfl ?_) | (refine so_is (.move _) ?_; (refine so_q (qt_mvC rfl) rfl ?_)) | (refine so_is (.call ⟨.builtin .len, _, #[25]⟩) ?_; (refine so_q (qt_len_d rfl (by kernel_rfl)) rfl ?_)) | (refine so_is (.binOp .lss 3 _ _ _) ?_; refine so_q (qt_lss rfl rfl) rfl ?_) | (refine so_is (.indexAddr 25 _ _) ?_; (refine so_q (qt_idxII rfl rfl (by kernel_rfl) (by (omega)) (by (omega))) rfl ?_)) | (refine so_is (.load 24 _) ?_; (first | refine so_q (qt_load_box rfl rfl (by kernel_rfl) rfl) rfl ?_ | refine so_q (qt_load_pt rfl (by kernel_rfl) rfl) rfl ?_)) | (refine so_is (.call ⟨.value (.func 90), _, _⟩) ?_; ((apply so_callO0 (d := 69) (fid := 90); (· (repeat (first | exact SeA.nil | apply SeA.cons (.c (.d _)) | (apply SeA.cons; (· (apply SeP.g; (repeat (first | exact SeL.nil | apply SeL.cons (.d _))))))))); (· exact ak); (· rfl); (· rfl)))) | (refine so_is (.alloc 27) ?_; refine so_alloc (zs := [.int .i64 0, .int .i64 0, .slice none 0 0, .slice none 0 0]) (by kernel_rfl) rfl ?_) | (refine so_is (.store 27 _ _) ?_; (refine so_store_box rfl rfl rfl (by kernel_rfl) rfl rfl ?_)) | (refine so_is (.fieldAddr 27 _ 2) ?_; (refine so_q (qt_fld_lp (off := 2) rfl (by kernel_rfl)) rfl ?_)) | (refine so_is (.binOp .add 3 _ _ _) ?_; refine so_q (qt_addI rfl rfl (by (omega))) rfl ?_) | (refine so_is (.call ⟨.value (.func 97), _, _⟩) ?_; (apply so_call0 (fid := 97); (· (repeat (first | exact SeA.nil | apply SeA.cons (.c (.d _)) | apply SeA.cons (.c (.all _ _ _ _ rfl (by ((simp; done)))))))); (· exact wp); (· rfl))) | refine so_nil ?_ | refine sk_seq ?_ | refine sk_block ?_ | refine sk_blk ?_ | refine sk_exit rfl ?_ | refine sk_skip ?_ | refine sk_region ?_ | refine sk_drawQ 10 (fun i => i == 11) (IT.lt (.step 11 false .nil) fun Y0 => (.step 0 true (.step 1 true (.step 2 true (.step 3 true (.step 4 true (.step 5 true (.step 6 true (.step 7 true (.step 8 true (.alt 10 (.step 9 false (.step 10 false (IT.ref true [2, 3, 6, 7, 8, 9, 10, 11, 69] [2, 3, 37, 38, 41, 42, 47, 2069, 3069, 11] Y0))) (.step 10 false (.step 9 false (IT.ref false [2, 3, 6, 7, 8, 9, 10, 11, 69] [2, 3, 37, 38, 41, 42, 47, 2069, 3069, 11] Y0)))))))))))))) [(0, 4095, 4095, false), (0, 4095, 4095, true), (0, 4095, 4095, true), (6, 4089, 4095, true), (8, 4087, 4095, false), (0, 4095, 4095, true), (0, 4095, 4095, true), (96, 3999, 4095, true), (128, 3967, 4095, false), (273, 3822, 4095, false), (0, 4095, 4095, false), (2047, 2559, 4095, false)] (by kernel_rfl) (by kernel_rfl) ?_ | refine sk_true rfl ?_ | refine sk_if rfl (fun hc => ?_) (fun hc => ?_))
        all_goals first | (exfalso; omega) | (exfalso; simp_all; done) | skip
        refine sk_back ?_; refine ⟨k + 1, ?_, ?_, le_at rfl (by (repeat (first | exact trivial | refine ⟨(by (rfl)), ?_⟩))) (by (repeat (first | exact trivial | refine ⟨rfl, ?_⟩))) (by (repeat (exact trivial))) (by (repeat (first | exact trivial | refine ⟨.inr rfl, ?_⟩ | refine ⟨.inl rfl, ?_⟩)))⟩
        · refine ⟨by omega, fun k' n' h hn' hu' => ?_⟩
          rcases Nat.lt_succ_iff_lt_or_eq.1 h with h | rfl
          · exact H2 k' n' h hn' hu'
          · rw [hu] at hu'; cases hu'
        · omega
      | true =>
        rw [hu] at wp
        repeat' (first | (with_reducible apply so_lt) | intro Y hY | ((with_reducible apply so_j2); (· assumption); (· rfl); (· exact (by (repeat (first | exact trivial | refine ⟨rfl, ?_⟩)))); (· exact (by (repeat (first | exact trivial | refine ⟨rfl, ?_⟩))))) | ((with_reducible apply so_j1); (· rfl); (· (repeat (first | exact Pf.nil | apply Pf.cons (.c rfl (.d rfl)) | apply Pf.cons (.c rfl (.lp rfl)) | (apply Pf.cons; (· apply Nv.g rfl; (repeat (first | exact Ncs.nil rfl | (apply Ncs.cons rfl; (· (first | exact .d rfl | exact .ls rfl)))))))))); (· (repeat (first | exact Pb.nil | apply Pb.cons (.row rfl) | (apply Pb.cons; (· apply Nb.box rfl; (repeat (first | exact Ncs.nil rfl | (apply Ncs.cons rfl; (· (exact .d rfl))))))) | apply Pb.skip))); (· assumption)) | refine so_alt ?_ ?_ | (refine so_is (.assign _) ?_; (refine so_q (qt_asC rfl) rfl ?_)) | (refine so_is (.load 27 _) ?_; (refine so_q (qt_load_boxs rfl rfl (by kernel_rfl : tAgg _ 27 4 = true) rfl) rfl ?_)) | (refine so_is (.unOp .not 4 _) ?_; refine so_q (qt_not rfl) rfl ?_) | (refine so_is (.move _) ?_; (refine so_q (qt_mvC rfl) rfl ?_)) | (refine so_is (.call ⟨.builtin .len, _, #[25]⟩) ?_; (refine so_q (qt_len_d rfl (by kernel_rfl)) rfl ?_)) | (refine so_is (.binOp .lss 3 _ _ _) ?_; refine so_q (qt_lss rfl rfl) rfl ?_) | (refine so_is (.indexAddr 25 _ _) ?_; (refine so_q (qt_idxII rfl rfl (by kernel_rfl) (by (omega)) (by (omega))) rfl ?_)) | (refine so_is (.load 24 _) ?_; (first | refine so_q (qt_load_box rfl rfl (by kernel_rfl) rfl) rfl ?_ | refine so_q (qt_load_pt rfl (by kernel_rfl) rfl) rfl ?_)) | (refine so_is (.call ⟨.value (.func 90), _, _⟩) ?_; ((apply so_callO0 (d := 69) (fid := 90); (· (repeat (first | exact SeA.nil | apply SeA.cons (.c (.d _)) | (apply SeA.cons; (· (apply SeP.g; (repeat (first | exact SeL.nil | apply SeL.cons (.d _))))))))); (· exact ak); (· rfl); (· rfl)))) | (refine so_is (.alloc 27) ?_; refine so_alloc (zs := [.int .i64 0, .int .i64 0, .slice none 0 0, .slice none 0 0]) (by kernel_rfl) rfl ?_) | (refine so_is (.store 27 _ _) ?_; (refine so_store_box rfl rfl rfl (by kernel_rfl) rfl rfl ?_)) | (refine so_is (.fieldAddr 27 _ 2) ?_; (refine so_q (qt_fld_lp (off := 2) rfl (by kernel_rfl)) rfl ?_)) | (refine so_is (.binOp .add 3 _ _ _) ?_; refine so_q (qt_addI rfl rfl (by (omega))) rfl ?_) | (refine so_is (.call ⟨.value (.func 97), _, _⟩) ?_; (apply so_call0 (fid := 97); (· (repeat (first | exact SeA.nil | apply SeA.cons (.c (.d _)) | apply SeA.cons (.c (.all _ _ _ _ rfl (by ((simp; done)))))))); (· exact wp); (· rfl))) | refine so_nil ?_ | refine sk_seq ?_ | refine sk_block ?_ | refine sk_blk ?_ | refine sk_exit rfl ?_ | refine sk_skip ?_ | refine sk_region ?_ | refine sk_drawQ 10 (fun i => i == 11) (IT.lt (.step 11 false .nil) fun Y0 => (.step 0 true (.step 1 true (.step 2 true (.step 3 true (.step 4 true (.step 5 true (.step 6 true (.step 7 true (.step 8 true (.alt 10 (.step 9 false (.step 10 false (IT.ref true [2, 3, 6, 7, 8, 9, 10, 11, 69] [2, 3, 37, 38, 41, 42, 47, 2069, 3069, 11] Y0))) (.step 10 false (.step 9 false (IT.ref false [2, 3, 6, 7, 8, 9, 10, 11, 69] [2, 3, 37, 38, 41, 42, 47, 2069, 3069, 11] Y0)))))))))))))) [(0, 4095, 4095, false), (0, 4095, 4095, true), (0, 4095, 4095, true), (6, 4089, 4095, true), (8, 4087, 4095, false), (0, 4095, 4095, true), (0, 4095, 4095, true), (96, 3999, 4095, true), (128, 3967, 4095, false), (273, 3822, 4095, false), (0, 4095, 4095, false), (2047, 2559, 4095, false)] (by kernel_rfl) (by kernel_rfl) ?_ | refine sk_false rfl ?_ | refine sk_if rfl (fun hc => ?_) (fun hc => ?_))
        all_goals first | (exfalso; omega) | (exfalso; simp_all; done) | skip
        apply sk_packC [2, 3, 6, 7, 8, 9, 10, 11, 12] [2, 3, 11, 37, 38, 41, 42, 47, 2069, 2087, 3069, 3087] rfl; (· (repeat (first | exact Pf.nil | apply Pf.cons (.c rfl (.d rfl)) | apply Pf.cons (.c rfl (.lp rfl))))); (· (repeat (first | exact Pb.nil | apply Pb.cons (.row rfl) | (apply Pb.cons; (· apply Nb.box rfl; (repeat (first | exact Ncs.nil rfl | (apply Ncs.cons rfl; (· (first | exact .d rfl | exact .ls rfl))))))) | apply Pb.skip)))
        refine sk_loopL [2, 3, 6, 7, 8, 9, 10, 11] [2, 3, 37, 38, 41, 42, 47, 2069, 3069, 11, 2087, 3087] (fun n => [(12, iN n)]) (fun _ => []) (fun n => n ≤ C.length ∧ ∀ n' : Nat, n' < n → T (atZ A i) (atZ B k) (atZ C n') = false) (fun n => C.length - n) (0) ?_ (by (repeat (first | exact trivial | refine ⟨(by (rfl)), ?_⟩))) (by (repeat (exact trivial))) ?_
        · exact ⟨Nat.zero_le _, fun n' h => by omega⟩
        rintro n ⟨hn, H3⟩
        by_cases hn2 : n < C.length
        · have fp := flp (atZ A (i : Int)) (atZ B (k : Int)) (atZ C (n : Int)) ea.2 eb.2 (ec n hn2)
          have ep := smp (atZ A (i : Int)) (atZ B (k : Int)) (atZ C (n : Int)) hu
          have ys := yes i k n hi2 hk2 hn2 hu
          cases ht : T (atZ A i) (atZ B k) (atZ C n) with
          | true =>
            rw [ht] at ep
            repeat' (first | (refine so_is (.assign _) ?_; (refine so_q (qt_asC rfl) rfl ?_)) | (refine so_is (.load 27 _) ?_; (refine so_q (qt_load_boxs rfl rfl (by kernel_rfl : tAgg _ 27 4 = true) rfl) rfl ?_)) | (refine so_is (.move _) ?_; (refine so_q (qt_mvC rfl) rfl ?_)) | (refine so_is (.call ⟨.builtin .len, _, #[25]⟩) ?_; (refine so_q (qt_len_d rfl (by kernel_rfl)) rfl ?_)) | (refine so_is (.binOp .lss 3 _ _ _) ?_; refine so_q (qt_lss rfl rfl) rfl ?_) | (refine so_is (.indexAddr 25 _ _) ?_; (refine so_q (qt_idxII rfl rfl (by kernel_rfl) (by (omega)) (by (omega))) rfl ?_)) | (refine so_is (.load 24 _) ?_; (refine so_q (qt_load_pt rfl (by kernel_rfl) rfl) rfl ?_)) | (refine so_is (.binOp .add 3 _ _ _) ?_; refine so_q (qt_addI rfl rfl (by (omega))) rfl ?_) | (refine so_is (.call ⟨.value (.func 89), _, _⟩) ?_; ((apply so_call0 (fid := 89); (· (repeat (first | exact SeA.nil | apply SeA.cons (.c (.d _)) | (apply SeA.cons; (· (apply SeP.g; (repeat (first | exact SeL.nil | apply SeL.cons (.d _) | apply SeL.cons (.all _ _ _ _ rfl (by ((simp; done)))))))))))); (· exact fp); (· rfl)))) | (refine so_is (.call ⟨.value (.func 98), _, _⟩) ?_; ((apply so_call0 (fid := 98); (· (repeat (first | exact SeA.nil | (apply SeA.cons; (· (apply SeP.g; (repeat (first | exact SeL.nil | apply SeL.cons (.d _))))))))); (· exact ep); (· rfl)))) | refine so_nil ?_ | refine sk_seq ?_ | refine sk_block ?_ | refine sk_blk ?_ | refine sk_exit rfl ?_ | refine sk_skip ?_ | refine sk_region ?_ | refine sk_drawQ 15 (fun _ => false) (.step 0 true (.step 1 true (.step 2 true (.step 3 true (.step 4 true (.step 6 true (.step 5 false (.step 7 false .nil)))))))) [(0, 255, 255, false), (0, 255, 255, true), (0, 255, 255, true), (6, 249, 255, true), (8, 247, 255, false), (17, 238, 255, false), (0, 255, 255, false), (96, 159, 255, false)] (by kernel_rfl) (by kernel_rfl) ?_ | refine sk_true rfl ?_ | refine sk_if rfl (fun hc => ?_) (fun hc => ?_))
            all_goals first | (exfalso; omega) | (exfalso; simp_all; done) | skip
            all_goals (apply sk_ret; apply ret_eq; (· apply RetOK.t; (· (apply GvA.cons; (· exact .tmp _); (· exact GvP.c (.lit _))); (apply GvA.cons; (· exact .tmp _); (· exact GvP.c (.lit _))); exact GvA.nil); (· rfl); (· (decide))))
            all_goals rw [ys ht]
          | false =>
            rw [ht] at ep
            repeat' (first | (refine so_is (.assign _) ?_; (refine so_q (qt_asC rfl) rfl ?_)) | (refine so_is (.load 27 _) ?_; (refine so_q (qt_load_boxs rfl rfl (by kernel_rfl : tAgg _ 27 4 = true) rfl) rfl ?_)) | (refine so_is (.move _) ?_; (refine so_q (qt_mvC rfl) rfl ?_)) | (refine so_is (.call ⟨.builtin .len, _, #[25]⟩) ?_; (refine so_q (qt_len_d rfl (by kernel_rfl)) rfl ?_)) | (refine so_is (.binOp .lss 3 _ _ _) ?_; refine so_q (qt_lss rfl rfl) rfl ?_) | (refine so_is (.indexAddr 25 _ _) ?_; (refine so_q (qt_idxII rfl rfl (by kernel_rfl) (by (omega)) (by (omega))) rfl ?_)) | (refine so_is (.load 24 _) ?_; (refine so_q (qt_load_pt rfl (by kernel_rfl) rfl) rfl ?_)) | (refine so_is (.binOp .add 3 _ _ _) ?_; refine so_q (qt_addI rfl rfl (by (omega))) rfl ?_) | (refine so_is (.call ⟨.value (.func 89), _, _⟩) ?_; ((apply so_call0 (fid := 89); (· (repeat (first | exact SeA.nil | apply SeA.cons (.c (.d _)) | (apply SeA.cons; (· (apply SeP.g; (repeat (first | exact SeL.nil | apply SeL.cons (.d _) | apply SeL.cons (.all _ _ _ _ rfl (by ((simp; done)))))))))))); (· exact fp); (· rfl)))) | (refine so_is (.call ⟨.value (.func 98), _, _⟩) ?_; ((apply so_call0 (fid := 98); (· (repeat (first | exact SeA.nil | (apply SeA.cons; (· (apply SeP.g; (repeat (first | exact SeL.nil | apply SeL.cons (.d _))))))))); (· exact ep); (· rfl)))) | refine so_nil ?_ | refine sk_seq ?_ | refine sk_block ?_ | refine sk_blk ?_ | refine sk_exit rfl ?_ | refine sk_skip ?_ | refine sk_region ?_ | refine sk_drawQ 15 (fun _ => false) (.step 0 true (.step 1 true (.step 2 true (.step 3 true (.step 4 true (.step 6 true (.step 5 false (.step 7 false .nil)))))))) [(0, 255, 255, false), (0, 255, 255, true), (0, 255, 255, true), (6, 249, 255, true), (8, 247, 255, false), (17, 238, 255, false), (0, 255, 255, false), (96, 159, 255, false)] (by kernel_rfl) (by kernel_rfl) ?_ | refine sk_false rfl ?_ | refine sk_if rfl (fun hc => ?_) (fun hc => ?_))
            all_goals first | (exfalso; omega) | (exfalso; simp_all; done) | skip
            refine sk_back ?_; refine ⟨n + 1, ?_, ?_, le_at rfl (by (repeat (first | exact trivial | refine ⟨(by (rfl)), ?_⟩))) (by (repeat (first | exact trivial | refine ⟨rfl, ?_⟩))) (by (repeat (exact trivial))) (by (repeat (first | exact trivial | refine ⟨.inr rfl, ?_⟩)))⟩
            · refine ⟨by omega, fun n' h => ?_⟩
              rcases Nat.lt_succ_iff_lt_or_eq.1 h with h | rfl
              · exact H3 n' h
              · exact ht
            · omega
        · have e : n = C.length := by omega
          subst e
          repeat' (first | (refine so_is (.assign _) ?_; (refine so_q (qt_asC rfl) rfl ?_)) | (refine so_is (.load 27 _) ?_; (refine so_q (qt_load_boxs rfl rfl (by kernel_rfl : tAgg _ 27 4 = true) rfl) rfl ?_)) | (refine so_is (.move _) ?_; (refine so_q (qt_mvC rfl) rfl ?_)) | (refine so_is (.call ⟨.builtin .len, _, #[25]⟩) ?_; (refine so_q (qt_len_d rfl (by kernel_rfl)) rfl ?_)) | (refine so_is (.binOp .lss 3 _ _ _) ?_; refine so_q (qt_lss rfl rfl) rfl ?_) | (refine so_is (.indexAddr 25 _ _) ?_; (refine so_q (qt_idxII rfl rfl (by kernel_rfl) (by (omega)) (by (omega))) rfl ?_)) | (refine so_is (.load 24 _) ?_; (refine so_q (qt_load_pt rfl (by kernel_rfl) rfl) rfl ?_)) | (refine so_is (.binOp .add 3 _ _ _) ?_; refine so_q (qt_addI rfl rfl (by (omega))) rfl ?_) | refine so_nil ?_ | refine sk_seq ?_ | refine sk_block ?_ | refine sk_blk ?_ | refine sk_exit rfl ?_ | refine sk_skip ?_ | refine sk_region ?_ | refine sk_drawQ 15 (fun _ => false) (.step 0 true (.step 1 true (.step 2 true (.step 3 true (.step 4 true (.step 6 true (.step 5 false (.step 7 false .nil)))))))) [(0, 255, 255, false), (0, 255, 255, true), (0, 255, 255, true), (6, 249, 255, true), (8, 247, 255, false), (17, 238, 255, false), (0, 255, 255, false), (96, 159, 255, false)] (by kernel_rfl) (by kernel_rfl) ?_ | refine sk_if rfl (fun hc => ?_) (fun hc => ?_))
          all_goals first | (exfalso; omega) | (exfalso; simp_all; done) | skip
          refine sk_back ?_; refine ⟨k + 1, ?_, ?_, le_at rfl (by (repeat (first | exact trivial | refine ⟨(by (rfl)), ?_⟩))) (by (repeat (first | exact trivial | refine ⟨rfl, ?_⟩))) (by (repeat (exact trivial))) (by (repeat (first | exact trivial | refine ⟨.inr rfl, ?_⟩ | refine ⟨.inl rfl, ?_⟩)))⟩
          · refine ⟨by omega, fun k' n' h hn' hu' => ?_⟩
            rcases Nat.lt_succ_iff_lt_or_eq.1 h with h | rfl
            · exact H2 k' n' h hn' hu'
            · exact H3 n' hn'
          · omega
    · have e : k = B.length := by omega
      subst e
      repeat' (first | (with_reducible apply so_lt) | intro Y hY | refine so_alt ?_ ?_ | (refine so_is (.assign _) ?_; (refine so_q (qt_asC rfl) rfl ?_)) | (refine so_is (.load 27 _) ?_; (refine so_q (qt_load_boxs rfl rfl (by kernel_rfl : tAgg _ 27 4 = true) rfl) rfl ?_)) | (refine so_is (.move _) ?_; (refine so_q (qt_mvC rfl) rfl ?_)) | (refine so_is (.call ⟨.builtin .len, _, #[25]⟩) ?_; (refine so_q (qt_len_d rfl (by kernel_rfl)) rfl ?_)) | (refine so_is (.binOp .lss 3 _ _ _) ?_; refine so_q (qt_lss rfl rfl) rfl ?_) | (refine so_is (.indexAddr 25 _ _) ?_; (refine so_q (qt_idxII rfl rfl (by kernel_rfl) (by (omega)) (by (omega))) rfl ?_)) | (refine so_is (.load 24 _) ?_; (refine so_q (qt_load_pt rfl (by kernel_rfl) rfl) rfl ?_)) | (refine so_is (.alloc 27) ?_; refine so_alloc (zs := [.int .i64 0, .int .i64 0, .slice none 0 0, .slice none 0 0]) (by kernel_rfl) rfl ?_) | (refine so_is (.binOp .add 3 _ _ _) ?_; refine so_q (qt_addI rfl rfl (by (omega))) rfl ?_) | refine so_nil ?_ | refine sk_seq ?_ | refine sk_block ?_ | refine sk_blk ?_ | refine sk_exit rfl ?_ | refine sk_skip ?_ | refine sk_region ?_ | refine sk_drawQ 10 (fun i => i == 11) (IT.lt (.step 11 false .nil) fun Y0 => (.step 0 true (.step 1 true (.step 2 true (.step 3 true (.step 4 true (.step 5 true (.step 6 true (.step 7 true (.step 8 true (.alt 10 (.step 9 false (.step 10 false (IT.ref true [2, 3, 6, 7, 8, 9, 10, 11, 69] [2, 3, 37, 38, 41, 42, 47, 2069, 3069, 11] Y0))) (.step 10 false (.step 9 false (IT.ref false [2, 3, 6, 7, 8, 9, 10, 11, 69] [2, 3, 37, 38, 41, 42, 47, 2069, 3069, 11] Y0)))))))))))))) [(0, 4095, 4095, false), (0, 4095, 4095, true), (0, 4095, 4095, true), (6, 4089, 4095, true), (8, 4087, 4095, false), (0, 4095, 4095, true), (0, 4095, 4095, true), (96, 3999, 4095, true), (128, 3967, 4095, false), (273, 3822, 4095, false), (0, 4095, 4095, false), (2047, 2559, 4095, false)] (by kernel_rfl) (by kernel_rfl) ?_ | refine sk_if rfl (fun hc => ?_) (fun hc => ?_))
      all_goals first | (exfalso; omega) | (exfalso; simp_all; done) | skip
      refine sk_back ?_; refine ⟨i + 1, ?_, ?_, le_at rfl (by (repeat (first | exact trivial | refine ⟨(by (rfl)), ?_⟩))) (by (repeat (first | exact trivial | refine ⟨rfl, ?_⟩))) (by (repeat (exact trivial))) (by (repeat (first | exact trivial | refine ⟨.inr rfl, ?_⟩)))⟩
      · refine ⟨by omega, fun i' k' n' h hk' hn' hu' => ?_⟩
        rcases Nat.lt_succ_iff_lt_or_eq.1 h with h | rfl
        · exact H1 i' k' n' h hk' hn' hu'
        · exact H2 k' n' hk' hn' hu'
      · omega
  · have e : i = A.length := by omega
    subst e
    repeat' (first | (refine so_is (.assign _) ?_; (refine so_q (qt_asC rfl) rfl ?_)) | (refine so_is (.move _) ?_; (refine so_q (qt_mvC rfl) rfl ?_)) | (refine so_is (.call ⟨.builtin .len, _, #[25]⟩) ?_; (refine so_q (qt_len_d rfl (by kernel_rfl)) rfl ?_)) | (refine so_is (.binOp .lss 3 _ _ _) ?_; refine so_q (qt_lss rfl rfl) rfl ?_) | refine so_nil ?_ | refine sk_seq ?_ | refine sk_block ?_ | refine sk_exit rfl ?_ | refine sk_skip ?_ | refine sk_region ?_ | refine sk_if rfl (fun hc => ?_) (fun hc => ?_))
    all_goals first | (exfalso; omega) | (exfalso; simp_all; done) | skip
    all_goals (apply sk_ret; apply ret_eq; (· apply RetOK.t; (· (apply GvA.cons; (· exact .tmp _); (· exact GvP.c (.lit _))); (apply GvA.cons; (· exact .tmp _); (· exact GvP.c (.lit _))); exact GvA.nil); (· rfl); (· (decide))))
    all_goals rw [no fun i k n hi hk hn hu => H1 i k n hi hk hn hu]

end Go.Proofs.Ytefbiejoikpkmaa

namespace Go.Proofs.Ytefbiejoikpkmaa
open Go.RowKit
set_option linter.unusedSectionVars false
variable [Glb]
set_option maxRecDepth 10000
set_option maxHeartbeats 4000000
theorem names_both (X Y : Int) (ws : List Int) (wi : List (List Int)) (X2 Y2 : Int) (ws2 : List Int) (wi2 : List (List Int)) : ∃ r1 r2 : Bool,
    PC Try.prog 10 [.g [dI X, dI Y, eI ws, eII wi], .g [dI X2, dI Y2, eI ws2, eII wi2]] (.t [.c (dB r1), .c (dB r2)]) ∧
    PC Try.prog 11 [.g [dI X, dI Y, eI ws, eII wi], .g [dI X2, dI Y2, eI ws2, eII wi2]] (.t [.c (dB r1), .c (dB r2)]) ∧
    r2 = nameB X Y ws wi X2 Y2 ws2 wi2 ∧ (r1 = true → nameB X Y ws wi X2 Y2 ws2 wi2 = true) ∧ ∀ x y : Nat, X = x → Y = y → nameB X Y ws wi X2 Y2 ws2 wi2 = true → r1 = sameG x y ws wi ws2 wi2 := by
  cases h : nameB X Y ws wi X2 Y2 ws2 wi2 with
  | false => exact ⟨false, false, SameByNames_no _ _ _ _ _ _ _ _ h, spSameByNames_no _ _ _ _ _ _ _ _ h, rfl, fun h => (by cases h), fun _ _ _ _ h => (by cases h)⟩
  | true =>
    have h' := h
    simp only [nameB, Bool.and_eq_true, decide_eq_true_eq] at h'
    obtain ⟨h1, h2, rfl, rfl⟩ := h'
    obtain ⟨x, y, rfl, rfl, -⟩ := game_nat h1
    refine ⟨_, true, SameByNames_p x y ws wi ws2 wi2 h1 h2, spSameByNames_p x y ws wi ws2 wi2 h1 h2, rfl, fun _ => rfl, fun a b ha hb _ => ?_⟩
    obtain rfl : x = a := by omega
    obtain rfl : y = b := by omega
    rfl

end Go.Proofs.Ytefbiejoikpkmaa
