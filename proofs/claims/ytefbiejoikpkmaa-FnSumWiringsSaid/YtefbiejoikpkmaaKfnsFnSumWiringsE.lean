/- What the functions that FnSumWirings reaches return: part of its proof. No condition beyond those of its theorems. -/
import Derived.Test.YtefbiejoikpkmaaKfnsFnSumWiringsA
import Derived.Test.YtefbiejoikpkmaaKplainC
import Derived.Test.YtefbiejoikpkmaaKfnsFnSumWiringsD
import Derived.Test.YtefbiejoikpkmaaKfnsFnSumWiringsC
import Derived.Test.YtefbiejoikpkmaaKplainB
import Derived.Test.YtefbiejoikpkmaaKplainA
import Derived.Test.YtefbiejoikpkmaaKfnsFnSumWiringsB
import Derived.WalkKit
set_option linter.unusedVariables false
set_option linter.unusedSimpArgs false
namespace Go.Proofs.Ytefbiejoikpkmaa
open Go.RowKit
set_option linter.unusedSectionVars false
variable [Glb]
set_option maxRecDepth 10000
set_option maxHeartbeats 4000000
/-- a list of lists of which the first i have got names of their own -/
def anyR (P : List (List Int)) (i : Nat) : List D := List.replicate i D.any ++ (cII P).drop i
theorem anyR_len (P : List (List Int)) {i : Nat} (h : i ≤ P.length) : (anyR P i).length = P.length := by simp [anyR]; omega
theorem anyR_get (P : List (List Int)) {i : Nat} (h : i < P.length) : (anyR P i)[i]? = some (eI (atZ P (i : Int))) := by
  unfold anyR
  rw [List.getElem?_append_right (by simp), List.length_replicate, Nat.sub_self, List.getElem?_drop, Nat.add_zero, List.getElem?_map, List.getElem?_eq_getElem h, atZ_nat h]
  rfl
theorem anyR_set (P : List (List Int)) {i : Nat} (h : i < P.length) : (anyR P i).set i D.any = anyR P (i + 1) := by
  unfold anyR
  rw [List.set_append_right _ _ (by simp), List.length_replicate, Nat.sub_self, List.drop_eq_getElem_cons (by simpa using h), List.set_cons_zero, List.replicate_succ', List.append_assoc]
  rfl
inductive Md where
  | nil
  | old
  | cur
def fst10 : Md → Nat → Nat → FV
  | .nil, _, _ => .c (.d (.lit (.slice none 0 0)))
  | .old, n, _ => .c (.ls 3000 1 0 n)
  | .cur, _, m => .c (.ls 2000 1 0 m)
def snd11 : Md → Nat → FV
  | .nil, _ => .c (.d (.lit (.slice none 0 0)))
  | _, n => .c (.ls 5000 1 0 n)
def blkM : Md → List Int → List Int → List (Nat × Blk)
  | .nil, _, _ => []
  | .old, f, s => [(3000, .row 1 (cI f)), (5000, .row 1 (cI s))]
  | .cur, _, s => [(5000, .row 1 (cI s))]
theorem BestAsks_p (xa ya na : Int) (la : List (List Int)) (xb yb nb : Int) (lb : List (List Int)) (k : Int) : PC Try.prog 72 [.g [dI xa, dI ya, dI na, eII la], .g [dI xb, dI yb, dI nb, eII lb], .c (dI k)]
    (.t [.c (eI (whenA (bestB xa ya na la xb yb nb lb k) (firstA (askS la lb k.toNat) 256))), .c (eI (whenA (bestB xa ya na la xb yb nb lb k) (secondA (askS la lb k.toNat) 256))), .c (dI (whenN (bestB xa ya na la xb yb nb lb k) (mostA (askS la lb k.toNat) 256))), .c (dB (bestB xa ya na la xb yb nb lb k))]) := by
  cases hB : bestB xa ya na la xb yb nb lb k with
  | false =>
    cases h1 : pairB xa ya na la with
    | false =>
      refine pc_intro Try.func72 rfl rfl rfl (by kernel_rfl) rfl rfl ?_; intro _
      repeat' (first | (refine so_is (.box 78 _) ?_; refine so_box rfl rfl ?_) | (refine so_is (.assign _) ?_; (refine so_q (qt_asC rfl) rfl ?_)) | (refine so_is (.load 78 _) ?_; (refine so_q (qt_load_boxs rfl rfl (by kernel_rfl : tAgg _ 78 4 = true) rfl) rfl ?_)) | (refine so_is (.unOp .not 4 _) ?_; refine so_q (qt_not rfl) rfl ?_) | (refine so_is (.move _) ?_; (refine so_q (qt_mvC rfl) rfl ?_)) | (refine so_is (.pick _ _ _) ?_; (refine so_q (qt_pkC rfl rfl) rfl ?_)) | (refine so_is (.call ⟨.value (.func 158), _, _⟩) ?_; (apply so_call0 (fid := 158); (· (repeat (first | exact SeA.nil | (apply SeA.cons; (· (apply SeP.g; (repeat (first | exact SeL.nil | apply SeL.cons (.d _))))))))); (· exact isPair_p _ _ _ _); (· rfl))) | refine so_nil ?_ | refine so_g_no rfl rfl rfl rfl ?_ | refine so_g_yes rfl rfl rfl rfl ?_ | refine so_g_b rfl rfl (fun hg => ?_) (fun hg => ?_) | refine sk_seq ?_ | refine sk_region ?_ | refine sk_true rfl ?_)
      all_goals first | (exfalso; simp_all; done) | skip
      all_goals (apply sk_ret; apply ret_eq; (· apply RetOK.t; (· (apply GvA.cons; (· exact .tmp _); (· (exact GvP.c (.nil 1 (by decide))))); (apply GvA.cons; (· exact .tmp _); (· (exact GvP.c (.nil 1 (by decide))))); (apply GvA.cons; (· exact .tmp _); (· exact GvP.c (.lit _))); (apply GvA.cons; (· exact .tmp _); (· exact GvP.c (.lit _))); exact GvA.nil); (· rfl); (· (decide))))
      all_goals simp [whenN, whenA]
    | true =>
      cases h2 : pairB xb yb nb lb with
      | false =>
        refine pc_intro Try.func72 rfl rfl rfl (by kernel_rfl) rfl rfl ?_; intro _
        repeat' (first | (refine so_is (.box 78 _) ?_; refine so_box rfl rfl ?_) | (refine so_is (.assign _) ?_; (refine so_q (qt_asC rfl) rfl ?_)) | (refine so_is (.load 78 _) ?_; (refine so_q (qt_load_boxs rfl rfl (by kernel_rfl : tAgg _ 78 4 = true) rfl) rfl ?_)) | (refine so_is (.unOp .not 4 _) ?_; refine so_q (qt_not rfl) rfl ?_) | (refine so_is (.move _) ?_; (refine so_q (qt_mvC rfl) rfl ?_)) | (refine so_is (.pick _ _ _) ?_; (refine so_q (qt_pkC rfl rfl) rfl ?_)) | (refine so_is (.call ⟨.value (.func 158), _, _⟩) ?_; (apply so_call0 (fid := 158); (· (repeat (first | exact SeA.nil | (apply SeA.cons; (· (apply SeP.g; (repeat (first | exact SeL.nil | apply SeL.cons (.d _))))))))); (· exact isPair_p _ _ _ _); (· rfl))) | refine so_nil ?_ | refine so_g_no rfl rfl rfl rfl ?_ | refine so_g_yes rfl rfl rfl rfl ?_ | refine so_g_b rfl rfl (fun hg => ?_) (fun hg => ?_) | refine sk_seq ?_ | refine sk_region ?_ | refine sk_true rfl ?_)
        all_goals first | (exfalso; simp_all; done) | skip
        all_goals (apply sk_ret; apply ret_eq; (· apply RetOK.t; (· (apply GvA.cons; (· exact .tmp _); (· (exact GvP.c (.nil 1 (by decide))))); (apply GvA.cons; (· exact .tmp _); (· (exact GvP.c (.nil 1 (by decide))))); (apply GvA.cons; (· exact .tmp _); (· exact GvP.c (.lit _))); (apply GvA.cons; (· exact .tmp _); (· exact GvP.c (.lit _))); exact GvA.nil); (· rfl); (· (decide))))
        all_goals simp [whenN, whenA]
      | true =>
        have hm := mul_whole (pairB_spec h1).2.2.2 (pairB_spec h2).2.2.2
        have e : na * nb ≤ 1000 → inB k 0 7 = false := fun h => by
          cases h3 : inB k 0 7 with
          | false => rfl
          | true => simp [bestB, wiresB, h1, h2, h3, h] at hB
        have ip1 := isPair_p xa ya na la
        have ip2 := isPair_p xb yb nb lb
        rw [h1] at ip1
        rw [h2] at ip2
        by_cases hle : na * nb ≤ 1000
        · have wp := within_p k 0 7
          rw [e hle] at wp
          refine pc_intro Try.func72 rfl rfl rfl (by kernel_rfl) rfl rfl ?_; intro _
          repeat' (first | (refine so_is (.box 78 _) ?_; refine so_box rfl rfl ?_) | (refine so_is (.assign _) ?_; (refine so_q (qt_asC rfl) rfl ?_)) | (refine so_is (.load 78 _) ?_; (refine so_q (qt_load_boxs rfl rfl (by kernel_rfl : tAgg _ 78 4 = true) rfl) rfl ?_)) | (refine so_is (.unOp .not 4 _) ?_; refine so_q (qt_not rfl) rfl ?_) | (refine so_is (.move _) ?_; (refine so_q (qt_mvC rfl) rfl ?_)) | (refine so_is (.pick _ _ _) ?_; (refine so_q (qt_pkC rfl rfl) rfl ?_)) | (refine so_is (.call ⟨.value (.func 158), _, _⟩) ?_; (first | (apply so_call0 (fid := 158); (· (repeat (first | exact SeA.nil | (apply SeA.cons; (· (apply SeP.g; (repeat (first | exact SeL.nil | apply SeL.cons (.d _))))))))); (· exact ip1); (· rfl)) | (apply so_call0 (fid := 158); (· (repeat (first | exact SeA.nil | (apply SeA.cons; (· (apply SeP.g; (repeat (first | exact SeL.nil | apply SeL.cons (.d _))))))))); (· exact ip2); (· rfl)))) | (refine so_is (.call ⟨.value (.func 130), _, _⟩) ?_; ((apply so_call0 (fid := 130); (· (repeat (first | exact SeA.nil | apply SeA.cons (.c (.d _))))); (· exact wp); (· rfl)))) | refine so_nil ?_ | refine so_g_no rfl rfl rfl rfl ?_ | refine so_g_yes rfl rfl rfl rfl ?_ | refine sk_seq ?_ | refine sk_region ?_ | refine sk_true rfl ?_)
          all_goals first | (exfalso; simp_all; done) | (exfalso; omega) | skip
          all_goals (apply sk_ret; apply ret_eq; (· apply RetOK.t; (· (apply GvA.cons; (· exact .tmp _); (· (exact GvP.c (.nil 1 (by decide))))); (apply GvA.cons; (· exact .tmp _); (· (exact GvP.c (.nil 1 (by decide))))); (apply GvA.cons; (· exact .tmp _); (· exact GvP.c (.lit _))); (apply GvA.cons; (· exact .tmp _); (· exact GvP.c (.lit _))); exact GvA.nil); (· rfl); (· (decide))))
          all_goals simp [whenN, whenA]
        · refine pc_intro Try.func72 rfl rfl rfl (by kernel_rfl) rfl rfl ?_; intro _
          repeat' (first | (refine so_is (.box 78 _) ?_; refine so_box rfl rfl ?_) | (refine so_is (.assign _) ?_; (refine so_q (qt_asC rfl) rfl ?_)) | (refine so_is (.load 78 _) ?_; (refine so_q (qt_load_boxs rfl rfl (by kernel_rfl : tAgg _ 78 4 = true) rfl) rfl ?_)) | (refine so_is (.unOp .not 4 _) ?_; refine so_q (qt_not rfl) rfl ?_) | (refine so_is (.move _) ?_; (refine so_q (qt_mvC rfl) rfl ?_)) | (refine so_is (.pick _ _ _) ?_; (refine so_q (qt_pkC rfl rfl) rfl ?_)) | (refine so_is (.fieldAddr 78 _ 2) ?_; (refine so_q (qt_fld_lp (off := 2) rfl (by kernel_rfl)) rfl ?_)) | (refine so_is (.load 3 _) ?_; (refine so_q (qt_load_box rfl rfl (by kernel_rfl) rfl) rfl ?_)) | (refine so_is (.binOp .mul 3 _ _ _) ?_; refine so_q (qt_mulI rfl rfl (by (omega))) rfl ?_) | (refine so_is (.binOp .gtr 3 _ _ _) ?_; refine so_q (qt_gtr rfl rfl) rfl ?_) | (refine so_is (.call ⟨.value (.func 158), _, _⟩) ?_; (first | (apply so_call0 (fid := 158); (· (repeat (first | exact SeA.nil | (apply SeA.cons; (· (apply SeP.g; (repeat (first | exact SeL.nil | apply SeL.cons (.d _))))))))); (· exact ip1); (· rfl)) | (apply so_call0 (fid := 158); (· (repeat (first | exact SeA.nil | (apply SeA.cons; (· (apply SeP.g; (repeat (first | exact SeL.nil | apply SeL.cons (.d _))))))))); (· exact ip2); (· rfl)))) | (refine so_is (.call ⟨.value (.func 130), _, _⟩) ?_; ((apply so_call0 (fid := 130); (· (repeat (first | exact SeA.nil | apply SeA.cons (.c (.d _))))); (· exact within_p _ _ _); (· rfl)))) | refine so_nil ?_ | refine so_g_no rfl rfl rfl rfl ?_ | refine so_g_yes rfl rfl rfl rfl ?_ | refine so_g_b rfl rfl (fun hg => ?_) (fun hg => ?_) | refine sk_seq ?_ | refine sk_skip ?_ | refine sk_region ?_ | refine sk_true rfl ?_ | refine sk_if rfl (fun hc => ?_) (fun hc => ?_))
          all_goals first | (exfalso; simp_all; done) | (exfalso; omega) | skip
          all_goals (apply sk_ret; apply ret_eq; (· apply RetOK.t; (· (apply GvA.cons; (· exact .tmp _); (· (exact GvP.c (.nil 1 (by decide))))); (apply GvA.cons; (· exact .tmp _); (· (exact GvP.c (.nil 1 (by decide))))); (apply GvA.cons; (· exact .tmp _); (· exact GvP.c (.lit _))); (apply GvA.cons; (· exact .tmp _); (· exact GvP.c (.lit _))); exact GvA.nil); (· rfl); (· (decide))))
          all_goals simp [whenN, whenA]
  | true =>
    have hB2 := hB
    simp only [bestB, wiresB, Bool.and_eq_true, decide_eq_true_eq] at hB2
    obtain ⟨⟨v1, v2, hle⟩, v3⟩ := hB2
    obtain ⟨rfl, rfl, ha, a1, a2⟩ := pairB_spec v1
    obtain ⟨rfl, rfl, hb, b1, b2⟩ := pairB_spec v2
    have hm := mul_whole ⟨a1, a2⟩ ⟨b1, b2⟩
    have hk := inB_iff.1 v3
    obtain ⟨K, rfl⟩ : ∃ K : Nat, k = K := ⟨k.toNat, by omega⟩
    rw [Int.toNat_natCast]
    obtain ⟨s, hs⟩ : ∃ s, s = askS la lb K := ⟨_, rfl⟩
    rw [← hs]
    obtain ⟨P, hP⟩ : ∃ P, P = playsF 4 := ⟨_, rfl⟩
    have hPl : P.length = 16 := by rw [hP]; rfl
    have ap : PC Try.prog 92 [.c (dI 2), .c (dI 2)] (.p (.c (eII P))) := by rw [hP]; exact plays_p 2 2 (by omega)
    refine pc_intro Try.func72 rfl rfl rfl (by kernel_rfl) rfl rfl ?_; intro _
    repeat' (first | (refine so_is (.box 78 _) ?_; refine so_box rfl rfl ?_) | (refine so_is (.assign _) ?_; (refine so_q (qt_asC rfl) rfl ?_)) | (refine so_is (.load 78 _) ?_; (refine so_q (qt_load_boxs rfl rfl (by kernel_rfl : tAgg _ 78 4 = true) rfl) rfl ?_)) | (refine so_is (.unOp .not 4 _) ?_; refine so_q (qt_not rfl) rfl ?_) | (refine so_is (.move _) ?_; (refine so_q (qt_mvC rfl) rfl ?_)) | (refine so_is (.pick _ _ _) ?_; (refine so_q (qt_pkC rfl rfl) rfl ?_)) | (refine so_is (.fieldAddr 78 _ 2) ?_; (refine so_q (qt_fld_lp (off := 2) rfl (by kernel_rfl)) rfl ?_)) | (refine so_is (.load 3 _) ?_; (refine so_q (qt_load_box rfl rfl (by kernel_rfl) rfl) rfl ?_)) | (refine so_is (.binOp .mul 3 _ _ _) ?_; refine so_q (qt_mulI rfl rfl (by (omega))) rfl ?_) | (refine so_is (.binOp .gtr 3 _ _ _) ?_; refine so_q (qt_gtr rfl rfl) rfl ?_) | (refine so_is (.call ⟨.builtin .len, _, #[25]⟩) ?_; (refine so_q (qt_len_ls rfl (by kernel_rfl)) rfl ?_)) | (refine so_is (.call ⟨.value (.func 158), _, _⟩) ?_; ((apply so_call0 (fid := 158); (· (repeat (first | exact SeA.nil | (apply SeA.cons; (· (apply SeP.g; (repeat (first | exact SeL.nil | apply SeL.cons (.d _))))))))); (· exact isPair_p _ _ _ _); (· rfl)))) | (refine so_is (.call ⟨.value (.func 130), _, _⟩) ?_; ((apply so_call0 (fid := 130); (· (repeat (first | exact SeA.nil | apply SeA.cons (.c (.d _))))); (· exact within_p _ _ _); (· rfl)))) | (refine so_is (.call ⟨.value (.func 92), _, _⟩) ?_; (apply so_callO0 (fid := 92); (· (repeat (first | exact SeA.nil | apply SeA.cons (.c (.d _))))); (· exact ap); (· rfl); (· rfl))) | refine so_nil ?_ | refine so_g_no rfl rfl rfl rfl ?_ | refine so_g_yes rfl rfl rfl rfl ?_ | refine so_g_b rfl rfl (fun hg => ?_) (fun hg => ?_) | refine sk_seq ?_ | refine sk_block ?_ | refine sk_skip ?_ | refine sk_region (id := 0) ?_ | refine sk_region (id := 1) ?_ | refine sk_region (id := 2) ?_ | refine sk_region (id := 3) ?_ | refine sk_region (id := 4) ?_ | refine sk_true rfl ?_ | refine sk_if rfl (fun hc => ?_) (fun hc => ?_))
    all_goals first | (exfalso; simp_all [bestB]; done) | (exfalso; omega) | skip
    apply sk_packC [2, 3, 4, 10, 11, 12, 39, 40, 41] [3, 4, 39, 45, 54, 56, 58, 1054, 1056, 2000, 2054, 2056, 3000, 3057, 4000, 5000] rfl; (· (repeat (first | exact Pf.nil | apply Pf.cons (.c rfl (.d rfl)) | apply Pf.cons (.c rfl (.ls rfl)) | apply Pf.cons (.c rfl (.lp rfl))))); (· (repeat (first | exact Pb.nil | apply Pb.cons (.row rfl) | (apply Pb.cons; (· apply Nb.box rfl; (repeat (first | exact Ncs.nil rfl | (apply Ncs.cons rfl; (· (exact .d rfl))))))) | apply Pb.skip)))
    refine sk_loopL [2, 3, 4, 39, 40] [3, 4, 45, 54, 1054, 2054, 56, 1056, 2056, 3057, 58] (fun (g : Nat × Md) => [(41, iN g.1), (10, fst10 g.2 (firstA s (16 * g.1)).length 0), (11, snd11 g.2 (secondA s (16 * g.1)).length), (12, iZ (mostA s (16 * g.1)))]) (fun g => (39, .row 1 (anyR P g.1)) :: blkM g.2 (firstA s (16 * g.1)) (secondA s (16 * g.1))) (fun g => g.1 ≤ 16 ∧ (g.2 = .nil ↔ g.1 = 0) ∧ g.2 ≠ .cur) (fun g => 16 - g.1) (((0 : Nat), Md.nil)) ?_ (by (repeat (first | exact trivial | refine ⟨(by (rfl)), ?_⟩))) (by (repeat (first | exact trivial | refine ⟨(by (rfl)), ?_⟩))) ?_
    · exact ⟨by omega, by simp, by simp⟩
    rintro ⟨i, m⟩ ⟨hi, hmi, hmc⟩
    simp only at hi hmi hmc
    have rl := anyR_len P (i := i) (by omega)
    by_cases hi2 : i < 16
    · have pi := ask_at hi2
      rw [← hP] at pi
      have gi := anyR_get P (i := i) (by omega)
      have si := anyR_set P (i := i) (by omega)
      rw [pi] at gi
      cases m with
      | cur => exact absurd rfl hmc
      | nil =>
        have hi0 : i = 0 := hmi.1 rfl
        repeat' (first | (refine so_is (.assign _) ?_; (refine so_q (qt_asC rfl) rfl ?_)) | (refine so_is (.move _) ?_; (refine so_q (qt_mvC rfl) rfl ?_)) | (refine so_is (.binOp .lss 3 _ _ _) ?_; refine so_q (qt_lss rfl rfl) rfl ?_) | refine so_nil ?_ | refine sk_seq ?_ | refine sk_block ?_ | refine sk_exit rfl ?_ | refine sk_skip ?_ | refine sk_region (id := 5) ?_ | refine sk_region (id := 15) ?_ | refine sk_if rfl (fun hc => ?_) (fun hc => ?_))
        all_goals first | (exfalso; omega) | skip
        refine sk_region (id := 6) ?_
        all_goals ((refine so_q (qt_idx_ls rfl rfl (by kernel_rfl : tSl _ 25 1 = true) (by (omega)) (by (omega))) rfl ?_))
        all_goals (refine so_thaw (c := 2000) (sz' := 1) (n := (askRow i).length) (ds' := cI (askRow i)) rfl rfl (by kernel_rfl) (by simpa using gi) rfl rfl rfl ?_)
        all_goals (refine so_ghost (sim_any (b := 39) rfl) ?_; refine so_q (qt_asC rfl) rfl ?_)
        all_goals refine so_nil ?_
        repeat' (first | (refine so_is (.move _) ?_; (refine so_q (qt_mvC rfl) rfl ?_)) | (refine so_is (.call ⟨.builtin .len, _, #[25]⟩) ?_; (refine so_q (qt_len_ls rfl (by kernel_rfl)) rfl ?_)) | (refine so_is (.call ⟨.value (.func 92), _, _⟩) ?_; (apply so_callO0 (fid := 92); (· (repeat (first | exact SeA.nil | apply SeA.cons (.c (.d _))))); (· exact ap); (· rfl); (· rfl))) | refine so_nil ?_ | refine sk_seq ?_ | refine sk_block ?_ | refine sk_region (id := 7) ?_)
        apply sk_packC [2, 3, 4, 10, 11, 12, 14, 39, 40, 41, 45, 46, 47] [3, 4, 39, 45, 54, 56, 58, 1054, 1056, 2000, 2054, 2056, 3000, 3057, 4000, 5000] rfl; (· (repeat (first | exact Pf.nil | apply Pf.cons (.c rfl (.d rfl)) | apply Pf.cons (.c rfl (.ls rfl)) | apply Pf.cons (.c rfl (.lp rfl))))); (· (repeat (first | exact Pb.nil | apply Pb.cons (.row rfl) | (apply Pb.cons; (· apply Nb.box rfl; (repeat (first | exact Ncs.nil rfl | (apply Ncs.cons rfl; (· (exact .d rfl))))))) | apply Pb.skip)))
        refine sk_loopL [2, 3, 4, 14, 39, 40, 41, 45, 46] [3, 4, 39, 54, 1054, 2054, 56, 1056, 2056, 3057, 58] (fun (g : Nat × Md) => [(47, iN g.1), (10, fst10 g.2 (firstA s (16 * i + g.1)).length (askRow i).length), (11, snd11 g.2 (secondA s (16 * i + g.1)).length), (12, iZ (mostA s (16 * i + g.1)))]) (fun g => (45, .row 1 (anyR P g.1)) :: (2000, .row 1 (cI (askRow i))) :: blkM g.2 (firstA s (16 * i + g.1)) (secondA s (16 * i + g.1))) (fun g => g.1 ≤ 16 ∧ (g.2 = .nil ↔ 16 * i + g.1 = 0) ∧ (g.2 = .cur → firstA s (16 * i + g.1) = askRow i)) (fun g => 16 - g.1) (((0 : Nat), Md.nil)) ?_ (by (repeat (first | exact trivial | refine ⟨(by (rfl)), ?_⟩))) (by (repeat (first | exact trivial | refine ⟨(by (first | (refine row_eq rfl ?_; simp; done) | rfl)), ?_⟩))) ?_
        · refine ⟨by omega, by simp; omega, by simp⟩
        rintro ⟨n, m⟩ ⟨hn, hmn, hmc2⟩
        simp only at hn hmn hmc2
        have rl2 := anyR_len P (i := n) (by omega)
        by_cases hn2 : n < 16
        · have pn := ask_at hn2
          rw [← hP] at pn
          have gn := anyR_get P (i := n) (by omega)
          have sn := anyR_set P (i := n) (by omega)
          rw [pn] at gn
          obtain ⟨t, ht⟩ : ∃ t, t = 16 * i + n := ⟨_, rfl⟩
          have t1 : t / 16 = i := by omega
          have t2 : t % 16 = n := by omega
          obtain ⟨LL, hLL⟩ : ∃ LL, LL = askLL la lb t := ⟨_, rfl⟩
          have wp := wired_p na la nb lb sumF (ruleA (askRow i)) sumS sumF (ruleA (askRow n)) sumS ha hb (askRule i) (askRule n)
          have eLL : wiredL la lb sumF (ruleA (askRow i)) sumS sumF (ruleA (askRow n)) sumS = LL := by rw [hLL, askLL, t1, t2]
          rw [eLL] at wp
          have hbx := wire_box ha hb (askRule i) (askRule n)
          rw [eLL, decide_eq_true hle] at hbx
          have sp := eightSums_p _ LL hbx
          have sl : (sumsL LL).length = 8 := by simp [sumsL]
          have es : atZ (sumsL LL) (K : Int) = s t := by rw [sumsL_at LL (by omega), hs, hLL]; rfl
          have r1 := sumRuleBy_p (askRow i) (askRow_len i)
          have r2 := sumRuleBy_p (askRow n) (askRow_len n)
          rw [← ht]
          have en : 16 * i + (n + 1) = t + 1 := by omega
          cases m with
          | nil =>
            have ht0 : t = 0 := by rw [ht]; exact hmn.1 rfl
            obtain ⟨e1, e2, e3⟩ := sel_yes (s := s) (t := t) (.inl (by rw [ht0]; rfl))
            rw [t1, ← en] at e1
            rw [t2, ← en] at e2
            rw [← en] at e3
            repeat' (first | (refine so_is (.move _) ?_; (refine so_q (qt_mvC rfl) rfl ?_)) | (refine so_is (.binOp .lss 3 _ _ _) ?_; refine so_q (qt_lss rfl rfl) rfl ?_) | (refine so_is (.binOp .add 3 _ _ _) ?_; refine so_q (qt_addI rfl rfl (by (omega))) rfl ?_) | refine so_nil ?_ | refine sk_seq ?_ | refine sk_block ?_ | refine sk_blk ?_ | refine sk_exit rfl ?_ | refine sk_skip ?_ | refine sk_region (id := 8) ?_ | refine sk_region (id := 14) ?_ | refine sk_if rfl (fun hc => ?_) (fun hc => ?_))
            all_goals first | (exfalso; omega) | skip
            refine sk_region (id := 9) ?_
            all_goals ((refine so_q (qt_idx_ls rfl rfl (by kernel_rfl : tSl _ 25 1 = true) (by (omega)) (by (omega))) rfl ?_))
            all_goals (refine so_thaw (c := 4000) (sz' := 1) (n := (askRow n).length) (ds' := cI (askRow n)) rfl rfl (by kernel_rfl) (by simpa using gn) rfl rfl rfl ?_)
            all_goals (refine so_ghost (sim_any (b := 45) rfl) ?_; refine so_q (qt_asC rfl) rfl ?_)
            all_goals refine so_nil ?_
            repeat' (first | (refine so_is (.assign _) ?_; (refine so_q (qt_asC rfl) rfl ?_)) | (refine so_is (.load 78 _) ?_; (refine so_q (qt_load_boxs rfl rfl (by kernel_rfl : tAgg _ 78 4 = true) rfl) rfl ?_)) | (refine so_is (.move _) ?_; (refine so_q (qt_mvC rfl) rfl ?_)) | (refine so_is (.pick _ _ _) ?_; (refine so_q (qt_pkC rfl rfl) rfl ?_)) | (refine so_is (.load 3 _) ?_; (refine so_q (qt_load_pt rfl (by kernel_rfl) rfl) rfl ?_)) | (refine so_is (.indexAddr 24 _ _) ?_; (refine so_q (qt_idxI rfl rfl (by kernel_rfl) (by (omega)) (by (omega))) rfl ?_)) | (refine so_is (.binOp .eql 24 _ _ _) ?_; (refine so_q (qt_eql_nil0 rfl rfl (by kernel_rfl)) rfl ?_)) | (refine so_is (.call ⟨.value (.func 164), _, _⟩) ?_; (first | (apply so_call0 (fid := 164); (· (repeat (first | exact SeA.nil | apply SeA.cons (.c (.all _ _ _ _ rfl (by ((simp; done)))))))); (· exact r1); (· rfl)) | (apply so_call0 (fid := 164); (· (repeat (first | exact SeA.nil | apply SeA.cons (.c (.all _ _ _ _ rfl (by ((simp; done)))))))); (· exact r2); (· rfl)))) | (refine so_is (.call ⟨.value (.func 163), _, _⟩) ?_; ((apply so_call0 (fid := 163); (· (repeat (first | exact SeA.nil | (apply SeA.cons; (· (apply SeP.g; (repeat (first | exact SeL.nil | apply SeL.cons (.d _))))))))); (· exact wp); (· rfl)))) | (refine so_is (.call ⟨.value (.func 165), _, _⟩) ?_; ((apply so_call0 (fid := 165); (· (repeat (first | exact SeA.nil | (apply SeA.cons; (· (apply SeP.g; (repeat (first | exact SeL.nil | apply SeL.cons (.d _))))))))); (· exact sp); (· rfl)))) | refine so_nil ?_ | refine so_g_no rfl rfl rfl rfl ?_ | refine sk_seq ?_ | refine sk_blk ?_ | refine sk_drawQ 10 (fun _ => false) (.step 0 true (.step 1 true (.step 2 true (.step 4 true (.step 8 true (.step 3 false (.step 5 false (.step 6 false (.step 7 false (.step 9 true (.step 10 true (.step 11 true .nil)))))))))))) [(0, 4095, 4095, false), (0, 4095, 4095, false), (0, 4095, 4095, true), (4, 4091, 4095, false), (0, 4095, 4095, true), (24, 4079, 4095, false), (43, 4052, 4095, false), (64, 4031, 4095, false), (0, 4095, 4095, true), (384, 3711, 4095, true), (512, 3583, 4095, false), (2047, 3071, 4095, true)] (by kernel_rfl) (by kernel_rfl) ?_ | refine sk_region (id := 11) ?_ | refine sk_region (id := 12) ?_ | refine sk_true rfl ?_)
            all_goals first | (exfalso; omega) | skip
            refine sk_ghost (sim_ren 4000 5000 rfl rfl rfl rfl) ?_
            repeat' (first | (refine so_is (.move _) ?_; (refine so_q (qt_mvC rfl) rfl ?_)) | (refine so_is (.binOp .add 3 _ _ _) ?_; refine so_q (qt_addI rfl rfl (by (omega))) rfl ?_) | refine so_nil ?_ | refine sk_region ?_)
            refine sk_back ?_; refine ⟨(n + 1, Md.cur), ?_, ?_, le_at rfl (by (repeat (first | exact trivial | refine ⟨(by (first | rfl | (refine int_eq rfl ?_; ((simp  [e1, e2, e3, es, sn]; done))))), ?_⟩))) (by (repeat (first | exact trivial | refine ⟨rfl, ?_⟩))) (by (repeat (first | exact trivial | refine ⟨(by ((refine row_eq rfl ?_; simp  [e1, e2, e3, es, sn]; done))), ?_⟩))) (by (repeat (first | exact trivial | refine ⟨.inr rfl, ?_⟩)))⟩
            · refine ⟨by simp only; omega, by simp, fun _ => e1⟩
            · simp only; omega
          | old =>
            have hf0 : 0 < (firstA s t).length := by
              have hne : ¬ 16 * i + n = 0 := fun h => by have := hmn.2 h; simp at this
              obtain ⟨u, hu⟩ : ∃ u, t = u + 1 := ⟨t - 1, by omega⟩
              rw [hu, firstA, askRow_len]; decide
            have hft : foundA t = true := by
              have hne : ¬ 16 * i + n = 0 := fun h => by have := hmn.2 h; simp at this
              obtain ⟨u, hu⟩ : ∃ u, t = u + 1 := ⟨t - 1, by omega⟩
              rw [hu]; rfl
            repeat' (first | (refine so_is (.move _) ?_; (refine so_q (qt_mvC rfl) rfl ?_)) | (refine so_is (.binOp .lss 3 _ _ _) ?_; refine so_q (qt_lss rfl rfl) rfl ?_) | (refine so_is (.binOp .add 3 _ _ _) ?_; refine so_q (qt_addI rfl rfl (by (omega))) rfl ?_) | refine so_nil ?_ | refine sk_seq ?_ | refine sk_block ?_ | refine sk_blk ?_ | refine sk_exit rfl ?_ | refine sk_skip ?_ | refine sk_region (id := 8) ?_ | refine sk_region (id := 14) ?_ | refine sk_if rfl (fun hc => ?_) (fun hc => ?_))
            all_goals first | (exfalso; omega) | skip
            refine sk_region (id := 9) ?_
            all_goals ((refine so_q (qt_idx_ls rfl rfl (by kernel_rfl : tSl _ 25 1 = true) (by (omega)) (by (omega))) rfl ?_))
            all_goals (refine so_thaw (c := 4000) (sz' := 1) (n := (askRow n).length) (ds' := cI (askRow n)) rfl rfl (by kernel_rfl) (by simpa using gn) rfl rfl rfl ?_)
            all_goals (refine so_ghost (sim_any (b := 45) rfl) ?_; refine so_q (qt_asC rfl) rfl ?_)
            all_goals refine so_nil ?_
            repeat' (first | (refine so_is (.assign _) ?_; (refine so_q (qt_asC rfl) rfl ?_)) | (refine so_is (.load 78 _) ?_; (refine so_q (qt_load_boxs rfl rfl (by kernel_rfl : tAgg _ 78 4 = true) rfl) rfl ?_)) | (refine so_is (.move _) ?_; (refine so_q (qt_mvC rfl) rfl ?_)) | (refine so_is (.pick _ _ _) ?_; (refine so_q (qt_pkC rfl rfl) rfl ?_)) | (refine so_is (.load 3 _) ?_; (refine so_q (qt_load_pt rfl (by kernel_rfl) rfl) rfl ?_)) | (refine so_is (.binOp .gtr 3 _ _ _) ?_; refine so_q (qt_gtr rfl rfl) rfl ?_) | (refine so_is (.indexAddr 24 _ _) ?_; (refine so_q (qt_idxI rfl rfl (by kernel_rfl) (by (omega)) (by (omega))) rfl ?_)) | (refine so_is (.binOp .eql 24 _ _ _) ?_; (refine so_q (qt_eql_nilS rfl rfl (by kernel_rfl) (by (omega))) rfl ?_)) | (refine so_is (.call ⟨.value (.func 164), _, _⟩) ?_; (first | (apply so_call0 (fid := 164); (· (repeat (first | exact SeA.nil | apply SeA.cons (.c (.all _ _ _ _ rfl (by ((simp; done)))))))); (· exact r1); (· rfl)) | (apply so_call0 (fid := 164); (· (repeat (first | exact SeA.nil | apply SeA.cons (.c (.all _ _ _ _ rfl (by ((simp; done)))))))); (· exact r2); (· rfl)))) | (refine so_is (.call ⟨.value (.func 163), _, _⟩) ?_; ((apply so_call0 (fid := 163); (· (repeat (first | exact SeA.nil | (apply SeA.cons; (· (apply SeP.g; (repeat (first | exact SeL.nil | apply SeL.cons (.d _))))))))); (· exact wp); (· rfl)))) | (refine so_is (.call ⟨.value (.func 165), _, _⟩) ?_; ((apply so_call0 (fid := 165); (· (repeat (first | exact SeA.nil | (apply SeA.cons; (· (apply SeP.g; (repeat (first | exact SeL.nil | apply SeL.cons (.d _))))))))); (· exact sp); (· rfl)))) | refine so_nil ?_ | refine so_g_yes rfl rfl rfl rfl ?_ | refine sk_seq ?_ | refine sk_blk ?_ | refine sk_skip ?_ | refine sk_drawQ 10 (fun _ => false) (.step 0 true (.step 1 true (.step 2 true (.step 4 true (.step 8 true (.step 3 false (.step 5 false (.step 6 false (.step 7 false (.step 9 true (.step 10 true (.step 11 true .nil)))))))))))) [(0, 4095, 4095, false), (0, 4095, 4095, false), (0, 4095, 4095, true), (4, 4091, 4095, false), (0, 4095, 4095, true), (24, 4079, 4095, false), (43, 4052, 4095, false), (64, 4031, 4095, false), (0, 4095, 4095, true), (384, 3711, 4095, true), (512, 3583, 4095, false), (2047, 3071, 4095, true)] (by kernel_rfl) (by kernel_rfl) ?_ | refine sk_region (id := 11) ?_ | refine sk_region (id := 12) ?_ | refine sk_if rfl (fun hc => ?_) (fun hc => ?_))
            all_goals first | (exfalso; omega) | skip
            · obtain ⟨e1, e2, e3⟩ := sel_yes (s := s) (t := t) (.inr (by rw [← es]; exact hc))
              rw [t1, ← en] at e1
              rw [t2, ← en] at e2
              rw [← en] at e3
              refine sk_ghost (sim_forget 3000) ?_
              refine sk_ghost (sim_forget 5000) ?_
              refine sk_ghost (sim_ren 4000 5000 rfl rfl rfl rfl) ?_
              repeat' (first | (refine so_is (.move _) ?_; (refine so_q (qt_mvC rfl) rfl ?_)) | (refine so_is (.binOp .add 3 _ _ _) ?_; refine so_q (qt_addI rfl rfl (by (omega))) rfl ?_) | refine so_nil ?_ | refine sk_region ?_)
              refine sk_back ?_; refine ⟨(n + 1, Md.cur), ?_, ?_, le_at rfl (by (repeat (first | exact trivial | refine ⟨(by (first | rfl | (refine int_eq rfl ?_; ((simp  [e1, e2, e3, es, sn]; done))))), ?_⟩))) (by (repeat (first | exact trivial | refine ⟨rfl, ?_⟩))) (by (repeat (first | exact trivial | refine ⟨(by ((refine row_eq rfl ?_; simp  [e1, e2, e3, es, sn]; done))), ?_⟩))) (by (repeat (first | exact trivial | refine ⟨.inr rfl, ?_⟩)))⟩
              · refine ⟨by simp only; omega, by simp, fun _ => e1⟩
              · simp only; omega
            · obtain ⟨e1, e2, e3⟩ := sel_no (s := s) (t := t) hft (by rw [← es]; exact hc)
              rw [← en] at e1 e2 e3
              refine sk_ghost (sim_forget 4000) ?_
              repeat' (first | (refine so_is (.move _) ?_; (refine so_q (qt_mvC rfl) rfl ?_)) | (refine so_is (.binOp .add 3 _ _ _) ?_; refine so_q (qt_addI rfl rfl (by (omega))) rfl ?_) | refine so_nil ?_ | refine sk_region ?_)
              refine sk_back ?_; refine ⟨(n + 1, Md.old), ?_, ?_, le_at rfl (by (repeat (first | exact trivial | refine ⟨(by (first | rfl | (refine int_eq rfl ?_; ((simp  [e1, e2, e3, sn]; done))) | (refine ls_eq rfl ?_; ((simp  [e1, e2, e3, sn]; done))))), ?_⟩))) (by (repeat (first | exact trivial | refine ⟨rfl, ?_⟩))) (by (repeat (first | exact trivial | refine ⟨(by ((refine row_eq rfl ?_; simp  [e1, e2, e3, sn]; done))), ?_⟩))) (by (repeat (first | exact trivial | refine ⟨.inr rfl, ?_⟩)))⟩
              · refine ⟨by simp only; omega, by simp, by simp⟩
              · simp only; omega
          | cur =>
            have hc2 := hmc2 rfl
            rw [← ht] at hc2
            have hf0 : 0 < (askRow i).length := by rw [askRow_len]; decide
            have hft : foundA t = true := by
              have hne : ¬ 16 * i + n = 0 := fun h => by have := hmn.2 h; simp at this
              obtain ⟨u, hu⟩ : ∃ u, t = u + 1 := ⟨t - 1, by omega⟩
              rw [hu]; rfl
            repeat' (first | (refine so_is (.move _) ?_; (refine so_q (qt_mvC rfl) rfl ?_)) | (refine so_is (.binOp .lss 3 _ _ _) ?_; refine so_q (qt_lss rfl rfl) rfl ?_) | (refine so_is (.binOp .add 3 _ _ _) ?_; refine so_q (qt_addI rfl rfl (by (omega))) rfl ?_) | refine so_nil ?_ | refine sk_seq ?_ | refine sk_block ?_ | refine sk_blk ?_ | refine sk_exit rfl ?_ | refine sk_skip ?_ | refine sk_region (id := 8) ?_ | refine sk_region (id := 14) ?_ | refine sk_if rfl (fun hc => ?_) (fun hc => ?_))
            all_goals first | (exfalso; omega) | skip
            refine sk_region (id := 9) ?_
            all_goals ((refine so_q (qt_idx_ls rfl rfl (by kernel_rfl : tSl _ 25 1 = true) (by (omega)) (by (omega))) rfl ?_))
            all_goals (refine so_thaw (c := 4000) (sz' := 1) (n := (askRow n).length) (ds' := cI (askRow n)) rfl rfl (by kernel_rfl) (by simpa using gn) rfl rfl rfl ?_)
            all_goals (refine so_ghost (sim_any (b := 45) rfl) ?_; refine so_q (qt_asC rfl) rfl ?_)
            all_goals refine so_nil ?_
            repeat' (first | (refine so_is (.assign _) ?_; (refine so_q (qt_asC rfl) rfl ?_)) | (refine so_is (.load 78 _) ?_; (refine so_q (qt_load_boxs rfl rfl (by kernel_rfl : tAgg _ 78 4 = true) rfl) rfl ?_)) | (refine so_is (.move _) ?_; (refine so_q (qt_mvC rfl) rfl ?_)) | (refine so_is (.pick _ _ _) ?_; (refine so_q (qt_pkC rfl rfl) rfl ?_)) | (refine so_is (.load 3 _) ?_; (refine so_q (qt_load_pt rfl (by kernel_rfl) rfl) rfl ?_)) | (refine so_is (.binOp .gtr 3 _ _ _) ?_; refine so_q (qt_gtr rfl rfl) rfl ?_) | (refine so_is (.indexAddr 24 _ _) ?_; (refine so_q (qt_idxI rfl rfl (by kernel_rfl) (by (omega)) (by (omega))) rfl ?_)) | (refine so_is (.binOp .eql 24 _ _ _) ?_; (refine so_q (qt_eql_nilS rfl rfl (by kernel_rfl) (by (omega))) rfl ?_)) | (refine so_is (.call ⟨.value (.func 164), _, _⟩) ?_; (first | (apply so_call0 (fid := 164); (· (repeat (first | exact SeA.nil | apply SeA.cons (.c (.all _ _ _ _ rfl (by ((simp; done)))))))); (· exact r1); (· rfl)) | (apply so_call0 (fid := 164); (· (repeat (first | exact SeA.nil | apply SeA.cons (.c (.all _ _ _ _ rfl (by ((simp; done)))))))); (· exact r2); (· rfl)))) | (refine so_is (.call ⟨.value (.func 163), _, _⟩) ?_; ((apply so_call0 (fid := 163); (· (repeat (first | exact SeA.nil | (apply SeA.cons; (· (apply SeP.g; (repeat (first | exact SeL.nil | apply SeL.cons (.d _))))))))); (· exact wp); (· rfl)))) | (refine so_is (.call ⟨.value (.func 165), _, _⟩) ?_; ((apply so_call0 (fid := 165); (· (repeat (first | exact SeA.nil | (apply SeA.cons; (· (apply SeP.g; (repeat (first | exact SeL.nil | apply SeL.cons (.d _))))))))); (· exact sp); (· rfl)))) | refine so_nil ?_ | refine so_g_yes rfl rfl rfl rfl ?_ | refine sk_seq ?_ | refine sk_blk ?_ | refine sk_skip ?_ | refine sk_drawQ 10 (fun _ => false) (.step 0 true (.step 1 true (.step 2 true (.step 4 true (.step 8 true (.step 3 false (.step 5 false (.step 6 false (.step 7 false (.step 9 true (.step 10 true (.step 11 true .nil)))))))))))) [(0, 4095, 4095, false), (0, 4095, 4095, false), (0, 4095, 4095, true), (4, 4091, 4095, false), (0, 4095, 4095, true), (24, 4079, 4095, false), (43, 4052, 4095, false), (64, 4031, 4095, false), (0, 4095, 4095, true), (384, 3711, 4095, true), (512, 3583, 4095, false), (2047, 3071, 4095, true)] (by kernel_rfl) (by kernel_rfl) ?_ | refine sk_region (id := 11) ?_ | refine sk_region (id := 12) ?_ | refine sk_if rfl (fun hc => ?_) (fun hc => ?_))
            all_goals first | (exfalso; omega) | skip
            · obtain ⟨e1, e2, e3⟩ := sel_yes (s := s) (t := t) (.inr (by rw [← es]; exact hc))
              rw [t1, ← en] at e1
              rw [t2, ← en] at e2
              rw [← en] at e3
              refine sk_ghost (sim_forget 5000) ?_
              refine sk_ghost (sim_ren 4000 5000 rfl rfl rfl rfl) ?_
              repeat' (first | (refine so_is (.move _) ?_; (refine so_q (qt_mvC rfl) rfl ?_)) | (refine so_is (.binOp .add 3 _ _ _) ?_; refine so_q (qt_addI rfl rfl (by (omega))) rfl ?_) | refine so_nil ?_ | refine sk_region ?_)
              refine sk_back ?_; refine ⟨(n + 1, Md.cur), ?_, ?_, le_at rfl (by (repeat (first | exact trivial | refine ⟨(by (first | rfl | (refine int_eq rfl ?_; ((simp  [e1, e2, e3, es, sn]; done))))), ?_⟩))) (by (repeat (first | exact trivial | refine ⟨rfl, ?_⟩))) (by (repeat (first | exact trivial | refine ⟨(by ((refine row_eq rfl ?_; simp  [e1, e2, e3, es, sn]; done))), ?_⟩))) (by (repeat (first | exact trivial | refine ⟨.inr rfl, ?_⟩)))⟩
              · refine ⟨by simp only; omega, by simp, fun _ => e1⟩
              · simp only; omega
            · obtain ⟨e1, e2, e3⟩ := sel_no (s := s) (t := t) hft (by rw [← es]; exact hc)
              rw [← en] at e1 e2 e3
              refine sk_ghost (sim_forget 4000) ?_
              repeat' (first | (refine so_is (.move _) ?_; (refine so_q (qt_mvC rfl) rfl ?_)) | (refine so_is (.binOp .add 3 _ _ _) ?_; refine so_q (qt_addI rfl rfl (by (omega))) rfl ?_) | refine so_nil ?_ | refine sk_region ?_)
              refine sk_back ?_; refine ⟨(n + 1, Md.cur), ?_, ?_, le_at rfl (by (repeat (first | exact trivial | refine ⟨(by (first | rfl | (refine int_eq rfl ?_; ((simp  [e1, e2, e3, sn]; done))) | (refine ls_eq rfl ?_; ((simp  [e1, e2, e3, sn]; done))))), ?_⟩))) (by (repeat (first | exact trivial | refine ⟨rfl, ?_⟩))) (by (repeat (first | exact trivial | refine ⟨(by ((refine row_eq rfl ?_; simp  [e1, e2, e3, sn]; done))), ?_⟩))) (by (repeat (first | exact trivial | refine ⟨.inr rfl, ?_⟩)))⟩
              · refine ⟨by simp only; omega, by simp, fun _ => e1.trans hc2⟩
              · simp only; omega
        · have e : n = 16 := by omega
          subst e
          have e16 : 16 * (i + 1) = 16 * i + 16 := by omega
          cases m with
          | nil => exact absurd (hmn.1 rfl) (by omega)
          | old =>
            repeat' (first | (refine so_is (.binOp .lss 3 _ _ _) ?_; refine so_q (qt_lss rfl rfl) rfl ?_) | (refine so_is (.indexAddr 25 _ _) ?_; (refine so_q (qt_idx_ls rfl rfl (by kernel_rfl : tSl _ 25 1 = true) (by (omega)) (by (omega))) rfl ?_)) | refine so_nil ?_ | refine sk_seq ?_ | refine sk_block ?_ | refine sk_blk ?_ | refine sk_exit rfl ?_ | refine sk_skip ?_ | refine sk_region (id := 8) ?_ | refine sk_region (id := 9) ?_ | refine sk_if rfl (fun hc => ?_) (fun hc => ?_))
            all_goals first | (exfalso; omega) | skip
            refine sk_ghost (sim_forget 2000) ?_
            repeat' (first | (refine so_is (.move _) ?_; (refine so_q (qt_mvC rfl) rfl ?_)) | (refine so_is (.binOp .add 3 _ _ _) ?_; refine so_q (qt_addI rfl rfl (by (omega))) rfl ?_) | refine so_nil ?_ | refine sk_region ?_)
            refine sk_back ?_; refine ⟨(i + 1, Md.old), ?_, ?_, le_at rfl (by (repeat (first | exact trivial | refine ⟨(by (rfl)), ?_⟩))) (by (repeat (first | exact trivial | refine ⟨rfl, ?_⟩))) (by (repeat (first | exact trivial | refine ⟨(by ((refine row_eq rfl ?_; simp  [e16, si]; done))), ?_⟩))) (by (repeat (first | exact trivial | refine ⟨.inr rfl, ?_⟩ | refine ⟨.inl rfl, ?_⟩)))⟩
            · refine ⟨by simp only; omega, by simp, by simp⟩
            · simp only; omega
          | cur =>
            have hc2 := hmc2 rfl
            repeat' (first | (refine so_is (.binOp .lss 3 _ _ _) ?_; refine so_q (qt_lss rfl rfl) rfl ?_) | (refine so_is (.indexAddr 25 _ _) ?_; (refine so_q (qt_idx_ls rfl rfl (by kernel_rfl : tSl _ 25 1 = true) (by (omega)) (by (omega))) rfl ?_)) | refine so_nil ?_ | refine sk_seq ?_ | refine sk_block ?_ | refine sk_blk ?_ | refine sk_exit rfl ?_ | refine sk_skip ?_ | refine sk_region (id := 8) ?_ | refine sk_region (id := 9) ?_ | refine sk_if rfl (fun hc => ?_) (fun hc => ?_))
            all_goals first | (exfalso; omega) | skip
            refine sk_ghost (sim_ren 2000 3000 rfl rfl rfl rfl) ?_
            repeat' (first | (refine so_is (.move _) ?_; (refine so_q (qt_mvC rfl) rfl ?_)) | (refine so_is (.binOp .add 3 _ _ _) ?_; refine so_q (qt_addI rfl rfl (by (omega))) rfl ?_) | refine so_nil ?_ | refine sk_region ?_)
            refine sk_back ?_; refine ⟨(i + 1, Md.old), ?_, ?_, le_at rfl (by (repeat (first | exact trivial | refine ⟨(by (rfl)), ?_⟩))) (by (repeat (first | exact trivial | refine ⟨rfl, ?_⟩))) (by (repeat (first | exact trivial | refine ⟨(by ((refine row_eq rfl ?_; simp  [e16, si, hc2]; done))), ?_⟩))) (by (repeat (first | exact trivial | refine ⟨.inr rfl, ?_⟩ | refine ⟨.inl rfl, ?_⟩)))⟩
            · refine ⟨by simp only; omega, by simp, by simp⟩
            · simp only; omega
      | old =>
        have hi0 : i ≠ 0 := fun h => by have := hmi.2 h; simp at this
        repeat' (first | (refine so_is (.assign _) ?_; (refine so_q (qt_asC rfl) rfl ?_)) | (refine so_is (.move _) ?_; (refine so_q (qt_mvC rfl) rfl ?_)) | (refine so_is (.binOp .lss 3 _ _ _) ?_; refine so_q (qt_lss rfl rfl) rfl ?_) | refine so_nil ?_ | refine sk_seq ?_ | refine sk_block ?_ | refine sk_exit rfl ?_ | refine sk_skip ?_ | refine sk_region (id := 5) ?_ | refine sk_region (id := 15) ?_ | refine sk_if rfl (fun hc => ?_) (fun hc => ?_))
        all_goals first | (exfalso; omega) | skip
        refine sk_region (id := 6) ?_
        all_goals ((refine so_q (qt_idx_ls rfl rfl (by kernel_rfl : tSl _ 25 1 = true) (by (omega)) (by (omega))) rfl ?_))
        all_goals (refine so_thaw (c := 2000) (sz' := 1) (n := (askRow i).length) (ds' := cI (askRow i)) rfl rfl (by kernel_rfl) (by simpa using gi) rfl rfl rfl ?_)
        all_goals (refine so_ghost (sim_any (b := 39) rfl) ?_; refine so_q (qt_asC rfl) rfl ?_)
        all_goals refine so_nil ?_
        repeat' (first | (refine so_is (.move _) ?_; (refine so_q (qt_mvC rfl) rfl ?_)) | (refine so_is (.call ⟨.builtin .len, _, #[25]⟩) ?_; (refine so_q (qt_len_ls rfl (by kernel_rfl)) rfl ?_)) | (refine so_is (.call ⟨.value (.func 92), _, _⟩) ?_; (apply so_callO0 (fid := 92); (· (repeat (first | exact SeA.nil | apply SeA.cons (.c (.d _))))); (· exact ap); (· rfl); (· rfl))) | refine so_nil ?_ | refine sk_seq ?_ | refine sk_block ?_ | refine sk_region (id := 7) ?_)
        apply sk_packC [2, 3, 4, 10, 11, 12, 14, 39, 40, 41, 45, 46, 47] [3, 4, 39, 45, 54, 56, 58, 1054, 1056, 2000, 2054, 2056, 3000, 3057, 4000, 5000] rfl; (· (repeat (first | exact Pf.nil | apply Pf.cons (.c rfl (.d rfl)) | apply Pf.cons (.c rfl (.ls rfl)) | apply Pf.cons (.c rfl (.lp rfl))))); (· (repeat (first | exact Pb.nil | apply Pb.cons (.row rfl) | (apply Pb.cons; (· apply Nb.box rfl; (repeat (first | exact Ncs.nil rfl | (apply Ncs.cons rfl; (· (exact .d rfl))))))) | apply Pb.skip)))
        refine sk_loopL [2, 3, 4, 14, 39, 40, 41, 45, 46] [3, 4, 39, 54, 1054, 2054, 56, 1056, 2056, 3057, 58] (fun (g : Nat × Md) => [(47, iN g.1), (10, fst10 g.2 (firstA s (16 * i + g.1)).length (askRow i).length), (11, snd11 g.2 (secondA s (16 * i + g.1)).length), (12, iZ (mostA s (16 * i + g.1)))]) (fun g => (45, .row 1 (anyR P g.1)) :: (2000, .row 1 (cI (askRow i))) :: blkM g.2 (firstA s (16 * i + g.1)) (secondA s (16 * i + g.1))) (fun g => g.1 ≤ 16 ∧ (g.2 = .nil ↔ 16 * i + g.1 = 0) ∧ (g.2 = .cur → firstA s (16 * i + g.1) = askRow i)) (fun g => 16 - g.1) (((0 : Nat), Md.old)) ?_ (by (repeat (first | exact trivial | refine ⟨(by (rfl)), ?_⟩))) (by (repeat (first | exact trivial | refine ⟨(by (first | (refine row_eq rfl ?_; simp; done) | rfl)), ?_⟩))) ?_
        · refine ⟨by omega, by simp; omega, by simp⟩
        rintro ⟨n, m⟩ ⟨hn, hmn, hmc2⟩
        simp only at hn hmn hmc2
        have rl2 := anyR_len P (i := n) (by omega)
        by_cases hn2 : n < 16
        · have pn := ask_at hn2
          rw [← hP] at pn
          have gn := anyR_get P (i := n) (by omega)
          have sn := anyR_set P (i := n) (by omega)
          rw [pn] at gn
          obtain ⟨t, ht⟩ : ∃ t, t = 16 * i + n := ⟨_, rfl⟩
          have t1 : t / 16 = i := by omega
          have t2 : t % 16 = n := by omega
          obtain ⟨LL, hLL⟩ : ∃ LL, LL = askLL la lb t := ⟨_, rfl⟩
          have wp := wired_p na la nb lb sumF (ruleA (askRow i)) sumS sumF (ruleA (askRow n)) sumS ha hb (askRule i) (askRule n)
          have eLL : wiredL la lb sumF (ruleA (askRow i)) sumS sumF (ruleA (askRow n)) sumS = LL := by rw [hLL, askLL, t1, t2]
          rw [eLL] at wp
          have hbx := wire_box ha hb (askRule i) (askRule n)
          rw [eLL, decide_eq_true hle] at hbx
          have sp := eightSums_p _ LL hbx
          have sl : (sumsL LL).length = 8 := by simp [sumsL]
          have es : atZ (sumsL LL) (K : Int) = s t := by rw [sumsL_at LL (by omega), hs, hLL]; rfl
          have r1 := sumRuleBy_p (askRow i) (askRow_len i)
          have r2 := sumRuleBy_p (askRow n) (askRow_len n)
          rw [← ht]
          have en : 16 * i + (n + 1) = t + 1 := by omega
          cases m with
          | nil => exact absurd (hmn.1 rfl) (by omega)
          | old =>
            have hf0 : 0 < (firstA s t).length := by
              have hne : ¬ 16 * i + n = 0 := fun h => by have := hmn.2 h; simp at this
              obtain ⟨u, hu⟩ : ∃ u, t = u + 1 := ⟨t - 1, by omega⟩
              rw [hu, firstA, askRow_len]; decide
            have hft : foundA t = true := by
              have hne : ¬ 16 * i + n = 0 := fun h => by have := hmn.2 h; simp at this
              obtain ⟨u, hu⟩ : ∃ u, t = u + 1 := ⟨t - 1, by omega⟩
              rw [hu]; rfl
            repeat' (first | (refine so_is (.move _) ?_; (refine so_q (qt_mvC rfl) rfl ?_)) | (refine so_is (.binOp .lss 3 _ _ _) ?_; refine so_q (qt_lss rfl rfl) rfl ?_) | (refine so_is (.binOp .add 3 _ _ _) ?_; refine so_q (qt_addI rfl rfl (by (omega))) rfl ?_) | refine so_nil ?_ | refine sk_seq ?_ | refine sk_block ?_ | refine sk_blk ?_ | refine sk_exit rfl ?_ | refine sk_skip ?_ | refine sk_region (id := 8) ?_ | refine sk_region (id := 14) ?_ | refine sk_if rfl (fun hc => ?_) (fun hc => ?_))
            all_goals first | (exfalso; omega) | skip
            refine sk_region (id := 9) ?_
            all_goals ((refine so_q (qt_idx_ls rfl rfl (by kernel_rfl : tSl _ 25 1 = true) (by (omega)) (by (omega))) rfl ?_))
            all_goals (refine so_thaw (c := 4000) (sz' := 1) (n := (askRow n).length) (ds' := cI (askRow n)) rfl rfl (by kernel_rfl) (by simpa using gn) rfl rfl rfl ?_)
            all_goals (refine so_ghost (sim_any (b := 45) rfl) ?_; refine so_q (qt_asC rfl) rfl ?_)
            all_goals refine so_nil ?_
            repeat' (first | (refine so_is (.assign _) ?_; (refine so_q (qt_asC rfl) rfl ?_)) | (refine so_is (.load 78 _) ?_; (refine so_q (qt_load_boxs rfl rfl (by kernel_rfl : tAgg _ 78 4 = true) rfl) rfl ?_)) | (refine so_is (.move _) ?_; (refine so_q (qt_mvC rfl) rfl ?_)) | (refine so_is (.pick _ _ _) ?_; (refine so_q (qt_pkC rfl rfl) rfl ?_)) | (refine so_is (.load 3 _) ?_; (refine so_q (qt_load_pt rfl (by kernel_rfl) rfl) rfl ?_)) | (refine so_is (.binOp .gtr 3 _ _ _) ?_; refine so_q (qt_gtr rfl rfl) rfl ?_) | (refine so_is (.indexAddr 24 _ _) ?_; (refine so_q (qt_idxI rfl rfl (by kernel_rfl) (by (omega)) (by (omega))) rfl ?_)) | (refine so_is (.binOp .eql 24 _ _ _) ?_; (refine so_q (qt_eql_nilS rfl rfl (by kernel_rfl) (by (omega))) rfl ?_)) | (refine so_is (.call ⟨.value (.func 164), _, _⟩) ?_; (first | (apply so_call0 (fid := 164); (· (repeat (first | exact SeA.nil | apply SeA.cons (.c (.all _ _ _ _ rfl (by ((simp; done)))))))); (· exact r1); (· rfl)) | (apply so_call0 (fid := 164); (· (repeat (first | exact SeA.nil | apply SeA.cons (.c (.all _ _ _ _ rfl (by ((simp; done)))))))); (· exact r2); (· rfl)))) | (refine so_is (.call ⟨.value (.func 163), _, _⟩) ?_; ((apply so_call0 (fid := 163); (· (repeat (first | exact SeA.nil | (apply SeA.cons; (· (apply SeP.g; (repeat (first | exact SeL.nil | apply SeL.cons (.d _))))))))); (· exact wp); (· rfl)))) | (refine so_is (.call ⟨.value (.func 165), _, _⟩) ?_; ((apply so_call0 (fid := 165); (· (repeat (first | exact SeA.nil | (apply SeA.cons; (· (apply SeP.g; (repeat (first | exact SeL.nil | apply SeL.cons (.d _))))))))); (· exact sp); (· rfl)))) | refine so_nil ?_ | refine so_g_yes rfl rfl rfl rfl ?_ | refine sk_seq ?_ | refine sk_blk ?_ | refine sk_skip ?_ | refine sk_drawQ 10 (fun _ => false) (.step 0 true (.step 1 true (.step 2 true (.step 4 true (.step 8 true (.step 3 false (.step 5 false (.step 6 false (.step 7 false (.step 9 true (.step 10 true (.step 11 true .nil)))))))))))) [(0, 4095, 4095, false), (0, 4095, 4095, false), (0, 4095, 4095, true), (4, 4091, 4095, false), (0, 4095, 4095, true), (24, 4079, 4095, false), (43, 4052, 4095, false), (64, 4031, 4095, false), (0, 4095, 4095, true), (384, 3711, 4095, true), (512, 3583, 4095, false), (2047, 3071, 4095, true)] (by kernel_rfl) (by kernel_rfl) ?_ | refine sk_region (id := 11) ?_ | refine sk_region (id := 12) ?_ | refine sk_if rfl (fun hc => ?_) (fun hc => ?_))
            all_goals first | (exfalso; omega) | skip
            · obtain ⟨e1, e2, e3⟩ := sel_yes (s := s) (t := t) (.inr (by rw [← es]; exact hc))
              rw [t1, ← en] at e1
              rw [t2, ← en] at e2
              rw [← en] at e3
              refine sk_ghost (sim_forget 3000) ?_
              refine sk_ghost (sim_forget 5000) ?_
              refine sk_ghost (sim_ren 4000 5000 rfl rfl rfl rfl) ?_
              repeat' (first | (refine so_is (.move _) ?_; (refine so_q (qt_mvC rfl) rfl ?_)) | (refine so_is (.binOp .add 3 _ _ _) ?_; refine so_q (qt_addI rfl rfl (by (omega))) rfl ?_) | refine so_nil ?_ | refine sk_region ?_)
              refine sk_back ?_; refine ⟨(n + 1, Md.cur), ?_, ?_, le_at rfl (by (repeat (first | exact trivial | refine ⟨(by (first | rfl | (refine int_eq rfl ?_; ((simp  [e1, e2, e3, es, sn]; done))))), ?_⟩))) (by (repeat (first | exact trivial | refine ⟨rfl, ?_⟩))) (by (repeat (first | exact trivial | refine ⟨(by ((refine row_eq rfl ?_; simp  [e1, e2, e3, es, sn]; done))), ?_⟩))) (by (repeat (first | exact trivial | refine ⟨.inr rfl, ?_⟩)))⟩
              · refine ⟨by simp only; omega, by simp, fun _ => e1⟩
              · simp only; omega
            · obtain ⟨e1, e2, e3⟩ := sel_no (s := s) (t := t) hft (by rw [← es]; exact hc)
              rw [← en] at e1 e2 e3
              refine sk_ghost (sim_forget 4000) ?_
              repeat' (first | (refine so_is (.move _) ?_; (refine so_q (qt_mvC rfl) rfl ?_)) | (refine so_is (.binOp .add 3 _ _ _) ?_; refine so_q (qt_addI rfl rfl (by (omega))) rfl ?_) | refine so_nil ?_ | refine sk_region ?_)
              refine sk_back ?_; refine ⟨(n + 1, Md.old), ?_, ?_, le_at rfl (by (repeat (first | exact trivial | refine ⟨(by (first | rfl | (refine int_eq rfl ?_; ((simp  [e1, e2, e3, sn]; done))) | (refine ls_eq rfl ?_; ((simp  [e1, e2, e3, sn]; done))))), ?_⟩))) (by (repeat (first | exact trivial | refine ⟨rfl, ?_⟩))) (by (repeat (first | exact trivial | refine ⟨(by ((refine row_eq rfl ?_; simp  [e1, e2, e3, sn]; done))), ?_⟩))) (by (repeat (first | exact trivial | refine ⟨.inr rfl, ?_⟩)))⟩
              · refine ⟨by simp only; omega, by simp, by simp⟩
              · simp only; omega
          | cur =>
            have hc2 := hmc2 rfl
            rw [← ht] at hc2
            have hf0 : 0 < (askRow i).length := by rw [askRow_len]; decide
            have hft : foundA t = true := by
              have hne : ¬ 16 * i + n = 0 := fun h => by have := hmn.2 h; simp at this
              obtain ⟨u, hu⟩ : ∃ u, t = u + 1 := ⟨t - 1, by omega⟩
              rw [hu]; rfl
            repeat' (first | (refine so_is (.move _) ?_; (refine so_q (qt_mvC rfl) rfl ?_)) | (refine so_is (.binOp .lss 3 _ _ _) ?_; refine so_q (qt_lss rfl rfl) rfl ?_) | (refine so_is (.binOp .add 3 _ _ _) ?_; refine so_q (qt_addI rfl rfl (by (omega))) rfl ?_) | refine so_nil ?_ | refine sk_seq ?_ | refine sk_block ?_ | refine sk_blk ?_ | refine sk_exit rfl ?_ | refine sk_skip ?_ | refine sk_region (id := 8) ?_ | refine sk_region (id := 14) ?_ | refine sk_if rfl (fun hc => ?_) (fun hc => ?_))
            all_goals first | (exfalso; omega) | skip
            refine sk_region (id := 9) ?_
            all_goals ((refine so_q (qt_idx_ls rfl rfl (by kernel_rfl : tSl _ 25 1 = true) (by (omega)) (by (omega))) rfl ?_))
            all_goals (refine so_thaw (c := 4000) (sz' := 1) (n := (askRow n).length) (ds' := cI (askRow n)) rfl rfl (by kernel_rfl) (by simpa using gn) rfl rfl rfl ?_)
            all_goals (refine so_ghost (sim_any (b := 45) rfl) ?_; refine so_q (qt_asC rfl) rfl ?_)
            all_goals refine so_nil ?_
            repeat' (first | (refine so_is (.assign _) ?_; (refine so_q (qt_asC rfl) rfl ?_)) | (refine so_is (.load 78 _) ?_; (refine so_q (qt_load_boxs rfl rfl (by kernel_rfl : tAgg _ 78 4 = true) rfl) rfl ?_)) | (refine so_is (.move _) ?_; (refine so_q (qt_mvC rfl) rfl ?_)) | (refine so_is (.pick _ _ _) ?_; (refine so_q (qt_pkC rfl rfl) rfl ?_)) | (refine so_is (.load 3 _) ?_; (refine so_q (qt_load_pt rfl (by kernel_rfl) rfl) rfl ?_)) | (refine so_is (.binOp .gtr 3 _ _ _) ?_; refine so_q (qt_gtr rfl rfl) rfl ?_) | (refine so_is (.indexAddr 24 _ _) ?_; (refine so_q (qt_idxI rfl rfl (by kernel_rfl) (by (omega)) (by (omega))) rfl ?_)) | (refine so_is (.binOp .eql 24 _ _ _) ?_; (refine so_q (qt_eql_nilS rfl rfl (by kernel_rfl) (by (omega))) rfl ?_)) | (refine so_is (.call ⟨.value (.func 164), _, _⟩) ?_; (first | (apply so_call0 (fid := 164); (· (repeat (first | exact SeA.nil | apply SeA.cons (.c (.all _ _ _ _ rfl (by ((simp; done)))))))); (· exact r1); (· rfl)) | (apply so_call0 (fid := 164); (· (repeat (first | exact SeA.nil | apply SeA.cons (.c (.all _ _ _ _ rfl (by ((simp; done)))))))); (· exact r2); (· rfl)))) | (refine so_is (.call ⟨.value (.func 163), _, _⟩) ?_; ((apply so_call0 (fid := 163); (· (repeat (first | exact SeA.nil | (apply SeA.cons; (· (apply SeP.g; (repeat (first | exact SeL.nil | apply SeL.cons (.d _))))))))); (· exact wp); (· rfl)))) | (refine so_is (.call ⟨.value (.func 165), _, _⟩) ?_; ((apply so_call0 (fid := 165); (· (repeat (first | exact SeA.nil | (apply SeA.cons; (· (apply SeP.g; (repeat (first | exact SeL.nil | apply SeL.cons (.d _))))))))); (· exact sp); (· rfl)))) | refine so_nil ?_ | refine so_g_yes rfl rfl rfl rfl ?_ | refine sk_seq ?_ | refine sk_blk ?_ | refine sk_skip ?_ | refine sk_drawQ 10 (fun _ => false) (.step 0 true (.step 1 true (.step 2 true (.step 4 true (.step 8 true (.step 3 false (.step 5 false (.step 6 false (.step 7 false (.step 9 true (.step 10 true (.step 11 true .nil)))))))))))) [(0, 4095, 4095, false), (0, 4095, 4095, false), (0, 4095, 4095, true), (4, 4091, 4095, false), (0, 4095, 4095, true), (24, 4079, 4095, false), (43, 4052, 4095, false), (64, 4031, 4095, false), (0, 4095, 4095, true), (384, 3711, 4095, true), (512, 3583, 4095, false), (2047, 3071, 4095, true)] (by kernel_rfl) (by kernel_rfl) ?_ | refine sk_region (id := 11) ?_ | refine sk_region (id := 12) ?_ | refine sk_if rfl (fun hc => ?_) (fun hc => ?_))
            all_goals first | (exfalso; omega) | skip
            · obtain ⟨e1, e2, e3⟩ := sel_yes (s := s) (t := t) (.inr (by rw [← es]; exact hc))
              rw [t1, ← en] at e1
              rw [t2, ← en] at e2
              rw [← en] at e3
              refine sk_ghost (sim_forget 5000) ?_
              refine sk_ghost (sim_ren 4000 5000 rfl rfl rfl rfl) ?_
              repeat' (first | (refine so_is (.move _) ?_; (refine so_q (qt_mvC rfl) rfl ?_)) | (refine so_is (.binOp .add 3 _ _ _) ?_; refine so_q (qt_addI rfl rfl (by (omega))) rfl ?_) | refine so_nil ?_ | refine sk_region ?_)
              refine sk_back ?_; refine ⟨(n + 1, Md.cur), ?_, ?_, le_at rfl (by (repeat (first | exact trivial | refine ⟨(by (first | rfl | (refine int_eq rfl ?_; ((simp  [e1, e2, e3, es, sn]; done))))), ?_⟩))) (by (repeat (first | exact trivial | refine ⟨rfl, ?_⟩))) (by (repeat (first | exact trivial | refine ⟨(by ((refine row_eq rfl ?_; simp  [e1, e2, e3, es, sn]; done))), ?_⟩))) (by (repeat (first | exact trivial | refine ⟨.inr rfl, ?_⟩)))⟩
              · refine ⟨by simp only; omega, by simp, fun _ => e1⟩
              · simp only; omega
            · obtain ⟨e1, e2, e3⟩ := sel_no (s := s) (t := t) hft (by rw [← es]; exact hc)
              rw [← en] at e1 e2 e3
              refine sk_ghost (sim_forget 4000) ?_
              repeat' (first | (refine so_is (.move _) ?_; (refine so_q (qt_mvC rfl) rfl ?_)) | (refine so_is (.binOp .add 3 _ _ _) ?_; refine so_q (qt_addI rfl rfl (by (omega))) rfl ?_) | refine so_nil ?_ | refine sk_region ?_)
              refine sk_back ?_; refine ⟨(n + 1, Md.cur), ?_, ?_, le_at rfl (by (repeat (first | exact trivial | refine ⟨(by (first | rfl | (refine int_eq rfl ?_; ((simp  [e1, e2, e3, sn]; done))) | (refine ls_eq rfl ?_; ((simp  [e1, e2, e3, sn]; done))))), ?_⟩))) (by (repeat (first | exact trivial | refine ⟨rfl, ?_⟩))) (by (repeat (first | exact trivial | refine ⟨(by ((refine row_eq rfl ?_; simp  [e1, e2, e3, sn]; done))), ?_⟩))) (by (repeat (first | exact trivial | refine ⟨.inr rfl, ?_⟩)))⟩
              · refine ⟨by simp only; omega, by simp, fun _ => e1.trans hc2⟩
              · simp only; omega
        · have e : n = 16 := by omega
          subst e
          have e16 : 16 * (i + 1) = 16 * i + 16 := by omega
          cases m with
          | nil => exact absurd (hmn.1 rfl) (by omega)
          | old =>
            repeat' (first | (refine so_is (.binOp .lss 3 _ _ _) ?_; refine so_q (qt_lss rfl rfl) rfl ?_) | (refine so_is (.indexAddr 25 _ _) ?_; (refine so_q (qt_idx_ls rfl rfl (by kernel_rfl : tSl _ 25 1 = true) (by (omega)) (by (omega))) rfl ?_)) | refine so_nil ?_ | refine sk_seq ?_ | refine sk_block ?_ | refine sk_blk ?_ | refine sk_exit rfl ?_ | refine sk_skip ?_ | refine sk_region (id := 8) ?_ | refine sk_region (id := 9) ?_ | refine sk_if rfl (fun hc => ?_) (fun hc => ?_))
            all_goals first | (exfalso; omega) | skip
            refine sk_ghost (sim_forget 2000) ?_
            repeat' (first | (refine so_is (.move _) ?_; (refine so_q (qt_mvC rfl) rfl ?_)) | (refine so_is (.binOp .add 3 _ _ _) ?_; refine so_q (qt_addI rfl rfl (by (omega))) rfl ?_) | refine so_nil ?_ | refine sk_region ?_)
            refine sk_back ?_; refine ⟨(i + 1, Md.old), ?_, ?_, le_at rfl (by (repeat (first | exact trivial | refine ⟨(by (rfl)), ?_⟩))) (by (repeat (first | exact trivial | refine ⟨rfl, ?_⟩))) (by (repeat (first | exact trivial | refine ⟨(by ((refine row_eq rfl ?_; simp  [e16, si]; done))), ?_⟩))) (by (repeat (first | exact trivial | refine ⟨.inr rfl, ?_⟩ | refine ⟨.inl rfl, ?_⟩)))⟩
            · refine ⟨by simp only; omega, by simp, by simp⟩
            · simp only; omega
          | cur =>
            have hc2 := hmc2 rfl
            repeat' (first | (refine so_is (.binOp .lss 3 _ _ _) ?_; refine so_q (qt_lss rfl rfl) rfl ?_) | (refine so_is (.indexAddr 25 _ _) ?_; (refine so_q (qt_idx_ls rfl rfl (by kernel_rfl : tSl _ 25 1 = true) (by (omega)) (by (omega))) rfl ?_)) | refine so_nil ?_ | refine sk_seq ?_ | refine sk_block ?_ | refine sk_blk ?_ | refine sk_exit rfl ?_ | refine sk_skip ?_ | refine sk_region (id := 8) ?_ | refine sk_region (id := 9) ?_ | refine sk_if rfl (fun hc => ?_) (fun hc => ?_))
            all_goals first | (exfalso; omega) | skip
            refine sk_ghost (sim_ren 2000 3000 rfl rfl rfl rfl) ?_
            repeat' (first | (refine so_is (.move _) ?_; (refine so_q (qt_mvC rfl) rfl ?_)) | (refine so_is (.binOp .add 3 _ _ _) ?_; refine so_q (qt_addI rfl rfl (by (omega))) rfl ?_) | refine so_nil ?_ | refine sk_region ?_)
            refine sk_back ?_; refine ⟨(i + 1, Md.old), ?_, ?_, le_at rfl (by (repeat (first | exact trivial | refine ⟨(by (rfl)), ?_⟩))) (by (repeat (first | exact trivial | refine ⟨rfl, ?_⟩))) (by (repeat (first | exact trivial | refine ⟨(by ((refine row_eq rfl ?_; simp  [e16, si, hc2]; done))), ?_⟩))) (by (repeat (first | exact trivial | refine ⟨.inr rfl, ?_⟩ | refine ⟨.inl rfl, ?_⟩)))⟩
            · refine ⟨by simp only; omega, by simp, by simp⟩
            · simp only; omega
    · have e : i = 16 := by omega
      subst e
      cases m with
      | cur => exact absurd rfl hmc
      | nil => exact absurd (hmi.1 rfl) (by omega)
      | old =>
        have l1 := firstA_len s (16 * 16)
        have l2 := secondA_len s (16 * 16)
        repeat' (first | (refine so_is (.assign _) ?_; (refine so_q (qt_asC rfl) rfl ?_)) | (refine so_is (.move _) ?_; (refine so_q (qt_mvC rfl) rfl ?_)) | (refine so_is (.binOp .lss 3 _ _ _) ?_; refine so_q (qt_lss rfl rfl) rfl ?_) | (refine so_is (.indexAddr 25 _ _) ?_; (refine so_q (qt_idx_ls rfl rfl (by kernel_rfl : tSl _ 25 1 = true) (by (omega)) (by (omega))) rfl ?_)) | refine so_nil ?_ | refine sk_seq ?_ | refine sk_block ?_ | refine sk_exit rfl ?_ | refine sk_skip ?_ | refine sk_region ?_ | refine sk_if rfl (fun hc => ?_) (fun hc => ?_))
        all_goals first | (exfalso; omega) | skip
        (apply sk_ret; apply ret_eq; (· apply RetOK.t; (· (apply GvA.cons; (· exact .tmp _); (· (exact GvP.c (.row _ _ _ _ rfl (by ((simp; done))))))); (apply GvA.cons; (· exact .tmp _); (· (exact GvP.c (.row _ _ _ _ rfl (by ((simp; done))))))); (apply GvA.cons; (· exact .tmp _); (· exact GvP.c (.lit _))); (apply GvA.cons; (· exact .tmp _); (· exact GvP.c (.lit _))); exact GvA.nil); (· rfl); (· (decide))))
        simp [whenN, whenA]

end Go.Proofs.Ytefbiejoikpkmaa

namespace Go.Proofs.Ytefbiejoikpkmaa
open Go.RowKit
set_option linter.unusedSectionVars false
variable [Glb]
set_option maxRecDepth 10000
set_option maxHeartbeats 4000000
theorem l2Agree_p (row : List Int) (h : row.length = 4) (hb : ∀ k : Int, 0 ≤ k → k < 4 → -1000000000 ≤ atZ row k ∧ atZ row k ≤ 1000000000) : PC Try.prog 216 [.c (eI row)] (.p (.c (dI (agrZ row)))) := by
  have b0 := hb 0 (by omega) (by omega)
  have b1 := hb 1 (by omega) (by omega)
  have b2 := hb 2 (by omega) (by omega)
  have b3 := hb 3 (by omega) (by omega)
  refine pc_intro Try.func216 rfl rfl rfl (by kernel_rfl) rfl rfl ?_; intro _
  repeat' (first | (refine so_is (.assign _) ?_; (refine so_q (qt_asC rfl) rfl ?_)) | (refine so_is (.move _) ?_; (refine so_q (qt_mvC rfl) rfl ?_)) | (refine so_is (.indexAddr 24 _ _) ?_; (refine so_q (qt_idxI rfl rfl (by kernel_rfl) (by (omega)) (by (omega))) rfl ?_)) | (refine so_is (.load 3 _) ?_; (refine so_q (qt_load_pt rfl (by kernel_rfl) rfl) rfl ?_)) | (refine so_is (.binOp .sub 3 _ _ _) ?_; refine so_q (qt_subI rfl rfl (by (omega))) rfl ?_) | (refine so_is (.binOp .add 3 _ _ _) ?_; refine so_q (qt_addI rfl rfl (by (omega))) rfl ?_) | refine so_nil ?_ | refine sk_seq ?_ | refine sk_region ?_ | refine sk_drawQ 1 (fun _ => false) (.step 0 true (.step 1 true (.step 2 true (.step 3 true (.step 4 true (.step 5 true (.step 6 true (.step 7 true (.step 8 true (.step 9 true (.step 10 true (.step 11 true (.step 12 true (.step 13 true (.step 14 true (.step 15 true .nil)))))))))))))))) [(0, 65535, 65535, true), (1, 65534, 65535, true), (2, 65533, 65535, false), (0, 65535, 65535, true), (8, 65527, 65535, true), (16, 65519, 65535, false), (36, 65499, 65535, true), (0, 65535, 65535, true), (128, 65407, 65535, true), (256, 65279, 65535, false), (576, 64959, 65535, true), (0, 65535, 65535, true), (2048, 63487, 65535, true), (4096, 61439, 65535, false), (9216, 56319, 65535, true), (32767, 49151, 65535, true)] (by kernel_rfl) (by kernel_rfl) ?_)
  · (apply sk_ret; apply ret_eq; (· apply RetOK.p; (· (apply GvA.cons; (· exact .tmp _); (· exact GvP.c (.lit _))); exact GvA.nil); (· (decide))))
    rfl

end Go.Proofs.Ytefbiejoikpkmaa

namespace Go.Proofs.Ytefbiejoikpkmaa
open Go.RowKit
set_option linter.unusedSectionVars false
variable [Glb]
set_option maxRecDepth 10000
set_option maxHeartbeats 4000000
theorem l6Sums_p (n : Int) (ll : List (List Int)) (h : boxB 2 2 n ll = true) : PC Try.prog 169 [.g [dI 2, dI 2, dI n, eII ll]] (.p (.c (eI (sumsL ll)))) := by
  have hb := boxB_spec h
  have n1 := hb.n1; have n2 := hb.n2; have hl := hb.len
  refine pc_intro Try.func169 rfl rfl rfl (by kernel_rfl) rfl rfl ?_; intro _
  repeat' (first | (refine so_is (.box 78 _) ?_; refine so_box rfl rfl ?_) | (refine so_is (.assign _) ?_; (refine so_q (qt_asC rfl) rfl ?_)) | (refine so_is (.buildSlice 24 0 _) ?_; (apply so_bslice (sz := 1) (by_ := 8); (· kernel_rfl); (· decide); (· (repeat (exact GvS.nil _))); (· (decide)); (· rfl); (· rfl); (· rfl))) | refine so_nil ?_ | refine sk_seq ?_ | refine sk_block ?_ | refine sk_region ?_)
  apply sk_packC [1, 3, 4] [1, 8, 31, 37, 38] rfl; (· (repeat (first | exact Pf.nil | apply Pf.cons (.c rfl (.d rfl)) | apply Pf.cons (.c rfl (.ls rfl)) | apply Pf.cons (.c rfl (.lp rfl))))); (· (repeat (first | exact Pb.nil | apply Pb.cons (.row rfl) | (apply Pb.cons; (· apply Nb.box rfl; (repeat (first | exact Ncs.nil rfl | (apply Ncs.cons rfl; (· (exact .d rfl))))))) | apply Pb.skip)))
  refine sk_loopL [1] [1, 31, 37, 38] (fun k => [(4, iN k), (3, .c (.ls 8 1 0 k))]) (fun k => [(8, .row 1 (cI (rowF (sgnK ll) k)))]) (fun k => k ≤ 8) (fun k => 8 - k) (0) ?_ (by (repeat (first | exact trivial | refine ⟨(by (rfl)), ?_⟩))) (by (repeat (first | exact trivial | refine ⟨(by (rfl)), ?_⟩))) ?_
  · omega
  intro k hk
  by_cases hk8 : k < 8
  · repeat' (first | (refine so_is (.assign _) ?_; (refine so_q (qt_asC rfl) rfl ?_)) | (refine so_is (.move _) ?_; (refine so_q (qt_mvC rfl) rfl ?_)) | (refine so_is (.binOp .lss 3 _ _ _) ?_; refine so_q (qt_lss rfl rfl) rfl ?_) | refine so_nil ?_ | refine sk_seq ?_ | refine sk_block ?_ | refine sk_exit rfl ?_ | refine sk_skip ?_ | refine sk_region ?_ | refine sk_if rfl (fun hc => ?_) (fun hc => ?_))
    all_goals first | (exfalso; omega) | skip
    apply sk_packC [1, 3, 4, 5, 6] [1, 8, 31, 37, 38] rfl; (· (repeat (first | exact Pf.nil | apply Pf.cons (.c rfl (.d rfl)) | apply Pf.cons (.c rfl (.ls rfl)) | apply Pf.cons (.c rfl (.lp rfl))))); (· (repeat (first | exact Pb.nil | apply Pb.cons (.row rfl) | (apply Pb.cons; (· apply Nb.box rfl; (repeat (first | exact Ncs.nil rfl | (apply Ncs.cons rfl; (· (exact .d rfl))))))) | apply Pb.skip)))
    refine sk_loopL [1, 3, 4] [1, 8, 31, 37, 38] (fun x => [(6, iN x), (5, iZ (accT (sgnT ll k) (2 * x)))]) (fun _ => []) (fun x => x ≤ 2) (fun x => 2 - x) (0) ?_ (by (repeat (first | exact trivial | refine ⟨(by (rfl)), ?_⟩))) (by (repeat (exact trivial))) ?_
    · omega
    intro x hx
    have bx := accT_bd (n := n) (by omega) (t := sgnT ll k) (m := 2 * x) fun j hj => sgnT_bd h k (by omega)
    by_cases hx2 : x < 2
    · repeat' (first | (refine so_is (.assign _) ?_; (refine so_q (qt_asC rfl) rfl ?_)) | (refine so_is (.move _) ?_; (refine so_q (qt_mvC rfl) rfl ?_)) | (refine so_is (.binOp .lss 3 _ _ _) ?_; refine so_q (qt_lss rfl rfl) rfl ?_) | (refine so_is (.binOp .add 3 _ _ _) ?_; refine so_q (qt_addI rfl rfl (by (omega))) rfl ?_) | (refine so_is (.buildSlice 24 1 _) ?_; (apply so_bslice (sz := 1) (by_ := 8); (· kernel_rfl); (· decide); (· (repeat (first | exact GvS.nil _ | apply GvS.c rfl rfl (.lit _) rfl))); (· (decide)); (· rfl); (· rfl); (· rfl))) | (refine so_is (.call ⟨.builtin .append, _, #[24, 24]⟩) ?_; ((apply so_appR (sz := 1) (by_ := 8); (· rfl); (· rfl); (· ((simp; done))); (· exact .row _ _ _ _ rfl (by ((simp; done)))); (· (decide)); (· kernel_rfl); (· decide); (· (omega)); (· (omega)); (· rfl); (· rfl); (· rfl)))) | refine so_nil ?_ | refine sk_seq ?_ | refine sk_block ?_ | refine sk_blk ?_ | refine sk_exit rfl ?_ | refine sk_skip ?_ | refine sk_region ?_ | refine sk_if rfl (fun hc => ?_) (fun hc => ?_))
      all_goals first | (exfalso; omega) | skip
      apply sk_packC [1, 3, 4, 5, 6, 7] [1, 8, 31, 37, 38] rfl; (· (repeat (first | exact Pf.nil | apply Pf.cons (.c rfl (.d rfl)) | apply Pf.cons (.c rfl (.ls rfl)) | apply Pf.cons (.c rfl (.lp rfl))))); (· (repeat (first | exact Pb.nil | apply Pb.cons (.row rfl) | (apply Pb.cons; (· apply Nb.box rfl; (repeat (first | exact Ncs.nil rfl | (apply Ncs.cons rfl; (· (exact .d rfl))))))) | apply Pb.skip)))
      refine sk_loopL [1, 3, 4, 6] [1, 8, 31, 37, 38] (fun y => [(7, iN y), (5, iZ (accT (sgnT ll k) (2 * x + y)))]) (fun _ => []) (fun y => y ≤ 2) (fun y => 2 - y) (0) ?_ (by (repeat (first | exact trivial | refine ⟨(by (rfl)), ?_⟩))) (by (repeat (exact trivial))) ?_
      · omega
      intro y hy
      have hm : 2 * x + y ≤ 4 := by omega
      have by_ := accT_bd (n := n) (by omega) (t := sgnT ll k) (m := 2 * x + y) fun j hj => sgnT_bd h k (by omega)
      have hmn : ((2 * x + y : Nat) : Int) * n ≤ 4 * 1000 := Int.mul_le_mul (by omega) n2 (by omega) (by omega)
      by_cases hy2 : y < 2
      · have a := agr_bd h (j := 2 * x + y) (by omega)
        have d := difK_bd k x y
        have sb := sign_bd a.1 a.2 d
        have hr := boxB_at h (q := (x : Int) * 2 + y) (by omega) (by omega)
        have st : sgnT ll k (2 * x + y) = (1 - 2 * difK k x y) * agrZ (atZ ll ((x : Int) * 2 + y)) := by
          unfold sgnT
          rw [show (2 * x + y) / 2 = x by omega, show (2 * x + y) % 2 = y by omega, Int.mul_comm]
          congr 3
          omega
        have e2 : ((2 * x + y : Nat) : Int) = (x : Int) * 2 + y := by omega
        rw [e2] at a sb
        rw [Int.mul_comm (agrZ _)] at sb
        have es : accT (sgnT ll k) (2 * x + (y + 1)) = accT (sgnT ll k) (2 * x + y) + (1 - 2 * difK k x y) * agrZ (atZ ll ((x : Int) * 2 + y)) := by
          rw [← st]; rfl
        repeat' (first | (refine so_is (.assign _) ?_; (refine so_q (qt_asC rfl) rfl ?_)) | (refine so_is (.move _) ?_; (refine so_q (qt_mvC rfl) rfl ?_)) | (refine so_is (.binOp .lss 3 _ _ _) ?_; refine so_q (qt_lss rfl rfl) rfl ?_) | (refine so_is (.binOp .mul 3 _ _ _) ?_; refine so_q (qt_mulI rfl rfl (by (omega))) rfl ?_) | (refine so_is (.binOp .sub 3 _ _ _) ?_; refine so_q (qt_subI rfl rfl (by (omega))) rfl ?_) | (refine so_is (.load 78 _) ?_; (refine so_q (qt_load_boxs rfl rfl (by kernel_rfl : tAgg _ 78 4 = true) rfl) rfl ?_)) | (refine so_is (.binOp .add 3 _ _ _) ?_; refine so_q (qt_addI rfl rfl (by (omega))) rfl ?_) | (refine so_is (.call ⟨.value (.func 215), _, _⟩) ?_; (apply so_call0 (fid := 215); (· (repeat (first | exact SeA.nil | apply SeA.cons (.c (.d _))))); (· exact l6Odd_p _ _ _ hk8 hx2 hy2); (· rfl))) | (refine so_is (.call ⟨.value (.func 207), _, _⟩) ?_; (apply so_callV (fid := 207); (· (repeat (first | exact SdA.nil | apply SdA.c rfl | (apply SdA.g rfl; (· (repeat (first | exact SdL.nil | apply SdL.cons))))))); (· exact l2Row_v _ _ _ _ _ _ (by omega) (by omega) (by omega) (by omega) (by omega)); (· rfl))) | (refine so_is (.call ⟨.value (.func 216), _, _⟩) ?_; (apply so_call0 (fid := 216); (· (repeat (first | exact SeA.nil | apply SeA.cons (.c (.d _))))); (· exact l2Agree_p _ hr.1 (fun p h1 h2 => by have := hr.2 p h1 h2; omega)); (· rfl))) | refine so_nil ?_ | refine sk_seq ?_ | refine sk_block ?_ | refine sk_blk ?_ | refine sk_exit rfl ?_ | refine sk_skip ?_ | refine sk_region ?_ | refine sk_drawQ 12 (fun _ => false) (.step 0 true (.step 1 true (.step 2 true (.step 3 true (.step 7 true (.step 8 true (.step 9 true (.step 4 false (.step 5 true (.step 6 true (.step 10 false (.step 11 false (.step 12 true (.step 13 true (.step 14 true .nil))))))))))))))) [(0, 32767, 32767, true), (0, 32767, 32767, true), (0, 32767, 32767, true), (0, 32767, 32767, true), (14, 32753, 32767, false), (16, 32751, 32767, true), (32, 32735, 32767, true), (0, 32767, 32767, false), (0, 32767, 32767, true), (0, 32767, 32767, true), (912, 31871, 32767, false), (1024, 31743, 32767, false), (2112, 30655, 32767, true), (4097, 28670, 32767, true), (16383, 24574, 32767, true)] (by kernel_rfl) (by kernel_rfl) ?_ | refine sk_if rfl (fun hc => ?_) (fun hc => ?_))
        all_goals first | (exfalso; omega) | skip
        refine sk_back ?_; refine ⟨y + 1, ?_, ?_, le_at rfl (by (repeat (first | exact trivial | refine ⟨(by (first | rfl | (refine int_eq rfl ?_; (omega)))), ?_⟩))) (by (repeat (first | exact trivial | refine ⟨rfl, ?_⟩))) (by (repeat (exact trivial))) (by (repeat (first | exact trivial | refine ⟨.inr rfl, ?_⟩)))⟩
        · omega
        · omega
      · have e : y = 2 := by omega
        subst e
        repeat' (first | (refine so_is (.assign _) ?_; (refine so_q (qt_asC rfl) rfl ?_)) | (refine so_is (.move _) ?_; (refine so_q (qt_mvC rfl) rfl ?_)) | (refine so_is (.binOp .lss 3 _ _ _) ?_; refine so_q (qt_lss rfl rfl) rfl ?_) | (refine so_is (.binOp .add 3 _ _ _) ?_; refine so_q (qt_addI rfl rfl (by (omega))) rfl ?_) | refine so_nil ?_ | refine sk_seq ?_ | refine sk_blk ?_ | refine sk_exit rfl ?_ | refine sk_region ?_ | refine sk_false rfl ?_)
        all_goals first | (exfalso; omega) | skip
        refine sk_back ?_; refine ⟨x + 1, ?_, ?_, le_at rfl (by (repeat (first | exact trivial | refine ⟨(by (rfl)), ?_⟩))) (by (repeat (first | exact trivial | refine ⟨rfl, ?_⟩))) (by (repeat (exact trivial))) (by (repeat (first | exact trivial | refine ⟨.inr rfl, ?_⟩)))⟩
        · omega
        · omega
    · have e : x = 2 := by omega
      subst e
      repeat' (first | (refine so_is (.assign _) ?_; (refine so_q (qt_asC rfl) rfl ?_)) | (refine so_is (.move _) ?_; (refine so_q (qt_mvC rfl) rfl ?_)) | (refine so_is (.binOp .lss 3 _ _ _) ?_; refine so_q (qt_lss rfl rfl) rfl ?_) | (refine so_is (.binOp .add 3 _ _ _) ?_; refine so_q (qt_addI rfl rfl (by (omega))) rfl ?_) | (refine so_is (.buildSlice 24 1 _) ?_; (apply so_bslice (sz := 1) (by_ := 8); (· kernel_rfl); (· decide); (· (repeat (first | exact GvS.nil _ | apply GvS.c rfl rfl (.lit _) rfl))); (· (decide)); (· rfl); (· rfl); (· rfl))) | (refine so_is (.call ⟨.builtin .append, _, #[24, 24]⟩) ?_; ((apply so_appR (sz := 1) (by_ := 8); (· rfl); (· rfl); (· ((simp; done))); (· exact .row _ _ _ _ rfl (by ((simp; done)))); (· (decide)); (· kernel_rfl); (· decide); (· (omega)); (· (omega)); (· rfl); (· rfl); (· rfl)))) | refine so_nil ?_ | refine sk_seq ?_ | refine sk_blk ?_ | refine sk_exit rfl ?_ | refine sk_region ?_ | refine sk_false rfl ?_)
      all_goals first | (exfalso; omega) | skip
      refine sk_back ?_; refine ⟨k + 1, ?_, ?_, le_at rfl (by (repeat (first | exact trivial | refine ⟨(by (rfl)), ?_⟩))) (by (repeat (first | exact trivial | refine ⟨rfl, ?_⟩))) (by (repeat (first | exact trivial | refine ⟨(by ((refine row_eq rfl ?_; simp  [rowF_snoc, sgnK]; done))), ?_⟩))) (by (repeat (first | exact trivial | refine ⟨.inr rfl, ?_⟩)))⟩
      · omega
      · omega
  · have e : k = 8 := by omega
    subst e
    repeat' (first | (refine so_is (.assign _) ?_; (refine so_q (qt_asC rfl) rfl ?_)) | (refine so_is (.move _) ?_; (refine so_q (qt_mvC rfl) rfl ?_)) | (refine so_is (.binOp .lss 3 _ _ _) ?_; refine so_q (qt_lss rfl rfl) rfl ?_) | refine so_nil ?_ | refine sk_seq ?_ | refine sk_exit rfl ?_ | refine sk_region ?_ | refine sk_false rfl ?_)
    all_goals first | (exfalso; omega) | skip
    (apply sk_ret; apply ret_eq; (· apply RetOK.p; (· (apply GvA.cons; (· exact .tmp _); (· (exact GvP.c (.row _ _ _ _ rfl (by ((simp; done))))))); exact GvA.nil); (· (decide))))
    simp [sumsL]

end Go.Proofs.Ytefbiejoikpkmaa

namespace Go.Proofs.Ytefbiejoikpkmaa
open Go.RowKit
set_option linter.unusedSectionVars false
variable [Glb]
set_option maxRecDepth 10000
set_option maxHeartbeats 4000000
theorem spSumRuleBy_p (asks : List Int) (h : asks.length = 4) (hb : bitsB asks 4 = true) : PC Try.prog 168 [.c (eI asks)] (.t [.g [eI sumF, eII (ruleA asks), eII sumS], .c (dB true)]) := by
  have mp := l10Made_p asks [0, 1, 1, 0] h (by decide)
  refine pc_intro Try.func168 rfl rfl rfl (by kernel_rfl) rfl rfl ?_; intro _
  repeat' (first | (refine so_is (.alloc 96) ?_; refine so_alloc (zs := [.slice none 0 0, .slice none 0 0, .slice none 0 0]) (by kernel_rfl) rfl ?_) | (refine so_is (.assign _) ?_; (refine so_q (qt_asC rfl) rfl ?_)) | (refine so_is (.move _) ?_; (refine so_q (qt_mvC rfl) rfl ?_)) | (refine so_is (.unOp .not 4 _) ?_; refine so_q (qt_not rfl) rfl ?_) | (refine so_is (.build 96 _) ?_; refine so_q (qt_build (cs := [_, _, _]) [(0, 1), (1, 1), (2, 1)] [.slice none 0 0, .slice none 0 0, .slice none 0 0] (by kernel_rfl) (by kernel_rfl) rfl) rfl ?_) | (refine so_is (.store 96 _ _) ?_; (refine so_store_box rfl rfl rfl (by kernel_rfl) rfl rfl ?_)) | (refine so_is (.buildSlice 24 4 _) ?_; (apply so_bslice (sz := 1) (by_ := 8); (· kernel_rfl); (· decide); (· (repeat (first | exact GvS.nil _ | apply GvS.c rfl rfl (.lit _) rfl))); (· (decide)); (· rfl); (· rfl); (· rfl))) | (refine so_is (.call ⟨.value (.func 87), _, _⟩) ?_; ((apply so_call0 (fid := 87); (· (repeat (first | exact SeA.nil | apply SeA.cons (.c (.d _))))); (· exact l2Bits_p _ _); (· rfl)))) | (refine so_is (.call ⟨.value (.func 208), _, _⟩) ?_; (apply so_callO0 (fid := 208); (· (repeat (first | exact SeA.nil | apply SeA.cons (.c (.d _)) | apply SeA.cons (.c (.all _ _ _ _ rfl (by ((simp; done)))))))); (· exact mp); (· rfl); (· rfl))) | refine so_nil ?_ | refine sk_seq ?_ | refine sk_skip ?_ | refine sk_region ?_ | refine sk_not rfl (fun hc => ?_) (fun hc => ?_))
  all_goals first | (exfalso; simp_all; done) | skip
  all_goals (apply sk_ret; apply ret_eq; (· apply RetOK.t; (· (apply GvA.cons; (· (apply RV.cellN (n := 3); (· rfl); (· rfl); (· kernel_rfl); (· rfl))); (· (apply GvP.g; (· ((apply GvL.cons (.row _ _ _ _ rfl (by ((simp; done)))))); ((apply GvL.cons (.row _ _ _ _ rfl (by ((simp; done)))))); ((apply GvL.cons (.row _ _ _ _ rfl (by ((simp; done)))))); exact GvL.nil)))); (apply GvA.cons; (· exact .tmp _); (· exact GvP.c (.lit _))); exact GvA.nil); (· rfl); (· (decide))))
  all_goals rfl

end Go.Proofs.Ytefbiejoikpkmaa

namespace Go.Proofs.Ytefbiejoikpkmaa
open Go.RowKit
set_option linter.unusedSectionVars false
variable [Glb]
set_option maxRecDepth 10000
set_option maxHeartbeats 4000000
theorem spBestAsks_p (xa ya na : Int) (la : List (List Int)) (xb yb nb : Int) (lb : List (List Int)) (k : Int) : PC Try.prog 73 [.g [dI xa, dI ya, dI na, eII la], .g [dI xb, dI yb, dI nb, eII lb], .c (dI k)]
    (.t [.c (eI (whenA (bestB xa ya na la xb yb nb lb k) (firstA (askS la lb k.toNat) 256))), .c (eI (whenA (bestB xa ya na la xb yb nb lb k) (secondA (askS la lb k.toNat) 256))), .c (dI (whenN (bestB xa ya na la xb yb nb lb k) (mostA (askS la lb k.toNat) 256))), .c (dB (bestB xa ya na la xb yb nb lb k))]) := by
  cases hB : bestB xa ya na la xb yb nb lb k with
  | false =>
    refine pc_intro Try.func73 rfl rfl rfl (by kernel_rfl) rfl rfl ?_; intro _
    repeat' (first | (refine so_is (.box 78 _) ?_; refine so_box rfl rfl ?_) | (refine so_is (.assign _) ?_; (refine so_q (qt_asC rfl) rfl ?_)) | (refine so_is (.load 78 _) ?_; (refine so_q (qt_load_boxs rfl rfl (by kernel_rfl : tAgg _ 78 4 = true) rfl) rfl ?_)) | (refine so_is (.unOp .not 4 _) ?_; refine so_q (qt_not rfl) rfl ?_) | (refine so_is (.move _) ?_; (refine so_q (qt_mvC rfl) rfl ?_)) | (refine so_is (.pick _ _ _) ?_; (refine so_q (qt_pkC rfl rfl) rfl ?_)) | (refine so_is (.buildSlice 24 0 _) ?_; (apply so_bslice (sz := 1) (by_ := 8); (· kernel_rfl); (· decide); (· (repeat (exact GvS.nil _))); (· (decide)); (· rfl); (· rfl); (· rfl))) | (refine so_is (.call ⟨.value (.func 155), _, _⟩) ?_; (apply so_call0 (fid := 155); (· (repeat (first | exact SeA.nil | (apply SeA.cons; (· (apply SeP.g; (repeat (first | exact SeL.nil | apply SeL.cons (.d _))))))))); (· exact l10Both_p _ _ _ _ _ _ _ _); (· rfl))) | (refine so_is (.call ⟨.value (.func 166), _, _⟩) ?_; (apply so_call0 (fid := 166); (· (repeat (first | exact SeA.nil | apply SeA.cons (.c (.d _))))); (· exact l6Kind_p _); (· rfl))) | refine so_nil ?_ | refine so_g_no rfl rfl rfl rfl ?_ | refine so_g_yes rfl rfl rfl rfl ?_ | refine so_g_b rfl rfl (fun hg => ?_) (fun hg => ?_) | refine sk_seq ?_ | refine sk_skip ?_ | refine sk_region ?_ | refine sk_true rfl ?_ | refine sk_not rfl (fun hc => ?_) (fun hc => ?_))
    all_goals first | (exfalso; simp_all [bestB]; done) | skip
    all_goals (apply sk_ret; apply ret_eq; (· apply RetOK.t; (· (apply GvA.cons; (· exact .tmp _); (· (exact GvP.c (.row _ _ _ _ rfl (by ((simp; done))))))); (apply GvA.cons; (· exact .tmp _); (· (exact GvP.c (.row _ _ _ _ rfl (by ((simp; done))))))); (apply GvA.cons; (· exact .tmp _); (· exact GvP.c (.lit _))); (apply GvA.cons; (· exact .tmp _); (· exact GvP.c (.lit _))); exact GvA.nil); (· rfl); (· (decide))))
    all_goals simp [whenN, whenA]
  | true =>
    have hB2 := hB
    simp only [bestB, wiresB, Bool.and_eq_true, decide_eq_true_eq] at hB2
    obtain ⟨⟨v1, v2, hle⟩, v3⟩ := hB2
    obtain ⟨rfl, rfl, ha, a1, a2⟩ := pairB_spec v1
    obtain ⟨rfl, rfl, hb, b1, b2⟩ := pairB_spec v2
    have hk := inB_iff.1 v3
    obtain ⟨K, rfl⟩ : ∃ K : Nat, k = K := ⟨k.toNat, by omega⟩
    rw [Int.toNat_natCast]
    obtain ⟨s, hs⟩ : ∃ s, s = askS la lb K := ⟨_, rfl⟩
    rw [← hs]
    obtain ⟨P, hP⟩ : ∃ P, P = playsF 4 := ⟨_, rfl⟩
    have hPl : P.length = 16 := by rw [hP]; rfl
    have ap := l10Asks_p
    rw [← hP] at ap
    refine pc_intro Try.func73 rfl rfl rfl (by kernel_rfl) rfl rfl ?_; intro _
    repeat' (first | (refine so_is (.box 78 _) ?_; refine so_box rfl rfl ?_) | (refine so_is (.assign _) ?_; (refine so_q (qt_asC rfl) rfl ?_)) | (refine so_is (.load 78 _) ?_; (refine so_q (qt_load_boxs rfl rfl (by kernel_rfl : tAgg _ 78 4 = true) rfl) rfl ?_)) | (refine so_is (.unOp .not 4 _) ?_; refine so_q (qt_not rfl) rfl ?_) | (refine so_is (.move _) ?_; (refine so_q (qt_mvC rfl) rfl ?_)) | (refine so_is (.pick _ _ _) ?_; (refine so_q (qt_pkC rfl rfl) rfl ?_)) | (refine so_is (.buildSlice 24 0 _) ?_; (apply so_bslice (sz := 1) (by_ := 8); (· kernel_rfl); (· decide); (· (repeat (exact GvS.nil _))); (· (decide)); (· rfl); (· rfl); (· rfl))) | (refine so_is (.call ⟨.value (.func 155), _, _⟩) ?_; ((apply so_call0 (fid := 155); (· (repeat (first | exact SeA.nil | (apply SeA.cons; (· (apply SeP.g; (repeat (first | exact SeL.nil | apply SeL.cons (.d _))))))))); (· exact l10Both_p _ _ _ _ _ _ _ _); (· rfl)))) | (refine so_is (.call ⟨.value (.func 166), _, _⟩) ?_; ((apply so_call0 (fid := 166); (· (repeat (first | exact SeA.nil | apply SeA.cons (.c (.d _))))); (· exact l6Kind_p _); (· rfl)))) | (refine so_is (.call ⟨.value (.func 167), _, _⟩) ?_; (apply so_call0 (fid := 167); (· (repeat (exact SeA.nil))); (· exact ap); (· rfl))) | refine so_nil ?_ | refine so_g_no rfl rfl rfl rfl ?_ | refine so_g_yes rfl rfl rfl rfl ?_ | refine so_g_b rfl rfl (fun hg => ?_) (fun hg => ?_) | refine sk_seq ?_ | refine sk_block ?_ | refine sk_skip ?_ | refine sk_region (id := 0) ?_ | refine sk_region (id := 1) ?_ | refine sk_region (id := 2) ?_ | refine sk_region (id := 3) ?_ | refine sk_region (id := 4) ?_ | refine sk_true rfl ?_ | refine sk_nif rfl (fun hc => ?_) (fun hc => ?_))
    all_goals first | (exfalso; simp_all [bestB]; done) | skip
    refine sk_ghost (sim_dem 34 1 rfl) ?_
    refine sk_ghost (sim_dem 35 1 rfl) ?_
    apply sk_packC [2, 3, 4, 10, 11, 12, 13, 14, 15] [3, 4, 17, 19, 31, 32, 33, 34, 35, 53, 61, 69, 90, 92, 1053, 1061, 2053, 2061, 3068] rfl; (· (repeat (first | exact Pf.nil | apply Pf.cons (.c rfl (.d rfl)) | apply Pf.cons (.c rfl (.lp rfl))))); (· (repeat (first | exact Pb.nil | (apply Pb.cons; (· apply Nb.box rfl; (repeat (first | exact Ncs.nil rfl | (apply Ncs.cons rfl; (· (exact .d rfl))))))) | apply Pb.skip)))
    refine sk_loopL [2, 3, 4, 10] [3, 4, 31, 32, 33, 34, 35, 53, 1053, 2053, 17, 61, 1061, 2061, 19, 3068, 69, 90, 92] (fun i => [(15, iN i), (11, .c (.d (eI (firstA s (16 * i))))), (12, .c (.d (eI (secondA s (16 * i))))), (13, iZ (mostA s (16 * i))), (14, .c (.d (dB (foundA (16 * i)))))]) (fun _ => []) (fun i => i ≤ 16) (fun i => 16 - i) (0) ?_ (by (repeat (first | exact trivial | refine ⟨(by (rfl)), ?_⟩))) (by (repeat (exact trivial))) ?_
    · omega
    intro i hi
    by_cases hi2 : i < 16
    · have pi := ask_at hi2
      rw [← hP] at pi
      repeat' (first | (refine so_is (.assign _) ?_; (refine so_q (qt_asC rfl) rfl ?_)) | (refine so_is (.move _) ?_; (refine so_q (qt_mvC rfl) rfl ?_)) | (refine so_is (.call ⟨.builtin .len, _, #[25]⟩) ?_; (refine so_q (qt_len_d rfl (by kernel_rfl)) rfl ?_)) | (refine so_is (.binOp .lss 3 _ _ _) ?_; refine so_q (qt_lss rfl rfl) rfl ?_) | refine so_nil ?_ | refine sk_seq ?_ | refine sk_block ?_ | refine sk_exit rfl ?_ | refine sk_skip ?_ | refine sk_region ?_ | refine sk_if rfl (fun hc => ?_) (fun hc => ?_))
      all_goals first | (exfalso; omega) | skip
      apply sk_packC [2, 3, 4, 10, 11, 12, 13, 14, 15, 16] [3, 4, 17, 19, 31, 32, 33, 34, 35, 53, 61, 69, 90, 92, 1053, 1061, 2053, 2061, 3068] rfl; (· (repeat (first | exact Pf.nil | apply Pf.cons (.c rfl (.d rfl)) | apply Pf.cons (.c rfl (.lp rfl))))); (· (repeat (first | exact Pb.nil | (apply Pb.cons; (· apply Nb.box rfl; (repeat (first | exact Ncs.nil rfl | (apply Ncs.cons rfl; (· (exact .d rfl))))))) | apply Pb.skip)))
      refine sk_loopL [2, 3, 4, 10, 15] [3, 4, 31, 32, 33, 34, 35, 53, 1053, 2053, 17, 61, 1061, 2061, 19, 3068, 69, 90, 92] (fun n => [(16, iN n), (11, .c (.d (eI (firstA s (16 * i + n))))), (12, .c (.d (eI (secondA s (16 * i + n))))), (13, iZ (mostA s (16 * i + n))), (14, .c (.d (dB (foundA (16 * i + n)))))]) (fun _ => []) (fun n => n ≤ 16) (fun n => 16 - n) (0) ?_ (by (repeat (first | exact trivial | refine ⟨(by (rfl)), ?_⟩))) (by (repeat (exact trivial))) ?_
      · omega
      intro n hn
      by_cases hn2 : n < 16
      · have pn := ask_at hn2
        rw [← hP] at pn
        obtain ⟨t, ht⟩ : ∃ t, t = 16 * i + n := ⟨_, rfl⟩
        have t1 : t / 16 = i := by omega
        have t2 : t % 16 = n := by omega
        obtain ⟨LL, hLL⟩ : ∃ LL, LL = askLL la lb t := ⟨_, rfl⟩
        have wp := l10Wire_p na la nb lb sumF (ruleA (askRow i)) sumS sumF (ruleA (askRow n)) sumS ha hb (askRule i) (askRule n)
        have eLL : wiredL la lb sumF (ruleA (askRow i)) sumS sumF (ruleA (askRow n)) sumS = LL := by rw [hLL, askLL, t1, t2]
        rw [eLL] at wp
        have hbx := wire_box ha hb (askRule i) (askRule n)
        rw [eLL, decide_eq_true hle] at hbx
        have sp := l6Sums_p _ LL hbx
        have sl : (sumsL LL).length = 8 := by simp [sumsL]
        have es : atZ (sumsL LL) (K : Int) = s t := by rw [sumsL_at LL (by omega), hs, hLL]; rfl
        have r1 : PC Try.prog 168 [.c (eI (atZ P (i : Int)))] (.t [.g [eI sumF, eII (ruleA (askRow i)), eII sumS], .c (dB true)]) := by rw [pi]; exact spSumRuleBy_p (askRow i) (askRow_len i) (askRow_bits i)
        have r2 : PC Try.prog 168 [.c (eI (atZ P (n : Int)))] (.t [.g [eI sumF, eII (ruleA (askRow n)), eII sumS], .c (dB true)]) := by rw [pn]; exact spSumRuleBy_p (askRow n) (askRow_len n) (askRow_bits n)
        rw [← ht]
        have en : 16 * i + (n + 1) = t + 1 := by omega
        repeat' (first | (refine so_is (.assign _) ?_; (refine so_q (qt_asC rfl) rfl ?_)) | (refine so_is (.load 78 _) ?_; (refine so_q (qt_load_boxs rfl rfl (by kernel_rfl : tAgg _ 78 4 = true) rfl) rfl ?_)) | (refine so_is (.unOp .not 4 _) ?_; refine so_q (qt_not rfl) rfl ?_) | (refine so_is (.move _) ?_; (first | refine so_q (qt_mvC rfl) rfl ?_ | refine so_q (qt_mvT rfl) rfl ?_)) | (refine so_is (.pick _ _ _) ?_; (refine so_q (qt_pkC rfl rfl) rfl ?_)) | (refine so_is (.call ⟨.builtin .len, _, #[25]⟩) ?_; (refine so_q (qt_len_d rfl (by kernel_rfl)) rfl ?_)) | (refine so_is (.binOp .lss 3 _ _ _) ?_; refine so_q (qt_lss rfl rfl) rfl ?_) | (refine so_is (.indexAddr 25 _ _) ?_; (refine so_q (qt_idxII rfl rfl (by kernel_rfl) (by (omega)) (by (omega))) rfl ?_)) | (refine so_is (.load 24 _) ?_; (refine so_q (qt_load_pt rfl (by kernel_rfl) rfl) rfl ?_)) | (refine so_is (.extract _ _) ?_; refine so_q (qt_extract rfl rfl) rfl ?_) | (refine so_is (.alloc 96) ?_; refine so_alloc (zs := [.slice none 0 0, .slice none 0 0, .slice none 0 0]) (by kernel_rfl) rfl ?_) | (refine so_is (.store 96 _ _) ?_; (refine so_store_box rfl rfl rfl (by kernel_rfl) rfl rfl ?_)) | (refine so_is (.load 96 _) ?_; (refine so_q (qt_load_boxs rfl rfl (by kernel_rfl : tAgg _ 96 3 = true) rfl) rfl ?_)) | (refine so_is (.indexAddr 24 _ _) ?_; (refine so_q (qt_idxI rfl rfl (by kernel_rfl) (by (omega)) (by (omega))) rfl ?_)) | (refine so_is (.load 3 _) ?_; (refine so_q (qt_load_pt rfl (by kernel_rfl) rfl) rfl ?_)) | (refine so_is (.binOp .gtr 3 _ _ _) ?_; refine so_q (qt_gtr rfl rfl) rfl ?_) | (refine so_is (.binOp .add 3 _ _ _) ?_; refine so_q (qt_addI rfl rfl (by (omega))) rfl ?_) | (refine so_is (.call ⟨.value (.func 168), _, _⟩) ?_; (first | (apply so_call0 (fid := 168); (· (repeat (first | exact SeA.nil | apply SeA.cons (.c (.d _))))); (· exact r1); (· rfl)) | (apply so_call0 (fid := 168); (· (repeat (first | exact SeA.nil | apply SeA.cons (.c (.d _))))); (· exact r2); (· rfl)))) | (refine so_is (.call ⟨.value (.func 156), _, _⟩) ?_; ((apply so_call0 (fid := 156); (· (repeat (first | exact SeA.nil | (apply SeA.cons; (· (apply SeP.g; (repeat (first | exact SeL.nil | apply SeL.cons (.d _))))))))); (· exact wp); (· rfl)))) | (refine so_is (.call ⟨.value (.func 169), _, _⟩) ?_; ((apply so_call0 (fid := 169); (· (repeat (first | exact SeA.nil | (apply SeA.cons; (· (apply SeP.g; (repeat (first | exact SeL.nil | apply SeL.cons (.d _))))))))); (· exact sp); (· rfl)))) | refine so_nil ?_ | refine so_g_no rfl rfl rfl rfl ?_ | refine so_g_yes rfl rfl rfl rfl ?_ | refine so_g_b rfl rfl (fun hg => ?_) (fun hg => ?_) | refine sk_seq ?_ | refine sk_block ?_ | refine sk_blk ?_ | refine sk_exit rfl ?_ | refine sk_skip ?_ | refine sk_region (id := 8) ?_ | refine sk_region (id := 10) ?_ | refine sk_region (id := 11) ?_ | refine sk_region (id := 12) ?_ | refine sk_region (id := 13) ?_ | refine sk_region (id := 14) ?_ | refine sk_region (id := 15) ?_ | refine sk_region (id := 16) ?_ | refine sk_region (id := 17) ?_ | refine sk_region (id := 6) ?_ | refine sk_true rfl ?_ | refine sk_if rfl (fun hc => ?_) (fun hc => ?_))
        all_goals first | (exfalso; omega) | skip
        · obtain ⟨e1, e2, e3⟩ := sel_yes (s := s) (t := t) (.inl (by simpa using hg))
          rw [t1] at e1
          rw [t2] at e2
          repeat' (first | (refine so_is (.assign _) ?_; (refine so_q (qt_asC rfl) rfl ?_)) | (refine so_is (.move _) ?_; (refine so_q (qt_mvC rfl) rfl ?_)) | (refine so_is (.binOp .add 3 _ _ _) ?_; refine so_q (qt_addI rfl rfl (by (omega))) rfl ?_) | refine so_nil ?_ | refine sk_region ?_)
          refine sk_back ?_; refine ⟨n + 1, ?_, ?_, le_at rfl (by (repeat (first | exact trivial | refine ⟨(by (first | rfl | (refine int_eq rfl ?_; ((simp  [en, e1, e2, e3, es, pi, pn, foundA]; done))) | (refine d_eq rfl ?_; ((simp  [en, e1, e2, e3, es, pi, pn, foundA]; done))))), ?_⟩))) (by (repeat (first | exact trivial | refine ⟨rfl, ?_⟩))) (by (repeat (exact trivial))) (by (repeat (first | exact trivial | refine ⟨.inr rfl, ?_⟩ | refine ⟨.inl rfl, ?_⟩)))⟩
          · omega
          · omega
        · obtain ⟨e1, e2, e3⟩ := sel_yes (s := s) (t := t) (.inr (by rw [← es]; exact hc))
          rw [t1] at e1
          rw [t2] at e2
          repeat' (first | (refine so_is (.assign _) ?_; (refine so_q (qt_asC rfl) rfl ?_)) | (refine so_is (.move _) ?_; (refine so_q (qt_mvC rfl) rfl ?_)) | (refine so_is (.binOp .add 3 _ _ _) ?_; refine so_q (qt_addI rfl rfl (by (omega))) rfl ?_) | refine so_nil ?_ | refine sk_region ?_)
          refine sk_back ?_; refine ⟨n + 1, ?_, ?_, le_at rfl (by (repeat (first | exact trivial | refine ⟨(by (first | rfl | (refine int_eq rfl ?_; ((simp  [en, e1, e2, e3, es, pi, pn, foundA]; done))) | (refine d_eq rfl ?_; ((simp  [en, e1, e2, e3, es, pi, pn, foundA]; done))))), ?_⟩))) (by (repeat (first | exact trivial | refine ⟨rfl, ?_⟩))) (by (repeat (exact trivial))) (by (repeat (first | exact trivial | refine ⟨.inr rfl, ?_⟩ | refine ⟨.inl rfl, ?_⟩)))⟩
          · omega
          · omega
        · obtain ⟨e1, e2, e3⟩ := sel_no (s := s) (t := t) (by simpa using hg) (by rw [← es]; exact hc)
          have hf : foundA t = true := by simpa using hg
          have e4 : foundA (16 * i + (n + 1)) = foundA t := by rw [en, hf]; rfl
          rw [← en] at e1 e2 e3
          repeat' (first | (refine so_is (.assign _) ?_; (refine so_q (qt_asC rfl) rfl ?_)) | (refine so_is (.move _) ?_; (refine so_q (qt_mvC rfl) rfl ?_)) | (refine so_is (.binOp .add 3 _ _ _) ?_; refine so_q (qt_addI rfl rfl (by (omega))) rfl ?_) | refine so_nil ?_ | refine sk_region ?_)
          refine sk_back ?_; refine ⟨n + 1, ?_, ?_, le_at rfl (by (repeat (first | exact trivial | refine ⟨(by (first | rfl | (refine int_eq rfl ?_; (omega)) | (refine bool_eq rfl ?_; ((simp  [e1, e2, e3, e4]; done))) | (refine d_eq rfl ?_; ((simp  [e1, e2, e3, e4]; done))))), ?_⟩))) (by (repeat (first | exact trivial | refine ⟨rfl, ?_⟩))) (by (repeat (exact trivial))) (by (repeat (first | exact trivial | refine ⟨.inr rfl, ?_⟩ | refine ⟨.inl rfl, ?_⟩)))⟩
          · omega
          · omega
      · have e : n = 16 := by omega
        subst e
        repeat' (first | (refine so_is (.assign _) ?_; (refine so_q (qt_asC rfl) rfl ?_)) | (refine so_is (.move _) ?_; (refine so_q (qt_mvC rfl) rfl ?_)) | (refine so_is (.call ⟨.builtin .len, _, #[25]⟩) ?_; (refine so_q (qt_len_d rfl (by kernel_rfl)) rfl ?_)) | (refine so_is (.binOp .lss 3 _ _ _) ?_; refine so_q (qt_lss rfl rfl) rfl ?_) | (refine so_is (.indexAddr 25 _ _) ?_; (refine so_q (qt_idxII rfl rfl (by kernel_rfl) (by (omega)) (by (omega))) rfl ?_)) | (refine so_is (.load 24 _) ?_; (refine so_q (qt_load_pt rfl (by kernel_rfl) rfl) rfl ?_)) | (refine so_is (.binOp .add 3 _ _ _) ?_; refine so_q (qt_addI rfl rfl (by (omega))) rfl ?_) | refine so_nil ?_ | refine sk_seq ?_ | refine sk_block ?_ | refine sk_blk ?_ | refine sk_exit rfl ?_ | refine sk_skip ?_ | refine sk_region ?_ | refine sk_if rfl (fun hc => ?_) (fun hc => ?_))
        all_goals first | (exfalso; omega) | skip
        refine sk_back ?_; refine ⟨i + 1, ?_, ?_, le_at rfl (by (repeat (first | exact trivial | refine ⟨(by (rfl)), ?_⟩))) (by (repeat (first | exact trivial | refine ⟨rfl, ?_⟩))) (by (repeat (exact trivial))) (by (repeat (first | exact trivial | refine ⟨.inr rfl, ?_⟩)))⟩
        · omega
        · omega
    · have e : i = 16 := by omega
      subst e
      have l1 := firstA_len s (16 * 16)
      have l2 := secondA_len s (16 * 16)
      repeat' (first | (refine so_is (.assign _) ?_; (refine so_q (qt_asC rfl) rfl ?_)) | (refine so_is (.move _) ?_; (refine so_q (qt_mvC rfl) rfl ?_)) | (refine so_is (.call ⟨.builtin .len, _, #[25]⟩) ?_; (refine so_q (qt_len_d rfl (by kernel_rfl)) rfl ?_)) | (refine so_is (.binOp .lss 3 _ _ _) ?_; refine so_q (qt_lss rfl rfl) rfl ?_) | (refine so_is (.call ⟨.value (.func 170), _, _⟩) ?_; (apply so_callO0 (fid := 170); (· (repeat (first | exact SeA.nil | apply SeA.cons (.c (.d _))))); (· exact l1Own_p _ (by omega)); (· rfl); (· rfl))) | refine so_nil ?_ | refine sk_seq ?_ | refine sk_block ?_ | refine sk_exit rfl ?_ | refine sk_skip ?_ | refine sk_region ?_ | refine sk_if rfl (fun hc => ?_) (fun hc => ?_))
      all_goals first | (exfalso; omega) | skip
      (apply sk_ret; apply ret_eq; (· apply RetOK.t; (· (apply GvA.cons; (· exact .tmp _); (· (exact GvP.c (.row _ _ _ _ rfl (by ((simp; done))))))); (apply GvA.cons; (· exact .tmp _); (· (exact GvP.c (.row _ _ _ _ rfl (by ((simp; done))))))); (apply GvA.cons; (· exact .tmp _); (· exact GvP.c (.lit _))); (apply GvA.cons; (· exact .tmp _); (· exact GvP.c (.lit _))); exact GvA.nil); (· rfl); (· (decide))))
      simp [whenN, whenA]

end Go.Proofs.Ytefbiejoikpkmaa

namespace Go.Proofs.Ytefbiejoikpkmaa
open Go.RowKit
set_option linter.unusedSectionVars false
variable [Glb]
set_option maxRecDepth 10000
set_option maxHeartbeats 4000000
theorem MixBoxes1_p (x y : Nat) (n m : Int) (la lb : List (List Int)) (ha : boxB x y n la = true) (hb : boxB x y m lb = true) (i k p : Nat) (hi : i < x) (hk : k < y) (hp : p < 4) :
    PC Try.prog 218 [.c (dI i), .c (dI k), .c (dI ((p / 2 : Nat) : Int)), .c (dI ((p % 2 : Nat) : Int)), .c (.pt [dI x, dI y, dI n, eII la]), .c (.pt [dI x, dI y, dI m, eII lb])] (.p (.c (dI (bmixF la lb y i k p)))) := by
  have pa := at_p x y n la ha i k ((p / 2 : Nat) : Int) ((p % 2 : Nat) : Int) (by omega) (by omega) (by omega) (by omega) (by omega) (by omega) (by omega) (by omega)
  have pb := at_p x y m lb hb i k ((p / 2 : Nat) : Int) ((p % 2 : Nat) : Int) (by omega) (by omega) (by omega) (by omega) (by omega) (by omega) (by omega) (by omega)
  have e : 2 * ((p / 2 : Nat) : Int) + ((p % 2 : Nat) : Int) = (p : Int) := by omega
  rw [e] at pa pb
  have va := (box_at ha hi hk).1 p hp
  have vb := (box_at hb hi hk).1 p hp
  have na := (boxB_spec ha).n2
  have nb := (boxB_spec hb).n2
  obtain ⟨a, ha'⟩ : ∃ a, a = ((p / 2 : Nat) : Int) := ⟨_, rfl⟩
  obtain ⟨c, hc'⟩ : ∃ c, c = ((p % 2 : Nat) : Int) := ⟨_, rfl⟩
  rw [← ha', ← hc'] at pa pb ⊢
  clear e
  unfold bmixF
  refine pc_intro Try.func218 rfl rfl rfl (by kernel_rfl) rfl rfl ?_; intro _
  repeat' (first | (refine so_is (.assign _) ?_; (refine so_q (qt_asC rfl) rfl ?_)) | (refine so_is (.load 78 _) ?_; (refine so_q (qt_load_pts rfl (by kernel_rfl : tAgg _ 78 4 = true) (by simp)) rfl ?_)) | (refine so_is (.move _) ?_; (refine so_q (qt_mvC rfl) rfl ?_)) | (refine so_is (.binOp .add 3 _ _ _) ?_; refine so_q (qt_addI rfl rfl (by (omega))) rfl ?_) | (refine so_is (.call ⟨.value (.func 212), _, _⟩) ?_; (first | (apply so_call0 (fid := 212); (· (repeat (first | exact SeA.nil | apply SeA.cons (.c (.d _)) | (apply SeA.cons; (· (apply SeP.g; (repeat (first | exact SeL.nil | apply SeL.cons (.d _))))))))); (· exact pa); (· rfl)) | (apply so_call0 (fid := 212); (· (repeat (first | exact SeA.nil | apply SeA.cons (.c (.d _)) | (apply SeA.cons; (· (apply SeP.g; (repeat (first | exact SeL.nil | apply SeL.cons (.d _))))))))); (· exact pb); (· rfl)))) | refine so_nil ?_ | refine sk_seq ?_ | refine sk_region ?_ | refine sk_drawQ 1 (fun _ => false) (.step 0 true (.step 1 true (.step 2 true (.step 3 true (.step 4 true (.step 6 true (.step 7 true (.step 8 true (.step 9 true (.step 10 true (.step 5 false (.step 11 false (.step 12 true (.step 13 true .nil)))))))))))))) [(0, 16383, 16383, false), (0, 16383, 16383, true), (0, 16383, 16383, true), (0, 16383, 16383, true), (0, 16383, 16383, true), (31, 16352, 16383, false), (0, 16383, 16383, false), (0, 16383, 16383, true), (0, 16383, 16383, true), (0, 16383, 16383, true), (0, 16383, 16383, true), (2016, 14399, 16383, false), (2080, 14303, 16383, true), (8191, 12287, 16383, true)] (by kernel_rfl) (by kernel_rfl) ?_)
  (apply sk_ret; apply ret_eq; (· apply RetOK.p; (· (apply GvA.cons; (· exact .tmp _); (· exact GvP.c (.lit _))); exact GvA.nil); (· (decide))))
  rfl
theorem sameQuestions_p (x y n : Int) (la : List (List Int)) (x2 y2 m : Int) (lb : List (List Int)) : PC Try.prog 217 [.g [dI x, dI y, dI n, eII la], .g [dI x2, dI y2, dI m, eII lb]] (.p (.c (dB (sameB x y n la x2 y2 m lb)))) := by
  refine pc_intro Try.func217 rfl rfl rfl (by kernel_rfl) rfl rfl ?_; intro _
  repeat' (first | (refine so_is (.box 78 _) ?_; refine so_box rfl rfl ?_) | (refine so_is (.assign _) ?_; (refine so_q (qt_asC rfl) rfl ?_)) | (refine so_is (.load 78 _) ?_; (refine so_q (qt_load_boxs rfl rfl (by kernel_rfl : tAgg _ 78 4 = true) rfl) rfl ?_)) | (refine so_is (.move _) ?_; (refine so_q (qt_mvC rfl) rfl ?_)) | (refine so_is (.pick _ _ _) ?_; (refine so_q (qt_pkC rfl rfl) rfl ?_)) | (refine so_is (.fieldAddr 78 _ 0) ?_; (refine so_q (qt_fld_lp (off := 0) rfl (by kernel_rfl)) rfl ?_)) | (refine so_is (.load 3 _) ?_; (refine so_q (qt_load_box rfl rfl (by kernel_rfl) rfl) rfl ?_)) | (refine so_is (.binOp .eql 3 _ _ _) ?_; refine so_q (qt_eql rfl rfl) rfl ?_) | (refine so_is (.fieldAddr 78 _ 1) ?_; (refine so_q (qt_fld_lp (off := 1) rfl (by kernel_rfl)) rfl ?_)) | (refine so_is (.call ⟨.value (.func 176), _, _⟩) ?_; (apply so_call0 (fid := 176); (· (repeat (first | exact SeA.nil | (apply SeA.cons; (· (apply SeP.g; (repeat (first | exact SeL.nil | apply SeL.cons (.d _))))))))); (· exact IsBox_p _ _ _ _); (· rfl))) | refine so_nil ?_ | refine so_g_no rfl rfl rfl rfl ?_ | refine so_g_yes rfl rfl rfl rfl ?_ | refine so_g_if rfl rfl (fun hg => ?_) (fun hg => ?_) | refine so_g_b rfl rfl (fun hg => ?_) (fun hg => ?_) | refine sk_seq ?_ | refine sk_region ?_)
  all_goals (apply sk_ret; apply ret_eq; (· apply RetOK.p; (· (apply GvA.cons; (· exact .tmp _); (· exact GvP.c (.lit _))); exact GvA.nil); (· (decide))))
  all_goals simp_all [sameB]
theorem MixBoxes_p (x y n : Int) (la : List (List Int)) (x2 y2 m : Int) (lb : List (List Int)) : PC Try.prog 172 [.g [dI x, dI y, dI n, eII la], .g [dI x2, dI y2, dI m, eII lb]]
    (.t [.g [dI (whenN (bmixB x y n la x2 y2 m lb) x), dI (whenN (bmixB x y n la x2 y2 m lb) y), dI (whenN (bmixB x y n la x2 y2 m lb) (n + m)), eII (whenL (bmixB x y n la x2 y2 m lb) (bmixL la lb x y))], .c (dB (bmixB x y n la x2 y2 m lb))]) := by
  cases hs : sameB x y n la x2 y2 m lb with
  | false =>
    have hB : bmixB x y n la x2 y2 m lb = false := by simp [bmixB, hs]
    rw [hB]
    refine pc_intro Try.func172 rfl rfl rfl (by kernel_rfl) rfl rfl ?_; intro _
    repeat' (first | (refine so_is (.box 78 _) ?_; refine so_box rfl rfl ?_) | (refine so_is (.alloc 78) ?_; refine so_alloc (zs := [.int .i64 0, .int .i64 0, .int .i64 0, .slice none 0 0]) (by kernel_rfl) rfl ?_) | (refine so_is (.assign _) ?_; (refine so_q (qt_asC rfl) rfl ?_)) | (refine so_is (.load 78 _) ?_; (refine so_q (qt_load_boxs rfl rfl (by kernel_rfl : tAgg _ 78 4 = true) rfl) rfl ?_)) | (refine so_is (.unOp .not 4 _) ?_; refine so_q (qt_not rfl) rfl ?_) | (refine so_is (.move _) ?_; (refine so_q (qt_mvC rfl) rfl ?_)) | (refine so_is (.fieldAddr 78 _ 2) ?_; (refine so_q (qt_fld_lp (off := 2) rfl (by kernel_rfl)) rfl ?_)) | (refine so_is (.load 3 _) ?_; (refine so_q (qt_load_box rfl rfl (by kernel_rfl) rfl) rfl ?_)) | (refine so_is (.pick _ _ _) ?_; (refine so_q (qt_pkC rfl rfl) rfl ?_)) | (refine so_is (.build 78 _) ?_; refine so_q (qt_build (cs := [_, _, _, _]) [(0, 1), (1, 1), (2, 1), (3, 1)] [.int .i64 0, .int .i64 0, .int .i64 0, .slice none 0 0] (by kernel_rfl) (by kernel_rfl) rfl) rfl ?_) | (refine so_is (.store 78 _ _) ?_; (refine so_store_box rfl rfl rfl (by kernel_rfl) rfl rfl ?_)) | (refine so_is (.call ⟨.value (.func 217), _, _⟩) ?_; (apply so_call0 (fid := 217); (· (repeat (first | exact SeA.nil | (apply SeA.cons; (· (apply SeP.g; (repeat (first | exact SeL.nil | apply SeL.cons (.d _))))))))); (· exact sameQuestions_p _ _ _ _ _ _ _ _); (· rfl))) | refine so_nil ?_ | refine so_g_no rfl rfl rfl rfl ?_ | refine so_g_yes rfl rfl rfl rfl ?_ | refine so_g_b rfl rfl (fun hg => ?_) (fun hg => ?_) | refine sk_seq ?_ | refine sk_region ?_ | refine sk_true rfl ?_)
    all_goals first | (exfalso; simp_all; done) | skip
    all_goals (apply sk_ret; apply ret_eq; (· apply RetOK.t; (· (apply GvA.cons; (· (apply RV.cellN (n := 4); (· rfl); (· rfl); (· kernel_rfl); (· rfl))); (· (apply GvP.g; (· (apply GvL.cons (.lit _)); (apply GvL.cons (.lit _)); (apply GvL.cons (.lit _)); ((apply GvL.cons (.nil 1 (by decide)))); exact GvL.nil)))); (apply GvA.cons; (· exact .tmp _); (· exact GvP.c (.lit _))); exact GvA.nil); (· rfl); (· (decide))))
    all_goals simp [whenN, whenL]
  | true =>
    obtain ⟨ha, hb, rfl, rfl⟩ := sameB_spec hs
    have na := (boxB_spec ha).n2; have nb := (boxB_spec hb).n2; have na1 := (boxB_spec ha).n1; have nb1 := (boxB_spec hb).n1
    have hB : bmixB x2 y2 n la x2 y2 m lb = decide (n + m ≤ 1000) := by simp [bmixB, hs]
    rw [hB]
    obtain ⟨x, y, rfl, rfl, hx, hy⟩ := box_nat ha
    have nb := newBox_p x y (n + m) 218 [.pt [dI x, dI y, dI n, eII la], .pt [dI x, dI y, dI m, eII lb]] (bmixF la lb y) (by omega) (by omega) (fun i k p hi hk hp => MixBoxes1_p x y n m la lb ha hb i k p hi hk hp)
    by_cases h1 : n + m ≤ 1000
    · rw [decide_eq_true h1]
      refine pc_intro Try.func172 rfl rfl rfl (by kernel_rfl) rfl rfl ?_; intro _
      repeat' (first | (refine so_is (.box 78 _) ?_; refine so_box rfl rfl ?_) | (refine so_is (.alloc 78) ?_; refine so_alloc (zs := [.int .i64 0, .int .i64 0, .int .i64 0, .slice none 0 0]) (by kernel_rfl) rfl ?_) | (refine so_is (.assign _) ?_; (refine so_q (qt_asC rfl) rfl ?_)) | (refine so_is (.load 78 _) ?_; (refine so_q (qt_load_boxs rfl rfl (by kernel_rfl : tAgg _ 78 4 = true) rfl) rfl ?_)) | (refine so_is (.unOp .not 4 _) ?_; refine so_q (qt_not rfl) rfl ?_) | (refine so_is (.move _) ?_; (refine so_q (qt_mvC rfl) rfl ?_)) | (refine so_is (.fieldAddr 78 _ 2) ?_; (refine so_q (qt_fld_lp (off := 2) rfl (by kernel_rfl)) rfl ?_)) | (refine so_is (.load 3 _) ?_; (refine so_q (qt_load_box rfl rfl (by kernel_rfl) rfl) rfl ?_)) | (refine so_is (.binOp .add 3 _ _ _) ?_; refine so_q (qt_addI rfl rfl (by (omega))) rfl ?_) | (refine so_is (.binOp .gtr 3 _ _ _) ?_; refine so_q (qt_gtr rfl rfl) rfl ?_) | (refine so_is (.pick _ _ _) ?_; (refine so_q (qt_pkC rfl rfl) rfl ?_)) | (refine so_is (.build 78 _) ?_; refine so_q (qt_build (cs := [_, _, _, _]) [(0, 1), (1, 1), (2, 1), (3, 1)] [.int .i64 0, .int .i64 0, .int .i64 0, .slice none 0 0] (by kernel_rfl) (by kernel_rfl) rfl) rfl ?_) | (refine so_is (.store 78 _ _) ?_; (refine so_store_box rfl rfl rfl (by kernel_rfl) rfl rfl ?_)) | (refine so_is (.fieldAddr 78 _ 0) ?_; (refine so_q (qt_fld_lp (off := 0) rfl (by kernel_rfl)) rfl ?_)) | (refine so_is (.fieldAddr 78 _ 1) ?_; (refine so_q (qt_fld_lp (off := 1) rfl (by kernel_rfl)) rfl ?_)) | (refine so_is (.makeFunc _ _ _) ?_; (apply so_q; (· apply qt_makeFunc; (repeat (first | exact EvL.nil | (apply EvL.cons; (· rfl))))); (· rfl))) | (refine so_is (.call ⟨.value (.func 217), _, _⟩) ?_; ((apply so_call0 (fid := 217); (· (repeat (first | exact SeA.nil | (apply SeA.cons; (· (apply SeP.g; (repeat (first | exact SeL.nil | apply SeL.cons (.d _))))))))); (· exact sameQuestions_p _ _ _ _ _ _ _ _); (· rfl)))) | (refine so_is (.call ⟨.value (.func 210), _, _⟩) ?_; (apply so_callO0 (fid := 210); (· (repeat (first | exact SeA.nil | apply SeA.cons (.c (.d _)) | (apply SeA.cons; (· (apply SeP.c; apply Se.fn; (repeat (first | exact SeL.nil | (apply SeL.cons; (· apply Se.pt; (· rfl); (· rfl); (· (repeat (first | exact SeL.nil | apply SeL.cons (.d _)))))))))))))); (· exact nb); (· rfl); (· rfl))) | refine so_nil ?_ | refine so_g_no rfl rfl rfl rfl ?_ | refine so_g_yes rfl rfl rfl rfl ?_ | refine so_g_b rfl rfl (fun hg => ?_) (fun hg => ?_) | refine sk_seq ?_ | refine sk_skip ?_ | refine sk_region ?_ | refine sk_true rfl ?_ | refine sk_if rfl (fun hc => ?_) (fun hc => ?_))
      all_goals first | (exfalso; omega) | (exfalso; simp_all; done) | skip
      all_goals (apply sk_ret; apply ret_eq; (· apply RetOK.t; (· (apply GvA.cons; (· (apply RV.cellN (n := 4); (· rfl); (· rfl); (· kernel_rfl); (· rfl))); (· (apply GvP.g; (· (apply GvL.cons (.lit _)); (apply GvL.cons (.lit _)); (apply GvL.cons (.lit _)); ((apply GvL.cons (.row _ _ _ _ rfl (by ((simp; done)))))); exact GvL.nil)))); (apply GvA.cons; (· exact .tmp _); (· exact GvP.c (.lit _))); exact GvA.nil); (· rfl); (· (decide))))
      all_goals simp [whenN, whenL, bmixL]
    · rw [decide_eq_false h1]
      refine pc_intro Try.func172 rfl rfl rfl (by kernel_rfl) rfl rfl ?_; intro _
      repeat' (first | (refine so_is (.box 78 _) ?_; refine so_box rfl rfl ?_) | (refine so_is (.alloc 78) ?_; refine so_alloc (zs := [.int .i64 0, .int .i64 0, .int .i64 0, .slice none 0 0]) (by kernel_rfl) rfl ?_) | (refine so_is (.assign _) ?_; (refine so_q (qt_asC rfl) rfl ?_)) | (refine so_is (.load 78 _) ?_; (refine so_q (qt_load_boxs rfl rfl (by kernel_rfl : tAgg _ 78 4 = true) rfl) rfl ?_)) | (refine so_is (.unOp .not 4 _) ?_; refine so_q (qt_not rfl) rfl ?_) | (refine so_is (.move _) ?_; (refine so_q (qt_mvC rfl) rfl ?_)) | (refine so_is (.fieldAddr 78 _ 2) ?_; (refine so_q (qt_fld_lp (off := 2) rfl (by kernel_rfl)) rfl ?_)) | (refine so_is (.load 3 _) ?_; (refine so_q (qt_load_box rfl rfl (by kernel_rfl) rfl) rfl ?_)) | (refine so_is (.binOp .add 3 _ _ _) ?_; refine so_q (qt_addI rfl rfl (by (omega))) rfl ?_) | (refine so_is (.binOp .gtr 3 _ _ _) ?_; refine so_q (qt_gtr rfl rfl) rfl ?_) | (refine so_is (.pick _ _ _) ?_; (refine so_q (qt_pkC rfl rfl) rfl ?_)) | (refine so_is (.build 78 _) ?_; refine so_q (qt_build (cs := [_, _, _, _]) [(0, 1), (1, 1), (2, 1), (3, 1)] [.int .i64 0, .int .i64 0, .int .i64 0, .slice none 0 0] (by kernel_rfl) (by kernel_rfl) rfl) rfl ?_) | (refine so_is (.store 78 _ _) ?_; (refine so_store_box rfl rfl rfl (by kernel_rfl) rfl rfl ?_)) | (refine so_is (.fieldAddr 78 _ 0) ?_; (refine so_q (qt_fld_lp (off := 0) rfl (by kernel_rfl)) rfl ?_)) | (refine so_is (.fieldAddr 78 _ 1) ?_; (refine so_q (qt_fld_lp (off := 1) rfl (by kernel_rfl)) rfl ?_)) | (refine so_is (.makeFunc _ _ _) ?_; (apply so_q; (· apply qt_makeFunc; (repeat (first | exact EvL.nil | (apply EvL.cons; (· rfl))))); (· rfl))) | (refine so_is (.call ⟨.value (.func 217), _, _⟩) ?_; ((apply so_call0 (fid := 217); (· (repeat (first | exact SeA.nil | (apply SeA.cons; (· (apply SeP.g; (repeat (first | exact SeL.nil | apply SeL.cons (.d _))))))))); (· exact sameQuestions_p _ _ _ _ _ _ _ _); (· rfl)))) | (refine so_is (.call ⟨.value (.func 210), _, _⟩) ?_; (apply so_callO0 (fid := 210); (· (repeat (first | exact SeA.nil | apply SeA.cons (.c (.d _)) | (apply SeA.cons; (· (apply SeP.c; apply Se.fn; (repeat (first | exact SeL.nil | (apply SeL.cons; (· apply Se.pt; (· rfl); (· rfl); (· (repeat (first | exact SeL.nil | apply SeL.cons (.d _)))))))))))))); (· exact nb); (· rfl); (· rfl))) | refine so_nil ?_ | refine so_g_no rfl rfl rfl rfl ?_ | refine so_g_yes rfl rfl rfl rfl ?_ | refine so_g_b rfl rfl (fun hg => ?_) (fun hg => ?_) | refine sk_seq ?_ | refine sk_skip ?_ | refine sk_region ?_ | refine sk_true rfl ?_ | refine sk_if rfl (fun hc => ?_) (fun hc => ?_))
      all_goals first | (exfalso; omega) | (exfalso; simp_all; done) | skip
      all_goals (apply sk_ret; apply ret_eq; (· apply RetOK.t; (· (apply GvA.cons; (· (apply RV.cellN (n := 4); (· rfl); (· rfl); (· kernel_rfl); (· rfl))); (· (apply GvP.g; (· (apply GvL.cons (.lit _)); (apply GvL.cons (.lit _)); (apply GvL.cons (.lit _)); ((apply GvL.cons (.nil 1 (by decide)))); exact GvL.nil)))); (apply GvA.cons; (· exact .tmp _); (· exact GvP.c (.lit _))); exact GvA.nil); (· rfl); (· (decide))))
      all_goals simp [whenN, whenL]

end Go.Proofs.Ytefbiejoikpkmaa

namespace Go.Proofs.Ytefbiejoikpkmaa
open Go.RowKit
set_option linter.unusedSectionVars false
variable [Glb]
set_option maxRecDepth 10000
set_option maxHeartbeats 4000000
theorem MixWirings_p (xa ya na : Int) (la : List (List Int)) (xb yb nb : Int) (lb : List (List Int)) (l1 l2 : List RuleE) : PC Try.prog 75 [.g [dI xa, dI ya, dI na, eII la], .g [dI xb, dI yb, dI nb, eII lb], .c (eU l1), .c (eU l2)]
    (.t [.g [dI (whenN (mwB xa ya na la xb yb nb lb l1 l2) 2), dI (whenN (mwB xa ya na la xb yb nb lb l1 l2) 2), dI (whenN (mwB xa ya na la xb yb nb lb l1 l2) (mwN (na * nb) l1.length)), eII (whenL (mwB xa ya na la xb yb nb lb l1 l2) (mwL la lb l1 l2 l1.length))], .c (dB (mwB xa ya na la xb yb nb lb l1 l2))]) := by
  by_cases h0 : 0 < l1.length ∧ l1.length = l2.length
  · obtain ⟨h0, h12⟩ := h0
    have hB : mwB xa ya na la xb yb nb lb l1 l2 = mwOK xa ya na la xb yb nb lb l1 l2 l1.length := by rw [mwB, decide_eq_true h0, decide_eq_true h12]; rfl
    rw [hB]
    obtain ⟨W, hW⟩ : ∃ W, W = na * nb := ⟨_, rfl⟩
    rw [← hW]
    refine pc_intro Try.func75 rfl rfl rfl (by kernel_rfl) rfl rfl ?_; rintro ⟨-, -, hf, -⟩
    have hf := hf.len
    repeat' (first | (refine so_is (.box 78 _) ?_; refine so_box rfl rfl ?_) | (refine so_is (.alloc 78) ?_; refine so_alloc (zs := [.int .i64 0, .int .i64 0, .int .i64 0, .slice none 0 0]) (by kernel_rfl) rfl ?_) | (refine so_is (.assign _) ?_; (refine so_q (qt_asC rfl) rfl ?_)) | (refine so_is (.move _) ?_; (refine so_q (qt_mvC rfl) rfl ?_)) | (refine so_is (.call ⟨.builtin .len, _, #[91]⟩) ?_; (refine so_q (qt_len_d rfl (by kernel_rfl)) rfl ?_)) | (refine so_is (.binOp .eql 3 _ _ _) ?_; refine so_q (qt_eql rfl rfl) rfl ?_) | (refine so_is (.binOp .neq 3 _ _ _) ?_; refine so_q (qt_neq rfl rfl) rfl ?_) | (refine so_is (.pick _ _ _) ?_; (refine so_q (qt_pkC rfl rfl) rfl ?_)) | (refine so_is (.build 78 _) ?_; refine so_q (qt_build (cs := [_, _, _, _]) [(0, 1), (1, 1), (2, 1), (3, 1)] [.int .i64 0, .int .i64 0, .int .i64 0, .slice none 0 0] (by kernel_rfl) (by kernel_rfl) rfl) rfl ?_) | (refine so_is (.store 78 _ _) ?_; (refine so_store_box rfl rfl rfl (by kernel_rfl) rfl rfl ?_)) | refine so_nil ?_ | refine so_g_no rfl rfl rfl rfl ?_ | refine so_g_yes rfl rfl rfl rfl ?_ | refine so_g_if rfl rfl (fun hg => ?_) (fun hg => ?_) | refine sk_seq ?_ | refine sk_block ?_ | refine sk_skip ?_ | refine sk_region ?_ | refine sk_true rfl ?_ | refine sk_if rfl (fun hc => ?_) (fun hc => ?_))
    all_goals first | (exfalso; omega) | skip
    refine sk_ghost (sim_nil_box 10 3 3000 1 rfl (by decide) rfl rfl rfl) ?_
    apply sk_packC [3, 4, 5, 8, 10, 27, 28, 29] [4, 5, 8, 10, 12, 13, 3000, 3042, 3053] rfl; (· (repeat (first | exact Pf.nil | apply Pf.cons (.c rfl (.d rfl)) | apply Pf.cons (.c rfl (.lp rfl))))); (· (repeat (first | exact Pb.nil | apply Pb.cons (.row rfl) | (apply Pb.cons; (· apply Nb.box rfl; (repeat (first | exact Ncs.nil rfl | (apply Ncs.cons rfl; (· (first | exact .d rfl | exact .ls rfl))))))) | apply Pb.skip)))
    refine sk_loopL [3, 4, 5, 8, 10, 27, 28] [4, 5, 8, 12, 3042, 13, 3053] (fun (j : Nat) => [(29, iN j)]) (fun j => [(10, .box [.d (dI (q2 j)), .d (dI (q2 j)), .d (dI (mwN W j)), .ls 3000 1 0 (mwL la lb l1 l2 j).length]), (3000, .row 1 (cII (mwL la lb l1 l2 j)))]) (fun j => j ≤ l1.length ∧ mwOK xa ya na la xb yb nb lb l1 l2 j = true) (fun j => l1.length - j) (0) ?_ (by (repeat (first | exact trivial | refine ⟨(by (rfl)), ?_⟩))) (by (repeat (first | exact trivial | refine ⟨(by (first | (refine row_eq rfl ?_; simp  [mwN, mwL]; done) | rfl)), ?_⟩))) ?_
    · exact ⟨Nat.zero_le _, rfl⟩
    rintro j ⟨hj, hok⟩
    by_cases hj2 : j < l1.length
    · have wp := wire_p xa ya na la xb yb nb lb (atZ l1 (j : Int)).1 (atZ l1 (j : Int)).2.1 (atZ l1 (j : Int)).2.2.1 (atZ l2 (j : Int)).1 (atZ l2 (j : Int)).2.1 (atZ l2 (j : Int)).2.2.1
      cases hw : wirOK xa ya na la xb yb nb lb (atZ l1 (j : Int)) (atZ l2 (j : Int)) with
      | false =>
        have hno := mwOK_no (l1 := l1) (l2 := l2) (m := l1.length) hj2 (.inl hw)
        have hw' := hw
        unfold wirOK at hw'
        rw [hw'] at wp
        repeat' (first | (with_reducible apply so_lt) | intro Y hY | ((with_reducible apply so_j2); (· assumption); (· rfl); (· exact (by (repeat (first | exact trivial | refine ⟨rfl, ?_⟩)))); (· exact (by (repeat (first | exact trivial | refine ⟨rfl, ?_⟩))))) | ((with_reducible apply so_j1); (· rfl); (· (repeat (first | exact Pf.nil | apply Pf.cons (.c rfl (.d rfl)) | apply Pf.cons (.c rfl (.lp rfl)) | (apply Pf.cons; (· apply Nv.g rfl; (repeat (first | exact Ncs.nil rfl | (apply Ncs.cons rfl; (· (first | exact .d rfl | exact .ls rfl))))))) | apply Pf.skip))); (· (repeat (first | exact Pb.nil | apply Pb.cons (.row rfl) | (apply Pb.cons; (· apply Nb.box rfl; (repeat (first | exact Ncs.nil rfl | (apply Ncs.cons rfl; (· (first | exact .d rfl | exact .ls rfl)))))))))); (· assumption)) | refine so_alt ?_ ?_ | (refine so_is (.alloc 78) ?_; refine so_alloc (zs := [.int .i64 0, .int .i64 0, .int .i64 0, .slice none 0 0]) (by kernel_rfl) rfl ?_) | (refine so_is (.assign _) ?_; (refine so_q (qt_asC rfl) rfl ?_)) | (refine so_is (.move _) ?_; (first | refine so_q (qt_mvC rfl) rfl ?_ | refine so_q (qt_mvT rfl) rfl ?_)) | (refine so_is (.pick _ _ _) ?_; (refine so_q (qt_pkC rfl rfl) rfl ?_)) | (refine so_is (.build 78 _) ?_; refine so_q (qt_build (cs := [_, _, _, _]) [(0, 1), (1, 1), (2, 1), (3, 1)] [.int .i64 0, .int .i64 0, .int .i64 0, .slice none 0 0] (by kernel_rfl) (by kernel_rfl) rfl) rfl ?_) | (refine so_is (.store 78 _ _) ?_; (refine so_store_box rfl rfl rfl (by kernel_rfl) rfl rfl ?_)) | (refine so_is (.binOp .lss 3 _ _ _) ?_; refine so_q (qt_lss rfl rfl) rfl ?_) | (refine so_is (.indexAddr 91 _ _) ?_; (refine so_q (qt_idxU rfl rfl (by kernel_rfl) (by (omega)) (by (omega))) rfl ?_)) | (refine so_is (.load 96 _) ?_; (first | refine so_q (qt_load_boxs rfl rfl (by kernel_rfl : tAgg _ 96 3 = true) rfl) rfl ?_ | refine so_q (qt_load_pts rfl (by kernel_rfl : tAgg _ 96 3 = true) (by simp)) rfl ?_)) | (refine so_is (.alloc 96) ?_; refine so_alloc (zs := [.slice none 0 0, .slice none 0 0, .slice none 0 0]) (by kernel_rfl) rfl ?_) | (refine so_is (.store 96 _ _) ?_; (refine so_store_box rfl rfl rfl (by kernel_rfl) rfl rfl ?_)) | (refine so_is (.load 78 _) ?_; (refine so_q (qt_load_boxs rfl rfl (by kernel_rfl : tAgg _ 78 4 = true) rfl) rfl ?_)) | (refine so_is (.extract _ _) ?_; refine so_q (qt_extract rfl rfl) rfl ?_) | (refine so_is (.unOp .not 4 _) ?_; refine so_q (qt_not rfl) rfl ?_) | (refine so_is (.call ⟨.value (.func 154), _, _⟩) ?_; (apply so_callO0 (fid := 154); (· (repeat (first | exact SeA.nil | (apply SeA.cons; (· (apply SeP.g; (repeat (first | exact SeL.nil | apply SeL.cons (.d _))))))))); (· exact wp); (· rfl); (· rfl))) | refine so_nil ?_ | refine so_g_no rfl rfl rfl rfl ?_ | refine sk_seq ?_ | refine sk_block ?_ | refine sk_exit rfl ?_ | refine sk_skip ?_ | refine sk_region ?_ | refine sk_drawQ 7 (fun i => i == 12) (IT.lt (.step 12 false (.step 13 true .nil)) fun Y0 => (.step 0 true (.step 1 true (.step 2 true (.step 3 true (.step 4 true (.step 5 true (.step 6 true (.alt 7 (.step 7 false (.step 8 true (.step 9 true (.step 10 true (.step 11 false (IT.ref true [3, 4, 5, 8, 10, 11, 13, 14, 27, 28, 29, 43, 44] [4, 5, 8, 10, 12, 3042, 13, 3000] Y0)))))) (.step 11 false (.step 7 false (.step 8 true (.step 9 true (.step 10 true (IT.ref false [3, 4, 5, 8, 10, 11, 13, 14, 27, 28, 29, 43, 44] [4, 5, 8, 10, 12, 3042, 13, 3000] Y0))))))))))))))) [(0, 16383, 16383, false), (0, 16383, 16383, false), (0, 16383, 16383, false), (0, 16383, 16383, true), (0, 16383, 16383, true), (24, 16359, 16383, true), (32, 16351, 16383, false), (71, 16312, 16383, false), (128, 16255, 16383, true), (256, 16127, 16383, true), (256, 16127, 12287, true), (0, 16383, 16383, false), (3071, 13823, 16383, false), (8191, 15359, 12287, true)] (by kernel_rfl) (by kernel_rfl) ?_ | refine sk_true rfl ?_ | refine sk_false rfl ?_ | refine sk_if rfl (fun hc => ?_) (fun hc => ?_))
        all_goals first | (exfalso; omega) | (exfalso; simp_all; done) | skip
        all_goals (apply sk_ret; apply ret_eq; (· apply RetOK.t; (· (apply GvA.cons; (· (apply RV.cellN (n := 4); (· rfl); (· rfl); (· kernel_rfl); (· rfl))); (· (apply GvP.g; (· (apply GvL.cons (.lit _)); (apply GvL.cons (.lit _)); (apply GvL.cons (.lit _)); ((apply GvL.cons (.nil 1 (by decide)))); exact GvL.nil)))); (apply GvA.cons; (· exact .tmp _); (· exact GvP.c (.lit _))); exact GvA.nil); (· rfl); (· (decide))))
        all_goals (rw [hno]; simp [whenN, whenL])
      | true =>
        obtain ⟨s1, s2, s3, s4, s5, s6, s7, s8, s9⟩ := wirOK_spec hw
        have hw' := hw
        unfold wirOK at hw'
        rw [hw'] at wp
        have bd := mw_bd hok
        rw [← hW] at wp s7 s8 bd
        replace wp : PC Try.prog 154 [.g [dI xa, dI ya, dI na, eII la], .g [dI xb, dI yb, dI nb, eII lb], .g [eI (atZ l1 (j : Int)).1, eII (atZ l1 (j : Int)).2.1, eII (atZ l1 (j : Int)).2.2.1], .g [eI (atZ l2 (j : Int)).1, eII (atZ l2 (j : Int)).2.1, eII (atZ l2 (j : Int)).2.2.1]] (.t [.g [dI 2, dI 2, dI W, eII (wirR la lb (atZ l1 (j : Int)) (atZ l2 (j : Int)))], .c (dB true)]) := wp
        cases j with
        | zero =>
          have hgo := mwOK_step hok hw (by rw [mwN_one, ← hW]; omega)
          repeat' (first | (with_reducible apply so_lt) | intro Y hY | ((with_reducible apply so_j2); (· assumption); (· rfl); (· exact (by (repeat (first | exact trivial | refine ⟨rfl, ?_⟩)))); (· exact (by (repeat (first | exact trivial | refine ⟨rfl, ?_⟩))))) | ((with_reducible apply so_j1); (· rfl); (· (repeat (first | exact Pf.nil | apply Pf.cons (.c rfl (.d rfl)) | apply Pf.cons (.c rfl (.lp rfl)) | (apply Pf.cons; (· apply Nv.g rfl; (repeat (first | exact Ncs.nil rfl | (apply Ncs.cons rfl; (· (first | exact .d rfl | exact .ls rfl))))))) | apply Pf.skip))); (· (repeat (first | exact Pb.nil | apply Pb.cons (.row rfl) | (apply Pb.cons; (· apply Nb.box rfl; (repeat (first | exact Ncs.nil rfl | (apply Ncs.cons rfl; (· (first | exact .d rfl | exact .ls rfl)))))))))); (· assumption)) | refine so_alt ?_ ?_ | (refine so_is (.alloc 78) ?_; refine so_alloc (zs := [.int .i64 0, .int .i64 0, .int .i64 0, .slice none 0 0]) (by kernel_rfl) rfl ?_) | (refine so_is (.assign _) ?_; (refine so_q (qt_asC rfl) rfl ?_)) | (refine so_is (.move _) ?_; (first | refine so_q (qt_mvC rfl) rfl ?_ | refine so_q (qt_mvT rfl) rfl ?_)) | (refine so_is (.pick _ _ _) ?_; (refine so_q (qt_pkC rfl rfl) rfl ?_)) | (refine so_is (.store 78 _ _) ?_; (refine so_store_box rfl rfl rfl (by kernel_rfl) rfl rfl ?_)) | (refine so_is (.binOp .lss 3 _ _ _) ?_; refine so_q (qt_lss rfl rfl) rfl ?_) | (refine so_is (.indexAddr 91 _ _) ?_; (refine so_q (qt_idxU rfl rfl (by kernel_rfl) (by (omega)) (by (omega))) rfl ?_)) | (refine so_is (.load 96 _) ?_; (first | refine so_q (qt_load_boxs rfl rfl (by kernel_rfl : tAgg _ 96 3 = true) rfl) rfl ?_ | refine so_q (qt_load_pts rfl (by kernel_rfl : tAgg _ 96 3 = true) (by simp)) rfl ?_)) | (refine so_is (.alloc 96) ?_; refine so_alloc (zs := [.slice none 0 0, .slice none 0 0, .slice none 0 0]) (by kernel_rfl) rfl ?_) | (refine so_is (.store 96 _ _) ?_; (refine so_store_box rfl rfl rfl (by kernel_rfl) rfl rfl ?_)) | (refine so_is (.load 78 _) ?_; (refine so_q (qt_load_boxs rfl rfl (by kernel_rfl : tAgg _ 78 4 = true) rfl) rfl ?_)) | (refine so_is (.extract _ _) ?_; refine so_q (qt_extract rfl rfl) rfl ?_) | (refine so_is (.binOp .gtr 3 _ _ _) ?_; refine so_q (qt_gtr rfl rfl) rfl ?_) | (refine so_is (.unOp .not 4 _) ?_; refine so_q (qt_not rfl) rfl ?_) | (refine so_is (.call ⟨.value (.func 154), _, _⟩) ?_; (apply so_callO0 (fid := 154); (· (repeat (first | exact SeA.nil | (apply SeA.cons; (· (apply SeP.g; (repeat (first | exact SeL.nil | apply SeL.cons (.d _))))))))); (· exact wp); (· rfl); (· rfl))) | refine so_nil ?_ | refine so_g_yes rfl rfl rfl rfl ?_ | refine sk_seq ?_ | refine sk_block ?_ | refine sk_blk ?_ | refine sk_exit rfl ?_ | refine sk_skip ?_ | refine sk_region (id := 5) ?_ | refine sk_region (id := 6) ?_ | refine sk_drawQ 7 (fun i => i == 12) (IT.lt (.step 12 false (.step 13 true .nil)) fun Y0 => (.step 0 true (.step 1 true (.step 2 true (.step 3 true (.step 4 true (.step 5 true (.step 6 true (.alt 7 (.step 7 false (.step 8 true (.step 9 true (.step 10 true (.step 11 false (IT.ref true [3, 4, 5, 8, 10, 11, 13, 14, 27, 28, 29, 43, 44] [4, 5, 8, 10, 12, 3042, 13, 3000] Y0)))))) (.step 11 false (.step 7 false (.step 8 true (.step 9 true (.step 10 true (IT.ref false [3, 4, 5, 8, 10, 11, 13, 14, 27, 28, 29, 43, 44] [4, 5, 8, 10, 12, 3042, 13, 3000] Y0))))))))))))))) [(0, 16383, 16383, false), (0, 16383, 16383, false), (0, 16383, 16383, false), (0, 16383, 16383, true), (0, 16383, 16383, true), (24, 16359, 16383, true), (32, 16351, 16383, false), (71, 16312, 16383, false), (128, 16255, 16383, true), (256, 16127, 16383, true), (256, 16127, 12287, true), (0, 16383, 16383, false), (3071, 13823, 16383, false), (8191, 15359, 12287, true)] (by kernel_rfl) (by kernel_rfl) ?_ | refine sk_region (id := 8) ?_ | refine sk_region (id := 10) ?_ | refine sk_region (id := 12) ?_ | refine sk_region (id := 14) ?_ | refine sk_false rfl ?_ | refine sk_if rfl (fun hc => ?_) (fun hc => ?_))
          all_goals first | (exfalso; omega) | (exfalso; simp_all; done) | skip
          refine sk_ghost (sim_forget 3000) ?_
          refine sk_ghost (sim_ren 3042 3000 rfl rfl rfl rfl) ?_
          repeat' (first | (refine so_is (.move _) ?_; (refine so_q (qt_mvC rfl) rfl ?_)) | (refine so_is (.binOp .add 3 _ _ _) ?_; refine so_q (qt_addI rfl rfl (by (omega))) rfl ?_) | refine so_nil ?_ | refine sk_region ?_)
          refine sk_back ?_; refine ⟨1, ?_, ?_, le_at rfl (by (repeat (first | exact trivial | refine ⟨(by (rfl)), ?_⟩))) (by (repeat (first | exact trivial | refine ⟨rfl, ?_⟩))) (by (repeat (first | exact trivial | refine ⟨(by (rfl)), ?_⟩))) (by (repeat (first | exact trivial | refine ⟨.inr rfl, ?_⟩ | refine ⟨.inl rfl, ?_⟩)))⟩
          · exact ⟨by omega, hgo⟩
          · omega
        | succ j =>
          have hbx := mw_box hok
          rw [← hW] at hbx
          have mb := MixBoxes_p 2 2 (mwN W (j + 1)) (mwL la lb l1 l2 (j + 1)) 2 2 W (wirR la lb (atZ l1 ((j + 1 : Nat) : Int)) (atZ l2 ((j + 1 : Nat) : Int)))
          rw [bmix_ok hbx s8] at mb
          by_cases hle : mwN W (j + 1) + W ≤ 1000
          · rw [decide_eq_true hle] at mb
            replace mb : PC Try.prog 172 [.g [dI 2, dI 2, dI (mwN W (j + 1)), eII (mwL la lb l1 l2 (j + 1))], .g [dI 2, dI 2, dI W, eII (wirR la lb (atZ l1 ((j + 1 : Nat) : Int)) (atZ l2 ((j + 1 : Nat) : Int)))]] (.t [.g [dI 2, dI 2, dI (mwN W (j + 1 + 1)), eII (mwL la lb l1 l2 (j + 1 + 1))], .c (dB true)]) := mb
            have hgo := mwOK_step hok hw (by rw [← hW]; exact hle)
            repeat' (first | (with_reducible apply so_lt) | intro Y hY | ((with_reducible apply so_j2); (· assumption); (· rfl); (· exact (by (repeat (first | exact trivial | refine ⟨rfl, ?_⟩)))); (· exact (by (repeat (first | exact trivial | refine ⟨rfl, ?_⟩))))) | ((with_reducible apply so_j1); (· rfl); (· (repeat (first | exact Pf.nil | apply Pf.cons (.c rfl (.d rfl)) | apply Pf.cons (.c rfl (.lp rfl)) | (apply Pf.cons; (· apply Nv.g rfl; (repeat (first | exact Ncs.nil rfl | (apply Ncs.cons rfl; (· (first | exact .d rfl | exact .ls rfl))))))) | apply Pf.skip))); (· (repeat (first | exact Pb.nil | apply Pb.cons (.row rfl) | (apply Pb.cons; (· apply Nb.box rfl; (repeat (first | exact Ncs.nil rfl | (apply Ncs.cons rfl; (· (first | exact .d rfl | exact .ls rfl)))))))))); (· assumption)) | refine so_alt ?_ ?_ | (refine so_is (.alloc 78) ?_; refine so_alloc (zs := [.int .i64 0, .int .i64 0, .int .i64 0, .slice none 0 0]) (by kernel_rfl) rfl ?_) | (refine so_is (.assign _) ?_; (refine so_q (qt_asC rfl) rfl ?_)) | (refine so_is (.move _) ?_; (first | refine so_q (qt_mvC rfl) rfl ?_ | refine so_q (qt_mvT rfl) rfl ?_)) | (refine so_is (.pick _ _ _) ?_; (refine so_q (qt_pkC rfl rfl) rfl ?_)) | (refine so_is (.store 78 _ _) ?_; (refine so_store_box rfl rfl rfl (by kernel_rfl) rfl rfl ?_)) | (refine so_is (.binOp .lss 3 _ _ _) ?_; refine so_q (qt_lss rfl rfl) rfl ?_) | (refine so_is (.indexAddr 91 _ _) ?_; (refine so_q (qt_idxU rfl rfl (by kernel_rfl) (by (omega)) (by (omega))) rfl ?_)) | (refine so_is (.load 96 _) ?_; (first | refine so_q (qt_load_boxs rfl rfl (by kernel_rfl : tAgg _ 96 3 = true) rfl) rfl ?_ | refine so_q (qt_load_pts rfl (by kernel_rfl : tAgg _ 96 3 = true) (by simp)) rfl ?_)) | (refine so_is (.alloc 96) ?_; refine so_alloc (zs := [.slice none 0 0, .slice none 0 0, .slice none 0 0]) (by kernel_rfl) rfl ?_) | (refine so_is (.store 96 _ _) ?_; (refine so_store_box rfl rfl rfl (by kernel_rfl) rfl rfl ?_)) | (refine so_is (.load 78 _) ?_; (refine so_q (qt_load_boxs rfl rfl (by kernel_rfl : tAgg _ 78 4 = true) rfl) rfl ?_)) | (refine so_is (.extract _ _) ?_; refine so_q (qt_extract rfl rfl) rfl ?_) | (refine so_is (.binOp .gtr 3 _ _ _) ?_; refine so_q (qt_gtr rfl rfl) rfl ?_) | (refine so_is (.unOp .not 4 _) ?_; refine so_q (qt_not rfl) rfl ?_) | (refine so_is (.call ⟨.value (.func 154), _, _⟩) ?_; ((apply so_callO0 (fid := 154); (· (repeat (first | exact SeA.nil | (apply SeA.cons; (· (apply SeP.g; (repeat (first | exact SeL.nil | apply SeL.cons (.d _))))))))); (· exact wp); (· rfl); (· rfl)))) | (refine so_is (.call ⟨.value (.func 172), _, _⟩) ?_; ((apply so_callO0 (fid := 172); (· (repeat (first | exact SeA.nil | (apply SeA.cons; (· (apply SeP.g; (repeat (first | exact SeL.nil | apply SeL.cons (.d _) | apply SeL.cons (.all _ _ _ _ rfl (by ((simp; done)))))))))))); (· exact mb); (· rfl); (· rfl)))) | refine so_nil ?_ | refine so_g_yes rfl rfl rfl rfl ?_ | refine sk_seq ?_ | refine sk_block ?_ | refine sk_blk ?_ | refine sk_exit rfl ?_ | refine sk_skip ?_ | refine sk_region (id := 5) ?_ | refine sk_region (id := 6) ?_ | refine sk_drawQ 7 (fun i => i == 12) (IT.lt (.step 12 false (.step 13 true .nil)) fun Y0 => (.step 0 true (.step 1 true (.step 2 true (.step 3 true (.step 4 true (.step 5 true (.step 6 true (.alt 7 (.step 7 false (.step 8 true (.step 9 true (.step 10 true (.step 11 false (IT.ref true [3, 4, 5, 8, 10, 11, 13, 14, 27, 28, 29, 43, 44] [4, 5, 8, 10, 12, 3042, 13, 3000] Y0)))))) (.step 11 false (.step 7 false (.step 8 true (.step 9 true (.step 10 true (IT.ref false [3, 4, 5, 8, 10, 11, 13, 14, 27, 28, 29, 43, 44] [4, 5, 8, 10, 12, 3042, 13, 3000] Y0))))))))))))))) [(0, 16383, 16383, false), (0, 16383, 16383, false), (0, 16383, 16383, false), (0, 16383, 16383, true), (0, 16383, 16383, true), (24, 16359, 16383, true), (32, 16351, 16383, false), (71, 16312, 16383, false), (128, 16255, 16383, true), (256, 16127, 16383, true), (256, 16127, 12287, true), (0, 16383, 16383, false), (3071, 13823, 16383, false), (8191, 15359, 12287, true)] (by kernel_rfl) (by kernel_rfl) ?_ | refine sk_region (id := 8) ?_ | refine sk_region (id := 9) ?_ | refine sk_region (id := 10) ?_ | refine sk_region (id := 12) ?_ | refine sk_region (id := 14) ?_ | refine sk_false rfl ?_ | refine sk_if rfl (fun hc => ?_) (fun hc => ?_))
            all_goals first | (exfalso; omega) | (exfalso; simp_all; done) | skip
            refine sk_ghost (sim_forget 3000) ?_
            refine sk_ghost (sim_ren 3053 3000 rfl rfl rfl rfl) ?_
            repeat' (first | (refine so_is (.move _) ?_; (refine so_q (qt_mvC rfl) rfl ?_)) | (refine so_is (.binOp .add 3 _ _ _) ?_; refine so_q (qt_addI rfl rfl (by (omega))) rfl ?_) | refine so_nil ?_ | refine sk_region ?_)
            refine sk_back ?_; refine ⟨j + 1 + 1, ?_, ?_, le_at rfl (by (repeat (first | exact trivial | refine ⟨(by (rfl)), ?_⟩))) (by (repeat (first | exact trivial | refine ⟨rfl, ?_⟩))) (by (repeat (first | exact trivial | refine ⟨(by (first | (refine row_eq rfl ?_; simp  [mwL, mwN, q2, whenN, whenL]; done) | rfl)), ?_⟩))) (by (repeat (first | exact trivial | refine ⟨.inr rfl, ?_⟩ | refine ⟨.inl rfl, ?_⟩)))⟩
            · exact ⟨by omega, hgo⟩
            · omega
          · rw [decide_eq_false hle] at mb
            have hno := mwOK_no (xa := xa) (ya := ya) (na := na) (la := la) (xb := xb) (yb := yb) (nb := nb) (lb := lb) (l1 := l1) (l2 := l2) (m := l1.length) hj2 (.inr (by rw [← hW]; exact hle))
            repeat' (first | (with_reducible apply so_lt) | intro Y hY | ((with_reducible apply so_j2); (· assumption); (· rfl); (· exact (by (repeat (first | exact trivial | refine ⟨rfl, ?_⟩)))); (· exact (by (repeat (first | exact trivial | refine ⟨rfl, ?_⟩))))) | ((with_reducible apply so_j1); (· rfl); (· (repeat (first | exact Pf.nil | apply Pf.cons (.c rfl (.d rfl)) | apply Pf.cons (.c rfl (.lp rfl)) | (apply Pf.cons; (· apply Nv.g rfl; (repeat (first | exact Ncs.nil rfl | (apply Ncs.cons rfl; (· (first | exact .d rfl | exact .ls rfl))))))) | apply Pf.skip))); (· (repeat (first | exact Pb.nil | apply Pb.cons (.row rfl) | (apply Pb.cons; (· apply Nb.box rfl; (repeat (first | exact Ncs.nil rfl | (apply Ncs.cons rfl; (· (first | exact .d rfl | exact .ls rfl)))))))))); (· assumption)) | refine so_alt ?_ ?_ | (refine so_is (.alloc 78) ?_; refine so_alloc (zs := [.int .i64 0, .int .i64 0, .int .i64 0, .slice none 0 0]) (by kernel_rfl) rfl ?_) | (refine so_is (.assign _) ?_; (refine so_q (qt_asC rfl) rfl ?_)) | (refine so_is (.move _) ?_; (first | refine so_q (qt_mvC rfl) rfl ?_ | refine so_q (qt_mvT rfl) rfl ?_)) | (refine so_is (.pick _ _ _) ?_; (refine so_q (qt_pkC rfl rfl) rfl ?_)) | (refine so_is (.build 78 _) ?_; refine so_q (qt_build (cs := [_, _, _, _]) [(0, 1), (1, 1), (2, 1), (3, 1)] [.int .i64 0, .int .i64 0, .int .i64 0, .slice none 0 0] (by kernel_rfl) (by kernel_rfl) rfl) rfl ?_) | (refine so_is (.store 78 _ _) ?_; (refine so_store_box rfl rfl rfl (by kernel_rfl) rfl rfl ?_)) | (refine so_is (.binOp .lss 3 _ _ _) ?_; refine so_q (qt_lss rfl rfl) rfl ?_) | (refine so_is (.indexAddr 91 _ _) ?_; (refine so_q (qt_idxU rfl rfl (by kernel_rfl) (by (omega)) (by (omega))) rfl ?_)) | (refine so_is (.load 96 _) ?_; (first | refine so_q (qt_load_boxs rfl rfl (by kernel_rfl : tAgg _ 96 3 = true) rfl) rfl ?_ | refine so_q (qt_load_pts rfl (by kernel_rfl : tAgg _ 96 3 = true) (by simp)) rfl ?_)) | (refine so_is (.alloc 96) ?_; refine so_alloc (zs := [.slice none 0 0, .slice none 0 0, .slice none 0 0]) (by kernel_rfl) rfl ?_) | (refine so_is (.store 96 _ _) ?_; (refine so_store_box rfl rfl rfl (by kernel_rfl) rfl rfl ?_)) | (refine so_is (.load 78 _) ?_; (refine so_q (qt_load_boxs rfl rfl (by kernel_rfl : tAgg _ 78 4 = true) rfl) rfl ?_)) | (refine so_is (.extract _ _) ?_; refine so_q (qt_extract rfl rfl) rfl ?_) | (refine so_is (.binOp .gtr 3 _ _ _) ?_; refine so_q (qt_gtr rfl rfl) rfl ?_) | (refine so_is (.unOp .not 4 _) ?_; refine so_q (qt_not rfl) rfl ?_) | (refine so_is (.binOp .add 3 _ _ _) ?_; refine so_q (qt_addI rfl rfl (by (omega))) rfl ?_) | (refine so_is (.call ⟨.value (.func 154), _, _⟩) ?_; ((apply so_callO0 (fid := 154); (· (repeat (first | exact SeA.nil | (apply SeA.cons; (· (apply SeP.g; (repeat (first | exact SeL.nil | apply SeL.cons (.d _))))))))); (· exact wp); (· rfl); (· rfl)))) | (refine so_is (.call ⟨.value (.func 172), _, _⟩) ?_; ((apply so_callO0 (fid := 172); (· (repeat (first | exact SeA.nil | (apply SeA.cons; (· (apply SeP.g; (repeat (first | exact SeL.nil | apply SeL.cons (.d _) | apply SeL.cons (.all _ _ _ _ rfl (by ((simp; done)))))))))))); (· exact mb); (· rfl); (· rfl)))) | refine so_nil ?_ | refine so_g_yes rfl rfl rfl rfl ?_ | refine sk_seq ?_ | refine sk_block ?_ | refine sk_blk ?_ | refine sk_exit rfl ?_ | refine sk_skip ?_ | refine sk_region ?_ | refine sk_drawQ 7 (fun i => i == 12) (IT.lt (.step 12 false (.step 13 true .nil)) fun Y0 => (.step 0 true (.step 1 true (.step 2 true (.step 3 true (.step 4 true (.step 5 true (.step 6 true (.alt 7 (.step 7 false (.step 8 true (.step 9 true (.step 10 true (.step 11 false (IT.ref true [3, 4, 5, 8, 10, 11, 13, 14, 27, 28, 29, 43, 44] [4, 5, 8, 10, 12, 3042, 13, 3000] Y0)))))) (.step 11 false (.step 7 false (.step 8 true (.step 9 true (.step 10 true (IT.ref false [3, 4, 5, 8, 10, 11, 13, 14, 27, 28, 29, 43, 44] [4, 5, 8, 10, 12, 3042, 13, 3000] Y0))))))))))))))) [(0, 16383, 16383, false), (0, 16383, 16383, false), (0, 16383, 16383, false), (0, 16383, 16383, true), (0, 16383, 16383, true), (24, 16359, 16383, true), (32, 16351, 16383, false), (71, 16312, 16383, false), (128, 16255, 16383, true), (256, 16127, 16383, true), (256, 16127, 12287, true), (0, 16383, 16383, false), (3071, 13823, 16383, false), (8191, 15359, 12287, true)] (by kernel_rfl) (by kernel_rfl) ?_ | refine sk_true rfl ?_ | refine sk_false rfl ?_ | refine sk_if rfl (fun hc => ?_) (fun hc => ?_))
            all_goals first | (exfalso; omega) | (exfalso; simp_all; done) | skip
            all_goals (apply sk_ret; apply ret_eq; (· apply RetOK.t; (· (apply GvA.cons; (· (apply RV.cellN (n := 4); (· rfl); (· rfl); (· kernel_rfl); (· rfl))); (· (apply GvP.g; (· (apply GvL.cons (.lit _)); (apply GvL.cons (.lit _)); (apply GvL.cons (.lit _)); ((apply GvL.cons (.nil 1 (by decide)))); exact GvL.nil)))); (apply GvA.cons; (· exact .tmp _); (· exact GvP.c (.lit _))); exact GvA.nil); (· rfl); (· (decide))))
            all_goals (rw [hno]; simp [whenN, whenL])
    · have e : j = l1.length := by omega
      subst e
      repeat' (first | (with_reducible apply so_lt) | intro Y hY | refine so_alt ?_ ?_ | (refine so_is (.alloc 78) ?_; refine so_alloc (zs := [.int .i64 0, .int .i64 0, .int .i64 0, .slice none 0 0]) (by kernel_rfl) rfl ?_) | (refine so_is (.assign _) ?_; (refine so_q (qt_asC rfl) rfl ?_)) | (refine so_is (.move _) ?_; (refine so_q (qt_mvC rfl) rfl ?_)) | (refine so_is (.store 78 _ _) ?_; (refine so_store_box rfl rfl rfl (by kernel_rfl) rfl rfl ?_)) | (refine so_is (.binOp .lss 3 _ _ _) ?_; refine so_q (qt_lss rfl rfl) rfl ?_) | (refine so_is (.indexAddr 91 _ _) ?_; (refine so_q (qt_idxU rfl rfl (by kernel_rfl) (by (omega)) (by (omega))) rfl ?_)) | (refine so_is (.load 96 _) ?_; (first | refine so_q (qt_load_boxs rfl rfl (by kernel_rfl : tAgg _ 96 3 = true) rfl) rfl ?_ | refine so_q (qt_load_pts rfl (by kernel_rfl : tAgg _ 96 3 = true) (by simp)) rfl ?_)) | (refine so_is (.alloc 96) ?_; refine so_alloc (zs := [.slice none 0 0, .slice none 0 0, .slice none 0 0]) (by kernel_rfl) rfl ?_) | (refine so_is (.store 96 _ _) ?_; (refine so_store_box rfl rfl rfl (by kernel_rfl) rfl rfl ?_)) | (refine so_is (.load 78 _) ?_; (refine so_q (qt_load_boxs rfl rfl (by kernel_rfl : tAgg _ 78 4 = true) rfl) rfl ?_)) | refine so_nil ?_ | refine sk_seq ?_ | refine sk_block ?_ | refine sk_exit rfl ?_ | refine sk_skip ?_ | refine sk_region ?_ | refine sk_drawQ 7 (fun i => i == 12) (IT.lt (.step 12 false (.step 13 true .nil)) fun Y0 => (.step 0 true (.step 1 true (.step 2 true (.step 3 true (.step 4 true (.step 5 true (.step 6 true (.alt 7 (.step 7 false (.step 8 true (.step 9 true (.step 10 true (.step 11 false (IT.ref true [3, 4, 5, 8, 10, 11, 13, 14, 27, 28, 29, 43, 44] [4, 5, 8, 10, 12, 3042, 13, 3000] Y0)))))) (.step 11 false (.step 7 false (.step 8 true (.step 9 true (.step 10 true (IT.ref false [3, 4, 5, 8, 10, 11, 13, 14, 27, 28, 29, 43, 44] [4, 5, 8, 10, 12, 3042, 13, 3000] Y0))))))))))))))) [(0, 16383, 16383, false), (0, 16383, 16383, false), (0, 16383, 16383, false), (0, 16383, 16383, true), (0, 16383, 16383, true), (24, 16359, 16383, true), (32, 16351, 16383, false), (71, 16312, 16383, false), (128, 16255, 16383, true), (256, 16127, 16383, true), (256, 16127, 12287, true), (0, 16383, 16383, false), (3071, 13823, 16383, false), (8191, 15359, 12287, true)] (by kernel_rfl) (by kernel_rfl) ?_ | refine sk_if rfl (fun hc => ?_) (fun hc => ?_))
      all_goals first | (exfalso; omega) | skip
      (apply sk_ret; apply ret_eq; (· apply RetOK.t; (· (apply GvA.cons; (· (apply RV.cellN (n := 4); (· rfl); (· rfl); (· kernel_rfl); (· rfl))); (· (apply GvP.g; (· (apply GvL.cons (.lit _)); (apply GvL.cons (.lit _)); (apply GvL.cons (.lit _)); ((apply GvL.cons (.row _ _ _ _ rfl (by ((simp; done)))))); exact GvL.nil)))); (apply GvA.cons; (· exact .tmp _); (· exact GvP.c (.lit _))); exact GvA.nil); (· rfl); (· (decide))))
      obtain ⟨m, hm⟩ : ∃ m, l1.length = m + 1 := ⟨l1.length - 1, by omega⟩
      rw [hok, hm]; simp [whenN, whenL, q2]
  · have hB : mwB xa ya na la xb yb nb lb l1 l2 = false := by
      rw [← Bool.not_eq_true]
      intro h
      simp only [mwB, Bool.and_eq_true, decide_eq_true_eq] at h
      exact h0 h.1
    rw [hB]
    refine pc_intro Try.func75 rfl rfl rfl (by kernel_rfl) rfl rfl ?_; intro _
    repeat' (first | (refine so_is (.box 78 _) ?_; refine so_box rfl rfl ?_) | (refine so_is (.alloc 78) ?_; refine so_alloc (zs := [.int .i64 0, .int .i64 0, .int .i64 0, .slice none 0 0]) (by kernel_rfl) rfl ?_) | (refine so_is (.assign _) ?_; (refine so_q (qt_asC rfl) rfl ?_)) | (refine so_is (.move _) ?_; (refine so_q (qt_mvC rfl) rfl ?_)) | (refine so_is (.call ⟨.builtin .len, _, #[91]⟩) ?_; (refine so_q (qt_len_d rfl (by kernel_rfl)) rfl ?_)) | (refine so_is (.binOp .eql 3 _ _ _) ?_; refine so_q (qt_eql rfl rfl) rfl ?_) | (refine so_is (.binOp .neq 3 _ _ _) ?_; refine so_q (qt_neq rfl rfl) rfl ?_) | (refine so_is (.pick _ _ _) ?_; (refine so_q (qt_pkC rfl rfl) rfl ?_)) | (refine so_is (.build 78 _) ?_; refine so_q (qt_build (cs := [_, _, _, _]) [(0, 1), (1, 1), (2, 1), (3, 1)] [.int .i64 0, .int .i64 0, .int .i64 0, .slice none 0 0] (by kernel_rfl) (by kernel_rfl) rfl) rfl ?_) | (refine so_is (.store 78 _ _) ?_; (refine so_store_box rfl rfl rfl (by kernel_rfl) rfl rfl ?_)) | refine so_nil ?_ | refine so_g_no rfl rfl rfl rfl ?_ | refine so_g_yes rfl rfl rfl rfl ?_ | refine so_g_if rfl rfl (fun hg => ?_) (fun hg => ?_) | refine sk_seq ?_ | refine sk_block ?_ | refine sk_skip ?_ | refine sk_region ?_ | refine sk_true rfl ?_ | refine sk_if rfl (fun hc => ?_) (fun hc => ?_))
    all_goals first | (exfalso; omega) | skip
    all_goals (apply sk_ret; apply ret_eq; (· apply RetOK.t; (· (apply GvA.cons; (· (apply RV.cellN (n := 4); (· rfl); (· rfl); (· kernel_rfl); (· rfl))); (· (apply GvP.g; (· (apply GvL.cons (.lit _)); (apply GvL.cons (.lit _)); (apply GvL.cons (.lit _)); ((apply GvL.cons (.nil 1 (by decide)))); exact GvL.nil)))); (apply GvA.cons; (· exact .tmp _); (· exact GvP.c (.lit _))); exact GvA.nil); (· rfl); (· (decide))))
    all_goals simp [whenN, whenL]

end Go.Proofs.Ytefbiejoikpkmaa

namespace Go.Proofs.Ytefbiejoikpkmaa
open Go.RowKit
set_option linter.unusedSectionVars false
variable [Glb]
set_option maxRecDepth 10000
set_option maxHeartbeats 4000000
theorem spMixWirings_p (xa ya na : Int) (la : List (List Int)) (xb yb nb : Int) (lb : List (List Int)) (l1 l2 : List RuleE) : PC Try.prog 76 [.g [dI xa, dI ya, dI na, eII la], .g [dI xb, dI yb, dI nb, eII lb], .c (eU l1), .c (eU l2)]
    (.t [.g [dI (whenN (mwB xa ya na la xb yb nb lb l1 l2) 2), dI (whenN (mwB xa ya na la xb yb nb lb l1 l2) 2), dI (whenN (mwB xa ya na la xb yb nb lb l1 l2) (mwN (na * nb) l1.length)), eII (whenL (mwB xa ya na la xb yb nb lb l1 l2) (mwL la lb l1 l2 l1.length))], .c (dB (mwB xa ya na la xb yb nb lb l1 l2))]) := by
  by_cases h0 : wiresB xa ya na la xb yb nb lb = true ∧ 0 < l1.length ∧ l1.length = l2.length
  · obtain ⟨hWB, h0, h12⟩ := h0
    have hB : mwB xa ya na la xb yb nb lb l1 l2 = mwOK xa ya na la xb yb nb lb l1 l2 l1.length := by rw [mwB, decide_eq_true h0, decide_eq_true h12]; rfl
    rw [hB]
    obtain ⟨W, hW⟩ : ∃ W, W = na * nb := ⟨_, rfl⟩
    rw [← hW]
    refine pc_intro Try.func76 rfl rfl rfl (by kernel_rfl) rfl rfl ?_; rintro ⟨-, -, hf, -⟩
    have hf := hf.len
    repeat' (first | (refine so_is (.box 78 _) ?_; refine so_box rfl rfl ?_) | (refine so_is (.alloc 78) ?_; refine so_alloc (zs := [.int .i64 0, .int .i64 0, .int .i64 0, .slice none 0 0]) (by kernel_rfl) rfl ?_) | (refine so_is (.assign _) ?_; (refine so_q (qt_asC rfl) rfl ?_)) | (refine so_is (.load 78 _) ?_; (refine so_q (qt_load_boxs rfl rfl (by kernel_rfl : tAgg _ 78 4 = true) rfl) rfl ?_)) | (refine so_is (.unOp .not 4 _) ?_; refine so_q (qt_not rfl) rfl ?_) | (refine so_is (.move _) ?_; (refine so_q (qt_mvC rfl) rfl ?_)) | (refine so_is (.call ⟨.builtin .len, _, #[91]⟩) ?_; (refine so_q (qt_len_d rfl (by kernel_rfl)) rfl ?_)) | (refine so_is (.binOp .eql 3 _ _ _) ?_; refine so_q (qt_eql rfl rfl) rfl ?_) | (refine so_is (.pick _ _ _) ?_; (refine so_q (qt_pkC rfl rfl) rfl ?_)) | (refine so_is (.binOp .neq 3 _ _ _) ?_; refine so_q (qt_neq rfl rfl) rfl ?_) | (refine so_is (.build 78 _) ?_; refine so_q (qt_build (cs := [_, _, _, _]) [(0, 1), (1, 1), (2, 1), (3, 1)] [.int .i64 0, .int .i64 0, .int .i64 0, .slice none 0 0] (by kernel_rfl) (by kernel_rfl) rfl) rfl ?_) | (refine so_is (.store 78 _ _) ?_; (refine so_store_box rfl rfl rfl (by kernel_rfl) rfl rfl ?_)) | (refine so_is (.call ⟨.value (.func 155), _, _⟩) ?_; (apply so_call0 (fid := 155); (· (repeat (first | exact SeA.nil | (apply SeA.cons; (· (apply SeP.g; (repeat (first | exact SeL.nil | apply SeL.cons (.d _))))))))); (· exact l10Both_p _ _ _ _ _ _ _ _); (· rfl))) | refine so_nil ?_ | refine so_g_no rfl rfl rfl rfl ?_ | refine so_g_yes rfl rfl rfl rfl ?_ | refine so_g_if rfl rfl (fun hg => ?_) (fun hg => ?_) | refine so_g_b rfl rfl (fun hg => ?_) (fun hg => ?_) | refine sk_seq ?_ | refine sk_block ?_ | refine sk_skip ?_ | refine sk_region ?_ | refine sk_true rfl ?_ | refine sk_if rfl (fun hc => ?_) (fun hc => ?_))
    all_goals first | (exfalso; omega) | (exfalso; simp_all; done) | skip
    refine sk_ghost (sim_nil_box 10 3 3000 1 rfl (by decide) rfl rfl rfl) ?_
    apply sk_packC [2, 3, 4, 5, 8, 10, 11] [4, 5, 8, 10, 12, 3000, 3049, 3059] rfl; (· (repeat (first | exact Pf.nil | apply Pf.cons (.c rfl (.d rfl)) | apply Pf.cons (.c rfl (.lp rfl))))); (· (repeat (first | exact Pb.nil | apply Pb.cons (.row rfl) | (apply Pb.cons; (· apply Nb.box rfl; (repeat (first | exact Ncs.nil rfl | (apply Ncs.cons rfl; (· (first | exact .d rfl | exact .ls rfl))))))) | apply Pb.skip)))
    refine sk_loopL [2, 3, 4, 5, 8, 10] [4, 5, 8, 3049, 12, 3059] (fun (j : Nat) => [(11, iN j)]) (fun j => [(10, .box [.d (dI (q2 j)), .d (dI (q2 j)), .d (dI (mwN W j)), .ls 3000 1 0 (mwL la lb l1 l2 j).length]), (3000, .row 1 (cII (mwL la lb l1 l2 j)))]) (fun j => j ≤ l1.length ∧ mwOK xa ya na la xb yb nb lb l1 l2 j = true) (fun j => l1.length - j) (0) ?_ (by (repeat (first | exact trivial | refine ⟨(by (rfl)), ?_⟩))) (by (repeat (first | exact trivial | refine ⟨(by (first | (refine row_eq rfl ?_; simp  [mwN, mwL]; done) | rfl)), ?_⟩))) ?_
    · exact ⟨Nat.zero_le _, rfl⟩
    rintro j ⟨hj, hok⟩
    by_cases hj2 : j < l1.length
    · have wp := spWireBoxes_p xa ya na la xb yb nb lb (atZ l1 (j : Int)).1 (atZ l1 (j : Int)).2.1 (atZ l1 (j : Int)).2.2.1 (atZ l2 (j : Int)).1 (atZ l2 (j : Int)).2.1 (atZ l2 (j : Int)).2.2.1
      cases hw : wirOK xa ya na la xb yb nb lb (atZ l1 (j : Int)) (atZ l2 (j : Int)) with
      | false =>
        have hno := mwOK_no (l1 := l1) (l2 := l2) (m := l1.length) hj2 (.inl hw)
        have hw' := hw
        unfold wirOK at hw'
        rw [hw'] at wp
        repeat' (first | (with_reducible apply so_lt) | intro Y hY | ((with_reducible apply so_j2); (· assumption); (· rfl); (· exact (by (repeat (first | exact trivial | refine ⟨rfl, ?_⟩)))); (· exact (by (repeat (first | exact trivial | refine ⟨rfl, ?_⟩))))) | ((with_reducible apply so_j1); (· rfl); (· (repeat (first | exact Pf.nil | apply Pf.cons (.c rfl (.d rfl)) | apply Pf.cons (.c rfl (.lp rfl)) | (apply Pf.cons; (· apply Nv.g rfl; (repeat (first | exact Ncs.nil rfl | (apply Ncs.cons rfl; (· (first | exact .d rfl | exact .ls rfl))))))) | apply Pf.skip))); (· (repeat (first | exact Pb.nil | apply Pb.cons (.row rfl) | (apply Pb.cons; (· apply Nb.box rfl; (repeat (first | exact Ncs.nil rfl | (apply Ncs.cons rfl; (· (first | exact .d rfl | exact .ls rfl)))))))))); (· assumption)) | refine so_alt ?_ ?_ | (refine so_is (.alloc 78) ?_; refine so_alloc (zs := [.int .i64 0, .int .i64 0, .int .i64 0, .slice none 0 0]) (by kernel_rfl) rfl ?_) | (refine so_is (.assign _) ?_; (refine so_q (qt_asC rfl) rfl ?_)) | (refine so_is (.load 78 _) ?_; (refine so_q (qt_load_boxs rfl rfl (by kernel_rfl : tAgg _ 78 4 = true) rfl) rfl ?_)) | (refine so_is (.unOp .not 4 _) ?_; refine so_q (qt_not rfl) rfl ?_) | (refine so_is (.move _) ?_; (first | refine so_q (qt_mvC rfl) rfl ?_ | refine so_q (qt_mvT rfl) rfl ?_)) | (refine so_is (.call ⟨.builtin .len, _, #[91]⟩) ?_; (refine so_q (qt_len_d rfl (by kernel_rfl)) rfl ?_)) | (refine so_is (.build 78 _) ?_; refine so_q (qt_build (cs := [_, _, _, _]) [(0, 1), (1, 1), (2, 1), (3, 1)] [.int .i64 0, .int .i64 0, .int .i64 0, .slice none 0 0] (by kernel_rfl) (by kernel_rfl) rfl) rfl ?_) | (refine so_is (.store 78 _ _) ?_; (refine so_store_box rfl rfl rfl (by kernel_rfl) rfl rfl ?_)) | (refine so_is (.binOp .lss 3 _ _ _) ?_; refine so_q (qt_lss rfl rfl) rfl ?_) | (refine so_is (.indexAddr 91 _ _) ?_; (refine so_q (qt_idxU rfl rfl (by kernel_rfl) (by (omega)) (by (omega))) rfl ?_)) | (refine so_is (.load 96 _) ?_; (refine so_q (qt_load_pts rfl (by kernel_rfl : tAgg _ 96 3 = true) (by simp)) rfl ?_)) | (refine so_is (.extract _ _) ?_; refine so_q (qt_extract rfl rfl) rfl ?_) | (refine so_is (.call ⟨.value (.func 173), _, _⟩) ?_; (apply so_callO0 (fid := 173); (· (repeat (first | exact SeA.nil | (apply SeA.cons; (· (apply SeP.g; (repeat (first | exact SeL.nil | apply SeL.cons (.d _))))))))); (· exact wp); (· rfl); (· rfl))) | refine so_nil ?_ | refine sk_seq ?_ | refine sk_block ?_ | refine sk_exit rfl ?_ | refine sk_skip ?_ | refine sk_region ?_ | refine sk_drawQ 7 (fun i => i == 15) (IT.lt (.step 15 false (.step 16 true .nil)) fun Y0 => (.step 0 true (.step 1 true (.step 2 true (.step 3 true (.step 4 true (.step 5 true (.step 6 true (.step 7 true (.step 8 true (.step 9 true (.alt 7 (.step 10 false (.step 11 true (.step 12 true (.step 13 true (.step 14 false (IT.ref true [2, 3, 4, 5, 8, 10, 11, 12, 13, 50, 51] [4, 5, 8, 10, 3049, 12, 3000] Y0)))))) (.step 14 false (.step 10 false (.step 11 true (.step 12 true (.step 13 true (IT.ref false [2, 3, 4, 5, 8, 10, 11, 12, 13, 50, 51] [4, 5, 8, 10, 3049, 12, 3000] Y0)))))))))))))))))) [(0, 131071, 131071, false), (0, 131071, 131071, false), (0, 131071, 131071, true), (0, 131071, 131071, true), (12, 131059, 131071, true), (16, 131055, 131071, false), (0, 131071, 131071, true), (0, 131071, 131071, true), (192, 130879, 131071, true), (256, 130815, 131071, false), (547, 130524, 131071, false), (1024, 130047, 131071, true), (2048, 129023, 131071, true), (2048, 129023, 98303, true), (0, 131071, 131071, false), (24575, 110591, 131071, false), (65535, 122879, 98303, true)] (by kernel_rfl) (by kernel_rfl) ?_ | refine sk_true rfl ?_ | refine sk_if rfl (fun hc => ?_) (fun hc => ?_))
        all_goals first | (exfalso; omega) | (exfalso; simp_all; done) | skip
        all_goals (apply sk_ret; apply ret_eq; (· apply RetOK.t; (· (apply GvA.cons; (· (apply RV.cellN (n := 4); (· rfl); (· rfl); (· kernel_rfl); (· rfl))); (· (apply GvP.g; (· (apply GvL.cons (.lit _)); (apply GvL.cons (.lit _)); (apply GvL.cons (.lit _)); ((apply GvL.cons (.nil 1 (by decide)))); exact GvL.nil)))); (apply GvA.cons; (· exact .tmp _); (· exact GvP.c (.lit _))); exact GvA.nil); (· rfl); (· (decide))))
        all_goals (rw [hno]; simp [whenN, whenL])
      | true =>
        obtain ⟨s1, s2, s3, s4, s5, s6, s7, s8, s9⟩ := wirOK_spec hw
        have hw' := hw
        unfold wirOK at hw'
        rw [hw'] at wp
        have bd := mw_bd hok
        rw [← hW] at wp s7 s8 bd
        replace wp : PC Try.prog 173 [.g [dI xa, dI ya, dI na, eII la], .g [dI xb, dI yb, dI nb, eII lb], .g [eI (atZ l1 (j : Int)).1, eII (atZ l1 (j : Int)).2.1, eII (atZ l1 (j : Int)).2.2.1], .g [eI (atZ l2 (j : Int)).1, eII (atZ l2 (j : Int)).2.1, eII (atZ l2 (j : Int)).2.2.1]] (.t [.g [dI 2, dI 2, dI W, eII (wirR la lb (atZ l1 (j : Int)) (atZ l2 (j : Int)))], .c (dB true)]) := wp
        cases j with
        | zero =>
          have hgo := mwOK_step hok hw (by rw [mwN_one, ← hW]; omega)
          have bp := l2Box_p 2 2 W (wirR la lb (atZ l1 ((0 : Nat) : Int)) (atZ l2 ((0 : Nat) : Int)))
          rw [s8] at bp
          repeat' (first | (with_reducible apply so_lt) | intro Y hY | ((with_reducible apply so_j2); (· assumption); (· rfl); (· exact (by (repeat (first | exact trivial | refine ⟨rfl, ?_⟩)))); (· exact (by (repeat (first | exact trivial | refine ⟨rfl, ?_⟩))))) | ((with_reducible apply so_j1); (· rfl); (· (repeat (first | exact Pf.nil | apply Pf.cons (.c rfl (.d rfl)) | apply Pf.cons (.c rfl (.lp rfl)) | (apply Pf.cons; (· apply Nv.g rfl; (repeat (first | exact Ncs.nil rfl | (apply Ncs.cons rfl; (· (first | exact .d rfl | exact .ls rfl))))))) | apply Pf.skip))); (· (repeat (first | exact Pb.nil | apply Pb.cons (.row rfl) | (apply Pb.cons; (· apply Nb.box rfl; (repeat (first | exact Ncs.nil rfl | (apply Ncs.cons rfl; (· (first | exact .d rfl | exact .ls rfl)))))))))); (· assumption)) | refine so_alt ?_ ?_ | (refine so_is (.alloc 78) ?_; refine so_alloc (zs := [.int .i64 0, .int .i64 0, .int .i64 0, .slice none 0 0]) (by kernel_rfl) rfl ?_) | (refine so_is (.assign _) ?_; (refine so_q (qt_asC rfl) rfl ?_)) | (refine so_is (.load 78 _) ?_; (refine so_q (qt_load_boxs rfl rfl (by kernel_rfl : tAgg _ 78 4 = true) rfl) rfl ?_)) | (refine so_is (.unOp .not 4 _) ?_; refine so_q (qt_not rfl) rfl ?_) | (refine so_is (.move _) ?_; (first | refine so_q (qt_mvC rfl) rfl ?_ | refine so_q (qt_mvT rfl) rfl ?_)) | (refine so_is (.call ⟨.builtin .len, _, #[91]⟩) ?_; (refine so_q (qt_len_d rfl (by kernel_rfl)) rfl ?_)) | (refine so_is (.store 78 _ _) ?_; (refine so_store_box rfl rfl rfl (by kernel_rfl) rfl rfl ?_)) | (refine so_is (.binOp .lss 3 _ _ _) ?_; refine so_q (qt_lss rfl rfl) rfl ?_) | (refine so_is (.indexAddr 91 _ _) ?_; (refine so_q (qt_idxU rfl rfl (by kernel_rfl) (by (omega)) (by (omega))) rfl ?_)) | (refine so_is (.load 96 _) ?_; (refine so_q (qt_load_pts rfl (by kernel_rfl : tAgg _ 96 3 = true) (by simp)) rfl ?_)) | (refine so_is (.extract _ _) ?_; refine so_q (qt_extract rfl rfl) rfl ?_) | (refine so_is (.binOp .gtr 3 _ _ _) ?_; refine so_q (qt_gtr rfl rfl) rfl ?_) | (refine so_is (.call ⟨.value (.func 173), _, _⟩) ?_; ((apply so_callO0 (fid := 173); (· (repeat (first | exact SeA.nil | (apply SeA.cons; (· (apply SeP.g; (repeat (first | exact SeL.nil | apply SeL.cons (.d _))))))))); (· exact wp); (· rfl); (· rfl)))) | (refine so_is (.call ⟨.value (.func 175), _, _⟩) ?_; ((apply so_call0 (fid := 175); (· (repeat (first | exact SeA.nil | (apply SeA.cons; (· (apply SeP.g; (repeat (first | exact SeL.nil | apply SeL.cons (.d _) | apply SeL.cons (.all _ _ _ _ rfl (by ((simp; done)))))))))))); (· exact bp); (· rfl)))) | refine so_nil ?_ | refine sk_seq ?_ | refine sk_block ?_ | refine sk_blk ?_ | refine sk_exit rfl ?_ | refine sk_skip ?_ | refine sk_region (id := 5) ?_ | refine sk_drawQ 7 (fun i => i == 15) (IT.lt (.step 15 false (.step 16 true .nil)) fun Y0 => (.step 0 true (.step 1 true (.step 2 true (.step 3 true (.step 4 true (.step 5 true (.step 6 true (.step 7 true (.step 8 true (.step 9 true (.alt 7 (.step 10 false (.step 11 true (.step 12 true (.step 13 true (.step 14 false (IT.ref true [2, 3, 4, 5, 8, 10, 11, 12, 13, 50, 51] [4, 5, 8, 10, 3049, 12, 3000] Y0)))))) (.step 14 false (.step 10 false (.step 11 true (.step 12 true (.step 13 true (IT.ref false [2, 3, 4, 5, 8, 10, 11, 12, 13, 50, 51] [4, 5, 8, 10, 3049, 12, 3000] Y0)))))))))))))))))) [(0, 131071, 131071, false), (0, 131071, 131071, false), (0, 131071, 131071, true), (0, 131071, 131071, true), (12, 131059, 131071, true), (16, 131055, 131071, false), (0, 131071, 131071, true), (0, 131071, 131071, true), (192, 130879, 131071, true), (256, 130815, 131071, false), (547, 130524, 131071, false), (1024, 130047, 131071, true), (2048, 129023, 131071, true), (2048, 129023, 98303, true), (0, 131071, 131071, false), (24575, 110591, 131071, false), (65535, 122879, 98303, true)] (by kernel_rfl) (by kernel_rfl) ?_ | refine sk_region (id := 8) ?_ | refine sk_region (id := 10) ?_ | refine sk_region (id := 12) ?_ | refine sk_region (id := 14) ?_ | refine sk_region (id := 15) ?_ | refine sk_false rfl ?_ | refine sk_if rfl (fun hc => ?_) (fun hc => ?_))
          all_goals first | (exfalso; omega) | (exfalso; simp_all; done) | skip
          refine sk_ghost (sim_forget 3000) ?_
          refine sk_ghost (sim_ren 3049 3000 rfl rfl rfl rfl) ?_
          repeat' (first | (refine so_is (.assign _) ?_; (refine so_q (qt_asC rfl) rfl ?_)) | (refine so_is (.move _) ?_; (refine so_q (qt_mvC rfl) rfl ?_)) | (refine so_is (.binOp .add 3 _ _ _) ?_; refine so_q (qt_addI rfl rfl (by (omega))) rfl ?_) | refine so_nil ?_ | refine sk_region ?_)
          refine sk_back ?_; refine ⟨1, ?_, ?_, le_at rfl (by (repeat (first | exact trivial | refine ⟨(by (rfl)), ?_⟩))) (by (repeat (first | exact trivial | refine ⟨rfl, ?_⟩))) (by (repeat (first | exact trivial | refine ⟨(by (rfl)), ?_⟩))) (by (repeat (first | exact trivial | refine ⟨.inr rfl, ?_⟩ | refine ⟨.inl rfl, ?_⟩)))⟩
          · exact ⟨by omega, hgo⟩
          · omega
        | succ j =>
          have hbx := mw_box hok
          rw [← hW] at hbx
          have mb := l2Mix_p 2 2 (mwN W (j + 1)) W (mwL la lb l1 l2 (j + 1)) (wirR la lb (atZ l1 ((j + 1 : Nat) : Int)) (atZ l2 ((j + 1 : Nat) : Int))) hbx s8
          have bp := l2Box_p 2 2 (mwN W (j + 1) + W) (bmixL (mwL la lb l1 l2 (j + 1)) (wirR la lb (atZ l1 ((j + 1 : Nat) : Int)) (atZ l2 ((j + 1 : Nat) : Int))) 2 2)
          have mx := mix_box (x := 2) (y := 2) hbx s8
          by_cases hle : mwN W (j + 1) + W ≤ 1000
          · rw [show boxB 2 2 (mwN W (j + 1) + W) (bmixL (mwL la lb l1 l2 (j + 1)) (wirR la lb (atZ l1 ((j + 1 : Nat) : Int)) (atZ l2 ((j + 1 : Nat) : Int))) 2 2) = true from mx.trans (decide_eq_true hle)] at bp
            have hgo := mwOK_step hok hw (by rw [← hW]; exact hle)
            repeat' (first | (with_reducible apply so_lt) | intro Y hY | ((with_reducible apply so_j2); (· assumption); (· rfl); (· exact (by (repeat (first | exact trivial | refine ⟨rfl, ?_⟩)))); (· exact (by (repeat (first | exact trivial | refine ⟨rfl, ?_⟩))))) | ((with_reducible apply so_j1); (· rfl); (· (repeat (first | exact Pf.nil | apply Pf.cons (.c rfl (.d rfl)) | apply Pf.cons (.c rfl (.lp rfl)) | (apply Pf.cons; (· apply Nv.g rfl; (repeat (first | exact Ncs.nil rfl | (apply Ncs.cons rfl; (· (first | exact .d rfl | exact .ls rfl))))))) | apply Pf.skip))); (· (repeat (first | exact Pb.nil | apply Pb.cons (.row rfl) | (apply Pb.cons; (· apply Nb.box rfl; (repeat (first | exact Ncs.nil rfl | (apply Ncs.cons rfl; (· (first | exact .d rfl | exact .ls rfl)))))))))); (· assumption)) | refine so_alt ?_ ?_ | (refine so_is (.alloc 78) ?_; refine so_alloc (zs := [.int .i64 0, .int .i64 0, .int .i64 0, .slice none 0 0]) (by kernel_rfl) rfl ?_) | (refine so_is (.assign _) ?_; (refine so_q (qt_asC rfl) rfl ?_)) | (refine so_is (.load 78 _) ?_; (refine so_q (qt_load_boxs rfl rfl (by kernel_rfl : tAgg _ 78 4 = true) rfl) rfl ?_)) | (refine so_is (.unOp .not 4 _) ?_; refine so_q (qt_not rfl) rfl ?_) | (refine so_is (.move _) ?_; (first | refine so_q (qt_mvC rfl) rfl ?_ | refine so_q (qt_mvT rfl) rfl ?_)) | (refine so_is (.call ⟨.builtin .len, _, #[91]⟩) ?_; (refine so_q (qt_len_d rfl (by kernel_rfl)) rfl ?_)) | (refine so_is (.store 78 _ _) ?_; (refine so_store_box rfl rfl rfl (by kernel_rfl) rfl rfl ?_)) | (refine so_is (.binOp .lss 3 _ _ _) ?_; refine so_q (qt_lss rfl rfl) rfl ?_) | (refine so_is (.indexAddr 91 _ _) ?_; (refine so_q (qt_idxU rfl rfl (by kernel_rfl) (by (omega)) (by (omega))) rfl ?_)) | (refine so_is (.load 96 _) ?_; (refine so_q (qt_load_pts rfl (by kernel_rfl : tAgg _ 96 3 = true) (by simp)) rfl ?_)) | (refine so_is (.extract _ _) ?_; refine so_q (qt_extract rfl rfl) rfl ?_) | (refine so_is (.binOp .gtr 3 _ _ _) ?_; refine so_q (qt_gtr rfl rfl) rfl ?_) | (refine so_is (.call ⟨.value (.func 173), _, _⟩) ?_; ((apply so_callO0 (fid := 173); (· (repeat (first | exact SeA.nil | (apply SeA.cons; (· (apply SeP.g; (repeat (first | exact SeL.nil | apply SeL.cons (.d _))))))))); (· exact wp); (· rfl); (· rfl)))) | (refine so_is (.call ⟨.value (.func 174), _, _⟩) ?_; ((apply so_callO0 (fid := 174); (· (repeat (first | exact SeA.nil | (apply SeA.cons; (· (apply SeP.g; (repeat (first | exact SeL.nil | apply SeL.cons (.d _) | apply SeL.cons (.all _ _ _ _ rfl (by ((simp; done)))))))))))); (· exact mb); (· rfl); (· rfl)))) | (refine so_is (.call ⟨.value (.func 175), _, _⟩) ?_; ((apply so_call0 (fid := 175); (· (repeat (first | exact SeA.nil | (apply SeA.cons; (· (apply SeP.g; (repeat (first | exact SeL.nil | apply SeL.cons (.d _) | apply SeL.cons (.all _ _ _ _ rfl (by ((simp; done)))))))))))); (· exact bp); (· rfl)))) | refine so_nil ?_ | refine sk_seq ?_ | refine sk_block ?_ | refine sk_blk ?_ | refine sk_exit rfl ?_ | refine sk_skip ?_ | refine sk_region (id := 5) ?_ | refine sk_drawQ 7 (fun i => i == 15) (IT.lt (.step 15 false (.step 16 true .nil)) fun Y0 => (.step 0 true (.step 1 true (.step 2 true (.step 3 true (.step 4 true (.step 5 true (.step 6 true (.step 7 true (.step 8 true (.step 9 true (.alt 7 (.step 10 false (.step 11 true (.step 12 true (.step 13 true (.step 14 false (IT.ref true [2, 3, 4, 5, 8, 10, 11, 12, 13, 50, 51] [4, 5, 8, 10, 3049, 12, 3000] Y0)))))) (.step 14 false (.step 10 false (.step 11 true (.step 12 true (.step 13 true (IT.ref false [2, 3, 4, 5, 8, 10, 11, 12, 13, 50, 51] [4, 5, 8, 10, 3049, 12, 3000] Y0)))))))))))))))))) [(0, 131071, 131071, false), (0, 131071, 131071, false), (0, 131071, 131071, true), (0, 131071, 131071, true), (12, 131059, 131071, true), (16, 131055, 131071, false), (0, 131071, 131071, true), (0, 131071, 131071, true), (192, 130879, 131071, true), (256, 130815, 131071, false), (547, 130524, 131071, false), (1024, 130047, 131071, true), (2048, 129023, 131071, true), (2048, 129023, 98303, true), (0, 131071, 131071, false), (24575, 110591, 131071, false), (65535, 122879, 98303, true)] (by kernel_rfl) (by kernel_rfl) ?_ | refine sk_region (id := 8) ?_ | refine sk_region (id := 10) ?_ | refine sk_region (id := 11) ?_ | refine sk_region (id := 12) ?_ | refine sk_region (id := 14) ?_ | refine sk_region (id := 15) ?_ | refine sk_false rfl ?_ | refine sk_if rfl (fun hc => ?_) (fun hc => ?_))
            all_goals first | (exfalso; omega) | (exfalso; simp_all; done) | skip
            refine sk_ghost (sim_forget 3000) ?_
            refine sk_ghost (sim_ren 3059 3000 rfl rfl rfl rfl) ?_
            repeat' (first | (refine so_is (.assign _) ?_; (refine so_q (qt_asC rfl) rfl ?_)) | (refine so_is (.move _) ?_; (refine so_q (qt_mvC rfl) rfl ?_)) | (refine so_is (.binOp .add 3 _ _ _) ?_; refine so_q (qt_addI rfl rfl (by (omega))) rfl ?_) | refine so_nil ?_ | refine sk_region ?_)
            refine sk_back ?_; refine ⟨j + 1 + 1, ?_, ?_, le_at rfl (by (repeat (first | exact trivial | refine ⟨(by (rfl)), ?_⟩))) (by (repeat (first | exact trivial | refine ⟨rfl, ?_⟩))) (by (repeat (first | exact trivial | refine ⟨(by (first | (refine row_eq rfl ?_; simp  [mwL, mwN, q2, whenN, whenL]; done) | rfl)), ?_⟩))) (by (repeat (first | exact trivial | refine ⟨.inr rfl, ?_⟩ | refine ⟨.inl rfl, ?_⟩)))⟩
            · exact ⟨by omega, hgo⟩
            · omega
          · rw [show boxB 2 2 (mwN W (j + 1) + W) (bmixL (mwL la lb l1 l2 (j + 1)) (wirR la lb (atZ l1 ((j + 1 : Nat) : Int)) (atZ l2 ((j + 1 : Nat) : Int))) 2 2) = false from mx.trans (decide_eq_false hle)] at bp
            have hno := mwOK_no (xa := xa) (ya := ya) (na := na) (la := la) (xb := xb) (yb := yb) (nb := nb) (lb := lb) (l1 := l1) (l2 := l2) (m := l1.length) hj2 (.inr (by rw [← hW]; exact hle))
            repeat' (first | (with_reducible apply so_lt) | intro Y hY | ((with_reducible apply so_j2); (· assumption); (· rfl); (· exact (by (repeat (first | exact trivial | refine ⟨rfl, ?_⟩)))); (· exact (by (repeat (first | exact trivial | refine ⟨rfl, ?_⟩))))) | ((with_reducible apply so_j1); (· rfl); (· (repeat (first | exact Pf.nil | apply Pf.cons (.c rfl (.d rfl)) | apply Pf.cons (.c rfl (.lp rfl)) | (apply Pf.cons; (· apply Nv.g rfl; (repeat (first | exact Ncs.nil rfl | (apply Ncs.cons rfl; (· (first | exact .d rfl | exact .ls rfl))))))) | apply Pf.skip))); (· (repeat (first | exact Pb.nil | apply Pb.cons (.row rfl) | (apply Pb.cons; (· apply Nb.box rfl; (repeat (first | exact Ncs.nil rfl | (apply Ncs.cons rfl; (· (first | exact .d rfl | exact .ls rfl)))))))))); (· assumption)) | refine so_alt ?_ ?_ | (refine so_is (.alloc 78) ?_; refine so_alloc (zs := [.int .i64 0, .int .i64 0, .int .i64 0, .slice none 0 0]) (by kernel_rfl) rfl ?_) | (refine so_is (.assign _) ?_; (refine so_q (qt_asC rfl) rfl ?_)) | (refine so_is (.load 78 _) ?_; (refine so_q (qt_load_boxs rfl rfl (by kernel_rfl : tAgg _ 78 4 = true) rfl) rfl ?_)) | (refine so_is (.unOp .not 4 _) ?_; refine so_q (qt_not rfl) rfl ?_) | (refine so_is (.move _) ?_; (first | refine so_q (qt_mvC rfl) rfl ?_ | refine so_q (qt_mvT rfl) rfl ?_)) | (refine so_is (.call ⟨.builtin .len, _, #[91]⟩) ?_; (refine so_q (qt_len_d rfl (by kernel_rfl)) rfl ?_)) | (refine so_is (.build 78 _) ?_; refine so_q (qt_build (cs := [_, _, _, _]) [(0, 1), (1, 1), (2, 1), (3, 1)] [.int .i64 0, .int .i64 0, .int .i64 0, .slice none 0 0] (by kernel_rfl) (by kernel_rfl) rfl) rfl ?_) | (refine so_is (.store 78 _ _) ?_; (refine so_store_box rfl rfl rfl (by kernel_rfl) rfl rfl ?_)) | (refine so_is (.binOp .lss 3 _ _ _) ?_; refine so_q (qt_lss rfl rfl) rfl ?_) | (refine so_is (.indexAddr 91 _ _) ?_; (refine so_q (qt_idxU rfl rfl (by kernel_rfl) (by (omega)) (by (omega))) rfl ?_)) | (refine so_is (.load 96 _) ?_; (refine so_q (qt_load_pts rfl (by kernel_rfl : tAgg _ 96 3 = true) (by simp)) rfl ?_)) | (refine so_is (.extract _ _) ?_; refine so_q (qt_extract rfl rfl) rfl ?_) | (refine so_is (.binOp .gtr 3 _ _ _) ?_; refine so_q (qt_gtr rfl rfl) rfl ?_) | (refine so_is (.call ⟨.value (.func 173), _, _⟩) ?_; ((apply so_callO0 (fid := 173); (· (repeat (first | exact SeA.nil | (apply SeA.cons; (· (apply SeP.g; (repeat (first | exact SeL.nil | apply SeL.cons (.d _))))))))); (· exact wp); (· rfl); (· rfl)))) | (refine so_is (.call ⟨.value (.func 174), _, _⟩) ?_; ((apply so_callO0 (fid := 174); (· (repeat (first | exact SeA.nil | (apply SeA.cons; (· (apply SeP.g; (repeat (first | exact SeL.nil | apply SeL.cons (.d _) | apply SeL.cons (.all _ _ _ _ rfl (by ((simp; done)))))))))))); (· exact mb); (· rfl); (· rfl)))) | (refine so_is (.call ⟨.value (.func 175), _, _⟩) ?_; ((apply so_call0 (fid := 175); (· (repeat (first | exact SeA.nil | (apply SeA.cons; (· (apply SeP.g; (repeat (first | exact SeL.nil | apply SeL.cons (.d _) | apply SeL.cons (.all _ _ _ _ rfl (by ((simp; done)))))))))))); (· exact bp); (· rfl)))) | refine so_nil ?_ | refine sk_seq ?_ | refine sk_block ?_ | refine sk_exit rfl ?_ | refine sk_skip ?_ | refine sk_region ?_ | refine sk_drawQ 7 (fun i => i == 15) (IT.lt (.step 15 false (.step 16 true .nil)) fun Y0 => (.step 0 true (.step 1 true (.step 2 true (.step 3 true (.step 4 true (.step 5 true (.step 6 true (.step 7 true (.step 8 true (.step 9 true (.alt 7 (.step 10 false (.step 11 true (.step 12 true (.step 13 true (.step 14 false (IT.ref true [2, 3, 4, 5, 8, 10, 11, 12, 13, 50, 51] [4, 5, 8, 10, 3049, 12, 3000] Y0)))))) (.step 14 false (.step 10 false (.step 11 true (.step 12 true (.step 13 true (IT.ref false [2, 3, 4, 5, 8, 10, 11, 12, 13, 50, 51] [4, 5, 8, 10, 3049, 12, 3000] Y0)))))))))))))))))) [(0, 131071, 131071, false), (0, 131071, 131071, false), (0, 131071, 131071, true), (0, 131071, 131071, true), (12, 131059, 131071, true), (16, 131055, 131071, false), (0, 131071, 131071, true), (0, 131071, 131071, true), (192, 130879, 131071, true), (256, 130815, 131071, false), (547, 130524, 131071, false), (1024, 130047, 131071, true), (2048, 129023, 131071, true), (2048, 129023, 98303, true), (0, 131071, 131071, false), (24575, 110591, 131071, false), (65535, 122879, 98303, true)] (by kernel_rfl) (by kernel_rfl) ?_ | refine sk_true rfl ?_ | refine sk_false rfl ?_ | refine sk_if rfl (fun hc => ?_) (fun hc => ?_))
            all_goals first | (exfalso; omega) | (exfalso; simp_all; done) | skip
            all_goals (apply sk_ret; apply ret_eq; (· apply RetOK.t; (· (apply GvA.cons; (· (apply RV.cellN (n := 4); (· rfl); (· rfl); (· kernel_rfl); (· rfl))); (· (apply GvP.g; (· (apply GvL.cons (.lit _)); (apply GvL.cons (.lit _)); (apply GvL.cons (.lit _)); ((apply GvL.cons (.nil 1 (by decide)))); exact GvL.nil)))); (apply GvA.cons; (· exact .tmp _); (· exact GvP.c (.lit _))); exact GvA.nil); (· rfl); (· (decide))))
            all_goals (rw [hno]; simp [whenN, whenL])
    · have e : j = l1.length := by omega
      subst e
      repeat' (first | (with_reducible apply so_lt) | intro Y hY | refine so_alt ?_ ?_ | (refine so_is (.alloc 78) ?_; refine so_alloc (zs := [.int .i64 0, .int .i64 0, .int .i64 0, .slice none 0 0]) (by kernel_rfl) rfl ?_) | (refine so_is (.assign _) ?_; (refine so_q (qt_asC rfl) rfl ?_)) | (refine so_is (.load 78 _) ?_; (refine so_q (qt_load_boxs rfl rfl (by kernel_rfl : tAgg _ 78 4 = true) rfl) rfl ?_)) | (refine so_is (.move _) ?_; (refine so_q (qt_mvC rfl) rfl ?_)) | (refine so_is (.call ⟨.builtin .len, _, #[91]⟩) ?_; (refine so_q (qt_len_d rfl (by kernel_rfl)) rfl ?_)) | (refine so_is (.store 78 _ _) ?_; (refine so_store_box rfl rfl rfl (by kernel_rfl) rfl rfl ?_)) | (refine so_is (.binOp .lss 3 _ _ _) ?_; refine so_q (qt_lss rfl rfl) rfl ?_) | (refine so_is (.indexAddr 91 _ _) ?_; (refine so_q (qt_idxU rfl rfl (by kernel_rfl) (by (omega)) (by (omega))) rfl ?_)) | (refine so_is (.load 96 _) ?_; (refine so_q (qt_load_pts rfl (by kernel_rfl : tAgg _ 96 3 = true) (by simp)) rfl ?_)) | refine so_nil ?_ | refine sk_seq ?_ | refine sk_block ?_ | refine sk_exit rfl ?_ | refine sk_skip ?_ | refine sk_region ?_ | refine sk_drawQ 7 (fun i => i == 15) (IT.lt (.step 15 false (.step 16 true .nil)) fun Y0 => (.step 0 true (.step 1 true (.step 2 true (.step 3 true (.step 4 true (.step 5 true (.step 6 true (.step 7 true (.step 8 true (.step 9 true (.alt 7 (.step 10 false (.step 11 true (.step 12 true (.step 13 true (.step 14 false (IT.ref true [2, 3, 4, 5, 8, 10, 11, 12, 13, 50, 51] [4, 5, 8, 10, 3049, 12, 3000] Y0)))))) (.step 14 false (.step 10 false (.step 11 true (.step 12 true (.step 13 true (IT.ref false [2, 3, 4, 5, 8, 10, 11, 12, 13, 50, 51] [4, 5, 8, 10, 3049, 12, 3000] Y0)))))))))))))))))) [(0, 131071, 131071, false), (0, 131071, 131071, false), (0, 131071, 131071, true), (0, 131071, 131071, true), (12, 131059, 131071, true), (16, 131055, 131071, false), (0, 131071, 131071, true), (0, 131071, 131071, true), (192, 130879, 131071, true), (256, 130815, 131071, false), (547, 130524, 131071, false), (1024, 130047, 131071, true), (2048, 129023, 131071, true), (2048, 129023, 98303, true), (0, 131071, 131071, false), (24575, 110591, 131071, false), (65535, 122879, 98303, true)] (by kernel_rfl) (by kernel_rfl) ?_ | refine sk_if rfl (fun hc => ?_) (fun hc => ?_))
      all_goals first | (exfalso; omega) | skip
      (apply sk_ret; apply ret_eq; (· apply RetOK.t; (· (apply GvA.cons; (· (apply RV.cellN (n := 4); (· rfl); (· rfl); (· kernel_rfl); (· rfl))); (· (apply GvP.g; (· (apply GvL.cons (.lit _)); (apply GvL.cons (.lit _)); (apply GvL.cons (.lit _)); ((apply GvL.cons (.row _ _ _ _ rfl (by ((simp; done)))))); exact GvL.nil)))); (apply GvA.cons; (· exact .tmp _); (· exact GvP.c (.lit _))); exact GvA.nil); (· rfl); (· (decide))))
      obtain ⟨m, hm⟩ : ∃ m, l1.length = m + 1 := ⟨l1.length - 1, by omega⟩
      rw [hok, hm]; simp [whenN, whenL, q2]
  · have hB : mwB xa ya na la xb yb nb lb l1 l2 = false := by
      rw [← Bool.not_eq_true]
      intro h
      simp only [mwB, Bool.and_eq_true, decide_eq_true_eq] at h
      refine h0 ⟨?_, h.1⟩
      have := mwOK_mono (k := 1) (by omega) h.2
      simp only [mwOK, wirOK, wireOK, Bool.and_eq_true] at this
      exact this.2.1.1
    rw [hB]
    refine pc_intro Try.func76 rfl rfl rfl (by kernel_rfl) rfl rfl ?_; intro _
    repeat' (first | (refine so_is (.box 78 _) ?_; refine so_box rfl rfl ?_) | (refine so_is (.alloc 78) ?_; refine so_alloc (zs := [.int .i64 0, .int .i64 0, .int .i64 0, .slice none 0 0]) (by kernel_rfl) rfl ?_) | (refine so_is (.assign _) ?_; (refine so_q (qt_asC rfl) rfl ?_)) | (refine so_is (.load 78 _) ?_; (refine so_q (qt_load_boxs rfl rfl (by kernel_rfl : tAgg _ 78 4 = true) rfl) rfl ?_)) | (refine so_is (.unOp .not 4 _) ?_; refine so_q (qt_not rfl) rfl ?_) | (refine so_is (.move _) ?_; (refine so_q (qt_mvC rfl) rfl ?_)) | (refine so_is (.call ⟨.builtin .len, _, #[91]⟩) ?_; (refine so_q (qt_len_d rfl (by kernel_rfl)) rfl ?_)) | (refine so_is (.binOp .eql 3 _ _ _) ?_; refine so_q (qt_eql rfl rfl) rfl ?_) | (refine so_is (.pick _ _ _) ?_; (refine so_q (qt_pkC rfl rfl) rfl ?_)) | (refine so_is (.binOp .neq 3 _ _ _) ?_; refine so_q (qt_neq rfl rfl) rfl ?_) | (refine so_is (.build 78 _) ?_; refine so_q (qt_build (cs := [_, _, _, _]) [(0, 1), (1, 1), (2, 1), (3, 1)] [.int .i64 0, .int .i64 0, .int .i64 0, .slice none 0 0] (by kernel_rfl) (by kernel_rfl) rfl) rfl ?_) | (refine so_is (.store 78 _ _) ?_; (refine so_store_box rfl rfl rfl (by kernel_rfl) rfl rfl ?_)) | (refine so_is (.call ⟨.value (.func 155), _, _⟩) ?_; (apply so_call0 (fid := 155); (· (repeat (first | exact SeA.nil | (apply SeA.cons; (· (apply SeP.g; (repeat (first | exact SeL.nil | apply SeL.cons (.d _))))))))); (· exact l10Both_p _ _ _ _ _ _ _ _); (· rfl))) | refine so_nil ?_ | refine so_g_no rfl rfl rfl rfl ?_ | refine so_g_yes rfl rfl rfl rfl ?_ | refine so_g_if rfl rfl (fun hg => ?_) (fun hg => ?_) | refine so_g_b rfl rfl (fun hg => ?_) (fun hg => ?_) | refine sk_seq ?_ | refine sk_block ?_ | refine sk_skip ?_ | refine sk_region ?_ | refine sk_true rfl ?_ | refine sk_if rfl (fun hc => ?_) (fun hc => ?_))
    all_goals first | (exfalso; omega) | (exfalso; simp_all; done) | (exfalso; exact h0 ⟨by simp_all, by omega, by omega⟩) | skip
    all_goals (apply sk_ret; apply ret_eq; (· apply RetOK.t; (· (apply GvA.cons; (· (apply RV.cellN (n := 4); (· rfl); (· rfl); (· kernel_rfl); (· rfl))); (· (apply GvP.g; (· (apply GvL.cons (.lit _)); (apply GvL.cons (.lit _)); (apply GvL.cons (.lit _)); ((apply GvL.cons (.nil 1 (by decide)))); exact GvL.nil)))); (apply GvA.cons; (· exact .tmp _); (· exact GvP.c (.lit _))); exact GvA.nil); (· rfl); (· (decide))))
    all_goals simp [whenN, whenL]

end Go.Proofs.Ytefbiejoikpkmaa

namespace Go.Proofs.Ytefbiejoikpkmaa
open Go.RowKit
set_option linter.unusedSectionVars false
variable [Glb]
set_option maxRecDepth 10000
set_option maxHeartbeats 4000000
theorem AgreementsOf_p (x y n : Int) (ll : List (List Int)) (h : boxB x y n ll = true) : PC Try.prog 80 [.g [dI x, dI y, dI n, eII ll]] (.t [.c (eI (agrsL ll)), .c (dB true)]) := by
  have w := IsBox_p x y n ll
  rw [h] at w
  have b := boxB_spec h
  have lq := box_len9 h
  have bl := b.len; have n2 := b.n2
  refine pc_intro Try.func80 rfl rfl rfl (by kernel_rfl) rfl rfl ?_; intro _
  repeat' (first | (refine so_is (.box 78 _) ?_; refine so_box rfl rfl ?_) | (refine so_is (.assign _) ?_; (refine so_q (qt_asC rfl) rfl ?_)) | (refine so_is (.load 78 _) ?_; (refine so_q (qt_load_boxs rfl rfl (by kernel_rfl : tAgg _ 78 4 = true) rfl) rfl ?_)) | (refine so_is (.unOp .not 4 _) ?_; refine so_q (qt_not rfl) rfl ?_) | (refine so_is (.buildSlice 24 0 _) ?_; (apply so_bslice (sz := 1) (by_ := 8); (· kernel_rfl); (· decide); (· (repeat (exact GvS.nil _))); (· (decide)); (· rfl); (· rfl); (· rfl))) | (refine so_is (.fieldAddr 78 _ 3) ?_; (refine so_q (qt_fld_lp (off := 3) rfl (by kernel_rfl)) rfl ?_)) | (refine so_is (.load 25 _) ?_; (refine so_q (qt_load_box rfl rfl (by kernel_rfl) rfl) rfl ?_)) | (refine so_is (.call ⟨.builtin .len, _, #[25]⟩) ?_; (refine so_q (qt_len_d rfl (by kernel_rfl)) rfl ?_)) | (refine so_is (.move _) ?_; (refine so_q (qt_mvC rfl) rfl ?_)) | (refine so_is (.call ⟨.value (.func 176), _, _⟩) ?_; (apply so_call0 (fid := 176); (· (repeat (first | exact SeA.nil | (apply SeA.cons; (· (apply SeP.g; (repeat (first | exact SeL.nil | apply SeL.cons (.d _))))))))); (· exact w); (· rfl))) | refine so_nil ?_ | refine sk_seq ?_ | refine sk_block ?_ | refine sk_skip ?_ | refine sk_region ?_ | refine sk_false rfl ?_)
  all_goals first | (exfalso; simp_all; done) | skip
  apply sk_packC [4, 12, 13, 14] [1, 10, 21, 22] rfl; (· (repeat (first | exact Pf.nil | apply Pf.cons (.c rfl (.d rfl)) | apply Pf.cons (.c rfl (.ls rfl))))); (· (repeat (first | exact Pb.nil | apply Pb.cons (.row rfl) | (apply Pb.cons; (· apply Nb.box rfl; (repeat (first | exact Ncs.nil rfl | (apply Ncs.cons rfl; (· (exact .d rfl))))))) | apply Pb.skip)))
  refine sk_loopL [12, 13] [1, 21, 22] (fun k => [(14, iN k), (4, .c (.ls 10 1 0 k))]) (fun k => [(10, .row 1 (cI (rowF (agrK ll) k)))]) (fun k => k ≤ ll.length) (fun k => ll.length - k) (0) ?_ (by (repeat (first | exact trivial | refine ⟨(by (rfl)), ?_⟩))) (by (repeat (first | exact trivial | refine ⟨(by (rfl)), ?_⟩))) ?_
  · omega
  intro k hk
  by_cases hk2 : k < ll.length
  · have hr := boxB_at h (q := (k : Int)) (by omega) (by omega)
    have ag := agreement_p (atZ ll (k : Int)) hr.1 fun p h1 h2 => by have := hr.2 p h1 h2; omega
    have ae : agrZ (atZ ll (k : Int)) = agrK ll k := rfl
    repeat' (first | (refine so_is (.assign _) ?_; (refine so_q (qt_asC rfl) rfl ?_)) | (refine so_is (.move _) ?_; (refine so_q (qt_mvC rfl) rfl ?_)) | (refine so_is (.binOp .lss 3 _ _ _) ?_; refine so_q (qt_lss rfl rfl) rfl ?_) | (refine so_is (.indexAddr 25 _ _) ?_; (refine so_q (qt_idxII rfl rfl (by kernel_rfl) (by (omega)) (by (omega))) rfl ?_)) | (refine so_is (.load 24 _) ?_; (refine so_q (qt_load_pt rfl (by kernel_rfl) rfl) rfl ?_)) | (refine so_is (.buildSlice 24 1 _) ?_; (apply so_bslice (sz := 1) (by_ := 8); (· kernel_rfl); (· decide); (· (repeat (first | exact GvS.nil _ | apply GvS.c rfl rfl (.lit _) rfl))); (· (decide)); (· rfl); (· rfl); (· rfl))) | (refine so_is (.call ⟨.builtin .append, _, #[24, 24]⟩) ?_; ((apply so_appR (sz := 1) (by_ := 8); (· rfl); (· rfl); (· ((simp; done))); (· exact .row _ _ _ _ rfl (by ((simp; done)))); (· (decide)); (· kernel_rfl); (· decide); (· (omega)); (· (omega)); (· rfl); (· rfl); (· rfl)))) | (refine so_is (.binOp .add 3 _ _ _) ?_; refine so_q (qt_addI rfl rfl (by (omega))) rfl ?_) | (refine so_is (.call ⟨.value (.func 177), _, _⟩) ?_; (apply so_call0 (fid := 177); (· (repeat (first | exact SeA.nil | apply SeA.cons (.c (.d _))))); (· exact ag); (· rfl))) | refine so_nil ?_ | refine sk_seq ?_ | refine sk_block ?_ | refine sk_blk ?_ | refine sk_exit rfl ?_ | refine sk_skip ?_ | refine sk_region ?_ | refine sk_if rfl (fun hc => ?_) (fun hc => ?_))
    all_goals first | (exfalso; omega) | skip
    refine sk_back ?_; refine ⟨k + 1, ?_, ?_, le_at rfl (by (repeat (first | exact trivial | refine ⟨(by (rfl)), ?_⟩))) (by (repeat (first | exact trivial | refine ⟨rfl, ?_⟩))) (by (repeat (first | exact trivial | refine ⟨(by ((refine row_eq rfl ?_; simp  [rowF_snoc, ← ae]; done))), ?_⟩))) (by (repeat (first | exact trivial | refine ⟨.inr rfl, ?_⟩)))⟩
    · omega
    · omega
  · have e : k = ll.length := by omega
    subst e
    repeat' (first | (refine so_is (.assign _) ?_; (refine so_q (qt_asC rfl) rfl ?_)) | (refine so_is (.move _) ?_; (refine so_q (qt_mvC rfl) rfl ?_)) | (refine so_is (.binOp .lss 3 _ _ _) ?_; refine so_q (qt_lss rfl rfl) rfl ?_) | (refine so_is (.indexAddr 25 _ _) ?_; (refine so_q (qt_idxII rfl rfl (by kernel_rfl) (by (omega)) (by (omega))) rfl ?_)) | (refine so_is (.load 24 _) ?_; (refine so_q (qt_load_pt rfl (by kernel_rfl) rfl) rfl ?_)) | refine so_nil ?_ | refine sk_seq ?_ | refine sk_block ?_ | refine sk_exit rfl ?_ | refine sk_skip ?_ | refine sk_region ?_ | refine sk_if rfl (fun hc => ?_) (fun hc => ?_))
    all_goals first | (exfalso; omega) | skip
    (apply sk_ret; apply ret_eq; (· apply RetOK.t; (· (apply GvA.cons; (· exact .tmp _); (· (exact GvP.c (.row _ _ _ _ rfl (by ((simp; done))))))); (apply GvA.cons; (· exact .tmp _); (· exact GvP.c (.lit _))); exact GvA.nil); (· rfl); (· (decide))))
    simp [agrsL]
theorem EightSums_p (n : Int) (ll : List (List Int)) (h : boxB 2 2 n ll = true) : PC Try.prog 79 [.g [dI 2, dI 2, dI n, eII ll]] (.t [.c (eI (sumsL ll)), .c (dB true)]) := by
  have w := isPair_p 2 2 n ll
  rw [show pairB 2 2 n ll = true by simp [pairB, h]] at w
  refine pc_intro Try.func79 rfl rfl rfl (by kernel_rfl) rfl rfl ?_; intro _
  repeat' (first | (refine so_is (.box 78 _) ?_; refine so_box rfl rfl ?_) | (refine so_is (.assign _) ?_; (refine so_q (qt_asC rfl) rfl ?_)) | (refine so_is (.load 78 _) ?_; (refine so_q (qt_load_boxs rfl rfl (by kernel_rfl : tAgg _ 78 4 = true) rfl) rfl ?_)) | (refine so_is (.unOp .not 4 _) ?_; refine so_q (qt_not rfl) rfl ?_) | (refine so_is (.call ⟨.value (.func 158), _, _⟩) ?_; (apply so_call0 (fid := 158); (· (repeat (first | exact SeA.nil | (apply SeA.cons; (· (apply SeP.g; (repeat (first | exact SeL.nil | apply SeL.cons (.d _))))))))); (· exact w); (· rfl))) | (refine so_is (.call ⟨.value (.func 165), _, _⟩) ?_; ((apply so_callO0 (fid := 165); (· (repeat (first | exact SeA.nil | (apply SeA.cons; (· (apply SeP.g; (repeat (first | exact SeL.nil | apply SeL.cons (.d _))))))))); (· exact eightSums_p n ll h); (· rfl); (· rfl)))) | refine so_nil ?_ | refine sk_seq ?_ | refine sk_skip ?_ | refine sk_region ?_ | refine sk_false rfl ?_)
  all_goals first | (exfalso; simp_all; done) | skip
  (apply sk_ret; apply ret_eq; (· apply RetOK.t; (· (apply GvA.cons; (· exact .tmp _); (· (exact GvP.c (.row _ _ _ _ rfl (by ((simp; done))))))); (apply GvA.cons; (· exact .tmp _); (· exact GvP.c (.lit _))); exact GvA.nil); (· rfl); (· (decide))))
  rfl

end Go.Proofs.Ytefbiejoikpkmaa

namespace Go.Proofs.Ytefbiejoikpkmaa
open Go.RowKit
set_option linter.unusedSectionVars false
variable [Glb]
open Go
/-! rules: names, flips, plays that go through -/
def sayN (n : Int) : List Int := if n = 1 then [0, 0, 1, 1] else if n = 2 then [0, 1, 0, 1] else [0, 1, 1, 0]
def askBy (asks : List Int) : Bool := bitsB asks 4
def nonL (l : List Int) : List Int := rowF (fun k => 1 - atZ l (k : Int)) 4
def flS (s : List (List Int)) : List (List Int) := (List.range 2).map fun x : Nat => nonL (atZ s (x : Int))
def flP (s : List (List Int)) (i : Nat) : List (List Int) := (List.range i).map fun x : Nat => nonL (atZ s (x : Int))
@[simp] theorem flP_len (s : List (List Int)) (i : Nat) : (flP s i).length = i := by simp [flP]
def cpP (a : List (List Int)) (i : Nat) : List (List Int) := (List.range i).map fun x : Nat => atZ a (x : Int)
@[simp] theorem cpP_len (s : List (List Int)) (i : Nat) : (cpP s i).length = i := by simp [cpP]
/-- the answers of a player -/
def thrF (f : List Int) (a s : List (List Int)) (one two : List Int) (x : Nat) : Int := atZ (atZ s (x : Int)) (2 * atZ one (atZ f (x : Int)) + atZ two (atZ (atZ a (x : Int)) (atZ one (atZ f (x : Int)))))
def thrL (f : List Int) (a s : List (List Int)) (one two : List Int) : List Int := rowF (thrF f a s one two) 2
def thrB (f : List Int) (a s : List (List Int)) (one two : List Int) : Bool := ruleB f a s && (bitsB one 2 && bitsB two 2)
structure ThrOK (f : List Int) (a s : List (List Int)) (one two : List Int) (x : Nat) : Prop where
  f0 : 0 ≤ atZ f (x : Int) ∧ atZ f (x : Int) ≤ 1
  a0 : 0 ≤ atZ one (atZ f (x : Int)) ∧ atZ one (atZ f (x : Int)) ≤ 1
  al : (atZ a (x : Int)).length = 2
  k0 : 0 ≤ atZ (atZ a (x : Int)) (atZ one (atZ f (x : Int))) ∧ atZ (atZ a (x : Int)) (atZ one (atZ f (x : Int))) ≤ 1
  c0 : 0 ≤ atZ two (atZ (atZ a (x : Int)) (atZ one (atZ f (x : Int)))) ∧ atZ two (atZ (atZ a (x : Int)) (atZ one (atZ f (x : Int)))) ≤ 1
  sl : (atZ s (x : Int)).length = 4
  t0 : 0 ≤ thrF f a s one two x ∧ thrF f a s one two x ≤ 1
end Go.Proofs.Ytefbiejoikpkmaa

namespace Go.Proofs.Ytefbiejoikpkmaa
open Go.RowKit
set_option linter.unusedSectionVars false
variable [Glb]
set_option maxRecDepth 10000
set_option maxHeartbeats 4000000
theorem SumRuleBy_p (asks : List Int) : PC Try.prog 77 [.c (eI asks)] (.t [.g [eI (whenA (bitsB asks 4) sumF), eII (whenL (bitsB asks 4) (ruleA asks)), eII (whenL (bitsB asks 4) sumS)], .c (dB (bitsB asks 4))]) := by
  have w := isBits_p asks 4
  cases h : bitsB asks 4 with
  | false =>
    rw [h] at w
    refine pc_intro Try.func77 rfl rfl rfl (by kernel_rfl) rfl rfl ?_; intro _
    repeat' (first | (refine so_is (.alloc 96) ?_; refine so_alloc (zs := [.slice none 0 0, .slice none 0 0, .slice none 0 0]) (by kernel_rfl) rfl ?_) | (refine so_is (.assign _) ?_; (refine so_q (qt_asC rfl) rfl ?_)) | (refine so_is (.move _) ?_; (refine so_q (qt_mvC rfl) rfl ?_)) | (refine so_is (.unOp .not 4 _) ?_; refine so_q (qt_not rfl) rfl ?_) | (refine so_is (.build 96 _) ?_; refine so_q (qt_build (cs := [_, _, _]) [(0, 1), (1, 1), (2, 1)] [.slice none 0 0, .slice none 0 0, .slice none 0 0] (by kernel_rfl) (by kernel_rfl) rfl) rfl ?_) | (refine so_is (.store 96 _ _) ?_; (refine so_store_box rfl rfl rfl (by kernel_rfl) rfl rfl ?_)) | (refine so_is (.call ⟨.value (.func 140), _, _⟩) ?_; (apply so_call0 (fid := 140); (· (repeat (first | exact SeA.nil | apply SeA.cons (.c (.d _))))); (· exact w); (· rfl))) | refine so_nil ?_ | refine sk_seq ?_ | refine sk_region ?_ | refine sk_true rfl ?_)
    all_goals first | (exfalso; simp_all; done) | skip
    all_goals (apply sk_ret; apply ret_eq; (· apply RetOK.t; (· (apply GvA.cons; (· (apply RV.cellN (n := 3); (· rfl); (· rfl); (· kernel_rfl); (· rfl))); (· (apply GvP.g; (· ((apply GvL.cons (.nil 1 (by decide)))); ((apply GvL.cons (.nil 1 (by decide)))); ((apply GvL.cons (.nil 1 (by decide)))); exact GvL.nil)))); (apply GvA.cons; (· exact .tmp _); (· exact GvP.c (.lit _))); exact GvA.nil); (· rfl); (· (decide))))
    all_goals rfl
  | true =>
    rw [h] at w
    have hl := bitsB_len h
    refine pc_intro Try.func77 rfl rfl rfl (by kernel_rfl) rfl rfl ?_; intro _
    repeat' (first | (refine so_is (.alloc 96) ?_; refine so_alloc (zs := [.slice none 0 0, .slice none 0 0, .slice none 0 0]) (by kernel_rfl) rfl ?_) | (refine so_is (.assign _) ?_; (refine so_q (qt_asC rfl) rfl ?_)) | (refine so_is (.move _) ?_; (refine so_q (qt_mvC rfl) rfl ?_)) | (refine so_is (.unOp .not 4 _) ?_; refine so_q (qt_not rfl) rfl ?_) | (refine so_is (.store 96 _ _) ?_; (refine so_store_box rfl rfl rfl (by kernel_rfl) rfl rfl ?_)) | (refine so_is (.call ⟨.value (.func 140), _, _⟩) ?_; (apply so_call0 (fid := 140); (· (repeat (first | exact SeA.nil | apply SeA.cons (.c (.d _))))); (· exact w); (· rfl))) | (refine so_is (.call ⟨.value (.func 164), _, _⟩) ?_; ((apply so_callO0 (fid := 164); (· (repeat (first | exact SeA.nil | apply SeA.cons (.c (.d _))))); (· exact sumRuleBy_p asks (by omega)); (· rfl); (· rfl)))) | refine so_nil ?_ | refine sk_seq ?_ | refine sk_skip ?_ | refine sk_region ?_ | refine sk_false rfl ?_)
    all_goals first | (exfalso; simp_all; done) | skip
    all_goals (apply sk_ret; apply ret_eq; (· apply RetOK.t; (· (apply GvA.cons; (· (apply RV.cellN (n := 3); (· rfl); (· rfl); (· kernel_rfl); (· rfl))); (· (apply GvP.g; (· ((apply GvL.cons (.row _ _ _ _ rfl (by ((simp; done)))))); ((apply GvL.cons (.row _ _ _ _ rfl (by ((simp; done)))))); ((apply GvL.cons (.row _ _ _ _ rfl (by ((simp; done)))))); exact GvL.nil)))); (apply GvA.cons; (· exact .tmp _); (· exact GvP.c (.lit _))); exact GvA.nil); (· rfl); (· (decide))))
    all_goals rfl

end Go.Proofs.Ytefbiejoikpkmaa
