/- What the functions that FnGroups reaches return: part of its proof. No condition beyond those of its theorems. -/
import Derived.Test.YtefbiejoikpkmaaGreatKfnsFnGroupsA
import Derived.Test.YtefbiejoikpkmaaGreatKfnsFnGroupsD
import Derived.Test.YtefbiejoikpkmaaGreatKplainA
import Derived.Test.YtefbiejoikpkmaaGreatKplainB
import Derived.Test.YtefbiejoikpkmaaGreatKfnsFnGroupsB
import Derived.Test.YtefbiejoikpkmaaGreatKfnsFnGroupsC
set_option linter.unusedVariables false
set_option linter.unusedSimpArgs false
namespace Go.Proofs.YtefbiejoikpkmaaGreat
open Go.RowKit
set_option linter.unusedSectionVars false
variable [Glb]
set_option maxRecDepth 10000
set_option maxHeartbeats 4000000
theorem isQuietTrio_p (n : Int) (ll : List (List Int)) (h : trioB n ll = true) : PC Tryz.prog 135 [.g [dI n, eII ll]] (.p (.c (dB (quiet3 ll)))) := by
  have h3 := (trioB_spec h).2.2.1
  have hn := (trioB_spec h).2.1
  refine pc_intro Tryz.func135 rfl rfl rfl (by kernel_rfl) rfl rfl ?_; intro _
  repeat' (first | (refine so_is (.box 88 _) ?_; refine so_box rfl rfl ?_) | (refine so_is (.assign _) ?_; (refine so_q (qt_asC rfl) rfl ?_)) | (refine so_is (.move _) ?_; (refine so_q (qt_mvC rfl) rfl ?_)) | refine so_nil ?_ | refine sk_seq ?_ | refine sk_block ?_ | refine sk_region ?_)
  apply sk_packC [1, 9] [1] rfl; (· (repeat (first | exact Pf.nil | apply Pf.cons (.c rfl (.d rfl)) | apply Pf.cons (.c rfl (.lp rfl))))); (· (repeat (first | exact Pb.nil | (apply Pb.cons; (· apply Nb.box rfl; (repeat (first | exact Ncs.nil rfl | (apply Ncs.cons rfl; (· (exact .d rfl))))))))))
  refine sk_loopL [1] [1] (fun p => [(9, iN p)]) (fun _ => []) (fun p => p ≤ 3 ∧ (List.take p [4, 2, 1]).all (fun d => (List.range 8).all fun q => (List.range 8).all fun a => quietAt ll d q a) = true) (fun p => 3 - p) (0) ?_ (by (repeat (first | exact trivial | refine ⟨(by (rfl)), ?_⟩))) (by (repeat (exact trivial))) ?_
  · simp
  rintro p ⟨hp, ha⟩
  by_cases hp3 : p < 3
  · obtain ⟨d, hd1, hd2, hd3, hd4, hd5, hd6, hd7⟩ := quiet_digit p hp3
    repeat' (first | (refine so_is (.assign _) ?_; (refine so_q (qt_asC rfl) rfl ?_)) | (refine so_is (.move _) ?_; (refine so_q (qt_mvC rfl) rfl ?_)) | (refine so_is (.binOp .lss 3 _ _ _) ?_; refine so_q (qt_lss rfl rfl) rfl ?_) | (refine so_is (.binOp .shr 3 _ _ _) ?_; (refine so_q (qt_shrI rfl rfl (by (omega)) (by (omega))) rfl ?_)) | (refine so_is (.fieldAddr 88 _ 1) ?_; (refine so_q (qt_fld_lp (off := 1) rfl (by kernel_rfl)) rfl ?_)) | (refine so_is (.load 24 _) ?_; (refine so_q (qt_load_box rfl rfl (by kernel_rfl) rfl) rfl ?_)) | (refine so_is (.call ⟨.builtin .len, _, #[24]⟩) ?_; (refine so_q (qt_len_d rfl (by kernel_rfl)) rfl ?_)) | refine so_nil ?_ | refine sk_seq ?_ | refine sk_block ?_ | refine sk_exit rfl ?_ | refine sk_skip ?_ | refine sk_region ?_ | refine sk_if rfl (fun hc => ?_) (fun hc => ?_))
    · have hd' : (4 : Int) / 2 ^ ((p : Int)).toNat = (d : Int) := by simpa using hd1
      rw [hd']
      apply sk_packC [1, 4, 9, 15, 16, 17] [1] rfl; (· (repeat (first | exact Pf.nil | apply Pf.cons (.c rfl (.d rfl)) | apply Pf.cons (.c rfl (.lp rfl))))); (· (repeat (first | exact Pb.nil | (apply Pb.cons; (· apply Nb.box rfl; (repeat (first | exact Ncs.nil rfl | (apply Ncs.cons rfl; (· (exact .d rfl))))))))))
      refine sk_loopL [1, 4, 9, 15, 16] [1] (fun q => [(17, iN q)]) (fun _ => []) (fun q => q ≤ 8 ∧ (List.range q).all (fun q => (List.range 8).all fun a => quietAt ll d q a) = true) (fun q => 8 - q) (0) ?_ (by (repeat (first | exact trivial | refine ⟨(by (rfl)), ?_⟩))) (by (repeat (exact trivial))) ?_
      · simp
      rintro q ⟨hq, hqa⟩
      have hqs := range_all_s (f := fun q => (List.range 8).all fun a => quietAt ll d q a) (k := q)
      by_cases hq8 : q < 8
      · have r1 := trioB_at h (q := q) (by omega) (by omega)
        have bo8 := hd6 q hq8
        have ba := band_nat q d (by omega) (by omega)
        have bo := bor_nat q d (by omega) (by omega)
        have r2 := trioB_at h (q := (q ||| d : Nat)) (by omega) (by omega)
        obtain ⟨qd, hqd⟩ : ∃ qd, qd = q ||| d := ⟨_, rfl⟩
        rw [← hqd] at bo bo8 r2
        rw [← bo] at r2
        repeat' (first | (refine so_is (.assign _) ?_; (refine so_q (qt_asC rfl) rfl ?_)) | (refine so_is (.move _) ?_; (refine so_q (qt_mvC rfl) rfl ?_)) | (refine so_is (.binOp .lss 3 _ _ _) ?_; refine so_q (qt_lss rfl rfl) rfl ?_) | (refine so_is (.fieldAddr 88 _ 1) ?_; (refine so_q (qt_fld_lp (off := 1) rfl (by kernel_rfl)) rfl ?_)) | (refine so_is (.load 24 _) ?_; (refine so_q (qt_load_box rfl rfl (by kernel_rfl) rfl) rfl ?_)) | (refine so_is (.indexAddr 24 _ _) ?_; (refine so_q (qt_idxII rfl rfl (by kernel_rfl) (by (omega)) (by (omega))) rfl ?_)) | (refine so_is (.load 27 _) ?_; (refine so_q (qt_load_pt rfl (by kernel_rfl) rfl) rfl ?_)) | (refine so_is (.binOp .and 3 _ _ _) ?_; refine so_q (qt_bits rfl rfl (by simp)) rfl ?_) | (refine so_is (.binOp .neq 3 _ _ _) ?_; refine so_q (qt_neq rfl rfl) rfl ?_) | (refine so_is (.binOp .or 3 _ _ _) ?_; refine so_q (qt_bits rfl rfl (by simp)) rfl ?_) | (refine so_is (.call ⟨.builtin .len, _, #[27]⟩) ?_; (refine so_q (qt_len_d rfl (by kernel_rfl)) rfl ?_)) | (refine so_is (.binOp .add 3 _ _ _) ?_; refine so_q (qt_addI rfl rfl (by (omega))) rfl ?_) | refine so_nil ?_ | refine sk_seq ?_ | refine sk_block ?_ | refine sk_blk ?_ | refine sk_exit rfl ?_ | refine sk_skip ?_ | refine sk_region ?_ | refine sk_if rfl (fun hc => ?_) (fun hc => ?_))
        · have hne : ¬ q &&& d = 0 := by omega
          have hrow : ((List.range 8).all fun a => quietAt ll d q a) = true := by
            rw [List.all_eq_true]; intro a _; simp [quietAt, hne]
          refine sk_back ?_; refine ⟨q + 1, ?_, ?_, le_at rfl (by (repeat (first | exact trivial | refine ⟨(by (rfl)), ?_⟩))) (by (repeat (first | exact trivial | refine ⟨rfl, ?_⟩))) (by (repeat (exact trivial))) (by (repeat (first | exact trivial | refine ⟨.inr rfl, ?_⟩)))⟩
          · exact ⟨by omega, by rw [hqs, hqa, hrow]; rfl⟩
          · omega
        · have hqd0 : q &&& d = 0 := by omega
          apply sk_packC [1, 4, 6, 7, 9, 15, 16, 17, 34, 35] [1] rfl; (· (repeat (first | exact Pf.nil | apply Pf.cons (.c rfl (.d rfl)) | apply Pf.cons (.c rfl (.lp rfl))))); (· (repeat (first | exact Pb.nil | (apply Pb.cons; (· apply Nb.box rfl; (repeat (first | exact Ncs.nil rfl | (apply Ncs.cons rfl; (· (exact .d rfl))))))))))
          refine sk_loopL [1, 4, 6, 7, 9, 15, 16, 17, 34] [1] (fun a => [(35, iN a)]) (fun _ => []) (fun a => a ≤ 8 ∧ (List.range a).all (fun a => quietAt ll d q a) = true) (fun a => 8 - a) (0) ?_ (by (repeat (first | exact trivial | refine ⟨(by (rfl)), ?_⟩))) (by (repeat (exact trivial))) ?_
          · simp
          rintro a ⟨ha8, haa⟩
          have has := range_all_s (f := fun a => quietAt ll d q a) (k := a)
          by_cases ha9 : a < 8
          · have bx := bxor_nat a d (by omega) (by omega)
            have bx8 := hd5 a ha9
            obtain ⟨ax, hax⟩ : ∃ ax, ax = a ^^^ d := ⟨_, rfl⟩
            rw [← hax] at bx bx8
            have v1 := r1.2 a (by omega) (by omega)
            have v2 := r1.2 ax (by omega) (by omega)
            have v3 := r2.2 a (by omega) (by omega)
            have v4 := r2.2 ax (by omega) (by omega)
            rw [← bx] at v2
            rw [← bx] at v4
            repeat' (first | (refine so_is (.assign _) ?_; (refine so_q (qt_asC rfl) rfl ?_)) | (refine so_is (.move _) ?_; (refine so_q (qt_mvC rfl) rfl ?_)) | (refine so_is (.binOp .lss 3 _ _ _) ?_; refine so_q (qt_lss rfl rfl) rfl ?_) | (refine so_is (.binOp .neq 3 _ _ _) ?_; refine so_q (qt_neq rfl rfl) rfl ?_) | (refine so_is (.indexAddr 27 _ _) ?_; (refine so_q (qt_idxI rfl rfl (by kernel_rfl) (by (omega)) (by (omega))) rfl ?_)) | (refine so_is (.load 3 _) ?_; (refine so_q (qt_load_pt rfl (by kernel_rfl) rfl) rfl ?_)) | (refine so_is (.binOp .xor 3 _ _ _) ?_; refine so_q (qt_bits rfl rfl (by simp)) rfl ?_) | (refine so_is (.binOp .add 3 _ _ _) ?_; refine so_q (qt_addI rfl rfl (by (omega))) rfl ?_) | refine so_nil ?_ | refine sk_seq ?_ | refine sk_block ?_ | refine sk_blk ?_ | refine sk_exit rfl ?_ | refine sk_skip ?_ | refine sk_region ?_ | refine sk_drawQ 13 (fun _ => false) (.step 0 true (.step 1 true (.step 2 true (.step 3 true (.step 4 true (.step 5 true (.step 6 true (.step 7 true (.step 8 true (.step 9 true (.step 10 true (.step 11 true (.step 12 true (.step 13 true (.step 14 true (.step 15 true (.step 16 true (.step 17 true (.step 18 true (.step 19 true (.step 20 true (.step 21 true (.step 22 true .nil))))))))))))))))))))))) [(0, 8388607, 8388607, true), (0, 8388607, 8388607, true), (3, 8388604, 8388607, true), (4, 8388603, 8388607, false), (0, 8388607, 8388607, true), (0, 8388607, 8388607, true), (0, 8388607, 8388607, true), (96, 8388511, 8388607, true), (144, 8388463, 8388607, true), (256, 8388351, 8388607, false), (520, 8388087, 8388607, true), (0, 8388607, 8388607, true), (0, 8388607, 8388607, true), (6144, 8382463, 8388607, true), (8192, 8380415, 8388607, false), (0, 8388607, 8388607, true), (0, 8388607, 8388607, true), (0, 8388607, 8388607, true), (196608, 8191999, 8388607, true), (294912, 8093695, 8388607, true), (524288, 7864319, 8388607, false), (1064960, 7323647, 8388607, true), (2098176, 6290431, 8388607, true)] (by kernel_rfl) (by kernel_rfl) ?_ | refine sk_if rfl (fun hc => ?_) (fun hc => ?_))
            · rw [bx, bo] at hc
              have hq0 : quietAt ll d q a = false := by
                simp only [quietAt, at2, hqd0, ← hax, ← hqd]
                simp
                omega
              have hr0 : ((List.range 8).all fun a => quietAt ll d q a) = false := range_all_f ha9 hq0
              have hr1 : ((List.range 8).all fun q => (List.range 8).all fun a => quietAt ll d q a) = false := range_all_f (f := fun q => (List.range 8).all fun a => quietAt ll d q a) hq8 hr0
              (apply sk_ret; apply ret_eq; (· apply RetOK.p; (· (apply GvA.cons; (· exact .tmp _); (· exact GvP.c (.lit _))); exact GvA.nil); (· (decide))))
              unfold quiet3
              rw [hd4 (fun d => (List.range 8).all fun q => (List.range 8).all fun a => quietAt ll d q a) hr1]
            · rw [bx, bo] at hc
              have hq0 : quietAt ll d q a = true := by
                simp only [quietAt, at2, hqd0, ← hax, ← hqd]
                simp
                omega
              refine sk_back ?_; refine ⟨a + 1, ?_, ?_, le_at rfl (by (repeat (first | exact trivial | refine ⟨(by (rfl)), ?_⟩))) (by (repeat (first | exact trivial | refine ⟨rfl, ?_⟩))) (by (repeat (exact trivial))) (by (repeat (first | exact trivial | refine ⟨.inr rfl, ?_⟩)))⟩
              · exact ⟨by omega, by rw [has, haa, hq0]; rfl⟩
              · omega
            · exfalso; omega
          · have h8 : a = 8 := by omega
            subst h8
            repeat' (first | (refine so_is (.assign _) ?_; (refine so_q (qt_asC rfl) rfl ?_)) | (refine so_is (.move _) ?_; (refine so_q (qt_mvC rfl) rfl ?_)) | (refine so_is (.binOp .lss 3 _ _ _) ?_; refine so_q (qt_lss rfl rfl) rfl ?_) | (refine so_is (.binOp .neq 3 _ _ _) ?_; refine so_q (qt_neq rfl rfl) rfl ?_) | (refine so_is (.indexAddr 27 _ _) ?_; (refine so_q (qt_idxI rfl rfl (by kernel_rfl) (by (omega)) (by (omega))) rfl ?_)) | (refine so_is (.load 3 _) ?_; (refine so_q (qt_load_pt rfl (by kernel_rfl) rfl) rfl ?_)) | (refine so_is (.binOp .xor 3 _ _ _) ?_; refine so_q (qt_bits rfl rfl (by simp)) rfl ?_) | (refine so_is (.binOp .add 3 _ _ _) ?_; refine so_q (qt_addI rfl rfl (by (omega))) rfl ?_) | refine so_nil ?_ | refine sk_seq ?_ | refine sk_block ?_ | refine sk_blk ?_ | refine sk_exit rfl ?_ | refine sk_skip ?_ | refine sk_region ?_ | refine sk_drawQ 13 (fun _ => false) (.step 0 true (.step 1 true (.step 2 true (.step 3 true (.step 4 true (.step 5 true (.step 6 true (.step 7 true (.step 8 true (.step 9 true (.step 10 true (.step 11 true (.step 12 true (.step 13 true (.step 14 true (.step 15 true (.step 16 true (.step 17 true (.step 18 true (.step 19 true (.step 20 true (.step 21 true (.step 22 true .nil))))))))))))))))))))))) [(0, 8388607, 8388607, true), (0, 8388607, 8388607, true), (3, 8388604, 8388607, true), (4, 8388603, 8388607, false), (0, 8388607, 8388607, true), (0, 8388607, 8388607, true), (0, 8388607, 8388607, true), (96, 8388511, 8388607, true), (144, 8388463, 8388607, true), (256, 8388351, 8388607, false), (520, 8388087, 8388607, true), (0, 8388607, 8388607, true), (0, 8388607, 8388607, true), (6144, 8382463, 8388607, true), (8192, 8380415, 8388607, false), (0, 8388607, 8388607, true), (0, 8388607, 8388607, true), (0, 8388607, 8388607, true), (196608, 8191999, 8388607, true), (294912, 8093695, 8388607, true), (524288, 7864319, 8388607, false), (1064960, 7323647, 8388607, true), (2098176, 6290431, 8388607, true)] (by kernel_rfl) (by kernel_rfl) ?_ | refine sk_if rfl (fun hc => ?_) (fun hc => ?_))
            all_goals first | (exfalso; omega) | skip
            refine sk_back ?_; refine ⟨q + 1, ?_, ?_, le_at rfl (by (repeat (first | exact trivial | refine ⟨(by (rfl)), ?_⟩))) (by (repeat (first | exact trivial | refine ⟨rfl, ?_⟩))) (by (repeat (exact trivial))) (by (repeat (first | exact trivial | refine ⟨.inr rfl, ?_⟩)))⟩
            · exact ⟨by omega, by rw [hqs, hqa, haa]; rfl⟩
            · omega
        · exfalso; omega
      · have h8 : q = 8 := by omega
        subst h8
        repeat' (first | (refine so_is (.assign _) ?_; (refine so_q (qt_asC rfl) rfl ?_)) | (refine so_is (.move _) ?_; (refine so_q (qt_mvC rfl) rfl ?_)) | (refine so_is (.binOp .lss 3 _ _ _) ?_; refine so_q (qt_lss rfl rfl) rfl ?_) | (refine so_is (.fieldAddr 88 _ 1) ?_; (refine so_q (qt_fld_lp (off := 1) rfl (by kernel_rfl)) rfl ?_)) | (refine so_is (.load 24 _) ?_; (refine so_q (qt_load_box rfl rfl (by kernel_rfl) rfl) rfl ?_)) | (refine so_is (.indexAddr 24 _ _) ?_; (refine so_q (qt_idxII rfl rfl (by kernel_rfl) (by (omega)) (by (omega))) rfl ?_)) | (refine so_is (.load 27 _) ?_; (refine so_q (qt_load_pt rfl (by kernel_rfl) rfl) rfl ?_)) | (refine so_is (.binOp .and 3 _ _ _) ?_; refine so_q (qt_bits rfl rfl (by simp)) rfl ?_) | (refine so_is (.binOp .neq 3 _ _ _) ?_; refine so_q (qt_neq rfl rfl) rfl ?_) | (refine so_is (.binOp .or 3 _ _ _) ?_; refine so_q (qt_bits rfl rfl (by simp)) rfl ?_) | (refine so_is (.call ⟨.builtin .len, _, #[27]⟩) ?_; (refine so_q (qt_len_d rfl (by kernel_rfl)) rfl ?_)) | (refine so_is (.binOp .add 3 _ _ _) ?_; refine so_q (qt_addI rfl rfl (by (omega))) rfl ?_) | refine so_nil ?_ | refine sk_seq ?_ | refine sk_block ?_ | refine sk_blk ?_ | refine sk_exit rfl ?_ | refine sk_skip ?_ | refine sk_region ?_ | refine sk_if rfl (fun hc => ?_) (fun hc => ?_))
        all_goals first | (exfalso; omega) | skip
        refine sk_back ?_; refine ⟨p + 1, ?_, ?_, le_at rfl (by (repeat (first | exact trivial | refine ⟨(by (rfl)), ?_⟩))) (by (repeat (first | exact trivial | refine ⟨rfl, ?_⟩))) (by (repeat (exact trivial))) (by (repeat (first | exact trivial | refine ⟨.inr rfl, ?_⟩)))⟩
        · exact ⟨by omega, by rw [hd2, ha, hqa]; rfl⟩
        · omega
    · exfalso; omega
  · have h8 : p = 3 := by omega
    subst h8
    repeat' (first | (refine so_is (.assign _) ?_; (refine so_q (qt_asC rfl) rfl ?_)) | (refine so_is (.binOp .lss 3 _ _ _) ?_; refine so_q (qt_lss rfl rfl) rfl ?_) | refine so_nil ?_ | refine sk_seq ?_ | refine sk_exit rfl ?_ | refine sk_region ?_ | refine sk_false rfl ?_)
    all_goals first | (exfalso; omega) | skip
    (apply sk_ret; apply ret_eq; (· apply RetOK.p; (· (apply GvA.cons; (· exact .tmp _); (· exact GvP.c (.lit _))); exact GvA.nil); (· (decide))))
    unfold quiet3
    rw [← ha]; rfl

end Go.Proofs.YtefbiejoikpkmaaGreat

namespace Go.Proofs.YtefbiejoikpkmaaGreat
open Go.RowKit
set_option linter.unusedSectionVars false
variable [Glb]
set_option maxRecDepth 10000
set_option maxHeartbeats 4000000
theorem newBox_p (x y : Nat) (wh : Int) (fid : FuncId) (caps : List D) (f : Nat → Nat → Nat → Int) (hx : x ≤ 3) (hy : y ≤ 3)
    (hf : ∀ i k p : Nat, i < x → k < y → p < 4 → PC Tryz.prog fid ([.c (dI i), .c (dI k), .c (dI ((p / 2 : Nat) : Int)), .c (dI ((p % 2 : Nat) : Int))] ++ caps.map RP.c) (.p (.c (dI (f i k p))))) :
    PC Tryz.prog 136 [.c (dI x), .c (dI y), .c (dI wh), .c (.fn (.func fid) caps)] (.p (.g [dI x, dI y, dI wh, eII (boxF f y (y * x))])) := by
  have hxy : y * x ≤ 3 * 3 := Nat.mul_le_mul hy hx
  refine pc_intro Tryz.func136 rfl rfl rfl (by kernel_rfl) rfl rfl ?_; intro _
  repeat' (first | (refine so_is (.alloc 26) ?_; refine so_alloc (zs := [.int .i64 0, .int .i64 0, .int .i64 0, .slice none 0 0]) (by kernel_rfl) rfl ?_) | (refine so_is (.move _) ?_; (refine so_q (qt_mvC rfl) rfl ?_)) | (refine so_is (.build 26 _) ?_; refine so_q (qt_build (cs := [_, _, _, _]) [(0, 1), (1, 1), (2, 1), (3, 1)] [.int .i64 0, .int .i64 0, .int .i64 0, .slice none 0 0] (by kernel_rfl) (by kernel_rfl) rfl) rfl ?_) | (refine so_is (.store 26 _ _) ?_; (refine so_store_box rfl rfl rfl (by kernel_rfl) rfl rfl ?_)) | refine so_nil ?_ | refine sk_seq ?_ | refine sk_block ?_ | refine sk_region ?_)
  refine sk_ghost (sim_nil_box 9 3 46 1 rfl (by decide) rfl rfl rfl) ?_
  apply sk_packC [1, 3, 8, 9, 18, 19] [8, 9, 26, 39, 40, 45, 46] rfl; (· (repeat (first | exact Pf.nil | apply Pf.cons (.c rfl (.d rfl)) | apply Pf.cons (.c rfl (.lp rfl))))); (· (repeat (first | exact Pb.nil | apply Pb.cons (.row rfl) | (apply Pb.cons; (· apply Nb.box rfl; (repeat (first | exact Ncs.nil rfl | (apply Ncs.cons rfl; (· (first | exact .d rfl | exact .ls rfl))))))) | apply Pb.skip)))
  refine sk_loopL [1, 3, 8, 9, 18] [8, 26, 39, 40, 45] (fun i => [(19, iN i)]) (fun i => [(9, .box [.d (dI x), .d (dI y), .d (dI wh), .ls 46 1 0 (y * i)]), (46, .row 1 (cII (boxF f y (y * i))))]) (fun i => i ≤ x) (fun i => x - i) (0) ?_ (by (repeat (first | exact trivial | refine ⟨(by (rfl)), ?_⟩))) (by (repeat (first | exact trivial | refine ⟨(by (first | (refine box_eq rfl ?_; simp; done) | rfl)), ?_⟩))) ?_
  · omega
  intro i hi
  repeat' (first | (refine so_is (.move _) ?_; (refine so_q (qt_mvC rfl) rfl ?_)) | (refine so_is (.store 26 _ _) ?_; (refine so_store_box rfl rfl rfl (by kernel_rfl) rfl rfl ?_)) | (refine so_is (.binOp .lss 3 _ _ _) ?_; refine so_q (qt_lss rfl rfl) rfl ?_) | (refine so_is (.assign _) ?_; (refine so_q (qt_asC rfl) rfl ?_)) | (refine so_is (.load 26 _) ?_; (refine so_q (qt_load_boxs rfl rfl (by kernel_rfl : tAgg _ 26 4 = true) rfl) rfl ?_)) | refine so_nil ?_ | refine sk_seq ?_ | refine sk_block ?_ | refine sk_exit rfl ?_ | refine sk_skip ?_ | refine sk_region ?_ | refine sk_if rfl (fun hc => ?_) (fun hc => ?_))
  · apply sk_packC [1, 3, 8, 9, 10, 18, 19, 22, 23] [8, 9, 26, 39, 40, 45, 46] rfl; (· (repeat (first | exact Pf.nil | apply Pf.cons (.c rfl (.d rfl)) | apply Pf.cons (.c rfl (.lp rfl))))); (· (repeat (first | exact Pb.nil | apply Pb.cons (.row rfl) | (apply Pb.cons; (· apply Nb.box rfl; (repeat (first | exact Ncs.nil rfl | (apply Ncs.cons rfl; (· (first | exact .d rfl | exact .ls rfl))))))) | apply Pb.skip)))
    refine sk_loopL [1, 3, 8, 9, 10, 18, 19, 22] [8, 26, 39, 40, 45] (fun k => [(23, iN k)]) (fun k => [(9, .box [.d (dI x), .d (dI y), .d (dI wh), .ls 46 1 0 (y * i + k)]), (46, .row 1 (cII (boxF f y (y * i + k))))]) (fun k => k ≤ y) (fun k => y - k) (0) ?_ (by (repeat (first | exact trivial | refine ⟨(by (rfl)), ?_⟩))) (by (repeat (first | exact trivial | refine ⟨(by (first | (refine row_eq rfl ?_; simp; done) | (refine box_eq rfl ?_; simp; done))), ?_⟩))) ?_
    · omega
    intro k hk
    repeat' (first | (refine so_is (.move _) ?_; (refine so_q (qt_mvC rfl) rfl ?_)) | (refine so_is (.binOp .lss 3 _ _ _) ?_; refine so_q (qt_lss rfl rfl) rfl ?_) | (refine so_is (.assign _) ?_; (refine so_q (qt_asC rfl) rfl ?_)) | (refine so_is (.buildSlice 27 0 _) ?_; (apply so_bslice (sz := 1) (by_ := 8); (· kernel_rfl); (· decide); (· (repeat (exact GvS.nil _))); (· (decide)); (· rfl); (· rfl); (· rfl))) | (refine so_is (.binOp .add 3 _ _ _) ?_; refine so_q (qt_addI rfl rfl (by (omega))) rfl ?_) | refine so_nil ?_ | refine sk_seq ?_ | refine sk_block ?_ | refine sk_blk ?_ | refine sk_exit rfl ?_ | refine sk_skip ?_ | refine sk_region ?_ | refine sk_if rfl (fun hc => ?_) (fun hc => ?_))
    · have hik := idx_ltN (i := i) (k := k) (X := x) (Y := y) (by omega) (by omega)
      apply sk_packC [1, 3, 8, 9, 10, 11, 12, 18, 19, 22, 23, 27] [8, 9, 26, 39, 40, 45, 46] rfl; (· (repeat (first | exact Pf.nil | apply Pf.cons (.c rfl (.d rfl)) | apply Pf.cons (.c rfl (.ls rfl)) | apply Pf.cons (.c rfl (.lp rfl))))); (· (repeat (first | exact Pb.nil | apply Pb.cons (.row rfl) | (apply Pb.cons; (· apply Nb.box rfl; (repeat (first | exact Ncs.nil rfl | (apply Ncs.cons rfl; (· (first | exact .d rfl | exact .ls rfl))))))) | apply Pb.skip)))
      refine sk_loopL [1, 3, 8, 9, 10, 11, 18, 19, 22, 23] [8, 9, 39, 40, 45, 46] (fun p => [(27, iN p), (12, .c (.ls 26 1 0 p))]) (fun p => [(26, .row 1 (cI (rowF (f i k) p)))]) (fun p => p ≤ 4) (fun p => 4 - p) (0) ?_ (by (repeat (first | exact trivial | refine ⟨(by (rfl)), ?_⟩))) (by (repeat (first | exact trivial | refine ⟨(by (rfl)), ?_⟩))) ?_
      · omega
      intro p hp
      repeat' (first | (refine so_is (.move _) ?_; (refine so_q (qt_mvC rfl) rfl ?_)) | (refine so_is (.binOp .lss 3 _ _ _) ?_; refine so_q (qt_lss rfl rfl) rfl ?_) | (refine so_is (.assign _) ?_; (refine so_q (qt_asC rfl) rfl ?_)) | (refine so_is (.binOp .quo 3 _ _ _) ?_; (refine so_q (qt_quoN rfl rfl (by (omega)) (by (omega)) (by (omega))) rfl ?_)) | (refine so_is (.binOp .rem 3 _ _ _) ?_; (refine so_q (qt_remN rfl rfl (by (omega)) (by (omega)) (by (omega))) rfl ?_)) | (refine so_is (.buildSlice 27 1 _) ?_; (apply so_bslice (sz := 1) (by_ := 8); (· kernel_rfl); (· decide); (· (repeat (first | exact GvS.nil _ | apply GvS.c rfl rfl (.lit _) rfl))); (· (decide)); (· rfl); (· rfl); (· rfl))) | (refine so_is (.call ⟨.builtin .append, _, #[27, 27]⟩) ?_; ((apply so_appR (sz := 1) (by_ := 8); (· rfl); (· rfl); (· ((simp; done))); (· exact .row _ _ _ _ rfl (by ((simp; done)))); (· (decide)); (· kernel_rfl); (· decide); (· (omega)); (· (omega)); (· rfl); (· rfl); (· rfl)))) | (refine so_is (.binOp .add 3 _ _ _) ?_; refine so_q (qt_addI rfl rfl (by (omega))) rfl ?_) | (refine so_is (.fieldAddr 26 _ 3) ?_; (refine so_q (qt_fld_lp (off := 3) rfl (by kernel_rfl)) rfl ?_)) | (refine so_is (.load 24 _) ?_; (refine so_q (qt_load_box rfl rfl (by kernel_rfl) rfl) rfl ?_)) | (refine so_is (.buildSlice 24 1 _) ?_; (apply so_bslice (sz := 1) (by_ := 24); (· kernel_rfl); (· decide); (· (repeat (first | exact GvS.nil _ | apply GvS.c rfl rfl (.row _ _ _ _ rfl (by ((simp; done)))) rfl))); (· (decide)); (· rfl); (· rfl); (· rfl))) | (refine so_is (.call ⟨.builtin .append, _, #[24, 24]⟩) ?_; ((apply so_appR (sz := 1) (by_ := 24); (· rfl); (· rfl); (· ((simp; done))); (· exact .row _ _ _ _ rfl (by ((simp; done)))); (· (decide)); (· kernel_rfl); (· decide); (· (omega)); (· (omega)); (· rfl); (· rfl); (· rfl)))) | (refine so_is (.store 24 _ _) ?_; (refine so_store_box1 rfl rfl rfl rfl (by kernel_rfl) rfl rfl ?_)) | (refine so_is (.call ⟨.value (.tmp 31), _, _⟩) ?_; (apply so_call; (· (exact .c (.d _))); (· (repeat (first | exact SeA.nil | apply SeA.cons (.c (.d _))))); (· exact hf i k p (by omega) (by omega) (by omega)); (· rfl))) | refine so_nil ?_ | refine sk_seq ?_ | refine sk_block ?_ | refine sk_blk ?_ | refine sk_exit rfl ?_ | refine sk_skip ?_ | refine sk_region ?_ | refine sk_if rfl (fun hc => ?_) (fun hc => ?_))
      · refine sk_back ?_; refine ⟨p + 1, ?_, ?_, le_at rfl (by (repeat (first | exact trivial | refine ⟨(by (rfl)), ?_⟩))) (by (repeat (first | exact trivial | refine ⟨rfl, ?_⟩))) (by (repeat (first | exact trivial | refine ⟨(by ((refine row_eq rfl ?_; simp  [rowF_snoc]; done))), ?_⟩))) (by (repeat (first | exact trivial | refine ⟨.inr rfl, ?_⟩)))⟩
        · omega
        · omega
      · have h4 : p = 4 := by omega
        subst h4
        refine sk_back ?_; refine ⟨k + 1, ?_, ?_, le_at rfl (by (repeat (first | exact trivial | refine ⟨(by (rfl)), ?_⟩))) (by (repeat (first | exact trivial | refine ⟨rfl, ?_⟩))) (by (repeat (first | exact trivial | refine ⟨(by (first | (refine row_eq rfl ?_; simp  [boxF_snoc _ _ _ _ (show k < y by omega)]; done) | rfl)), ?_⟩))) (by (repeat (first | exact trivial | refine ⟨.inr rfl, ?_⟩)))⟩
        · omega
        · omega
    · have h4 : k = y := by omega
      subst h4
      refine sk_back ?_; refine ⟨i + 1, ?_, ?_, le_at rfl (by (repeat (first | exact trivial | refine ⟨(by (rfl)), ?_⟩))) (by (repeat (first | exact trivial | refine ⟨rfl, ?_⟩))) (by (repeat (first | exact trivial | refine ⟨(by (rfl)), ?_⟩))) (by (repeat (first | exact trivial | refine ⟨.inr rfl, ?_⟩)))⟩
      · omega
      · omega
  · have h4 : i = x := by omega
    subst h4
    (apply sk_ret; apply ret_eq; (· apply RetOK.p; (· (apply GvA.cons; (· (apply RV.cellN (n := 4); (· rfl); (· rfl); (· kernel_rfl); (· rfl))); (· (apply GvP.g; (· (apply GvL.cons (.lit _)); (apply GvL.cons (.lit _)); (apply GvL.cons (.lit _)); ((apply GvL.cons (.row _ _ _ _ rfl (by ((simp; done)))))); exact GvL.nil)))); exact GvA.nil); (· (decide))))
    simp

end Go.Proofs.YtefbiejoikpkmaaGreat

namespace Go.Proofs.YtefbiejoikpkmaaGreat
open Go.RowKit
set_option linter.unusedSectionVars false
variable [Glb]
set_option maxRecDepth 10000
set_option maxHeartbeats 4000000
theorem PairOf1_p (n : Int) (ll : List (List Int)) (a : Int) (ht : trioB n ll = true) (ha : a = 0 ∨ a = 1 ∨ a = 2) (x y p : Nat) (hx : x < 2) (hy : y < 2) (hp : p < 4) :
    PC Tryz.prog 137 [.c (dI x), .c (dI y), .c (dI ((p / 2 : Nat) : Int)), .c (dI ((p % 2 : Nat) : Int)), .c (.pt [dI n, eII ll]), .c (.pt [dI (oth1 a)]), .c (.pt [dI (oth2 a)]), .c (.pt [dI a])] (.p (.c (dI (pairV a ll x y p)))) := by
  obtain ⟨b, hb⟩ : ∃ b, b = p / 2 := ⟨_, rfl⟩
  obtain ⟨c, hc⟩ : ∃ c, c = p % 2 := ⟨_, rfl⟩
  have hb2 : b ≤ 1 := by omega
  have hc2 : c ≤ 1 := by omega
  unfold pairV
  rw [← hb, ← hc]
  clear hb hc
  have hn := (trioB_spec ht).2.1
  have hl := (trioB_spec ht).2.2.1
  have t1 := two2_lt ha (x := x) (y := y) (by omega) (by omega)
  have t2 := two2_lt ha (x := b) (y := c) (by omega) (by omega)
  have r := trioB_at ht (q := two2 a x y) (by omega) (by omega)
  have v1 := r.2 (two2 a b c) (by omega) (by omega)
  have v2 := r.2 ((two2 a b c + 2 ^ (2 - a.toNat) : Nat) : Int) (Int.natCast_nonneg _) (by omega)
  have o1 := or_two ha (x := x) (y := y) (by omega) (by omega)
  have o2 := or_two ha hb2 hc2
  have o3 := or_bit ha hb2 hc2
  have s1 := sh_bd ha (x := x) (by omega)
  have s2 := sh_bd ha (x := y) (by omega)
  have s3 := sh_bd ha hb2
  have s4 := sh_bd ha hc2
  have a2 : 0 ≤ a ∧ a ≤ 2 := by omega
  have r8 := r.1
  clear r
  obtain ⟨T, hT⟩ : ∃ T, T = two2 a x y := ⟨_, rfl⟩
  obtain ⟨U, hU⟩ : ∃ U, U = two2 a b c := ⟨_, rfl⟩
  obtain ⟨W, hW⟩ : ∃ W, W = two2 a b c + 2 ^ (2 - a.toNat) := ⟨_, rfl⟩
  rw [← hW, ← hT] at v2
  rw [← hW, ← hU] at o3
  rw [← hT, ← hU] at v1
  rw [← hT] at o1 r8
  rw [← hU] at o2
  rw [← hW, ← hU] at t2
  rw [← hT] at t1
  rw [← hT, ← hW, ← hU]
  rw [← o2] at o3
  clear hT hU hW ha ht
  rw [← o1] at r8 v1 v2
  rw [← o2] at v1
  rw [← o3] at v2
  refine pc_intro Tryz.func137 rfl rfl rfl (by kernel_rfl) rfl rfl ?_; intro _
  repeat' (first | (refine so_is (.assign _) ?_; (refine so_q (qt_asC rfl) rfl ?_)) | (refine so_is (.fieldAddr 88 _ 1) ?_; (refine so_q (qt_fld_pt (off := 1) rfl (by kernel_rfl) (by simp)) rfl ?_)) | (refine so_is (.load 24 _) ?_; (refine so_q (qt_load_pt rfl (by kernel_rfl) rfl) rfl ?_)) | (refine so_is (.move _) ?_; (refine so_q (qt_mvC rfl) rfl ?_)) | (refine so_is (.load 3 _) ?_; (refine so_q (qt_load_pt rfl (by kernel_rfl) rfl) rfl ?_)) | (refine so_is (.binOp .sub 3 _ _ _) ?_; refine so_q (qt_subI rfl rfl (by (omega))) rfl ?_) | (refine so_is (.binOp .shl 3 _ _ _) ?_; (refine so_q (qt_shlI rfl rfl (by (omega)) (by (omega)) (by (omega))) rfl ?_)) | (refine so_is (.binOp .or 3 _ _ _) ?_; refine so_q (qt_bits rfl rfl (by simp)) rfl ?_) | (refine so_is (.indexAddr 24 _ _) ?_; (refine so_q (qt_idxII rfl rfl (by kernel_rfl) (by (omega)) (by (omega))) rfl ?_)) | (refine so_is (.load 27 _) ?_; (refine so_q (qt_load_pt rfl (by kernel_rfl) rfl) rfl ?_)) | (refine so_is (.indexAddr 27 _ _) ?_; (refine so_q (qt_idxI rfl rfl (by kernel_rfl) (by (omega)) (by (omega))) rfl ?_)) | (refine so_is (.binOp .shr 3 _ _ _) ?_; (refine so_q (qt_shrI rfl rfl (by (omega)) (by (omega))) rfl ?_)) | (refine so_is (.binOp .add 3 _ _ _) ?_; refine so_q (qt_addI rfl rfl (by (omega))) rfl ?_) | refine so_nil ?_ | refine sk_seq ?_ | refine sk_region ?_ | refine sk_drawQ 1 (fun _ => false) (.step 0 true (.step 1 true (.step 2 true (.step 3 true (.step 4 true (.step 5 true (.step 6 true (.step 7 true (.step 8 true (.step 9 true (.step 10 true (.step 11 true (.step 12 true (.step 13 true .nil)))))))))))))) [(0, 16383, 16383, true), (1, 16382, 16383, false), (0, 16383, 16383, true), (0, 16383, 16383, false), (8, 16375, 16383, true), (20, 16363, 16383, true), (0, 16383, 16383, true), (0, 16383, 16383, false), (128, 16255, 16383, true), (320, 16063, 16383, true), (544, 15839, 16383, true), (1026, 15357, 16383, true), (2048, 14335, 16383, false), (8191, 12287, 16383, true)] (by kernel_rfl) (by kernel_rfl) ?_ | refine sk_drawQ 2 (fun _ => false) (.step 0 true (.step 1 true (.step 2 true (.step 3 true (.step 4 true (.step 5 true (.step 6 true (.step 7 true (.step 8 true (.step 9 true .nil)))))))))) [(0, 1023, 1023, true), (0, 1023, 1023, false), (2, 1021, 1023, true), (5, 1018, 1023, true), (0, 1023, 1023, true), (0, 1023, 1023, false), (32, 991, 1023, true), (80, 943, 1023, true), (136, 887, 1023, true), (511, 767, 1023, true)] (by kernel_rfl) (by kernel_rfl) ?_ | refine sk_drawQ 3 (fun _ => false) (.step 0 true (.step 1 true (.step 2 true (.step 3 true (.step 4 true (.step 5 true (.step 6 true (.step 7 true (.step 8 true (.step 9 true (.step 10 true (.step 11 true (.step 12 true .nil))))))))))))) [(0, 8191, 8191, true), (0, 8191, 8191, true), (3, 8188, 8191, true), (4, 8187, 8191, false), (0, 8191, 8191, true), (0, 8191, 8191, true), (0, 8191, 8191, false), (64, 8127, 8191, true), (160, 8031, 8191, true), (272, 7919, 8191, true), (512, 7679, 8191, false), (1032, 7159, 8191, true), (4095, 6143, 8191, true)] (by kernel_rfl) (by kernel_rfl) ?_)
  (apply sk_ret; apply ret_eq; (· apply RetOK.p; (· (apply GvA.cons; (· exact .tmp _); (· exact GvP.c (.lit _))); exact GvA.nil); (· (decide))))
  rw [o3, o1, o2]
theorem PairOf_p (n : Int) (ll : List (List Int)) (a : Int) : PC Tryz.prog 59 [.g [dI n, eII ll], .c (dI a)]
    (.t [.g [dI (whenN (pairOfB n ll a) 2), dI (whenN (pairOfB n ll a) 2), dI (whenN (pairOfB n ll a) n), eII (whenL (pairOfB n ll a) (boxF (pairV a ll) 2 4))], .c (dB (pairOfB n ll a))]) := by
  cases hB : pairOfB n ll a with
  | false =>
    refine pc_intro Tryz.func59 rfl rfl rfl (by kernel_rfl) rfl rfl ?_; intro _
    repeat' (first | (refine so_is (.box 88 _) ?_; refine so_box rfl rfl ?_) | (refine so_is (.box 3 _) ?_; refine so_box rfl rfl ?_) | (refine so_is (.alloc 26) ?_; refine so_alloc (zs := [.int .i64 0, .int .i64 0, .int .i64 0, .slice none 0 0]) (by kernel_rfl) rfl ?_) | (refine so_is (.assign _) ?_; (refine so_q (qt_asC rfl) rfl ?_)) | (refine so_is (.load 88 _) ?_; (refine so_q (qt_load_boxs rfl rfl (by kernel_rfl : tAgg _ 88 2 = true) rfl) rfl ?_)) | (refine so_is (.unOp .not 4 _) ?_; refine so_q (qt_not rfl) rfl ?_) | (refine so_is (.move _) ?_; (refine so_q (qt_mvC rfl) rfl ?_)) | (refine so_is (.pick _ _ _) ?_; (refine so_q (qt_pkC rfl rfl) rfl ?_)) | (refine so_is (.load 3 _) ?_; (refine so_q (qt_load_box rfl rfl (by kernel_rfl) rfl) rfl ?_)) | (refine so_is (.build 26 _) ?_; refine so_q (qt_build (cs := [_, _, _, _]) [(0, 1), (1, 1), (2, 1), (3, 1)] [.int .i64 0, .int .i64 0, .int .i64 0, .slice none 0 0] (by kernel_rfl) (by kernel_rfl) rfl) rfl ?_) | (refine so_is (.store 26 _ _) ?_; (refine so_store_box rfl rfl rfl (by kernel_rfl) rfl rfl ?_)) | (refine so_is (.call ⟨.value (.func 134), _, _⟩) ?_; (apply so_call0 (fid := 134); (· (repeat (first | exact SeA.nil | (apply SeA.cons; (· (apply SeP.g; (repeat (first | exact SeL.nil | apply SeL.cons (.d _))))))))); (· exact IsTrio_p _ _); (· rfl))) | (refine so_is (.call ⟨.value (.func 135), _, _⟩) ?_; (apply so_call0 (fid := 135); (· (repeat (first | exact SeA.nil | (apply SeA.cons; (· (apply SeP.g; (repeat (first | exact SeL.nil | apply SeL.cons (.d _))))))))); (· exact isQuietTrio_p _ _ (by simp_all)); (· rfl))) | (refine so_is (.call ⟨.value (.func 78), _, _⟩) ?_; (apply so_call0 (fid := 78); (· (repeat (first | exact SeA.nil | apply SeA.cons (.c (.d _))))); (· exact within_p _ _ _); (· rfl))) | refine so_nil ?_ | refine so_g_no rfl rfl rfl rfl ?_ | refine so_g_yes rfl rfl rfl rfl ?_ | refine so_g_b rfl rfl (fun hg => ?_) (fun hg => ?_) | refine sk_seq ?_ | refine sk_skip ?_ | refine sk_region ?_ | refine sk_true rfl ?_ | refine sk_not rfl (fun hc => ?_) (fun hc => ?_))
    all_goals first | (exfalso; simp_all [pairOfB]; done) | skip
    all_goals (apply sk_ret; apply ret_eq; (· apply RetOK.t; (· (apply GvA.cons; (· (apply RV.cellN (n := 4); (· rfl); (· rfl); (· kernel_rfl); (· rfl))); (· (apply GvP.g; (· (apply GvL.cons (.lit _)); (apply GvL.cons (.lit _)); (apply GvL.cons (.lit _)); ((apply GvL.cons (.nil 1 (by decide)))); exact GvL.nil)))); (apply GvA.cons; (· exact .tmp _); (· exact GvP.c (.lit _))); exact GvA.nil); (· rfl); (· (decide))))
    all_goals simp [whenN, whenL]
  | true =>
    have hB2 := hB
    simp only [pairOfB, Bool.and_eq_true] at hB2
    obtain ⟨b1, b2, b3⟩ := hB2
    have ha := inB_02 b3
    have nb := newBox_p 2 2 n 137 [.pt [dI n, eII ll], .pt [dI (oth1 a)], .pt [dI (oth2 a)], .pt [dI a]] (pairV a ll) (by omega) (by omega) (fun i k p hi hk hp => PairOf1_p n ll a b1 ha i k p hi hk hp)
    refine pc_intro Tryz.func59 rfl rfl rfl (by kernel_rfl) rfl rfl ?_; intro _
    repeat' (first | (refine so_is (.box 88 _) ?_; refine so_box rfl rfl ?_) | (refine so_is (.box 3 _) ?_; refine so_box rfl rfl ?_) | (refine so_is (.alloc 26) ?_; refine so_alloc (zs := [.int .i64 0, .int .i64 0, .int .i64 0, .slice none 0 0]) (by kernel_rfl) rfl ?_) | (refine so_is (.assign _) ?_; (refine so_q (qt_asC rfl) rfl ?_)) | (refine so_is (.load 88 _) ?_; (refine so_q (qt_load_boxs rfl rfl (by kernel_rfl : tAgg _ 88 2 = true) rfl) rfl ?_)) | (refine so_is (.unOp .not 4 _) ?_; refine so_q (qt_not rfl) rfl ?_) | (refine so_is (.move _) ?_; (first | refine so_q (qt_mvC rfl) rfl ?_ | refine so_q (qt_mvT rfl) rfl ?_)) | (refine so_is (.pick _ _ _) ?_; (refine so_q (qt_pkC rfl rfl) rfl ?_)) | (refine so_is (.load 3 _) ?_; (refine so_q (qt_load_box rfl rfl (by kernel_rfl) rfl) rfl ?_)) | (refine so_is (.build 26 _) ?_; refine so_q (qt_build (cs := [_, _, _, _]) [(0, 1), (1, 1), (2, 1), (3, 1)] [.int .i64 0, .int .i64 0, .int .i64 0, .slice none 0 0] (by kernel_rfl) (by kernel_rfl) rfl) rfl ?_) | (refine so_is (.store 26 _ _) ?_; (refine so_store_box rfl rfl rfl (by kernel_rfl) rfl rfl ?_)) | (refine so_is (.extract _ _) ?_; refine so_q (qt_extract rfl rfl) rfl ?_) | (refine so_is (.alloc 3) ?_; refine so_alloc (zs := [.int .i64 0]) (by kernel_rfl) rfl ?_) | (refine so_is (.store 3 _ _) ?_; (refine so_store_box1 rfl rfl rfl rfl (by kernel_rfl) rfl rfl ?_)) | (refine so_is (.fieldAddr 88 _ 0) ?_; (refine so_q (qt_fld_lp (off := 0) rfl (by kernel_rfl)) rfl ?_)) | (refine so_is (.makeFunc _ _ _) ?_; (apply so_q; (· apply qt_makeFunc; (repeat (first | exact EvL.nil | (apply EvL.cons; (· rfl))))); (· rfl))) | (refine so_is (.call ⟨.value (.func 134), _, _⟩) ?_; ((apply so_call0 (fid := 134); (· (repeat (first | exact SeA.nil | (apply SeA.cons; (· (apply SeP.g; (repeat (first | exact SeL.nil | apply SeL.cons (.d _))))))))); (· exact IsTrio_p _ _); (· rfl)))) | (refine so_is (.call ⟨.value (.func 135), _, _⟩) ?_; ((apply so_call0 (fid := 135); (· (repeat (first | exact SeA.nil | (apply SeA.cons; (· (apply SeP.g; (repeat (first | exact SeL.nil | apply SeL.cons (.d _))))))))); (· exact isQuietTrio_p _ _ b1); (· rfl)))) | (refine so_is (.call ⟨.value (.func 78), _, _⟩) ?_; ((apply so_call0 (fid := 78); (· (repeat (first | exact SeA.nil | apply SeA.cons (.c (.d _))))); (· exact within_p _ _ _); (· rfl)))) | (refine so_is (.call ⟨.value (.func 128), _, _⟩) ?_; ((apply so_call0 (fid := 128); (· (repeat (first | exact SeA.nil | apply SeA.cons (.c (.d _))))); (· exact others_p a (by omega) (by omega)); (· rfl)))) | (refine so_is (.call ⟨.value (.func 136), _, _⟩) ?_; (apply so_callO0 (fid := 136); (· (repeat (first | exact SeA.nil | apply SeA.cons (.c (.d _)) | (apply SeA.cons; (· (apply SeP.c; apply Se.fn; (repeat (first | exact SeL.nil | (apply SeL.cons; (· apply Se.pt; (· rfl); (· rfl); (· (repeat (first | exact SeL.nil | apply SeL.cons (.d _)))))))))))))); (· exact nb); (· rfl); (· rfl))) | refine so_nil ?_ | refine so_g_no rfl rfl rfl rfl ?_ | refine so_g_yes rfl rfl rfl rfl ?_ | refine so_g_b rfl rfl (fun hg => ?_) (fun hg => ?_) | refine sk_seq ?_ | refine sk_skip ?_ | refine sk_region ?_ | refine sk_true rfl ?_ | refine sk_not rfl (fun hc => ?_) (fun hc => ?_))
    all_goals first | (exfalso; simp_all [pairOfB]; done) | skip
    all_goals (apply sk_ret; apply ret_eq; (· apply RetOK.t; (· (apply GvA.cons; (· (apply RV.cellN (n := 4); (· rfl); (· rfl); (· kernel_rfl); (· rfl))); (· (apply GvP.g; (· (apply GvL.cons (.lit _)); (apply GvL.cons (.lit _)); (apply GvL.cons (.lit _)); ((apply GvL.cons (.row _ _ _ _ rfl (by ((simp; done)))))); exact GvL.nil)))); (apply GvA.cons; (· exact .tmp _); (· exact GvP.c (.lit _))); exact GvA.nil); (· rfl); (· (decide))))
    all_goals simp [whenN, whenL]

end Go.Proofs.YtefbiejoikpkmaaGreat

namespace Go.Proofs.YtefbiejoikpkmaaGreat
open Go.RowKit
set_option linter.unusedSectionVars false
variable [Glb]
set_option maxRecDepth 10000
set_option maxHeartbeats 4000000
theorem l11Quiet_p (n : Int) (ll : List (List Int)) (h : trioB n ll = true) : PC Tryz.prog 139 [.g [dI n, eII ll]] (.p (.c (dB (quiet3 ll)))) := by
  have h3 := (trioB_spec h).2.2.1
  have hn := (trioB_spec h).2.1
  have p3 : pw2 3 = 8 := rfl
  rw [← spQuiet_eq]
  refine pc_intro Tryz.func139 rfl rfl rfl (by kernel_rfl) rfl rfl ?_; intro _
  repeat' (first | (refine so_is (.box 88 _) ?_; refine so_box rfl rfl ?_) | (refine so_is (.assign _) ?_; (refine so_q (qt_asC rfl) rfl ?_)) | refine so_nil ?_ | refine sk_seq ?_ | refine sk_block ?_ | refine sk_region ?_)
  apply sk_packC [1, 3] [1] rfl; (· (repeat (first | exact Pf.nil | apply Pf.cons (.c rfl (.d rfl)) | apply Pf.cons (.c rfl (.lp rfl))))); (· (repeat (first | exact Pb.nil | (apply Pb.cons; (· apply Nb.box rfl; (repeat (first | exact Ncs.nil rfl | (apply Ncs.cons rfl; (· (exact .d rfl))))))))))
  refine sk_loopL [1] [1] (fun p => [(3, iN (pw2 p))]) (fun _ => []) (fun p => p ≤ 3 ∧ spQuiet ll p = true) (fun p => 3 - p) (0) ?_ (by (repeat (first | exact trivial | refine ⟨(by (rfl)), ?_⟩))) (by (repeat (exact trivial))) ?_
  · simp [spQuiet]
  rintro p ⟨hp, ha⟩
  by_cases hp3 : p < 3
  · obtain ⟨d, hd1, hd2, hd3, hd4, hd5⟩ := spQuiet_digit p hp3
    have hdd : 1 ≤ d ∧ d ≤ 4 := by omega
    rw [hd1]
    repeat' (first | (refine so_is (.assign _) ?_; (refine so_q (qt_asC rfl) rfl ?_)) | (refine so_is (.move _) ?_; (refine so_q (qt_mvC rfl) rfl ?_)) | (refine so_is (.binOp .lss 3 _ _ _) ?_; refine so_q (qt_lss rfl rfl) rfl ?_) | refine so_nil ?_ | refine sk_seq ?_ | refine sk_block ?_ | refine sk_exit rfl ?_ | refine sk_skip ?_ | refine sk_region ?_ | refine sk_if rfl (fun hc => ?_) (fun hc => ?_))
    · apply sk_packC [1, 3, 4] [1] rfl; (· (repeat (first | exact Pf.nil | apply Pf.cons (.c rfl (.d rfl)) | apply Pf.cons (.c rfl (.lp rfl))))); (· (repeat (first | exact Pb.nil | (apply Pb.cons; (· apply Nb.box rfl; (repeat (first | exact Ncs.nil rfl | (apply Ncs.cons rfl; (· (exact .d rfl))))))))))
      refine sk_loopL [1, 3] [1] (fun q => [(4, iN q)]) (fun _ => []) (fun q => q ≤ 8 ∧ (List.range q).all (fun q => (List.range 8).all fun a => spQuietAt ll d q a) = true) (fun q => 8 - q) (0) ?_ (by (repeat (first | exact trivial | refine ⟨(by (rfl)), ?_⟩))) (by (repeat (exact trivial))) ?_
      · simp
      rintro q ⟨hq, hqa⟩
      have hqs := range_all_s (f := fun q => (List.range 8).all fun a => spQuietAt ll d q a) (k := q)
      by_cases hq8 : q < 8
      · have r1 := trioB_at h (q := q) (by omega) (by omega)
        have bq := band_nat q d (by omega) (by omega)
        repeat' (first | (refine so_is (.assign _) ?_; (refine so_q (qt_asC rfl) rfl ?_)) | (refine so_is (.move _) ?_; (refine so_q (qt_mvC rfl) rfl ?_)) | (refine so_is (.binOp .lss 3 _ _ _) ?_; refine so_q (qt_lss rfl rfl) rfl ?_) | (refine so_is (.binOp .mul 3 _ _ _) ?_; refine so_q (qt_mulI rfl rfl (by (omega))) rfl ?_) | refine so_nil ?_ | refine sk_seq ?_ | refine sk_block ?_ | refine sk_blk ?_ | refine sk_exit rfl ?_ | refine sk_skip ?_ | refine sk_region ?_ | refine sk_if rfl (fun hc => ?_) (fun hc => ?_))
        · apply sk_packC [1, 3, 4, 5] [1] rfl; (· (repeat (first | exact Pf.nil | apply Pf.cons (.c rfl (.d rfl)) | apply Pf.cons (.c rfl (.lp rfl))))); (· (repeat (first | exact Pb.nil | (apply Pb.cons; (· apply Nb.box rfl; (repeat (first | exact Ncs.nil rfl | (apply Ncs.cons rfl; (· (exact .d rfl))))))))))
          refine sk_loopL [1, 3, 4] [1] (fun a => [(5, iN a)]) (fun _ => []) (fun a => a ≤ 8 ∧ (List.range a).all (fun a => spQuietAt ll d q a) = true) (fun a => 8 - a) (0) ?_ (by (repeat (first | exact trivial | refine ⟨(by (rfl)), ?_⟩))) (by (repeat (exact trivial))) ?_
          · simp
          rintro a ⟨ha8, haa⟩
          have has := range_all_s (f := fun a => spQuietAt ll d q a) (k := a)
          by_cases ha9 : a < 8
          · have ba := band_nat a d (by omega) (by omega)
            by_cases hz : q &&& d = 0 ∧ a &&& d = 0
            · obtain ⟨hz1, hz2⟩ := hz
              have dq := digit_add hd5 hq8 hz1
              have da := digit_add hd5 ha9 hz2
              have r2 := trioB_at h (q := (q : Int) + d) (by omega) (by omega)
              have v1 := r1.2 a (by omega) (by omega)
              have v2 := r1.2 (a + d) (by omega) (by omega)
              have v3 := r2.2 a (by omega) (by omega)
              have v4 := r2.2 (a + d) (by omega) (by omega)
              repeat' (first | (refine so_is (.assign _) ?_; (refine so_q (qt_asC rfl) rfl ?_)) | (refine so_is (.move _) ?_; (refine so_q (qt_mvC rfl) rfl ?_)) | (refine so_is (.binOp .lss 3 _ _ _) ?_; refine so_q (qt_lss rfl rfl) rfl ?_) | (refine so_is (.binOp .and 3 _ _ _) ?_; refine so_q (qt_bits rfl rfl (by simp)) rfl ?_) | (refine so_is (.binOp .neq 3 _ _ _) ?_; refine so_q (qt_neq rfl rfl) rfl ?_) | (refine so_is (.pick _ _ _) ?_; (refine so_q (qt_pkC rfl rfl) rfl ?_)) | (refine so_is (.fieldAddr 88 _ 1) ?_; (refine so_q (qt_fld_lp (off := 1) rfl (by kernel_rfl)) rfl ?_)) | (refine so_is (.load 24 _) ?_; (refine so_q (qt_load_box rfl rfl (by kernel_rfl) rfl) rfl ?_)) | (refine so_is (.indexAddr 24 _ _) ?_; (refine so_q (qt_idxII rfl rfl (by kernel_rfl) (by (omega)) (by (omega))) rfl ?_)) | (refine so_is (.load 27 _) ?_; (refine so_q (qt_load_pt rfl (by kernel_rfl) rfl) rfl ?_)) | (refine so_is (.indexAddr 27 _ _) ?_; (refine so_q (qt_idxI rfl rfl (by kernel_rfl) (by (omega)) (by (omega))) rfl ?_)) | (refine so_is (.load 3 _) ?_; (refine so_q (qt_load_pt rfl (by kernel_rfl) rfl) rfl ?_)) | (refine so_is (.binOp .add 3 _ _ _) ?_; refine so_q (qt_addI rfl rfl (by (omega))) rfl ?_) | refine so_nil ?_ | refine so_g_no rfl rfl rfl rfl ?_ | refine so_g_yes rfl rfl rfl rfl ?_ | refine so_g_if rfl rfl (fun hg => ?_) (fun hg => ?_) | refine sk_seq ?_ | refine sk_block ?_ | refine sk_blk ?_ | refine sk_exit rfl ?_ | refine sk_skip ?_ | refine sk_region ?_ | refine sk_drawQ 11 (fun _ => false) (.step 0 true (.step 1 true (.step 2 true (.step 3 true (.step 4 true (.step 5 true (.step 6 true (.step 7 true (.step 8 true (.step 9 true (.step 10 true (.step 11 true (.step 12 true (.step 13 true (.step 14 true (.step 15 true (.step 16 true (.step 17 true (.step 18 true (.step 19 true (.step 20 true (.step 21 true (.step 22 true (.step 23 true (.step 24 true (.step 25 true (.step 26 true (.step 27 true (.step 28 true (.step 29 true (.step 30 true (.step 31 true (.step 32 true (.step 33 true (.step 34 true (.step 35 true (.step 36 true (.step 37 true (.step 38 true (.step 39 true (.step 40 true (.step 41 true (.step 42 true .nil))))))))))))))))))))))))))))))))))))))))))) [(0, 8796093022207, 8796093022207, true), (1, 8796093022206, 8796093022207, false), (0, 8796093022207, 8796093022207, true), (6, 8796093022201, 8796093022207, true), (8, 8796093022199, 8796093022207, false), (0, 8796093022207, 8796093022207, true), (48, 8796093022159, 8796093022207, true), (64, 8796093022143, 8796093022207, false), (0, 8796093022207, 8796093022207, true), (256, 8796093021951, 8796093022207, false), (0, 8796093022207, 8796093022207, true), (1536, 8796093020671, 8796093022207, true), (2048, 8796093020159, 8796093022207, false), (0, 8796093022207, 8796093022207, true), (0, 8796093022207, 8796093022207, true), (24576, 8796092997631, 8796093022207, true), (36864, 8796092985343, 8796093022207, true), (65536, 8796092956671, 8796093022207, false), (131200, 8796092891007, 8796093022207, true), (0, 8796093022207, 8796093022207, true), (524288, 8796092497919, 8796093022207, false), (0, 8796093022207, 8796093022207, true), (0, 8796093022207, 8796093022207, true), (6291456, 8796086730751, 8796093022207, true), (9437184, 8796083585023, 8796093022207, true), (16777216, 8796076244991, 8796093022207, false), (0, 8796093022207, 8796093022207, true), (100663296, 8795992358911, 8796093022207, true), (134217728, 8795958804479, 8796093022207, false), (0, 8796093022207, 8796093022207, true), (536870912, 8795556151295, 8796093022207, false), (0, 8796093022207, 8796093022207, true), (0, 8796093022207, 8796093022207, true), (6442450944, 8789650571263, 8796093022207, true), (9663676416, 8786429345791, 8796093022207, true), (17179869184, 8778913153023, 8796093022207, false), (0, 8796093022207, 8796093022207, true), (0, 8796093022207, 8796093022207, true), (206158430208, 8589934591999, 8796093022207, true), (309237645312, 8486855376895, 8796093022207, true), (549755813888, 8246337208319, 8796093022207, false), (1099780063232, 7696312958975, 8796093022207, true), (2199023517696, 6597069504511, 8796093022207, true)] (by kernel_rfl) (by kernel_rfl) ?_ | refine sk_true rfl ?_ | refine sk_if rfl (fun hc => ?_) (fun hc => ?_))
              all_goals first | (exfalso; omega) | skip
              · have hq0 : spQuietAt ll d q a = false := by
                  simp only [spQuietAt, at2, hz1, hz2, ← dq.2.1, ← da.1, Int.natCast_add]
                  simp
                  omega
                have hr0 : ((List.range 8).all fun a => spQuietAt ll d q a) = false := range_all_f ha9 hq0
                have hr1 : ((List.range 8).all fun q => (List.range 8).all fun a => spQuietAt ll d q a) = false := range_all_f (f := fun q => (List.range 8).all fun a => spQuietAt ll d q a) hq8 hr0
                (apply sk_ret; apply ret_eq; (· apply RetOK.p; (· (apply GvA.cons; (· exact .tmp _); (· exact GvP.c (.lit _))); exact GvA.nil); (· (decide))))
                unfold spQuiet
                rw [hd4 (fun d => (List.range 8).all fun q => (List.range 8).all fun a => spQuietAt ll d q a) hr1]
              · have hq0 : spQuietAt ll d q a = true := by
                  simp only [spQuietAt, at2, hz1, hz2, ← dq.2.1, ← da.1, Int.natCast_add]
                  simp
                  omega
                refine sk_back ?_; refine ⟨a + 1, ?_, ?_, le_at rfl (by (repeat (first | exact trivial | refine ⟨(by (rfl)), ?_⟩))) (by (repeat (first | exact trivial | refine ⟨rfl, ?_⟩))) (by (repeat (exact trivial))) (by (repeat (first | exact trivial | refine ⟨.inr rfl, ?_⟩)))⟩
                · exact ⟨by omega, by rw [has, haa, hq0]; rfl⟩
                · omega
            · have hq0 : spQuietAt ll d q a = true := by
                unfold spQuietAt
                by_cases hz1 : q &&& d = 0
                · have hz2 : ¬ a &&& d = 0 := fun e => hz ⟨hz1, e⟩
                  simp [hz2]
                · simp [hz1]
              have hz' : q &&& d = 0 → ¬ a &&& d = 0 := fun e e2 => hz ⟨e, e2⟩
              repeat' (first | (refine so_is (.assign _) ?_; (refine so_q (qt_asC rfl) rfl ?_)) | (refine so_is (.move _) ?_; (refine so_q (qt_mvC rfl) rfl ?_)) | (refine so_is (.binOp .lss 3 _ _ _) ?_; refine so_q (qt_lss rfl rfl) rfl ?_) | (refine so_is (.binOp .and 3 _ _ _) ?_; refine so_q (qt_bits rfl rfl (by simp)) rfl ?_) | (refine so_is (.binOp .neq 3 _ _ _) ?_; refine so_q (qt_neq rfl rfl) rfl ?_) | (refine so_is (.pick _ _ _) ?_; (refine so_q (qt_pkC rfl rfl) rfl ?_)) | (refine so_is (.binOp .add 3 _ _ _) ?_; refine so_q (qt_addI rfl rfl (by (omega))) rfl ?_) | refine so_nil ?_ | refine so_g_no rfl rfl rfl rfl ?_ | refine so_g_yes rfl rfl rfl rfl ?_ | refine so_g_if rfl rfl (fun hg => ?_) (fun hg => ?_) | refine sk_seq ?_ | refine sk_block ?_ | refine sk_blk ?_ | refine sk_exit rfl ?_ | refine sk_skip ?_ | refine sk_region (id := 8) ?_ | refine sk_region (id := 10) ?_ | refine sk_region (id := 9) ?_ | refine sk_region (id := 6) ?_ | refine sk_true rfl ?_ | refine sk_if rfl (fun hc => ?_) (fun hc => ?_))
              all_goals first | (exfalso; omega) | skip
              · refine sk_back ?_; refine ⟨a + 1, ?_, ?_, le_at rfl (by (repeat (first | exact trivial | refine ⟨(by (rfl)), ?_⟩))) (by (repeat (first | exact trivial | refine ⟨rfl, ?_⟩))) (by (repeat (exact trivial))) (by (repeat (first | exact trivial | refine ⟨.inr rfl, ?_⟩)))⟩
                · exact ⟨by omega, by rw [has, haa, hq0]; rfl⟩
                · omega
              · refine sk_back ?_; refine ⟨a + 1, ?_, ?_, le_at rfl (by (repeat (first | exact trivial | refine ⟨(by (rfl)), ?_⟩))) (by (repeat (first | exact trivial | refine ⟨rfl, ?_⟩))) (by (repeat (exact trivial))) (by (repeat (first | exact trivial | refine ⟨.inr rfl, ?_⟩)))⟩
                · exact ⟨by omega, by rw [has, haa, hq0]; rfl⟩
                · omega
          · have h8 : a = 8 := by omega
            subst h8
            repeat' (first | (refine so_is (.assign _) ?_; (refine so_q (qt_asC rfl) rfl ?_)) | (refine so_is (.move _) ?_; (refine so_q (qt_mvC rfl) rfl ?_)) | (refine so_is (.binOp .lss 3 _ _ _) ?_; refine so_q (qt_lss rfl rfl) rfl ?_) | (refine so_is (.binOp .add 3 _ _ _) ?_; refine so_q (qt_addI rfl rfl (by (omega))) rfl ?_) | refine so_nil ?_ | refine sk_seq ?_ | refine sk_blk ?_ | refine sk_exit rfl ?_ | refine sk_region (id := 8) ?_ | refine sk_region (id := 6) ?_ | refine sk_false rfl ?_)
            all_goals first | (exfalso; omega) | skip
            refine sk_back ?_; refine ⟨q + 1, ?_, ?_, le_at rfl (by (repeat (first | exact trivial | refine ⟨(by (rfl)), ?_⟩))) (by (repeat (first | exact trivial | refine ⟨rfl, ?_⟩))) (by (repeat (exact trivial))) (by (repeat (first | exact trivial | refine ⟨.inr rfl, ?_⟩)))⟩
            · exact ⟨by omega, by rw [hqs, hqa, haa]; rfl⟩
            · omega
        · exfalso; omega
      · have h8 : q = 8 := by omega
        subst h8
        repeat' (first | (refine so_is (.assign _) ?_; (refine so_q (qt_asC rfl) rfl ?_)) | (refine so_is (.move _) ?_; (refine so_q (qt_mvC rfl) rfl ?_)) | (refine so_is (.binOp .lss 3 _ _ _) ?_; refine so_q (qt_lss rfl rfl) rfl ?_) | (refine so_is (.binOp .mul 3 _ _ _) ?_; refine so_q (qt_mulI rfl rfl (by (omega))) rfl ?_) | refine so_nil ?_ | refine sk_seq ?_ | refine sk_blk ?_ | refine sk_exit rfl ?_ | refine sk_region ?_ | refine sk_false rfl ?_)
        all_goals first | (exfalso; omega) | skip
        refine sk_back ?_; refine ⟨p + 1, ?_, ?_, le_at rfl (by (repeat (first | exact trivial | refine ⟨(by ((refine int_eq rfl ?_; (omega)))), ?_⟩))) (by (repeat (first | exact trivial | refine ⟨rfl, ?_⟩))) (by (repeat (exact trivial))) (by (repeat (first | exact trivial | refine ⟨.inr rfl, ?_⟩)))⟩
        · refine ⟨by omega, ?_⟩
          unfold spQuiet at ha ⊢
          rw [hd3, ha, hqa]; rfl
        · omega
    · exfalso; omega
  · have h8 : p = 3 := by omega
    subst h8
    rw [p3]
    repeat' (first | (refine so_is (.assign _) ?_; (refine so_q (qt_asC rfl) rfl ?_)) | (refine so_is (.move _) ?_; (refine so_q (qt_mvC rfl) rfl ?_)) | (refine so_is (.binOp .lss 3 _ _ _) ?_; refine so_q (qt_lss rfl rfl) rfl ?_) | refine so_nil ?_ | refine sk_seq ?_ | refine sk_exit rfl ?_ | refine sk_region ?_ | refine sk_false rfl ?_)
    all_goals first | (exfalso; omega) | skip
    (apply sk_ret; apply ret_eq; (· apply RetOK.p; (· (apply GvA.cons; (· exact .tmp _); (· exact GvP.c (.lit _))); exact GvA.nil); (· (decide))))
    rw [ha]

end Go.Proofs.YtefbiejoikpkmaaGreat

namespace Go.Proofs.YtefbiejoikpkmaaGreat
open Go.RowKit
set_option linter.unusedSectionVars false
variable [Glb]
set_option maxRecDepth 10000
set_option maxHeartbeats 4000000
theorem spPairOf_p (n : Int) (ll : List (List Int)) (a : Int) : PC Tryz.prog 60 [.g [dI n, eII ll], .c (dI a)]
    (.t [.g [dI (whenN (pairOfB n ll a) 2), dI (whenN (pairOfB n ll a) 2), dI (whenN (pairOfB n ll a) n), eII (whenL (pairOfB n ll a) (boxF (pairV a ll) 2 4))], .c (dB (pairOfB n ll a))]) := by
  cases hB : pairOfB n ll a with
  | false =>
    refine pc_intro Tryz.func60 rfl rfl rfl (by kernel_rfl) rfl rfl ?_; intro _
    repeat' (first | (with_reducible apply so_lt) | intro Y hY | ((with_reducible apply so_j2); (· assumption); (· rfl); (· exact (by (repeat (first | exact trivial | refine ⟨rfl, ?_⟩)))); (· exact (by (repeat (first | exact trivial | refine ⟨rfl, ?_⟩))))) | ((with_reducible apply so_j1); (· rfl); (· (repeat (first | exact Pf.nil | apply Pf.cons (.c rfl (.d rfl)) | apply Pf.cons (.c rfl (.lp rfl)) | (apply Pf.cons; (· apply Nv.g rfl; (repeat (first | exact Ncs.nil rfl | (apply Ncs.cons rfl; (· (first | exact .d rfl | exact .ls rfl))))))) | apply Pf.skip))); (· (repeat (first | exact Pb.nil | apply Pb.cons (.row rfl) | (apply Pb.cons; (· apply Nb.box rfl; (repeat (first | exact Ncs.nil rfl | (apply Ncs.cons rfl; (· (exact .d rfl))))))) | apply Pb.skip))); (· assumption)) | refine so_alt ?_ ?_ | (refine so_is (.box 88 _) ?_; refine so_box rfl rfl ?_) | (refine so_is (.alloc 26) ?_; refine so_alloc (zs := [.int .i64 0, .int .i64 0, .int .i64 0, .slice none 0 0]) (by kernel_rfl) rfl ?_) | (refine so_is (.assign _) ?_; (refine so_q (qt_asC rfl) rfl ?_)) | (refine so_is (.load 88 _) ?_; (refine so_q (qt_load_boxs rfl rfl (by kernel_rfl : tAgg _ 88 2 = true) rfl) rfl ?_)) | (refine so_is (.unOp .not 4 _) ?_; refine so_q (qt_not rfl) rfl ?_) | (refine so_is (.move _) ?_; (refine so_q (qt_mvC rfl) rfl ?_)) | (refine so_is (.pick _ _ _) ?_; (refine so_q (qt_pkC rfl rfl) rfl ?_)) | (refine so_is (.build 26 _) ?_; refine so_q (qt_build (cs := [_, _, _, _]) [(0, 1), (1, 1), (2, 1), (3, 1)] [.int .i64 0, .int .i64 0, .int .i64 0, .slice none 0 0] (by kernel_rfl) (by kernel_rfl) rfl) rfl ?_) | (refine so_is (.store 26 _ _) ?_; (refine so_store_box rfl rfl rfl (by kernel_rfl) rfl rfl ?_)) | (refine so_is (.fieldAddr 88 _ 0) ?_; (refine so_q (qt_fld_lp (off := 0) rfl (by kernel_rfl)) rfl ?_)) | (refine so_is (.load 3 _) ?_; (refine so_q (qt_load_box rfl rfl (by kernel_rfl) rfl) rfl ?_)) | (refine so_is (.buildSlice 24 0 _) ?_; (apply so_bslice (sz := 1) (by_ := 24); (· kernel_rfl); (· decide); (· (repeat (exact GvS.nil _))); (· (decide)); (· rfl); (· rfl); (· rfl))) | (refine so_is (.call ⟨.value (.func 138), _, _⟩) ?_; (apply so_call0 (fid := 138); (· (repeat (first | exact SeA.nil | (apply SeA.cons; (· (apply SeP.g; (repeat (first | exact SeL.nil | apply SeL.cons (.d _))))))))); (· exact l11Trio_p _ _); (· rfl))) | (refine so_is (.call ⟨.value (.func 139), _, _⟩) ?_; (apply so_call0 (fid := 139); (· (repeat (first | exact SeA.nil | (apply SeA.cons; (· (apply SeP.g; (repeat (first | exact SeL.nil | apply SeL.cons (.d _))))))))); (· exact l11Quiet_p _ _ (by simp_all)); (· rfl))) | (refine so_is (.call ⟨.value (.func 80), _, _⟩) ?_; (apply so_call0 (fid := 80); (· (repeat (first | exact SeA.nil | apply SeA.cons (.c (.d _))))); (· exact l1In_p _ _ _); (· rfl))) | refine so_nil ?_ | refine so_g_no rfl rfl rfl rfl ?_ | refine so_g_yes rfl rfl rfl rfl ?_ | refine so_g_b rfl rfl (fun hg => ?_) (fun hg => ?_) | refine sk_seq ?_ | refine sk_skip ?_ | refine sk_region ?_ | refine sk_drawQ 3 (fun i => i == 7) (IT.lt (.step 7 false (.step 8 true .nil)) fun Y3 => (IT.lt (.step 6 false (IT.ref false [2, 4, 6, 7, 32, 34] [2, 4, 31, 34, 6] Y3)) fun Y2 => (IT.lt (.step 5 false (IT.ref false [2, 4, 6, 7, 32, 34] [2, 4, 31, 34, 6] Y3)) fun Y1 => (IT.lt (.step 2 false (.step 3 true (IT.ref true [2, 4, 6, 7, 32, 34] [2, 4, 31, 34, 6] Y3))) fun Y0 => (.step 0 true (.step 1 true (.step 4 true (.alt 3 (.step 2 false (.step 3 true (.alt 3 (.step 5 false (IT.ref true [2, 4, 6, 7, 32, 34] [2, 4, 31, 34, 6] Y2)) (.step 6 false (IT.ref true [2, 4, 6, 7, 32, 33] [2, 4, 31, 34, 6] Y1))))) (.alt 3 (.step 5 false (.alt 3 (.step 2 false (.step 3 true (IT.ref false [2, 4, 6, 7, 32, 34] [2, 4, 31, 34, 6] Y2))) (.step 6 false (IT.ref true [2, 4, 6, 7, 30, 34] [2, 4, 31, 34, 6] Y0)))) (.step 6 false (.alt 3 (.step 2 false (.step 3 true (IT.ref false [2, 4, 6, 7, 32, 33] [2, 4, 31, 34, 6] Y1))) (.step 5 false (IT.ref false [2, 4, 6, 7, 30, 34] [2, 4, 31, 34, 6] Y0))))))))))))) [(0, 511, 511, true), (1, 510, 511, false), (0, 511, 511, false), (6, 505, 511, true), (0, 511, 511, true), (16, 495, 511, false), (0, 511, 511, false), (111, 439, 511, false), (255, 479, 383, true)] (by kernel_rfl) (by kernel_rfl) ?_ | refine sk_true rfl ?_ | refine sk_not rfl (fun hc => ?_) (fun hc => ?_))
    all_goals first | (exfalso; simp_all [pairOfB]; done) | skip
    all_goals (apply sk_ret; apply ret_eq; (· apply RetOK.t; (· (apply GvA.cons; (· (apply RV.cellN (n := 4); (· rfl); (· rfl); (· kernel_rfl); (· rfl))); (· (apply GvP.g; (· (apply GvL.cons (.lit _)); (apply GvL.cons (.lit _)); (apply GvL.cons (.lit _)); ((apply GvL.cons (.nil 1 (by decide)))); exact GvL.nil)))); (apply GvA.cons; (· exact .tmp _); (· exact GvP.c (.lit _))); exact GvA.nil); (· rfl); (· (decide))))
    all_goals simp [whenN, whenL]
  | true =>
    have hB2 := hB
    simp only [pairOfB, Bool.and_eq_true] at hB2
    obtain ⟨b1, b2, b3⟩ := hB2
    have ha := inB_02 b3
    have oL := othL_3 (a := a) (by omega) (by omega)
    have ob : oth1 a ≤ 1 ∧ oth2 a ≤ 2 := by rcases ha with rfl | rfl | rfl <;> decide
    have hl := (trioB_spec b1).2.2.1
    have hn := (trioB_spec b1).2.1
    have lo := l11Others_p a
    rw [oL] at lo
    refine pc_intro Tryz.func60 rfl rfl rfl (by kernel_rfl) rfl rfl ?_; intro _
    repeat' (first | (with_reducible apply so_lt) | intro Y hY | ((with_reducible apply so_j2); (· assumption); (· rfl); (· exact (by (repeat (first | exact trivial | refine ⟨rfl, ?_⟩)))); (· exact (by (repeat (first | exact trivial | refine ⟨rfl, ?_⟩))))) | ((with_reducible apply so_j1); (· rfl); (· (repeat (first | exact Pf.nil | apply Pf.cons (.c rfl (.d rfl)) | apply Pf.cons (.c rfl (.lp rfl)) | (apply Pf.cons; (· apply Nv.g rfl; (repeat (first | exact Ncs.nil rfl | (apply Ncs.cons rfl; (· (first | exact .d rfl | exact .ls rfl))))))) | apply Pf.skip))); (· (repeat (first | exact Pb.nil | apply Pb.cons (.row rfl) | (apply Pb.cons; (· apply Nb.box rfl; (repeat (first | exact Ncs.nil rfl | (apply Ncs.cons rfl; (· (exact .d rfl))))))) | apply Pb.skip))); (· assumption)) | refine so_alt ?_ ?_ | (refine so_is (.box 88 _) ?_; refine so_box rfl rfl ?_) | (refine so_is (.alloc 26) ?_; refine so_alloc (zs := [.int .i64 0, .int .i64 0, .int .i64 0, .slice none 0 0]) (by kernel_rfl) rfl ?_) | (refine so_is (.assign _) ?_; (refine so_q (qt_asC rfl) rfl ?_)) | (refine so_is (.load 88 _) ?_; (refine so_q (qt_load_boxs rfl rfl (by kernel_rfl : tAgg _ 88 2 = true) rfl) rfl ?_)) | (refine so_is (.unOp .not 4 _) ?_; refine so_q (qt_not rfl) rfl ?_) | (refine so_is (.move _) ?_; (refine so_q (qt_mvC rfl) rfl ?_)) | (refine so_is (.pick _ _ _) ?_; (refine so_q (qt_pkC rfl rfl) rfl ?_)) | (refine so_is (.build 26 _) ?_; refine so_q (qt_build (cs := [_, _, _, _]) [(0, 1), (1, 1), (2, 1), (3, 1)] [.int .i64 0, .int .i64 0, .int .i64 0, .slice none 0 0] (by kernel_rfl) (by kernel_rfl) rfl) rfl ?_) | (refine so_is (.store 26 _ _) ?_; (refine so_store_box rfl rfl rfl (by kernel_rfl) rfl rfl ?_)) | (refine so_is (.fieldAddr 88 _ 0) ?_; (refine so_q (qt_fld_lp (off := 0) rfl (by kernel_rfl)) rfl ?_)) | (refine so_is (.load 3 _) ?_; (refine so_q (qt_load_box rfl rfl (by kernel_rfl) rfl) rfl ?_)) | (refine so_is (.buildSlice 24 0 _) ?_; (apply so_bslice (sz := 1) (by_ := 24); (· kernel_rfl); (· decide); (· (repeat (exact GvS.nil _))); (· (decide)); (· rfl); (· rfl); (· rfl))) | (refine so_is (.call ⟨.value (.func 138), _, _⟩) ?_; ((apply so_call0 (fid := 138); (· (repeat (first | exact SeA.nil | (apply SeA.cons; (· (apply SeP.g; (repeat (first | exact SeL.nil | apply SeL.cons (.d _))))))))); (· exact l11Trio_p _ _); (· rfl)))) | (refine so_is (.call ⟨.value (.func 139), _, _⟩) ?_; ((apply so_call0 (fid := 139); (· (repeat (first | exact SeA.nil | (apply SeA.cons; (· (apply SeP.g; (repeat (first | exact SeL.nil | apply SeL.cons (.d _))))))))); (· exact l11Quiet_p _ _ b1); (· rfl)))) | (refine so_is (.call ⟨.value (.func 80), _, _⟩) ?_; ((apply so_call0 (fid := 80); (· (repeat (first | exact SeA.nil | apply SeA.cons (.c (.d _))))); (· exact l1In_p _ _ _); (· rfl)))) | (refine so_is (.call ⟨.value (.func 140), _, _⟩) ?_; (apply so_call0 (fid := 140); (· (repeat (first | exact SeA.nil | apply SeA.cons (.c (.d _))))); (· exact lo); (· rfl))) | refine so_nil ?_ | refine so_g_no rfl rfl rfl rfl ?_ | refine so_g_yes rfl rfl rfl rfl ?_ | refine so_g_b rfl rfl (fun hg => ?_) (fun hg => ?_) | refine sk_seq ?_ | refine sk_block ?_ | refine sk_skip ?_ | refine sk_region ?_ | refine sk_drawQ 3 (fun i => i == 7) (IT.lt (.step 7 false (.step 8 true .nil)) fun Y3 => (IT.lt (.step 6 false (IT.ref false [2, 4, 6, 7, 32, 34] [2, 4, 31, 34, 6] Y3)) fun Y2 => (IT.lt (.step 5 false (IT.ref false [2, 4, 6, 7, 32, 34] [2, 4, 31, 34, 6] Y3)) fun Y1 => (IT.lt (.step 2 false (.step 3 true (IT.ref true [2, 4, 6, 7, 32, 34] [2, 4, 31, 34, 6] Y3))) fun Y0 => (.step 0 true (.step 1 true (.step 4 true (.alt 3 (.step 2 false (.step 3 true (.alt 3 (.step 5 false (IT.ref true [2, 4, 6, 7, 32, 34] [2, 4, 31, 34, 6] Y2)) (.step 6 false (IT.ref true [2, 4, 6, 7, 32, 33] [2, 4, 31, 34, 6] Y1))))) (.alt 3 (.step 5 false (.alt 3 (.step 2 false (.step 3 true (IT.ref false [2, 4, 6, 7, 32, 34] [2, 4, 31, 34, 6] Y2))) (.step 6 false (IT.ref true [2, 4, 6, 7, 30, 34] [2, 4, 31, 34, 6] Y0)))) (.step 6 false (.alt 3 (.step 2 false (.step 3 true (IT.ref false [2, 4, 6, 7, 32, 33] [2, 4, 31, 34, 6] Y1))) (.step 5 false (IT.ref false [2, 4, 6, 7, 30, 34] [2, 4, 31, 34, 6] Y0))))))))))))) [(0, 511, 511, true), (1, 510, 511, false), (0, 511, 511, false), (6, 505, 511, true), (0, 511, 511, true), (16, 495, 511, false), (0, 511, 511, false), (111, 439, 511, false), (255, 479, 383, true)] (by kernel_rfl) (by kernel_rfl) ?_ | refine sk_true rfl ?_ | refine sk_not rfl (fun hc => ?_) (fun hc => ?_))
    all_goals first | (exfalso; simp_all [pairOfB]; done) | skip
    have z0 : atZ [((oth1 a : Nat) : Int), ((oth2 a : Nat) : Int)] 0 = (oth1 a : Int) := rfl
    have z1 : atZ [((oth1 a : Nat) : Int), ((oth2 a : Nat) : Int)] 1 = (oth2 a : Int) := rfl
    apply sk_packC [2, 4, 6, 7, 8] [2, 4, 6, 31, 34, 43, 62, 96, 97] rfl; (· (repeat (first | exact Pf.nil | apply Pf.cons (.c rfl (.d rfl)) | apply Pf.cons (.c rfl (.lp rfl))))); (· (repeat (first | exact Pb.nil | apply Pb.cons (.row rfl) | (apply Pb.cons; (· apply Nb.box rfl; (repeat (first | exact Ncs.nil rfl | (apply Ncs.cons rfl; (· (first | exact .d rfl | exact .ls rfl))))))) | apply Pb.skip)))
    refine sk_loopL [2, 4, 6, 7] [2, 4, 34, 43, 62, 96, 97] (fun x => [(8, iN x)]) (fun x => [(6, .box [.d (dI 2), .d (dI 2), .d (dI n), .ls 31 1 0 (2 * x)]), (31, .row 1 (cII (boxF (pairV a ll) 2 (2 * x))))]) (fun x => x ≤ 2) (fun x => 2 - x) (0) ?_ (by (repeat (first | exact trivial | refine ⟨(by (rfl)), ?_⟩))) (by (repeat (first | exact trivial | refine ⟨(by (first | (refine row_eq rfl ?_; simp  [boxF]; done) | (refine box_eq rfl ?_; simp  [boxF]; done))), ?_⟩))) ?_
    · omega
    intro x hx
    by_cases hx2 : x < 2
    · repeat' (first | (refine so_is (.assign _) ?_; (refine so_q (qt_asC rfl) rfl ?_)) | (refine so_is (.move _) ?_; (refine so_q (qt_mvC rfl) rfl ?_)) | (refine so_is (.store 26 _ _) ?_; (refine so_store_box rfl rfl rfl (by kernel_rfl) rfl rfl ?_)) | (refine so_is (.binOp .lss 3 _ _ _) ?_; refine so_q (qt_lss rfl rfl) rfl ?_) | (refine so_is (.load 26 _) ?_; (refine so_q (qt_load_boxs rfl rfl (by kernel_rfl : tAgg _ 26 4 = true) rfl) rfl ?_)) | refine so_nil ?_ | refine sk_seq ?_ | refine sk_block ?_ | refine sk_exit rfl ?_ | refine sk_skip ?_ | refine sk_region ?_ | refine sk_if rfl (fun hc => ?_) (fun hc => ?_))
      · apply sk_packC [2, 4, 6, 7, 8, 9] [2, 4, 6, 31, 34, 43, 62, 96, 97] rfl; (· (repeat (first | exact Pf.nil | apply Pf.cons (.c rfl (.d rfl)) | apply Pf.cons (.c rfl (.lp rfl))))); (· (repeat (first | exact Pb.nil | apply Pb.cons (.row rfl) | (apply Pb.cons; (· apply Nb.box rfl; (repeat (first | exact Ncs.nil rfl | (apply Ncs.cons rfl; (· (first | exact .d rfl | exact .ls rfl))))))) | apply Pb.skip)))
        refine sk_loopL [2, 4, 6, 7, 8] [2, 4, 34, 43, 62, 96, 97] (fun y => [(9, iN y)]) (fun y => [(6, .box [.d (dI 2), .d (dI 2), .d (dI n), .ls 31 1 0 (2 * x + y)]), (31, .row 1 (cII (boxF (pairV a ll) 2 (2 * x + y))))]) (fun y => y ≤ 2) (fun y => 2 - y) (0) ?_ (by (repeat (first | exact trivial | refine ⟨(by (rfl)), ?_⟩))) (by (repeat (first | exact trivial | refine ⟨(by (first | (refine row_eq rfl ?_; simp; done) | (refine box_eq rfl ?_; simp; done))), ?_⟩))) ?_
        · omega
        intro y hy
        by_cases hy2 : y < 2
        · have s1 := sh_bd ha (x := x) (by omega)
          have s2 := sh_bd ha (x := y) (by omega)
          have e0 := two_sum ha (x := x) (y := y) (by omega) (by omega)
          have t1 := two2_lt ha (x := x) (y := y) (by omega) (by omega)
          have r := trioB_at b1 (q := two2 a x y) (by omega) (by omega)
          repeat' (first | (refine so_is (.assign _) ?_; (refine so_q (qt_asC rfl) rfl ?_)) | (refine so_is (.move _) ?_; (refine so_q (qt_mvC rfl) rfl ?_)) | (refine so_is (.load 3 _) ?_; (refine so_q (qt_load_pt rfl (by kernel_rfl) rfl) rfl ?_)) | (refine so_is (.binOp .lss 3 _ _ _) ?_; refine so_q (qt_lss rfl rfl) rfl ?_) | (refine so_is (.makeSlice 27 _ _) ?_; (refine so_make (by_ := 8) (z := .int .i64 0) (y := .lit (.int .i64 0)) rfl rfl (by kernel_rfl) (by kernel_rfl) rfl (fun _ => .lit _ rfl) (by (omega)) (by (omega)) (by (omega)) rfl ?_)) | (refine so_is (.indexAddr 27 _ _) ?_; (refine so_q (qt_idx (e := [_]) rfl rfl (by kernel_rfl : tSl _ 27 1 = true) (by (omega)) (by ((simp; done))) rfl) rfl ?_)) | (refine so_is (.binOp .sub 3 _ _ _) ?_; refine so_q (qt_subI rfl rfl (by (omega))) rfl ?_) | (refine so_is (.binOp .shl 3 _ _ _) ?_; (refine so_q (qt_shlI rfl rfl (by (omega)) (by (omega)) (by (omega))) rfl ?_)) | (refine so_is (.binOp .add 3 _ _ _) ?_; refine so_q (qt_addI rfl rfl (by (omega))) rfl ?_) | refine so_nil ?_ | refine sk_seq ?_ | refine sk_block ?_ | refine sk_blk ?_ | refine sk_exit rfl ?_ | refine sk_skip ?_ | refine sk_region ?_ | refine sk_drawQ 10 (fun _ => false) (.step 1 true (.step 2 true (.step 3 true (.step 4 true (.step 5 true (.step 6 true (.step 7 true (.step 8 true (.step 9 true (.step 10 true (.step 11 true (.step 12 true (.step 13 true (.step 0 false (.step 14 true (.step 15 true .nil)))))))))))))))) [(0, 65535, 65535, false), (0, 65535, 65535, true), (0, 65535, 65535, true), (4, 65531, 65535, true), (8, 65527, 65535, false), (16, 65519, 65535, true), (34, 65501, 65535, true), (0, 65535, 65535, true), (0, 65535, 65535, true), (256, 65279, 65535, true), (512, 65023, 65535, false), (1024, 64511, 65535, true), (2176, 63359, 65535, true), (4160, 61375, 65535, true), (1, 65534, 65535, true), (32767, 57343, 65535, true)] (by kernel_rfl) (by kernel_rfl) ?_ | refine sk_if rfl (fun hc => ?_) (fun hc => ?_))
          · try rw [z0, z1]
            rw [e0]
            have pA := fun k (hk : k ≤ 8) p => pairA_bd (p := p) b1 ha (x := x) (y := y) (by omega) (by omega) hk
            have pS := fun k => pairA_set (a := a) (ll := ll) (x := x) (y := y) (k := k) _ rfl
            apply sk_packC [2, 4, 6, 7, 8, 9, 10, 11, 12] [2, 4, 6, 31, 34, 43, 62, 96, 97] rfl; (· (repeat (first | exact Pf.nil | apply Pf.cons (.c rfl (.d rfl)) | apply Pf.cons (.c rfl (.ls rfl)) | apply Pf.cons (.c rfl (.lp rfl))))); (· (repeat (first | exact Pb.nil | apply Pb.cons (.row rfl) | (apply Pb.cons; (· apply Nb.box rfl; (repeat (first | exact Ncs.nil rfl | (apply Ncs.cons rfl; (· (first | exact .d rfl | exact .ls rfl))))))) | apply Pb.skip)))
            refine sk_loopL [2, 4, 6, 7, 8, 9, 10, 11] [2, 4, 31, 34, 6, 62, 96, 97] (fun k => [(12, iN k)]) (fun k => [(43, .row 1 (cI (rowF (pairA a ll x y k) 4)))]) (fun k => k ≤ 8) (fun k => 8 - k) (0) ?_ (by (repeat (first | exact trivial | refine ⟨(by (rfl)), ?_⟩))) (by (repeat (first | exact trivial | refine ⟨(by (rfl)), ?_⟩))) ?_
            · omega
            intro k hk
            by_cases hk8 : k < 8
            · have d1 := digit_at hk8 (j := oth1 a) (by omega)
              have d2 := digit_at hk8 (j := oth2 a) (by omega)
              have g1 := dig3_le k (oth1 a)
              have g2 := dig3_le k (oth2 a)
              have v := r.2 k (by omega) (by omega)
              have pl : 2 * atZ [(k : Int) / 4, (k : Int) / 2 % 2, (k : Int) % 2] (oth1 a : Int) + atZ [(k : Int) / 4, (k : Int) / 2 % 2, (k : Int) % 2] (oth2 a : Int) = ((place2 a k : Nat) : Int) := by rw [d1, d2]; unfold place2; omega
              have pv : atZ (rowF (pairA a ll x y k) 4) (2 * atZ [(k : Int) / 4, (k : Int) / 2 % 2, (k : Int) % 2] (oth1 a : Int) + atZ [(k : Int) / 4, (k : Int) / 2 % 2, (k : Int) % 2] (oth2 a : Int)) = pairA a ll x y k (place2 a k) := by rw [pl, rowF_atZ _ (place2_lt a k)]
              have pb := pA k hk (place2 a k)
              rw [← pv] at pb
              have pS := pS k
              rw [← pv] at pS
              repeat' (first | (refine so_is (.assign _) ?_; (refine so_q (qt_asC rfl) rfl ?_)) | (refine so_is (.move _) ?_; (refine so_q (qt_mvC rfl) rfl ?_)) | (refine so_is (.load 3 _) ?_; (first | refine so_q (qt_load_pt rfl (by kernel_rfl) rfl) rfl ?_ | refine so_q (qt_load_rowI rfl rfl (by kernel_rfl) (by (omega)) (by ((simp only [List.length_map, List.length_append, List.length_replicate, fillL_len, rowF_len, gridF_len, mkI_len, mkII_len, partZ_min] at *; omega)))) rfl ?_)) | (refine so_is (.binOp .lss 3 _ _ _) ?_; refine so_q (qt_lss rfl rfl) rfl ?_) | (refine so_is (.indexAddr 27 _ _) ?_; (first | refine so_q (qt_idx (e := [_]) rfl rfl (by kernel_rfl : tSl _ 27 1 = true) (by (omega)) (by ((simp; done))) rfl) rfl ?_ | refine so_q (qt_idxI rfl rfl (by kernel_rfl) (by (omega)) (by (first | omega | (simp at *; omega)))) rfl ?_ | refine so_q (qt_idx_ls rfl rfl (by kernel_rfl : tSl _ 27 1 = true) (by (omega)) (by (omega))) rfl ?_)) | (refine so_is (.binOp .add 3 _ _ _) ?_; refine so_q (qt_addI rfl rfl (by (omega))) rfl ?_) | (refine so_is (.binOp .mul 3 _ _ _) ?_; refine so_q (qt_mulI rfl rfl (by (omega))) rfl ?_) | (refine so_is (.fieldAddr 88 _ 1) ?_; (refine so_q (qt_fld_lp (off := 1) rfl (by kernel_rfl)) rfl ?_)) | (refine so_is (.load 24 _) ?_; (refine so_q (qt_load_box rfl rfl (by kernel_rfl) rfl) rfl ?_)) | (refine so_is (.indexAddr 24 _ _) ?_; (refine so_q (qt_idxII rfl rfl (by kernel_rfl) (by (omega)) (by (omega))) rfl ?_)) | (refine so_is (.load 27 _) ?_; (refine so_q (qt_load_pt rfl (by kernel_rfl) rfl) rfl ?_)) | (refine so_is (.store 3 _ _) ?_; ((refine so_store_row rfl rfl rfl rfl (.lit _) (by simp) (by simp) (by kernel_rfl) (by ((simp only [List.length_map, List.length_append, List.length_replicate, fillL_len, rowF_len, gridF_len, mkI_len, mkII_len, partZ_min] at *; omega))) rfl ?_; simp only [St.drop]))) | (refine so_is (.fieldAddr 26 _ 3) ?_; (refine so_q (qt_fld_lp (off := 3) rfl (by kernel_rfl)) rfl ?_)) | (refine so_is (.buildSlice 24 1 _) ?_; (apply so_bslice (sz := 1) (by_ := 24); (· kernel_rfl); (· decide); (· (repeat (first | exact GvS.nil _ | apply GvS.c rfl rfl (.row _ _ _ _ rfl (by ((simp; done)))) rfl))); (· (decide)); (· rfl); (· rfl); (· rfl))) | (refine so_is (.call ⟨.builtin .append, _, #[24, 24]⟩) ?_; ((apply so_appR (sz := 1) (by_ := 24); (· rfl); (· rfl); (· ((simp; done))); (· exact .row _ _ _ _ rfl (by ((simp; done)))); (· (decide)); (· kernel_rfl); (· decide); (· (omega)); (· (omega)); (· rfl); (· rfl); (· rfl)))) | (refine so_is (.store 24 _ _) ?_; (refine so_store_box1 rfl rfl rfl rfl (by kernel_rfl) rfl rfl ?_)) | (refine so_is (.call ⟨.value (.func 141), _, _⟩) ?_; (apply so_call0 (fid := 141); (· (repeat (first | exact SeA.nil | apply SeA.cons (.c (.d _))))); (· exact l11Digits_p _); (· rfl))) | refine so_nil ?_ | refine sk_seq ?_ | refine sk_block ?_ | refine sk_blk ?_ | refine sk_exit rfl ?_ | refine sk_skip ?_ | refine sk_region ?_ | refine sk_drawQ 15 (fun _ => false) (.step 0 true (.step 1 true (.step 2 true (.step 3 true (.step 4 true (.step 5 true (.step 6 true (.step 7 true (.step 8 true (.step 9 true (.step 10 true (.step 11 true (.step 12 true (.step 13 true (.step 14 true .nil))))))))))))))) [(0, 32767, 32767, true), (0, 32767, 32767, true), (2, 32765, 32767, true), (4, 32763, 32767, false), (9, 32758, 32767, true), (16, 32751, 32767, false), (32, 32735, 32767, true), (0, 32767, 32767, true), (0, 32767, 32767, true), (256, 32511, 32767, true), (512, 32255, 32767, false), (1152, 31615, 32767, true), (2048, 30719, 32767, false), (4160, 28607, 32767, true), (16383, 24575, 32767, true)] (by kernel_rfl) (by kernel_rfl) ?_ | refine sk_drawQ 16 (fun i => i == 16) (.step 0 true (.step 1 true (.step 2 true (.step 3 true (.step 4 true (.step 5 true (.step 6 true (.step 7 true (.step 8 true (.step 9 true (.step 10 true (.step 11 true (.step 12 true (.step 13 true (.step 14 true (.step 15 true (.step 16 false .nil))))))))))))))))) [(0, 131071, 131071, true), (0, 131071, 131071, true), (0, 131071, 131071, true), (0, 131071, 131071, true), (12, 131059, 131071, true), (16, 131055, 131071, false), (0, 131071, 131071, true), (64, 131007, 131071, false), (0, 131071, 131071, true), (384, 130687, 131071, true), (512, 130559, 131071, false), (0, 131071, 131071, true), (3072, 127999, 131071, true), (4096, 126975, 131071, false), (8224, 122847, 131071, true), (32767, 131068, 131071, true), (65535, 81919, 131071, false)] (by kernel_rfl) (by kernel_rfl) ?_ | refine sk_if rfl (fun hc => ?_) (fun hc => ?_))
              all_goals first | (exfalso; omega) | skip
              refine sk_back ?_; refine ⟨k + 1, ?_, ?_, le_at rfl (by (repeat (first | exact trivial | refine ⟨(by (rfl)), ?_⟩))) (by (repeat (first | exact trivial | refine ⟨rfl, ?_⟩))) (by (repeat (first | exact trivial | refine ⟨(by ((refine row_eq rfl ?_; simp  [← pS, pl, List.map_set]; done))), ?_⟩))) (by (repeat (first | exact trivial | refine ⟨.inr rfl, ?_⟩)))⟩
              · omega
              · omega
            · have h8 : k = 8 := by omega
              subst h8
              rw [pairA_8 ha]
              repeat' (first | (refine so_is (.assign _) ?_; (refine so_q (qt_asC rfl) rfl ?_)) | (refine so_is (.move _) ?_; (refine so_q (qt_mvC rfl) rfl ?_)) | (refine so_is (.binOp .lss 3 _ _ _) ?_; refine so_q (qt_lss rfl rfl) rfl ?_) | (refine so_is (.binOp .add 3 _ _ _) ?_; refine so_q (qt_addI rfl rfl (by (omega))) rfl ?_) | (refine so_is (.load 24 _) ?_; (refine so_q (qt_load_box rfl rfl (by kernel_rfl) rfl) rfl ?_)) | (refine so_is (.fieldAddr 26 _ 3) ?_; (refine so_q (qt_fld_lp (off := 3) rfl (by kernel_rfl)) rfl ?_)) | (refine so_is (.buildSlice 24 1 _) ?_; (apply so_bslice (sz := 1) (by_ := 24); (· kernel_rfl); (· decide); (· (repeat (first | exact GvS.nil _ | apply GvS.c rfl rfl (.row _ _ _ _ rfl (by ((simp; done)))) rfl))); (· (decide)); (· rfl); (· rfl); (· rfl))) | (refine so_is (.call ⟨.builtin .append, _, #[24, 24]⟩) ?_; ((apply so_appR (sz := 1) (by_ := 24); (· rfl); (· rfl); (· ((simp; done))); (· exact .row _ _ _ _ rfl (by ((simp; done)))); (· (decide)); (· kernel_rfl); (· decide); (· (omega)); (· (omega)); (· rfl); (· rfl); (· rfl)))) | (refine so_is (.store 24 _ _) ?_; (refine so_store_box1 rfl rfl rfl rfl (by kernel_rfl) rfl rfl ?_)) | refine so_nil ?_ | refine sk_seq ?_ | refine sk_blk ?_ | refine sk_exit rfl ?_ | refine sk_region ?_ | refine sk_false rfl ?_)
              all_goals first | (exfalso; omega) | skip
              refine sk_back ?_; refine ⟨y + 1, ?_, ?_, le_at rfl (by (repeat (first | exact trivial | refine ⟨(by (rfl)), ?_⟩))) (by (repeat (first | exact trivial | refine ⟨rfl, ?_⟩))) (by (repeat (first | exact trivial | refine ⟨(by (first | (refine row_eq rfl ?_; simp  [boxF_snoc _ _ _ _ hy2]; done) | rfl)), ?_⟩))) (by (repeat (first | exact trivial | refine ⟨.inr rfl, ?_⟩)))⟩
              · omega
              · omega
          · exfalso; omega
        · have h8 : y = 2 := by omega
          subst h8
          repeat' (first | (refine so_is (.assign _) ?_; (refine so_q (qt_asC rfl) rfl ?_)) | (refine so_is (.move _) ?_; (refine so_q (qt_mvC rfl) rfl ?_)) | (refine so_is (.binOp .lss 3 _ _ _) ?_; refine so_q (qt_lss rfl rfl) rfl ?_) | (refine so_is (.binOp .add 3 _ _ _) ?_; refine so_q (qt_addI rfl rfl (by (omega))) rfl ?_) | refine so_nil ?_ | refine sk_seq ?_ | refine sk_blk ?_ | refine sk_exit rfl ?_ | refine sk_region ?_ | refine sk_false rfl ?_)
          all_goals first | (exfalso; omega) | skip
          refine sk_back ?_; refine ⟨x + 1, ?_, ?_, le_at rfl (by (repeat (first | exact trivial | refine ⟨(by (rfl)), ?_⟩))) (by (repeat (first | exact trivial | refine ⟨rfl, ?_⟩))) (by (repeat (first | exact trivial | refine ⟨(by (first | (refine row_eq rfl ?_; simp  [Nat.mul_add]; done) | (refine box_eq rfl ?_; simp  [Nat.mul_add]; done))), ?_⟩))) (by (repeat (first | exact trivial | refine ⟨.inr rfl, ?_⟩)))⟩
          · omega
          · omega
      · exfalso; omega
    · have h8 : x = 2 := by omega
      subst h8
      repeat' (first | (refine so_is (.assign _) ?_; (refine so_q (qt_asC rfl) rfl ?_)) | (refine so_is (.move _) ?_; (refine so_q (qt_mvC rfl) rfl ?_)) | (refine so_is (.store 26 _ _) ?_; (refine so_store_box rfl rfl rfl (by kernel_rfl) rfl rfl ?_)) | (refine so_is (.binOp .lss 3 _ _ _) ?_; refine so_q (qt_lss rfl rfl) rfl ?_) | (refine so_is (.load 26 _) ?_; (refine so_q (qt_load_boxs rfl rfl (by kernel_rfl : tAgg _ 26 4 = true) rfl) rfl ?_)) | refine so_nil ?_ | refine sk_seq ?_ | refine sk_exit rfl ?_ | refine sk_region ?_ | refine sk_false rfl ?_)
      all_goals first | (exfalso; omega) | skip
      (apply sk_ret; apply ret_eq; (· apply RetOK.t; (· (apply GvA.cons; (· (apply RV.cellN (n := 4); (· rfl); (· rfl); (· kernel_rfl); (· rfl))); (· (apply GvP.g; (· (apply GvL.cons (.lit _)); (apply GvL.cons (.lit _)); (apply GvL.cons (.lit _)); ((apply GvL.cons (.row _ _ _ _ rfl (by ((simp; done)))))); exact GvL.nil)))); (apply GvA.cons; (· exact .tmp _); (· exact GvP.c (.lit _))); exact GvA.nil); (· rfl); (· (decide))))
      simp [whenN, whenL]

end Go.Proofs.YtefbiejoikpkmaaGreat

namespace Go.Proofs.YtefbiejoikpkmaaGreat
open Go.RowKit
set_option linter.unusedSectionVars false
variable [Glb]
set_option maxRecDepth 10000
set_option maxHeartbeats 4000000
theorem at_p (X Y n : Int) (ll : List (List Int)) (h : boxB X Y n ll = true) (x y a c : Int) (x0 : 0 ≤ x) (x1 : x < X) (y0 : 0 ≤ y) (y1 : y < Y) (a0 : 0 ≤ a) (a1 : a ≤ 1) (c0 : 0 ≤ c) (c1 : c ≤ 1) :
    PC Tryz.prog 118 [.g [dI X, dI Y, dI n, eII ll], .c (dI x), .c (dI y), .c (dI a), .c (dI c)] (.p (.c (dI (atB ll Y x y (2 * a + c))))) := by
  have hb := boxB_spec h
  have hi := idx_lt x0 x1 y0 y1
  have hr := (boxB_at h hi.1 hi.2.1).1
  have hm := mul_bd3 (x := X) (y := Y) (sizeB_iff.2 ⟨⟨hb.x1, hb.x3⟩, hb.y1, hb.y3⟩)
  have hl := hb.len
  refine pc_intro Tryz.func118 rfl rfl rfl (by kernel_rfl) rfl rfl ?_; intro _
  repeat' (first | (refine so_is (.box 26 _) ?_; refine so_box rfl rfl ?_) | (refine so_is (.assign _) ?_; (refine so_q (qt_asC rfl) rfl ?_)) | (refine so_is (.fieldAddr 26 _ 3) ?_; (refine so_q (qt_fld_lp (off := 3) rfl (by kernel_rfl)) rfl ?_)) | (refine so_is (.load 24 _) ?_; (refine so_q (qt_load_box rfl rfl (by kernel_rfl) rfl) rfl ?_)) | (refine so_is (.move _) ?_; (refine so_q (qt_mvC rfl) rfl ?_)) | (refine so_is (.fieldAddr 26 _ 1) ?_; (refine so_q (qt_fld_lp (off := 1) rfl (by kernel_rfl)) rfl ?_)) | (refine so_is (.load 3 _) ?_; (first | refine so_q (qt_load_box rfl rfl (by kernel_rfl) rfl) rfl ?_ | refine so_q (qt_load_pt rfl (by kernel_rfl) rfl) rfl ?_)) | (refine so_is (.binOp .mul 3 _ _ _) ?_; refine so_q (qt_mulI rfl rfl (by (omega))) rfl ?_) | (refine so_is (.binOp .add 3 _ _ _) ?_; refine so_q (qt_addI rfl rfl (by (omega))) rfl ?_) | (refine so_is (.indexAddr 24 _ _) ?_; (refine so_q (qt_idxII rfl rfl (by kernel_rfl) (by (omega)) (by (omega))) rfl ?_)) | (refine so_is (.load 27 _) ?_; (refine so_q (qt_load_pt rfl (by kernel_rfl) rfl) rfl ?_)) | (refine so_is (.indexAddr 27 _ _) ?_; (refine so_q (qt_idxI rfl rfl (by kernel_rfl) (by (omega)) (by (omega))) rfl ?_)) | refine so_nil ?_ | refine sk_seq ?_ | refine sk_region ?_)
  · (apply sk_ret; apply ret_eq; (· apply RetOK.p; (· (apply GvA.cons; (· exact .tmp _); (· exact GvP.c (.lit _))); exact GvA.nil); (· (decide))))
    rfl

end Go.Proofs.YtefbiejoikpkmaaGreat

namespace Go.Proofs.YtefbiejoikpkmaaGreat
open Go.RowKit
set_option linter.unusedSectionVars false
variable [Glb]
set_option maxRecDepth 10000
set_option maxHeartbeats 4000000
theorem areQuestions_p (x y : Int) : PC Tryz.prog 91 [.c (dI x), .c (dI y)] (.p (.c (dB (sizeB x y)))) := by
  refine pc_intro Tryz.func91 rfl rfl rfl (by kernel_rfl) rfl rfl ?_; intro _
  repeat' (first | (refine so_is (.assign _) ?_; (refine so_q (qt_asC rfl) rfl ?_)) | (refine so_is (.move _) ?_; (refine so_q (qt_mvC rfl) rfl ?_)) | (refine so_is (.pick _ _ _) ?_; (refine so_q (qt_pkC rfl rfl) rfl ?_)) | (refine so_is (.call ⟨.value (.func 78), _, _⟩) ?_; (apply so_call0 (fid := 78); (· (repeat (first | exact SeA.nil | apply SeA.cons (.c (.d _))))); (· exact within_p _ _ _); (· rfl))) | refine so_nil ?_ | refine so_g_no rfl rfl rfl rfl ?_ | refine so_g_yes rfl rfl rfl rfl ?_ | refine so_g_b rfl rfl (fun hg => ?_) (fun hg => ?_) | refine sk_seq ?_ | refine sk_region ?_)
  all_goals (apply sk_ret; apply ret_eq; (· apply RetOK.p; (· (apply GvA.cons; (· exact .tmp _); (· exact GvP.c (.lit _))); exact GvA.nil); (· (decide))))
  all_goals ((simp_all [sizeB]; done))

end Go.Proofs.YtefbiejoikpkmaaGreat

namespace Go.Proofs.YtefbiejoikpkmaaGreat
open Go.RowKit
set_option linter.unusedSectionVars false
variable [Glb]
set_option maxRecDepth 10000
set_option maxHeartbeats 4000000
theorem IsBox_p (x y n : Int) (ll : List (List Int)) : PC Tryz.prog 94 [.g [dI x, dI y, dI n, eII ll]] (.p (.c (dB (boxB x y n ll)))) := by
  refine pc_intro Tryz.func94 rfl rfl rfl (by kernel_rfl) rfl rfl ?_; rintro ⟨hl, -⟩
  have hl := (hl _ (List.mem_cons_of_mem _ (List.mem_cons_of_mem _ (List.mem_cons_of_mem _ (List.mem_cons_self ..))))).len
  repeat' (first | (refine so_is (.box 26 _) ?_; refine so_box rfl rfl ?_) | (refine so_is (.assign _) ?_; (refine so_q (qt_asC rfl) rfl ?_)) | (refine so_is (.fieldAddr 26 _ 0) ?_; (refine so_q (qt_fld_lp (off := 0) rfl (by kernel_rfl)) rfl ?_)) | (refine so_is (.load 3 _) ?_; (refine so_q (qt_load_box rfl rfl (by kernel_rfl) rfl) rfl ?_)) | (refine so_is (.fieldAddr 26 _ 1) ?_; (refine so_q (qt_fld_lp (off := 1) rfl (by kernel_rfl)) rfl ?_)) | (refine so_is (.unOp .not 4 _) ?_; refine so_q (qt_not rfl) rfl ?_) | (refine so_is (.move _) ?_; (refine so_q (qt_mvC rfl) rfl ?_)) | (refine so_is (.fieldAddr 26 _ 2) ?_; (refine so_q (qt_fld_lp (off := 2) rfl (by kernel_rfl)) rfl ?_)) | (refine so_is (.pick _ _ _) ?_; (refine so_q (qt_pkC rfl rfl) rfl ?_)) | (refine so_is (.fieldAddr 26 _ 3) ?_; (refine so_q (qt_fld_lp (off := 3) rfl (by kernel_rfl)) rfl ?_)) | (refine so_is (.load 24 _) ?_; (refine so_q (qt_load_box rfl rfl (by kernel_rfl) rfl) rfl ?_)) | (refine so_is (.call ⟨.builtin .len, _, #[24]⟩) ?_; (refine so_q (qt_len_d rfl (by kernel_rfl)) rfl ?_)) | (refine so_is (.binOp .mul 3 _ _ _) ?_; (refine so_q (qt_mul rfl rfl) rfl ?_)) | (refine so_is (.binOp .neq 3 _ _ _) ?_; refine so_q (qt_neq rfl rfl) rfl ?_) | (refine so_is (.call ⟨.value (.func 91), _, _⟩) ?_; (apply so_call0 (fid := 91); (· (repeat (first | exact SeA.nil | apply SeA.cons (.c (.d _))))); (· exact areQuestions_p _ _); (· rfl))) | (refine so_is (.call ⟨.value (.func 78), _, _⟩) ?_; (apply so_call0 (fid := 78); (· (repeat (first | exact SeA.nil | apply SeA.cons (.c (.d _))))); (· exact within_p _ _ _); (· rfl))) | refine so_nil ?_ | refine so_g_no rfl rfl rfl rfl ?_ | refine so_g_yes rfl rfl rfl rfl ?_ | refine so_g_b rfl rfl (fun hg => ?_) (fun hg => ?_) | refine sk_seq ?_ | refine sk_block ?_ | refine sk_skip ?_ | refine sk_region ?_ | refine sk_true rfl ?_ | refine sk_if rfl (fun hc => ?_) (fun hc => ?_))
  · (apply sk_ret; apply ret_eq; (· apply RetOK.p; (· (apply GvA.cons; (· exact .tmp _); (· exact GvP.c (.lit _))); exact GvA.nil); (· (decide))))
    have h9 : sizeB x y = false := by simpa using hg
    simp [boxB, h9]
  · (apply sk_ret; apply ret_eq; (· apply RetOK.p; (· (apply GvA.cons; (· exact .tmp _); (· exact GvP.c (.lit _))); exact GvA.nil); (· (decide))))
    have h9 : inB n 1 1000 = false := by simpa using hg
    simp [boxB, h9]
  · (apply sk_ret; apply ret_eq; (· apply RetOK.p; (· (apply GvA.cons; (· exact .tmp _); (· exact GvP.c (.lit _))); exact GvA.nil); (· (decide))))
    have hs : sizeB x y = true := by simp_all
    rw [wrap_mul3 hs] at hc
    have h3 : ¬ (ll.length : Int) = x * y := by omega
    simp [boxB, h3]
  have hs : sizeB x y = true := by simp_all
  have hn : inB n 1 1000 = true := by simp_all
  have hlen : (ll.length : Int) = x * y := by rw [← wrap_mul3 hs]; omega
  apply sk_packC [1, 29, 30, 31] [1] rfl; (· (repeat (first | exact Pf.nil | apply Pf.cons (.c rfl (.d rfl)) | apply Pf.cons (.c rfl (.lp rfl))))); (· (repeat (first | exact Pb.nil | (apply Pb.cons; (· apply Nb.box rfl; (repeat (first | exact Ncs.nil rfl | (apply Ncs.cons rfl; (· (exact .d rfl))))))))))
  refine sk_loopL [1, 29, 30] [1] (fun k => [(31, iN k)]) (fun _ => []) (fun k => k ≤ ll.length ∧ (ll.take k).all (row4B n) = true) (fun k => ll.length - k) (0) ?_ (by (repeat (first | exact trivial | refine ⟨(by (rfl)), ?_⟩))) (by (repeat (exact trivial))) ?_
  · simp
  rintro k ⟨hk, ha⟩
  repeat' (first | (refine so_is (.assign _) ?_; (refine so_q (qt_asC rfl) rfl ?_)) | (refine so_is (.load 3 _) ?_; (refine so_q (qt_load_box rfl rfl (by kernel_rfl) rfl) rfl ?_)) | (refine so_is (.unOp .not 4 _) ?_; refine so_q (qt_not rfl) rfl ?_) | (refine so_is (.move _) ?_; (refine so_q (qt_mvC rfl) rfl ?_)) | (refine so_is (.fieldAddr 26 _ 2) ?_; (refine so_q (qt_fld_lp (off := 2) rfl (by kernel_rfl)) rfl ?_)) | (refine so_is (.pick _ _ _) ?_; (refine so_q (qt_pkC rfl rfl) rfl ?_)) | (refine so_is (.binOp .neq 3 _ _ _) ?_; refine so_q (qt_neq rfl rfl) rfl ?_) | (refine so_is (.binOp .lss 3 _ _ _) ?_; refine so_q (qt_lss rfl rfl) rfl ?_) | (refine so_is (.indexAddr 24 _ _) ?_; (refine so_q (qt_idxII rfl rfl (by kernel_rfl) (by (omega)) (by (omega))) rfl ?_)) | (refine so_is (.load 27 _) ?_; (refine so_q (qt_load_pt rfl (by kernel_rfl) rfl) rfl ?_)) | (refine so_is (.call ⟨.builtin .len, _, #[27]⟩) ?_; (refine so_q (qt_len_d rfl (by kernel_rfl)) rfl ?_)) | (refine so_is (.binOp .add 3 _ _ _) ?_; refine so_q (qt_addI rfl rfl (by (omega))) rfl ?_) | (refine so_is (.call ⟨.value (.func 145), _, _⟩) ?_; (apply so_call0 (fid := 145); (· (repeat (first | exact SeA.nil | apply SeA.cons (.c (.d _))))); (· exact allWithin_p _ _ _); (· rfl))) | (refine so_is (.call ⟨.value (.func 167), _, _⟩) ?_; (apply so_call0 (fid := 167); (· (repeat (first | exact SeA.nil | apply SeA.cons (.c (.d _))))); (· exact total_p _); (· rfl))) | refine so_nil ?_ | refine so_g_no rfl rfl rfl rfl ?_ | refine so_g_yes rfl rfl rfl rfl ?_ | refine so_g_if rfl rfl (fun hg => ?_) (fun hg => ?_) | refine so_g_b rfl rfl (fun hg => ?_) (fun hg => ?_) | refine sk_seq ?_ | refine sk_block ?_ | refine sk_blk ?_ | refine sk_exit rfl ?_ | refine sk_skip ?_ | refine sk_region ?_ | refine sk_drawQ 6 (fun _ => false) (.step 0 true (.step 1 true (.step 2 true (.step 3 true (.step 4 true (.step 5 true (.step 6 true (.step 7 false (.step 8 true (.step 9 true (.step 10 true (.step 11 true (.step 13 true (.step 14 true (.step 12 false (.step 15 true (.step 16 true .nil))))))))))))))))) [(0, 131071, 131071, true), (1, 131070, 131071, true), (2, 131069, 131071, true), (4, 131067, 131071, true), (8, 131063, 131071, true), (8, 131063, 131071, true), (40, 131031, 131071, false), (88, 130983, 131071, false), (136, 130935, 131071, true), (264, 130807, 131071, true), (640, 130559, 131071, true), (1024, 130047, 131071, true), (3072, 127999, 131071, false), (1024, 130047, 131071, true), (9216, 121855, 131071, false), (21504, 109567, 131071, true), (33792, 97279, 131071, true)] (by kernel_rfl) (by kernel_rfl) ?_ | refine sk_true rfl ?_ | refine sk_if rfl (fun hc => ?_) (fun hc => ?_))
  · have hk2 : k < ll.length := by omega
    rw [atZ_nat hk2] at hg
    (apply sk_ret; apply ret_eq; (· apply RetOK.p; (· (apply GvA.cons; (· exact .tmp _); (· exact GvP.c (.lit _))); exact GvA.nil); (· (decide))))
    have h9 : row4B n ll[k] = false := by simp [row4B]; omega
    rw [boxB, all_f hk2 h9]; simp
  · rename_i hk'
    have hk2 : k < ll.length := by omega
    rw [atZ_nat hk2] at hg
    (apply sk_ret; apply ret_eq; (· apply RetOK.p; (· (apply GvA.cons; (· exact .tmp _); (· exact GvP.c (.lit _))); exact GvA.nil); (· (decide))))
    have h9 : row4B n ll[k] = false := by simp at hg; simp [row4B, hg]
    rw [boxB, all_f hk2 h9]; simp
  · rename_i hk'
    have hk2 : k < ll.length := by omega
    rw [atZ_nat hk2] at hg hc
    (apply sk_ret; apply ret_eq; (· apply RetOK.p; (· (apply GvA.cons; (· exact .tmp _); (· exact GvP.c (.lit _))); exact GvA.nil); (· (decide))))
    have h9 : row4B n ll[k] = false := by simp [row4B, hc]
    rw [boxB, all_f hk2 h9]; simp
  · rename_i hk' hg'
    have hk2 : k < ll.length := by omega
    rw [atZ_nat hk2] at hg hc hg'
    have h9 : row4B n ll[k] = true := by simp at hg hc hg'; simp [row4B, hg, hc]; omega
    refine sk_back ?_; refine ⟨k + 1, ?_, ?_, le_at rfl (by (repeat (first | exact trivial | refine ⟨(by (rfl)), ?_⟩))) (by (repeat (first | exact trivial | refine ⟨rfl, ?_⟩))) (by (repeat (exact trivial))) (by (repeat (first | exact trivial | refine ⟨.inr rfl, ?_⟩)))⟩
    · exact ⟨by omega, by rw [take_succ_all _ _ _ hk2, ha, h9]; rfl⟩
    · omega
  · have : k = ll.length := by omega
    subst this
    rw [List.take_length] at ha
    (apply sk_ret; apply ret_eq; (· apply RetOK.p; (· (apply GvA.cons; (· exact .tmp _); (· exact GvP.c (.lit _))); exact GvA.nil); (· (decide))))
    simp [boxB, hs, hn, hlen, ha]

end Go.Proofs.YtefbiejoikpkmaaGreat

namespace Go.Proofs.YtefbiejoikpkmaaGreat
open Go.RowKit
set_option linter.unusedSectionVars false
variable [Glb]
set_option maxRecDepth 10000
set_option maxHeartbeats 4000000
theorem hasTwo_p (x y : Int) : PC Tryz.prog 198 [.c (dI x), .c (dI y)] (.p (.c (dB (decide (x = 2) && decide (y = 2))))) := by
  refine pc_intro Tryz.func198 rfl rfl rfl (by kernel_rfl) rfl rfl ?_; intro _
  repeat' (first | (refine so_is (.assign _) ?_; (refine so_q (qt_asC rfl) rfl ?_)) | (refine so_is (.move _) ?_; (refine so_q (qt_mvC rfl) rfl ?_)) | (refine so_is (.binOp .eql 3 _ _ _) ?_; refine so_q (qt_eql rfl rfl) rfl ?_) | (refine so_is (.pick _ _ _) ?_; (refine so_q (qt_pkC rfl rfl) rfl ?_)) | refine so_nil ?_ | refine so_g_no rfl rfl rfl rfl ?_ | refine so_g_yes rfl rfl rfl rfl ?_ | refine so_g_if rfl rfl (fun hg => ?_) (fun hg => ?_) | refine sk_seq ?_ | refine sk_region ?_)
  all_goals (apply sk_ret; apply ret_eq; (· apply RetOK.p; (· (apply GvA.cons; (· exact .tmp _); (· exact GvP.c (.lit _))); exact GvA.nil); (· (decide))))
  all_goals ((simp_all [hasTwo_p]; done))
theorem isPair_p (x y n : Int) (ll : List (List Int)) : PC Tryz.prog 144 [.g [dI x, dI y, dI n, eII ll]] (.p (.c (dB (pairB x y n ll)))) := by
  refine pc_intro Tryz.func144 rfl rfl rfl (by kernel_rfl) rfl rfl ?_; intro _
  repeat' (first | (refine so_is (.box 26 _) ?_; refine so_box rfl rfl ?_) | (refine so_is (.assign _) ?_; (refine so_q (qt_asC rfl) rfl ?_)) | (refine so_is (.load 26 _) ?_; (refine so_q (qt_load_boxs rfl rfl (by kernel_rfl : tAgg _ 26 4 = true) rfl) rfl ?_)) | (refine so_is (.move _) ?_; (refine so_q (qt_mvC rfl) rfl ?_)) | (refine so_is (.fieldAddr 26 _ 0) ?_; (refine so_q (qt_fld_lp (off := 0) rfl (by kernel_rfl)) rfl ?_)) | (refine so_is (.load 3 _) ?_; (refine so_q (qt_load_box rfl rfl (by kernel_rfl) rfl) rfl ?_)) | (refine so_is (.fieldAddr 26 _ 1) ?_; (refine so_q (qt_fld_lp (off := 1) rfl (by kernel_rfl)) rfl ?_)) | (refine so_is (.pick _ _ _) ?_; (refine so_q (qt_pkC rfl rfl) rfl ?_)) | (refine so_is (.call ⟨.value (.func 94), _, _⟩) ?_; (apply so_call0 (fid := 94); (· (repeat (first | exact SeA.nil | (apply SeA.cons; (· (apply SeP.g; (repeat (first | exact SeL.nil | apply SeL.cons (.d _))))))))); (· exact IsBox_p _ _ _ _); (· rfl))) | (refine so_is (.call ⟨.value (.func 198), _, _⟩) ?_; (apply so_call0 (fid := 198); (· (repeat (first | exact SeA.nil | apply SeA.cons (.c (.d _))))); (· exact hasTwo_p _ _); (· rfl))) | refine so_nil ?_ | refine so_g_no rfl rfl rfl rfl ?_ | refine so_g_yes rfl rfl rfl rfl ?_ | refine so_g_b rfl rfl (fun hg => ?_) (fun hg => ?_) | refine sk_seq ?_ | refine sk_region ?_)
  all_goals (apply sk_ret; apply ret_eq; (· apply RetOK.p; (· (apply GvA.cons; (· exact .tmp _); (· exact GvP.c (.lit _))); exact GvA.nil); (· (decide))))
  all_goals ((simp_all [pairB]; done))

end Go.Proofs.YtefbiejoikpkmaaGreat

namespace Go.Proofs.YtefbiejoikpkmaaGreat
open Go.RowKit
set_option linter.unusedSectionVars false
variable [Glb]
set_option maxRecDepth 10000
set_option maxHeartbeats 4000000
theorem AddThird1_p (x y n : Int) (ll : List (List Int)) (ch : List Int) (most : Int) (h : thirdB x y n ll ch most = true) (q k : Nat) (hq : q < 8) (hk : k < 8) :
    PC Tryz.prog 147 [.c (dI q), .c (dI k), .c (.pt [eI ch]), .c (.pt [dI most]), .c (.pt [dI x, dI y, dI n, eII ll])] (.p (.c (dI (thirdF ll ch most q k)))) := by
  have h3 := thirdB_spec h
  have hm := third_mul h3 hq hk
  have x2 := h3.x2
  have y2 := h3.y2
  have m2 := h3.m2
  have cl := h3.cl
  have hb := h3.box
  subst x2 y2
  have e1 : (q : Int) / 4 * 2 + (q : Int) / 2 % 2 = (q : Int) / 2 := by omega
  have e2 : 2 * ((k : Int) / 4) + (k : Int) / 2 % 2 = (k : Int) / 2 := by omega
  have ap := at_p 2 2 n ll hb ((q : Int) / 4) ((q : Int) / 2 % 2) ((k : Int) / 4) ((k : Int) / 2 % 2) (by omega) (by omega) (by omega) (by omega) (by omega) (by omega) (by omega) (by omega)
  unfold atB at ap
  rw [e1, e2] at ap
  refine pc_intro Tryz.func147 rfl rfl rfl (by kernel_rfl) rfl rfl ?_; intro _
  repeat' (first | (refine so_is (.assign _) ?_; (refine so_q (qt_asC rfl) rfl ?_)) | (refine so_is (.load 27 _) ?_; (refine so_q (qt_load_pt rfl (by kernel_rfl) rfl) rfl ?_)) | (refine so_is (.move _) ?_; (refine so_q (qt_mvC rfl) rfl ?_)) | (refine so_is (.binOp .and 3 _ _ _) ?_; refine so_q (qt_andM 1 (c := 2) rfl rfl (by decide)) rfl ?_) | (refine so_is (.indexAddr 27 _ _) ?_; (refine so_q (qt_idxI rfl rfl (by kernel_rfl) (by (omega)) (by (omega))) rfl ?_)) | (refine so_is (.load 3 _) ?_; (refine so_q (qt_load_pt rfl (by kernel_rfl) rfl) rfl ?_)) | (refine so_is (.binOp .eql 3 _ _ _) ?_; refine so_q (qt_eql rfl rfl) rfl ?_) | (refine so_is (.binOp .sub 3 _ _ _) ?_; refine so_q (qt_subI rfl rfl (by (omega))) rfl ?_) | (refine so_is (.load 26 _) ?_; (refine so_q (qt_load_pts rfl (by kernel_rfl : tAgg _ 26 4 = true) (by simp)) rfl ?_)) | (refine so_is (.binOp .shr 3 _ _ _) ?_; (first | refine so_q (qt_shrC (c := 4) rfl rfl (by decide)) rfl ?_ | refine so_q (qt_shrC (c := 2) rfl rfl (by decide)) rfl ?_)) | (refine so_is (.binOp .mul 3 _ _ _) ?_; refine so_q (qt_mulI rfl rfl (by (omega))) rfl ?_) | (refine so_is (.call ⟨.value (.func 118), _, _⟩) ?_; (apply so_call0 (fid := 118); (· (repeat (first | exact SeA.nil | apply SeA.cons (.c (.d _)) | (apply SeA.cons; (· (apply SeP.g; (repeat (first | exact SeL.nil | apply SeL.cons (.d _))))))))); (· exact ap); (· rfl))) | refine so_nil ?_ | refine sk_seq ?_ | refine sk_skip ?_ | refine sk_region ?_ | refine sk_if rfl (fun hc => ?_) (fun hc => ?_))
  all_goals (apply sk_ret; apply ret_eq; (· apply RetOK.p; (· (apply GvA.cons; (· exact .tmp _); (· exact GvP.c (.lit _))); exact GvA.nil); (· (decide))))
  all_goals simp [thirdF, hc]
theorem AddThird_p (x y n : Int) (ll : List (List Int)) (ch : List Int) (most : Int) : PC Tryz.prog 62 [.g [dI x, dI y, dI n, eII ll], .c (eI ch), .c (dI most)]
    (.t [.g [dI (whenN (thirdOK x y n ll ch most) (n * most)), eII (whenL (thirdOK x y n ll ch most) (gridF (thirdF ll ch most) 8 8))], .c (dB (thirdOK x y n ll ch most))]) := by
  have h3 : thirdB x y n ll ch most = true → _ := fun h => thirdB_spec h
  cases hB : thirdB x y n ll ch most with
  | false =>
    have hO : thirdOK x y n ll ch most = false := by simp [thirdOK, hB]
    refine pc_intro Tryz.func62 rfl rfl rfl (by kernel_rfl) rfl rfl ?_; intro _
    repeat' (first | (refine so_is (.box 26 _) ?_; refine so_box rfl rfl ?_) | (refine so_is (.box 27 _) ?_; refine so_box rfl rfl ?_) | (refine so_is (.box 3 _) ?_; refine so_box rfl rfl ?_) | (refine so_is (.alloc 88) ?_; refine so_alloc (zs := [.int .i64 0, .slice none 0 0]) (by kernel_rfl) rfl ?_) | (refine so_is (.assign _) ?_; (refine so_q (qt_asC rfl) rfl ?_)) | (refine so_is (.load 26 _) ?_; (refine so_q (qt_load_boxs rfl rfl (by kernel_rfl : tAgg _ 26 4 = true) rfl) rfl ?_)) | (refine so_is (.unOp .not 4 _) ?_; refine so_q (qt_not rfl) rfl ?_) | (refine so_is (.move _) ?_; (refine so_q (qt_mvC rfl) rfl ?_)) | (refine so_is (.load 27 _) ?_; (refine so_q (qt_load_box rfl rfl (by kernel_rfl) rfl) rfl ?_)) | (refine so_is (.call ⟨.builtin .len, _, #[27]⟩) ?_; (refine so_q (qt_len_d rfl (by kernel_rfl)) rfl ?_)) | (refine so_is (.binOp .neq 3 _ _ _) ?_; refine so_q (qt_neq rfl rfl) rfl ?_) | (refine so_is (.pick _ _ _) ?_; (refine so_q (qt_pkC rfl rfl) rfl ?_)) | (refine so_is (.load 3 _) ?_; (refine so_q (qt_load_box rfl rfl (by kernel_rfl) rfl) rfl ?_)) | (refine so_is (.build 88 _) ?_; refine so_q (qt_build (cs := [_, _]) [(0, 1), (1, 1)] [.int .i64 0, .slice none 0 0] (by kernel_rfl) (by kernel_rfl) rfl) rfl ?_) | (refine so_is (.store 88 _ _) ?_; (refine so_store_box rfl rfl rfl (by kernel_rfl) rfl rfl ?_)) | (refine so_is (.fieldAddr 26 _ 2) ?_; (refine so_q (qt_fld_lp (off := 2) rfl (by kernel_rfl)) rfl ?_)) | (refine so_is (.call ⟨.value (.func 144), _, _⟩) ?_; (apply so_call0 (fid := 144); (· (repeat (first | exact SeA.nil | (apply SeA.cons; (· (apply SeP.g; (repeat (first | exact SeL.nil | apply SeL.cons (.d _))))))))); (· exact isPair_p _ _ _ _); (· rfl))) | (refine so_is (.call ⟨.value (.func 78), _, _⟩) ?_; (apply so_call0 (fid := 78); (· (repeat (first | exact SeA.nil | apply SeA.cons (.c (.d _))))); (· exact within_p _ _ _); (· rfl))) | (refine so_is (.call ⟨.value (.func 145), _, _⟩) ?_; (apply so_call0 (fid := 145); (· (repeat (first | exact SeA.nil | apply SeA.cons (.c (.d _))))); (· exact allWithin_p _ _ _); (· rfl))) | refine so_nil ?_ | refine so_g_no rfl rfl rfl rfl ?_ | refine so_g_yes rfl rfl rfl rfl ?_ | refine so_g_if rfl rfl (fun hg => ?_) (fun hg => ?_) | refine so_g_b rfl rfl (fun hg => ?_) (fun hg => ?_) | refine sk_seq ?_ | refine sk_skip ?_ | refine sk_region ?_ | refine sk_true rfl ?_ | refine sk_not rfl (fun hc => ?_) (fun hc => ?_))
    all_goals first | (exfalso; simp_all [thirdB]; done) | skip
    all_goals (apply sk_ret; apply ret_eq; (· apply RetOK.t; (· (apply GvA.cons; (· (apply RV.cellN (n := 2); (· rfl); (· rfl); (· kernel_rfl); (· rfl))); (· (apply GvP.g; (· (apply GvL.cons (.lit _)); ((apply GvL.cons (.nil 1 (by decide)))); exact GvL.nil)))); (apply GvA.cons; (· exact .tmp _); (· exact GvP.c (.lit _))); exact GvA.nil); (· rfl); (· (decide))))
    all_goals simp [hO, whenN, whenL]
  | true =>
    have h4 := thirdB_spec hB
    have p1 := h4.p1
    have p2 := h4.p2
    clear h3
    refine pc_intro Tryz.func62 rfl rfl rfl (by kernel_rfl) rfl rfl ?_; intro _
    repeat' (first | (refine so_is (.box 26 _) ?_; refine so_box rfl rfl ?_) | (refine so_is (.box 27 _) ?_; refine so_box rfl rfl ?_) | (refine so_is (.box 3 _) ?_; refine so_box rfl rfl ?_) | (refine so_is (.alloc 88) ?_; refine so_alloc (zs := [.int .i64 0, .slice none 0 0]) (by kernel_rfl) rfl ?_) | (refine so_is (.assign _) ?_; (refine so_q (qt_asC rfl) rfl ?_)) | (refine so_is (.load 26 _) ?_; (refine so_q (qt_load_boxs rfl rfl (by kernel_rfl : tAgg _ 26 4 = true) rfl) rfl ?_)) | (refine so_is (.unOp .not 4 _) ?_; refine so_q (qt_not rfl) rfl ?_) | (refine so_is (.move _) ?_; (refine so_q (qt_mvC rfl) rfl ?_)) | (refine so_is (.load 27 _) ?_; (refine so_q (qt_load_box rfl rfl (by kernel_rfl) rfl) rfl ?_)) | (refine so_is (.call ⟨.builtin .len, _, #[27]⟩) ?_; (refine so_q (qt_len_d rfl (by kernel_rfl)) rfl ?_)) | (refine so_is (.binOp .neq 3 _ _ _) ?_; refine so_q (qt_neq rfl rfl) rfl ?_) | (refine so_is (.pick _ _ _) ?_; (refine so_q (qt_pkC rfl rfl) rfl ?_)) | (refine so_is (.load 3 _) ?_; (refine so_q (qt_load_box rfl rfl (by kernel_rfl) rfl) rfl ?_)) | (refine so_is (.build 88 _) ?_; refine so_q (qt_build (cs := [_, _]) [(0, 1), (1, 1)] [.int .i64 0, .slice none 0 0] (by kernel_rfl) (by kernel_rfl) rfl) rfl ?_) | (refine so_is (.store 88 _ _) ?_; (refine so_store_box rfl rfl rfl (by kernel_rfl) rfl rfl ?_)) | (refine so_is (.fieldAddr 26 _ 2) ?_; (refine so_q (qt_fld_lp (off := 2) rfl (by kernel_rfl)) rfl ?_)) | (refine so_is (.binOp .mul 3 _ _ _) ?_; refine so_q (qt_mulI rfl rfl (by (omega))) rfl ?_) | (refine so_is (.makeFunc _ _ _) ?_; (apply so_q; (· apply qt_makeFunc; (repeat (first | exact EvL.nil | (apply EvL.cons; (· rfl))))); (· rfl))) | (refine so_is (.load 88 _) ?_; (refine so_q (qt_load_boxs rfl rfl (by kernel_rfl : tAgg _ 88 2 = true) rfl) rfl ?_)) | (refine so_is (.call ⟨.value (.func 144), _, _⟩) ?_; (apply so_call0 (fid := 144); (· (repeat (first | exact SeA.nil | (apply SeA.cons; (· (apply SeP.g; (repeat (first | exact SeL.nil | apply SeL.cons (.d _))))))))); (· exact isPair_p _ _ _ _); (· rfl))) | (refine so_is (.call ⟨.value (.func 78), _, _⟩) ?_; (apply so_call0 (fid := 78); (· (repeat (first | exact SeA.nil | apply SeA.cons (.c (.d _))))); (· exact within_p _ _ _); (· rfl))) | (refine so_is (.call ⟨.value (.func 145), _, _⟩) ?_; (apply so_call0 (fid := 145); (· (repeat (first | exact SeA.nil | apply SeA.cons (.c (.d _))))); (· exact allWithin_p _ _ _); (· rfl))) | (refine so_is (.call ⟨.value (.func 146), _, _⟩) ?_; (apply so_callO0 (fid := 146); (· (repeat (first | exact SeA.nil | apply SeA.cons (.c (.d _)) | (apply SeA.cons; (· (apply SeP.c; apply Se.fn; (repeat (first | exact SeL.nil | (apply SeL.cons; (· apply Se.pt; (· rfl); (· rfl); (· (repeat (first | exact SeL.nil | apply SeL.cons (.d _)))))))))))))); (· exact newTrio_p (n * most) 147 [.pt [eI ch], .pt [dI most], .pt [dI x, dI y, dI n, eII ll]] (thirdF ll ch most) (fun q k hq hk => AddThird1_p x y n ll ch most hB q k hq hk)); (· rfl); (· rfl))) | (refine so_is (.call ⟨.value (.func 134), _, _⟩) ?_; (apply so_call0 (fid := 134); (· (repeat (first | exact SeA.nil | (apply SeA.cons; (· (apply SeP.g; (repeat (first | exact SeL.nil | apply SeL.cons (.d _) | apply SeL.cons (.all _ _ _ _ rfl (by ((simp; done)))))))))))); (· exact IsTrio_p _ _); (· rfl))) | refine so_nil ?_ | refine so_g_no rfl rfl rfl rfl ?_ | refine so_g_yes rfl rfl rfl rfl ?_ | refine so_g_if rfl rfl (fun hg => ?_) (fun hg => ?_) | refine so_g_b rfl rfl (fun hg => ?_) (fun hg => ?_) | refine sk_seq ?_ | refine sk_skip ?_ | refine sk_region ?_ | refine sk_true rfl ?_ | refine sk_not rfl (fun hc => ?_) (fun hc => ?_))
    all_goals first | (exfalso; simp_all [thirdB]; done) | skip
    all_goals (apply sk_ret; apply ret_eq; (· apply RetOK.t; (· (apply GvA.cons; (· (apply RV.cellN (n := 2); (· rfl); (· rfl); (· kernel_rfl); (· rfl))); (· (apply GvP.g; (· (apply GvL.cons (.lit _)); ((first | apply GvL.cons (.nil 1 (by decide)) | apply GvL.cons (.row _ _ _ _ rfl (by ((simp; done)))))); exact GvL.nil)))); (apply GvA.cons; (· exact .tmp _); (· exact GvP.c (.lit _))); exact GvA.nil); (· rfl); (· (decide))))
    all_goals simp_all [thirdOK, whenN, whenL]

end Go.Proofs.YtefbiejoikpkmaaGreat

namespace Go.Proofs.YtefbiejoikpkmaaGreat
open Go.RowKit
set_option linter.unusedSectionVars false
variable [Glb]
set_option maxRecDepth 10000
set_option maxHeartbeats 4000000
abbrev dU (n : Int) : D := .lit (.int .u64 n)
theorem OnesCount64_p (n : Nat) (h : n < 8) : PC Tryz.prog 200 [.c (dU n)] (.p (.c (dI ((n / 4 + n / 2 % 2 + n % 2 : Nat) : Int)))) := by
  rcases (by omega : n = 0 ∨ n = 1 ∨ n = 2 ∨ n = 3 ∨ n = 4 ∨ n = 5 ∨ n = 6 ∨ n = 7) with rfl | rfl | rfl | rfl | rfl | rfl | rfl | rfl
  all_goals
    refine pc_intro Tryz.func200 rfl rfl rfl (by kernel_rfl) rfl rfl ?_; intro _
    repeat' (first | (refine so_is (.assign _) ?_; (refine so_q (qt_asC rfl) rfl ?_)) | (refine so_is (.move _) ?_; (refine so_q (qt_mvC rfl) rfl ?_)) | (refine so_is (.binOp .shr 104 _ _ _) ?_; (first | refine so_q (qt_shrC (c := 2) rfl rfl (by decide)) rfl ?_ | refine so_q (qt_shrC (c := 4) rfl rfl (by decide)) rfl ?_ | refine so_q (qt_shrC (c := 16) rfl rfl (by decide)) rfl ?_ | refine so_q (qt_shrC (c := 256) rfl rfl (by decide)) rfl ?_ | refine so_q (qt_shrC (c := 65536) rfl rfl (by decide)) rfl ?_ | refine so_q (qt_shrC (c := 4294967296) rfl rfl (by decide)) rfl ?_)) | (refine so_is (.binOp .and 104 _ _ _) ?_; refine so_q (qt_bits rfl rfl (by simp)) rfl ?_) | (refine so_is (.binOp .add 104 _ _ _) ?_; refine so_q (qt_add rfl rfl) rfl ?_) | (refine so_is (.convert 104 3 _) ?_; (refine so_q (qt_convI (k' := .i64) rfl (by kernel_rfl) (by kernel_rfl) (by (rfl))) rfl ?_)) | (refine so_is (.binOp .and 3 _ _ _) ?_; refine so_q (qt_andM 7 (c := 128) rfl rfl (by decide)) rfl ?_) | refine so_nil ?_ | refine sk_seq ?_ | refine sk_region ?_)
    (apply sk_ret; apply ret_eq; (· apply RetOK.p; (· (apply GvA.cons; (· exact .tmp _); (· exact GvP.c (.lit _))); exact GvA.nil); (· (decide))))
    rfl
theorem OnesCount_p (n : Nat) (h : n < 8) : PC Tryz.prog 156 [.c (dU n)] (.p (.c (dI ((n / 4 + n / 2 % 2 + n % 2 : Nat) : Int)))) := by
  refine pc_intro Tryz.func156 rfl rfl rfl (by kernel_rfl) rfl rfl ?_; intro _
  repeat' (first | (refine so_is (.assign _) ?_; (refine so_q (qt_asC rfl) rfl ?_)) | (refine so_is (.move _) ?_; (refine so_q (qt_mvC rfl) rfl ?_)) | (refine so_is (.call ⟨.value (.func 200), _, _⟩) ?_; (apply so_call0 (fid := 200); (· (repeat (first | exact SeA.nil | apply SeA.cons (.c (.d _))))); (· exact OnesCount64_p n h); (· rfl))) | refine so_nil ?_ | refine sk_seq ?_ | refine sk_skip ?_ | refine sk_region ?_ | refine sk_false rfl ?_)
  · (apply sk_ret; apply ret_eq; (· apply RetOK.p; (· (apply GvA.cons; (· exact .tmp _); (· exact GvP.c (.lit _))); exact GvA.nil); (· (decide))))
    rfl

end Go.Proofs.YtefbiejoikpkmaaGreat

namespace Go.Proofs.YtefbiejoikpkmaaGreat
open Go.RowKit
set_option linter.unusedSectionVars false
variable [Glb]
set_option maxRecDepth 10000
set_option maxHeartbeats 4000000
theorem parity_p (n : Nat) (h : n < 8) : PC Tryz.prog 150 [.c (dI n)] (.p (.c (dI (parZ n)))) := by
  refine pc_intro Tryz.func150 rfl rfl rfl (by kernel_rfl) rfl rfl ?_; intro _
  repeat' (first | (refine so_is (.assign _) ?_; (refine so_q (qt_asC rfl) rfl ?_)) | (refine so_is (.move _) ?_; (refine so_q (qt_mvC rfl) rfl ?_)) | (refine so_is (.convert 3 147 _) ?_; (refine so_q (qt_convI (k' := .u64) rfl (by kernel_rfl) (by kernel_rfl) (by (exact wrapU64 (by (omega))))) rfl ?_)) | (refine so_is (.binOp .rem 3 _ _ _) ?_; (refine so_q (qt_remN rfl rfl (by (omega)) (by (omega)) (by (omega))) rfl ?_)) | (refine so_is (.call ⟨.value (.func 156), _, _⟩) ?_; (apply so_call0 (fid := 156); (· (repeat (first | exact SeA.nil | apply SeA.cons (.c (.d _))))); (· exact OnesCount_p n h); (· rfl))) | refine so_nil ?_ | refine sk_seq ?_ | refine sk_region ?_)
  · (apply sk_ret; apply ret_eq; (· apply RetOK.p; (· (apply GvA.cons; (· exact .tmp _); (· exact GvP.c (.lit _))); exact GvA.nil); (· (decide))))
    simp [parZ]; omega
theorem parityZ_p (p : Int) (h0 : 0 ≤ p) (h : p < 8) : PC Tryz.prog 150 [.c (dI p)] (.p (.c (dI (parZ p)))) := by
  obtain ⟨n, rfl⟩ := Int.eq_ofNat_of_zero_le h0
  exact parity_p n (by omega)

end Go.Proofs.YtefbiejoikpkmaaGreat

namespace Go.Proofs.YtefbiejoikpkmaaGreat
open Go.RowKit
set_option linter.unusedSectionVars false
variable [Glb]
set_option maxRecDepth 10000
set_option maxHeartbeats 4000000
theorem played_p (l : List Int) (q : Int) (h : bitsB l 6 = true) : PC Tryz.prog 151 [.c (eI l), .c (dI q)] (.p (.c (dI (playV l q)))) := by
  refine pc_intro Tryz.func151 rfl rfl rfl (by kernel_rfl) rfl rfl ?_; intro _
  have hl6 := bitsB_len h
  repeat' (first | (refine so_is (.assign _) ?_; (refine so_q (qt_asC rfl) rfl ?_)) | (refine so_is (.move _) ?_; (refine so_q (qt_mvC rfl) rfl ?_)) | refine so_nil ?_ | refine sk_seq ?_ | refine sk_block ?_ | refine sk_region ?_)
  apply sk_packC [0, 1, 5, 7] [] rfl; (· (repeat (first | exact Pf.nil | apply Pf.cons (.c rfl (.d rfl))))); (· (repeat (exact Pb.nil)))
  refine sk_loopL [0, 1] [] (fun m => [(7, iN m), (5, iZ (playP l q m))]) (fun _ => []) (fun m => m ≤ 3) (fun m => 3 - m) (0) ?_ (by (repeat (first | exact trivial | refine ⟨(by (rfl)), ?_⟩))) (by (repeat (exact trivial))) ?_
  · simp
  intro m hm
  have b1 := bitZ_le q m
  have b2 : m ≤ 2 → _ := fun h2 => playP_4 h q m h2
  have b3 : m ≤ 2 → _ := fun h2 => bitsB_at h (i := 2 * m + bitZ q m) (by omega) (by omega)
  repeat' (first | (refine so_is (.assign _) ?_; (refine so_q (qt_asC rfl) rfl ?_)) | (refine so_is (.move _) ?_; (refine so_q (qt_mvC rfl) rfl ?_)) | (refine so_is (.binOp .lss 3 _ _ _) ?_; refine so_q (qt_lss rfl rfl) rfl ?_) | (refine so_is (.binOp .mul 3 _ _ _) ?_; refine so_q (qt_mulI rfl rfl (by (omega))) rfl ?_) | (refine so_is (.binOp .add 3 _ _ _) ?_; refine so_q (qt_addI rfl rfl (by (omega))) rfl ?_) | (refine so_is (.indexAddr 27 _ _) ?_; (refine so_q (qt_idxI rfl rfl (by kernel_rfl) (by (omega)) (by (omega))) rfl ?_)) | (refine so_is (.load 3 _) ?_; (refine so_q (qt_load_pt rfl (by kernel_rfl) rfl) rfl ?_)) | (refine so_is (.call ⟨.value (.func 131), _, _⟩) ?_; (apply so_call0 (fid := 131); (· (repeat (first | exact SeA.nil | apply SeA.cons (.c (.d _))))); (· exact bitOf_p _ _ (by omega)); (· rfl))) | refine so_nil ?_ | refine sk_seq ?_ | refine sk_block ?_ | refine sk_blk ?_ | refine sk_exit rfl ?_ | refine sk_skip ?_ | refine sk_region ?_ | refine sk_if rfl (fun hc => ?_) (fun hc => ?_))
  · refine sk_back ?_; refine ⟨m + 1, ?_, ?_, le_at rfl (by (repeat (first | exact trivial | refine ⟨(by (rfl)), ?_⟩))) (by (repeat (first | exact trivial | refine ⟨rfl, ?_⟩))) (by (repeat (exact trivial))) (by (repeat (exact trivial)))⟩
    · omega
    · omega
  · have : m = 3 := by omega
    subst this
    (apply sk_ret; apply ret_eq; (· apply RetOK.p; (· (apply GvA.cons; (· exact .tmp _); (· exact GvP.c (.lit _))); exact GvA.nil); (· (decide))))
    rfl

end Go.Proofs.YtefbiejoikpkmaaGreat

namespace Go.Proofs.YtefbiejoikpkmaaGreat
open Go.RowKit
set_option linter.unusedSectionVars false
variable [Glb]
set_option maxRecDepth 10000
set_option maxHeartbeats 4000000
theorem plays_p (x y : Nat) (h : x + y ≤ 6) : PC Tryz.prog 124 [.c (dI x), .c (dI y)] (.p (.c (eII (playsF (x + y))))) := by
  have e2 : (2 : Nat) ^ (x + y) ≤ 64 := Nat.le_trans (Nat.pow_le_pow_right (by omega) h) (by decide)
  obtain ⟨N, hN⟩ : ∃ N : Nat, N = 2 ^ (x + y) := ⟨_, rfl⟩
  rw [← hN] at e2
  have e1 : (1 : Int) * 2 ^ ((x : Int) + y).toNat = N := by
    rw [show ((x : Int) + y).toNat = x + y by omega, hN, Int.natCast_pow]; simp
  refine pc_intro Tryz.func124 rfl rfl rfl (by kernel_rfl) rfl rfl ?_; intro _
  repeat' (first | (refine so_is (.assign _) ?_; (refine so_q (qt_asC rfl) rfl ?_)) | (refine so_is (.buildSlice 24 0 _) ?_; (apply so_bslice (sz := 1) (by_ := 24); (· kernel_rfl); (· decide); (· (repeat (exact GvS.nil _))); (· (decide)); (· rfl); (· rfl); (· rfl))) | (refine so_is (.move _) ?_; (refine so_q (qt_mvC rfl) rfl ?_)) | (refine so_is (.binOp .add 3 _ _ _) ?_; refine so_q (qt_addI rfl rfl (by (omega))) rfl ?_) | (refine so_is (.binOp .shl 3 _ _ _) ?_; (refine so_q (qt_shlI rfl rfl (by (omega)) (by (omega)) (by (omega))) rfl ?_)) | refine so_nil ?_ | refine sk_seq ?_ | refine sk_block ?_ | refine sk_region ?_)
  apply sk_packC [0, 1, 5, 13, 14] [9, 17, 34, 35, 39, 40] rfl; (· (repeat (first | exact Pf.nil | apply Pf.cons (.c rfl (.d rfl)) | apply Pf.cons (.c rfl (.ls rfl))))); (· (repeat (first | exact Pb.nil | apply Pb.cons (.row rfl) | apply Pb.skip)))
  refine sk_loopL [0, 1, 13] [17, 34, 35, 39, 40] (fun c => [(14, iN c), (5, .c (.ls 9 1 0 c))]) (fun c => [(9, .row 1 (cII ((List.range c).map (bitsM (x + y)))))]) (fun c => c ≤ N) (fun c => N - c) (0) ?_ (by (repeat (first | exact trivial | refine ⟨(by (rfl)), ?_⟩))) (by (repeat (first | exact trivial | refine ⟨(by ((refine row_eq rfl ?_; simp; done))), ?_⟩))) ?_
  · omega
  intro c hc
  repeat' (first | (refine so_is (.assign _) ?_; (refine so_q (qt_asC rfl) rfl ?_)) | (refine so_is (.move _) ?_; (refine so_q (qt_mvC rfl) rfl ?_)) | (refine so_is (.binOp .add 3 _ _ _) ?_; refine so_q (qt_addI rfl rfl (by (omega))) rfl ?_) | (refine so_is (.binOp .lss 3 _ _ _) ?_; refine so_q (qt_lss rfl rfl) rfl ?_) | (refine so_is (.buildSlice 27 0 _) ?_; (apply so_bslice (sz := 1) (by_ := 8); (· kernel_rfl); (· decide); (· (repeat (exact GvS.nil _))); (· (decide)); (· rfl); (· rfl); (· rfl))) | refine so_nil ?_ | refine sk_seq ?_ | refine sk_block ?_ | refine sk_exit rfl ?_ | refine sk_skip ?_ | refine sk_region ?_ | refine sk_if rfl (fun hc => ?_) (fun hc => ?_))
  · apply sk_packC [0, 1, 5, 6, 7, 13, 14, 20, 21] [9, 17, 34, 35, 39, 40] rfl; (· (repeat (first | exact Pf.nil | apply Pf.cons (.c rfl (.d rfl)) | apply Pf.cons (.c rfl (.ls rfl))))); (· (repeat (first | exact Pb.nil | apply Pb.cons (.row rfl) | apply Pb.skip)))
    refine sk_loopL [0, 1, 5, 6, 13, 14, 20] [9, 34, 35, 39, 40] (fun i => [(21, iN i), (7, .c (.ls 17 1 0 i))]) (fun i => [(17, .row 1 (cI (rowF (fun i => (bitN c (x + y - 1 - i) : Int)) i)))]) (fun i => i ≤ x + y) (fun i => x + y - i) (0) ?_ (by (repeat (first | exact trivial | refine ⟨(by (rfl)), ?_⟩))) (by (repeat (first | exact trivial | refine ⟨(by (rfl)), ?_⟩))) ?_
    · omega
    intro i hi
    have e3 : i < x + y → (c : Int) / 2 ^ ((x : Int) + y - 1 - i).toNat % 2 = (bitN c (x + y - 1 - i) : Int) := fun h => by
      rw [show ((x : Int) + y - 1 - i).toNat = x + y - 1 - i by omega, bit_nat]
    repeat' (first | (refine so_is (.assign _) ?_; (refine so_q (qt_asC rfl) rfl ?_)) | (refine so_is (.move _) ?_; (refine so_q (qt_mvC rfl) rfl ?_)) | (refine so_is (.binOp .add 3 _ _ _) ?_; refine so_q (qt_addI rfl rfl (by (omega))) rfl ?_) | (refine so_is (.binOp .lss 3 _ _ _) ?_; refine so_q (qt_lss rfl rfl) rfl ?_) | (refine so_is (.binOp .sub 3 _ _ _) ?_; refine so_q (qt_subI rfl rfl (by (omega))) rfl ?_) | (refine so_is (.binOp .shr 3 _ _ _) ?_; (refine so_q (qt_shrI rfl rfl (by (omega)) (by (omega))) rfl ?_)) | (refine so_is (.binOp .and 3 _ _ _) ?_; refine so_q (qt_andM 1 (c := 2) rfl rfl (by decide)) rfl ?_) | (refine so_is (.buildSlice 27 1 _) ?_; (apply so_bslice (sz := 1) (by_ := 8); (· kernel_rfl); (· decide); (· (repeat (first | exact GvS.nil _ | apply GvS.c rfl rfl (.lit _) rfl))); (· (decide)); (· rfl); (· rfl); (· rfl))) | (refine so_is (.call ⟨.builtin .append, _, #[27, 27]⟩) ?_; ((apply so_appR (sz := 1) (by_ := 8); (· rfl); (· rfl); (· ((simp; done))); (· exact .row _ _ _ _ rfl (by ((simp; done)))); (· (decide)); (· kernel_rfl); (· decide); (· (omega)); (· (omega)); (· rfl); (· rfl); (· rfl)))) | (refine so_is (.buildSlice 24 1 _) ?_; (apply so_bslice (sz := 1) (by_ := 24); (· kernel_rfl); (· decide); (· (repeat (first | exact GvS.nil _ | apply GvS.c rfl rfl (.row _ _ _ _ rfl (by ((simp; done)))) rfl))); (· (decide)); (· rfl); (· rfl); (· rfl))) | (refine so_is (.call ⟨.builtin .append, _, #[24, 24]⟩) ?_; ((apply so_appR (sz := 1) (by_ := 24); (· rfl); (· rfl); (· ((simp; done))); (· exact .row _ _ _ _ rfl (by ((simp; done)))); (· (decide)); (· kernel_rfl); (· decide); (· (omega)); (· (omega)); (· rfl); (· rfl); (· rfl)))) | refine so_nil ?_ | refine sk_seq ?_ | refine sk_block ?_ | refine sk_blk ?_ | refine sk_exit rfl ?_ | refine sk_skip ?_ | refine sk_region ?_ | refine sk_if rfl (fun hc => ?_) (fun hc => ?_))
    · have e3 := e3 (by omega)
      simp at e3
      refine sk_back ?_; refine ⟨i + 1, ?_, ?_, le_at rfl (by (repeat (first | exact trivial | refine ⟨(by (rfl)), ?_⟩))) (by (repeat (first | exact trivial | refine ⟨rfl, ?_⟩))) (by (repeat (first | exact trivial | refine ⟨(by ((refine row_eq rfl ?_; simp  [rowF_snoc, e3]; done))), ?_⟩))) (by (repeat (first | exact trivial | refine ⟨.inr rfl, ?_⟩)))⟩
      · omega
      · omega
    · have h8 : i = x + y := by omega
      subst h8
      refine sk_back ?_; refine ⟨c + 1, ?_, ?_, le_at rfl (by (repeat (first | exact trivial | refine ⟨(by (rfl)), ?_⟩))) (by (repeat (first | exact trivial | refine ⟨rfl, ?_⟩))) (by (repeat (first | exact trivial | refine ⟨(by ((refine row_eq rfl ?_; simp  [plays_snoc, bitsM]; done))), ?_⟩))) (by (repeat (first | exact trivial | refine ⟨.inr rfl, ?_⟩)))⟩
      · omega
      · omega
  · have h8 : c = N := by omega
    subst h8
    subst hN
    (apply sk_ret; apply ret_eq; (· apply RetOK.p; (· (apply GvA.cons; (· exact .tmp _); (· (exact GvP.c (.row _ _ _ _ rfl (by ((simp; done))))))); exact GvA.nil); (· (decide))))
    simp [playsF]

end Go.Proofs.YtefbiejoikpkmaaGreat

namespace Go.Proofs.YtefbiejoikpkmaaGreat
open Go.RowKit
set_option linter.unusedSectionVars false
variable [Glb]
set_option maxRecDepth 10000
set_option maxHeartbeats 4000000
theorem TrioValue_p (w odd : List Int) : PC Tryz.prog 65 [.c (eI w), .c (eI odd)] (.t [.c (dI (if valB w odd = true then trioVal w odd else 0)), .c (dB (valB w odd))]) := by
  refine pc_intro Tryz.func65 rfl rfl rfl (by kernel_rfl) rfl rfl ?_; intro _
  repeat' (first | (refine so_is (.assign _) ?_; (refine so_q (qt_asC rfl) rfl ?_)) | (refine so_is (.move _) ?_; (refine so_q (qt_mvC rfl) rfl ?_)) | (refine so_is (.call ⟨.builtin .len, _, #[27]⟩) ?_; (refine so_q (qt_len_d rfl (by kernel_rfl)) rfl ?_)) | (refine so_is (.binOp .neq 3 _ _ _) ?_; refine so_q (qt_neq rfl rfl) rfl ?_) | (refine so_is (.unOp .not 4 _) ?_; refine so_q (qt_not rfl) rfl ?_) | (refine so_is (.pick _ _ _) ?_; (refine so_q (qt_pkC rfl rfl) rfl ?_)) | (refine so_is (.call ⟨.builtin .len, _, #[24]⟩) ?_; (refine so_q (qt_len_d rfl (by kernel_rfl)) rfl ?_)) | (refine so_is (.call ⟨.value (.func 145), _, _⟩) ?_; (apply so_call0 (fid := 145); (· (repeat (first | exact SeA.nil | apply SeA.cons (.c (.d _))))); (· exact allWithin_p _ _ _); (· rfl))) | (refine so_is (.call ⟨.value (.func 83), _, _⟩) ?_; (apply so_call0 (fid := 83); (· (repeat (first | exact SeA.nil | apply SeA.cons (.c (.d _))))); (· exact isBits_p _ _); (· rfl))) | (refine so_is (.call ⟨.value (.func 124), _, _⟩) ?_; (apply so_call0 (fid := 124); (· (repeat (first | exact SeA.nil | apply SeA.cons (.c (.d _))))); (· exact plays_p 3 3 (by omega)); (· rfl))) | refine so_nil ?_ | refine so_g_no rfl rfl rfl rfl ?_ | refine so_g_yes rfl rfl rfl rfl ?_ | refine so_g_if rfl rfl (fun hg => ?_) (fun hg => ?_) | refine so_g_b rfl rfl (fun hg => ?_) (fun hg => ?_) | refine sk_seq ?_ | refine sk_block ?_ | refine sk_skip ?_ | refine sk_region ?_ | refine sk_true rfl ?_ | refine sk_not rfl (fun hc => ?_) (fun hc => ?_))
  · (apply sk_ret; apply ret_eq; (· apply RetOK.t; (· (apply GvA.cons; (· exact .tmp _); (· exact GvP.c (.lit _))); (apply GvA.cons; (· exact .tmp _); (· exact GvP.c (.lit _))); exact GvA.nil); (· rfl); (· (decide))))
    have : ¬ w.length = 8 := by omega
    simp [valB, this]
  · (apply sk_ret; apply ret_eq; (· apply RetOK.t; (· (apply GvA.cons; (· exact .tmp _); (· exact GvP.c (.lit _))); (apply GvA.cons; (· exact .tmp _); (· exact GvP.c (.lit _))); exact GvA.nil); (· rfl); (· (decide))))
    simp at hg
    simp [valB, hg]
  · (apply sk_ret; apply ret_eq; (· apply RetOK.t; (· (apply GvA.cons; (· exact .tmp _); (· exact GvP.c (.lit _))); (apply GvA.cons; (· exact .tmp _); (· exact GvP.c (.lit _))); exact GvA.nil); (· rfl); (· (decide))))
    simp [valB, hc]
  have hv : valB w odd = true := by simp_all [valB]; omega
  have hw : w.length = 8 := by simp at *; omega
  have ho := bitsB_len hc
  apply sk_packC [0, 1, 6, 25, 26, 27] [25] rfl; (· (repeat (first | exact Pf.nil | apply Pf.cons (.c rfl (.d rfl))))); (· (repeat (first | exact Pb.nil | apply Pb.skip)))
  refine sk_loopL [0, 1, 25, 26] [25] (fun c => [(27, iN c), (6, iZ (bestN (fun c => scoreN w odd (fun q => playV (bitsM 6 c) q) 8) c))]) (fun _ => []) (fun c => c ≤ 64) (fun c => 64 - c) (0) ?_ (by (repeat (first | exact trivial | refine ⟨(by (rfl)), ?_⟩))) (by (repeat (exact trivial))) ?_
  · omega
  intro c hc64
  have hp : c < 64 → atZ (playsF 6) (c : Int) = bitsM 6 c := fun h => playsF_at h
  repeat' (first | (refine so_is (.assign _) ?_; (refine so_q (qt_asC rfl) rfl ?_)) | (refine so_is (.move _) ?_; (refine so_q (qt_mvC rfl) rfl ?_)) | (refine so_is (.call ⟨.builtin .len, _, #[27]⟩) ?_; (refine so_q (qt_len_d rfl (by kernel_rfl)) rfl ?_)) | (refine so_is (.binOp .lss 3 _ _ _) ?_; refine so_q (qt_lss rfl rfl) rfl ?_) | (refine so_is (.indexAddr 24 _ _) ?_; (refine so_q (qt_idxII rfl rfl (by kernel_rfl) (by (omega)) (by (omega))) rfl ?_)) | (refine so_is (.load 27 _) ?_; (refine so_q (qt_load_pt rfl (by kernel_rfl) rfl) rfl ?_)) | refine so_nil ?_ | refine sk_seq ?_ | refine sk_block ?_ | refine sk_exit rfl ?_ | refine sk_skip ?_ | refine sk_region ?_ | refine sk_if rfl (fun hc => ?_) (fun hc => ?_))
  · have hp := hp (by simp at *; omega)
    apply sk_packC [0, 1, 6, 8, 9, 25, 26, 27, 31, 32, 33] [25] rfl; (· (repeat (first | exact Pf.nil | apply Pf.cons (.c rfl (.d rfl))))); (· (repeat (first | exact Pb.nil | apply Pb.skip)))
    refine sk_loopL [0, 1, 6, 8, 25, 26, 27, 31, 32] [25] (fun q => [(33, iN q), (9, iZ (scoreN w odd (fun q => playV (bitsM 6 c) q) q))]) (fun _ => []) (fun q => q ≤ 8) (fun q => 8 - q) (0) ?_ (by (repeat (first | exact trivial | refine ⟨(by (rfl)), ?_⟩))) (by (repeat (exact trivial))) ?_
    · omega
    intro q hq
    have hb := bitsM_bits 6 c
    have pv := playV_bd hb q
    have sb := scoreN_bd hv (fun q => playV (bitsM 6 c) q) q (by omega)
    have wb := fun h => allB_at (l := w) (lo := 0) (hi := 99) (by simp_all [valB]) (i := q) (by omega) h
    rw [hp]
    repeat' (first | (refine so_is (.assign _) ?_; (refine so_q (qt_asC rfl) rfl ?_)) | (refine so_is (.move _) ?_; (refine so_q (qt_mvC rfl) rfl ?_)) | (refine so_is (.binOp .lss 3 _ _ _) ?_; refine so_q (qt_lss rfl rfl) rfl ?_) | (refine so_is (.indexAddr 27 _ _) ?_; (refine so_q (qt_idxI rfl rfl (by kernel_rfl) (by (omega)) (by (omega))) rfl ?_)) | (refine so_is (.load 3 _) ?_; (refine so_q (qt_load_pt rfl (by kernel_rfl) rfl) rfl ?_)) | (refine so_is (.binOp .eql 3 _ _ _) ?_; refine so_q (qt_eql rfl rfl) rfl ?_) | (refine so_is (.binOp .add 3 _ _ _) ?_; refine so_q (qt_addI rfl rfl (by (omega))) rfl ?_) | (refine so_is (.call ⟨.builtin .max, _, #[3, 3]⟩) ?_; refine so_q (qt_max rfl rfl) rfl ?_) | (refine so_is (.call ⟨.value (.func 151), _, _⟩) ?_; (apply so_call0 (fid := 151); (· (repeat (first | exact SeA.nil | apply SeA.cons (.c (.d _))))); (· exact played_p _ _ hb); (· rfl))) | (refine so_is (.call ⟨.value (.func 150), _, _⟩) ?_; (apply so_call0 (fid := 150); (· (repeat (first | exact SeA.nil | apply SeA.cons (.c (.d _))))); (· exact parityZ_p _ (by omega) (by omega)); (· rfl))) | refine so_nil ?_ | refine sk_seq ?_ | refine sk_block ?_ | refine sk_blk ?_ | refine sk_exit rfl ?_ | refine sk_skip ?_ | refine sk_region ?_ | refine sk_drawQ 11 (fun _ => false) (.step 0 true (.step 1 true (.step 4 true (.step 5 true (.step 6 true (.step 7 true (.step 2 false (.step 3 false (.step 8 true .nil))))))))) [(0, 511, 511, true), (0, 511, 511, true), (3, 508, 511, false), (4, 507, 511, false), (0, 511, 511, true), (0, 511, 511, true), (48, 463, 511, true), (64, 447, 511, false), (136, 375, 511, true)] (by kernel_rfl) (by kernel_rfl) ?_ | refine sk_if rfl (fun hc => ?_) (fun hc => ?_))
    · refine sk_back ?_; refine ⟨q + 1, ?_, ?_, le_at rfl (by (repeat (first | exact trivial | refine ⟨(by (first | rfl | (refine int_eq rfl ?_; ((simp  [scoreN, hc]; done))))), ?_⟩))) (by (repeat (first | exact trivial | refine ⟨rfl, ?_⟩))) (by (repeat (exact trivial))) (by (repeat (first | exact trivial | refine ⟨.inr rfl, ?_⟩)))⟩
      · omega
      · omega
    · refine sk_back ?_; refine ⟨q + 1, ?_, ?_, le_at rfl (by (repeat (first | exact trivial | refine ⟨(by (first | rfl | (refine int_eq rfl ?_; ((simp  [scoreN, hc]; done))))), ?_⟩))) (by (repeat (first | exact trivial | refine ⟨rfl, ?_⟩))) (by (repeat (exact trivial))) (by (repeat (first | exact trivial | refine ⟨.inr rfl, ?_⟩)))⟩
      · omega
      · omega
    · have h8 : q = 8 := by omega
      subst h8
      refine sk_back ?_; refine ⟨c + 1, ?_, ?_, le_at rfl (by (repeat (first | exact trivial | refine ⟨(by (rfl)), ?_⟩))) (by (repeat (first | exact trivial | refine ⟨rfl, ?_⟩))) (by (repeat (exact trivial))) (by (repeat (first | exact trivial | refine ⟨.inr rfl, ?_⟩)))⟩
      · simp at *; omega
      · simp at *; omega
  · have h8 : c = 64 := by simp at *; omega
    subst h8
    (apply sk_ret; apply ret_eq; (· apply RetOK.t; (· (apply GvA.cons; (· exact .tmp _); (· exact GvP.c (.lit _))); (apply GvA.cons; (· exact .tmp _); (· exact GvP.c (.lit _))); exact GvA.nil); (· rfl); (· (decide))))
    simp [hv, trioVal]

end Go.Proofs.YtefbiejoikpkmaaGreat

namespace Go.Proofs.YtefbiejoikpkmaaGreat
open Go.RowKit
set_option linter.unusedSectionVars false
variable [Glb]
set_option maxRecDepth 10000
set_option maxHeartbeats 4000000
theorem l11Says_p (l : List Int) (q : Int) (h : bitsB l 6 = true) (h0 : 0 ≤ q) (h8 : q < 8) : PC Tryz.prog 153 [.c (eI l), .c (dI q)] (.p (.c (dI (playV l q)))) := by
  refine pc_intro Tryz.func153 rfl rfl rfl (by kernel_rfl) rfl rfl ?_; intro _
  have hl6 := bitsB_len h
  have b1 := bitsB_at h (i := q / 4) (by omega) (by omega)
  have b2 := bitsB_at h (i := 2 + q / 2 % 2) (by omega) (by omega)
  have b3 := bitsB_at h (i := 4 + q % 2) (by omega) (by omega)
  repeat' (first | (refine so_is (.assign _) ?_; (refine so_q (qt_asC rfl) rfl ?_)) | (refine so_is (.move _) ?_; (refine so_q (qt_mvC rfl) rfl ?_)) | (refine so_is (.binOp .shr 3 _ _ _) ?_; (first | refine so_q (qt_shrC (c := 4) rfl rfl (by decide)) rfl ?_ | refine so_q (qt_shrC (c := 2) rfl rfl (by decide)) rfl ?_)) | (refine so_is (.indexAddr 27 _ _) ?_; (refine so_q (qt_idxI rfl rfl (by kernel_rfl) (by (omega)) (by (omega))) rfl ?_)) | (refine so_is (.load 3 _) ?_; (refine so_q (qt_load_pt rfl (by kernel_rfl) rfl) rfl ?_)) | (refine so_is (.binOp .mul 3 _ _ _) ?_; refine so_q (qt_mulI rfl rfl (by (omega))) rfl ?_) | (refine so_is (.binOp .and 3 _ _ _) ?_; refine so_q (qt_andM 1 (c := 2) rfl rfl (by decide)) rfl ?_) | (refine so_is (.binOp .add 3 _ _ _) ?_; refine so_q (qt_addI rfl rfl (by (omega))) rfl ?_) | refine so_nil ?_ | refine sk_seq ?_ | refine sk_region ?_ | refine sk_drawQ 1 (fun _ => false) (.step 0 true (.step 1 true (.step 2 true (.step 3 true (.step 4 true (.step 5 true (.step 6 true (.step 7 true (.step 8 true (.step 9 true (.step 10 true (.step 11 true (.step 12 true (.step 13 true (.step 14 true (.step 15 true (.step 16 true (.step 17 true (.step 18 true (.step 19 true (.step 20 true (.step 21 true (.step 22 true .nil))))))))))))))))))))))) [(0, 8388607, 8388607, true), (0, 8388607, 8388607, true), (2, 8388605, 8388607, true), (5, 8388602, 8388607, true), (8, 8388599, 8388607, false), (16, 8388591, 8388607, true), (0, 8388607, 8388607, true), (0, 8388607, 8388607, true), (128, 8388479, 8388607, true), (256, 8388351, 8388607, true), (512, 8388095, 8388607, true), (1088, 8387519, 8388607, true), (2048, 8386559, 8388607, false), (4096, 8384511, 8388607, true), (8224, 8380383, 8388607, true), (0, 8388607, 8388607, true), (0, 8388607, 8388607, true), (65536, 8323071, 8388607, true), (131072, 8257535, 8388607, true), (294912, 8093695, 8388607, true), (524288, 7864319, 8388607, false), (1064960, 7323647, 8388607, true), (4194303, 6291455, 8388607, true)] (by kernel_rfl) (by kernel_rfl) ?_)
  · (apply sk_ret; apply ret_eq; (· apply RetOK.p; (· (apply GvA.cons; (· exact .tmp _); (· exact GvP.c (.lit _))); exact GvA.nil); (· (decide))))
    rw [playV_eq l h0 h8]

end Go.Proofs.YtefbiejoikpkmaaGreat

namespace Go.Proofs.YtefbiejoikpkmaaGreat
open Go.RowKit
set_option linter.unusedSectionVars false
variable [Glb]
set_option maxRecDepth 10000
set_option maxHeartbeats 4000000
theorem spTrioValue_p (w odd : List Int) : PC Tryz.prog 66 [.c (eI w), .c (eI odd)] (.t [.c (dI (if valB w odd = true then trioVal w odd else 0)), .c (dB (valB w odd))]) := by
  refine pc_intro Tryz.func66 rfl rfl rfl (by kernel_rfl) rfl rfl ?_; intro _
  repeat' (first | (refine so_is (.assign _) ?_; (refine so_q (qt_asC rfl) rfl ?_)) | (refine so_is (.move _) ?_; (refine so_q (qt_mvC rfl) rfl ?_)) | (refine so_is (.call ⟨.builtin .len, _, #[27]⟩) ?_; (refine so_q (qt_len_d rfl (by kernel_rfl)) rfl ?_)) | (refine so_is (.binOp .neq 3 _ _ _) ?_; refine so_q (qt_neq rfl rfl) rfl ?_) | (refine so_is (.unOp .not 4 _) ?_; refine so_q (qt_not rfl) rfl ?_) | (refine so_is (.pick _ _ _) ?_; (refine so_q (qt_pkC rfl rfl) rfl ?_)) | (refine so_is (.call ⟨.value (.func 85), _, _⟩) ?_; (apply so_call0 (fid := 85); (· (repeat (first | exact SeA.nil | apply SeA.cons (.c (.d _))))); (· exact l2Bits_p _ _); (· rfl))) | refine so_nil ?_ | refine so_g_no rfl rfl rfl rfl ?_ | refine so_g_yes rfl rfl rfl rfl ?_ | refine so_g_if rfl rfl (fun hg => ?_) (fun hg => ?_) | refine sk_seq ?_ | refine sk_block ?_ | refine sk_skip ?_ | refine sk_region ?_ | refine sk_true rfl ?_ | refine sk_not rfl (fun hc => ?_) (fun hc => ?_))
  · (apply sk_ret; apply ret_eq; (· apply RetOK.t; (· (apply GvA.cons; (· exact .tmp _); (· exact GvP.c (.lit _))); (apply GvA.cons; (· exact .tmp _); (· exact GvP.c (.lit _))); exact GvA.nil); (· rfl); (· (decide))))
    have : ¬ w.length = 8 := by omega
    simp [valB, this]
  · (apply sk_ret; apply ret_eq; (· apply RetOK.t; (· (apply GvA.cons; (· exact .tmp _); (· exact GvP.c (.lit _))); (apply GvA.cons; (· exact .tmp _); (· exact GvP.c (.lit _))); exact GvA.nil); (· rfl); (· (decide))))
    simp [valB, hc]
  have hw : w.length = 8 := by omega
  have ho := bitsB_len hc
  apply sk_packC [0, 1, 6] [35, 45, 46] rfl; (· (repeat (first | exact Pf.nil | apply Pf.cons (.c rfl (.d rfl))))); (· (repeat (first | exact Pb.nil | apply Pb.skip)))
  refine sk_loopL [0, 1] [35, 45, 46] (fun k => [(6, iN k)]) (fun _ => []) (fun k => k ≤ 8 ∧ (w.take k).all (fun n => inB n 0 99) = true) (fun k => 8 - k) (0) ?_ (by (repeat (first | exact trivial | refine ⟨(by (rfl)), ?_⟩))) (by (repeat (exact trivial))) ?_
  · simp
  rintro k ⟨hk, ha⟩
  repeat' (first | (refine so_is (.assign _) ?_; (refine so_q (qt_asC rfl) rfl ?_)) | (refine so_is (.move _) ?_; (refine so_q (qt_mvC rfl) rfl ?_)) | (refine so_is (.unOp .not 4 _) ?_; refine so_q (qt_not rfl) rfl ?_) | (refine so_is (.binOp .lss 3 _ _ _) ?_; refine so_q (qt_lss rfl rfl) rfl ?_) | (refine so_is (.indexAddr 27 _ _) ?_; (refine so_q (qt_idxI rfl rfl (by kernel_rfl) (by (omega)) (by (omega))) rfl ?_)) | (refine so_is (.load 3 _) ?_; (refine so_q (qt_load_pt rfl (by kernel_rfl) rfl) rfl ?_)) | (refine so_is (.binOp .add 3 _ _ _) ?_; refine so_q (qt_addI rfl rfl (by (omega))) rfl ?_) | (refine so_is (.call ⟨.value (.func 80), _, _⟩) ?_; (apply so_call0 (fid := 80); (· (repeat (first | exact SeA.nil | apply SeA.cons (.c (.d _))))); (· exact l1In_p _ _ _); (· rfl))) | refine so_nil ?_ | refine sk_seq ?_ | refine sk_block ?_ | refine sk_blk ?_ | refine sk_exit rfl ?_ | refine sk_skip ?_ | refine sk_region ?_ | refine sk_if rfl (fun hc => ?_) (fun hc => ?_) | refine sk_not rfl (fun hc => ?_) (fun hc => ?_))
  · have hk2 : k < w.length := by omega
    rw [atZ_nat hk2] at hc
    have h9 : allB w 0 99 = false := all_f hk2 hc
    (apply sk_ret; apply ret_eq; (· apply RetOK.t; (· (apply GvA.cons; (· exact .tmp _); (· exact GvP.c (.lit _))); (apply GvA.cons; (· exact .tmp _); (· exact GvP.c (.lit _))); exact GvA.nil); (· rfl); (· (decide))))
    simp [valB, h9]
  · have hk2 : k < w.length := by omega
    rw [atZ_nat hk2] at hc
    refine sk_back ?_; refine ⟨k + 1, ?_, ?_, le_at rfl (by (repeat (first | exact trivial | refine ⟨(by (rfl)), ?_⟩))) (by (repeat (first | exact trivial | refine ⟨rfl, ?_⟩))) (by (repeat (exact trivial))) (by (repeat (first | exact trivial | refine ⟨.inr rfl, ?_⟩)))⟩
    · exact ⟨by omega, by rw [take_succ_all _ _ _ hk2, ha, hc]; rfl⟩
    · omega
  have hv : valB w odd = true := by
    rw [List.take_of_length_le (by omega)] at ha
    simp_all [valB, allB]
  apply sk_packC [0, 1, 7, 8] [35, 45, 46] rfl; (· (repeat (first | exact Pf.nil | apply Pf.cons (.c rfl (.d rfl))))); (· (repeat (first | exact Pb.nil | apply Pb.skip)))
  refine sk_loopL [0, 1] [35, 45, 46] (fun c => [(8, iN c), (7, iZ (bestN (fun c => scoreN w odd (fun q => playV (bitsL c) q) 8) c))]) (fun _ => []) (fun c => c ≤ 64) (fun c => 64 - c) (0) ?_ (by (repeat (first | exact trivial | refine ⟨(by (rfl)), ?_⟩))) (by (repeat (exact trivial))) ?_
  · omega
  intro c hc64
  repeat' (first | (refine so_is (.assign _) ?_; (refine so_q (qt_asC rfl) rfl ?_)) | (refine so_is (.move _) ?_; (refine so_q (qt_mvC rfl) rfl ?_)) | (refine so_is (.binOp .lss 3 _ _ _) ?_; refine so_q (qt_lss rfl rfl) rfl ?_) | (refine so_is (.buildSlice 27 0 _) ?_; (apply so_bslice (sz := 1) (by_ := 8); (· kernel_rfl); (· decide); (· (repeat (exact GvS.nil _))); (· (decide)); (· rfl); (· rfl); (· rfl))) | refine so_nil ?_ | refine sk_seq ?_ | refine sk_block ?_ | refine sk_exit rfl ?_ | refine sk_skip ?_ | refine sk_region ?_ | refine sk_if rfl (fun hc => ?_) (fun hc => ?_))
  · apply sk_packC [0, 1, 7, 8, 9, 10, 11] [35, 45, 46] rfl; (· (repeat (first | exact Pf.nil | apply Pf.cons (.c rfl (.d rfl)) | apply Pf.cons (.c rfl (.ls rfl))))); (· (repeat (first | exact Pb.nil | apply Pb.cons (.row rfl) | apply Pb.skip)))
    refine sk_loopL [0, 1, 7, 8, 10] [45, 46] (fun i => [(11, iN i), (9, .c (.ls 35 1 0 i))]) (fun i => [(35, .row 1 (cI (rowF (fun i => (bitN c i : Int)) i)))]) (fun i => i ≤ 6) (fun i => 6 - i) (0) ?_ (by (repeat (first | exact trivial | refine ⟨(by (rfl)), ?_⟩))) (by (repeat (first | exact trivial | refine ⟨(by (rfl)), ?_⟩))) ?_
    · omega
    intro i hi
    have e3 := bit_nat c i
    repeat' (first | (refine so_is (.assign _) ?_; (refine so_q (qt_asC rfl) rfl ?_)) | (refine so_is (.move _) ?_; (refine so_q (qt_mvC rfl) rfl ?_)) | (refine so_is (.binOp .lss 3 _ _ _) ?_; refine so_q (qt_lss rfl rfl) rfl ?_) | (refine so_is (.binOp .add 3 _ _ _) ?_; refine so_q (qt_addI rfl rfl (by (omega))) rfl ?_) | (refine so_is (.binOp .shr 3 _ _ _) ?_; (refine so_q (qt_shrI rfl rfl (by (omega)) (by (omega))) rfl ?_)) | (refine so_is (.binOp .and 3 _ _ _) ?_; refine so_q (qt_andM 1 (c := 2) rfl rfl (by decide)) rfl ?_) | (refine so_is (.buildSlice 27 1 _) ?_; (apply so_bslice (sz := 1) (by_ := 8); (· kernel_rfl); (· decide); (· (repeat (first | exact GvS.nil _ | apply GvS.c rfl rfl (.lit _) rfl))); (· (decide)); (· rfl); (· rfl); (· rfl))) | (refine so_is (.call ⟨.builtin .append, _, #[27, 27]⟩) ?_; ((apply so_appR (sz := 1) (by_ := 8); (· rfl); (· rfl); (· ((simp; done))); (· exact .row _ _ _ _ rfl (by ((simp; done)))); (· (decide)); (· kernel_rfl); (· decide); (· (omega)); (· (omega)); (· rfl); (· rfl); (· rfl)))) | refine so_nil ?_ | refine sk_seq ?_ | refine sk_block ?_ | refine sk_blk ?_ | refine sk_exit rfl ?_ | refine sk_skip ?_ | refine sk_region ?_ | refine sk_if rfl (fun hc => ?_) (fun hc => ?_))
    · refine sk_back ?_; refine ⟨i + 1, ?_, ?_, le_at rfl (by (repeat (first | exact trivial | refine ⟨(by (rfl)), ?_⟩))) (by (repeat (first | exact trivial | refine ⟨rfl, ?_⟩))) (by (repeat (first | exact trivial | refine ⟨(by ((refine row_eq rfl ?_; simp  [rowF_snoc, e3]; done))), ?_⟩))) (by (repeat (first | exact trivial | refine ⟨.inr rfl, ?_⟩)))⟩
      · omega
      · omega
    have h6 : i = 6 := by omega
    subst h6
    repeat' fail
    apply sk_packC [0, 1, 7, 8, 9, 10, 12] [35, 45, 46] rfl; (· (repeat (first | exact Pf.nil | apply Pf.cons (.c rfl (.d rfl)) | apply Pf.cons (.c rfl (.ls rfl))))); (· (repeat (first | exact Pb.nil | apply Pb.cons (.row rfl) | apply Pb.skip)))
    refine sk_loopL [0, 1, 7, 8, 9] [35, 45, 46] (fun q => [(12, iN q), (10, iZ (scoreN w odd (fun q => playV (bitsL c) q) q))]) (fun _ => []) (fun q => q ≤ 8) (fun q => 8 - q) (0) ?_ (by (repeat (first | exact trivial | refine ⟨(by (rfl)), ?_⟩))) (by (repeat (exact trivial))) ?_
    · omega
    intro q hq
    have hb := bitsL_bits c
    have pv := playV_bd hb q
    have sb := scoreN_bd hv (fun q => playV (bitsL c) q) q (by omega)
    have wb := fun h => allB_at (l := w) (lo := 0) (hi := 99) (by simp_all [valB]) (i := q) (by omega) h
    repeat' (first | (refine so_is (.assign _) ?_; (refine so_q (qt_asC rfl) rfl ?_)) | (refine so_is (.move _) ?_; (refine so_q (qt_mvC rfl) rfl ?_)) | (refine so_is (.binOp .lss 3 _ _ _) ?_; refine so_q (qt_lss rfl rfl) rfl ?_) | (refine so_is (.indexAddr 27 _ _) ?_; (refine so_q (qt_idxI rfl rfl (by kernel_rfl) (by (omega)) (by (omega))) rfl ?_)) | (refine so_is (.load 3 _) ?_; (refine so_q (qt_load_pt rfl (by kernel_rfl) rfl) rfl ?_)) | (refine so_is (.binOp .add 3 _ _ _) ?_; refine so_q (qt_addI rfl rfl (by (omega))) rfl ?_) | (refine so_is (.binOp .eql 3 _ _ _) ?_; refine so_q (qt_eql rfl rfl) rfl ?_) | (refine so_is (.call ⟨.value (.func 153), _, _⟩) ?_; (apply so_call0 (fid := 153); (· (repeat (first | exact SeA.nil | apply SeA.cons (.c (.d _)) | apply SeA.cons (.c (.all _ _ _ _ rfl (by ((simp; done)))))))); (· exact l11Says_p (bitsL c) _ hb (by omega) (by omega)); (· rfl))) | (refine so_is (.call ⟨.value (.func 152), _, _⟩) ?_; (apply so_call0 (fid := 152); (· (repeat (first | exact SeA.nil | apply SeA.cons (.c (.d _))))); (· exact l11Parity_p _ (by omega) (by omega)); (· rfl))) | (refine so_is (.call ⟨.value (.func 154), _, _⟩) ?_; (apply so_call0 (fid := 154); (· (repeat (first | exact SeA.nil | apply SeA.cons (.c (.d _))))); (· exact l1Most_p _ _); (· rfl))) | refine so_nil ?_ | refine sk_seq ?_ | refine sk_block ?_ | refine sk_blk ?_ | refine sk_exit rfl ?_ | refine sk_skip ?_ | refine sk_region ?_ | refine sk_drawQ 20 (fun _ => false) (.step 0 true (.step 1 true (.step 4 true (.step 5 true (.step 6 true (.step 7 true (.step 2 false (.step 3 false (.step 8 true .nil))))))))) [(0, 511, 511, true), (0, 511, 511, true), (3, 508, 511, false), (4, 507, 511, false), (0, 511, 511, true), (0, 511, 511, true), (48, 463, 511, true), (64, 447, 511, false), (136, 375, 511, true)] (by kernel_rfl) (by kernel_rfl) ?_ | refine sk_if rfl (fun hc => ?_) (fun hc => ?_))
    · refine sk_back ?_; refine ⟨q + 1, ?_, ?_, le_at rfl (by (repeat (first | exact trivial | refine ⟨(by (first | rfl | (refine int_eq rfl ?_; ((simp  [scoreN, hc]; done))))), ?_⟩))) (by (repeat (first | exact trivial | refine ⟨rfl, ?_⟩))) (by (repeat (exact trivial))) (by (repeat (first | exact trivial | refine ⟨.inr rfl, ?_⟩)))⟩
      · omega
      · omega
    · refine sk_back ?_; refine ⟨q + 1, ?_, ?_, le_at rfl (by (repeat (first | exact trivial | refine ⟨(by (first | rfl | (refine int_eq rfl ?_; ((simp  [scoreN, hc]; done))))), ?_⟩))) (by (repeat (first | exact trivial | refine ⟨rfl, ?_⟩))) (by (repeat (exact trivial))) (by (repeat (first | exact trivial | refine ⟨.inr rfl, ?_⟩)))⟩
      · omega
      · omega
    · have h8 : q = 8 := by omega
      subst h8
      refine sk_back ?_; refine ⟨c + 1, ?_, ?_, le_at rfl (by (repeat (first | exact trivial | refine ⟨(by (rfl)), ?_⟩))) (by (repeat (first | exact trivial | refine ⟨rfl, ?_⟩))) (by (repeat (exact trivial))) (by (repeat (first | exact trivial | refine ⟨.inr rfl, ?_⟩ | refine ⟨.inl rfl, ?_⟩)))⟩
      · omega
      · omega
  · have h8 : c = 64 := by omega
    subst h8
    (apply sk_ret; apply ret_eq; (· apply RetOK.t; (· (apply GvA.cons; (· exact .tmp _); (· exact GvP.c (.lit _))); (apply GvA.cons; (· exact .tmp _); (· exact GvP.c (.lit _))); exact GvA.nil); (· rfl); (· (decide))))
    simp [hv, trioVal_L]

end Go.Proofs.YtefbiejoikpkmaaGreat

namespace Go.Proofs.YtefbiejoikpkmaaGreat
open Go.RowKit
set_option linter.unusedSectionVars false
variable [Glb]
set_option maxRecDepth 10000
set_option maxHeartbeats 4000000
theorem agreements_p (n : Int) (ll : List (List Int)) (h : trioB n ll = true) : PC Tryz.prog 155 [.g [dI n, eII ll]] (.p (.c (eI (agrL ll)))) := by
  obtain ⟨h1, h2, h3, _⟩ := trioB_spec h
  refine pc_intro Tryz.func155 rfl rfl rfl (by kernel_rfl) rfl rfl ?_; intro _
  repeat' (first | (refine so_is (.box 88 _) ?_; refine so_box rfl rfl ?_) | (refine so_is (.assign _) ?_; (refine so_q (qt_asC rfl) rfl ?_)) | (refine so_is (.buildSlice 27 0 _) ?_; (apply so_bslice (sz := 1) (by_ := 8); (· kernel_rfl); (· decide); (· (repeat (exact GvS.nil _))); (· (decide)); (· rfl); (· rfl); (· rfl))) | (refine so_is (.fieldAddr 88 _ 1) ?_; (refine so_q (qt_fld_lp (off := 1) rfl (by kernel_rfl)) rfl ?_)) | (refine so_is (.load 24 _) ?_; (refine so_q (qt_load_box rfl rfl (by kernel_rfl) rfl) rfl ?_)) | (refine so_is (.call ⟨.builtin .len, _, #[24]⟩) ?_; (refine so_q (qt_len_d rfl (by kernel_rfl)) rfl ?_)) | (refine so_is (.move _) ?_; (refine so_q (qt_mvC rfl) rfl ?_)) | refine so_nil ?_ | refine sk_seq ?_ | refine sk_block ?_ | refine sk_region ?_)
  apply sk_packC [3, 11, 12, 13] [1, 9, 35, 36] rfl; (· (repeat (first | exact Pf.nil | apply Pf.cons (.c rfl (.d rfl)) | apply Pf.cons (.c rfl (.ls rfl))))); (· (repeat (first | exact Pb.nil | apply Pb.cons (.row rfl) | (apply Pb.cons; (· apply Nb.box rfl; (repeat (first | exact Ncs.nil rfl | (apply Ncs.cons rfl; (· (exact .d rfl))))))) | apply Pb.skip)))
  refine sk_loopL [11, 12] [1, 35, 36] (fun q => [(13, iN q), (3, .c (.ls 9 1 0 q))]) (fun q => [(9, .row 1 (cI (rowF (agrT ll) q)))]) (fun q => q ≤ 8) (fun q => 8 - q) (0) ?_ (by (repeat (first | exact trivial | refine ⟨(by (rfl)), ?_⟩))) (by (repeat (first | exact trivial | refine ⟨(by (rfl)), ?_⟩))) ?_
  · omega
  intro q hq
  by_cases hq8 : q < 8
  · have hr := (trioB_at h (q := (q : Int)) (by omega) (by omega)).1
    repeat' (first | (refine so_is (.assign _) ?_; (refine so_q (qt_asC rfl) rfl ?_)) | (refine so_is (.move _) ?_; (refine so_q (qt_mvC rfl) rfl ?_)) | (refine so_is (.binOp .lss 3 _ _ _) ?_; refine so_q (qt_lss rfl rfl) rfl ?_) | (refine so_is (.indexAddr 24 _ _) ?_; (refine so_q (qt_idxII rfl rfl (by kernel_rfl) (by (omega)) (by (omega))) rfl ?_)) | (refine so_is (.load 27 _) ?_; (refine so_q (qt_load_pt rfl (by kernel_rfl) rfl) rfl ?_)) | (refine so_is (.call ⟨.builtin .len, _, #[27]⟩) ?_; (refine so_q (qt_len_d rfl (by kernel_rfl)) rfl ?_)) | refine so_nil ?_ | refine sk_seq ?_ | refine sk_block ?_ | refine sk_exit rfl ?_ | refine sk_skip ?_ | refine sk_region ?_ | refine sk_if rfl (fun hc => ?_) (fun hc => ?_))
    all_goals first | (exfalso; omega) | skip
    apply sk_packC [3, 6, 11, 12, 13, 17, 18, 19] [1, 9, 35, 36] rfl; (· (repeat (first | exact Pf.nil | apply Pf.cons (.c rfl (.d rfl)) | apply Pf.cons (.c rfl (.ls rfl))))); (· (repeat (first | exact Pb.nil | apply Pb.cons (.row rfl) | (apply Pb.cons; (· apply Nb.box rfl; (repeat (first | exact Ncs.nil rfl | (apply Ncs.cons rfl; (· (exact .d rfl))))))) | apply Pb.skip)))
    refine sk_loopL [3, 11, 12, 13, 17, 18] [1, 9, 35, 36] (fun k => [(19, iN k), (6, iZ (accT (agrS ll q) k))]) (fun _ => []) (fun k => k ≤ 8) (fun k => 8 - k) (0) ?_ (by (repeat (first | exact trivial | refine ⟨(by (rfl)), ?_⟩))) (by (repeat (exact trivial))) ?_
    · omega
    intro k hk
    have ab := accS_bd h hq8 hk
    by_cases hk8 : k < 8
    · have sb := agrS_bd h hq8 hk8
      have a2 := trio_at2 h hq8 hk8
      have pp := parity_p k hk8
      rw [parZ_nat] at pp
      have pl := parN_le k
      unfold agrS at sb
      unfold at2 at sb a2
      have es : accT (agrS ll q) (k + 1) = accT (agrS ll q) k + atZ (atZ ll (q : Int)) (k : Int) * (1 - 2 * (parN k : Int)) := rfl
      repeat' (first | (refine so_is (.assign _) ?_; (refine so_q (qt_asC rfl) rfl ?_)) | (refine so_is (.move _) ?_; (refine so_q (qt_mvC rfl) rfl ?_)) | (refine so_is (.binOp .lss 3 _ _ _) ?_; refine so_q (qt_lss rfl rfl) rfl ?_) | (refine so_is (.indexAddr 27 _ _) ?_; (refine so_q (qt_idxI rfl rfl (by kernel_rfl) (by (omega)) (by (omega))) rfl ?_)) | (refine so_is (.load 3 _) ?_; (refine so_q (qt_load_pt rfl (by kernel_rfl) rfl) rfl ?_)) | (refine so_is (.binOp .mul 3 _ _ _) ?_; refine so_q (qt_mulI rfl rfl (by (omega))) rfl ?_) | (refine so_is (.binOp .sub 3 _ _ _) ?_; refine so_q (qt_subI rfl rfl (by (omega))) rfl ?_) | (refine so_is (.binOp .add 3 _ _ _) ?_; refine so_q (qt_addI rfl rfl (by (omega))) rfl ?_) | (refine so_is (.buildSlice 27 1 _) ?_; (apply so_bslice (sz := 1) (by_ := 8); (· kernel_rfl); (· decide); (· (repeat (first | exact GvS.nil _ | apply GvS.c rfl rfl (.lit _) rfl))); (· (decide)); (· rfl); (· rfl); (· rfl))) | (refine so_is (.call ⟨.builtin .append, _, #[27, 27]⟩) ?_; ((apply so_appR (sz := 1) (by_ := 8); (· rfl); (· rfl); (· ((simp; done))); (· exact .row _ _ _ _ rfl (by ((simp; done)))); (· (decide)); (· kernel_rfl); (· decide); (· (omega)); (· (omega)); (· rfl); (· rfl); (· rfl)))) | (refine so_is (.call ⟨.value (.func 150), _, _⟩) ?_; (apply so_call0 (fid := 150); (· (repeat (first | exact SeA.nil | apply SeA.cons (.c (.d _))))); (· exact pp); (· rfl))) | refine so_nil ?_ | refine sk_seq ?_ | refine sk_block ?_ | refine sk_blk ?_ | refine sk_exit rfl ?_ | refine sk_skip ?_ | refine sk_region ?_ | refine sk_if rfl (fun hc => ?_) (fun hc => ?_))
      all_goals first | (exfalso; omega) | skip
      refine sk_back ?_; refine ⟨k + 1, ?_, ?_, le_at rfl (by (repeat (first | exact trivial | refine ⟨(by (rfl)), ?_⟩))) (by (repeat (first | exact trivial | refine ⟨rfl, ?_⟩))) (by (repeat (exact trivial))) (by (repeat (first | exact trivial | refine ⟨.inr rfl, ?_⟩)))⟩
      · omega
      · omega
    · have e : k = 8 := by omega
      subst e
      repeat' (first | (refine so_is (.assign _) ?_; (refine so_q (qt_asC rfl) rfl ?_)) | (refine so_is (.move _) ?_; (refine so_q (qt_mvC rfl) rfl ?_)) | (refine so_is (.binOp .lss 3 _ _ _) ?_; refine so_q (qt_lss rfl rfl) rfl ?_) | (refine so_is (.indexAddr 27 _ _) ?_; (refine so_q (qt_idxI rfl rfl (by kernel_rfl) (by (omega)) (by (omega))) rfl ?_)) | (refine so_is (.load 3 _) ?_; (refine so_q (qt_load_pt rfl (by kernel_rfl) rfl) rfl ?_)) | (refine so_is (.binOp .add 3 _ _ _) ?_; refine so_q (qt_addI rfl rfl (by (omega))) rfl ?_) | (refine so_is (.buildSlice 27 1 _) ?_; (apply so_bslice (sz := 1) (by_ := 8); (· kernel_rfl); (· decide); (· (repeat (first | exact GvS.nil _ | apply GvS.c rfl rfl (.lit _) rfl))); (· (decide)); (· rfl); (· rfl); (· rfl))) | (refine so_is (.call ⟨.builtin .append, _, #[27, 27]⟩) ?_; ((apply so_appR (sz := 1) (by_ := 8); (· rfl); (· rfl); (· ((simp; done))); (· exact .row _ _ _ _ rfl (by ((simp; done)))); (· (decide)); (· kernel_rfl); (· decide); (· (omega)); (· (omega)); (· rfl); (· rfl); (· rfl)))) | refine so_nil ?_ | refine sk_seq ?_ | refine sk_block ?_ | refine sk_blk ?_ | refine sk_exit rfl ?_ | refine sk_skip ?_ | refine sk_region ?_ | refine sk_if rfl (fun hc => ?_) (fun hc => ?_))
      all_goals first | (exfalso; omega) | skip
      have ea : agrT ll q = accT (agrS ll q) 8 := rfl
      refine sk_back ?_; refine ⟨q + 1, ?_, ?_, le_at rfl (by (repeat (first | exact trivial | refine ⟨(by (rfl)), ?_⟩))) (by (repeat (first | exact trivial | refine ⟨rfl, ?_⟩))) (by (repeat (first | exact trivial | refine ⟨(by ((refine row_eq rfl ?_; simp  [rowF_snoc, ea]; done))), ?_⟩))) (by (repeat (first | exact trivial | refine ⟨.inr rfl, ?_⟩)))⟩
      · omega
      · omega
  · have e : q = 8 := by omega
    subst e
    repeat' (first | (refine so_is (.assign _) ?_; (refine so_q (qt_asC rfl) rfl ?_)) | (refine so_is (.move _) ?_; (refine so_q (qt_mvC rfl) rfl ?_)) | (refine so_is (.binOp .lss 3 _ _ _) ?_; refine so_q (qt_lss rfl rfl) rfl ?_) | (refine so_is (.indexAddr 24 _ _) ?_; (refine so_q (qt_idxII rfl rfl (by kernel_rfl) (by (omega)) (by (omega))) rfl ?_)) | (refine so_is (.load 27 _) ?_; (refine so_q (qt_load_pt rfl (by kernel_rfl) rfl) rfl ?_)) | (refine so_is (.call ⟨.builtin .len, _, #[27]⟩) ?_; (refine so_q (qt_len_d rfl (by kernel_rfl)) rfl ?_)) | refine so_nil ?_ | refine sk_seq ?_ | refine sk_block ?_ | refine sk_exit rfl ?_ | refine sk_skip ?_ | refine sk_region ?_ | refine sk_if rfl (fun hc => ?_) (fun hc => ?_))
    all_goals first | (exfalso; omega) | skip
    (apply sk_ret; apply ret_eq; (· apply RetOK.p; (· (apply GvA.cons; (· exact .tmp _); (· (exact GvP.c (.row _ _ _ _ rfl (by ((simp; done))))))); exact GvA.nil); (· (decide))))
    simp [agrL]
theorem GroupSum_p (n : Int) (ll : List (List Int)) : PC Tryz.prog 67 [.g [dI n, eII ll]] (.t [.c (dI (whenN (trioB n ll) (grpT ll))), .c (dB (trioB n ll))]) := by
  cases h : trioB n ll with
  | false =>
    refine pc_intro Tryz.func67 rfl rfl rfl (by kernel_rfl) rfl rfl ?_; intro _
    repeat' (first | (refine so_is (.box 88 _) ?_; refine so_box rfl rfl ?_) | (refine so_is (.assign _) ?_; (refine so_q (qt_asC rfl) rfl ?_)) | (refine so_is (.load 88 _) ?_; (refine so_q (qt_load_boxs rfl rfl (by kernel_rfl : tAgg _ 88 2 = true) rfl) rfl ?_)) | (refine so_is (.unOp .not 4 _) ?_; refine so_q (qt_not rfl) rfl ?_) | (refine so_is (.call ⟨.value (.func 134), _, _⟩) ?_; (apply so_call0 (fid := 134); (· (repeat (first | exact SeA.nil | (apply SeA.cons; (· (apply SeP.g; (repeat (first | exact SeL.nil | apply SeL.cons (.d _))))))))); (· exact IsTrio_p _ _); (· rfl))) | refine so_nil ?_ | refine sk_seq ?_ | refine sk_skip ?_ | refine sk_region ?_ | refine sk_not rfl (fun hc => ?_) (fun hc => ?_))
    all_goals first | (exfalso; simp_all; done) | skip
    all_goals (apply sk_ret; apply ret_eq; (· apply RetOK.t; (· (apply GvA.cons; (· exact .tmp _); (· exact GvP.c (.lit _))); (apply GvA.cons; (· exact .tmp _); (· exact GvP.c (.lit _))); exact GvA.nil); (· rfl); (· (decide))))
    all_goals simp [whenN]
  | true =>
    have hn := (trioB_spec h).2.1
    have hl := agrL_len ll
    refine pc_intro Tryz.func67 rfl rfl rfl (by kernel_rfl) rfl rfl ?_; intro _
    repeat' (first | (refine so_is (.box 88 _) ?_; refine so_box rfl rfl ?_) | (refine so_is (.assign _) ?_; (refine so_q (qt_asC rfl) rfl ?_)) | (refine so_is (.load 88 _) ?_; (refine so_q (qt_load_boxs rfl rfl (by kernel_rfl : tAgg _ 88 2 = true) rfl) rfl ?_)) | (refine so_is (.unOp .not 4 _) ?_; refine so_q (qt_not rfl) rfl ?_) | (refine so_is (.call ⟨.builtin .len, _, #[27]⟩) ?_; (refine so_q (qt_len_d rfl (by kernel_rfl)) rfl ?_)) | (refine so_is (.move _) ?_; (refine so_q (qt_mvC rfl) rfl ?_)) | (refine so_is (.call ⟨.value (.func 134), _, _⟩) ?_; (apply so_call0 (fid := 134); (· (repeat (first | exact SeA.nil | (apply SeA.cons; (· (apply SeP.g; (repeat (first | exact SeL.nil | apply SeL.cons (.d _))))))))); (· exact IsTrio_p _ _); (· rfl))) | (refine so_is (.call ⟨.value (.func 155), _, _⟩) ?_; (apply so_call0 (fid := 155); (· (repeat (first | exact SeA.nil | (apply SeA.cons; (· (apply SeP.g; (repeat (first | exact SeL.nil | apply SeL.cons (.d _))))))))); (· exact agreements_p _ _ h); (· rfl))) | refine so_nil ?_ | refine sk_seq ?_ | refine sk_block ?_ | refine sk_skip ?_ | refine sk_region ?_ | refine sk_not rfl (fun hc => ?_) (fun hc => ?_))
    all_goals first | (exfalso; simp_all; done) | skip
    apply sk_packC [4, 11, 12, 13] [1, 11] rfl; (· (repeat (first | exact Pf.nil | apply Pf.cons (.c rfl (.d rfl))))); (· (repeat (first | exact Pb.nil | (apply Pb.cons; (· apply Nb.box rfl; (repeat (first | exact Ncs.nil rfl | (apply Ncs.cons rfl; (· (exact .d rfl))))))) | apply Pb.skip)))
    refine sk_loopL [11, 12] [1, 11] (fun q => [(13, iN q), (4, iZ (grpN ll q))]) (fun _ => []) (fun q => q ≤ 8) (fun q => 8 - q) (0) ?_ (by (repeat (first | exact trivial | refine ⟨(by (rfl)), ?_⟩))) (by (repeat (exact trivial))) ?_
    · omega
    intro q hq
    have gb := grpN_bd h hq
    by_cases hq8 : q < 8
    · have ab := agrT_bd h hq8
      have ea := agrL_at ll hq8
      rw [← ea] at ab
      have oc := OnesCount_p q hq8
      by_cases hg : q = 0 ∨ q = 1 ∨ q = 2 ∨ q = 4
      · have es : grpN ll (q + 1) = grpN ll q + atZ (agrL ll) (q : Int) := by rw [ea]; show (if _ then _ else _) = _; rw [if_pos hg]
        repeat' (first | (refine so_is (.assign _) ?_; (refine so_q (qt_asC rfl) rfl ?_)) | (refine so_is (.move _) ?_; (refine so_q (qt_mvC rfl) rfl ?_)) | (refine so_is (.binOp .lss 3 _ _ _) ?_; refine so_q (qt_lss rfl rfl) rfl ?_) | (refine so_is (.indexAddr 27 _ _) ?_; (refine so_q (qt_idxI rfl rfl (by kernel_rfl) (by (omega)) (by (omega))) rfl ?_)) | (refine so_is (.load 3 _) ?_; (refine so_q (qt_load_pt rfl (by kernel_rfl) rfl) rfl ?_)) | (refine so_is (.convert 3 147 _) ?_; (refine so_q (qt_convI (k' := .u64) rfl (by kernel_rfl) (by kernel_rfl) (by (exact wrapU64 (by (omega))))) rfl ?_)) | (refine so_is (.binOp .leq 3 _ _ _) ?_; refine so_q (qt_leq rfl rfl) rfl ?_) | (refine so_is (.binOp .add 3 _ _ _) ?_; refine so_q (qt_addI rfl rfl (by (omega))) rfl ?_) | (refine so_is (.binOp .sub 3 _ _ _) ?_; refine so_q (qt_subI rfl rfl (by (omega))) rfl ?_) | (refine so_is (.call ⟨.value (.func 156), _, _⟩) ?_; (apply so_call0 (fid := 156); (· (repeat (first | exact SeA.nil | apply SeA.cons (.c (.d _))))); (· exact oc); (· rfl))) | refine so_nil ?_ | refine sk_seq ?_ | refine sk_block ?_ | refine sk_blk ?_ | refine sk_exit rfl ?_ | refine sk_skip ?_ | refine sk_region ?_ | refine sk_if rfl (fun hc => ?_) (fun hc => ?_))
        all_goals first | (exfalso; omega) | skip
        refine sk_back ?_; refine ⟨q + 1, ?_, ?_, le_at rfl (by (repeat (first | exact trivial | refine ⟨(by (first | rfl | (refine int_eq rfl ?_; (omega)))), ?_⟩))) (by (repeat (first | exact trivial | refine ⟨rfl, ?_⟩))) (by (repeat (exact trivial))) (by (repeat (first | exact trivial | refine ⟨.inr rfl, ?_⟩)))⟩
        · omega
        · omega
      · have es : grpN ll (q + 1) = grpN ll q - atZ (agrL ll) (q : Int) := by rw [ea]; show (if _ then _ else _) = _; rw [if_neg hg]
        repeat' (first | (refine so_is (.assign _) ?_; (refine so_q (qt_asC rfl) rfl ?_)) | (refine so_is (.move _) ?_; (refine so_q (qt_mvC rfl) rfl ?_)) | (refine so_is (.binOp .lss 3 _ _ _) ?_; refine so_q (qt_lss rfl rfl) rfl ?_) | (refine so_is (.indexAddr 27 _ _) ?_; (refine so_q (qt_idxI rfl rfl (by kernel_rfl) (by (omega)) (by (omega))) rfl ?_)) | (refine so_is (.load 3 _) ?_; (refine so_q (qt_load_pt rfl (by kernel_rfl) rfl) rfl ?_)) | (refine so_is (.convert 3 147 _) ?_; (refine so_q (qt_convI (k' := .u64) rfl (by kernel_rfl) (by kernel_rfl) (by (exact wrapU64 (by (omega))))) rfl ?_)) | (refine so_is (.binOp .leq 3 _ _ _) ?_; refine so_q (qt_leq rfl rfl) rfl ?_) | (refine so_is (.binOp .add 3 _ _ _) ?_; refine so_q (qt_addI rfl rfl (by (omega))) rfl ?_) | (refine so_is (.binOp .sub 3 _ _ _) ?_; refine so_q (qt_subI rfl rfl (by (omega))) rfl ?_) | (refine so_is (.call ⟨.value (.func 156), _, _⟩) ?_; (apply so_call0 (fid := 156); (· (repeat (first | exact SeA.nil | apply SeA.cons (.c (.d _))))); (· exact oc); (· rfl))) | refine so_nil ?_ | refine sk_seq ?_ | refine sk_block ?_ | refine sk_blk ?_ | refine sk_exit rfl ?_ | refine sk_skip ?_ | refine sk_region ?_ | refine sk_if rfl (fun hc => ?_) (fun hc => ?_))
        all_goals first | (exfalso; omega) | skip
        refine sk_back ?_; refine ⟨q + 1, ?_, ?_, le_at rfl (by (repeat (first | exact trivial | refine ⟨(by (first | rfl | (refine int_eq rfl ?_; (omega)))), ?_⟩))) (by (repeat (first | exact trivial | refine ⟨rfl, ?_⟩))) (by (repeat (exact trivial))) (by (repeat (first | exact trivial | refine ⟨.inr rfl, ?_⟩)))⟩
        · omega
        · omega
    · have e : q = 8 := by omega
      subst e
      repeat' (first | (refine so_is (.assign _) ?_; (refine so_q (qt_asC rfl) rfl ?_)) | (refine so_is (.move _) ?_; (refine so_q (qt_mvC rfl) rfl ?_)) | (refine so_is (.binOp .lss 3 _ _ _) ?_; refine so_q (qt_lss rfl rfl) rfl ?_) | refine so_nil ?_ | refine sk_seq ?_ | refine sk_exit rfl ?_ | refine sk_region ?_ | refine sk_false rfl ?_)
      all_goals first | (exfalso; omega) | skip
      (apply sk_ret; apply ret_eq; (· apply RetOK.t; (· (apply GvA.cons; (· exact .tmp _); (· exact GvP.c (.lit _))); (apply GvA.cons; (· exact .tmp _); (· exact GvP.c (.lit _))); exact GvA.nil); (· rfl); (· (decide))))
      simp [whenN, grpT]

end Go.Proofs.YtefbiejoikpkmaaGreat

namespace Go.Proofs.YtefbiejoikpkmaaGreat
open Go.RowKit
set_option linter.unusedSectionVars false
variable [Glb]
set_option maxRecDepth 10000
set_option maxHeartbeats 4000000
end Go.Proofs.YtefbiejoikpkmaaGreat

namespace Go.Proofs.YtefbiejoikpkmaaGreat
open Go.RowKit
set_option linter.unusedSectionVars false
variable [Glb]
set_option maxRecDepth 10000
set_option maxHeartbeats 4000000
end Go.Proofs.YtefbiejoikpkmaaGreat

namespace Go.Proofs.YtefbiejoikpkmaaGreat
open Go.RowKit
set_option linter.unusedSectionVars false
variable [Glb]
set_option maxRecDepth 10000
set_option maxHeartbeats 4000000
end Go.Proofs.YtefbiejoikpkmaaGreat

namespace Go.Proofs.YtefbiejoikpkmaaGreat
open Go.RowKit
set_option linter.unusedSectionVars false
variable [Glb]
set_option maxRecDepth 10000
set_option maxHeartbeats 4000000
end Go.Proofs.YtefbiejoikpkmaaGreat

namespace Go.Proofs.YtefbiejoikpkmaaGreat
open Go.RowKit
set_option linter.unusedSectionVars false
variable [Glb]
set_option maxRecDepth 10000
set_option maxHeartbeats 4000000
end Go.Proofs.YtefbiejoikpkmaaGreat

namespace Go.Proofs.YtefbiejoikpkmaaGreat
open Go.RowKit
set_option linter.unusedSectionVars false
variable [Glb]
set_option maxRecDepth 10000
set_option maxHeartbeats 4000000
def ixI (x : Int) : List Int → Int
  | [] => -1
  | z :: r => if z = x then 0 else if ixI x r = -1 then -1 else ixI x r + 1
end Go.Proofs.YtefbiejoikpkmaaGreat

namespace Go.Proofs.YtefbiejoikpkmaaGreat
open Go.RowKit
set_option linter.unusedSectionVars false
variable [Glb]
set_option maxRecDepth 10000
set_option maxHeartbeats 4000000
theorem sameQuestions_p (x y n : Int) (la : List (List Int)) (x2 y2 m : Int) (lb : List (List Int)) : PC Tryz.prog 100 [.g [dI x, dI y, dI n, eII la], .g [dI x2, dI y2, dI m, eII lb]] (.p (.c (dB (sameB x y n la x2 y2 m lb)))) := by
  refine pc_intro Tryz.func100 rfl rfl rfl (by kernel_rfl) rfl rfl ?_; intro _
  repeat' (first | (refine so_is (.box 26 _) ?_; refine so_box rfl rfl ?_) | (refine so_is (.assign _) ?_; (refine so_q (qt_asC rfl) rfl ?_)) | (refine so_is (.load 26 _) ?_; (refine so_q (qt_load_boxs rfl rfl (by kernel_rfl : tAgg _ 26 4 = true) rfl) rfl ?_)) | (refine so_is (.move _) ?_; (refine so_q (qt_mvC rfl) rfl ?_)) | (refine so_is (.pick _ _ _) ?_; (refine so_q (qt_pkC rfl rfl) rfl ?_)) | (refine so_is (.fieldAddr 26 _ 0) ?_; (refine so_q (qt_fld_lp (off := 0) rfl (by kernel_rfl)) rfl ?_)) | (refine so_is (.load 3 _) ?_; (refine so_q (qt_load_box rfl rfl (by kernel_rfl) rfl) rfl ?_)) | (refine so_is (.binOp .eql 3 _ _ _) ?_; refine so_q (qt_eql rfl rfl) rfl ?_) | (refine so_is (.fieldAddr 26 _ 1) ?_; (refine so_q (qt_fld_lp (off := 1) rfl (by kernel_rfl)) rfl ?_)) | (refine so_is (.call ⟨.value (.func 94), _, _⟩) ?_; (apply so_call0 (fid := 94); (· (repeat (first | exact SeA.nil | (apply SeA.cons; (· (apply SeP.g; (repeat (first | exact SeL.nil | apply SeL.cons (.d _))))))))); (· exact IsBox_p _ _ _ _); (· rfl))) | refine so_nil ?_ | refine so_g_no rfl rfl rfl rfl ?_ | refine so_g_yes rfl rfl rfl rfl ?_ | refine so_g_if rfl rfl (fun hg => ?_) (fun hg => ?_) | refine so_g_b rfl rfl (fun hg => ?_) (fun hg => ?_) | refine sk_seq ?_ | refine sk_region ?_)
  all_goals (apply sk_ret; apply ret_eq; (· apply RetOK.p; (· (apply GvA.cons; (· exact .tmp _); (· exact GvP.c (.lit _))); exact GvA.nil); (· (decide))))
  all_goals simp_all [sameB]
end Go.Proofs.YtefbiejoikpkmaaGreat

namespace Go.Proofs.YtefbiejoikpkmaaGreat
open Go.RowKit
set_option linter.unusedSectionVars false
variable [Glb]
set_option maxRecDepth 10000
set_option maxHeartbeats 4000000
theorem ones_p (n : Int) (ll : List (List Int)) (h : boxB 2 2 n ll = true) (w q j : Int) (hw : 0 ≤ w ∧ w ≤ 1) (hq : 0 ≤ q ∧ q ≤ 1) (hj : 0 ≤ j ∧ j ≤ 1) :
    PC Tryz.prog 96 [.g [dI 2, dI 2, dI n, eII ll], .c (dI w), .c (dI q), .c (dI j)] (.p (.c (dI (onB ll w q j)))) := by
  have n2 := (boxB_spec h).n2
  have b := atB_bd h hq.1 hq.2 hj.1 hj.2
  have c := atB_bd h hj.1 hj.2 hq.1 hq.2
  have b2 := b.1 2 (by omega); have b3 := b.1 3 (by omega)
  have c1 := c.1 1 (by omega); have c3 := c.1 3 (by omega)
  have p2 := at_p 2 2 n ll h q j 1 0 (by omega) (by omega) (by omega) (by omega) (by omega) (by omega) (by omega) (by omega)
  have p3 := at_p 2 2 n ll h q j 1 1 (by omega) (by omega) (by omega) (by omega) (by omega) (by omega) (by omega) (by omega)
  have r1 := at_p 2 2 n ll h j q 0 1 (by omega) (by omega) (by omega) (by omega) (by omega) (by omega) (by omega) (by omega)
  have r3 := at_p 2 2 n ll h j q 1 1 (by omega) (by omega) (by omega) (by omega) (by omega) (by omega) (by omega) (by omega)
  simp only [Int.reduceMul, Int.reduceAdd, Int.natCast_zero, Int.natCast_one, Int.cast_ofNat_Int] at b2 b3 c1 c3 p2 p3 r1 r3
  unfold onB
  clear b c
  refine pc_intro Tryz.func96 rfl rfl rfl (by kernel_rfl) rfl rfl ?_; intro _
  repeat' (first | (refine so_is (.box 26 _) ?_; refine so_box rfl rfl ?_) | (refine so_is (.assign _) ?_; (refine so_q (qt_asC rfl) rfl ?_)) | (refine so_is (.move _) ?_; (refine so_q (qt_mvC rfl) rfl ?_)) | (refine so_is (.binOp .eql 3 _ _ _) ?_; refine so_q (qt_eql rfl rfl) rfl ?_) | (refine so_is (.load 26 _) ?_; (refine so_q (qt_load_boxs rfl rfl (by kernel_rfl : tAgg _ 26 4 = true) rfl) rfl ?_)) | (refine so_is (.binOp .add 3 _ _ _) ?_; refine so_q (qt_addI rfl rfl (by (omega))) rfl ?_) | (refine so_is (.call ⟨.value (.func 118), _, _⟩) ?_; (first | (apply so_call0 (fid := 118); (· (repeat (first | exact SeA.nil | apply SeA.cons (.c (.d _)) | (apply SeA.cons; (· (apply SeP.g; (repeat (first | exact SeL.nil | apply SeL.cons (.d _))))))))); (· exact p2); (· rfl)) | (apply so_call0 (fid := 118); (· (repeat (first | exact SeA.nil | apply SeA.cons (.c (.d _)) | (apply SeA.cons; (· (apply SeP.g; (repeat (first | exact SeL.nil | apply SeL.cons (.d _))))))))); (· exact p3); (· rfl)) | (apply so_call0 (fid := 118); (· (repeat (first | exact SeA.nil | apply SeA.cons (.c (.d _)) | (apply SeA.cons; (· (apply SeP.g; (repeat (first | exact SeL.nil | apply SeL.cons (.d _))))))))); (· exact r1); (· rfl)) | (apply so_call0 (fid := 118); (· (repeat (first | exact SeA.nil | apply SeA.cons (.c (.d _)) | (apply SeA.cons; (· (apply SeP.g; (repeat (first | exact SeL.nil | apply SeL.cons (.d _))))))))); (· exact r3); (· rfl)))) | refine so_nil ?_ | refine sk_seq ?_ | refine sk_skip ?_ | refine sk_region ?_ | refine sk_drawQ 2 (fun _ => false) (.step 0 true (.step 1 true (.step 2 true (.step 4 true (.step 5 true (.step 6 true (.step 3 false (.step 7 false (.step 8 true (.step 9 true .nil)))))))))) [(0, 1023, 1023, false), (0, 1023, 1023, true), (0, 1023, 1023, true), (7, 1016, 1023, false), (0, 1023, 1023, false), (0, 1023, 1023, true), (0, 1023, 1023, true), (120, 911, 1023, false), (136, 887, 1023, true), (511, 767, 1023, true)] (by kernel_rfl) (by kernel_rfl) ?_ | refine sk_drawQ 3 (fun _ => false) (.step 0 true (.step 1 true (.step 2 true (.step 4 true (.step 5 true (.step 6 true (.step 3 false (.step 7 false (.step 8 true (.step 9 true .nil)))))))))) [(0, 1023, 1023, false), (0, 1023, 1023, true), (0, 1023, 1023, true), (7, 1016, 1023, false), (0, 1023, 1023, false), (0, 1023, 1023, true), (0, 1023, 1023, true), (120, 911, 1023, false), (136, 887, 1023, true), (511, 767, 1023, true)] (by kernel_rfl) (by kernel_rfl) ?_ | refine sk_if rfl (fun hc => ?_) (fun hc => ?_))
  all_goals (apply sk_ret; apply ret_eq; (· apply RetOK.p; (· (apply GvA.cons; (· exact .tmp _); (· exact GvP.c (.lit _))); exact GvA.nil); (· (decide))))
  all_goals simp_all
theorem questions_p (n : Int) (ll : List (List Int)) (x y : Int) : PC Tryz.prog 95 [.g [dI x, dI y, dI n, eII ll]] (.p (.g [dI x, dI y])) := by
  refine pc_intro Tryz.func95 rfl rfl rfl (by kernel_rfl) rfl rfl ?_; intro _
  repeat' (first | (refine so_is (.box 26 _) ?_; refine so_box rfl rfl ?_) | (refine so_is (.alloc 126) ?_; refine so_alloc (zs := [.int .i64 0, .int .i64 0]) (by kernel_rfl) rfl ?_) | (refine so_is (.fieldAddr 26 _ 0) ?_; (refine so_q (qt_fld_lp (off := 0) rfl (by kernel_rfl)) rfl ?_)) | (refine so_is (.load 3 _) ?_; (refine so_q (qt_load_box rfl rfl (by kernel_rfl) rfl) rfl ?_)) | (refine so_is (.fieldAddr 26 _ 1) ?_; (refine so_q (qt_fld_lp (off := 1) rfl (by kernel_rfl)) rfl ?_)) | (refine so_is (.build 126 _) ?_; refine so_q (qt_build (cs := [_, _]) [(0, 1), (1, 1)] [.int .i64 0, .int .i64 0] (by kernel_rfl) (by kernel_rfl) rfl) rfl ?_) | (refine so_is (.store 126 _ _) ?_; (refine so_store_box rfl rfl rfl (by kernel_rfl) rfl rfl ?_)) | refine so_nil ?_ | refine sk_seq ?_ | refine sk_region ?_)
  (apply sk_ret; apply ret_eq; (· apply RetOK.p; (· (apply GvA.cons; (· (apply RV.cellN (n := 2); (· rfl); (· rfl); (· kernel_rfl); (· rfl))); (· (apply GvP.g; (· (apply GvL.cons (.lit _)); (apply GvL.cons (.lit _)); exact GvL.nil)))); exact GvA.nil); (· (decide))))
  rfl
theorem two_get {c : C} {k : Nat} (h : k < 2) : [c, c][k]? = some c := by rcases (by omega : k = 0 ∨ k = 1) with rfl | rfl <;> rfl
theorem loud_p (n : Int) (ll : List (List Int)) (h : boxB 2 2 n ll = true) : PC Tryz.prog 168 [.g [dI 2, dI 2, dI n, eII ll]] (.t [.c (dI (loudR ll).1), .c (dI (loudR ll).2), .c (dB (!quiet2 ll))]) := by
  refine pc_intro Tryz.func168 rfl rfl rfl (by kernel_rfl) rfl rfl ?_; intro _
  repeat' (first | (refine so_is (.box 26 _) ?_; refine so_box rfl rfl ?_) | (refine so_is (.assign _) ?_; (refine so_q (qt_asC rfl) rfl ?_)) | (refine so_is (.load 26 _) ?_; (refine so_q (qt_load_boxs rfl rfl (by kernel_rfl : tAgg _ 26 4 = true) rfl) rfl ?_)) | (refine so_is (.alloc 126) ?_; refine so_alloc (zs := [.int .i64 0, .int .i64 0]) (by kernel_rfl) rfl ?_) | (refine so_is (.store 126 _ _) ?_; (refine so_store_box rfl rfl rfl (by kernel_rfl) rfl rfl ?_)) | (refine so_is (.move _) ?_; (refine so_q (qt_mvC rfl) rfl ?_)) | (refine so_is (.call ⟨.value (.func 95), _, _⟩) ?_; (apply so_call0 (fid := 95); (· (repeat (first | exact SeA.nil | (apply SeA.cons; (· (apply SeP.g; (repeat (first | exact SeL.nil | apply SeL.cons (.d _))))))))); (· exact questions_p _ _ _ _); (· rfl))) | refine so_nil ?_ | refine sk_seq ?_ | refine sk_block ?_ | refine sk_region ?_)
  apply sk_packC [1, 5, 11] [1, 5] rfl; (· (repeat (first | exact Pf.nil | apply Pf.cons (.c rfl (.d rfl)) | apply Pf.cons (.c rfl (.lp rfl))))); (· (repeat (first | exact Pb.nil | (apply Pb.cons; (· apply Nb.box rfl; (repeat (first | exact Ncs.nil rfl | (apply Ncs.cons rfl; (· (exact .d rfl))))))))))
  refine sk_loopL [1, 5] [1, 5] (fun w => [(11, iN w)]) (fun _ => []) (fun w => w ≤ 2 ∧ ∀ u : Nat, u < w → stillB ll (u : Int) 0 = true ∧ stillB ll (u : Int) 1 = true) (fun w => 2 - w) (0) ?_ (by (repeat (first | exact trivial | refine ⟨(by (rfl)), ?_⟩))) (by (repeat (exact trivial))) ?_
  · exact ⟨by omega, fun u hu => by omega⟩
  rintro w ⟨hw, hW⟩
  by_cases hw2 : w < 2
  · have lR := fun q : Nat => loudR_at (ll := ll) (w := w) (q := q) hw2
    have on0 := fun q j : Nat => fun (hq : q < 2) (hj : j < 2) => ones_p n ll h (w : Int) (q : Int) (j : Int) (by omega) (by omega) (by omega)
    repeat' (first | (refine so_is (.assign _) ?_; (refine so_q (qt_asC rfl) rfl ?_)) | (refine so_is (.move _) ?_; (refine so_q (qt_mvC rfl) rfl ?_)) | (refine so_is (.binOp .lss 3 _ _ _) ?_; refine so_q (qt_lss rfl rfl) rfl ?_) | (refine so_is (.indexAddr 126 _ _) ?_; (refine so_q (qt_idxa_lp rfl rfl (by kernel_rfl : tArr _ 126 2 1 = true) (by (omega)) (by (omega))) rfl ?_)) | (refine so_is (.load 3 _) ?_; ((refine so_q (qt_load_box rfl rfl (by kernel_rfl) (two_get (by omega))) rfl ?_))) | refine so_nil ?_ | refine sk_seq ?_ | refine sk_block ?_ | refine sk_exit rfl ?_ | refine sk_skip ?_ | refine sk_region ?_ | refine sk_if rfl (fun hc => ?_) (fun hc => ?_))
    all_goals first | (exfalso; omega) | skip
    apply sk_packC [1, 5, 6, 11, 16, 17] [1, 5] rfl; (· (repeat (first | exact Pf.nil | apply Pf.cons (.c rfl (.d rfl)) | apply Pf.cons (.c rfl (.lp rfl))))); (· (repeat (first | exact Pb.nil | (apply Pb.cons; (· apply Nb.box rfl; (repeat (first | exact Ncs.nil rfl | (apply Ncs.cons rfl; (· (exact .d rfl))))))))))
    refine sk_loopL [1, 5, 6, 11, 16] [1, 5] (fun q => [(17, iN q)]) (fun _ => []) (fun q => q ≤ 2 ∧ ∀ r : Nat, r < q → stillB ll (w : Int) (r : Int) = true) (fun q => 2 - q) (0) ?_ (by (repeat (first | exact trivial | refine ⟨(by (rfl)), ?_⟩))) (by (repeat (exact trivial))) ?_
    · exact ⟨by omega, fun u hu => by omega⟩
    rintro q ⟨hq, hQ⟩
    by_cases hq2 : q < 2
    · have lR2 := lR q hq2 hW hQ
      have o0 := on0 q 0 hq2 (by omega)
      repeat' (first | (refine so_is (.assign _) ?_; (refine so_q (qt_asC rfl) rfl ?_)) | (refine so_is (.move _) ?_; (refine so_q (qt_mvC rfl) rfl ?_)) | (refine so_is (.binOp .lss 3 _ _ _) ?_; refine so_q (qt_lss rfl rfl) rfl ?_) | (refine so_is (.indexAddr 126 _ _) ?_; (refine so_q (qt_idxa_lp rfl rfl (by kernel_rfl : tArr _ 126 2 1 = true) (by (omega)) (by (omega))) rfl ?_)) | (refine so_is (.load 3 _) ?_; ((refine so_q (qt_load_box rfl rfl (by kernel_rfl) (two_get (by omega))) rfl ?_))) | (refine so_is (.binOp .sub 3 _ _ _) ?_; refine so_q (qt_subI rfl rfl (by (omega))) rfl ?_) | (refine so_is (.binOp .add 3 _ _ _) ?_; refine so_q (qt_addI rfl rfl (by (omega))) rfl ?_) | refine so_nil ?_ | refine sk_seq ?_ | refine sk_block ?_ | refine sk_blk ?_ | refine sk_exit rfl ?_ | refine sk_skip ?_ | refine sk_region ?_ | refine sk_if rfl (fun hc => ?_) (fun hc => ?_))
      all_goals first | (exfalso; omega) | skip
      apply sk_packC [1, 5, 6, 7, 11, 16, 17, 23, 24] [1, 5] rfl; (· (repeat (first | exact Pf.nil | apply Pf.cons (.c rfl (.d rfl)) | apply Pf.cons (.c rfl (.lp rfl))))); (· (repeat (first | exact Pb.nil | (apply Pb.cons; (· apply Nb.box rfl; (repeat (first | exact Ncs.nil rfl | (apply Ncs.cons rfl; (· (exact .d rfl))))))))))
      refine sk_loopL [1, 5, 6, 7, 11, 16, 17, 23] [1, 5] (fun j => [(24, iN j)]) (fun _ => []) (fun j => j ≤ 2 ∧ (j = 2 → stillB ll (w : Int) (q : Int) = true)) (fun j => 2 - j) (0) ?_ (by (repeat (first | exact trivial | refine ⟨(by (rfl)), ?_⟩))) (by (repeat (exact trivial))) ?_
      · exact ⟨by omega, fun u => by omega⟩
      rintro j ⟨hj, hJ⟩
      by_cases hj2 : j < 2
      · have oj := on0 q j hq2 hj2
        have lR3 : onB ll w q j ≠ onB ll w q 0 → stillB ll (w : Int) (q : Int) = false := fun hne => by
          rcases (by omega : j = 0 ∨ j = 1) with rfl | rfl
          · exact absurd rfl hne
          · exact decide_eq_false hne
        by_cases he : onB ll w q j = onB ll w q 0
        · repeat' (first | (refine so_is (.assign _) ?_; (refine so_q (qt_asC rfl) rfl ?_)) | (refine so_is (.load 26 _) ?_; (refine so_q (qt_load_boxs rfl rfl (by kernel_rfl : tAgg _ 26 4 = true) rfl) rfl ?_)) | (refine so_is (.move _) ?_; (refine so_q (qt_mvC rfl) rfl ?_)) | (refine so_is (.binOp .lss 3 _ _ _) ?_; refine so_q (qt_lss rfl rfl) rfl ?_) | (refine so_is (.binOp .neq 3 _ _ _) ?_; refine so_q (qt_neq rfl rfl) rfl ?_) | (refine so_is (.binOp .add 3 _ _ _) ?_; refine so_q (qt_addI rfl rfl (by (omega))) rfl ?_) | (refine so_is (.call ⟨.value (.func 96), _, _⟩) ?_; (first | (apply so_call0 (fid := 96); (· (repeat (first | exact SeA.nil | apply SeA.cons (.c (.d _)) | (apply SeA.cons; (· (apply SeP.g; (repeat (first | exact SeL.nil | apply SeL.cons (.d _))))))))); (· exact oj); (· rfl)) | (apply so_call0 (fid := 96); (· (repeat (first | exact SeA.nil | apply SeA.cons (.c (.d _)) | (apply SeA.cons; (· (apply SeP.g; (repeat (first | exact SeL.nil | apply SeL.cons (.d _))))))))); (· exact o0); (· rfl)))) | refine so_nil ?_ | refine sk_seq ?_ | refine sk_block ?_ | refine sk_blk ?_ | refine sk_exit rfl ?_ | refine sk_skip ?_ | refine sk_region ?_ | refine sk_drawQ 11 (fun _ => false) (.step 0 true (.step 1 true (.step 2 true (.step 3 true (.step 5 true (.step 6 true (.step 7 true (.step 4 false (.step 8 false (.step 9 true .nil)))))))))) [(0, 1023, 1023, false), (0, 1023, 1023, true), (0, 1023, 1023, true), (0, 1023, 1023, true), (15, 1008, 1023, false), (0, 1023, 1023, false), (0, 1023, 1023, true), (0, 1023, 1023, true), (240, 799, 1023, false), (272, 751, 1023, true)] (by kernel_rfl) (by kernel_rfl) ?_ | refine sk_if rfl (fun hc => ?_) (fun hc => ?_))
          all_goals first | (exfalso; omega) | (exfalso; simp_all; done) | skip
          refine sk_back ?_; refine ⟨j + 1, ?_, ?_, le_at rfl (by (repeat (first | exact trivial | refine ⟨(by (rfl)), ?_⟩))) (by (repeat (first | exact trivial | refine ⟨rfl, ?_⟩))) (by (repeat (exact trivial))) (by (repeat (first | exact trivial | refine ⟨.inr rfl, ?_⟩)))⟩
          · refine ⟨by omega, fun h2 => ?_⟩
            obtain rfl : j = 1 := by omega
            exact decide_eq_true he
          · omega
        · obtain ⟨e1, e2⟩ := lR2 (lR3 he)
          repeat' (first | (refine so_is (.assign _) ?_; (refine so_q (qt_asC rfl) rfl ?_)) | (refine so_is (.load 26 _) ?_; (refine so_q (qt_load_boxs rfl rfl (by kernel_rfl : tAgg _ 26 4 = true) rfl) rfl ?_)) | (refine so_is (.move _) ?_; (refine so_q (qt_mvC rfl) rfl ?_)) | (refine so_is (.binOp .lss 3 _ _ _) ?_; refine so_q (qt_lss rfl rfl) rfl ?_) | (refine so_is (.binOp .neq 3 _ _ _) ?_; refine so_q (qt_neq rfl rfl) rfl ?_) | (refine so_is (.binOp .add 3 _ _ _) ?_; refine so_q (qt_addI rfl rfl (by (omega))) rfl ?_) | (refine so_is (.call ⟨.value (.func 96), _, _⟩) ?_; (first | (apply so_call0 (fid := 96); (· (repeat (first | exact SeA.nil | apply SeA.cons (.c (.d _)) | (apply SeA.cons; (· (apply SeP.g; (repeat (first | exact SeL.nil | apply SeL.cons (.d _))))))))); (· exact oj); (· rfl)) | (apply so_call0 (fid := 96); (· (repeat (first | exact SeA.nil | apply SeA.cons (.c (.d _)) | (apply SeA.cons; (· (apply SeP.g; (repeat (first | exact SeL.nil | apply SeL.cons (.d _))))))))); (· exact o0); (· rfl)))) | refine so_nil ?_ | refine sk_seq ?_ | refine sk_block ?_ | refine sk_blk ?_ | refine sk_exit rfl ?_ | refine sk_skip ?_ | refine sk_region ?_ | refine sk_drawQ 11 (fun _ => false) (.step 0 true (.step 1 true (.step 2 true (.step 3 true (.step 5 true (.step 6 true (.step 7 true (.step 4 false (.step 8 false (.step 9 true .nil)))))))))) [(0, 1023, 1023, false), (0, 1023, 1023, true), (0, 1023, 1023, true), (0, 1023, 1023, true), (15, 1008, 1023, false), (0, 1023, 1023, false), (0, 1023, 1023, true), (0, 1023, 1023, true), (240, 799, 1023, false), (272, 751, 1023, true)] (by kernel_rfl) (by kernel_rfl) ?_ | refine sk_if rfl (fun hc => ?_) (fun hc => ?_))
          all_goals first | (exfalso; omega) | (exfalso; simp_all; done) | skip
          (apply sk_ret; apply ret_eq; (· apply RetOK.t; (· (apply GvA.cons; (· exact .tmp _); (· exact GvP.c (.lit _))); (apply GvA.cons; (· exact .tmp _); (· exact GvP.c (.lit _))); (apply GvA.cons; (· exact .tmp _); (· exact GvP.c (.lit _))); exact GvA.nil); (· rfl); (· (decide))))
          simp [e1, e2]
      · have hs := hJ (by omega)
        repeat' (first | (refine so_is (.assign _) ?_; (refine so_q (qt_asC rfl) rfl ?_)) | (refine so_is (.load 26 _) ?_; (refine so_q (qt_load_boxs rfl rfl (by kernel_rfl : tAgg _ 26 4 = true) rfl) rfl ?_)) | (refine so_is (.move _) ?_; (refine so_q (qt_mvC rfl) rfl ?_)) | (refine so_is (.binOp .lss 3 _ _ _) ?_; refine so_q (qt_lss rfl rfl) rfl ?_) | (refine so_is (.binOp .add 3 _ _ _) ?_; refine so_q (qt_addI rfl rfl (by (omega))) rfl ?_) | refine so_nil ?_ | refine sk_seq ?_ | refine sk_block ?_ | refine sk_blk ?_ | refine sk_exit rfl ?_ | refine sk_skip ?_ | refine sk_region ?_ | refine sk_drawQ 11 (fun _ => false) (.step 0 true (.step 1 true (.step 2 true (.step 3 true (.step 5 true (.step 6 true (.step 7 true (.step 4 false (.step 8 false (.step 9 true .nil)))))))))) [(0, 1023, 1023, false), (0, 1023, 1023, true), (0, 1023, 1023, true), (0, 1023, 1023, true), (15, 1008, 1023, false), (0, 1023, 1023, false), (0, 1023, 1023, true), (0, 1023, 1023, true), (240, 799, 1023, false), (272, 751, 1023, true)] (by kernel_rfl) (by kernel_rfl) ?_ | refine sk_if rfl (fun hc => ?_) (fun hc => ?_))
        all_goals first | (exfalso; omega) | skip
        refine sk_back ?_; refine ⟨q + 1, ?_, ?_, le_at rfl (by (repeat (first | exact trivial | refine ⟨(by (rfl)), ?_⟩))) (by (repeat (first | exact trivial | refine ⟨rfl, ?_⟩))) (by (repeat (exact trivial))) (by (repeat (first | exact trivial | refine ⟨.inr rfl, ?_⟩)))⟩
        · refine ⟨by omega, fun r hr => ?_⟩
          by_cases h3 : r = q
          · subst h3; exact hs
          · exact hQ r (by omega)
        · omega
    · have h0 := hQ 0 (by omega)
      have h1 := hQ 1 (by omega)
      repeat' (first | (refine so_is (.assign _) ?_; (refine so_q (qt_asC rfl) rfl ?_)) | (refine so_is (.move _) ?_; (refine so_q (qt_mvC rfl) rfl ?_)) | (refine so_is (.binOp .lss 3 _ _ _) ?_; refine so_q (qt_lss rfl rfl) rfl ?_) | (refine so_is (.indexAddr 126 _ _) ?_; (refine so_q (qt_idxa_lp rfl rfl (by kernel_rfl : tArr _ 126 2 1 = true) (by (omega)) (by (omega))) rfl ?_)) | (refine so_is (.binOp .sub 3 _ _ _) ?_; refine so_q (qt_subI rfl rfl (by (omega))) rfl ?_) | (refine so_is (.binOp .add 3 _ _ _) ?_; refine so_q (qt_addI rfl rfl (by (omega))) rfl ?_) | refine so_nil ?_ | refine sk_seq ?_ | refine sk_block ?_ | refine sk_blk ?_ | refine sk_exit rfl ?_ | refine sk_skip ?_ | refine sk_region ?_ | refine sk_if rfl (fun hc => ?_) (fun hc => ?_))
      all_goals first | (exfalso; omega) | skip
      refine sk_back ?_; refine ⟨w + 1, ?_, ?_, le_at rfl (by (repeat (first | exact trivial | refine ⟨(by (rfl)), ?_⟩))) (by (repeat (first | exact trivial | refine ⟨rfl, ?_⟩))) (by (repeat (exact trivial))) (by (repeat (first | exact trivial | refine ⟨.inr rfl, ?_⟩)))⟩
      · refine ⟨by omega, fun u hu => ?_⟩
        by_cases h3 : u = w
        · subst h3; exact ⟨h0, h1⟩
        · exact hW u (by omega)
      · omega
  · have e : w = 2 := by omega
    subst e
    obtain ⟨e1, e2⟩ := loudR_end hW
    repeat' (first | (refine so_is (.assign _) ?_; (refine so_q (qt_asC rfl) rfl ?_)) | (refine so_is (.binOp .lss 3 _ _ _) ?_; refine so_q (qt_lss rfl rfl) rfl ?_) | refine so_nil ?_ | refine sk_seq ?_ | refine sk_exit rfl ?_ | refine sk_region ?_ | refine sk_false rfl ?_)
    all_goals first | (exfalso; omega) | skip
    (apply sk_ret; apply ret_eq; (· apply RetOK.t; (· (apply GvA.cons; (· exact .tmp _); (· exact GvP.c (.lit _))); (apply GvA.cons; (· exact .tmp _); (· exact GvP.c (.lit _))); (apply GvA.cons; (· exact .tmp _); (· exact GvP.c (.lit _))); exact GvA.nil); (· rfl); (· (decide))))
    simp [e1, e2]
theorem isQuiet_p (n : Int) (ll : List (List Int)) (h : boxB 2 2 n ll = true) : PC Tryz.prog 98 [.g [dI 2, dI 2, dI n, eII ll]] (.p (.c (dB (quiet2 ll)))) := by
  have w := IsBox_p 2 2 n ll
  rw [h] at w
  refine pc_intro Tryz.func98 rfl rfl rfl (by kernel_rfl) rfl rfl ?_; intro _
  repeat' (first | (refine so_is (.box 26 _) ?_; refine so_box rfl rfl ?_) | (refine so_is (.assign _) ?_; (refine so_q (qt_asC rfl) rfl ?_)) | (refine so_is (.load 26 _) ?_; (refine so_q (qt_load_boxs rfl rfl (by kernel_rfl : tAgg _ 26 4 = true) rfl) rfl ?_)) | (refine so_is (.unOp .not 4 _) ?_; refine so_q (qt_not rfl) rfl ?_) | (refine so_is (.move _) ?_; (first | refine so_q (qt_mvC rfl) rfl ?_ | refine so_q (qt_mvT rfl) rfl ?_)) | (refine so_is (.extract _ _) ?_; refine so_q (qt_extract rfl rfl) rfl ?_) | (refine so_is (.call ⟨.value (.func 94), _, _⟩) ?_; (apply so_call0 (fid := 94); (· (repeat (first | exact SeA.nil | (apply SeA.cons; (· (apply SeP.g; (repeat (first | exact SeL.nil | apply SeL.cons (.d _))))))))); (· exact w); (· rfl))) | (refine so_is (.call ⟨.value (.func 168), _, _⟩) ?_; ((apply so_call0 (fid := 168); (· (repeat (first | exact SeA.nil | (apply SeA.cons; (· (apply SeP.g; (repeat (first | exact SeL.nil | apply SeL.cons (.d _))))))))); (· exact loud_p n ll h); (· rfl)))) | refine so_nil ?_ | refine sk_seq ?_ | refine sk_skip ?_ | refine sk_region ?_ | refine sk_false rfl ?_)
  all_goals first | (exfalso; simp_all; done) | skip
  (apply sk_ret; apply ret_eq; (· apply RetOK.p; (· (apply GvA.cons; (· exact .tmp _); (· exact GvP.c (.lit _))); exact GvA.nil); (· (decide))))
  simp
theorem IsQuiet_p (n : Int) (ll : List (List Int)) (h : boxB 2 2 n ll = true) : PC Tryz.prog 29 [.g [dI 2, dI 2, dI n, eII ll]] (.t [.c (dB (quiet2 ll)), .c (dB true)]) := by
  have w := IsBox_p 2 2 n ll
  rw [h] at w
  refine pc_intro Tryz.func29 rfl rfl rfl (by kernel_rfl) rfl rfl ?_; intro _
  repeat' (first | (refine so_is (.box 26 _) ?_; refine so_box rfl rfl ?_) | (refine so_is (.assign _) ?_; (refine so_q (qt_asC rfl) rfl ?_)) | (refine so_is (.load 26 _) ?_; (refine so_q (qt_load_boxs rfl rfl (by kernel_rfl : tAgg _ 26 4 = true) rfl) rfl ?_)) | (refine so_is (.unOp .not 4 _) ?_; refine so_q (qt_not rfl) rfl ?_) | (refine so_is (.call ⟨.value (.func 94), _, _⟩) ?_; (apply so_call0 (fid := 94); (· (repeat (first | exact SeA.nil | (apply SeA.cons; (· (apply SeP.g; (repeat (first | exact SeL.nil | apply SeL.cons (.d _))))))))); (· exact w); (· rfl))) | (refine so_is (.call ⟨.value (.func 98), _, _⟩) ?_; ((apply so_call0 (fid := 98); (· (repeat (first | exact SeA.nil | (apply SeA.cons; (· (apply SeP.g; (repeat (first | exact SeL.nil | apply SeL.cons (.d _))))))))); (· exact isQuiet_p n ll h); (· rfl)))) | refine so_nil ?_ | refine sk_seq ?_ | refine sk_skip ?_ | refine sk_region ?_ | refine sk_false rfl ?_)
  all_goals first | (exfalso; simp_all; done) | skip
  (apply sk_ret; apply ret_eq; (· apply RetOK.t; (· (apply GvA.cons; (· exact .tmp _); (· exact GvP.c (.lit _))); (apply GvA.cons; (· exact .tmp _); (· exact GvP.c (.lit _))); exact GvA.nil); (· rfl); (· (decide))))
  rfl
theorem alike_p (x y na nb : Int) (la lb : List (List Int)) (ha : boxB x y na la = true) (hb : boxB x y nb lb = true) : PC Tryz.prog 97 [.c (eII la), .c (dI na), .c (eII lb), .c (dI nb)] (.p (.c (dB (alikeB la na lb nb)))) := by
  have A := boxB_spec ha
  have B := boxB_spec hb
  have la9 := A.len
  have lb9 := B.len
  have lq := box_len9 ha
  have a1 := A.n1; have a2 := A.n2; have b1 := B.n1; have b2 := B.n2
  refine pc_intro Tryz.func97 rfl rfl rfl (by kernel_rfl) rfl rfl ?_; intro _
  repeat' (first | (refine so_is (.assign _) ?_; (refine so_q (qt_asC rfl) rfl ?_)) | (refine so_is (.move _) ?_; (refine so_q (qt_mvC rfl) rfl ?_)) | (refine so_is (.call ⟨.builtin .len, _, #[24]⟩) ?_; (refine so_q (qt_len_d rfl (by kernel_rfl)) rfl ?_)) | refine so_nil ?_ | refine sk_seq ?_ | refine sk_block ?_ | refine sk_region ?_)
  apply sk_packC [1, 2, 3, 13, 14, 15] [] rfl; (· (repeat (first | exact Pf.nil | apply Pf.cons (.c rfl (.d rfl))))); (· (repeat (exact Pb.nil)))
  refine sk_loopL [1, 2, 3, 13, 14] [] (fun q => [(15, iN q)]) (fun _ => []) (fun q => q ≤ la.length ∧ (List.range q).all (fun q => (List.range 4).all fun k => decide (at2 la q k * nb = at2 lb q k * na)) = true) (fun q => la.length - q) (0) ?_ (by (repeat (first | exact trivial | refine ⟨(by (rfl)), ?_⟩))) (by (repeat (exact trivial))) ?_
  · exact ⟨by omega, rfl⟩
  rintro q ⟨hq, hQ⟩
  by_cases hq2 : q < la.length
  · have qa := boxB_at ha (q := (q : Int)) (by omega) (by omega)
    have qb := boxB_at hb (q := (q : Int)) (by omega) (by omega)
    have qs := range_all_s (f := fun q => (List.range 4).all fun k => decide (at2 la q k * nb = at2 lb q k * na)) (k := q)
    have l1 := qa.1; have l2 := qb.1
    repeat' (first | (refine so_is (.assign _) ?_; (refine so_q (qt_asC rfl) rfl ?_)) | (refine so_is (.move _) ?_; (refine so_q (qt_mvC rfl) rfl ?_)) | (refine so_is (.binOp .lss 3 _ _ _) ?_; refine so_q (qt_lss rfl rfl) rfl ?_) | (refine so_is (.indexAddr 24 _ _) ?_; (refine so_q (qt_idxII rfl rfl (by kernel_rfl) (by (omega)) (by (omega))) rfl ?_)) | (refine so_is (.load 27 _) ?_; (refine so_q (qt_load_pt rfl (by kernel_rfl) rfl) rfl ?_)) | (refine so_is (.call ⟨.builtin .len, _, #[27]⟩) ?_; (refine so_q (qt_len_d rfl (by kernel_rfl)) rfl ?_)) | refine so_nil ?_ | refine sk_seq ?_ | refine sk_block ?_ | refine sk_exit rfl ?_ | refine sk_skip ?_ | refine sk_region ?_ | refine sk_if rfl (fun hc => ?_) (fun hc => ?_))
    all_goals first | (exfalso; omega) | skip
    apply sk_packC [1, 2, 3, 9, 13, 14, 15, 20, 21, 22] [] rfl; (· (repeat (first | exact Pf.nil | apply Pf.cons (.c rfl (.d rfl))))); (· (repeat (exact Pb.nil)))
    refine sk_loopL [1, 2, 3, 9, 13, 14, 15, 20, 21] [] (fun k => [(22, iN k)]) (fun _ => []) (fun k => k ≤ 4 ∧ (List.range k).all (fun k => decide (at2 la q k * nb = at2 lb q k * na)) = true) (fun k => 4 - k) (0) ?_ (by (repeat (first | exact trivial | refine ⟨(by (rfl)), ?_⟩))) (by (repeat (exact trivial))) ?_
    · exact ⟨by omega, rfl⟩
    rintro k ⟨hk, hK⟩
    by_cases hk2 : k < 4
    · have va := qa.2 k (by omega) (by omega)
      have vb := qb.2 k (by omega) (by omega)
      have ks := range_all_s (f := fun k => decide (at2 la q k * nb = at2 lb q k * na)) (k := k)
      have m1 := mul_small va.1 (Int.le_trans va.2 a2) (by omega : 0 ≤ nb) b2
      have m2 := mul_small vb.1 (Int.le_trans vb.2 b2) (by omega : 0 ≤ na) a2
      by_cases he : atZ (atZ la (q : Int)) (k : Int) * nb = atZ (atZ lb (q : Int)) (k : Int) * na
      · repeat' (first | (refine so_is (.assign _) ?_; (refine so_q (qt_asC rfl) rfl ?_)) | (refine so_is (.move _) ?_; (refine so_q (qt_mvC rfl) rfl ?_)) | (refine so_is (.binOp .lss 3 _ _ _) ?_; refine so_q (qt_lss rfl rfl) rfl ?_) | (refine so_is (.indexAddr 24 _ _) ?_; (refine so_q (qt_idxII rfl rfl (by kernel_rfl) (by (omega)) (by (omega))) rfl ?_)) | (refine so_is (.load 27 _) ?_; (refine so_q (qt_load_pt rfl (by kernel_rfl) rfl) rfl ?_)) | (refine so_is (.indexAddr 27 _ _) ?_; (refine so_q (qt_idxI rfl rfl (by kernel_rfl) (by (omega)) (by (omega))) rfl ?_)) | (refine so_is (.load 3 _) ?_; (refine so_q (qt_load_pt rfl (by kernel_rfl) rfl) rfl ?_)) | (refine so_is (.binOp .mul 3 _ _ _) ?_; refine so_q (qt_mulI rfl rfl (by (omega))) rfl ?_) | (refine so_is (.binOp .neq 3 _ _ _) ?_; refine so_q (qt_neq rfl rfl) rfl ?_) | (refine so_is (.binOp .add 3 _ _ _) ?_; refine so_q (qt_addI rfl rfl (by (omega))) rfl ?_) | refine so_nil ?_ | refine sk_seq ?_ | refine sk_block ?_ | refine sk_blk ?_ | refine sk_exit rfl ?_ | refine sk_skip ?_ | refine sk_region ?_ | refine sk_if rfl (fun hc => ?_) (fun hc => ?_))
        all_goals first | (exfalso; omega) | (exfalso; simp_all; done) | skip
        refine sk_back ?_; refine ⟨k + 1, ?_, ?_, le_at rfl (by (repeat (first | exact trivial | refine ⟨(by (rfl)), ?_⟩))) (by (repeat (first | exact trivial | refine ⟨rfl, ?_⟩))) (by (repeat (exact trivial))) (by (repeat (exact trivial)))⟩
        · refine ⟨by omega, ?_⟩
          rw [ks, hK]
          simp [at2, he]
        · omega
      · repeat' (first | (refine so_is (.assign _) ?_; (refine so_q (qt_asC rfl) rfl ?_)) | (refine so_is (.move _) ?_; (refine so_q (qt_mvC rfl) rfl ?_)) | (refine so_is (.binOp .lss 3 _ _ _) ?_; refine so_q (qt_lss rfl rfl) rfl ?_) | (refine so_is (.indexAddr 24 _ _) ?_; (refine so_q (qt_idxII rfl rfl (by kernel_rfl) (by (omega)) (by (omega))) rfl ?_)) | (refine so_is (.load 27 _) ?_; (refine so_q (qt_load_pt rfl (by kernel_rfl) rfl) rfl ?_)) | (refine so_is (.indexAddr 27 _ _) ?_; (refine so_q (qt_idxI rfl rfl (by kernel_rfl) (by (omega)) (by (omega))) rfl ?_)) | (refine so_is (.load 3 _) ?_; (refine so_q (qt_load_pt rfl (by kernel_rfl) rfl) rfl ?_)) | (refine so_is (.binOp .mul 3 _ _ _) ?_; refine so_q (qt_mulI rfl rfl (by (omega))) rfl ?_) | (refine so_is (.binOp .neq 3 _ _ _) ?_; refine so_q (qt_neq rfl rfl) rfl ?_) | (refine so_is (.binOp .add 3 _ _ _) ?_; refine so_q (qt_addI rfl rfl (by (omega))) rfl ?_) | refine so_nil ?_ | refine sk_seq ?_ | refine sk_block ?_ | refine sk_blk ?_ | refine sk_exit rfl ?_ | refine sk_skip ?_ | refine sk_region ?_ | refine sk_if rfl (fun hc => ?_) (fun hc => ?_))
        all_goals first | (exfalso; omega) | (exfalso; simp_all; done) | skip
        (apply sk_ret; apply ret_eq; (· apply RetOK.p; (· (apply GvA.cons; (· exact .tmp _); (· exact GvP.c (.lit _))); exact GvA.nil); (· (decide))))
        have f1 : (List.range 4).all (fun k => decide (at2 la q k * nb = at2 lb q k * na)) = false := range_all_f hk2 (decide_eq_false he)
        have f2 : alikeB la na lb nb = false := range_all_f (f := fun q => (List.range 4).all fun k => decide (at2 la q k * nb = at2 lb q k * na)) hq2 f1
        simp [f2]
    · have e : k = 4 := by omega
      subst e
      repeat' (first | (refine so_is (.assign _) ?_; (refine so_q (qt_asC rfl) rfl ?_)) | (refine so_is (.move _) ?_; (refine so_q (qt_mvC rfl) rfl ?_)) | (refine so_is (.binOp .lss 3 _ _ _) ?_; refine so_q (qt_lss rfl rfl) rfl ?_) | (refine so_is (.indexAddr 24 _ _) ?_; (refine so_q (qt_idxII rfl rfl (by kernel_rfl) (by (omega)) (by (omega))) rfl ?_)) | (refine so_is (.load 27 _) ?_; (refine so_q (qt_load_pt rfl (by kernel_rfl) rfl) rfl ?_)) | (refine so_is (.indexAddr 27 _ _) ?_; (refine so_q (qt_idxI rfl rfl (by kernel_rfl) (by (omega)) (by (omega))) rfl ?_)) | (refine so_is (.load 3 _) ?_; (refine so_q (qt_load_pt rfl (by kernel_rfl) rfl) rfl ?_)) | (refine so_is (.binOp .mul 3 _ _ _) ?_; refine so_q (qt_mulI rfl rfl (by (omega))) rfl ?_) | (refine so_is (.binOp .neq 3 _ _ _) ?_; refine so_q (qt_neq rfl rfl) rfl ?_) | (refine so_is (.binOp .add 3 _ _ _) ?_; refine so_q (qt_addI rfl rfl (by (omega))) rfl ?_) | refine so_nil ?_ | refine sk_seq ?_ | refine sk_block ?_ | refine sk_blk ?_ | refine sk_exit rfl ?_ | refine sk_skip ?_ | refine sk_region ?_ | refine sk_if rfl (fun hc => ?_) (fun hc => ?_))
      all_goals first | (exfalso; omega) | skip
      refine sk_back ?_; refine ⟨q + 1, ?_, ?_, le_at rfl (by (repeat (first | exact trivial | refine ⟨(by (rfl)), ?_⟩))) (by (repeat (first | exact trivial | refine ⟨rfl, ?_⟩))) (by (repeat (exact trivial))) (by (repeat (exact trivial)))⟩
      · exact ⟨by omega, by rw [qs, hQ, hK]; rfl⟩
      · omega
  · have e : q = la.length := by omega
    subst e
    repeat' (first | (refine so_is (.assign _) ?_; (refine so_q (qt_asC rfl) rfl ?_)) | (refine so_is (.move _) ?_; (refine so_q (qt_mvC rfl) rfl ?_)) | (refine so_is (.binOp .lss 3 _ _ _) ?_; refine so_q (qt_lss rfl rfl) rfl ?_) | (refine so_is (.indexAddr 24 _ _) ?_; (refine so_q (qt_idxII rfl rfl (by kernel_rfl) (by (omega)) (by (omega))) rfl ?_)) | (refine so_is (.load 27 _) ?_; (refine so_q (qt_load_pt rfl (by kernel_rfl) rfl) rfl ?_)) | (refine so_is (.call ⟨.builtin .len, _, #[27]⟩) ?_; (refine so_q (qt_len_d rfl (by kernel_rfl)) rfl ?_)) | refine so_nil ?_ | refine sk_seq ?_ | refine sk_block ?_ | refine sk_exit rfl ?_ | refine sk_skip ?_ | refine sk_region ?_ | refine sk_if rfl (fun hc => ?_) (fun hc => ?_))
    all_goals first | (exfalso; omega) | skip
    (apply sk_ret; apply ret_eq; (· apply RetOK.p; (· (apply GvA.cons; (· exact .tmp _); (· exact GvP.c (.lit _))); exact GvA.nil); (· (decide))))
    simp [alikeB, hQ]
theorem AreAlike_p (na nb : Int) (la lb : List (List Int)) (ha : boxB 2 2 na la = true) (hb : boxB 2 2 nb lb = true) : PC Tryz.prog 31 [.g [dI 2, dI 2, dI na, eII la], .g [dI 2, dI 2, dI nb, eII lb]] (.t [.c (dB (alikeB la na lb nb)), .c (dB true)]) := by
  have s := sameQuestions_p 2 2 na la 2 2 nb lb
  have e : sameB 2 2 na la 2 2 nb lb = true := by simp [sameB, ha, hb]
  rw [e] at s
  refine pc_intro Tryz.func31 rfl rfl rfl (by kernel_rfl) rfl rfl ?_; intro _
  repeat' (first | (refine so_is (.box 26 _) ?_; refine so_box rfl rfl ?_) | (refine so_is (.assign _) ?_; (refine so_q (qt_asC rfl) rfl ?_)) | (refine so_is (.load 26 _) ?_; (refine so_q (qt_load_boxs rfl rfl (by kernel_rfl : tAgg _ 26 4 = true) rfl) rfl ?_)) | (refine so_is (.unOp .not 4 _) ?_; refine so_q (qt_not rfl) rfl ?_) | (refine so_is (.fieldAddr 26 _ 3) ?_; (refine so_q (qt_fld_lp (off := 3) rfl (by kernel_rfl)) rfl ?_)) | (refine so_is (.load 24 _) ?_; (refine so_q (qt_load_box rfl rfl (by kernel_rfl) rfl) rfl ?_)) | (refine so_is (.fieldAddr 26 _ 2) ?_; (refine so_q (qt_fld_lp (off := 2) rfl (by kernel_rfl)) rfl ?_)) | (refine so_is (.load 3 _) ?_; (refine so_q (qt_load_box rfl rfl (by kernel_rfl) rfl) rfl ?_)) | (refine so_is (.call ⟨.value (.func 100), _, _⟩) ?_; (apply so_call0 (fid := 100); (· (repeat (first | exact SeA.nil | (apply SeA.cons; (· (apply SeP.g; (repeat (first | exact SeL.nil | apply SeL.cons (.d _))))))))); (· exact s); (· rfl))) | (refine so_is (.call ⟨.value (.func 97), _, _⟩) ?_; ((apply so_call0 (fid := 97); (· (repeat (first | exact SeA.nil | apply SeA.cons (.c (.d _))))); (· exact alike_p 2 2 na nb la lb ha hb); (· rfl)))) | refine so_nil ?_ | refine sk_seq ?_ | refine sk_skip ?_ | refine sk_region ?_ | refine sk_false rfl ?_)
  all_goals first | (exfalso; simp_all; done) | skip
  (apply sk_ret; apply ret_eq; (· apply RetOK.t; (· (apply GvA.cons; (· exact .tmp _); (· exact GvP.c (.lit _))); (apply GvA.cons; (· exact .tmp _); (· exact GvP.c (.lit _))); exact GvA.nil); (· rfl); (· (decide))))
  rfl
end Go.Proofs.YtefbiejoikpkmaaGreat

namespace Go.Proofs.YtefbiejoikpkmaaGreat
open Go.RowKit
set_option linter.unusedSectionVars false
variable [Glb]
set_option maxRecDepth 10000
set_option maxHeartbeats 4000000
theorem agreement_p (row : List Int) (h : row.length = 4) (hb : ∀ k : Int, 0 ≤ k → k < 4 → -1000000000 ≤ atZ row k ∧ atZ row k ≤ 1000000000) : PC Tryz.prog 201 [.c (eI row)] (.p (.c (dI (agrZ row)))) := by
  have b0 := hb 0 (by omega) (by omega)
  have b1 := hb 1 (by omega) (by omega)
  have b2 := hb 2 (by omega) (by omega)
  have b3 := hb 3 (by omega) (by omega)
  refine pc_intro Tryz.func201 rfl rfl rfl (by kernel_rfl) rfl rfl ?_; intro _
  repeat' (first | (refine so_is (.assign _) ?_; (refine so_q (qt_asC rfl) rfl ?_)) | (refine so_is (.move _) ?_; (refine so_q (qt_mvC rfl) rfl ?_)) | (refine so_is (.indexAddr 27 _ _) ?_; (refine so_q (qt_idxI rfl rfl (by kernel_rfl) (by (omega)) (by (omega))) rfl ?_)) | (refine so_is (.load 3 _) ?_; (refine so_q (qt_load_pt rfl (by kernel_rfl) rfl) rfl ?_)) | (refine so_is (.binOp .sub 3 _ _ _) ?_; refine so_q (qt_subI rfl rfl (by (omega))) rfl ?_) | (refine so_is (.binOp .add 3 _ _ _) ?_; refine so_q (qt_addI rfl rfl (by (omega))) rfl ?_) | refine so_nil ?_ | refine sk_seq ?_ | refine sk_region ?_ | refine sk_drawQ 1 (fun _ => false) (.step 0 true (.step 1 true (.step 2 true (.step 3 true (.step 4 true (.step 5 true (.step 6 true (.step 7 true (.step 8 true (.step 9 true (.step 10 true (.step 11 true (.step 12 true (.step 13 true (.step 14 true (.step 15 true .nil)))))))))))))))) [(0, 65535, 65535, true), (1, 65534, 65535, true), (2, 65533, 65535, false), (0, 65535, 65535, true), (8, 65527, 65535, true), (16, 65519, 65535, false), (36, 65499, 65535, true), (0, 65535, 65535, true), (128, 65407, 65535, true), (256, 65279, 65535, false), (576, 64959, 65535, true), (0, 65535, 65535, true), (2048, 63487, 65535, true), (4096, 61439, 65535, false), (9216, 56319, 65535, true), (32767, 49151, 65535, true)] (by kernel_rfl) (by kernel_rfl) ?_)
  · (apply sk_ret; apply ret_eq; (· apply RetOK.p; (· (apply GvA.cons; (· exact .tmp _); (· exact GvP.c (.lit _))); exact GvA.nil); (· (decide))))
    rfl

end Go.Proofs.YtefbiejoikpkmaaGreat
