/- What the functions that FnGames reaches return: part of its proof. No condition beyond those of its theorems. -/
import Derived.Test.YtefbiejoikpkmaaKfnsFnGamesA
import Derived.Test.YtefbiejoikpkmaaKplainC
import Derived.Test.YtefbiejoikpkmaaKfnsFnGamesB
import Derived.Test.YtefbiejoikpkmaaKplainA
import Derived.Test.YtefbiejoikpkmaaKplainB
set_option linter.unusedVariables false
set_option linter.unusedSimpArgs false
namespace Go.Proofs.Ytefbiejoikpkmaa
open Go.RowKit
set_option linter.unusedSectionVars false
variable [Glb]
set_option maxRecDepth 10000
set_option maxHeartbeats 4000000
theorem functional_p (X Y : Nat) (ws : List Int) (wi : List (List Int)) (h : gameB X Y ws wi = true) : PC Try.prog 124 [.g [dI X, dI Y, eI ws, eII wi]] (.p (.c (eII (funL ws wi)))) := by
  obtain ⟨x, y, e1, e2, hx, hy, wl, il, h9⟩ := game_nat h
  obtain rfl : X = x := by omega
  obtain rfl : Y = y := by omega
  refine pc_intro Try.func124 rfl rfl rfl (by kernel_rfl) rfl rfl ?_; intro _
  repeat' (first | (refine so_is (.box 27 _) ?_; refine so_box rfl rfl ?_) | (refine so_is (.assign _) ?_; (refine so_q (qt_asC rfl) rfl ?_)) | (refine so_is (.buildSlice 25 0 _) ?_; (apply so_bslice (sz := 1) (by_ := 24); (· kernel_rfl); (· decide); (· (repeat (exact GvS.nil _))); (· (decide)); (· rfl); (· rfl); (· rfl))) | (refine so_is (.fieldAddr 27 _ 3) ?_; (refine so_q (qt_fld_lp (off := 3) rfl (by kernel_rfl)) rfl ?_)) | (refine so_is (.load 25 _) ?_; (refine so_q (qt_load_box rfl rfl (by kernel_rfl) rfl) rfl ?_)) | (refine so_is (.call ⟨.builtin .len, _, #[25]⟩) ?_; (refine so_q (qt_len_d rfl (by kernel_rfl)) rfl ?_)) | (refine so_is (.move _) ?_; (refine so_q (qt_mvC rfl) rfl ?_)) | refine so_nil ?_ | refine sk_seq ?_ | refine sk_block ?_ | refine sk_region ?_)
  apply sk_packC [1, 3, 11, 12, 13] [1, 9, 18, 33, 34, 38, 39] rfl; (· (repeat (first | exact Pf.nil | apply Pf.cons (.c rfl (.d rfl)) | apply Pf.cons (.c rfl (.ls rfl)) | apply Pf.cons (.c rfl (.lp rfl))))); (· (repeat (first | exact Pb.nil | apply Pb.cons (.row rfl) | (apply Pb.cons; (· apply Nb.box rfl; (repeat (first | exact Ncs.nil rfl | (apply Ncs.cons rfl; (· (exact .d rfl))))))) | apply Pb.skip)))
  refine sk_loopL [1, 11, 12] [1, 18, 33, 34, 38, 39] (fun i => [(13, iN i), (3, .c (.ls 9 1 0 i))]) (fun i => [(9, .row 1 (cII (gridF (fun i k => atZ (atZ wi (i : Int)) (k : Int) * atZ ws (i : Int)) i 4)))]) (fun i => i ≤ wi.length) (fun i => wi.length - i) (0) ?_ (by (repeat (first | exact trivial | refine ⟨(by (rfl)), ?_⟩))) (by (repeat (first | exact trivial | refine ⟨(by ((refine row_eq rfl ?_; simp  [gridF]; done))), ?_⟩))) ?_
  · omega
  intro i hi
  by_cases hi2 : i < wi.length
  · have ga := gameB_at h (q := (i : Int)) (by omega) (by rw [← Int.natCast_mul, Nat.mul_comm]; omega)
    have rl := bitsB_len ga.2
    have rb := fun (p : Int) => bitsB_at ga.2 (i := p)
    repeat' (first | (refine so_is (.assign _) ?_; (refine so_q (qt_asC rfl) rfl ?_)) | (refine so_is (.move _) ?_; (refine so_q (qt_mvC rfl) rfl ?_)) | (refine so_is (.binOp .lss 3 _ _ _) ?_; refine so_q (qt_lss rfl rfl) rfl ?_) | (refine so_is (.indexAddr 25 _ _) ?_; (refine so_q (qt_idxII rfl rfl (by kernel_rfl) (by (omega)) (by (omega))) rfl ?_)) | (refine so_is (.load 24 _) ?_; (refine so_q (qt_load_pt rfl (by kernel_rfl) rfl) rfl ?_)) | (refine so_is (.buildSlice 24 0 _) ?_; (apply so_bslice (sz := 1) (by_ := 8); (· kernel_rfl); (· decide); (· (repeat (exact GvS.nil _))); (· (decide)); (· rfl); (· rfl); (· rfl))) | (refine so_is (.call ⟨.builtin .len, _, #[24]⟩) ?_; (refine so_q (qt_len_d rfl (by kernel_rfl)) rfl ?_)) | refine so_nil ?_ | refine sk_seq ?_ | refine sk_block ?_ | refine sk_exit rfl ?_ | refine sk_skip ?_ | refine sk_region ?_ | refine sk_if rfl (fun hc => ?_) (fun hc => ?_))
    all_goals first | (exfalso; omega) | skip
    apply sk_packC [1, 3, 4, 6, 11, 12, 13, 19, 20, 21] [1, 9, 18, 33, 34, 38, 39] rfl; (· (repeat (first | exact Pf.nil | apply Pf.cons (.c rfl (.d rfl)) | apply Pf.cons (.c rfl (.ls rfl)) | apply Pf.cons (.c rfl (.lp rfl))))); (· (repeat (first | exact Pb.nil | apply Pb.cons (.row rfl) | (apply Pb.cons; (· apply Nb.box rfl; (repeat (first | exact Ncs.nil rfl | (apply Ncs.cons rfl; (· (exact .d rfl))))))) | apply Pb.skip)))
    refine sk_loopL [1, 3, 4, 11, 12, 13, 19, 20] [1, 9, 33, 34, 38, 39] (fun k => [(21, iN k), (6, .c (.ls 18 1 0 k))]) (fun k => [(18, .row 1 (cI (rowF (fun k => atZ (atZ wi (i : Int)) (k : Int) * atZ ws (i : Int)) k)))]) (fun k => k ≤ 4) (fun k => 4 - k) (0) ?_ (by (repeat (first | exact trivial | refine ⟨(by (rfl)), ?_⟩))) (by (repeat (first | exact trivial | refine ⟨(by (rfl)), ?_⟩))) ?_
    · simp
    intro k hk
    by_cases hk4 : k < 4
    · have rb := rb k (by omega) (by omega)
      have m := mul01 ga.1 rb
      have m2 := m.2.2.2
      repeat' (first | (refine so_is (.assign _) ?_; (refine so_q (qt_asC rfl) rfl ?_)) | (refine so_is (.move _) ?_; (refine so_q (qt_mvC rfl) rfl ?_)) | (refine so_is (.binOp .lss 3 _ _ _) ?_; refine so_q (qt_lss rfl rfl) rfl ?_) | (refine so_is (.load 24 _) ?_; (refine so_q (qt_load_box rfl rfl (by kernel_rfl) rfl) rfl ?_)) | (refine so_is (.indexAddr 24 _ _) ?_; (refine so_q (qt_idxI rfl rfl (by kernel_rfl) (by (omega)) (by (omega))) rfl ?_)) | (refine so_is (.load 3 _) ?_; (refine so_q (qt_load_pt rfl (by kernel_rfl) rfl) rfl ?_)) | (refine so_is (.fieldAddr 27 _ 2) ?_; (refine so_q (qt_fld_lp (off := 2) rfl (by kernel_rfl)) rfl ?_)) | (refine so_is (.binOp .mul 3 _ _ _) ?_; refine so_q (qt_mulI rfl rfl (by (omega))) rfl ?_) | (refine so_is (.buildSlice 24 1 _) ?_; (apply so_bslice (sz := 1) (by_ := 8); (· kernel_rfl); (· decide); (· (repeat (first | exact GvS.nil _ | apply GvS.c rfl rfl (.lit _) rfl))); (· (decide)); (· rfl); (· rfl); (· rfl))) | (refine so_is (.call ⟨.builtin .append, _, #[24, 24]⟩) ?_; ((apply so_appR (sz := 1) (by_ := 8); (· rfl); (· rfl); (· ((simp; done))); (· exact .row _ _ _ _ rfl (by ((simp; done)))); (· (decide)); (· kernel_rfl); (· decide); (· (omega)); (· (omega)); (· rfl); (· rfl); (· rfl)))) | (refine so_is (.binOp .add 3 _ _ _) ?_; refine so_q (qt_addI rfl rfl (by (omega))) rfl ?_) | (refine so_is (.buildSlice 25 1 _) ?_; (apply so_bslice (sz := 1) (by_ := 24); (· kernel_rfl); (· decide); (· (repeat (first | exact GvS.nil _ | apply GvS.c rfl rfl (.row _ _ _ _ rfl (by ((simp; done)))) rfl))); (· (decide)); (· rfl); (· rfl); (· rfl))) | (refine so_is (.call ⟨.builtin .append, _, #[25, 25]⟩) ?_; ((apply so_appR (sz := 1) (by_ := 24); (· rfl); (· rfl); (· ((simp; done))); (· exact .row _ _ _ _ rfl (by ((simp; done)))); (· (decide)); (· kernel_rfl); (· decide); (· (omega)); (· (omega)); (· rfl); (· rfl); (· rfl)))) | refine so_nil ?_ | refine sk_seq ?_ | refine sk_block ?_ | refine sk_blk ?_ | refine sk_exit rfl ?_ | refine sk_skip ?_ | refine sk_region ?_ | refine sk_if rfl (fun hc => ?_) (fun hc => ?_))
      all_goals first | (exfalso; omega) | skip
      refine sk_back ?_; refine ⟨k + 1, ?_, ?_, le_at rfl (by (repeat (first | exact trivial | refine ⟨(by (rfl)), ?_⟩))) (by (repeat (first | exact trivial | refine ⟨rfl, ?_⟩))) (by (repeat (first | exact trivial | refine ⟨(by ((refine row_eq rfl ?_; simp  [rowF_snoc]; done))), ?_⟩))) (by (repeat (first | exact trivial | refine ⟨.inr rfl, ?_⟩)))⟩
      · omega
      · omega
    · have e : k = 4 := by omega
      subst e
      repeat' (first | (refine so_is (.assign _) ?_; (refine so_q (qt_asC rfl) rfl ?_)) | (refine so_is (.move _) ?_; (refine so_q (qt_mvC rfl) rfl ?_)) | (refine so_is (.binOp .lss 3 _ _ _) ?_; refine so_q (qt_lss rfl rfl) rfl ?_) | (refine so_is (.load 24 _) ?_; (refine so_q (qt_load_box rfl rfl (by kernel_rfl) rfl) rfl ?_)) | (refine so_is (.indexAddr 24 _ _) ?_; (refine so_q (qt_idxI rfl rfl (by kernel_rfl) (by (omega)) (by (omega))) rfl ?_)) | (refine so_is (.load 3 _) ?_; (refine so_q (qt_load_pt rfl (by kernel_rfl) rfl) rfl ?_)) | (refine so_is (.fieldAddr 27 _ 2) ?_; (refine so_q (qt_fld_lp (off := 2) rfl (by kernel_rfl)) rfl ?_)) | (refine so_is (.binOp .mul 3 _ _ _) ?_; refine so_q (qt_mulI rfl rfl (by (omega))) rfl ?_) | (refine so_is (.buildSlice 24 1 _) ?_; (apply so_bslice (sz := 1) (by_ := 8); (· kernel_rfl); (· decide); (· (repeat (first | exact GvS.nil _ | apply GvS.c rfl rfl (.lit _) rfl))); (· (decide)); (· rfl); (· rfl); (· rfl))) | (refine so_is (.call ⟨.builtin .append, _, #[24, 24]⟩) ?_; ((apply so_appR (sz := 1) (by_ := 8); (· rfl); (· rfl); (· ((simp; done))); (· exact .row _ _ _ _ rfl (by ((simp; done)))); (· (decide)); (· kernel_rfl); (· decide); (· (omega)); (· (omega)); (· rfl); (· rfl); (· rfl)))) | (refine so_is (.binOp .add 3 _ _ _) ?_; refine so_q (qt_addI rfl rfl (by (omega))) rfl ?_) | (refine so_is (.buildSlice 25 1 _) ?_; (apply so_bslice (sz := 1) (by_ := 24); (· kernel_rfl); (· decide); (· (repeat (first | exact GvS.nil _ | apply GvS.c rfl rfl (.row _ _ _ _ rfl (by ((simp; done)))) rfl))); (· (decide)); (· rfl); (· rfl); (· rfl))) | (refine so_is (.call ⟨.builtin .append, _, #[25, 25]⟩) ?_; ((apply so_appR (sz := 1) (by_ := 24); (· rfl); (· rfl); (· ((simp; done))); (· exact .row _ _ _ _ rfl (by ((simp; done)))); (· (decide)); (· kernel_rfl); (· decide); (· (omega)); (· (omega)); (· rfl); (· rfl); (· rfl)))) | refine so_nil ?_ | refine sk_seq ?_ | refine sk_block ?_ | refine sk_blk ?_ | refine sk_exit rfl ?_ | refine sk_skip ?_ | refine sk_region ?_ | refine sk_if rfl (fun hc => ?_) (fun hc => ?_))
      all_goals first | (exfalso; omega) | skip
      refine sk_back ?_; refine ⟨i + 1, ?_, ?_, le_at rfl (by (repeat (first | exact trivial | refine ⟨(by (rfl)), ?_⟩))) (by (repeat (first | exact trivial | refine ⟨rfl, ?_⟩))) (by (repeat (first | exact trivial | refine ⟨(by ((refine row_eq rfl ?_; simp  [gridF_snoc]; done))), ?_⟩))) (by (repeat (first | exact trivial | refine ⟨.inr rfl, ?_⟩)))⟩
      · omega
      · omega
  · have e : i = wi.length := by omega
    subst e
    repeat' (first | (refine so_is (.assign _) ?_; (refine so_q (qt_asC rfl) rfl ?_)) | (refine so_is (.move _) ?_; (refine so_q (qt_mvC rfl) rfl ?_)) | (refine so_is (.binOp .lss 3 _ _ _) ?_; refine so_q (qt_lss rfl rfl) rfl ?_) | (refine so_is (.indexAddr 25 _ _) ?_; (refine so_q (qt_idxII rfl rfl (by kernel_rfl) (by (omega)) (by (omega))) rfl ?_)) | (refine so_is (.load 24 _) ?_; (refine so_q (qt_load_pt rfl (by kernel_rfl) rfl) rfl ?_)) | (refine so_is (.buildSlice 24 0 _) ?_; (apply so_bslice (sz := 1) (by_ := 8); (· kernel_rfl); (· decide); (· (repeat (exact GvS.nil _))); (· (decide)); (· rfl); (· rfl); (· rfl))) | (refine so_is (.call ⟨.builtin .len, _, #[24]⟩) ?_; (refine so_q (qt_len_d rfl (by kernel_rfl)) rfl ?_)) | refine so_nil ?_ | refine sk_seq ?_ | refine sk_block ?_ | refine sk_exit rfl ?_ | refine sk_skip ?_ | refine sk_region ?_ | refine sk_if rfl (fun hc => ?_) (fun hc => ?_))
    all_goals first | (exfalso; omega) | skip
    (apply sk_ret; apply ret_eq; (· apply RetOK.p; (· (apply GvA.cons; (· exact .tmp _); (· (exact GvP.c (.row _ _ _ _ rfl (by ((simp; done))))))); exact GvA.nil); (· (decide))))
    simp [funL]
theorem playWorth_p (X Y : Nat) (ws : List Int) (wi : List (List Int)) (pl : List Int) (h : gameB X Y ws wi = true) (hp : bitsB pl ((X : Int) + Y) = true) : PC Try.prog 189 [.c (dI X), .c (dI Y), .c (eII (funL ws wi)), .c (eI pl)] (.p (.c (dI (scoG X Y ws wi pl)))) := by
  obtain ⟨x, y, e1, e2, hx, hy, wl, il, h9⟩ := game_nat h
  obtain rfl : X = x := by omega
  obtain rfl : Y = y := by omega
  have pln := bitsB_len hp
  have Fl := funL_len ws wi
  have Fa := fun (t p : Int) => funL_atZ (ws := ws) (wi := wi) (t := t) (p := p)
  generalize funL ws wi = F at *
  have sb := fun m => scoN_bd h hp (m := m)
  refine pc_intro Try.func189 rfl rfl rfl (by kernel_rfl) rfl rfl ?_; intro _
  repeat' (first | (refine so_is (.assign _) ?_; (refine so_q (qt_asC rfl) rfl ?_)) | (refine so_is (.move _) ?_; (refine so_q (qt_mvC rfl) rfl ?_)) | refine so_nil ?_ | refine sk_seq ?_ | refine sk_block ?_ | refine sk_region ?_)
  apply sk_packC [0, 1, 2, 3, 9, 12, 13] [] rfl; (· (repeat (first | exact Pf.nil | apply Pf.cons (.c rfl (.d rfl))))); (· (repeat (exact Pb.nil)))
  refine sk_loopL [0, 1, 2, 3, 12] [] (fun i => [(13, iN i), (9, iZ (accT (scoT X Y ws wi pl) (Y * i)))]) (fun _ => []) (fun i => i ≤ X) (fun i => X - i) (0) ?_ (by (repeat (first | exact trivial | refine ⟨(by (rfl)), ?_⟩))) (by (repeat (exact trivial))) ?_
  · omega
  intro i hi
  by_cases hi2 : i < X
  · repeat' (first | (refine so_is (.assign _) ?_; (refine so_q (qt_asC rfl) rfl ?_)) | (refine so_is (.move _) ?_; (refine so_q (qt_mvC rfl) rfl ?_)) | (refine so_is (.binOp .lss 3 _ _ _) ?_; refine so_q (qt_lss rfl rfl) rfl ?_) | refine so_nil ?_ | refine sk_seq ?_ | refine sk_block ?_ | refine sk_exit rfl ?_ | refine sk_skip ?_ | refine sk_region ?_ | refine sk_if rfl (fun hc => ?_) (fun hc => ?_))
    all_goals first | (exfalso; omega) | skip
    apply sk_packC [0, 1, 2, 3, 9, 10, 12, 13, 16, 17] [] rfl; (· (repeat (first | exact Pf.nil | apply Pf.cons (.c rfl (.d rfl))))); (· (repeat (exact Pb.nil)))
    refine sk_loopL [0, 1, 2, 3, 10, 12, 13, 16] [] (fun k => [(17, iN k), (9, iZ (accT (scoT X Y ws wi pl) (Y * i + k)))]) (fun _ => []) (fun k => k ≤ Y) (fun k => Y - k) (0) ?_ (by (repeat (first | exact trivial | refine ⟨(by (rfl)), ?_⟩))) (by (repeat (exact trivial))) ?_
    · omega
    intro k hk
    by_cases hk2 : k < Y
    · have ok := pair_ok h hi2 hk2
      have o1 := ok.lt2; have o2 := ok.ge; have o3 := ok.le; have o4 := ok.g1; have o5 := ok.g2
      have f := flip4 hp hi2 hk2
      have fa := Fa ((i : Int) * Y + k) (2 * atZ pl (i : Int) + atZ pl ((X : Int) + k)) (by omega) (by omega) f.2.2.1 f.2.2.2
      have e := scoT_at (X := X) ws wi pl (i := i) hk2
      rw [← fa.1] at e
      have e3 : accT (scoT X Y ws wi pl) (Y * i + (k + 1)) = accT (scoT X Y ws wi pl) (Y * i + k) + atZ (atZ F ((i : Int) * Y + k)) (2 * atZ pl (i : Int) + atZ pl ((X : Int) + k)) := by rw [← Nat.add_assoc, ← e]; rfl
      have lt := idx_ltN (i := i) (k := k) (X := X) (Y := Y) hi2 hk2
      have b1 := sb (Y * i + k) (by omega)
      have b2 := sb (Y * i + (k + 1)) (by omega)
      rw [e3] at b2
      have fl := fa.2
      clear fa e sb
      repeat' (first | (refine so_is (.assign _) ?_; (refine so_q (qt_asC rfl) rfl ?_)) | (refine so_is (.move _) ?_; (refine so_q (qt_mvC rfl) rfl ?_)) | (refine so_is (.binOp .lss 3 _ _ _) ?_; refine so_q (qt_lss rfl rfl) rfl ?_) | (refine so_is (.binOp .mul 3 _ _ _) ?_; refine so_q (qt_mulI rfl rfl (by (omega))) rfl ?_) | (refine so_is (.binOp .add 3 _ _ _) ?_; refine so_q (qt_addI rfl rfl (by (omega))) rfl ?_) | (refine so_is (.indexAddr 25 _ _) ?_; (refine so_q (qt_idxII rfl rfl (by kernel_rfl) (by (omega)) (by (omega))) rfl ?_)) | (refine so_is (.load 24 _) ?_; (refine so_q (qt_load_pt rfl (by kernel_rfl) rfl) rfl ?_)) | (refine so_is (.indexAddr 24 _ _) ?_; (refine so_q (qt_idxI rfl rfl (by kernel_rfl) (by (omega)) (by (omega))) rfl ?_)) | (refine so_is (.load 3 _) ?_; (refine so_q (qt_load_pt rfl (by kernel_rfl) rfl) rfl ?_)) | refine so_nil ?_ | refine sk_seq ?_ | refine sk_block ?_ | refine sk_blk ?_ | refine sk_exit rfl ?_ | refine sk_skip ?_ | refine sk_region ?_ | refine sk_drawQ 8 (fun _ => false) (.step 0 true (.step 1 true (.step 2 true (.step 3 true (.step 4 true (.step 5 true (.step 6 true (.step 7 true (.step 8 true (.step 9 true (.step 10 true (.step 11 true (.step 12 true (.step 13 true (.step 14 true (.step 15 true (.step 16 true (.step 17 true (.step 18 true (.step 19 true (.step 20 true (.step 21 true (.step 22 true (.step 23 true (.step 24 true .nil))))))))))))))))))))))))) [(0, 33554431, 33554431, true), (0, 33554431, 33554431, true), (0, 33554431, 33554431, true), (0, 33554431, 33554431, true), (12, 33554419, 33554431, true), (0, 33554431, 33554431, true), (48, 33554383, 33554431, true), (66, 33554365, 33554431, true), (128, 33554303, 33554431, false), (0, 33554431, 33554431, true), (0, 33554431, 33554431, true), (1536, 33552895, 33554431, true), (2048, 33552383, 33554431, false), (4096, 33550335, 33554431, true), (0, 33554431, 33554431, true), (0, 33554431, 33554431, true), (0, 33554431, 33554431, true), (98304, 33456127, 33554431, true), (147456, 33406975, 33554431, true), (262144, 33292287, 33554431, false), (532480, 33021951, 33554431, true), (1048832, 32505599, 33554431, true), (2097152, 31457279, 33554431, false), (4194305, 29360126, 33554431, true), (16777215, 25165822, 33554431, true)] (by kernel_rfl) (by kernel_rfl) ?_ | refine sk_if rfl (fun hc => ?_) (fun hc => ?_))
      all_goals first | (exfalso; omega) | skip
      refine sk_back ?_; refine ⟨k + 1, ?_, ?_, le_at rfl (by (repeat (first | exact trivial | refine ⟨(by (first | rfl | (refine int_eq rfl ?_; (omega)))), ?_⟩))) (by (repeat (first | exact trivial | refine ⟨rfl, ?_⟩))) (by (repeat (exact trivial))) (by (repeat (exact trivial)))⟩
      · omega
      · omega
    · have e : k = Y := by omega
      subst e
      repeat' (first | (refine so_is (.assign _) ?_; (refine so_q (qt_asC rfl) rfl ?_)) | (refine so_is (.move _) ?_; (refine so_q (qt_mvC rfl) rfl ?_)) | (refine so_is (.binOp .lss 3 _ _ _) ?_; refine so_q (qt_lss rfl rfl) rfl ?_) | (refine so_is (.binOp .mul 3 _ _ _) ?_; refine so_q (qt_mulI rfl rfl (by (omega))) rfl ?_) | (refine so_is (.binOp .add 3 _ _ _) ?_; refine so_q (qt_addI rfl rfl (by (omega))) rfl ?_) | (refine so_is (.indexAddr 25 _ _) ?_; (refine so_q (qt_idxII rfl rfl (by kernel_rfl) (by (omega)) (by (omega))) rfl ?_)) | (refine so_is (.load 24 _) ?_; (refine so_q (qt_load_pt rfl (by kernel_rfl) rfl) rfl ?_)) | (refine so_is (.indexAddr 24 _ _) ?_; (refine so_q (qt_idxI rfl rfl (by kernel_rfl) (by (omega)) (by (omega))) rfl ?_)) | (refine so_is (.load 3 _) ?_; (refine so_q (qt_load_pt rfl (by kernel_rfl) rfl) rfl ?_)) | refine so_nil ?_ | refine sk_seq ?_ | refine sk_block ?_ | refine sk_blk ?_ | refine sk_exit rfl ?_ | refine sk_skip ?_ | refine sk_region ?_ | refine sk_drawQ 8 (fun _ => false) (.step 0 true (.step 1 true (.step 2 true (.step 3 true (.step 4 true (.step 5 true (.step 6 true (.step 7 true (.step 8 true (.step 9 true (.step 10 true (.step 11 true (.step 12 true (.step 13 true (.step 14 true (.step 15 true (.step 16 true (.step 17 true (.step 18 true (.step 19 true (.step 20 true (.step 21 true (.step 22 true (.step 23 true (.step 24 true .nil))))))))))))))))))))))))) [(0, 33554431, 33554431, true), (0, 33554431, 33554431, true), (0, 33554431, 33554431, true), (0, 33554431, 33554431, true), (12, 33554419, 33554431, true), (0, 33554431, 33554431, true), (48, 33554383, 33554431, true), (66, 33554365, 33554431, true), (128, 33554303, 33554431, false), (0, 33554431, 33554431, true), (0, 33554431, 33554431, true), (1536, 33552895, 33554431, true), (2048, 33552383, 33554431, false), (4096, 33550335, 33554431, true), (0, 33554431, 33554431, true), (0, 33554431, 33554431, true), (0, 33554431, 33554431, true), (98304, 33456127, 33554431, true), (147456, 33406975, 33554431, true), (262144, 33292287, 33554431, false), (532480, 33021951, 33554431, true), (1048832, 32505599, 33554431, true), (2097152, 31457279, 33554431, false), (4194305, 29360126, 33554431, true), (16777215, 25165822, 33554431, true)] (by kernel_rfl) (by kernel_rfl) ?_ | refine sk_if rfl (fun hc => ?_) (fun hc => ?_))
      all_goals first | (exfalso; omega) | skip
      refine sk_back ?_; refine ⟨i + 1, ?_, ?_, le_at rfl (by (repeat (first | exact trivial | refine ⟨(by (rfl)), ?_⟩))) (by (repeat (first | exact trivial | refine ⟨rfl, ?_⟩))) (by (repeat (exact trivial))) (by (repeat (exact trivial)))⟩
      · omega
      · omega
  · have e : i = X := by omega
    subst e
    repeat' (first | (refine so_is (.assign _) ?_; (refine so_q (qt_asC rfl) rfl ?_)) | (refine so_is (.move _) ?_; (refine so_q (qt_mvC rfl) rfl ?_)) | (refine so_is (.binOp .lss 3 _ _ _) ?_; refine so_q (qt_lss rfl rfl) rfl ?_) | refine so_nil ?_ | refine sk_seq ?_ | refine sk_block ?_ | refine sk_exit rfl ?_ | refine sk_skip ?_ | refine sk_region ?_ | refine sk_if rfl (fun hc => ?_) (fun hc => ?_))
    all_goals first | (exfalso; omega) | skip
    (apply sk_ret; apply ret_eq; (· apply RetOK.p; (· (apply GvA.cons; (· exact .tmp _); (· exact GvP.c (.lit _))); exact GvA.nil); (· (decide))))
    rfl
theorem score_p (X Y : Nat) (ws : List Int) (wi : List (List Int)) (pl : List Int) (h : gameB X Y ws wi = true) (hp : bitsB pl ((X : Int) + Y) = true) : PC Try.prog 106 [.g [dI X, dI Y, eI ws, eII wi], .c (eI pl)] (.p (.c (dI (scoG X Y ws wi pl)))) := by
  refine pc_intro Try.func106 rfl rfl rfl (by kernel_rfl) rfl rfl ?_; intro _
  repeat' (first | (refine so_is (.box 27 _) ?_; refine so_box rfl rfl ?_) | (refine so_is (.assign _) ?_; (refine so_q (qt_asC rfl) rfl ?_)) | (refine so_is (.fieldAddr 27 _ 0) ?_; (refine so_q (qt_fld_lp (off := 0) rfl (by kernel_rfl)) rfl ?_)) | (refine so_is (.load 3 _) ?_; (refine so_q (qt_load_box rfl rfl (by kernel_rfl) rfl) rfl ?_)) | (refine so_is (.fieldAddr 27 _ 1) ?_; (refine so_q (qt_fld_lp (off := 1) rfl (by kernel_rfl)) rfl ?_)) | (refine so_is (.load 27 _) ?_; (refine so_q (qt_load_boxs rfl rfl (by kernel_rfl : tAgg _ 27 4 = true) rfl) rfl ?_)) | (refine so_is (.move _) ?_; (refine so_q (qt_mvC rfl) rfl ?_)) | (refine so_is (.call ⟨.value (.func 124), _, _⟩) ?_; (apply so_call0 (fid := 124); (· (repeat (first | exact SeA.nil | (apply SeA.cons; (· (apply SeP.g; (repeat (first | exact SeL.nil | apply SeL.cons (.d _))))))))); (· exact functional_p _ _ _ _ h); (· rfl))) | (refine so_is (.call ⟨.value (.func 189), _, _⟩) ?_; (apply so_call0 (fid := 189); (· (repeat (first | exact SeA.nil | apply SeA.cons (.c (.d _))))); (· exact playWorth_p _ _ _ _ _ h hp); (· rfl))) | refine so_nil ?_ | refine sk_seq ?_ | refine sk_region ?_ | refine sk_drawQ 1 (fun _ => false) (.step 0 true (.step 1 true (.step 2 true (.step 3 true (.step 4 true (.step 6 true (.step 5 false (.step 7 false (.step 8 true .nil))))))))) [(0, 511, 511, true), (1, 510, 511, false), (0, 511, 511, true), (4, 507, 511, false), (0, 511, 511, false), (16, 495, 511, false), (0, 511, 511, true), (106, 405, 511, false), (255, 383, 511, true)] (by kernel_rfl) (by kernel_rfl) ?_)
  all_goals (apply sk_ret; apply ret_eq; (· apply RetOK.p; (· (apply GvA.cons; (· exact .tmp _); (· exact GvP.c (.lit _))); exact GvA.nil); (· (decide))))
  all_goals rfl
theorem PlayScore_p (X Y : Nat) (ws : List Int) (wi : List (List Int)) (pl : List Int) (h : gameB X Y ws wi = true) (hp : bitsB pl ((X : Int) + Y) = true) : PC Try.prog 23 [.g [dI X, dI Y, eI ws, eII wi], .c (eI pl)] (.t [.c (dI (scoG X Y ws wi pl)), .c (dB true)]) := by
  have i1 := isGamePlay_p X Y ws wi pl
  rw [h, hp] at i1
  refine pc_intro Try.func23 rfl rfl rfl (by kernel_rfl) rfl rfl ?_; intro _
  repeat' (first | (refine so_is (.box 27 _) ?_; refine so_box rfl rfl ?_) | (refine so_is (.assign _) ?_; (refine so_q (qt_asC rfl) rfl ?_)) | (refine so_is (.load 27 _) ?_; (refine so_q (qt_load_boxs rfl rfl (by kernel_rfl : tAgg _ 27 4 = true) rfl) rfl ?_)) | (refine so_is (.move _) ?_; (refine so_q (qt_mvC rfl) rfl ?_)) | (refine so_is (.unOp .not 4 _) ?_; refine so_q (qt_not rfl) rfl ?_) | (refine so_is (.call ⟨.value (.func 100), _, _⟩) ?_; (apply so_call0 (fid := 100); (· (repeat (first | exact SeA.nil | apply SeA.cons (.c (.d _)) | (apply SeA.cons; (· (apply SeP.g; (repeat (first | exact SeL.nil | apply SeL.cons (.d _))))))))); (· exact i1); (· rfl))) | (refine so_is (.call ⟨.value (.func 106), _, _⟩) ?_; ((apply so_call0 (fid := 106); (· (repeat (first | exact SeA.nil | apply SeA.cons (.c (.d _)) | (apply SeA.cons; (· (apply SeP.g; (repeat (first | exact SeL.nil | apply SeL.cons (.d _))))))))); (· exact score_p _ _ _ _ _ h hp); (· rfl)))) | refine so_nil ?_ | refine sk_seq ?_ | refine sk_skip ?_ | refine sk_region ?_ | refine sk_false rfl ?_)
  all_goals (apply sk_ret; apply ret_eq; (· apply RetOK.t; (· (apply GvA.cons; (· exact .tmp _); (· exact GvP.c (.lit _))); (apply GvA.cons; (· exact .tmp _); (· exact GvP.c (.lit _))); exact GvA.nil); (· rfl); (· (decide))))
  all_goals rfl
theorem lost_p (X Y : Nat) (ws : List Int) (wi : List (List Int)) (pl : List Int) (h : gameB X Y ws wi = true) (hp : bitsB pl ((X : Int) + Y) = true) : PC Try.prog 121 [.g [dI X, dI Y, eI ws, eII wi], .c (eI pl)] (.p (.c (eI (lostL X Y ws wi pl)))) := by
  obtain ⟨x, y, e1, e2, hx, hy, wl, il, h9⟩ := game_nat h
  obtain rfl : X = x := by omega
  obtain rfl : Y = y := by omega
  have pln := bitsB_len hp
  have ul := fun m => usedL_len m (lostP X Y ws wi pl)
  have z0 : usedL 0 (lostP X Y ws wi pl) = [] := rfl
  refine pc_intro Try.func121 rfl rfl rfl (by kernel_rfl) rfl rfl ?_; intro _
  repeat' (first | (refine so_is (.box 27 _) ?_; refine so_box rfl rfl ?_) | (refine so_is (.assign _) ?_; (refine so_q (qt_asC rfl) rfl ?_)) | (refine so_is (.buildSlice 24 0 _) ?_; (apply so_bslice (sz := 1) (by_ := 8); (· kernel_rfl); (· decide); (· (repeat (exact GvS.nil _))); (· (decide)); (· rfl); (· rfl); (· rfl))) | (refine so_is (.fieldAddr 27 _ 0) ?_; (refine so_q (qt_fld_lp (off := 0) rfl (by kernel_rfl)) rfl ?_)) | (refine so_is (.load 3 _) ?_; (refine so_q (qt_load_box rfl rfl (by kernel_rfl) rfl) rfl ?_)) | (refine so_is (.move _) ?_; (refine so_q (qt_mvC rfl) rfl ?_)) | refine so_nil ?_ | refine sk_seq ?_ | refine sk_block ?_ | refine sk_region ?_)
  apply sk_packC [1, 2, 5, 11, 12] [2, 9, 57, 58] rfl; (· (repeat (first | exact Pf.nil | apply Pf.cons (.c rfl (.d rfl)) | apply Pf.cons (.c rfl (.ls rfl)) | apply Pf.cons (.c rfl (.lp rfl))))); (· (repeat (first | exact Pb.nil | apply Pb.cons (.row rfl) | (apply Pb.cons; (· apply Nb.box rfl; (repeat (first | exact Ncs.nil rfl | (apply Ncs.cons rfl; (· (exact .d rfl))))))) | apply Pb.skip)))
  refine sk_loopL [1, 2, 11] [2, 57, 58] (fun i => [(12, iN i), (5, .c (.ls 9 1 0 (usedL (Y * i) (lostP X Y ws wi pl)).length))]) (fun i => [(9, .row 1 (cI (usedL (Y * i) (lostP X Y ws wi pl))))]) (fun i => i ≤ X) (fun i => X - i) (0) ?_ (by (repeat (first | exact trivial | refine ⟨(by (rfl)), ?_⟩))) (by (repeat (first | exact trivial | refine ⟨(by ((refine row_eq rfl ?_; simp  [z0]; done))), ?_⟩))) ?_
  · omega
  intro i hi
  by_cases hi2 : i < X
  · repeat' (first | (refine so_is (.assign _) ?_; (refine so_q (qt_asC rfl) rfl ?_)) | (refine so_is (.load 3 _) ?_; (refine so_q (qt_load_box rfl rfl (by kernel_rfl) rfl) rfl ?_)) | (refine so_is (.move _) ?_; (refine so_q (qt_mvC rfl) rfl ?_)) | (refine so_is (.binOp .lss 3 _ _ _) ?_; refine so_q (qt_lss rfl rfl) rfl ?_) | (refine so_is (.fieldAddr 27 _ 1) ?_; (refine so_q (qt_fld_lp (off := 1) rfl (by kernel_rfl)) rfl ?_)) | refine so_nil ?_ | refine sk_seq ?_ | refine sk_block ?_ | refine sk_exit rfl ?_ | refine sk_skip ?_ | refine sk_region ?_ | refine sk_if rfl (fun hc => ?_) (fun hc => ?_))
    all_goals first | (exfalso; omega) | skip
    apply sk_packC [1, 2, 5, 6, 11, 12, 16, 17] [2, 9, 57, 58] rfl; (· (repeat (first | exact Pf.nil | apply Pf.cons (.c rfl (.d rfl)) | apply Pf.cons (.c rfl (.ls rfl)) | apply Pf.cons (.c rfl (.lp rfl))))); (· (repeat (first | exact Pb.nil | apply Pb.cons (.row rfl) | (apply Pb.cons; (· apply Nb.box rfl; (repeat (first | exact Ncs.nil rfl | (apply Ncs.cons rfl; (· (exact .d rfl))))))) | apply Pb.skip)))
    refine sk_loopL [1, 2, 6, 11, 12, 16] [2, 57, 58] (fun k => [(17, iN k), (5, .c (.ls 9 1 0 (usedL (Y * i + k) (lostP X Y ws wi pl)).length))]) (fun k => [(9, .row 1 (cI (usedL (Y * i + k) (lostP X Y ws wi pl))))]) (fun k => k ≤ Y) (fun k => Y - k) (0) ?_ (by (repeat (first | exact trivial | refine ⟨(by (rfl)), ?_⟩))) (by (repeat (first | exact trivial | refine ⟨(by ((refine row_eq rfl ?_; simp; done))), ?_⟩))) ?_
    · omega
    intro k hk
    by_cases hk2 : k < Y
    · have ok := pair_ok h hi2 hk2
      have o1 := ok.lt2; have o2 := ok.ge; have o3 := ok.le; have o4 := ok.g1; have o5 := ok.g2; have o6 := ok.lt; have o7 := ok.len
      have f := flip4 hp hi2 hk2
      have ob := ok.bit _ f.2.2.1 f.2.2.2
      have lt := idx_ltN (i := i) (k := k) (X := X) (Y := Y) hi2 hk2
      have ul := ul (Y * i + k)
      have us := usedL_succ (Y * i + k) (lostP X Y ws wi pl)
      rw [lostP_at ws wi pl hk2, Nat.add_assoc, pair_cast] at us
      repeat' (first | (refine so_is (.assign _) ?_; (refine so_q (qt_asC rfl) rfl ?_)) | (refine so_is (.fieldAddr 27 _ 0) ?_; (refine so_q (qt_fld_lp (off := 0) rfl (by kernel_rfl)) rfl ?_)) | (refine so_is (.load 3 _) ?_; (first | refine so_q (qt_load_box rfl rfl (by kernel_rfl) rfl) rfl ?_ | refine so_q (qt_load_pt rfl (by kernel_rfl) rfl) rfl ?_)) | (refine so_is (.move _) ?_; (refine so_q (qt_mvC rfl) rfl ?_)) | (refine so_is (.binOp .lss 3 _ _ _) ?_; refine so_q (qt_lss rfl rfl) rfl ?_) | (refine so_is (.fieldAddr 27 _ 1) ?_; (refine so_q (qt_fld_lp (off := 1) rfl (by kernel_rfl)) rfl ?_)) | (refine so_is (.binOp .mul 3 _ _ _) ?_; refine so_q (qt_mulI rfl rfl (by (omega))) rfl ?_) | (refine so_is (.binOp .add 3 _ _ _) ?_; refine so_q (qt_addI rfl rfl (by (omega))) rfl ?_) | (refine so_is (.fieldAddr 27 _ 2) ?_; (refine so_q (qt_fld_lp (off := 2) rfl (by kernel_rfl)) rfl ?_)) | (refine so_is (.load 24 _) ?_; (first | refine so_q (qt_load_box rfl rfl (by kernel_rfl) rfl) rfl ?_ | refine so_q (qt_load_pt rfl (by kernel_rfl) rfl) rfl ?_)) | (refine so_is (.indexAddr 24 _ _) ?_; (refine so_q (qt_idxI rfl rfl (by kernel_rfl) (by (omega)) (by (omega))) rfl ?_)) | (refine so_is (.binOp .gtr 3 _ _ _) ?_; refine so_q (qt_gtr rfl rfl) rfl ?_) | (refine so_is (.fieldAddr 27 _ 3) ?_; (refine so_q (qt_fld_lp (off := 3) rfl (by kernel_rfl)) rfl ?_)) | (refine so_is (.load 25 _) ?_; (refine so_q (qt_load_box rfl rfl (by kernel_rfl) rfl) rfl ?_)) | (refine so_is (.indexAddr 25 _ _) ?_; (refine so_q (qt_idxII rfl rfl (by kernel_rfl) (by (omega)) (by (omega))) rfl ?_)) | (refine so_is (.binOp .eql 3 _ _ _) ?_; refine so_q (qt_eql rfl rfl) rfl ?_) | (refine so_is (.pick _ _ _) ?_; (refine so_q (qt_pkC rfl rfl) rfl ?_)) | (refine so_is (.buildSlice 24 1 _) ?_; (apply so_bslice (sz := 1) (by_ := 8); (· kernel_rfl); (· decide); (· (repeat (first | exact GvS.nil _ | apply GvS.c rfl rfl (.lit _) rfl))); (· (decide)); (· rfl); (· rfl); (· rfl))) | (refine so_is (.call ⟨.builtin .append, _, #[24, 24]⟩) ?_; ((apply so_appR (sz := 1) (by_ := 8); (· rfl); (· rfl); (· ((simp; done))); (· exact .row _ _ _ _ rfl (by ((simp; done)))); (· (decide)); (· kernel_rfl); (· decide); (· (omega)); (· (omega)); (· rfl); (· rfl); (· rfl)))) | refine so_nil ?_ | refine so_g_no rfl rfl rfl rfl ?_ | refine so_g_yes rfl rfl rfl rfl ?_ | refine so_g_if rfl rfl (fun hg => ?_) (fun hg => ?_) | refine sk_seq ?_ | refine sk_block ?_ | refine sk_blk ?_ | refine sk_exit rfl ?_ | refine sk_skip ?_ | refine sk_region ?_ | refine sk_drawQ 9 (fun _ => false) (.step 0 true (.step 1 true (.step 2 true (.step 3 true (.step 4 true (.step 5 true (.step 6 true (.step 7 true (.step 8 true (.step 9 true (.step 10 true (.step 11 true (.step 12 true (.step 13 true (.step 14 true (.step 15 true (.step 16 true (.step 17 true (.step 18 true (.step 19 true (.step 20 true (.step 21 true (.step 22 true (.step 23 true (.step 24 true (.step 25 true (.step 26 true (.step 27 true (.step 28 true .nil))))))))))))))))))))))))))))) [(0, 536870911, 536870911, true), (1, 536870910, 536870911, false), (0, 536870911, 536870911, true), (6, 536870905, 536870911, true), (8, 536870903, 536870911, false), (16, 536870895, 536870911, true), (32, 536870879, 536870911, true), (64, 536870847, 536870911, true), (192, 536870719, 536870911, false), (64, 536870847, 536870911, true), (832, 536870079, 536870911, true), (1088, 536869823, 536870911, false), (64, 536870847, 536870911, true), (64, 536870847, 536870911, true), (12352, 536858559, 536870911, true), (16448, 536854463, 536870911, false), (32832, 536838079, 536870911, true), (64, 536870847, 536870911, true), (64, 536870847, 536870911, true), (262208, 536608703, 536870911, false), (64, 536870847, 536870911, true), (1572928, 535297983, 536870911, true), (2228288, 534642623, 536870911, true), (4194368, 532676543, 536870911, false), (8454208, 528416703, 536870911, true), (16779328, 520091583, 536870911, true), (33554496, 503316415, 536870911, false), (67108928, 469761983, 536870911, true), (134217792, 402653119, 536870911, true)] (by kernel_rfl) (by kernel_rfl) ?_ | refine sk_false rfl ?_ | refine sk_if rfl (fun hc => ?_) (fun hc => ?_))
      all_goals first | (exfalso; omega) | skip
      · rw [if_pos (by simp only [decide_eq_true hg, decide_eq_true hc]; rfl)] at us
        refine sk_back ?_; refine ⟨k + 1, ?_, ?_, le_at rfl (by (repeat (first | exact trivial | refine ⟨(by (first | rfl | (refine ls_eq rfl ?_; ((simp  [us]; done))))), ?_⟩))) (by (repeat (first | exact trivial | refine ⟨rfl, ?_⟩))) (by (repeat (first | exact trivial | refine ⟨(by ((refine row_eq rfl ?_; simp  [us]; done))), ?_⟩))) (by (repeat (first | exact trivial | refine ⟨.inr rfl, ?_⟩)))⟩
        · omega
        · omega
      · rw [if_neg (by simp only [decide_eq_false hc, Bool.and_false]; decide)] at us
        refine sk_back ?_; refine ⟨k + 1, ?_, ?_, le_at rfl (by (repeat (first | exact trivial | refine ⟨(by (first | rfl | (refine ls_eq rfl ?_; ((simp  [us]; done))))), ?_⟩))) (by (repeat (first | exact trivial | refine ⟨rfl, ?_⟩))) (by (repeat (first | exact trivial | refine ⟨(by ((refine row_eq rfl ?_; simp  [us]; done))), ?_⟩))) (by (repeat (first | exact trivial | refine ⟨.inr rfl, ?_⟩)))⟩
        · omega
        · omega
      · rw [if_neg (by simp only [decide_eq_false hg, Bool.false_and]; decide)] at us
        refine sk_back ?_; refine ⟨k + 1, ?_, ?_, le_at rfl (by (repeat (first | exact trivial | refine ⟨(by (first | rfl | (refine ls_eq rfl ?_; ((simp  [us]; done))))), ?_⟩))) (by (repeat (first | exact trivial | refine ⟨rfl, ?_⟩))) (by (repeat (first | exact trivial | refine ⟨(by ((refine row_eq rfl ?_; simp  [us]; done))), ?_⟩))) (by (repeat (first | exact trivial | refine ⟨.inr rfl, ?_⟩)))⟩
        · omega
        · omega
    · have e : k = Y := by omega
      subst e
      repeat' (first | (refine so_is (.assign _) ?_; (refine so_q (qt_asC rfl) rfl ?_)) | (refine so_is (.fieldAddr 27 _ 0) ?_; (refine so_q (qt_fld_lp (off := 0) rfl (by kernel_rfl)) rfl ?_)) | (refine so_is (.load 3 _) ?_; (first | refine so_q (qt_load_box rfl rfl (by kernel_rfl) rfl) rfl ?_ | refine so_q (qt_load_pt rfl (by kernel_rfl) rfl) rfl ?_)) | (refine so_is (.move _) ?_; (refine so_q (qt_mvC rfl) rfl ?_)) | (refine so_is (.binOp .lss 3 _ _ _) ?_; refine so_q (qt_lss rfl rfl) rfl ?_) | (refine so_is (.fieldAddr 27 _ 1) ?_; (refine so_q (qt_fld_lp (off := 1) rfl (by kernel_rfl)) rfl ?_)) | (refine so_is (.binOp .mul 3 _ _ _) ?_; refine so_q (qt_mulI rfl rfl (by (omega))) rfl ?_) | (refine so_is (.binOp .add 3 _ _ _) ?_; refine so_q (qt_addI rfl rfl (by (omega))) rfl ?_) | (refine so_is (.fieldAddr 27 _ 2) ?_; (refine so_q (qt_fld_lp (off := 2) rfl (by kernel_rfl)) rfl ?_)) | (refine so_is (.load 24 _) ?_; (first | refine so_q (qt_load_box rfl rfl (by kernel_rfl) rfl) rfl ?_ | refine so_q (qt_load_pt rfl (by kernel_rfl) rfl) rfl ?_)) | (refine so_is (.indexAddr 24 _ _) ?_; (refine so_q (qt_idxI rfl rfl (by kernel_rfl) (by (omega)) (by (omega))) rfl ?_)) | (refine so_is (.binOp .gtr 3 _ _ _) ?_; refine so_q (qt_gtr rfl rfl) rfl ?_) | (refine so_is (.fieldAddr 27 _ 3) ?_; (refine so_q (qt_fld_lp (off := 3) rfl (by kernel_rfl)) rfl ?_)) | (refine so_is (.load 25 _) ?_; (refine so_q (qt_load_box rfl rfl (by kernel_rfl) rfl) rfl ?_)) | (refine so_is (.indexAddr 25 _ _) ?_; (refine so_q (qt_idxII rfl rfl (by kernel_rfl) (by (omega)) (by (omega))) rfl ?_)) | (refine so_is (.binOp .eql 3 _ _ _) ?_; refine so_q (qt_eql rfl rfl) rfl ?_) | (refine so_is (.pick _ _ _) ?_; (refine so_q (qt_pkC rfl rfl) rfl ?_)) | (refine so_is (.buildSlice 24 1 _) ?_; (apply so_bslice (sz := 1) (by_ := 8); (· kernel_rfl); (· decide); (· (repeat (first | exact GvS.nil _ | apply GvS.c rfl rfl (.lit _) rfl))); (· (decide)); (· rfl); (· rfl); (· rfl))) | (refine so_is (.call ⟨.builtin .append, _, #[24, 24]⟩) ?_; ((apply so_appR (sz := 1) (by_ := 8); (· rfl); (· rfl); (· ((simp; done))); (· exact .row _ _ _ _ rfl (by ((simp; done)))); (· (decide)); (· kernel_rfl); (· decide); (· (omega)); (· (omega)); (· rfl); (· rfl); (· rfl)))) | refine so_nil ?_ | refine so_g_no rfl rfl rfl rfl ?_ | refine so_g_yes rfl rfl rfl rfl ?_ | refine so_g_if rfl rfl (fun hg => ?_) (fun hg => ?_) | refine sk_seq ?_ | refine sk_block ?_ | refine sk_blk ?_ | refine sk_exit rfl ?_ | refine sk_skip ?_ | refine sk_region ?_ | refine sk_drawQ 9 (fun _ => false) (.step 0 true (.step 1 true (.step 2 true (.step 3 true (.step 4 true (.step 5 true (.step 6 true (.step 7 true (.step 8 true (.step 9 true (.step 10 true (.step 11 true (.step 12 true (.step 13 true (.step 14 true (.step 15 true (.step 16 true (.step 17 true (.step 18 true (.step 19 true (.step 20 true (.step 21 true (.step 22 true (.step 23 true (.step 24 true (.step 25 true (.step 26 true (.step 27 true (.step 28 true .nil))))))))))))))))))))))))))))) [(0, 536870911, 536870911, true), (1, 536870910, 536870911, false), (0, 536870911, 536870911, true), (6, 536870905, 536870911, true), (8, 536870903, 536870911, false), (16, 536870895, 536870911, true), (32, 536870879, 536870911, true), (64, 536870847, 536870911, true), (192, 536870719, 536870911, false), (64, 536870847, 536870911, true), (832, 536870079, 536870911, true), (1088, 536869823, 536870911, false), (64, 536870847, 536870911, true), (64, 536870847, 536870911, true), (12352, 536858559, 536870911, true), (16448, 536854463, 536870911, false), (32832, 536838079, 536870911, true), (64, 536870847, 536870911, true), (64, 536870847, 536870911, true), (262208, 536608703, 536870911, false), (64, 536870847, 536870911, true), (1572928, 535297983, 536870911, true), (2228288, 534642623, 536870911, true), (4194368, 532676543, 536870911, false), (8454208, 528416703, 536870911, true), (16779328, 520091583, 536870911, true), (33554496, 503316415, 536870911, false), (67108928, 469761983, 536870911, true), (134217792, 402653119, 536870911, true)] (by kernel_rfl) (by kernel_rfl) ?_ | refine sk_false rfl ?_ | refine sk_if rfl (fun hc => ?_) (fun hc => ?_))
      all_goals first | (exfalso; omega) | skip
      refine sk_back ?_; refine ⟨i + 1, ?_, ?_, le_at rfl (by (repeat (first | exact trivial | refine ⟨(by (rfl)), ?_⟩))) (by (repeat (first | exact trivial | refine ⟨rfl, ?_⟩))) (by (repeat (first | exact trivial | refine ⟨(by ((refine row_eq rfl ?_; simp  [Nat.mul_add]; done))), ?_⟩))) (by (repeat (first | exact trivial | refine ⟨.inr rfl, ?_⟩)))⟩
      · omega
      · omega
  · have e : i = X := by omega
    subst e
    repeat' (first | (refine so_is (.assign _) ?_; (refine so_q (qt_asC rfl) rfl ?_)) | (refine so_is (.load 3 _) ?_; (refine so_q (qt_load_box rfl rfl (by kernel_rfl) rfl) rfl ?_)) | (refine so_is (.move _) ?_; (refine so_q (qt_mvC rfl) rfl ?_)) | (refine so_is (.binOp .lss 3 _ _ _) ?_; refine so_q (qt_lss rfl rfl) rfl ?_) | (refine so_is (.fieldAddr 27 _ 1) ?_; (refine so_q (qt_fld_lp (off := 1) rfl (by kernel_rfl)) rfl ?_)) | refine so_nil ?_ | refine sk_seq ?_ | refine sk_block ?_ | refine sk_exit rfl ?_ | refine sk_skip ?_ | refine sk_region ?_ | refine sk_if rfl (fun hc => ?_) (fun hc => ?_))
    all_goals first | (exfalso; omega) | skip
    (apply sk_ret; apply ret_eq; (· apply RetOK.p; (· (apply GvA.cons; (· exact .tmp _); (· (exact GvP.c (.row _ _ _ _ rfl (by ((simp; done))))))); exact GvA.nil); (· (decide))))
    rfl
theorem LostPairs_p (X Y : Nat) (ws : List Int) (wi : List (List Int)) (pl : List Int) (h : gameB X Y ws wi = true) (hp : bitsB pl ((X : Int) + Y) = true) : PC Try.prog 41 [.g [dI X, dI Y, eI ws, eII wi], .c (eI pl)] (.t [.c (eI (lostL X Y ws wi pl)), .c (dB true)]) := by
  have i1 := isGamePlay_p X Y ws wi pl
  rw [h, hp] at i1
  have ll := usedL_len (Y * X) (lostP X Y ws wi pl)
  refine pc_intro Try.func41 rfl rfl rfl (by kernel_rfl) rfl rfl ?_; intro _
  repeat' (first | (refine so_is (.box 27 _) ?_; refine so_box rfl rfl ?_) | (refine so_is (.assign _) ?_; (refine so_q (qt_asC rfl) rfl ?_)) | (refine so_is (.load 27 _) ?_; (refine so_q (qt_load_boxs rfl rfl (by kernel_rfl : tAgg _ 27 4 = true) rfl) rfl ?_)) | (refine so_is (.move _) ?_; (refine so_q (qt_mvC rfl) rfl ?_)) | (refine so_is (.unOp .not 4 _) ?_; refine so_q (qt_not rfl) rfl ?_) | (refine so_is (.call ⟨.value (.func 100), _, _⟩) ?_; (apply so_call0 (fid := 100); (· (repeat (first | exact SeA.nil | apply SeA.cons (.c (.d _)) | (apply SeA.cons; (· (apply SeP.g; (repeat (first | exact SeL.nil | apply SeL.cons (.d _))))))))); (· exact i1); (· rfl))) | (refine so_is (.call ⟨.value (.func 121), _, _⟩) ?_; ((apply so_callO0 (fid := 121); (· (repeat (first | exact SeA.nil | apply SeA.cons (.c (.d _)) | (apply SeA.cons; (· (apply SeP.g; (repeat (first | exact SeL.nil | apply SeL.cons (.d _))))))))); (· exact lost_p _ _ _ _ _ h hp); (· rfl); (· rfl)))) | refine so_nil ?_ | refine sk_seq ?_ | refine sk_skip ?_ | refine sk_region ?_ | refine sk_false rfl ?_)
  all_goals (apply sk_ret; apply ret_eq; (· apply RetOK.t; (· (apply GvA.cons; (· exact .tmp _); (· (exact GvP.c (.row _ _ _ _ rfl (by ((simp; done))))))); (apply GvA.cons; (· exact .tmp _); (· exact GvP.c (.lit _))); exact GvA.nil); (· rfl); (· (decide))))
  all_goals rfl
theorem TotalWeight_p (X Y : Int) (ws : List Int) (wi : List (List Int)) : PC Try.prog 33 [.g [dI X, dI Y, eI ws, eII wi]] (.t [.c (dI (whenN (gameB X Y ws wi) (sum64 ws))), .c (dB (gameB X Y ws wi))]) := by
  have i1 := IsGame_p X Y ws wi
  cases h : gameB X Y ws wi with
  | false =>
    rw [h] at i1
    refine pc_intro Try.func33 rfl rfl rfl (by kernel_rfl) rfl rfl ?_; intro _
    repeat' (first | (refine so_is (.box 27 _) ?_; refine so_box rfl rfl ?_) | (refine so_is (.assign _) ?_; (refine so_q (qt_asC rfl) rfl ?_)) | (refine so_is (.load 27 _) ?_; (refine so_q (qt_load_boxs rfl rfl (by kernel_rfl : tAgg _ 27 4 = true) rfl) rfl ?_)) | (refine so_is (.unOp .not 4 _) ?_; refine so_q (qt_not rfl) rfl ?_) | (refine so_is (.call ⟨.value (.func 29), _, _⟩) ?_; (apply so_call0 (fid := 29); (· (repeat (first | exact SeA.nil | (apply SeA.cons; (· (apply SeP.g; (repeat (first | exact SeL.nil | apply SeL.cons (.d _))))))))); (· exact i1); (· rfl))) | refine so_nil ?_ | refine sk_seq ?_ | refine sk_region ?_ | refine sk_true rfl ?_)
    all_goals (apply sk_ret; apply ret_eq; (· apply RetOK.t; (· (apply GvA.cons; (· exact .tmp _); (· exact GvP.c (.lit _))); (apply GvA.cons; (· exact .tmp _); (· exact GvP.c (.lit _))); exact GvA.nil); (· rfl); (· (decide))))
    all_goals rfl
  | true =>
    rw [h] at i1
    refine pc_intro Try.func33 rfl rfl rfl (by kernel_rfl) rfl rfl ?_; intro _
    repeat' (first | (refine so_is (.box 27 _) ?_; refine so_box rfl rfl ?_) | (refine so_is (.assign _) ?_; (refine so_q (qt_asC rfl) rfl ?_)) | (refine so_is (.load 27 _) ?_; (refine so_q (qt_load_boxs rfl rfl (by kernel_rfl : tAgg _ 27 4 = true) rfl) rfl ?_)) | (refine so_is (.unOp .not 4 _) ?_; refine so_q (qt_not rfl) rfl ?_) | (refine so_is (.fieldAddr 27 _ 2) ?_; (refine so_q (qt_fld_lp (off := 2) rfl (by kernel_rfl)) rfl ?_)) | (refine so_is (.load 24 _) ?_; (refine so_q (qt_load_box rfl rfl (by kernel_rfl) rfl) rfl ?_)) | (refine so_is (.call ⟨.value (.func 29), _, _⟩) ?_; (apply so_call0 (fid := 29); (· (repeat (first | exact SeA.nil | (apply SeA.cons; (· (apply SeP.g; (repeat (first | exact SeL.nil | apply SeL.cons (.d _))))))))); (· exact i1); (· rfl))) | (refine so_is (.call ⟨.value (.func 120), _, _⟩) ?_; ((apply so_call0 (fid := 120); (· (repeat (first | exact SeA.nil | apply SeA.cons (.c (.d _))))); (· exact total_p _); (· rfl)))) | refine so_nil ?_ | refine sk_seq ?_ | refine sk_skip ?_ | refine sk_region ?_ | refine sk_false rfl ?_)
    all_goals (apply sk_ret; apply ret_eq; (· apply RetOK.t; (· (apply GvA.cons; (· exact .tmp _); (· exact GvP.c (.lit _))); (apply GvA.cons; (· exact .tmp _); (· exact GvP.c (.lit _))); exact GvA.nil); (· rfl); (· (decide))))
    all_goals rfl

end Go.Proofs.Ytefbiejoikpkmaa

namespace Go.Proofs.Ytefbiejoikpkmaa
open Go.RowKit
set_option linter.unusedSectionVars false
variable [Glb]
set_option maxRecDepth 10000
set_option maxHeartbeats 4000000
def bestD (s : Nat → Int) (n : Nat) : Nat → D
  | 0 => .lit (.slice none 0 0)
  | i + 1 => eI (bitsM n (bstT s (i + 1)))
theorem bestD_pos (s : Nat → Int) (n : Nat) {i : Nat} (h : 0 < i) : bestD s n i = eI (bitsM n (bstT s i)) := by
  cases i with
  | zero => omega
  | succ i => rfl
theorem BestPlay_no (X Y : Int) (ws : List Int) (wi : List (List Int)) (h : gameB X Y ws wi = false) : PC Try.prog 19 [.g [dI X, dI Y, eI ws, eII wi]] (.t [.c (eI []), .c (dI 0), .c (dB false)]) := by
  have i1 := IsGame_p X Y ws wi
  rw [h] at i1
  refine pc_intro Try.func19 rfl rfl rfl (by kernel_rfl) rfl rfl ?_; intro _
  repeat' (first | (refine so_is (.box 27 _) ?_; refine so_box rfl rfl ?_) | (refine so_is (.assign _) ?_; (refine so_q (qt_asC rfl) rfl ?_)) | (refine so_is (.load 27 _) ?_; (refine so_q (qt_load_boxs rfl rfl (by kernel_rfl : tAgg _ 27 4 = true) rfl) rfl ?_)) | (refine so_is (.unOp .not 4 _) ?_; refine so_q (qt_not rfl) rfl ?_) | (refine so_is (.call ⟨.value (.func 29), _, _⟩) ?_; (apply so_call0 (fid := 29); (· (repeat (first | exact SeA.nil | (apply SeA.cons; (· (apply SeP.g; (repeat (first | exact SeL.nil | apply SeL.cons (.d _))))))))); (· exact i1); (· rfl))) | refine so_nil ?_ | refine sk_seq ?_ | refine sk_region ?_ | refine sk_true rfl ?_)
  all_goals (apply sk_ret; apply ret_eq; (· apply RetOK.t; (· (apply GvA.cons; (· exact .tmp _); (· (exact GvP.c (.nil 1 (by decide))))); (apply GvA.cons; (· exact .tmp _); (· exact GvP.c (.lit _))); (apply GvA.cons; (· exact .tmp _); (· exact GvP.c (.lit _))); exact GvA.nil); (· rfl); (· (decide))))
  all_goals rfl
theorem BestPlay_v (X Y : Nat) (ws : List Int) (wi : List (List Int)) (h : gameB X Y ws wi = true) : PV Try.prog 19 [.g [dI X, dI Y, eI ws, eII wi]] (.t [.c (eI (bestG X Y ws wi)), .c (dI (valueG X Y ws wi)), .c (dB true)]) := by
  obtain ⟨x, y, e1, e2, hx, hy, wl, il, h9⟩ := game_nat h
  obtain rfl : X = x := by omega
  obtain rfl : Y = y := by omega
  have i1 := IsGame_p X Y ws wi
  rw [h] at i1
  have pl := plays_p X Y (by omega)
  have Pl : (playsF (X + Y)).length = 2 ^ (X + Y) := playsF_len _
  have Pa := fun k (hk : k < 2 ^ (X + Y)) => playsF_at (n := X + Y) hk
  have hN : 0 < 2 ^ (X + Y) := Nat.two_pow_pos _
  have hN2 : 2 ^ (X + Y) ≤ 2 ^ 6 := Nat.pow_le_pow_right (by omega) (by omega)
  have sb := fun c => playN_bd h c
  have sc : ∀ c, PC Try.prog 106 [.g [dI X, dI Y, eI ws, eII wi], .c (eI (bitsM (X + Y) c))] (.p (.c (dI (playN X Y ws wi c)))) := fun c => score_p X Y ws wi _ h (by rw [← Int.natCast_add]; exact bitsM_bits _ _)
  have eb : eI (bestG X Y ws wi) = bestD (playN X Y ws wi) (X + Y) (2 ^ (X + Y)) := (bestD_pos _ _ hN).symm
  have ev : valueG X Y ws wi = valN (playN X Y ws wi) (2 ^ (X + Y)) := by
    obtain ⟨j, hj⟩ := Nat.exists_eq_succ_of_ne_zero (show 2 ^ (X + Y) ≠ 0 by omega)
    unfold valueG bestC
    rw [hj]
    rfl
  rw [eb, ev]
  clear eb ev
  generalize playN X Y ws wi = s at *
  generalize playsF (X + Y) = P at *
  generalize 2 ^ (X + Y) = N at *
  generalize X + Y = m at *
  refine pv_intro Try.func19 rfl rfl rfl (by kernel_rfl) rfl rfl ?_; intro X c0 _
  repeat' (first | (refine so_is (.box 27 _) ?_; refine so_box rfl rfl ?_) | (refine so_is (.assign _) ?_; (refine so_q (qt_asC rfl) rfl ?_)) | (refine so_is (.load 27 _) ?_; (refine so_q (qt_load_boxs rfl rfl (by kernel_rfl : tAgg _ 27 4 = true) rfl) rfl ?_)) | (refine so_is (.unOp .not 4 _) ?_; refine so_q (qt_not rfl) rfl ?_) | (refine so_is (.fieldAddr 27 _ 0) ?_; (refine so_q (qt_fld_lp (off := 0) rfl (by kernel_rfl)) rfl ?_)) | (refine so_is (.load 3 _) ?_; (refine so_q (qt_load_box rfl rfl (by kernel_rfl) rfl) rfl ?_)) | (refine so_is (.fieldAddr 27 _ 1) ?_; (refine so_q (qt_fld_lp (off := 1) rfl (by kernel_rfl)) rfl ?_)) | (refine so_is (.call ⟨.builtin .len, _, #[25]⟩) ?_; (refine so_q (qt_len_d rfl (by kernel_rfl)) rfl ?_)) | (refine so_is (.move _) ?_; (refine so_q (qt_mvC rfl) rfl ?_)) | (refine so_is (.call ⟨.value (.func 29), _, _⟩) ?_; ((apply so_call0 (fid := 29); (· (repeat (first | exact SeA.nil | (apply SeA.cons; (· (apply SeP.g; (repeat (first | exact SeL.nil | apply SeL.cons (.d _))))))))); (· exact i1); (· rfl)))) | (refine so_is (.call ⟨.value (.func 92), _, _⟩) ?_; ((apply so_call0 (fid := 92); (· (repeat (first | exact SeA.nil | apply SeA.cons (.c (.d _))))); (· exact pl); (· rfl)))) | refine so_nil ?_ | refine sk_seq ?_ | refine sk_block ?_ | refine sk_skip ?_ | refine sk_region ?_ | refine sk_false rfl ?_)
  all_goals first | (exfalso; omega) | skip
  apply sk_packC [1, 5, 6, 17, 18, 19] [1, 17, 900000000] rfl; (· (repeat (first | exact Pf.nil | apply Pf.cons (.c rfl (.d rfl)) | apply Pf.cons (.c rfl (.lp rfl))))); (· (repeat (first | exact Pb.nil | (apply Pb.cons; (· apply Nb.box rfl; (repeat (first | exact Ncs.nil rfl | (apply Ncs.cons rfl; (· (exact .d rfl))))))) | apply Pb.cons (.any rfl) | apply Pb.skip)))
  refine sk_loopL [1, 17, 18] [1, 17, 900000000] (fun i => [(19, iN i), (5, .c (.d (bestD s m i))), (6, iZ (valN s i))]) (fun _ => []) (fun i => i ≤ N) (fun i => N - i) (0) ?_ (by (repeat (first | exact trivial | refine ⟨(by (rfl)), ?_⟩))) (by (repeat (exact trivial))) ?_
  · omega
  intro i hi
  by_cases hi2 : i < N
  · have pa := Pa i hi2
    have sc := sc i
    rw [← pa] at sc
    have sb := sb i
    repeat' (first | (refine so_is (.assign _) ?_; (refine so_q (qt_asC rfl) rfl ?_)) | (refine so_is (.load 27 _) ?_; (refine so_q (qt_load_boxs rfl rfl (by kernel_rfl : tAgg _ 27 4 = true) rfl) rfl ?_)) | (refine so_is (.move _) ?_; (refine so_q (qt_mvC rfl) rfl ?_)) | (refine so_is (.binOp .lss 3 _ _ _) ?_; refine so_q (qt_lss rfl rfl) rfl ?_) | (refine so_is (.indexAddr 25 _ _) ?_; (refine so_q (qt_idxII rfl rfl (by kernel_rfl) (by (omega)) (by (omega))) rfl ?_)) | (refine so_is (.load 24 _) ?_; (refine so_q (qt_load_pt rfl (by kernel_rfl) rfl) rfl ?_)) | (refine so_is (.binOp .gtr 3 _ _ _) ?_; refine so_q (qt_gtr rfl rfl) rfl ?_) | (refine so_is (.binOp .add 3 _ _ _) ?_; refine so_q (qt_addI rfl rfl (by (omega))) rfl ?_) | (refine so_is (.call ⟨.value (.func 106), _, _⟩) ?_; (apply so_call0 (fid := 106); (· (repeat (first | exact SeA.nil | apply SeA.cons (.c (.d _)) | (apply SeA.cons; (· (apply SeP.g; (repeat (first | exact SeL.nil | apply SeL.cons (.d _))))))))); (· exact sc); (· rfl))) | refine so_nil ?_ | refine sk_seq ?_ | refine sk_block ?_ | refine sk_blk ?_ | refine sk_exit rfl ?_ | refine sk_skip ?_ | refine sk_region ?_ | refine sk_if rfl (fun hc => ?_) (fun hc => ?_))
    all_goals first | (exfalso; omega) | skip
    · obtain ⟨y1, y2⟩ := valN_yes (s := s) (i := i) (by omega) sb.1
      have yd : bestD s m (i + 1) = eI (atZ P (i : Int)) := by rw [bestD_pos _ _ (by omega), y1, pa]
      refine sk_back ?_; refine ⟨i + 1, ?_, ?_, le_at rfl (by (repeat (first | exact trivial | refine ⟨(by (first | rfl | (refine int_eq rfl ?_; (omega)) | (refine d_eq rfl ?_; ((simp  [yd, y2]; done))))), ?_⟩))) (by (repeat (first | exact trivial | refine ⟨rfl, ?_⟩))) (by (repeat (exact trivial))) (by (repeat (first | exact trivial | refine ⟨.inr rfl, ?_⟩)))⟩
      · omega
      · omega
    · obtain ⟨y1, y2, y3⟩ := valN_no (s := s) (i := i) (by omega) sb.1
      have yd : bestD s m (i + 1) = bestD s m i := by rw [bestD_pos _ _ (by omega), y1, ← bestD_pos _ _ (by omega)]
      refine sk_back ?_; refine ⟨i + 1, ?_, ?_, le_at rfl (by (repeat (first | exact trivial | refine ⟨(by (first | rfl | (refine int_eq rfl ?_; (omega)) | (refine d_eq rfl ?_; ((simp  [yd, y2]; done))))), ?_⟩))) (by (repeat (first | exact trivial | refine ⟨rfl, ?_⟩))) (by (repeat (exact trivial))) (by (repeat (first | exact trivial | refine ⟨.inr rfl, ?_⟩)))⟩
      · omega
      · omega
  · have e : i = N := by omega
    subst e
    repeat' (first | (refine so_is (.assign _) ?_; (refine so_q (qt_asC rfl) rfl ?_)) | (refine so_is (.load 27 _) ?_; (refine so_q (qt_load_boxs rfl rfl (by kernel_rfl : tAgg _ 27 4 = true) rfl) rfl ?_)) | (refine so_is (.move _) ?_; (refine so_q (qt_mvC rfl) rfl ?_)) | (refine so_is (.binOp .lss 3 _ _ _) ?_; refine so_q (qt_lss rfl rfl) rfl ?_) | (refine so_is (.indexAddr 25 _ _) ?_; (refine so_q (qt_idxII rfl rfl (by kernel_rfl) (by (omega)) (by (omega))) rfl ?_)) | (refine so_is (.load 24 _) ?_; (refine so_q (qt_load_pt rfl (by kernel_rfl) rfl) rfl ?_)) | refine so_nil ?_ | refine sk_seq ?_ | refine sk_block ?_ | refine sk_exit rfl ?_ | refine sk_skip ?_ | refine sk_region ?_ | refine sk_if rfl (fun hc => ?_) (fun hc => ?_))
    all_goals first | (exfalso; omega) | skip
    (apply sk_retv; apply retv_eq; (· apply RetV.t rfl; (· (apply RvA.cons; (· exact .tmp _); (· (exact RvP.c (.d _)))); (apply RvA.cons; (· exact .tmp _); (· exact RvP.c (.d _))); (apply RvA.cons; (· exact .tmp _); (· exact RvP.c (.d _))); exact RvA.nil); (· rfl)))
    rfl
theorem CountBest_p (X Y : Nat) (ws : List Int) (wi : List (List Int)) (h : gameB X Y ws wi = true) : PC Try.prog 24 [.g [dI X, dI Y, eI ws, eII wi]] (.t [.c (dI (countG X Y ws wi)), .c (dB true)]) := by
  obtain ⟨x, y, e1, e2, hx, hy, wl, il, h9⟩ := game_nat h
  obtain rfl : X = x := by omega
  obtain rfl : Y = y := by omega
  have pl := plays_p X Y (by omega)
  have Pl : (playsF (X + Y)).length = 2 ^ (X + Y) := playsF_len _
  have Pa := fun k (hk : k < 2 ^ (X + Y)) => playsF_at (n := X + Y) hk
  have hN2 : 2 ^ (X + Y) ≤ 2 ^ 6 := Nat.pow_le_pow_right (by omega) (by omega)
  have sc : ∀ c, PC Try.prog 106 [.g [dI X, dI Y, eI ws, eII wi], .c (eI (bitsM (X + Y) c))] (.p (.c (dI (playN X Y ws wi c)))) := fun c => score_p X Y ws wi _ h (by rw [← Int.natCast_add]; exact bitsM_bits _ _)
  have cs := fun i => cntV_succ X Y ws wi (valueG X Y ws wi) i
  have cl := fun i => cntV_le X Y ws wi (valueG X Y ws wi) i
  have c0 : cntV X Y ws wi (valueG X Y ws wi) 0 = 0 := rfl
  have bp := BestPlay_v X Y ws wi h
  unfold countG
  generalize hc : cntV X Y ws wi (valueG X Y ws wi) = c at *
  generalize hs : playN X Y ws wi = s at *
  generalize playsF (X + Y) = P at *
  generalize 2 ^ (X + Y) = N at *
  clear hc hs
  refine pc_intro Try.func24 rfl rfl rfl (by kernel_rfl) rfl rfl ?_; intro _
  repeat' (first | (refine so_is (.box 27 _) ?_; refine so_box rfl rfl ?_) | (refine so_is (.assign _) ?_; (refine so_q (qt_asC rfl) rfl ?_)) | (refine so_is (.load 27 _) ?_; (refine so_q (qt_load_boxs rfl rfl (by kernel_rfl : tAgg _ 27 4 = true) rfl) rfl ?_)) | (refine so_is (.move _) ?_; (first | refine so_q (qt_mvC rfl) rfl ?_ | refine so_q (qt_mvT rfl) rfl ?_)) | (refine so_is (.extract _ _) ?_; refine so_q (qt_extract rfl rfl) rfl ?_) | (refine so_is (.unOp .not 4 _) ?_; refine so_q (qt_not rfl) rfl ?_) | (refine so_is (.fieldAddr 27 _ 0) ?_; (refine so_q (qt_fld_lp (off := 0) rfl (by kernel_rfl)) rfl ?_)) | (refine so_is (.load 3 _) ?_; (refine so_q (qt_load_box rfl rfl (by kernel_rfl) rfl) rfl ?_)) | (refine so_is (.fieldAddr 27 _ 1) ?_; (refine so_q (qt_fld_lp (off := 1) rfl (by kernel_rfl)) rfl ?_)) | (refine so_is (.call ⟨.builtin .len, _, #[25]⟩) ?_; (refine so_q (qt_len_d rfl (by kernel_rfl)) rfl ?_)) | (refine so_is (.call ⟨.value (.func 19), _, _⟩) ?_; ((apply so_callV (fid := 19); (· (repeat (first | exact SdA.nil | (apply SdA.g rfl; (· (repeat (first | exact SdL.nil | apply SdL.cons))))))); (· exact bp); (· rfl)))) | (refine so_is (.call ⟨.value (.func 92), _, _⟩) ?_; ((apply so_call0 (fid := 92); (· (repeat (first | exact SeA.nil | apply SeA.cons (.c (.d _))))); (· exact pl); (· rfl)))) | refine so_nil ?_ | refine sk_seq ?_ | refine sk_block ?_ | refine sk_skip ?_ | refine sk_region ?_ | refine sk_false rfl ?_)
  all_goals first | (exfalso; omega) | skip
  apply sk_packC [1, 5, 7, 22, 23, 24] [1, 12, 22] rfl; (· (repeat (first | exact Pf.nil | apply Pf.cons (.c rfl (.d rfl)) | apply Pf.cons (.c rfl (.lp rfl))))); (· (repeat (first | exact Pb.nil | (apply Pb.cons; (· apply Nb.box rfl; (repeat (first | exact Ncs.nil rfl | (apply Ncs.cons rfl; (· (exact .d rfl))))))) | apply Pb.skip)))
  refine sk_loopL [1, 5, 22, 23] [1, 12, 22] (fun i => [(24, iN i), (7, iN (c i))]) (fun _ => []) (fun i => i ≤ N) (fun i => N - i) (0) ?_ (by (repeat (first | exact trivial | refine ⟨(by (first | rfl | (refine int_eq rfl ?_; (omega)))), ?_⟩))) (by (repeat (exact trivial))) ?_
  · omega
  intro i hi
  by_cases hi2 : i < N
  · have pa := Pa i hi2
    have sc := sc i
    rw [← pa] at sc
    have cs := cs i
    have cl := cl i
    repeat' (first | (refine so_is (.assign _) ?_; (refine so_q (qt_asC rfl) rfl ?_)) | (refine so_is (.load 27 _) ?_; (refine so_q (qt_load_boxs rfl rfl (by kernel_rfl : tAgg _ 27 4 = true) rfl) rfl ?_)) | (refine so_is (.move _) ?_; (refine so_q (qt_mvC rfl) rfl ?_)) | (refine so_is (.binOp .lss 3 _ _ _) ?_; refine so_q (qt_lss rfl rfl) rfl ?_) | (refine so_is (.indexAddr 25 _ _) ?_; (refine so_q (qt_idxII rfl rfl (by kernel_rfl) (by (omega)) (by (omega))) rfl ?_)) | (refine so_is (.load 24 _) ?_; (refine so_q (qt_load_pt rfl (by kernel_rfl) rfl) rfl ?_)) | (refine so_is (.binOp .eql 3 _ _ _) ?_; refine so_q (qt_eql rfl rfl) rfl ?_) | (refine so_is (.binOp .add 3 _ _ _) ?_; refine so_q (qt_addI rfl rfl (by (omega))) rfl ?_) | (refine so_is (.call ⟨.value (.func 106), _, _⟩) ?_; (apply so_call0 (fid := 106); (· (repeat (first | exact SeA.nil | apply SeA.cons (.c (.d _)) | (apply SeA.cons; (· (apply SeP.g; (repeat (first | exact SeL.nil | apply SeL.cons (.d _))))))))); (· exact sc); (· rfl))) | refine so_nil ?_ | refine sk_seq ?_ | refine sk_block ?_ | refine sk_blk ?_ | refine sk_exit rfl ?_ | refine sk_skip ?_ | refine sk_region ?_ | refine sk_if rfl (fun hc => ?_) (fun hc => ?_))
    all_goals first | (exfalso; omega) | skip
    · rw [if_pos (by omega)] at cs
      refine sk_back ?_; refine ⟨i + 1, ?_, ?_, le_at rfl (by (repeat (first | exact trivial | refine ⟨(by (first | rfl | (refine int_eq rfl ?_; (omega)))), ?_⟩))) (by (repeat (first | exact trivial | refine ⟨rfl, ?_⟩))) (by (repeat (exact trivial))) (by (repeat (first | exact trivial | refine ⟨.inr rfl, ?_⟩)))⟩
      · omega
      · omega
    · rw [if_neg (by omega)] at cs
      refine sk_back ?_; refine ⟨i + 1, ?_, ?_, le_at rfl (by (repeat (first | exact trivial | refine ⟨(by (first | rfl | (refine int_eq rfl ?_; (omega)))), ?_⟩))) (by (repeat (first | exact trivial | refine ⟨rfl, ?_⟩))) (by (repeat (exact trivial))) (by (repeat (first | exact trivial | refine ⟨.inr rfl, ?_⟩)))⟩
      · omega
      · omega
  · have e : i = N := by omega
    subst e
    repeat' (first | (refine so_is (.assign _) ?_; (refine so_q (qt_asC rfl) rfl ?_)) | (refine so_is (.load 27 _) ?_; (refine so_q (qt_load_boxs rfl rfl (by kernel_rfl : tAgg _ 27 4 = true) rfl) rfl ?_)) | (refine so_is (.move _) ?_; (refine so_q (qt_mvC rfl) rfl ?_)) | (refine so_is (.binOp .lss 3 _ _ _) ?_; refine so_q (qt_lss rfl rfl) rfl ?_) | (refine so_is (.indexAddr 25 _ _) ?_; (refine so_q (qt_idxII rfl rfl (by kernel_rfl) (by (omega)) (by (omega))) rfl ?_)) | (refine so_is (.load 24 _) ?_; (refine so_q (qt_load_pt rfl (by kernel_rfl) rfl) rfl ?_)) | refine so_nil ?_ | refine sk_seq ?_ | refine sk_block ?_ | refine sk_exit rfl ?_ | refine sk_skip ?_ | refine sk_region ?_ | refine sk_if rfl (fun hc => ?_) (fun hc => ?_))
    all_goals first | (exfalso; omega) | skip
    (apply sk_ret; apply ret_eq; (· apply RetOK.t; (· (apply GvA.cons; (· exact .tmp _); (· exact GvP.c (.lit _))); (apply GvA.cons; (· exact .tmp _); (· exact GvP.c (.lit _))); exact GvA.nil); (· rfl); (· (decide))))
    rfl
theorem CountBest_no (X Y : Int) (ws : List Int) (wi : List (List Int)) (h : gameB X Y ws wi = false) : PC Try.prog 24 [.g [dI X, dI Y, eI ws, eII wi]] (.t [.c (dI 0), .c (dB false)]) := by
  refine pc_intro Try.func24 rfl rfl rfl (by kernel_rfl) rfl rfl ?_; intro _
  repeat' (first | (refine so_is (.box 27 _) ?_; refine so_box rfl rfl ?_) | (refine so_is (.assign _) ?_; (refine so_q (qt_asC rfl) rfl ?_)) | (refine so_is (.load 27 _) ?_; (refine so_q (qt_load_boxs rfl rfl (by kernel_rfl : tAgg _ 27 4 = true) rfl) rfl ?_)) | (refine so_is (.move _) ?_; (first | refine so_q (qt_mvC rfl) rfl ?_ | refine so_q (qt_mvT rfl) rfl ?_)) | (refine so_is (.extract _ _) ?_; refine so_q (qt_extract rfl rfl) rfl ?_) | (refine so_is (.unOp .not 4 _) ?_; refine so_q (qt_not rfl) rfl ?_) | (refine so_is (.call ⟨.value (.func 19), _, _⟩) ?_; (apply so_call0 (fid := 19); (· (repeat (first | exact SeA.nil | (apply SeA.cons; (· (apply SeP.g; (repeat (first | exact SeL.nil | apply SeL.cons (.d _))))))))); (· exact BestPlay_no _ _ _ _ h); (· rfl))) | refine so_nil ?_ | refine sk_seq ?_ | refine sk_region ?_ | refine sk_true rfl ?_)
  all_goals (apply sk_ret; apply ret_eq; (· apply RetOK.t; (· (apply GvA.cons; (· exact .tmp _); (· exact GvP.c (.lit _))); (apply GvA.cons; (· exact .tmp _); (· exact GvP.c (.lit _))); exact GvA.nil); (· rfl); (· (decide))))
  all_goals rfl
theorem PerfectPlay_no (X Y : Int) (ws : List Int) (wi : List (List Int)) (h : gameB X Y ws wi = false) : PC Try.prog 31 [.g [dI X, dI Y, eI ws, eII wi]] (.t [.c (eI []), .c (dB false)]) := by
  refine pc_intro Try.func31 rfl rfl rfl (by kernel_rfl) rfl rfl ?_; intro _
  repeat' (first | (refine so_is (.box 27 _) ?_; refine so_box rfl rfl ?_) | (refine so_is (.assign _) ?_; (refine so_q (qt_asC rfl) rfl ?_)) | (refine so_is (.load 27 _) ?_; (refine so_q (qt_load_boxs rfl rfl (by kernel_rfl : tAgg _ 27 4 = true) rfl) rfl ?_)) | (refine so_is (.move _) ?_; (first | refine so_q (qt_mvC rfl) rfl ?_ | refine so_q (qt_mvT rfl) rfl ?_)) | (refine so_is (.extract _ _) ?_; refine so_q (qt_extract rfl rfl) rfl ?_) | (refine so_is (.unOp .not 4 _) ?_; refine so_q (qt_not rfl) rfl ?_) | (refine so_is (.pick _ _ _) ?_; (refine so_q (qt_pkC rfl rfl) rfl ?_)) | (refine so_is (.call ⟨.value (.func 19), _, _⟩) ?_; (apply so_call0 (fid := 19); (· (repeat (first | exact SeA.nil | (apply SeA.cons; (· (apply SeP.g; (repeat (first | exact SeL.nil | apply SeL.cons (.d _))))))))); (· exact BestPlay_no _ _ _ _ h); (· rfl))) | refine so_nil ?_ | refine so_g_no rfl rfl rfl rfl ?_ | refine sk_seq ?_ | refine sk_region ?_ | refine sk_true rfl ?_)
  all_goals (apply sk_ret; apply ret_eq; (· apply RetOK.t; (· (apply GvA.cons; (· exact .tmp _); (· (exact GvP.c (.nil 1 (by decide))))); (apply GvA.cons; (· exact .tmp _); (· exact GvP.c (.lit _))); exact GvA.nil); (· rfl); (· (decide))))
  all_goals rfl
theorem PerfectPlay_v (X Y : Nat) (ws : List Int) (wi : List (List Int)) (h : gameB X Y ws wi = true) : PV Try.prog 31 [.g [dI X, dI Y, eI ws, eII wi]] (.t [.c (eI (whenA (decide (lostL X Y ws wi (bestG X Y ws wi) = [])) (bestG X Y ws wi))), .c (dB (decide (lostL X Y ws wi (bestG X Y ws wi) = [])))]) := by
  have lp := lost_p X Y ws wi (bestG X Y ws wi) h (by rw [← Int.natCast_add]; exact bitsM_bits _ _)
  have bp := BestPlay_v X Y ws wi h
  generalize bestG X Y ws wi = b at *
  generalize lostL X Y ws wi b = l at *
  refine pv_intro Try.func31 rfl rfl rfl (by kernel_rfl) rfl rfl ?_; intro X c0 _
  repeat' (first | (refine so_is (.box 27 _) ?_; refine so_box rfl rfl ?_) | (refine so_is (.assign _) ?_; (refine so_q (qt_asC rfl) rfl ?_)) | (refine so_is (.load 27 _) ?_; (refine so_q (qt_load_boxs rfl rfl (by kernel_rfl : tAgg _ 27 4 = true) rfl) rfl ?_)) | (refine so_is (.move _) ?_; (first | refine so_q (qt_mvC rfl) rfl ?_ | refine so_q (qt_mvT rfl) rfl ?_)) | (refine so_is (.extract _ _) ?_; refine so_q (qt_extract rfl rfl) rfl ?_) | (refine so_is (.unOp .not 4 _) ?_; refine so_q (qt_not rfl) rfl ?_) | (refine so_is (.call ⟨.builtin .len, _, #[24]⟩) ?_; (refine so_q (qt_len_d rfl (by kernel_rfl)) rfl ?_)) | (refine so_is (.binOp .gtr 3 _ _ _) ?_; refine so_q (qt_gtr rfl rfl) rfl ?_) | (refine so_is (.pick _ _ _) ?_; (refine so_q (qt_pkC rfl rfl) rfl ?_)) | (refine so_is (.call ⟨.value (.func 19), _, _⟩) ?_; ((apply so_callV (fid := 19); (· (repeat (first | exact SdA.nil | (apply SdA.g rfl; (· (repeat (first | exact SdL.nil | apply SdL.cons))))))); (· exact bp); (· rfl)))) | (refine so_is (.call ⟨.value (.func 121), _, _⟩) ?_; ((apply so_call0 (fid := 121); (· (repeat (first | exact SeA.nil | apply SeA.cons (.c (.d _)) | (apply SeA.cons; (· (apply SeP.g; (repeat (first | exact SeL.nil | apply SeL.cons (.d _))))))))); (· exact lp); (· rfl)))) | refine so_nil ?_ | refine so_g_yes rfl rfl rfl rfl ?_ | refine sk_seq ?_ | refine sk_skip ?_ | refine sk_region ?_ | refine sk_if rfl (fun hc => ?_) (fun hc => ?_))
  all_goals first | (exfalso; omega) | skip
  all_goals (apply sk_retv; apply retv_eq; (· apply RetV.t rfl; (· (apply RvA.cons; (· exact .tmp _); (· (first | exact RvP.c (.own (.nil 1 (by decide))) | exact RvP.c (.d _)))); (apply RvA.cons; (· exact .tmp _); (· exact RvP.c (.d _))); exact RvA.nil); (· rfl)))
  · have e : l ≠ [] := by rintro rfl; simp at hc
    simp [e, whenA]
  · have e : l = [] := List.eq_nil_of_length_eq_zero (by omega)
    simp [e, whenA]

end Go.Proofs.Ytefbiejoikpkmaa

namespace Go.Proofs.Ytefbiejoikpkmaa
open Go.RowKit
set_option linter.unusedSectionVars false
variable [Glb]
set_option maxRecDepth 10000
set_option maxHeartbeats 4000000
theorem bitsB_all {l : List Int} {n : Int} (h : bitsB l n = true) : allB l 0 1 = true := by
  unfold bitsB at h
  rw [Bool.and_eq_true] at h
  exact h.2
theorem BestReply_no (X Y : Int) (ws : List Int) (wi : List (List Int)) (fs : List Int) (h : (gameB X Y ws wi && bitsB fs X) = false) : PC Try.prog 38 [.g [dI X, dI Y, eI ws, eII wi], .c (eI fs)] (.t [.c (eI []), .c (dI 0), .c (dB false)]) := by
  have i1 := IsGame_p X Y ws wi
  cases hg : gameB X Y ws wi with
  | false =>
    rw [hg] at i1
    refine pc_intro Try.func38 rfl rfl rfl (by kernel_rfl) rfl rfl ?_; intro _
    repeat' (first | (refine so_is (.box 27 _) ?_; refine so_box rfl rfl ?_) | (refine so_is (.assign _) ?_; (refine so_q (qt_asC rfl) rfl ?_)) | (refine so_is (.load 27 _) ?_; (refine so_q (qt_load_boxs rfl rfl (by kernel_rfl : tAgg _ 27 4 = true) rfl) rfl ?_)) | (refine so_is (.unOp .not 4 _) ?_; refine so_q (qt_not rfl) rfl ?_) | (refine so_is (.move _) ?_; (refine so_q (qt_mvC rfl) rfl ?_)) | (refine so_is (.pick _ _ _) ?_; (refine so_q (qt_pkC rfl rfl) rfl ?_)) | (refine so_is (.call ⟨.value (.func 29), _, _⟩) ?_; (apply so_call0 (fid := 29); (· (repeat (first | exact SeA.nil | (apply SeA.cons; (· (apply SeP.g; (repeat (first | exact SeL.nil | apply SeL.cons (.d _))))))))); (· exact i1); (· rfl))) | refine so_nil ?_ | refine so_g_no rfl rfl rfl rfl ?_ | refine sk_seq ?_ | refine sk_region ?_ | refine sk_true rfl ?_)
    all_goals (apply sk_ret; apply ret_eq; (· apply RetOK.t; (· (apply GvA.cons; (· exact .tmp _); (· (exact GvP.c (.nil 1 (by decide))))); (apply GvA.cons; (· exact .tmp _); (· exact GvP.c (.lit _))); (apply GvA.cons; (· exact .tmp _); (· exact GvP.c (.lit _))); exact GvA.nil); (· rfl); (· (decide))))
    all_goals rfl
  | true =>
    rw [hg] at i1
    rw [hg, Bool.true_and] at h
    have hb : (fs.length : Int) = X → allB fs 0 1 = false := fun e => by
      unfold bitsB at h
      rw [decide_eq_true e, Bool.true_and] at h
      exact h
    refine pc_intro Try.func38 rfl rfl rfl (by kernel_rfl) rfl rfl ?_; intro _
    repeat' (first | (refine so_is (.box 27 _) ?_; refine so_box rfl rfl ?_) | (refine so_is (.assign _) ?_; (refine so_q (qt_asC rfl) rfl ?_)) | (refine so_is (.load 27 _) ?_; (refine so_q (qt_load_boxs rfl rfl (by kernel_rfl : tAgg _ 27 4 = true) rfl) rfl ?_)) | (refine so_is (.unOp .not 4 _) ?_; refine so_q (qt_not rfl) rfl ?_) | (refine so_is (.move _) ?_; (refine so_q (qt_mvC rfl) rfl ?_)) | (refine so_is (.call ⟨.builtin .len, _, #[24]⟩) ?_; (refine so_q (qt_len_d rfl (by kernel_rfl)) rfl ?_)) | (refine so_is (.fieldAddr 27 _ 0) ?_; (refine so_q (qt_fld_lp (off := 0) rfl (by kernel_rfl)) rfl ?_)) | (refine so_is (.load 3 _) ?_; (refine so_q (qt_load_box rfl rfl (by kernel_rfl) rfl) rfl ?_)) | (refine so_is (.binOp .neq 3 _ _ _) ?_; refine so_q (qt_neq rfl rfl) rfl ?_) | (refine so_is (.pick _ _ _) ?_; (refine so_q (qt_pkC rfl rfl) rfl ?_)) | (refine so_is (.call ⟨.value (.func 29), _, _⟩) ?_; (apply so_call0 (fid := 29); (· (repeat (first | exact SeA.nil | (apply SeA.cons; (· (apply SeP.g; (repeat (first | exact SeL.nil | apply SeL.cons (.d _))))))))); (· exact i1); (· rfl))) | (refine so_is (.call ⟨.value (.func 119), _, _⟩) ?_; ((apply so_call0 (fid := 119); (· (repeat (first | exact SeA.nil | apply SeA.cons (.c (.d _))))); (· exact allWithin_p _ _ _); (· rfl)))) | refine so_nil ?_ | refine so_g_no rfl rfl rfl rfl ?_ | refine so_g_yes rfl rfl rfl rfl ?_ | refine so_g_if rfl rfl (fun hg => ?_) (fun hg => ?_) | refine sk_seq ?_ | refine sk_skip ?_ | refine sk_region (id := 0) ?_ | refine sk_region (id := 1) ?_ | refine sk_region (id := 2) ?_ | refine sk_true rfl ?_ | refine sk_not rfl (fun hc => ?_) (fun hc => ?_))
    all_goals first | (exfalso; simp_all; done) | skip
    all_goals (apply sk_ret; apply ret_eq; (· apply RetOK.t; (· (apply GvA.cons; (· exact .tmp _); (· (exact GvP.c (.nil 1 (by decide))))); (apply GvA.cons; (· exact .tmp _); (· exact GvP.c (.lit _))); (apply GvA.cons; (· exact .tmp _); (· exact GvP.c (.lit _))); exact GvA.nil); (· rfl); (· (decide))))
    all_goals rfl
theorem BestReply_p (X Y : Nat) (ws : List Int) (wi : List (List Int)) (fs : List Int) (h : gameB X Y ws wi = true) (hp : bitsB fs (X : Int) = true) : PC Try.prog 38 [.g [dI X, dI Y, eI ws, eII wi], .c (eI fs)] (.t [.c (eI (rowF (repA X Y ws wi fs) Y)), .c (dI (accT (repM X Y ws wi fs) Y)), .c (dB true)]) := by
  obtain ⟨x, y, e1, e2, hx, hy, wl, il, h9⟩ := game_nat h
  obtain rfl : X = x := by omega
  obtain rfl : Y = y := by omega
  have i1 := IsGame_p X Y ws wi
  rw [h] at i1
  have i2 := allWithin_p fs 0 1
  rw [bitsB_all hp] at i2
  have fln := bitsB_len hp
  have fp := functional_p X Y ws wi h
  have Fl := funL_len ws wi
  have Fa := fun (t p : Int) => funL_atZ (ws := ws) (wi := wi) (t := t) (p := p)
  generalize funL ws wi = F at *
  have mb := fun m => repMN_bd h hp (m := m)
  have mb1 := fun y => repM_bd h hp (y := y)
  refine pc_intro Try.func38 rfl rfl rfl (by kernel_rfl) rfl rfl ?_; intro _
  repeat' (first | (refine so_is (.box 27 _) ?_; refine so_box rfl rfl ?_) | (refine so_is (.assign _) ?_; (refine so_q (qt_asC rfl) rfl ?_)) | (refine so_is (.load 27 _) ?_; (refine so_q (qt_load_boxs rfl rfl (by kernel_rfl : tAgg _ 27 4 = true) rfl) rfl ?_)) | (refine so_is (.unOp .not 4 _) ?_; refine so_q (qt_not rfl) rfl ?_) | (refine so_is (.move _) ?_; (refine so_q (qt_mvC rfl) rfl ?_)) | (refine so_is (.call ⟨.builtin .len, _, #[24]⟩) ?_; (refine so_q (qt_len_d rfl (by kernel_rfl)) rfl ?_)) | (refine so_is (.fieldAddr 27 _ 0) ?_; (refine so_q (qt_fld_lp (off := 0) rfl (by kernel_rfl)) rfl ?_)) | (refine so_is (.load 3 _) ?_; (refine so_q (qt_load_box rfl rfl (by kernel_rfl) rfl) rfl ?_)) | (refine so_is (.binOp .neq 3 _ _ _) ?_; refine so_q (qt_neq rfl rfl) rfl ?_) | (refine so_is (.pick _ _ _) ?_; (refine so_q (qt_pkC rfl rfl) rfl ?_)) | (refine so_is (.buildSlice 24 0 _) ?_; (apply so_bslice (sz := 1) (by_ := 8); (· kernel_rfl); (· decide); (· (repeat (exact GvS.nil _))); (· (decide)); (· rfl); (· rfl); (· rfl))) | (refine so_is (.fieldAddr 27 _ 1) ?_; (refine so_q (qt_fld_lp (off := 1) rfl (by kernel_rfl)) rfl ?_)) | (refine so_is (.call ⟨.value (.func 29), _, _⟩) ?_; ((apply so_call0 (fid := 29); (· (repeat (first | exact SeA.nil | (apply SeA.cons; (· (apply SeP.g; (repeat (first | exact SeL.nil | apply SeL.cons (.d _))))))))); (· exact i1); (· rfl)))) | (refine so_is (.call ⟨.value (.func 119), _, _⟩) ?_; ((apply so_call0 (fid := 119); (· (repeat (first | exact SeA.nil | apply SeA.cons (.c (.d _))))); (· exact i2); (· rfl)))) | (refine so_is (.call ⟨.value (.func 124), _, _⟩) ?_; ((apply so_call0 (fid := 124); (· (repeat (first | exact SeA.nil | (apply SeA.cons; (· (apply SeP.g; (repeat (first | exact SeL.nil | apply SeL.cons (.d _))))))))); (· exact fp); (· rfl)))) | refine so_nil ?_ | refine so_g_no rfl rfl rfl rfl ?_ | refine so_g_yes rfl rfl rfl rfl ?_ | refine so_g_if rfl rfl (fun hg => ?_) (fun hg => ?_) | refine sk_seq ?_ | refine sk_block ?_ | refine sk_skip ?_ | refine sk_region ?_ | refine sk_true rfl ?_ | refine sk_false rfl ?_)
  all_goals first | (exfalso; omega) | (exfalso; simp_all; done) | skip
  apply sk_packC [1, 2, 7, 8, 9, 35, 36] [2, 11, 32, 33, 79, 80] rfl; (· (repeat (first | exact Pf.nil | apply Pf.cons (.c rfl (.d rfl)) | apply Pf.cons (.c rfl (.ls rfl)) | apply Pf.cons (.c rfl (.lp rfl))))); (· (repeat (first | exact Pb.nil | apply Pb.cons (.row rfl) | (apply Pb.cons; (· apply Nb.box rfl; (repeat (first | exact Ncs.nil rfl | (apply Ncs.cons rfl; (· (exact .d rfl))))))) | apply Pb.skip)))
  refine sk_loopL [1, 2, 7, 35] [2, 32, 11, 79, 80] (fun y => [(36, iN y), (8, .c (.ls 33 1 0 y)), (9, iZ (accT (repM X Y ws wi fs) y))]) (fun y => [(33, .row 1 (cI (rowF (repA X Y ws wi fs) y)))]) (fun y => y ≤ Y) (fun y => Y - y) (0) ?_ (by (repeat (first | exact trivial | refine ⟨(by (rfl)), ?_⟩))) (by (repeat (first | exact trivial | refine ⟨(by (rfl)), ?_⟩))) ?_
  · omega
  intro y hy2
  by_cases hy3 : y < Y
  · obtain ⟨S, hS⟩ : ∃ S : Nat → Nat → Int, S = fun b : Nat => accT (repT Y ws wi fs y (b : Int)) := ⟨_, rfl⟩
    have S0 : ∀ b, S b 0 = 0 := fun b => by rw [hS]; rfl
    have S1 : ∀ b x, S b (x + 1) = S b x + repT Y ws wi fs y (b : Int) x := fun b x => by rw [hS]; rfl
    have Sb : ∀ b x, b < 2 → x ≤ X → 0 ≤ S b x ∧ S b x ≤ 300 := fun b x hb hx => by rw [hS]; exact repN_bd h hp hy3 (by omega) hx
    have SA : repA X Y ws wi fs y = if S 1 X > S 0 X then 1 else 0 := by rw [hS]; rfl
    have SM : repM X Y ws wi fs y = if S 1 X > S 0 X then S 1 X else S 0 X := by rw [hS]; rfl
    clear hS
    repeat' (first | (refine so_is (.assign _) ?_; (refine so_q (qt_asC rfl) rfl ?_)) | (refine so_is (.move _) ?_; (refine so_q (qt_mvC rfl) rfl ?_)) | (refine so_is (.binOp .lss 3 _ _ _) ?_; refine so_q (qt_lss rfl rfl) rfl ?_) | (refine so_is (.build 132 _) ?_; refine so_q (qt_build (cs := [_, _]) [(0, 1), (1, 1)] [.int .i64 0, .int .i64 0] (by kernel_rfl) (by kernel_rfl) rfl) rfl ?_) | (refine so_is (.alloc 132) ?_; refine so_alloc (zs := [.int .i64 0, .int .i64 0]) (by kernel_rfl) rfl ?_) | (refine so_is (.store 132 _ _) ?_; (refine so_store_box rfl rfl rfl (by kernel_rfl) rfl rfl ?_)) | refine so_nil ?_ | refine sk_seq ?_ | refine sk_block ?_ | refine sk_exit rfl ?_ | refine sk_skip ?_ | refine sk_region (id := 6) ?_ | refine sk_region (id := 7) ?_ | refine sk_region (id := 8) ?_ | refine sk_region (id := 23) ?_ | refine sk_if rfl (fun hc => ?_) (fun hc => ?_))
    all_goals first | (exfalso; omega) | skip
    refine sk_ghost (sim_box_row (b := 11) (vs := [.int .i64 0, .int .i64 0]) rfl rfl) ?_
    repeat' (first | (refine so_is (.move _) ?_; (refine so_q (qt_mvC rfl) rfl ?_)) | (refine so_is (.call ⟨.builtin .len, _, #[24]⟩) ?_; (refine so_q (qt_len_d rfl (by kernel_rfl)) rfl ?_)) | refine so_nil ?_ | refine sk_block ?_ | refine sk_region ?_)
    apply sk_packC [1, 2, 7, 8, 9, 10, 11, 35, 36, 40, 41, 42] [2, 11, 32, 33, 79, 80] rfl; (· (repeat (first | exact Pf.nil | apply Pf.cons (.c rfl (.d rfl)) | apply Pf.cons (.c rfl (.ls rfl)) | apply Pf.cons (.c rfl (.lp rfl))))); (· (repeat (first | exact Pb.nil | apply Pb.cons (.row rfl) | (apply Pb.cons; (· apply Nb.box rfl; (repeat (first | exact Ncs.nil rfl | (apply Ncs.cons rfl; (· (exact .d rfl))))))) | apply Pb.skip)))
    refine sk_loopL [1, 2, 7, 8, 9, 10, 11, 35, 36, 40, 41] [2, 32, 33, 79, 80] (fun x => [(42, iN x)]) (fun x => [(11, .row 1 [dI (S 0 x), dI (S 1 x)])]) (fun x => x ≤ X) (fun x => X - x) (0) ?_ (by (repeat (first | exact trivial | refine ⟨(by (rfl)), ?_⟩))) (by (repeat (first | exact trivial | refine ⟨(by ((refine row_eq rfl ?_; simp  [S0]; done))), ?_⟩))) ?_
    · omega
    intro x hx2
    by_cases hx3 : x < X
    · have ok := pair_ok h hx3 hy3
      have o1 := ok.lt2; have o2 := ok.ge; have o3 := ok.le; have o4 := ok.g1; have o5 := ok.g2
      have f := bitsB_at hp (i := (x : Int)) (by omega) (by omega)
      repeat' (first | (with_reducible apply so_lt) | intro Y hY | ((with_reducible apply so_j2); (· assumption); (· rfl); (· exact (by (repeat (first | exact trivial | refine ⟨rfl, ?_⟩)))); (· exact (by (repeat (first | exact trivial | refine ⟨rfl, ?_⟩))))) | ((with_reducible apply so_j1); (· rfl); (· (repeat (first | exact Pf.nil | apply Pf.cons (.c rfl (.d rfl)) | apply Pf.cons (.c rfl (.ls rfl)) | apply Pf.cons (.c rfl (.lp rfl))))); (· (repeat (first | exact Pb.nil | apply Pb.cons (.row rfl) | (apply Pb.cons; (· apply Nb.box rfl; (repeat (first | exact Ncs.nil rfl | (apply Ncs.cons rfl; (· (exact .d rfl))))))) | apply Pb.skip))); (· assumption)) | refine so_alt ?_ ?_ | (refine so_is (.assign _) ?_; (refine so_q (qt_asC rfl) rfl ?_)) | (refine so_is (.move _) ?_; (refine so_q (qt_mvC rfl) rfl ?_)) | (refine so_is (.load 3 _) ?_; (first | refine so_q (qt_load_pt rfl (by kernel_rfl) rfl) rfl ?_ | refine so_q (qt_load_row rfl rfl (by kernel_rfl) (by (rfl))) rfl ?_)) | (refine so_is (.binOp .lss 3 _ _ _) ?_; refine so_q (qt_lss rfl rfl) rfl ?_) | (refine so_is (.indexAddr 24 _ _) ?_; (refine so_q (qt_idxI rfl rfl (by kernel_rfl) (by (omega)) (by (omega))) rfl ?_)) | (refine so_is (.indexAddr 132 _ _) ?_; (refine so_q (qt_idxa_lp rfl rfl (by kernel_rfl : tArr _ 132 2 1 = true) (by (omega)) (by (omega))) rfl ?_)) | (refine so_is (.binOp .add 3 _ _ _) ?_; refine so_q (qt_addI rfl rfl (by (omega))) rfl ?_) | (refine so_is (.binOp .gtr 3 _ _ _) ?_; refine so_q (qt_gtr rfl rfl) rfl ?_) | (refine so_is (.buildSlice 24 1 _) ?_; (apply so_bslice (sz := 1) (by_ := 8); (· kernel_rfl); (· decide); (· (repeat (first | exact GvS.nil _ | apply GvS.c rfl rfl (.lit _) rfl))); (· (decide)); (· rfl); (· rfl); (· rfl))) | (refine so_is (.call ⟨.builtin .append, _, #[24, 24]⟩) ?_; ((apply so_appR (sz := 1) (by_ := 8); (· rfl); (· rfl); (· ((simp; done))); (· exact .row _ _ _ _ rfl (by ((simp; done)))); (· (decide)); (· kernel_rfl); (· decide); (· (omega)); (· (omega)); (· rfl); (· rfl); (· rfl)))) | refine so_nil ?_ | refine sk_seq ?_ | refine sk_block ?_ | refine sk_blk ?_ | refine sk_exit rfl ?_ | refine sk_skip ?_ | refine sk_region ?_ | refine sk_drawQ 21 (fun i => i == 3) (IT.lt .nil fun Y1 => (IT.lt (.step 3 false (.step 9 true (.step 10 true (IT.ref false [1, 2, 7, 8, 9, 35, 36] [2, 32, 33, 11, 79, 80] Y1)))) fun Y0 => (.step 0 true (.step 1 true (.step 4 true (.step 5 true (.step 6 true (.alt 21 (.step 2 false (.alt 21 (.step 3 false (.step 7 true (.step 8 true (.step 9 true (.step 10 true (IT.ref true [1, 2, 7, 8, 9, 35, 36] [2, 32, 33, 11, 79, 80] Y1)))))) (.step 7 false (.step 8 true (IT.ref true [1, 2, 7, 8, 9, 35, 36, 77, 79, 85] [2, 32, 33, 11, 79, 80] Y0))))) (.step 7 false (.step 8 true (.step 2 false (IT.ref false [1, 2, 7, 8, 9, 35, 36, 77, 79, 85] [2, 32, 33, 11, 79, 80] Y0)))))))))))) [(0, 2047, 2047, true), (0, 2047, 2047, true), (2, 2045, 2047, false), (5, 2042, 2047, false), (0, 2047, 2039, true), (0, 2047, 2039, true), (32, 2015, 2039, true), (64, 1983, 2039, false), (144, 1903, 2039, true), (15, 2038, 2039, true), (1023, 1775, 2039, true)] (by kernel_rfl) (by kernel_rfl) ?_ | refine sk_if rfl (fun hc => ?_) (fun hc => ?_))
      all_goals first | (exfalso; omega) | skip
      apply sk_packC [1, 2, 7, 8, 9, 10, 11, 12, 13, 35, 36, 40, 41, 42, 47] [2, 11, 32, 33, 79, 80] rfl; (· (repeat (first | exact Pf.nil | apply Pf.cons (.c rfl (.d rfl)) | apply Pf.cons (.c rfl (.ls rfl)) | apply Pf.cons (.c rfl (.lp rfl))))); (· (repeat (first | exact Pb.nil | apply Pb.cons (.row rfl) | (apply Pb.cons; (· apply Nb.box rfl; (repeat (first | exact Ncs.nil rfl | (apply Ncs.cons rfl; (· (exact .d rfl))))))) | apply Pb.skip)))
      refine sk_loopL [1, 2, 7, 8, 9, 10, 11, 12, 13, 35, 36, 40, 41, 42] [2, 32, 33, 79, 80] (fun b => [(47, iN b)]) (fun b => [(11, .row 1 [dI (S 0 (x + min b 1)), dI (S 1 (x + (b - 1)))])]) (fun b => b ≤ 2) (fun b => 2 - b) (0) ?_ (by (repeat (first | exact trivial | refine ⟨(by (rfl)), ?_⟩))) (by (repeat (first | exact trivial | refine ⟨(by ((refine row_eq rfl ?_; simp; done))), ?_⟩))) ?_
      · omega
      intro b hb
      by_cases hb2 : b < 2
      · have e : repT Y ws wi fs y (b : Int) x = atZ ws ((x : Int) * Y + y) * atZ (atZ wi ((x : Int) * Y + y)) (2 * atZ fs (x : Int) + b) := rfl
        have fa := Fa ((x : Int) * Y + y) (2 * atZ fs (x : Int) + b) (by omega) (by omega) (by omega) (by omega)
        rw [← fa.1] at e
        have e3 := S1 b x
        rw [e] at e3
        have b1 := Sb b x hb2 (by omega)
        have b2 := Sb b (x + 1) hb2 (by omega)
        rw [e3] at b2
        have fl := fa.2
        clear fa e
        rcases (by omega : b = 0 ∨ b = 1) with rfl | rfl
        · repeat' (first | (refine so_is (.assign _) ?_; (refine so_q (qt_asC rfl) rfl ?_)) | (refine so_is (.move _) ?_; (refine so_q (qt_mvC rfl) rfl ?_)) | (refine so_is (.load 3 _) ?_; (first | refine so_q (qt_load_box rfl rfl (by kernel_rfl) rfl) rfl ?_ | refine so_q (qt_load_pt rfl (by kernel_rfl) rfl) rfl ?_ | refine so_q (qt_load_row rfl rfl (by kernel_rfl) (by (rfl))) rfl ?_)) | (refine so_is (.fieldAddr 27 _ 1) ?_; (refine so_q (qt_fld_lp (off := 1) rfl (by kernel_rfl)) rfl ?_)) | (refine so_is (.binOp .lss 3 _ _ _) ?_; refine so_q (qt_lss rfl rfl) rfl ?_) | (refine so_is (.indexAddr 24 _ _) ?_; (refine so_q (qt_idxI rfl rfl (by kernel_rfl) (by (omega)) (by (omega))) rfl ?_)) | (refine so_is (.indexAddr 132 _ _) ?_; (refine so_q (qt_idxa_lp rfl rfl (by kernel_rfl : tArr _ 132 2 1 = true) (by (omega)) (by (omega))) rfl ?_)) | (refine so_is (.binOp .mul 3 _ _ _) ?_; refine so_q (qt_mulI rfl rfl (by (omega))) rfl ?_) | (refine so_is (.binOp .add 3 _ _ _) ?_; refine so_q (qt_addI rfl rfl (by (first | omega | (simp at *; omega)))) rfl ?_) | (refine so_is (.indexAddr 25 _ _) ?_; (refine so_q (qt_idxII rfl rfl (by kernel_rfl) (by (omega)) (by (omega))) rfl ?_)) | (refine so_is (.load 24 _) ?_; (refine so_q (qt_load_pt rfl (by kernel_rfl) rfl) rfl ?_)) | (refine so_is (.store 3 _ _) ?_; ((refine so_store_row rfl rfl rfl rfl (.lit _) (by simp) (by simp) (by kernel_rfl) (by ((simp; done))) rfl ?_; simp only [St.drop]))) | refine so_nil ?_ | refine sk_seq ?_ | refine sk_block ?_ | refine sk_blk ?_ | refine sk_skip ?_ | refine sk_region ?_ | refine sk_drawQ 15 (fun i => i == 20) (.step 0 true (.step 1 true (.step 2 true (.step 3 true (.step 4 true (.step 5 true (.step 6 true (.step 7 true (.step 8 true (.step 9 true (.step 10 true (.step 11 true (.step 12 true (.step 13 true (.step 14 true (.step 15 true (.step 16 true (.step 17 true (.step 18 true (.step 19 true (.step 20 false .nil))))))))))))))))))))) [(0, 2097151, 2097151, true), (1, 2097150, 2097151, true), (2, 2097149, 2097151, false), (0, 2097151, 2097151, true), (0, 2097151, 2097151, true), (0, 2097151, 2097151, true), (32, 2097119, 2097151, false), (80, 2097071, 2097151, true), (0, 2097151, 2097151, true), (384, 2096767, 2097151, true), (520, 2096631, 2097151, true), (1024, 2096127, 2097151, false), (0, 2097151, 2097151, true), (4096, 2093055, 2097151, true), (0, 2097151, 2097151, true), (24576, 2072575, 2097151, true), (34816, 2062335, 2097151, true), (65536, 2031615, 2097151, false), (131076, 1966075, 2097151, true), (524287, 2097150, 2097151, true), (1048575, 1310719, 2097151, false)] (by kernel_rfl) (by kernel_rfl) ?_ | refine sk_true rfl ?_)
          all_goals first | (exfalso; omega) | skip
          refine sk_back ?_; refine ⟨0 + 1, ?_, ?_, le_at rfl (by (repeat (first | exact trivial | refine ⟨(by (rfl)), ?_⟩))) (by (repeat (first | exact trivial | refine ⟨rfl, ?_⟩))) (by (repeat (first | exact trivial | refine ⟨(by ((refine row_eq rfl ?_; simp  [e3]; done))), ?_⟩))) (by (repeat (first | exact trivial | refine ⟨.inr rfl, ?_⟩)))⟩
          · omega
          · omega
        · repeat' (first | (refine so_is (.assign _) ?_; (refine so_q (qt_asC rfl) rfl ?_)) | (refine so_is (.move _) ?_; (refine so_q (qt_mvC rfl) rfl ?_)) | (refine so_is (.load 3 _) ?_; (first | refine so_q (qt_load_box rfl rfl (by kernel_rfl) rfl) rfl ?_ | refine so_q (qt_load_pt rfl (by kernel_rfl) rfl) rfl ?_ | refine so_q (qt_load_row rfl rfl (by kernel_rfl) (by (rfl))) rfl ?_)) | (refine so_is (.fieldAddr 27 _ 1) ?_; (refine so_q (qt_fld_lp (off := 1) rfl (by kernel_rfl)) rfl ?_)) | (refine so_is (.binOp .lss 3 _ _ _) ?_; refine so_q (qt_lss rfl rfl) rfl ?_) | (refine so_is (.indexAddr 24 _ _) ?_; (refine so_q (qt_idxI rfl rfl (by kernel_rfl) (by (omega)) (by (omega))) rfl ?_)) | (refine so_is (.indexAddr 132 _ _) ?_; (refine so_q (qt_idxa_lp rfl rfl (by kernel_rfl : tArr _ 132 2 1 = true) (by (omega)) (by (omega))) rfl ?_)) | (refine so_is (.binOp .mul 3 _ _ _) ?_; refine so_q (qt_mulI rfl rfl (by (omega))) rfl ?_) | (refine so_is (.binOp .add 3 _ _ _) ?_; refine so_q (qt_addI rfl rfl (by (first | omega | (simp at *; omega)))) rfl ?_) | (refine so_is (.indexAddr 25 _ _) ?_; (refine so_q (qt_idxII rfl rfl (by kernel_rfl) (by (omega)) (by (omega))) rfl ?_)) | (refine so_is (.load 24 _) ?_; (refine so_q (qt_load_pt rfl (by kernel_rfl) rfl) rfl ?_)) | (refine so_is (.store 3 _ _) ?_; ((refine so_store_row rfl rfl rfl rfl (.lit _) (by simp) (by simp) (by kernel_rfl) (by ((simp; done))) rfl ?_; simp only [St.drop]))) | refine so_nil ?_ | refine sk_seq ?_ | refine sk_block ?_ | refine sk_blk ?_ | refine sk_skip ?_ | refine sk_region ?_ | refine sk_drawQ 15 (fun i => i == 20) (.step 0 true (.step 1 true (.step 2 true (.step 3 true (.step 4 true (.step 5 true (.step 6 true (.step 7 true (.step 8 true (.step 9 true (.step 10 true (.step 11 true (.step 12 true (.step 13 true (.step 14 true (.step 15 true (.step 16 true (.step 17 true (.step 18 true (.step 19 true (.step 20 false .nil))))))))))))))))))))) [(0, 2097151, 2097151, true), (1, 2097150, 2097151, true), (2, 2097149, 2097151, false), (0, 2097151, 2097151, true), (0, 2097151, 2097151, true), (0, 2097151, 2097151, true), (32, 2097119, 2097151, false), (80, 2097071, 2097151, true), (0, 2097151, 2097151, true), (384, 2096767, 2097151, true), (520, 2096631, 2097151, true), (1024, 2096127, 2097151, false), (0, 2097151, 2097151, true), (4096, 2093055, 2097151, true), (0, 2097151, 2097151, true), (24576, 2072575, 2097151, true), (34816, 2062335, 2097151, true), (65536, 2031615, 2097151, false), (131076, 1966075, 2097151, true), (524287, 2097150, 2097151, true), (1048575, 1310719, 2097151, false)] (by kernel_rfl) (by kernel_rfl) ?_ | refine sk_true rfl ?_)
          all_goals first | (exfalso; omega) | skip
          refine sk_back ?_; refine ⟨1 + 1, ?_, ?_, le_at rfl (by (repeat (first | exact trivial | refine ⟨(by (rfl)), ?_⟩))) (by (repeat (first | exact trivial | refine ⟨rfl, ?_⟩))) (by (repeat (first | exact trivial | refine ⟨(by ((refine row_eq rfl ?_; simp  [e3]; done))), ?_⟩))) (by (repeat (first | exact trivial | refine ⟨.inr rfl, ?_⟩)))⟩
          · omega
          · omega
      · have e : b = 2 := by omega
        subst e
        repeat' (first | (refine so_is (.move _) ?_; (refine so_q (qt_mvC rfl) rfl ?_)) | (refine so_is (.binOp .lss 3 _ _ _) ?_; refine so_q (qt_lss rfl rfl) rfl ?_) | (refine so_is (.binOp .add 3 _ _ _) ?_; refine so_q (qt_addI rfl rfl (by (omega))) rfl ?_) | refine so_nil ?_ | refine sk_seq ?_ | refine sk_blk ?_ | refine sk_exit rfl ?_ | refine sk_region ?_ | refine sk_false rfl ?_)
        all_goals first | (exfalso; omega) | skip
        refine sk_back ?_; refine ⟨x + 1, ?_, ?_, le_at rfl (by (repeat (first | exact trivial | refine ⟨(by (rfl)), ?_⟩))) (by (repeat (first | exact trivial | refine ⟨rfl, ?_⟩))) (by (repeat (first | exact trivial | refine ⟨(by ((refine row_eq rfl ?_; simp; done))), ?_⟩))) (by (repeat (first | exact trivial | refine ⟨.inr rfl, ?_⟩)))⟩
        · omega
        · omega
    · have e : x = X := by omega
      subst e
      have b1 := mb y (by omega)
      have b2 := mb1 y hy3
      have e3 : accT (repM x Y ws wi fs) (y + 1) = accT (repM x Y ws wi fs) y + repM x Y ws wi fs y := rfl
      by_cases hc2 : S 1 x > S 0 x
      · have e4 : repM x Y ws wi fs y = S 1 x := by rw [SM, if_pos hc2]
        have e5 : repA x Y ws wi fs y = 1 := by rw [SA, if_pos hc2]
        rw [e4] at e3 b2
        repeat' (first | (with_reducible apply so_lt) | intro Y hY | ((with_reducible apply so_j2); (· assumption); (· rfl); (· exact (by (repeat (first | exact trivial | refine ⟨rfl, ?_⟩)))); (· exact (by (repeat (first | exact trivial | refine ⟨rfl, ?_⟩))))) | ((with_reducible apply so_j1); (· rfl); (· (repeat (first | exact Pf.nil | apply Pf.cons (.c rfl (.d rfl)) | apply Pf.cons (.c rfl (.ls rfl)) | apply Pf.cons (.c rfl (.lp rfl))))); (· (repeat (first | exact Pb.nil | apply Pb.cons (.row rfl) | (apply Pb.cons; (· apply Nb.box rfl; (repeat (first | exact Ncs.nil rfl | (apply Ncs.cons rfl; (· (exact .d rfl))))))) | apply Pb.skip))); (· assumption)) | refine so_alt ?_ ?_ | (refine so_is (.assign _) ?_; (refine so_q (qt_asC rfl) rfl ?_)) | (refine so_is (.move _) ?_; (refine so_q (qt_mvC rfl) rfl ?_)) | (refine so_is (.load 3 _) ?_; (first | refine so_q (qt_load_pt rfl (by kernel_rfl) rfl) rfl ?_ | refine so_q (qt_load_row rfl rfl (by kernel_rfl) (by (rfl))) rfl ?_)) | (refine so_is (.binOp .lss 3 _ _ _) ?_; refine so_q (qt_lss rfl rfl) rfl ?_) | (refine so_is (.indexAddr 24 _ _) ?_; (refine so_q (qt_idxI rfl rfl (by kernel_rfl) (by (omega)) (by (omega))) rfl ?_)) | (refine so_is (.indexAddr 132 _ _) ?_; (refine so_q (qt_idxa_lp rfl rfl (by kernel_rfl : tArr _ 132 2 1 = true) (by (omega)) (by (omega))) rfl ?_)) | (refine so_is (.binOp .add 3 _ _ _) ?_; refine so_q (qt_addI rfl rfl (by (omega))) rfl ?_) | (refine so_is (.binOp .gtr 3 _ _ _) ?_; refine so_q (qt_gtr rfl rfl) rfl ?_) | (refine so_is (.buildSlice 24 1 _) ?_; (apply so_bslice (sz := 1) (by_ := 8); (· kernel_rfl); (· decide); (· (repeat (first | exact GvS.nil _ | apply GvS.c rfl rfl (.lit _) rfl))); (· (decide)); (· rfl); (· rfl); (· rfl))) | (refine so_is (.call ⟨.builtin .append, _, #[24, 24]⟩) ?_; ((apply so_appR (sz := 1) (by_ := 8); (· rfl); (· rfl); (· ((simp; done))); (· exact .row _ _ _ _ rfl (by ((simp; done)))); (· (decide)); (· kernel_rfl); (· decide); (· (omega)); (· (omega)); (· rfl); (· rfl); (· rfl)))) | refine so_nil ?_ | refine sk_seq ?_ | refine sk_block ?_ | refine sk_blk ?_ | refine sk_exit rfl ?_ | refine sk_skip ?_ | refine sk_region ?_ | refine sk_drawQ 21 (fun i => i == 3) (IT.lt .nil fun Y1 => (IT.lt (.step 3 false (.step 9 true (.step 10 true (IT.ref false [1, 2, 7, 8, 9, 35, 36] [2, 32, 33, 11, 79, 80] Y1)))) fun Y0 => (.step 0 true (.step 1 true (.step 4 true (.step 5 true (.step 6 true (.alt 21 (.step 2 false (.alt 21 (.step 3 false (.step 7 true (.step 8 true (.step 9 true (.step 10 true (IT.ref true [1, 2, 7, 8, 9, 35, 36] [2, 32, 33, 11, 79, 80] Y1)))))) (.step 7 false (.step 8 true (IT.ref true [1, 2, 7, 8, 9, 35, 36, 77, 79, 85] [2, 32, 33, 11, 79, 80] Y0))))) (.step 7 false (.step 8 true (.step 2 false (IT.ref false [1, 2, 7, 8, 9, 35, 36, 77, 79, 85] [2, 32, 33, 11, 79, 80] Y0)))))))))))) [(0, 2047, 2047, true), (0, 2047, 2047, true), (2, 2045, 2047, false), (5, 2042, 2047, false), (0, 2047, 2039, true), (0, 2047, 2039, true), (32, 2015, 2039, true), (64, 1983, 2039, false), (144, 1903, 2039, true), (15, 2038, 2039, true), (1023, 1775, 2039, true)] (by kernel_rfl) (by kernel_rfl) ?_ | refine sk_if rfl (fun hc => ?_) (fun hc => ?_))
        all_goals first | (exfalso; omega) | skip
        refine sk_back ?_; refine ⟨y + 1, ?_, ?_, le_at rfl (by (repeat (first | exact trivial | refine ⟨(by (first | rfl | (refine int_eq rfl ?_; (omega)))), ?_⟩))) (by (repeat (first | exact trivial | refine ⟨rfl, ?_⟩))) (by (repeat (first | exact trivial | refine ⟨(by ((refine row_eq rfl ?_; simp  [rowF_snoc, e3, e5]; done))), ?_⟩))) (by (repeat (first | exact trivial | refine ⟨.inr rfl, ?_⟩ | refine ⟨.inl rfl, ?_⟩)))⟩
        · omega
        · omega
      · have e4 : repM x Y ws wi fs y = S 0 x := by rw [SM, if_neg hc2]
        have e5 : repA x Y ws wi fs y = 0 := by rw [SA, if_neg hc2]
        rw [e4] at e3 b2
        repeat' (first | (with_reducible apply so_lt) | intro Y hY | ((with_reducible apply so_j2); (· assumption); (· rfl); (· exact (by (repeat (first | exact trivial | refine ⟨rfl, ?_⟩)))); (· exact (by (repeat (first | exact trivial | refine ⟨rfl, ?_⟩))))) | ((with_reducible apply so_j1); (· rfl); (· (repeat (first | exact Pf.nil | apply Pf.cons (.c rfl (.d rfl)) | apply Pf.cons (.c rfl (.ls rfl)) | apply Pf.cons (.c rfl (.lp rfl))))); (· (repeat (first | exact Pb.nil | apply Pb.cons (.row rfl) | (apply Pb.cons; (· apply Nb.box rfl; (repeat (first | exact Ncs.nil rfl | (apply Ncs.cons rfl; (· (exact .d rfl))))))) | apply Pb.skip))); (· assumption)) | refine so_alt ?_ ?_ | (refine so_is (.assign _) ?_; (refine so_q (qt_asC rfl) rfl ?_)) | (refine so_is (.move _) ?_; (refine so_q (qt_mvC rfl) rfl ?_)) | (refine so_is (.load 3 _) ?_; (first | refine so_q (qt_load_pt rfl (by kernel_rfl) rfl) rfl ?_ | refine so_q (qt_load_row rfl rfl (by kernel_rfl) (by (rfl))) rfl ?_)) | (refine so_is (.binOp .lss 3 _ _ _) ?_; refine so_q (qt_lss rfl rfl) rfl ?_) | (refine so_is (.indexAddr 24 _ _) ?_; (refine so_q (qt_idxI rfl rfl (by kernel_rfl) (by (omega)) (by (omega))) rfl ?_)) | (refine so_is (.indexAddr 132 _ _) ?_; (refine so_q (qt_idxa_lp rfl rfl (by kernel_rfl : tArr _ 132 2 1 = true) (by (omega)) (by (omega))) rfl ?_)) | (refine so_is (.binOp .add 3 _ _ _) ?_; refine so_q (qt_addI rfl rfl (by (omega))) rfl ?_) | (refine so_is (.binOp .gtr 3 _ _ _) ?_; refine so_q (qt_gtr rfl rfl) rfl ?_) | (refine so_is (.buildSlice 24 1 _) ?_; (apply so_bslice (sz := 1) (by_ := 8); (· kernel_rfl); (· decide); (· (repeat (first | exact GvS.nil _ | apply GvS.c rfl rfl (.lit _) rfl))); (· (decide)); (· rfl); (· rfl); (· rfl))) | (refine so_is (.call ⟨.builtin .append, _, #[24, 24]⟩) ?_; ((apply so_appR (sz := 1) (by_ := 8); (· rfl); (· rfl); (· ((simp; done))); (· exact .row _ _ _ _ rfl (by ((simp; done)))); (· (decide)); (· kernel_rfl); (· decide); (· (omega)); (· (omega)); (· rfl); (· rfl); (· rfl)))) | refine so_nil ?_ | refine sk_seq ?_ | refine sk_block ?_ | refine sk_blk ?_ | refine sk_exit rfl ?_ | refine sk_skip ?_ | refine sk_region ?_ | refine sk_drawQ 21 (fun i => i == 3) (IT.lt .nil fun Y1 => (IT.lt (.step 3 false (.step 9 true (.step 10 true (IT.ref false [1, 2, 7, 8, 9, 35, 36] [2, 32, 33, 11, 79, 80] Y1)))) fun Y0 => (.step 0 true (.step 1 true (.step 4 true (.step 5 true (.step 6 true (.alt 21 (.step 2 false (.alt 21 (.step 3 false (.step 7 true (.step 8 true (.step 9 true (.step 10 true (IT.ref true [1, 2, 7, 8, 9, 35, 36] [2, 32, 33, 11, 79, 80] Y1)))))) (.step 7 false (.step 8 true (IT.ref true [1, 2, 7, 8, 9, 35, 36, 77, 79, 85] [2, 32, 33, 11, 79, 80] Y0))))) (.step 7 false (.step 8 true (.step 2 false (IT.ref false [1, 2, 7, 8, 9, 35, 36, 77, 79, 85] [2, 32, 33, 11, 79, 80] Y0)))))))))))) [(0, 2047, 2047, true), (0, 2047, 2047, true), (2, 2045, 2047, false), (5, 2042, 2047, false), (0, 2047, 2039, true), (0, 2047, 2039, true), (32, 2015, 2039, true), (64, 1983, 2039, false), (144, 1903, 2039, true), (15, 2038, 2039, true), (1023, 1775, 2039, true)] (by kernel_rfl) (by kernel_rfl) ?_ | refine sk_if rfl (fun hc => ?_) (fun hc => ?_))
        all_goals first | (exfalso; omega) | skip
        refine sk_back ?_; refine ⟨y + 1, ?_, ?_, le_at rfl (by (repeat (first | exact trivial | refine ⟨(by (first | rfl | (refine int_eq rfl ?_; (omega)))), ?_⟩))) (by (repeat (first | exact trivial | refine ⟨rfl, ?_⟩))) (by (repeat (first | exact trivial | refine ⟨(by ((refine row_eq rfl ?_; simp  [rowF_snoc, e3, e5]; done))), ?_⟩))) (by (repeat (first | exact trivial | refine ⟨.inr rfl, ?_⟩ | refine ⟨.inl rfl, ?_⟩)))⟩
        · omega
        · omega
  · have e : y = Y := by omega
    subst e
    repeat' (first | (refine so_is (.assign _) ?_; (refine so_q (qt_asC rfl) rfl ?_)) | (refine so_is (.move _) ?_; (refine so_q (qt_mvC rfl) rfl ?_)) | (refine so_is (.call ⟨.builtin .len, _, #[24]⟩) ?_; (refine so_q (qt_len_d rfl (by kernel_rfl)) rfl ?_)) | (refine so_is (.binOp .lss 3 _ _ _) ?_; refine so_q (qt_lss rfl rfl) rfl ?_) | (refine so_is (.build 132 _) ?_; refine so_q (qt_build (cs := [_, _]) [(0, 1), (1, 1)] [.int .i64 0, .int .i64 0] (by kernel_rfl) (by kernel_rfl) rfl) rfl ?_) | (refine so_is (.alloc 132) ?_; refine so_alloc (zs := [.int .i64 0, .int .i64 0]) (by kernel_rfl) rfl ?_) | (refine so_is (.store 132 _ _) ?_; (refine so_store_box rfl rfl rfl (by kernel_rfl) rfl rfl ?_)) | refine so_nil ?_ | refine sk_seq ?_ | refine sk_block ?_ | refine sk_exit rfl ?_ | refine sk_skip ?_ | refine sk_region ?_ | refine sk_if rfl (fun hc => ?_) (fun hc => ?_))
    all_goals first | (exfalso; omega) | skip
    (apply sk_ret; apply ret_eq; (· apply RetOK.t; (· (apply GvA.cons; (· exact .tmp _); (· (exact GvP.c (.row _ _ _ _ rfl (by ((simp; done))))))); (apply GvA.cons; (· exact .tmp _); (· exact GvP.c (.lit _))); (apply GvA.cons; (· exact .tmp _); (· exact GvP.c (.lit _))); exact GvA.nil); (· rfl); (· (decide))))
    simp

end Go.Proofs.Ytefbiejoikpkmaa

namespace Go.Proofs.Ytefbiejoikpkmaa
open Go.RowKit
set_option linter.unusedSectionVars false
variable [Glb]
set_option maxRecDepth 10000
set_option maxHeartbeats 4000000
theorem l1In_p (n lo hi : Int) : PC Try.prog 144 [.c (dI n), .c (dI lo), .c (dI hi)] (.p (.c (dB (inB n lo hi)))) := by
  refine pc_intro Try.func144 rfl rfl rfl (by kernel_rfl) rfl rfl ?_; intro _
  repeat' (first | (refine so_is (.assign _) ?_; (refine so_q (qt_asC rfl) rfl ?_)) | (refine so_is (.move _) ?_; (refine so_q (qt_mvC rfl) rfl ?_)) | (refine so_is (.binOp .geq 3 _ _ _) ?_; refine so_q (qt_geq rfl rfl) rfl ?_) | (refine so_is (.binOp .leq 3 _ _ _) ?_; refine so_q (qt_leq rfl rfl) rfl ?_) | (refine so_is (.pick _ _ _) ?_; (refine so_q (qt_pkC rfl rfl) rfl ?_)) | refine so_nil ?_ | refine so_g_no rfl rfl rfl rfl ?_ | refine so_g_yes rfl rfl rfl rfl ?_ | refine so_g_if rfl rfl (fun hg => ?_) (fun hg => ?_) | refine sk_seq ?_ | refine sk_region ?_)
  all_goals ((apply sk_ret; apply ret_eq; (· apply RetOK.p; (· (apply GvA.cons; (· exact .tmp _); (· exact GvP.c (.lit _))); exact GvA.nil); (· (decide)))))
  all_goals (simp [dB, inB, *]; try omega)

end Go.Proofs.Ytefbiejoikpkmaa

namespace Go.Proofs.Ytefbiejoikpkmaa
open Go.RowKit
set_option linter.unusedSectionVars false
variable [Glb]
set_option maxRecDepth 10000
set_option maxHeartbeats 4000000
theorem l2Bits_p (l : List Int) (n : Int) : PC Try.prog 87 [.c (eI l), .c (dI n)] (.p (.c (dB (bitsB l n)))) := by
  refine pc_intro Try.func87 rfl rfl rfl (by kernel_rfl) rfl rfl ?_; rintro ⟨hl, -⟩
  have hl := hl.len
  repeat' (first | (refine so_is (.assign _) ?_; (refine so_q (qt_asC rfl) rfl ?_)) | refine so_nil ?_ | refine sk_seq ?_ | refine sk_block ?_ | refine sk_region ?_)
  apply sk_packC [0, 1, 5] [] rfl; (· (repeat (first | exact Pf.nil | apply Pf.cons (.c rfl (.d rfl))))); (· (repeat (exact Pb.nil)))
  refine sk_loopL [0, 1] [] (fun k => [(5, iN k)]) (fun _ => []) (fun k => k ≤ l.length ∧ (l.take k).all (fun n => inB n 0 1) = true) (fun k => l.length - k) (0) ?_ (by (repeat (first | exact trivial | refine ⟨(by (rfl)), ?_⟩))) (by (repeat (exact trivial))) ?_
  · simp
  rintro k ⟨hk, ha⟩
  repeat' (first | (refine so_is (.assign _) ?_; (refine so_q (qt_asC rfl) rfl ?_)) | (refine so_is (.move _) ?_; (refine so_q (qt_mvC rfl) rfl ?_)) | (refine so_is (.call ⟨.builtin .len, _, #[24]⟩) ?_; (refine so_q (qt_len_d rfl (by kernel_rfl)) rfl ?_)) | (refine so_is (.binOp .lss 3 _ _ _) ?_; refine so_q (qt_lss rfl rfl) rfl ?_) | (refine so_is (.indexAddr 24 _ _) ?_; (refine so_q (qt_idxI rfl rfl (by kernel_rfl) (by (omega)) (by (omega))) rfl ?_)) | (refine so_is (.load 3 _) ?_; (refine so_q (qt_load_pt rfl (by kernel_rfl) rfl) rfl ?_)) | (refine so_is (.unOp .not 4 _) ?_; refine so_q (qt_not rfl) rfl ?_) | (refine so_is (.binOp .add 3 _ _ _) ?_; refine so_q (qt_addI rfl rfl (by (omega))) rfl ?_) | (refine so_is (.binOp .eql 3 _ _ _) ?_; refine so_q (qt_eql rfl rfl) rfl ?_) | (refine so_is (.call ⟨.value (.func 144), _, _⟩) ?_; (apply so_call0 (fid := 144); (· (repeat (first | exact SeA.nil | apply SeA.cons (.c (.d _))))); (· exact l1In_p _ _ _); (· rfl))) | refine so_nil ?_ | refine sk_seq ?_ | refine sk_block ?_ | refine sk_blk ?_ | refine sk_exit rfl ?_ | refine sk_skip ?_ | refine sk_region ?_ | refine sk_if rfl (fun hc => ?_) (fun hc => ?_) | refine sk_not rfl (fun hc => ?_) (fun hc => ?_))
  · rename_i hk'
    rw [atZ_nat (by omega)] at hc
    (apply sk_ret; apply ret_eq; (· apply RetOK.p; (· (apply GvA.cons; (· exact .tmp _); (· exact GvP.c (.lit _))); exact GvA.nil); (· (decide))))
    rw [bitsB, allB, all_f (by omega) hc]; simp
  · rename_i hk'
    rw [atZ_nat (by omega)] at hc
    refine sk_back ?_; refine ⟨k + 1, ?_, ?_, le_at rfl (by (repeat (first | exact trivial | refine ⟨(by (rfl)), ?_⟩))) (by (repeat (first | exact trivial | refine ⟨rfl, ?_⟩))) (by (repeat (exact trivial))) (by (repeat (exact trivial)))⟩
    · exact ⟨by omega, by rw [take_succ_all _ _ _ (by omega), ha, hc]; rfl⟩
    · omega
  · (apply sk_ret; apply ret_eq; (· apply RetOK.p; (· (apply GvA.cons; (· exact .tmp _); (· exact GvP.c (.lit _))); exact GvA.nil); (· (decide))))
    rw [bitsB, allB, all_t (by omega) ha]; simp

end Go.Proofs.Ytefbiejoikpkmaa

namespace Go.Proofs.Ytefbiejoikpkmaa
open Go.RowKit
set_option linter.unusedSectionVars false
variable [Glb]
set_option maxRecDepth 10000
set_option maxHeartbeats 4000000
theorem l2Sizes_p (x y : Int) : PC Try.prog 181 [.c (dI x), .c (dI y)] (.p (.c (dB (sizeB x y)))) := by
  refine pc_intro Try.func181 rfl rfl rfl (by kernel_rfl) rfl rfl ?_; intro _
  repeat' (first | (refine so_is (.assign _) ?_; (refine so_q (qt_asC rfl) rfl ?_)) | (refine so_is (.move _) ?_; (refine so_q (qt_mvC rfl) rfl ?_)) | (refine so_is (.pick _ _ _) ?_; (refine so_q (qt_pkC rfl rfl) rfl ?_)) | (refine so_is (.call ⟨.value (.func 144), _, _⟩) ?_; (apply so_call0 (fid := 144); (· (repeat (first | exact SeA.nil | apply SeA.cons (.c (.d _))))); (· exact l1In_p _ _ _); (· rfl))) | refine so_nil ?_ | refine so_g_no rfl rfl rfl rfl ?_ | refine so_g_yes rfl rfl rfl rfl ?_ | refine so_g_b rfl rfl (fun hg => ?_) (fun hg => ?_) | refine sk_seq ?_ | refine sk_region ?_)
  all_goals (apply sk_ret; apply ret_eq; (· apply RetOK.p; (· (apply GvA.cons; (· exact .tmp _); (· exact GvP.c (.lit _))); exact GvA.nil); (· (decide))))
  all_goals ((simp_all [sizeB]; done))

end Go.Proofs.Ytefbiejoikpkmaa

namespace Go.Proofs.Ytefbiejoikpkmaa
open Go.RowKit
set_option linter.unusedSectionVars false
variable [Glb]
set_option maxRecDepth 10000
set_option maxHeartbeats 4000000
theorem l4Game_p (x y : Int) (ws : List Int) (wi : List (List Int)) : PC Try.prog 85 [.g [dI x, dI y, eI ws, eII wi]] (.p (.c (dB (gameB x y ws wi)))) := by
  refine pc_intro Try.func85 rfl rfl rfl (by kernel_rfl) rfl rfl ?_; rintro ⟨hl, -⟩
  have hl := (hl _ (List.mem_cons_of_mem _ (List.mem_cons_of_mem _ (List.mem_cons_self ..)))).len
  have hw := wrap_mul3 (x := x) (y := y)
  repeat' (first | (refine so_is (.box 27 _) ?_; refine so_box rfl rfl ?_) | (refine so_is (.assign _) ?_; (refine so_q (qt_asC rfl) rfl ?_)) | (refine so_is (.fieldAddr 27 _ 0) ?_; (refine so_q (qt_fld_lp (off := 0) rfl (by kernel_rfl)) rfl ?_)) | (refine so_is (.load 3 _) ?_; (refine so_q (qt_load_box rfl rfl (by kernel_rfl) rfl) rfl ?_)) | (refine so_is (.fieldAddr 27 _ 1) ?_; (refine so_q (qt_fld_lp (off := 1) rfl (by kernel_rfl)) rfl ?_)) | (refine so_is (.unOp .not 4 _) ?_; refine so_q (qt_not rfl) rfl ?_) | (refine so_is (.move _) ?_; (refine so_q (qt_mvC rfl) rfl ?_)) | (refine so_is (.fieldAddr 27 _ 2) ?_; (refine so_q (qt_fld_lp (off := 2) rfl (by kernel_rfl)) rfl ?_)) | (refine so_is (.load 24 _) ?_; (refine so_q (qt_load_box rfl rfl (by kernel_rfl) rfl) rfl ?_)) | (refine so_is (.call ⟨.builtin .len, _, #[24]⟩) ?_; (refine so_q (qt_len_d rfl (by kernel_rfl)) rfl ?_)) | (refine so_is (.binOp .mul 3 _ _ _) ?_; (refine so_q (qt_mul rfl rfl) rfl ?_)) | (refine so_is (.binOp .neq 3 _ _ _) ?_; refine so_q (qt_neq rfl rfl) rfl ?_) | (refine so_is (.pick _ _ _) ?_; (refine so_q (qt_pkC rfl rfl) rfl ?_)) | (refine so_is (.fieldAddr 27 _ 3) ?_; (refine so_q (qt_fld_lp (off := 3) rfl (by kernel_rfl)) rfl ?_)) | (refine so_is (.load 25 _) ?_; (refine so_q (qt_load_box rfl rfl (by kernel_rfl) rfl) rfl ?_)) | (refine so_is (.call ⟨.builtin .len, _, #[25]⟩) ?_; (refine so_q (qt_len_d rfl (by kernel_rfl)) rfl ?_)) | (refine so_is (.call ⟨.value (.func 181), _, _⟩) ?_; (apply so_call0 (fid := 181); (· (repeat (first | exact SeA.nil | apply SeA.cons (.c (.d _))))); (· exact l2Sizes_p _ _); (· rfl))) | refine so_nil ?_ | refine so_g_no rfl rfl rfl rfl ?_ | refine so_g_yes rfl rfl rfl rfl ?_ | refine so_g_if rfl rfl (fun hg => ?_) (fun hg => ?_) | refine so_g_b rfl rfl (fun hg => ?_) (fun hg => ?_) | refine sk_seq ?_ | refine sk_block ?_ | refine sk_skip ?_ | refine sk_region ?_ | refine sk_true rfl ?_ | refine sk_if rfl (fun hc => ?_) (fun hc => ?_))
  · (apply sk_ret; apply ret_eq; (· apply RetOK.p; (· (apply GvA.cons; (· exact .tmp _); (· exact GvP.c (.lit _))); exact GvA.nil); (· (decide))))
    have h9 : sizeB x y = false := by simpa using hg
    simp [gameB, h9]
  · (apply sk_ret; apply ret_eq; (· apply RetOK.p; (· (apply GvA.cons; (· exact .tmp _); (· exact GvP.c (.lit _))); exact GvA.nil); (· (decide))))
    have h9 : ¬ (ws.length : Int) = x * y := by rw [← hw (by simp_all)]; omega
    simp [gameB, h9]
  · (apply sk_ret; apply ret_eq; (· apply RetOK.p; (· (apply GvA.cons; (· exact .tmp _); (· exact GvP.c (.lit _))); exact GvA.nil); (· (decide))))
    have h9 : ¬ (wi.length : Int) = x * y := by rw [← hw (by simp_all)]; omega
    simp [gameB, h9]
  have hs : sizeB x y = true := by simp_all
  have h1 : (ws.length : Int) = x * y := by rw [← hw hs]; simp_all
  have h4 : (wi.length : Int) = x * y := by rw [← hw hs]; simp_all
  have hm := mul_bd3 hs
  apply sk_packC [1, 3, 4] [1] rfl; (· (repeat (first | exact Pf.nil | apply Pf.cons (.c rfl (.d rfl)) | apply Pf.cons (.c rfl (.lp rfl))))); (· (repeat (first | exact Pb.nil | (apply Pb.cons; (· apply Nb.box rfl; (repeat (first | exact Ncs.nil rfl | (apply Ncs.cons rfl; (· (exact .d rfl))))))))))
  refine sk_loopL [1] [1] (fun k => [(4, iN k), (3, iZ (sum64 (ws.take k)))]) (fun _ => []) (fun k => k ≤ ws.length ∧ (ws.take k).all (fun m => inB m 0 99) = true ∧ (wi.take k).all (fun l => bitsB l 4) = true) (fun k => ws.length - k) (0) ?_ (by (repeat (first | exact trivial | refine ⟨(by (rfl)), ?_⟩))) (by (repeat (exact trivial))) ?_
  · simp
  rintro k ⟨hk, ha, hb⟩
  repeat' (first | (refine so_is (.assign _) ?_; (refine so_q (qt_asC rfl) rfl ?_)) | (refine so_is (.load 3 _) ?_; (refine so_q (qt_load_pt rfl (by kernel_rfl) rfl) rfl ?_)) | (refine so_is (.unOp .not 4 _) ?_; refine so_q (qt_not rfl) rfl ?_) | (refine so_is (.move _) ?_; (refine so_q (qt_mvC rfl) rfl ?_)) | (refine so_is (.fieldAddr 27 _ 2) ?_; (refine so_q (qt_fld_lp (off := 2) rfl (by kernel_rfl)) rfl ?_)) | (refine so_is (.load 24 _) ?_; (first | refine so_q (qt_load_box rfl rfl (by kernel_rfl) rfl) rfl ?_ | refine so_q (qt_load_pt rfl (by kernel_rfl) rfl) rfl ?_)) | (refine so_is (.call ⟨.builtin .len, _, #[24]⟩) ?_; (refine so_q (qt_len_d rfl (by kernel_rfl)) rfl ?_)) | (refine so_is (.pick _ _ _) ?_; (refine so_q (qt_pkC rfl rfl) rfl ?_)) | (refine so_is (.fieldAddr 27 _ 3) ?_; (refine so_q (qt_fld_lp (off := 3) rfl (by kernel_rfl)) rfl ?_)) | (refine so_is (.load 25 _) ?_; (refine so_q (qt_load_box rfl rfl (by kernel_rfl) rfl) rfl ?_)) | (refine so_is (.binOp .lss 3 _ _ _) ?_; refine so_q (qt_lss rfl rfl) rfl ?_) | (refine so_is (.indexAddr 24 _ _) ?_; (refine so_q (qt_idxI rfl rfl (by kernel_rfl) (by (omega)) (by (omega))) rfl ?_)) | (refine so_is (.indexAddr 25 _ _) ?_; (refine so_q (qt_idxII rfl rfl (by kernel_rfl) (by (omega)) (by (omega))) rfl ?_)) | (refine so_is (.binOp .add 3 _ _ _) ?_; (first | refine so_q (qt_addI rfl rfl (by (omega))) rfl ?_ | refine so_q (qt_add rfl rfl) rfl ?_)) | (refine so_is (.binOp .gtr 3 _ _ _) ?_; refine so_q (qt_gtr rfl rfl) rfl ?_) | (refine so_is (.call ⟨.value (.func 144), _, _⟩) ?_; (apply so_call0 (fid := 144); (· (repeat (first | exact SeA.nil | apply SeA.cons (.c (.d _))))); (· exact l1In_p _ _ _); (· rfl))) | (refine so_is (.call ⟨.value (.func 87), _, _⟩) ?_; (apply so_call0 (fid := 87); (· (repeat (first | exact SeA.nil | apply SeA.cons (.c (.d _))))); (· exact l2Bits_p _ _); (· rfl))) | refine so_nil ?_ | refine so_g_no rfl rfl rfl rfl ?_ | refine so_g_yes rfl rfl rfl rfl ?_ | refine so_g_b rfl rfl (fun hg => ?_) (fun hg => ?_) | refine sk_seq ?_ | refine sk_block ?_ | refine sk_blk ?_ | refine sk_exit rfl ?_ | refine sk_skip ?_ | refine sk_region ?_ | refine sk_true rfl ?_ | refine sk_if rfl (fun hc => ?_) (fun hc => ?_) | refine sk_not rfl (fun hc => ?_) (fun hc => ?_))
  · have hk2 : k < ws.length := by omega
    rw [atZ_nat hk2] at hg
    (apply sk_ret; apply ret_eq; (· apply RetOK.p; (· (apply GvA.cons; (· exact .tmp _); (· exact GvP.c (.lit _))); exact GvA.nil); (· (decide))))
    have h9 : allB ws 0 99 = false := all_f hk2 (by simpa using hg)
    simp [gameB, h9]
  · have hk2 : k < wi.length := by omega
    rw [atZ_nat hk2] at hc
    (apply sk_ret; apply ret_eq; (· apply RetOK.p; (· (apply GvA.cons; (· exact .tmp _); (· exact GvP.c (.lit _))); exact GvA.nil); (· (decide))))
    simp only [gameB, all_f (p := fun l => bitsB l 4) hk2 hc]; simp
  · have hk2 : k < ws.length := by omega
    have hk3 : k < wi.length := by omega
    rw [atZ_nat hk2] at hg
    rw [atZ_nat hk3] at hc
    have h9 : inB ws[k] 0 99 = true := by simpa using hg
    refine sk_back ?_; refine ⟨k + 1, ?_, ?_, le_at rfl (by (repeat (first | exact trivial | refine ⟨(by (first | rfl | (refine int_eq rfl ?_; ((simp  [sum64_snoc hk2, atZ_nat hk2]; done))))), ?_⟩))) (by (repeat (first | exact trivial | refine ⟨rfl, ?_⟩))) (by (repeat (exact trivial))) (by (repeat (first | exact trivial | refine ⟨.inr rfl, ?_⟩)))⟩
    · exact ⟨by omega, by rw [take_succ_all _ _ _ hk2, ha, h9]; rfl, by rw [take_succ_all _ _ _ hk3, hb, hc]; rfl⟩
    · omega
  · have : k = ws.length := by omega
    subst this
    have e : ws.length = wi.length := by omega
    rw [List.take_length] at ha
    rw [e, List.take_length] at hb
    have h5 := sum64_small (l := ws) (m := 99) (by omega) ha (by omega) (by omega)
    (apply sk_ret; apply ret_eq; (· apply RetOK.p; (· (apply GvA.cons; (· exact .tmp _); (· exact GvP.c (.lit _))); exact GvA.nil); (· (decide))))
    have ha2 : allB ws 0 99 = true := ha
    simp [gameB, hs, h1, h4, ha2, hb]
    rw [h5.1]
    by_cases h0 : ws.sum = 0 <;> simp [h0] <;> omega

end Go.Proofs.Ytefbiejoikpkmaa

namespace Go.Proofs.Ytefbiejoikpkmaa
open Go.RowKit
set_option linter.unusedSectionVars false
variable [Glb]
set_option maxRecDepth 10000
set_option maxHeartbeats 4000000
theorem l2Plays_p (x y : Nat) (h : x + y ≤ 6) : PC Try.prog 96 [.c (dI x), .c (dI y)] (.p (.c (eII (playsF (x + y))))) := by
  have e2 : (2 : Nat) ^ (x + y) ≤ 64 := Nat.le_trans (Nat.pow_le_pow_right (by omega) h) (by decide)
  obtain ⟨N, hN⟩ : ∃ N : Nat, N = 2 ^ (x + y) := ⟨_, rfl⟩
  rw [← hN] at e2
  have e1 : (1 : Int) * 2 ^ ((x : Int) + y).toNat = N := by
    rw [show ((x : Int) + y).toNat = x + y by omega, hN, Int.natCast_pow]; simp
  refine pc_intro Try.func96 rfl rfl rfl (by kernel_rfl) rfl rfl ?_; intro _
  repeat' (first | (refine so_is (.assign _) ?_; (refine so_q (qt_asC rfl) rfl ?_)) | (refine so_is (.buildSlice 25 0 _) ?_; (apply so_bslice (sz := 1) (by_ := 24); (· kernel_rfl); (· decide); (· (repeat (exact GvS.nil _))); (· (decide)); (· rfl); (· rfl); (· rfl))) | refine so_nil ?_ | refine sk_seq ?_ | refine sk_block ?_ | refine sk_region ?_)
  apply sk_packC [0, 1, 5, 6] [9, 18, 36, 37, 40, 41] rfl; (· (repeat (first | exact Pf.nil | apply Pf.cons (.c rfl (.d rfl)) | apply Pf.cons (.c rfl (.ls rfl))))); (· (repeat (first | exact Pb.nil | apply Pb.cons (.row rfl) | apply Pb.skip)))
  refine sk_loopL [0, 1] [18, 36, 37, 40, 41] (fun c => [(6, iN c), (5, .c (.ls 9 1 0 c))]) (fun c => [(9, .row 1 (cII ((List.range c).map (bitsM (x + y)))))]) (fun c => c ≤ N) (fun c => N - c) (0) ?_ (by (repeat (first | exact trivial | refine ⟨(by (rfl)), ?_⟩))) (by (repeat (first | exact trivial | refine ⟨(by ((refine row_eq rfl ?_; simp; done))), ?_⟩))) ?_
  · omega
  intro c hc
  repeat' (first | (refine so_is (.assign _) ?_; (refine so_q (qt_asC rfl) rfl ?_)) | (refine so_is (.move _) ?_; (refine so_q (qt_mvC rfl) rfl ?_)) | (refine so_is (.binOp .add 3 _ _ _) ?_; refine so_q (qt_addI rfl rfl (by (omega))) rfl ?_) | (refine so_is (.binOp .shl 3 _ _ _) ?_; (refine so_q (qt_shlI rfl rfl (by (omega)) (by (omega)) (by (omega))) rfl ?_)) | (refine so_is (.binOp .lss 3 _ _ _) ?_; refine so_q (qt_lss rfl rfl) rfl ?_) | (refine so_is (.buildSlice 24 0 _) ?_; (apply so_bslice (sz := 1) (by_ := 8); (· kernel_rfl); (· decide); (· (repeat (exact GvS.nil _))); (· (decide)); (· rfl); (· rfl); (· rfl))) | refine so_nil ?_ | refine sk_seq ?_ | refine sk_block ?_ | refine sk_exit rfl ?_ | refine sk_skip ?_ | refine sk_region ?_ | refine sk_if rfl (fun hc => ?_) (fun hc => ?_))
  · apply sk_packC [0, 1, 5, 6, 7, 8] [9, 18, 36, 37, 40, 41] rfl; (· (repeat (first | exact Pf.nil | apply Pf.cons (.c rfl (.d rfl)) | apply Pf.cons (.c rfl (.ls rfl))))); (· (repeat (first | exact Pb.nil | apply Pb.cons (.row rfl) | apply Pb.skip)))
    refine sk_loopL [0, 1, 5, 6] [9, 36, 37, 40, 41] (fun i => [(8, iN i), (7, .c (.ls 18 1 0 i))]) (fun i => [(18, .row 1 (cI (rowF (fun i => (bitN c (x + y - 1 - i) : Int)) i)))]) (fun i => i ≤ x + y) (fun i => x + y - i) (0) ?_ (by (repeat (first | exact trivial | refine ⟨(by (rfl)), ?_⟩))) (by (repeat (first | exact trivial | refine ⟨(by (rfl)), ?_⟩))) ?_
    · omega
    intro i hi
    have e3 : i < x + y → (c : Int) / 2 ^ ((x : Int) + y - 1 - i).toNat % 2 = (bitN c (x + y - 1 - i) : Int) := fun h => by
      rw [show ((x : Int) + y - 1 - i).toNat = x + y - 1 - i by omega, bit_nat]
    repeat' (first | (refine so_is (.assign _) ?_; (refine so_q (qt_asC rfl) rfl ?_)) | (refine so_is (.move _) ?_; (refine so_q (qt_mvC rfl) rfl ?_)) | (refine so_is (.binOp .add 3 _ _ _) ?_; refine so_q (qt_addI rfl rfl (by (omega))) rfl ?_) | (refine so_is (.binOp .lss 3 _ _ _) ?_; refine so_q (qt_lss rfl rfl) rfl ?_) | (refine so_is (.binOp .sub 3 _ _ _) ?_; refine so_q (qt_subI rfl rfl (by (omega))) rfl ?_) | (refine so_is (.binOp .shr 3 _ _ _) ?_; (refine so_q (qt_shrI rfl rfl (by (omega)) (by (omega))) rfl ?_)) | (refine so_is (.binOp .and 3 _ _ _) ?_; refine so_q (qt_andM 1 (c := 2) rfl rfl (by decide)) rfl ?_) | (refine so_is (.buildSlice 24 1 _) ?_; (apply so_bslice (sz := 1) (by_ := 8); (· kernel_rfl); (· decide); (· (repeat (first | exact GvS.nil _ | apply GvS.c rfl rfl (.lit _) rfl))); (· (decide)); (· rfl); (· rfl); (· rfl))) | (refine so_is (.call ⟨.builtin .append, _, #[24, 24]⟩) ?_; ((apply so_appR (sz := 1) (by_ := 8); (· rfl); (· rfl); (· ((simp; done))); (· exact .row _ _ _ _ rfl (by ((simp; done)))); (· (decide)); (· kernel_rfl); (· decide); (· (omega)); (· (omega)); (· rfl); (· rfl); (· rfl)))) | (refine so_is (.buildSlice 25 1 _) ?_; (apply so_bslice (sz := 1) (by_ := 24); (· kernel_rfl); (· decide); (· (repeat (first | exact GvS.nil _ | apply GvS.c rfl rfl (.row _ _ _ _ rfl (by ((simp; done)))) rfl))); (· (decide)); (· rfl); (· rfl); (· rfl))) | (refine so_is (.call ⟨.builtin .append, _, #[25, 25]⟩) ?_; ((apply so_appR (sz := 1) (by_ := 24); (· rfl); (· rfl); (· ((simp; done))); (· exact .row _ _ _ _ rfl (by ((simp; done)))); (· (decide)); (· kernel_rfl); (· decide); (· (omega)); (· (omega)); (· rfl); (· rfl); (· rfl)))) | refine so_nil ?_ | refine sk_seq ?_ | refine sk_block ?_ | refine sk_blk ?_ | refine sk_exit rfl ?_ | refine sk_skip ?_ | refine sk_region ?_ | refine sk_if rfl (fun hc => ?_) (fun hc => ?_))
    · have e3 := e3 (by omega)
      simp at e3
      refine sk_back ?_; refine ⟨i + 1, ?_, ?_, le_at rfl (by (repeat (first | exact trivial | refine ⟨(by (rfl)), ?_⟩))) (by (repeat (first | exact trivial | refine ⟨rfl, ?_⟩))) (by (repeat (first | exact trivial | refine ⟨(by ((refine row_eq rfl ?_; simp  [rowF_snoc, e3]; done))), ?_⟩))) (by (repeat (first | exact trivial | refine ⟨.inr rfl, ?_⟩)))⟩
      · omega
      · omega
    · have h8 : i = x + y := by omega
      subst h8
      refine sk_back ?_; refine ⟨c + 1, ?_, ?_, le_at rfl (by (repeat (first | exact trivial | refine ⟨(by (rfl)), ?_⟩))) (by (repeat (first | exact trivial | refine ⟨rfl, ?_⟩))) (by (repeat (first | exact trivial | refine ⟨(by ((refine row_eq rfl ?_; simp  [plays_snoc, bitsM]; done))), ?_⟩))) (by (repeat (first | exact trivial | refine ⟨.inr rfl, ?_⟩)))⟩
      · omega
      · omega
  · have h8 : c = N := by omega
    subst h8
    subst hN
    (apply sk_ret; apply ret_eq; (· apply RetOK.p; (· (apply GvA.cons; (· exact .tmp _); (· (exact GvP.c (.row _ _ _ _ rfl (by ((simp; done))))))); exact GvA.nil); (· (decide))))
    simp [playsF]

end Go.Proofs.Ytefbiejoikpkmaa

namespace Go.Proofs.Ytefbiejoikpkmaa
open Go.RowKit
set_option linter.unusedSectionVars false
variable [Glb]
set_option maxRecDepth 10000
set_option maxHeartbeats 4000000
theorem l4Won_p (X Y : Nat) (ws : List Int) (wi : List (List Int)) (x y : Nat) (a b : Int) (h : gameB X Y ws wi = true) (hx : x < X) (hy : y < Y) (ha : 0 ≤ a ∧ a ≤ 1) (hb : 0 ≤ b ∧ b ≤ 1) : PC Try.prog 125 [.g [dI X, dI Y, eI ws, eII wi], .c (dI x), .c (dI y), .c (dI a), .c (dI b)] (.p (.c (dI (atZ ws ((x : Int) * Y + y) * atZ (atZ wi ((x : Int) * Y + y)) (2 * a + b))))) := by
  have ok := pair_ok h hx hy
  have o1 := ok.lt2; have o2 := ok.ge; have o3 := ok.le; have o4 := ok.g1; have o5 := ok.g2; have o6 := ok.lt; have o7 := ok.len
  have ob := ok.bit (2 * a + b) (by omega) (by omega)
  have m := mul01 ⟨ok.w0, ok.w1⟩ ob
  refine pc_intro Try.func125 rfl rfl rfl (by kernel_rfl) rfl rfl ?_; intro _
  repeat' (first | (refine so_is (.box 27 _) ?_; refine so_box rfl rfl ?_) | (refine so_is (.assign _) ?_; (refine so_q (qt_asC rfl) rfl ?_)) | (refine so_is (.fieldAddr 27 _ 2) ?_; (refine so_q (qt_fld_lp (off := 2) rfl (by kernel_rfl)) rfl ?_)) | (refine so_is (.load 24 _) ?_; (first | refine so_q (qt_load_box rfl rfl (by kernel_rfl) rfl) rfl ?_ | refine so_q (qt_load_pt rfl (by kernel_rfl) rfl) rfl ?_)) | (refine so_is (.move _) ?_; (refine so_q (qt_mvC rfl) rfl ?_)) | (refine so_is (.fieldAddr 27 _ 1) ?_; (refine so_q (qt_fld_lp (off := 1) rfl (by kernel_rfl)) rfl ?_)) | (refine so_is (.load 3 _) ?_; (first | refine so_q (qt_load_box rfl rfl (by kernel_rfl) rfl) rfl ?_ | refine so_q (qt_load_pt rfl (by kernel_rfl) rfl) rfl ?_)) | (refine so_is (.binOp .mul 3 _ _ _) ?_; refine so_q (qt_mulI rfl rfl (by (omega))) rfl ?_) | (refine so_is (.binOp .add 3 _ _ _) ?_; refine so_q (qt_addI rfl rfl (by (omega))) rfl ?_) | (refine so_is (.indexAddr 24 _ _) ?_; (refine so_q (qt_idxI rfl rfl (by kernel_rfl) (by (omega)) (by (omega))) rfl ?_)) | (refine so_is (.fieldAddr 27 _ 3) ?_; (refine so_q (qt_fld_lp (off := 3) rfl (by kernel_rfl)) rfl ?_)) | (refine so_is (.load 25 _) ?_; (refine so_q (qt_load_box rfl rfl (by kernel_rfl) rfl) rfl ?_)) | (refine so_is (.indexAddr 25 _ _) ?_; (refine so_q (qt_idxII rfl rfl (by kernel_rfl) (by (omega)) (by (omega))) rfl ?_)) | refine so_nil ?_ | refine sk_seq ?_ | refine sk_region ?_ | refine sk_drawQ 1 (fun _ => false) (.step 0 true (.step 1 true (.step 2 true (.step 3 true (.step 4 true (.step 5 true (.step 6 true (.step 7 true (.step 8 true (.step 9 true (.step 10 true (.step 11 true (.step 12 true (.step 13 true (.step 14 true (.step 15 true (.step 16 true (.step 17 true (.step 18 true (.step 19 true (.step 20 true (.step 21 true (.step 22 true (.step 23 true (.step 24 true (.step 25 true (.step 26 true (.step 27 true .nil)))))))))))))))))))))))))))) [(0, 268435455, 268435455, true), (1, 268435454, 268435455, false), (0, 268435455, 268435455, true), (0, 268435455, 268435455, true), (8, 268435447, 268435455, false), (20, 268435435, 268435455, true), (0, 268435455, 268435455, true), (96, 268435359, 268435455, true), (130, 268435325, 268435455, true), (256, 268435199, 268435455, false), (0, 268435455, 268435455, true), (1024, 268434431, 268435455, false), (0, 268435455, 268435455, true), (0, 268435455, 268435455, true), (8192, 268427263, 268435455, false), (20480, 268414975, 268435455, true), (0, 268435455, 268435455, true), (98304, 268337151, 268435455, true), (133120, 268302335, 268435455, true), (262144, 268173311, 268435455, false), (0, 268435455, 268435455, true), (1048576, 267386879, 268435455, true), (0, 268435455, 268435455, true), (6291456, 262143999, 268435455, true), (8912896, 259522559, 268435455, true), (16777216, 251658239, 268435455, false), (33554944, 234880511, 268435455, true), (134217727, 201326591, 268435455, true)] (by kernel_rfl) (by kernel_rfl) ?_)
  all_goals (apply sk_ret; apply ret_eq; (· apply RetOK.p; (· (apply GvA.cons; (· exact .tmp _); (· exact GvP.c (.lit _))); exact GvA.nil); (· (decide))))
  all_goals rfl
theorem l4Score_p (X Y : Nat) (ws : List Int) (wi : List (List Int)) (pl : List Int) (h : gameB X Y ws wi = true) (hp : bitsB pl ((X : Int) + Y) = true) : PC Try.prog 108 [.g [dI X, dI Y, eI ws, eII wi], .c (eI pl)] (.p (.c (dI (scoG X Y ws wi pl)))) := by
  obtain ⟨x, y, e1, e2, hx, hy, wl, il, h9⟩ := game_nat h
  obtain rfl : X = x := by omega
  obtain rfl : Y = y := by omega
  have pln := bitsB_len hp
  have sb := fun m => scoN_bd h hp (m := m)
  refine pc_intro Try.func108 rfl rfl rfl (by kernel_rfl) rfl rfl ?_; intro _
  repeat' (first | (refine so_is (.box 27 _) ?_; refine so_box rfl rfl ?_) | (refine so_is (.assign _) ?_; (refine so_q (qt_asC rfl) rfl ?_)) | refine so_nil ?_ | refine sk_seq ?_ | refine sk_block ?_ | refine sk_region ?_)
  apply sk_packC [1, 2, 5, 6] [2] rfl; (· (repeat (first | exact Pf.nil | apply Pf.cons (.c rfl (.d rfl)) | apply Pf.cons (.c rfl (.lp rfl))))); (· (repeat (first | exact Pb.nil | (apply Pb.cons; (· apply Nb.box rfl; (repeat (first | exact Ncs.nil rfl | (apply Ncs.cons rfl; (· (exact .d rfl))))))))))
  refine sk_loopL [1, 2] [2] (fun i => [(6, iN i), (5, iZ (accT (scoT X Y ws wi pl) (Y * i)))]) (fun _ => []) (fun i => i ≤ X) (fun i => X - i) (0) ?_ (by (repeat (first | exact trivial | refine ⟨(by (rfl)), ?_⟩))) (by (repeat (exact trivial))) ?_
  · omega
  intro i hi
  by_cases hi2 : i < X
  · repeat' (first | (refine so_is (.assign _) ?_; (refine so_q (qt_asC rfl) rfl ?_)) | (refine so_is (.move _) ?_; (refine so_q (qt_mvC rfl) rfl ?_)) | (refine so_is (.fieldAddr 27 _ 0) ?_; (refine so_q (qt_fld_lp (off := 0) rfl (by kernel_rfl)) rfl ?_)) | (refine so_is (.load 3 _) ?_; (refine so_q (qt_load_box rfl rfl (by kernel_rfl) rfl) rfl ?_)) | (refine so_is (.binOp .lss 3 _ _ _) ?_; refine so_q (qt_lss rfl rfl) rfl ?_) | refine so_nil ?_ | refine sk_seq ?_ | refine sk_block ?_ | refine sk_exit rfl ?_ | refine sk_skip ?_ | refine sk_region ?_ | refine sk_if rfl (fun hc => ?_) (fun hc => ?_))
    all_goals first | (exfalso; omega) | skip
    apply sk_packC [1, 2, 5, 6, 7] [2] rfl; (· (repeat (first | exact Pf.nil | apply Pf.cons (.c rfl (.d rfl)) | apply Pf.cons (.c rfl (.lp rfl))))); (· (repeat (first | exact Pb.nil | (apply Pb.cons; (· apply Nb.box rfl; (repeat (first | exact Ncs.nil rfl | (apply Ncs.cons rfl; (· (exact .d rfl))))))))))
    refine sk_loopL [1, 2, 6] [2] (fun k => [(7, iN k), (5, iZ (accT (scoT X Y ws wi pl) (Y * i + k)))]) (fun _ => []) (fun k => k ≤ Y) (fun k => Y - k) (0) ?_ (by (repeat (first | exact trivial | refine ⟨(by (rfl)), ?_⟩))) (by (repeat (exact trivial))) ?_
    · omega
    intro k hk
    by_cases hk2 : k < Y
    · have f := flip4 hp hi2 hk2
      have e := scoT_at (X := X) ws wi pl (i := i) hk2
      have e3 : accT (scoT X Y ws wi pl) (Y * i + (k + 1)) = accT (scoT X Y ws wi pl) (Y * i + k) + atZ ws ((i : Int) * Y + k) * atZ (atZ wi ((i : Int) * Y + k)) (2 * atZ pl (i : Int) + atZ pl ((X : Int) + k)) := by rw [← Nat.add_assoc, ← e]; rfl
      have lt := idx_ltN (i := i) (k := k) (X := X) (Y := Y) hi2 hk2
      have b1 := sb (Y * i + k) (by omega)
      have b2 := sb (Y * i + (k + 1)) (by omega)
      rw [e3] at b2
      have w := l4Won_p X Y ws wi i k (atZ pl (i : Int)) (atZ pl ((X : Int) + k)) h hi2 hk2 f.1 f.2.1
      generalize atZ ws ((i : Int) * Y + k) * atZ (atZ wi ((i : Int) * Y + k)) (2 * atZ pl (i : Int) + atZ pl ((X : Int) + k)) = v at *
      clear e sb
      repeat' (first | (refine so_is (.assign _) ?_; (refine so_q (qt_asC rfl) rfl ?_)) | (refine so_is (.move _) ?_; (refine so_q (qt_mvC rfl) rfl ?_)) | (refine so_is (.fieldAddr 27 _ 0) ?_; (refine so_q (qt_fld_lp (off := 0) rfl (by kernel_rfl)) rfl ?_)) | (refine so_is (.load 3 _) ?_; (first | refine so_q (qt_load_box rfl rfl (by kernel_rfl) rfl) rfl ?_ | refine so_q (qt_load_pt rfl (by kernel_rfl) rfl) rfl ?_)) | (refine so_is (.binOp .lss 3 _ _ _) ?_; refine so_q (qt_lss rfl rfl) rfl ?_) | (refine so_is (.fieldAddr 27 _ 1) ?_; (refine so_q (qt_fld_lp (off := 1) rfl (by kernel_rfl)) rfl ?_)) | (refine so_is (.load 27 _) ?_; (refine so_q (qt_load_boxs rfl rfl (by kernel_rfl : tAgg _ 27 4 = true) rfl) rfl ?_)) | (refine so_is (.indexAddr 24 _ _) ?_; (refine so_q (qt_idxI rfl rfl (by kernel_rfl) (by (omega)) (by (omega))) rfl ?_)) | (refine so_is (.binOp .add 3 _ _ _) ?_; refine so_q (qt_addI rfl rfl (by (omega))) rfl ?_) | (refine so_is (.call ⟨.value (.func 125), _, _⟩) ?_; (apply so_call0 (fid := 125); (· (repeat (first | exact SeA.nil | apply SeA.cons (.c (.d _)) | (apply SeA.cons; (· (apply SeP.g; (repeat (first | exact SeL.nil | apply SeL.cons (.d _))))))))); (· exact w); (· rfl))) | refine so_nil ?_ | refine sk_seq ?_ | refine sk_block ?_ | refine sk_blk ?_ | refine sk_exit rfl ?_ | refine sk_skip ?_ | refine sk_region ?_ | refine sk_drawQ 8 (fun _ => false) (.step 0 true (.step 1 true (.step 2 true (.step 3 true (.step 4 true (.step 5 true (.step 6 true (.step 7 true (.step 8 true (.step 9 true (.step 10 true (.step 11 true (.step 12 true (.step 13 true (.step 14 true (.step 15 false (.step 16 true (.step 17 true .nil)))))))))))))))))) [(0, 262143, 262143, true), (0, 262143, 262143, false), (0, 262143, 262143, true), (0, 262143, 262143, true), (0, 262143, 262143, true), (0, 262143, 262143, true), (48, 262095, 262143, true), (64, 262079, 262143, false), (0, 262143, 262143, true), (0, 262143, 262143, true), (512, 261631, 262143, false), (0, 262143, 262143, true), (3072, 259071, 262143, true), (4352, 257791, 262143, true), (8192, 253951, 262143, false), (16526, 245617, 262143, false), (32769, 229374, 262143, true), (131071, 196606, 262143, true)] (by kernel_rfl) (by kernel_rfl) ?_ | refine sk_if rfl (fun hc => ?_) (fun hc => ?_))
      all_goals first | (exfalso; omega) | skip
      refine sk_back ?_; refine ⟨k + 1, ?_, ?_, le_at rfl (by (repeat (first | exact trivial | refine ⟨(by (first | rfl | (refine int_eq rfl ?_; (omega)))), ?_⟩))) (by (repeat (first | exact trivial | refine ⟨rfl, ?_⟩))) (by (repeat (exact trivial))) (by (repeat (first | exact trivial | refine ⟨.inr rfl, ?_⟩)))⟩
      · omega
      · omega
    · have e : k = Y := by omega
      subst e
      repeat' (first | (refine so_is (.assign _) ?_; (refine so_q (qt_asC rfl) rfl ?_)) | (refine so_is (.move _) ?_; (refine so_q (qt_mvC rfl) rfl ?_)) | (refine so_is (.fieldAddr 27 _ 0) ?_; (refine so_q (qt_fld_lp (off := 0) rfl (by kernel_rfl)) rfl ?_)) | (refine so_is (.load 3 _) ?_; (first | refine so_q (qt_load_box rfl rfl (by kernel_rfl) rfl) rfl ?_ | refine so_q (qt_load_pt rfl (by kernel_rfl) rfl) rfl ?_)) | (refine so_is (.binOp .lss 3 _ _ _) ?_; refine so_q (qt_lss rfl rfl) rfl ?_) | (refine so_is (.fieldAddr 27 _ 1) ?_; (refine so_q (qt_fld_lp (off := 1) rfl (by kernel_rfl)) rfl ?_)) | (refine so_is (.load 27 _) ?_; (refine so_q (qt_load_boxs rfl rfl (by kernel_rfl : tAgg _ 27 4 = true) rfl) rfl ?_)) | (refine so_is (.indexAddr 24 _ _) ?_; (refine so_q (qt_idxI rfl rfl (by kernel_rfl) (by (omega)) (by (omega))) rfl ?_)) | (refine so_is (.binOp .add 3 _ _ _) ?_; refine so_q (qt_addI rfl rfl (by (omega))) rfl ?_) | refine so_nil ?_ | refine sk_seq ?_ | refine sk_block ?_ | refine sk_blk ?_ | refine sk_exit rfl ?_ | refine sk_skip ?_ | refine sk_region ?_ | refine sk_drawQ 8 (fun _ => false) (.step 0 true (.step 1 true (.step 2 true (.step 3 true (.step 4 true (.step 5 true (.step 6 true (.step 7 true (.step 8 true (.step 9 true (.step 10 true (.step 11 true (.step 12 true (.step 13 true (.step 14 true (.step 15 false (.step 16 true (.step 17 true .nil)))))))))))))))))) [(0, 262143, 262143, true), (0, 262143, 262143, false), (0, 262143, 262143, true), (0, 262143, 262143, true), (0, 262143, 262143, true), (0, 262143, 262143, true), (48, 262095, 262143, true), (64, 262079, 262143, false), (0, 262143, 262143, true), (0, 262143, 262143, true), (512, 261631, 262143, false), (0, 262143, 262143, true), (3072, 259071, 262143, true), (4352, 257791, 262143, true), (8192, 253951, 262143, false), (16526, 245617, 262143, false), (32769, 229374, 262143, true), (131071, 196606, 262143, true)] (by kernel_rfl) (by kernel_rfl) ?_ | refine sk_if rfl (fun hc => ?_) (fun hc => ?_))
      all_goals first | (exfalso; omega) | skip
      refine sk_back ?_; refine ⟨i + 1, ?_, ?_, le_at rfl (by (repeat (first | exact trivial | refine ⟨(by (rfl)), ?_⟩))) (by (repeat (first | exact trivial | refine ⟨rfl, ?_⟩))) (by (repeat (exact trivial))) (by (repeat (first | exact trivial | refine ⟨.inr rfl, ?_⟩)))⟩
      · omega
      · omega
  · have e : i = X := by omega
    subst e
    repeat' (first | (refine so_is (.assign _) ?_; (refine so_q (qt_asC rfl) rfl ?_)) | (refine so_is (.move _) ?_; (refine so_q (qt_mvC rfl) rfl ?_)) | (refine so_is (.fieldAddr 27 _ 0) ?_; (refine so_q (qt_fld_lp (off := 0) rfl (by kernel_rfl)) rfl ?_)) | (refine so_is (.load 3 _) ?_; (refine so_q (qt_load_box rfl rfl (by kernel_rfl) rfl) rfl ?_)) | (refine so_is (.binOp .lss 3 _ _ _) ?_; refine so_q (qt_lss rfl rfl) rfl ?_) | refine so_nil ?_ | refine sk_seq ?_ | refine sk_block ?_ | refine sk_exit rfl ?_ | refine sk_skip ?_ | refine sk_region ?_ | refine sk_if rfl (fun hc => ?_) (fun hc => ?_))
    all_goals first | (exfalso; omega) | skip
    (apply sk_ret; apply ret_eq; (· apply RetOK.p; (· (apply GvA.cons; (· exact .tmp _); (· exact GvP.c (.lit _))); exact GvA.nil); (· (decide))))
    rfl
theorem l4Total_p (ws : List Int) (wi : List (List Int)) (X Y : Int) (hl : ws.length ≤ 9) (hb : allB ws 0 99 = true) : PC Try.prog 122 [.g [dI X, dI Y, eI ws, eII wi]] (.p (.c (dI (totG ws)))) := by
  have tb := fun m => totN_bd hl hb (m := m)
  refine pc_intro Try.func122 rfl rfl rfl (by kernel_rfl) rfl rfl ?_; intro _
  repeat' (first | (refine so_is (.box 27 _) ?_; refine so_box rfl rfl ?_) | (refine so_is (.assign _) ?_; (refine so_q (qt_asC rfl) rfl ?_)) | refine so_nil ?_ | refine sk_seq ?_ | refine sk_block ?_ | refine sk_region ?_)
  apply sk_packC [1, 3, 4] [1] rfl; (· (repeat (first | exact Pf.nil | apply Pf.cons (.c rfl (.d rfl)) | apply Pf.cons (.c rfl (.lp rfl))))); (· (repeat (first | exact Pb.nil | (apply Pb.cons; (· apply Nb.box rfl; (repeat (first | exact Ncs.nil rfl | (apply Ncs.cons rfl; (· (exact .d rfl))))))))))
  refine sk_loopL [1] [1] (fun i => [(4, iN i), (3, iZ (accT (fun t => atZ ws (t : Int)) i))]) (fun _ => []) (fun i => i ≤ ws.length) (fun i => ws.length - i) (0) ?_ (by (repeat (first | exact trivial | refine ⟨(by (rfl)), ?_⟩))) (by (repeat (exact trivial))) ?_
  · omega
  intro i hi
  by_cases hi2 : i < ws.length
  · have b1 := tb i (by omega)
    have b2 := tb (i + 1) (by omega)
    have e3 : accT (fun t => atZ ws (t : Int)) (i + 1) = accT (fun t => atZ ws (t : Int)) i + atZ ws (i : Int) := rfl
    rw [e3] at b2
    repeat' (first | (refine so_is (.assign _) ?_; (refine so_q (qt_asC rfl) rfl ?_)) | (refine so_is (.move _) ?_; (refine so_q (qt_mvC rfl) rfl ?_)) | (refine so_is (.fieldAddr 27 _ 2) ?_; (refine so_q (qt_fld_lp (off := 2) rfl (by kernel_rfl)) rfl ?_)) | (refine so_is (.load 24 _) ?_; (refine so_q (qt_load_box rfl rfl (by kernel_rfl) rfl) rfl ?_)) | (refine so_is (.call ⟨.builtin .len, _, #[24]⟩) ?_; (refine so_q (qt_len_d rfl (by kernel_rfl)) rfl ?_)) | (refine so_is (.binOp .lss 3 _ _ _) ?_; refine so_q (qt_lss rfl rfl) rfl ?_) | (refine so_is (.indexAddr 24 _ _) ?_; (refine so_q (qt_idxI rfl rfl (by kernel_rfl) (by (omega)) (by (omega))) rfl ?_)) | (refine so_is (.load 3 _) ?_; (refine so_q (qt_load_pt rfl (by kernel_rfl) rfl) rfl ?_)) | (refine so_is (.binOp .add 3 _ _ _) ?_; refine so_q (qt_addI rfl rfl (by (omega))) rfl ?_) | refine so_nil ?_ | refine sk_seq ?_ | refine sk_block ?_ | refine sk_blk ?_ | refine sk_exit rfl ?_ | refine sk_skip ?_ | refine sk_region ?_ | refine sk_if rfl (fun hc => ?_) (fun hc => ?_))
    all_goals first | (exfalso; omega) | skip
    refine sk_back ?_; refine ⟨i + 1, ?_, ?_, le_at rfl (by (repeat (first | exact trivial | refine ⟨(by (rfl)), ?_⟩))) (by (repeat (first | exact trivial | refine ⟨rfl, ?_⟩))) (by (repeat (exact trivial))) (by (repeat (first | exact trivial | refine ⟨.inr rfl, ?_⟩)))⟩
    · omega
    · omega
  · have e : i = ws.length := by omega
    subst e
    repeat' (first | (refine so_is (.assign _) ?_; (refine so_q (qt_asC rfl) rfl ?_)) | (refine so_is (.move _) ?_; (refine so_q (qt_mvC rfl) rfl ?_)) | (refine so_is (.fieldAddr 27 _ 2) ?_; (refine so_q (qt_fld_lp (off := 2) rfl (by kernel_rfl)) rfl ?_)) | (refine so_is (.load 24 _) ?_; (refine so_q (qt_load_box rfl rfl (by kernel_rfl) rfl) rfl ?_)) | (refine so_is (.call ⟨.builtin .len, _, #[24]⟩) ?_; (refine so_q (qt_len_d rfl (by kernel_rfl)) rfl ?_)) | (refine so_is (.binOp .lss 3 _ _ _) ?_; refine so_q (qt_lss rfl rfl) rfl ?_) | (refine so_is (.indexAddr 24 _ _) ?_; (refine so_q (qt_idxI rfl rfl (by kernel_rfl) (by (omega)) (by (omega))) rfl ?_)) | (refine so_is (.load 3 _) ?_; (refine so_q (qt_load_pt rfl (by kernel_rfl) rfl) rfl ?_)) | (refine so_is (.binOp .add 3 _ _ _) ?_; refine so_q (qt_addI rfl rfl (by (omega))) rfl ?_) | refine so_nil ?_ | refine sk_seq ?_ | refine sk_block ?_ | refine sk_blk ?_ | refine sk_exit rfl ?_ | refine sk_skip ?_ | refine sk_region ?_ | refine sk_if rfl (fun hc => ?_) (fun hc => ?_))
    all_goals first | (exfalso; omega) | skip
    (apply sk_ret; apply ret_eq; (· apply RetOK.p; (· (apply GvA.cons; (· exact .tmp _); (· exact GvP.c (.lit _))); exact GvA.nil); (· (decide))))
    rfl
theorem l4Best_v (X Y : Nat) (ws : List Int) (wi : List (List Int)) (h : gameB X Y ws wi = true) : PV Try.prog 107 [.g [dI X, dI Y, eI ws, eII wi]] (.p (.c (eI (bestG X Y ws wi)))) := by
  obtain ⟨x, y, e1, e2, hx, hy, wl, il, h9⟩ := game_nat h
  obtain rfl : X = x := by omega
  obtain rfl : Y = y := by omega
  have pl := l2Plays_p X Y (by omega)
  have Pl : (playsF (X + Y)).length = 2 ^ (X + Y) := playsF_len _
  have Pa := fun k (hk : k < 2 ^ (X + Y)) => playsF_at (n := X + Y) hk
  have hN : 0 < 2 ^ (X + Y) := Nat.two_pow_pos _
  have hN2 : 2 ^ (X + Y) ≤ 2 ^ 6 := Nat.pow_le_pow_right (by omega) (by omega)
  have sc : ∀ c, PC Try.prog 108 [.g [dI X, dI Y, eI ws, eII wi], .c (eI (bitsM (X + Y) c))] (.p (.c (dI (playN X Y ws wi c)))) := fun c => l4Score_p X Y ws wi _ h (by rw [← Int.natCast_add]; exact bitsM_bits _ _)
  have b1 : bstT (playN X Y ws wi) 1 = 0 := bstT_yes (.inl rfl)
  have p0 := Pa 0 hN
  unfold bestG bestC
  generalize playN X Y ws wi = s at *
  generalize playsF (X + Y) = P at *
  generalize 2 ^ (X + Y) = N at *
  generalize X + Y = m at *
  refine pv_intro Try.func107 rfl rfl rfl (by kernel_rfl) rfl rfl ?_; intro X c0 _
  repeat' (first | (refine so_is (.box 27 _) ?_; refine so_box rfl rfl ?_) | (refine so_is (.assign _) ?_; (refine so_q (qt_asC rfl) rfl ?_)) | (refine so_is (.fieldAddr 27 _ 0) ?_; (refine so_q (qt_fld_lp (off := 0) rfl (by kernel_rfl)) rfl ?_)) | (refine so_is (.load 3 _) ?_; (refine so_q (qt_load_box rfl rfl (by kernel_rfl) rfl) rfl ?_)) | (refine so_is (.fieldAddr 27 _ 1) ?_; (refine so_q (qt_fld_lp (off := 1) rfl (by kernel_rfl)) rfl ?_)) | (refine so_is (.move _) ?_; (refine so_q (qt_mvC rfl) rfl ?_)) | (refine so_is (.indexAddr 25 _ _) ?_; (refine so_q (qt_idxII rfl rfl (by kernel_rfl) (by (omega)) (by (omega))) rfl ?_)) | (refine so_is (.load 24 _) ?_; (refine so_q (qt_load_pt rfl (by kernel_rfl) rfl) rfl ?_)) | (refine so_is (.call ⟨.value (.func 96), _, _⟩) ?_; (apply so_call0 (fid := 96); (· (repeat (first | exact SeA.nil | apply SeA.cons (.c (.d _))))); (· exact pl); (· rfl))) | refine so_nil ?_ | refine sk_seq ?_ | refine sk_block ?_ | refine sk_region ?_)
  all_goals first | (exfalso; omega) | skip
  apply sk_packC [1, 3, 4, 5] [1, 10, 900000000] rfl; (· (repeat (first | exact Pf.nil | apply Pf.cons (.c rfl (.d rfl)) | apply Pf.cons (.c rfl (.lp rfl))))); (· (repeat (first | exact Pb.nil | (apply Pb.cons; (· apply Nb.box rfl; (repeat (first | exact Ncs.nil rfl | (apply Ncs.cons rfl; (· (exact .d rfl))))))) | apply Pb.cons (.any rfl) | apply Pb.skip)))
  refine sk_loopL [1, 3] [1, 10, 900000000] (fun i => [(5, iN (i + 1)), (4, .c (.d (eI (bitsM m (bstT s (i + 1))))))]) (fun _ => []) (fun i => i + 1 ≤ N) (fun i => N - i) (0) ?_ (by (repeat (first | exact trivial | refine ⟨(by (first | rfl | (refine d_eq rfl ?_; ((simp  [b1, ← p0]; done))))), ?_⟩))) (by (repeat (exact trivial))) ?_
  · omega
  intro i hi
  by_cases hi2 : i + 1 < N
  · have pa := Pa (i + 1) hi2
    have sc1 := sc (i + 1)
    have sc2 := sc (bstT s (i + 1))
    rw [← pa] at sc1
    repeat' (first | (refine so_is (.assign _) ?_; (refine so_q (qt_asC rfl) rfl ?_)) | (refine so_is (.move _) ?_; (refine so_q (qt_mvC rfl) rfl ?_)) | (refine so_is (.indexAddr 25 _ _) ?_; (refine so_q (qt_idxII rfl rfl (by kernel_rfl) (by (omega)) (by (omega))) rfl ?_)) | (refine so_is (.load 24 _) ?_; (refine so_q (qt_load_pt rfl (by kernel_rfl) rfl) rfl ?_)) | (refine so_is (.call ⟨.builtin .len, _, #[25]⟩) ?_; (refine so_q (qt_len_d rfl (by kernel_rfl)) rfl ?_)) | (refine so_is (.binOp .lss 3 _ _ _) ?_; refine so_q (qt_lss rfl rfl) rfl ?_) | (refine so_is (.load 27 _) ?_; (refine so_q (qt_load_boxs rfl rfl (by kernel_rfl : tAgg _ 27 4 = true) rfl) rfl ?_)) | (refine so_is (.binOp .gtr 3 _ _ _) ?_; refine so_q (qt_gtr rfl rfl) rfl ?_) | (refine so_is (.binOp .add 3 _ _ _) ?_; refine so_q (qt_addI rfl rfl (by (omega))) rfl ?_) | (refine so_is (.call ⟨.value (.func 108), _, _⟩) ?_; (first | (apply so_call0 (fid := 108); (· (repeat (first | exact SeA.nil | apply SeA.cons (.c (.d _)) | (apply SeA.cons; (· (apply SeP.g; (repeat (first | exact SeL.nil | apply SeL.cons (.d _))))))))); (· exact sc1); (· rfl)) | (apply so_call0 (fid := 108); (· (repeat (first | exact SeA.nil | apply SeA.cons (.c (.d _)) | (apply SeA.cons; (· (apply SeP.g; (repeat (first | exact SeL.nil | apply SeL.cons (.d _))))))))); (· exact sc2); (· rfl)))) | refine so_nil ?_ | refine sk_seq ?_ | refine sk_block ?_ | refine sk_blk ?_ | refine sk_exit rfl ?_ | refine sk_skip ?_ | refine sk_region ?_ | refine sk_drawQ 6 (fun _ => false) (.step 0 true (.step 1 true (.step 2 true (.step 3 true (.step 4 true (.step 6 true (.step 7 true (.step 5 false (.step 8 false (.step 9 true .nil)))))))))) [(0, 1023, 1023, false), (0, 1023, 1023, true), (0, 1023, 1023, true), (6, 1017, 1023, true), (8, 1015, 1023, false), (17, 1006, 1023, false), (0, 1023, 1023, false), (0, 1023, 1023, true), (224, 831, 1023, false), (288, 735, 1023, true)] (by kernel_rfl) (by kernel_rfl) ?_ | refine sk_if rfl (fun hc => ?_) (fun hc => ?_))
    all_goals first | (exfalso; omega) | skip
    · have y1 := bstT_yes (s := s) (t := i + 1) (.inr (by omega))
      refine sk_back ?_; refine ⟨i + 1, ?_, ?_, le_at rfl (by (repeat (first | exact trivial | refine ⟨(by (first | rfl | (refine d_eq rfl ?_; ((simp  [y1, ← pa]; done))))), ?_⟩))) (by (repeat (first | exact trivial | refine ⟨rfl, ?_⟩))) (by (repeat (exact trivial))) (by (repeat (first | exact trivial | refine ⟨.inr rfl, ?_⟩)))⟩
      · omega
      · omega
    · have y1 := bstT_no (s := s) (t := i + 1) (by omega) (by omega)
      refine sk_back ?_; refine ⟨i + 1, ?_, ?_, le_at rfl (by (repeat (first | exact trivial | refine ⟨(by (first | rfl | (refine d_eq rfl ?_; ((simp  [y1]; done))))), ?_⟩))) (by (repeat (first | exact trivial | refine ⟨rfl, ?_⟩))) (by (repeat (exact trivial))) (by (repeat (first | exact trivial | refine ⟨.inr rfl, ?_⟩)))⟩
      · omega
      · omega
  · have e : N = i + 1 := by omega
    subst e
    repeat' (first | (refine so_is (.assign _) ?_; (refine so_q (qt_asC rfl) rfl ?_)) | (refine so_is (.move _) ?_; (refine so_q (qt_mvC rfl) rfl ?_)) | (refine so_is (.indexAddr 25 _ _) ?_; (refine so_q (qt_idxII rfl rfl (by kernel_rfl) (by (omega)) (by (omega))) rfl ?_)) | (refine so_is (.load 24 _) ?_; (refine so_q (qt_load_pt rfl (by kernel_rfl) rfl) rfl ?_)) | (refine so_is (.call ⟨.builtin .len, _, #[25]⟩) ?_; (refine so_q (qt_len_d rfl (by kernel_rfl)) rfl ?_)) | (refine so_is (.binOp .lss 3 _ _ _) ?_; refine so_q (qt_lss rfl rfl) rfl ?_) | (refine so_is (.load 27 _) ?_; (refine so_q (qt_load_boxs rfl rfl (by kernel_rfl : tAgg _ 27 4 = true) rfl) rfl ?_)) | refine so_nil ?_ | refine sk_seq ?_ | refine sk_block ?_ | refine sk_exit rfl ?_ | refine sk_skip ?_ | refine sk_region ?_ | refine sk_drawQ 6 (fun _ => false) (.step 0 true (.step 1 true (.step 2 true (.step 3 true (.step 4 true (.step 6 true (.step 7 true (.step 5 false (.step 8 false (.step 9 true .nil)))))))))) [(0, 1023, 1023, false), (0, 1023, 1023, true), (0, 1023, 1023, true), (6, 1017, 1023, true), (8, 1015, 1023, false), (17, 1006, 1023, false), (0, 1023, 1023, false), (0, 1023, 1023, true), (224, 831, 1023, false), (288, 735, 1023, true)] (by kernel_rfl) (by kernel_rfl) ?_ | refine sk_if rfl (fun hc => ?_) (fun hc => ?_))
    all_goals first | (exfalso; omega) | skip
    (apply sk_retv; apply retv_eq; (· apply RetV.p rfl; (· (apply RvA.cons; (· exact .tmp _); (· (exact RvP.c (.d _)))); exact RvA.nil)))
    rfl
theorem spBestPlay_no (X Y : Int) (ws : List Int) (wi : List (List Int)) (h : gameB X Y ws wi = false) : PC Try.prog 20 [.g [dI X, dI Y, eI ws, eII wi]] (.t [.c (eI []), .c (dI 0), .c (dB false)]) := by
  have i1 := l4Game_p X Y ws wi
  rw [h] at i1
  refine pc_intro Try.func20 rfl rfl rfl (by kernel_rfl) rfl rfl ?_; intro _
  repeat' (first | (refine so_is (.box 27 _) ?_; refine so_box rfl rfl ?_) | (refine so_is (.assign _) ?_; (refine so_q (qt_asC rfl) rfl ?_)) | (refine so_is (.load 27 _) ?_; (refine so_q (qt_load_boxs rfl rfl (by kernel_rfl : tAgg _ 27 4 = true) rfl) rfl ?_)) | (refine so_is (.unOp .not 4 _) ?_; refine so_q (qt_not rfl) rfl ?_) | (refine so_is (.buildSlice 24 0 _) ?_; (apply so_bslice (sz := 1) (by_ := 8); (· kernel_rfl); (· decide); (· (repeat (exact GvS.nil _))); (· (decide)); (· rfl); (· rfl); (· rfl))) | (refine so_is (.call ⟨.value (.func 85), _, _⟩) ?_; (apply so_call0 (fid := 85); (· (repeat (first | exact SeA.nil | (apply SeA.cons; (· (apply SeP.g; (repeat (first | exact SeL.nil | apply SeL.cons (.d _))))))))); (· exact i1); (· rfl))) | refine so_nil ?_ | refine sk_seq ?_ | refine sk_region ?_ | refine sk_true rfl ?_)
  all_goals (apply sk_ret; apply ret_eq; (· apply RetOK.t; (· (apply GvA.cons; (· exact .tmp _); (· (exact GvP.c (.row _ _ _ _ rfl (by ((simp; done))))))); (apply GvA.cons; (· exact .tmp _); (· exact GvP.c (.lit _))); (apply GvA.cons; (· exact .tmp _); (· exact GvP.c (.lit _))); exact GvA.nil); (· rfl); (· (decide))))
  all_goals rfl
theorem spBestPlay_v (X Y : Nat) (ws : List Int) (wi : List (List Int)) (h : gameB X Y ws wi = true) : PV Try.prog 20 [.g [dI X, dI Y, eI ws, eII wi]] (.t [.c (eI (bestG X Y ws wi)), .c (dI (valueG X Y ws wi)), .c (dB true)]) := by
  have i1 := l4Game_p X Y ws wi
  rw [h] at i1
  have lb := l4Best_v X Y ws wi h
  have ls : PC Try.prog 108 [.g [dI X, dI Y, eI ws, eII wi], .c (eI (bestG X Y ws wi))] (.p (.c (dI (valueG X Y ws wi)))) := l4Score_p X Y ws wi _ h (by rw [← Int.natCast_add]; exact bitsM_bits _ _)
  refine pv_intro Try.func20 rfl rfl rfl (by kernel_rfl) rfl rfl ?_; intro X c0 _
  repeat' (first | (refine so_is (.box 27 _) ?_; refine so_box rfl rfl ?_) | (refine so_is (.assign _) ?_; (refine so_q (qt_asC rfl) rfl ?_)) | (refine so_is (.load 27 _) ?_; (refine so_q (qt_load_boxs rfl rfl (by kernel_rfl : tAgg _ 27 4 = true) rfl) rfl ?_)) | (refine so_is (.unOp .not 4 _) ?_; refine so_q (qt_not rfl) rfl ?_) | (refine so_is (.move _) ?_; (refine so_q (qt_mvC rfl) rfl ?_)) | (refine so_is (.call ⟨.value (.func 85), _, _⟩) ?_; ((apply so_call0 (fid := 85); (· (repeat (first | exact SeA.nil | (apply SeA.cons; (· (apply SeP.g; (repeat (first | exact SeL.nil | apply SeL.cons (.d _))))))))); (· exact i1); (· rfl)))) | (refine so_is (.call ⟨.value (.func 107), _, _⟩) ?_; ((apply so_callV (fid := 107); (· (repeat (first | exact SdA.nil | (apply SdA.g rfl; (· (repeat (first | exact SdL.nil | apply SdL.cons))))))); (· exact lb); (· rfl)))) | (refine so_is (.call ⟨.value (.func 108), _, _⟩) ?_; ((apply so_call0 (fid := 108); (· (repeat (first | exact SeA.nil | apply SeA.cons (.c (.d _)) | (apply SeA.cons; (· (apply SeP.g; (repeat (first | exact SeL.nil | apply SeL.cons (.d _))))))))); (· exact ls); (· rfl)))) | refine so_nil ?_ | refine sk_seq ?_ | refine sk_skip ?_ | refine sk_region ?_ | refine sk_false rfl ?_)
  all_goals (apply sk_retv; apply retv_eq; (· apply RetV.t rfl; (· (apply RvA.cons; (· exact .tmp _); (· (exact RvP.c (.d _)))); (apply RvA.cons; (· exact .tmp _); (· exact RvP.c (.d _))); (apply RvA.cons; (· exact .tmp _); (· exact RvP.c (.d _))); exact RvA.nil); (· rfl)))
  all_goals rfl
theorem spTotalWeight_p (X Y : Int) (ws : List Int) (wi : List (List Int)) : PC Try.prog 34 [.g [dI X, dI Y, eI ws, eII wi]] (.t [.c (dI (whenN (gameB X Y ws wi) (sum64 ws))), .c (dB (gameB X Y ws wi))]) := by
  have i1 := l4Game_p X Y ws wi
  cases h : gameB X Y ws wi with
  | false =>
    rw [h] at i1
    refine pc_intro Try.func34 rfl rfl rfl (by kernel_rfl) rfl rfl ?_; intro _
    repeat' (first | (refine so_is (.box 27 _) ?_; refine so_box rfl rfl ?_) | (refine so_is (.assign _) ?_; (refine so_q (qt_asC rfl) rfl ?_)) | (refine so_is (.load 27 _) ?_; (refine so_q (qt_load_boxs rfl rfl (by kernel_rfl : tAgg _ 27 4 = true) rfl) rfl ?_)) | (refine so_is (.unOp .not 4 _) ?_; refine so_q (qt_not rfl) rfl ?_) | (refine so_is (.call ⟨.value (.func 85), _, _⟩) ?_; (apply so_call0 (fid := 85); (· (repeat (first | exact SeA.nil | (apply SeA.cons; (· (apply SeP.g; (repeat (first | exact SeL.nil | apply SeL.cons (.d _))))))))); (· exact i1); (· rfl))) | refine so_nil ?_ | refine sk_seq ?_ | refine sk_region ?_ | refine sk_true rfl ?_)
    all_goals (apply sk_ret; apply ret_eq; (· apply RetOK.t; (· (apply GvA.cons; (· exact .tmp _); (· exact GvP.c (.lit _))); (apply GvA.cons; (· exact .tmp _); (· exact GvP.c (.lit _))); exact GvA.nil); (· rfl); (· (decide))))
    all_goals rfl
  | true =>
    rw [h] at i1
    obtain ⟨x, y, e1, e2, hx, hy, wl, il, h9⟩ := game_nat h
    have g := gameB_spec h
    have t := totG_64 (ws := ws) (by omega) g.wb
    rw [t.1]
    refine pc_intro Try.func34 rfl rfl rfl (by kernel_rfl) rfl rfl ?_; intro _
    repeat' (first | (refine so_is (.box 27 _) ?_; refine so_box rfl rfl ?_) | (refine so_is (.assign _) ?_; (refine so_q (qt_asC rfl) rfl ?_)) | (refine so_is (.load 27 _) ?_; (refine so_q (qt_load_boxs rfl rfl (by kernel_rfl : tAgg _ 27 4 = true) rfl) rfl ?_)) | (refine so_is (.unOp .not 4 _) ?_; refine so_q (qt_not rfl) rfl ?_) | (refine so_is (.call ⟨.value (.func 85), _, _⟩) ?_; (apply so_call0 (fid := 85); (· (repeat (first | exact SeA.nil | (apply SeA.cons; (· (apply SeP.g; (repeat (first | exact SeL.nil | apply SeL.cons (.d _))))))))); (· exact i1); (· rfl))) | (refine so_is (.call ⟨.value (.func 122), _, _⟩) ?_; ((apply so_call0 (fid := 122); (· (repeat (first | exact SeA.nil | (apply SeA.cons; (· (apply SeP.g; (repeat (first | exact SeL.nil | apply SeL.cons (.d _))))))))); (· exact l4Total_p _ _ _ _ (by omega) g.wb); (· rfl)))) | refine so_nil ?_ | refine sk_seq ?_ | refine sk_skip ?_ | refine sk_region ?_ | refine sk_false rfl ?_)
    all_goals (apply sk_ret; apply ret_eq; (· apply RetOK.t; (· (apply GvA.cons; (· exact .tmp _); (· exact GvP.c (.lit _))); (apply GvA.cons; (· exact .tmp _); (· exact GvP.c (.lit _))); exact GvA.nil); (· rfl); (· (decide))))
    all_goals rfl
theorem spCountBest_no (X Y : Int) (ws : List Int) (wi : List (List Int)) (h : gameB X Y ws wi = false) : PC Try.prog 30 [.g [dI X, dI Y, eI ws, eII wi]] (.t [.c (dI 0), .c (dB false)]) := by
  have i1 := l4Game_p X Y ws wi
  rw [h] at i1
  refine pc_intro Try.func30 rfl rfl rfl (by kernel_rfl) rfl rfl ?_; intro _
  repeat' (first | (refine so_is (.box 27 _) ?_; refine so_box rfl rfl ?_) | (refine so_is (.assign _) ?_; (refine so_q (qt_asC rfl) rfl ?_)) | (refine so_is (.load 27 _) ?_; (refine so_q (qt_load_boxs rfl rfl (by kernel_rfl : tAgg _ 27 4 = true) rfl) rfl ?_)) | (refine so_is (.unOp .not 4 _) ?_; refine so_q (qt_not rfl) rfl ?_) | (refine so_is (.call ⟨.value (.func 85), _, _⟩) ?_; (apply so_call0 (fid := 85); (· (repeat (first | exact SeA.nil | (apply SeA.cons; (· (apply SeP.g; (repeat (first | exact SeL.nil | apply SeL.cons (.d _))))))))); (· exact i1); (· rfl))) | refine so_nil ?_ | refine sk_seq ?_ | refine sk_region ?_ | refine sk_true rfl ?_)
  all_goals (apply sk_ret; apply ret_eq; (· apply RetOK.t; (· (apply GvA.cons; (· exact .tmp _); (· exact GvP.c (.lit _))); (apply GvA.cons; (· exact .tmp _); (· exact GvP.c (.lit _))); exact GvA.nil); (· rfl); (· (decide))))
  all_goals rfl
theorem spCountBest_p (X Y : Nat) (ws : List Int) (wi : List (List Int)) (h : gameB X Y ws wi = true) : PC Try.prog 30 [.g [dI X, dI Y, eI ws, eII wi]] (.t [.c (dI (countG X Y ws wi)), .c (dB true)]) := by
  obtain ⟨x, y, e1, e2, hx, hy, wl, il, h9⟩ := game_nat h
  obtain rfl : X = x := by omega
  obtain rfl : Y = y := by omega
  have i1 := l4Game_p X Y ws wi
  rw [h] at i1
  have pl := l2Plays_p X Y (by omega)
  have Pl : (playsF (X + Y)).length = 2 ^ (X + Y) := playsF_len _
  have Pa := fun k (hk : k < 2 ^ (X + Y)) => playsF_at (n := X + Y) hk
  have hN2 : 2 ^ (X + Y) ≤ 2 ^ 6 := Nat.pow_le_pow_right (by omega) (by omega)
  have sc : ∀ c, PC Try.prog 108 [.g [dI X, dI Y, eI ws, eII wi], .c (eI (bitsM (X + Y) c))] (.p (.c (dI (playN X Y ws wi c)))) := fun c => l4Score_p X Y ws wi _ h (by rw [← Int.natCast_add]; exact bitsM_bits _ _)
  have cs := fun i => cntV_succ X Y ws wi (valueG X Y ws wi) i
  have cl := fun i => cntV_le X Y ws wi (valueG X Y ws wi) i
  have c0 : cntV X Y ws wi (valueG X Y ws wi) 0 = 0 := rfl
  have lb := l4Best_v X Y ws wi h
  have ls : PC Try.prog 108 [.g [dI X, dI Y, eI ws, eII wi], .c (eI (bestG X Y ws wi))] (.p (.c (dI (valueG X Y ws wi)))) := l4Score_p X Y ws wi _ h (by rw [← Int.natCast_add]; exact bitsM_bits _ _)
  unfold countG
  generalize hc : cntV X Y ws wi (valueG X Y ws wi) = c at *
  generalize hs : playN X Y ws wi = s at *
  generalize playsF (X + Y) = P at *
  generalize 2 ^ (X + Y) = N at *
  clear hc hs
  refine pc_intro Try.func30 rfl rfl rfl (by kernel_rfl) rfl rfl ?_; intro _
  repeat' (first | (refine so_is (.box 27 _) ?_; refine so_box rfl rfl ?_) | (refine so_is (.assign _) ?_; (refine so_q (qt_asC rfl) rfl ?_)) | (refine so_is (.load 27 _) ?_; (refine so_q (qt_load_boxs rfl rfl (by kernel_rfl : tAgg _ 27 4 = true) rfl) rfl ?_)) | (refine so_is (.unOp .not 4 _) ?_; refine so_q (qt_not rfl) rfl ?_) | (refine so_is (.call ⟨.value (.func 107), _, _⟩) ?_; ((apply so_callV (fid := 107); (· (repeat (first | exact SdA.nil | (apply SdA.g rfl; (· (repeat (first | exact SdL.nil | apply SdL.cons))))))); (· exact lb); (· rfl)))) | (refine so_is (.call ⟨.value (.func 108), _, _⟩) ?_; ((apply so_call0 (d := 14) (fid := 108); (· (repeat (first | exact SeA.nil | apply SeA.cons (.c (.d _)) | (apply SeA.cons; (· (apply SeP.g; (repeat (first | exact SeL.nil | apply SeL.cons (.d _))))))))); (· exact ls); (· rfl)))) | (refine so_is (.fieldAddr 27 _ 0) ?_; (refine so_q (qt_fld_lp (off := 0) rfl (by kernel_rfl)) rfl ?_)) | (refine so_is (.load 3 _) ?_; (refine so_q (qt_load_box rfl rfl (by kernel_rfl) rfl) rfl ?_)) | (refine so_is (.fieldAddr 27 _ 1) ?_; (refine so_q (qt_fld_lp (off := 1) rfl (by kernel_rfl)) rfl ?_)) | (refine so_is (.call ⟨.value (.func 85), _, _⟩) ?_; ((apply so_call0 (fid := 85); (· (repeat (first | exact SeA.nil | (apply SeA.cons; (· (apply SeP.g; (repeat (first | exact SeL.nil | apply SeL.cons (.d _))))))))); (· exact i1); (· rfl)))) | (refine so_is (.call ⟨.value (.func 96), _, _⟩) ?_; ((apply so_call0 (fid := 96); (· (repeat (first | exact SeA.nil | apply SeA.cons (.c (.d _))))); (· exact pl); (· rfl)))) | refine so_nil ?_ | refine sk_seq ?_ | refine sk_block ?_ | refine sk_skip ?_ | refine sk_region ?_ | refine sk_drawQ 3 (fun _ => false) (.step 0 true (.step 1 true (.step 2 false (.step 3 false (.step 4 true (.step 5 true .nil)))))) [(0, 63, 63, false), (0, 63, 63, false), (2, 61, 63, false), (5, 58, 63, false), (8, 63, 63, true), (31, 55, 63, true)] (by kernel_rfl) (by kernel_rfl) ?_ | refine sk_false rfl ?_)
  all_goals first | (exfalso; omega) | skip
  apply sk_packC [1, 4, 5, 6, 7] [1, 13, 19] rfl; (· (repeat (first | exact Pf.nil | apply Pf.cons (.c rfl (.d rfl)) | apply Pf.cons (.c rfl (.lp rfl))))); (· (repeat (first | exact Pb.nil | (apply Pb.cons; (· apply Nb.box rfl; (repeat (first | exact Ncs.nil rfl | (apply Ncs.cons rfl; (· (exact .d rfl))))))) | apply Pb.skip)))
  refine sk_loopL [1, 5, 6] [1, 13, 19] (fun i => [(7, iN i), (4, iN (c i))]) (fun _ => []) (fun i => i ≤ N) (fun i => N - i) (0) ?_ (by (repeat (first | exact trivial | refine ⟨(by (first | rfl | (refine int_eq rfl ?_; (omega)))), ?_⟩))) (by (repeat (exact trivial))) ?_
  · omega
  intro i hi
  by_cases hi2 : i < N
  · have pa := Pa i hi2
    have sc := sc i
    rw [← pa] at sc
    have cs := cs i
    have cl := cl i
    repeat' (first | (refine so_is (.assign _) ?_; (refine so_q (qt_asC rfl) rfl ?_)) | (refine so_is (.load 27 _) ?_; (refine so_q (qt_load_boxs rfl rfl (by kernel_rfl : tAgg _ 27 4 = true) rfl) rfl ?_)) | (refine so_is (.move _) ?_; (refine so_q (qt_mvC rfl) rfl ?_)) | (refine so_is (.call ⟨.builtin .len, _, #[25]⟩) ?_; (refine so_q (qt_len_d rfl (by kernel_rfl)) rfl ?_)) | (refine so_is (.binOp .lss 3 _ _ _) ?_; refine so_q (qt_lss rfl rfl) rfl ?_) | (refine so_is (.indexAddr 25 _ _) ?_; (refine so_q (qt_idxII rfl rfl (by kernel_rfl) (by (omega)) (by (omega))) rfl ?_)) | (refine so_is (.load 24 _) ?_; (refine so_q (qt_load_pt rfl (by kernel_rfl) rfl) rfl ?_)) | (refine so_is (.binOp .eql 3 _ _ _) ?_; refine so_q (qt_eql rfl rfl) rfl ?_) | (refine so_is (.binOp .add 3 _ _ _) ?_; refine so_q (qt_addI rfl rfl (by (omega))) rfl ?_) | (refine so_is (.call ⟨.value (.func 108), _, _⟩) ?_; (apply so_call0 (fid := 108); (· (repeat (first | exact SeA.nil | apply SeA.cons (.c (.d _)) | (apply SeA.cons; (· (apply SeP.g; (repeat (first | exact SeL.nil | apply SeL.cons (.d _))))))))); (· exact sc); (· rfl))) | refine so_nil ?_ | refine sk_seq ?_ | refine sk_block ?_ | refine sk_blk ?_ | refine sk_exit rfl ?_ | refine sk_skip ?_ | refine sk_region ?_ | refine sk_drawQ 8 (fun _ => false) (.step 0 true (.step 1 true (.step 2 true (.step 3 true (.step 4 true (.step 6 true (.step 5 false (.step 7 true .nil)))))))) [(0, 255, 255, false), (0, 255, 255, true), (0, 255, 255, true), (6, 249, 255, true), (8, 247, 255, false), (17, 238, 255, false), (0, 255, 255, true), (96, 159, 255, true)] (by kernel_rfl) (by kernel_rfl) ?_ | refine sk_if rfl (fun hc => ?_) (fun hc => ?_))
    all_goals first | (exfalso; omega) | skip
    · rw [if_pos (by omega)] at cs
      refine sk_back ?_; refine ⟨i + 1, ?_, ?_, le_at rfl (by (repeat (first | exact trivial | refine ⟨(by (first | rfl | (refine int_eq rfl ?_; (omega)))), ?_⟩))) (by (repeat (first | exact trivial | refine ⟨rfl, ?_⟩))) (by (repeat (exact trivial))) (by (repeat (first | exact trivial | refine ⟨.inr rfl, ?_⟩)))⟩
      · omega
      · omega
    · rw [if_neg (by omega)] at cs
      refine sk_back ?_; refine ⟨i + 1, ?_, ?_, le_at rfl (by (repeat (first | exact trivial | refine ⟨(by (first | rfl | (refine int_eq rfl ?_; (omega)))), ?_⟩))) (by (repeat (first | exact trivial | refine ⟨rfl, ?_⟩))) (by (repeat (exact trivial))) (by (repeat (first | exact trivial | refine ⟨.inr rfl, ?_⟩)))⟩
      · omega
      · omega
  · have e : i = N := by omega
    subst e
    repeat' (first | (refine so_is (.assign _) ?_; (refine so_q (qt_asC rfl) rfl ?_)) | (refine so_is (.load 27 _) ?_; (refine so_q (qt_load_boxs rfl rfl (by kernel_rfl : tAgg _ 27 4 = true) rfl) rfl ?_)) | (refine so_is (.move _) ?_; (refine so_q (qt_mvC rfl) rfl ?_)) | (refine so_is (.call ⟨.builtin .len, _, #[25]⟩) ?_; (refine so_q (qt_len_d rfl (by kernel_rfl)) rfl ?_)) | (refine so_is (.binOp .lss 3 _ _ _) ?_; refine so_q (qt_lss rfl rfl) rfl ?_) | (refine so_is (.indexAddr 25 _ _) ?_; (refine so_q (qt_idxII rfl rfl (by kernel_rfl) (by (omega)) (by (omega))) rfl ?_)) | (refine so_is (.load 24 _) ?_; (refine so_q (qt_load_pt rfl (by kernel_rfl) rfl) rfl ?_)) | refine so_nil ?_ | refine sk_seq ?_ | refine sk_block ?_ | refine sk_exit rfl ?_ | refine sk_skip ?_ | refine sk_region ?_ | refine sk_drawQ 8 (fun _ => false) (.step 0 true (.step 1 true (.step 2 true (.step 3 true (.step 4 true (.step 6 true (.step 5 false (.step 7 true .nil)))))))) [(0, 255, 255, false), (0, 255, 255, true), (0, 255, 255, true), (6, 249, 255, true), (8, 247, 255, false), (17, 238, 255, false), (0, 255, 255, true), (96, 159, 255, true)] (by kernel_rfl) (by kernel_rfl) ?_ | refine sk_if rfl (fun hc => ?_) (fun hc => ?_))
    all_goals first | (exfalso; omega) | skip
    (apply sk_ret; apply ret_eq; (· apply RetOK.t; (· (apply GvA.cons; (· exact .tmp _); (· exact GvP.c (.lit _))); (apply GvA.cons; (· exact .tmp _); (· exact GvP.c (.lit _))); exact GvA.nil); (· rfl); (· (decide))))
    rfl
theorem spPerfectPlay_no (X Y : Int) (ws : List Int) (wi : List (List Int)) (h : gameB X Y ws wi = false) : PC Try.prog 32 [.g [dI X, dI Y, eI ws, eII wi]] (.t [.c (eI []), .c (dB false)]) := by
  have i1 := l4Game_p X Y ws wi
  rw [h] at i1
  refine pc_intro Try.func32 rfl rfl rfl (by kernel_rfl) rfl rfl ?_; intro _
  repeat' (first | (refine so_is (.box 27 _) ?_; refine so_box rfl rfl ?_) | (refine so_is (.assign _) ?_; (refine so_q (qt_asC rfl) rfl ?_)) | (refine so_is (.load 27 _) ?_; (refine so_q (qt_load_boxs rfl rfl (by kernel_rfl : tAgg _ 27 4 = true) rfl) rfl ?_)) | (refine so_is (.unOp .not 4 _) ?_; refine so_q (qt_not rfl) rfl ?_) | (refine so_is (.buildSlice 24 0 _) ?_; (apply so_bslice (sz := 1) (by_ := 8); (· kernel_rfl); (· decide); (· (repeat (exact GvS.nil _))); (· (decide)); (· rfl); (· rfl); (· rfl))) | (refine so_is (.call ⟨.value (.func 85), _, _⟩) ?_; (apply so_call0 (fid := 85); (· (repeat (first | exact SeA.nil | (apply SeA.cons; (· (apply SeP.g; (repeat (first | exact SeL.nil | apply SeL.cons (.d _))))))))); (· exact i1); (· rfl))) | refine so_nil ?_ | refine sk_seq ?_ | refine sk_region ?_ | refine sk_true rfl ?_)
  all_goals (apply sk_ret; apply ret_eq; (· apply RetOK.t; (· (apply GvA.cons; (· exact .tmp _); (· (exact GvP.c (.row _ _ _ _ rfl (by ((simp; done))))))); (apply GvA.cons; (· exact .tmp _); (· exact GvP.c (.lit _))); exact GvA.nil); (· rfl); (· (decide))))
  all_goals rfl
theorem spPerfectPlay_v (X Y : Nat) (ws : List Int) (wi : List (List Int)) (h : gameB X Y ws wi = true) : PV Try.prog 32 [.g [dI X, dI Y, eI ws, eII wi]] (.t [.c (eI (whenA (decide (totG ws ≤ valueG X Y ws wi)) (bestG X Y ws wi))), .c (dB (decide (totG ws ≤ valueG X Y ws wi)))]) := by
  obtain ⟨x, y, e1, e2, hx, hy, wl, il, h9⟩ := game_nat h
  have i1 := l4Game_p X Y ws wi
  rw [h] at i1
  have lb := l4Best_v X Y ws wi h
  have ls : PC Try.prog 108 [.g [dI X, dI Y, eI ws, eII wi], .c (eI (bestG X Y ws wi))] (.p (.c (dI (valueG X Y ws wi)))) := l4Score_p X Y ws wi _ h (by rw [← Int.natCast_add]; exact bitsM_bits _ _)
  have lt := l4Total_p ws wi X Y (by omega) (gameB_spec h).wb
  generalize bestG X Y ws wi = b at *
  generalize valueG X Y ws wi = v at *
  generalize totG ws = t at *
  refine pv_intro Try.func32 rfl rfl rfl (by kernel_rfl) rfl rfl ?_; intro X c0 _
  repeat' (first | (refine so_is (.box 27 _) ?_; refine so_box rfl rfl ?_) | (refine so_is (.assign _) ?_; (refine so_q (qt_asC rfl) rfl ?_)) | (refine so_is (.load 27 _) ?_; (refine so_q (qt_load_boxs rfl rfl (by kernel_rfl : tAgg _ 27 4 = true) rfl) rfl ?_)) | (refine so_is (.unOp .not 4 _) ?_; refine so_q (qt_not rfl) rfl ?_) | (refine so_is (.buildSlice 24 0 _) ?_; (apply so_bslice (sz := 1) (by_ := 8); (· kernel_rfl); (· decide); (· (repeat (exact GvS.nil _))); (· (decide)); (· rfl); (· rfl); (· rfl))) | (refine so_is (.move _) ?_; (refine so_q (qt_mvC rfl) rfl ?_)) | (refine so_is (.binOp .lss 3 _ _ _) ?_; refine so_q (qt_lss rfl rfl) rfl ?_) | (refine so_is (.call ⟨.value (.func 85), _, _⟩) ?_; ((apply so_call0 (fid := 85); (· (repeat (first | exact SeA.nil | (apply SeA.cons; (· (apply SeP.g; (repeat (first | exact SeL.nil | apply SeL.cons (.d _))))))))); (· exact i1); (· rfl)))) | (refine so_is (.call ⟨.value (.func 107), _, _⟩) ?_; ((apply so_callV (fid := 107); (· (repeat (first | exact SdA.nil | (apply SdA.g rfl; (· (repeat (first | exact SdL.nil | apply SdL.cons))))))); (· exact lb); (· rfl)))) | (refine so_is (.call ⟨.value (.func 108), _, _⟩) ?_; ((apply so_call0 (fid := 108); (· (repeat (first | exact SeA.nil | apply SeA.cons (.c (.d _)) | (apply SeA.cons; (· (apply SeP.g; (repeat (first | exact SeL.nil | apply SeL.cons (.d _))))))))); (· exact ls); (· rfl)))) | (refine so_is (.call ⟨.value (.func 122), _, _⟩) ?_; ((apply so_call0 (fid := 122); (· (repeat (first | exact SeA.nil | (apply SeA.cons; (· (apply SeP.g; (repeat (first | exact SeL.nil | apply SeL.cons (.d _))))))))); (· exact lt); (· rfl)))) | refine so_nil ?_ | refine sk_seq ?_ | refine sk_skip ?_ | refine sk_region ?_ | refine sk_drawQ 4 (fun _ => false) (.step 0 true (.step 1 true (.step 3 true (.step 2 false (.step 4 false (.step 5 true .nil)))))) [(0, 63, 63, false), (0, 63, 63, true), (3, 60, 63, false), (0, 63, 63, false), (12, 55, 63, false), (20, 43, 63, true)] (by kernel_rfl) (by kernel_rfl) ?_ | refine sk_false rfl ?_ | refine sk_if rfl (fun hc => ?_) (fun hc => ?_))
  all_goals first | (exfalso; omega) | skip
  all_goals (apply sk_retv; apply retv_eq; (· apply RetV.t rfl; (· (apply RvA.cons; (· exact .tmp _); (· (first | exact RvP.c (.d _) | exact RvP.c (.own (.row _ _ _ _ rfl (by ((simp; done)))))))); (apply RvA.cons; (· exact .tmp _); (· exact RvP.c (.d _))); exact RvA.nil); (· rfl)))
  · have e : ¬ t ≤ v := by omega
    simp [e, whenA]
  · have e : t ≤ v := by omega
    simp [e, whenA]

end Go.Proofs.Ytefbiejoikpkmaa

namespace Go.Proofs.Ytefbiejoikpkmaa
open Go.RowKit
set_option linter.unusedSectionVars false
variable [Glb]
set_option maxRecDepth 10000
set_option maxHeartbeats 4000000
theorem spBestReply_no (X Y : Int) (ws : List Int) (wi : List (List Int)) (fs : List Int) (h : (gameB X Y ws wi && bitsB fs X) = false) : PC Try.prog 39 [.g [dI X, dI Y, eI ws, eII wi], .c (eI fs)] (.t [.c (eI []), .c (dI 0), .c (dB false)]) := by
  have i1 := l4Game_p X Y ws wi
  cases hg : gameB X Y ws wi with
  | false =>
    rw [hg] at i1
    refine pc_intro Try.func39 rfl rfl rfl (by kernel_rfl) rfl rfl ?_; intro _
    repeat' (first | (refine so_is (.box 27 _) ?_; refine so_box rfl rfl ?_) | (refine so_is (.assign _) ?_; (refine so_q (qt_asC rfl) rfl ?_)) | (refine so_is (.buildSlice 24 0 _) ?_; (apply so_bslice (sz := 1) (by_ := 8); (· kernel_rfl); (· decide); (· (repeat (exact GvS.nil _))); (· (decide)); (· rfl); (· rfl); (· rfl))) | (refine so_is (.load 27 _) ?_; (refine so_q (qt_load_boxs rfl rfl (by kernel_rfl : tAgg _ 27 4 = true) rfl) rfl ?_)) | (refine so_is (.unOp .not 4 _) ?_; refine so_q (qt_not rfl) rfl ?_) | (refine so_is (.move _) ?_; (refine so_q (qt_mvC rfl) rfl ?_)) | (refine so_is (.pick _ _ _) ?_; (refine so_q (qt_pkC rfl rfl) rfl ?_)) | (refine so_is (.call ⟨.value (.func 85), _, _⟩) ?_; (apply so_call0 (fid := 85); (· (repeat (first | exact SeA.nil | (apply SeA.cons; (· (apply SeP.g; (repeat (first | exact SeL.nil | apply SeL.cons (.d _))))))))); (· exact i1); (· rfl))) | refine so_nil ?_ | refine so_g_no rfl rfl rfl rfl ?_ | refine sk_seq ?_ | refine sk_region ?_ | refine sk_true rfl ?_)
    all_goals (apply sk_ret; apply ret_eq; (· apply RetOK.t; (· (apply GvA.cons; (· exact .tmp _); (· (exact GvP.c (.row _ _ _ _ rfl (by ((simp; done))))))); (apply GvA.cons; (· exact .tmp _); (· exact GvP.c (.lit _))); (apply GvA.cons; (· exact .tmp _); (· exact GvP.c (.lit _))); exact GvA.nil); (· rfl); (· (decide))))
    all_goals rfl
  | true =>
    rw [hg] at i1
    rw [hg, Bool.true_and] at h
    have i2 := l2Bits_p fs X
    rw [h] at i2
    refine pc_intro Try.func39 rfl rfl rfl (by kernel_rfl) rfl rfl ?_; intro _
    repeat' (first | (refine so_is (.box 27 _) ?_; refine so_box rfl rfl ?_) | (refine so_is (.assign _) ?_; (refine so_q (qt_asC rfl) rfl ?_)) | (refine so_is (.buildSlice 24 0 _) ?_; (apply so_bslice (sz := 1) (by_ := 8); (· kernel_rfl); (· decide); (· (repeat (exact GvS.nil _))); (· (decide)); (· rfl); (· rfl); (· rfl))) | (refine so_is (.load 27 _) ?_; (refine so_q (qt_load_boxs rfl rfl (by kernel_rfl : tAgg _ 27 4 = true) rfl) rfl ?_)) | (refine so_is (.unOp .not 4 _) ?_; refine so_q (qt_not rfl) rfl ?_) | (refine so_is (.move _) ?_; (refine so_q (qt_mvC rfl) rfl ?_)) | (refine so_is (.fieldAddr 27 _ 0) ?_; (refine so_q (qt_fld_lp (off := 0) rfl (by kernel_rfl)) rfl ?_)) | (refine so_is (.load 3 _) ?_; (refine so_q (qt_load_box rfl rfl (by kernel_rfl) rfl) rfl ?_)) | (refine so_is (.pick _ _ _) ?_; (refine so_q (qt_pkC rfl rfl) rfl ?_)) | (refine so_is (.call ⟨.value (.func 85), _, _⟩) ?_; ((apply so_call0 (fid := 85); (· (repeat (first | exact SeA.nil | (apply SeA.cons; (· (apply SeP.g; (repeat (first | exact SeL.nil | apply SeL.cons (.d _))))))))); (· exact i1); (· rfl)))) | (refine so_is (.call ⟨.value (.func 87), _, _⟩) ?_; ((apply so_call0 (fid := 87); (· (repeat (first | exact SeA.nil | apply SeA.cons (.c (.d _))))); (· exact i2); (· rfl)))) | refine so_nil ?_ | refine so_g_yes rfl rfl rfl rfl ?_ | refine sk_seq ?_ | refine sk_region (id := 0) ?_ | refine sk_region (id := 1) ?_ | refine sk_region (id := 2) ?_ | refine sk_region (id := 3) ?_ | refine sk_true rfl ?_)
    all_goals (apply sk_ret; apply ret_eq; (· apply RetOK.t; (· (apply GvA.cons; (· exact .tmp _); (· (exact GvP.c (.row _ _ _ _ rfl (by ((simp; done))))))); (apply GvA.cons; (· exact .tmp _); (· exact GvP.c (.lit _))); (apply GvA.cons; (· exact .tmp _); (· exact GvP.c (.lit _))); exact GvA.nil); (· rfl); (· (decide))))
    all_goals rfl
theorem spBestReply_p (X Y : Nat) (ws : List Int) (wi : List (List Int)) (fs : List Int) (h : gameB X Y ws wi = true) (hp : bitsB fs (X : Int) = true) : PC Try.prog 39 [.g [dI X, dI Y, eI ws, eII wi], .c (eI fs)] (.t [.c (eI (rowF (repA X Y ws wi fs) Y)), .c (dI (accT (repM X Y ws wi fs) Y)), .c (dB true)]) := by
  obtain ⟨x, y, e1, e2, hx, hy, wl, il, h9⟩ := game_nat h
  obtain rfl : X = x := by omega
  obtain rfl : Y = y := by omega
  have i1 := l4Game_p X Y ws wi
  rw [h] at i1
  have i2 := l2Bits_p fs X
  rw [hp] at i2
  have fln := bitsB_len hp
  have mb := fun m => repMN_bd h hp (m := m)
  have mb1 := fun y => repM_bd h hp (y := y)
  refine pc_intro Try.func39 rfl rfl rfl (by kernel_rfl) rfl rfl ?_; intro _
  repeat' (first | (refine so_is (.box 27 _) ?_; refine so_box rfl rfl ?_) | (refine so_is (.assign _) ?_; (refine so_q (qt_asC rfl) rfl ?_)) | (refine so_is (.buildSlice 24 0 _) ?_; (apply so_bslice (sz := 1) (by_ := 8); (· kernel_rfl); (· decide); (· (repeat (exact GvS.nil _))); (· (decide)); (· rfl); (· rfl); (· rfl))) | (refine so_is (.load 27 _) ?_; (refine so_q (qt_load_boxs rfl rfl (by kernel_rfl : tAgg _ 27 4 = true) rfl) rfl ?_)) | (refine so_is (.unOp .not 4 _) ?_; refine so_q (qt_not rfl) rfl ?_) | (refine so_is (.move _) ?_; (refine so_q (qt_mvC rfl) rfl ?_)) | (refine so_is (.fieldAddr 27 _ 0) ?_; (refine so_q (qt_fld_lp (off := 0) rfl (by kernel_rfl)) rfl ?_)) | (refine so_is (.load 3 _) ?_; (refine so_q (qt_load_box rfl rfl (by kernel_rfl) rfl) rfl ?_)) | (refine so_is (.pick _ _ _) ?_; (refine so_q (qt_pkC rfl rfl) rfl ?_)) | (refine so_is (.call ⟨.value (.func 85), _, _⟩) ?_; ((apply so_call0 (fid := 85); (· (repeat (first | exact SeA.nil | (apply SeA.cons; (· (apply SeP.g; (repeat (first | exact SeL.nil | apply SeL.cons (.d _))))))))); (· exact i1); (· rfl)))) | (refine so_is (.call ⟨.value (.func 87), _, _⟩) ?_; ((apply so_call0 (fid := 87); (· (repeat (first | exact SeA.nil | apply SeA.cons (.c (.d _))))); (· exact i2); (· rfl)))) | refine so_nil ?_ | refine so_g_yes rfl rfl rfl rfl ?_ | refine sk_seq ?_ | refine sk_block ?_ | refine sk_skip ?_ | refine sk_region ?_ | refine sk_false rfl ?_)
  all_goals first | (exfalso; omega) | (exfalso; simp_all; done) | skip
  apply sk_packC [1, 2, 7, 8, 9] [2, 14, 33, 70, 71] rfl; (· (repeat (first | exact Pf.nil | apply Pf.cons (.c rfl (.d rfl)) | apply Pf.cons (.c rfl (.ls rfl)) | apply Pf.cons (.c rfl (.lp rfl))))); (· (repeat (first | exact Pb.nil | apply Pb.cons (.row rfl) | (apply Pb.cons; (· apply Nb.box rfl; (repeat (first | exact Ncs.nil rfl | (apply Ncs.cons rfl; (· (exact .d rfl))))))) | apply Pb.skip)))
  refine sk_loopL [1, 2] [2, 33, 70, 71] (fun y => [(9, iN y), (7, .c (.ls 14 1 0 y)), (8, iZ (accT (repM X Y ws wi fs) y))]) (fun y => [(14, .row 1 (cI (rowF (repA X Y ws wi fs) y)))]) (fun y => y ≤ Y) (fun y => Y - y) (0) ?_ (by (repeat (first | exact trivial | refine ⟨(by (rfl)), ?_⟩))) (by (repeat (first | exact trivial | refine ⟨(by (rfl)), ?_⟩))) ?_
  · omega
  intro y hy2
  by_cases hy3 : y < Y
  · obtain ⟨S, hS⟩ : ∃ S : Nat → Nat → Int, S = fun b : Nat => accT (repT Y ws wi fs y (b : Int)) := ⟨_, rfl⟩
    have S0 : ∀ b, S b 0 = 0 := fun b => by rw [hS]; rfl
    have S1 : ∀ b x, S b (x + 1) = S b x + repT Y ws wi fs y (b : Int) x := fun b x => by rw [hS]; rfl
    have Sb : ∀ b x, b < 2 → x ≤ X → 0 ≤ S b x ∧ S b x ≤ 300 := fun b x hb hx => by rw [hS]; exact repN_bd h hp hy3 (by omega) hx
    have SA : repA X Y ws wi fs y = if S 1 X > S 0 X then 1 else 0 := by rw [hS]; rfl
    have SM : repM X Y ws wi fs y = if S 1 X > S 0 X then S 1 X else S 0 X := by rw [hS]; rfl
    clear hS
    repeat' (first | (refine so_is (.assign _) ?_; (refine so_q (qt_asC rfl) rfl ?_)) | (refine so_is (.move _) ?_; (refine so_q (qt_mvC rfl) rfl ?_)) | (refine so_is (.load 3 _) ?_; (refine so_q (qt_load_box rfl rfl (by kernel_rfl) rfl) rfl ?_)) | (refine so_is (.fieldAddr 27 _ 1) ?_; (refine so_q (qt_fld_lp (off := 1) rfl (by kernel_rfl)) rfl ?_)) | (refine so_is (.binOp .lss 3 _ _ _) ?_; refine so_q (qt_lss rfl rfl) rfl ?_) | (refine so_is (.buildSlice 24 2 _) ?_; (apply so_bslice (sz := 1) (by_ := 8); (· kernel_rfl); (· decide); (· (repeat (first | exact GvS.nil _ | apply GvS.c rfl rfl (.lit _) rfl))); (· (decide)); (· rfl); (· rfl); (· rfl))) | refine so_nil ?_ | refine sk_seq ?_ | refine sk_block ?_ | refine sk_exit rfl ?_ | refine sk_skip ?_ | refine sk_region ?_ | refine sk_if rfl (fun hc => ?_) (fun hc => ?_))
    all_goals first | (exfalso; omega) | skip
    apply sk_packC [1, 2, 7, 8, 9, 10, 11] [2, 14, 33, 70, 71] rfl; (· (repeat (first | exact Pf.nil | apply Pf.cons (.c rfl (.d rfl)) | apply Pf.cons (.c rfl (.ls rfl)) | apply Pf.cons (.c rfl (.lp rfl))))); (· (repeat (first | exact Pb.nil | apply Pb.cons (.row rfl) | (apply Pb.cons; (· apply Nb.box rfl; (repeat (first | exact Ncs.nil rfl | (apply Ncs.cons rfl; (· (exact .d rfl))))))) | apply Pb.skip)))
    refine sk_loopL [1, 2, 7, 8, 9, 10] [2, 14, 70, 71] (fun x => [(11, iN x)]) (fun x => [(33, .row 1 [dI (S 0 x), dI (S 1 x)])]) (fun x => x ≤ X) (fun x => X - x) (0) ?_ (by (repeat (first | exact trivial | refine ⟨(by (rfl)), ?_⟩))) (by (repeat (first | exact trivial | refine ⟨(by ((refine row_eq rfl ?_; simp  [S0]; done))), ?_⟩))) ?_
    · omega
    intro x hx2
    by_cases hx3 : x < X
    · have f := bitsB_at hp (i := (x : Int)) (by omega) (by omega)
      repeat' (first | (refine so_is (.assign _) ?_; (refine so_q (qt_asC rfl) rfl ?_)) | (refine so_is (.move _) ?_; (refine so_q (qt_mvC rfl) rfl ?_)) | (refine so_is (.fieldAddr 27 _ 0) ?_; (refine so_q (qt_fld_lp (off := 0) rfl (by kernel_rfl)) rfl ?_)) | (refine so_is (.load 3 _) ?_; (first | refine so_q (qt_load_box rfl rfl (by kernel_rfl) rfl) rfl ?_ | refine so_q (qt_load_row rfl rfl (by kernel_rfl) (by (rfl))) rfl ?_)) | (refine so_is (.binOp .lss 3 _ _ _) ?_; refine so_q (qt_lss rfl rfl) rfl ?_) | (refine so_is (.indexAddr 24 _ _) ?_; (refine so_q (qt_idx_ls rfl rfl (by kernel_rfl : tSl _ 24 1 = true) (by (omega)) (by (omega))) rfl ?_)) | (refine so_is (.binOp .add 3 _ _ _) ?_; refine so_q (qt_addI rfl rfl (by (omega))) rfl ?_) | (refine so_is (.binOp .gtr 3 _ _ _) ?_; refine so_q (qt_gtr rfl rfl) rfl ?_) | (refine so_is (.buildSlice 24 1 _) ?_; (apply so_bslice (sz := 1) (by_ := 8); (· kernel_rfl); (· decide); (· (repeat (first | exact GvS.nil _ | apply GvS.c rfl rfl (.lit _) rfl))); (· (decide)); (· rfl); (· rfl); (· rfl))) | (refine so_is (.call ⟨.builtin .append, _, #[24, 24]⟩) ?_; ((apply so_appR (sz := 1) (by_ := 8); (· rfl); (· rfl); (· ((simp; done))); (· exact .row _ _ _ _ rfl (by ((simp; done)))); (· (decide)); (· kernel_rfl); (· decide); (· (omega)); (· (omega)); (· rfl); (· rfl); (· rfl)))) | refine so_nil ?_ | refine sk_seq ?_ | refine sk_block ?_ | refine sk_blk ?_ | refine sk_exit rfl ?_ | refine sk_skip ?_ | refine sk_region ?_ | refine sk_drawQ 16 (fun _ => false) (.step 0 true (.step 1 true (.step 2 true (.step 3 true (.step 4 true (.step 5 true (.step 6 true .nil))))))) [(0, 127, 127, true), (1, 126, 127, true), (2, 125, 127, false), (0, 127, 127, true), (8, 119, 127, true), (16, 111, 127, false), (36, 91, 127, true)] (by kernel_rfl) (by kernel_rfl) ?_ | refine sk_if rfl (fun hc => ?_) (fun hc => ?_))
      all_goals first | (exfalso; omega) | skip
      apply sk_packC [1, 2, 7, 8, 9, 10, 11, 12] [2, 14, 33, 70, 71] rfl; (· (repeat (first | exact Pf.nil | apply Pf.cons (.c rfl (.d rfl)) | apply Pf.cons (.c rfl (.ls rfl)) | apply Pf.cons (.c rfl (.lp rfl))))); (· (repeat (first | exact Pb.nil | apply Pb.cons (.row rfl) | (apply Pb.cons; (· apply Nb.box rfl; (repeat (first | exact Ncs.nil rfl | (apply Ncs.cons rfl; (· (exact .d rfl))))))) | apply Pb.skip)))
      refine sk_loopL [1, 2, 7, 8, 9, 10, 11] [2, 14, 70, 71] (fun b => [(12, iN b)]) (fun b => [(33, .row 1 [dI (S 0 (x + min b 1)), dI (S 1 (x + (b - 1)))])]) (fun b => b ≤ 2) (fun b => 2 - b) (0) ?_ (by (repeat (first | exact trivial | refine ⟨(by (rfl)), ?_⟩))) (by (repeat (first | exact trivial | refine ⟨(by ((refine row_eq rfl ?_; simp; done))), ?_⟩))) ?_
      · omega
      intro b hb
      by_cases hb2 : b < 2
      · have lw := l4Won_p X Y ws wi x y (atZ fs (x : Int)) (b : Int) h hx3 hy3 f (by omega)
        have e : repT Y ws wi fs y (b : Int) x = atZ ws ((x : Int) * Y + y) * atZ (atZ wi ((x : Int) * Y + y)) (2 * atZ fs (x : Int) + b) := rfl
        rw [← e] at lw
        have e3 := S1 b x
        have b1 := Sb b x hb2 (by omega)
        have b2 := Sb b (x + 1) hb2 (by omega)
        rw [e3] at b2
        clear e
        rcases (by omega : b = 0 ∨ b = 1) with rfl | rfl
        · repeat' (first | (refine so_is (.assign _) ?_; (refine so_q (qt_asC rfl) rfl ?_)) | (refine so_is (.load 27 _) ?_; (refine so_q (qt_load_boxs rfl rfl (by kernel_rfl : tAgg _ 27 4 = true) rfl) rfl ?_)) | (refine so_is (.move _) ?_; (refine so_q (qt_mvC rfl) rfl ?_)) | (refine so_is (.load 3 _) ?_; (first | refine so_q (qt_load_pt rfl (by kernel_rfl) rfl) rfl ?_ | refine so_q (qt_load_row rfl rfl (by kernel_rfl) (by (rfl))) rfl ?_)) | (refine so_is (.binOp .lss 3 _ _ _) ?_; refine so_q (qt_lss rfl rfl) rfl ?_) | (refine so_is (.indexAddr 24 _ _) ?_; (first | refine so_q (qt_idxI rfl rfl (by kernel_rfl) (by (omega)) (by (omega))) rfl ?_ | refine so_q (qt_idx_ls rfl rfl (by kernel_rfl : tSl _ 24 1 = true) (by (omega)) (by (omega))) rfl ?_)) | (refine so_is (.binOp .add 3 _ _ _) ?_; refine so_q (qt_addI rfl rfl (by (first | omega | (simp at *; omega)))) rfl ?_) | (refine so_is (.store 3 _ _) ?_; ((refine so_store_row rfl rfl rfl rfl (.lit _) (by simp) (by simp) (by kernel_rfl) (by ((simp; done))) rfl ?_; simp only [St.drop]))) | (refine so_is (.call ⟨.value (.func 125), _, _⟩) ?_; (apply so_call0 (fid := 125); (· (repeat (first | exact SeA.nil | apply SeA.cons (.c (.d _)) | (apply SeA.cons; (· (apply SeP.g; (repeat (first | exact SeL.nil | apply SeL.cons (.d _))))))))); (· exact lw); (· rfl))) | refine so_nil ?_ | refine sk_seq ?_ | refine sk_block ?_ | refine sk_blk ?_ | refine sk_skip ?_ | refine sk_region ?_ | refine sk_drawQ 14 (fun i => i == 17) (.step 0 true (.step 1 true (.step 2 true (.step 3 true (.step 4 true (.step 5 true (.step 6 true (.step 7 true (.step 8 true (.step 9 true (.step 10 true (.step 11 true (.step 12 true (.step 13 true (.step 14 false (.step 15 true (.step 16 true (.step 17 false .nil)))))))))))))))))) [(0, 262143, 262143, true), (0, 262143, 262143, true), (0, 262143, 262143, true), (0, 262143, 262143, true), (12, 262131, 262143, true), (16, 262127, 262143, false), (0, 262143, 262143, false), (0, 262143, 262143, true), (0, 262143, 262143, true), (0, 262143, 262143, true), (0, 262143, 262143, true), (1536, 260607, 262143, true), (2048, 260095, 262143, false), (0, 262143, 262143, true), (12736, 249407, 262143, false), (16416, 245727, 262143, true), (65535, 262140, 262143, true), (131071, 163839, 262143, false)] (by kernel_rfl) (by kernel_rfl) ?_ | refine sk_true rfl ?_)
          all_goals first | (exfalso; omega) | skip
          refine sk_back ?_; refine ⟨0 + 1, ?_, ?_, le_at rfl (by (repeat (first | exact trivial | refine ⟨(by (rfl)), ?_⟩))) (by (repeat (first | exact trivial | refine ⟨rfl, ?_⟩))) (by (repeat (first | exact trivial | refine ⟨(by ((refine row_eq rfl ?_; simp  [e3]; done))), ?_⟩))) (by (repeat (first | exact trivial | refine ⟨.inr rfl, ?_⟩)))⟩
          · omega
          · omega
        · repeat' (first | (refine so_is (.assign _) ?_; (refine so_q (qt_asC rfl) rfl ?_)) | (refine so_is (.load 27 _) ?_; (refine so_q (qt_load_boxs rfl rfl (by kernel_rfl : tAgg _ 27 4 = true) rfl) rfl ?_)) | (refine so_is (.move _) ?_; (refine so_q (qt_mvC rfl) rfl ?_)) | (refine so_is (.load 3 _) ?_; (first | refine so_q (qt_load_pt rfl (by kernel_rfl) rfl) rfl ?_ | refine so_q (qt_load_row rfl rfl (by kernel_rfl) (by (rfl))) rfl ?_)) | (refine so_is (.binOp .lss 3 _ _ _) ?_; refine so_q (qt_lss rfl rfl) rfl ?_) | (refine so_is (.indexAddr 24 _ _) ?_; (first | refine so_q (qt_idxI rfl rfl (by kernel_rfl) (by (omega)) (by (omega))) rfl ?_ | refine so_q (qt_idx_ls rfl rfl (by kernel_rfl : tSl _ 24 1 = true) (by (omega)) (by (omega))) rfl ?_)) | (refine so_is (.binOp .add 3 _ _ _) ?_; refine so_q (qt_addI rfl rfl (by (first | omega | (simp at *; omega)))) rfl ?_) | (refine so_is (.store 3 _ _) ?_; ((refine so_store_row rfl rfl rfl rfl (.lit _) (by simp) (by simp) (by kernel_rfl) (by ((simp; done))) rfl ?_; simp only [St.drop]))) | (refine so_is (.call ⟨.value (.func 125), _, _⟩) ?_; (apply so_call0 (fid := 125); (· (repeat (first | exact SeA.nil | apply SeA.cons (.c (.d _)) | (apply SeA.cons; (· (apply SeP.g; (repeat (first | exact SeL.nil | apply SeL.cons (.d _))))))))); (· exact lw); (· rfl))) | refine so_nil ?_ | refine sk_seq ?_ | refine sk_block ?_ | refine sk_blk ?_ | refine sk_skip ?_ | refine sk_region ?_ | refine sk_drawQ 14 (fun i => i == 17) (.step 0 true (.step 1 true (.step 2 true (.step 3 true (.step 4 true (.step 5 true (.step 6 true (.step 7 true (.step 8 true (.step 9 true (.step 10 true (.step 11 true (.step 12 true (.step 13 true (.step 14 false (.step 15 true (.step 16 true (.step 17 false .nil)))))))))))))))))) [(0, 262143, 262143, true), (0, 262143, 262143, true), (0, 262143, 262143, true), (0, 262143, 262143, true), (12, 262131, 262143, true), (16, 262127, 262143, false), (0, 262143, 262143, false), (0, 262143, 262143, true), (0, 262143, 262143, true), (0, 262143, 262143, true), (0, 262143, 262143, true), (1536, 260607, 262143, true), (2048, 260095, 262143, false), (0, 262143, 262143, true), (12736, 249407, 262143, false), (16416, 245727, 262143, true), (65535, 262140, 262143, true), (131071, 163839, 262143, false)] (by kernel_rfl) (by kernel_rfl) ?_ | refine sk_true rfl ?_)
          all_goals first | (exfalso; omega) | skip
          refine sk_back ?_; refine ⟨1 + 1, ?_, ?_, le_at rfl (by (repeat (first | exact trivial | refine ⟨(by (rfl)), ?_⟩))) (by (repeat (first | exact trivial | refine ⟨rfl, ?_⟩))) (by (repeat (first | exact trivial | refine ⟨(by ((refine row_eq rfl ?_; simp  [e3]; done))), ?_⟩))) (by (repeat (first | exact trivial | refine ⟨.inr rfl, ?_⟩)))⟩
          · omega
          · omega
      · have e : b = 2 := by omega
        subst e
        repeat' (first | (refine so_is (.assign _) ?_; (refine so_q (qt_asC rfl) rfl ?_)) | (refine so_is (.move _) ?_; (refine so_q (qt_mvC rfl) rfl ?_)) | (refine so_is (.binOp .lss 3 _ _ _) ?_; refine so_q (qt_lss rfl rfl) rfl ?_) | (refine so_is (.binOp .add 3 _ _ _) ?_; refine so_q (qt_addI rfl rfl (by (omega))) rfl ?_) | refine so_nil ?_ | refine sk_seq ?_ | refine sk_blk ?_ | refine sk_exit rfl ?_ | refine sk_region ?_ | refine sk_false rfl ?_)
        all_goals first | (exfalso; omega) | skip
        refine sk_back ?_; refine ⟨x + 1, ?_, ?_, le_at rfl (by (repeat (first | exact trivial | refine ⟨(by (rfl)), ?_⟩))) (by (repeat (first | exact trivial | refine ⟨rfl, ?_⟩))) (by (repeat (first | exact trivial | refine ⟨(by ((refine row_eq rfl ?_; simp; done))), ?_⟩))) (by (repeat (first | exact trivial | refine ⟨.inr rfl, ?_⟩)))⟩
        · omega
        · omega
    · have e : x = X := by omega
      subst e
      have b1 := mb y (by omega)
      have b2 := mb1 y hy3
      have e3 : accT (repM x Y ws wi fs) (y + 1) = accT (repM x Y ws wi fs) y + repM x Y ws wi fs y := rfl
      by_cases hc2 : S 1 x > S 0 x
      · have e4 : repM x Y ws wi fs y = S 1 x := by rw [SM, if_pos hc2]
        have e5 : repA x Y ws wi fs y = 1 := by rw [SA, if_pos hc2]
        rw [e4] at e3 b2
        repeat' (first | (refine so_is (.assign _) ?_; (refine so_q (qt_asC rfl) rfl ?_)) | (refine so_is (.move _) ?_; (refine so_q (qt_mvC rfl) rfl ?_)) | (refine so_is (.fieldAddr 27 _ 0) ?_; (refine so_q (qt_fld_lp (off := 0) rfl (by kernel_rfl)) rfl ?_)) | (refine so_is (.load 3 _) ?_; (first | refine so_q (qt_load_box rfl rfl (by kernel_rfl) rfl) rfl ?_ | refine so_q (qt_load_row rfl rfl (by kernel_rfl) (by (rfl))) rfl ?_)) | (refine so_is (.binOp .lss 3 _ _ _) ?_; refine so_q (qt_lss rfl rfl) rfl ?_) | (refine so_is (.indexAddr 24 _ _) ?_; (refine so_q (qt_idx_ls rfl rfl (by kernel_rfl : tSl _ 24 1 = true) (by (omega)) (by (omega))) rfl ?_)) | (refine so_is (.binOp .add 3 _ _ _) ?_; refine so_q (qt_addI rfl rfl (by (omega))) rfl ?_) | (refine so_is (.binOp .gtr 3 _ _ _) ?_; refine so_q (qt_gtr rfl rfl) rfl ?_) | (refine so_is (.buildSlice 24 1 _) ?_; (apply so_bslice (sz := 1) (by_ := 8); (· kernel_rfl); (· decide); (· (repeat (first | exact GvS.nil _ | apply GvS.c rfl rfl (.lit _) rfl))); (· (decide)); (· rfl); (· rfl); (· rfl))) | (refine so_is (.call ⟨.builtin .append, _, #[24, 24]⟩) ?_; ((apply so_appR (sz := 1) (by_ := 8); (· rfl); (· rfl); (· ((simp; done))); (· exact .row _ _ _ _ rfl (by ((simp; done)))); (· (decide)); (· kernel_rfl); (· decide); (· (omega)); (· (omega)); (· rfl); (· rfl); (· rfl)))) | refine so_nil ?_ | refine sk_seq ?_ | refine sk_block ?_ | refine sk_blk ?_ | refine sk_exit rfl ?_ | refine sk_skip ?_ | refine sk_region ?_ | refine sk_drawQ 16 (fun _ => false) (.step 0 true (.step 1 true (.step 2 true (.step 3 true (.step 4 true (.step 5 true (.step 6 true .nil))))))) [(0, 127, 127, true), (1, 126, 127, true), (2, 125, 127, false), (0, 127, 127, true), (8, 119, 127, true), (16, 111, 127, false), (36, 91, 127, true)] (by kernel_rfl) (by kernel_rfl) ?_ | refine sk_if rfl (fun hc => ?_) (fun hc => ?_))
        all_goals first | (exfalso; omega) | skip
        refine sk_back ?_; refine ⟨y + 1, ?_, ?_, le_at rfl (by (repeat (first | exact trivial | refine ⟨(by (first | rfl | (refine int_eq rfl ?_; (omega)))), ?_⟩))) (by (repeat (first | exact trivial | refine ⟨rfl, ?_⟩))) (by (repeat (first | exact trivial | refine ⟨(by ((refine row_eq rfl ?_; simp  [rowF_snoc, e3, e5]; done))), ?_⟩))) (by (repeat (first | exact trivial | refine ⟨.inr rfl, ?_⟩ | refine ⟨.inl rfl, ?_⟩)))⟩
        · omega
        · omega
      · have e4 : repM x Y ws wi fs y = S 0 x := by rw [SM, if_neg hc2]
        have e5 : repA x Y ws wi fs y = 0 := by rw [SA, if_neg hc2]
        rw [e4] at e3 b2
        repeat' (first | (refine so_is (.assign _) ?_; (refine so_q (qt_asC rfl) rfl ?_)) | (refine so_is (.move _) ?_; (refine so_q (qt_mvC rfl) rfl ?_)) | (refine so_is (.fieldAddr 27 _ 0) ?_; (refine so_q (qt_fld_lp (off := 0) rfl (by kernel_rfl)) rfl ?_)) | (refine so_is (.load 3 _) ?_; (first | refine so_q (qt_load_box rfl rfl (by kernel_rfl) rfl) rfl ?_ | refine so_q (qt_load_row rfl rfl (by kernel_rfl) (by (rfl))) rfl ?_)) | (refine so_is (.binOp .lss 3 _ _ _) ?_; refine so_q (qt_lss rfl rfl) rfl ?_) | (refine so_is (.indexAddr 24 _ _) ?_; (refine so_q (qt_idx_ls rfl rfl (by kernel_rfl : tSl _ 24 1 = true) (by (omega)) (by (omega))) rfl ?_)) | (refine so_is (.binOp .add 3 _ _ _) ?_; refine so_q (qt_addI rfl rfl (by (omega))) rfl ?_) | (refine so_is (.binOp .gtr 3 _ _ _) ?_; refine so_q (qt_gtr rfl rfl) rfl ?_) | (refine so_is (.buildSlice 24 1 _) ?_; (apply so_bslice (sz := 1) (by_ := 8); (· kernel_rfl); (· decide); (· (repeat (first | exact GvS.nil _ | apply GvS.c rfl rfl (.lit _) rfl))); (· (decide)); (· rfl); (· rfl); (· rfl))) | (refine so_is (.call ⟨.builtin .append, _, #[24, 24]⟩) ?_; ((apply so_appR (sz := 1) (by_ := 8); (· rfl); (· rfl); (· ((simp; done))); (· exact .row _ _ _ _ rfl (by ((simp; done)))); (· (decide)); (· kernel_rfl); (· decide); (· (omega)); (· (omega)); (· rfl); (· rfl); (· rfl)))) | refine so_nil ?_ | refine sk_seq ?_ | refine sk_block ?_ | refine sk_blk ?_ | refine sk_exit rfl ?_ | refine sk_skip ?_ | refine sk_region ?_ | refine sk_drawQ 16 (fun _ => false) (.step 0 true (.step 1 true (.step 2 true (.step 3 true (.step 4 true (.step 5 true (.step 6 true .nil))))))) [(0, 127, 127, true), (1, 126, 127, true), (2, 125, 127, false), (0, 127, 127, true), (8, 119, 127, true), (16, 111, 127, false), (36, 91, 127, true)] (by kernel_rfl) (by kernel_rfl) ?_ | refine sk_if rfl (fun hc => ?_) (fun hc => ?_))
        all_goals first | (exfalso; omega) | skip
        refine sk_back ?_; refine ⟨y + 1, ?_, ?_, le_at rfl (by (repeat (first | exact trivial | refine ⟨(by (first | rfl | (refine int_eq rfl ?_; (omega)))), ?_⟩))) (by (repeat (first | exact trivial | refine ⟨rfl, ?_⟩))) (by (repeat (first | exact trivial | refine ⟨(by ((refine row_eq rfl ?_; simp  [rowF_snoc, e3, e5]; done))), ?_⟩))) (by (repeat (first | exact trivial | refine ⟨.inr rfl, ?_⟩ | refine ⟨.inl rfl, ?_⟩)))⟩
        · omega
        · omega
  · have e : y = Y := by omega
    subst e
    repeat' (first | (refine so_is (.assign _) ?_; (refine so_q (qt_asC rfl) rfl ?_)) | (refine so_is (.move _) ?_; (refine so_q (qt_mvC rfl) rfl ?_)) | (refine so_is (.load 3 _) ?_; (refine so_q (qt_load_box rfl rfl (by kernel_rfl) rfl) rfl ?_)) | (refine so_is (.fieldAddr 27 _ 1) ?_; (refine so_q (qt_fld_lp (off := 1) rfl (by kernel_rfl)) rfl ?_)) | (refine so_is (.binOp .lss 3 _ _ _) ?_; refine so_q (qt_lss rfl rfl) rfl ?_) | (refine so_is (.buildSlice 24 2 _) ?_; (apply so_bslice (sz := 1) (by_ := 8); (· kernel_rfl); (· decide); (· (repeat (first | exact GvS.nil _ | apply GvS.c rfl rfl (.lit _) rfl))); (· (decide)); (· rfl); (· rfl); (· rfl))) | refine so_nil ?_ | refine sk_seq ?_ | refine sk_block ?_ | refine sk_exit rfl ?_ | refine sk_skip ?_ | refine sk_region ?_ | refine sk_if rfl (fun hc => ?_) (fun hc => ?_))
    all_goals first | (exfalso; omega) | skip
    (apply sk_ret; apply ret_eq; (· apply RetOK.t; (· (apply GvA.cons; (· exact .tmp _); (· (exact GvP.c (.row _ _ _ _ rfl (by ((simp; done))))))); (apply GvA.cons; (· exact .tmp _); (· exact GvP.c (.lit _))); (apply GvA.cons; (· exact .tmp _); (· exact GvP.c (.lit _))); exact GvA.nil); (· rfl); (· (decide))))
    simp

end Go.Proofs.Ytefbiejoikpkmaa
