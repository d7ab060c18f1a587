/- What the functions that FnGroups reaches return: part of its proof. No condition beyond those of its theorems. -/
import Derived.Test.YtefbiejoikpkmaaGreatKfnsFnGroupsA
import Derived.Test.YtefbiejoikpkmaaGreatKplainB
import Derived.Test.YtefbiejoikpkmaaGreatKplainA
import Derived.Test.YtefbiejoikpkmaaGreatKplainC
import Derived.WalkKit
set_option linter.unusedVariables false
set_option linter.unusedSimpArgs false
namespace Go.Proofs.YtefbiejoikpkmaaGreat
open Go.RowKit
set_option linter.unusedSectionVars false
variable [Glb]
set_option maxRecDepth 10000
set_option maxHeartbeats 4000000
theorem l1Least_p (a b : Int) : PC Tryz.prog 142 [.c (dI a), .c (dI b)] (.p (.c (dI (min a b)))) := by
  refine pc_intro Tryz.func142 rfl rfl rfl (by kernel_rfl) rfl rfl ?_; intro _
  repeat' (first | (refine so_is (.assign _) ?_; (refine so_q (qt_asC rfl) rfl ?_)) | (refine so_is (.move _) ?_; (refine so_q (qt_mvC rfl) rfl ?_)) | (refine so_is (.binOp .lss 3 _ _ _) ?_; refine so_q (qt_lss rfl rfl) rfl ?_) | refine so_nil ?_ | refine sk_seq ?_ | refine sk_skip ?_ | refine sk_region ?_ | refine sk_if rfl (fun hc => ?_) (fun hc => ?_))
  all_goals (apply sk_ret; apply ret_eq; (· apply RetOK.p; (· (apply GvA.cons; (· exact .tmp _); (· exact GvP.c (.lit _))); exact GvA.nil); (· (decide))))
  all_goals simp [Int.min_def]
  all_goals omega

end Go.Proofs.YtefbiejoikpkmaaGreat

namespace Go.Proofs.YtefbiejoikpkmaaGreat
open Go.RowKit
set_option linter.unusedSectionVars false
variable [Glb]
set_option maxRecDepth 10000
set_option maxHeartbeats 4000000
theorem l2Near_p (n : Int) : PC Tryz.prog 165 [.c (dI n)] (.p (.c (dI (min (max n 0) 4)))) := by
  refine pc_intro Tryz.func165 rfl rfl rfl (by kernel_rfl) rfl rfl ?_; intro _
  repeat' (first | (refine so_is (.assign _) ?_; (refine so_q (qt_asC rfl) rfl ?_)) | (refine so_is (.move _) ?_; (refine so_q (qt_mvC rfl) rfl ?_)) | (refine so_is (.call ⟨.value (.func 154), _, _⟩) ?_; (apply so_call0 (fid := 154); (· (repeat (first | exact SeA.nil | apply SeA.cons (.c (.d _))))); (· exact l1Most_p _ _); (· rfl))) | (refine so_is (.call ⟨.value (.func 142), _, _⟩) ?_; (apply so_call0 (fid := 142); (· (repeat (first | exact SeA.nil | apply SeA.cons (.c (.d _))))); (· exact l1Least_p _ _); (· rfl))) | refine so_nil ?_ | refine sk_seq ?_ | refine sk_region ?_)
  all_goals (apply sk_ret; apply ret_eq; (· apply RetOK.p; (· (apply GvA.cons; (· exact .tmp _); (· exact GvP.c (.lit _))); exact GvA.nil); (· (decide))))
  all_goals rfl
theorem curAmongB_p (code : Tx) (a s : Int) (n : Nat) (ds : List D) (lo hi : Int) (hn : n = ds.length) (h2 : 0 < n) (h : ∀ x ∈ ds, ∃ t : Int, x = dI t ∧ (lo ≤ t ∧ t ≤ hi)) (h0 : 0 ≤ a) (h1 : a ≤ 4611686018427387000) : PX Tryz.prog 77 (CurB code a s) [.v (.c (.sl 1 n ds))] (CurR a 2 fun res => ∃ t : Int, (lo ≤ t ∧ t ≤ hi) ∧ res = .p (.c (dI t))) :=
  curAmongD_p code a s n ds (fun t => lo ≤ t ∧ t ≤ hi) hn h2 h h0 h1
theorem curSizes_p (code : Tx) (a s : Int) (h0 : 0 ≤ a) (h1 : a ≤ 4611686018427386000) : PX Tryz.prog 120 (CurB code a s) [] (CurR a 10 fun res => ∃ x y : Int, ((-1 ≤ x ∧ x ≤ 4611686018427387904) ∧ -1 ≤ y ∧ y ≤ 4611686018427387904) ∧ res = .t [.c (dI x), .c (dI y)]) := by
  refine px_intro Tryz.func120 rfl rfl rfl (by kernel_rfl) rfl rfl rfl ?_; intro kv
  repeat' (first | (refine so_is (.assign _) ?_; (refine so_q (qt_asC rfl) rfl ?_)) | (refine so_is (.move _) ?_; (refine so_q (qt_mvC rfl) rfl ?_)) | (refine so_is (.buildSlice 27 4 _) ?_; (apply so_bslice (sz := 1) (by_ := 8); (· kernel_rfl); (· decide); (· (repeat (first | exact GvS.nil _ | apply GvS.c rfl rfl (.lit _) rfl))); (· (decide)); (· rfl); (· rfl); (· rfl))) | (refine so_is (.call ⟨.value (.func 77), _, _⟩) ?_; (first | (apply so_callX (d := 10) (fid := 77); (· rfl); (· rfl); (· (repeat (first | exact BxI.nil | apply BxI.ks | (apply BxI.o; (· (exact .lit _)))))); (· (repeat (first | exact ArX.nil | apply ArX.v (.c (.row _ _ _ _ rfl (by ((simp; done)))))))); (· (decide)); (· (decide)); (· exact curAmongB_p code _ _ _ _ (-1) 4611686018427387904 rfl (by decide) (by repeat (first | exact fun x hx => absurd hx List.not_mem_nil | (refine List.forall_mem_cons.2 ⟨⟨_, rfl, by decide⟩, ?_⟩))) (by omega) (by omega)); (· rfl); (· (intro b hb1 hb2; omega)); (· rfl); (rintro _ _ ⟨a1, s1, ha1, rfl, t1, ht1, rfl⟩; refine ⟨(by first | rfl | simp [*]), ?_⟩)) | (apply so_callX (d := 13) (fid := 77); (· rfl); (· rfl); (· (repeat (first | exact BxI.nil | apply BxI.ks | (apply BxI.o; (· (exact .lit _)))))); (· (repeat (first | exact ArX.nil | apply ArX.v (.c (.row _ _ _ _ rfl (by ((simp; done)))))))); (· (decide)); (· (decide)); (· exact curAmongB_p code _ _ _ _ (-1) 4611686018427387904 rfl (by decide) (by repeat (first | exact fun x hx => absurd hx List.not_mem_nil | (refine List.forall_mem_cons.2 ⟨⟨_, rfl, by decide⟩, ?_⟩))) (by omega) (by omega)); (· rfl); (· (intro b hb1 hb2; omega)); (· rfl); (rintro _ _ ⟨a1, s1, ha1, rfl, t1, ht1, rfl⟩; refine ⟨(by first | rfl | simp [*]), ?_⟩)))) | (refine so_is (.call ⟨.value (.func 113), _, _⟩) ?_; (first | (apply so_callX (d := 15) (fid := 113); (· rfl); (· rfl); (· (repeat (first | exact BxI.nil | apply BxI.ks | (apply BxI.o; (· (exact .lit _)))))); (· (repeat (first | exact ArX.nil | apply ArX.v (.c (.d _))))); (· (decide)); (· (decide)); (· exact curPick_p code _ _ _ (by omega) (by omega)); (· rfl); (· (intro b hb1 hb2; omega)); (· rfl); (rintro _ _ ⟨a1, s1, ha1, rfl, x1, hx1, rfl⟩; refine ⟨(by first | rfl | simp [*]), ?_⟩)) | (apply so_callX (d := 18) (fid := 113); (· rfl); (· rfl); (· (repeat (first | exact BxI.nil | apply BxI.ks | (apply BxI.o; (· (exact .lit _)))))); (· (repeat (first | exact ArX.nil | apply ArX.v (.c (.d _))))); (· (decide)); (· (decide)); (· exact curPick_p code _ _ _ (by omega) (by omega)); (· rfl); (· (intro b hb1 hb2; omega)); (· rfl); (rintro _ _ ⟨a1, s1, ha1, rfl, x1, hx1, rfl⟩; refine ⟨(by first | rfl | simp [*]), ?_⟩)))) | (refine so_is (.binOp .add 3 _ _ _) ?_; refine so_q (qt_addI rfl rfl (by (omega))) rfl ?_) | (refine so_is (.call ⟨.value (.func 143), _, _⟩) ?_; (apply so_callX (fid := 143); (· rfl); (· rfl); (· (repeat (first | exact BxI.nil | apply BxI.ks | (apply BxI.o; (· (exact .lit _)))))); (· (repeat (first | exact ArX.nil | apply ArX.v (.c (.d _))))); (· (decide)); (· (decide)); (· exact curOne_p code _ _ _ (by omega) (by omega)); (· rfl); (· (intro b hb1 hb2; omega)); (· rfl); (rintro _ _ ⟨a1, s1, ha1, rfl, b1, rfl⟩; refine ⟨(by first | rfl | simp [*]), ?_⟩))) | refine so_nil ?_ | refine sk_seq ?_ | refine sk_skip ?_ | refine sk_region ?_ | refine sk_cond rfl (fun hc => ?_) (fun hc => ?_))
  all_goals (apply sk_xret; (· (apply RetX.t; (· rfl); (· (repeat (first | exact BxO.nil _ | apply BxO.k | (apply BxO.o; (· (exact .lit _)))))); (· (apply GvA.cons; (· exact .tmp _); (· exact GvP.c (.lit _))); (apply GvA.cons; (· exact .tmp _); (· exact GvP.c (.lit _))); exact GvA.nil); (· rfl); (· (decide)))))
  all_goals exact ⟨_, _, by omega, rfl, _, _, by omega, rfl⟩
/-- cells that hold numbers -/
def IsI (ds : List D) : Prop := ∃ l : List Int, ds = cI l
theorem IsI.map (l : List Int) : IsI (cI l) := ⟨l, rfl⟩
theorem IsI.nil : IsI [] := ⟨[], rfl⟩
theorem IsI.cons {k : Int} {ds : List D} (h : IsI ds) : IsI (dI k :: ds) := by obtain ⟨l, rfl⟩ := h; exact ⟨k :: l, rfl⟩
theorem IsI.set {k : Int} {ds : List D} {i : Nat} (h : IsI ds) : IsI (ds.set i (dI k)) := by obtain ⟨l, rfl⟩ := h; exact ⟨l.set i k, by simp⟩
theorem IsI.take {ds : List D} {i : Nat} (h : IsI ds) : IsI (ds.take i) := by obtain ⟨l, rfl⟩ := h; exact ⟨l.take i, by simp⟩
theorem IsI.drop {ds : List D} {i : Nat} (h : IsI ds) : IsI (ds.drop i) := by obtain ⟨l, rfl⟩ := h; exact ⟨l.drop i, by simp⟩
theorem IsI.sl {n : Nat} {ds : List D} (h : IsI ds) (hn : ds.length = n) : ∃ l : List Int, l.length = n ∧ D.sl 1 n ds = eI l := by
  obtain ⟨l, rfl⟩ := h
  rw [List.length_map] at hn
  exact ⟨l, hn, by rw [← hn]⟩
theorem IsI.res {n m : Nat} {ds : List D} (h : IsI ds) (hn : ds.length = n) (hm : n ≤ m) : ∃ l : List Int, l.length ≤ m ∧ Res.p (.c (D.sl 1 n ds)) = .p (.c (eI l)) := by
  obtain ⟨l, h1, h2⟩ := h.sl hn
  exact ⟨l, by omega, by rw [h2]⟩
theorem near_mul (x y : Int) : ∃ N : Nat, min (max x 0) 4 * min (max y 0) 4 = (N : Int) ∧ N ≤ 16 := by
  have h1 : 0 ≤ min (max x 0) 4 * min (max y 0) 4 := Int.mul_nonneg (by omega) (by omega)
  have h2 : min (max x 0) 4 * min (max y 0) 4 ≤ 4 * 4 := Int.mul_le_mul (by omega) (by omega) (by omega) (by omega)
  exact ⟨(min (max x 0) 4 * min (max y 0) 4).toNat, by omega, by omega⟩
def GameX (x y : Int) (res : Res) : Prop := ∃ (ws : List Int) (wi : List (List Int)), (ws.length ≤ 16 ∧ wi.length ≤ 16) ∧ res = .p (.g [dI x, dI y, eI ws, eII wi])
def IsII (ds : List D) : Prop := ∃ l : List (List Int), ds = cII l
theorem IsII.map (l : List (List Int)) : IsII (cII l) := ⟨l, rfl⟩
theorem IsII.set {n : Nat} {es ds : List D} {i : Nat} (h : IsII ds) (he : IsI es) (hn : es.length = n) : IsII (ds.set i (.sl 1 n es)) := by
  obtain ⟨l, rfl⟩ := h
  obtain ⟨m, _, e⟩ := he.sl hn
  rw [e]
  exact ⟨l.set i m, by simp⟩
theorem IsII.take {ds : List D} {i : Nat} (h : IsII ds) : IsII (ds.take i) := by obtain ⟨l, rfl⟩ := h; exact ⟨l.take i, by simp⟩
theorem IsII.drop {ds : List D} {i : Nat} (h : IsII ds) : IsII (ds.drop i) := by obtain ⟨l, rfl⟩ := h; exact ⟨l.drop i, by simp⟩
theorem IsII.sl {n : Nat} {ds : List D} (h : IsII ds) (hn : ds.length = n) : ∃ l : List (List Int), l.length = n ∧ D.sl 1 n ds = eII l := by
  obtain ⟨l, rfl⟩ := h
  rw [List.length_map] at hn
  exact ⟨l, hn, by rw [← hn]⟩
end Go.Proofs.YtefbiejoikpkmaaGreat

namespace Go.Proofs.YtefbiejoikpkmaaGreat
open Go.RowKit
set_option linter.unusedSectionVars false
variable [Glb]
set_option maxRecDepth 10000
set_option maxHeartbeats 4000000
theorem l11Of_p (l : List Int) (n : Int) (hl : l.length = 8) (hp : ∀ q : Nat, q < 8 → 0 ≤ atZ l q ∧ atZ l q < 8) : PC Tryz.prog 191 [.c (eI l), .c (dI n)] (.p (.g [dI n, eII (gridF (ansF n fun q => atZ l q) 8 8)])) := by
  refine pc_intro Tryz.func191 rfl rfl rfl (by kernel_rfl) rfl rfl ?_; intro _
  repeat' (first | (refine so_is (.alloc 88) ?_; refine so_alloc (zs := [.int .i64 0, .slice none 0 0]) (by kernel_rfl) rfl ?_) | (refine so_is (.move _) ?_; (refine so_q (qt_mvC rfl) rfl ?_)) | (refine so_is (.buildSlice 24 0 _) ?_; (apply so_bslice (sz := 1) (by_ := 24); (· kernel_rfl); (· decide); (· (repeat (exact GvS.nil _))); (· (decide)); (· rfl); (· rfl); (· rfl))) | (refine so_is (.build 88 _) ?_; refine so_q (qt_build (cs := [_, _]) [(0, 1), (1, 1)] [.int .i64 0, .slice none 0 0] (by kernel_rfl) (by kernel_rfl) rfl) rfl ?_) | (refine so_is (.store 88 _ _) ?_; (refine so_store_box rfl rfl rfl (by kernel_rfl) rfl rfl ?_)) | (refine so_is (.assign _) ?_; (refine so_q (qt_asC rfl) rfl ?_)) | refine so_nil ?_ | refine sk_seq ?_ | refine sk_block ?_ | refine sk_region ?_)
  apply sk_packC [0, 1, 4, 5, 6] [4, 5, 9, 15, 26, 27] rfl; (· (repeat (first | exact Pf.nil | apply Pf.cons (.c rfl (.d rfl)) | apply Pf.cons (.c rfl (.lp rfl))))); (· (repeat (first | exact Pb.nil | apply Pb.cons (.row rfl) | (apply Pb.cons; (· apply Nb.box rfl; (repeat (first | exact Ncs.nil rfl | (apply Ncs.cons rfl; (· (first | exact .d rfl | exact .ls rfl))))))) | apply Pb.skip)))
  refine sk_loopL [0, 1, 4, 5] [4, 15, 26, 27] (fun q => [(6, iN q)]) (fun q => [(5, .box [.d (dI n), .ls 9 1 0 q]), (9, .row 1 (cII (gridF (ansF n fun q => atZ l q) q 8)))]) (fun q => q ≤ 8) (fun q => 8 - q) (0) ?_ (by (repeat (first | exact trivial | refine ⟨(by (rfl)), ?_⟩))) (by (repeat (first | exact trivial | refine ⟨(by (first | (refine box_eq rfl ?_; simp; done) | rfl)), ?_⟩))) ?_
  · simp
  intro q hq
  have hp1 : q < 8 → _ := hp q
  repeat' (first | (refine so_is (.move _) ?_; (refine so_q (qt_mvC rfl) rfl ?_)) | (refine so_is (.store 88 _ _) ?_; (refine so_store_box rfl rfl rfl (by kernel_rfl) rfl rfl ?_)) | (refine so_is (.assign _) ?_; (refine so_q (qt_asC rfl) rfl ?_)) | (refine so_is (.binOp .lss 3 _ _ _) ?_; refine so_q (qt_lss rfl rfl) rfl ?_) | (refine so_is (.makeSlice 27 _ _) ?_; (refine so_make (by_ := 8) (z := .int .i64 0) (y := .lit (.int .i64 0)) rfl rfl (by kernel_rfl) (by kernel_rfl) rfl (fun _ => .lit _ rfl) (by (omega)) (by (omega)) (by (omega)) rfl ?_)) | (refine so_is (.indexAddr 27 _ _) ?_; (first | refine so_q (qt_idxI rfl rfl (by kernel_rfl) (by (omega)) (by (omega))) rfl ?_ | refine so_q (qt_idx_ls rfl rfl (by kernel_rfl : tSl _ 27 1 = true) (by (omega)) (by (omega))) rfl ?_)) | (refine so_is (.load 3 _) ?_; (refine so_q (qt_load_pt rfl (by kernel_rfl) rfl) rfl ?_)) | (refine so_is (.store 3 _ _) ?_; ((refine so_store_row rfl rfl rfl rfl (.lit _) (by simp) (by simp) (by kernel_rfl) (by ((simp only [List.length_map, List.length_append, List.length_replicate, fillL_len, rowF_len, gridF_len, mkI_len, mkII_len, partZ_min] at *; omega))) rfl ?_; simp only [St.drop]))) | (refine so_is (.fieldAddr 88 _ 1) ?_; (refine so_q (qt_fld_lp (off := 1) rfl (by kernel_rfl)) rfl ?_)) | (refine so_is (.load 24 _) ?_; (refine so_q (qt_load_box rfl rfl (by kernel_rfl) rfl) rfl ?_)) | (refine so_is (.buildSlice 24 1 _) ?_; (apply so_bslice (sz := 1) (by_ := 24); (· kernel_rfl); (· decide); (· (repeat (first | exact GvS.nil _ | apply GvS.c rfl rfl (.row _ _ _ _ rfl (by ((simp; done)))) rfl))); (· (decide)); (· rfl); (· rfl); (· rfl))) | (refine so_is (.call ⟨.builtin .append, _, #[24, 24]⟩) ?_; ((apply so_appR (sz := 1) (by_ := 24); (· rfl); (· rfl); (· ((simp; done))); (· exact .row _ _ _ _ rfl (by ((simp; done)))); (· (decide)); (· kernel_rfl); (· decide); (· (omega)); (· (omega)); (· rfl); (· rfl); (· rfl)))) | (refine so_is (.store 24 _ _) ?_; (refine so_store_box1 rfl rfl rfl rfl (by kernel_rfl) rfl rfl ?_)) | (refine so_is (.binOp .add 3 _ _ _) ?_; refine so_q (qt_addI rfl rfl (by (omega))) rfl ?_) | (refine so_is (.load 88 _) ?_; (refine so_q (qt_load_boxs rfl rfl (by kernel_rfl : tAgg _ 88 2 = true) rfl) rfl ?_)) | refine so_nil ?_ | refine sk_seq ?_ | refine sk_block ?_ | refine sk_blk ?_ | refine sk_exit rfl ?_ | refine sk_skip ?_ | refine sk_region ?_ | refine sk_if rfl (fun hc => ?_) (fun hc => ?_))
  · have hq2 : q < 8 := by omega
    have hone : (List.replicate 8 (dI 0)).set (atZ l q).toNat (dI n) = cI (rowF (ansF n (fun q => atZ l q) q) 8) := oneHotZ dI n (hp1 hq2).1 (hp1 hq2).2
    refine sk_back ?_; refine ⟨q + 1, ?_, ?_, le_at rfl (by (repeat (first | exact trivial | refine ⟨(by (rfl)), ?_⟩))) (by (repeat (first | exact trivial | refine ⟨rfl, ?_⟩))) (by (repeat (first | exact trivial | refine ⟨(by (first | (refine row_eq rfl ?_; simp  [gridF_snoc, ← hone, eI, List.replicate]; done) | rfl)), ?_⟩))) (by (repeat (first | exact trivial | refine ⟨.inr rfl, ?_⟩)))⟩
    · omega
    · omega
  · have h8 : q = 8 := by omega
    subst h8
    (apply sk_ret; apply ret_eq; (· apply RetOK.p; (· (apply GvA.cons; (· (apply RV.cellN (n := 2); (· rfl); (· rfl); (· kernel_rfl); (· rfl))); (· (apply GvP.g; (· (apply GvL.cons (.lit _)); ((apply GvL.cons (.row _ _ _ _ rfl (by ((simp; done)))))); exact GvL.nil)))); exact GvA.nil); (· (decide))))
    simp

end Go.Proofs.YtefbiejoikpkmaaGreat

namespace Go.Proofs.YtefbiejoikpkmaaGreat
open Go.RowKit
set_option linter.unusedSectionVars false
variable [Glb]
set_option maxRecDepth 10000
set_option maxHeartbeats 4000000
theorem l11Digits_p (k : Int) : PC Tryz.prog 141 [.c (dI k)] (.p (.c (eI [k / 4, k / 2 % 2, k % 2]))) := by
  refine pc_intro Tryz.func141 rfl rfl rfl (by kernel_rfl) rfl rfl ?_; intro _
  repeat' (first | (refine so_is (.assign _) ?_; (refine so_q (qt_asC rfl) rfl ?_)) | (refine so_is (.move _) ?_; (refine so_q (qt_mvC rfl) rfl ?_)) | (refine so_is (.binOp .shr 3 _ _ _) ?_; (first | refine so_q (qt_shrC (c := 4) rfl rfl (by decide)) rfl ?_ | refine so_q (qt_shrC (c := 2) rfl rfl (by decide)) rfl ?_)) | (refine so_is (.binOp .and 3 _ _ _) ?_; refine so_q (qt_andM 1 (c := 2) rfl rfl (by decide)) rfl ?_) | (refine so_is (.buildSlice 27 3 _) ?_; (apply so_bslice (sz := 1) (by_ := 8); (· kernel_rfl); (· decide); (· (repeat (first | exact GvS.nil _ | apply GvS.c rfl rfl (.lit _) rfl))); (· (decide)); (· rfl); (· rfl); (· rfl))) | refine so_nil ?_ | refine sk_seq ?_ | refine sk_region ?_)
  · (apply sk_ret; apply ret_eq; (· apply RetOK.p; (· (apply GvA.cons; (· exact .tmp _); (· (exact GvP.c (.row _ _ _ _ rfl (by ((simp; done))))))); exact GvA.nil); (· (decide))))
    rfl

end Go.Proofs.YtefbiejoikpkmaaGreat

namespace Go.Proofs.YtefbiejoikpkmaaGreat
open Go.RowKit
set_option linter.unusedSectionVars false
variable [Glb]
set_option maxRecDepth 10000
set_option maxHeartbeats 4000000
theorem l11Others_p (a : Int) : PC Tryz.prog 140 [.c (dI a)] (.p (.c (eI (othL a 3)))) := by
  refine pc_intro Tryz.func140 rfl rfl rfl (by kernel_rfl) rfl rfl ?_; intro _
  repeat' (first | (refine so_is (.assign _) ?_; (refine so_q (qt_asC rfl) rfl ?_)) | (refine so_is (.buildSlice 27 0 _) ?_; (apply so_bslice (sz := 1) (by_ := 8); (· kernel_rfl); (· decide); (· (repeat (exact GvS.nil _))); (· (decide)); (· rfl); (· rfl); (· rfl))) | refine so_nil ?_ | refine sk_seq ?_ | refine sk_block ?_ | refine sk_region ?_)
  apply sk_packC [0, 3, 4] [5, 15, 16] rfl; (· (repeat (first | exact Pf.nil | apply Pf.cons (.c rfl (.d rfl)) | apply Pf.cons (.c rfl (.ls rfl))))); (· (repeat (first | exact Pb.nil | apply Pb.cons (.row rfl) | apply Pb.skip)))
  refine sk_loopL [0] [15, 16] (fun k => [(4, iN k), (3, .c (.ls 5 1 0 (othL a k).length))]) (fun k => [(5, .row 1 (cI (othL a k)))]) (fun k => k ≤ 3) (fun k => 3 - k) (0) ?_ (by (repeat (first | exact trivial | refine ⟨(by (rfl)), ?_⟩))) (by (repeat (first | exact trivial | refine ⟨(by (rfl)), ?_⟩))) ?_
  · simp
  intro k hk
  have e := fun h => othL_succ a (k := k) h
  have hL := othL_len a k
  repeat' (first | (refine so_is (.assign _) ?_; (refine so_q (qt_asC rfl) rfl ?_)) | (refine so_is (.move _) ?_; (refine so_q (qt_mvC rfl) rfl ?_)) | (refine so_is (.binOp .lss 3 _ _ _) ?_; refine so_q (qt_lss rfl rfl) rfl ?_) | (refine so_is (.binOp .neq 3 _ _ _) ?_; refine so_q (qt_neq rfl rfl) rfl ?_) | (refine so_is (.buildSlice 27 1 _) ?_; (apply so_bslice (sz := 1) (by_ := 8); (· kernel_rfl); (· decide); (· (repeat (first | exact GvS.nil _ | apply GvS.c rfl rfl (.lit _) rfl))); (· (decide)); (· rfl); (· rfl); (· rfl))) | (refine so_is (.call ⟨.builtin .append, _, #[27, 27]⟩) ?_; ((apply so_appR (sz := 1) (by_ := 8); (· rfl); (· rfl); (· ((simp; done))); (· exact .row _ _ _ _ rfl (by ((simp; done)))); (· (decide)); (· kernel_rfl); (· decide); (· (omega)); (· (omega)); (· rfl); (· rfl); (· rfl)))) | (refine so_is (.binOp .add 3 _ _ _) ?_; refine so_q (qt_addI rfl rfl (by (omega))) rfl ?_) | refine so_nil ?_ | refine sk_seq ?_ | refine sk_block ?_ | refine sk_blk ?_ | refine sk_exit rfl ?_ | refine sk_skip ?_ | refine sk_region ?_ | refine sk_if rfl (fun hc => ?_) (fun hc => ?_))
  · rename_i hk'
    have e := e (by omega)
    rw [if_neg (by simpa using hc)] at e
    refine sk_back ?_; refine ⟨k + 1, ?_, ?_, le_at rfl (by (repeat (first | exact trivial | refine ⟨(by (first | rfl | (refine ls_eq rfl ?_; ((simp  [e]; done))))), ?_⟩))) (by (repeat (first | exact trivial | refine ⟨rfl, ?_⟩))) (by (repeat (first | exact trivial | refine ⟨(by ((refine row_eq rfl ?_; simp  [e]; done))), ?_⟩))) (by (repeat (first | exact trivial | refine ⟨.inr rfl, ?_⟩)))⟩
    · omega
    · omega
  · rename_i hk'
    have e := e (by omega)
    rw [if_pos (by simpa using hc)] at e
    refine sk_back ?_; refine ⟨k + 1, ?_, ?_, le_at rfl (by (repeat (first | exact trivial | refine ⟨(by (first | rfl | (refine ls_eq rfl ?_; ((simp  [e]; done))))), ?_⟩))) (by (repeat (first | exact trivial | refine ⟨rfl, ?_⟩))) (by (repeat (first | exact trivial | refine ⟨(by ((refine row_eq rfl ?_; simp  [e]; done))), ?_⟩))) (by (repeat (first | exact trivial | refine ⟨.inr rfl, ?_⟩)))⟩
    · omega
    · omega
  · have : k = 3 := by omega
    subst this
    (apply sk_ret; apply ret_eq; (· apply RetOK.p; (· (apply GvA.cons; (· exact .tmp _); (· (exact GvP.c (.row _ _ _ _ rfl (by ((simp; done))))))); exact GvA.nil); (· (decide))))
    rfl
theorem l11Others0_p : PC Tryz.prog 140 [.c (dI 0)] (.p (.c (eI [1, 2]))) := by have := l11Others_p 0; rwa [show othL 0 3 = [1, 2] from rfl] at this
theorem l11Others1_p : PC Tryz.prog 140 [.c (dI 1)] (.p (.c (eI [0, 2]))) := by have := l11Others_p 1; rwa [show othL 1 3 = [0, 2] from rfl] at this
theorem l11Others2_p : PC Tryz.prog 140 [.c (dI 2)] (.p (.c (eI [0, 1]))) := by have := l11Others_p 2; rwa [show othL 2 3 = [0, 1] from rfl] at this

end Go.Proofs.YtefbiejoikpkmaaGreat

namespace Go.Proofs.YtefbiejoikpkmaaGreat
open Go.RowKit
set_option linter.unusedSectionVars false
variable [Glb]
set_option maxRecDepth 10000
set_option maxHeartbeats 4000000
theorem l11Grouped_p (a : Int) (own joint : List Int) (n : Int) (h : inB a 0 2 = true) (ho : bitsB own 2 = true) (hj : bitsB joint 8 = true) :
    PC Tryz.prog 132 [.c (dI a), .c (eI own), .c (eI joint), .c (dI n)] (.p (.g [dI n, eII (gridF (ansF n fun q => grpV a own joint q) 8 8)])) := by
  have hlo := bitsB_len ho
  have hlj := bitsB_len hj
  have hb := grpV_bd h ho hj
  obtain ⟨g, hg⟩ : ∃ g : Nat → Int, g = fun k : Nat => grpV a own joint k := ⟨_, rfl⟩
  have hgq : ∀ q : Nat, g q = grpV a own joint q := fun q => by rw [hg]
  rcases inB_02 h with rfl | rfl | rfl
  all_goals
    refine pc_intro Tryz.func132 rfl rfl rfl (by kernel_rfl) rfl rfl ?_; intro _
    repeat' (first | (refine so_is (.alloc 88) ?_; refine so_alloc (zs := [.int .i64 0, .slice none 0 0]) (by kernel_rfl) rfl ?_) | (refine so_is (.buildSlice 27 0 _) ?_; (apply so_bslice (sz := 1) (by_ := 8); (· kernel_rfl); (· decide); (· (repeat (exact GvS.nil _))); (· (decide)); (· rfl); (· rfl); (· rfl))) | (refine so_is (.move _) ?_; (refine so_q (qt_mvC rfl) rfl ?_)) | (refine so_is (.assign _) ?_; (refine so_q (qt_asC rfl) rfl ?_)) | (refine so_is (.call ⟨.value (.func 140), _, _⟩) ?_; (first | (apply so_call0 (fid := 140); (· (repeat (first | exact SeA.nil | apply SeA.cons (.c (.d _))))); (· exact l11Others0_p); (· rfl)) | (apply so_call0 (fid := 140); (· (repeat (first | exact SeA.nil | apply SeA.cons (.c (.d _))))); (· exact l11Others1_p); (· rfl)) | (apply so_call0 (fid := 140); (· (repeat (first | exact SeA.nil | apply SeA.cons (.c (.d _))))); (· exact l11Others2_p); (· rfl)))) | refine so_nil ?_ | refine sk_seq ?_ | refine sk_block ?_ | refine sk_region ?_)
    apply sk_packC [0, 1, 2, 3, 8, 9, 10, 11] [8, 15, 17, 23, 24, 83, 84, 1087] rfl; (· (repeat (first | exact Pf.nil | apply Pf.cons (.c rfl (.d rfl)) | apply Pf.cons (.c rfl (.ls rfl)) | apply Pf.cons (.c rfl (.lp rfl))))); (· (repeat (first | exact Pb.nil | apply Pb.cons (.row rfl) | (apply Pb.cons; (· apply Nb.box rfl; (repeat (first | exact Ncs.nil rfl | (apply Ncs.cons rfl; (· (exact .d rfl))))))) | apply Pb.skip)))
    refine sk_loopL [0, 1, 2, 3, 8, 10] [8, 17, 23, 24, 83, 84, 1087] (fun q => [(11, iN q), (9, .c (.ls 15 1 0 q))]) (fun q => [(15, .row 1 (cI (rowF g q)))]) (fun q => q ≤ 8) (fun q => 8 - q) (0) ?_ (by (repeat (first | exact trivial | refine ⟨(by (rfl)), ?_⟩))) (by (repeat (first | exact trivial | refine ⟨(by (rfl)), ?_⟩))) ?_
    · simp
    intro q hq
    have hgq := hgq q
    have pp : (q : Int) < 8 → _ ∧ _ ∧ _ ∧ _ ∧ _ ∧ _ ∧ _ ∧ _ ∧ _ := fun h8 => ⟨bitsB_at ho (i := (q : Int) / 4) (by omega) (by omega), bitsB_at ho (i := (q : Int) / 2 % 2) (by omega) (by omega), bitsB_at ho (i := (q : Int) % 2) (by omega) (by omega),
      bitsB_at hj (i := 2 * (2 * ((q : Int) / 2 % 2) + (q : Int) % 2)) (by omega) (by omega), bitsB_at hj (i := 2 * (2 * ((q : Int) / 4) + (q : Int) % 2)) (by omega) (by omega), bitsB_at hj (i := 2 * (2 * ((q : Int) / 4) + (q : Int) / 2 % 2)) (by omega) (by omega),
      bitsB_at hj (i := 2 * (2 * ((q : Int) / 2 % 2) + (q : Int) % 2) + 1) (by omega) (by omega), bitsB_at hj (i := 2 * (2 * ((q : Int) / 4) + (q : Int) % 2) + 1) (by omega) (by omega), bitsB_at hj (i := 2 * (2 * ((q : Int) / 4) + (q : Int) / 2 % 2) + 1) (by omega) (by omega)⟩
    repeat' (first | (with_reducible apply so_lt) | intro Y hY | ((with_reducible apply so_j2); (· assumption); (· rfl); (· exact (by (repeat (first | exact trivial | refine ⟨rfl, ?_⟩)))); (· exact (by (repeat (first | exact trivial | refine ⟨rfl, ?_⟩))))) | ((with_reducible apply so_j1); (· rfl); (· (repeat (first | exact Pf.nil | apply Pf.cons (.c rfl (.d rfl)) | apply Pf.cons (.c rfl (.ls rfl)) | apply Pf.cons (.c rfl (.lp rfl))))); (· (repeat (first | exact Pb.nil | apply Pb.cons (.row rfl) | (apply Pb.cons; (· apply Nb.box rfl; (repeat (first | exact Ncs.nil rfl | (apply Ncs.cons rfl; (· (exact .d rfl))))))) | apply Pb.skip))); (· assumption)) | refine so_alt ?_ ?_ | (refine so_is (.move _) ?_; (refine so_q (qt_mvC rfl) rfl ?_)) | (refine so_is (.assign _) ?_; (refine so_q (qt_asC rfl) rfl ?_)) | (refine so_is (.binOp .lss 3 _ _ _) ?_; refine so_q (qt_lss rfl rfl) rfl ?_) | (refine so_is (.makeSlice 27 _ _) ?_; (refine so_make (by_ := 8) (z := .int .i64 0) (y := .lit (.int .i64 0)) rfl rfl (by kernel_rfl) (by kernel_rfl) rfl (fun _ => .lit _ rfl) (by (omega)) (by (omega)) (by (omega)) rfl ?_)) | (refine so_is (.indexAddr 27 _ _) ?_; (first | refine so_q (qt_idx (e := [_]) rfl rfl (by kernel_rfl : tSl _ 27 1 = true) (by (omega)) (by ((simp; done))) rfl) rfl ?_ | refine so_q (qt_idxI rfl rfl (by kernel_rfl) (by (omega)) (by (omega))) rfl ?_ | refine so_q (qt_idx_ls rfl rfl (by kernel_rfl : tSl _ 27 1 = true) (by (omega)) (by (omega))) rfl ?_)) | (refine so_is (.load 3 _) ?_; (first | refine so_q (qt_load_pt rfl (by kernel_rfl) rfl) rfl ?_ | refine so_q (qt_load_row rfl rfl (by kernel_rfl) (by (rfl))) rfl ?_)) | (refine so_is (.binOp .mul 3 _ _ _) ?_; refine so_q (qt_mulI rfl rfl (by (omega))) rfl ?_) | (refine so_is (.binOp .add 3 _ _ _) ?_; refine so_q (qt_addI rfl rfl (by (omega))) rfl ?_) | (refine so_is (.store 3 _ _) ?_; ((refine so_store_row rfl rfl rfl rfl (.lit _) (by simp) (by simp) (by kernel_rfl) (by (first | (simp only [List.length_map, List.length_append, List.length_replicate, fillL_len, rowF_len, gridF_len, mkI_len, mkII_len, partZ_min] at *; omega) | (simp; done))) rfl ?_; simp only [St.drop]))) | (refine so_is (.buildSlice 27 1 _) ?_; (apply so_bslice (sz := 1) (by_ := 8); (· kernel_rfl); (· decide); (· (repeat (first | exact GvS.nil _ | apply GvS.c rfl rfl (.lit _) rfl))); (· (decide)); (· rfl); (· rfl); (· rfl))) | (refine so_is (.call ⟨.builtin .append, _, #[27, 27]⟩) ?_; ((apply so_appR (sz := 1) (by_ := 8); (· rfl); (· rfl); (· ((simp; done))); (· exact .row _ _ _ _ rfl (by ((simp; done)))); (· (decide)); (· kernel_rfl); (· decide); (· (omega)); (· (omega)); (· rfl); (· rfl); (· rfl)))) | (refine so_is (.call ⟨.value (.func 141), _, _⟩) ?_; (apply so_call0 (fid := 141); (· (repeat (first | exact SeA.nil | apply SeA.cons (.c (.d _))))); (· exact l11Digits_p _); (· rfl))) | refine so_nil ?_ | refine sk_seq ?_ | refine sk_block ?_ | refine sk_blk ?_ | refine sk_exit rfl ?_ | refine sk_skip ?_ | refine sk_region ?_ | refine sk_drawQ 5 (fun _ => false) (IT.lt .nil fun Y0 => (.step 0 true (.alt 5 (.step 1 false (.step 3 true (.step 2 false (.step 4 true (IT.ref true [0, 1, 2, 3, 8, 9, 10, 11, 12, 13] [8, 15, 17, 23, 24] Y0))))) (.step 2 false (.step 1 false (.step 3 true (.step 4 true (IT.ref false [0, 1, 2, 3, 8, 9, 10, 11, 12, 13] [8, 15, 17, 23, 24] Y0)))))))) [(0, 31, 31, true), (1, 30, 31, false), (0, 31, 31, false), (3, 29, 31, true), (15, 27, 31, true)] (by kernel_rfl) (by kernel_rfl) ?_ | refine sk_drawQ 6 (fun _ => false) (.step 0 true (.step 1 true (.step 2 true (.step 3 true (.step 4 true (.step 5 true (.step 6 true (.step 7 true (.step 8 true (.step 9 true (.step 10 true (.step 11 true (.step 12 true (.step 13 true (.step 14 true (.step 15 true .nil)))))))))))))))) [(0, 65535, 65535, true), (0, 65535, 65535, true), (2, 65533, 65535, true), (4, 65531, 65535, false), (9, 65526, 65535, true), (16, 65519, 65535, false), (32, 65503, 65535, true), (0, 65535, 65535, true), (0, 65535, 65535, true), (256, 65279, 65535, true), (512, 65023, 65535, false), (1152, 64383, 65535, true), (2048, 63487, 65535, false), (4160, 61375, 65535, true), (8192, 57343, 65535, true), (32767, 49151, 65535, true)] (by kernel_rfl) (by kernel_rfl) ?_ | refine sk_drawQ 8 (fun i => i == 9) (.step 0 true (.step 1 true (.step 2 true (.step 3 true (.step 4 true (.step 5 true (.step 6 true (.step 7 true (.step 8 true (.step 9 false .nil)))))))))) [(0, 1023, 1023, true), (0, 1023, 1023, true), (2, 1021, 1023, true), (4, 1019, 1023, false), (0, 1023, 1023, true), (0, 1023, 1023, true), (48, 975, 1023, true), (64, 959, 1023, false), (255, 1014, 1023, true), (511, 639, 1023, false)] (by kernel_rfl) (by kernel_rfl) ?_ | refine sk_drawQ 9 (fun i => i == 10) (.step 0 true (.step 1 true (.step 2 true (.step 3 true (.step 4 true (.step 5 true (.step 6 true (.step 7 true (.step 8 true (.step 9 true (.step 10 false .nil))))))))))) [(0, 2047, 2047, true), (0, 2047, 2047, true), (2, 2045, 2047, true), (4, 2043, 2047, false), (0, 2047, 2047, true), (0, 2047, 2047, true), (32, 2015, 2047, true), (80, 1967, 2047, true), (128, 1919, 2047, false), (511, 2038, 2047, true), (1023, 1279, 2047, false)] (by kernel_rfl) (by kernel_rfl) ?_ | refine sk_drawQ 10 (fun i => i == 15) (.step 0 true (.step 1 true (.step 2 true (.step 3 true (.step 4 true (.step 5 true (.step 6 true (.step 7 true (.step 8 true (.step 9 true (.step 10 true (.step 11 true (.step 12 true (.step 13 true (.step 14 false (.step 15 false (.step 16 true .nil))))))))))))))))) [(0, 131071, 131071, true), (0, 131071, 131071, true), (2, 131069, 131071, true), (4, 131067, 131071, false), (8, 131063, 131071, true), (0, 131071, 131071, true), (32, 131039, 131071, true), (64, 131007, 131071, false), (128, 130943, 131071, true), (272, 130799, 131071, true), (0, 131071, 131071, true), (1024, 130047, 131071, true), (2048, 129023, 131071, false), (4608, 126463, 131071, true), (8192, 122879, 131071, false), (16385, 114686, 131071, false), (65535, 98302, 98303, true)] (by kernel_rfl) (by kernel_rfl) ?_ | refine sk_if rfl (fun hc => ?_) (fun hc => ?_))
    rotate_right
    · have h8 : q = 8 := by omega
      subst h8
      repeat' (first | (refine so_is (.store 88 _ _) ?_; (refine so_store_box rfl rfl rfl (by kernel_rfl) rfl rfl ?_)) | (refine so_is (.call ⟨.value (.func 191), _, _⟩) ?_; (apply so_callO0 (fid := 191); (· (repeat (first | exact SeA.nil | apply SeA.cons (.c (.d _)) | apply SeA.cons (.c (.all _ _ _ _ rfl (by ((simp; done)))))))); (· exact l11Of_p _ _ (rowF_len _ _) (fun q hq => by rw [rowF_atZ _ hq, hg]; exact hb _)); (· rfl); (· rfl))) | refine so_nil ?_)
      (apply sk_ret; apply ret_eq; (· apply RetOK.p; (· (apply GvA.cons; (· (apply RV.cellN (n := 2); (· rfl); (· rfl); (· kernel_rfl); (· rfl))); (· (apply GvP.g; (· (apply GvL.cons (.lit _)); ((apply GvL.cons (.row _ _ _ _ rfl (by ((simp; done)))))); exact GvL.nil)))); exact GvA.nil); (· (decide))))
      rw [gridF_ans, hg]
    all_goals
      have e : (q : Int) / 4 % 2 = (q : Int) / 4 := by omega
      simp [grpV, grpAt, oth1, oth2, bitZ, e] at hgq
      refine sk_back ?_; refine ⟨q + 1, ?_, ?_, le_at rfl (by (repeat (first | exact trivial | refine ⟨(by (rfl)), ?_⟩))) (by (repeat (first | exact trivial | refine ⟨rfl, ?_⟩))) (by (repeat (first | exact trivial | refine ⟨(by ((refine row_eq rfl ?_; simp  [rowF_snoc, hgq]; omega))), ?_⟩))) (by (repeat (first | exact trivial | refine ⟨.inr rfl, ?_⟩ | refine ⟨.inl rfl, ?_⟩)))⟩
      · omega
      · omega

end Go.Proofs.YtefbiejoikpkmaaGreat

namespace Go.Proofs.YtefbiejoikpkmaaGreat
open Go.RowKit
set_option linter.unusedSectionVars false
variable [Glb]
set_option maxRecDepth 10000
set_option maxHeartbeats 4000000
theorem l11Parity_p (p : Int) (h0 : 0 ≤ p) (h : p < 8) : PC Tryz.prog 152 [.c (dI p)] (.p (.c (dI (parZ p)))) := by
  refine pc_intro Tryz.func152 rfl rfl rfl (by kernel_rfl) rfl rfl ?_; intro _
  repeat' (first | (refine so_is (.assign _) ?_; (refine so_q (qt_asC rfl) rfl ?_)) | (refine so_is (.move _) ?_; (refine so_q (qt_mvC rfl) rfl ?_)) | (refine so_is (.binOp .shr 3 _ _ _) ?_; (first | refine so_q (qt_shrC (c := 4) rfl rfl (by decide)) rfl ?_ | refine so_q (qt_shrC (c := 2) rfl rfl (by decide)) rfl ?_)) | (refine so_is (.binOp .add 3 _ _ _) ?_; refine so_q (qt_addI rfl rfl (by (omega))) rfl ?_) | (refine so_is (.binOp .and 3 _ _ _) ?_; refine so_q (qt_andM 1 (c := 2) rfl rfl (by decide)) rfl ?_) | refine so_nil ?_ | refine sk_seq ?_ | refine sk_region ?_)
  · (apply sk_ret; apply ret_eq; (· apply RetOK.p; (· (apply GvA.cons; (· exact .tmp _); (· exact GvP.c (.lit _))); exact GvA.nil); (· (decide))))
    rfl

end Go.Proofs.YtefbiejoikpkmaaGreat

namespace Go.Proofs.YtefbiejoikpkmaaGreat
open Go.RowKit
set_option linter.unusedSectionVars false
variable [Glb]
set_option maxRecDepth 10000
set_option maxHeartbeats 4000000
theorem l11Sums_p (odd : List Int) (h : bitsB odd 8 = true) : PC Tryz.prog 193 [.c (eI odd)] (.p (.g [dI 4, eII (gridF (sumF3 odd) 8 8)])) := by
  have hl := bitsB_len h
  refine pc_intro Tryz.func193 rfl rfl rfl (by kernel_rfl) rfl rfl ?_; intro _
  repeat' (first | (refine so_is (.alloc 88) ?_; refine so_alloc (zs := [.int .i64 0, .slice none 0 0]) (by kernel_rfl) rfl ?_) | (refine so_is (.buildSlice 24 0 _) ?_; (apply so_bslice (sz := 1) (by_ := 24); (· kernel_rfl); (· decide); (· (repeat (exact GvS.nil _))); (· (decide)); (· rfl); (· rfl); (· rfl))) | (refine so_is (.build 88 _) ?_; refine so_q (qt_build (cs := [_, _]) [(0, 1), (1, 1)] [.int .i64 0, .slice none 0 0] (by kernel_rfl) (by kernel_rfl) rfl) rfl ?_) | (refine so_is (.store 88 _ _) ?_; (refine so_store_box rfl rfl rfl (by kernel_rfl) rfl rfl ?_)) | (refine so_is (.assign _) ?_; (refine so_q (qt_asC rfl) rfl ?_)) | refine so_nil ?_ | refine sk_seq ?_ | refine sk_block ?_ | refine sk_region ?_)
  apply sk_packC [0, 2, 3, 4] [2, 3, 7, 13, 31, 32] rfl; (· (repeat (first | exact Pf.nil | apply Pf.cons (.c rfl (.d rfl)) | apply Pf.cons (.c rfl (.lp rfl))))); (· (repeat (first | exact Pb.nil | apply Pb.cons (.row rfl) | (apply Pb.cons; (· apply Nb.box rfl; (repeat (first | exact Ncs.nil rfl | (apply Ncs.cons rfl; (· (first | exact .d rfl | exact .ls rfl))))))) | apply Pb.skip)))
  refine sk_loopL [0, 2, 3] [2, 13, 31, 32] (fun q => [(4, iN q)]) (fun q => [(3, .box [.d (dI 4), .ls 7 1 0 q]), (7, .row 1 (cII (gridF (sumF3 odd) q 8)))]) (fun q => q ≤ 8) (fun q => 8 - q) (0) ?_ (by (repeat (first | exact trivial | refine ⟨(by (rfl)), ?_⟩))) (by (repeat (first | exact trivial | refine ⟨(by (first | (refine box_eq rfl ?_; simp; done) | rfl)), ?_⟩))) ?_
  · omega
  intro q hq
  by_cases hq8 : q < 8
  · have hb := bitsB_at h (i := (q : Int)) (by omega) (by omega)
    repeat' (first | (refine so_is (.store 88 _ _) ?_; (refine so_store_box rfl rfl rfl (by kernel_rfl) rfl rfl ?_)) | (refine so_is (.assign _) ?_; (refine so_q (qt_asC rfl) rfl ?_)) | (refine so_is (.move _) ?_; (refine so_q (qt_mvC rfl) rfl ?_)) | (refine so_is (.binOp .lss 3 _ _ _) ?_; refine so_q (qt_lss rfl rfl) rfl ?_) | (refine so_is (.makeSlice 27 _ _) ?_; (refine so_make (by_ := 8) (z := .int .i64 0) (y := .lit (.int .i64 0)) rfl rfl (by kernel_rfl) (by kernel_rfl) rfl (fun _ => .lit _ rfl) (by (omega)) (by (omega)) (by (omega)) rfl ?_)) | (refine so_is (.load 88 _) ?_; (refine so_q (qt_load_boxs rfl rfl (by kernel_rfl : tAgg _ 88 2 = true) rfl) rfl ?_)) | refine so_nil ?_ | refine sk_seq ?_ | refine sk_block ?_ | refine sk_exit rfl ?_ | refine sk_skip ?_ | refine sk_region ?_ | refine sk_if rfl (fun hc => ?_) (fun hc => ?_))
    all_goals first | (exfalso; omega) | skip
    apply sk_packC [0, 2, 3, 4, 5, 6] [2, 3, 7, 13, 31, 32] rfl; (· (repeat (first | exact Pf.nil | apply Pf.cons (.c rfl (.d rfl)) | apply Pf.cons (.c rfl (.ls rfl)) | apply Pf.cons (.c rfl (.lp rfl))))); (· (repeat (first | exact Pb.nil | apply Pb.cons (.row rfl) | (apply Pb.cons; (· apply Nb.box rfl; (repeat (first | exact Ncs.nil rfl | (apply Ncs.cons rfl; (· (first | exact .d rfl | exact .ls rfl))))))) | apply Pb.skip)))
    refine sk_loopL [0, 2, 3, 4, 5] [2, 7, 3, 31, 32] (fun k => [(6, iN k)]) (fun k => [(13, .row 1 (cI (sumRow odd q k)))]) (fun k => k ≤ 8) (fun k => 8 - k) (0) ?_ (by (repeat (first | exact trivial | refine ⟨(by (rfl)), ?_⟩))) (by (repeat (first | exact trivial | refine ⟨(by ((refine row_eq rfl ?_; simp  [sumRow_zero]; done))), ?_⟩))) ?_
    · omega
    intro k hk
    have sl := sumRow_len odd q k
    by_cases hk8 : k < 8
    · have pp := l11Parity_p (k : Int) (by omega) (by omega)
      rw [parZ_nat] at pp
      by_cases hp : (parN k : Int) = atZ odd (q : Int)
      · have sh := sumRow_hit hk8 hp
        repeat' (first | (refine so_is (.assign _) ?_; (refine so_q (qt_asC rfl) rfl ?_)) | (refine so_is (.move _) ?_; (refine so_q (qt_mvC rfl) rfl ?_)) | (refine so_is (.binOp .lss 3 _ _ _) ?_; refine so_q (qt_lss rfl rfl) rfl ?_) | (refine so_is (.indexAddr 27 _ _) ?_; (first | refine so_q (qt_idxI rfl rfl (by kernel_rfl) (by (omega)) (by (omega))) rfl ?_ | refine so_q (qt_idx_ls rfl rfl (by kernel_rfl : tSl _ 27 1 = true) (by (omega)) (by (omega))) rfl ?_)) | (refine so_is (.load 3 _) ?_; (refine so_q (qt_load_pt rfl (by kernel_rfl) rfl) rfl ?_)) | (refine so_is (.binOp .eql 3 _ _ _) ?_; refine so_q (qt_eql rfl rfl) rfl ?_) | (refine so_is (.store 3 _ _) ?_; ((refine so_store_row rfl rfl rfl rfl (.lit _) (by simp) (by simp) (by kernel_rfl) (by ((simp only [List.length_map, List.length_append, List.length_replicate, fillL_len, rowF_len, gridF_len, mkI_len, mkII_len, partZ_min] at *; omega))) rfl ?_; simp only [St.drop]))) | (refine so_is (.binOp .add 3 _ _ _) ?_; refine so_q (qt_addI rfl rfl (by (omega))) rfl ?_) | (refine so_is (.fieldAddr 88 _ 1) ?_; (refine so_q (qt_fld_lp (off := 1) rfl (by kernel_rfl)) rfl ?_)) | (refine so_is (.load 24 _) ?_; (refine so_q (qt_load_box rfl rfl (by kernel_rfl) rfl) rfl ?_)) | (refine so_is (.buildSlice 24 1 _) ?_; (apply so_bslice (sz := 1) (by_ := 24); (· kernel_rfl); (· decide); (· (repeat (first | exact GvS.nil _ | apply GvS.c rfl rfl (.row _ _ _ _ rfl (by (assumption))) rfl))); (· (decide)); (· rfl); (· rfl); (· rfl))) | (refine so_is (.call ⟨.builtin .append, _, #[24, 24]⟩) ?_; ((apply so_appR (sz := 1) (by_ := 24); (· rfl); (· rfl); (· ((simp; done))); (· exact .row _ _ _ _ rfl (by ((simp; done)))); (· (decide)); (· kernel_rfl); (· decide); (· (omega)); (· (omega)); (· rfl); (· rfl); (· rfl)))) | (refine so_is (.store 24 _ _) ?_; (refine so_store_box1 rfl rfl rfl rfl (by kernel_rfl) rfl rfl ?_)) | (refine so_is (.call ⟨.value (.func 152), _, _⟩) ?_; (apply so_call0 (fid := 152); (· (repeat (first | exact SeA.nil | apply SeA.cons (.c (.d _))))); (· exact pp); (· rfl))) | refine so_nil ?_ | refine sk_seq ?_ | refine sk_block ?_ | refine sk_blk ?_ | refine sk_exit rfl ?_ | refine sk_skip ?_ | refine sk_region ?_ | refine sk_drawQ 9 (fun _ => false) (.step 0 true (.step 2 true (.step 3 true (.step 4 true (.step 5 true (.step 1 false (.step 6 true .nil))))))) [(0, 127, 127, true), (1, 126, 127, false), (0, 127, 127, true), (0, 127, 127, true), (12, 115, 127, true), (16, 111, 127, false), (34, 93, 127, true)] (by kernel_rfl) (by kernel_rfl) ?_ | refine sk_if rfl (fun hc => ?_) (fun hc => ?_))
        all_goals first | (exfalso; omega) | skip
        refine sk_back ?_; refine ⟨k + 1, ?_, ?_, le_at rfl (by (repeat (first | exact trivial | refine ⟨(by (rfl)), ?_⟩))) (by (repeat (first | exact trivial | refine ⟨rfl, ?_⟩))) (by (repeat (first | exact trivial | refine ⟨(by ((refine row_eq rfl ?_; simp  [← List.map_set, ← sh]; done))), ?_⟩))) (by (repeat (first | exact trivial | refine ⟨.inr rfl, ?_⟩)))⟩
        · omega
        · omega
      · have sh := sumRow_miss (k := k) hp
        repeat' (first | (refine so_is (.assign _) ?_; (refine so_q (qt_asC rfl) rfl ?_)) | (refine so_is (.move _) ?_; (refine so_q (qt_mvC rfl) rfl ?_)) | (refine so_is (.binOp .lss 3 _ _ _) ?_; refine so_q (qt_lss rfl rfl) rfl ?_) | (refine so_is (.indexAddr 27 _ _) ?_; (first | refine so_q (qt_idxI rfl rfl (by kernel_rfl) (by (omega)) (by (omega))) rfl ?_ | refine so_q (qt_idx_ls rfl rfl (by kernel_rfl : tSl _ 27 1 = true) (by (omega)) (by (omega))) rfl ?_)) | (refine so_is (.load 3 _) ?_; (refine so_q (qt_load_pt rfl (by kernel_rfl) rfl) rfl ?_)) | (refine so_is (.binOp .eql 3 _ _ _) ?_; refine so_q (qt_eql rfl rfl) rfl ?_) | (refine so_is (.store 3 _ _) ?_; ((refine so_store_row rfl rfl rfl rfl (.lit _) (by simp) (by simp) (by kernel_rfl) (by (omega)) rfl ?_; simp only [St.drop]))) | (refine so_is (.binOp .add 3 _ _ _) ?_; refine so_q (qt_addI rfl rfl (by (omega))) rfl ?_) | (refine so_is (.fieldAddr 88 _ 1) ?_; (refine so_q (qt_fld_lp (off := 1) rfl (by kernel_rfl)) rfl ?_)) | (refine so_is (.load 24 _) ?_; (refine so_q (qt_load_box rfl rfl (by kernel_rfl) rfl) rfl ?_)) | (refine so_is (.buildSlice 24 1 _) ?_; (apply so_bslice (sz := 1) (by_ := 24); (· kernel_rfl); (· decide); (· (repeat (first | exact GvS.nil _ | apply GvS.c rfl rfl (.row _ _ _ _ rfl (by (assumption))) rfl))); (· (decide)); (· rfl); (· rfl); (· rfl))) | (refine so_is (.call ⟨.builtin .append, _, #[24, 24]⟩) ?_; ((apply so_appR (sz := 1) (by_ := 24); (· rfl); (· rfl); (· ((simp; done))); (· exact .row _ _ _ _ rfl (by ((simp; done)))); (· (decide)); (· kernel_rfl); (· decide); (· (omega)); (· (omega)); (· rfl); (· rfl); (· rfl)))) | (refine so_is (.store 24 _ _) ?_; (refine so_store_box1 rfl rfl rfl rfl (by kernel_rfl) rfl rfl ?_)) | (refine so_is (.call ⟨.value (.func 152), _, _⟩) ?_; (apply so_call0 (fid := 152); (· (repeat (first | exact SeA.nil | apply SeA.cons (.c (.d _))))); (· exact pp); (· rfl))) | refine so_nil ?_ | refine sk_seq ?_ | refine sk_block ?_ | refine sk_blk ?_ | refine sk_exit rfl ?_ | refine sk_skip ?_ | refine sk_region ?_ | refine sk_drawQ 9 (fun _ => false) (.step 0 true (.step 2 true (.step 3 true (.step 4 true (.step 5 true (.step 1 false (.step 6 true .nil))))))) [(0, 127, 127, true), (1, 126, 127, false), (0, 127, 127, true), (0, 127, 127, true), (12, 115, 127, true), (16, 111, 127, false), (34, 93, 127, true)] (by kernel_rfl) (by kernel_rfl) ?_ | refine sk_if rfl (fun hc => ?_) (fun hc => ?_))
        all_goals first | (exfalso; omega) | skip
        refine sk_back ?_; refine ⟨k + 1, ?_, ?_, le_at rfl (by (repeat (first | exact trivial | refine ⟨(by (rfl)), ?_⟩))) (by (repeat (first | exact trivial | refine ⟨rfl, ?_⟩))) (by (repeat (first | exact trivial | refine ⟨(by ((refine row_eq rfl ?_; simp  [← sh]; done))), ?_⟩))) (by (repeat (first | exact trivial | refine ⟨.inr rfl, ?_⟩)))⟩
        · omega
        · omega
    · have e : k = 8 := by omega
      subst e
      rw [sumRow_all]
      repeat' (first | (refine so_is (.assign _) ?_; (refine so_q (qt_asC rfl) rfl ?_)) | (refine so_is (.move _) ?_; (refine so_q (qt_mvC rfl) rfl ?_)) | (refine so_is (.binOp .lss 3 _ _ _) ?_; refine so_q (qt_lss rfl rfl) rfl ?_) | (refine so_is (.binOp .add 3 _ _ _) ?_; refine so_q (qt_addI rfl rfl (by (omega))) rfl ?_) | (refine so_is (.fieldAddr 88 _ 1) ?_; (refine so_q (qt_fld_lp (off := 1) rfl (by kernel_rfl)) rfl ?_)) | (refine so_is (.load 24 _) ?_; (refine so_q (qt_load_box rfl rfl (by kernel_rfl) rfl) rfl ?_)) | (refine so_is (.buildSlice 24 1 _) ?_; (apply so_bslice (sz := 1) (by_ := 24); (· kernel_rfl); (· decide); (· (repeat (first | exact GvS.nil _ | apply GvS.c rfl rfl (.row _ _ _ _ rfl (by (assumption))) rfl))); (· (decide)); (· rfl); (· rfl); (· rfl))) | (refine so_is (.call ⟨.builtin .append, _, #[24, 24]⟩) ?_; ((apply so_appR (sz := 1) (by_ := 24); (· rfl); (· rfl); (· ((simp; done))); (· exact .row _ _ _ _ rfl (by ((simp; done)))); (· (decide)); (· kernel_rfl); (· decide); (· (omega)); (· (omega)); (· rfl); (· rfl); (· rfl)))) | (refine so_is (.store 24 _ _) ?_; (refine so_store_box1 rfl rfl rfl rfl (by kernel_rfl) rfl rfl ?_)) | refine so_nil ?_ | refine sk_seq ?_ | refine sk_blk ?_ | refine sk_exit rfl ?_ | refine sk_region ?_ | refine sk_false rfl ?_)
      all_goals first | (exfalso; omega) | skip
      refine sk_back ?_; refine ⟨q + 1, ?_, ?_, le_at rfl (by (repeat (first | exact trivial | refine ⟨(by (rfl)), ?_⟩))) (by (repeat (first | exact trivial | refine ⟨rfl, ?_⟩))) (by (repeat (first | exact trivial | refine ⟨(by (first | (refine row_eq rfl ?_; simp  [gridF_snoc]; done) | rfl)), ?_⟩))) (by (repeat (first | exact trivial | refine ⟨.inr rfl, ?_⟩)))⟩
      · omega
      · omega
  · have e : q = 8 := by omega
    subst e
    repeat' (first | (refine so_is (.store 88 _ _) ?_; (refine so_store_box rfl rfl rfl (by kernel_rfl) rfl rfl ?_)) | (refine so_is (.move _) ?_; (refine so_q (qt_mvC rfl) rfl ?_)) | (refine so_is (.binOp .lss 3 _ _ _) ?_; refine so_q (qt_lss rfl rfl) rfl ?_) | (refine so_is (.load 88 _) ?_; (refine so_q (qt_load_boxs rfl rfl (by kernel_rfl : tAgg _ 88 2 = true) rfl) rfl ?_)) | refine so_nil ?_ | refine sk_seq ?_ | refine sk_exit rfl ?_ | refine sk_region ?_ | refine sk_false rfl ?_)
    all_goals first | (exfalso; omega) | skip
    (apply sk_ret; apply ret_eq; (· apply RetOK.p; (· (apply GvA.cons; (· (apply RV.cellN (n := 2); (· rfl); (· rfl); (· kernel_rfl); (· rfl))); (· (apply GvP.g; (· (apply GvL.cons (.lit _)); ((apply GvL.cons (.row _ _ _ _ rfl (by ((simp; done)))))); exact GvL.nil)))); exact GvA.nil); (· (decide))))
    simp

end Go.Proofs.YtefbiejoikpkmaaGreat

namespace Go.Proofs.YtefbiejoikpkmaaGreat
open Go.RowKit
set_option linter.unusedSectionVars false
variable [Glb]
set_option maxRecDepth 10000
set_option maxHeartbeats 4000000
theorem l1In_p (n lo hi : Int) : PC Tryz.prog 80 [.c (dI n), .c (dI lo), .c (dI hi)] (.p (.c (dB (inB n lo hi)))) := by
  refine pc_intro Tryz.func80 rfl rfl rfl (by kernel_rfl) rfl rfl ?_; intro _
  repeat' (first | (refine so_is (.assign _) ?_; (refine so_q (qt_asC rfl) rfl ?_)) | (refine so_is (.move _) ?_; (refine so_q (qt_mvC rfl) rfl ?_)) | (refine so_is (.binOp .geq 3 _ _ _) ?_; refine so_q (qt_geq rfl rfl) rfl ?_) | (refine so_is (.binOp .leq 3 _ _ _) ?_; refine so_q (qt_leq rfl rfl) rfl ?_) | (refine so_is (.pick _ _ _) ?_; (refine so_q (qt_pkC rfl rfl) rfl ?_)) | refine so_nil ?_ | refine so_g_no rfl rfl rfl rfl ?_ | refine so_g_yes rfl rfl rfl rfl ?_ | refine so_g_if rfl rfl (fun hg => ?_) (fun hg => ?_) | refine sk_seq ?_ | refine sk_region ?_)
  all_goals ((apply sk_ret; apply ret_eq; (· apply RetOK.p; (· (apply GvA.cons; (· exact .tmp _); (· exact GvP.c (.lit _))); exact GvA.nil); (· (decide)))))
  all_goals (simp [dB, inB, *]; try omega)

end Go.Proofs.YtefbiejoikpkmaaGreat

namespace Go.Proofs.YtefbiejoikpkmaaGreat
open Go.RowKit
set_option linter.unusedSectionVars false
variable [Glb]
set_option maxRecDepth 10000
set_option maxHeartbeats 4000000
theorem l11Row_p (n : Int) (l : List Int) : PC Tryz.prog 197 [.c (eI l), .c (dI n)] (.p (.c (dB (rowB n l)))) := by
  refine pc_intro Tryz.func197 rfl rfl rfl (by kernel_rfl) rfl rfl ?_; rintro ⟨hl, -⟩
  have hl := hl.len
  repeat' (first | (refine so_is (.assign _) ?_; (refine so_q (qt_asC rfl) rfl ?_)) | refine so_nil ?_ | refine sk_seq ?_ | refine sk_block ?_ | refine sk_region ?_)
  apply sk_packC [0, 1, 5, 6] [] rfl; (· (repeat (first | exact Pf.nil | apply Pf.cons (.c rfl (.d rfl))))); (· (repeat (exact Pb.nil)))
  refine sk_loopL [0, 1] [] (fun k => [(6, iN k), (5, iZ (sum64 (l.take k)))]) (fun _ => []) (fun k => k ≤ l.length ∧ k ≤ 9 ∧ (l.take k).all (fun m => inB m 0 n) = true) (fun k => l.length - k) (0) ?_ (by (repeat (first | exact trivial | refine ⟨(by (rfl)), ?_⟩))) (by (repeat (exact trivial))) ?_
  · simp
  rintro k ⟨hk, hk9, ha⟩
  repeat' (first | (refine so_is (.assign _) ?_; (refine so_q (qt_asC rfl) rfl ?_)) | (refine so_is (.move _) ?_; (refine so_q (qt_mvC rfl) rfl ?_)) | (refine so_is (.call ⟨.builtin .len, _, #[27]⟩) ?_; (refine so_q (qt_len_d rfl (by kernel_rfl)) rfl ?_)) | (refine so_is (.binOp .lss 3 _ _ _) ?_; refine so_q (qt_lss rfl rfl) rfl ?_) | (refine so_is (.pick _ _ _) ?_; (refine so_q (qt_pkC rfl rfl) rfl ?_)) | (refine so_is (.indexAddr 27 _ _) ?_; (refine so_q (qt_idxI rfl rfl (by kernel_rfl) (by (omega)) (by (omega))) rfl ?_)) | (refine so_is (.load 3 _) ?_; (refine so_q (qt_load_pt rfl (by kernel_rfl) rfl) rfl ?_)) | (refine so_is (.unOp .not 4 _) ?_; refine so_q (qt_not rfl) rfl ?_) | (refine so_is (.binOp .add 3 _ _ _) ?_; (first | refine so_q (qt_addI rfl rfl (by (omega))) rfl ?_ | refine so_q (qt_add rfl rfl) rfl ?_)) | (refine so_is (.binOp .eql 3 _ _ _) ?_; refine so_q (qt_eql rfl rfl) rfl ?_) | (refine so_is (.call ⟨.value (.func 80), _, _⟩) ?_; (apply so_call0 (fid := 80); (· (repeat (first | exact SeA.nil | apply SeA.cons (.c (.d _))))); (· exact l1In_p _ _ _); (· rfl))) | refine so_nil ?_ | refine so_g_no rfl rfl rfl rfl ?_ | refine so_g_yes rfl rfl rfl rfl ?_ | refine so_g_if rfl rfl (fun hg => ?_) (fun hg => ?_) | refine sk_seq ?_ | refine sk_block ?_ | refine sk_blk ?_ | refine sk_exit rfl ?_ | refine sk_skip ?_ | refine sk_region ?_ | refine sk_false rfl ?_ | refine sk_if rfl (fun hc => ?_) (fun hc => ?_) | refine sk_not rfl (fun hc => ?_) (fun hc => ?_))
  · rename_i hk'
    have hk2 : k < l.length := by omega
    rw [atZ_nat hk2] at hc
    (apply sk_ret; apply ret_eq; (· apply RetOK.p; (· (apply GvA.cons; (· exact .tmp _); (· exact GvP.c (.lit _))); exact GvA.nil); (· (decide))))
    rw [rowB, allB, all_f hk2 hc]; simp
  · rename_i hk'
    have hk2 : k < l.length := by omega
    rw [atZ_nat hk2] at hc
    refine sk_back ?_; refine ⟨k + 1, ?_, ?_, le_at rfl (by (repeat (first | exact trivial | refine ⟨(by (first | rfl | (refine int_eq rfl ?_; ((simp  [sum64_snoc hk2, atZ_nat hk2]; done))))), ?_⟩))) (by (repeat (first | exact trivial | refine ⟨rfl, ?_⟩))) (by (repeat (exact trivial))) (by (repeat (exact trivial)))⟩
    · exact ⟨by omega, by omega, by rw [take_succ_all _ _ _ hk2, ha, hc]; rfl⟩
    · omega
  all_goals (apply sk_ret; apply ret_eq; (· apply RetOK.p; (· (apply GvA.cons; (· exact .tmp _); (· exact GvP.c (.lit _))); exact GvA.nil); (· (decide))))
  all_goals simp only [rowB]
  · have h8 : l.length = 8 := by omega
    rw [List.take_of_length_le (by omega)] at *
    simp [h8, allB, ha]
  · have h8 : ¬ l.length = 8 := by omega
    simp [h8]
  · have h8 : l.length = 8 := by omega
    have hk8 : k = l.length := by omega
    rw [List.take_of_length_le (by omega)] at *
    simp [h8, allB, ha]
  · have h8 : ¬ l.length = 8 := by omega
    simp [h8]

end Go.Proofs.YtefbiejoikpkmaaGreat

namespace Go.Proofs.YtefbiejoikpkmaaGreat
open Go.RowKit
set_option linter.unusedSectionVars false
variable [Glb]
set_option maxRecDepth 10000
set_option maxHeartbeats 4000000
theorem l11Trio_p (n : Int) (ll : List (List Int)) : PC Tryz.prog 138 [.g [dI n, eII ll]] (.p (.c (dB (trioB n ll)))) := by
  refine pc_intro Tryz.func138 rfl rfl rfl (by kernel_rfl) rfl rfl ?_; rintro ⟨hl, -⟩
  have hl := (hl _ (List.mem_cons_of_mem _ (List.mem_cons_self ..))).len
  repeat' (first | (refine so_is (.box 88 _) ?_; refine so_box rfl rfl ?_) | (refine so_is (.assign _) ?_; (refine so_q (qt_asC rfl) rfl ?_)) | refine so_nil ?_ | refine sk_seq ?_ | refine sk_block ?_ | refine sk_region ?_)
  apply sk_packC [1, 3] [1] rfl; (· (repeat (first | exact Pf.nil | apply Pf.cons (.c rfl (.d rfl)) | apply Pf.cons (.c rfl (.lp rfl))))); (· (repeat (first | exact Pb.nil | (apply Pb.cons; (· apply Nb.box rfl; (repeat (first | exact Ncs.nil rfl | (apply Ncs.cons rfl; (· (exact .d rfl))))))))))
  refine sk_loopL [1] [1] (fun k => [(3, iN k)]) (fun _ => []) (fun k => k ≤ ll.length ∧ k ≤ 9 ∧ (ll.take k).all (rowB n) = true) (fun k => ll.length - k) (0) ?_ (by (repeat (first | exact trivial | refine ⟨(by (rfl)), ?_⟩))) (by (repeat (exact trivial))) ?_
  · simp
  rintro k ⟨hk, hk9, ha⟩
  repeat' (first | (refine so_is (.assign _) ?_; (refine so_q (qt_asC rfl) rfl ?_)) | (refine so_is (.move _) ?_; (refine so_q (qt_mvC rfl) rfl ?_)) | (refine so_is (.fieldAddr 88 _ 1) ?_; (refine so_q (qt_fld_lp (off := 1) rfl (by kernel_rfl)) rfl ?_)) | (refine so_is (.load 24 _) ?_; (refine so_q (qt_load_box rfl rfl (by kernel_rfl) rfl) rfl ?_)) | (refine so_is (.call ⟨.builtin .len, _, #[24]⟩) ?_; (refine so_q (qt_len_d rfl (by kernel_rfl)) rfl ?_)) | (refine so_is (.binOp .lss 3 _ _ _) ?_; refine so_q (qt_lss rfl rfl) rfl ?_) | (refine so_is (.pick _ _ _) ?_; (refine so_q (qt_pkC rfl rfl) rfl ?_)) | (refine so_is (.indexAddr 24 _ _) ?_; (refine so_q (qt_idxII rfl rfl (by kernel_rfl) (by (omega)) (by (omega))) rfl ?_)) | (refine so_is (.load 27 _) ?_; (refine so_q (qt_load_pt rfl (by kernel_rfl) rfl) rfl ?_)) | (refine so_is (.fieldAddr 88 _ 0) ?_; (refine so_q (qt_fld_lp (off := 0) rfl (by kernel_rfl)) rfl ?_)) | (refine so_is (.load 3 _) ?_; (refine so_q (qt_load_box rfl rfl (by kernel_rfl) rfl) rfl ?_)) | (refine so_is (.unOp .not 4 _) ?_; refine so_q (qt_not rfl) rfl ?_) | (refine so_is (.binOp .add 3 _ _ _) ?_; refine so_q (qt_addI rfl rfl (by (omega))) rfl ?_) | (refine so_is (.binOp .eql 3 _ _ _) ?_; refine so_q (qt_eql rfl rfl) rfl ?_) | (refine so_is (.call ⟨.value (.func 197), _, _⟩) ?_; (apply so_call0 (fid := 197); (· (repeat (first | exact SeA.nil | apply SeA.cons (.c (.d _))))); (· exact l11Row_p _ _); (· rfl))) | (refine so_is (.call ⟨.value (.func 80), _, _⟩) ?_; (apply so_call0 (fid := 80); (· (repeat (first | exact SeA.nil | apply SeA.cons (.c (.d _))))); (· exact l1In_p _ _ _); (· rfl))) | refine so_nil ?_ | refine so_g_no rfl rfl rfl rfl ?_ | refine so_g_yes rfl rfl rfl rfl ?_ | refine so_g_if rfl rfl (fun hg => ?_) (fun hg => ?_) | refine so_g_b rfl rfl (fun hg => ?_) (fun hg => ?_) | refine sk_seq ?_ | refine sk_block ?_ | refine sk_blk ?_ | refine sk_exit rfl ?_ | refine sk_skip ?_ | refine sk_region ?_ | refine sk_drawQ 4 (fun _ => false) (.step 0 true (.step 1 true (.step 2 true (.step 3 true (.step 4 true (.step 5 true (.step 6 true (.step 7 false (.step 8 true .nil))))))))) [(0, 511, 511, true), (1, 510, 511, false), (0, 511, 511, true), (6, 505, 511, true), (8, 503, 511, false), (0, 511, 511, true), (32, 479, 511, false), (80, 431, 511, false), (128, 383, 511, true)] (by kernel_rfl) (by kernel_rfl) ?_ | refine sk_false rfl ?_ | refine sk_if rfl (fun hc => ?_) (fun hc => ?_) | refine sk_not rfl (fun hc => ?_) (fun hc => ?_))
  · have hk2 : k < ll.length := by omega
    rw [atZ_nat hk2] at hc
    (apply sk_ret; apply ret_eq; (· apply RetOK.p; (· (apply GvA.cons; (· exact .tmp _); (· exact GvP.c (.lit _))); exact GvA.nil); (· (decide))))
    rw [trioB, all_f hk2 hc]; simp
  · have hk2 : k < ll.length := by omega
    rw [atZ_nat hk2] at hc
    refine sk_back ?_; refine ⟨k + 1, ?_, ?_, le_at rfl (by (repeat (first | exact trivial | refine ⟨(by (rfl)), ?_⟩))) (by (repeat (first | exact trivial | refine ⟨rfl, ?_⟩))) (by (repeat (exact trivial))) (by (repeat (first | exact trivial | refine ⟨.inr rfl, ?_⟩)))⟩
    · exact ⟨by omega, by omega, by rw [take_succ_all _ _ _ hk2, ha, hc]; rfl⟩
    · omega
  all_goals (apply sk_ret; apply ret_eq; (· apply RetOK.p; (· (apply GvA.cons; (· exact .tmp _); (· exact GvP.c (.lit _))); exact GvA.nil); (· (decide))))
  all_goals simp only [trioB]
  · have h8 : ¬ ll.length = 8 := by omega
    simp [h8]; omega
  · have h8 : inB n 1 1000 = false := by simpa using hg
    simp [h8]
  · have hk8 : k = ll.length := by omega
    rw [List.take_of_length_le (by omega)] at ha
    simp only [hg, ha, Bool.and_true, Bool.true_and]
    simp; omega
  · have h8 : inB n 1 1000 = false := by simpa using hg
    simp [h8]

end Go.Proofs.YtefbiejoikpkmaaGreat

namespace Go.Proofs.YtefbiejoikpkmaaGreat
open Go.RowKit
set_option linter.unusedSectionVars false
variable [Glb]
set_option maxRecDepth 10000
set_option maxHeartbeats 4000000
theorem l11Kept_t (n : Int) (ll : List (List Int)) : PT Tryz.prog 149 [.g [dI n, eII ll]] (.t [.g [dI (whenN (trioB n ll) n), eII (whenL (trioB n ll) ll)], .c (dB (trioB n ll))]) := by
  refine pt_intro Tryz.func149 rfl rfl rfl (by kernel_rfl) rfl rfl ?_; intro _
  repeat' (first | (refine so_is (.box 88 _) ?_; refine so_box rfl rfl ?_) | (refine so_is (.alloc 88) ?_; refine so_alloc (zs := [.int .i64 0, .slice none 0 0]) (by kernel_rfl) rfl ?_) | (refine so_is (.assign _) ?_; (refine so_q (qt_asC rfl) rfl ?_)) | (refine so_is (.load 88 _) ?_; (refine so_q (qt_load_boxs rfl rfl (by kernel_rfl : tAgg _ 88 2 = true) rfl) rfl ?_)) | (refine so_is (.unOp .not 4 _) ?_; refine so_q (qt_not rfl) rfl ?_) | (refine so_is (.build 88 _) ?_; refine so_q (qt_build (cs := [_, _]) [(0, 1), (1, 1)] [.int .i64 0, .slice none 0 0] (by kernel_rfl) (by kernel_rfl) rfl) rfl ?_) | (refine so_is (.store 88 _ _) ?_; (refine so_store_box rfl rfl rfl (by kernel_rfl) rfl rfl ?_)) | (refine so_is (.call ⟨.value (.func 138), _, _⟩) ?_; (apply so_call0 (fid := 138); (· (repeat (first | exact SeA.nil | (apply SeA.cons; (· (apply SeP.g; (repeat (first | exact SeL.nil | apply SeL.cons (.d _) | apply SeL.cons (.all _ _ _ _ rfl (by ((simp; done)))))))))))); (· exact l11Trio_p _ _); (· rfl))) | refine so_nil ?_ | refine sk_seq ?_ | refine sk_skip ?_ | refine sk_region ?_ | refine sk_not rfl (fun hc => ?_) (fun hc => ?_))
  · (apply sk_ret; apply ret_eq; (· apply RetOK.t; (· (apply GvA.cons; (· (apply RV.cellN (n := 2); (· rfl); (· rfl); (· kernel_rfl); (· rfl))); (· (apply GvP.g; (· (apply GvL.cons (.lit _)); ((apply GvL.cons (.nil 1 (by decide)))); exact GvL.nil)))); (apply GvA.cons; (· exact .tmp _); (· exact GvP.c (.lit _))); exact GvA.nil); (· rfl); (· (decide))))
    simp [hc, whenN, whenL]
  · (apply sk_ret; apply ret_eq; (· apply RetOK.t; (· (apply GvA.cons; (· (apply RV.cellN (n := 2); (· rfl); (· rfl); (· kernel_rfl); (· rfl))); (· (apply GvP.g; (· (apply GvL.cons (.lit _)); ((apply GvL.cons (.row _ _ _ _ rfl (by ((simp; done)))))); exact GvL.nil)))); (apply GvA.cons; (· exact .tmp _); (· exact GvP.c (.lit _))); exact GvA.nil); (· rfl); (· (decide))))
    simp [hc, whenN, whenL]

end Go.Proofs.YtefbiejoikpkmaaGreat

namespace Go.Proofs.YtefbiejoikpkmaaGreat
open Go.RowKit
set_option linter.unusedSectionVars false
variable [Glb]
set_option maxRecDepth 10000
set_option maxHeartbeats 4000000
theorem l2Sizes_p (x y : Int) : PC Tryz.prog 176 [.c (dI x), .c (dI y)] (.p (.c (dB (sizeB x y)))) := by
  refine pc_intro Tryz.func176 rfl rfl rfl (by kernel_rfl) rfl rfl ?_; intro _
  repeat' (first | (refine so_is (.assign _) ?_; (refine so_q (qt_asC rfl) rfl ?_)) | (refine so_is (.move _) ?_; (refine so_q (qt_mvC rfl) rfl ?_)) | (refine so_is (.pick _ _ _) ?_; (refine so_q (qt_pkC rfl rfl) rfl ?_)) | (refine so_is (.call ⟨.value (.func 80), _, _⟩) ?_; (apply so_call0 (fid := 80); (· (repeat (first | exact SeA.nil | apply SeA.cons (.c (.d _))))); (· exact l1In_p _ _ _); (· rfl))) | refine so_nil ?_ | refine so_g_no rfl rfl rfl rfl ?_ | refine so_g_yes rfl rfl rfl rfl ?_ | refine so_g_b rfl rfl (fun hg => ?_) (fun hg => ?_) | refine sk_seq ?_ | refine sk_region ?_)
  all_goals (apply sk_ret; apply ret_eq; (· apply RetOK.p; (· (apply GvA.cons; (· exact .tmp _); (· exact GvP.c (.lit _))); exact GvA.nil); (· (decide))))
  all_goals ((simp_all [sizeB]; done))

end Go.Proofs.YtefbiejoikpkmaaGreat

namespace Go.Proofs.YtefbiejoikpkmaaGreat
open Go.RowKit
set_option linter.unusedSectionVars false
variable [Glb]
set_option maxRecDepth 10000
set_option maxHeartbeats 4000000
theorem l2Four_p (l : List Int) (n : Int) : PC Tryz.prog 177 [.c (eI l), .c (dI n)] (.p (.c (dB (row4B n l)))) := by
  refine pc_intro Tryz.func177 rfl rfl rfl (by kernel_rfl) rfl rfl ?_; rintro ⟨hl, -⟩
  have hl := hl.len
  repeat' (first | (refine so_is (.assign _) ?_; (refine so_q (qt_asC rfl) rfl ?_)) | refine so_nil ?_ | refine sk_seq ?_ | refine sk_block ?_ | refine sk_region ?_)
  apply sk_packC [0, 1, 5, 6] [] rfl; (· (repeat (first | exact Pf.nil | apply Pf.cons (.c rfl (.d rfl))))); (· (repeat (exact Pb.nil)))
  refine sk_loopL [0, 1] [] (fun k => [(6, iN k), (5, iZ (sum64 (l.take k)))]) (fun _ => []) (fun k => k ≤ l.length ∧ k ≤ 5 ∧ (l.take k).all (fun m => inB m 0 n) = true) (fun k => l.length - k) (0) ?_ (by (repeat (first | exact trivial | refine ⟨(by (rfl)), ?_⟩))) (by (repeat (exact trivial))) ?_
  · simp
  rintro k ⟨hk, hk9, ha⟩
  repeat' (first | (refine so_is (.assign _) ?_; (refine so_q (qt_asC rfl) rfl ?_)) | (refine so_is (.move _) ?_; (refine so_q (qt_mvC rfl) rfl ?_)) | (refine so_is (.call ⟨.builtin .len, _, #[27]⟩) ?_; (refine so_q (qt_len_d rfl (by kernel_rfl)) rfl ?_)) | (refine so_is (.binOp .lss 3 _ _ _) ?_; refine so_q (qt_lss rfl rfl) rfl ?_) | (refine so_is (.pick _ _ _) ?_; (refine so_q (qt_pkC rfl rfl) rfl ?_)) | (refine so_is (.indexAddr 27 _ _) ?_; (refine so_q (qt_idxI rfl rfl (by kernel_rfl) (by (omega)) (by (omega))) rfl ?_)) | (refine so_is (.load 3 _) ?_; (refine so_q (qt_load_pt rfl (by kernel_rfl) rfl) rfl ?_)) | (refine so_is (.unOp .not 4 _) ?_; refine so_q (qt_not rfl) rfl ?_) | (refine so_is (.binOp .add 3 _ _ _) ?_; (first | refine so_q (qt_addI rfl rfl (by (omega))) rfl ?_ | refine so_q (qt_add rfl rfl) rfl ?_)) | (refine so_is (.binOp .eql 3 _ _ _) ?_; refine so_q (qt_eql rfl rfl) rfl ?_) | (refine so_is (.call ⟨.value (.func 80), _, _⟩) ?_; (apply so_call0 (fid := 80); (· (repeat (first | exact SeA.nil | apply SeA.cons (.c (.d _))))); (· exact l1In_p _ _ _); (· rfl))) | refine so_nil ?_ | refine so_g_no rfl rfl rfl rfl ?_ | refine so_g_yes rfl rfl rfl rfl ?_ | refine so_g_if rfl rfl (fun hg => ?_) (fun hg => ?_) | refine sk_seq ?_ | refine sk_block ?_ | refine sk_blk ?_ | refine sk_exit rfl ?_ | refine sk_skip ?_ | refine sk_region ?_ | refine sk_false rfl ?_ | refine sk_if rfl (fun hc => ?_) (fun hc => ?_) | refine sk_not rfl (fun hc => ?_) (fun hc => ?_))
  · rename_i hk'
    have hk2 : k < l.length := by omega
    rw [atZ_nat hk2] at hc
    (apply sk_ret; apply ret_eq; (· apply RetOK.p; (· (apply GvA.cons; (· exact .tmp _); (· exact GvP.c (.lit _))); exact GvA.nil); (· (decide))))
    rw [row4B, allB, all_f hk2 hc]; simp
  · rename_i hk'
    have hk2 : k < l.length := by omega
    rw [atZ_nat hk2] at hc
    refine sk_back ?_; refine ⟨k + 1, ?_, ?_, le_at rfl (by (repeat (first | exact trivial | refine ⟨(by (first | rfl | (refine int_eq rfl ?_; ((simp  [sum64_snoc hk2, atZ_nat hk2]; done))))), ?_⟩))) (by (repeat (first | exact trivial | refine ⟨rfl, ?_⟩))) (by (repeat (exact trivial))) (by (repeat (exact trivial)))⟩
    · exact ⟨by omega, by omega, by rw [take_succ_all _ _ _ hk2, ha, hc]; rfl⟩
    · omega
  all_goals (apply sk_ret; apply ret_eq; (· apply RetOK.p; (· (apply GvA.cons; (· exact .tmp _); (· exact GvP.c (.lit _))); exact GvA.nil); (· (decide))))
  all_goals simp only [row4B]
  · have h8 : l.length = 4 := by omega
    rw [List.take_of_length_le (by omega)] at *
    simp [h8, allB, ha]
  · have h8 : ¬ l.length = 4 := by omega
    simp [h8]
  · have h8 : l.length = 4 := by omega
    have hk8 : k = l.length := by omega
    rw [List.take_of_length_le (by omega)] at *
    simp [h8, allB, ha]
  · have h8 : ¬ l.length = 4 := by omega
    simp [h8]
theorem l2Box_p (x y n : Int) (ll : List (List Int)) : PC Tryz.prog 105 [.g [dI x, dI y, dI n, eII ll]] (.p (.c (dB (boxB x y n ll)))) := by
  refine pc_intro Tryz.func105 rfl rfl rfl (by kernel_rfl) rfl rfl ?_; rintro ⟨hl, -⟩
  have hl := (hl _ (List.mem_cons_of_mem _ (List.mem_cons_of_mem _ (List.mem_cons_of_mem _ (List.mem_cons_self ..))))).len
  repeat' (first | (refine so_is (.box 26 _) ?_; refine so_box rfl rfl ?_) | (refine so_is (.assign _) ?_; (refine so_q (qt_asC rfl) rfl ?_)) | (refine so_is (.fieldAddr 26 _ 0) ?_; (refine so_q (qt_fld_lp (off := 0) rfl (by kernel_rfl)) rfl ?_)) | (refine so_is (.load 3 _) ?_; (refine so_q (qt_load_box rfl rfl (by kernel_rfl) rfl) rfl ?_)) | (refine so_is (.fieldAddr 26 _ 1) ?_; (refine so_q (qt_fld_lp (off := 1) rfl (by kernel_rfl)) rfl ?_)) | (refine so_is (.unOp .not 4 _) ?_; refine so_q (qt_not rfl) rfl ?_) | (refine so_is (.move _) ?_; (refine so_q (qt_mvC rfl) rfl ?_)) | (refine so_is (.fieldAddr 26 _ 2) ?_; (refine so_q (qt_fld_lp (off := 2) rfl (by kernel_rfl)) rfl ?_)) | (refine so_is (.pick _ _ _) ?_; (refine so_q (qt_pkC rfl rfl) rfl ?_)) | (refine so_is (.fieldAddr 26 _ 3) ?_; (refine so_q (qt_fld_lp (off := 3) rfl (by kernel_rfl)) rfl ?_)) | (refine so_is (.load 24 _) ?_; (refine so_q (qt_load_box rfl rfl (by kernel_rfl) rfl) rfl ?_)) | (refine so_is (.call ⟨.builtin .len, _, #[24]⟩) ?_; (refine so_q (qt_len_d rfl (by kernel_rfl)) rfl ?_)) | (refine so_is (.binOp .mul 3 _ _ _) ?_; (refine so_q (qt_mul rfl rfl) rfl ?_)) | (refine so_is (.binOp .neq 3 _ _ _) ?_; refine so_q (qt_neq rfl rfl) rfl ?_) | (refine so_is (.call ⟨.value (.func 176), _, _⟩) ?_; (apply so_call0 (fid := 176); (· (repeat (first | exact SeA.nil | apply SeA.cons (.c (.d _))))); (· exact l2Sizes_p _ _); (· rfl))) | (refine so_is (.call ⟨.value (.func 80), _, _⟩) ?_; (apply so_call0 (fid := 80); (· (repeat (first | exact SeA.nil | apply SeA.cons (.c (.d _))))); (· exact l1In_p _ _ _); (· rfl))) | refine so_nil ?_ | refine so_g_no rfl rfl rfl rfl ?_ | refine so_g_yes rfl rfl rfl rfl ?_ | refine so_g_b rfl rfl (fun hg => ?_) (fun hg => ?_) | refine sk_seq ?_ | refine sk_block ?_ | refine sk_skip ?_ | refine sk_region ?_ | refine sk_true rfl ?_ | refine sk_if rfl (fun hc => ?_) (fun hc => ?_))
  · (apply sk_ret; apply ret_eq; (· apply RetOK.p; (· (apply GvA.cons; (· exact .tmp _); (· exact GvP.c (.lit _))); exact GvA.nil); (· (decide))))
    have h9 : sizeB x y = false := by simpa using hg
    simp [boxB, h9]
  · (apply sk_ret; apply ret_eq; (· apply RetOK.p; (· (apply GvA.cons; (· exact .tmp _); (· exact GvP.c (.lit _))); exact GvA.nil); (· (decide))))
    have h9 : inB n 1 1000 = false := by simpa using hg
    simp [boxB, h9]
  · (apply sk_ret; apply ret_eq; (· apply RetOK.p; (· (apply GvA.cons; (· exact .tmp _); (· exact GvP.c (.lit _))); exact GvA.nil); (· (decide))))
    have hs : sizeB x y = true := by simp_all
    rw [wrap_mul3 hs] at hc
    have h3 : ¬ (ll.length : Int) = x * y := by omega
    simp [boxB, h3]
  have hs : sizeB x y = true := by simp_all
  have hn : inB n 1 1000 = true := by simp_all
  have hlen : (ll.length : Int) = x * y := by rw [← wrap_mul3 hs]; omega
  apply sk_packC [1, 3] [1] rfl; (· (repeat (first | exact Pf.nil | apply Pf.cons (.c rfl (.d rfl)) | apply Pf.cons (.c rfl (.lp rfl))))); (· (repeat (first | exact Pb.nil | (apply Pb.cons; (· apply Nb.box rfl; (repeat (first | exact Ncs.nil rfl | (apply Ncs.cons rfl; (· (exact .d rfl))))))))))
  refine sk_loopL [1] [1] (fun k => [(3, iN k)]) (fun _ => []) (fun k => k ≤ ll.length ∧ (ll.take k).all (row4B n) = true) (fun k => ll.length - k) (0) ?_ (by (repeat (first | exact trivial | refine ⟨(by (rfl)), ?_⟩))) (by (repeat (exact trivial))) ?_
  · simp
  rintro k ⟨hk, ha⟩
  repeat' (first | (refine so_is (.assign _) ?_; (refine so_q (qt_asC rfl) rfl ?_)) | (refine so_is (.load 3 _) ?_; (refine so_q (qt_load_box rfl rfl (by kernel_rfl) rfl) rfl ?_)) | (refine so_is (.unOp .not 4 _) ?_; refine so_q (qt_not rfl) rfl ?_) | (refine so_is (.move _) ?_; (refine so_q (qt_mvC rfl) rfl ?_)) | (refine so_is (.fieldAddr 26 _ 2) ?_; (refine so_q (qt_fld_lp (off := 2) rfl (by kernel_rfl)) rfl ?_)) | (refine so_is (.fieldAddr 26 _ 3) ?_; (refine so_q (qt_fld_lp (off := 3) rfl (by kernel_rfl)) rfl ?_)) | (refine so_is (.load 24 _) ?_; (refine so_q (qt_load_box rfl rfl (by kernel_rfl) rfl) rfl ?_)) | (refine so_is (.call ⟨.builtin .len, _, #[24]⟩) ?_; (refine so_q (qt_len_d rfl (by kernel_rfl)) rfl ?_)) | (refine so_is (.binOp .lss 3 _ _ _) ?_; refine so_q (qt_lss rfl rfl) rfl ?_) | (refine so_is (.indexAddr 24 _ _) ?_; (refine so_q (qt_idxII rfl rfl (by kernel_rfl) (by (omega)) (by (omega))) rfl ?_)) | (refine so_is (.load 27 _) ?_; (refine so_q (qt_load_pt rfl (by kernel_rfl) rfl) rfl ?_)) | (refine so_is (.binOp .add 3 _ _ _) ?_; refine so_q (qt_addI rfl rfl (by (omega))) rfl ?_) | (refine so_is (.call ⟨.value (.func 177), _, _⟩) ?_; (apply so_call0 (fid := 177); (· (repeat (first | exact SeA.nil | apply SeA.cons (.c (.d _))))); (· exact l2Four_p _ _); (· rfl))) | refine so_nil ?_ | refine sk_seq ?_ | refine sk_block ?_ | refine sk_blk ?_ | refine sk_exit rfl ?_ | refine sk_skip ?_ | refine sk_region ?_ | refine sk_drawQ 6 (fun _ => false) (.step 0 true (.step 1 true (.step 2 true (.step 3 true (.step 4 true (.step 5 true (.step 6 true (.step 7 false (.step 8 true .nil))))))))) [(0, 511, 511, true), (1, 510, 511, false), (0, 511, 511, true), (6, 505, 511, true), (8, 503, 511, false), (0, 511, 511, true), (32, 479, 511, false), (80, 431, 511, false), (128, 383, 511, true)] (by kernel_rfl) (by kernel_rfl) ?_ | refine sk_if rfl (fun hc => ?_) (fun hc => ?_) | refine sk_not rfl (fun hc => ?_) (fun hc => ?_))
  · have hk2 : k < ll.length := by omega
    rw [atZ_nat hk2] at hc
    (apply sk_ret; apply ret_eq; (· apply RetOK.p; (· (apply GvA.cons; (· exact .tmp _); (· exact GvP.c (.lit _))); exact GvA.nil); (· (decide))))
    rw [boxB, all_f hk2 hc]; simp
  · have hk2 : k < ll.length := by omega
    rw [atZ_nat hk2] at hc
    refine sk_back ?_; refine ⟨k + 1, ?_, ?_, le_at rfl (by (repeat (first | exact trivial | refine ⟨(by (rfl)), ?_⟩))) (by (repeat (first | exact trivial | refine ⟨rfl, ?_⟩))) (by (repeat (exact trivial))) (by (repeat (first | exact trivial | refine ⟨.inr rfl, ?_⟩)))⟩
    · exact ⟨by omega, by rw [take_succ_all _ _ _ hk2, ha, hc]; rfl⟩
    · omega
  · have : k = ll.length := by omega
    subst this
    rw [List.take_length] at ha
    (apply sk_ret; apply ret_eq; (· apply RetOK.p; (· (apply GvA.cons; (· exact .tmp _); (· exact GvP.c (.lit _))); exact GvA.nil); (· (decide))))
    simp [boxB, hs, hn, hlen, ha]

end Go.Proofs.YtefbiejoikpkmaaGreat

namespace Go.Proofs.YtefbiejoikpkmaaGreat
open Go.RowKit
set_option linter.unusedSectionVars false
variable [Glb]
set_option maxRecDepth 10000
set_option maxHeartbeats 4000000
theorem l6Two_p (x y n : Int) (ll : List (List Int)) : PC Tryz.prog 148 [.g [dI x, dI y, dI n, eII ll]] (.p (.c (dB (pairB x y n ll)))) := by
  refine pc_intro Tryz.func148 rfl rfl rfl (by kernel_rfl) rfl rfl ?_; intro _
  repeat' (first | (refine so_is (.box 26 _) ?_; refine so_box rfl rfl ?_) | (refine so_is (.assign _) ?_; (refine so_q (qt_asC rfl) rfl ?_)) | (refine so_is (.load 26 _) ?_; (refine so_q (qt_load_boxs rfl rfl (by kernel_rfl : tAgg _ 26 4 = true) rfl) rfl ?_)) | (refine so_is (.move _) ?_; (refine so_q (qt_mvC rfl) rfl ?_)) | (refine so_is (.fieldAddr 26 _ 0) ?_; (refine so_q (qt_fld_lp (off := 0) rfl (by kernel_rfl)) rfl ?_)) | (refine so_is (.load 3 _) ?_; (refine so_q (qt_load_box rfl rfl (by kernel_rfl) rfl) rfl ?_)) | (refine so_is (.binOp .eql 3 _ _ _) ?_; refine so_q (qt_eql rfl rfl) rfl ?_) | (refine so_is (.pick _ _ _) ?_; (refine so_q (qt_pkC rfl rfl) rfl ?_)) | (refine so_is (.fieldAddr 26 _ 1) ?_; (refine so_q (qt_fld_lp (off := 1) rfl (by kernel_rfl)) rfl ?_)) | (refine so_is (.call ⟨.value (.func 105), _, _⟩) ?_; (apply so_call0 (fid := 105); (· (repeat (first | exact SeA.nil | (apply SeA.cons; (· (apply SeP.g; (repeat (first | exact SeL.nil | apply SeL.cons (.d _))))))))); (· exact l2Box_p _ _ _ _); (· rfl))) | refine so_nil ?_ | refine so_g_no rfl rfl rfl rfl ?_ | refine so_g_yes rfl rfl rfl rfl ?_ | refine so_g_if rfl rfl (fun hg => ?_) (fun hg => ?_) | refine so_g_b rfl rfl (fun hg => ?_) (fun hg => ?_) | refine sk_seq ?_ | refine sk_region ?_)
  all_goals (apply sk_ret; apply ret_eq; (· apply RetOK.p; (· (apply GvA.cons; (· exact .tmp _); (· exact GvP.c (.lit _))); exact GvA.nil); (· (decide))))
  all_goals ((simp_all [pairB]; done))

end Go.Proofs.YtefbiejoikpkmaaGreat

namespace Go.Proofs.YtefbiejoikpkmaaGreat
open Go.RowKit
set_option linter.unusedSectionVars false
variable [Glb]
set_option maxRecDepth 10000
set_option maxHeartbeats 4000000
theorem spAddThird_p (x y n : Int) (ll : List (List Int)) (ch : List Int) (most : Int) : PC Tryz.prog 63 [.g [dI x, dI y, dI n, eII ll], .c (eI ch), .c (dI most)]
    (.t [.g [dI (whenN (thirdOK x y n ll ch most) (n * most)), eII (whenL (thirdOK x y n ll ch most) (gridF (thirdF ll ch most) 8 8))], .c (dB (thirdOK x y n ll ch most))]) := by
  cases hB : thirdB x y n ll ch most with
  | false =>
    have hO : thirdOK x y n ll ch most = false := by simp [thirdOK, hB]
    refine pc_intro Tryz.func63 rfl rfl rfl (by kernel_rfl) rfl rfl ?_; intro _
    have hc2 : (ch.length : Int) = 2 → _ := fun h => chances2 (ch := ch) (m := most) (by omega)
    repeat' (first | (refine so_is (.box 26 _) ?_; refine so_box rfl rfl ?_) | (refine so_is (.alloc 88) ?_; refine so_alloc (zs := [.int .i64 0, .slice none 0 0]) (by kernel_rfl) rfl ?_) | (refine so_is (.assign _) ?_; (refine so_q (qt_asC rfl) rfl ?_)) | (refine so_is (.load 26 _) ?_; (refine so_q (qt_load_boxs rfl rfl (by kernel_rfl : tAgg _ 26 4 = true) rfl) rfl ?_)) | (refine so_is (.unOp .not 4 _) ?_; refine so_q (qt_not rfl) rfl ?_) | (refine so_is (.move _) ?_; (refine so_q (qt_mvC rfl) rfl ?_)) | (refine so_is (.pick _ _ _) ?_; (refine so_q (qt_pkC rfl rfl) rfl ?_)) | (refine so_is (.call ⟨.builtin .len, _, #[27]⟩) ?_; (refine so_q (qt_len_d rfl (by kernel_rfl)) rfl ?_)) | (refine so_is (.binOp .neq 3 _ _ _) ?_; refine so_q (qt_neq rfl rfl) rfl ?_) | (refine so_is (.indexAddr 27 _ _) ?_; (refine so_q (qt_idxI rfl rfl (by kernel_rfl) (by (omega)) (by (omega))) rfl ?_)) | (refine so_is (.load 3 _) ?_; (first | refine so_q (qt_load_box rfl rfl (by kernel_rfl) rfl) rfl ?_ | refine so_q (qt_load_pt rfl (by kernel_rfl) rfl) rfl ?_)) | (refine so_is (.build 88 _) ?_; refine so_q (qt_build (cs := [_, _]) [(0, 1), (1, 1)] [.int .i64 0, .slice none 0 0] (by kernel_rfl) (by kernel_rfl) rfl) rfl ?_) | (refine so_is (.store 88 _ _) ?_; (refine so_store_box rfl rfl rfl (by kernel_rfl) rfl rfl ?_)) | (refine so_is (.fieldAddr 26 _ 2) ?_; (refine so_q (qt_fld_lp (off := 2) rfl (by kernel_rfl)) rfl ?_)) | (refine so_is (.call ⟨.value (.func 148), _, _⟩) ?_; (apply so_call0 (fid := 148); (· (repeat (first | exact SeA.nil | (apply SeA.cons; (· (apply SeP.g; (repeat (first | exact SeL.nil | apply SeL.cons (.d _))))))))); (· exact l6Two_p _ _ _ _); (· rfl))) | (refine so_is (.call ⟨.value (.func 80), _, _⟩) ?_; (apply so_call0 (fid := 80); (· (repeat (first | exact SeA.nil | apply SeA.cons (.c (.d _))))); (· exact l1In_p _ _ _); (· rfl))) | refine so_nil ?_ | refine so_g_no rfl rfl rfl rfl ?_ | refine so_g_yes rfl rfl rfl rfl ?_ | refine so_g_if rfl rfl (fun hg => ?_) (fun hg => ?_) | refine so_g_b rfl rfl (fun hg => ?_) (fun hg => ?_) | refine sk_seq ?_ | refine sk_skip ?_ | refine sk_region ?_ | refine sk_true rfl ?_ | refine sk_not rfl (fun hc => ?_) (fun hc => ?_))
    all_goals first | (exfalso; simp_all [thirdB]; done) | skip
    all_goals (apply sk_ret; apply ret_eq; (· apply RetOK.t; (· (apply GvA.cons; (· (apply RV.cellN (n := 2); (· rfl); (· rfl); (· kernel_rfl); (· rfl))); (· (apply GvP.g; (· (apply GvL.cons (.lit _)); ((apply GvL.cons (.nil 1 (by decide)))); exact GvL.nil)))); (apply GvA.cons; (· exact .tmp _); (· exact GvP.c (.lit _))); exact GvA.nil); (· rfl); (· (decide))))
    all_goals simp [hO, whenN, whenL]
  | true =>
    have h4 := thirdB_spec hB
    have p1 := h4.p1
    have p2 := h4.p2
    have cl := h4.cl
    have hc2 := chances2 (ch := ch) (m := most) cl
    have tm := fun (q k : Nat) hq hk => third_mul h4 (q := q) (k := k) hq hk
    have x2 := h4.x2
    have y2 := h4.y2
    have m1 := h4.m1
    have m2 := h4.m2
    have hll := (boxB_spec h4.box).len
    subst x2 y2
    refine pc_intro Tryz.func63 rfl rfl rfl (by kernel_rfl) rfl rfl ?_; intro _
    repeat' (first | (refine so_is (.box 26 _) ?_; refine so_box rfl rfl ?_) | (refine so_is (.alloc 88) ?_; refine so_alloc (zs := [.int .i64 0, .slice none 0 0]) (by kernel_rfl) rfl ?_) | (refine so_is (.assign _) ?_; (refine so_q (qt_asC rfl) rfl ?_)) | (refine so_is (.load 26 _) ?_; (refine so_q (qt_load_boxs rfl rfl (by kernel_rfl : tAgg _ 26 4 = true) rfl) rfl ?_)) | (refine so_is (.unOp .not 4 _) ?_; refine so_q (qt_not rfl) rfl ?_) | (refine so_is (.move _) ?_; (refine so_q (qt_mvC rfl) rfl ?_)) | (refine so_is (.pick _ _ _) ?_; (refine so_q (qt_pkC rfl rfl) rfl ?_)) | (refine so_is (.call ⟨.builtin .len, _, #[27]⟩) ?_; (refine so_q (qt_len_d rfl (by kernel_rfl)) rfl ?_)) | (refine so_is (.binOp .neq 3 _ _ _) ?_; refine so_q (qt_neq rfl rfl) rfl ?_) | (refine so_is (.indexAddr 27 _ _) ?_; (refine so_q (qt_idxI rfl rfl (by kernel_rfl) (by (omega)) (by (omega))) rfl ?_)) | (refine so_is (.load 3 _) ?_; (first | refine so_q (qt_load_box rfl rfl (by kernel_rfl) rfl) rfl ?_ | refine so_q (qt_load_pt rfl (by kernel_rfl) rfl) rfl ?_)) | (refine so_is (.build 88 _) ?_; refine so_q (qt_build (cs := [_, _]) [(0, 1), (1, 1)] [.int .i64 0, .slice none 0 0] (by kernel_rfl) (by kernel_rfl) rfl) rfl ?_) | (refine so_is (.store 88 _ _) ?_; (refine so_store_box rfl rfl rfl (by kernel_rfl) rfl rfl ?_)) | (refine so_is (.fieldAddr 26 _ 2) ?_; (refine so_q (qt_fld_lp (off := 2) rfl (by kernel_rfl)) rfl ?_)) | (refine so_is (.binOp .mul 3 _ _ _) ?_; refine so_q (qt_mulI rfl rfl (by (omega))) rfl ?_) | (refine so_is (.buildSlice 24 0 _) ?_; (apply so_bslice (sz := 1) (by_ := 24); (· kernel_rfl); (· decide); (· (repeat (exact GvS.nil _))); (· (decide)); (· rfl); (· rfl); (· rfl))) | (refine so_is (.call ⟨.value (.func 148), _, _⟩) ?_; (apply so_call0 (fid := 148); (· (repeat (first | exact SeA.nil | (apply SeA.cons; (· (apply SeP.g; (repeat (first | exact SeL.nil | apply SeL.cons (.d _))))))))); (· exact l6Two_p _ _ _ _); (· rfl))) | (refine so_is (.call ⟨.value (.func 80), _, _⟩) ?_; (apply so_call0 (fid := 80); (· (repeat (first | exact SeA.nil | apply SeA.cons (.c (.d _))))); (· exact l1In_p _ _ _); (· rfl))) | refine so_nil ?_ | refine so_g_no rfl rfl rfl rfl ?_ | refine so_g_yes rfl rfl rfl rfl ?_ | refine so_g_if rfl rfl (fun hg => ?_) (fun hg => ?_) | refine so_g_b rfl rfl (fun hg => ?_) (fun hg => ?_) | refine sk_seq ?_ | refine sk_block ?_ | refine sk_skip ?_ | refine sk_region ?_ | refine sk_true rfl ?_ | refine sk_not rfl (fun hc => ?_) (fun hc => ?_))
    all_goals first | (exfalso; simp_all [thirdB]; done) | skip
    apply sk_packC [1, 2, 3, 6, 8, 9] [3, 6, 8, 47, 53, 86, 87, 91, 92, 1095] rfl; (· (repeat (first | exact Pf.nil | apply Pf.cons (.c rfl (.d rfl)) | apply Pf.cons (.c rfl (.lp rfl))))); (· (repeat (first | exact Pb.nil | apply Pb.cons (.row rfl) | (apply Pb.cons; (· apply Nb.box rfl; (repeat (first | exact Ncs.nil rfl | (apply Ncs.cons rfl; (· (first | exact .d rfl | exact .ls rfl))))))) | apply Pb.skip)))
    refine sk_loopL [1, 2, 3, 6, 8] [3, 6, 53, 86, 87, 91, 92, 1095] (fun q => [(9, iN q)]) (fun q => [(8, .box [.d (dI (n * most)), .ls 47 1 0 q]), (47, .row 1 (cII (gridF (thirdF ll ch most) q 8)))]) (fun q => q ≤ 8) (fun q => 8 - q) (0) ?_ (by (repeat (first | exact trivial | refine ⟨(by (rfl)), ?_⟩))) (by (repeat (first | exact trivial | refine ⟨(by (first | (refine row_eq rfl ?_; simp  [gridF]; done) | (refine box_eq rfl ?_; simp  [gridF]; done))), ?_⟩))) ?_
    · omega
    intro q hq
    have tm := tm q
    by_cases hq8 : q < 8
    · repeat' (first | (refine so_is (.assign _) ?_; (refine so_q (qt_asC rfl) rfl ?_)) | (refine so_is (.move _) ?_; (refine so_q (qt_mvC rfl) rfl ?_)) | (refine so_is (.binOp .lss 3 _ _ _) ?_; refine so_q (qt_lss rfl rfl) rfl ?_) | (refine so_is (.buildSlice 27 0 _) ?_; (apply so_bslice (sz := 1) (by_ := 8); (· kernel_rfl); (· decide); (· (repeat (exact GvS.nil _))); (· (decide)); (· rfl); (· rfl); (· rfl))) | (refine so_is (.load 88 _) ?_; (refine so_q (qt_load_boxs rfl rfl (by kernel_rfl : tAgg _ 88 2 = true) rfl) rfl ?_)) | refine so_nil ?_ | refine sk_seq ?_ | refine sk_block ?_ | refine sk_exit rfl ?_ | refine sk_skip ?_ | refine sk_region ?_ | refine sk_if rfl (fun hc => ?_) (fun hc => ?_))
      · apply sk_packC [1, 2, 3, 6, 8, 9, 10, 11] [3, 6, 8, 47, 53, 86, 87, 91, 92, 1095] rfl; (· (repeat (first | exact Pf.nil | apply Pf.cons (.c rfl (.d rfl)) | apply Pf.cons (.c rfl (.ls rfl)) | apply Pf.cons (.c rfl (.lp rfl))))); (· (repeat (first | exact Pb.nil | apply Pb.cons (.row rfl) | (apply Pb.cons; (· apply Nb.box rfl; (repeat (first | exact Ncs.nil rfl | (apply Ncs.cons rfl; (· (first | exact .d rfl | exact .ls rfl))))))) | apply Pb.skip)))
        refine sk_loopL [1, 2, 3, 6, 8, 9] [3, 6, 47, 8, 86, 87, 91, 92, 1095] (fun k => [(11, iN k), (10, .c (.ls 53 1 0 k))]) (fun k => [(53, .row 1 (cI (rowF (thirdF ll ch most q) k)))]) (fun k => k ≤ 8) (fun k => 8 - k) (0) ?_ (by (repeat (first | exact trivial | refine ⟨(by (rfl)), ?_⟩))) (by (repeat (first | exact trivial | refine ⟨(by ((refine row_eq rfl ?_; simp  [rowF]; done))), ?_⟩))) ?_
        · omega
        intro k hk
        by_cases hk8 : k < 8
        · have tm := tm k hq8 hk8
          have rs := rowF_snoc (thirdF ll ch most q) k
          repeat' (first | (refine so_is (.assign _) ?_; (refine so_q (qt_asC rfl) rfl ?_)) | (refine so_is (.move _) ?_; (refine so_q (qt_mvC rfl) rfl ?_)) | (refine so_is (.indexAddr 27 _ _) ?_; (refine so_q (qt_idxI rfl rfl (by kernel_rfl) (by (omega)) (by (omega))) rfl ?_)) | (refine so_is (.load 3 _) ?_; (refine so_q (qt_load_pt rfl (by kernel_rfl) rfl) rfl ?_)) | (refine so_is (.binOp .mul 3 _ _ _) ?_; refine so_q (qt_mulI rfl rfl (by (omega))) rfl ?_) | (refine so_is (.binOp .lss 3 _ _ _) ?_; refine so_q (qt_lss rfl rfl) rfl ?_) | (refine so_is (.binOp .and 3 _ _ _) ?_; refine so_q (qt_andM 1 (c := 2) rfl rfl (by decide)) rfl ?_) | (refine so_is (.binOp .sub 3 _ _ _) ?_; refine so_q (qt_subI rfl rfl (by (omega))) rfl ?_) | (refine so_is (.binOp .eql 3 _ _ _) ?_; refine so_q (qt_eql rfl rfl) rfl ?_) | (refine so_is (.fieldAddr 26 _ 3) ?_; (refine so_q (qt_fld_lp (off := 3) rfl (by kernel_rfl)) rfl ?_)) | (refine so_is (.load 24 _) ?_; (refine so_q (qt_load_box rfl rfl (by kernel_rfl) rfl) rfl ?_)) | (refine so_is (.binOp .shr 3 _ _ _) ?_; refine so_q (qt_shrC (c := 2) rfl rfl (by decide)) rfl ?_) | (refine so_is (.indexAddr 24 _ _) ?_; (refine so_q (qt_idxII rfl rfl (by kernel_rfl) (by (omega)) (by (omega))) rfl ?_)) | (refine so_is (.load 27 _) ?_; (refine so_q (qt_load_pt rfl (by kernel_rfl) rfl) rfl ?_)) | (refine so_is (.buildSlice 27 1 _) ?_; (apply so_bslice (sz := 1) (by_ := 8); (· kernel_rfl); (· decide); (· (repeat (first | exact GvS.nil _ | apply GvS.c rfl rfl (.lit _) rfl))); (· (decide)); (· rfl); (· rfl); (· rfl))) | (refine so_is (.call ⟨.builtin .append, _, #[27, 27]⟩) ?_; ((apply so_appR (sz := 1) (by_ := 8); (· rfl); (· rfl); (· ((simp; done))); (· exact .row _ _ _ _ rfl (by ((simp; done)))); (· (decide)); (· kernel_rfl); (· decide); (· (omega)); (· (omega)); (· rfl); (· rfl); (· rfl)))) | (refine so_is (.binOp .add 3 _ _ _) ?_; refine so_q (qt_addI rfl rfl (by (omega))) rfl ?_) | (refine so_is (.fieldAddr 88 _ 1) ?_; (refine so_q (qt_fld_lp (off := 1) rfl (by kernel_rfl)) rfl ?_)) | (refine so_is (.buildSlice 24 1 _) ?_; (apply so_bslice (sz := 1) (by_ := 24); (· kernel_rfl); (· decide); (· (repeat (first | exact GvS.nil _ | apply GvS.c rfl rfl (.row _ _ _ _ rfl (by ((simp; done)))) rfl))); (· (decide)); (· rfl); (· rfl); (· rfl))) | (refine so_is (.call ⟨.builtin .append, _, #[24, 24]⟩) ?_; ((apply so_appR (sz := 1) (by_ := 24); (· rfl); (· rfl); (· ((simp; done))); (· exact .row _ _ _ _ rfl (by ((simp; done)))); (· (decide)); (· kernel_rfl); (· decide); (· (omega)); (· (omega)); (· rfl); (· rfl); (· rfl)))) | (refine so_is (.store 24 _ _) ?_; (refine so_store_box1 rfl rfl rfl rfl (by kernel_rfl) rfl rfl ?_)) | refine so_nil ?_ | refine sk_seq ?_ | refine sk_block ?_ | refine sk_blk ?_ | refine sk_exit rfl ?_ | refine sk_skip ?_ | refine sk_region ?_ | refine sk_if rfl (fun hc => ?_) (fun hc => ?_))
          · have h1 : ¬ (k : Int) % 2 = 0 := by omega
            refine sk_back ?_; refine ⟨k + 1, ?_, ?_, le_at rfl (by (repeat (first | exact trivial | refine ⟨(by (rfl)), ?_⟩))) (by (repeat (first | exact trivial | refine ⟨rfl, ?_⟩))) (by (repeat (first | exact trivial | refine ⟨(by ((refine row_eq rfl ?_; simp  [rs, thirdF, h1]; done))), ?_⟩))) (by (repeat (first | exact trivial | refine ⟨.inr rfl, ?_⟩)))⟩
            · omega
            · omega
          · have h1 : (k : Int) % 2 = 0 := by omega
            refine sk_back ?_; refine ⟨k + 1, ?_, ?_, le_at rfl (by (repeat (first | exact trivial | refine ⟨(by (rfl)), ?_⟩))) (by (repeat (first | exact trivial | refine ⟨rfl, ?_⟩))) (by (repeat (first | exact trivial | refine ⟨(by ((refine row_eq rfl ?_; simp  [rs, thirdF, h1]; done))), ?_⟩))) (by (repeat (first | exact trivial | refine ⟨.inr rfl, ?_⟩)))⟩
            · omega
            · omega
          · exfalso; omega
        · have h8 : k = 8 := by omega
          subst h8
          repeat' (first | (refine so_is (.assign _) ?_; (refine so_q (qt_asC rfl) rfl ?_)) | (refine so_is (.move _) ?_; (refine so_q (qt_mvC rfl) rfl ?_)) | (refine so_is (.binOp .lss 3 _ _ _) ?_; refine so_q (qt_lss rfl rfl) rfl ?_) | (refine so_is (.load 24 _) ?_; (refine so_q (qt_load_box rfl rfl (by kernel_rfl) rfl) rfl ?_)) | (refine so_is (.binOp .add 3 _ _ _) ?_; refine so_q (qt_addI rfl rfl (by (omega))) rfl ?_) | (refine so_is (.fieldAddr 88 _ 1) ?_; (refine so_q (qt_fld_lp (off := 1) rfl (by kernel_rfl)) rfl ?_)) | (refine so_is (.buildSlice 24 1 _) ?_; (apply so_bslice (sz := 1) (by_ := 24); (· kernel_rfl); (· decide); (· (repeat (first | exact GvS.nil _ | apply GvS.c rfl rfl (.row _ _ _ _ rfl (by ((simp; done)))) rfl))); (· (decide)); (· rfl); (· rfl); (· rfl))) | (refine so_is (.call ⟨.builtin .append, _, #[24, 24]⟩) ?_; ((apply so_appR (sz := 1) (by_ := 24); (· rfl); (· rfl); (· ((simp; done))); (· exact .row _ _ _ _ rfl (by ((simp; done)))); (· (decide)); (· kernel_rfl); (· decide); (· (omega)); (· (omega)); (· rfl); (· rfl); (· rfl)))) | (refine so_is (.store 24 _ _) ?_; (refine so_store_box1 rfl rfl rfl rfl (by kernel_rfl) rfl rfl ?_)) | refine so_nil ?_ | refine sk_seq ?_ | refine sk_blk ?_ | refine sk_exit rfl ?_ | refine sk_region ?_ | refine sk_false rfl ?_)
          all_goals first | (exfalso; omega) | skip
          · refine sk_back ?_; refine ⟨q + 1, ?_, ?_, le_at rfl (by (repeat (first | exact trivial | refine ⟨(by (rfl)), ?_⟩))) (by (repeat (first | exact trivial | refine ⟨rfl, ?_⟩))) (by (repeat (first | exact trivial | refine ⟨(by (first | (refine row_eq rfl ?_; simp  [gridF_snoc]; done) | rfl)), ?_⟩))) (by (repeat (first | exact trivial | refine ⟨.inr rfl, ?_⟩)))⟩
            · omega
            · omega
      · exfalso; omega
    · have h8 : q = 8 := by omega
      subst h8
      have hB' := hB
      have kt := l11Kept_t (n * most) (gridF (thirdF ll ch most) 8 8)
      unfold eII at kt
      rw [gridF_len] at kt
      repeat' (first | (refine so_is (.assign _) ?_; (refine so_q (qt_asC rfl) rfl ?_)) | (refine so_is (.move _) ?_; (refine so_q (qt_mvC rfl) rfl ?_)) | (refine so_is (.store 88 _ _) ?_; (refine so_store_box rfl rfl rfl (by kernel_rfl) rfl rfl ?_)) | (refine so_is (.binOp .lss 3 _ _ _) ?_; refine so_q (qt_lss rfl rfl) rfl ?_) | (refine so_is (.load 88 _) ?_; (refine so_q (qt_load_boxs rfl rfl (by kernel_rfl : tAgg _ 88 2 = true) rfl) rfl ?_)) | (refine so_is (.extract _ _) ?_; refine so_q (qt_extract rfl rfl) rfl ?_) | (refine so_is (.call ⟨.value (.func 149), _, _⟩) ?_; (apply so_callT (fid := 149); (· (repeat (first | exact ArgM.nil | (apply ArgM.g rfl; (· (repeat (first | exact GvM.nil | apply GvM.cons (.lit _) | apply GvM.cons (.row _ _ _ _ rfl (by ((simp; done))))))))))); (· (decide)); (· exact kt); (· rfl); (· rfl); (· rfl))) | refine so_nil ?_ | refine sk_seq ?_ | refine sk_exit rfl ?_ | refine sk_region ?_ | refine sk_false rfl ?_)
      all_goals first | (exfalso; omega) | skip
      · (apply sk_ret; apply ret_eq; (· apply RetOK.t; (· (apply GvA.cons; (· (apply RV.cellN (n := 2); (· rfl); (· rfl); (· kernel_rfl); (· rfl))); (· (apply GvP.g; (· (apply GvL.cons (.lit _)); ((apply GvL.cons (.row _ _ _ _ rfl (by ((simp; done)))))); exact GvL.nil)))); (apply GvA.cons; (· exact .tmp _); (· exact GvP.c (.lit _))); exact GvA.nil); (· rfl); (· (decide))))
        simp_all [thirdOK, whenN, whenL]

end Go.Proofs.YtefbiejoikpkmaaGreat

namespace Go.Proofs.YtefbiejoikpkmaaGreat
open Go.RowKit
set_option linter.unusedSectionVars false
variable [Glb]
set_option maxRecDepth 10000
set_option maxHeartbeats 4000000
theorem l11Turned_p (k : Nat) (h : k < 8) : PC Tryz.prog 223 [.c (dI k)] (.p (.c (dI (turnI k : Int)))) := by
  refine pc_intro Tryz.func223 rfl rfl rfl (by kernel_rfl) rfl rfl ?_; intro _
  repeat' (first | (refine so_is (.assign _) ?_; (refine so_q (qt_asC rfl) rfl ?_)) | (refine so_is (.move _) ?_; (refine so_q (qt_mvC rfl) rfl ?_)) | (refine so_is (.binOp .shr 3 _ _ _) ?_; refine so_q (qt_shrC (c := 2) rfl rfl (by decide)) rfl ?_) | (refine so_is (.binOp .and 3 _ _ _) ?_; refine so_q (qt_andM 1 (c := 2) rfl rfl (by decide)) rfl ?_) | (refine so_is (.binOp .shl 3 _ _ _) ?_; refine so_q (qt_shlC (c := 4) rfl rfl (by decide) (by (omega))) rfl ?_) | (refine so_is (.binOp .add 3 _ _ _) ?_; refine so_q (qt_addI rfl rfl (by (omega))) rfl ?_) | refine so_nil ?_ | refine sk_seq ?_ | refine sk_region ?_)
  · (apply sk_ret; apply ret_eq; (· apply RetOK.p; (· (apply GvA.cons; (· exact .tmp _); (· exact GvP.c (.lit _))); exact GvA.nil); (· (decide))))
    simp [turnI]

end Go.Proofs.YtefbiejoikpkmaaGreat

namespace Go.Proofs.YtefbiejoikpkmaaGreat
open Go.RowKit
set_option linter.unusedSectionVars false
variable [Glb]
set_option maxRecDepth 10000
set_option maxHeartbeats 4000000
theorem spTurnTrio_p (wh : Int) (ll : List (List Int)) : PC Tryz.prog 195 [.g [dI wh, eII ll]] (.t [.g [dI (whenN (trioB wh ll) wh), eII (whenL (trioB wh ll) (gridF (turnF ll) 8 8))], .c (dB (trioB wh ll))]) := by
  refine pc_intro Tryz.func195 rfl rfl rfl (by kernel_rfl) rfl rfl ?_; intro _
  repeat' (first | (with_reducible apply so_lt) | intro Y hY | ((with_reducible apply so_j2); (· assumption); (· rfl); (· exact (by (repeat (first | exact trivial | refine ⟨rfl, ?_⟩)))); (· exact (by (repeat (first | exact trivial | refine ⟨rfl, ?_⟩))))) | ((with_reducible apply so_j1); (· rfl); (· (repeat (first | exact Pf.nil | apply Pf.cons (.c rfl (.lp rfl)) | (apply Pf.cons; (· apply Nv.g rfl; (repeat (first | exact Ncs.nil rfl | (apply Ncs.cons rfl; (· (first | exact .d rfl | exact .ls rfl)))))))))); (· (repeat (first | exact Pb.nil | apply Pb.cons (.row rfl) | (apply Pb.cons; (· apply Nb.box rfl; (repeat (first | exact Ncs.nil rfl | (apply Ncs.cons rfl; (· (exact .d rfl)))))))))); (· assumption)) | refine so_alt ?_ ?_ | (refine so_is (.box 88 _) ?_; refine so_box rfl rfl ?_) | (refine so_is (.alloc 88) ?_; refine so_alloc (zs := [.int .i64 0, .slice none 0 0]) (by kernel_rfl) rfl ?_) | (refine so_is (.assign _) ?_; (refine so_q (qt_asC rfl) rfl ?_)) | (refine so_is (.load 88 _) ?_; (refine so_q (qt_load_boxs rfl rfl (by kernel_rfl : tAgg _ 88 2 = true) rfl) rfl ?_)) | (refine so_is (.unOp .not 4 _) ?_; refine so_q (qt_not rfl) rfl ?_) | (refine so_is (.build 88 _) ?_; refine so_q (qt_build (cs := [_, _]) [(0, 1), (1, 1)] [.int .i64 0, .slice none 0 0] (by kernel_rfl) (by kernel_rfl) rfl) rfl ?_) | (refine so_is (.store 88 _ _) ?_; (refine so_store_box rfl rfl rfl (by kernel_rfl) rfl rfl ?_)) | (refine so_is (.fieldAddr 88 _ 0) ?_; (refine so_q (qt_fld_lp (off := 0) rfl (by kernel_rfl)) rfl ?_)) | (refine so_is (.load 3 _) ?_; (refine so_q (qt_load_box rfl rfl (by kernel_rfl) rfl) rfl ?_)) | (refine so_is (.makeSlice 24 _ _) ?_; (refine so_make (by_ := 24) (z := .slice none 0 0) (y := .sl 1 0 []) rfl rfl (by kernel_rfl) (by kernel_rfl) rfl (fun _ => .nil _ (by decide)) (by (omega)) (by (omega)) (by (omega)) rfl ?_)) | (refine so_is (.call ⟨.value (.func 138), _, _⟩) ?_; (apply so_call0 (fid := 138); (· (repeat (first | exact SeA.nil | (apply SeA.cons; (· (apply SeP.g; (repeat (first | exact SeL.nil | apply SeL.cons (.d _))))))))); (· exact l11Trio_p _ _); (· rfl))) | refine so_nil ?_ | refine sk_seq ?_ | refine sk_block ?_ | refine sk_skip ?_ | refine sk_region ?_ | refine sk_drawQ 3 (fun i => i == 5) (IT.lt (.step 5 false .nil) fun Y0 => (.step 0 true (.step 1 true (.alt 3 (.step 2 false (.step 3 true (.step 4 false (IT.ref true [1, 2, 4, 15] [1, 2, 14, 4] Y0)))) (.step 4 false (.step 2 false (.step 3 true (IT.ref false [1, 2, 4, 15] [1, 2, 14, 4] Y0)))))))) [(0, 63, 63, true), (1, 62, 63, false), (0, 63, 63, false), (6, 57, 63, true), (0, 63, 63, false), (31, 39, 63, false)] (by kernel_rfl) (by kernel_rfl) ?_ | refine sk_not rfl (fun hc => ?_) (fun hc => ?_))
  · (apply sk_ret; apply ret_eq; (· apply RetOK.t; (· (apply GvA.cons; (· (apply RV.cellN (n := 2); (· rfl); (· rfl); (· kernel_rfl); (· rfl))); (· (apply GvP.g; (· (apply GvL.cons (.lit _)); ((apply GvL.cons (.nil 1 (by decide)))); exact GvL.nil)))); (apply GvA.cons; (· exact .tmp _); (· exact GvP.c (.lit _))); exact GvA.nil); (· rfl); (· (decide))))
    simp [hc, whenN, whenL]
  all_goals
    have hT := hc
    have h8 := (trioB_spec hT).2.2.1
    have hrow := fun (q : Int) h0 h1 => (trioB_at hT (q := q) h0 h1).1
    apply sk_packC [1, 2, 4, 5] [1, 2, 4, 14, 20] rfl; (· (repeat (first | exact Pf.nil | apply Pf.cons (.c rfl (.d rfl)) | apply Pf.cons (.c rfl (.lp rfl))))); (· (repeat (first | exact Pb.nil | apply Pb.cons (.row rfl) | (apply Pb.cons; (· apply Nb.box rfl; (repeat (first | exact Ncs.nil rfl | (apply Ncs.cons rfl; (· (first | exact .d rfl | exact .ls rfl))))))) | apply Pb.skip)))
    refine sk_loopL [1, 2, 4] [1, 2, 4, 20] (fun q => [(5, iN q)]) (fun q => [(14, .row 1 (cII (turnL [] (fun i => rowF (turnF ll i) 8) q)))]) (fun q => q ≤ 8) (fun q => 8 - q) (0) ?_ (by (repeat (first | exact trivial | refine ⟨(by (rfl)), ?_⟩))) (by (repeat (first | exact trivial | refine ⟨(by ((refine row_eq rfl ?_; simp  [turnL_zero]; done))), ?_⟩))) ?_
    · simp
    intro q hq
    have hL := turnL_len ([] : List Int) (fun i => rowF (turnF ll i) 8) q
    have hro := fun h => hrow q (by omega) h
    repeat' (first | (refine so_is (.assign _) ?_; (refine so_q (qt_asC rfl) rfl ?_)) | (refine so_is (.load 88 _) ?_; (refine so_q (qt_load_boxs rfl rfl (by kernel_rfl : tAgg _ 88 2 = true) rfl) rfl ?_)) | (refine so_is (.store 88 _ _) ?_; (refine so_store_box rfl rfl rfl (by kernel_rfl) rfl rfl ?_)) | (refine so_is (.move _) ?_; (refine so_q (qt_mvC rfl) rfl ?_)) | (refine so_is (.binOp .lss 3 _ _ _) ?_; refine so_q (qt_lss rfl rfl) rfl ?_) | (refine so_is (.makeSlice 27 _ _) ?_; (refine so_make (by_ := 8) (z := .int .i64 0) (y := .lit (.int .i64 0)) rfl rfl (by kernel_rfl) (by kernel_rfl) rfl (fun _ => .lit _ rfl) (by (omega)) (by (omega)) (by (omega)) rfl ?_)) | refine so_nil ?_ | refine sk_seq ?_ | refine sk_block ?_ | refine sk_exit rfl ?_ | refine sk_skip ?_ | refine sk_region ?_ | refine sk_if rfl (fun hc => ?_) (fun hc => ?_))
    · apply sk_packC [1, 2, 4, 5, 6, 7] [1, 2, 4, 14, 20] rfl; (· (repeat (first | exact Pf.nil | apply Pf.cons (.c rfl (.d rfl)) | apply Pf.cons (.c rfl (.ls rfl)) | apply Pf.cons (.c rfl (.lp rfl))))); (· (repeat (first | exact Pb.nil | apply Pb.cons (.row rfl) | (apply Pb.cons; (· apply Nb.box rfl; (repeat (first | exact Ncs.nil rfl | (apply Ncs.cons rfl; (· (first | exact .d rfl | exact .ls rfl))))))))))
      refine sk_loopL [1, 2, 4, 5, 6] [1, 2, 14, 4] (fun k => [(7, iN k)]) (fun k => [(20, .row 1 (cI (turnL 0 (fun j => atZ (atZ ll q) (turnP j)) k)))]) (fun k => k ≤ 8) (fun k => 8 - k) (0) ?_ (by (repeat (first | exact trivial | refine ⟨(by (rfl)), ?_⟩))) (by (repeat (first | exact trivial | refine ⟨(by ((refine row_eq rfl ?_; simp  [turnL_zero]; done))), ?_⟩))) ?_
      · simp
      intro k hk
      have hi := fun h => turnI_lt (p := k) h
      have hL2 := turnL_len (0 : Int) (fun j => atZ (atZ ll q) (turnP j)) k
      repeat' (first | (refine so_is (.assign _) ?_; (refine so_q (qt_asC rfl) rfl ?_)) | (refine so_is (.load 3 _) ?_; (refine so_q (qt_load_pt rfl (by kernel_rfl) rfl) rfl ?_)) | (refine so_is (.move _) ?_; (refine so_q (qt_mvC rfl) rfl ?_)) | (refine so_is (.binOp .lss 3 _ _ _) ?_; refine so_q (qt_lss rfl rfl) rfl ?_) | (refine so_is (.fieldAddr 88 _ 1) ?_; (refine so_q (qt_fld_lp (off := 1) rfl (by kernel_rfl)) rfl ?_)) | (refine so_is (.load 24 _) ?_; (refine so_q (qt_load_box rfl rfl (by kernel_rfl) rfl) rfl ?_)) | (refine so_is (.indexAddr 24 _ _) ?_; (refine so_q (qt_idxII rfl rfl (by kernel_rfl) (by (omega)) (by (omega))) rfl ?_)) | (refine so_is (.load 27 _) ?_; (refine so_q (qt_load_pt rfl (by kernel_rfl) rfl) rfl ?_)) | (refine so_is (.indexAddr 27 _ _) ?_; (first | refine so_q (qt_idxI rfl rfl (by kernel_rfl) (by (omega)) (by (omega))) rfl ?_ | refine so_q (qt_idx_ls rfl rfl (by kernel_rfl : tSl _ 27 1 = true) (by (omega)) (by (omega))) rfl ?_)) | (refine so_is (.store 3 _ _) ?_; ((refine so_store_row rfl rfl rfl rfl (.lit _) (by simp) (by simp) (by kernel_rfl) (by ((simp only [List.length_map, List.length_append, List.length_replicate, fillL_len, rowF_len, gridF_len, mkI_len, mkII_len, partZ_min] at *; omega))) rfl ?_; simp only [St.drop]))) | (refine so_is (.binOp .add 3 _ _ _) ?_; refine so_q (qt_addI rfl rfl (by (omega))) rfl ?_) | (refine so_is (.call ⟨.value (.func 223), _, _⟩) ?_; (apply so_call0 (fid := 223); (· (repeat (first | exact SeA.nil | apply SeA.cons (.c (.d _))))); (· exact l11Turned_p _ (by omega)); (· rfl))) | refine so_nil ?_ | refine sk_seq ?_ | refine sk_block ?_ | refine sk_blk ?_ | refine sk_exit rfl ?_ | refine sk_skip ?_ | refine sk_region ?_ | refine sk_drawQ 11 (fun i => i == 12) (.step 0 true (.step 1 true (.step 3 true (.step 4 true (.step 5 true (.step 6 true (.step 7 true (.step 8 true (.step 9 true (.step 10 true (.step 2 false (.step 11 true (.step 12 false .nil))))))))))))) [(0, 8191, 8191, true), (0, 8191, 8191, true), (2, 8189, 8191, false), (0, 8191, 8191, true), (8, 8183, 8191, false), (0, 8191, 8191, true), (48, 8143, 8191, true), (64, 8127, 8191, false), (0, 8191, 8191, true), (384, 7807, 8191, true), (512, 7679, 8191, false), (2047, 8186, 8191, true), (4095, 5119, 8191, false)] (by kernel_rfl) (by kernel_rfl) ?_ | refine sk_drawQ 12 (fun i => i == 6) (.step 0 true (.step 1 true (.step 2 true (.step 4 true (.step 3 false (.step 5 true (.step 6 false .nil))))))) [(0, 127, 127, true), (1, 126, 127, false), (0, 127, 127, true), (4, 123, 127, false), (0, 127, 127, true), (31, 117, 127, true), (63, 79, 127, false)] (by kernel_rfl) (by kernel_rfl) ?_ | refine sk_if rfl (fun hc => ?_) (fun hc => ?_))
      · have hk8 : k < 8 := by omega
        have e : (turnL 0 (fun j => atZ (atZ ll q) (turnP j)) k).set (turnI k) (atZ (atZ ll q) k) = turnL 0 (fun j => atZ (atZ ll q) (turnP j)) (k + 1) := by
          have := turnL_set 0 (fun j => atZ (atZ ll q) (turnP j)) hk8
          simp only [turnP_nat, turnN_inv hk8] at this ⊢
          exact this
        refine sk_back ?_; refine ⟨k + 1, ?_, ?_, le_at rfl (by (repeat (first | exact trivial | refine ⟨(by (rfl)), ?_⟩))) (by (repeat (first | exact trivial | refine ⟨rfl, ?_⟩))) (by (repeat (first | exact trivial | refine ⟨(by ((refine row_eq rfl ?_; simp  [List.map_set, ← e]; done))), ?_⟩))) (by (repeat (first | exact trivial | refine ⟨.inr rfl, ?_⟩)))⟩
        · omega
        · omega
      · have h8 : k = 8 := by omega
        subst h8
        have hi := fun h => turnI_lt (p := q) h
        repeat' (first | (refine so_is (.assign _) ?_; (refine so_q (qt_asC rfl) rfl ?_)) | (refine so_is (.move _) ?_; (refine so_q (qt_mvC rfl) rfl ?_)) | (refine so_is (.indexAddr 24 _ _) ?_; (refine so_q (qt_idx_ls rfl rfl (by kernel_rfl : tSl _ 24 1 = true) (by (omega)) (by (omega))) rfl ?_)) | (refine so_is (.binOp .add 3 _ _ _) ?_; refine so_q (qt_addI rfl rfl (by (omega))) rfl ?_) | (refine so_is (.store 27 _ _) ?_; (refine so_store_row rfl rfl rfl rfl (.row _ _ _ _ rfl (by (assumption))) (by decide) (by decide) (by kernel_rfl) (by ((simp only [List.length_map, List.length_append, List.length_replicate, fillL_len, rowF_len, gridF_len, mkI_len, mkII_len, partZ_min] at *; omega))) rfl ?_)) | refine so_nil ?_ | refine sk_blk ?_ | refine sk_region ?_)
        have hq8 : q < 8 := by omega
        have e : (turnL [] (fun i => rowF (turnF ll i) 8) q).set (turnI q) (turnL 0 (fun j => atZ (atZ ll q) (turnP j)) 8) = turnL [] (fun i => rowF (turnF ll i) 8) (q + 1) := by
          have := turnL_set [] (fun i => rowF (turnF ll i) 8) hq8
          rw [← this, turnL_all]
          congr 1
          unfold rowF
          exact List.map_congr_left fun j _ => by show atZ (atZ ll q) (turnP j) = turnF ll (turnI q) j; unfold turnF; rw [turnP_nat (turnI q), turnN_inv hq8]
        refine sk_back ?_; refine ⟨q + 1, ?_, ?_, le_at rfl (by (repeat (first | exact trivial | refine ⟨(by (rfl)), ?_⟩))) (by (repeat (first | exact trivial | refine ⟨rfl, ?_⟩))) (by (repeat (first | exact trivial | refine ⟨(by ((refine row_eq rfl ?_; simp  [List.map_set, ← e, eI, turnL_len]; done))), ?_⟩))) (by (repeat (first | exact trivial | refine ⟨.inr rfl, ?_⟩)))⟩
        · omega
        · omega
    · have h8 : q = 8 := by omega
      subst h8
      rw [turnL_all]
      (apply sk_ret; apply ret_eq; (· apply RetOK.t; (· (apply GvA.cons; (· (apply RV.cellN (n := 2); (· rfl); (· rfl); (· kernel_rfl); (· rfl))); (· (apply GvP.g; (· (apply GvL.cons (.lit _)); ((apply GvL.cons (.row _ _ _ _ rfl (by (assumption))))); exact GvL.nil)))); (apply GvA.cons; (· exact .tmp _); (· exact GvP.c (.lit _))); exact GvA.nil); (· rfl); (· (decide))))
      simp [hT, whenN, whenL, gridF]

end Go.Proofs.YtefbiejoikpkmaaGreat

namespace Go.Proofs.YtefbiejoikpkmaaGreat
open Go.RowKit
set_option linter.unusedSectionVars false
variable [Glb]
set_option maxRecDepth 10000
set_option maxHeartbeats 4000000
theorem l11Says8_p (l : List Int) (q : Int) (h : bitsB l 8 = true) (h0 : 0 ≤ q) (h8 : q < 8) : PC Tryz.prog 153 [.c (eI l), .c (dI q)] (.p (.c (dI (playV l q)))) := by
  refine pc_intro Tryz.func153 rfl rfl rfl (by kernel_rfl) rfl rfl ?_; intro _
  have hl6 := bitsB_len h
  have b1 := bitsB_at h (i := q / 4) (by omega) (by omega)
  have b2 := bitsB_at h (i := 2 + q / 2 % 2) (by omega) (by omega)
  have b3 := bitsB_at h (i := 4 + q % 2) (by omega) (by omega)
  repeat' (first | (refine so_is (.assign _) ?_; (refine so_q (qt_asC rfl) rfl ?_)) | (refine so_is (.move _) ?_; (refine so_q (qt_mvC rfl) rfl ?_)) | (refine so_is (.binOp .shr 3 _ _ _) ?_; (first | refine so_q (qt_shrC (c := 4) rfl rfl (by decide)) rfl ?_ | refine so_q (qt_shrC (c := 2) rfl rfl (by decide)) rfl ?_)) | (refine so_is (.indexAddr 27 _ _) ?_; (refine so_q (qt_idxI rfl rfl (by kernel_rfl) (by (omega)) (by (omega))) rfl ?_)) | (refine so_is (.load 3 _) ?_; (refine so_q (qt_load_pt rfl (by kernel_rfl) rfl) rfl ?_)) | (refine so_is (.binOp .mul 3 _ _ _) ?_; refine so_q (qt_mulI rfl rfl (by (omega))) rfl ?_) | (refine so_is (.binOp .and 3 _ _ _) ?_; refine so_q (qt_andM 1 (c := 2) rfl rfl (by decide)) rfl ?_) | (refine so_is (.binOp .add 3 _ _ _) ?_; refine so_q (qt_addI rfl rfl (by (omega))) rfl ?_) | refine so_nil ?_ | refine sk_seq ?_ | refine sk_region ?_ | refine sk_drawQ 1 (fun _ => false) (.step 0 true (.step 1 true (.step 2 true (.step 3 true (.step 4 true (.step 5 true (.step 6 true (.step 7 true (.step 8 true (.step 9 true (.step 10 true (.step 11 true (.step 12 true (.step 13 true (.step 14 true (.step 15 true (.step 16 true (.step 17 true (.step 18 true (.step 19 true (.step 20 true (.step 21 true (.step 22 true .nil))))))))))))))))))))))) [(0, 8388607, 8388607, true), (0, 8388607, 8388607, true), (2, 8388605, 8388607, true), (5, 8388602, 8388607, true), (8, 8388599, 8388607, false), (16, 8388591, 8388607, true), (0, 8388607, 8388607, true), (0, 8388607, 8388607, true), (128, 8388479, 8388607, true), (256, 8388351, 8388607, true), (512, 8388095, 8388607, true), (1088, 8387519, 8388607, true), (2048, 8386559, 8388607, false), (4096, 8384511, 8388607, true), (8224, 8380383, 8388607, true), (0, 8388607, 8388607, true), (0, 8388607, 8388607, true), (65536, 8323071, 8388607, true), (131072, 8257535, 8388607, true), (294912, 8093695, 8388607, true), (524288, 7864319, 8388607, false), (1064960, 7323647, 8388607, true), (4194303, 6291455, 8388607, true)] (by kernel_rfl) (by kernel_rfl) ?_)
  · (apply sk_ret; apply ret_eq; (· apply RetOK.p; (· (apply GvA.cons; (· exact .tmp _); (· exact GvP.c (.lit _))); exact GvA.nil); (· (decide))))
    rw [playV_eq l h0 h8]
theorem l11Played8_p (l : List Int) (n : Int) (h : bitsB l 8 = true) : PC Tryz.prog 192 [.c (eI l), .c (dI n)] (.p (.g [dI n, eII (gridF (ansF n fun q => playV l q) 8 8)])) := by
  refine pc_intro Tryz.func192 rfl rfl rfl (by kernel_rfl) rfl rfl ?_; intro _
  repeat' (first | (refine so_is (.alloc 88) ?_; refine so_alloc (zs := [.int .i64 0, .slice none 0 0]) (by kernel_rfl) rfl ?_) | (refine so_is (.buildSlice 27 0 _) ?_; (apply so_bslice (sz := 1) (by_ := 8); (· kernel_rfl); (· decide); (· (repeat (exact GvS.nil _))); (· (decide)); (· rfl); (· rfl); (· rfl))) | (refine so_is (.assign _) ?_; (refine so_q (qt_asC rfl) rfl ?_)) | refine so_nil ?_ | refine sk_seq ?_ | refine sk_block ?_ | refine sk_region ?_)
  apply sk_packC [0, 1, 4, 5, 6] [4, 7, 16, 17, 1020] rfl; (· (repeat (first | exact Pf.nil | apply Pf.cons (.c rfl (.d rfl)) | apply Pf.cons (.c rfl (.ls rfl)) | apply Pf.cons (.c rfl (.lp rfl))))); (· (repeat (first | exact Pb.nil | apply Pb.cons (.row rfl) | (apply Pb.cons; (· apply Nb.box rfl; (repeat (first | exact Ncs.nil rfl | (apply Ncs.cons rfl; (· (exact .d rfl))))))) | apply Pb.skip)))
  refine sk_loopL [0, 1, 4] [4, 16, 17, 1020] (fun q => [(6, iN q), (5, .c (.ls 7 1 0 q))]) (fun q => [(7, .row 1 (cI (rowF (fun k : Nat => playV l k) q)))]) (fun q => q ≤ 8) (fun q => 8 - q) (0) ?_ (by (repeat (first | exact trivial | refine ⟨(by (rfl)), ?_⟩))) (by (repeat (first | exact trivial | refine ⟨(by (rfl)), ?_⟩))) ?_
  · simp
  intro q hq
  by_cases hq8 : q < 8
  · repeat' (first | (refine so_is (.assign _) ?_; (refine so_q (qt_asC rfl) rfl ?_)) | (refine so_is (.move _) ?_; (refine so_q (qt_mvC rfl) rfl ?_)) | (refine so_is (.binOp .lss 3 _ _ _) ?_; refine so_q (qt_lss rfl rfl) rfl ?_) | (refine so_is (.buildSlice 27 1 _) ?_; (apply so_bslice (sz := 1) (by_ := 8); (· kernel_rfl); (· decide); (· (repeat (first | exact GvS.nil _ | apply GvS.c rfl rfl (.lit _) rfl))); (· (decide)); (· rfl); (· rfl); (· rfl))) | (refine so_is (.call ⟨.builtin .append, _, #[27, 27]⟩) ?_; ((apply so_appR (sz := 1) (by_ := 8); (· rfl); (· rfl); (· ((simp; done))); (· exact .row _ _ _ _ rfl (by ((simp; done)))); (· (decide)); (· kernel_rfl); (· decide); (· (omega)); (· (omega)); (· rfl); (· rfl); (· rfl)))) | (refine so_is (.binOp .add 3 _ _ _) ?_; refine so_q (qt_addI rfl rfl (by (omega))) rfl ?_) | (refine so_is (.call ⟨.value (.func 153), _, _⟩) ?_; (apply so_call0 (fid := 153); (· (repeat (first | exact SeA.nil | apply SeA.cons (.c (.d _))))); (· exact l11Says8_p _ _ h (by omega) (by omega)); (· rfl))) | refine so_nil ?_ | refine sk_seq ?_ | refine sk_block ?_ | refine sk_blk ?_ | refine sk_exit rfl ?_ | refine sk_skip ?_ | refine sk_region ?_ | refine sk_if rfl (fun hc => ?_) (fun hc => ?_))
    all_goals first | (exfalso; omega) | skip
    refine sk_back ?_; refine ⟨q + 1, ?_, ?_, le_at rfl (by (repeat (first | exact trivial | refine ⟨(by (rfl)), ?_⟩))) (by (repeat (first | exact trivial | refine ⟨rfl, ?_⟩))) (by (repeat (first | exact trivial | refine ⟨(by ((refine row_eq rfl ?_; simp  [rowF_snoc]; done))), ?_⟩))) (by (repeat (first | exact trivial | refine ⟨.inr rfl, ?_⟩)))⟩
    · omega
    · omega
  · have h8 : q = 8 := by omega
    subst h8
    repeat' (first | (refine so_is (.move _) ?_; (refine so_q (qt_mvC rfl) rfl ?_)) | (refine so_is (.binOp .lss 3 _ _ _) ?_; refine so_q (qt_lss rfl rfl) rfl ?_) | (refine so_is (.store 88 _ _) ?_; (refine so_store_box rfl rfl rfl (by kernel_rfl) rfl rfl ?_)) | (refine so_is (.call ⟨.value (.func 191), _, _⟩) ?_; (apply so_callO0 (fid := 191); (· (repeat (first | exact SeA.nil | apply SeA.cons (.c (.d _)) | apply SeA.cons (.c (.all _ _ _ _ rfl (by ((simp; done)))))))); (· exact l11Of_p _ _ (rowF_len _ _) (fun q hq => by rw [rowF_atZ _ hq]; exact playV_bd8 h (by omega) (by omega))); (· rfl); (· rfl))) | refine so_nil ?_ | refine sk_seq ?_ | refine sk_exit rfl ?_ | refine sk_region ?_ | refine sk_false rfl ?_)
    all_goals first | (exfalso; omega) | skip
    · (apply sk_ret; apply ret_eq; (· apply RetOK.p; (· (apply GvA.cons; (· (apply RV.cellN (n := 2); (· rfl); (· rfl); (· kernel_rfl); (· rfl))); (· (apply GvP.g; (· (apply GvL.cons (.lit _)); ((apply GvL.cons (.row _ _ _ _ rfl (by ((simp; done)))))); exact GvL.nil)))); exact GvA.nil); (· (decide))))
      rw [gridF_ans]
def TrioQ (res : Res) : Prop := ∃ (n : Int) (ll : List (List Int)), (trioB n ll = true ∧ n ≤ 10) ∧ res = .p (.g [dI n, eII ll])
theorem l11PlayedE_p (l : List Int) (n : Int) (h : bitsB l 8 = true) (h1 : 1 ≤ n) (h2 : n ≤ 10) : PE Tryz.prog 192 [.c (eI l), .c (dI n)] TrioQ :=
  (l11Played8_p l n h).pe ⟨_, _, ⟨ans_trio h1 (by omega) fun q hq => playV_bd8 h (by omega) (by omega), h2⟩, rfl⟩
theorem l11SumsE_p (l : List Int) (h : bitsB l 8 = true) : PE Tryz.prog 193 [.c (eI l)] TrioQ :=
  (l11Sums_p l h).pe ⟨_, _, ⟨sum3_trio h, by omega⟩, rfl⟩
theorem l11GroupedE_p (a : Int) (own joint : List Int) (n : Int) (h : 0 ≤ a ∧ a ≤ 2) (ho : bitsB own 2 = true) (hj : bitsB joint 8 = true) (h1 : 1 ≤ n) (h2 : n ≤ 10) : PE Tryz.prog 132 [.c (dI a), .c (eI own), .c (eI joint), .c (dI n)] TrioQ :=
  (l11Grouped_p a own joint n (inB_iff.2 h) ho hj).pe ⟨_, _, ⟨ans_trio h1 (by omega) fun q _ => grpV_bd (inB_iff.2 h) ho hj _, h2⟩, rfl⟩
theorem spAddThirdE_p (ll : List (List Int)) (ch : List Int) : PE Tryz.prog 63 [.g [dI 2, dI 2, dI 2, eII ll], .c (eI ch), .c (dI 1)] (fun res => ∃ (n : Int) (l2 : List (List Int)) (b : Bool), (b = true → trioB n l2 = true ∧ n ≤ 10) ∧ res = .t [.g [dI n, eII l2], .c (dB b)]) :=
  (spAddThird_p 2 2 2 ll ch 1).pe ⟨_, _, _, fun hb => by
    rw [hb]
    unfold thirdOK at hb
    rw [Bool.and_eq_true] at hb
    exact ⟨hb.2, by decide⟩, rfl⟩
theorem spTurnTrioE_p (n : Int) (ll : List (List Int)) (h : trioB n ll = true) (h2 : n ≤ 10) : PE Tryz.prog 195 [.g [dI n, eII ll]] (fun res => ∃ (l2 : List (List Int)), trioB n l2 = true ∧ res = .t [.g [dI n, eII l2], .c (dB true)]) :=
  (spTurnTrio_p n ll).pe ⟨turnG ll, turn_trio h, by rw [h]; rfl⟩
theorem l11MixG_p (m : Int) (a : List (List Int)) (n : Int) (b : List (List Int)) (M N : Int) (ha : GridP M a) (hb : GridP N b) (hM : 0 ≤ M ∧ M ≤ 1000000) (hN : 0 ≤ N ∧ N ≤ 1000000) (hm : -1000000 ≤ m ∧ m ≤ 1000000) (hn : -1000000 ≤ n ∧ n ≤ 1000000) : PC Tryz.prog 196 [.g [dI m, eII a], .g [dI n, eII b]] (.p (.g [dI (m + n), eII (gridF (mixF a b) 8 8)])) := by
  have la := ha.len
  have lb := hb.len
  refine pc_intro Tryz.func196 rfl rfl rfl (by kernel_rfl) rfl rfl ?_; intro _
  repeat' (first | (refine so_is (.box 88 _) ?_; refine so_box rfl rfl ?_) | (refine so_is (.alloc 88) ?_; refine so_alloc (zs := [.int .i64 0, .slice none 0 0]) (by kernel_rfl) rfl ?_) | (refine so_is (.fieldAddr 88 _ 0) ?_; (refine so_q (qt_fld_lp (off := 0) rfl (by kernel_rfl)) rfl ?_)) | (refine so_is (.load 3 _) ?_; (refine so_q (qt_load_box rfl rfl (by kernel_rfl) rfl) rfl ?_)) | (refine so_is (.binOp .add 3 _ _ _) ?_; refine so_q (qt_addI rfl rfl (by (omega))) rfl ?_) | (refine so_is (.buildSlice 24 0 _) ?_; (apply so_bslice (sz := 1) (by_ := 24); (· kernel_rfl); (· decide); (· (repeat (exact GvS.nil _))); (· (decide)); (· rfl); (· rfl); (· rfl))) | (refine so_is (.build 88 _) ?_; refine so_q (qt_build (cs := [_, _]) [(0, 1), (1, 1)] [.int .i64 0, .slice none 0 0] (by kernel_rfl) (by kernel_rfl) rfl) rfl ?_) | (refine so_is (.store 88 _ _) ?_; (refine so_store_box rfl rfl rfl (by kernel_rfl) rfl rfl ?_)) | (refine so_is (.assign _) ?_; (refine so_q (qt_asC rfl) rfl ?_)) | refine so_nil ?_ | refine sk_seq ?_ | refine sk_block ?_ | refine sk_region ?_)
  apply sk_packC [2, 3, 4, 5, 6] [2, 3, 4, 5, 14, 20, 43, 44, 48, 49] rfl; (· (repeat (first | exact Pf.nil | apply Pf.cons (.c rfl (.d rfl)) | apply Pf.cons (.c rfl (.lp rfl))))); (· (repeat (first | exact Pb.nil | apply Pb.cons (.row rfl) | (apply Pb.cons; (· apply Nb.box rfl; (repeat (first | exact Ncs.nil rfl | (apply Ncs.cons rfl; (· (first | exact .d rfl | exact .ls rfl))))))) | apply Pb.skip)))
  refine sk_loopL [2, 3, 4, 5] [2, 3, 4, 20, 43, 44, 48, 49] (fun q => [(6, iN q)]) (fun q => [(5, .box [.d (dI (m + n)), .ls 14 1 0 q]), (14, .row 1 (cII (gridF (mixF a b) q 8)))]) (fun q => q ≤ 8) (fun q => 8 - q) (0) ?_ (by (repeat (first | exact trivial | refine ⟨(by (rfl)), ?_⟩))) (by (repeat (first | exact trivial | refine ⟨(by (first | (refine box_eq rfl ?_; simp; done) | rfl)), ?_⟩))) ?_
  · simp
  intro q hq
  by_cases hq8 : q < 8
  · have ha4 := ha.row (q : Int) (by omega) (by omega)
    have hb4 := hb.row (q : Int) (by omega) (by omega)
    repeat' (first | (refine so_is (.store 88 _ _) ?_; (refine so_store_box rfl rfl rfl (by kernel_rfl) rfl rfl ?_)) | (refine so_is (.assign _) ?_; (refine so_q (qt_asC rfl) rfl ?_)) | (refine so_is (.move _) ?_; (refine so_q (qt_mvC rfl) rfl ?_)) | (refine so_is (.binOp .lss 3 _ _ _) ?_; refine so_q (qt_lss rfl rfl) rfl ?_) | (refine so_is (.buildSlice 27 0 _) ?_; (apply so_bslice (sz := 1) (by_ := 8); (· kernel_rfl); (· decide); (· (repeat (exact GvS.nil _))); (· (decide)); (· rfl); (· rfl); (· rfl))) | (refine so_is (.load 88 _) ?_; (refine so_q (qt_load_boxs rfl rfl (by kernel_rfl : tAgg _ 88 2 = true) rfl) rfl ?_)) | refine so_nil ?_ | refine sk_seq ?_ | refine sk_block ?_ | refine sk_exit rfl ?_ | refine sk_skip ?_ | refine sk_region ?_ | refine sk_if rfl (fun hc => ?_) (fun hc => ?_))
    all_goals first | (exfalso; omega) | skip
    apply sk_packC [2, 3, 4, 5, 6, 7, 8] [2, 3, 4, 5, 14, 20, 43, 44, 48, 49] rfl; (· (repeat (first | exact Pf.nil | apply Pf.cons (.c rfl (.d rfl)) | apply Pf.cons (.c rfl (.ls rfl)) | apply Pf.cons (.c rfl (.lp rfl))))); (· (repeat (first | exact Pb.nil | apply Pb.cons (.row rfl) | (apply Pb.cons; (· apply Nb.box rfl; (repeat (first | exact Ncs.nil rfl | (apply Ncs.cons rfl; (· (first | exact .d rfl | exact .ls rfl))))))) | apply Pb.skip)))
    refine sk_loopL [2, 3, 4, 5, 6] [2, 3, 4, 14, 5, 43, 44, 48, 49] (fun k => [(8, iN k), (7, .c (.ls 20 1 0 k))]) (fun k => [(20, .row 1 (cI (rowF (mixF a b q) k)))]) (fun k => k ≤ 8) (fun k => 8 - k) (0) ?_ (by (repeat (first | exact trivial | refine ⟨(by (rfl)), ?_⟩))) (by (repeat (first | exact trivial | refine ⟨(by (rfl)), ?_⟩))) ?_
    · simp
    intro k hk
    by_cases hk8 : k < 8
    · have ha5 := ha4.2 k (by omega) (by omega)
      have hb5 := hb4.2 k (by omega) (by omega)
      repeat' (first | (refine so_is (.load 3 _) ?_; (refine so_q (qt_load_pt rfl (by kernel_rfl) rfl) rfl ?_)) | (refine so_is (.binOp .add 3 _ _ _) ?_; refine so_q (qt_addI rfl rfl (by (omega))) rfl ?_) | (refine so_is (.assign _) ?_; (refine so_q (qt_asC rfl) rfl ?_)) | (refine so_is (.move _) ?_; (refine so_q (qt_mvC rfl) rfl ?_)) | (refine so_is (.binOp .lss 3 _ _ _) ?_; refine so_q (qt_lss rfl rfl) rfl ?_) | (refine so_is (.fieldAddr 88 _ 1) ?_; (refine so_q (qt_fld_lp (off := 1) rfl (by kernel_rfl)) rfl ?_)) | (refine so_is (.load 24 _) ?_; (refine so_q (qt_load_box rfl rfl (by kernel_rfl) rfl) rfl ?_)) | (refine so_is (.indexAddr 24 _ _) ?_; (refine so_q (qt_idxII rfl rfl (by kernel_rfl) (by (omega)) (by (omega))) rfl ?_)) | (refine so_is (.load 27 _) ?_; (refine so_q (qt_load_pt rfl (by kernel_rfl) rfl) rfl ?_)) | (refine so_is (.indexAddr 27 _ _) ?_; (refine so_q (qt_idxI rfl rfl (by kernel_rfl) (by (omega)) (by (omega))) rfl ?_)) | (refine so_is (.buildSlice 27 1 _) ?_; (apply so_bslice (sz := 1) (by_ := 8); (· kernel_rfl); (· decide); (· (repeat (first | exact GvS.nil _ | apply GvS.c rfl rfl (.lit _) rfl))); (· (decide)); (· rfl); (· rfl); (· rfl))) | (refine so_is (.call ⟨.builtin .append, _, #[27, 27]⟩) ?_; ((apply so_appR (sz := 1) (by_ := 8); (· rfl); (· rfl); (· ((simp; done))); (· exact .row _ _ _ _ rfl (by ((simp; done)))); (· (decide)); (· kernel_rfl); (· decide); (· (omega)); (· (omega)); (· rfl); (· rfl); (· rfl)))) | (refine so_is (.buildSlice 24 1 _) ?_; (apply so_bslice (sz := 1) (by_ := 24); (· kernel_rfl); (· decide); (· (repeat (first | exact GvS.nil _ | apply GvS.c rfl rfl (.row _ _ _ _ rfl (by ((simp; done)))) rfl))); (· (decide)); (· rfl); (· rfl); (· rfl))) | (refine so_is (.call ⟨.builtin .append, _, #[24, 24]⟩) ?_; ((apply so_appR (sz := 1) (by_ := 24); (· rfl); (· rfl); (· ((simp; done))); (· exact .row _ _ _ _ rfl (by ((simp; done)))); (· (decide)); (· kernel_rfl); (· decide); (· (omega)); (· (omega)); (· rfl); (· rfl); (· rfl)))) | (refine so_is (.store 24 _ _) ?_; (refine so_store_box1 rfl rfl rfl rfl (by kernel_rfl) rfl rfl ?_)) | refine so_nil ?_ | refine sk_seq ?_ | refine sk_block ?_ | refine sk_blk ?_ | refine sk_exit rfl ?_ | refine sk_skip ?_ | refine sk_region ?_ | refine sk_drawQ 9 (fun i => i == 19) (.step 0 true (.step 1 true (.step 2 true (.step 3 true (.step 4 true (.step 5 true (.step 6 true (.step 7 true (.step 8 true (.step 9 true (.step 10 true (.step 11 true (.step 12 true (.step 13 true (.step 14 true (.step 15 true (.step 16 true (.step 17 true (.step 18 false (.step 19 false (.step 20 true .nil))))))))))))))))))))) [(0, 2097151, 2097151, true), (0, 2097151, 2097151, true), (2, 2097149, 2097151, false), (0, 2097151, 2097151, true), (12, 2097139, 2097151, true), (16, 2097135, 2097151, false), (0, 2097151, 2097151, true), (96, 2097055, 2097151, true), (128, 2097023, 2097151, false), (0, 2097151, 2097151, true), (512, 2096639, 2097151, false), (0, 2097151, 2097151, true), (3072, 2094079, 2097151, true), (4096, 2093055, 2097151, false), (0, 2097151, 2097151, true), (24576, 2072575, 2097151, true), (32768, 2064383, 2097151, false), (65792, 2031359, 2097151, true), (131072, 1966079, 2097151, false), (262145, 1835006, 2097151, false), (1048575, 1572862, 1572863, true)] (by kernel_rfl) (by kernel_rfl) ?_ | refine sk_if rfl (fun hc => ?_) (fun hc => ?_))
      all_goals first | (exfalso; omega) | skip
      refine sk_back ?_; refine ⟨k + 1, ?_, ?_, le_at rfl (by (repeat (first | exact trivial | refine ⟨(by (rfl)), ?_⟩))) (by (repeat (first | exact trivial | refine ⟨rfl, ?_⟩))) (by (repeat (first | exact trivial | refine ⟨(by ((refine row_eq rfl ?_; simp  [rowF_snoc, mixF]; done))), ?_⟩))) (by (repeat (first | exact trivial | refine ⟨.inr rfl, ?_⟩)))⟩
      · omega
      · omega
    · have h8 : k = 8 := by omega
      subst h8
      repeat' (first | (refine so_is (.binOp .add 3 _ _ _) ?_; refine so_q (qt_addI rfl rfl (by (omega))) rfl ?_) | (refine so_is (.assign _) ?_; (refine so_q (qt_asC rfl) rfl ?_)) | (refine so_is (.move _) ?_; (refine so_q (qt_mvC rfl) rfl ?_)) | (refine so_is (.binOp .lss 3 _ _ _) ?_; refine so_q (qt_lss rfl rfl) rfl ?_) | (refine so_is (.fieldAddr 88 _ 1) ?_; (refine so_q (qt_fld_lp (off := 1) rfl (by kernel_rfl)) rfl ?_)) | (refine so_is (.load 24 _) ?_; (refine so_q (qt_load_box rfl rfl (by kernel_rfl) rfl) rfl ?_)) | (refine so_is (.buildSlice 24 1 _) ?_; (apply so_bslice (sz := 1) (by_ := 24); (· kernel_rfl); (· decide); (· (repeat (first | exact GvS.nil _ | apply GvS.c rfl rfl (.row _ _ _ _ rfl (by ((simp; done)))) rfl))); (· (decide)); (· rfl); (· rfl); (· rfl))) | (refine so_is (.call ⟨.builtin .append, _, #[24, 24]⟩) ?_; ((apply so_appR (sz := 1) (by_ := 24); (· rfl); (· rfl); (· ((simp; done))); (· exact .row _ _ _ _ rfl (by ((simp; done)))); (· (decide)); (· kernel_rfl); (· decide); (· (omega)); (· (omega)); (· rfl); (· rfl); (· rfl)))) | (refine so_is (.store 24 _ _) ?_; (refine so_store_box1 rfl rfl rfl rfl (by kernel_rfl) rfl rfl ?_)) | refine so_nil ?_ | refine sk_seq ?_ | refine sk_blk ?_ | refine sk_exit rfl ?_ | refine sk_region ?_ | refine sk_false rfl ?_)
      all_goals first | (exfalso; omega) | skip
      refine sk_back ?_; refine ⟨q + 1, ?_, ?_, le_at rfl (by (repeat (first | exact trivial | refine ⟨(by (rfl)), ?_⟩))) (by (repeat (first | exact trivial | refine ⟨rfl, ?_⟩))) (by (repeat (first | exact trivial | refine ⟨(by (first | (refine row_eq rfl ?_; simp  [gridF_snoc]; done) | rfl)), ?_⟩))) (by (repeat (first | exact trivial | refine ⟨.inr rfl, ?_⟩)))⟩
      · omega
      · omega
  · have h8 : q = 8 := by omega
    subst h8
    repeat' (first | (refine so_is (.store 88 _ _) ?_; (refine so_store_box rfl rfl rfl (by kernel_rfl) rfl rfl ?_)) | (refine so_is (.move _) ?_; (refine so_q (qt_mvC rfl) rfl ?_)) | (refine so_is (.binOp .lss 3 _ _ _) ?_; refine so_q (qt_lss rfl rfl) rfl ?_) | (refine so_is (.load 88 _) ?_; (refine so_q (qt_load_boxs rfl rfl (by kernel_rfl : tAgg _ 88 2 = true) rfl) rfl ?_)) | refine so_nil ?_ | refine sk_seq ?_ | refine sk_exit rfl ?_ | refine sk_region ?_ | refine sk_false rfl ?_)
    all_goals first | (exfalso; omega) | skip
    (apply sk_ret; apply ret_eq; (· apply RetOK.p; (· (apply GvA.cons; (· (apply RV.cellN (n := 2); (· rfl); (· rfl); (· kernel_rfl); (· rfl))); (· (apply GvP.g; (· (apply GvL.cons (.lit _)); ((apply GvL.cons (.row _ _ _ _ rfl (by ((simp; done)))))); exact GvL.nil)))); exact GvA.nil); (· (decide))))
    simp
theorem spAddThirdP_p (ll : List (List Int)) (L : List Int) (n : Nat) (ds : List D) (h : 2 ≤ L.length) (hn : n = 2) (hd : ds = ((cI L).drop 0).take 2) : PE Tryz.prog 63 [.g [dI 2, dI 2, dI 2, eII ll], .c (.sl 1 n ds), .c (dI 1)] (fun res => ∃ (n : Int) (l2 : List (List Int)) (b : Bool), (b = true → trioB n l2 = true ∧ n ≤ 10) ∧ res = .t [.g [dI n, eII l2], .c (dB b)]) := by
  have e : D.sl 1 n ds = eI (L.take 2) := by
    subst hn hd
    unfold eI cI
    rw [List.drop_zero, ← List.map_take, List.length_take, Nat.min_eq_left h]
  rw [e]
  exact spAddThirdE_p ll (L.take 2)

end Go.Proofs.YtefbiejoikpkmaaGreat

namespace Go.Proofs.YtefbiejoikpkmaaGreat
open Go.RowKit
set_option linter.unusedSectionVars false
variable [Glb]
set_option maxRecDepth 10000
set_option maxHeartbeats 4000000
theorem l6Odd_p (k x y : Nat) (hk : k < 8) (hx : x < 2) (hy : y < 2) : PC Tryz.prog 222 [.c (dI k), .c (dI x), .c (dI y)] (.p (.c (dI (difK k x y)))) := by
  have e : ((x : Int) * y + (k : Int) / 4 * x + (k : Int) / 2 % 2 * y + (k : Int) % 2) % 2 = difK k x y ∧ (0 ≤ (x : Int) * y ∧ (x : Int) * y ≤ 1) ∧ (0 ≤ (k : Int) / 4 * x ∧ (k : Int) / 4 * x ≤ 1) ∧ (0 ≤ (k : Int) / 2 % 2 * y ∧ (k : Int) / 2 % 2 * y ≤ 1) := by
    unfold difK
    rcases (by omega : x = 0 ∨ x = 1) with rfl | rfl <;> rcases (by omega : y = 0 ∨ y = 1) with rfl | rfl <;> simp <;> omega
  refine pc_intro Tryz.func222 rfl rfl rfl (by kernel_rfl) rfl rfl ?_; intro _
  repeat' (first | (refine so_is (.assign _) ?_; (refine so_q (qt_asC rfl) rfl ?_)) | (refine so_is (.move _) ?_; (refine so_q (qt_mvC rfl) rfl ?_)) | (refine so_is (.binOp .mul 3 _ _ _) ?_; refine so_q (qt_mulI rfl rfl (by (omega))) rfl ?_) | (refine so_is (.binOp .shr 3 _ _ _) ?_; (first | refine so_q (qt_shrC (c := 4) rfl rfl (by decide)) rfl ?_ | refine so_q (qt_shrC (c := 2) rfl rfl (by decide)) rfl ?_)) | (refine so_is (.binOp .add 3 _ _ _) ?_; refine so_q (qt_addI rfl rfl (by (omega))) rfl ?_) | (refine so_is (.binOp .and 3 _ _ _) ?_; refine so_q (qt_andM 1 (c := 2) rfl rfl (by decide)) rfl ?_) | (refine so_is (.binOp .rem 3 _ _ _) ?_; (refine so_q (qt_remN rfl rfl (by (omega)) (by (omega)) (by (omega))) rfl ?_)) | refine so_nil ?_ | refine sk_seq ?_ | refine sk_region ?_)
  (apply sk_ret; apply ret_eq; (· apply RetOK.p; (· (apply GvA.cons; (· exact .tmp _); (· exact GvP.c (.lit _))); exact GvA.nil); (· (decide))))
  rw [← e.1]

end Go.Proofs.YtefbiejoikpkmaaGreat

namespace Go.Proofs.YtefbiejoikpkmaaGreat
open Go.RowKit
set_option linter.unusedSectionVars false
variable [Glb]
set_option maxRecDepth 10000
set_option maxHeartbeats 4000000
theorem l6Sum_p (k : Nat) (hk : k < 8) : PC Tryz.prog 194 [.c (dI k)] (.p (.g [dI 2, dI 2, dI 2, eII (gridF (sum6F k) 4 4)])) := by
  refine pc_intro Tryz.func194 rfl rfl rfl (by kernel_rfl) rfl rfl ?_; intro _
  repeat' (first | (refine so_is (.alloc 26) ?_; refine so_alloc (zs := [.int .i64 0, .int .i64 0, .int .i64 0, .slice none 0 0]) (by kernel_rfl) rfl ?_) | (refine so_is (.buildSlice 24 0 _) ?_; (apply so_bslice (sz := 1) (by_ := 24); (· kernel_rfl); (· decide); (· (repeat (exact GvS.nil _))); (· (decide)); (· rfl); (· rfl); (· rfl))) | (refine so_is (.build 26 _) ?_; refine so_q (qt_build (cs := [_, _, _, _]) [(0, 1), (1, 1), (2, 1), (3, 1)] [.int .i64 0, .int .i64 0, .int .i64 0, .slice none 0 0] (by kernel_rfl) (by kernel_rfl) rfl) rfl ?_) | (refine so_is (.store 26 _ _) ?_; (refine so_store_box rfl rfl rfl (by kernel_rfl) rfl rfl ?_)) | (refine so_is (.assign _) ?_; (refine so_q (qt_asC rfl) rfl ?_)) | refine so_nil ?_ | refine sk_seq ?_ | refine sk_block ?_ | refine sk_region ?_)
  apply sk_packC [0, 2, 3, 4] [2, 3, 7, 29, 30, 31] rfl; (· (repeat (first | exact Pf.nil | apply Pf.cons (.c rfl (.d rfl)) | apply Pf.cons (.c rfl (.lp rfl))))); (· (repeat (first | exact Pb.nil | apply Pb.cons (.row rfl) | (apply Pb.cons; (· apply Nb.box rfl; (repeat (first | exact Ncs.nil rfl | (apply Ncs.cons rfl; (· (first | exact .d rfl | exact .ls rfl))))))) | apply Pb.skip)))
  refine sk_loopL [0, 2, 3] [2, 29, 30, 31] (fun x => [(4, iN x)]) (fun x => [(3, .box [.d (dI 2), .d (dI 2), .d (dI 2), .ls 7 1 0 (2 * x)]), (7, .row 1 (cII (gridF (sum6F k) (2 * x) 4)))]) (fun x => x ≤ 2) (fun x => 2 - x) (0) ?_ (by (repeat (first | exact trivial | refine ⟨(by (rfl)), ?_⟩))) (by (repeat (first | exact trivial | refine ⟨(by (first | (refine row_eq rfl ?_; simp  [gridF]; done) | (refine box_eq rfl ?_; simp  [gridF]; done))), ?_⟩))) ?_
  · omega
  intro x hx
  by_cases hx2 : x < 2
  · repeat' (first | (refine so_is (.store 26 _ _) ?_; (refine so_store_box rfl rfl rfl (by kernel_rfl) rfl rfl ?_)) | (refine so_is (.assign _) ?_; (refine so_q (qt_asC rfl) rfl ?_)) | (refine so_is (.move _) ?_; (refine so_q (qt_mvC rfl) rfl ?_)) | (refine so_is (.binOp .lss 3 _ _ _) ?_; refine so_q (qt_lss rfl rfl) rfl ?_) | (refine so_is (.load 26 _) ?_; (refine so_q (qt_load_boxs rfl rfl (by kernel_rfl : tAgg _ 26 4 = true) rfl) rfl ?_)) | refine so_nil ?_ | refine sk_seq ?_ | refine sk_block ?_ | refine sk_exit rfl ?_ | refine sk_skip ?_ | refine sk_region ?_ | refine sk_if rfl (fun hc => ?_) (fun hc => ?_))
    all_goals first | (exfalso; omega) | skip
    apply sk_packC [0, 2, 3, 4, 5] [2, 3, 7, 29, 30, 31] rfl; (· (repeat (first | exact Pf.nil | apply Pf.cons (.c rfl (.d rfl)) | apply Pf.cons (.c rfl (.lp rfl))))); (· (repeat (first | exact Pb.nil | apply Pb.cons (.row rfl) | (apply Pb.cons; (· apply Nb.box rfl; (repeat (first | exact Ncs.nil rfl | (apply Ncs.cons rfl; (· (first | exact .d rfl | exact .ls rfl))))))) | apply Pb.skip)))
    refine sk_loopL [0, 2, 3, 4] [2, 29, 30, 31] (fun y => [(5, iN y)]) (fun y => [(3, .box [.d (dI 2), .d (dI 2), .d (dI 2), .ls 7 1 0 (2 * x + y)]), (7, .row 1 (cII (gridF (sum6F k) (2 * x + y) 4)))]) (fun y => y ≤ 2) (fun y => 2 - y) (0) ?_ (by (repeat (first | exact trivial | refine ⟨(by (rfl)), ?_⟩))) (by (repeat (first | exact trivial | refine ⟨(by (first | (refine row_eq rfl ?_; simp; done) | (refine box_eq rfl ?_; simp; done))), ?_⟩))) ?_
    · omega
    intro y hy
    by_cases hy2 : y < 2
    · have db := difK_bd k x y
      have od := l6Odd_p k x y hk hx2 hy2
      have er : rowF (sum6F k (2 * x + y)) 4 = [1 - difK k x y, difK k x y, difK k x y, 1 - difK k x y] := by
        have e1 : (2 * x + y) / 2 = x := by omega
        have e2 : (2 * x + y) % 2 = y := by omega
        simp [rowF, List.range, List.range.loop, sum6F, e1, e2]
      generalize hz : difK k x y = z at *
      repeat' (first | (refine so_is (.assign _) ?_; (refine so_q (qt_asC rfl) rfl ?_)) | (refine so_is (.move _) ?_; (refine so_q (qt_mvC rfl) rfl ?_)) | (refine so_is (.binOp .lss 3 _ _ _) ?_; refine so_q (qt_lss rfl rfl) rfl ?_) | (refine so_is (.fieldAddr 26 _ 3) ?_; (refine so_q (qt_fld_lp (off := 3) rfl (by kernel_rfl)) rfl ?_)) | (refine so_is (.load 24 _) ?_; (refine so_q (qt_load_box rfl rfl (by kernel_rfl) rfl) rfl ?_)) | (refine so_is (.binOp .sub 3 _ _ _) ?_; refine so_q (qt_subI rfl rfl (by (omega))) rfl ?_) | (refine so_is (.buildSlice 27 4 _) ?_; (apply so_bslice (sz := 1) (by_ := 8); (· kernel_rfl); (· decide); (· (repeat (first | exact GvS.nil _ | apply GvS.c rfl rfl (.lit _) rfl))); (· (decide)); (· rfl); (· rfl); (· rfl))) | (refine so_is (.buildSlice 24 1 _) ?_; (apply so_bslice (sz := 1) (by_ := 24); (· kernel_rfl); (· decide); (· (repeat (first | exact GvS.nil _ | apply GvS.c rfl rfl (.row _ _ _ _ rfl (by ((simp; done)))) rfl))); (· (decide)); (· rfl); (· rfl); (· rfl))) | (refine so_is (.call ⟨.builtin .append, _, #[24, 24]⟩) ?_; ((apply so_appR (sz := 1) (by_ := 24); (· rfl); (· rfl); (· ((simp; done))); (· exact .row _ _ _ _ rfl (by ((simp; done)))); (· (decide)); (· kernel_rfl); (· decide); (· (omega)); (· (omega)); (· rfl); (· rfl); (· rfl)))) | (refine so_is (.store 24 _ _) ?_; (refine so_store_box1 rfl rfl rfl rfl (by kernel_rfl) rfl rfl ?_)) | (refine so_is (.binOp .add 3 _ _ _) ?_; refine so_q (qt_addI rfl rfl (by (omega))) rfl ?_) | (refine so_is (.call ⟨.value (.func 222), _, _⟩) ?_; (apply so_call0 (fid := 222); (· (repeat (first | exact SeA.nil | apply SeA.cons (.c (.d _))))); (· exact od); (· rfl))) | refine so_nil ?_ | refine sk_seq ?_ | refine sk_block ?_ | refine sk_blk ?_ | refine sk_exit rfl ?_ | refine sk_skip ?_ | refine sk_region ?_ | refine sk_if rfl (fun hc => ?_) (fun hc => ?_))
      all_goals first | (exfalso; omega) | skip
      refine sk_back ?_; refine ⟨y + 1, ?_, ?_, le_at rfl (by (repeat (first | exact trivial | refine ⟨(by (rfl)), ?_⟩))) (by (repeat (first | exact trivial | refine ⟨rfl, ?_⟩))) (by (repeat (first | exact trivial | refine ⟨(by (first | (refine row_eq rfl ?_; simp  [gridF_snoc, er, ← Nat.add_assoc]; done) | rfl)), ?_⟩))) (by (repeat (first | exact trivial | refine ⟨.inr rfl, ?_⟩)))⟩
      · omega
      · omega
    · have h2 : y = 2 := by omega
      subst h2
      repeat' (first | (refine so_is (.assign _) ?_; (refine so_q (qt_asC rfl) rfl ?_)) | (refine so_is (.move _) ?_; (refine so_q (qt_mvC rfl) rfl ?_)) | (refine so_is (.binOp .lss 3 _ _ _) ?_; refine so_q (qt_lss rfl rfl) rfl ?_) | (refine so_is (.binOp .add 3 _ _ _) ?_; refine so_q (qt_addI rfl rfl (by (omega))) rfl ?_) | refine so_nil ?_ | refine sk_seq ?_ | refine sk_blk ?_ | refine sk_exit rfl ?_ | refine sk_region ?_ | refine sk_false rfl ?_)
      all_goals first | (exfalso; omega) | skip
      refine sk_back ?_; refine ⟨x + 1, ?_, ?_, le_at rfl (by (repeat (first | exact trivial | refine ⟨(by (rfl)), ?_⟩))) (by (repeat (first | exact trivial | refine ⟨rfl, ?_⟩))) (by (repeat (first | exact trivial | refine ⟨(by (first | (refine row_eq rfl ?_; simp  [Nat.mul_add]; done) | (refine box_eq rfl ?_; simp  [Nat.mul_add]; done))), ?_⟩))) (by (repeat (first | exact trivial | refine ⟨.inr rfl, ?_⟩)))⟩
      · omega
      · omega
  · have h2 : x = 2 := by omega
    subst h2
    repeat' (first | (refine so_is (.store 26 _ _) ?_; (refine so_store_box rfl rfl rfl (by kernel_rfl) rfl rfl ?_)) | (refine so_is (.move _) ?_; (refine so_q (qt_mvC rfl) rfl ?_)) | (refine so_is (.binOp .lss 3 _ _ _) ?_; refine so_q (qt_lss rfl rfl) rfl ?_) | (refine so_is (.load 26 _) ?_; (refine so_q (qt_load_boxs rfl rfl (by kernel_rfl : tAgg _ 26 4 = true) rfl) rfl ?_)) | refine so_nil ?_ | refine sk_seq ?_ | refine sk_exit rfl ?_ | refine sk_region ?_ | refine sk_false rfl ?_)
    all_goals first | (exfalso; omega) | skip
    (apply sk_ret; apply ret_eq; (· apply RetOK.p; (· (apply GvA.cons; (· (apply RV.cellN (n := 4); (· rfl); (· rfl); (· kernel_rfl); (· rfl))); (· (apply GvP.g; (· (apply GvL.cons (.lit _)); (apply GvL.cons (.lit _)); (apply GvL.cons (.lit _)); ((apply GvL.cons (.row _ _ _ _ rfl (by ((simp; done)))))); exact GvL.nil)))); exact GvA.nil); (· (decide))))
    simp
theorem l6SumZ_p (x : Int) (h0 : 0 ≤ x) (h1 : x < 8) : PC Tryz.prog 194 [.c (dI x)] (.p (.g [dI 2, dI 2, dI 2, eII (gridF (sum6F x.toNat) 4 4)])) := by
  obtain ⟨k, rfl⟩ := Int.eq_ofNat_of_zero_le h0
  exact l6Sum_p k (by omega)

end Go.Proofs.YtefbiejoikpkmaaGreat

namespace Go.Proofs.YtefbiejoikpkmaaGreat
open Go.RowKit
set_option linter.unusedSectionVars false
variable [Glb]
set_option maxRecDepth 10000
set_option maxHeartbeats 4000000
theorem rows8 {l : List (List Int)} (h : l.length = 8) : ∃ a b c d e f g i, l = [a, b, c, d, e, f, g, i] := by
  match l, h with
  | [a, b, c, d, e, f, g, i], _ => exact ⟨a, b, c, d, e, f, g, i, rfl⟩
def TrioX (res : Res) : Prop := ∃ (n : Int) (ll : List (List Int)), res = .p (.g [dI n, eII ll])
theorem curTrio_p (code : Tx) (a s : Int) (h0 : 0 ≤ a) (h1 : a ≤ 4611686018427380000) : PXV Tryz.prog 133 (CurB code a s) [] (CurR a 400 TrioX) := by
  refine pxv_intro Tryz.func133 rfl rfl rfl (by kernel_rfl) rfl rfl rfl ?_; intro kv X c0
  repeat' (first | (refine so_is (.alloc 88) ?_; refine so_alloc (zs := [.int .i64 0, .slice none 0 0]) (by kernel_rfl) rfl ?_) | (refine so_is (.buildSlice 24 0 _) ?_; (apply so_bslice (sz := 1) (by_ := 24); (· kernel_rfl); (· decide); (· (repeat (exact GvS.nil _))); (· (decide)); (· rfl); (· rfl); (· rfl))) | (refine so_is (.build 88 _) ?_; refine so_q (qt_build (cs := [_, _]) [(0, 1), (1, 1)] [.int .i64 0, .slice none 0 0] (by kernel_rfl) (by kernel_rfl) rfl) rfl ?_) | (refine so_is (.store 88 _ _) ?_; (refine so_store_box rfl rfl rfl (by kernel_rfl) rfl rfl ?_)) | (refine so_is (.assign _) ?_; (refine so_q (qt_asC rfl) rfl ?_)) | refine so_nil ?_ | refine sk_seq ?_ | refine sk_block ?_ | refine sk_region ?_)
  apply sk_packC [0, 2, 3, 4] [2, 3, 8, 9, 12, 20, 21, 22, 31, 39, 40, 75, 103, 129, 1045, 1051, 1060, 1080, 1089, 1094, 3057, 800000000, 900000000] rfl; (· (repeat (first | exact Pf.nil | apply Pf.cons (.c rfl (.d rfl)) | apply Pf.cons (.c rfl (.lp rfl))))); (· (repeat (first | exact Pb.nil | apply Pb.cons (.row rfl) | (apply Pb.cons; (· apply Nb.box rfl; (repeat (first | exact Ncs.nil rfl | (apply Ncs.cons rfl; (· (first | exact .d rfl | exact .ls rfl))))))) | apply Pb.cons (.any rfl) | apply Pb.skip)))
  refine sk_loopL [0, 2, 3] [2, 20, 21, 22, 31, 39, 40, 1045, 8, 1051, 3057, 1060, 9, 75, 1080, 1089, 1094, 103, 129, 900000000] (fun q => [(4, iN q)]) (fun q => [(800000000, .box [.d (.same (kv 0) (eB code)), .d (dI a), .d (dW s)]), (3, .box [.d (dI 0), .ls 12 1 0 q]), (12, .row 1 (cII (gridF (fun _ _ => 0) q 8)))]) (fun q => q ≤ 8) (fun q => 8 - q) (0) ?_ (by (repeat (first | exact trivial | refine ⟨(by (rfl)), ?_⟩))) (by (repeat (first | exact trivial | refine ⟨(by (first | (refine row_eq rfl ?_; simp  [gridF]; done) | (refine box_eq rfl ?_; simp  [gridF]; done))), ?_⟩))) ?_
  · omega
  intro q hq
  by_cases hq8 : q < 8
  · have er : rowF (fun _ => (0 : Int)) 8 = List.replicate 8 0 := by simp [rowF, List.range, List.range.loop, List.replicate]
    repeat' (first | (refine so_is (.assign _) ?_; (refine so_q (qt_asC rfl) rfl ?_)) | (refine so_is (.move _) ?_; (refine so_q (qt_mvC rfl) rfl ?_)) | (refine so_is (.binOp .lss 3 _ _ _) ?_; refine so_q (qt_lss rfl rfl) rfl ?_) | (refine so_is (.fieldAddr 88 _ 1) ?_; (refine so_q (qt_fld_lp (off := 1) rfl (by kernel_rfl)) rfl ?_)) | (refine so_is (.load 24 _) ?_; (refine so_q (qt_load_box rfl rfl (by kernel_rfl) rfl) rfl ?_)) | (refine so_is (.makeSlice 27 _ _) ?_; (refine so_make (by_ := 8) (z := .int .i64 0) (y := .lit (.int .i64 0)) rfl rfl (by kernel_rfl) (by kernel_rfl) rfl (fun _ => .lit _ rfl) (by (omega)) (by (omega)) (by (omega)) rfl ?_)) | (refine so_is (.buildSlice 24 1 _) ?_; (apply so_bslice (sz := 1) (by_ := 24); (· kernel_rfl); (· decide); (· (repeat (first | exact GvS.nil _ | apply GvS.c rfl rfl (.row _ _ _ _ rfl (by ((simp; done)))) rfl))); (· (decide)); (· rfl); (· rfl); (· rfl))) | (refine so_is (.call ⟨.builtin .append, _, #[24, 24]⟩) ?_; ((apply so_appR (sz := 1) (by_ := 24); (· rfl); (· rfl); (· ((simp; done))); (· exact .row _ _ _ _ rfl (by ((simp; done)))); (· (decide)); (· kernel_rfl); (· decide); (· (omega)); (· (omega)); (· rfl); (· rfl); (· rfl)))) | (refine so_is (.store 24 _ _) ?_; (refine so_store_box1 rfl rfl rfl rfl (by kernel_rfl) rfl rfl ?_)) | (refine so_is (.binOp .add 3 _ _ _) ?_; refine so_q (qt_addI rfl rfl (by (omega))) rfl ?_) | refine so_nil ?_ | refine sk_seq ?_ | refine sk_block ?_ | refine sk_blk ?_ | refine sk_exit rfl ?_ | refine sk_skip ?_ | refine sk_region ?_ | refine sk_drawQ 5 (fun i => i == 4 || i == 6) (.step 0 true (.step 1 true (.step 2 false (.step 3 false (.step 4 false (.step 5 true (.step 6 false .nil))))))) [(0, 127, 127, true), (1, 126, 127, false), (0, 127, 127, false), (4, 123, 127, false), (10, 117, 127, false), (31, 127, 111, true), (63, 79, 111, false)] (by kernel_rfl) (by kernel_rfl) ?_ | refine sk_if rfl (fun hc => ?_) (fun hc => ?_))
    all_goals first | (exfalso; omega) | skip
    refine sk_back ?_; refine ⟨q + 1, ?_, ?_, le_at rfl (by (repeat (first | exact trivial | refine ⟨(by (rfl)), ?_⟩))) (by (repeat (first | exact trivial | refine ⟨rfl, ?_⟩))) (by (repeat (first | exact trivial | refine ⟨(by (first | (refine row_eq rfl ?_; simp  [gridF_snoc, er]; done) | rfl)), ?_⟩))) (by (repeat (first | exact trivial | refine ⟨.inr rfl, ?_⟩)))⟩
    · omega
    · omega
  have e8 : q = 8 := by omega
  subst e8
  have gz := grid_zero (N := 0) (by omega)
  generalize gridF (fun _ _ => 0) 8 8 = A0 at gz ⊢
  repeat' (first | (refine so_is (.assign _) ?_; (refine so_q (qt_asC rfl) rfl ?_)) | (refine so_is (.move _) ?_; (refine so_q (qt_mvC rfl) rfl ?_)) | (refine so_is (.binOp .lss 3 _ _ _) ?_; refine so_q (qt_lss rfl rfl) rfl ?_) | (refine so_is (.binOp .add 3 _ _ _) ?_; refine so_q (qt_addI rfl rfl (by (omega))) rfl ?_) | (refine so_is (.call ⟨.value (.func 113), _, _⟩) ?_; (apply so_callX (fid := 113); (· rfl); (· rfl); (· (repeat (first | exact BxI.nil | apply BxI.ks | (apply BxI.o; (· (exact .lit _)))))); (· (repeat (first | exact ArX.nil | apply ArX.v (.c (.d _))))); (· (decide)); (· (decide)); (· exact curPick_p code _ _ _ (by omega) (by omega)); (· rfl); (· (intro b hb1 hb2; omega)); (· rfl); (rintro _ _ ⟨a1, s1, ha1, rfl, x1, hx1, rfl⟩; refine ⟨(by first | rfl | simp [*]), ?_⟩))) | refine so_nil ?_ | refine sk_seq ?_ | refine sk_block ?_ | refine sk_exit rfl ?_ | refine sk_region ?_ | refine sk_false rfl ?_)
  all_goals first | (exfalso; omega) | skip
  have la := gz.len
  apply sk_packC [0, 2, 3, 5] [2, 3, 8, 9, 12, 20, 21, 22, 31, 39, 40, 75, 103, 129, 1045, 1051, 1060, 1080, 1089, 1094, 3057, 800000000, 900000000] rfl; (· (repeat (first | exact Pf.nil | apply Pf.cons (.c rfl (.d rfl)) | apply Pf.cons (.c rfl (.lp rfl))))); (· (repeat (first | exact Pb.nil | apply Pb.cons (.row rfl) | (apply Pb.cons; (· apply Nb.box rfl; (repeat (first | exact Ncs.nil rfl | (apply Ncs.cons rfl; (· (first | exact .d rfl | exact .ls rfl))))))) | apply Pb.cons (.any rfl) | apply Pb.skip)))
  refine sk_loopL [0, 2, 3] [2, 20, 21, 22, 31, 39, 40, 1045, 8, 1051, 3057, 1060, 9, 75, 1080, 1089, 1094, 103, 129, 900000000] (fun g : Nat × Int × List (List Int) × Int × Int => [(5, iZ (1 + x1 - g.1))]) (fun g => [(800000000, .box [.d (.same (kv 0) (eB code)), .d (dI g.2.2.2.1), .d (dW g.2.2.2.2)]), (3, .box [.d (dI g.2.1), .ls 12 1 0 g.2.2.1.length]), (12, .row 1 (cII g.2.2.1))]) (fun g => ((g.1 : Int) ≤ 1 + x1 ∧ a ≤ g.2.2.2.1 ∧ g.2.2.2.1 ≤ a + 2 + 60 * g.1) ∧ (0 ≤ g.2.1 ∧ g.2.1 ≤ 10 * g.1) ∧ GridP (10 * g.1) g.2.2.1) (fun g => (1 + x1 - g.1).toNat) ((0, 0, A0, a1, s1)) ?_ (by (repeat (first | exact trivial | refine ⟨(by ((refine int_eq rfl ?_; (omega)))), ?_⟩))) (by (repeat (first | exact trivial | refine ⟨(by (first | (refine row_eq rfl ?_; simp  [la]; done) | (refine box_eq rfl ?_; simp  [la]; done))), ?_⟩))) ?_
  · exact ⟨by dsimp only; omega, by dsimp only; omega, gz⟩
  rintro ⟨j, n, A, a2, s2⟩ ⟨hj, hn, gA⟩
  dsimp only at hj hn gA ⊢
  have la := gA.len
  by_cases hj1 : (j : Int) < 1 + x1
  · repeat' (first | (refine so_is (.assign _) ?_; (refine so_q (qt_asC rfl) rfl ?_)) | (refine so_is (.move _) ?_; (refine so_q (qt_mvC rfl) rfl ?_)) | (refine so_is (.binOp .gtr 3 _ _ _) ?_; refine so_q (qt_gtr rfl rfl) rfl ?_) | (refine so_is (.buildSlice 27 0 _) ?_; (apply so_bslice (sz := 1) (by_ := 8); (· kernel_rfl); (· decide); (· (repeat (exact GvS.nil _))); (· (decide)); (· rfl); (· rfl); (· rfl))) | refine so_nil ?_ | refine sk_seq ?_ | refine sk_block ?_ | refine sk_exit rfl ?_ | refine sk_skip ?_ | refine sk_region ?_ | refine sk_if rfl (fun hc => ?_) (fun hc => ?_))
    all_goals first | (exfalso; omega) | skip
    apply sk_packC [0, 2, 3, 5, 6, 7] [2, 3, 8, 9, 12, 20, 21, 22, 31, 39, 40, 75, 103, 129, 1045, 1051, 1060, 1080, 1089, 1094, 3057, 800000000, 900000000] rfl; (· (repeat (first | exact Pf.nil | apply Pf.cons (.c rfl (.d rfl)) | apply Pf.cons (.c rfl (.ls rfl)) | apply Pf.cons (.c rfl (.lp rfl))))); (· (repeat (first | exact Pb.nil | apply Pb.cons (.row rfl) | (apply Pb.cons; (· apply Nb.box rfl; (repeat (first | exact Ncs.nil rfl | (apply Ncs.cons rfl; (· (first | exact .d rfl | exact .ls rfl))))))) | apply Pb.cons (.any rfl) | apply Pb.skip)))
    refine sk_loopL [0, 2, 3, 5] [2, 12, 3, 20, 21, 22, 39, 40, 1045, 8, 1051, 3057, 1060, 9, 75, 1080, 1089, 1094, 103, 129, 900000000] (fun g : List Int × Int × Int => [(7, iN g.1.length), (6, .c (.ls 31 1 0 g.1.length))]) (fun g => [(800000000, .box [.d (.same (kv 0) (eB code)), .d (dI g.2.1), .d (dW g.2.2)]), (31, .row 1 (cI g.1))]) (fun g => (g.1.length ≤ 8 ∧ a2 ≤ g.2.1 ∧ g.2.1 ≤ a2 + 2 * g.1.length) ∧ bitsB g.1 (g.1.length : Int) = true) (fun g => 8 - g.1.length) (([], a2, s2)) ?_ (by (repeat (first | exact trivial | refine ⟨(by (rfl)), ?_⟩))) (by (repeat (first | exact trivial | refine ⟨(by (first | (refine row_eq rfl ?_; simp; done) | (refine box_eq rfl ?_; simp; done))), ?_⟩))) ?_
    · exact ⟨by dsimp only; simp, rfl⟩
    rintro ⟨L, a3, s3⟩ ⟨hL, bL⟩
    dsimp only at hL bL ⊢
    by_cases hL8 : L.length < 8
    · repeat' (first | (refine so_is (.assign _) ?_; (refine so_q (qt_asC rfl) rfl ?_)) | (refine so_is (.move _) ?_; (refine so_q (qt_mvC rfl) rfl ?_)) | (refine so_is (.binOp .lss 3 _ _ _) ?_; refine so_q (qt_lss rfl rfl) rfl ?_) | (refine so_is (.binOp .add 3 _ _ _) ?_; refine so_q (qt_addI rfl rfl (by (omega))) rfl ?_) | (refine so_is (.buildSlice 27 1 _) ?_; (apply so_bslice (sz := 1) (by_ := 8); (· kernel_rfl); (· decide); (· (repeat (first | exact GvS.nil _ | apply GvS.c rfl rfl (.lit _) rfl))); (· (decide)); (· rfl); (· rfl); (· rfl))) | (refine so_is (.call ⟨.builtin .append, _, #[27, 27]⟩) ?_; ((apply so_appR (sz := 1) (by_ := 8); (· rfl); (· rfl); (· ((simp; done))); (· exact .row _ _ _ _ rfl (by ((simp; done)))); (· (decide)); (· kernel_rfl); (· decide); (· (omega)); (· (omega)); (· rfl); (· rfl); (· rfl)))) | (refine so_is (.call ⟨.value (.func 113), _, _⟩) ?_; (apply so_callX (fid := 113); (· rfl); (· rfl); (· (repeat (first | exact BxI.nil | apply BxI.ks | (apply BxI.o; (· (exact .lit _)))))); (· (repeat (first | exact ArX.nil | apply ArX.v (.c (.d _))))); (· (decide)); (· (decide)); (· exact curPick_p code _ _ _ (by omega) (by omega)); (· rfl); (· (intro b hb1 hb2; omega)); (· rfl); (rintro _ _ ⟨a4, s4, ha4, rfl, x4, hx4, rfl⟩; refine ⟨(by first | rfl | simp [*]), ?_⟩))) | refine so_nil ?_ | refine sk_seq ?_ | refine sk_block ?_ | refine sk_blk ?_ | refine sk_exit rfl ?_ | refine sk_skip ?_ | refine sk_region ?_ | refine sk_if rfl (fun hc => ?_) (fun hc => ?_))
      all_goals first | (exfalso; omega) | skip
      refine sk_back ?_; refine ⟨(L ++ [x4], a4, s4), ?_, ?_, le_at rfl (by (repeat (first | exact trivial | refine ⟨(by (first | (refine int_eq rfl ?_; ((simp; done))) | (refine ls_eq rfl ?_; ((simp; done))))), ?_⟩))) (by (repeat (first | exact trivial | refine ⟨rfl, ?_⟩))) (by (repeat (first | exact trivial | refine ⟨(by (first | (refine row_eq rfl ?_; simp; done) | rfl)), ?_⟩))) (by (repeat (first | exact trivial | refine ⟨.inr rfl, ?_⟩)))⟩
      · dsimp only
        rw [List.length_append, List.length_singleton]
        exact ⟨by omega, bits_snoc bL (by omega) (by omega)⟩
      · dsimp only
        rw [List.length_append, List.length_singleton]
        omega
    have e8 : L.length = 8 := by omega
    have bL : bitsB L 8 = true := by rw [e8] at bL; exact bL
    have b2 : ∀ x y : Int, 0 ≤ x ∧ x ≤ 1 → 0 ≤ y ∧ y ≤ 1 → bitsB [x, y] 2 = true := fun x y hx hy => by
      have hx := inB_iff.2 hx
      have hy := inB_iff.2 hy
      simp [bitsB, allB, hx, hy]
    repeat' (first | (refine so_is (.alloc 88) ?_; refine so_alloc (zs := [.int .i64 0, .slice none 0 0]) (by kernel_rfl) rfl ?_) | (refine so_is (.store 88 _ _) ?_; (refine so_store_box rfl rfl rfl (by kernel_rfl) rfl rfl ?_)) | (refine so_is (.assign _) ?_; (refine so_q (qt_asC rfl) rfl ?_)) | (refine so_is (.move _) ?_; (refine so_q (qt_mvC rfl) rfl ?_)) | (refine so_is (.binOp .lss 3 _ _ _) ?_; refine so_q (qt_lss rfl rfl) rfl ?_) | (refine so_is (.binOp .add 3 _ _ _) ?_; refine so_q (qt_addI rfl rfl (by (omega))) rfl ?_) | (refine so_is (.buildSlice 27 1 _) ?_; (apply so_bslice (sz := 1) (by_ := 8); (· kernel_rfl); (· decide); (· (repeat (first | exact GvS.nil _ | apply GvS.c rfl rfl (.lit _) rfl))); (· (decide)); (· rfl); (· rfl); (· rfl))) | (refine so_is (.call ⟨.builtin .append, _, #[27, 27]⟩) ?_; ((apply so_appR (sz := 1) (by_ := 8); (· rfl); (· rfl); (· ((simp; done))); (· exact .row _ _ _ _ rfl (by ((simp; done)))); (· (decide)); (· kernel_rfl); (· decide); (· (omega)); (· (omega)); (· rfl); (· rfl); (· rfl)))) | (refine so_is (.call ⟨.value (.func 113), _, _⟩) ?_; (apply so_callX (fid := 113); (· rfl); (· rfl); (· (repeat (first | exact BxI.nil | apply BxI.ks | (apply BxI.o; (· (exact .lit _)))))); (· (repeat (first | exact ArX.nil | apply ArX.v (.c (.d _))))); (· (decide)); (· (decide)); (· exact curPick_p code _ _ _ (by omega) (by omega)); (· rfl); (· (intro b hb1 hb2; omega)); (· rfl); (rintro _ _ ⟨a4, s4, ha4, rfl, x4, hx4, rfl⟩; refine ⟨(by first | rfl | simp [*]), ?_⟩))) | (refine so_is (.call ⟨.value (.func 192), _, _⟩) ?_; (apply so_callE (fid := 192); (· (repeat (first | exact SeA.nil | apply SeA.cons (.c (.d _)) | apply SeA.cons (.c (.all _ _ _ _ rfl (by ((simp; done)))))))); (· exact l11PlayedE_p _ _ bL (by omega) (by omega)); (· rfl); (rintro _ ⟨n8, l8, h8, rfl⟩))) | refine so_nil ?_ | refine sk_seq ?_ | refine sk_block ?_ | refine sk_blk ?_ | refine sk_exit rfl ?_ | refine sk_skip ?_ | refine sk_region (id := 11) ?_ | refine sk_region (id := 13) ?_ | refine sk_region (id := 12) ?_ | refine sk_region (id := 14) ?_ | refine sk_if rfl (fun hc => ?_) (fun hc => ?_))
    all_goals first | (exfalso; omega) | skip
    refine sk_region (id := 15) ?_
    all_goals ((refine so_q (qt_mvC rfl) rfl ?_))
    all_goals ((apply so_callX (fid := 113); (· rfl); (· rfl); (· (repeat (first | exact BxI.nil | apply BxI.ks | (apply BxI.o; (· (exact .lit _)))))); (· (repeat (first | exact ArX.nil | apply ArX.v (.c (.d _))))); (· (decide)); (· (decide)); (· exact curPick_p code _ _ _ (by omega) (by omega)); (· rfl); (· (intro b hb1 hb2; omega)); (· rfl); (rintro _ _ ⟨a5, s5, ha5, rfl, x5, hx5, rfl⟩; refine ⟨(by first | rfl | simp [*]), ?_⟩)))
    all_goals refine so_nil ?_
    repeat' refine sk_seq ?_
    apply sk_packC [0, 2, 3, 5, 6, 8, 47] [2, 3, 8, 12, 20, 21, 22, 31, 39, 40, 1045, 800000000, 900000000] rfl; (· (repeat (first | exact Pf.nil | apply Pf.cons (.c rfl (.d rfl)) | apply Pf.cons (.c rfl (.ls rfl)) | apply Pf.cons (.c rfl (.lp rfl))))); (· (repeat (first | exact Pb.nil | apply Pb.cons (.row rfl) | (apply Pb.cons; (· apply Nb.box rfl; (repeat (first | exact Ncs.nil rfl | (apply Ncs.cons rfl; (· (first | exact .d rfl | exact .ls rfl))))))) | apply Pb.cons (.any rfl) | apply Pb.skip)))
    refine sk_join [0, 2, 3, 5, 8] [2, 12, 3, 20, 21, 22, 31, 39, 40, 1045, 900000000] (fun g : Int × Int × Int × List (List Int) => []) (fun g => [(800000000, .box [.d (.same (kv 0) (eB code)), .d (dI g.1), .d (dW g.2.1)]), (8, .box [.d (dI g.2.2.1), .d (eII g.2.2.2)])]) (fun g => (a3 ≤ g.1 ∧ g.1 ≤ a3 + 20) ∧ trioB g.2.2.1 g.2.2.2 = true ∧ g.2.2.1 ≤ 10) ?_ ?_
    · repeat' (first | refine so_alt ?_ ?_ | (refine so_is (.alloc 88) ?_; refine so_alloc (zs := [.int .i64 0, .slice none 0 0]) (by kernel_rfl) rfl ?_) | (refine so_is (.store 88 _ _) ?_; (refine so_store_box rfl rfl rfl (by kernel_rfl) rfl rfl ?_)) | (refine so_is (.assign _) ?_; (refine so_q (qt_asC rfl) rfl ?_)) | (refine so_is (.move _) ?_; (first | refine so_q (qt_mvC rfl) rfl ?_ | refine so_q (qt_mvT rfl) rfl ?_)) | (refine so_is (.binOp .add 3 _ _ _) ?_; refine so_q (qt_addI rfl rfl (by (omega))) rfl ?_) | (refine so_is (.binOp .eql 3 _ _ _) ?_; refine so_q (qt_eql rfl rfl) rfl ?_) | (refine so_is (.slice 27 _ none (some _) none) ?_; (refine so_q (qt_slice_ls01 rfl rfl (by kernel_rfl) (by (omega)) (by (omega))) rfl ?_)) | (refine so_is (.extract _ _) ?_; refine so_q (qt_extract rfl rfl) rfl ?_) | (refine so_is (.load 88 _) ?_; (refine so_q (qt_load_boxs rfl rfl (by kernel_rfl : tAgg _ 88 2 = true) rfl) rfl ?_)) | (refine so_is (.buildSlice 27 2 _) ?_; (apply so_bslice (sz := 1) (by_ := 8); (· kernel_rfl); (· decide); (· (repeat (first | exact GvS.nil _ | apply GvS.c rfl rfl (.lit _) rfl))); (· (decide)); (· rfl); (· rfl); (· rfl))) | (refine so_is (.call ⟨.value (.func 113), _, _⟩) ?_; (apply so_callX (fid := 113); (· rfl); (· rfl); (· (repeat (first | exact BxI.nil | apply BxI.ks | (apply BxI.o; (· (exact .lit _)))))); (· (repeat (first | exact ArX.nil | apply ArX.v (.c (.d _))))); (· (decide)); (· (decide)); (· exact curPick_p code _ _ _ (by omega) (by omega)); (· rfl); (· (intro b hb1 hb2; omega)); (· rfl); (rintro _ _ ⟨a5, s5, ha5, rfl, x7, hx7, rfl⟩; refine ⟨(by first | rfl | simp [*]), ?_⟩))) | (refine so_is (.call ⟨.value (.func 193), _, _⟩) ?_; (apply so_callE (fid := 193); (· (repeat (first | exact SeA.nil | apply SeA.cons (.c (.all _ _ _ _ rfl (by ((simp; done)))))))); (· exact l11SumsE_p _ bL); (· rfl); (rintro _ ⟨n8, l8, h8, rfl⟩))) | (refine so_is (.call ⟨.value (.func 194), _, _⟩) ?_; (apply so_call0 (fid := 194); (· (repeat (first | exact SeA.nil | apply SeA.cons (.c (.d _))))); (· exact l6SumZ_p _ (by omega) (by omega)); (· rfl))) | (refine so_is (.call ⟨.value (.func 63), _, _⟩) ?_; (apply so_callE (fid := 63); (· (repeat (first | exact SeA.nil | apply SeA.cons (.c (.d _)) | (apply SeA.cons; (· (apply SeP.g; (repeat (first | exact SeL.nil | apply SeL.cons (.d _)))))) | apply SeA.cons (.c (.row _ _ _ _ _ rfl (by ((simp; omega)))))))); (· exact spAddThirdP_p _ L _ _ (by omega) rfl rfl); (· rfl); (rintro _ ⟨n9, l9, b9, h9, rfl⟩))) | (refine so_is (.call ⟨.value (.func 143), _, _⟩) ?_; (apply so_callX (fid := 143); (· rfl); (· rfl); (· (repeat (first | exact BxI.nil | apply BxI.ks | (apply BxI.o; (· (exact .lit _)))))); (· (repeat (first | exact ArX.nil | apply ArX.v (.c (.d _))))); (· (decide)); (· (decide)); (· exact curOne_p code _ _ _ (by omega) (by omega)); (· rfl); (· (intro b hb1 hb2; omega)); (· rfl); (rintro _ _ ⟨a5, s5, ha5, rfl, b4, rfl⟩; refine ⟨(by first | rfl | simp [*]), ?_⟩))) | (refine so_is (.call ⟨.value (.func 132), _, _⟩) ?_; (apply so_callE (fid := 132); (· (repeat (first | exact SeA.nil | apply SeA.cons (.c (.d _)) | apply SeA.cons (.c (.all _ _ _ _ rfl (by ((simp; done)))))))); (· exact l11GroupedE_p _ _ _ _ (by omega) (b2 _ _ (by omega) (by omega)) bL (by omega) (by omega)); (· rfl); (rintro _ ⟨n8, l8, h8, rfl⟩))) | refine so_nil ?_ | refine sk_seq ?_ | refine sk_block ?_ | refine sk_blk ?_ | refine sk_skip ?_ | refine sk_region ?_ | refine sk_drawQ 19 (fun i => i == 1 || i == 10) (.step 0 true (.step 3 true (.step 4 true (.alt 19 (.step 1 false (.alt 19 (.step 2 false (.alt 19 (.step 5 false (.step 6 true (.step 7 true (.step 8 true (.step 9 false (.step 10 false (.step 11 true .nil))))))) (.step 9 false (.step 5 false (.step 6 true (.step 7 true (.step 8 true (.step 10 false (.step 11 true .nil))))))))) (.step 9 false (.step 2 false (.step 5 false (.step 6 true (.step 7 true (.step 8 true (.step 10 false (.step 11 true .nil)))))))))) (.step 9 false (.step 1 false (.step 2 false (.step 5 false (.step 6 true (.step 7 true (.step 8 true (.step 10 false (.step 11 true .nil))))))))))))) [(0, 4095, 4095, true), (1, 4094, 4095, false), (2, 4093, 4093, false), (0, 4095, 4093, true), (8, 4087, 4093, true), (20, 4075, 4093, false), (32, 4063, 4093, true), (64, 4031, 4093, true), (64, 4031, 3069, true), (0, 4095, 4093, false), (767, 3455, 4093, false), (2047, 3839, 3069, true)] (by kernel_rfl) (by kernel_rfl) ?_ | refine sk_if rfl (fun hc => ?_) (fun hc => ?_) | refine sk_cond rfl (fun hc => ?_) (fun hc => ?_))
      all_goals first | (exfalso; omega) | skip
      all_goals first | (have h8 := h9 (by simpa using hc); generalize n9 = n8 at *; generalize l9 = l8 at *) | skip
      all_goals
        refine sk_back ?_; refine ⟨(a5, s5, n8, l8), ?_, trivial, le_at rfl (by (repeat (exact trivial))) (by (repeat (first | exact trivial | refine ⟨rfl, ?_⟩))) (by (repeat (first | exact trivial | refine ⟨(by (first | (refine box_eq rfl ?_; simp; done) | rfl)), ?_⟩))) (by (repeat (first | exact trivial | refine ⟨.inr rfl, ?_⟩)))⟩
        exact ⟨by dsimp only; omega, h8⟩
    rintro ⟨a6, s6, n8, l8⟩ ⟨ha6, h8, h8n⟩
    dsimp only at ha6 h8 h8n ⊢
    have h8m := trioB_spec h8
    repeat' (first | (refine so_is (.assign _) ?_; (refine so_q (qt_asC rfl) rfl ?_)) | (refine so_is (.move _) ?_; (refine so_q (qt_mvC rfl) rfl ?_)) | (refine so_is (.call ⟨.value (.func 113), _, _⟩) ?_; (apply so_callX (fid := 113); (· rfl); (· rfl); (· (repeat (first | exact BxI.nil | apply BxI.ks | (apply BxI.o; (· (exact .lit _)))))); (· (repeat (first | exact ArX.nil | apply ArX.v (.c (.d _))))); (· (decide)); (· (decide)); (· exact curPick_p code _ _ _ (by omega) (by omega)); (· rfl); (· (intro b hb1 hb2; omega)); (· rfl); (rintro _ _ ⟨a5, s5, ha5, rfl, x5, hx5, rfl⟩; refine ⟨(by first | rfl | simp [*]), ?_⟩))) | refine so_nil ?_ | refine sk_seq ?_ | refine sk_block ?_ | refine sk_region ?_)
    all_goals first | (exfalso; omega) | skip
    apply sk_packC [0, 2, 3, 5, 8, 11] [2, 3, 8, 9, 12, 20, 21, 22, 31, 39, 40, 75, 103, 129, 1045, 1051, 1060, 1080, 1089, 1094, 3057, 800000000, 900000000] rfl; (· (repeat (first | exact Pf.nil | apply Pf.cons (.c rfl (.d rfl)) | apply Pf.cons (.c rfl (.lp rfl))))); (· (repeat (first | exact Pb.nil | apply Pb.cons (.row rfl) | (apply Pb.cons; (· apply Nb.box rfl; (repeat (first | exact Ncs.nil rfl | (apply Ncs.cons rfl; (· (first | exact .d rfl | exact .ls rfl))))))) | apply Pb.cons (.any rfl) | apply Pb.skip)))
    refine sk_loopL [0, 2, 3, 5, 8] [2, 12, 3, 20, 21, 22, 31, 39, 40, 1045, 1051, 3057, 1060, 9, 75, 1080, 1089, 1094, 103, 129, 900000000, 800000000] (fun g : Nat × List (List Int) => [(11, iZ (x5 - g.1))]) (fun g => [(8, .box [.d (dI n8), .d (eII g.2)])]) (fun g => (g.1 : Int) ≤ x5 ∧ trioB n8 g.2 = true) (fun g => (x5 - g.1).toNat) ((0, l8)) ?_ (by (repeat (first | exact trivial | refine ⟨(by ((refine int_eq rfl ?_; (omega)))), ?_⟩))) (by (repeat (first | exact trivial | refine ⟨(by ((refine box_eq rfl ?_; simp; done))), ?_⟩))) ?_
    · exact ⟨by dsimp only; omega, h8⟩
    rintro ⟨t, lt⟩ ⟨ht, hT⟩
    dsimp only at ht hT ⊢
    by_cases ht1 : (t : Int) < x5
    · repeat' (first | (refine so_is (.store 88 _ _) ?_; (refine so_store_box rfl rfl rfl (by kernel_rfl) rfl rfl ?_)) | (refine so_is (.assign _) ?_; (refine so_q (qt_asC rfl) rfl ?_)) | (refine so_is (.move _) ?_; (first | refine so_q (qt_mvC rfl) rfl ?_ | refine so_q (qt_mvT rfl) rfl ?_)) | (refine so_is (.binOp .gtr 3 _ _ _) ?_; refine so_q (qt_gtr rfl rfl) rfl ?_) | (refine so_is (.extract _ _) ?_; refine so_q (qt_extract rfl rfl) rfl ?_) | (refine so_is (.load 88 _) ?_; (refine so_q (qt_load_boxs rfl rfl (by kernel_rfl : tAgg _ 88 2 = true) rfl) rfl ?_)) | (refine so_is (.binOp .sub 3 _ _ _) ?_; refine so_q (qt_subI rfl rfl (by (omega))) rfl ?_) | (refine so_is (.call ⟨.value (.func 195), _, _⟩) ?_; (apply so_callE (fid := 195); (· (repeat (first | exact SeA.nil | (apply SeA.cons; (· (apply SeP.g; (repeat (first | exact SeL.nil | apply SeL.cons (.d _))))))))); (· exact spTurnTrioE_p _ _ hT (by omega)); (· rfl); (rintro _ ⟨l6, h6, rfl⟩))) | refine so_nil ?_ | refine sk_seq ?_ | refine sk_block ?_ | refine sk_blk ?_ | refine sk_exit rfl ?_ | refine sk_skip ?_ | refine sk_region ?_ | refine sk_if rfl (fun hc => ?_) (fun hc => ?_))
      all_goals first | (exfalso; omega) | skip
      refine sk_back ?_; refine ⟨(t + 1, l6), ?_, ?_, le_at rfl (by (repeat (first | exact trivial | refine ⟨(by ((refine int_eq rfl ?_; (omega)))), ?_⟩))) (by (repeat (first | exact trivial | refine ⟨rfl, ?_⟩))) (by (repeat (first | exact trivial | refine ⟨(by (rfl)), ?_⟩))) (by (repeat (first | exact trivial | refine ⟨.inr rfl, ?_⟩)))⟩
      · exact ⟨by dsimp only; omega, h6⟩
      · dsimp only; omega
    · have gT := trioB_grid hT
      repeat' (first | (refine so_is (.store 88 _ _) ?_; (refine so_store_box rfl rfl rfl (by kernel_rfl) rfl rfl ?_)) | (refine so_is (.move _) ?_; (refine so_q (qt_mvC rfl) rfl ?_)) | (refine so_is (.binOp .gtr 3 _ _ _) ?_; refine so_q (qt_gtr rfl rfl) rfl ?_) | (refine so_is (.load 88 _) ?_; (refine so_q (qt_load_boxs rfl rfl (by kernel_rfl : tAgg _ 88 2 = true) rfl) rfl ?_)) | (refine so_is (.call ⟨.value (.func 196), _, _⟩) ?_; (apply so_callO0 (fid := 196); (· (repeat (first | exact SeA.nil | (apply SeA.cons; (· (apply SeP.g; (repeat (first | exact SeL.nil | apply SeL.cons (.d _) | apply SeL.cons (.all _ _ _ _ rfl (by ((simp; done)))))))))))); (· exact l11MixG_p _ _ _ _ _ _ gA gT (by omega) (by omega) (by omega) (by omega)); (· rfl); (· rfl))) | refine so_nil ?_ | refine sk_seq ?_ | refine sk_block ?_ | refine sk_blk ?_ | refine sk_exit rfl ?_ | refine sk_skip ?_ | refine sk_region (id := 26) ?_ | refine sk_region (id := 28) ?_ | refine sk_region (id := 29) ?_ | refine sk_if rfl (fun hc => ?_) (fun hc => ?_))
      all_goals first | (exfalso; omega) | skip
      refine sk_ghost (sim_forget 12) ?_
      refine sk_ghost (sim_ren 1094 12 rfl rfl rfl rfl) ?_
      repeat' (first | (refine so_is (.assign _) ?_; (refine so_q (qt_asC rfl) rfl ?_)) | (refine so_is (.move _) ?_; (refine so_q (qt_mvC rfl) rfl ?_)) | (refine so_is (.binOp .sub 3 _ _ _) ?_; refine so_q (qt_subI rfl rfl (by (omega))) rfl ?_) | refine so_nil ?_ | refine sk_region ?_)
      have gM := (grid_mix gA gT).mono (M := 10 * ((j + 1 : Nat) : Int)) (by omega)
      refine sk_back ?_; refine ⟨(j + 1, n + n8, gridF (mixF A lt) 8 8, a5, s5), ?_, ?_, le_at rfl (by (repeat (first | exact trivial | refine ⟨(by ((refine int_eq rfl ?_; (omega)))), ?_⟩))) (by (repeat (first | exact trivial | refine ⟨rfl, ?_⟩))) (by (repeat (first | exact trivial | refine ⟨(by (first | (refine row_eq rfl ?_; simp; done) | rfl)), ?_⟩))) (by (repeat (first | exact trivial | refine ⟨.inr rfl, ?_⟩ | refine ⟨.inl rfl, ?_⟩)))⟩
      · exact ⟨by dsimp only; omega, by dsimp only; omega, gM⟩
      · dsimp only; omega
  · obtain ⟨R0, R1, R2, R3, R4, R5, R6, R7, rfl⟩ := rows8 la
    have lR : R0.length = 8 := (gA.row 0 (by decide) (by decide)).1
    obtain ⟨y0, y1, y2, y3, y4, y5, y6, y7, rfl⟩ := len8 lR
    repeat' (first | (refine so_is (.assign _) ?_; (refine so_q (qt_asC rfl) rfl ?_)) | (refine so_is (.move _) ?_; (refine so_q (qt_mvC rfl) rfl ?_)) | (refine so_is (.binOp .gtr 3 _ _ _) ?_; refine so_q (qt_gtr rfl rfl) rfl ?_) | (refine so_is (.buildSlice 27 0 _) ?_; (apply so_bslice (sz := 1) (by_ := 8); (· kernel_rfl); (· decide); (· (repeat (exact GvS.nil _))); (· (decide)); (· rfl); (· rfl); (· rfl))) | (refine so_is (.call ⟨.value (.func 113), _, _⟩) ?_; (apply so_callX (fid := 113); (· rfl); (· rfl); (· (repeat (first | exact BxI.nil | apply BxI.ks | (apply BxI.o; (· (exact .lit _)))))); (· (repeat (first | exact ArX.nil | apply ArX.v (.c (.d _))))); (· (decide)); (· (decide)); (· exact curPick_p code _ _ _ (by omega) (by omega)); (· rfl); (· (intro b hb1 hb2; omega)); (· rfl); (rintro _ _ ⟨a5, s5, ha5, rfl, x5, hx5, rfl⟩; refine ⟨(by first | rfl | simp [*]), ?_⟩))) | refine so_nil ?_ | refine sk_seq ?_ | refine sk_block ?_ | refine sk_exit rfl ?_ | refine sk_skip ?_ | refine sk_region (id := 7) ?_ | refine sk_region (id := 9) ?_ | refine sk_region (id := 10) ?_ | refine sk_region (id := 30) ?_ | refine sk_if rfl (fun hc => ?_) (fun hc => ?_))
    all_goals first | (exfalso; omega) | skip
    repeat' (first | (refine so_is (.build 88 _) ?_; refine so_q (qt_build (cs := [_, _]) [(0, 1), (1, 1)] [.int .i64 0, .slice none 0 0] (by kernel_rfl) (by kernel_rfl) rfl) rfl ?_) | (refine so_is (.store 88 _ _) ?_; (refine so_store_box rfl rfl rfl (by kernel_rfl) rfl rfl ?_)) | (refine so_is (.assign _) ?_; (refine so_q (qt_asC rfl) rfl ?_)) | (refine so_is (.move _) ?_; (refine so_q (qt_mvC rfl) rfl ?_)) | (refine so_is (.binOp .add 3 _ _ _) ?_; refine so_q (qt_addI rfl rfl (by (omega))) rfl ?_) | (refine so_is (.binOp .eql 3 _ _ _) ?_; refine so_q (qt_eql rfl rfl) rfl ?_) | (refine so_is (.fieldAddr 88 _ 0) ?_; (refine so_q (qt_fld_lp (off := 0) rfl (by kernel_rfl)) rfl ?_)) | (refine so_is (.load 3 _) ?_; (refine so_q (qt_load_box rfl rfl (by kernel_rfl) rfl) rfl ?_)) | (refine so_is (.buildSlice 27 4 _) ?_; (apply so_bslice (sz := 1) (by_ := 8); (· kernel_rfl); (· decide); (· (repeat (first | exact GvS.nil _ | apply GvS.c rfl rfl (.lit _) rfl))); (· (decide)); (· rfl); (· rfl); (· rfl))) | (refine so_is (.store 3 _ _) ?_; (refine so_store_box1 rfl rfl rfl rfl (by kernel_rfl) rfl rfl ?_)) | (refine so_is (.call ⟨.value (.func 77), _, _⟩) ?_; (apply so_callX (fid := 77); (· rfl); (· rfl); (· (repeat (first | exact BxI.nil | apply BxI.ks | (apply BxI.o; (· (exact .lit _)))))); (· (repeat (first | exact ArX.nil | apply ArX.v (.c (.row _ _ _ _ rfl (by ((simp; done)))))))); (· (decide)); (· (decide)); (· exact curAmongD_p code _ _ _ _ (fun _ => True) rfl (by decide) (by repeat (first | exact fun x hx => absurd hx List.not_mem_nil | (refine List.forall_mem_cons.2 ⟨⟨_, rfl, trivial⟩, ?_⟩))) (by omega) (by omega)); (· rfl); (· (intro b hb1 hb2; omega)); (· rfl); (rintro _ _ ⟨a6, s6, ha6, rfl, k6, -, rfl⟩; refine ⟨(by first | rfl | simp [*]), ?_⟩))) | refine so_nil ?_ | refine sk_seq ?_ | refine sk_blk ?_ | refine sk_skip ?_ | refine sk_region (id := 31) ?_ | refine sk_region (id := 32) ?_ | refine sk_region (id := 33) ?_ | refine sk_region (id := 35) ?_ | refine sk_region (id := 37) ?_ | refine sk_region (id := 39) ?_ | refine sk_region (id := 40) ?_ | refine sk_if rfl (fun hc => ?_) (fun hc => ?_))
    all_goals first | (exfalso; omega) | skip
    · refine sk_ghost (sim_dem 12 1 rfl) ?_
      repeat' (first | (refine so_is (.store 88 _ _) ?_; (refine so_store_box rfl rfl rfl (by kernel_rfl) rfl rfl ?_)) | (refine so_is (.load 88 _) ?_; (refine so_q (qt_load_boxs rfl rfl (by kernel_rfl : tAgg _ 88 2 = true) rfl) rfl ?_)) | refine so_nil ?_ | refine sk_region ?_)
      (apply sk_xvret; (· (apply RetXV.p; (· rfl); (· (repeat (first | exact BxO.nil _ | apply BxO.k | (apply BxO.o; (· (exact .lit _)))))); (· rfl); (· (apply RdA.cons; (· (apply RV.cellN (n := 2); (· rfl); (· rfl); (· kernel_rfl); (· rfl))); (· (apply RdP.g; (· (apply RdL.cons (.d _)); ((apply RdL.cons (.d _))); exact RdL.nil)))); exact RdA.nil); (· (decide)))))
      exact ⟨_, _, by omega, rfl, k6, [_, R1, R2, R3, R4, R5, R6, R7], rfl⟩
    · repeat' (first | (refine so_is (.fieldAddr 88 _ 1) ?_; (refine so_q (qt_fld_lp (off := 1) rfl (by kernel_rfl)) rfl ?_)) | (refine so_is (.load 24 _) ?_; (refine so_q (qt_load_box rfl rfl (by kernel_rfl) rfl) rfl ?_)) | (refine so_is (.store 24 _ _) ?_; (refine so_store_box1 rfl rfl rfl rfl (by kernel_rfl) rfl rfl ?_)) | (refine so_is (.slice 24 _ (some _) none none) ?_; (refine so_q (qt_slice_ls10 rfl rfl (by kernel_rfl) (by (omega)) (by (omega))) rfl ?_)) | refine so_nil ?_ | refine sk_seq ?_ | refine sk_blk ?_ | refine sk_region (id := 34) ?_)
      refine sk_ghost (sim_dem 12 1 rfl) ?_
      repeat' (first | (refine so_is (.store 88 _ _) ?_; (refine so_store_box rfl rfl rfl (by kernel_rfl) rfl rfl ?_)) | (refine so_is (.load 88 _) ?_; (refine so_q (qt_load_boxs rfl rfl (by kernel_rfl : tAgg _ 88 2 = true) rfl) rfl ?_)) | refine so_nil ?_ | refine sk_region ?_)
      (apply sk_xvret; (· (apply RetXV.p; (· rfl); (· (repeat (first | exact BxO.nil _ | apply BxO.k | (apply BxO.o; (· (exact .lit _)))))); (· rfl); (· (apply RdA.cons; (· (apply RV.cellN (n := 2); (· rfl); (· rfl); (· kernel_rfl); (· rfl))); (· (apply RdP.g; (· (apply RdL.cons (.d _)); ((apply RdL.cons (.d _))); exact RdL.nil)))); exact RdA.nil); (· (decide)))))
      exact ⟨_, _, by omega, rfl, n, [R1, R2, R3, R4, R5, R6, R7], rfl⟩
    · refine sk_drawQ 36 (fun i => i == 8) (.step 0 true (.step 1 true (.step 2 true (.step 3 true (.step 4 true (.step 5 true (.step 6 true (.step 7 true (.step 8 false .nil))))))))) [(0, 511, 511, true), (1, 510, 511, false), (0, 511, 511, true), (4, 507, 511, false), (8, 503, 511, true), (16, 495, 511, false), (32, 479, 511, true), (127, 509, 511, true), (255, 319, 511, false)] (by kernel_rfl) (by kernel_rfl) ?_
      all_goals ((refine so_q (qt_fld_lp (off := 1) rfl (by kernel_rfl)) rfl ?_))
      all_goals ((refine so_q (qt_load_box rfl rfl (by kernel_rfl) rfl) rfl ?_))
      all_goals ((refine so_q (qt_fld_lp (off := 1) rfl (by kernel_rfl)) rfl ?_))
      all_goals ((refine so_q (qt_load_box rfl rfl (by kernel_rfl) rfl) rfl ?_))
      all_goals ((refine so_q (qt_idx_ls rfl rfl (by kernel_rfl : tSl _ 24 1 = true) (by (omega)) (by (omega))) rfl ?_))
      all_goals (refine so_thaw (c := 2000) (sz' := 1) (n := 8) (ds' := cI [y0, y1, y2, y3, y4, y5, y6, y7]) rfl rfl (by kernel_rfl) rfl rfl rfl rfl ?_)
      all_goals (refine so_ghost (sim_dem 2000 1 rfl) ?_; refine so_q (qt_slice_dI10 (l := [y0, y1, y2, y3, y4, y5, y6, y7]) rfl rfl (by kernel_rfl) (by decide) (by simp)) rfl ?_)
      all_goals ((refine so_q (qt_idx_ls rfl rfl (by kernel_rfl : tSl _ 24 1 = true) (by (omega)) (by (omega))) rfl ?_))
      all_goals (refine so_store_rowX rfl rfl rfl (by kernel_rfl) rfl ?_)
      all_goals refine so_nil ?_
      repeat' (first | refine sk_seq ?_ | refine sk_blk ?_)
      refine sk_ghost (sim_demX 12 1 0 rfl) ?_
      repeat' (first | (refine so_is (.store 88 _ _) ?_; (refine so_store_box rfl rfl rfl (by kernel_rfl) rfl rfl ?_)) | (refine so_is (.load 88 _) ?_; (refine so_q (qt_load_boxs rfl rfl (by kernel_rfl : tAgg _ 88 2 = true) rfl) rfl ?_)) | refine so_nil ?_ | refine sk_region ?_)
      (apply sk_xvret; (· (apply RetXV.p; (· rfl); (· (repeat (first | exact BxO.nil _ | apply BxO.k | (apply BxO.o; (· (exact .lit _)))))); (· rfl); (· (apply RdA.cons; (· (apply RV.cellN (n := 2); (· rfl); (· rfl); (· kernel_rfl); (· rfl))); (· (apply RdP.g; (· (apply RdL.cons (.d _)); ((apply RdL.cons (.d _))); exact RdL.nil)))); exact RdA.nil); (· (decide)))))
      exact ⟨_, _, by omega, rfl, n, [partZ [y0, y1, y2, y3, y4, y5, y6, y7] 1 (([y0, y1, y2, y3, y4, y5, y6, y7] : List Int).length : Nat), R1, R2, R3, R4, R5, R6, R7], rfl⟩
    · repeat' (first | refine so_alt ?_ ?_ | (refine so_is (.move _) ?_; (refine so_q (qt_mvC rfl) rfl ?_)) | (refine so_is (.fieldAddr 88 _ 1) ?_; (refine so_q (qt_fld_lp (off := 1) rfl (by kernel_rfl)) rfl ?_)) | (refine so_is (.load 24 _) ?_; (refine so_q (qt_load_box rfl rfl (by kernel_rfl) rfl) rfl ?_)) | (refine so_is (.buildSlice 27 2 _) ?_; (apply so_bslice (sz := 1) (by_ := 8); (· kernel_rfl); (· decide); (· (repeat (first | exact GvS.nil _ | apply GvS.c rfl rfl (.lit _) rfl))); (· (decide)); (· rfl); (· rfl); (· rfl))) | (refine so_is (.store 3 _ _) ?_; ((refine so_store_row rfl rfl rfl rfl (.lit _) (by simp) (by simp) (by kernel_rfl) (by ((simp only [List.length_map, List.length_append, List.length_replicate, fillL_len, rowF_len, gridF_len, mkI_len, mkII_len, partZ_min] at *; omega))) rfl ?_; simp only [St.drop]))) | (refine so_is (.indexAddr 24 _ _) ?_; (refine so_q (qt_idx_ls rfl rfl (by kernel_rfl : tSl _ 24 1 = true) (by (omega)) (by (omega))) rfl ?_)) | (refine so_is (.load 27 _) ?_; ((refine so_thaw (c := 2000) (sz' := 1) (n := 8) (ds' := cI [y0, y1, y2, y3, y4, y5, y6, y7]) rfl rfl (by kernel_rfl) rfl rfl rfl rfl ?_))) | (refine so_is (.indexAddr 27 _ _) ?_; (refine so_q (qt_idx_ls rfl rfl (by kernel_rfl : tSl _ 27 1 = true) (by (omega)) (by (omega))) rfl ?_)) | (refine so_is (.call ⟨.value (.func 77), _, _⟩) ?_; (apply so_callX (fid := 77); (· rfl); (· rfl); (· (repeat (first | exact BxI.nil | apply BxI.ks | (apply BxI.o; (· (exact .lit _)))))); (· (repeat (first | exact ArX.nil | apply ArX.v (.c (.row _ _ _ _ rfl (by ((simp; done)))))))); (· (decide)); (· (decide)); (· exact curAmongD_p code _ _ _ _ (fun _ => True) rfl (by decide) (by repeat (first | exact fun x hx => absurd hx List.not_mem_nil | (refine List.forall_mem_cons.2 ⟨⟨_, rfl, trivial⟩, ?_⟩))) (by omega) (by omega)); (· rfl); (· (intro b hb1 hb2; omega)); (· rfl); (rintro _ _ ⟨a6, s6, ha6, rfl, k6, -, rfl⟩; refine ⟨(by first | rfl | simp [*]), ?_⟩))) | refine so_nil ?_ | refine sk_seq ?_ | refine sk_blk ?_ | refine sk_drawQ 38 (fun i => i == 6 || i == 8) (.step 0 true (.step 4 true (.alt 38 (.step 1 false (.step 2 true (.alt 38 (.step 3 false (.step 5 false (.step 6 false (.step 7 true (.step 8 false .nil))))) (.step 5 false (.alt 38 (.step 3 false (.step 6 false (.step 7 true (.step 8 false .nil)))) (.step 6 false (.step 3 true (.step 7 true (.step 8 false .nil))))))))) (.step 5 false (.alt 38 (.step 1 false (.step 2 true (.alt 38 (.step 3 false (.step 6 false (.step 7 true (.step 8 false .nil)))) (.step 6 false (.step 3 true (.step 7 true (.step 8 false .nil))))))) (.step 6 false (.step 1 true (.step 2 true (.step 3 true (.step 7 true (.step 8 false .nil))))))))))) [(0, 511, 447, true), (1, 510, 447, false), (2, 509, 447, true), (4, 507, 447, false), (0, 511, 511, true), (0, 511, 511, false), (48, 463, 511, false), (127, 503, 447, true), (255, 319, 447, false)] (by kernel_rfl) (by kernel_rfl) ?_)
      all_goals
        refine sk_ghost (sim_dem 2000 1 rfl) ?_
        refine sk_ghost (sim_demX 12 1 0 rfl) ?_
        repeat' (first | (refine so_is (.store 88 _ _) ?_; (refine so_store_box rfl rfl rfl (by kernel_rfl) rfl rfl ?_)) | (refine so_is (.load 88 _) ?_; (refine so_q (qt_load_boxs rfl rfl (by kernel_rfl : tAgg _ 88 2 = true) rfl) rfl ?_)) | refine so_nil ?_ | refine sk_region ?_)
        (apply sk_xvret; (· (apply RetXV.p; (· rfl); (· (repeat (first | exact BxO.nil _ | apply BxO.k | (apply BxO.o; (· (exact .lit _)))))); (· rfl); (· (apply RdA.cons; (· (apply RV.cellN (n := 2); (· rfl); (· rfl); (· kernel_rfl); (· rfl))); (· (apply RdP.g; (· (apply RdL.cons (.d _)); ((apply RdL.cons (.d _))); exact RdL.nil)))); exact RdA.nil); (· (decide)))))
        exact ⟨_, _, by omega, rfl, n, [[k6, y1, y2, y3, y4, y5, y6, y7], R1, R2, R3, R4, R5, R6, R7], rfl⟩
    · (apply sk_xvret; (· (apply RetXV.p; (· rfl); (· (repeat (first | exact BxO.nil _ | apply BxO.k | (apply BxO.o; (· (exact .lit _)))))); (· rfl); (· (apply RdA.cons; (· (apply RV.cellN (n := 2); (· rfl); (· rfl); (· kernel_rfl); (· rfl))); (· (apply RdP.g; (· (apply RdL.cons (.d _)); ((apply RdL.cons (.nil 1 (by decide)))); exact RdL.nil)))); exact RdA.nil); (· (decide)))))
      exact ⟨_, _, by omega, rfl, 0, [], rfl⟩
    · refine sk_ghost (sim_dem 12 1 rfl) ?_
      repeat' (first | (refine so_is (.store 88 _ _) ?_; (refine so_store_box rfl rfl rfl (by kernel_rfl) rfl rfl ?_)) | (refine so_is (.load 88 _) ?_; (refine so_q (qt_load_boxs rfl rfl (by kernel_rfl : tAgg _ 88 2 = true) rfl) rfl ?_)) | refine so_nil ?_ | refine sk_region ?_)
      (apply sk_xvret; (· (apply RetXV.p; (· rfl); (· (repeat (first | exact BxO.nil _ | apply BxO.k | (apply BxO.o; (· (exact .lit _)))))); (· rfl); (· (apply RdA.cons; (· (apply RV.cellN (n := 2); (· rfl); (· rfl); (· kernel_rfl); (· rfl))); (· (apply RdP.g; (· (apply RdL.cons (.d _)); ((apply RdL.cons (.d _))); exact RdL.nil)))); exact RdA.nil); (· (decide)))))
      exact ⟨_, _, by omega, rfl, n, [_, R1, R2, R3, R4, R5, R6, R7], rfl⟩

end Go.Proofs.YtefbiejoikpkmaaGreat

namespace Go.Proofs.YtefbiejoikpkmaaGreat
open Go.RowKit
set_option linter.unusedSectionVars false
variable [Glb]
set_option maxRecDepth 10000
set_option maxHeartbeats 4000000
theorem curBitsOf_p (code : Tx) (a s : Int) (m : Nat) (hm : 1 ≤ m ∧ m ≤ 8) (h0 : 0 ≤ a) (h1 : a ≤ 4611686018427385000) : PX Tryz.prog 127 (CurB code a s) [.v (.c (dI m))] (CurR a 100 fun res => ∃ l : List Int, l.length ≤ 9 ∧ res = .p (.c (eI l))) := by
  refine px_intro Tryz.func127 rfl rfl rfl (by kernel_rfl) rfl rfl rfl ?_; intro kv
  repeat' (first | (refine so_is (.assign _) ?_; (refine so_q (qt_asC rfl) rfl ?_)) | (refine so_is (.buildSlice 27 0 _) ?_; (apply so_bslice (sz := 1) (by_ := 8); (· kernel_rfl); (· decide); (· (repeat (exact GvS.nil _))); (· (decide)); (· rfl); (· rfl); (· rfl))) | refine so_nil ?_ | refine sk_seq ?_ | refine sk_block ?_ | refine sk_region ?_)
  apply sk_packC [0, 1, 5, 6] [7, 16, 17, 25, 31, 32, 800000000] rfl; (· (repeat (first | exact Pf.nil | apply Pf.cons (.c rfl (.d rfl)) | apply Pf.cons (.c rfl (.ls rfl)) | apply Pf.cons (.c rfl (.lp rfl))))); (· (repeat (first | exact Pb.nil | apply Pb.cons (.row rfl) | (apply Pb.cons; (· apply Nb.box rfl; (repeat (first | exact Ncs.nil rfl | (apply Ncs.cons rfl; (· (exact .d rfl))))))) | apply Pb.skip)))
  refine sk_loopL [0, 1] [16, 17, 25, 31, 32] (fun g : List Int × Int × Int => [(6, iN g.1.length), (5, .c (.ls 7 1 0 g.1.length))]) (fun g => [(800000000, .box [.d (.same (kv 0) (eB code)), .d (dI g.2.1), .d (dW g.2.2)]), (7, .row 1 (cI g.1))]) (fun g => g.1.length ≤ m ∧ a ≤ g.2.1 ∧ g.2.1 ≤ a + 2 * g.1.length) (fun g => m - g.1.length) (([], a, s)) ?_ (by (repeat (first | exact trivial | refine ⟨(by (rfl)), ?_⟩))) (by (repeat (first | exact trivial | refine ⟨(by (first | (refine row_eq rfl ?_; simp; done) | (refine box_eq rfl ?_; simp; done))), ?_⟩))) ?_
  · dsimp only; simp
  rintro ⟨L, a2, s2⟩ hL
  dsimp only at hL ⊢
  by_cases hL8 : L.length < m
  · repeat' (first | (refine so_is (.assign _) ?_; (refine so_q (qt_asC rfl) rfl ?_)) | (refine so_is (.move _) ?_; (refine so_q (qt_mvC rfl) rfl ?_)) | (refine so_is (.binOp .lss 3 _ _ _) ?_; refine so_q (qt_lss rfl rfl) rfl ?_) | (refine so_is (.buildSlice 27 1 _) ?_; (apply so_bslice (sz := 1) (by_ := 8); (· kernel_rfl); (· decide); (· (repeat (first | exact GvS.nil _ | apply GvS.c rfl rfl (.lit _) rfl))); (· (decide)); (· rfl); (· rfl); (· rfl))) | (refine so_is (.call ⟨.builtin .append, _, #[27, 27]⟩) ?_; ((apply so_appR (sz := 1) (by_ := 8); (· rfl); (· rfl); (· ((simp; done))); (· exact .row _ _ _ _ rfl (by ((simp; done)))); (· (decide)); (· kernel_rfl); (· decide); (· (omega)); (· (omega)); (· rfl); (· rfl); (· rfl)))) | (refine so_is (.binOp .add 3 _ _ _) ?_; refine so_q (qt_addI rfl rfl (by (omega))) rfl ?_) | (refine so_is (.call ⟨.value (.func 113), _, _⟩) ?_; (apply so_callX (fid := 113); (· rfl); (· rfl); (· (repeat (first | exact BxI.nil | apply BxI.ks | (apply BxI.o; (· (exact .lit _)))))); (· (repeat (first | exact ArX.nil | apply ArX.v (.c (.d _))))); (· (decide)); (· (decide)); (· exact curPick_p code _ _ _ (by omega) (by omega)); (· rfl); (· (intro b hb1 hb2; omega)); (· rfl); (rintro _ _ ⟨a3, s3, ha3, rfl, x3, hx3, rfl⟩; refine ⟨(by first | rfl | simp [*]), ?_⟩))) | refine so_nil ?_ | refine sk_seq ?_ | refine sk_block ?_ | refine sk_blk ?_ | refine sk_exit rfl ?_ | refine sk_skip ?_ | refine sk_region ?_ | refine sk_if rfl (fun hc => ?_) (fun hc => ?_))
    all_goals first | (exfalso; omega) | skip
    refine sk_back ?_; refine ⟨(L ++ [x3], a3, s3), ?_, ?_, le_at rfl (by (repeat (first | exact trivial | refine ⟨(by (first | (refine int_eq rfl ?_; ((simp; done))) | (refine ls_eq rfl ?_; ((simp; done))))), ?_⟩))) (by (repeat (first | exact trivial | refine ⟨rfl, ?_⟩))) (by (repeat (first | exact trivial | refine ⟨(by (first | (refine row_eq rfl ?_; simp; done) | rfl)), ?_⟩))) (by (repeat (first | exact trivial | refine ⟨.inr rfl, ?_⟩)))⟩
    · dsimp only
      rw [List.length_append, List.length_singleton]
      omega
    · dsimp only
      rw [List.length_append, List.length_singleton]
      omega
  · have e : L.length = m := by omega
    repeat' (first | (refine so_is (.assign _) ?_; (refine so_q (qt_asC rfl) rfl ?_)) | (refine so_is (.move _) ?_; (refine so_q (qt_mvC rfl) rfl ?_)) | (refine so_is (.binOp .lss 3 _ _ _) ?_; refine so_q (qt_lss rfl rfl) rfl ?_) | (refine so_is (.buildSlice 27 1 _) ?_; (apply so_bslice (sz := 1) (by_ := 8); (· kernel_rfl); (· decide); (· (repeat (first | exact GvS.nil _ | apply GvS.c rfl rfl (.lit _) rfl))); (· (decide)); (· rfl); (· rfl); (· rfl))) | (refine so_is (.call ⟨.builtin .append, _, #[27, 27]⟩) ?_; ((apply so_appR (sz := 1) (by_ := 8); (· rfl); (· rfl); (· ((simp; done))); (· exact .row _ _ _ _ rfl (by ((simp; done)))); (· (decide)); (· kernel_rfl); (· decide); (· (omega)); (· (omega)); (· rfl); (· rfl); (· rfl)))) | (refine so_is (.call ⟨.value (.func 143), _, _⟩) ?_; (first | (apply so_callX (d := 19) (fid := 143); (· rfl); (· rfl); (· (repeat (first | exact BxI.nil | apply BxI.ks | (apply BxI.o; (· (exact .lit _)))))); (· (repeat (first | exact ArX.nil | apply ArX.v (.c (.d _))))); (· (decide)); (· (decide)); (· exact curOne_p code _ _ _ (by omega) (by omega)); (· rfl); (· (intro b hb1 hb2; omega)); (· rfl); (rintro _ _ ⟨a3, s3, ha3, rfl, b3, rfl⟩; refine ⟨(by first | rfl | simp [*]), ?_⟩)) | (apply so_callX (d := 29) (fid := 143); (· rfl); (· rfl); (· (repeat (first | exact BxI.nil | apply BxI.ks | (apply BxI.o; (· (exact .lit _)))))); (· (repeat (first | exact ArX.nil | apply ArX.v (.c (.d _))))); (· (decide)); (· (decide)); (· exact curOne_p code _ _ _ (by omega) (by omega)); (· rfl); (· (intro b hb1 hb2; omega)); (· rfl); (rintro _ _ ⟨a3, s3, ha3, rfl, b3, rfl⟩; refine ⟨(by first | rfl | simp [*]), ?_⟩)))) | (refine so_is (.call ⟨.value (.func 113), _, _⟩) ?_; (apply so_callX (d := 23) (fid := 113); (· rfl); (· rfl); (· (repeat (first | exact BxI.nil | apply BxI.ks | (apply BxI.o; (· (exact .lit _)))))); (· (repeat (first | exact ArX.nil | apply ArX.v (.c (.d _))))); (· (decide)); (· (decide)); (· exact curPick_p code _ _ _ (by omega) (by omega)); (· rfl); (· (intro b hb1 hb2; omega)); (· rfl); (rintro _ _ ⟨a3, s3, ha3, rfl, x3, hx3, rfl⟩; refine ⟨(by first | rfl | simp [*]), ?_⟩))) | (refine so_is (.buildSlice 27 2 _) ?_; (apply so_bslice (sz := 1) (by_ := 8); (· kernel_rfl); (· decide); (· (repeat (first | exact GvS.nil _ | apply GvS.c rfl rfl (.lit _) rfl))); (· (decide)); (· rfl); (· rfl); (· rfl))) | (refine so_is (.call ⟨.value (.func 77), _, _⟩) ?_; (apply so_callX (fid := 77); (· rfl); (· rfl); (· (repeat (first | exact BxI.nil | apply BxI.ks | (apply BxI.o; (· (exact .lit _)))))); (· (repeat (first | exact ArX.nil | apply ArX.v (.c (.row _ _ _ _ rfl (by ((simp; done)))))))); (· (decide)); (· (decide)); (· exact curAmongD_p code _ _ _ _ (fun _ => True) rfl (by decide) (by repeat (first | exact fun x hx => absurd hx List.not_mem_nil | (refine List.forall_mem_cons.2 ⟨⟨_, rfl, trivial⟩, ?_⟩))) (by omega) (by omega)); (· rfl); (· (intro b hb1 hb2; omega)); (· rfl); (rintro _ _ ⟨a3, s3, ha3, rfl, k6, -, rfl⟩; refine ⟨(by first | rfl | simp [*]), ?_⟩))) | (refine so_is (.indexAddr 27 _ _) ?_; (refine so_q (qt_idx_ls rfl rfl (by kernel_rfl : tSl _ 27 1 = true) (by (omega)) (by (omega))) rfl ?_)) | (refine so_is (.store 3 _ _) ?_; ((refine so_store_row rfl rfl rfl rfl (.lit _) (by simp) (by simp) (by kernel_rfl) (by ((simp only [List.length_map, List.length_append, List.length_replicate, fillL_len, rowF_len, gridF_len, mkI_len, mkII_len, partZ_min] at *; omega))) rfl ?_; simp only [St.drop]))) | refine so_nil ?_ | refine sk_seq ?_ | refine sk_block ?_ | refine sk_exit rfl ?_ | refine sk_skip ?_ | refine sk_region ?_ | refine sk_if rfl (fun hc => ?_) (fun hc => ?_) | refine sk_cond rfl (fun hc => ?_) (fun hc => ?_))
    all_goals first | (exfalso; omega) | skip
    all_goals (apply sk_xret; (· (apply RetX.p; (· rfl); (· (repeat (first | exact BxO.nil _ | apply BxO.k | (apply BxO.o; (· (exact .lit _)))))); (· (apply GvA.cons; (· exact .tmp _); (· (exact GvP.c (.row _ _ _ _ rfl (by ((simp; done))))))); exact GvA.nil); (· (decide)))))
    · exact ⟨_, _, by omega, rfl, L.set x3.toNat k6 ++ [0], by simp; omega, by simp⟩
    · exact ⟨_, _, by omega, rfl, L.set x3.toNat k6, by simp; omega, by simp⟩
    · exact ⟨_, _, by omega, rfl, L ++ [0], by simp; omega, by simp⟩
    · exact ⟨_, _, by omega, rfl, L, by omega, by simp⟩
end Go.Proofs.YtefbiejoikpkmaaGreat

namespace Go.Proofs.YtefbiejoikpkmaaGreat
open Go.RowKit
set_option linter.unusedSectionVars false
variable [Glb]
open Go Go.RowKit
/-! a place whose row has been taken out -/
section
variable {P : Program} {ops : Array Oper} {mu : Nat → Bool} {r : OT} {st : St} {K : St → Prop} {j : Nat} {dst : Option Tmp} {ty : TypeId} {pos : String} {af : Array Edge}
/-- It is loaded once more. -/
theorem qt_load_rowX {T : TypeId} {x : Operand} {b sz i : Nat} {ds : List D} {c : C} (hx : st.ev x = .c (.lp b i)) (hb : st.bl b = some (.rowX sz ds i c)) (ht : tOne P T = true) :
    Qt P ⟨dst, .load T x, ty, pos, af, none⟩ st (.c c) := fun w0 ρ Φ a w hm => by
  have hp := hm.ev x
  rw [hx] at hp
  obtain ⟨g, hρ, hpv⟩ := lp_inv hp.c_inv
  have h0 := hm.bl b _ hb
  rw [hρ] at h0
  generalize hΦ : Φ b = Fb at h0
  cases h0 with
  | rowX _ us E _ _ _ _ vs Fs hz hg hl hi hFi hcc hr hxx =>
    refine ⟨vs i, fun w' hs0 => have hs : CellS w w' := hs0.resolve_left (by simp [memfree]); ?_, .c _ _ hxx⟩
    have h1 : w.cell? ⟨g, i, none⟩ = some (vs i) := by
      rw [cell_of_row w g i us E (0, 0) hg]
      exact hcc i hi
    have := run_load1 (P := P) (T := T) ht (cellS_some hs h1)
    simp [execOp, hpv, this]
/-- A value is put there. -/
theorem so_store_rowC {T : TypeId} {p x : Operand} {b sz i : Nat} {ds : List D} {c c' : C} (hp : st.ev p = .c (.lp b i)) (hb : st.bl b = some (.rowX sz ds i c)) (hv : st.ev x = .c c') (hok : C.ok c' = true) (ht : tSize P T 1 = true)
    (hmu : mu j = true) (h : SO P ops mu r (st.setB b (some (.rowX sz ds i c'))) K) :
    SO P ops mu (.cons (some ⟨none, .store T p x, ty, pos, af, none⟩, j, false) r) st K := by
  refine so_m hmu fun w0 a w hs next Q hn => ?_
  obtain ⟨ρ, Φ, hm⟩ := hs
  have hp' := hm.ev p
  rw [hp] at hp'
  obtain ⟨g, hρ, hpv⟩ := lp_inv hp'.c_inv
  have hx' := hm.ev x
  rw [hv] at hx'
  have hcx := hx'.c_inv
  have hone := hcx.one hok
  have h0 := hm.bl b _ hb
  rw [hρ] at h0
  generalize hΦ : Φ b = Fb at h0
  cases h0 with
  | rowX _ us E _ _ _ _ vs Fs hz hgh hl hi hFi hcc hr hxx =>
    have hrun := run_store_at (P := P) (w := w) (off := i) (vs := [a.eval x]) ht hgh (cells_one' hone) rfl (fun u hu => by simp at hu; subst hu; exact hone) (by omega)
    have hset : us.toList.take i ++ [a.eval x] ++ us.toList.drop (i + 1) = us.toList.set i (a.eval x) := by rw [List.set_eq_take_append_cons_drop, if_pos (by simp; omega)]; simp
    rw [hset] at hrun
    have hgΦ : g ∈ Φ b := by rw [hΦ]; exact List.mem_cons_self ..
    have hlow : w0.lo g := hm.low b g hgΦ
    have hsz : (us.toList.set i (a.eval x)).toArray.size = us.size := by simp
    have hndb := hm.nd b
    rw [hΦ, List.nodup_cons] at hndb
    have hshp := setRow_shp hgh hsz
    obtain ⟨Φ', hm'⟩ := hm.upd (w' := w.setRow g (us.toList.set i (a.eval x)).toArray) b [] (.rowX sz ds i c') (g :: parts ds.length Fs) g hgΦ (by simp)
      (setRow_below hlow hshp) (fun k hk => setRow_other w g k _ hk) hshp (List.nodup_cons.2 hndb) (fun g2 hg2 => .inl (by rw [hΦ]; exact hg2)) (fun Φ' hΦ' => by
        rw [hρ]
        refine BR.rowX (w := w.setRow g (us.toList.set i (a.eval x)).toArray) (ρ := ρ) (Φ := Φ') g (us.toList.set i (a.eval x)).toArray E sz ds i c' (fun k => if k = i then a.eval x else vs k) Fs hz (setRow_heap w g us _ E (0, 0) hgh) (by simp; omega) hi hFi
          (fun k hk => ?_) (fun k hk hki => ?_) ?_
        · by_cases hko : k = i
          · subst hko; simp [show k < us.size by omega]
          · simp only [List.getElem?_toArray, if_neg hko]
            rw [List.getElem?_set_ne (Ne.symm hko)]
            simpa using hcc k hk
        · simp only [if_neg hki]
          exact (hr k hk hki).keep fun g2 hg2 => setRow_other w g g2 _ fun e => by
            subst e; exact hndb.1 (mem_parts.2 ⟨k, hk, hg2⟩)
        · simp only [if_pos]
          exact hcx.keep (fun g2 hg2 _ => setRow_other w g g2 _ fun e => hg2 (e ▸ ⟨b, hgΦ⟩)) hshp fun g2 hin => .inl (hΦ' g2 hin))
    exact at_skip (by simp [execOp, hpv, hrun]) (hn _ _ (fun h => by cases h) ⟨_, ⟨ρ, Φ', hm'⟩, h⟩)
end

end Go.Proofs.YtefbiejoikpkmaaGreat
