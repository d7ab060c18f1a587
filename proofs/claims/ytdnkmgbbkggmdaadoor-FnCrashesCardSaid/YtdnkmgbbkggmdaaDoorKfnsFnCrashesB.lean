/- What the functions that FnCrashes reaches return: part of its proof. No condition beyond those of its theorems. -/
import Derived.Test.YtdnkmgbbkggmdaaDoorKfnsFnCrashesA
import Derived.Test.YtdnkmgbbkggmdaaDoorKplainC
import Derived.Test.YtdnkmgbbkggmdaaDoorKplainA
import Derived.Shelf.Strings.Search2
import Derived.Lib.Bytealg
import Derived.Test.YtdnkmgbbkggmdaaDoorRows
import Derived.Shelf.Strconv.Itoa3
import Derived.Shelf.Strings.Search3
import Derived.Shelf.Strings.IndexAnyAll
set_option linter.unusedVariables false
set_option linter.unusedSimpArgs false
namespace Go.Proofs.YtdnkmgbbkggmdaaDoor
open Go.RowKit
set_option linter.unusedSectionVars false
variable [Glb]
set_option maxRecDepth 10000
set_option maxHeartbeats 4000000
theorem spCrashLog_p (d p : Tx) (n keep : Int) (torn : Bool) (hb : (d.length : Int) + p.length ≤ 1000000000) : PC Tryd.prog 23 [.g [dT d, dT p, dI n], .c (dI keep), .c (dB torn)] (.t [.c (dT (crashT d p n keep torn)), .c (dB (crashB d p n keep))]) := by
  cases hv : crashB d p n keep with
  | false =>
    have e : crashT d p n keep torn = [] := by unfold crashT; rw [if_neg (by rw [hv]; decide)]
    rw [e]
    refine pc_intro Tryd.func23 rfl rfl rfl (by kernel_rfl) rfl rfl ?_; intro _
    repeat' (first | (refine so_is (.box 31 _) ?_; refine so_box rfl rfl ?_) | (refine so_is (.assign _) ?_; (refine so_q (qt_asC rfl) rfl ?_)) | (refine so_is (.load 31 _) ?_; (refine so_q (qt_load_boxs rfl rfl (by kernel_rfl : tAgg _ 31 3 = true) rfl) rfl ?_)) | (refine so_is (.unOp .not 4 _) ?_; refine so_q (qt_not rfl) rfl ?_) | (refine so_is (.move _) ?_; (refine so_q (qt_mvC rfl) rfl ?_)) | (refine so_is (.fieldAddr 31 _ 1) ?_; (refine so_q (qt_fld_lp (off := 1) rfl (by kernel_rfl)) rfl ?_)) | (refine so_is (.load 9 _) ?_; (refine so_q (qt_load_box rfl rfl (by kernel_rfl) rfl) rfl ?_)) | (refine so_is (.call ⟨.builtin .len, _, #[9]⟩) ?_; (refine so_q (qt_lenT rfl (by kernel_rfl)) rfl ?_)) | (refine so_is (.pick _ _ _) ?_; (refine so_q (qt_pkC rfl rfl) rfl ?_)) | (refine so_is (.call ⟨.value (.func 53), _, _⟩) ?_; (apply so_call0 (fid := 53); (· (repeat (first | exact SeA.nil | (apply SeA.cons; (· (apply SeP.g; (repeat (first | exact SeL.nil | apply SeL.cons (.d _))))))))); (· exact l12Valid_p _ _ _ (by omega)); (· rfl))) | (refine so_is (.call ⟨.value (.func 45), _, _⟩) ?_; (apply so_call0 (fid := 45); (· (repeat (first | exact SeA.nil | apply SeA.cons (.c (.d _))))); (· exact l1In_p _ _ _); (· rfl))) | refine so_nil ?_ | refine so_g_no rfl rfl rfl rfl ?_ | refine so_g_yes rfl rfl rfl rfl ?_ | refine so_g_b rfl rfl (fun hg => ?_) (fun hg => ?_) | refine sk_seq ?_ | refine sk_skip ?_ | refine sk_region ?_ | refine sk_true rfl ?_ | refine sk_not rfl (fun hc => ?_) (fun hc => ?_))
    all_goals first | (exfalso; simp_all [crashB]; done) | skip
    all_goals (apply sk_ret; apply ret_eq; (· apply RetOK.t; (· (apply GvA.cons; (· exact .tmp _); (· exact GvP.c (.lit _))); (apply GvA.cons; (· exact .tmp _); (· exact GvP.c (.lit _))); exact GvA.nil); (· rfl); (· (decide))))
    all_goals rfl
  | true =>
    have hv2 := hv
    simp only [crashB, Bool.and_eq_true] at hv2
    obtain ⟨h1, h2⟩ := hv2
    have hk := inB_iff.1 h2
    have hp : (partZ p 0 keep).length = keep.toNat := by rw [partZ_len (by omega)]; omega
    have e : crashT d p n keep torn = d ++ keptT p keep torn := by unfold crashT; rw [if_pos hv]
    rw [e]
    cases torn with
    | false =>
      have e2 : keptT p keep false = partZ p 0 keep := rfl
      rw [e2]
      refine pc_intro Tryd.func23 rfl rfl rfl (by kernel_rfl) rfl rfl ?_; intro _
      repeat' (first | (refine so_is (.box 31 _) ?_; refine so_box rfl rfl ?_) | (refine so_is (.assign _) ?_; (refine so_q (qt_asC rfl) rfl ?_)) | (refine so_is (.load 31 _) ?_; (refine so_q (qt_load_boxs rfl rfl (by kernel_rfl : tAgg _ 31 3 = true) rfl) rfl ?_)) | (refine so_is (.unOp .not 4 _) ?_; refine so_q (qt_not rfl) rfl ?_) | (refine so_is (.move _) ?_; (refine so_q (qt_mvC rfl) rfl ?_)) | (refine so_is (.fieldAddr 31 _ 1) ?_; (refine so_q (qt_fld_lp (off := 1) rfl (by kernel_rfl)) rfl ?_)) | (refine so_is (.load 9 _) ?_; (refine so_q (qt_load_box rfl rfl (by kernel_rfl) rfl) rfl ?_)) | (refine so_is (.call ⟨.builtin .len, _, #[9]⟩) ?_; (refine so_q (qt_lenT rfl (by kernel_rfl)) rfl ?_)) | (refine so_is (.pick _ _ _) ?_; (refine so_q (qt_pkC rfl rfl) rfl ?_)) | (refine so_is (.slice 9 _ none (some _) none) ?_; (refine so_q (qt_sliceT01 rfl rfl (by kernel_rfl) (by (omega)) (by (omega))) rfl ?_)) | (refine so_is (.convert 9 53 _) ?_; (apply so_convTB; (· rfl); (· kernel_rfl); (· rfl); (intro g cap z e))) | (refine so_is (.fieldAddr 31 _ 0) ?_; (refine so_q (qt_fld_lp (off := 0) rfl (by kernel_rfl)) rfl ?_)) | (refine so_is (.convert 53 9 _) ?_; ((apply so_convBV (b := 24); (· rfl); (· rfl); (· (omega)); (· (omega)); (· kernel_rfl); (· rfl)))) | (refine so_is (.binOp .add 9 _ _ _) ?_; (refine so_q (qt_addT rfl rfl (by (omega))) rfl ?_)) | (refine so_is (.call ⟨.value (.func 53), _, _⟩) ?_; (apply so_call0 (fid := 53); (· (repeat (first | exact SeA.nil | (apply SeA.cons; (· (apply SeP.g; (repeat (first | exact SeL.nil | apply SeL.cons (.d _))))))))); (· exact l12Valid_p _ _ _ (by omega)); (· rfl))) | (refine so_is (.call ⟨.value (.func 45), _, _⟩) ?_; (apply so_call0 (fid := 45); (· (repeat (first | exact SeA.nil | apply SeA.cons (.c (.d _))))); (· exact l1In_p _ _ _); (· rfl))) | refine so_nil ?_ | refine so_g_no rfl rfl rfl rfl ?_ | refine so_g_yes rfl rfl rfl rfl ?_ | refine so_g_b rfl rfl (fun hg => ?_) (fun hg => ?_) | refine sk_seq ?_ | refine sk_skip ?_ | refine sk_region ?_ | refine sk_true rfl ?_ | refine sk_false rfl ?_ | refine sk_not rfl (fun hc => ?_) (fun hc => ?_))
      all_goals first | (exfalso; simp_all; done) | skip
      all_goals (apply sk_ret; apply ret_eq; (· apply RetOK.t; (· (apply GvA.cons; (· exact .tmp _); (· exact GvP.c (.lit _))); (apply GvA.cons; (· exact .tmp _); (· exact GvP.c (.lit _))); exact GvA.nil); (· rfl); (· (decide))))
      all_goals rfl
    | true =>
      by_cases h0 : 0 < keep
      · have e2 : keptT p keep true = tornT (partZ p 0 keep) (keep - 1).toNat := by unfold keptT; rw [if_pos (by simpa using h0)]
        rw [e2]
        have hl2 : (tornT (partZ p 0 keep) (keep - 1).toNat).length = (partZ p 0 keep).length := tornT_len _ _
        refine pc_intro Tryd.func23 rfl rfl rfl (by kernel_rfl) rfl rfl ?_; intro _
        repeat' (first | (refine so_is (.box 31 _) ?_; refine so_box rfl rfl ?_) | (refine so_is (.assign _) ?_; (refine so_q (qt_asC rfl) rfl ?_)) | (refine so_is (.load 31 _) ?_; (refine so_q (qt_load_boxs rfl rfl (by kernel_rfl : tAgg _ 31 3 = true) rfl) rfl ?_)) | (refine so_is (.unOp .not 4 _) ?_; refine so_q (qt_not rfl) rfl ?_) | (refine so_is (.move _) ?_; (refine so_q (qt_mvC rfl) rfl ?_)) | (refine so_is (.fieldAddr 31 _ 1) ?_; (refine so_q (qt_fld_lp (off := 1) rfl (by kernel_rfl)) rfl ?_)) | (refine so_is (.load 9 _) ?_; (refine so_q (qt_load_box rfl rfl (by kernel_rfl) rfl) rfl ?_)) | (refine so_is (.call ⟨.builtin .len, _, #[9]⟩) ?_; (refine so_q (qt_lenT rfl (by kernel_rfl)) rfl ?_)) | (refine so_is (.pick _ _ _) ?_; (refine so_q (qt_pkC rfl rfl) rfl ?_)) | (refine so_is (.slice 9 _ none (some _) none) ?_; (refine so_q (qt_sliceT01 rfl rfl (by kernel_rfl) (by (omega)) (by (omega))) rfl ?_)) | (refine so_is (.convert 9 53 _) ?_; (apply so_convTB; (· rfl); (· kernel_rfl); (· rfl); (intro g cap z e))) | (refine so_is (.binOp .gtr 3 _ _ _) ?_; refine so_q (qt_gtr rfl rfl) rfl ?_) | (refine so_is (.binOp .sub 3 _ _ _) ?_; (refine so_q (qt_subI rfl rfl (by (omega))) rfl ?_)) | (refine so_is (.indexAddr 53 _ _) ?_; (refine so_q (qt_idx_bv rfl rfl (by kernel_rfl) (by (omega)) (by (omega))) rfl ?_)) | (refine so_is (.load 5 _) ?_; (refine so_q (qt_load_bv (b := 24) rfl rfl (by (omega)) (by kernel_rfl)) rfl ?_)) | (refine so_is (.binOp .sub 5 _ _ _) ?_; (refine so_q (qt_subY rfl rfl) rfl ?_)) | (refine so_is (.store 5 _ _) ?_; ((apply so_store_bv (b := 24); (· rfl); (· rfl); (· rfl); (· (omega)); (· kernel_rfl); (· rfl); skip))) | (refine so_is (.fieldAddr 31 _ 0) ?_; (refine so_q (qt_fld_lp (off := 0) rfl (by kernel_rfl)) rfl ?_)) | (refine so_is (.convert 53 9 _) ?_; ((apply so_convBV (b := 24); (· rfl); (· rfl); (· (omega)); (· (omega)); (· kernel_rfl); (· rfl)))) | (refine so_is (.binOp .add 9 _ _ _) ?_; (refine so_q (qt_addT rfl rfl (by (omega))) rfl ?_)) | (refine so_is (.call ⟨.value (.func 53), _, _⟩) ?_; (apply so_call0 (fid := 53); (· (repeat (first | exact SeA.nil | (apply SeA.cons; (· (apply SeP.g; (repeat (first | exact SeL.nil | apply SeL.cons (.d _))))))))); (· exact l12Valid_p _ _ _ (by omega)); (· rfl))) | (refine so_is (.call ⟨.value (.func 45), _, _⟩) ?_; (apply so_call0 (fid := 45); (· (repeat (first | exact SeA.nil | apply SeA.cons (.c (.d _))))); (· exact l1In_p _ _ _); (· rfl))) | refine so_nil ?_ | refine so_g_no rfl rfl rfl rfl ?_ | refine so_g_yes rfl rfl rfl rfl ?_ | refine so_g_b rfl rfl (fun hg => ?_) (fun hg => ?_) | refine sk_seq ?_ | refine sk_skip ?_ | refine sk_region ?_ | refine sk_true rfl ?_ | refine sk_if rfl (fun hc => ?_) (fun hc => ?_) | refine sk_not rfl (fun hc => ?_) (fun hc => ?_))
        all_goals first | (exfalso; simp_all; done) | (exfalso; omega) | skip
        all_goals (apply sk_ret; apply ret_eq; (· apply RetOK.t; (· (apply GvA.cons; (· exact .tmp _); (· exact GvP.c (.lit _))); (apply GvA.cons; (· exact .tmp _); (· exact GvP.c (.lit _))); exact GvA.nil); (· rfl); (· (decide))))
        all_goals rfl
      · have e2 : keptT p keep true = partZ p 0 keep := by unfold keptT; rw [if_neg (by simpa using h0)]
        rw [e2]
        refine pc_intro Tryd.func23 rfl rfl rfl (by kernel_rfl) rfl rfl ?_; intro _
        repeat' (first | (refine so_is (.box 31 _) ?_; refine so_box rfl rfl ?_) | (refine so_is (.assign _) ?_; (refine so_q (qt_asC rfl) rfl ?_)) | (refine so_is (.load 31 _) ?_; (refine so_q (qt_load_boxs rfl rfl (by kernel_rfl : tAgg _ 31 3 = true) rfl) rfl ?_)) | (refine so_is (.unOp .not 4 _) ?_; refine so_q (qt_not rfl) rfl ?_) | (refine so_is (.move _) ?_; (refine so_q (qt_mvC rfl) rfl ?_)) | (refine so_is (.fieldAddr 31 _ 1) ?_; (refine so_q (qt_fld_lp (off := 1) rfl (by kernel_rfl)) rfl ?_)) | (refine so_is (.load 9 _) ?_; (refine so_q (qt_load_box rfl rfl (by kernel_rfl) rfl) rfl ?_)) | (refine so_is (.call ⟨.builtin .len, _, #[9]⟩) ?_; (refine so_q (qt_lenT rfl (by kernel_rfl)) rfl ?_)) | (refine so_is (.pick _ _ _) ?_; (refine so_q (qt_pkC rfl rfl) rfl ?_)) | (refine so_is (.slice 9 _ none (some _) none) ?_; (refine so_q (qt_sliceT01 rfl rfl (by kernel_rfl) (by (omega)) (by (omega))) rfl ?_)) | (refine so_is (.convert 9 53 _) ?_; (apply so_convTB; (· rfl); (· kernel_rfl); (· rfl); (intro g cap z e))) | (refine so_is (.binOp .gtr 3 _ _ _) ?_; refine so_q (qt_gtr rfl rfl) rfl ?_) | (refine so_is (.binOp .sub 3 _ _ _) ?_; (refine so_q (qt_subI rfl rfl (by (omega))) rfl ?_)) | (refine so_is (.indexAddr 53 _ _) ?_; (refine so_q (qt_idx_bv rfl rfl (by kernel_rfl) (by (omega)) (by (omega))) rfl ?_)) | (refine so_is (.load 5 _) ?_; (refine so_q (qt_load_bv (b := 24) rfl rfl (by (omega)) (by kernel_rfl)) rfl ?_)) | (refine so_is (.binOp .sub 5 _ _ _) ?_; (refine so_q (qt_subY rfl rfl) rfl ?_)) | (refine so_is (.store 5 _ _) ?_; ((apply so_store_bv (b := 24); (· rfl); (· rfl); (· rfl); (· (omega)); (· kernel_rfl); (· rfl); skip))) | (refine so_is (.fieldAddr 31 _ 0) ?_; (refine so_q (qt_fld_lp (off := 0) rfl (by kernel_rfl)) rfl ?_)) | (refine so_is (.convert 53 9 _) ?_; ((apply so_convBV (b := 24); (· rfl); (· rfl); (· (omega)); (· (omega)); (· kernel_rfl); (· rfl)))) | (refine so_is (.binOp .add 9 _ _ _) ?_; (refine so_q (qt_addT rfl rfl (by (omega))) rfl ?_)) | (refine so_is (.call ⟨.value (.func 53), _, _⟩) ?_; (apply so_call0 (fid := 53); (· (repeat (first | exact SeA.nil | (apply SeA.cons; (· (apply SeP.g; (repeat (first | exact SeL.nil | apply SeL.cons (.d _))))))))); (· exact l12Valid_p _ _ _ (by omega)); (· rfl))) | (refine so_is (.call ⟨.value (.func 45), _, _⟩) ?_; (apply so_call0 (fid := 45); (· (repeat (first | exact SeA.nil | apply SeA.cons (.c (.d _))))); (· exact l1In_p _ _ _); (· rfl))) | refine so_nil ?_ | refine so_g_no rfl rfl rfl rfl ?_ | refine so_g_yes rfl rfl rfl rfl ?_ | refine so_g_b rfl rfl (fun hg => ?_) (fun hg => ?_) | refine sk_seq ?_ | refine sk_skip ?_ | refine sk_region ?_ | refine sk_true rfl ?_ | refine sk_if rfl (fun hc => ?_) (fun hc => ?_) | refine sk_not rfl (fun hc => ?_) (fun hc => ?_))
        all_goals first | (exfalso; simp_all; done) | (exfalso; omega) | skip
        all_goals (apply sk_ret; apply ret_eq; (· apply RetOK.t; (· (apply GvA.cons; (· exact .tmp _); (· exact GvP.c (.lit _))); (apply GvA.cons; (· exact .tmp _); (· exact GvP.c (.lit _))); exact GvA.nil); (· rfl); (· (decide))))
        all_goals rfl

end Go.Proofs.YtdnkmgbbkggmdaaDoor

namespace Go.Proofs.YtdnkmgbbkggmdaaDoor
open Go.RowKit
set_option linter.unusedSectionVars false
variable [Glb]
set_option maxRecDepth 10000
set_option maxHeartbeats 4000000
open Go.Shelf Go.Proofs
def Tryd.lays219_ren_stringslite_Index_one : Go.Shelf.Ren := ⟨fun | 219 => 86 | 217 => 95 | 225 => 96 | 224 => 97 | 267 => 98 | 266 => 106 | 314 => 107 | n => n, fun | 9 => 9 | 3 => 3 | 4 => 4 | 5 => 5 | 46 => 103 | 146 => 123 | 51 => 118 | n => n, fun | 1 => 0 | n => n⟩
theorem Tryd.lays219_stringslite_Index_one : Go.Proofs.Lays.n219 Tryd.prog Tryd.lays219_ren_stringslite_Index_one := {
  mixed := by kernel_rfl
  f217 := Tryd.func95.trans (congrArg some (by kernel_rfl))
  f219 := Tryd.func86.trans (congrArg some (by kernel_rfl))
  f224 := Tryd.func97.trans (congrArg some (by kernel_rfl))
  f225 := Tryd.func96.trans (congrArg some (by kernel_rfl))
  f266 := Tryd.func106.trans (congrArg some (by kernel_rfl))
  f267 := Tryd.func98.trans (congrArg some (by kernel_rfl))
  f314 := Tryd.func107.trans (congrArg some (by kernel_rfl))
  t3 := Tryd.underlying3
  a3 := Tryd.isAgg3
  z3 := Tryd.sizeOf3
  v3 := Tryd.zeroValue3
  t4 := Tryd.underlying4
  a4 := Tryd.isAgg4
  z4 := Tryd.sizeOf4
  v4 := Tryd.zeroValue4
  t5 := Tryd.underlying5
  a5 := Tryd.isAgg5
  z5 := Tryd.sizeOf5
  v5 := Tryd.zeroValue5
  t9 := Tryd.underlying9
  a9 := Tryd.isAgg9
  z9 := Tryd.sizeOf9
  v9 := Tryd.zeroValue9
  t46 := Tryd.underlying103
  a46 := Tryd.isAgg103
  z46 := Tryd.sizeOf103
  v46 := Tryd.zeroValue103
  t51 := Tryd.underlying118
  a51 := Tryd.isAgg118
  z51 := Tryd.sizeOf118
  v51 := Tryd.zeroValue118
  t146 := Tryd.underlying123
  a146 := Tryd.isAgg123
  z146 := Tryd.sizeOf123
  v146 := Tryd.zeroValue123
  g1 := by kernel_rfl }
open Go.RowKit Go.Lib in
theorem Tryd.stringslite_Index_one (s : ByteArray) (c : UInt8) (w : World) :
    Calls Tryd.prog 86 #[.string s, .string ⟨#[c]⟩] w fun e w' => e = .returned (.int .i64 (Lib.indexByte s.data.toList c)) ∧ w' = w := Any.stringslite_Index_one Tryd.lays219_stringslite_Index_one s c w

end Go.Proofs.YtdnkmgbbkggmdaaDoor

namespace Go.Proofs.YtdnkmgbbkggmdaaDoor
open Go.RowKit
set_option linter.unusedSectionVars false
variable [Glb]
set_option maxRecDepth 10000
set_option maxHeartbeats 4000000
theorem ixB_hit {c : UInt8} : ∀ {s : Tx}, c ∈ s → Go.Lib.indexByte s c = ((bef c s).length : Int)
  | [], h => by cases h
  | x :: r, h => by
    unfold Go.Lib.indexByte
    by_cases hx : x = c
    · subst hx; simp [bef]
    · have hr : c ∈ r := by rcases List.mem_cons.1 h with e | e; exact absurd e.symm hx; exact e
      have := ixB_hit hr
      rw [if_neg (by simpa using hx), this, bef, if_neg hx]
      rw [if_neg (by rw [beq_iff_eq]; omega), List.length_cons]; omega
theorem ixB_miss {c : UInt8} : ∀ {s : Tx}, c ∉ s → Go.Lib.indexByte s c = -1
  | [], h => rfl
  | x :: r, h => by
    rw [List.mem_cons, not_or] at h
    unfold Go.Lib.indexByte
    rw [if_neg (by simpa using Ne.symm h.1), ixB_miss h.2]; rfl
theorem ixB_has (c : UInt8) (s : Tx) : decide (0 ≤ Go.Lib.indexByte s c) = s.contains c := by
  by_cases h : c ∈ s
  · rw [ixB_hit h]; simp [h]
  · rw [ixB_miss h]; simp [h]
theorem bsT_list (s : Tx) : (bsT s).data.toList = s := by simp [bsT]

end Go.Proofs.YtdnkmgbbkggmdaaDoor

namespace Go.Proofs.YtdnkmgbbkggmdaaDoor
open Go.RowKit
set_option linter.unusedSectionVars false
variable [Glb]
set_option maxRecDepth 10000
set_option maxHeartbeats 4000000
theorem strIndex_p (s : Tx) (c : UInt8) : PC Tryd.prog 86 [.c (dT s), .c (dT [c])] (.p (.c (dI (Go.Lib.indexByte s c)))) :=
  pc_lit2 (Go.Proofs.enters_of Tryd.func86 (by kernel_rfl) rfl) rfl fun w _ => (Tryd.stringslite_Index_one (bsT s) c w).mono (by
    rintro e w' ⟨rfl, rfl⟩; rw [bsT_list]; exact ⟨rfl, .refl _ _⟩)

end Go.Proofs.YtdnkmgbbkggmdaaDoor

namespace Go.Proofs.YtdnkmgbbkggmdaaDoor
open Go.RowKit
set_option linter.unusedSectionVars false
variable [Glb]
set_option maxRecDepth 10000
set_option maxHeartbeats 4000000
theorem cut_hit {s : Tx} {c : UInt8} (h : c ∈ s) : partZ s 0 ((bef c s).length : Int) = bef c s ∧ partZ s ((bef c s).length + 1) s.length = aft c s := by
  obtain ⟨e, -⟩ := split_at_b h
  have e2 := congrArg List.length e
  generalize bef c s = x at *
  generalize aft c s = y at *
  subst e
  simp only [List.length_append, List.length_cons] at e2
  constructor
  · simp [partZ]
  · have : ((x.length : Int) + 1).toNat = x.length + 1 := by omega
    have h2 : (x ++ c :: y).drop (x.length + 1) = y := by
      rw [show (x ++ c :: y) = (x ++ [c]) ++ y by simp]; exact List.drop_left' (by simp)
    simp only [partZ, this]
    rw [h2, List.take_of_length_le]
    simp; omega
theorem cut0_p (s : Tx) (c : UInt8) : PC Tryd.prog 84 [.c (dT s), .c (dT [c])] (.t [.c (dT (bef c s)), .c (dT (aft c s)), .c (dB (s.contains c))]) := by
  refine pc_intro Tryd.func84 rfl rfl rfl (by kernel_rfl) rfl rfl ?_; rintro ⟨hl, hc, -⟩
  have hl := FitT hl
  have hc := FitT hc
  by_cases h : c ∈ s
  · obtain ⟨e, -⟩ := split_at_b h
    have e2 := congrArg List.length e
    have e3 := ixB_hit h
    obtain ⟨e4, e5⟩ := cut_hit h
    have e6 : s.contains c = true := by simp [h]
    simp only [List.length_append, List.length_cons] at e2
    clear e
    repeat' (first | (refine so_is (.assign _) ?_; (refine so_q (qt_asC rfl) rfl ?_)) | (refine so_is (.move _) ?_; (refine so_q (qt_mvC rfl) rfl ?_)) | (refine so_is (.binOp .geq 3 _ _ _) ?_; refine so_q (qt_geq rfl rfl) rfl ?_) | (refine so_is (.slice 9 _ none (some _) none) ?_; (refine so_q (qt_sliceT01 rfl rfl (by kernel_rfl) (by (omega)) (by (omega))) rfl ?_)) | (refine so_is (.call ⟨.builtin .len, _, #[9]⟩) ?_; (refine so_q (qt_lenT rfl (by kernel_rfl)) rfl ?_)) | (refine so_is (.binOp .add 3 _ _ _) ?_; refine so_q (qt_addI rfl rfl (by ((simp at *; omega)))) rfl ?_) | (refine so_is (.slice 9 _ (some _) none none) ?_; (refine so_q (qt_sliceT10 rfl rfl (by kernel_rfl) (by (omega)) (by ((simp at *; omega)))) rfl ?_)) | (refine so_is (.call ⟨.value (.func 86), _, _⟩) ?_; (apply so_call0 (fid := 86); (· (repeat (first | exact SeA.nil | apply SeA.cons (.c (.d _))))); (· exact strIndex_p _ _); (· rfl))) | refine so_nil ?_ | refine sk_seq ?_ | refine sk_skip ?_ | refine sk_region ?_ | refine sk_drawQ 3 (fun _ => false) (.step 0 true (.step 1 true (.step 2 true (.step 3 true (.step 4 true (.step 5 true (.step 6 true (.step 7 true (.step 8 true (.step 9 true (.step 10 true (.step 11 true .nil)))))))))))) [(0, 4095, 4095, true), (0, 4095, 4095, true), (3, 4092, 4095, true), (0, 4095, 4095, true), (0, 4095, 4095, true), (0, 4095, 4095, true), (32, 4063, 4095, true), (80, 4015, 4095, true), (136, 3959, 4095, true), (7, 4091, 4095, true), (1023, 3839, 4095, true), (2047, 4095, 4095, true)] (by kernel_rfl) (by kernel_rfl) ?_ | refine sk_if rfl (fun hc => ?_) (fun hc => ?_))
    all_goals first | (exfalso; omega) | skip
    all_goals (apply sk_ret; apply ret_eq; (· apply RetOK.t; (· (apply GvA.cons; (· exact .tmp _); (· exact GvP.c (.lit _))); (apply GvA.cons; (· exact .tmp _); (· exact GvP.c (.lit _))); (apply GvA.cons; (· exact .tmp _); (· exact GvP.c (.lit _))); exact GvA.nil); (· rfl); (· (decide))))
    all_goals rw [e3] at *
    all_goals simp [e4, e5, h]
  · have e3 := ixB_miss h
    have e4 := bef_miss h
    have e5 := aft_miss h
    repeat' (first | (refine so_is (.assign _) ?_; (refine so_q (qt_asC rfl) rfl ?_)) | (refine so_is (.move _) ?_; (refine so_q (qt_mvC rfl) rfl ?_)) | (refine so_is (.binOp .geq 3 _ _ _) ?_; refine so_q (qt_geq rfl rfl) rfl ?_) | (refine so_is (.slice 9 _ none (some _) none) ?_; (refine so_q (qt_sliceT01 rfl rfl (by kernel_rfl) (by (omega)) (by (omega))) rfl ?_)) | (refine so_is (.call ⟨.builtin .len, _, #[9]⟩) ?_; (refine so_q (qt_lenT rfl (by kernel_rfl)) rfl ?_)) | (refine so_is (.binOp .add 3 _ _ _) ?_; refine so_q (qt_addI rfl rfl (by (omega))) rfl ?_) | (refine so_is (.slice 9 _ (some _) none none) ?_; (refine so_q (qt_sliceT10 rfl rfl (by kernel_rfl) (by (omega)) (by (omega))) rfl ?_)) | (refine so_is (.call ⟨.value (.func 86), _, _⟩) ?_; (apply so_call0 (fid := 86); (· (repeat (first | exact SeA.nil | apply SeA.cons (.c (.d _))))); (· exact strIndex_p _ _); (· rfl))) | refine so_nil ?_ | refine sk_seq ?_ | refine sk_skip ?_ | refine sk_region ?_ | refine sk_drawQ 3 (fun _ => false) (.step 0 true (.step 1 true (.step 2 true (.step 3 true (.step 4 true (.step 5 true (.step 6 true (.step 7 true (.step 8 true (.step 9 true (.step 10 true (.step 11 true .nil)))))))))))) [(0, 4095, 4095, true), (0, 4095, 4095, true), (3, 4092, 4095, true), (0, 4095, 4095, true), (0, 4095, 4095, true), (0, 4095, 4095, true), (32, 4063, 4095, true), (80, 4015, 4095, true), (136, 3959, 4095, true), (7, 4091, 4095, true), (1023, 3839, 4095, true), (2047, 4095, 4095, true)] (by kernel_rfl) (by kernel_rfl) ?_ | refine sk_if rfl (fun hc => ?_) (fun hc => ?_))
    all_goals first | (exfalso; omega) | skip
    all_goals (apply sk_ret; apply ret_eq; (· apply RetOK.t; (· (apply GvA.cons; (· exact .tmp _); (· exact GvP.c (.lit _))); (apply GvA.cons; (· exact .tmp _); (· exact GvP.c (.lit _))); (apply GvA.cons; (· exact .tmp _); (· exact GvP.c (.lit _))); exact GvA.nil); (· rfl); (· (decide))))
    all_goals simp [e4, e5, h]
    all_goals rfl
theorem cut_p (s : Tx) (c : UInt8) : PC Tryd.prog 75 [.c (dT s), .c (dT [c])] (.t [.c (dT (bef c s)), .c (dT (aft c s)), .c (dB (s.contains c))]) := by
  refine pc_intro Tryd.func75 rfl rfl rfl (by kernel_rfl) rfl rfl ?_; intro _
  repeat' (first | (refine so_is (.assign _) ?_; (refine so_q (qt_asC rfl) rfl ?_)) | (refine so_is (.move _) ?_; (refine so_q (qt_mvC rfl) rfl ?_)) | (refine so_is (.extract _ _) ?_; refine so_q (qt_extract rfl rfl) rfl ?_) | (refine so_is (.call ⟨.value (.func 84), _, _⟩) ?_; (apply so_call0 (fid := 84); (· (repeat (first | exact SeA.nil | apply SeA.cons (.c (.d _))))); (· exact cut0_p _ _); (· rfl))) | refine so_nil ?_ | refine sk_seq ?_ | refine sk_region ?_)
  (apply sk_ret; apply ret_eq; (· apply RetOK.t; (· (apply GvA.cons; (· exact .tmp _); (· exact GvP.c (.lit _))); (apply GvA.cons; (· exact .tmp _); (· exact GvP.c (.lit _))); (apply GvA.cons; (· exact .tmp _); (· exact GvP.c (.lit _))); exact GvA.nil); (· rfl); (· (decide))))
  rfl

end Go.Proofs.YtdnkmgbbkggmdaaDoor

namespace Go.Proofs.YtdnkmgbbkggmdaaDoor
open Go.RowKit
set_option linter.unusedSectionVars false
variable [Glb]
set_option maxRecDepth 10000
set_option maxHeartbeats 4000000
def tabNm : String := (Rows.fnExactEncodeRecordRow.laid.getD 2 (default, .nil)).1

end Go.Proofs.YtdnkmgbbkggmdaaDoor

namespace Go.Proofs.YtdnkmgbbkggmdaaDoor
open Go.RowKit
set_option linter.unusedSectionVars false
variable [Glb]
set_option maxRecDepth 10000
set_option maxHeartbeats 4000000
open Go.Shelf Go.Proofs
def Tryd.laysM171_ren_strconv_Itoa : Go.Shelf.Ren := ⟨fun | 171 => 50 | 243 => 72 | 246 => 83 | 283 => 87 | 284 => 88 | 285 => 89 | 286 => 90 | 129 => 100 | 317 => 99 | 318 => 101 | 319 => 102 | 320 => 103 | 337 => 108 | 338 => 109 | n => n, fun | 3 => 3 | 9 => 9 | 2 => 2 | 4 => 4 | 171 => 104 | 0 => 0 | 53 => 77 | 37 => 53 | 5 => 5 | 173 => 107 | 212 => 117 | 51 => 118 | 20 => 20 | 213 => 119 | 46 => 103 | 232 => 126 | 233 => 127 | n => n, fun | 17 => 1 | 18 => 2 | 19 => 3 | n => n⟩
theorem Tryd.laysM171_strconv_Itoa : Go.Proofs.LaysM.n171 Tryd.prog Tryd.laysM171_ren_strconv_Itoa := {
  mixed := by kernel_rfl
  f129 := Tryd.func100.trans (congrArg some (by kernel_rfl))
  f171 := Tryd.func50.trans (congrArg some (by kernel_rfl))
  f243 := Tryd.func72.trans (congrArg some (by kernel_rfl))
  f246 := Tryd.func83.trans (congrArg some (by kernel_rfl))
  f283 := Tryd.func87.trans (congrArg some (by kernel_rfl))
  f284 := Tryd.func88.trans (congrArg some (by kernel_rfl))
  f285 := Tryd.func89.trans (congrArg some (by kernel_rfl))
  f286 := Tryd.func90.trans (congrArg some (by kernel_rfl))
  f317 := Tryd.func99.trans (congrArg some (by kernel_rfl))
  f318 := Tryd.func101.trans (congrArg some (by kernel_rfl))
  f319 := Tryd.func102.trans (congrArg some (by kernel_rfl))
  f320 := Tryd.func103.trans (congrArg some (by kernel_rfl))
  f337 := Tryd.func108.trans (congrArg some (by kernel_rfl))
  f338 := Tryd.func109.trans (congrArg some (by kernel_rfl))
  t0 := Tryd.underlying0
  a0 := Tryd.isAgg0
  z0 := Tryd.sizeOf0
  v0 := Tryd.zeroValue0
  t2 := Tryd.underlying2
  a2 := Tryd.isAgg2
  z2 := Tryd.sizeOf2
  v2 := Tryd.zeroValue2
  t3 := Tryd.underlying3
  a3 := Tryd.isAgg3
  z3 := Tryd.sizeOf3
  v3 := Tryd.zeroValue3
  t4 := Tryd.underlying4
  a4 := Tryd.isAgg4
  z4 := Tryd.sizeOf4
  v4 := Tryd.zeroValue4
  t5 := Tryd.underlying5
  a5 := Tryd.isAgg5
  z5 := Tryd.sizeOf5
  v5 := Tryd.zeroValue5
  t9 := Tryd.underlying9
  a9 := Tryd.isAgg9
  z9 := Tryd.sizeOf9
  v9 := Tryd.zeroValue9
  t20 := Tryd.underlying20
  a20 := Tryd.isAgg20
  z20 := Tryd.sizeOf20
  v20 := Tryd.zeroValue20
  t37 := Tryd.underlying53
  a37 := Tryd.isAgg53
  z37 := Tryd.sizeOf53
  v37 := Tryd.zeroValue53
  t46 := Tryd.underlying103
  a46 := Tryd.isAgg103
  z46 := Tryd.sizeOf103
  v46 := Tryd.zeroValue103
  t51 := Tryd.underlying118
  a51 := Tryd.isAgg118
  z51 := Tryd.sizeOf118
  v51 := Tryd.zeroValue118
  t53 := Tryd.underlying77
  a53 := Tryd.isAgg77
  z53 := Tryd.sizeOf77
  v53 := Tryd.zeroValue77
  t171 := Tryd.underlying104
  a171 := Tryd.isAgg104
  z171 := Tryd.sizeOf104
  v171 := Tryd.zeroValue104
  t173 := Tryd.underlying107
  a173 := Tryd.isAgg107
  z173 := Tryd.sizeOf107
  v173 := Tryd.zeroValue107
  t212 := Tryd.underlying117
  a212 := Tryd.isAgg117
  z212 := Tryd.sizeOf117
  v212 := Tryd.zeroValue117
  t213 := Tryd.underlying119
  a213 := Tryd.isAgg119
  z213 := Tryd.sizeOf119
  t232 := Tryd.underlying126
  a232 := Tryd.isAgg126
  z232 := Tryd.sizeOf126
  v232 := Tryd.zeroValue126
  t233 := Tryd.underlying127
  a233 := Tryd.isAgg127
  z233 := Tryd.sizeOf127
  v233 := Tryd.zeroValue127
  g17 := by kernel_rfl
  g18 := by kernel_rfl
  g19 := by kernel_rfl
  i0 := by kernel_rfl
  i2 := by kernel_rfl
  i3 := by kernel_rfl
  i4 := by kernel_rfl
  i5 := by kernel_rfl
  i9 := by kernel_rfl
  i20 := by kernel_rfl
  i37 := by kernel_rfl
  i46 := by kernel_rfl
  i51 := by kernel_rfl
  i53 := by kernel_rfl
  i171 := by kernel_rfl
  i173 := by kernel_rfl
  i212 := by kernel_rfl
  i232 := by kernel_rfl
  i233 := by kernel_rfl
  m17 := by kernel_rfl
  m18 := by kernel_rfl
  m19 := by kernel_rfl }
open Go.RowKit Go.Sort Go.Lib in
theorem Tryd.strconv_Itoa (n : Int) (h0 : -9223372036854775808 ≤ n) (h1 : n ≤ 9223372036854775807) (w : World) (htab : Lib.TabIs Tryd.prog w tabNm .u64 Lib.pow10Tab) :
    Calls Tryd.prog 50 #[.int .i64 n] w fun e w' => e = .returned (.string ⟨(Lib.itoa n).toArray⟩) ∧ ∃ k os, w' = grow (w.drewN k) os := Any.strconv_Itoa Tryd.laysM171_strconv_Itoa n h0 h1 w htab

end Go.Proofs.YtdnkmgbbkggmdaaDoor

namespace Go.Proofs.YtdnkmgbbkggmdaaDoor
open Go.RowKit
set_option linter.unusedSectionVars false
variable [Glb]
variable [GTab Tryd.prog tabNm]
set_option maxRecDepth 10000
set_option maxHeartbeats 4000000
theorem itoa_p (n : Nat) (h : n ≤ 1000000) : PC Tryd.prog 50 [.c (dI n)] (.p (.c (dT (numT n)))) :=
  pc_lit1 (Go.Proofs.enters_of Tryd.func50 (by kernel_rfl) rfl) (by
    have := (numT_len 6 n (by omega)).2
    simp [sc, bsT_size]; omega) fun w ok => (Tryd.strconv_Itoa (n : Int) (by omega) (by omega) w (GTab.tab w ok)).mono (by
    rintro e w' ⟨rfl, k, os, rfl⟩
    refine ⟨by rw [Go.Lib.itoa_nonneg]; rfl, ⟨rfl, rfl, rfl, ?_, fun g hg => ?_⟩⟩
    · simp [Go.Sort.grow, World.drewN]
    · simp only [Go.Sort.grow, World.drewN]; rw [Array.getElem?_append_left hg])

end Go.Proofs.YtdnkmgbbkggmdaaDoor

namespace Go.Proofs.YtdnkmgbbkggmdaaDoor
open Go.RowKit
set_option linter.unusedSectionVars false
variable [Glb]
set_option maxRecDepth 10000
set_option maxHeartbeats 4000000
open Go.Shelf Go.Proofs
def Tryd.lays144_ren_strings_Contains_one : Go.Shelf.Ren := ⟨fun | 144 => 70 | 143 => 82 | 219 => 86 | 217 => 95 | 225 => 96 | 224 => 97 | 267 => 98 | 266 => 106 | 314 => 107 | n => n, fun | 9 => 9 | 4 => 4 | 3 => 3 | 5 => 5 | 46 => 103 | 146 => 123 | 51 => 118 | n => n, fun | 1 => 0 | n => n⟩
theorem Tryd.lays144_strings_Contains_one : Go.Proofs.Lays.n144 Tryd.prog Tryd.lays144_ren_strings_Contains_one := {
  mixed := by kernel_rfl
  f143 := Tryd.func82.trans (congrArg some (by kernel_rfl))
  f144 := Tryd.func70.trans (congrArg some (by kernel_rfl))
  f217 := Tryd.func95.trans (congrArg some (by kernel_rfl))
  f219 := Tryd.func86.trans (congrArg some (by kernel_rfl))
  f224 := Tryd.func97.trans (congrArg some (by kernel_rfl))
  f225 := Tryd.func96.trans (congrArg some (by kernel_rfl))
  f266 := Tryd.func106.trans (congrArg some (by kernel_rfl))
  f267 := Tryd.func98.trans (congrArg some (by kernel_rfl))
  f314 := Tryd.func107.trans (congrArg some (by kernel_rfl))
  t3 := Tryd.underlying3
  a3 := Tryd.isAgg3
  z3 := Tryd.sizeOf3
  v3 := Tryd.zeroValue3
  t4 := Tryd.underlying4
  a4 := Tryd.isAgg4
  z4 := Tryd.sizeOf4
  v4 := Tryd.zeroValue4
  t5 := Tryd.underlying5
  a5 := Tryd.isAgg5
  z5 := Tryd.sizeOf5
  v5 := Tryd.zeroValue5
  t9 := Tryd.underlying9
  a9 := Tryd.isAgg9
  z9 := Tryd.sizeOf9
  v9 := Tryd.zeroValue9
  t46 := Tryd.underlying103
  a46 := Tryd.isAgg103
  z46 := Tryd.sizeOf103
  v46 := Tryd.zeroValue103
  t51 := Tryd.underlying118
  a51 := Tryd.isAgg118
  z51 := Tryd.sizeOf118
  v51 := Tryd.zeroValue118
  t146 := Tryd.underlying123
  a146 := Tryd.isAgg123
  z146 := Tryd.sizeOf123
  v146 := Tryd.zeroValue123
  g1 := by kernel_rfl }
open Go.RowKit Go.Lib in
theorem Tryd.strings_Contains_one (s : ByteArray) (c : UInt8) (w : World) :
    Calls Tryd.prog 70 #[.string s, .string ⟨#[c]⟩] w fun e w' => e = .returned (.bool (decide (0 ≤ Lib.indexByte s.data.toList c))) ∧ w' = w := Any.strings_Contains_one Tryd.lays144_strings_Contains_one s c w

end Go.Proofs.YtdnkmgbbkggmdaaDoor

namespace Go.Proofs.YtdnkmgbbkggmdaaDoor
open Go.RowKit
set_option linter.unusedSectionVars false
variable [Glb]
set_option maxRecDepth 10000
set_option maxHeartbeats 4000000
theorem strContains_p (s : Tx) (c : UInt8) : PC Tryd.prog 70 [.c (dT s), .c (dT [c])] (.p (.c (dB (s.contains c)))) :=
  pc_lit2 (Go.Proofs.enters_of Tryd.func70 (by kernel_rfl) rfl) rfl fun w _ => (Tryd.strings_Contains_one (bsT s) c w).mono (by
    rintro e w' ⟨rfl, rfl⟩; rw [bsT_list, ixB_has]; exact ⟨rfl, .refl _ _⟩)

end Go.Proofs.YtdnkmgbbkggmdaaDoor

namespace Go.Proofs.YtdnkmgbbkggmdaaDoor
open Go.RowKit
set_option linter.unusedSectionVars false
variable [Glb]
set_option maxRecDepth 10000
set_option maxHeartbeats 4000000
theorem checksum_p (s : Tx) : PC Tryd.prog 71 [.c (dT s)] (.p (.c (dI (sumN s)))) := by
  refine pc_intro Tryd.func71 rfl rfl rfl (by kernel_rfl) rfl rfl ?_; rintro ⟨hl, -⟩
  have hl := FitT hl
  repeat' (first | (refine so_is (.assign _) ?_; (refine so_q (qt_asC rfl) rfl ?_)) | (refine so_is (.move _) ?_; (refine so_q (qt_mvC rfl) rfl ?_)) | (refine so_is (.call ⟨.builtin .len, _, #[9]⟩) ?_; (refine so_q (qt_lenT rfl (by kernel_rfl)) rfl ?_)) | refine so_nil ?_ | refine sk_seq ?_ | refine sk_block ?_ | refine sk_region ?_)
  apply sk_packC [0, 3, 6, 7] [] rfl; (· (repeat (first | exact Pf.nil | apply Pf.cons (.c rfl (.d rfl))))); (· (repeat (exact Pb.nil)))
  refine sk_loopL [0, 6] [] (fun k => [(3, iN (sumN (s.take k))), (7, iN k)]) (fun _ => []) (fun k => k ≤ s.length) (fun k => s.length - k) (0) ?_ (by (repeat (first | exact trivial | refine ⟨(by (rfl)), ?_⟩))) (by (repeat (exact trivial))) ?_
  · simp
  rintro k hk
  have h0 := sumN_lt (s.take k)
  have hb := byt_lt s k
  by_cases h : k < s.length
  · have e : ((41 * (sumN (s.take k) : Int) + byt s k + 1) % 999979) = (sumN (s.take (k + 1)) : Int) := by rw [sumN_take h, byt_nat h]; omega
    repeat' (first | (refine so_is (.assign _) ?_; (refine so_q (qt_asC rfl) rfl ?_)) | (refine so_is (.move _) ?_; (refine so_q (qt_mvC rfl) rfl ?_)) | (refine so_is (.binOp .lss 3 _ _ _) ?_; refine so_q (qt_lss rfl rfl) rfl ?_) | (refine so_is (.binOp .mul 3 _ _ _) ?_; refine so_q (qt_mulI rfl rfl (by (omega))) rfl ?_) | (refine so_is (.index 9 _ _) ?_; (refine so_q (qt_indexT rfl rfl (by kernel_rfl) (by (omega)) (by (omega))) rfl ?_)) | (refine so_is (.convert 5 3 _) ?_; (refine so_q (qt_convI (k' := .i64) rfl (by kernel_rfl) (by kernel_rfl) (by (exact IntWalk.i64_in _ (by (omega))))) rfl ?_)) | (refine so_is (.binOp .add 3 _ _ _) ?_; refine so_q (qt_addI rfl rfl (by (omega))) rfl ?_) | (refine so_is (.binOp .rem 3 _ _ _) ?_; (refine so_q (qt_remN rfl rfl (by (omega)) (by (omega)) (by (omega))) rfl ?_)) | refine so_nil ?_ | refine sk_seq ?_ | refine sk_block ?_ | refine sk_blk ?_ | refine sk_exit rfl ?_ | refine sk_skip ?_ | refine sk_region ?_ | refine sk_if rfl (fun hc => ?_) (fun hc => ?_))
    all_goals first | (exfalso; omega) | skip
    refine sk_back ?_; refine ⟨k + 1, ?_, ?_, le_at rfl (by (repeat (first | exact trivial | refine ⟨(by (first | rfl | (refine int_eq rfl ?_; (omega)))), ?_⟩))) (by (repeat (first | exact trivial | refine ⟨rfl, ?_⟩))) (by (repeat (exact trivial))) (by (repeat (exact trivial)))⟩
    · omega
    · omega
  · repeat' (first | (refine so_is (.assign _) ?_; (refine so_q (qt_asC rfl) rfl ?_)) | (refine so_is (.move _) ?_; (refine so_q (qt_mvC rfl) rfl ?_)) | (refine so_is (.binOp .lss 3 _ _ _) ?_; refine so_q (qt_lss rfl rfl) rfl ?_) | (refine so_is (.binOp .mul 3 _ _ _) ?_; refine so_q (qt_mulI rfl rfl (by (omega))) rfl ?_) | (refine so_is (.index 9 _ _) ?_; (refine so_q (qt_indexT rfl rfl (by kernel_rfl) (by (omega)) (by (omega))) rfl ?_)) | (refine so_is (.convert 5 3 _) ?_; (refine so_q (qt_convI (k' := .i64) rfl (by kernel_rfl) (by kernel_rfl) (by (exact IntWalk.i64_in _ (by (omega))))) rfl ?_)) | (refine so_is (.binOp .add 3 _ _ _) ?_; refine so_q (qt_addI rfl rfl (by (omega))) rfl ?_) | (refine so_is (.binOp .rem 3 _ _ _) ?_; (refine so_q (qt_remN rfl rfl (by (omega)) (by (omega)) (by (omega))) rfl ?_)) | refine so_nil ?_ | refine sk_seq ?_ | refine sk_block ?_ | refine sk_blk ?_ | refine sk_exit rfl ?_ | refine sk_skip ?_ | refine sk_region ?_ | refine sk_if rfl (fun hc => ?_) (fun hc => ?_))
    all_goals first | (exfalso; omega) | skip
    have : k = s.length := by omega
    subst this
    (apply sk_ret; apply ret_eq; (· apply RetOK.p; (· (apply GvA.cons; (· exact .tmp _); (· exact GvP.c (.lit _))); exact GvA.nil); (· (decide))))
    simp

end Go.Proofs.YtdnkmgbbkggmdaaDoor

namespace Go.Proofs.YtdnkmgbbkggmdaaDoor
open Go.RowKit
set_option linter.unusedSectionVars false
variable [Glb]
variable [GTab Tryd.prog tabNm]
set_option maxRecDepth 10000
set_option maxHeartbeats 4000000
def acOK (s : Tx) : Bool := decide (s.length ≤ 4000) && !s.contains 35 && decide ((sealT s).length ≤ 4000)
def acT (s : Tx) : Tx := if acOK s = true then sealT s else []
theorem AppendChecksum_p (s : Tx) : PC Tryd.prog 49 [.c (dT s)] (.t [.c (dT (acT s)), .c (dB (acOK s))]) := by
  have h0 := sumN_lt s
  have h1 := (numS s).2
  refine pc_intro Tryd.func49 rfl rfl rfl (by kernel_rfl) rfl rfl ?_; intro _
  by_cases hk : s.length ≤ 4000
  · by_cases hc : 35 ∈ s
    · have e : acOK s = false := by simp [acOK, hc]
      repeat' (first | (refine so_is (.assign _) ?_; (refine so_q (qt_asC rfl) rfl ?_)) | (refine so_is (.move _) ?_; (refine so_q (qt_mvC rfl) rfl ?_)) | (refine so_is (.call ⟨.builtin .len, _, #[9]⟩) ?_; (refine so_q (qt_lenT rfl (by kernel_rfl)) rfl ?_)) | (refine so_is (.binOp .gtr 3 _ _ _) ?_; refine so_q (qt_gtr rfl rfl) rfl ?_) | (refine so_is (.pick _ _ _) ?_; (refine so_q (qt_pkC rfl rfl) rfl ?_)) | (refine so_is (.binOp .add 9 _ _ _) ?_; (refine so_q (qt_addT rfl rfl (by ((simp at *; omega)))) rfl ?_)) | (refine so_is (.call ⟨.value (.func 70), _, _⟩) ?_; (apply so_call0 (fid := 70); (· (repeat (first | exact SeA.nil | apply SeA.cons (.c (.d _))))); (· exact strContains_p _ 35); (· rfl))) | (refine so_is (.call ⟨.value (.func 71), _, _⟩) ?_; (apply so_call0 (fid := 71); (· (repeat (first | exact SeA.nil | apply SeA.cons (.c (.d _))))); (· exact checksum_p _); (· rfl))) | (refine so_is (.call ⟨.value (.func 50), _, _⟩) ?_; (apply so_call0 (fid := 50); (· (repeat (first | exact SeA.nil | apply SeA.cons (.c (.d _))))); (· exact itoa_p _ (by omega)); (· rfl))) | refine so_nil ?_ | refine so_g_no rfl rfl rfl rfl ?_ | refine so_g_yes rfl rfl rfl rfl ?_ | refine so_g_if rfl rfl (fun hg => ?_) (fun hg => ?_) | refine sk_seq ?_ | refine sk_skip ?_ | refine sk_region ?_ | refine sk_true rfl ?_ | refine sk_if rfl (fun hc => ?_) (fun hc => ?_) | refine sk_cond rfl (fun hc => ?_) (fun hc => ?_))
      all_goals first | (exfalso; simp_all; done) | (exfalso; omega) | skip
      all_goals (apply sk_ret; apply ret_eq; (· apply RetOK.t; (· (apply GvA.cons; (· exact .tmp _); (· exact GvP.c (.lit _))); (apply GvA.cons; (· exact .tmp _); (· exact GvP.c (.lit _))); exact GvA.nil); (· rfl); (· (decide))))
      all_goals simp [acT, e, bsT_nil]
    · by_cases hs : (sealT s).length ≤ 4000
      · have e : acOK s = true := by simp [acOK, hc, hk, hs]
        repeat' (first | (refine so_is (.assign _) ?_; (refine so_q (qt_asC rfl) rfl ?_)) | (refine so_is (.move _) ?_; (refine so_q (qt_mvC rfl) rfl ?_)) | (refine so_is (.call ⟨.builtin .len, _, #[9]⟩) ?_; (refine so_q (qt_lenT rfl (by kernel_rfl)) rfl ?_)) | (refine so_is (.binOp .gtr 3 _ _ _) ?_; refine so_q (qt_gtr rfl rfl) rfl ?_) | (refine so_is (.pick _ _ _) ?_; (refine so_q (qt_pkC rfl rfl) rfl ?_)) | (refine so_is (.binOp .add 9 _ _ _) ?_; (refine so_q (qt_addT rfl rfl (by ((simp at *; omega)))) rfl ?_)) | (refine so_is (.call ⟨.value (.func 70), _, _⟩) ?_; (apply so_call0 (fid := 70); (· (repeat (first | exact SeA.nil | apply SeA.cons (.c (.d _))))); (· exact strContains_p _ 35); (· rfl))) | (refine so_is (.call ⟨.value (.func 71), _, _⟩) ?_; (apply so_call0 (fid := 71); (· (repeat (first | exact SeA.nil | apply SeA.cons (.c (.d _))))); (· exact checksum_p _); (· rfl))) | (refine so_is (.call ⟨.value (.func 50), _, _⟩) ?_; (apply so_call0 (fid := 50); (· (repeat (first | exact SeA.nil | apply SeA.cons (.c (.d _))))); (· exact itoa_p _ (by omega)); (· rfl))) | refine so_nil ?_ | refine so_g_no rfl rfl rfl rfl ?_ | refine so_g_yes rfl rfl rfl rfl ?_ | refine so_g_if rfl rfl (fun hg => ?_) (fun hg => ?_) | refine sk_seq ?_ | refine sk_skip ?_ | refine sk_region ?_ | refine sk_true rfl ?_ | refine sk_if rfl (fun hc => ?_) (fun hc => ?_) | refine sk_cond rfl (fun hc => ?_) (fun hc => ?_))
        all_goals first | (exfalso; simp_all; done) | (exfalso; simp_all [sealT]; omega) | skip
        all_goals (apply sk_ret; apply ret_eq; (· apply RetOK.t; (· (apply GvA.cons; (· exact .tmp _); (· exact GvP.c (.lit _))); (apply GvA.cons; (· exact .tmp _); (· exact GvP.c (.lit _))); exact GvA.nil); (· rfl); (· (decide))))
        all_goals simp [acT, e, sealT]
      · have e : acOK s = false := by simp [acOK, hs]
        repeat' (first | (refine so_is (.assign _) ?_; (refine so_q (qt_asC rfl) rfl ?_)) | (refine so_is (.move _) ?_; (refine so_q (qt_mvC rfl) rfl ?_)) | (refine so_is (.call ⟨.builtin .len, _, #[9]⟩) ?_; (refine so_q (qt_lenT rfl (by kernel_rfl)) rfl ?_)) | (refine so_is (.binOp .gtr 3 _ _ _) ?_; refine so_q (qt_gtr rfl rfl) rfl ?_) | (refine so_is (.pick _ _ _) ?_; (refine so_q (qt_pkC rfl rfl) rfl ?_)) | (refine so_is (.binOp .add 9 _ _ _) ?_; (refine so_q (qt_addT rfl rfl (by ((simp at *; omega)))) rfl ?_)) | (refine so_is (.call ⟨.value (.func 70), _, _⟩) ?_; (apply so_call0 (fid := 70); (· (repeat (first | exact SeA.nil | apply SeA.cons (.c (.d _))))); (· exact strContains_p _ 35); (· rfl))) | (refine so_is (.call ⟨.value (.func 71), _, _⟩) ?_; (apply so_call0 (fid := 71); (· (repeat (first | exact SeA.nil | apply SeA.cons (.c (.d _))))); (· exact checksum_p _); (· rfl))) | (refine so_is (.call ⟨.value (.func 50), _, _⟩) ?_; (apply so_call0 (fid := 50); (· (repeat (first | exact SeA.nil | apply SeA.cons (.c (.d _))))); (· exact itoa_p _ (by omega)); (· rfl))) | refine so_nil ?_ | refine so_g_no rfl rfl rfl rfl ?_ | refine so_g_yes rfl rfl rfl rfl ?_ | refine so_g_if rfl rfl (fun hg => ?_) (fun hg => ?_) | refine sk_seq ?_ | refine sk_skip ?_ | refine sk_region ?_ | refine sk_true rfl ?_ | refine sk_if rfl (fun hc => ?_) (fun hc => ?_) | refine sk_cond rfl (fun hc => ?_) (fun hc => ?_))
        all_goals first | (exfalso; simp_all; done) | (exfalso; simp [sealT] at *; omega) | skip
        all_goals (apply sk_ret; apply ret_eq; (· apply RetOK.t; (· (apply GvA.cons; (· exact .tmp _); (· exact GvP.c (.lit _))); (apply GvA.cons; (· exact .tmp _); (· exact GvP.c (.lit _))); exact GvA.nil); (· rfl); (· (decide))))
        all_goals simp [acT, e, bsT_nil]
  · have e : acOK s = false := by simp [acOK, hk]
    repeat' (first | (refine so_is (.assign _) ?_; (refine so_q (qt_asC rfl) rfl ?_)) | (refine so_is (.move _) ?_; (refine so_q (qt_mvC rfl) rfl ?_)) | (refine so_is (.call ⟨.builtin .len, _, #[9]⟩) ?_; (refine so_q (qt_lenT rfl (by kernel_rfl)) rfl ?_)) | (refine so_is (.binOp .gtr 3 _ _ _) ?_; refine so_q (qt_gtr rfl rfl) rfl ?_) | (refine so_is (.pick _ _ _) ?_; (refine so_q (qt_pkC rfl rfl) rfl ?_)) | refine so_nil ?_ | refine so_g_no rfl rfl rfl rfl ?_ | refine so_g_yes rfl rfl rfl rfl ?_ | refine so_g_if rfl rfl (fun hg => ?_) (fun hg => ?_) | refine sk_seq ?_ | refine sk_region ?_ | refine sk_true rfl ?_)
    all_goals first | (exfalso; simp_all; done) | (exfalso; omega) | skip
    all_goals (apply sk_ret; apply ret_eq; (· apply RetOK.t; (· (apply GvA.cons; (· exact .tmp _); (· exact GvP.c (.lit _))); (apply GvA.cons; (· exact .tmp _); (· exact GvP.c (.lit _))); exact GvA.nil); (· rfl); (· (decide))))
    all_goals simp [acT, e, bsT_nil]

end Go.Proofs.YtdnkmgbbkggmdaaDoor

namespace Go.Proofs.YtdnkmgbbkggmdaaDoor
open Go.RowKit
set_option linter.unusedSectionVars false
variable [Glb]
variable [GTab Tryd.prog tabNm]
set_option maxRecDepth 10000
set_option maxHeartbeats 4000000
def vcOK (l : Tx) : Bool := acOK (bef 35 l) && decide (acT (bef 35 l) = l)
def vcT (l : Tx) : Tx := if vcOK l = true then bef 35 l else []
theorem VerifyChecksum_p (l : Tx) : PC Tryd.prog 76 [.c (dT l)] (.t [.c (dT (vcT l)), .c (dB (vcOK l))]) := by
  refine pc_intro Tryd.func76 rfl rfl rfl (by kernel_rfl) rfl rfl ?_; intro _
  repeat' (first | (refine so_is (.assign _) ?_; (refine so_q (qt_asC rfl) rfl ?_)) | (refine so_is (.move _) ?_; (first | refine so_q (qt_mvC rfl) rfl ?_ | refine so_q (qt_mvT rfl) rfl ?_)) | (refine so_is (.extract _ _) ?_; refine so_q (qt_extract rfl rfl) rfl ?_) | (refine so_is (.unOp .not 4 _) ?_; refine so_q (qt_not rfl) rfl ?_) | (refine so_is (.binOp .neq 9 _ _ _) ?_; (refine so_q (qt_neqT rfl rfl) rfl ?_)) | (refine so_is (.pick _ _ _) ?_; (refine so_q (qt_pkC rfl rfl) rfl ?_)) | (refine so_is (.call ⟨.value (.func 75), _, _⟩) ?_; (apply so_call0 (fid := 75); (· (repeat (first | exact SeA.nil | apply SeA.cons (.c (.d _))))); (· exact cut_p _ 35); (· rfl))) | (refine so_is (.call ⟨.value (.func 49), _, _⟩) ?_; (apply so_call0 (fid := 49); (· (repeat (first | exact SeA.nil | apply SeA.cons (.c (.d _))))); (· exact AppendChecksum_p _); (· rfl))) | refine so_nil ?_ | refine so_g_no rfl rfl rfl rfl ?_ | refine so_g_yes rfl rfl rfl rfl ?_ | refine so_g_b rfl rfl (fun hg => ?_) (fun hg => ?_) | refine sk_seq ?_ | refine sk_skip ?_ | refine sk_region ?_ | refine sk_true rfl ?_ | refine sk_if rfl (fun hc => ?_) (fun hc => ?_))
  all_goals (apply sk_ret; apply ret_eq; (· apply RetOK.t; (· (apply GvA.cons; (· exact .tmp _); (· exact GvP.c (.lit _))); (apply GvA.cons; (· exact .tmp _); (· exact GvP.c (.lit _))); exact GvA.nil); (· rfl); (· (decide))))
  all_goals simp_all [vcT, vcOK, bsT_nil]

end Go.Proofs.YtdnkmgbbkggmdaaDoor

namespace Go.Proofs.YtdnkmgbbkggmdaaDoor
open Go.RowKit
set_option linter.unusedSectionVars false
variable [Glb]
set_option maxRecDepth 10000
set_option maxHeartbeats 4000000
open Go.Shelf Go.Proofs
def Tryd.lays150_ren_strings_ContainsAny_laid : Go.Shelf.Ren := ⟨fun | 150 => 80 | 153 => 85 | 152 => 91 | 226 => 92 | 227 => 93 | 228 => 94 | 137 => 104 | 119 => 105 | 224 => 97 | 225 => 96 | 217 => 95 | 266 => 106 | n => n, fun | 9 => 9 | 4 => 4 | 3 => 3 | 5 => 5 | 21 => 21 | 117 => 112 | 116 => 111 | 0 => 0 | 46 => 103 | 124 => 122 | n => n, fun | n => n⟩
theorem Tryd.lays150_strings_ContainsAny_laid : Go.Proofs.Lays.n150 Tryd.prog Tryd.lays150_ren_strings_ContainsAny_laid := {
  mixed := by kernel_rfl
  f119 := Tryd.func105.trans (congrArg some (by kernel_rfl))
  f137 := Tryd.func104.trans (congrArg some (by kernel_rfl))
  f150 := Tryd.func80.trans (congrArg some (by kernel_rfl))
  f152 := Tryd.func91.trans (congrArg some (by kernel_rfl))
  f153 := Tryd.func85.trans (congrArg some (by kernel_rfl))
  f217 := Tryd.func95.trans (congrArg some (by kernel_rfl))
  f224 := Tryd.func97.trans (congrArg some (by kernel_rfl))
  f225 := Tryd.func96.trans (congrArg some (by kernel_rfl))
  f226 := Tryd.func92.trans (congrArg some (by kernel_rfl))
  f227 := Tryd.func93.trans (congrArg some (by kernel_rfl))
  f228 := Tryd.func94.trans (congrArg some (by kernel_rfl))
  f266 := Tryd.func106.trans (congrArg some (by kernel_rfl))
  t0 := Tryd.underlying0
  a0 := Tryd.isAgg0
  z0 := Tryd.sizeOf0
  v0 := Tryd.zeroValue0
  t3 := Tryd.underlying3
  a3 := Tryd.isAgg3
  z3 := Tryd.sizeOf3
  v3 := Tryd.zeroValue3
  t4 := Tryd.underlying4
  a4 := Tryd.isAgg4
  z4 := Tryd.sizeOf4
  v4 := Tryd.zeroValue4
  t5 := Tryd.underlying5
  a5 := Tryd.isAgg5
  z5 := Tryd.sizeOf5
  v5 := Tryd.zeroValue5
  t9 := Tryd.underlying9
  a9 := Tryd.isAgg9
  z9 := Tryd.sizeOf9
  v9 := Tryd.zeroValue9
  t21 := Tryd.underlying21
  a21 := Tryd.isAgg21
  z21 := Tryd.sizeOf21
  v21 := Tryd.zeroValue21
  t46 := Tryd.underlying103
  a46 := Tryd.isAgg103
  z46 := Tryd.sizeOf103
  v46 := Tryd.zeroValue103
  t116 := Tryd.underlying111
  a116 := Tryd.isAgg111
  z116 := Tryd.sizeOf111
  t117 := Tryd.underlying112
  a117 := Tryd.isAgg112
  z117 := Tryd.sizeOf112
  v117 := Tryd.zeroValue112
  t124 := Tryd.underlying122
  a124 := Tryd.isAgg122
  z124 := Tryd.sizeOf122
  v124 := Tryd.zeroValue122 }
open Go.RowKit Go.Lib in
theorem Tryd.strings_ContainsAny_laid (s chars : ByteArray) (w : World) (hs : s.size < 4294967281) (hcs : chars.size < 4294967281) (has : ∀ (j : Nat) b, s.data.toList[j]? = some b → b.toNat < 128) (hac : ∀ (j : Nat) b, chars.data.toList[j]? = some b → b.toNat < 128) :
    Calls Tryd.prog 80 #[.string s, .string chars] w fun e w' => e = .returned (.bool (Lib.containsAny s.data.toList chars.data.toList)) ∧ Below w.heap.size w w' := Any.strings_ContainsAny_laid Tryd.lays150_strings_ContainsAny_laid (by kernel_rfl) s chars w hs hcs has hac

end Go.Proofs.YtdnkmgbbkggmdaaDoor

namespace Go.Proofs.YtdnkmgbbkggmdaaDoor
open Go.RowKit
set_option linter.unusedSectionVars false
variable [Glb]
set_option maxRecDepth 10000
set_option maxHeartbeats 4000000
theorem ixA_has (o : Tx) : ∀ s : Tx, Go.Lib.containsAny s o = s.any fun b => o.contains b
  | [] => rfl
  | x :: r => by
    have ih := ixA_has o r
    unfold Go.Lib.containsAny at ih
    rw [List.any_cons, ← ih]
    show decide (0 ≤ (if o.contains x then 0 else if Go.Lib.indexAny r o == -1 then -1 else Go.Lib.indexAny r o + 1)) = _
    have := Go.Lib.indexAny_ge o r
    cases h : o.contains x with
    | true => simp
    | false =>
      rw [Bool.false_or]
      by_cases h3 : Go.Lib.indexAny r o = -1
      · simp [h3]
      · have h4 : (Go.Lib.indexAny r o == -1) = false := by simpa using h3
        rw [h4]
        simp only [Bool.false_eq_true, if_false]
        exact decide_eq_decide.2 ⟨fun _ => by omega, fun _ => by omega⟩
theorem containsAny_p (s o : Tx) (h1 : s.length ≤ 4000000) (h2 : o.length ≤ 100) (h3 : ∀ b ∈ s, b.toNat < 128) (h4 : ∀ b ∈ o, b.toNat < 128) : PC Tryd.prog 80 [.c (dT s), .c (dT o)] (.p (.c (dB (s.any fun b => o.contains b)))) :=
  pc_lit2 (Go.Proofs.enters_of Tryd.func80 (by kernel_rfl) rfl) rfl fun w _ => (Tryd.strings_ContainsAny_laid (bsT s) (bsT o) w (by rw [bsT_size]; omega) (by rw [bsT_size]; omega) (fun j b hb => h3 b (by rw [bsT_list] at hb; exact List.mem_of_getElem? hb)) (fun j b hb => h4 b (by rw [bsT_list] at hb; exact List.mem_of_getElem? hb))).mono (by
    rintro e w' ⟨rfl, hb⟩; rw [bsT_list, bsT_list, ixA_has]; exact ⟨rfl, hb⟩)

end Go.Proofs.YtdnkmgbbkggmdaaDoor

namespace Go.Proofs.YtdnkmgbbkggmdaaDoor
open Go.RowKit
set_option linter.unusedSectionVars false
variable [Glb]
set_option maxRecDepth 10000
set_option maxHeartbeats 4000000
theorem plB_f {s : Tx} {k : Nat} {most : Int} {o : Tx} (h : k < s.length) (e : byt s k < 32 ∨ 126 < byt s k) : plainB s most o = false := by
  have : s.all plB = false := by
    refine all_f h ?_
    rw [byt_nat h] at e
    simp [plB]; omega
  unfold plainB; rw [this]; rfl
theorem plB_go {s : Tx} {k : Nat} (h : k < s.length) (e : ¬ byt s k < 32) (e2 : ¬ 126 < byt s k) (ht : (s.take k).all plB = true) : (s.take (k + 1)).all plB = true := by
  rw [take_succ_all _ _ _ h, ht, Bool.true_and]
  rw [byt_nat h] at e e2
  simp [plB]; omega
theorem isPlain_p (s o : Tx) (most : Int) (h1 : most ≤ 4000000) (h2 : o.length ≤ 100) (h4 : ∀ b ∈ o, b.toNat < 128) : PC Tryd.prog 63 [.c (dT s), .c (dI most), .c (dT o)] (.p (.c (dB (plainB s most o)))) := by
  refine pc_intro Tryd.func63 rfl rfl rfl (by kernel_rfl) rfl rfl ?_; rintro ⟨hl, -⟩
  have hl := FitT hl
  repeat' (first | (refine so_is (.assign _) ?_; (refine so_q (qt_asC rfl) rfl ?_)) | (refine so_is (.move _) ?_; (refine so_q (qt_mvC rfl) rfl ?_)) | (refine so_is (.call ⟨.builtin .len, _, #[9]⟩) ?_; (refine so_q (qt_lenT rfl (by kernel_rfl)) rfl ?_)) | refine so_nil ?_ | refine sk_seq ?_ | refine sk_block ?_ | refine sk_region ?_)
  apply sk_packC [0, 1, 2, 9, 10] [] rfl; (· (repeat (first | exact Pf.nil | apply Pf.cons (.c rfl (.d rfl))))); (· (repeat (exact Pb.nil)))
  refine sk_loopL [0, 1, 2, 9] [] (fun k => [(10, iN k)]) (fun _ => []) (fun k => k ≤ s.length ∧ (s.take k).all plB = true) (fun k => s.length - k) (0) ?_ (by (repeat (first | exact trivial | refine ⟨(by (rfl)), ?_⟩))) (by (repeat (exact trivial))) ?_
  · simp
  rintro k ⟨hk, ht⟩
  have hb := byt_lt s k
  by_cases h : k < s.length
  · repeat' (first | (refine so_is (.assign _) ?_; (refine so_q (qt_asC rfl) rfl ?_)) | (refine so_is (.move _) ?_; (refine so_q (qt_mvC rfl) rfl ?_)) | (refine so_is (.call ⟨.builtin .len, _, #[9]⟩) ?_; (refine so_q (qt_lenT rfl (by kernel_rfl)) rfl ?_)) | (refine so_is (.binOp .lss 3 _ _ _) ?_; refine so_q (qt_lss rfl rfl) rfl ?_) | (refine so_is (.index 9 _ _) ?_; (refine so_q (qt_indexT rfl rfl (by kernel_rfl) (by (omega)) (by (omega))) rfl ?_)) | (refine so_is (.binOp .lss 5 _ _ _) ?_; refine so_q (qt_lss rfl rfl) rfl ?_) | (refine so_is (.binOp .gtr 5 _ _ _) ?_; refine so_q (qt_gtr rfl rfl) rfl ?_) | (refine so_is (.pick _ _ _) ?_; (refine so_q (qt_pkC rfl rfl) rfl ?_)) | (refine so_is (.binOp .add 3 _ _ _) ?_; refine so_q (qt_addI rfl rfl (by (omega))) rfl ?_) | (refine so_is (.binOp .leq 3 _ _ _) ?_; refine so_q (qt_leq rfl rfl) rfl ?_) | refine so_nil ?_ | refine so_g_no rfl rfl rfl rfl ?_ | refine so_g_yes rfl rfl rfl rfl ?_ | refine so_g_if rfl rfl (fun hg => ?_) (fun hg => ?_) | refine sk_seq ?_ | refine sk_block ?_ | refine sk_blk ?_ | refine sk_exit rfl ?_ | refine sk_skip ?_ | refine sk_region ?_ | refine sk_true rfl ?_ | refine sk_if rfl (fun hc => ?_) (fun hc => ?_))
    all_goals first | (exfalso; omega) | skip
    · (apply sk_ret; apply ret_eq; (· apply RetOK.p; (· (apply GvA.cons; (· exact .tmp _); (· exact GvP.c (.lit _))); exact GvA.nil); (· (decide))))
      rw [plB_f h (.inl (by assumption))]
    · (apply sk_ret; apply ret_eq; (· apply RetOK.p; (· (apply GvA.cons; (· exact .tmp _); (· exact GvP.c (.lit _))); exact GvA.nil); (· (decide))))
      rw [plB_f h (.inr (by omega))]
    · refine sk_back ?_; refine ⟨k + 1, ?_, ?_, le_at rfl (by (repeat (first | exact trivial | refine ⟨(by (rfl)), ?_⟩))) (by (repeat (first | exact trivial | refine ⟨rfl, ?_⟩))) (by (repeat (exact trivial))) (by (repeat (exact trivial)))⟩
      · exact ⟨by omega, plB_go h (by assumption) (by omega) ht⟩
      · omega
  · have : k = s.length := by omega
    subst this
    rw [List.take_length] at ht
    have h3 : ∀ b ∈ s, b.toNat < 128 := fun b hb => by
      have := List.all_eq_true.1 ht b hb
      simp [plB] at this; omega
    by_cases hm : (s.length : Int) ≤ most
    · have h5 : s.length ≤ 4000000 := by omega
      repeat' (first | (refine so_is (.assign _) ?_; (refine so_q (qt_asC rfl) rfl ?_)) | (refine so_is (.move _) ?_; (refine so_q (qt_mvC rfl) rfl ?_)) | (refine so_is (.call ⟨.builtin .len, _, #[9]⟩) ?_; (refine so_q (qt_lenT rfl (by kernel_rfl)) rfl ?_)) | (refine so_is (.binOp .lss 3 _ _ _) ?_; refine so_q (qt_lss rfl rfl) rfl ?_) | (refine so_is (.index 9 _ _) ?_; (refine so_q (qt_indexT rfl rfl (by kernel_rfl) (by (omega)) (by (omega))) rfl ?_)) | (refine so_is (.binOp .lss 5 _ _ _) ?_; refine so_q (qt_lss rfl rfl) rfl ?_) | (refine so_is (.binOp .gtr 5 _ _ _) ?_; refine so_q (qt_gtr rfl rfl) rfl ?_) | (refine so_is (.pick _ _ _) ?_; (refine so_q (qt_pkC rfl rfl) rfl ?_)) | (refine so_is (.binOp .add 3 _ _ _) ?_; refine so_q (qt_addI rfl rfl (by (omega))) rfl ?_) | (refine so_is (.binOp .leq 3 _ _ _) ?_; refine so_q (qt_leq rfl rfl) rfl ?_) | (refine so_is (.unOp .not 4 _) ?_; refine so_q (qt_not rfl) rfl ?_) | (refine so_is (.call ⟨.value (.func 80), _, _⟩) ?_; (apply so_call0 (fid := 80); (· (repeat (first | exact SeA.nil | apply SeA.cons (.c (.d _))))); (· exact containsAny_p _ _ (by assumption) (by assumption) (by assumption) (by assumption)); (· rfl))) | refine so_nil ?_ | refine so_g_no rfl rfl rfl rfl ?_ | refine so_g_yes rfl rfl rfl rfl ?_ | refine so_g_if rfl rfl (fun hg => ?_) (fun hg => ?_) | refine sk_seq ?_ | refine sk_block ?_ | refine sk_blk ?_ | refine sk_exit rfl ?_ | refine sk_skip ?_ | refine sk_region ?_ | refine sk_true rfl ?_ | refine sk_if rfl (fun hc => ?_) (fun hc => ?_))
      all_goals first | (exfalso; omega) | skip
      all_goals (apply sk_ret; apply ret_eq; (· apply RetOK.p; (· (apply GvA.cons; (· exact .tmp _); (· exact GvP.c (.lit _))); exact GvA.nil); (· (decide))))
      all_goals simp [plainB, ht, hm]
    · repeat' (first | (refine so_is (.assign _) ?_; (refine so_q (qt_asC rfl) rfl ?_)) | (refine so_is (.move _) ?_; (refine so_q (qt_mvC rfl) rfl ?_)) | (refine so_is (.call ⟨.builtin .len, _, #[9]⟩) ?_; (refine so_q (qt_lenT rfl (by kernel_rfl)) rfl ?_)) | (refine so_is (.binOp .lss 3 _ _ _) ?_; refine so_q (qt_lss rfl rfl) rfl ?_) | (refine so_is (.index 9 _ _) ?_; (refine so_q (qt_indexT rfl rfl (by kernel_rfl) (by (omega)) (by (omega))) rfl ?_)) | (refine so_is (.binOp .lss 5 _ _ _) ?_; refine so_q (qt_lss rfl rfl) rfl ?_) | (refine so_is (.binOp .gtr 5 _ _ _) ?_; refine so_q (qt_gtr rfl rfl) rfl ?_) | (refine so_is (.pick _ _ _) ?_; (refine so_q (qt_pkC rfl rfl) rfl ?_)) | (refine so_is (.binOp .add 3 _ _ _) ?_; refine so_q (qt_addI rfl rfl (by (omega))) rfl ?_) | (refine so_is (.binOp .leq 3 _ _ _) ?_; refine so_q (qt_leq rfl rfl) rfl ?_) | refine so_nil ?_ | refine so_g_no rfl rfl rfl rfl ?_ | refine so_g_yes rfl rfl rfl rfl ?_ | refine so_g_if rfl rfl (fun hg => ?_) (fun hg => ?_) | refine sk_seq ?_ | refine sk_block ?_ | refine sk_blk ?_ | refine sk_exit rfl ?_ | refine sk_skip ?_ | refine sk_region ?_ | refine sk_true rfl ?_ | refine sk_if rfl (fun hc => ?_) (fun hc => ?_))
      all_goals first | (exfalso; omega) | skip
      all_goals (apply sk_ret; apply ret_eq; (· apply RetOK.p; (· (apply GvA.cons; (· exact .tmp _); (· exact GvP.c (.lit _))); exact GvA.nil); (· (decide))))
      all_goals simp [plainB, ht, hm]

end Go.Proofs.YtdnkmgbbkggmdaaDoor

namespace Go.Proofs.YtdnkmgbbkggmdaaDoor
open Go.RowKit
set_option linter.unusedSectionVars false
variable [Glb]
set_option maxRecDepth 10000
set_option maxHeartbeats 4000000
theorem isCommand_p (s : Tx) : PC Tryd.prog 62 [.c (dT s)] (.p (.c (dB (decide (s ≠ []) && plainB s 160 [35, 64])))) := by
  refine pc_intro Tryd.func62 rfl rfl rfl (by kernel_rfl) rfl rfl ?_; intro _
  repeat' (first | (refine so_is (.assign _) ?_; (refine so_q (qt_asC rfl) rfl ?_)) | (refine so_is (.move _) ?_; (refine so_q (qt_mvC rfl) rfl ?_)) | (refine so_is (.binOp .neq 9 _ _ _) ?_; (refine so_q (qt_neqT rfl rfl) rfl ?_)) | (refine so_is (.pick _ _ _) ?_; (refine so_q (qt_pkC rfl rfl) rfl ?_)) | (refine so_is (.call ⟨.value (.func 63), _, _⟩) ?_; (apply so_call0 (fid := 63); (· (repeat (first | exact SeA.nil | apply SeA.cons (.c (.d _))))); (· exact isPlain_p _ [35, 64] _ (by decide) (by decide) (by decide)); (· rfl))) | refine so_nil ?_ | refine so_g_no rfl rfl rfl rfl ?_ | refine so_g_yes rfl rfl rfl rfl ?_ | refine so_g_if rfl rfl (fun hg => ?_) (fun hg => ?_) | refine sk_seq ?_ | refine sk_region ?_)
  all_goals (apply sk_ret; apply ret_eq; (· apply RetOK.p; (· (apply GvA.cons; (· exact .tmp _); (· exact GvP.c (.lit _))); exact GvA.nil); (· (decide))))
  all_goals simp_all

end Go.Proofs.YtdnkmgbbkggmdaaDoor

namespace Go.Proofs.YtdnkmgbbkggmdaaDoor
open Go.RowKit
set_option linter.unusedSectionVars false
variable [Glb]
set_option maxRecDepth 10000
set_option maxHeartbeats 4000000
theorem IsValidRecord_p (c r : Tx) : PC Tryd.prog 40 [.g [dT c, dT r]] (.p (.c (dB (recB c r)))) := by
  refine pc_intro Tryd.func40 rfl rfl rfl (by kernel_rfl) rfl rfl ?_; intro _
  repeat' (first | (refine so_is (.box 27 _) ?_; refine so_box rfl rfl ?_) | (refine so_is (.assign _) ?_; (refine so_q (qt_asC rfl) rfl ?_)) | (refine so_is (.fieldAddr 27 _ 0) ?_; (refine so_q (qt_fld_lp (off := 0) rfl (by kernel_rfl)) rfl ?_)) | (refine so_is (.load 9 _) ?_; (refine so_q (qt_load_box rfl rfl (by kernel_rfl) rfl) rfl ?_)) | (refine so_is (.move _) ?_; (refine so_q (qt_mvC rfl) rfl ?_)) | (refine so_is (.fieldAddr 27 _ 1) ?_; (refine so_q (qt_fld_lp (off := 1) rfl (by kernel_rfl)) rfl ?_)) | (refine so_is (.pick _ _ _) ?_; (refine so_q (qt_pkC rfl rfl) rfl ?_)) | (refine so_is (.call ⟨.value (.func 62), _, _⟩) ?_; (apply so_call0 (fid := 62); (· (repeat (first | exact SeA.nil | apply SeA.cons (.c (.d _))))); (· exact isCommand_p _); (· rfl))) | (refine so_is (.call ⟨.value (.func 63), _, _⟩) ?_; (apply so_call0 (fid := 63); (· (repeat (first | exact SeA.nil | apply SeA.cons (.c (.d _))))); (· exact isPlain_p _ [35] _ (by decide) (by decide) (by decide)); (· rfl))) | refine so_nil ?_ | refine so_g_no rfl rfl rfl rfl ?_ | refine so_g_yes rfl rfl rfl rfl ?_ | refine so_g_b rfl rfl (fun hg => ?_) (fun hg => ?_) | refine sk_seq ?_ | refine sk_region ?_)
  all_goals (apply sk_ret; apply ret_eq; (· apply RetOK.p; (· (apply GvA.cons; (· exact .tmp _); (· exact GvP.c (.lit _))); exact GvA.nil); (· (decide))))
  all_goals rw [← recB_eq]
  all_goals simp_all

end Go.Proofs.YtdnkmgbbkggmdaaDoor

namespace Go.Proofs.YtdnkmgbbkggmdaaDoor
open Go.RowKit
set_option linter.unusedSectionVars false
variable [Glb]
set_option maxRecDepth 10000
set_option maxHeartbeats 4000000
theorem within_p (n lo hi : Int) : PC Tryd.prog 48 [.c (dI n), .c (dI lo), .c (dI hi)] (.p (.c (dB (inB n lo hi)))) := by
  refine pc_intro Tryd.func48 rfl rfl rfl (by kernel_rfl) rfl rfl ?_; intro _
  repeat' (first | (refine so_is (.assign _) ?_; (refine so_q (qt_asC rfl) rfl ?_)) | (refine so_is (.move _) ?_; (refine so_q (qt_mvC rfl) rfl ?_)) | (refine so_is (.binOp .geq 3 _ _ _) ?_; refine so_q (qt_geq rfl rfl) rfl ?_) | (refine so_is (.binOp .leq 3 _ _ _) ?_; refine so_q (qt_leq rfl rfl) rfl ?_) | (refine so_is (.pick _ _ _) ?_; (refine so_q (qt_pkC rfl rfl) rfl ?_)) | refine so_nil ?_ | refine so_g_no rfl rfl rfl rfl ?_ | refine so_g_yes rfl rfl rfl rfl ?_ | refine so_g_if rfl rfl (fun hg => ?_) (fun hg => ?_) | refine sk_seq ?_ | refine sk_region ?_)
  all_goals ((apply sk_ret; apply ret_eq; (· apply RetOK.p; (· (apply GvA.cons; (· exact .tmp _); (· exact GvP.c (.lit _))); exact GvA.nil); (· (decide)))))
  all_goals (simp [dB, inB, *]; try omega)

end Go.Proofs.YtdnkmgbbkggmdaaDoor

namespace Go.Proofs.YtdnkmgbbkggmdaaDoor
open Go.RowKit
set_option linter.unusedSectionVars false
variable [Glb]
variable [GTab Tryd.prog tabNm]
set_option maxRecDepth 10000
set_option maxHeartbeats 4000000
theorem ac_line {k : Nat} {c r : Tx} (hk : k < 60) (h : RecP c r) : acT (textT k c r) = lineT k c r := by
  have h1 := text_len hk h
  have h2 := seal_len (textT k c r)
  have h3 := text35 (k := k) h
  have : acOK (textT k c r) = true := by simp [acOK, h3]; omega
  simp [acT, this, lineT]
theorem EncodeRecord_no (k : Int) (c r : Tx) (h : (inB k 0 59 && recB c r) = false) : PC Tryd.prog 15 [.c (dI k), .g [dT c, dT r]] (.t [.c (dT []), .c (dB false)]) := by
  refine pc_intro Tryd.func15 rfl rfl rfl (by kernel_rfl) rfl rfl ?_; intro _
  repeat' (first | (refine so_is (.box 27 _) ?_; refine so_box rfl rfl ?_) | (refine so_is (.assign _) ?_; (refine so_q (qt_asC rfl) rfl ?_)) | (refine so_is (.move _) ?_; (refine so_q (qt_mvC rfl) rfl ?_)) | (refine so_is (.unOp .not 4 _) ?_; refine so_q (qt_not rfl) rfl ?_) | (refine so_is (.load 27 _) ?_; (refine so_q (qt_load_boxs rfl rfl (by kernel_rfl : tAgg _ 27 2 = true) rfl) rfl ?_)) | (refine so_is (.pick _ _ _) ?_; (refine so_q (qt_pkC rfl rfl) rfl ?_)) | (refine so_is (.fieldAddr 27 _ 0) ?_; (refine so_q (qt_fld_lp (off := 0) rfl (by kernel_rfl)) rfl ?_)) | (refine so_is (.load 9 _) ?_; (refine so_q (qt_load_box rfl rfl (by kernel_rfl) rfl) rfl ?_)) | (refine so_is (.fieldAddr 27 _ 1) ?_; (refine so_q (qt_fld_lp (off := 1) rfl (by kernel_rfl)) rfl ?_)) | (refine so_is (.call ⟨.value (.func 48), _, _⟩) ?_; (apply so_call0 (fid := 48); (· (repeat (first | exact SeA.nil | apply SeA.cons (.c (.d _))))); (· exact within_p _ _ _); (· rfl))) | (refine so_is (.call ⟨.value (.func 40), _, _⟩) ?_; (apply so_call0 (fid := 40); (· (repeat (first | exact SeA.nil | (apply SeA.cons; (· (apply SeP.g; (repeat (first | exact SeL.nil | apply SeL.cons (.d _))))))))); (· exact IsValidRecord_p _ _); (· rfl))) | refine so_nil ?_ | refine so_g_no rfl rfl rfl rfl ?_ | refine so_g_yes rfl rfl rfl rfl ?_ | refine so_g_b rfl rfl (fun hg => ?_) (fun hg => ?_) | refine sk_seq ?_ | refine sk_skip ?_ | refine sk_region ?_ | refine sk_drawQ 3 (fun _ => false) (.step 0 true (.step 3 true (.step 4 true (.step 7 true (.step 8 true (.step 1 false (.step 2 true (.step 5 true (.step 6 true (.step 9 true (.step 10 false (.step 11 true (.step 12 true (.step 13 true (.step 14 true (.step 15 true .nil)))))))))))))))) [(0, 65535, 65535, true), (1, 65534, 65535, false), (2, 65533, 65535, true), (0, 65535, 65535, true), (8, 65527, 65535, false), (20, 65515, 65535, true), (32, 65503, 65535, true), (0, 65535, 65535, true), (128, 65407, 65535, false), (320, 65215, 65535, true), (514, 65023, 65535, false), (1024, 64511, 65535, true), (2048, 63487, 65535, true), (2048, 63487, 65535, true), (8191, 61439, 65535, true), (32767, 57343, 65535, true)] (by kernel_rfl) (by kernel_rfl) ?_ | refine sk_true rfl ?_ | refine sk_not rfl (fun hc => ?_) (fun hc => ?_))
  all_goals first | (exfalso; simp_all; done) | skip
  all_goals (apply sk_ret; apply ret_eq; (· apply RetOK.t; (· (apply GvA.cons; (· exact .tmp _); (· exact GvP.c (.lit _))); (apply GvA.cons; (· exact .tmp _); (· exact GvP.c (.lit _))); exact GvA.nil); (· rfl); (· (decide))))
  all_goals simp_all [bsT_nil]
theorem EncodeRecord_p (k : Nat) (c r : Tx) (h : k < 60) (hr : recB c r = true) : PC Tryd.prog 15 [.c (dI k), .g [dT c, dT r]] (.t [.c (dT (lineT k c r ++ [10])), .c (dB true)]) := by
  have hp := recB_p hr
  have h1 := text_len h hp
  have h2 := seal_len (textT k c r)
  have h3 := (num60 h).2
  have h4 := hp.cl
  have h5 := hp.rl
  have h6 : inB (k : Int) 0 59 = true := by rw [inB_iff]; omega
  have e := ac_line h hp
  have h7 : (acT (textT k c r)).length ≤ 4000 := by rw [e]; unfold lineT; omega
  unfold textT at h7
  refine pc_intro Tryd.func15 rfl rfl rfl (by kernel_rfl) rfl rfl ?_; intro _
  repeat' (first | (refine so_is (.box 27 _) ?_; refine so_box rfl rfl ?_) | (refine so_is (.assign _) ?_; (refine so_q (qt_asC rfl) rfl ?_)) | (refine so_is (.move _) ?_; (first | refine so_q (qt_mvC rfl) rfl ?_ | refine so_q (qt_mvT rfl) rfl ?_)) | (refine so_is (.unOp .not 4 _) ?_; refine so_q (qt_not rfl) rfl ?_) | (refine so_is (.load 27 _) ?_; (refine so_q (qt_load_boxs rfl rfl (by kernel_rfl : tAgg _ 27 2 = true) rfl) rfl ?_)) | (refine so_is (.pick _ _ _) ?_; (refine so_q (qt_pkC rfl rfl) rfl ?_)) | (refine so_is (.binOp .add 9 _ _ _) ?_; (refine so_q (qt_addT rfl rfl (by ((simp at *; omega)))) rfl ?_)) | (refine so_is (.fieldAddr 27 _ 0) ?_; (refine so_q (qt_fld_lp (off := 0) rfl (by kernel_rfl)) rfl ?_)) | (refine so_is (.load 9 _) ?_; (refine so_q (qt_load_box rfl rfl (by kernel_rfl) rfl) rfl ?_)) | (refine so_is (.fieldAddr 27 _ 1) ?_; (refine so_q (qt_fld_lp (off := 1) rfl (by kernel_rfl)) rfl ?_)) | (refine so_is (.extract _ _) ?_; refine so_q (qt_extract rfl rfl) rfl ?_) | (refine so_is (.call ⟨.value (.func 48), _, _⟩) ?_; (apply so_call0 (fid := 48); (· (repeat (first | exact SeA.nil | apply SeA.cons (.c (.d _))))); (· exact within_p _ _ _); (· rfl))) | (refine so_is (.call ⟨.value (.func 40), _, _⟩) ?_; (apply so_call0 (fid := 40); (· (repeat (first | exact SeA.nil | (apply SeA.cons; (· (apply SeP.g; (repeat (first | exact SeL.nil | apply SeL.cons (.d _))))))))); (· exact IsValidRecord_p _ _); (· rfl))) | (refine so_is (.call ⟨.value (.func 50), _, _⟩) ?_; (apply so_call0 (fid := 50); (· (repeat (first | exact SeA.nil | apply SeA.cons (.c (.d _))))); (· exact itoa_p _ (by omega)); (· rfl))) | (refine so_is (.call ⟨.value (.func 49), _, _⟩) ?_; (apply so_call0 (fid := 49); (· (repeat (first | exact SeA.nil | apply SeA.cons (.c (.d _))))); (· exact AppendChecksum_p _); (· rfl))) | refine so_nil ?_ | refine so_g_no rfl rfl rfl rfl ?_ | refine so_g_yes rfl rfl rfl rfl ?_ | refine so_g_b rfl rfl (fun hg => ?_) (fun hg => ?_) | refine sk_seq ?_ | refine sk_skip ?_ | refine sk_region ?_ | refine sk_drawQ 3 (fun _ => false) (.step 0 true (.step 3 true (.step 4 true (.step 7 true (.step 8 true (.step 1 false (.step 2 true (.step 5 true (.step 6 true (.step 9 true (.step 10 false (.step 11 true (.step 12 true (.step 13 true (.step 14 true (.step 15 true .nil)))))))))))))))) [(0, 65535, 65535, true), (1, 65534, 65535, false), (2, 65533, 65535, true), (0, 65535, 65535, true), (8, 65527, 65535, false), (20, 65515, 65535, true), (32, 65503, 65535, true), (0, 65535, 65535, true), (128, 65407, 65535, false), (320, 65215, 65535, true), (514, 65023, 65535, false), (1024, 64511, 65535, true), (2048, 63487, 65535, true), (2048, 63487, 65535, true), (8191, 61439, 65535, true), (32767, 57343, 65535, true)] (by kernel_rfl) (by kernel_rfl) ?_ | refine sk_true rfl ?_ | refine sk_not rfl (fun hc => ?_) (fun hc => ?_))
  all_goals first | (exfalso; simp_all; done) | skip
  all_goals (apply sk_ret; apply ret_eq; (· apply RetOK.t; (· (apply GvA.cons; (· exact .tmp _); (· exact GvP.c (.lit _))); (apply GvA.cons; (· exact .tmp _); (· exact GvP.c (.lit _))); exact GvA.nil); (· rfl); (· (decide))))
  all_goals rw [show acT (numT k ++ [32] ++ c ++ [64] ++ r) = lineT k c r from e]

end Go.Proofs.YtdnkmgbbkggmdaaDoor

namespace Go.Proofs.YtdnkmgbbkggmdaaDoor
open Go.RowKit
set_option linter.unusedSectionVars false
variable [Glb]
variable [GTab Tryd.prog tabNm]
set_option maxRecDepth 10000
set_option maxHeartbeats 4000000
theorem bef_no (b : UInt8) (s : Tx) : b ∉ bef b s := by
  by_cases h : b ∈ s
  · exact (split_at_b h).2
  · rw [bef_miss h]; exact h
theorem vc_eq (l : Tx) : vcT l = vtxT l := by
  unfold vcT vtxT
  have : vcOK l = verT l := by
    unfold vcOK verT acT
    have h := bef_no 35 l
    have e : acOK (bef 35 l) = (decide ((bef 35 l).length ≤ 4000) && decide ((sealT (bef 35 l)).length ≤ 4000)) := by simp [acOK, h]
    rw [← e]
    cases acOK (bef 35 l) <;> simp
  rw [this]
theorem readRecords_p (s : Tx) (hs : s.length ≤ 1000000) : PC Tryd.prog 52 [.c (dT s)] (.t [.c (eR (recsT s)), .c (eI (endsL s (numR s)))]) := by
  refine pc_intro Tryd.func52 rfl rfl rfl (by kernel_rfl) rfl rfl ?_; intro _
  repeat' (first | (refine so_is (.assign _) ?_; (refine so_q (qt_asC rfl) rfl ?_)) | (refine so_is (.buildSlice 48 0 _) ?_; (apply so_bslice (sz := 2) (by_ := 32); (· kernel_rfl); (· decide); (· (repeat (exact GvS.nil _))); (· (decide)); (· rfl); (· rfl); (· rfl))) | (refine so_is (.buildSlice 71 1 _) ?_; (apply so_bslice (sz := 1) (by_ := 8); (· kernel_rfl); (· decide); (· (repeat (first | exact GvS.nil _ | apply GvS.c rfl rfl (.lit _) rfl))); (· (decide)); (· rfl); (· rfl); (· rfl))) | refine so_nil ?_ | refine sk_seq ?_ | refine sk_block ?_ | refine sk_region ?_)
  apply sk_packC [0, 4, 5, 6] [15, 18, 19, 75, 76, 79, 80] rfl; (· (repeat (first | exact Pf.nil | apply Pf.cons (.c rfl (.d rfl)) | apply Pf.cons (.c rfl (.ls rfl))))); (· (repeat (first | exact Pb.nil | apply Pb.cons (.row rfl) | apply Pb.skip)))
  refine sk_loopL [0] [15, 75, 76, 79, 80] (fun j => [(4, .c (.ls 18 2 0 j)), (5, .c (.ls 19 1 0 (j + 1))), (6, iN (endsT s j))]) (fun j => [(18, .row 2 (recD ((recsT s).take j))), (19, .row 1 (cI (endsL s j)))]) (fun j => j ≤ numR s) (fun j => 60 - j) (0) ?_ (by (repeat (first | exact trivial | refine ⟨(by (rfl)), ?_⟩))) (by (repeat (first | exact trivial | refine ⟨(by ((refine row_eq rfl ?_; simp  [ends_zero, recD, endsL_zero]; done))), ?_⟩))) ?_
  · omega
  intro j hj
  have h60 := log_len s
  have hle := ends_le s j
  have hlr : ((recsT s).take j).length = j := by rw [List.length_take, recs_len]; omega
  have hrl : (recD ((recsT s).take j)).length = j * 2 := by rw [recD_len, hlr]
  have hel : (cI (endsL s j)).length = (j + 1) * 1 := by simp
  have hrest : partZ s (endsT s j) s.length = s.drop (endsT s j) := part_from s _ hle
  have hfin : numR s = j → (recsT s).take j = recsT s ∧ (recsT s).length = j := fun e => ⟨List.take_of_length_le (by rw [recs_len]; omega), (recs_len s).trans e⟩
  have hpl := partZ_le s (endsT s j) s.length
  have hbl := bef_len 10 (partZ s (endsT s j) s.length)
  by_cases h : j < 60
  · by_cases hm : 10 ∈ partZ s (endsT s j) s.length
    · have hd := decI (l := bef 10 (partZ s (endsT s j) s.length)) h
      rw [← vc_eq] at hd
      by_cases hr : recB (bef 64 (aft 32 (vcT (bef 10 (partZ s (endsT s j) s.length))))) (aft 64 (aft 32 (vcT (bef 10 (partZ s (endsT s j) s.length))))) = true
      · by_cases hl : lineT j (bef 64 (aft 32 (vcT (bef 10 (partZ s (endsT s j) s.length))))) (aft 64 (aft 32 (vcT (bef 10 (partZ s (endsT s j) s.length))))) = bef 10 (partZ s (endsT s j) s.length)
        · rw [if_pos ⟨hr, hl⟩] at hd
          have hst : stepT j (s.drop (endsT s j)) = some ((bef 64 (aft 32 (vcT (bef 10 (partZ s (endsT s j) s.length)))), aft 64 (aft 32 (vcT (bef 10 (partZ s (endsT s j) s.length))))), (bef 10 (s.drop (endsT s j))).length + 1) := step_some (by rw [← hrest]; exact hm) (by rw [← hrest]; exact hd)
          obtain ⟨g1, g2, g3⟩ := log_go hj h hst
          rw [← hrest] at g3
          clear hfin hrest hst hd
          repeat' (first | (refine so_is (.assign _) ?_; (refine so_q (qt_asC rfl) rfl ?_)) | (refine so_is (.buildSlice 71 1 _) ?_; (apply so_bslice (sz := 1) (by_ := 8); (· kernel_rfl); (· decide); (· (repeat (first | exact GvS.nil _ | apply GvS.c rfl rfl (.lit _) rfl))); (· (decide)); (· rfl); (· rfl); (· rfl))) | (refine so_is (.move _) ?_; (first | refine so_q (qt_mvC rfl) rfl ?_ | refine so_q (qt_mvT rfl) rfl ?_)) | (refine so_is (.call ⟨.builtin .len, _, #[48]⟩) ?_; (refine so_q (qt_len_ls rfl (by kernel_rfl)) rfl ?_)) | (refine so_is (.binOp .lss 3 _ _ _) ?_; refine so_q (qt_lss rfl rfl) rfl ?_) | (refine so_is (.slice 9 _ (some _) none none) ?_; (refine so_q (qt_sliceT10 rfl rfl (by kernel_rfl) (by (omega)) (by (omega))) rfl ?_)) | (refine so_is (.call ⟨.value (.func 75), _, _⟩) ?_; (first | (apply so_call0 (d := 27) (fid := 75); (· (repeat (first | exact SeA.nil | apply SeA.cons (.c (.d _))))); (· exact cut_p _ 10); (· rfl)) | (apply so_call0 (d := 40) (fid := 75); (· (repeat (first | exact SeA.nil | apply SeA.cons (.c (.d _))))); (· exact cut_p _ 32); (· rfl)) | (apply so_call0 (d := 46) (fid := 75); (· (repeat (first | exact SeA.nil | apply SeA.cons (.c (.d _))))); (· exact cut_p _ 64); (· rfl)))) | (refine so_is (.extract _ _) ?_; refine so_q (qt_extract rfl rfl) rfl ?_) | (refine so_is (.unOp .not 4 _) ?_; refine so_q (qt_not rfl) rfl ?_) | (refine so_is (.build 27 _) ?_; refine so_q (qt_build (cs := [_, _]) [(0, 1), (1, 1)] [.string ByteArray.empty, .string ByteArray.empty] (by kernel_rfl) (by kernel_rfl) rfl) rfl ?_) | (refine so_is (.alloc 27) ?_; refine so_alloc (zs := [.string ByteArray.empty, .string ByteArray.empty]) (by kernel_rfl) rfl ?_) | (refine so_is (.store 27 _ _) ?_; (refine so_store_box rfl rfl rfl (by kernel_rfl) rfl rfl ?_)) | (refine so_is (.load 27 _) ?_; (refine so_q (qt_load_boxs rfl rfl (by kernel_rfl : tAgg _ 27 2 = true) rfl) rfl ?_)) | (refine so_is (.binOp .add 9 _ _ _) ?_; (refine so_q (qt_addT rfl rfl (by ((simp at *; omega)))) rfl ?_)) | (refine so_is (.binOp .neq 9 _ _ _) ?_; (refine so_q (qt_neqT rfl rfl) rfl ?_)) | (refine so_is (.pick _ _ _) ?_; (refine so_q (qt_pkC rfl rfl) rfl ?_)) | (refine so_is (.call ⟨.builtin .len, _, #[9]⟩) ?_; (refine so_q (qt_lenT rfl (by kernel_rfl)) rfl ?_)) | (refine so_is (.binOp .add 3 _ _ _) ?_; refine so_q (qt_addI rfl rfl (by (omega))) rfl ?_) | (refine so_is (.buildSlice 48 1 _) ?_; (apply so_bslice (sz := 2) (by_ := 32); (· kernel_rfl); (· decide); (· (repeat (first | exact GvS.nil _ | (apply GvS.g rfl; (· (repeat (first | exact GvL.nil | apply GvL.cons (.lit _)))); (· rfl))))); (· (decide)); (· rfl); (· rfl); (· rfl))) | (refine so_is (.call ⟨.builtin .append, _, #[48, 48]⟩) ?_; ((apply so_appR (sz := 2) (by_ := 32); (· rfl); (· rfl); (· (assumption)); (· exact .row _ _ _ _ rfl (by ((simp; done)))); (· (decide)); (· kernel_rfl); (· decide); (· (omega)); (· (omega)); (· rfl); (· rfl); (· rfl)))) | (refine so_is (.call ⟨.builtin .append, _, #[71, 71]⟩) ?_; ((apply so_appR (sz := 1) (by_ := 8); (· rfl); (· rfl); (· (assumption)); (· exact .row _ _ _ _ rfl (by ((simp; done)))); (· (decide)); (· kernel_rfl); (· decide); (· (omega)); (· (omega)); (· rfl); (· rfl); (· rfl)))) | (refine so_is (.call ⟨.value (.func 76), _, _⟩) ?_; (apply so_call0 (fid := 76); (· (repeat (first | exact SeA.nil | apply SeA.cons (.c (.d _))))); (· exact VerifyChecksum_p _); (· rfl))) | (refine so_is (.call ⟨.value (.func 15), _, _⟩) ?_; (apply so_call0 (fid := 15); (· (repeat (first | exact SeA.nil | apply SeA.cons (.c (.d _)) | (apply SeA.cons; (· (apply SeP.g; (repeat (first | exact SeL.nil | apply SeL.cons (.d _))))))))); (· exact EncodeRecord_p _ _ _ h hr); (· rfl))) | refine so_nil ?_ | refine so_g_yes rfl rfl rfl rfl ?_ | refine sk_seq ?_ | refine sk_block ?_ | refine sk_blk ?_ | refine sk_exit rfl ?_ | refine sk_skip ?_ | refine sk_region ?_ | refine sk_if rfl (fun hc => ?_) (fun hc => ?_) | refine sk_not rfl (fun hc => ?_) (fun hc => ?_))
          all_goals first | (exfalso; omega) | (exfalso; simp_all; done) | skip
          refine sk_back ?_; refine ⟨j + 1, ?_, ?_, le_at rfl (by (repeat (first | exact trivial | refine ⟨(by (first | rfl | (refine int_eq rfl ?_; (omega)))), ?_⟩))) (by (repeat (first | exact trivial | refine ⟨rfl, ?_⟩))) (by (repeat (first | exact trivial | refine ⟨(by ((refine row_eq rfl ?_; simp  [recs_snoc g2, endsL_snoc, g3, Nat.add_assoc]; done))), ?_⟩))) (by (repeat (first | exact trivial | refine ⟨.inr rfl, ?_⟩ | refine ⟨.inl rfl, ?_⟩)))⟩
          · omega
          · omega
        · rw [if_neg (fun h => hl h.2)] at hd
          have hst := log_stop hj (step_none (by rw [← hrest]; exact hd))
          obtain ⟨f1, f2⟩ := hfin hst
          clear hfin hrest hd
          repeat' (first | (refine so_is (.assign _) ?_; (refine so_q (qt_asC rfl) rfl ?_)) | (refine so_is (.buildSlice 71 1 _) ?_; (apply so_bslice (sz := 1) (by_ := 8); (· kernel_rfl); (· decide); (· (repeat (first | exact GvS.nil _ | apply GvS.c rfl rfl (.lit _) rfl))); (· (decide)); (· rfl); (· rfl); (· rfl))) | (refine so_is (.move _) ?_; (first | refine so_q (qt_mvC rfl) rfl ?_ | refine so_q (qt_mvT rfl) rfl ?_)) | (refine so_is (.call ⟨.builtin .len, _, #[48]⟩) ?_; (refine so_q (qt_len_ls rfl (by kernel_rfl)) rfl ?_)) | (refine so_is (.binOp .lss 3 _ _ _) ?_; refine so_q (qt_lss rfl rfl) rfl ?_) | (refine so_is (.slice 9 _ (some _) none none) ?_; (refine so_q (qt_sliceT10 rfl rfl (by kernel_rfl) (by (omega)) (by (omega))) rfl ?_)) | (refine so_is (.call ⟨.value (.func 75), _, _⟩) ?_; (first | (apply so_call0 (d := 27) (fid := 75); (· (repeat (first | exact SeA.nil | apply SeA.cons (.c (.d _))))); (· exact cut_p _ 10); (· rfl)) | (apply so_call0 (d := 40) (fid := 75); (· (repeat (first | exact SeA.nil | apply SeA.cons (.c (.d _))))); (· exact cut_p _ 32); (· rfl)) | (apply so_call0 (d := 46) (fid := 75); (· (repeat (first | exact SeA.nil | apply SeA.cons (.c (.d _))))); (· exact cut_p _ 64); (· rfl)))) | (refine so_is (.extract _ _) ?_; refine so_q (qt_extract rfl rfl) rfl ?_) | (refine so_is (.unOp .not 4 _) ?_; refine so_q (qt_not rfl) rfl ?_) | (refine so_is (.build 27 _) ?_; refine so_q (qt_build (cs := [_, _]) [(0, 1), (1, 1)] [.string ByteArray.empty, .string ByteArray.empty] (by kernel_rfl) (by kernel_rfl) rfl) rfl ?_) | (refine so_is (.alloc 27) ?_; refine so_alloc (zs := [.string ByteArray.empty, .string ByteArray.empty]) (by kernel_rfl) rfl ?_) | (refine so_is (.store 27 _ _) ?_; (refine so_store_box rfl rfl rfl (by kernel_rfl) rfl rfl ?_)) | (refine so_is (.load 27 _) ?_; (refine so_q (qt_load_boxs rfl rfl (by kernel_rfl : tAgg _ 27 2 = true) rfl) rfl ?_)) | (refine so_is (.binOp .add 9 _ _ _) ?_; (refine so_q (qt_addT rfl rfl (by ((simp at *; omega)))) rfl ?_)) | (refine so_is (.binOp .neq 9 _ _ _) ?_; (refine so_q (qt_neqT rfl rfl) rfl ?_)) | (refine so_is (.pick _ _ _) ?_; (refine so_q (qt_pkC rfl rfl) rfl ?_)) | (refine so_is (.call ⟨.builtin .len, _, #[9]⟩) ?_; (refine so_q (qt_lenT rfl (by kernel_rfl)) rfl ?_)) | (refine so_is (.binOp .add 3 _ _ _) ?_; refine so_q (qt_addI rfl rfl (by (omega))) rfl ?_) | (refine so_is (.buildSlice 48 1 _) ?_; (apply so_bslice (sz := 2) (by_ := 32); (· kernel_rfl); (· decide); (· (repeat (first | exact GvS.nil _ | (apply GvS.g rfl; (· (repeat (first | exact GvL.nil | apply GvL.cons (.lit _)))); (· rfl))))); (· (decide)); (· rfl); (· rfl); (· rfl))) | (refine so_is (.call ⟨.builtin .append, _, #[48, 48]⟩) ?_; ((apply so_appR (sz := 2) (by_ := 32); (· rfl); (· rfl); (· (assumption)); (· exact .row _ _ _ _ rfl (by ((simp; done)))); (· (decide)); (· kernel_rfl); (· decide); (· (omega)); (· (omega)); (· rfl); (· rfl); (· rfl)))) | (refine so_is (.call ⟨.builtin .append, _, #[71, 71]⟩) ?_; ((apply so_appR (sz := 1) (by_ := 8); (· rfl); (· rfl); (· (assumption)); (· exact .row _ _ _ _ rfl (by ((simp; done)))); (· (decide)); (· kernel_rfl); (· decide); (· (omega)); (· (omega)); (· rfl); (· rfl); (· rfl)))) | (refine so_is (.call ⟨.value (.func 76), _, _⟩) ?_; (apply so_call0 (fid := 76); (· (repeat (first | exact SeA.nil | apply SeA.cons (.c (.d _))))); (· exact VerifyChecksum_p _); (· rfl))) | (refine so_is (.call ⟨.value (.func 15), _, _⟩) ?_; (apply so_call0 (fid := 15); (· (repeat (first | exact SeA.nil | apply SeA.cons (.c (.d _)) | (apply SeA.cons; (· (apply SeP.g; (repeat (first | exact SeL.nil | apply SeL.cons (.d _))))))))); (· exact EncodeRecord_p _ _ _ h hr); (· rfl))) | refine so_nil ?_ | refine so_g_yes rfl rfl rfl rfl ?_ | refine sk_seq ?_ | refine sk_block ?_ | refine sk_blk ?_ | refine sk_exit rfl ?_ | refine sk_skip ?_ | refine sk_region ?_ | refine sk_if rfl (fun hc => ?_) (fun hc => ?_) | refine sk_not rfl (fun hc => ?_) (fun hc => ?_))
          all_goals first | (exfalso; omega) | (exfalso; simp_all; done) | skip
          all_goals (apply sk_ret; apply ret_eq; (· apply RetOK.t; (· (apply GvA.cons; (· exact .tmp _); (· (exact GvP.c (.row _ _ _ _ rfl (by (assumption)))))); (apply GvA.cons; (· exact .tmp _); (· (exact GvP.c (.row _ _ _ _ rfl (by (assumption)))))); exact GvA.nil); (· rfl); (· (decide))))
          all_goals simp only [eR, eI, f1, f2, hst, endsL_len]
      · rw [if_neg (fun h => hr h.1)] at hd
        have hst := log_stop hj (step_none (by rw [← hrest]; exact hd))
        obtain ⟨f1, f2⟩ := hfin hst
        clear hfin hrest hd
        repeat' (first | (refine so_is (.assign _) ?_; (refine so_q (qt_asC rfl) rfl ?_)) | (refine so_is (.move _) ?_; (first | refine so_q (qt_mvC rfl) rfl ?_ | refine so_q (qt_mvT rfl) rfl ?_)) | (refine so_is (.call ⟨.builtin .len, _, #[48]⟩) ?_; (refine so_q (qt_len_ls rfl (by kernel_rfl)) rfl ?_)) | (refine so_is (.binOp .lss 3 _ _ _) ?_; refine so_q (qt_lss rfl rfl) rfl ?_) | (refine so_is (.slice 9 _ (some _) none none) ?_; (refine so_q (qt_sliceT10 rfl rfl (by kernel_rfl) (by (omega)) (by (omega))) rfl ?_)) | (refine so_is (.call ⟨.value (.func 75), _, _⟩) ?_; (first | (apply so_call0 (d := 27) (fid := 75); (· (repeat (first | exact SeA.nil | apply SeA.cons (.c (.d _))))); (· exact cut_p _ 10); (· rfl)) | (apply so_call0 (d := 40) (fid := 75); (· (repeat (first | exact SeA.nil | apply SeA.cons (.c (.d _))))); (· exact cut_p _ 32); (· rfl)) | (apply so_call0 (d := 46) (fid := 75); (· (repeat (first | exact SeA.nil | apply SeA.cons (.c (.d _))))); (· exact cut_p _ 64); (· rfl)))) | (refine so_is (.extract _ _) ?_; refine so_q (qt_extract rfl rfl) rfl ?_) | (refine so_is (.unOp .not 4 _) ?_; refine so_q (qt_not rfl) rfl ?_) | (refine so_is (.build 27 _) ?_; refine so_q (qt_build (cs := [_, _]) [(0, 1), (1, 1)] [.string ByteArray.empty, .string ByteArray.empty] (by kernel_rfl) (by kernel_rfl) rfl) rfl ?_) | (refine so_is (.alloc 27) ?_; refine so_alloc (zs := [.string ByteArray.empty, .string ByteArray.empty]) (by kernel_rfl) rfl ?_) | (refine so_is (.store 27 _ _) ?_; (refine so_store_box rfl rfl rfl (by kernel_rfl) rfl rfl ?_)) | (refine so_is (.load 27 _) ?_; (refine so_q (qt_load_boxs rfl rfl (by kernel_rfl : tAgg _ 27 2 = true) rfl) rfl ?_)) | (refine so_is (.pick _ _ _) ?_; (refine so_q (qt_pkC rfl rfl) rfl ?_)) | (refine so_is (.call ⟨.value (.func 76), _, _⟩) ?_; (apply so_call0 (fid := 76); (· (repeat (first | exact SeA.nil | apply SeA.cons (.c (.d _))))); (· exact VerifyChecksum_p _); (· rfl))) | (refine so_is (.call ⟨.value (.func 15), _, _⟩) ?_; (apply so_call0 (fid := 15); (· (repeat (first | exact SeA.nil | apply SeA.cons (.c (.d _)) | (apply SeA.cons; (· (apply SeP.g; (repeat (first | exact SeL.nil | apply SeL.cons (.d _))))))))); (· exact EncodeRecord_no _ _ _ (by simp_all)); (· rfl))) | refine so_nil ?_ | refine so_g_no rfl rfl rfl rfl ?_ | refine sk_seq ?_ | refine sk_block ?_ | refine sk_exit rfl ?_ | refine sk_skip ?_ | refine sk_region ?_ | refine sk_true rfl ?_ | refine sk_if rfl (fun hc => ?_) (fun hc => ?_) | refine sk_not rfl (fun hc => ?_) (fun hc => ?_))
        all_goals first | (exfalso; omega) | (exfalso; simp_all; done) | skip
        all_goals (apply sk_ret; apply ret_eq; (· apply RetOK.t; (· (apply GvA.cons; (· exact .tmp _); (· (exact GvP.c (.row _ _ _ _ rfl (by (assumption)))))); (apply GvA.cons; (· exact .tmp _); (· (exact GvP.c (.row _ _ _ _ rfl (by (assumption)))))); exact GvA.nil); (· rfl); (· (decide))))
        all_goals simp only [eR, eI, f1, f2, hst, endsL_len]
    · have hst := log_stop hj (step_no (by rw [← hrest]; exact hm))
      obtain ⟨f1, f2⟩ := hfin hst
      clear hfin hrest
      repeat' (first | (refine so_is (.assign _) ?_; (refine so_q (qt_asC rfl) rfl ?_)) | (refine so_is (.move _) ?_; (first | refine so_q (qt_mvC rfl) rfl ?_ | refine so_q (qt_mvT rfl) rfl ?_)) | (refine so_is (.call ⟨.builtin .len, _, #[48]⟩) ?_; (refine so_q (qt_len_ls rfl (by kernel_rfl)) rfl ?_)) | (refine so_is (.binOp .lss 3 _ _ _) ?_; refine so_q (qt_lss rfl rfl) rfl ?_) | (refine so_is (.slice 9 _ (some _) none none) ?_; (refine so_q (qt_sliceT10 rfl rfl (by kernel_rfl) (by (omega)) (by (omega))) rfl ?_)) | (refine so_is (.call ⟨.value (.func 75), _, _⟩) ?_; (apply so_call0 (d := 27) (fid := 75); (· (repeat (first | exact SeA.nil | apply SeA.cons (.c (.d _))))); (· exact cut_p _ 10); (· rfl))) | (refine so_is (.extract _ _) ?_; refine so_q (qt_extract rfl rfl) rfl ?_) | (refine so_is (.unOp .not 4 _) ?_; refine so_q (qt_not rfl) rfl ?_) | refine so_nil ?_ | refine sk_seq ?_ | refine sk_block ?_ | refine sk_exit rfl ?_ | refine sk_skip ?_ | refine sk_region ?_ | refine sk_if rfl (fun hc => ?_) (fun hc => ?_) | refine sk_not rfl (fun hc => ?_) (fun hc => ?_))
      all_goals first | (exfalso; omega) | (exfalso; simp_all; done) | skip
      all_goals (apply sk_ret; apply ret_eq; (· apply RetOK.t; (· (apply GvA.cons; (· exact .tmp _); (· (exact GvP.c (.row _ _ _ _ rfl (by (assumption)))))); (apply GvA.cons; (· exact .tmp _); (· (exact GvP.c (.row _ _ _ _ rfl (by (assumption)))))); exact GvA.nil); (· rfl); (· (decide))))
      all_goals simp only [eR, eI, f1, f2, hst, endsL_len]
  · have hst : numR s = j := by omega
    obtain ⟨f1, f2⟩ := hfin hst
    clear hfin hrest
    repeat' (first | (refine so_is (.assign _) ?_; (refine so_q (qt_asC rfl) rfl ?_)) | (refine so_is (.move _) ?_; (refine so_q (qt_mvC rfl) rfl ?_)) | (refine so_is (.call ⟨.builtin .len, _, #[48]⟩) ?_; (refine so_q (qt_len_ls rfl (by kernel_rfl)) rfl ?_)) | (refine so_is (.binOp .lss 3 _ _ _) ?_; refine so_q (qt_lss rfl rfl) rfl ?_) | (refine so_is (.slice 9 _ (some _) none none) ?_; (refine so_q (qt_sliceT10 rfl rfl (by kernel_rfl) (by (omega)) (by (omega))) rfl ?_)) | refine so_nil ?_ | refine sk_seq ?_ | refine sk_block ?_ | refine sk_exit rfl ?_ | refine sk_skip ?_ | refine sk_region ?_ | refine sk_if rfl (fun hc => ?_) (fun hc => ?_))
    all_goals first | (exfalso; omega) | (exfalso; simp_all; done) | skip
    all_goals (apply sk_ret; apply ret_eq; (· apply RetOK.t; (· (apply GvA.cons; (· exact .tmp _); (· (exact GvP.c (.row _ _ _ _ rfl (by (assumption)))))); (apply GvA.cons; (· exact .tmp _); (· (exact GvP.c (.row _ _ _ _ rfl (by (assumption)))))); exact GvA.nil); (· rfl); (· (decide))))
    all_goals simp only [eR, eI, f1, f2, hst, endsL_len]

end Go.Proofs.YtdnkmgbbkggmdaaDoor

namespace Go.Proofs.YtdnkmgbbkggmdaaDoor
open Go.RowKit
set_option linter.unusedSectionVars false
variable [Glb]
set_option maxRecDepth 10000
set_option maxHeartbeats 4000000
def ixI (x : Int) : List Int → Int
  | [] => -1
  | z :: r => if z = x then 0 else if ixI x r = -1 then -1 else ixI x r + 1
theorem ixI_none {x : Int} : ∀ {l : List Int}, x ∉ l → ixI x l = -1
  | [], _ => rfl
  | z :: r, h => by
    rw [List.mem_cons, not_or] at h
    rw [ixI, if_neg (Ne.symm h.1), ixI_none h.2, if_pos rfl]
theorem ixI_at {x : Int} : ∀ {l : List Int} {k : Nat} (h : k < l.length), l[k] = x → x ∉ l.take k → ixI x l = k
  | z :: r, 0, _, e, _ => by rw [ixI, if_pos (by simpa using e)]; rfl
  | z :: r, k + 1, h, e, ht => by
    rw [List.take_succ_cons, List.mem_cons, not_or] at ht
    have := ixI_at (l := r) (k := k) (by simpa using h) (by simpa using e) ht.2
    rw [ixI, if_neg (Ne.symm ht.1), this, if_neg (by omega)]; omega
theorem ixI_has (x : Int) : ∀ l : List Int, -1 ≤ ixI x l ∧ decide (ixI x l ≥ 0) = l.contains x
  | [] => ⟨by simp [ixI], rfl⟩
  | z :: r => by
    obtain ⟨h1, h2⟩ := ixI_has x r
    rw [ixI]
    by_cases hz : z = x
    · rw [if_pos hz]; simp [hz]
    · rw [if_neg hz]
      have : (z :: r).contains x = r.contains x := by
        rw [List.contains_cons]; simp [Ne.symm hz]
      rw [this, ← h2]
      split
      · rename_i e; rw [e]; exact ⟨by omega, rfl⟩
      · exact ⟨by omega, decide_eq_decide.2 ⟨fun _ => by omega, fun _ => by omega⟩⟩
theorem slIndex_p (l : List Int) (x : Int) : PC Tryd.prog 77 [.c (eI l), .c (dI x)] (.p (.c (dI (ixI x l)))) := by
  refine pc_intro Tryd.func77 rfl rfl rfl (by kernel_rfl) rfl rfl ?_; rintro ⟨hl, -⟩
  have hl := hl.len
  repeat' (first | (refine so_is (.assign _) ?_; (refine so_q (qt_asC rfl) rfl ?_)) | (refine so_is (.move _) ?_; (refine so_q (qt_mvC rfl) rfl ?_)) | (refine so_is (.call ⟨.builtin .len, _, #[71]⟩) ?_; (refine so_q (qt_len_d rfl (by kernel_rfl)) rfl ?_)) | refine so_nil ?_ | refine sk_seq ?_ | refine sk_block ?_ | refine sk_region ?_)
  apply sk_packC [0, 1, 7, 8] [] rfl; (· (repeat (first | exact Pf.nil | apply Pf.cons (.c rfl (.d rfl))))); (· (repeat (exact Pb.nil)))
  refine sk_loopL [0, 1, 7] [] (fun k => [(8, iN k)]) (fun _ => []) (fun k => k ≤ l.length ∧ x ∉ l.take k) (fun k => l.length - k) (0) ?_ (by (repeat (first | exact trivial | refine ⟨(by (rfl)), ?_⟩))) (by (repeat (exact trivial))) ?_
  · simp
  rintro k ⟨hk, ht⟩
  by_cases h : k < l.length
  · repeat' (first | (refine so_is (.assign _) ?_; (refine so_q (qt_asC rfl) rfl ?_)) | (refine so_is (.move _) ?_; (refine so_q (qt_mvC rfl) rfl ?_)) | (refine so_is (.binOp .lss 3 _ _ _) ?_; refine so_q (qt_lss rfl rfl) rfl ?_) | (refine so_is (.indexAddr 71 _ _) ?_; (refine so_q (qt_idxI rfl rfl (by kernel_rfl) (by (omega)) (by (omega))) rfl ?_)) | (refine so_is (.load 3 _) ?_; (refine so_q (qt_load_pt rfl (by kernel_rfl) rfl) rfl ?_)) | (refine so_is (.binOp .eql 3 _ _ _) ?_; refine so_q (qt_eql rfl rfl) rfl ?_) | (refine so_is (.binOp .add 3 _ _ _) ?_; refine so_q (qt_addI rfl rfl (by (omega))) rfl ?_) | refine so_nil ?_ | refine sk_seq ?_ | refine sk_block ?_ | refine sk_blk ?_ | refine sk_exit rfl ?_ | refine sk_skip ?_ | refine sk_region ?_ | refine sk_if rfl (fun hc => ?_) (fun hc => ?_))
    all_goals first | (exfalso; omega) | skip
    · (apply sk_ret; apply ret_eq; (· apply RetOK.p; (· (apply GvA.cons; (· exact .tmp _); (· exact GvP.c (.lit _))); exact GvA.nil); (· (decide))))
      have e : l[k] = x := by rw [← atZ_nat h]; apply Eq.symm; assumption
      rw [ixI_at h e ht]
    · refine sk_back ?_; refine ⟨k + 1, ?_, ?_, le_at rfl (by (repeat (first | exact trivial | refine ⟨(by (rfl)), ?_⟩))) (by (repeat (first | exact trivial | refine ⟨rfl, ?_⟩))) (by (repeat (exact trivial))) (by (repeat (exact trivial)))⟩
      · refine ⟨by omega, ?_⟩
        rw [List.take_succ_eq_append_getElem h, List.mem_append, not_or, List.mem_singleton, ← atZ_nat h]
        exact ⟨ht, by assumption⟩
      · omega
  · repeat' (first | (refine so_is (.assign _) ?_; (refine so_q (qt_asC rfl) rfl ?_)) | (refine so_is (.move _) ?_; (refine so_q (qt_mvC rfl) rfl ?_)) | (refine so_is (.binOp .lss 3 _ _ _) ?_; refine so_q (qt_lss rfl rfl) rfl ?_) | (refine so_is (.indexAddr 71 _ _) ?_; (refine so_q (qt_idxI rfl rfl (by kernel_rfl) (by (omega)) (by (omega))) rfl ?_)) | (refine so_is (.load 3 _) ?_; (refine so_q (qt_load_pt rfl (by kernel_rfl) rfl) rfl ?_)) | (refine so_is (.binOp .eql 3 _ _ _) ?_; refine so_q (qt_eql rfl rfl) rfl ?_) | (refine so_is (.binOp .add 3 _ _ _) ?_; refine so_q (qt_addI rfl rfl (by (omega))) rfl ?_) | refine so_nil ?_ | refine sk_seq ?_ | refine sk_block ?_ | refine sk_blk ?_ | refine sk_exit rfl ?_ | refine sk_skip ?_ | refine sk_region ?_ | refine sk_if rfl (fun hc => ?_) (fun hc => ?_))
    all_goals first | (exfalso; omega) | skip
    have : k = l.length := by omega
    subst this
    rw [List.take_length] at ht
    (apply sk_ret; apply ret_eq; (· apply RetOK.p; (· (apply GvA.cons; (· exact .tmp _); (· exact GvP.c (.lit _))); exact GvA.nil); (· (decide))))
    rw [ixI_none ht]
theorem containsI_p (l : List Int) (x : Int) : PC Tryd.prog 54 [.c (eI l), .c (dI x)] (.p (.c (dB (l.contains x)))) := by
  have h := (ixI_has x l).2
  refine pc_intro Tryd.func54 rfl rfl rfl (by kernel_rfl) rfl rfl ?_; intro _
  repeat' (first | (refine so_is (.assign _) ?_; (refine so_q (qt_asC rfl) rfl ?_)) | (refine so_is (.move _) ?_; (refine so_q (qt_mvC rfl) rfl ?_)) | (refine so_is (.binOp .geq 3 _ _ _) ?_; refine so_q (qt_geq rfl rfl) rfl ?_) | (refine so_is (.call ⟨.value (.func 77), _, _⟩) ?_; (apply so_call0 (fid := 77); (· (repeat (first | exact SeA.nil | apply SeA.cons (.c (.d _))))); (· exact slIndex_p _ _); (· rfl))) | refine so_nil ?_ | refine sk_seq ?_ | refine sk_region ?_)
  (apply sk_ret; apply ret_eq; (· apply RetOK.p; (· (apply GvA.cons; (· exact .tmp _); (· exact GvP.c (.lit _))); exact GvA.nil); (· (decide))))
  rw [← h]

end Go.Proofs.YtdnkmgbbkggmdaaDoor

namespace Go.Proofs.YtdnkmgbbkggmdaaDoor
open Go.RowKit
set_option linter.unusedSectionVars false
variable [Glb]
variable [GTab Tryd.prog tabNm]
set_option maxRecDepth 10000
set_option maxHeartbeats 4000000
theorem IsValidLog_p (d p : Tx) (c : Int) (hb : (d.length : Int) + p.length ≤ 1000000000) : PC Tryd.prog 22 [.g [dT d, dT p, dI c]] (.p (.c (dB (validB d p c)))) := by
  refine pc_intro Tryd.func22 rfl rfl rfl (by kernel_rfl) rfl rfl ?_; rintro ⟨hf, -⟩
  have hf0 := FitT (hf (dT d) (by simp))
  have hf1 := FitT (hf (dT p) (by simp))
  clear hf
  by_cases h : (d.length : Int) + p.length ≤ 30000
  · have h1 := recs_len (d ++ p)
    have h2 : ((d ++ p).length : Int) = d.length + p.length := by simp
    have h3 := endsL_len (d ++ p) (numR (d ++ p))
    repeat' (first | (refine so_is (.box 31 _) ?_; refine so_box rfl rfl ?_) | (refine so_is (.assign _) ?_; (refine so_q (qt_asC rfl) rfl ?_)) | (refine so_is (.fieldAddr 31 _ 0) ?_; (refine so_q (qt_fld_lp (off := 0) rfl (by kernel_rfl)) rfl ?_)) | (refine so_is (.load 9 _) ?_; (refine so_q (qt_load_box rfl rfl (by kernel_rfl) rfl) rfl ?_)) | (refine so_is (.call ⟨.builtin .len, _, #[9]⟩) ?_; (refine so_q (qt_lenT rfl (by kernel_rfl)) rfl ?_)) | (refine so_is (.fieldAddr 31 _ 1) ?_; (refine so_q (qt_fld_lp (off := 1) rfl (by kernel_rfl)) rfl ?_)) | (refine so_is (.binOp .add 3 _ _ _) ?_; refine so_q (qt_addI rfl rfl (by (omega))) rfl ?_) | (refine so_is (.binOp .gtr 3 _ _ _) ?_; refine so_q (qt_gtr rfl rfl) rfl ?_) | (refine so_is (.binOp .add 9 _ _ _) ?_; (refine so_q (qt_addT rfl rfl (by (omega))) rfl ?_)) | (refine so_is (.move _) ?_; (first | refine so_q (qt_mvC rfl) rfl ?_ | refine so_q (qt_mvT rfl) rfl ?_)) | (refine so_is (.extract _ _) ?_; refine so_q (qt_extract rfl rfl) rfl ?_) | (refine so_is (.call ⟨.builtin .len, _, #[48]⟩) ?_; (refine so_q (qt_len_d rfl (by kernel_rfl)) rfl ?_)) | (refine so_is (.indexAddr 71 _ _) ?_; (refine so_q (qt_idxI rfl rfl (by kernel_rfl) (by (omega)) (by (omega))) rfl ?_)) | (refine so_is (.load 3 _) ?_; (first | refine so_q (qt_load_box rfl rfl (by kernel_rfl) rfl) rfl ?_ | refine so_q (qt_load_pt rfl (by kernel_rfl) rfl) rfl ?_)) | (refine so_is (.binOp .eql 3 _ _ _) ?_; refine so_q (qt_eql rfl rfl) rfl ?_) | (refine so_is (.fieldAddr 31 _ 2) ?_; (refine so_q (qt_fld_lp (off := 2) rfl (by kernel_rfl)) rfl ?_)) | (refine so_is (.pick _ _ _) ?_; (refine so_q (qt_pkC rfl rfl) rfl ?_)) | (refine so_is (.call ⟨.value (.func 52), _, _⟩) ?_; (apply so_call0 (fid := 52); (· (repeat (first | exact SeA.nil | apply SeA.cons (.c (.d _))))); (· exact readRecords_p _ (by simp; omega)); (· rfl))) | (refine so_is (.call ⟨.value (.func 54), _, _⟩) ?_; (apply so_call0 (fid := 54); (· (repeat (first | exact SeA.nil | apply SeA.cons (.c (.d _))))); (· exact containsI_p _ _); (· rfl))) | refine so_nil ?_ | refine so_g_no rfl rfl rfl rfl ?_ | refine so_g_yes rfl rfl rfl rfl ?_ | refine so_g_if rfl rfl (fun hg => ?_) (fun hg => ?_) | refine sk_seq ?_ | refine sk_skip ?_ | refine sk_region ?_ | refine sk_drawQ 4 (fun _ => false) (.step 0 true (.step 1 true (.step 2 true (.step 3 true (.step 4 true (.step 5 true (.step 6 true (.step 7 true (.step 8 true (.step 9 true (.step 10 true (.step 11 true (.step 12 true (.step 13 true (.step 14 true (.step 15 true (.step 16 true (.step 17 true (.step 18 true (.step 19 true (.step 20 true (.step 21 true (.step 22 true (.step 23 true (.step 24 true (.step 25 false (.step 26 true (.step 27 true .nil)))))))))))))))))))))))))))) [(0, 268435455, 268435455, true), (0, 268435455, 268435455, true), (2, 268435453, 268435455, true), (5, 268435450, 268435455, true), (8, 268435447, 268435455, false), (0, 268435455, 268435455, true), (32, 268435423, 268435455, false), (64, 268435391, 268435455, true), (0, 268435455, 268435455, true), (256, 268435199, 268435455, false), (512, 268434943, 268435455, true), (1152, 268434303, 268435455, true), (2064, 268433391, 268435455, true), (4096, 268431359, 268435455, true), (8192, 268427263, 268435455, true), (24576, 268410879, 268435455, false), (8192, 268427263, 268435455, true), (73728, 268361727, 268435455, true), (172032, 268263423, 268435455, true), (270336, 268165119, 268435455, true), (532480, 267911167, 268435455, true), (1048576, 267386879, 268435455, true), (1048576, 267386879, 268435455, true), (5242880, 263192575, 268435455, false), (9437184, 258998271, 268435455, true), (19922944, 248512511, 268435455, false), (34603008, 233832447, 268435455, true), (134217727, 201326591, 268435455, true)] (by kernel_rfl) (by kernel_rfl) ?_ | refine sk_if rfl (fun hc => ?_) (fun hc => ?_))
    all_goals first | (exfalso; omega) | skip
    all_goals (apply sk_ret; apply ret_eq; (· apply RetOK.p; (· (apply GvA.cons; (· exact .tmp _); (· exact GvP.c (.lit _))); exact GvA.nil); (· (decide))))
    all_goals refine dB_eq (Bool.eq_iff_iff.2 ?_)
    all_goals rw [valid_iff h]
    all_goals try rw [endsL_at] at *
    · have hv := part_valid (x := d) (y := p) (by omega)
      rw [endsL_has, hv, decide_eq_true_eq]; omega
    · simp only [Bool.false_eq_true, false_iff]; omega
    · simp only [Bool.false_eq_true, false_iff]; omega
  · repeat' (first | (refine so_is (.box 31 _) ?_; refine so_box rfl rfl ?_) | (refine so_is (.assign _) ?_; (refine so_q (qt_asC rfl) rfl ?_)) | (refine so_is (.fieldAddr 31 _ 0) ?_; (refine so_q (qt_fld_lp (off := 0) rfl (by kernel_rfl)) rfl ?_)) | (refine so_is (.load 9 _) ?_; (refine so_q (qt_load_box rfl rfl (by kernel_rfl) rfl) rfl ?_)) | (refine so_is (.call ⟨.builtin .len, _, #[9]⟩) ?_; (refine so_q (qt_lenT rfl (by kernel_rfl)) rfl ?_)) | (refine so_is (.fieldAddr 31 _ 1) ?_; (refine so_q (qt_fld_lp (off := 1) rfl (by kernel_rfl)) rfl ?_)) | (refine so_is (.binOp .add 3 _ _ _) ?_; refine so_q (qt_addI rfl rfl (by (omega))) rfl ?_) | (refine so_is (.binOp .gtr 3 _ _ _) ?_; refine so_q (qt_gtr rfl rfl) rfl ?_) | (refine so_is (.binOp .add 9 _ _ _) ?_; (refine so_q (qt_addT rfl rfl (by (omega))) rfl ?_)) | (refine so_is (.move _) ?_; (first | refine so_q (qt_mvC rfl) rfl ?_ | refine so_q (qt_mvT rfl) rfl ?_)) | (refine so_is (.extract _ _) ?_; refine so_q (qt_extract rfl rfl) rfl ?_) | (refine so_is (.call ⟨.builtin .len, _, #[48]⟩) ?_; (refine so_q (qt_len_d rfl (by kernel_rfl)) rfl ?_)) | (refine so_is (.indexAddr 71 _ _) ?_; (refine so_q (qt_idxI rfl rfl (by kernel_rfl) (by (omega)) (by (omega))) rfl ?_)) | (refine so_is (.load 3 _) ?_; (first | refine so_q (qt_load_box rfl rfl (by kernel_rfl) rfl) rfl ?_ | refine so_q (qt_load_pt rfl (by kernel_rfl) rfl) rfl ?_)) | (refine so_is (.binOp .eql 3 _ _ _) ?_; refine so_q (qt_eql rfl rfl) rfl ?_) | (refine so_is (.fieldAddr 31 _ 2) ?_; (refine so_q (qt_fld_lp (off := 2) rfl (by kernel_rfl)) rfl ?_)) | (refine so_is (.pick _ _ _) ?_; (refine so_q (qt_pkC rfl rfl) rfl ?_)) | (refine so_is (.call ⟨.value (.func 52), _, _⟩) ?_; (apply so_call0 (fid := 52); (· (repeat (first | exact SeA.nil | apply SeA.cons (.c (.d _))))); (· exact readRecords_p _ (by simp; omega)); (· rfl))) | refine so_nil ?_ | refine so_g_no rfl rfl rfl rfl ?_ | refine so_g_yes rfl rfl rfl rfl ?_ | refine so_g_if rfl rfl (fun hg => ?_) (fun hg => ?_) | refine sk_seq ?_ | refine sk_skip ?_ | refine sk_region ?_ | refine sk_drawQ 4 (fun _ => false) (.step 0 true (.step 1 true (.step 2 true (.step 3 true (.step 4 true (.step 5 true (.step 6 true (.step 7 true (.step 8 true (.step 9 true (.step 10 true (.step 11 true (.step 12 true (.step 13 true (.step 14 true (.step 15 true (.step 16 true (.step 17 true (.step 18 true (.step 19 true (.step 20 true (.step 21 true (.step 22 true (.step 23 true (.step 24 true (.step 25 false (.step 26 true (.step 27 true .nil)))))))))))))))))))))))))))) [(0, 268435455, 268435455, true), (0, 268435455, 268435455, true), (2, 268435453, 268435455, true), (5, 268435450, 268435455, true), (8, 268435447, 268435455, false), (0, 268435455, 268435455, true), (32, 268435423, 268435455, false), (64, 268435391, 268435455, true), (0, 268435455, 268435455, true), (256, 268435199, 268435455, false), (512, 268434943, 268435455, true), (1152, 268434303, 268435455, true), (2064, 268433391, 268435455, true), (4096, 268431359, 268435455, true), (8192, 268427263, 268435455, true), (24576, 268410879, 268435455, false), (8192, 268427263, 268435455, true), (73728, 268361727, 268435455, true), (172032, 268263423, 268435455, true), (270336, 268165119, 268435455, true), (532480, 267911167, 268435455, true), (1048576, 267386879, 268435455, true), (1048576, 267386879, 268435455, true), (5242880, 263192575, 268435455, false), (9437184, 258998271, 268435455, true), (19922944, 248512511, 268435455, false), (34603008, 233832447, 268435455, true), (134217727, 201326591, 268435455, true)] (by kernel_rfl) (by kernel_rfl) ?_ | refine sk_if rfl (fun hc => ?_) (fun hc => ?_))
    all_goals first | (exfalso; omega) | skip
    all_goals (apply sk_ret; apply ret_eq; (· apply RetOK.p; (· (apply GvA.cons; (· exact .tmp _); (· exact GvP.c (.lit _))); exact GvA.nil); (· (decide))))
    all_goals rw [valid_long h]

end Go.Proofs.YtdnkmgbbkggmdaaDoor

namespace Go.Proofs.YtdnkmgbbkggmdaaDoor
open Go.RowKit
set_option linter.unusedSectionVars false
variable [Glb]
variable [GTab Tryd.prog tabNm]
set_option maxRecDepth 10000
set_option maxHeartbeats 4000000
theorem CrashLog_p (d p : Tx) (n keep : Int) (torn : Bool) (hb : (d.length : Int) + p.length ≤ 1000000000) : PC Tryd.prog 24 [.g [dT d, dT p, dI n], .c (dI keep), .c (dB torn)] (.t [.c (dT (crashT d p n keep torn)), .c (dB (crashB d p n keep))]) := by
  cases hv : crashB d p n keep with
  | false =>
    have e : crashT d p n keep torn = [] := by unfold crashT; rw [if_neg (by rw [hv]; decide)]
    rw [e]
    refine pc_intro Tryd.func24 rfl rfl rfl (by kernel_rfl) rfl rfl ?_; intro _
    repeat' (first | (refine so_is (.box 31 _) ?_; refine so_box rfl rfl ?_) | (refine so_is (.assign _) ?_; (refine so_q (qt_asC rfl) rfl ?_)) | (refine so_is (.load 31 _) ?_; (refine so_q (qt_load_boxs rfl rfl (by kernel_rfl : tAgg _ 31 3 = true) rfl) rfl ?_)) | (refine so_is (.unOp .not 4 _) ?_; refine so_q (qt_not rfl) rfl ?_) | (refine so_is (.move _) ?_; (refine so_q (qt_mvC rfl) rfl ?_)) | (refine so_is (.fieldAddr 31 _ 1) ?_; (refine so_q (qt_fld_lp (off := 1) rfl (by kernel_rfl)) rfl ?_)) | (refine so_is (.load 9 _) ?_; (refine so_q (qt_load_box rfl rfl (by kernel_rfl) rfl) rfl ?_)) | (refine so_is (.call ⟨.builtin .len, _, #[9]⟩) ?_; (refine so_q (qt_lenT rfl (by kernel_rfl)) rfl ?_)) | (refine so_is (.pick _ _ _) ?_; (refine so_q (qt_pkC rfl rfl) rfl ?_)) | (refine so_is (.fieldAddr 31 _ 0) ?_; (refine so_q (qt_fld_lp (off := 0) rfl (by kernel_rfl)) rfl ?_)) | (refine so_is (.call ⟨.value (.func 22), _, _⟩) ?_; (apply so_call0 (fid := 22); (· (repeat (first | exact SeA.nil | (apply SeA.cons; (· (apply SeP.g; (repeat (first | exact SeL.nil | apply SeL.cons (.d _))))))))); (· exact IsValidLog_p _ _ _ (by omega)); (· rfl))) | (refine so_is (.call ⟨.value (.func 48), _, _⟩) ?_; (apply so_call0 (fid := 48); (· (repeat (first | exact SeA.nil | apply SeA.cons (.c (.d _))))); (· exact within_p _ _ _); (· rfl))) | refine so_nil ?_ | refine so_g_no rfl rfl rfl rfl ?_ | refine so_g_yes rfl rfl rfl rfl ?_ | refine so_g_b rfl rfl (fun hg => ?_) (fun hg => ?_) | refine sk_seq ?_ | refine sk_skip ?_ | refine sk_region ?_ | refine sk_drawQ 3 (fun _ => false) (.step 0 true (.step 1 true (.step 2 true (.step 3 true (.step 4 true (.step 5 true (.step 6 true (.step 7 false (.step 8 true .nil))))))))) [(0, 511, 511, true), (1, 510, 511, false), (0, 511, 511, true), (4, 507, 511, false), (0, 511, 511, true), (24, 487, 511, true), (34, 477, 511, true), (64, 447, 511, true), (255, 383, 511, true)] (by kernel_rfl) (by kernel_rfl) ?_ | refine sk_true rfl ?_ | refine sk_not rfl (fun hc => ?_) (fun hc => ?_))
    all_goals first | (exfalso; simp_all [crashB]; done) | skip
    all_goals (apply sk_ret; apply ret_eq; (· apply RetOK.t; (· (apply GvA.cons; (· exact .tmp _); (· exact GvP.c (.lit _))); (apply GvA.cons; (· exact .tmp _); (· exact GvP.c (.lit _))); exact GvA.nil); (· rfl); (· (decide))))
    all_goals rfl
  | true =>
    have hv2 := hv
    simp only [crashB, Bool.and_eq_true] at hv2
    obtain ⟨h1, h2⟩ := hv2
    have hk := inB_iff.1 h2
    have hp : (partZ p 0 keep).length = keep.toNat := by rw [partZ_len (by omega)]; omega
    have hl : (d ++ partZ p 0 keep).length = d.length + keep.toNat := by rw [List.length_append, hp]
    have e : crashT d p n keep torn = d ++ keptT p keep torn := by unfold crashT; rw [if_pos hv]
    rw [e]
    cases torn with
    | false =>
      have e2 : keptT p keep false = partZ p 0 keep := rfl
      rw [e2]
      refine pc_intro Tryd.func24 rfl rfl rfl (by kernel_rfl) rfl rfl ?_; intro _
      repeat' (first | (refine so_is (.box 31 _) ?_; refine so_box rfl rfl ?_) | (refine so_is (.assign _) ?_; (refine so_q (qt_asC rfl) rfl ?_)) | (refine so_is (.load 31 _) ?_; (refine so_q (qt_load_boxs rfl rfl (by kernel_rfl : tAgg _ 31 3 = true) rfl) rfl ?_)) | (refine so_is (.unOp .not 4 _) ?_; refine so_q (qt_not rfl) rfl ?_) | (refine so_is (.move _) ?_; (refine so_q (qt_mvC rfl) rfl ?_)) | (refine so_is (.fieldAddr 31 _ 1) ?_; (refine so_q (qt_fld_lp (off := 1) rfl (by kernel_rfl)) rfl ?_)) | (refine so_is (.load 9 _) ?_; (refine so_q (qt_load_box rfl rfl (by kernel_rfl) rfl) rfl ?_)) | (refine so_is (.call ⟨.builtin .len, _, #[9]⟩) ?_; (refine so_q (qt_lenT rfl (by kernel_rfl)) rfl ?_)) | (refine so_is (.pick _ _ _) ?_; (refine so_q (qt_pkC rfl rfl) rfl ?_)) | (refine so_is (.fieldAddr 31 _ 0) ?_; (refine so_q (qt_fld_lp (off := 0) rfl (by kernel_rfl)) rfl ?_)) | (refine so_is (.slice 9 _ none (some _) none) ?_; (refine so_q (qt_sliceT01 rfl rfl (by kernel_rfl) (by (omega)) (by (omega))) rfl ?_)) | (refine so_is (.binOp .add 9 _ _ _) ?_; (refine so_q (qt_addT rfl rfl (by (omega))) rfl ?_)) | (refine so_is (.convert 9 53 _) ?_; (apply so_convTB; (· rfl); (· kernel_rfl); (· rfl); (intro g cap z e))) | (refine so_is (.convert 53 9 _) ?_; ((apply so_convBV (b := 27); (· rfl); (· rfl); (· (omega)); (· (omega)); (· kernel_rfl); (· rfl)))) | (refine so_is (.call ⟨.value (.func 22), _, _⟩) ?_; (apply so_call0 (fid := 22); (· (repeat (first | exact SeA.nil | (apply SeA.cons; (· (apply SeP.g; (repeat (first | exact SeL.nil | apply SeL.cons (.d _))))))))); (· exact IsValidLog_p _ _ _ (by omega)); (· rfl))) | (refine so_is (.call ⟨.value (.func 48), _, _⟩) ?_; (apply so_call0 (fid := 48); (· (repeat (first | exact SeA.nil | apply SeA.cons (.c (.d _))))); (· exact within_p _ _ _); (· rfl))) | refine so_nil ?_ | refine so_g_no rfl rfl rfl rfl ?_ | refine so_g_yes rfl rfl rfl rfl ?_ | refine so_g_b rfl rfl (fun hg => ?_) (fun hg => ?_) | refine sk_seq ?_ | refine sk_skip ?_ | refine sk_region ?_ | refine sk_drawQ 3 (fun _ => false) (.step 0 true (.step 1 true (.step 2 true (.step 3 true (.step 4 true (.step 5 true (.step 6 true (.step 7 false (.step 8 true .nil))))))))) [(0, 511, 511, true), (1, 510, 511, false), (0, 511, 511, true), (4, 507, 511, false), (0, 511, 511, true), (24, 487, 511, true), (34, 477, 511, true), (64, 447, 511, true), (255, 383, 511, true)] (by kernel_rfl) (by kernel_rfl) ?_ | refine sk_true rfl ?_ | refine sk_false rfl ?_ | refine sk_not rfl (fun hc => ?_) (fun hc => ?_))
      all_goals first | (exfalso; simp_all; done) | skip
      all_goals (apply sk_ret; apply ret_eq; (· apply RetOK.t; (· (apply GvA.cons; (· exact .tmp _); (· exact GvP.c (.lit _))); (apply GvA.cons; (· exact .tmp _); (· exact GvP.c (.lit _))); exact GvA.nil); (· rfl); (· (decide))))
      all_goals rfl
    | true =>
      by_cases h0 : 0 < keep
      · have e2 : keptT p keep true = tornT (partZ p 0 keep) (keep - 1).toNat := by unfold keptT; rw [if_pos (by simpa using h0)]
        rw [e2, ← tornT_append]
        have e3 : d.length + (keep - 1).toNat = (((d ++ partZ p 0 keep).length : Int) - 1).toNat := by omega
        rw [e3]
        have hl2 : (tornT (d ++ partZ p 0 keep) (((d ++ partZ p 0 keep).length : Int) - 1).toNat).length = (d ++ partZ p 0 keep).length := tornT_len _ _
        obtain ⟨L, hL⟩ : ∃ L, L = d ++ partZ p 0 keep := ⟨_, rfl⟩
        refine pc_intro Tryd.func24 rfl rfl rfl (by kernel_rfl) rfl rfl ?_; intro _
        repeat' (first | (refine so_is (.box 31 _) ?_; refine so_box rfl rfl ?_) | (refine so_is (.assign _) ?_; (refine so_q (qt_asC rfl) rfl ?_)) | (refine so_is (.load 31 _) ?_; (refine so_q (qt_load_boxs rfl rfl (by kernel_rfl : tAgg _ 31 3 = true) rfl) rfl ?_)) | (refine so_is (.unOp .not 4 _) ?_; refine so_q (qt_not rfl) rfl ?_) | (refine so_is (.move _) ?_; (refine so_q (qt_mvC rfl) rfl ?_)) | (refine so_is (.fieldAddr 31 _ 1) ?_; (refine so_q (qt_fld_lp (off := 1) rfl (by kernel_rfl)) rfl ?_)) | (refine so_is (.load 9 _) ?_; (refine so_q (qt_load_box rfl rfl (by kernel_rfl) rfl) rfl ?_)) | (refine so_is (.call ⟨.builtin .len, _, #[9]⟩) ?_; (refine so_q (qt_lenT rfl (by kernel_rfl)) rfl ?_)) | (refine so_is (.pick _ _ _) ?_; (refine so_q (qt_pkC rfl rfl) rfl ?_)) | (refine so_is (.fieldAddr 31 _ 0) ?_; (refine so_q (qt_fld_lp (off := 0) rfl (by kernel_rfl)) rfl ?_)) | (refine so_is (.slice 9 _ none (some _) none) ?_; (refine so_q (qt_sliceT01 rfl rfl (by kernel_rfl) (by (omega)) (by (omega))) rfl ?_)) | (refine so_is (.binOp .add 9 _ _ _) ?_; (refine so_q (qt_addT rfl rfl (by (omega))) rfl ?_)) | (refine so_is (.convert 9 53 _) ?_; (apply so_convTB; (· rfl); (· kernel_rfl); (· rfl); (intro g cap z e))) | (refine so_is (.binOp .gtr 3 _ _ _) ?_; refine so_q (qt_gtr rfl rfl) rfl ?_) | (refine so_is (.call ⟨.builtin .len, _, #[53]⟩) ?_; (refine so_q (qt_len_bv rfl (by kernel_rfl)) rfl ?_)) | (refine so_is (.binOp .sub 3 _ _ _) ?_; (refine so_q (qt_subI rfl rfl (by (omega))) rfl ?_)) | (refine so_is (.indexAddr 53 _ _) ?_; (refine so_q (qt_idx_bv rfl rfl (by kernel_rfl) (by (omega)) (by (omega))) rfl ?_)) | (refine so_is (.load 5 _) ?_; (refine so_q (qt_load_bv (b := 27) rfl rfl (by (omega)) (by kernel_rfl)) rfl ?_)) | (refine so_is (.binOp .sub 5 _ _ _) ?_; (refine so_q (qt_subY rfl rfl) rfl ?_)) | (refine so_is (.store 5 _ _) ?_; ((apply so_store_bv (b := 27); (· rfl); (· rfl); (· rfl); (· (omega)); (· kernel_rfl); (· rfl); skip))) | (refine so_is (.convert 53 9 _) ?_; ((apply so_convBV (b := 27); (· rfl); (· rfl); (· (omega)); (· (omega)); (· kernel_rfl); (· rfl)))) | (refine so_is (.call ⟨.value (.func 22), _, _⟩) ?_; (apply so_call0 (fid := 22); (· (repeat (first | exact SeA.nil | (apply SeA.cons; (· (apply SeP.g; (repeat (first | exact SeL.nil | apply SeL.cons (.d _))))))))); (· exact IsValidLog_p _ _ _ (by omega)); (· rfl))) | (refine so_is (.call ⟨.value (.func 48), _, _⟩) ?_; (apply so_call0 (fid := 48); (· (repeat (first | exact SeA.nil | apply SeA.cons (.c (.d _))))); (· exact within_p _ _ _); (· rfl))) | refine so_nil ?_ | refine so_g_no rfl rfl rfl rfl ?_ | refine so_g_yes rfl rfl rfl rfl ?_ | refine so_g_b rfl rfl (fun hg => ?_) (fun hg => ?_) | refine sk_seq ?_ | refine sk_skip ?_ | refine sk_region ?_ | refine sk_drawQ 3 (fun _ => false) (.step 0 true (.step 1 true (.step 2 true (.step 3 true (.step 4 true (.step 5 true (.step 6 true (.step 7 false (.step 8 true .nil))))))))) [(0, 511, 511, true), (1, 510, 511, false), (0, 511, 511, true), (4, 507, 511, false), (0, 511, 511, true), (24, 487, 511, true), (34, 477, 511, true), (64, 447, 511, true), (255, 383, 511, true)] (by kernel_rfl) (by kernel_rfl) ?_ | refine sk_true rfl ?_ | refine sk_if rfl (fun hc => ?_) (fun hc => ?_) | refine sk_not rfl (fun hc => ?_) (fun hc => ?_))
        all_goals first | (exfalso; simp_all; done) | (exfalso; omega) | skip
        all_goals (apply sk_ret; apply ret_eq; (· apply RetOK.t; (· (apply GvA.cons; (· exact .tmp _); (· exact GvP.c (.lit _))); (apply GvA.cons; (· exact .tmp _); (· exact GvP.c (.lit _))); exact GvA.nil); (· rfl); (· (decide))))
        all_goals rfl
      · have e2 : keptT p keep true = partZ p 0 keep := by unfold keptT; rw [if_neg (by simpa using h0)]
        rw [e2]
        refine pc_intro Tryd.func24 rfl rfl rfl (by kernel_rfl) rfl rfl ?_; intro _
        repeat' (first | (refine so_is (.box 31 _) ?_; refine so_box rfl rfl ?_) | (refine so_is (.assign _) ?_; (refine so_q (qt_asC rfl) rfl ?_)) | (refine so_is (.load 31 _) ?_; (refine so_q (qt_load_boxs rfl rfl (by kernel_rfl : tAgg _ 31 3 = true) rfl) rfl ?_)) | (refine so_is (.unOp .not 4 _) ?_; refine so_q (qt_not rfl) rfl ?_) | (refine so_is (.move _) ?_; (refine so_q (qt_mvC rfl) rfl ?_)) | (refine so_is (.fieldAddr 31 _ 1) ?_; (refine so_q (qt_fld_lp (off := 1) rfl (by kernel_rfl)) rfl ?_)) | (refine so_is (.load 9 _) ?_; (refine so_q (qt_load_box rfl rfl (by kernel_rfl) rfl) rfl ?_)) | (refine so_is (.call ⟨.builtin .len, _, #[9]⟩) ?_; (refine so_q (qt_lenT rfl (by kernel_rfl)) rfl ?_)) | (refine so_is (.pick _ _ _) ?_; (refine so_q (qt_pkC rfl rfl) rfl ?_)) | (refine so_is (.fieldAddr 31 _ 0) ?_; (refine so_q (qt_fld_lp (off := 0) rfl (by kernel_rfl)) rfl ?_)) | (refine so_is (.slice 9 _ none (some _) none) ?_; (refine so_q (qt_sliceT01 rfl rfl (by kernel_rfl) (by (omega)) (by (omega))) rfl ?_)) | (refine so_is (.binOp .add 9 _ _ _) ?_; (refine so_q (qt_addT rfl rfl (by (omega))) rfl ?_)) | (refine so_is (.convert 9 53 _) ?_; (apply so_convTB; (· rfl); (· kernel_rfl); (· rfl); (intro g cap z e))) | (refine so_is (.binOp .gtr 3 _ _ _) ?_; refine so_q (qt_gtr rfl rfl) rfl ?_) | (refine so_is (.call ⟨.builtin .len, _, #[53]⟩) ?_; (refine so_q (qt_len_bv rfl (by kernel_rfl)) rfl ?_)) | (refine so_is (.binOp .sub 3 _ _ _) ?_; (refine so_q (qt_subI rfl rfl (by (omega))) rfl ?_)) | (refine so_is (.indexAddr 53 _ _) ?_; (refine so_q (qt_idx_bv rfl rfl (by kernel_rfl) (by (omega)) (by (omega))) rfl ?_)) | (refine so_is (.load 5 _) ?_; (refine so_q (qt_load_bv (b := 27) rfl rfl (by (omega)) (by kernel_rfl)) rfl ?_)) | (refine so_is (.binOp .sub 5 _ _ _) ?_; (refine so_q (qt_subY rfl rfl) rfl ?_)) | (refine so_is (.store 5 _ _) ?_; ((apply so_store_bv (b := 27); (· rfl); (· rfl); (· rfl); (· (omega)); (· kernel_rfl); (· rfl); skip))) | (refine so_is (.convert 53 9 _) ?_; ((apply so_convBV (b := 27); (· rfl); (· rfl); (· (omega)); (· (omega)); (· kernel_rfl); (· rfl)))) | (refine so_is (.call ⟨.value (.func 22), _, _⟩) ?_; (apply so_call0 (fid := 22); (· (repeat (first | exact SeA.nil | (apply SeA.cons; (· (apply SeP.g; (repeat (first | exact SeL.nil | apply SeL.cons (.d _))))))))); (· exact IsValidLog_p _ _ _ (by omega)); (· rfl))) | (refine so_is (.call ⟨.value (.func 48), _, _⟩) ?_; (apply so_call0 (fid := 48); (· (repeat (first | exact SeA.nil | apply SeA.cons (.c (.d _))))); (· exact within_p _ _ _); (· rfl))) | refine so_nil ?_ | refine so_g_no rfl rfl rfl rfl ?_ | refine so_g_yes rfl rfl rfl rfl ?_ | refine so_g_b rfl rfl (fun hg => ?_) (fun hg => ?_) | refine sk_seq ?_ | refine sk_skip ?_ | refine sk_region ?_ | refine sk_drawQ 3 (fun _ => false) (.step 0 true (.step 1 true (.step 2 true (.step 3 true (.step 4 true (.step 5 true (.step 6 true (.step 7 false (.step 8 true .nil))))))))) [(0, 511, 511, true), (1, 510, 511, false), (0, 511, 511, true), (4, 507, 511, false), (0, 511, 511, true), (24, 487, 511, true), (34, 477, 511, true), (64, 447, 511, true), (255, 383, 511, true)] (by kernel_rfl) (by kernel_rfl) ?_ | refine sk_true rfl ?_ | refine sk_if rfl (fun hc => ?_) (fun hc => ?_) | refine sk_not rfl (fun hc => ?_) (fun hc => ?_))
        all_goals first | (exfalso; simp_all; done) | (exfalso; omega) | skip
        all_goals (apply sk_ret; apply ret_eq; (· apply RetOK.t; (· (apply GvA.cons; (· exact .tmp _); (· exact GvP.c (.lit _))); (apply GvA.cons; (· exact .tmp _); (· exact GvP.c (.lit _))); exact GvA.nil); (· rfl); (· (decide))))
        all_goals rfl

end Go.Proofs.YtdnkmgbbkggmdaaDoor

namespace Go.Proofs.YtdnkmgbbkggmdaaDoor
open Go.RowKit
set_option linter.unusedSectionVars false
variable [Glb]
set_option maxRecDepth 10000
set_option maxHeartbeats 4000000
theorem spRecoverLog_p (s : Tx) (hs : s.length ≤ 10000000) : PC Tryd.prog 16 [.c (dT s)] (.t [.g [dT (if s.length ≤ 30000 then s.take (endT s) else []), dT [], dI (if s.length ≤ 30000 then numR s else 0)], .c (dI (if s.length ≤ 30000 then endT s else 0)), .c (dB (decide (s.length ≤ 30000)))]) := by
  have h1 := recs_len s
  have h2 := ends_le s (numR s)
  have h3 : endT s ≤ s.length := h2
  have h4 := endsL_len s (numR s)
  have h5 := endsL_at s
  rw [h1] at h5
  by_cases h : s.length ≤ 30000
  all_goals
    refine pc_intro Tryd.func16 rfl rfl rfl (by kernel_rfl) rfl rfl ?_; intro _
    repeat' (first | (refine so_is (.alloc 31) ?_; refine so_alloc (zs := [.string ByteArray.empty, .string ByteArray.empty, .int .i64 0]) (by kernel_rfl) rfl ?_) | (refine so_is (.assign _) ?_; (refine so_q (qt_asC rfl) rfl ?_)) | (refine so_is (.move _) ?_; (first | refine so_q (qt_mvC rfl) rfl ?_ | refine so_q (qt_mvT rfl) rfl ?_)) | (refine so_is (.call ⟨.builtin .len, _, #[9]⟩) ?_; (refine so_q (qt_lenT rfl (by kernel_rfl)) rfl ?_)) | (refine so_is (.binOp .gtr 3 _ _ _) ?_; refine so_q (qt_gtr rfl rfl) rfl ?_) | (refine so_is (.build 31 _) ?_; refine so_q (qt_build (cs := [_, _, _]) [(0, 1), (1, 1), (2, 1)] [.string ByteArray.empty, .string ByteArray.empty, .int .i64 0] (by kernel_rfl) (by kernel_rfl) rfl) rfl ?_) | (refine so_is (.store 31 _ _) ?_; (refine so_store_box rfl rfl rfl (by kernel_rfl) rfl rfl ?_)) | (refine so_is (.extract _ _) ?_; refine so_q (qt_extract rfl rfl) rfl ?_) | (refine so_is (.slice 9 _ none (some _) none) ?_; (refine so_q (qt_sliceT01 rfl rfl (by kernel_rfl) (by (omega)) (by (omega))) rfl ?_)) | (refine so_is (.call ⟨.builtin .len, _, #[48]⟩) ?_; (refine so_q (qt_len_d rfl (by kernel_rfl)) rfl ?_)) | (refine so_is (.call ⟨.value (.func 51), _, _⟩) ?_; (apply so_call0 (fid := 51); (· (repeat (first | exact SeA.nil | apply SeA.cons (.c (.d _))))); (· exact l12Open_p _ (by omega)); (· rfl))) | refine so_nil ?_ | refine sk_seq ?_ | refine sk_skip ?_ | refine sk_region ?_ | refine sk_if rfl (fun hc => ?_) (fun hc => ?_))
    all_goals first | (exfalso; omega) | skip
    all_goals (apply sk_ret; apply ret_eq; (· apply RetOK.t; (· (apply GvA.cons; (· (apply RV.cellN (n := 3); (· rfl); (· rfl); (· kernel_rfl); (· rfl))); (· (apply GvP.g; (· (apply GvL.cons (.lit _)); (apply GvL.cons (.lit _)); (apply GvL.cons (.lit _)); exact GvL.nil)))); (apply GvA.cons; (· exact .tmp _); (· exact GvP.c (.lit _))); (apply GvA.cons; (· exact .tmp _); (· exact GvP.c (.lit _))); exact GvA.nil); (· rfl); (· (decide))))
    all_goals simp [bsT_emp, bsT_nil, h, part_to, h1, h5]

end Go.Proofs.YtdnkmgbbkggmdaaDoor

namespace Go.Proofs.YtdnkmgbbkggmdaaDoor
open Go.RowKit
set_option linter.unusedSectionVars false
variable [Glb]
variable [GTab Tryd.prog tabNm]
set_option maxRecDepth 10000
set_option maxHeartbeats 4000000
theorem RecoverLog_p (s : Tx) (hs : s.length ≤ 10000000) : PC Tryd.prog 17 [.c (dT s)] (.t [.g [dT (if s.length ≤ 30000 then s.take (endT s) else []), dT [], dI (if s.length ≤ 30000 then numR s else 0)], .c (dI (if s.length ≤ 30000 then endT s else 0)), .c (dB (decide (s.length ≤ 30000)))]) := by
  have h1 := recs_len s
  have h2 := ends_le s (numR s)
  have h3 : endT s ≤ s.length := h2
  have h4 := endsL_len s (numR s)
  have h5 := endsL_at s
  rw [h1] at h5
  by_cases h : s.length ≤ 30000
  all_goals
    refine pc_intro Tryd.func17 rfl rfl rfl (by kernel_rfl) rfl rfl ?_; intro _
    repeat' (first | (refine so_is (.alloc 31) ?_; refine so_alloc (zs := [.string ByteArray.empty, .string ByteArray.empty, .int .i64 0]) (by kernel_rfl) rfl ?_) | (refine so_is (.assign _) ?_; (refine so_q (qt_asC rfl) rfl ?_)) | (refine so_is (.move _) ?_; (first | refine so_q (qt_mvC rfl) rfl ?_ | refine so_q (qt_mvT rfl) rfl ?_)) | (refine so_is (.call ⟨.builtin .len, _, #[9]⟩) ?_; (refine so_q (qt_lenT rfl (by kernel_rfl)) rfl ?_)) | (refine so_is (.binOp .gtr 3 _ _ _) ?_; refine so_q (qt_gtr rfl rfl) rfl ?_) | (refine so_is (.build 31 _) ?_; refine so_q (qt_build (cs := [_, _, _]) [(0, 1), (1, 1), (2, 1)] [.string ByteArray.empty, .string ByteArray.empty, .int .i64 0] (by kernel_rfl) (by kernel_rfl) rfl) rfl ?_) | (refine so_is (.store 31 _ _) ?_; (refine so_store_box rfl rfl rfl (by kernel_rfl) rfl rfl ?_)) | (refine so_is (.extract _ _) ?_; refine so_q (qt_extract rfl rfl) rfl ?_) | (refine so_is (.call ⟨.builtin .len, _, #[48]⟩) ?_; (refine so_q (qt_len_d rfl (by kernel_rfl)) rfl ?_)) | (refine so_is (.indexAddr 71 _ _) ?_; (refine so_q (qt_idxI rfl rfl (by kernel_rfl) (by (omega)) (by (omega))) rfl ?_)) | (refine so_is (.load 3 _) ?_; (refine so_q (qt_load_pt rfl (by kernel_rfl) rfl) rfl ?_)) | (refine so_is (.slice 9 _ none (some _) none) ?_; (refine so_q (qt_sliceT01 rfl rfl (by kernel_rfl) (by (first | omega | (simp [*]; done))) (by (first | omega | (simp [*]; done)))) rfl ?_)) | (refine so_is (.call ⟨.value (.func 52), _, _⟩) ?_; (apply so_call0 (fid := 52); (· (repeat (first | exact SeA.nil | apply SeA.cons (.c (.d _))))); (· exact readRecords_p _ (by omega)); (· rfl))) | refine so_nil ?_ | refine sk_seq ?_ | refine sk_skip ?_ | refine sk_region ?_ | refine sk_if rfl (fun hc => ?_) (fun hc => ?_))
    all_goals first | (exfalso; omega) | skip
    all_goals (apply sk_ret; apply ret_eq; (· apply RetOK.t; (· (apply GvA.cons; (· (apply RV.cellN (n := 3); (· rfl); (· rfl); (· kernel_rfl); (· rfl))); (· (apply GvP.g; (· (apply GvL.cons (.lit _)); (apply GvL.cons (.lit _)); (apply GvL.cons (.lit _)); exact GvL.nil)))); (apply GvA.cons; (· exact .tmp _); (· exact GvP.c (.lit _))); (apply GvA.cons; (· exact .tmp _); (· exact GvP.c (.lit _))); exact GvA.nil); (· rfl); (· (decide))))
    all_goals simp [bsT_emp, bsT_nil, h, part_to, h1, h5]

end Go.Proofs.YtdnkmgbbkggmdaaDoor

namespace Go.Proofs.YtdnkmgbbkggmdaaDoor
open Go.RowKit
set_option linter.unusedSectionVars false
variable [Glb]
variable [GTab Tryd.prog tabNm]
set_option maxRecDepth 10000
set_option maxHeartbeats 4000000
theorem LogRecords_p (d p : Tx) (c : Int) (hb : (d.length : Int) + p.length ≤ 1000000000) : PC Tryd.prog 30 [.g [dT d, dT p, dI c]] (.t [.c (eR (if validB d p c then recsT (d ++ p) else [])), .c (dB (validB d p c))]) := by
  cases hv : validB d p c
  · refine pc_intro Tryd.func30 rfl rfl rfl (by kernel_rfl) rfl rfl ?_; intro _
    repeat' (first | (refine so_is (.box 31 _) ?_; refine so_box rfl rfl ?_) | (refine so_is (.assign _) ?_; (refine so_q (qt_asC rfl) rfl ?_)) | (refine so_is (.load 31 _) ?_; (refine so_q (qt_load_boxs rfl rfl (by kernel_rfl : tAgg _ 31 3 = true) rfl) rfl ?_)) | (refine so_is (.unOp .not 4 _) ?_; refine so_q (qt_not rfl) rfl ?_) | (refine so_is (.fieldAddr 31 _ 0) ?_; (refine so_q (qt_fld_lp (off := 0) rfl (by kernel_rfl)) rfl ?_)) | (refine so_is (.load 9 _) ?_; (refine so_q (qt_load_box rfl rfl (by kernel_rfl) rfl) rfl ?_)) | (refine so_is (.fieldAddr 31 _ 1) ?_; (refine so_q (qt_fld_lp (off := 1) rfl (by kernel_rfl)) rfl ?_)) | (refine so_is (.binOp .add 9 _ _ _) ?_; (refine so_q (qt_addT rfl rfl (by (omega))) rfl ?_)) | (refine so_is (.call ⟨.value (.func 22), _, _⟩) ?_; (apply so_call0 (fid := 22); (· (repeat (first | exact SeA.nil | (apply SeA.cons; (· (apply SeP.g; (repeat (first | exact SeL.nil | apply SeL.cons (.d _))))))))); (· exact IsValidLog_p _ _ _ (by omega)); (· rfl))) | refine so_nil ?_ | refine sk_seq ?_ | refine sk_skip ?_ | refine sk_region ?_ | refine sk_not rfl (fun hc => ?_) (fun hc => ?_))
    all_goals first | (exfalso; simp_all; done) | skip
    all_goals (apply sk_ret; apply ret_eq; (· apply RetOK.t; (· (apply GvA.cons; (· exact .tmp _); (· (exact GvP.c (.nil 2 (by decide))))); (apply GvA.cons; (· exact .tmp _); (· exact GvP.c (.lit _))); exact GvA.nil); (· rfl); (· (decide))))
    all_goals simp [recD]
  · have hl := (validB_p hv).len
    refine pc_intro Tryd.func30 rfl rfl rfl (by kernel_rfl) rfl rfl ?_; intro _
    repeat' (first | (refine so_is (.box 31 _) ?_; refine so_box rfl rfl ?_) | (refine so_is (.assign _) ?_; (refine so_q (qt_asC rfl) rfl ?_)) | (refine so_is (.load 31 _) ?_; (refine so_q (qt_load_boxs rfl rfl (by kernel_rfl : tAgg _ 31 3 = true) rfl) rfl ?_)) | (refine so_is (.unOp .not 4 _) ?_; refine so_q (qt_not rfl) rfl ?_) | (refine so_is (.fieldAddr 31 _ 0) ?_; (refine so_q (qt_fld_lp (off := 0) rfl (by kernel_rfl)) rfl ?_)) | (refine so_is (.load 9 _) ?_; (refine so_q (qt_load_box rfl rfl (by kernel_rfl) rfl) rfl ?_)) | (refine so_is (.fieldAddr 31 _ 1) ?_; (refine so_q (qt_fld_lp (off := 1) rfl (by kernel_rfl)) rfl ?_)) | (refine so_is (.binOp .add 9 _ _ _) ?_; (refine so_q (qt_addT rfl rfl (by (omega))) rfl ?_)) | (refine so_is (.move _) ?_; (first | refine so_q (qt_mvC rfl) rfl ?_ | refine so_q (qt_mvT rfl) rfl ?_)) | (refine so_is (.extract _ _) ?_; refine so_q (qt_extract rfl rfl) rfl ?_) | (refine so_is (.call ⟨.value (.func 22), _, _⟩) ?_; (apply so_call0 (fid := 22); (· (repeat (first | exact SeA.nil | (apply SeA.cons; (· (apply SeP.g; (repeat (first | exact SeL.nil | apply SeL.cons (.d _))))))))); (· exact IsValidLog_p _ _ _ (by omega)); (· rfl))) | (refine so_is (.call ⟨.value (.func 52), _, _⟩) ?_; (apply so_callO0 (fid := 52); (· (repeat (first | exact SeA.nil | apply SeA.cons (.c (.d _))))); (· exact readRecords_p _ (by simp; omega)); (· rfl); (· rfl))) | refine so_nil ?_ | refine sk_seq ?_ | refine sk_skip ?_ | refine sk_region ?_ | refine sk_not rfl (fun hc => ?_) (fun hc => ?_))
    all_goals first | (exfalso; simp_all; done) | skip
    all_goals (apply sk_ret; apply ret_eq; (· apply RetOK.t; (· (apply GvA.cons; (· exact .tmp _); (· (exact GvP.c (.row _ _ _ _ rfl (by ((simp; done))))))); (apply GvA.cons; (· exact .tmp _); (· exact GvP.c (.lit _))); exact GvA.nil); (· rfl); (· (decide))))
    all_goals simp

end Go.Proofs.YtdnkmgbbkggmdaaDoor

namespace Go.Proofs.YtdnkmgbbkggmdaaDoor
open Go.RowKit
set_option linter.unusedSectionVars false
variable [Glb]
variable [GTab Tryd.prog tabNm]
set_option maxRecDepth 10000
set_option maxHeartbeats 4000000
theorem FnCrashes_p (code : Tx) : PC Tryd.prog 11 [.c (eB code)] (.p (.c (dB true))) := by
  by_cases hbig : code.length ≤ 65536
  · refine pc_intro Tryd.func11 rfl rfl rfl (by kernel_rfl) rfl rfl ?_; intro _
    repeat' (first | (refine so_is (.assign _) ?_; (refine so_q (qt_asC rfl) rfl ?_)) | (refine so_is (.move _) ?_; (first | refine so_q (qt_mvC rfl) rfl ?_ | refine so_q (qt_mvT rfl) rfl ?_)) | (refine so_is (.extract _ _) ?_; refine so_q (qt_extract rfl rfl) rfl ?_) | (refine so_is (.alloc 31) ?_; refine so_alloc (zs := [.string ByteArray.empty, .string ByteArray.empty, .int .i64 0]) (by kernel_rfl) rfl ?_) | (refine so_is (.store 31 _ _) ?_; (refine so_store_box rfl rfl rfl (by kernel_rfl) rfl rfl ?_)) | (refine so_is (.call ⟨.value (.func 34), _, _⟩) ?_; (apply so_call0 (fid := 34); (· (repeat (first | exact SeA.nil | apply SeA.cons (.c (.d _))))); (· exact vBig_p _); (· rfl))) | (refine so_is (.call ⟨.value (.func 43), _, _⟩) ?_; (apply so_callE (fid := 43); (· (repeat (first | exact SeA.nil | apply SeA.cons (.c (.d _))))); (· exact DrawCrashLog_p _); (· rfl); (rintro _ ⟨d, p, n, keep, torn, hd, rfl⟩))) | refine so_nil ?_ | refine sk_seq ?_ | refine sk_skip ?_ | refine sk_region (id := 0) ?_ | refine sk_region (id := 1) ?_ | refine sk_region (id := 2) ?_ | refine sk_region (id := 3) ?_ | refine sk_if rfl (fun hc => ?_) (fun hc => ?_))
    all_goals first | (exfalso; omega) | (exfalso; simp_all; done) | skip
    cases hv : crashB d p n keep with
    | false =>
      have g1 := CrashLog_p d p n keep torn (by omega)
      have g2 := spCrashLog_p d p n keep torn (by omega)
      rw [hv] at g1 g2
      repeat' (first | (refine so_is (.assign _) ?_; (refine so_q (qt_asC rfl) rfl ?_)) | (refine so_is (.move _) ?_; (first | refine so_q (qt_mvC rfl) rfl ?_ | refine so_q (qt_mvT rfl) rfl ?_)) | (refine so_is (.extract _ _) ?_; refine so_q (qt_extract rfl rfl) rfl ?_) | (refine so_is (.alloc 31) ?_; refine so_alloc (zs := [.string ByteArray.empty, .string ByteArray.empty, .int .i64 0]) (by kernel_rfl) rfl ?_) | (refine so_is (.store 31 _ _) ?_; (refine so_store_box rfl rfl rfl (by kernel_rfl) rfl rfl ?_)) | (refine so_is (.load 31 _) ?_; (refine so_q (qt_load_boxs rfl rfl (by kernel_rfl : tAgg _ 31 3 = true) rfl) rfl ?_)) | (refine so_is (.binOp .neq 9 _ _ _) ?_; (refine so_q (qt_neqT_same rfl rfl) rfl ?_)) | (refine so_is (.binOp .neq 4 _ _ _) ?_; (refine so_q (qt_neqB_same (by kernel_rfl) rfl rfl) rfl ?_)) | (refine so_is (.pick _ _ _) ?_; (refine so_q (qt_pkC rfl rfl) rfl ?_)) | (refine so_is (.binOp .neq 31 _ _ _) ?_; (refine so_q (qt_neqG3_same rfl rfl (by kernel_rfl)) rfl ?_)) | (refine so_is (.binOp .neq 3 _ _ _) ?_; (refine so_q (qt_neq_same rfl rfl) rfl ?_)) | (refine so_is (.unOp .not 4 _) ?_; refine so_q (qt_not rfl) rfl ?_) | (refine so_is (.call ⟨.value (.func 24), _, _⟩) ?_; ((apply so_call0 (fid := 24); (· (repeat (first | exact SeA.nil | apply SeA.cons (.c (.d _)) | (apply SeA.cons; (· (apply SeP.g; (repeat (first | exact SeL.nil | apply SeL.cons (.d _))))))))); (· exact g1); (· rfl)))) | (refine so_is (.call ⟨.value (.func 23), _, _⟩) ?_; ((apply so_call0 (fid := 23); (· (repeat (first | exact SeA.nil | apply SeA.cons (.c (.d _)) | (apply SeA.cons; (· (apply SeP.g; (repeat (first | exact SeL.nil | apply SeL.cons (.d _))))))))); (· exact g2); (· rfl)))) | (refine so_is (.call ⟨.value (.func 37), _, _⟩) ?_; ((apply so_call0 (fid := 37); (· (repeat (first | exact SeA.nil | apply SeA.cons (.c (.d _))))); (· exact vCut_p code 1 (by omega) hbig); (· rfl)))) | (refine so_is (.call ⟨.value (.func 44), _, _⟩) ?_; ((apply so_callE (fid := 44); (· (repeat (first | exact SeA.nil | apply SeA.cons (.c (.d _))))); (· exact DrawRecoverLog_p _); (· rfl); (rintro _ ⟨t, ht, rfl⟩)))) | (refine so_is (.call ⟨.value (.func 17), _, _⟩) ?_; ((apply so_call0 (fid := 17); (· (repeat (first | exact SeA.nil | apply SeA.cons (.c (.d _))))); (· exact RecoverLog_p _ (by omega)); (· rfl)))) | (refine so_is (.call ⟨.value (.func 16), _, _⟩) ?_; ((apply so_call0 (fid := 16); (· (repeat (first | exact SeA.nil | apply SeA.cons (.c (.d _))))); (· exact spRecoverLog_p _ (by omega)); (· rfl)))) | refine so_nil ?_ | refine so_g_yes rfl rfl rfl rfl ?_ | refine sk_seq ?_ | refine sk_skip ?_ | refine sk_region ?_ | refine sk_true rfl ?_ | refine sk_false rfl ?_)
      all_goals first | (exfalso; omega) | (exfalso; simp_all; done) | skip
      all_goals (apply sk_ret; apply ret_eq; (· apply RetOK.p; (· (apply GvA.cons; (· exact .tmp _); (· exact GvP.c (.lit _))); exact GvA.nil); (· (decide))))
      all_goals first | rfl | skip
    | true =>
      have hv2 := hv
      simp only [crashB, Bool.and_eq_true] at hv2
      obtain ⟨hval, hk⟩ := hv2
      have hk := inB_iff.1 hk
      have v := validB_p hval
      obtain ⟨k1, k2, k3⟩ := crash_part (torn := torn) hv
      have g1 := CrashLog_p d p n keep torn (by omega)
      have g2 := spCrashLog_p d p n keep torn (by omega)
      rw [hv] at g1 g2
      obtain ⟨s, hs⟩ : ∃ s, s = crashT d p n keep torn := ⟨_, rfl⟩
      rw [← hs] at g1 g2 k1 k2 k3
      obtain ⟨b1, b2⟩ := crash_back k2
      have hend : endT s ≤ s.length := ends_le s (numR s)
      obtain ⟨_, _, b3⟩ := log_cut s
      have c1 := RecoverLog_p s (by omega)
      rw [if_pos k2, if_pos k2, if_pos k2, decide_eq_true k2] at c1
      have c2 := IsValidLog_p (s.take (endT s)) [] (numR s) (by rw [b2]; simp only [List.length_nil]; omega)
      rw [b1] at c2
      have l1 := LogRecords_p d p n (by omega)
      rw [hval, if_pos rfl] at l1
      have l2 := LogRecords_p (s.take (endT s)) [] (numR s) (by rw [b2]; simp only [List.length_nil]; omega)
      rw [b1, if_pos rfl, List.append_nil, b3] at l2
      have hdur := k1.dur
      have hnum := k1.num
      have hrecs := k1.recs
      have hrl := recs_len s
      have hrl2 := recs_len (d ++ p)
      have hcnt := log_len (d ++ p)
      have hle := ends_le s (numR s)
      have hlast : torn = false → keep = p.length → (recsT s).length = (recsT (d ++ p)).length := fun h1 h2 => by rw [k3 h1 h2]
      obtain ⟨R, hR⟩ : ∃ R, R = recsT (d ++ p) := ⟨_, rfl⟩
      obtain ⟨R2, hR2⟩ : ∃ R2, R2 = recsT s := ⟨_, rfl⟩
      rw [← hR] at l1 hrl2 hrecs hlast
      rw [← hR2] at l2 hrl hrecs hlast
      have hRR : R2 = R.take (R2.length : Int).toNat := by rw [Int.toNat_natCast, hrl]; exact hrecs
      have hv := vRecords_p R2 (R.take (R2.length : Int).toNat) hRR
      clear hRR hrecs
      obtain ⟨q, hq⟩ : ∃ q, q = s.take (endT s) := ⟨_, rfl⟩
      rw [← hq] at c1 c2 l2 b2
      cases torn with
      | true =>
        repeat' (first | (refine so_is (.assign _) ?_; (refine so_q (qt_asC rfl) rfl ?_)) | (refine so_is (.move _) ?_; (first | refine so_q (qt_mvC rfl) rfl ?_ | refine so_q (qt_mvT rfl) rfl ?_)) | (refine so_is (.extract _ _) ?_; refine so_q (qt_extract rfl rfl) rfl ?_) | (refine so_is (.alloc 31) ?_; refine so_alloc (zs := [.string ByteArray.empty, .string ByteArray.empty, .int .i64 0]) (by kernel_rfl) rfl ?_) | (refine so_is (.store 31 _ _) ?_; (refine so_store_box rfl rfl rfl (by kernel_rfl) rfl rfl ?_)) | (refine so_is (.load 31 _) ?_; (refine so_q (qt_load_boxs rfl rfl (by kernel_rfl : tAgg _ 31 3 = true) rfl) rfl ?_)) | (refine so_is (.binOp .neq 9 _ _ _) ?_; (refine so_q (qt_neqT_same rfl rfl) rfl ?_)) | (refine so_is (.binOp .neq 4 _ _ _) ?_; (refine so_q (qt_neqB_same (by kernel_rfl) rfl rfl) rfl ?_)) | (refine so_is (.pick _ _ _) ?_; (refine so_q (qt_pkC rfl rfl) rfl ?_)) | (refine so_is (.binOp .neq 31 _ _ _) ?_; (refine so_q (qt_neqG3_same rfl rfl (by kernel_rfl)) rfl ?_)) | (refine so_is (.binOp .neq 3 _ _ _) ?_; (first | refine so_q (qt_neq_same rfl rfl) rfl ?_ | refine so_q (qt_neq rfl rfl) rfl ?_)) | (refine so_is (.unOp .not 4 _) ?_; refine so_q (qt_not rfl) rfl ?_) | (refine so_is (.call ⟨.value (.func 17), _, _⟩) ?_; (first | (apply so_call0 (d := 88) (fid := 17); (· (repeat (first | exact SeA.nil | apply SeA.cons (.c (.d _))))); (· exact c1); (· rfl)) | (apply so_call0 (fid := 17); (· (repeat (first | exact SeA.nil | apply SeA.cons (.c (.d _))))); (· exact RecoverLog_p _ (by omega)); (· rfl)))) | (refine so_is (.fieldAddr 31 _ 0) ?_; (refine so_q (qt_fld_lp (off := 0) rfl (by kernel_rfl)) rfl ?_)) | (refine so_is (.load 9 _) ?_; (refine so_q (qt_load_box rfl rfl (by kernel_rfl) rfl) rfl ?_)) | (refine so_is (.call ⟨.builtin .len, _, #[9]⟩) ?_; (refine so_q (qt_lenT rfl (by kernel_rfl)) rfl ?_)) | (refine so_is (.binOp .lss 3 _ _ _) ?_; refine so_q (qt_lss rfl rfl) rfl ?_) | (refine so_is (.call ⟨.builtin .len, _, #[48]⟩) ?_; (refine so_q (qt_len_d rfl (by kernel_rfl)) rfl ?_)) | (refine so_is (.binOp .leq 3 _ _ _) ?_; refine so_q (qt_leq rfl rfl) rfl ?_) | (refine so_is (.slice 48 _ none (some _) none) ?_; (refine so_q (qt_slice_dR01 rfl rfl (by kernel_rfl) (by (omega)) (by (omega))) rfl ?_)) | (refine so_is (.call ⟨.value (.func 24), _, _⟩) ?_; ((apply so_call0 (fid := 24); (· (repeat (first | exact SeA.nil | apply SeA.cons (.c (.d _)) | (apply SeA.cons; (· (apply SeP.g; (repeat (first | exact SeL.nil | apply SeL.cons (.d _))))))))); (· exact g1); (· rfl)))) | (refine so_is (.call ⟨.value (.func 23), _, _⟩) ?_; ((apply so_call0 (fid := 23); (· (repeat (first | exact SeA.nil | apply SeA.cons (.c (.d _)) | (apply SeA.cons; (· (apply SeP.g; (repeat (first | exact SeL.nil | apply SeL.cons (.d _))))))))); (· exact g2); (· rfl)))) | (refine so_is (.call ⟨.value (.func 37), _, _⟩) ?_; ((apply so_call0 (fid := 37); (· (repeat (first | exact SeA.nil | apply SeA.cons (.c (.d _))))); (· exact vCut_p code 1 (by omega) hbig); (· rfl)))) | (refine so_is (.call ⟨.value (.func 44), _, _⟩) ?_; ((apply so_callE (fid := 44); (· (repeat (first | exact SeA.nil | apply SeA.cons (.c (.d _))))); (· exact DrawRecoverLog_p _); (· rfl); (rintro _ ⟨t, ht, rfl⟩)))) | (refine so_is (.call ⟨.value (.func 16), _, _⟩) ?_; ((apply so_call0 (fid := 16); (· (repeat (first | exact SeA.nil | apply SeA.cons (.c (.d _))))); (· exact spRecoverLog_p _ (by omega)); (· rfl)))) | (refine so_is (.call ⟨.value (.func 22), _, _⟩) ?_; ((apply so_call0 (fid := 22); (· (repeat (first | exact SeA.nil | (apply SeA.cons; (· (apply SeP.g; (repeat (first | exact SeL.nil | apply SeL.cons (.d _))))))))); (· exact c2); (· rfl)))) | (refine so_is (.call ⟨.value (.func 30), _, _⟩) ?_; (first | (apply so_call0 (fid := 30); (· (repeat (first | exact SeA.nil | (apply SeA.cons; (· (apply SeP.g; (repeat (first | exact SeL.nil | apply SeL.cons (.d _))))))))); (· exact l1); (· rfl)) | (apply so_call0 (fid := 30); (· (repeat (first | exact SeA.nil | (apply SeA.cons; (· (apply SeP.g; (repeat (first | exact SeL.nil | apply SeL.cons (.d _))))))))); (· exact l2); (· rfl)))) | (refine so_is (.call ⟨.value (.func 42), _, _⟩) ?_; ((apply so_call0 (fid := 42); (· (repeat (first | exact SeA.nil | apply SeA.cons (.c (.d _))))); (· exact hv); (· rfl)))) | refine so_nil ?_ | refine so_g_un rfl rfl rfl rfl rfl ?_ | refine so_g_no rfl rfl rfl rfl ?_ | refine so_g_yes rfl rfl rfl rfl ?_ | refine so_g_if rfl rfl (fun hg => ?_) (fun hg => ?_) | refine sk_seq ?_ | refine sk_skip ?_ | refine sk_region ?_ | refine sk_true rfl ?_ | refine sk_false rfl ?_ | refine sk_if rfl (fun hc => ?_) (fun hc => ?_))
        all_goals first | (exfalso; omega) | (exfalso; simp_all; done) | skip
        all_goals (apply sk_ret; apply ret_eq; (· apply RetOK.p; (· (apply GvA.cons; (· exact .tmp _); (· exact GvP.c (.lit _))); exact GvA.nil); (· (decide))))
        all_goals rfl
      | false =>
        repeat' (first | (refine so_is (.assign _) ?_; (refine so_q (qt_asC rfl) rfl ?_)) | (refine so_is (.move _) ?_; (first | refine so_q (qt_mvC rfl) rfl ?_ | refine so_q (qt_mvT rfl) rfl ?_)) | (refine so_is (.extract _ _) ?_; refine so_q (qt_extract rfl rfl) rfl ?_) | (refine so_is (.alloc 31) ?_; refine so_alloc (zs := [.string ByteArray.empty, .string ByteArray.empty, .int .i64 0]) (by kernel_rfl) rfl ?_) | (refine so_is (.store 31 _ _) ?_; (refine so_store_box rfl rfl rfl (by kernel_rfl) rfl rfl ?_)) | (refine so_is (.load 31 _) ?_; (refine so_q (qt_load_boxs rfl rfl (by kernel_rfl : tAgg _ 31 3 = true) rfl) rfl ?_)) | (refine so_is (.binOp .neq 9 _ _ _) ?_; (refine so_q (qt_neqT_same rfl rfl) rfl ?_)) | (refine so_is (.binOp .neq 4 _ _ _) ?_; (refine so_q (qt_neqB_same (by kernel_rfl) rfl rfl) rfl ?_)) | (refine so_is (.pick _ _ _) ?_; (refine so_q (qt_pkC rfl rfl) rfl ?_)) | (refine so_is (.binOp .neq 31 _ _ _) ?_; (refine so_q (qt_neqG3_same rfl rfl (by kernel_rfl)) rfl ?_)) | (refine so_is (.binOp .neq 3 _ _ _) ?_; (first | refine so_q (qt_neq_same rfl rfl) rfl ?_ | refine so_q (qt_neq rfl rfl) rfl ?_)) | (refine so_is (.unOp .not 4 _) ?_; refine so_q (qt_not rfl) rfl ?_) | (refine so_is (.call ⟨.value (.func 17), _, _⟩) ?_; (first | (apply so_call0 (d := 88) (fid := 17); (· (repeat (first | exact SeA.nil | apply SeA.cons (.c (.d _))))); (· exact c1); (· rfl)) | (apply so_call0 (fid := 17); (· (repeat (first | exact SeA.nil | apply SeA.cons (.c (.d _))))); (· exact RecoverLog_p _ (by omega)); (· rfl)))) | (refine so_is (.fieldAddr 31 _ 0) ?_; (refine so_q (qt_fld_lp (off := 0) rfl (by kernel_rfl)) rfl ?_)) | (refine so_is (.load 9 _) ?_; (refine so_q (qt_load_box rfl rfl (by kernel_rfl) rfl) rfl ?_)) | (refine so_is (.call ⟨.builtin .len, _, #[9]⟩) ?_; (refine so_q (qt_lenT rfl (by kernel_rfl)) rfl ?_)) | (refine so_is (.binOp .lss 3 _ _ _) ?_; refine so_q (qt_lss rfl rfl) rfl ?_) | (refine so_is (.call ⟨.builtin .len, _, #[48]⟩) ?_; (refine so_q (qt_len_d rfl (by kernel_rfl)) rfl ?_)) | (refine so_is (.binOp .leq 3 _ _ _) ?_; refine so_q (qt_leq rfl rfl) rfl ?_) | (refine so_is (.slice 48 _ none (some _) none) ?_; (refine so_q (qt_slice_dR01 rfl rfl (by kernel_rfl) (by (omega)) (by (omega))) rfl ?_)) | (refine so_is (.fieldAddr 31 _ 1) ?_; (refine so_q (qt_fld_lp (off := 1) rfl (by kernel_rfl)) rfl ?_)) | (refine so_is (.binOp .eql 3 _ _ _) ?_; refine so_q (qt_eql rfl rfl) rfl ?_) | (refine so_is (.call ⟨.value (.func 24), _, _⟩) ?_; ((apply so_call0 (fid := 24); (· (repeat (first | exact SeA.nil | apply SeA.cons (.c (.d _)) | (apply SeA.cons; (· (apply SeP.g; (repeat (first | exact SeL.nil | apply SeL.cons (.d _))))))))); (· exact g1); (· rfl)))) | (refine so_is (.call ⟨.value (.func 23), _, _⟩) ?_; ((apply so_call0 (fid := 23); (· (repeat (first | exact SeA.nil | apply SeA.cons (.c (.d _)) | (apply SeA.cons; (· (apply SeP.g; (repeat (first | exact SeL.nil | apply SeL.cons (.d _))))))))); (· exact g2); (· rfl)))) | (refine so_is (.call ⟨.value (.func 37), _, _⟩) ?_; ((apply so_call0 (fid := 37); (· (repeat (first | exact SeA.nil | apply SeA.cons (.c (.d _))))); (· exact vCut_p code 1 (by omega) hbig); (· rfl)))) | (refine so_is (.call ⟨.value (.func 44), _, _⟩) ?_; ((apply so_callE (fid := 44); (· (repeat (first | exact SeA.nil | apply SeA.cons (.c (.d _))))); (· exact DrawRecoverLog_p _); (· rfl); (rintro _ ⟨t, ht, rfl⟩)))) | (refine so_is (.call ⟨.value (.func 16), _, _⟩) ?_; ((apply so_call0 (fid := 16); (· (repeat (first | exact SeA.nil | apply SeA.cons (.c (.d _))))); (· exact spRecoverLog_p _ (by omega)); (· rfl)))) | (refine so_is (.call ⟨.value (.func 22), _, _⟩) ?_; ((apply so_call0 (fid := 22); (· (repeat (first | exact SeA.nil | (apply SeA.cons; (· (apply SeP.g; (repeat (first | exact SeL.nil | apply SeL.cons (.d _))))))))); (· exact c2); (· rfl)))) | (refine so_is (.call ⟨.value (.func 30), _, _⟩) ?_; (first | (apply so_call0 (fid := 30); (· (repeat (first | exact SeA.nil | (apply SeA.cons; (· (apply SeP.g; (repeat (first | exact SeL.nil | apply SeL.cons (.d _))))))))); (· exact l1); (· rfl)) | (apply so_call0 (fid := 30); (· (repeat (first | exact SeA.nil | (apply SeA.cons; (· (apply SeP.g; (repeat (first | exact SeL.nil | apply SeL.cons (.d _))))))))); (· exact l2); (· rfl)))) | (refine so_is (.call ⟨.value (.func 42), _, _⟩) ?_; ((apply so_call0 (fid := 42); (· (repeat (first | exact SeA.nil | apply SeA.cons (.c (.d _))))); (· exact hv); (· rfl)))) | refine so_nil ?_ | refine so_g_un rfl rfl rfl rfl rfl ?_ | refine so_g_no rfl rfl rfl rfl ?_ | refine so_g_yes rfl rfl rfl rfl ?_ | refine so_g_if rfl rfl (fun hg => ?_) (fun hg => ?_) | refine sk_seq ?_ | refine sk_skip ?_ | refine sk_region ?_ | refine sk_true rfl ?_ | refine sk_false rfl ?_ | refine sk_if rfl (fun hc => ?_) (fun hc => ?_))
        all_goals first | (exfalso; omega) | (exfalso; simp_all; done) | skip
        all_goals (apply sk_ret; apply ret_eq; (· apply RetOK.p; (· (apply GvA.cons; (· exact .tmp _); (· exact GvP.c (.lit _))); exact GvA.nil); (· (decide))))
        all_goals first | rfl | (have h9 := hlast rfl (by omega); rw [h9]; simp; done)
  · refine pc_intro Tryd.func11 rfl rfl rfl (by kernel_rfl) rfl rfl ?_; intro _
    repeat' (first | (refine so_is (.assign _) ?_; (refine so_q (qt_asC rfl) rfl ?_)) | (refine so_is (.move _) ?_; (refine so_q (qt_mvC rfl) rfl ?_)) | (refine so_is (.call ⟨.value (.func 34), _, _⟩) ?_; (apply so_call0 (fid := 34); (· (repeat (first | exact SeA.nil | apply SeA.cons (.c (.d _))))); (· exact vBig_p _); (· rfl))) | refine so_nil ?_ | refine sk_seq ?_ | refine sk_skip ?_ | refine sk_region ?_ | refine sk_if rfl (fun hc => ?_) (fun hc => ?_))
    all_goals first | (exfalso; omega) | (exfalso; simp_all; done) | skip
    all_goals (apply sk_ret; apply ret_eq; (· apply RetOK.p; (· (apply GvA.cons; (· exact .tmp _); (· exact GvP.c (.lit _))); exact GvA.nil); (· (decide))))
    all_goals rfl

end Go.Proofs.YtdnkmgbbkggmdaaDoor
