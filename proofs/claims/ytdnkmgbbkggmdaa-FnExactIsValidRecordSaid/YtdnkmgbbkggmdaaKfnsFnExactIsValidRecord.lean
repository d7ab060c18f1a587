/- What the functions that FnExactIsValidRecord reaches return: part of its proof. No condition beyond those of its theorems. -/
import Derived.Test.YtdnkmgbbkggmdaaProg
import Derived.Test.YtdnkmgbbkggmdaaKplainB
import Derived.Test.YtdnkmgbbkggmdaaKplainC
import Derived.WalkKit
import Derived.Test.YtdnkmgbbkggmdaaKplainA
import Derived.Shelf.Strings.IndexAnyAll
import Derived.Lib.Bytealg
--plain: PureMisc PureTake PureView PureAlt PurePack PureDag PureQ PureRen PureMany PureSlice Texts PureText Defs
namespace Go.Proofs.Ytdnkmgbbkggmdaa
open Go.RowKit
set_option linter.unusedSectionVars false
variable [Glb]

abbrev dI (n : Int) : D := .lit (.int .i64 n)
abbrev dB (b : Bool) : D := .lit (.bool b)
abbrev dS (s : ByteArray) : D := .lit (.string s)
abbrev iN (k : Nat) : FV := .c (.d (dI k))
abbrev iZ (k : Int) : FV := .c (.d (dI k))
/-- a list of numbers, of lists of numbers, of texts -/
abbrev cI (l : List Int) : List D := l.map dI
abbrev eI (l : List Int) : D := .sl 1 l.length (cI l)
abbrev cII (l : List (List Int)) : List D := l.map fun x => eI x
abbrev eII (l : List (List Int)) : D := .sl 1 l.length (cII l)
section
variable {P : Program} {st : St} {dst : Option Tmp} {ty : TypeId} {pos : String} {af : Array Edge} {T : TypeId} {x y : Operand} {k : IntKind} {i : Int}
theorem qt_idxI {l : List Int} (hx : st.ev x = .c (.d (eI l))) (hy : st.ev y = .c (.d (.lit (.int k i)))) (ht : tSl P T 1 = true) (h0 : 0 ≤ i) (h1 : i < l.length) : Qt P ⟨dst, .indexAddr T x y, ty, pos, af, none⟩ st (.c (.d (.pt [dI (atZ l i)]))) :=
  qt_idx hx hy ht h0 h1 (map_at (atZ_some h0 h1))
theorem qt_idxII {l : List (List Int)} (hx : st.ev x = .c (.d (eII l))) (hy : st.ev y = .c (.d (.lit (.int k i)))) (ht : tSl P T 1 = true) (h0 : 0 ≤ i) (h1 : i < l.length) : Qt P ⟨dst, .indexAddr T x y, ty, pos, af, none⟩ st (.c (.d (.pt [eI (atZ l i)]))) :=
  qt_idx hx hy ht h0 h1 (map_at (atZ_some h0 h1))
theorem qt_load_rowI {l : List Int} {b : Nat} {i : Int} (hx : st.ev x = .c (.lp b (0 + i.toNat * 1))) (hb : st.bl b = some (.row 1 (cI l))) (ht : tOne P T = true) (h0 : 0 ≤ i) (h1 : i < l.length) : Qt P ⟨dst, .load T x, ty, pos, af, none⟩ st (.c (.d (dI (atZ l i)))) :=
  qt_load_row hx hb ht (by rw [List.getElem?_map, Nat.zero_add, Nat.mul_one, atZ_some h0 h1]; rfl)
theorem qt_slice_dI11 {l : List Int} {x lo hi : Operand} {kl kh : IntKind} {i j : Int} (hx : st.ev x = .c (.d (eI l))) (hl : st.ev lo = .c (.d (.lit (.int kl i)))) (hh : st.ev hi = .c (.d (.lit (.int kh j)))) (ht : tSl P T 1 = true) (h0 : 0 ≤ i) (h1 : i ≤ j) (h2 : j ≤ l.length) :
    Qt P ⟨dst, .slice T x (some lo) (some hi) none, ty, pos, af, none⟩ st (.c (.d (eI (partZ l i j)))) :=
  qt_slice_d (vl := some (kl, i)) (vh := some (kh, j)) (i := i.toNat) (j := j.toNat) hx (ev_some hl) (ev_some hh) ht ⟨h0, rfl⟩ ⟨by omega, rfl⟩ (by omega) (by omega) (partZ_len h2).symm (by rw [partZ_len h2]; exact map_part l _ i j)
theorem qt_slice_dI10 {l : List Int} {x lo : Operand} {kl : IntKind} {i : Int} (hx : st.ev x = .c (.d (eI l))) (hl : st.ev lo = .c (.d (.lit (.int kl i)))) (ht : tSl P T 1 = true) (h0 : 0 ≤ i) (h1 : i ≤ l.length) :
    Qt P ⟨dst, .slice T x (some lo) none none, ty, pos, af, none⟩ st (.c (.d (eI (partZ l i l.length)))) :=
  qt_slice_d (vl := some (kl, i)) (vh := none) (i := i.toNat) (j := l.length) hx (ev_some hl) (fun _ _ _ _ _ => rfl) ht ⟨h0, rfl⟩ rfl (by omega) (by omega) (by rw [partZ_len (by omega)]; simp) (by rw [partZ_len (by omega)]; exact map_part l _ i l.length)
theorem qt_slice_dI01 {l : List Int} {x hi : Operand} {kh : IntKind} {j : Int} (hx : st.ev x = .c (.d (eI l))) (hh : st.ev hi = .c (.d (.lit (.int kh j)))) (ht : tSl P T 1 = true) (h0 : 0 ≤ j) (h2 : j ≤ l.length) :
    Qt P ⟨dst, .slice T x none (some hi) none, ty, pos, af, none⟩ st (.c (.d (eI (partZ l 0 j)))) :=
  qt_slice_d (vl := none) (vh := some (kh, j)) (i := 0) (j := j.toNat) hx (fun _ _ _ _ _ => rfl) (ev_some hh) ht rfl ⟨h0, rfl⟩ (by omega) (by omega) (by rw [partZ_len h2]; simp) (by rw [partZ_len h2]; simpa using map_part l _ 0 j)
theorem qt_slice_dII11 {l : List (List Int)} {x lo hi : Operand} {kl kh : IntKind} {i j : Int} (hx : st.ev x = .c (.d (eII l))) (hl : st.ev lo = .c (.d (.lit (.int kl i)))) (hh : st.ev hi = .c (.d (.lit (.int kh j)))) (ht : tSl P T 1 = true) (h0 : 0 ≤ i) (h1 : i ≤ j) (h2 : j ≤ l.length) :
    Qt P ⟨dst, .slice T x (some lo) (some hi) none, ty, pos, af, none⟩ st (.c (.d (eII (partZ l i j)))) :=
  qt_slice_d (vl := some (kl, i)) (vh := some (kh, j)) (i := i.toNat) (j := j.toNat) hx (ev_some hl) (ev_some hh) ht ⟨h0, rfl⟩ ⟨by omega, rfl⟩ (by omega) (by omega) (partZ_len h2).symm (by rw [partZ_len h2]; exact map_part l _ i j)
theorem qt_slice_dII10 {l : List (List Int)} {x lo : Operand} {kl : IntKind} {i : Int} (hx : st.ev x = .c (.d (eII l))) (hl : st.ev lo = .c (.d (.lit (.int kl i)))) (ht : tSl P T 1 = true) (h0 : 0 ≤ i) (h1 : i ≤ l.length) :
    Qt P ⟨dst, .slice T x (some lo) none none, ty, pos, af, none⟩ st (.c (.d (eII (partZ l i l.length)))) :=
  qt_slice_d (vl := some (kl, i)) (vh := none) (i := i.toNat) (j := l.length) hx (ev_some hl) (fun _ _ _ _ _ => rfl) ht ⟨h0, rfl⟩ rfl (by omega) (by omega) (by rw [partZ_len (by omega)]; simp) (by rw [partZ_len (by omega)]; exact map_part l _ i l.length)
theorem qt_slice_dII01 {l : List (List Int)} {x hi : Operand} {kh : IntKind} {j : Int} (hx : st.ev x = .c (.d (eII l))) (hh : st.ev hi = .c (.d (.lit (.int kh j)))) (ht : tSl P T 1 = true) (h0 : 0 ≤ j) (h2 : j ≤ l.length) :
    Qt P ⟨dst, .slice T x none (some hi) none, ty, pos, af, none⟩ st (.c (.d (eII (partZ l 0 j)))) :=
  qt_slice_d (vl := none) (vh := some (kh, j)) (i := 0) (j := j.toNat) hx (fun _ _ _ _ _ => rfl) (ev_some hh) ht rfl ⟨h0, rfl⟩ (by omega) (by omega) (by rw [partZ_len h2]; simp) (by rw [partZ_len h2]; simpa using map_part l _ 0 j)
end
end Go.Proofs.Ytdnkmgbbkggmdaa

namespace Go.Proofs.Ytdnkmgbbkggmdaa
open Go.RowKit
theorem szR_ok : ∀ (ll : List (List Int)) (left : Int), (cnt ll : Int) ≤ left → szR ll left = left - cnt ll
  | [], left, _ => by simp [szR, cnt]
  | l :: r, left, h => by
    simp only [cnt] at h ⊢
    have e : szI l.length left = left - l.length := by unfold szI; rw [if_neg (by omega)]
    unfold szR
    rw [e, if_neg (by omega), szR_ok r _ (by omega)]; omega
theorem szR_no : ∀ (ll : List (List Int)) (left : Int), left < (cnt ll : Int) → 0 ≤ left → szR ll left = -1
  | [], left, h, h0 => by simp [cnt] at h; omega
  | l :: r, left, h, h0 => by
    simp only [cnt] at h
    unfold szR
    by_cases hl : left - l.length < 0
    · have e : szI l.length left = -1 := by unfold szI; rw [if_pos hl]
      rw [e, if_pos (by omega)]
    · have e : szI l.length left = left - l.length := by unfold szI; rw [if_neg hl]
      rw [e, if_neg (by omega), szR_no r _ (by omega) (by omega)]
theorem szL_ok {ll : List (List Int)} {left : Int} (h : (ll.length : Int) + cnt ll ≤ left) : szL ll.length ll left = left - ll.length - cnt ll := by
  unfold szL; rw [if_neg (by omega), szR_ok _ _ (by omega)]
theorem szL_no {ll : List (List Int)} {left : Int} (h : left < (ll.length : Int) + cnt ll) (h0 : 0 ≤ left) : szL ll.length ll left = -1 := by
  unfold szL
  split
  · rfl
  · exact szR_no _ _ (by omega) (by omega)
theorem cnt_mem : ∀ {ll : List (List Int)} {l : List Int}, l ∈ ll → l.length ≤ cnt ll
  | l' :: r, l, h => by
    simp only [cnt]
    rcases List.mem_cons.1 h with rfl | h
    · omega
    · have := cnt_mem h; omega

end Go.Proofs.Ytdnkmgbbkggmdaa

namespace Go.Proofs.Ytdnkmgbbkggmdaa
open Go.RowKit
set_option linter.unusedSectionVars false
variable [Glb]
set_option maxRecDepth 10000
set_option maxHeartbeats 4000000
theorem szLogRecord_ok (cm : Tx) (re : Tx) (left : Int) (h : cm.length + re.length ≤ left) (h1 : left ≤ 1048576) : PC Try.prog 6 [.g [dT cm, dT re], .c (dI left)] (.p (.c (dI (left - cm.length - re.length)))) := by
  refine pc_intro Try.func6 rfl rfl rfl (by kernel_rfl) rfl rfl ?_; rintro ⟨hf, -⟩
  have hf0 := FitT (hf (dT cm) (by simp))
  have hf1 := FitT (hf (dT re) (by simp))
  clear hf
  repeat' (first | (refine so_is (.box 23 _) ?_; refine so_box rfl rfl ?_) | (refine so_is (.assign _) ?_; (refine so_q (qt_asC rfl) rfl ?_)) | (refine so_is (.move _) ?_; (refine so_q (qt_mvC rfl) rfl ?_)) | (refine so_is (.fieldAddr 23 _ 0) ?_; (refine so_q (qt_fld_lp (off := 0) rfl (by kernel_rfl)) rfl ?_)) | (refine so_is (.load 9 _) ?_; (refine so_q (qt_load_box rfl rfl (by kernel_rfl) rfl) rfl ?_)) | (refine so_is (.call ⟨.builtin .len, _, #[9]⟩) ?_; (refine so_q (qt_lenT rfl (by kernel_rfl)) rfl ?_)) | (refine so_is (.binOp .sub 3 _ _ _) ?_; refine so_q (qt_subI rfl rfl (by (omega))) rfl ?_) | (refine so_is (.binOp .lss 3 _ _ _) ?_; refine so_q (qt_lss rfl rfl) rfl ?_) | (refine so_is (.fieldAddr 23 _ 1) ?_; (refine so_q (qt_fld_lp (off := 1) rfl (by kernel_rfl)) rfl ?_)) | refine so_nil ?_ | refine sk_seq ?_ | refine sk_skip ?_ | refine sk_region ?_ | refine sk_if rfl (fun hc => ?_) (fun hc => ?_))
  all_goals first | (exfalso; omega) | skip
  · (apply sk_ret; apply ret_eq; (· apply RetOK.p; (· (apply GvA.cons; (· exact .tmp _); (· exact GvP.c (.lit _))); exact GvA.nil); (· (decide))))
    rfl
theorem szLogRecord_no (cm : Tx) (re : Tx) (left : Int) (h : left < cm.length + re.length) (h0 : 0 ≤ left) (h1 : left ≤ 1048576) : PC Try.prog 6 [.g [dT cm, dT re], .c (dI left)] (.p (.c (dI (-1)))) := by
  by_cases c0 : left < cm.length
  · refine pc_intro Try.func6 rfl rfl rfl (by kernel_rfl) rfl rfl ?_; rintro ⟨hf, -⟩
    have hf0 := FitT (hf (dT cm) (by simp))
    have hf1 := FitT (hf (dT re) (by simp))
    clear hf
    repeat' (first | (refine so_is (.box 23 _) ?_; refine so_box rfl rfl ?_) | (refine so_is (.assign _) ?_; (refine so_q (qt_asC rfl) rfl ?_)) | (refine so_is (.move _) ?_; (refine so_q (qt_mvC rfl) rfl ?_)) | (refine so_is (.fieldAddr 23 _ 0) ?_; (refine so_q (qt_fld_lp (off := 0) rfl (by kernel_rfl)) rfl ?_)) | (refine so_is (.load 9 _) ?_; (refine so_q (qt_load_box rfl rfl (by kernel_rfl) rfl) rfl ?_)) | (refine so_is (.call ⟨.builtin .len, _, #[9]⟩) ?_; (refine so_q (qt_lenT rfl (by kernel_rfl)) rfl ?_)) | (refine so_is (.binOp .sub 3 _ _ _) ?_; refine so_q (qt_subI rfl rfl (by (omega))) rfl ?_) | (refine so_is (.binOp .lss 3 _ _ _) ?_; refine so_q (qt_lss rfl rfl) rfl ?_) | (refine so_is (.fieldAddr 23 _ 1) ?_; (refine so_q (qt_fld_lp (off := 1) rfl (by kernel_rfl)) rfl ?_)) | refine so_nil ?_ | refine sk_seq ?_ | refine sk_skip ?_ | refine sk_region ?_ | refine sk_if rfl (fun hc => ?_) (fun hc => ?_))
    all_goals first | (exfalso; omega) | skip
    all_goals (apply sk_ret; apply ret_eq; (· apply RetOK.p; (· (apply GvA.cons; (· exact .tmp _); (· exact GvP.c (.lit _))); exact GvA.nil); (· (decide))))
    all_goals rfl
  · refine pc_intro Try.func6 rfl rfl rfl (by kernel_rfl) rfl rfl ?_; rintro ⟨hf, -⟩
    have hf0 := FitT (hf (dT cm) (by simp))
    have hf1 := FitT (hf (dT re) (by simp))
    clear hf
    repeat' (first | (refine so_is (.box 23 _) ?_; refine so_box rfl rfl ?_) | (refine so_is (.assign _) ?_; (refine so_q (qt_asC rfl) rfl ?_)) | (refine so_is (.move _) ?_; (refine so_q (qt_mvC rfl) rfl ?_)) | (refine so_is (.fieldAddr 23 _ 0) ?_; (refine so_q (qt_fld_lp (off := 0) rfl (by kernel_rfl)) rfl ?_)) | (refine so_is (.load 9 _) ?_; (refine so_q (qt_load_box rfl rfl (by kernel_rfl) rfl) rfl ?_)) | (refine so_is (.call ⟨.builtin .len, _, #[9]⟩) ?_; (refine so_q (qt_lenT rfl (by kernel_rfl)) rfl ?_)) | (refine so_is (.binOp .sub 3 _ _ _) ?_; refine so_q (qt_subI rfl rfl (by (omega))) rfl ?_) | (refine so_is (.binOp .lss 3 _ _ _) ?_; refine so_q (qt_lss rfl rfl) rfl ?_) | (refine so_is (.fieldAddr 23 _ 1) ?_; (refine so_q (qt_fld_lp (off := 1) rfl (by kernel_rfl)) rfl ?_)) | refine so_nil ?_ | refine sk_seq ?_ | refine sk_skip ?_ | refine sk_region ?_ | refine sk_if rfl (fun hc => ?_) (fun hc => ?_))
    all_goals first | (exfalso; omega) | skip
    all_goals (apply sk_ret; apply ret_eq; (· apply RetOK.p; (· (apply GvA.cons; (· exact .tmp _); (· exact GvP.c (.lit _))); exact GvA.nil); (· (decide))))
    all_goals rfl

end Go.Proofs.Ytdnkmgbbkggmdaa

namespace Go.Proofs.Ytdnkmgbbkggmdaa
open Go.RowKit
set_option linter.unusedSectionVars false
variable [Glb]
set_option maxRecDepth 10000
set_option maxHeartbeats 4000000
theorem toLogRecord_p (cm : Tx) (re : Tx) : PC Try.prog 8 [.g [dT cm, dT re]] (.p (.g [dT cm, dT re])) := by
  refine pc_intro Try.func8 rfl rfl rfl (by kernel_rfl) rfl rfl ?_; intro _
  repeat' (first | (refine so_is (.box 23 _) ?_; refine so_box rfl rfl ?_) | (refine so_is (.alloc 26) ?_; refine so_alloc (zs := [.string ByteArray.empty, .string ByteArray.empty]) (by kernel_rfl) rfl ?_) | (refine so_is (.fieldAddr 23 _ 0) ?_; (refine so_q (qt_fld_lp (off := 0) rfl (by kernel_rfl)) rfl ?_)) | (refine so_is (.load 9 _) ?_; (refine so_q (qt_load_box rfl rfl (by kernel_rfl) rfl) rfl ?_)) | (refine so_is (.fieldAddr 26 _ 0) ?_; (refine so_q (qt_fld_lp (off := 0) rfl (by kernel_rfl)) rfl ?_)) | (refine so_is (.store 9 _ _) ?_; (refine so_store_box1 rfl rfl rfl rfl (by kernel_rfl) rfl rfl ?_)) | (refine so_is (.fieldAddr 23 _ 1) ?_; (refine so_q (qt_fld_lp (off := 1) rfl (by kernel_rfl)) rfl ?_)) | (refine so_is (.fieldAddr 26 _ 1) ?_; (refine so_q (qt_fld_lp (off := 1) rfl (by kernel_rfl)) rfl ?_)) | (refine so_is (.load 26 _) ?_; (refine so_q (qt_load_boxs rfl rfl (by kernel_rfl : tAgg _ 26 2 = true) rfl) rfl ?_)) | (refine so_is (.store 26 _ _) ?_; (refine so_store_box rfl rfl rfl (by kernel_rfl) rfl rfl ?_)) | refine so_nil ?_ | refine sk_seq ?_ | refine sk_region (id := 0) ?_ | refine sk_region (id := 1) ?_ | refine sk_region (id := 2) ?_ | refine sk_region (id := 3) ?_ | (apply sk_pack 4 [2, 3] [1, 2, 3] rfl; (· (repeat (first | exact Pf.nil | apply Pf.cons (.c rfl (.lp rfl))))); (· (repeat (first | exact Pb.nil | (apply Pb.cons; (· apply Nb.box rfl; (repeat (first | exact Ncs.nil rfl | (apply Ncs.cons rfl; (· (exact .d rfl)))))))))); refine sk_region (id := 4) ?_))
  · (apply sk_ret; apply ret_eq; (· apply RetOK.p; (· (apply GvA.cons; (· (apply RV.cellN (n := 2); (· rfl); (· rfl); (· kernel_rfl); (· rfl))); (· (apply GvP.g; (· (apply GvL.cons (.lit _)); (apply GvL.cons (.lit _)); exact GvL.nil)))); exact GvA.nil); (· (decide))))
    rfl

end Go.Proofs.Ytdnkmgbbkggmdaa

namespace Go.Proofs.Ytdnkmgbbkggmdaa
open Go.RowKit
set_option linter.unusedSectionVars false
variable [Glb]
set_option maxRecDepth 10000
set_option maxHeartbeats 4000000
theorem l1In_p (n lo hi : Int) : PC Try.prog 51 [.c (dI n), .c (dI lo), .c (dI hi)] (.p (.c (dB (inB n lo hi)))) := by
  refine pc_intro Try.func51 rfl rfl rfl (by kernel_rfl) rfl rfl ?_; intro _
  repeat' (first | (refine so_is (.assign _) ?_; (refine so_q (qt_asC rfl) rfl ?_)) | (refine so_is (.move _) ?_; (refine so_q (qt_mvC rfl) rfl ?_)) | (refine so_is (.binOp .geq 3 _ _ _) ?_; refine so_q (qt_geq rfl rfl) rfl ?_) | (refine so_is (.binOp .leq 3 _ _ _) ?_; refine so_q (qt_leq rfl rfl) rfl ?_) | (refine so_is (.pick _ _ _) ?_; (refine so_q (qt_pkC rfl rfl) rfl ?_)) | refine so_nil ?_ | refine so_g_no rfl rfl rfl rfl ?_ | refine so_g_yes rfl rfl rfl rfl ?_ | refine so_g_if rfl rfl (fun hg => ?_) (fun hg => ?_) | refine sk_seq ?_ | refine sk_region ?_)
  all_goals ((apply sk_ret; apply ret_eq; (· apply RetOK.p; (· (apply GvA.cons; (· exact .tmp _); (· exact GvP.c (.lit _))); exact GvA.nil); (· (decide)))))
  all_goals (simp [dB, inB, *]; try omega)

end Go.Proofs.Ytdnkmgbbkggmdaa

namespace Go.Proofs.Ytdnkmgbbkggmdaa
open Go.RowKit
set_option linter.unusedSectionVars false
variable [Glb]
set_option maxRecDepth 10000
set_option maxHeartbeats 4000000
theorem bytB_f {s : Tx} {most : Int} {k : Nat} (h : k < s.length) (e : inB (byt s k) 32 126 = false ∨ byt s k = 35) : bytB s most = false := by
  have : (s.all fun b => plB b && b != 35) = false := by
    refine all_f h ?_
    rw [byt_nat h] at e
    rcases e with e | e
    · rw [inB_iffF] at e
      simp [plB]; omega
    · have : s[k] = 35 := UInt8.toNat_inj.1 (by show s[k].toNat = 35; omega)
      simp [this]
  unfold bytB; rw [this]; rfl
theorem bytB_go {s : Tx} {k : Nat} (h : k < s.length) (e : inB (byt s k) 32 126 = true) (e2 : byt s k ≠ 35) (ht : ((s.take k).all fun b => plB b && b != 35) = true) : ((s.take (k + 1)).all fun b => plB b && b != 35) = true := by
  rw [take_succ_all _ _ _ h, ht, Bool.true_and]
  rw [byt_nat h] at e e2
  rw [inB_iff] at e
  simp [plB]
  refine ⟨by omega, fun h => e2 ?_⟩
  rw [h]; rfl
theorem l12Bytes_p (s : Tx) (most : Int) : PC Try.prog 47 [.c (dT s), .c (dI most)] (.p (.c (dB (bytB s most)))) := by
  refine pc_intro Try.func47 rfl rfl rfl (by kernel_rfl) rfl rfl ?_; rintro ⟨hl, -⟩
  have hl := FitT hl
  repeat' (first | (refine so_is (.assign _) ?_; (refine so_q (qt_asC rfl) rfl ?_)) | refine so_nil ?_ | refine sk_seq ?_ | refine sk_block ?_ | refine sk_region ?_)
  apply sk_packC [0, 1, 5] [] rfl; (· (repeat (first | exact Pf.nil | apply Pf.cons (.c rfl (.d rfl))))); (· (repeat (exact Pb.nil)))
  refine sk_loopL [0, 1] [] (fun k => [(5, iN k)]) (fun _ => []) (fun k => k ≤ s.length ∧ ((s.take k).all fun b => plB b && b != 35) = true) (fun k => s.length - k) (0) ?_ (by (repeat (first | exact trivial | refine ⟨(by (rfl)), ?_⟩))) (by (repeat (exact trivial))) ?_
  · simp
  rintro k ⟨hk, ht⟩
  have hb := byt_lt s k
  by_cases h : k < s.length
  · repeat' (first | (refine so_is (.assign _) ?_; (refine so_q (qt_asC rfl) rfl ?_)) | (refine so_is (.move _) ?_; (refine so_q (qt_mvC rfl) rfl ?_)) | (refine so_is (.call ⟨.builtin .len, _, #[9]⟩) ?_; (refine so_q (qt_lenT rfl (by kernel_rfl)) rfl ?_)) | (refine so_is (.binOp .lss 3 _ _ _) ?_; refine so_q (qt_lss rfl rfl) rfl ?_) | (refine so_is (.index 9 _ _) ?_; (refine so_q (qt_indexT rfl rfl (by kernel_rfl) (by (omega)) (by (omega))) rfl ?_)) | (refine so_is (.convert 5 3 _) ?_; (refine so_q (qt_convI (k' := .i64) rfl (by kernel_rfl) (by kernel_rfl) (by (exact IntWalk.i64_in _ (by (omega))))) rfl ?_)) | (refine so_is (.unOp .not 4 _) ?_; refine so_q (qt_not rfl) rfl ?_) | (refine so_is (.binOp .eql 5 _ _ _) ?_; refine so_q (qt_eql rfl rfl) rfl ?_) | (refine so_is (.pick _ _ _) ?_; (refine so_q (qt_pkC rfl rfl) rfl ?_)) | (refine so_is (.binOp .add 3 _ _ _) ?_; refine so_q (qt_addI rfl rfl (by (omega))) rfl ?_) | (refine so_is (.binOp .leq 3 _ _ _) ?_; refine so_q (qt_leq rfl rfl) rfl ?_) | (refine so_is (.call ⟨.value (.func 51), _, _⟩) ?_; (apply so_call0 (fid := 51); (· (repeat (first | exact SeA.nil | apply SeA.cons (.c (.d _))))); (· exact l1In_p _ _ _); (· rfl))) | refine so_nil ?_ | refine so_g_no rfl rfl rfl rfl ?_ | refine so_g_yes rfl rfl rfl rfl ?_ | refine so_g_b rfl rfl (fun hg => ?_) (fun hg => ?_) | refine sk_seq ?_ | refine sk_block ?_ | refine sk_blk ?_ | refine sk_exit rfl ?_ | refine sk_skip ?_ | refine sk_region ?_ | refine sk_true rfl ?_ | refine sk_if rfl (fun hc => ?_) (fun hc => ?_))
    all_goals first | (exfalso; omega) | skip
    · (apply sk_ret; apply ret_eq; (· apply RetOK.p; (· (apply GvA.cons; (· exact .tmp _); (· exact GvP.c (.lit _))); exact GvA.nil); (· (decide))))
      rw [bytB_f h (.inl (by simp_all))]
    · (apply sk_ret; apply ret_eq; (· apply RetOK.p; (· (apply GvA.cons; (· exact .tmp _); (· exact GvP.c (.lit _))); exact GvA.nil); (· (decide))))
      rw [bytB_f h (.inr (by assumption))]
    · refine sk_back ?_; refine ⟨k + 1, ?_, ?_, le_at rfl (by (repeat (first | exact trivial | refine ⟨(by (rfl)), ?_⟩))) (by (repeat (first | exact trivial | refine ⟨rfl, ?_⟩))) (by (repeat (exact trivial))) (by (repeat (exact trivial)))⟩
      · exact ⟨by omega, bytB_go h (by simp_all) (by assumption) ht⟩
      · omega
  · repeat' (first | (refine so_is (.assign _) ?_; (refine so_q (qt_asC rfl) rfl ?_)) | (refine so_is (.move _) ?_; (refine so_q (qt_mvC rfl) rfl ?_)) | (refine so_is (.call ⟨.builtin .len, _, #[9]⟩) ?_; (refine so_q (qt_lenT rfl (by kernel_rfl)) rfl ?_)) | (refine so_is (.binOp .lss 3 _ _ _) ?_; refine so_q (qt_lss rfl rfl) rfl ?_) | (refine so_is (.index 9 _ _) ?_; (refine so_q (qt_indexT rfl rfl (by kernel_rfl) (by (omega)) (by (omega))) rfl ?_)) | (refine so_is (.convert 5 3 _) ?_; (refine so_q (qt_convI (k' := .i64) rfl (by kernel_rfl) (by kernel_rfl) (by (exact IntWalk.i64_in _ (by (omega))))) rfl ?_)) | (refine so_is (.binOp .leq 3 _ _ _) ?_; refine so_q (qt_leq rfl rfl) rfl ?_) | refine so_nil ?_ | refine sk_seq ?_ | refine sk_block ?_ | refine sk_exit rfl ?_ | refine sk_skip ?_ | refine sk_region ?_ | refine sk_if rfl (fun hc => ?_) (fun hc => ?_))
    all_goals first | (exfalso; omega) | skip
    have : k = s.length := by omega
    subst this
    rw [List.take_length] at ht
    (apply sk_ret; apply ret_eq; (· apply RetOK.p; (· (apply GvA.cons; (· exact .tmp _); (· exact GvP.c (.lit _))); exact GvA.nil); (· (decide))))
    simp [bytB, ht]

end Go.Proofs.Ytdnkmgbbkggmdaa

namespace Go.Proofs.Ytdnkmgbbkggmdaa
open Go.RowKit
set_option linter.unusedSectionVars false
variable [Glb]
set_option maxRecDepth 10000
set_option maxHeartbeats 4000000
theorem stands_no {s : Tx} {c : UInt8} {k : Nat} (h : k < s.length) (e : byt s k = (c.toNat : Int)) : s.contains c = true := by
  rw [byt_nat h] at e
  have : s[k] = c := UInt8.toNat_inj.1 (by omega)
  rw [List.contains_iff_mem, ← this]; exact List.getElem_mem h
theorem stands_go {s : Tx} {c : UInt8} {k : Nat} (h : k < s.length) (e : byt s k ≠ (c.toNat : Int)) (ht : c ∉ s.take k) : c ∉ s.take (k + 1) := by
  rw [List.take_succ_eq_append_getElem h, List.mem_append, not_or]
  refine ⟨ht, fun hm => e ?_⟩
  rw [List.mem_singleton] at hm
  rw [byt_nat h, hm]
theorem l1Stands_p (s : Tx) (c : UInt8) : PC Try.prog 48 [.c (dT s), .c (.lit (.int .u8 c.toNat))] (.p (.c (dB (s.contains c)))) := by
  refine pc_intro Try.func48 rfl rfl rfl (by kernel_rfl) rfl rfl ?_; rintro ⟨hl, -⟩
  have hl := FitT hl
  repeat' (first | (refine so_is (.assign _) ?_; (refine so_q (qt_asC rfl) rfl ?_)) | refine so_nil ?_ | refine sk_seq ?_ | refine sk_block ?_ | refine sk_region ?_)
  apply sk_packC [0, 1, 5] [] rfl; (· (repeat (first | exact Pf.nil | apply Pf.cons (.c rfl (.d rfl))))); (· (repeat (exact Pb.nil)))
  refine sk_loopL [0, 1] [] (fun k => [(5, iN k)]) (fun _ => []) (fun k => k ≤ s.length ∧ c ∉ s.take k) (fun k => s.length - k) (0) ?_ (by (repeat (first | exact trivial | refine ⟨(by (rfl)), ?_⟩))) (by (repeat (exact trivial))) ?_
  · simp
  rintro k ⟨hk, ht⟩
  by_cases h : k < s.length
  · repeat' (first | (refine so_is (.assign _) ?_; (refine so_q (qt_asC rfl) rfl ?_)) | (refine so_is (.move _) ?_; (refine so_q (qt_mvC rfl) rfl ?_)) | (refine so_is (.call ⟨.builtin .len, _, #[9]⟩) ?_; (refine so_q (qt_lenT rfl (by kernel_rfl)) rfl ?_)) | (refine so_is (.binOp .lss 3 _ _ _) ?_; refine so_q (qt_lss rfl rfl) rfl ?_) | (refine so_is (.index 9 _ _) ?_; (refine so_q (qt_indexT rfl rfl (by kernel_rfl) (by (omega)) (by (omega))) rfl ?_)) | (refine so_is (.binOp .eql 5 _ _ _) ?_; refine so_q (qt_eql rfl rfl) rfl ?_) | (refine so_is (.binOp .add 3 _ _ _) ?_; refine so_q (qt_addI rfl rfl (by (omega))) rfl ?_) | refine so_nil ?_ | refine sk_seq ?_ | refine sk_block ?_ | refine sk_blk ?_ | refine sk_exit rfl ?_ | refine sk_skip ?_ | refine sk_region ?_ | refine sk_if rfl (fun hc => ?_) (fun hc => ?_))
    all_goals first | (exfalso; omega) | skip
    · (apply sk_ret; apply ret_eq; (· apply RetOK.p; (· (apply GvA.cons; (· exact .tmp _); (· exact GvP.c (.lit _))); exact GvA.nil); (· (decide))))
      rw [stands_no h (by assumption)]
    · refine sk_back ?_; refine ⟨k + 1, ?_, ?_, le_at rfl (by (repeat (first | exact trivial | refine ⟨(by (rfl)), ?_⟩))) (by (repeat (first | exact trivial | refine ⟨rfl, ?_⟩))) (by (repeat (exact trivial))) (by (repeat (exact trivial)))⟩
      · exact ⟨by omega, stands_go h (by assumption) ht⟩
      · omega
  · repeat' (first | (refine so_is (.assign _) ?_; (refine so_q (qt_asC rfl) rfl ?_)) | (refine so_is (.move _) ?_; (refine so_q (qt_mvC rfl) rfl ?_)) | (refine so_is (.call ⟨.builtin .len, _, #[9]⟩) ?_; (refine so_q (qt_lenT rfl (by kernel_rfl)) rfl ?_)) | (refine so_is (.binOp .lss 3 _ _ _) ?_; refine so_q (qt_lss rfl rfl) rfl ?_) | (refine so_is (.index 9 _ _) ?_; (refine so_q (qt_indexT rfl rfl (by kernel_rfl) (by (omega)) (by (omega))) rfl ?_)) | (refine so_is (.binOp .eql 5 _ _ _) ?_; refine so_q (qt_eql rfl rfl) rfl ?_) | (refine so_is (.binOp .add 3 _ _ _) ?_; refine so_q (qt_addI rfl rfl (by (omega))) rfl ?_) | refine so_nil ?_ | refine sk_seq ?_ | refine sk_block ?_ | refine sk_blk ?_ | refine sk_exit rfl ?_ | refine sk_skip ?_ | refine sk_region ?_ | refine sk_if rfl (fun hc => ?_) (fun hc => ?_))
    all_goals first | (exfalso; omega) | skip
    have : k = s.length := by omega
    subst this
    rw [List.take_length] at ht
    (apply sk_ret; apply ret_eq; (· apply RetOK.p; (· (apply GvA.cons; (· exact .tmp _); (· exact GvP.c (.lit _))); exact GvA.nil); (· (decide))))
    simp [ht]

end Go.Proofs.Ytdnkmgbbkggmdaa

namespace Go.Proofs.Ytdnkmgbbkggmdaa
open Go.RowKit
set_option linter.unusedSectionVars false
variable [Glb]
set_option maxRecDepth 10000
set_option maxHeartbeats 4000000
theorem l12Record_p (c r : Tx) : PC Try.prog 22 [.g [dT c, dT r]] (.p (.c (dB (recB c r)))) := by
  refine pc_intro Try.func22 rfl rfl rfl (by kernel_rfl) rfl rfl ?_; intro _
  repeat' (first | (refine so_is (.box 26 _) ?_; refine so_box rfl rfl ?_) | (refine so_is (.assign _) ?_; (refine so_q (qt_asC rfl) rfl ?_)) | (refine so_is (.fieldAddr 26 _ 0) ?_; (refine so_q (qt_fld_lp (off := 0) rfl (by kernel_rfl)) rfl ?_)) | (refine so_is (.load 9 _) ?_; (refine so_q (qt_load_box rfl rfl (by kernel_rfl) rfl) rfl ?_)) | (refine so_is (.binOp .neq 9 _ _ _) ?_; (refine so_q (qt_neqT rfl rfl) rfl ?_)) | (refine so_is (.move _) ?_; (refine so_q (qt_mvC rfl) rfl ?_)) | (refine so_is (.pick _ _ _) ?_; (refine so_q (qt_pkC rfl rfl) rfl ?_)) | (refine so_is (.unOp .not 4 _) ?_; refine so_q (qt_not rfl) rfl ?_) | (refine so_is (.fieldAddr 26 _ 1) ?_; (refine so_q (qt_fld_lp (off := 1) rfl (by kernel_rfl)) rfl ?_)) | (refine so_is (.call ⟨.value (.func 47), _, _⟩) ?_; (apply so_call0 (fid := 47); (· (repeat (first | exact SeA.nil | apply SeA.cons (.c (.d _))))); (· exact l12Bytes_p _ _); (· rfl))) | (refine so_is (.call ⟨.value (.func 48), _, _⟩) ?_; (apply so_call0 (fid := 48); (· (repeat (first | exact SeA.nil | apply SeA.cons (.c (.d _))))); (· exact l1Stands_p _ 64); (· rfl))) | refine so_nil ?_ | refine so_g_no rfl rfl rfl rfl ?_ | refine so_g_yes rfl rfl rfl rfl ?_ | refine so_g_if rfl rfl (fun hg => ?_) (fun hg => ?_) | refine so_g_b rfl rfl (fun hg => ?_) (fun hg => ?_) | refine sk_seq ?_ | refine sk_region ?_)
  all_goals (apply sk_ret; apply ret_eq; (· apply RetOK.p; (· (apply GvA.cons; (· exact .tmp _); (· exact GvP.c (.lit _))); exact GvA.nil); (· (decide))))
  all_goals simp_all [recB]

end Go.Proofs.Ytdnkmgbbkggmdaa

namespace Go.Proofs.Ytdnkmgbbkggmdaa
open Go.RowKit
set_option linter.unusedSectionVars false
variable [Glb]
set_option maxRecDepth 10000
set_option maxHeartbeats 4000000
theorem spIsValidRecord_p (c r : Tx) : PC Try.prog 7 [.g [dT c, dT r]] (.p (.c (dB (recB c r)))) := by
  refine pc_intro Try.func7 rfl rfl rfl (by kernel_rfl) rfl rfl ?_; intro _
  repeat' (first | (refine so_is (.box 26 _) ?_; refine so_box rfl rfl ?_) | (refine so_is (.assign _) ?_; (refine so_q (qt_asC rfl) rfl ?_)) | (refine so_is (.load 26 _) ?_; (refine so_q (qt_load_boxs rfl rfl (by kernel_rfl : tAgg _ 26 2 = true) rfl) rfl ?_)) | (refine so_is (.call ⟨.value (.func 22), _, _⟩) ?_; (apply so_call0 (fid := 22); (· (repeat (first | exact SeA.nil | (apply SeA.cons; (· (apply SeP.g; (repeat (first | exact SeL.nil | apply SeL.cons (.d _))))))))); (· exact l12Record_p _ _); (· rfl))) | refine so_nil ?_ | refine sk_seq ?_ | refine sk_region ?_)
  (apply sk_ret; apply ret_eq; (· apply RetOK.p; (· (apply GvA.cons; (· exact .tmp _); (· exact GvP.c (.lit _))); exact GvA.nil); (· (decide))))
  rfl

end Go.Proofs.Ytdnkmgbbkggmdaa

namespace Go.Proofs.Ytdnkmgbbkggmdaa
open Go.RowKit
set_option linter.unusedSectionVars false
variable [Glb]
set_option maxRecDepth 10000
set_option maxHeartbeats 4000000
open Go.Shelf Go.Proofs
def Try.lays150_ren : Go.Shelf.Ren := ⟨fun | 150 => 49 | 153 => 66 | 152 => 72 | 226 => 73 | 227 => 74 | 228 => 75 | 137 => 88 | 119 => 89 | 224 => 90 | 225 => 91 | 217 => 99 | 266 => 101 | n => n, fun | 9 => 9 | 4 => 4 | 3 => 3 | 5 => 5 | 21 => 21 | 117 => 81 | 116 => 80 | 0 => 0 | 46 => 76 | 124 => 98 | n => n, fun | n => n⟩
theorem Try.lays150 : Go.Proofs.Lays.n150 Try.prog Try.lays150_ren := {
  mixed := by kernel_rfl
  f119 := Try.func89.trans (congrArg some (by kernel_rfl))
  f137 := Try.func88.trans (congrArg some (by kernel_rfl))
  f150 := Try.func49.trans (congrArg some (by kernel_rfl))
  f152 := Try.func72.trans (congrArg some (by kernel_rfl))
  f153 := Try.func66.trans (congrArg some (by kernel_rfl))
  f217 := Try.func99.trans (congrArg some (by kernel_rfl))
  f224 := Try.func90.trans (congrArg some (by kernel_rfl))
  f225 := Try.func91.trans (congrArg some (by kernel_rfl))
  f226 := Try.func73.trans (congrArg some (by kernel_rfl))
  f227 := Try.func74.trans (congrArg some (by kernel_rfl))
  f228 := Try.func75.trans (congrArg some (by kernel_rfl))
  f266 := Try.func101.trans (congrArg some (by kernel_rfl))
  t0 := Try.underlying0
  a0 := Try.isAgg0
  z0 := Try.sizeOf0
  v0 := Try.zeroValue0
  t3 := Try.underlying3
  a3 := Try.isAgg3
  z3 := Try.sizeOf3
  v3 := Try.zeroValue3
  t4 := Try.underlying4
  a4 := Try.isAgg4
  z4 := Try.sizeOf4
  v4 := Try.zeroValue4
  t5 := Try.underlying5
  a5 := Try.isAgg5
  z5 := Try.sizeOf5
  v5 := Try.zeroValue5
  t9 := Try.underlying9
  a9 := Try.isAgg9
  z9 := Try.sizeOf9
  v9 := Try.zeroValue9
  t21 := Try.underlying21
  a21 := Try.isAgg21
  z21 := Try.sizeOf21
  v21 := Try.zeroValue21
  t46 := Try.underlying76
  a46 := Try.isAgg76
  z46 := Try.sizeOf76
  v46 := Try.zeroValue76
  t116 := Try.underlying80
  a116 := Try.isAgg80
  z116 := Try.sizeOf80
  t117 := Try.underlying81
  a117 := Try.isAgg81
  z117 := Try.sizeOf81
  v117 := Try.zeroValue81
  t124 := Try.underlying98
  a124 := Try.isAgg98
  z124 := Try.sizeOf98
  v124 := Try.zeroValue98 }
open Go.RowKit Go.Lib in
theorem Try.strings_ContainsAny_laid (s chars : ByteArray) (w : World) (hs : s.size < 4294967281) (hcs : chars.size < 4294967281) (has : ∀ (j : Nat) b, s.data.toList[j]? = some b → b.toNat < 128) (hac : ∀ (j : Nat) b, chars.data.toList[j]? = some b → b.toNat < 128) :
    Calls Try.prog 49 #[.string s, .string chars] w fun e w' => e = .returned (.bool (Lib.containsAny s.data.toList chars.data.toList)) ∧ Below w.heap.size w w' := Any.strings_ContainsAny_laid Try.lays150 (by kernel_rfl) s chars w hs hcs has hac

end Go.Proofs.Ytdnkmgbbkggmdaa

namespace Go.Proofs.Ytdnkmgbbkggmdaa
open Go.RowKit
set_option linter.unusedSectionVars false
variable [Glb]
set_option maxRecDepth 10000
set_option maxHeartbeats 4000000
theorem ixB_hit {c : UInt8} : ∀ {s : Tx}, c ∈ s → Go.Lib.indexByte s c = ((bef c s).length : Int)
  | [], h => by cases h
  | x :: r, h => by
    unfold Go.Lib.indexByte
    by_cases hx : x = c
    · subst hx; simp [bef]
    · have hr : c ∈ r := by rcases List.mem_cons.1 h with e | e; exact absurd e.symm hx; exact e
      have := ixB_hit hr
      rw [if_neg (by simpa using hx), this, bef, if_neg hx]
      rw [if_neg (by rw [beq_iff_eq]; omega), List.length_cons]; omega
theorem ixB_miss {c : UInt8} : ∀ {s : Tx}, c ∉ s → Go.Lib.indexByte s c = -1
  | [], h => rfl
  | x :: r, h => by
    rw [List.mem_cons, not_or] at h
    unfold Go.Lib.indexByte
    rw [if_neg (by simpa using Ne.symm h.1), ixB_miss h.2]; rfl
theorem ixB_has (c : UInt8) (s : Tx) : decide (0 ≤ Go.Lib.indexByte s c) = s.contains c := by
  by_cases h : c ∈ s
  · rw [ixB_hit h]; simp [h]
  · rw [ixB_miss h]; simp [h]
theorem bsT_list (s : Tx) : (bsT s).data.toList = s := by simp [bsT]

end Go.Proofs.Ytdnkmgbbkggmdaa

namespace Go.Proofs.Ytdnkmgbbkggmdaa
open Go.RowKit
set_option linter.unusedSectionVars false
variable [Glb]
set_option maxRecDepth 10000
set_option maxHeartbeats 4000000
theorem ixA_has (o : Tx) : ∀ s : Tx, Go.Lib.containsAny s o = s.any fun b => o.contains b
  | [] => rfl
  | x :: r => by
    have ih := ixA_has o r
    unfold Go.Lib.containsAny at ih
    rw [List.any_cons, ← ih]
    show decide (0 ≤ (if o.contains x then 0 else if Go.Lib.indexAny r o == -1 then -1 else Go.Lib.indexAny r o + 1)) = _
    have := Go.Lib.indexAny_ge o r
    cases h : o.contains x with
    | true => simp
    | false =>
      rw [Bool.false_or]
      by_cases h3 : Go.Lib.indexAny r o = -1
      · simp [h3]
      · have h4 : (Go.Lib.indexAny r o == -1) = false := by simpa using h3
        rw [h4]
        simp only [Bool.false_eq_true, if_false]
        exact decide_eq_decide.2 ⟨fun _ => by omega, fun _ => by omega⟩
theorem containsAny_p (s o : Tx) (h1 : s.length ≤ 4000000) (h2 : o.length ≤ 100) (h3 : ∀ b ∈ s, b.toNat < 128) (h4 : ∀ b ∈ o, b.toNat < 128) : PC Try.prog 49 [.c (dT s), .c (dT o)] (.p (.c (dB (s.any fun b => o.contains b)))) :=
  pc_lit2 (Go.Proofs.enters_of Try.func49 (by kernel_rfl) rfl) rfl fun w _ => (Try.strings_ContainsAny_laid (bsT s) (bsT o) w (by rw [bsT_size]; omega) (by rw [bsT_size]; omega) (fun j b hb => h3 b (by rw [bsT_list] at hb; exact List.mem_of_getElem? hb)) (fun j b hb => h4 b (by rw [bsT_list] at hb; exact List.mem_of_getElem? hb))).mono (by
    rintro e w' ⟨rfl, hb⟩; rw [bsT_list, bsT_list, ixA_has]; exact ⟨rfl, hb⟩)

end Go.Proofs.Ytdnkmgbbkggmdaa

namespace Go.Proofs.Ytdnkmgbbkggmdaa
open Go.RowKit
set_option linter.unusedSectionVars false
variable [Glb]
set_option maxRecDepth 10000
set_option maxHeartbeats 4000000
theorem plB_f {s : Tx} {k : Nat} {most : Int} {o : Tx} (h : k < s.length) (e : byt s k < 32 ∨ 126 < byt s k) : plainB s most o = false := by
  have : s.all plB = false := by
    refine all_f h ?_
    rw [byt_nat h] at e
    simp [plB]; omega
  unfold plainB; rw [this]; rfl
theorem plB_go {s : Tx} {k : Nat} (h : k < s.length) (e : ¬ byt s k < 32) (e2 : ¬ 126 < byt s k) (ht : (s.take k).all plB = true) : (s.take (k + 1)).all plB = true := by
  rw [take_succ_all _ _ _ h, ht, Bool.true_and]
  rw [byt_nat h] at e e2
  simp [plB]; omega
theorem isPlain_p (s o : Tx) (most : Int) (h1 : most ≤ 4000000) (h2 : o.length ≤ 100) (h4 : ∀ b ∈ o, b.toNat < 128) : PC Try.prog 24 [.c (dT s), .c (dI most), .c (dT o)] (.p (.c (dB (plainB s most o)))) := by
  refine pc_intro Try.func24 rfl rfl rfl (by kernel_rfl) rfl rfl ?_; rintro ⟨hl, -⟩
  have hl := FitT hl
  repeat' (first | (refine so_is (.assign _) ?_; (refine so_q (qt_asC rfl) rfl ?_)) | (refine so_is (.move _) ?_; (refine so_q (qt_mvC rfl) rfl ?_)) | (refine so_is (.call ⟨.builtin .len, _, #[9]⟩) ?_; (refine so_q (qt_lenT rfl (by kernel_rfl)) rfl ?_)) | refine so_nil ?_ | refine sk_seq ?_ | refine sk_block ?_ | refine sk_region ?_)
  apply sk_packC [0, 1, 2, 9, 10] [] rfl; (· (repeat (first | exact Pf.nil | apply Pf.cons (.c rfl (.d rfl))))); (· (repeat (exact Pb.nil)))
  refine sk_loopL [0, 1, 2, 9] [] (fun k => [(10, iN k)]) (fun _ => []) (fun k => k ≤ s.length ∧ (s.take k).all plB = true) (fun k => s.length - k) (0) ?_ (by (repeat (first | exact trivial | refine ⟨(by (rfl)), ?_⟩))) (by (repeat (exact trivial))) ?_
  · simp
  rintro k ⟨hk, ht⟩
  have hb := byt_lt s k
  by_cases h : k < s.length
  · repeat' (first | (refine so_is (.assign _) ?_; (refine so_q (qt_asC rfl) rfl ?_)) | (refine so_is (.move _) ?_; (refine so_q (qt_mvC rfl) rfl ?_)) | (refine so_is (.call ⟨.builtin .len, _, #[9]⟩) ?_; (refine so_q (qt_lenT rfl (by kernel_rfl)) rfl ?_)) | (refine so_is (.binOp .lss 3 _ _ _) ?_; refine so_q (qt_lss rfl rfl) rfl ?_) | (refine so_is (.index 9 _ _) ?_; (refine so_q (qt_indexT rfl rfl (by kernel_rfl) (by (omega)) (by (omega))) rfl ?_)) | (refine so_is (.binOp .lss 5 _ _ _) ?_; refine so_q (qt_lss rfl rfl) rfl ?_) | (refine so_is (.binOp .gtr 5 _ _ _) ?_; refine so_q (qt_gtr rfl rfl) rfl ?_) | (refine so_is (.pick _ _ _) ?_; (refine so_q (qt_pkC rfl rfl) rfl ?_)) | (refine so_is (.binOp .add 3 _ _ _) ?_; refine so_q (qt_addI rfl rfl (by (omega))) rfl ?_) | (refine so_is (.binOp .leq 3 _ _ _) ?_; refine so_q (qt_leq rfl rfl) rfl ?_) | refine so_nil ?_ | refine so_g_no rfl rfl rfl rfl ?_ | refine so_g_yes rfl rfl rfl rfl ?_ | refine so_g_if rfl rfl (fun hg => ?_) (fun hg => ?_) | refine sk_seq ?_ | refine sk_block ?_ | refine sk_blk ?_ | refine sk_exit rfl ?_ | refine sk_skip ?_ | refine sk_region ?_ | refine sk_true rfl ?_ | refine sk_if rfl (fun hc => ?_) (fun hc => ?_))
    all_goals first | (exfalso; omega) | skip
    · (apply sk_ret; apply ret_eq; (· apply RetOK.p; (· (apply GvA.cons; (· exact .tmp _); (· exact GvP.c (.lit _))); exact GvA.nil); (· (decide))))
      rw [plB_f h (.inl (by assumption))]
    · (apply sk_ret; apply ret_eq; (· apply RetOK.p; (· (apply GvA.cons; (· exact .tmp _); (· exact GvP.c (.lit _))); exact GvA.nil); (· (decide))))
      rw [plB_f h (.inr (by omega))]
    · refine sk_back ?_; refine ⟨k + 1, ?_, ?_, le_at rfl (by (repeat (first | exact trivial | refine ⟨(by (rfl)), ?_⟩))) (by (repeat (first | exact trivial | refine ⟨rfl, ?_⟩))) (by (repeat (exact trivial))) (by (repeat (exact trivial)))⟩
      · exact ⟨by omega, plB_go h (by assumption) (by omega) ht⟩
      · omega
  · have : k = s.length := by omega
    subst this
    rw [List.take_length] at ht
    have h3 : ∀ b ∈ s, b.toNat < 128 := fun b hb => by
      have := List.all_eq_true.1 ht b hb
      simp [plB] at this; omega
    by_cases hm : (s.length : Int) ≤ most
    · have h5 : s.length ≤ 4000000 := by omega
      repeat' (first | (refine so_is (.assign _) ?_; (refine so_q (qt_asC rfl) rfl ?_)) | (refine so_is (.move _) ?_; (refine so_q (qt_mvC rfl) rfl ?_)) | (refine so_is (.call ⟨.builtin .len, _, #[9]⟩) ?_; (refine so_q (qt_lenT rfl (by kernel_rfl)) rfl ?_)) | (refine so_is (.binOp .lss 3 _ _ _) ?_; refine so_q (qt_lss rfl rfl) rfl ?_) | (refine so_is (.index 9 _ _) ?_; (refine so_q (qt_indexT rfl rfl (by kernel_rfl) (by (omega)) (by (omega))) rfl ?_)) | (refine so_is (.binOp .lss 5 _ _ _) ?_; refine so_q (qt_lss rfl rfl) rfl ?_) | (refine so_is (.binOp .gtr 5 _ _ _) ?_; refine so_q (qt_gtr rfl rfl) rfl ?_) | (refine so_is (.pick _ _ _) ?_; (refine so_q (qt_pkC rfl rfl) rfl ?_)) | (refine so_is (.binOp .add 3 _ _ _) ?_; refine so_q (qt_addI rfl rfl (by (omega))) rfl ?_) | (refine so_is (.binOp .leq 3 _ _ _) ?_; refine so_q (qt_leq rfl rfl) rfl ?_) | (refine so_is (.unOp .not 4 _) ?_; refine so_q (qt_not rfl) rfl ?_) | (refine so_is (.call ⟨.value (.func 49), _, _⟩) ?_; (apply so_call0 (fid := 49); (· (repeat (first | exact SeA.nil | apply SeA.cons (.c (.d _))))); (· exact containsAny_p _ _ (by assumption) (by assumption) (by assumption) (by assumption)); (· rfl))) | refine so_nil ?_ | refine so_g_no rfl rfl rfl rfl ?_ | refine so_g_yes rfl rfl rfl rfl ?_ | refine so_g_if rfl rfl (fun hg => ?_) (fun hg => ?_) | refine sk_seq ?_ | refine sk_block ?_ | refine sk_blk ?_ | refine sk_exit rfl ?_ | refine sk_skip ?_ | refine sk_region ?_ | refine sk_true rfl ?_ | refine sk_if rfl (fun hc => ?_) (fun hc => ?_))
      all_goals first | (exfalso; omega) | skip
      all_goals (apply sk_ret; apply ret_eq; (· apply RetOK.p; (· (apply GvA.cons; (· exact .tmp _); (· exact GvP.c (.lit _))); exact GvA.nil); (· (decide))))
      all_goals simp [plainB, ht, hm]
    · repeat' (first | (refine so_is (.assign _) ?_; (refine so_q (qt_asC rfl) rfl ?_)) | (refine so_is (.move _) ?_; (refine so_q (qt_mvC rfl) rfl ?_)) | (refine so_is (.call ⟨.builtin .len, _, #[9]⟩) ?_; (refine so_q (qt_lenT rfl (by kernel_rfl)) rfl ?_)) | (refine so_is (.binOp .lss 3 _ _ _) ?_; refine so_q (qt_lss rfl rfl) rfl ?_) | (refine so_is (.index 9 _ _) ?_; (refine so_q (qt_indexT rfl rfl (by kernel_rfl) (by (omega)) (by (omega))) rfl ?_)) | (refine so_is (.binOp .lss 5 _ _ _) ?_; refine so_q (qt_lss rfl rfl) rfl ?_) | (refine so_is (.binOp .gtr 5 _ _ _) ?_; refine so_q (qt_gtr rfl rfl) rfl ?_) | (refine so_is (.pick _ _ _) ?_; (refine so_q (qt_pkC rfl rfl) rfl ?_)) | (refine so_is (.binOp .add 3 _ _ _) ?_; refine so_q (qt_addI rfl rfl (by (omega))) rfl ?_) | (refine so_is (.binOp .leq 3 _ _ _) ?_; refine so_q (qt_leq rfl rfl) rfl ?_) | refine so_nil ?_ | refine so_g_no rfl rfl rfl rfl ?_ | refine so_g_yes rfl rfl rfl rfl ?_ | refine so_g_if rfl rfl (fun hg => ?_) (fun hg => ?_) | refine sk_seq ?_ | refine sk_block ?_ | refine sk_blk ?_ | refine sk_exit rfl ?_ | refine sk_skip ?_ | refine sk_region ?_ | refine sk_true rfl ?_ | refine sk_if rfl (fun hc => ?_) (fun hc => ?_))
      all_goals first | (exfalso; omega) | skip
      all_goals (apply sk_ret; apply ret_eq; (· apply RetOK.p; (· (apply GvA.cons; (· exact .tmp _); (· exact GvP.c (.lit _))); exact GvA.nil); (· (decide))))
      all_goals simp [plainB, ht, hm]

end Go.Proofs.Ytdnkmgbbkggmdaa

namespace Go.Proofs.Ytdnkmgbbkggmdaa
open Go.RowKit
set_option linter.unusedSectionVars false
variable [Glb]
set_option maxRecDepth 10000
set_option maxHeartbeats 4000000
theorem isCommand_p (s : Tx) : PC Try.prog 23 [.c (dT s)] (.p (.c (dB (decide (s ≠ []) && plainB s 160 [35, 64])))) := by
  refine pc_intro Try.func23 rfl rfl rfl (by kernel_rfl) rfl rfl ?_; intro _
  repeat' (first | (refine so_is (.assign _) ?_; (refine so_q (qt_asC rfl) rfl ?_)) | (refine so_is (.move _) ?_; (refine so_q (qt_mvC rfl) rfl ?_)) | (refine so_is (.binOp .neq 9 _ _ _) ?_; (refine so_q (qt_neqT rfl rfl) rfl ?_)) | (refine so_is (.pick _ _ _) ?_; (refine so_q (qt_pkC rfl rfl) rfl ?_)) | (refine so_is (.call ⟨.value (.func 24), _, _⟩) ?_; (apply so_call0 (fid := 24); (· (repeat (first | exact SeA.nil | apply SeA.cons (.c (.d _))))); (· exact isPlain_p _ [35, 64] _ (by decide) (by decide) (by decide)); (· rfl))) | refine so_nil ?_ | refine so_g_no rfl rfl rfl rfl ?_ | refine so_g_yes rfl rfl rfl rfl ?_ | refine so_g_if rfl rfl (fun hg => ?_) (fun hg => ?_) | refine sk_seq ?_ | refine sk_region ?_)
  all_goals (apply sk_ret; apply ret_eq; (· apply RetOK.p; (· (apply GvA.cons; (· exact .tmp _); (· exact GvP.c (.lit _))); exact GvA.nil); (· (decide))))
  all_goals simp_all

end Go.Proofs.Ytdnkmgbbkggmdaa

namespace Go.Proofs.Ytdnkmgbbkggmdaa
open Go.RowKit
set_option linter.unusedSectionVars false
variable [Glb]
set_option maxRecDepth 10000
set_option maxHeartbeats 4000000
theorem IsValidRecord_p (c r : Tx) : PC Try.prog 9 [.g [dT c, dT r]] (.p (.c (dB (recB c r)))) := by
  refine pc_intro Try.func9 rfl rfl rfl (by kernel_rfl) rfl rfl ?_; intro _
  repeat' (first | (refine so_is (.box 26 _) ?_; refine so_box rfl rfl ?_) | (refine so_is (.assign _) ?_; (refine so_q (qt_asC rfl) rfl ?_)) | (refine so_is (.fieldAddr 26 _ 0) ?_; (refine so_q (qt_fld_lp (off := 0) rfl (by kernel_rfl)) rfl ?_)) | (refine so_is (.load 9 _) ?_; (refine so_q (qt_load_box rfl rfl (by kernel_rfl) rfl) rfl ?_)) | (refine so_is (.move _) ?_; (refine so_q (qt_mvC rfl) rfl ?_)) | (refine so_is (.fieldAddr 26 _ 1) ?_; (refine so_q (qt_fld_lp (off := 1) rfl (by kernel_rfl)) rfl ?_)) | (refine so_is (.pick _ _ _) ?_; (refine so_q (qt_pkC rfl rfl) rfl ?_)) | (refine so_is (.call ⟨.value (.func 23), _, _⟩) ?_; (apply so_call0 (fid := 23); (· (repeat (first | exact SeA.nil | apply SeA.cons (.c (.d _))))); (· exact isCommand_p _); (· rfl))) | (refine so_is (.call ⟨.value (.func 24), _, _⟩) ?_; (apply so_call0 (fid := 24); (· (repeat (first | exact SeA.nil | apply SeA.cons (.c (.d _))))); (· exact isPlain_p _ [35] _ (by decide) (by decide) (by decide)); (· rfl))) | refine so_nil ?_ | refine so_g_no rfl rfl rfl rfl ?_ | refine so_g_yes rfl rfl rfl rfl ?_ | refine so_g_b rfl rfl (fun hg => ?_) (fun hg => ?_) | refine sk_seq ?_ | refine sk_region ?_)
  all_goals (apply sk_ret; apply ret_eq; (· apply RetOK.p; (· (apply GvA.cons; (· exact .tmp _); (· exact GvP.c (.lit _))); exact GvA.nil); (· (decide))))
  all_goals rw [← recB_eq]
  all_goals simp_all

end Go.Proofs.Ytdnkmgbbkggmdaa

namespace Go.Proofs.Ytdnkmgbbkggmdaa
open Go.RowKit
set_option linter.unusedSectionVars false
variable [Glb]
set_option maxRecDepth 10000
set_option maxHeartbeats 4000000
theorem FnExactIsValidRecord_p (c r : ByteArray) : PC Try.prog 3 [.g [dS c, dS r]] (.p (.c (dB true))) := by
  obtain ⟨c, rfl⟩ := exT c
  obtain ⟨r, rfl⟩ := exT r
  rcases (by omega : (1048576 < c.length + r.length) ∨ c.length + r.length ≤ 1048576) with hz | hz
  all_goals
    refine pc_intro Try.func3 rfl rfl rfl (by kernel_rfl) rfl rfl ?_; intro _
    repeat' (first | (refine so_is (.box 23 _) ?_; refine so_box rfl rfl ?_) | (refine so_is (.assign _) ?_; (refine so_q (qt_asC rfl) rfl ?_)) | (refine so_is (.load 23 _) ?_; (refine so_q (qt_load_boxs rfl rfl (by kernel_rfl : tAgg _ 23 2 = true) rfl) rfl ?_)) | (refine so_is (.move _) ?_; (refine so_q (qt_mvC rfl) rfl ?_)) | (refine so_is (.binOp .lss 3 _ _ _) ?_; refine so_q (qt_lss rfl rfl) rfl ?_) | (refine so_is (.binOp .neq 4 _ _ _) ?_; (refine so_q (qt_neqB_same (by kernel_rfl) rfl rfl) rfl ?_)) | (refine so_is (.call ⟨.value (.func 6), _, _⟩) ?_; (first | (apply so_call0 (fid := 6); (· (repeat (first | exact SeA.nil | apply SeA.cons (.c (.d _)) | (apply SeA.cons; (· (apply SeP.g; (repeat (first | exact SeL.nil | apply SeL.cons (.d _))))))))); (· exact szLogRecord_ok _ _ _ (by omega) (by omega)); (· rfl)) | (apply so_call0 (fid := 6); (· (repeat (first | exact SeA.nil | apply SeA.cons (.c (.d _)) | (apply SeA.cons; (· (apply SeP.g; (repeat (first | exact SeL.nil | apply SeL.cons (.d _))))))))); (· exact szLogRecord_no _ _ _ (by omega) (by omega) (by omega)); (· rfl)))) | (refine so_is (.call ⟨.value (.func 8), _, _⟩) ?_; (apply so_call0 (fid := 8); (· (repeat (first | exact SeA.nil | (apply SeA.cons; (· (apply SeP.g; (repeat (first | exact SeL.nil | apply SeL.cons (.d _))))))))); (· exact toLogRecord_p _ _); (· rfl))) | (refine so_is (.call ⟨.value (.func 7), _, _⟩) ?_; (apply so_call0 (fid := 7); (· (repeat (first | exact SeA.nil | (apply SeA.cons; (· (apply SeP.g; (repeat (first | exact SeL.nil | apply SeL.cons (.d _))))))))); (· exact spIsValidRecord_p _ _); (· rfl))) | (refine so_is (.call ⟨.value (.func 9), _, _⟩) ?_; (apply so_call0 (fid := 9); (· (repeat (first | exact SeA.nil | (apply SeA.cons; (· (apply SeP.g; (repeat (first | exact SeL.nil | apply SeL.cons (.d _))))))))); (· exact IsValidRecord_p _ _); (· rfl))) | refine so_nil ?_ | refine sk_seq ?_ | refine sk_skip ?_ | refine sk_region (id := 0) ?_ | refine sk_region (id := 1) ?_ | refine sk_region (id := 2) ?_ | refine sk_region (id := 3) ?_ | refine sk_region (id := 4) ?_ | (apply sk_pack 5 [1] [1] rfl; (· (repeat (first | exact Pf.nil | apply Pf.cons (.c rfl (.lp rfl))))); (· (repeat (first | exact Pb.nil | (apply Pb.cons; (· apply Nb.box rfl; (repeat (first | exact Ncs.nil rfl | (apply Ncs.cons rfl; (· (exact .d rfl)))))))))); refine sk_region (id := 5) ?_) | refine sk_region (id := 6) ?_ | refine sk_region (id := 7) ?_ | (apply sk_pack 9 [] [1] rfl; (· (repeat (exact Pf.nil))); (· (repeat (first | exact Pb.nil | (apply Pb.cons; (· apply Nb.box rfl; (repeat (first | exact Ncs.nil rfl | (apply Ncs.cons rfl; (· (exact .d rfl)))))))))); refine sk_region (id := 9) ?_) | refine sk_true rfl ?_ | refine sk_false rfl ?_ | refine sk_if rfl (fun hc => ?_) (fun hc => ?_))
    all_goals first | (exfalso; omega) | skip
    all_goals (apply sk_ret; apply ret_eq; (· apply RetOK.p; (· (apply GvA.cons; (· exact .tmp _); (· exact GvP.c (.lit _))); exact GvA.nil); (· (decide))))
    all_goals rfl

end Go.Proofs.Ytdnkmgbbkggmdaa
