/- What the functions that FnExactAskGame reaches return: part of its proof. No condition beyond those of its theorems. -/
import Derived.Test.YtdnkmgbbkggmdaaProg
import Derived.Test.YtdnkmgbbkggmdaaKplainB
import Derived.Test.YtdnkmgbbkggmdaaKplainC
import Derived.WalkKit
import Derived.Shelf.Sort.Plain
import Derived.Shelf.Slices.In.SortNone
import Derived.Test.YtdnkmgbbkggmdaaKplainA
set_option linter.unusedVariables false
set_option linter.unusedSimpArgs false
--plain: PureMisc PureTake PureView PureAlt PurePack PureDag PureQ PureRen PureMany PureSlice Texts PureText Defs
namespace Go.Proofs.Ytdnkmgbbkggmdaa
open Go.RowKit
set_option linter.unusedSectionVars false
variable [Glb]

abbrev dI (n : Int) : D := .lit (.int .i64 n)
abbrev dB (b : Bool) : D := .lit (.bool b)
abbrev dS (s : ByteArray) : D := .lit (.string s)
abbrev iN (k : Nat) : FV := .c (.d (dI k))
abbrev iZ (k : Int) : FV := .c (.d (dI k))
/-- a list of numbers, of lists of numbers, of texts -/
abbrev cI (l : List Int) : List D := l.map dI
abbrev eI (l : List Int) : D := .sl 1 l.length (cI l)
abbrev cII (l : List (List Int)) : List D := l.map fun x => eI x
abbrev eII (l : List (List Int)) : D := .sl 1 l.length (cII l)
section
variable {P : Program} {st : St} {dst : Option Tmp} {ty : TypeId} {pos : String} {af : Array Edge} {T : TypeId} {x y : Operand} {k : IntKind} {i : Int}
theorem qt_idxI {l : List Int} (hx : st.ev x = .c (.d (eI l))) (hy : st.ev y = .c (.d (.lit (.int k i)))) (ht : tSl P T 1 = true) (h0 : 0 ≤ i) (h1 : i < l.length) : Qt P ⟨dst, .indexAddr T x y, ty, pos, af, none⟩ st (.c (.d (.pt [dI (atZ l i)]))) :=
  qt_idx hx hy ht h0 h1 (map_at (atZ_some h0 h1))
theorem qt_idxII {l : List (List Int)} (hx : st.ev x = .c (.d (eII l))) (hy : st.ev y = .c (.d (.lit (.int k i)))) (ht : tSl P T 1 = true) (h0 : 0 ≤ i) (h1 : i < l.length) : Qt P ⟨dst, .indexAddr T x y, ty, pos, af, none⟩ st (.c (.d (.pt [eI (atZ l i)]))) :=
  qt_idx hx hy ht h0 h1 (map_at (atZ_some h0 h1))
theorem qt_load_rowI {l : List Int} {b : Nat} {i : Int} (hx : st.ev x = .c (.lp b (0 + i.toNat * 1))) (hb : st.bl b = some (.row 1 (cI l))) (ht : tOne P T = true) (h0 : 0 ≤ i) (h1 : i < l.length) : Qt P ⟨dst, .load T x, ty, pos, af, none⟩ st (.c (.d (dI (atZ l i)))) :=
  qt_load_row hx hb ht (by rw [List.getElem?_map, Nat.zero_add, Nat.mul_one, atZ_some h0 h1]; rfl)
theorem qt_slice_dI11 {l : List Int} {x lo hi : Operand} {kl kh : IntKind} {i j : Int} (hx : st.ev x = .c (.d (eI l))) (hl : st.ev lo = .c (.d (.lit (.int kl i)))) (hh : st.ev hi = .c (.d (.lit (.int kh j)))) (ht : tSl P T 1 = true) (h0 : 0 ≤ i) (h1 : i ≤ j) (h2 : j ≤ l.length) :
    Qt P ⟨dst, .slice T x (some lo) (some hi) none, ty, pos, af, none⟩ st (.c (.d (eI (partZ l i j)))) :=
  qt_slice_d (vl := some (kl, i)) (vh := some (kh, j)) (i := i.toNat) (j := j.toNat) hx (ev_some hl) (ev_some hh) ht ⟨h0, rfl⟩ ⟨by omega, rfl⟩ (by omega) (by omega) (partZ_len h2).symm (by rw [partZ_len h2]; exact map_part l _ i j)
theorem qt_slice_dI10 {l : List Int} {x lo : Operand} {kl : IntKind} {i : Int} (hx : st.ev x = .c (.d (eI l))) (hl : st.ev lo = .c (.d (.lit (.int kl i)))) (ht : tSl P T 1 = true) (h0 : 0 ≤ i) (h1 : i ≤ l.length) :
    Qt P ⟨dst, .slice T x (some lo) none none, ty, pos, af, none⟩ st (.c (.d (eI (partZ l i l.length)))) :=
  qt_slice_d (vl := some (kl, i)) (vh := none) (i := i.toNat) (j := l.length) hx (ev_some hl) (fun _ _ _ _ _ => rfl) ht ⟨h0, rfl⟩ rfl (by omega) (by omega) (by rw [partZ_len (by omega)]; simp) (by rw [partZ_len (by omega)]; exact map_part l _ i l.length)
theorem qt_slice_dI01 {l : List Int} {x hi : Operand} {kh : IntKind} {j : Int} (hx : st.ev x = .c (.d (eI l))) (hh : st.ev hi = .c (.d (.lit (.int kh j)))) (ht : tSl P T 1 = true) (h0 : 0 ≤ j) (h2 : j ≤ l.length) :
    Qt P ⟨dst, .slice T x none (some hi) none, ty, pos, af, none⟩ st (.c (.d (eI (partZ l 0 j)))) :=
  qt_slice_d (vl := none) (vh := some (kh, j)) (i := 0) (j := j.toNat) hx (fun _ _ _ _ _ => rfl) (ev_some hh) ht rfl ⟨h0, rfl⟩ (by omega) (by omega) (by rw [partZ_len h2]; simp) (by rw [partZ_len h2]; simpa using map_part l _ 0 j)
theorem qt_slice_dII11 {l : List (List Int)} {x lo hi : Operand} {kl kh : IntKind} {i j : Int} (hx : st.ev x = .c (.d (eII l))) (hl : st.ev lo = .c (.d (.lit (.int kl i)))) (hh : st.ev hi = .c (.d (.lit (.int kh j)))) (ht : tSl P T 1 = true) (h0 : 0 ≤ i) (h1 : i ≤ j) (h2 : j ≤ l.length) :
    Qt P ⟨dst, .slice T x (some lo) (some hi) none, ty, pos, af, none⟩ st (.c (.d (eII (partZ l i j)))) :=
  qt_slice_d (vl := some (kl, i)) (vh := some (kh, j)) (i := i.toNat) (j := j.toNat) hx (ev_some hl) (ev_some hh) ht ⟨h0, rfl⟩ ⟨by omega, rfl⟩ (by omega) (by omega) (partZ_len h2).symm (by rw [partZ_len h2]; exact map_part l _ i j)
theorem qt_slice_dII10 {l : List (List Int)} {x lo : Operand} {kl : IntKind} {i : Int} (hx : st.ev x = .c (.d (eII l))) (hl : st.ev lo = .c (.d (.lit (.int kl i)))) (ht : tSl P T 1 = true) (h0 : 0 ≤ i) (h1 : i ≤ l.length) :
    Qt P ⟨dst, .slice T x (some lo) none none, ty, pos, af, none⟩ st (.c (.d (eII (partZ l i l.length)))) :=
  qt_slice_d (vl := some (kl, i)) (vh := none) (i := i.toNat) (j := l.length) hx (ev_some hl) (fun _ _ _ _ _ => rfl) ht ⟨h0, rfl⟩ rfl (by omega) (by omega) (by rw [partZ_len (by omega)]; simp) (by rw [partZ_len (by omega)]; exact map_part l _ i l.length)
theorem qt_slice_dII01 {l : List (List Int)} {x hi : Operand} {kh : IntKind} {j : Int} (hx : st.ev x = .c (.d (eII l))) (hh : st.ev hi = .c (.d (.lit (.int kh j)))) (ht : tSl P T 1 = true) (h0 : 0 ≤ j) (h2 : j ≤ l.length) :
    Qt P ⟨dst, .slice T x none (some hi) none, ty, pos, af, none⟩ st (.c (.d (eII (partZ l 0 j)))) :=
  qt_slice_d (vl := none) (vh := some (kh, j)) (i := 0) (j := j.toNat) hx (fun _ _ _ _ _ => rfl) (ev_some hh) ht rfl ⟨h0, rfl⟩ (by omega) (by omega) (by rw [partZ_len h2]; simp) (by rw [partZ_len h2]; simpa using map_part l _ 0 j)
end
end Go.Proofs.Ytdnkmgbbkggmdaa

namespace Go.Proofs.Ytdnkmgbbkggmdaa
open Go.RowKit
theorem szR_ok : ∀ (ll : List (List Int)) (left : Int), (cnt ll : Int) ≤ left → szR ll left = left - cnt ll
  | [], left, _ => by simp [szR, cnt]
  | l :: r, left, h => by
    simp only [cnt] at h ⊢
    have e : szI l.length left = left - l.length := by unfold szI; rw [if_neg (by omega)]
    unfold szR
    rw [e, if_neg (by omega), szR_ok r _ (by omega)]; omega
theorem szR_no : ∀ (ll : List (List Int)) (left : Int), left < (cnt ll : Int) → 0 ≤ left → szR ll left = -1
  | [], left, h, h0 => by simp [cnt] at h; omega
  | l :: r, left, h, h0 => by
    simp only [cnt] at h
    unfold szR
    by_cases hl : left - l.length < 0
    · have e : szI l.length left = -1 := by unfold szI; rw [if_pos hl]
      rw [e, if_pos (by omega)]
    · have e : szI l.length left = left - l.length := by unfold szI; rw [if_neg hl]
      rw [e, if_neg (by omega), szR_no r _ (by omega) (by omega)]
theorem szL_ok {ll : List (List Int)} {left : Int} (h : (ll.length : Int) + cnt ll ≤ left) : szL ll.length ll left = left - ll.length - cnt ll := by
  unfold szL; rw [if_neg (by omega), szR_ok _ _ (by omega)]
theorem szL_no {ll : List (List Int)} {left : Int} (h : left < (ll.length : Int) + cnt ll) (h0 : 0 ≤ left) : szL ll.length ll left = -1 := by
  unfold szL
  split
  · rfl
  · exact szR_no _ _ (by omega) (by omega)
theorem cnt_mem : ∀ {ll : List (List Int)} {l : List Int}, l ∈ ll → l.length ≤ cnt ll
  | l' :: r, l, h => by
    simp only [cnt]
    rcases List.mem_cons.1 h with rfl | h
    · omega
    · have := cnt_mem h; omega

end Go.Proofs.Ytdnkmgbbkggmdaa

namespace Go.Proofs.Ytdnkmgbbkggmdaa
open Go.RowKit
open Go
/-! trios -/
def sum64 (l : List Int) : Int := l.foldl (fun s n => IntKind.i64.wrap (s + n)) 0
theorem sum64_snoc {l : List Int} {k : Nat} (h : k < l.length) : sum64 (l.take (k + 1)) = IntKind.i64.wrap (sum64 (l.take k) + l[k]) := by
  unfold sum64; rw [List.take_succ_eq_append_getElem h, List.foldl_append]; rfl
def rowB (n : Int) (row : List Int) : Bool := (decide (row.length = 8) && allB row 0 n) && decide (sum64 row = n)
def trioB (n : Int) (ll : List (List Int)) : Bool := (inB n 1 1000 && decide (ll.length = 8)) && ll.all (rowB n)
theorem rowB_len {n : Int} {row : List Int} (h : rowB n row = true) : row.length = 8 ∧ ∀ k (hk : k < row.length), 0 ≤ row[k] ∧ row[k] ≤ n := by
  simp only [rowB, Bool.and_eq_true, decide_eq_true_eq, allB, List.all_eq_true] at h
  exact ⟨h.1.1, fun k hk => inB_iff.1 (h.1.2 _ (List.getElem_mem hk))⟩
theorem trioB_spec {n : Int} {ll : List (List Int)} (h : trioB n ll = true) : 1 ≤ n ∧ n ≤ 1000 ∧ ll.length = 8 ∧ ∀ q (hq : q < ll.length), ll[q].length = 8 ∧ ∀ k (hk : k < ll[q].length), 0 ≤ ll[q][k] ∧ ll[q][k] ≤ n := by
  simp only [trioB, Bool.and_eq_true, decide_eq_true_eq, List.all_eq_true] at h
  have := inB_iff.1 h.1.1
  exact ⟨this.1, this.2, h.1.2, fun q hq => rowB_len (h.2 _ (List.getElem_mem hq))⟩
/-- the bit of a player in a place -/
def bitZ (q : Int) (m : Nat) : Int := q / 2 ^ (2 - m) % 2
theorem bitZ_le (q : Int) (m : Nat) : 0 ≤ bitZ q m ∧ bitZ q m ≤ 1 := by unfold bitZ; omega
/-- the answers of a play -/
def playP (l : List Int) (q : Int) : Nat → Int
  | 0 => 0
  | m + 1 => 2 * playP l q m + atZ l (2 * m + bitZ q m)
theorem playP_bd {l : List Int} (h : bitsB l 6 = true) (q : Int) : ∀ m : Nat, m ≤ 3 → 0 ≤ playP l q m ∧ playP l q m < 2 ^ m
  | 0, _ => by simp [playP]
  | m + 1, hm => by
    have ih := playP_bd h q m (by omega)
    have hb := bitZ_le q m
    have := bitsB_at h (i := 2 * m + bitZ q m) (by omega) (by omega)
    rw [playP, Int.pow_succ]
    omega
theorem playP_4 {l : List Int} (h : bitsB l 6 = true) (q : Int) (m : Nat) (hm : m ≤ 2) : 0 ≤ playP l q m ∧ playP l q m < 4 := by
  have := playP_bd h q m (by omega)
  have : (2 : Int) ^ m ≤ 4 := by rcases (by omega : m = 0 ∨ m = 1 ∨ m = 2) with rfl | rfl | rfl <;> decide
  omega
def playV (l : List Int) (q : Int) : Int := playP l q 3
theorem playV_eq (l : List Int) {q : Int} (h0 : 0 ≤ q) (h8 : q < 8) : playV l q = 4 * atZ l (q / 4) + 2 * atZ l (2 + q / 2 % 2) + atZ l (4 + q % 2) := by
  have e : q / 4 % 2 = q / 4 := by omega
  simp [playV, playP, bitZ, e]; omega
theorem playV_bd {l : List Int} (h : bitsB l 6 = true) (q : Int) : 0 ≤ playV l q ∧ playV l q < 8 := by
  have := playP_bd h q 3 (by omega); unfold playV; omega
def ansF (n : Int) (g : Nat → Int) (q k : Nat) : Int := if (k : Int) = g q then n else 0
def trioOfB (l : List Int) (n : Int) : Bool := bitsB l 6 && inB n 1 1000
theorem oneHotZ {α : Type} (g : Int → α) (n : Int) {p : Int} (h0 : 0 ≤ p) (h8 : p < 8) : (List.replicate 8 (g 0)).set (p.toNat) (g n) = (rowF (fun k => if (k : Int) = p then n else 0) 8).map g := by
  rcases (by omega : p = 0 ∨ p = 1 ∨ p = 2 ∨ p = 3 ∨ p = 4 ∨ p = 5 ∨ p = 6 ∨ p = 7) with rfl | rfl | rfl | rfl | rfl | rfl | rfl | rfl <;> simp [rowF, List.range, List.range.loop, List.replicate, List.set]
theorem rowF_atZ (f : Nat → Int) {m k : Nat} (h : k < m) : atZ (rowF f m) (k : Int) = f k := by
  rw [atZ_nat (by simpa using h)]; simp [rowF]
theorem gridF_ans (n : Int) (f : Nat → Int) : gridF (ansF n fun q => atZ (rowF f 8) q) 8 8 = gridF (ansF n f) 8 8 :=
  gridF_congr fun i hi k _ => by have := rowF_atZ f hi; show (if (k : Int) = atZ (rowF f 8) i then n else 0) = if (k : Int) = f i then n else 0; simp only [this]
/-- the two players other than one -/
def oth1 (a : Int) : Nat := if a = 0 then 1 else 0
def oth2 (a : Int) : Nat := if a = 0 then 2 else if a = 1 then 2 else 1
def othL (a : Int) (k : Nat) : List Int := (([0, 1, 2] : List Int).take k).filter fun x => decide (x ≠ a)
theorem othL_succ (a : Int) {k : Nat} (h : k < 3) : othL a (k + 1) = if (k : Int) = a then othL a k else othL a k ++ [(k : Int)] := by
  unfold othL
  rw [List.take_succ_eq_append_getElem (by simpa using h), List.filter_append]
  by_cases e : (k : Int) = a
  · rcases (by omega : k = 0 ∨ k = 1 ∨ k = 2) with rfl | rfl | rfl <;> simp at e <;> simp [List.filter, ← e]
  · rcases (by omega : k = 0 ∨ k = 1 ∨ k = 2) with rfl | rfl | rfl <;> simp at e <;> simp [List.filter, e]
theorem othL_3 {a : Int} (h0 : 0 ≤ a) (h2 : a ≤ 2) : othL a 3 = [(oth1 a : Int), (oth2 a : Int)] := by
  rcases (by omega : a = 0 ∨ a = 1 ∨ a = 2) with rfl | rfl | rfl <;> rfl
/-- the answers of a group play -/
def grpAt (a q : Int) : Int := 2 * (2 * bitZ q (oth1 a) + bitZ q (oth2 a))
def grpV (a : Int) (own joint : List Int) (q : Int) : Int :=
  atZ own (bitZ q a.toNat) * 2 ^ (2 - a.toNat) + atZ joint (grpAt a q) * 2 ^ (2 - oth1 a) + atZ joint (grpAt a q + 1) * 2 ^ (2 - oth2 a)
theorem or421 {x y z : Int} (hx : 0 ≤ x ∧ x ≤ 1) (hy : 0 ≤ y ∧ y ≤ 1) (hz : 0 ≤ z ∧ z ≤ 1) : bits .or .i64 (bits .or .i64 (x * 4) (y * 2)) z = x * 4 + y * 2 + z := by
  rcases (by omega : x = 0 ∨ x = 1) with rfl | rfl <;> rcases (by omega : y = 0 ∨ y = 1) with rfl | rfl <;> rcases (by omega : z = 0 ∨ z = 1) with rfl | rfl <;> rfl
theorem or241 {x y z : Int} (hx : 0 ≤ x ∧ x ≤ 1) (hy : 0 ≤ y ∧ y ≤ 1) (hz : 0 ≤ z ∧ z ≤ 1) : bits .or .i64 (bits .or .i64 (x * 2) (y * 4)) z = x * 2 + y * 4 + z := by
  rcases (by omega : x = 0 ∨ x = 1) with rfl | rfl <;> rcases (by omega : y = 0 ∨ y = 1) with rfl | rfl <;> rcases (by omega : z = 0 ∨ z = 1) with rfl | rfl <;> rfl
theorem or142 {x y z : Int} (hx : 0 ≤ x ∧ x ≤ 1) (hy : 0 ≤ y ∧ y ≤ 1) (hz : 0 ≤ z ∧ z ≤ 1) : bits .or .i64 (bits .or .i64 x (y * 4)) (z * 2) = x + y * 4 + z * 2 := by
  rcases (by omega : x = 0 ∨ x = 1) with rfl | rfl <;> rcases (by omega : y = 0 ∨ y = 1) with rfl | rfl <;> rcases (by omega : z = 0 ∨ z = 1) with rfl | rfl <;> rfl
def groupB (a : Int) (own joint : List Int) (n : Int) : Bool := inB a 0 2 && bitsB own 2 && bitsB joint 8 && inB n 1 1000
theorem othL_len (a : Int) (k : Nat) : (othL a k).length ≤ 3 := by
  unfold othL; refine Nat.le_trans (List.length_filter_le _ _) ?_; rw [List.length_take]; exact Nat.min_le_right _ _

theorem inB_02 {a : Int} (h : inB a 0 2 = true) : a = 0 ∨ a = 1 ∨ a = 2 := by have := inB_iff.1 h; omega
theorem grpV_bd {a : Int} {own joint : List Int} (h : inB a 0 2 = true) (ho : bitsB own 2 = true) (hj : bitsB joint 8 = true) (q : Int) : 0 ≤ grpV a own joint q ∧ grpV a own joint q < 8 := by
  have b0 := bitZ_le q a.toNat
  have b1 := bitZ_le q (oth1 a)
  have b2 := bitZ_le q (oth2 a)
  have p0 := bitsB_at ho (i := bitZ q a.toNat) (by omega) (by omega)
  have a0 := bitsB_at hj (i := grpAt a q) (by unfold grpAt; omega) (by unfold grpAt; omega)
  have a1 := bitsB_at hj (i := grpAt a q + 1) (by unfold grpAt; omega) (by unfold grpAt; omega)
  rcases inB_02 h with rfl | rfl | rfl <;> simp [grpV, oth1, oth2] at * <;> omega
/-- a place whose digits are turned -/
def turnP (p : Int) : Int := p * 2 % 8 + p / 4
theorem turnP_bd {p : Int} (h0 : 0 ≤ p) (h8 : p < 8) : 0 ≤ turnP p ∧ turnP p < 8 := by unfold turnP; omega
theorem or_turn {p : Int} (h0 : 0 ≤ p) (h8 : p < 8) : bits .or .i64 (p * 2 % 8) (p / 4) = turnP p := by
  rcases (by omega : p = 0 ∨ p = 1 ∨ p = 2 ∨ p = 3 ∨ p = 4 ∨ p = 5 ∨ p = 6 ∨ p = 7) with rfl | rfl | rfl | rfl | rfl | rfl | rfl | rfl <;> rfl
def turnI (k : Nat) : Nat := k / 2 + k % 2 * 4
theorem turnI_lt {p : Nat} (h : p < 8) : turnI p < 8 := by unfold turnI; omega
def turnN (p : Nat) : Nat := p * 2 % 8 + p / 4
theorem turnP_nat (p : Nat) : turnP p = (turnN p : Nat) := by unfold turnP turnN; omega
theorem turnN_lt {p : Nat} (h : p < 8) : turnN p < 8 := by unfold turnN; omega
/-- a list of eight that is filled at the turned places, k of them so far -/
def turnL {α : Type} (z : α) (f : Nat → α) (k : Nat) : List α := (List.range 8).map fun j => if turnN j < k then f j else z
theorem turnL_len {α : Type} (z : α) (f : Nat → α) (k : Nat) : (turnL z f k).length = 8 := by simp [turnL]
theorem turnL_zero {α : Type} (z : α) (f : Nat → α) : turnL z f 0 = List.replicate 8 z := by simp [turnL, List.range, List.range.loop, List.replicate]
theorem turnL_set {α : Type} (z : α) (f : Nat → α) {k : Nat} (h : k < 8) : (turnL z f k).set (turnI k) (f (turnI k)) = turnL z f (k + 1) := by
  rcases (by omega : k = 0 ∨ k = 1 ∨ k = 2 ∨ k = 3 ∨ k = 4 ∨ k = 5 ∨ k = 6 ∨ k = 7) with rfl | rfl | rfl | rfl | rfl | rfl | rfl | rfl <;> rfl
theorem turnL_all {α : Type} (z : α) (f : Nat → α) : turnL z f 8 = (List.range 8).map f := by
  unfold turnL
  refine List.map_congr_left fun j hj => ?_
  have := turnN_lt (List.mem_range.1 hj)
  rw [if_pos (by omega)]
theorem turnN_inv {k : Nat} (h : k < 8) : turnN (turnI k) = k := by
  rcases (by omega : k = 0 ∨ k = 1 ∨ k = 2 ∨ k = 3 ∨ k = 4 ∨ k = 5 ∨ k = 6 ∨ k = 7) with rfl | rfl | rfl | rfl | rfl | rfl | rfl | rfl <;> rfl
def turnF (ll : List (List Int)) (q k : Nat) : Int := atZ (atZ ll (turnP q)) (turnP k)
def mixF (a b : List (List Int)) (q k : Nat) : Int := atZ (atZ a q) k + atZ (atZ b q) k
theorem trioB_at {n : Int} {ll : List (List Int)} (h : trioB n ll = true) {q : Int} (h0 : 0 ≤ q) (h8 : q < 8) : (atZ ll q).length = 8 ∧ ∀ k : Int, 0 ≤ k → k < 8 → 0 ≤ atZ (atZ ll q) k ∧ atZ (atZ ll q) k ≤ n := by
  obtain ⟨h1, h2, h3, h4⟩ := trioB_spec h
  obtain ⟨i, rfl⟩ := Int.eq_ofNat_of_zero_le h0
  rw [atZ_nat (by omega)]
  obtain ⟨h5, h6⟩ := h4 i (by omega)
  refine ⟨h5, fun k hk0 hk8 => ?_⟩
  obtain ⟨j, rfl⟩ := Int.eq_ofNat_of_zero_le hk0
  rw [atZ_nat (by omega)]
  exact h6 j (by omega)
theorem sum64_of {l : List Int} (h : l.length = 8) (hb : ∀ k (hk : k < l.length), 0 ≤ l[k] ∧ l[k] ≤ 1000000) : sum64 l = l.sum := by
  have key : ∀ (l : List Int) (s : Int), 0 ≤ s → (∀ x ∈ l, 0 ≤ x ∧ x ≤ 1000000) → s + l.length * 1000000 ≤ 1000000000 → l.foldl (fun s n => IntKind.i64.wrap (s + n)) s = s + l.sum := by
    intro l
    induction l with
    | nil => intro s _ _ _; simp
    | cons x l ih =>
      intro s h0 hx hs
      have h1 := hx x (List.mem_cons_self ..)
      simp only [List.length_cons] at hs
      rw [List.foldl_cons, IntWalk.i64_in _ (by omega), ih _ (by omega) (fun y hy => hx y (List.mem_cons_of_mem _ hy)) (by omega), List.sum_cons]; omega
  have := key l 0 (by omega) (fun x hx => by obtain ⟨k, hk, rfl⟩ := List.getElem_of_mem hx; exact hb k hk) (by omega)
  unfold sum64; rw [this]; omega
theorem len8 {l : List Int} (h : l.length = 8) : ∃ a b c d e f g i, l = [a, b, c, d, e, f, g, i] := by
  match l, h with
  | [a, b, c, d, e, f, g, i], _ => exact ⟨a, b, c, d, e, f, g, i, rfl⟩
theorem mix_row {m n : Int} {a b : List Int} (ha : rowB m a = true) (hb : rowB n b = true) (hm : m ≤ 1000) (hn : n ≤ 1000) : rowB (m + n) (rowF (fun k => atZ a k + atZ b k) 8) = true := by
  obtain ⟨a1, a2⟩ := rowB_len ha
  obtain ⟨b1, b2⟩ := rowB_len hb
  have sa : sum64 a = m := by simp [rowB] at ha; exact ha.2
  have sb : sum64 b = n := by simp [rowB] at hb; exact hb.2
  rw [sum64_of a1 fun k hk => ⟨(a2 k hk).1, by have := (a2 k hk).2; omega⟩] at sa
  rw [sum64_of b1 fun k hk => ⟨(b2 k hk).1, by have := (b2 k hk).2; omega⟩] at sb
  have bd : ∀ k (hk : k < (rowF (fun k : Nat => atZ a k + atZ b k) 8).length), 0 ≤ (rowF (fun k : Nat => atZ a k + atZ b k) 8)[k] ∧ (rowF (fun k : Nat => atZ a k + atZ b k) 8)[k] ≤ m + n := fun k hk => by
    simp only [rowF, List.getElem_map, List.getElem_range]
    have hk8 : k < 8 := by simpa using hk
    rw [atZ_nat (by omega), atZ_nat (by omega)]
    have := a2 k (by omega); have := b2 k (by omega); omega
  have e : sum64 (rowF (fun k : Nat => atZ a k + atZ b k) 8) = m + n := by
    rw [sum64_of (by simp) fun k hk => ⟨(bd k hk).1, by have := (bd k hk).2; omega⟩]
    obtain ⟨x0, x1, x2, x3, x4, x5, x6, x7, rfl⟩ := len8 a1
    obtain ⟨y0, y1, y2, y3, y4, y5, y6, y7, rfl⟩ := len8 b1
    simp [rowF, List.range, List.range.loop, atZ] at sa sb ⊢
    omega
  simp only [rowB, allB, e, rowF_len, decide_true, Bool.true_and, Bool.and_true, List.all_eq_true]
  intro x hx
  obtain ⟨k, hk, rfl⟩ := List.getElem_of_mem hx
  exact inB_iff.2 (bd k hk)
theorem mix_trio {m n : Int} {a b : List (List Int)} (ha : trioB m a = true) (hb : trioB n b = true) : trioB (m + n) (gridF (mixF a b) 8 8) = decide (m + n ≤ 1000) := by
  obtain ⟨a1, a2, a3, _⟩ := trioB_spec ha
  obtain ⟨b1, b2, b3, _⟩ := trioB_spec hb
  simp only [trioB, Bool.and_eq_true, List.all_eq_true] at ha hb
  have rows : (gridF (mixF a b) 8 8).all (rowB (m + n)) = true := by
    rw [List.all_eq_true]
    intro x hx
    unfold gridF at hx
    obtain ⟨q, hq, rfl⟩ := List.mem_map.1 hx
    have hq := List.mem_range.1 hq
    have := mix_row (ha.2 (a[q]'(by omega)) (List.getElem_mem _)) (hb.2 (b[q]'(by omega)) (List.getElem_mem _)) a2 b2
    have e : (mixF a b q) = fun k : Nat => atZ (a[q]'(by omega)) k + atZ (b[q]'(by omega)) k := by
      funext k; unfold mixF; rw [show atZ a (q : Int) = a[q]'(by omega) from atZ_nat (by omega), show atZ b (q : Int) = b[q]'(by omega) from atZ_nat (by omega)]
    rw [e]; exact this
  unfold trioB
  rw [rows]
  simp [inB]; omega
def mixB (m : Int) (a : List (List Int)) (n : Int) (b : List (List Int)) : Bool := trioB m a && trioB n b && decide (m + n ≤ 1000)

end Go.Proofs.Ytdnkmgbbkggmdaa

namespace Go.Proofs.Ytdnkmgbbkggmdaa
open Go.RowKit
/-! all plays -/
def bitN (c e : Nat) : Nat := c / 2 ^ e % 2
def bitsM (n c : Nat) : List Int := rowF (fun i => (bitN c (n - 1 - i) : Int)) n
def playsF (n : Nat) : List (List Int) := (List.range (2 ^ n)).map (bitsM n)
@[simp] theorem bitsM_len (n c : Nat) : (bitsM n c).length = n := by simp [bitsM]
@[simp] theorem playsF_len (n : Nat) : (playsF n).length = 2 ^ n := by simp [playsF]
theorem bitsM_bits (n c : Nat) : bitsB (bitsM n c) n = true := by
  simp only [bitsB, bitsM_len, decide_true, Bool.true_and, allB, List.all_eq_true]
  intro x hx
  unfold bitsM rowF at hx
  obtain ⟨i, _, rfl⟩ := List.mem_map.1 hx
  exact inB_iff.2 ⟨by unfold bitN; omega, by unfold bitN; omega⟩
theorem playsF_at {n k : Nat} (h : k < 2 ^ n) : atZ (playsF n) (k : Int) = bitsM n k := by rw [atZ_nat (by simpa using h)]; simp [playsF]
theorem plays_snoc (n c : Nat) : (List.range (c + 1)).map (bitsM n) = (List.range c).map (bitsM n) ++ [bitsM n c] := by simp [List.range_succ]
theorem bit_nat (c e : Nat) : (c : Int) / 2 ^ e % 2 = (bitN c e : Int) := by
  unfold bitN
  rw [Int.natCast_emod, Int.natCast_ediv, Int.natCast_pow]; rfl
/-- the greatest of numbers, at least 0 -/
def bestN (f : Nat → Int) : Nat → Int
  | 0 => 0
  | k + 1 => max (bestN f k) (f k)
theorem bestN_ge (f : Nat → Int) : ∀ n, 0 ≤ bestN f n
  | 0 => by simp [bestN]
  | k + 1 => by have := bestN_ge f k; simp only [bestN]; omega
theorem le_bestN (f : Nat → Int) : ∀ n k, k < n → f k ≤ bestN f n
  | n + 1, k, h => by
    simp only [bestN]
    by_cases e : k = n
    · subst e; omega
    · have := le_bestN f n k (by omega); omega
theorem bestN_le (f : Nat → Int) (M : Int) (h0 : 0 ≤ M) : ∀ n, (∀ k, k < n → f k ≤ M) → bestN f n ≤ M
  | 0, _ => by simpa [bestN] using h0
  | n + 1, h => by
    have h1 := bestN_le f M h0 n fun k hk => h k (by omega)
    have h2 := h n (by omega)
    simp only [bestN]; omega
theorem bestN_congr {f g : Nat → Int} : ∀ {n : Nat}, (∀ k, k < n → f k = g k) → bestN f n = bestN g n
  | 0, _ => rfl
  | n + 1, h => by simp only [bestN]; rw [bestN_congr fun k hk => h k (by omega), h n (by omega)]
theorem bestN_perm {f g : Nat → Int} {n : Nat} (r : Nat → Nat) (hr : ∀ k, k < n → r k < n) (h1 : ∀ k, k < n → f k = g (r k)) (h2 : ∀ k, k < n → g k = f (r k)) : bestN f n = bestN g n := by
  have a := bestN_le f (bestN g n) (bestN_ge g n) n fun k hk => by rw [h1 k hk]; exact le_bestN g n _ (hr k hk)
  have b := bestN_le g (bestN f n) (bestN_ge f n) n fun k hk => by rw [h2 k hk]; exact le_bestN f n _ (hr k hk)
  omega
/-- the score of answers -/
def parZ (p : Int) : Int := (p / 4 + p / 2 + p) % 2
def scoreN (w odd : List Int) (f : Int → Int) : Nat → Int
  | 0 => 0
  | k + 1 => scoreN w odd f k + if parZ (f k) = atZ odd k then atZ w k else 0
def valB (w odd : List Int) : Bool := decide (w.length = 8) && allB w 0 99 && bitsB odd 8
theorem allB_at {l : List Int} {lo hi : Int} (h : allB l lo hi = true) {i : Int} (h0 : 0 ≤ i) (h1 : i < l.length) : lo ≤ atZ l i ∧ atZ l i ≤ hi := by
  unfold allB at h
  rw [List.all_eq_true] at h
  obtain ⟨k, rfl⟩ := Int.eq_ofNat_of_zero_le h0
  rw [atZ_nat (by omega)]
  exact inB_iff.1 (h (l[k]'(by omega)) (List.getElem_mem _))
theorem scoreN_bd {w odd : List Int} (h : valB w odd = true) (f : Int → Int) : ∀ k : Nat, k ≤ 8 → 0 ≤ scoreN w odd f k ∧ scoreN w odd f k ≤ 99 * k
  | 0, _ => by simp [scoreN]
  | k + 1, hk => by
    have ih := scoreN_bd h f k (by omega)
    simp only [valB, Bool.and_eq_true, decide_eq_true_eq] at h
    have := allB_at h.1.2 (i := k) (by omega) (by omega)
    simp only [scoreN]
    split <;> omega
def trioVal (w odd : List Int) : Int := bestN (fun c => scoreN w odd (fun q => playV (bitsM 6 c) q) 8) 64
def bitsL (c : Nat) : List Int := rowF (fun i => (bitN c i : Int)) 6
def rev6 (c : Nat) : Nat := c % 2 * 32 + c / 2 % 2 * 16 + c / 4 % 2 * 8 + c / 8 % 2 * 4 + c / 16 % 2 * 2 + c / 32
theorem rev6_lt {c : Nat} (h : c < 64) : rev6 c < 64 := by unfold rev6; omega
theorem bitsL_bits (c : Nat) : bitsB (bitsL c) 6 = true := by
  simp only [bitsB, bitsL, rowF_len, Bool.and_eq_true, allB, List.all_eq_true]
  refine ⟨by decide, ?_⟩
  intro x hx
  unfold rowF at hx
  obtain ⟨i, _, rfl⟩ := List.mem_map.1 hx
  exact inB_iff.2 ⟨by unfold bitN; omega, by unfold bitN; omega⟩
theorem bits_rev : ∀ c : Fin 64, bitsM 6 c = bitsL (rev6 c) ∧ bitsL c = bitsM 6 (rev6 c) := by decide +kernel
theorem trioVal_L (w odd : List Int) : bestN (fun c => scoreN w odd (fun q => playV (bitsL c) q) 8) 64 = trioVal w odd :=
  bestN_perm rev6 (fun _ => rev6_lt) (fun k hk => by rw [(bits_rev ⟨k, hk⟩).2]) (fun k hk => by rw [(bits_rev ⟨k, hk⟩).1])

end Go.Proofs.Ytdnkmgbbkggmdaa

namespace Go.Proofs.Ytdnkmgbbkggmdaa
open Go.RowKit
open Go
/-! boxes -/
def row4B (n : Int) (row : List Int) : Bool := (decide (row.length = 4) && allB row 0 n) && decide (sum64 row = n)
def sizeB (x y : Int) : Bool := inB x 1 3 && inB y 1 3
def boxB (x y n : Int) (ll : List (List Int)) : Bool := ((sizeB x y && inB n 1 1000) && decide ((ll.length : Int) = x * y)) && ll.all (row4B n)
theorem sizeB_iff {x y : Int} : sizeB x y = true ↔ (1 ≤ x ∧ x ≤ 3) ∧ (1 ≤ y ∧ y ≤ 3) := by simp [sizeB, inB_iff]
theorem mul_bd3 {x y : Int} (h : sizeB x y = true) : 1 ≤ x * y ∧ x * y ≤ 9 := by
  obtain ⟨⟨a, b⟩, c, d⟩ := sizeB_iff.1 h
  rcases (by omega : x = 1 ∨ x = 2 ∨ x = 3) with rfl | rfl | rfl <;> rcases (by omega : y = 1 ∨ y = 2 ∨ y = 3) with rfl | rfl | rfl <;> decide
theorem wrap_mul3 {x y : Int} (h : sizeB x y = true) : IntKind.i64.wrap (x * y) = x * y := IntWalk.i64_in _ (by have := mul_bd3 h; omega)
theorem row4B_len {n : Int} {row : List Int} (h : row4B n row = true) : row.length = 4 ∧ ∀ k (hk : k < row.length), 0 ≤ row[k] ∧ row[k] ≤ n := by
  simp only [row4B, Bool.and_eq_true, decide_eq_true_eq, allB, List.all_eq_true] at h
  exact ⟨h.1.1, fun k hk => inB_iff.1 (h.1.2 _ (List.getElem_mem hk))⟩
theorem row4B_sum {n : Int} {row : List Int} (h : row4B n row = true) : sum64 row = n := by simp [row4B] at h; exact h.2
structure BoxOK (x y n : Int) (ll : List (List Int)) : Prop where
  x1 : 1 ≤ x
  x3 : x ≤ 3
  y1 : 1 ≤ y
  y3 : y ≤ 3
  n1 : 1 ≤ n
  n2 : n ≤ 1000
  len : (ll.length : Int) = x * y
  row : ∀ q, (hq : q < ll.length) → row4B n ll[q] = true
theorem boxB_spec {x y n : Int} {ll : List (List Int)} (h : boxB x y n ll = true) : BoxOK x y n ll := by
  simp only [boxB, Bool.and_eq_true, decide_eq_true_eq, List.all_eq_true] at h
  obtain ⟨⟨⟨h1, h2⟩, h3⟩, h4⟩ := h
  have a := sizeB_iff.1 h1
  have b := inB_iff.1 h2
  exact ⟨a.1.1, a.1.2, a.2.1, a.2.2, b.1, b.2, h3, fun q hq => h4 _ (List.getElem_mem hq)⟩
theorem boxB_at {x y n : Int} {ll : List (List Int)} (h : boxB x y n ll = true) {q : Int} (h0 : 0 ≤ q) (h8 : q < x * y) : (atZ ll q).length = 4 ∧ ∀ k : Int, 0 ≤ k → k < 4 → 0 ≤ atZ (atZ ll q) k ∧ atZ (atZ ll q) k ≤ n := by
  have hb := boxB_spec h
  obtain ⟨i, rfl⟩ := Int.eq_ofNat_of_zero_le h0
  have hi : i < ll.length := by have := hb.len; omega
  rw [atZ_nat hi]
  obtain ⟨h5, h6⟩ := row4B_len (hb.row i hi)
  refine ⟨h5, fun k hk0 hk8 => ?_⟩
  obtain ⟨j, rfl⟩ := Int.eq_ofNat_of_zero_le hk0
  rw [atZ_nat (by omega)]
  exact h6 j (by omega)
/-- the place of a pair of questions -/
theorem idx_lt {i k X Y : Int} (h0 : 0 ≤ i) (h1 : i < X) (h2 : 0 ≤ k) (h3 : k < Y) : 0 ≤ i * Y + k ∧ i * Y + k < X * Y ∧ 0 ≤ i * Y ∧ i * Y < X * Y := by
  have hY : 0 ≤ Y := by omega
  have a : 0 ≤ i * Y := Int.mul_nonneg h0 hY
  have b : (i + 1) * Y ≤ X * Y := Int.mul_le_mul_of_nonneg_right (by omega) hY
  rw [Int.add_mul, Int.one_mul] at b
  omega
theorem idx_ltN {i k X Y : Nat} (h1 : i < X) (h3 : k < Y) : Y * i + k < Y * X := by
  rw [Nat.mul_comm Y i, Nat.mul_comm Y X]
  have b : (i + 1) * Y ≤ X * Y := Nat.mul_le_mul_right _ (by omega)
  rw [Nat.add_mul, Nat.one_mul] at b
  omega
/-- the rows of a box told by a function of questions and place -/
def boxF (f : Nat → Nat → Nat → Int) (y n : Nat) : List (List Int) := (List.range n).map fun j => rowF (f (j / y) (j % y)) 4
@[simp] theorem boxF_len (f : Nat → Nat → Nat → Int) (y n : Nat) : (boxF f y n).length = n := by simp [boxF]
theorem boxF_snoc (f : Nat → Nat → Nat → Int) (y : Nat) (i k : Nat) (h : k < y) : boxF f y (y * i + (k + 1)) = boxF f y (y * i + k) ++ [rowF (f i k) 4] := by
  have e1 : (y * i + k) / y = i := by rw [Nat.mul_comm, Nat.add_comm, Nat.add_mul_div_right _ _ (by omega), Nat.div_eq_of_lt h, Nat.zero_add]
  have e2 : (y * i + k) % y = k := by rw [Nat.mul_comm, Nat.add_comm, Nat.add_mul_mod_self_right, Nat.mod_eq_of_lt h]
  simp [boxF, ← Nat.add_assoc, List.range_succ, e1, e2]
theorem boxF_congr {f g : Nat → Nat → Nat → Int} {x y : Nat} (h : ∀ i k p, i < x → k < y → p < 4 → f i k p = g i k p) : boxF f y (y * x) = boxF g y (y * x) := by
  unfold boxF
  refine List.map_congr_left fun j hj => ?_
  have hj := List.mem_range.1 hj
  by_cases hy : y = 0
  · subst hy; simp at hj
  · exact rowF_congr fun p hp => h _ _ _ (Nat.div_lt_of_lt_mul hj) (Nat.mod_lt _ (by omega)) hp
theorem cnt_boxF (f : Nat → Nat → Nat → Int) (y n : Nat) : cnt (boxF f y n) = n * 4 := by
  rw [cnt_len 4]
  · simp
  · intro l hl; unfold boxF at hl; obtain ⟨j, _, rfl⟩ := List.mem_map.1 hl; simp
theorem boxF_at {f : Nat → Nat → Nat → Int} {y n : Nat} {j : Nat} (h : j < n) : atZ (boxF f y n) (j : Int) = rowF (f (j / y) (j % y)) 4 := by
  rw [atZ_nat (by simpa using h)]; simp [boxF]
/-- a box's number -/
def atB (ll : List (List Int)) (Y i k p : Int) : Int := atZ (atZ ll (i * Y + k)) p

end Go.Proofs.Ytdnkmgbbkggmdaa

namespace Go.Proofs.Ytdnkmgbbkggmdaa
open Go.RowKit
open Go
/-! lists told by two lists of questions -/
def pairsF {α : Type} (h : Int → Int → α) (l m : List Int) : List α := l.flatMap fun x => m.map fun y => h x y
def pairsP {α : Type} (h : Int → Int → α) (l m : List Int) (i k : Nat) : List α := (pairsF h (l.take i) m) ++ ((m.take k).map fun y => h (atZ l i) y)
theorem pairsP_zero {α : Type} (h : Int → Int → α) (l m : List Int) : pairsP h l m 0 0 = [] := by simp [pairsP, pairsF]
theorem pairsP_snoc {α : Type} (h : Int → Int → α) (l m : List Int) (i : Nat) {k : Nat} (hk : k < m.length) : pairsP h l m i (k + 1) = pairsP h l m i k ++ [h (atZ l i) (atZ m k)] := by
  have e : m.take (k + 1) = m.take k ++ [m[k]] := List.take_succ_eq_append_getElem hk
  have e2 := atZ_nat hk
  unfold pairsP
  rw [e, e2, List.map_append, ← List.append_assoc]; rfl
theorem pairsP_row {α : Type} (h : Int → Int → α) (l m : List Int) {i : Nat} (hi : i < l.length) : pairsP h l m i m.length = pairsP h l m (i + 1) 0 := by
  have e : l.take (i + 1) = l.take i ++ [l[i]] := List.take_succ_eq_append_getElem hi
  have e2 := atZ_nat hi
  unfold pairsP pairsF
  rw [e, e2, List.flatMap_append, List.take_length]
  simp only [List.flatMap_cons, List.flatMap_nil, List.take_zero, List.map_nil, List.append_nil]
theorem pairsP_all {α : Type} (h : Int → Int → α) (l m : List Int) : pairsP h l m l.length 0 = pairsF h l m := by simp [pairsP]
theorem pairsF_len {α : Type} (h : Int → Int → α) : ∀ (l m : List Int), (pairsF h l m).length = l.length * m.length
  | [], m => by simp [pairsF]
  | x :: l, m => by
    have := pairsF_len h l m
    unfold pairsF at *
    rw [List.flatMap_cons, List.length_append, this, List.length_map, List.length_cons, Nat.add_mul]; omega
theorem pairsP_len {α : Type} (h : Int → Int → α) (l m : List Int) {i k : Nat} (hi : i ≤ l.length) (hk : k ≤ m.length) : (pairsP h l m i k).length = m.length * i + k := by
  unfold pairsP
  rw [Nat.mul_comm, List.length_append, pairsF_len, List.length_map, List.length_take, List.length_take, Nat.min_eq_left hi, Nat.min_eq_left hk]
theorem pairsF_congr {α : Type} {h g : Int → Int → α} {l m : List Int} (e : ∀ x ∈ l, ∀ y ∈ m, h x y = g x y) : pairsF h l m = pairsF g l m := by
  unfold pairsF
  induction l with
  | nil => rfl
  | cons x l ih =>
    rw [List.flatMap_cons, List.flatMap_cons, ih fun x hx y hy => e x (List.mem_cons_of_mem _ hx) y hy]
    congr 1
    exact List.map_congr_left fun y hy => e x (List.mem_cons_self ..) y hy
/-- the numbers less than n -/
def cntL (n : Nat) : List Int := (List.range n).map fun i : Nat => (i : Int)
@[simp] theorem cntL_len (n : Nat) : (cntL n).length = n := by simp [cntL]
theorem cntL_snoc (n : Nat) : cntL (n + 1) = cntL n ++ [(n : Int)] := by simp [cntL, List.range_succ]
theorem cntL_at {n i : Nat} (h : i < n) : atZ (cntL n) (i : Int) = i := by rw [atZ_nat (by simpa using h)]; simp [cntL]
theorem cntL_mem {n : Nat} {x : Int} (h : x ∈ cntL n) : 0 ≤ x ∧ x < n := by
  unfold cntL at h
  obtain ⟨i, hi, rfl⟩ := List.mem_map.1 h
  have := List.mem_range.1 hi; omega
/-! games -/
def totB (l : List Int) : Int := sum64 l
def gameB (x y : Int) (ws : List Int) (wi : List (List Int)) : Bool := sizeB x y && (decide ((ws.length : Int) = x * y) && (allB ws 0 99 && (decide (sum64 ws ≠ 0) && (decide ((wi.length : Int) = x * y) && wi.all (fun l => bitsB l 4)))))
structure GameOK (x y : Int) (ws : List Int) (wi : List (List Int)) : Prop where
  x1 : 1 ≤ x
  x3 : x ≤ 3
  y1 : 1 ≤ y
  y3 : y ≤ 3
  wl : (ws.length : Int) = x * y
  il : (wi.length : Int) = x * y
  wb : allB ws 0 99 = true
  s0 : sum64 ws ≠ 0
  row : ∀ q, (hq : q < wi.length) → bitsB wi[q] 4 = true
theorem gameB_spec {x y : Int} {ws : List Int} {wi : List (List Int)} (h : gameB x y ws wi = true) : GameOK x y ws wi := by
  simp only [gameB, Bool.and_eq_true, decide_eq_true_eq, List.all_eq_true] at h
  obtain ⟨h1, h2, h3, h4, h5, h6⟩ := h
  have a := sizeB_iff.1 h1
  exact ⟨a.1.1, a.1.2, a.2.1, a.2.2, h2, h5, h3, h4, fun q hq => h6 _ (List.getElem_mem hq)⟩
theorem sum64_small {l : List Int} {m : Int} (hl : l.length ≤ 1000) (hb : allB l 0 m = true) (hm : 0 ≤ m) (hm2 : m ≤ 1000000) : sum64 l = l.sum ∧ 0 ≤ l.sum ∧ l.sum ≤ l.length * m := by
  have key : ∀ (l : List Int) (s : Int), 0 ≤ s → (∀ x ∈ l, 0 ≤ x ∧ x ≤ m) → s + l.length * m ≤ 1000000000000 → l.foldl (fun s n => IntKind.i64.wrap (s + n)) s = s + l.sum ∧ 0 ≤ l.sum ∧ l.sum ≤ l.length * m := by
    intro l
    induction l with
    | nil => intro s _ _ _; simp
    | cons x l ih =>
      intro s h0 hx hs
      have h1 := hx x (List.mem_cons_self ..)
      simp only [List.length_cons, Int.natCast_add, Int.add_mul] at hs ⊢
      have h2 : 0 ≤ (l.length : Int) * m := Int.mul_nonneg (by omega) hm
      obtain ⟨e1, e2, e3⟩ := ih (s + x) (by omega) (fun y hy => hx y (List.mem_cons_of_mem _ hy)) (by simp at hs; omega)
      rw [List.foldl_cons, IntWalk.i64_in _ (by simp at hs; omega), e1, List.sum_cons]
      simp at hs ⊢; omega
  unfold allB at hb
  rw [List.all_eq_true] at hb
  have hlm : (l.length : Int) * m ≤ 1000 * 1000000 := Int.mul_le_mul (by omega) hm2 hm (by omega)
  have := key l 0 (by omega) (fun x hx => inB_iff.1 (hb x hx)) (by omega)
  unfold sum64; omega

theorem mem_atZ {α : Type} [Inhabited α] {l : List α} {i : Nat} (h : i < l.length) : atZ l (i : Int) ∈ l := by rw [atZ_nat h]; exact List.getElem_mem _
def whenA {α : Type} (b : Bool) (l : List α) : List α := if b = true then l else []
def xor4 (k : Nat) (m : Int) : Int := ((k ^^^ m.toNat : Nat) : Int)
theorem xor4_eq {k : Nat} {m : Int} (hk : k < 4) (h0 : 0 ≤ m) (h4 : m < 4) : bits .xor .i64 (k : Int) m = xor4 k m ∧ 0 ≤ xor4 k m ∧ xor4 k m < 4 := by
  rcases (by omega : k = 0 ∨ k = 1 ∨ k = 2 ∨ k = 3) with rfl | rfl | rfl | rfl <;> rcases (by omega : m = 0 ∨ m = 1 ∨ m = 2 ∨ m = 3) with rfl | rfl | rfl | rfl <;> exact ⟨rfl, by decide, by decide⟩
def flipOf (fl : List Int) (X x y : Int) : Int := 2 * atZ fl x + atZ fl (X + y)
/-- the weights and the wins that are asked for -/
def askW (Y : Int) (ws : List Int) (x y : Int) : Int := atZ ws (x * Y + y)
def askR (X Y : Int) (wi : List (List Int)) (fl : List Int) (x y : Int) : List Int := rowF (fun k => atZ (atZ wi (x * Y + y)) (xor4 k (flipOf fl X x y))) 4
@[simp] theorem askR_len (X Y : Int) (wi : List (List Int)) (fl : List Int) (x y : Int) : (askR X Y wi fl x y).length = 4 := by simp [askR]
theorem askR_get (X Y : Int) (wi : List (List Int)) (fl : List Int) (x y : Int) {p : Nat} (hp : p < (askR X Y wi fl x y).length) : (askR X Y wi fl x y)[p] = atZ (atZ wi (x * Y + y)) (xor4 p (flipOf fl X x y)) := by simp [askR, rowF]
theorem gameB_at {x y : Int} {ws : List Int} {wi : List (List Int)} (h : gameB x y ws wi = true) {q : Int} (h0 : 0 ≤ q) (h1 : q < x * y) : (0 ≤ atZ ws q ∧ atZ ws q ≤ 99) ∧ bitsB (atZ wi q) 4 = true := by
  have hg := gameB_spec h
  refine ⟨allB_at hg.wb h0 (by rw [hg.wl]; exact h1), ?_⟩
  obtain ⟨i, rfl⟩ := Int.eq_ofNat_of_zero_le h0
  have hi : i < wi.length := by have := hg.il; omega
  rw [atZ_nat hi]; exact hg.row i hi
theorem pairs_all {ws : List Int} {X Y : Nat} (h : ws.length = Y * X) : pairsF (askW Y ws) (cntL X) (cntL Y) = ws := by
  have e : pairsF (askW Y ws) (cntL X) (cntL Y) = (List.range (Y * X)).map fun j : Nat => atZ ws (j : Int) := by
    clear h
    induction X with
    | zero => simp [pairsF, cntL]
    | succ n ih =>
      unfold pairsF at ih ⊢
      rw [cntL_snoc, List.flatMap_append, ih, Nat.mul_succ, List.range_add, List.map_append, List.map_map]
      congr 1
      simp only [List.flatMap_cons, List.flatMap_nil, List.append_nil, cntL, List.map_map]
      refine List.map_congr_left fun k _ => ?_
      simp only [Function.comp, askW]
      congr 1
      rw [Int.natCast_add, Int.natCast_mul, Int.mul_comm]
  rw [e, ← h]
  refine List.ext_getElem (by simp) fun i h1 h2 => ?_
  simp [atZ_nat h2]
def flipB (X Y : Int) (ws : List Int) (wi : List (List Int)) (fl : List Int) : Bool := gameB X Y ws wi && bitsB fl (X + Y)
theorem flipB_spec {X Y : Int} {ws : List Int} {wi : List (List Int)} {fl : List Int} (h : flipB X Y ws wi fl = true) : 1 ≤ X ∧ X ≤ 3 ∧ 1 ≤ Y ∧ Y ≤ 3 := by
  simp only [flipB, Bool.and_eq_true] at h
  have := gameB_spec h.1
  exact ⟨this.x1, this.x3, this.y1, this.y3⟩
def flipR (X Y : Int) (wi : List (List Int)) (fl : List Int) : List (List Int) := pairsF (askR X Y wi fl) (cntL X.toNat) (cntL Y.toNat)
theorem pairs_allZ {ws : List Int} {X Y : Int} (h0 : 0 ≤ X) (h1 : 0 ≤ Y) (h : (ws.length : Int) = X * Y) : pairsF (askW Y ws) (cntL X.toNat) (cntL Y.toNat) = ws := by
  obtain ⟨x, rfl⟩ := Int.eq_ofNat_of_zero_le h0
  obtain ⟨y, rfl⟩ := Int.eq_ofNat_of_zero_le h1
  have e : ws.length = y * x := by rw [← Int.natCast_mul] at h; rw [Nat.mul_comm]; omega
  simpa using pairs_all e
theorem whenA_len {α : Type} (b : Bool) (l : List α) : (whenA b l).length ≤ l.length := by unfold whenA; split <;> simp
theorem cnt_pairs {h : Int → Int → List Int} {l m : List Int} (hr : ∀ x y, (h x y).length = 4) : cnt (pairsF h l m) = l.length * m.length * 4 := by
  rw [cnt_len 4, pairsF_len]
  intro r hr'
  unfold pairsF at hr'
  obtain ⟨x, _, hx⟩ := List.mem_flatMap.1 hr'
  obtain ⟨y, _, rfl⟩ := List.mem_map.1 hx
  exact hr x y
theorem cnt_flip (X Y : Int) (ws : List Int) (wi : List (List Int)) (fl : List Int) : cnt (whenL (flipB X Y ws wi fl) (flipR X Y wi fl)) ≤ 36 := by
  cases h : flipB X Y ws wi fl with
  | false => simp [whenL, cnt]
  | true =>
    have := flipB_spec h
    simp only [whenL, if_pos, flipR]
    rw [cnt_pairs (askR_len X Y wi fl), cntL_len, cntL_len]
    have h1 : X.toNat * Y.toNat ≤ 3 * 3 := Nat.mul_le_mul (by omega) (by omega)
    omega

end Go.Proofs.Ytdnkmgbbkggmdaa

namespace Go.Proofs.Ytdnkmgbbkggmdaa
open Go.RowKit
set_option linter.unusedSectionVars false
variable [Glb]
open Go
/-! lists of questions that are used -/
def putZ : List Int → Int → List Int
  | [], n => [n]
  | a :: l, n => if a < n then a :: putZ l n else if a = n then a :: l else n :: a :: l
theorem putZ_take : ∀ (l : List Int) (n : Int) (k : Nat), (∀ x ∈ l.take k, x < n) → putZ l n = l.take k ++ putZ (l.drop k) n
  | l, n, 0, _ => by simp
  | [], n, k + 1, _ => by simp [putZ]
  | a :: l, n, k + 1, h => by
    have h1 := h a (by simp)
    have ih := putZ_take l n k fun x hx => h x (by simp [hx])
    simp [putZ, h1, ih]
theorem putZ_end {l : List Int} {n : Int} (h : ∀ x ∈ l.take l.length, x < n) : putZ l n = l ++ [n] := by
  rw [putZ_take l n l.length h]; simp [putZ]
theorem putZ_eq {l : List Int} {n : Int} {k : Nat} (hk : k < l.length) (h : ∀ x ∈ l.take k, x < n) (e : l[k] = n) : putZ l n = l := by
  rw [putZ_take l n k h, List.drop_eq_getElem_cons hk]
  simp only [putZ, e, Int.lt_irrefl, if_false, if_true]
  rw [← e, ← List.drop_eq_getElem_cons hk, List.take_append_drop]
theorem putZ_mid {l : List Int} {n : Int} {k : Nat} (hk : k < l.length) (h : ∀ x ∈ l.take k, x < n) (h1 : ¬ l[k] < n) (e : ¬ l[k] = n) : putZ l n = l.take k ++ [n] ++ l.drop k := by
  rw [putZ_take l n k h, List.drop_eq_getElem_cons hk]
  simp [putZ, h1, e]
theorem putZ_le (l : List Int) (n : Int) : (putZ l n).length ≤ l.length + 1 := by
  induction l with
  | nil => simp [putZ]
  | cons a l ih => simp only [putZ]; split; (· simp; omega); split <;> simp
def usedL (n : Nat) (p : Nat → Bool) : List Int := ((List.range n).filter p).map fun i : Nat => (i : Int)
theorem usedL_len (n : Nat) (p : Nat → Bool) : (usedL n p).length ≤ n := by
  unfold usedL; rw [List.length_map]; exact Nat.le_trans (List.length_filter_le _ _) (by simp)
theorem usedL_succ (n : Nat) (p : Nat → Bool) : usedL (n + 1) p = if p n = true then usedL n p ++ [(n : Int)] else usedL n p := by
  unfold usedL; rw [List.range_succ, List.filter_append]
  by_cases h : p n = true <;> simp [List.filter, h]
theorem usedL_mem {n : Nat} {p : Nat → Bool} {x : Int} (h : x ∈ usedL n p) : 0 ≤ x ∧ x < n := by
  unfold usedL at h
  obtain ⟨i, hi, rfl⟩ := List.mem_map.1 h
  have := List.mem_range.1 (List.mem_filter.1 hi).1; omega
theorem usedL_congr {n : Nat} {p q : Nat → Bool} (h : ∀ i, i < n → p i = q i) : usedL n p = usedL n q := by
  unfold usedL
  rw [List.filter_congr fun i hi => h i (List.mem_range.1 hi)]
theorem usedL_put {n : Nat} (hn : n ≤ 3) (p : Nat → Bool) {v : Nat} (hv : v < n) : putZ (usedL n p) v = usedL n (fun i => p i || decide (i = v)) := by
  have e : ∀ q : Nat → Bool, usedL n q = (if 0 < n ∧ q 0 = true then [0] else []) ++ ((if 1 < n ∧ q 1 = true then [1] else []) ++ (if 2 < n ∧ q 2 = true then [2] else [])) := fun q => by
    rcases (by omega : n = 1 ∨ n = 2 ∨ n = 3) with rfl | rfl | rfl <;> cases h0 : q 0 <;> cases h1 : q 1 <;> cases h2 : q 2 <;> simp [usedL, List.range, List.range.loop, List.filter, h0, h1, h2]
  rw [e, e]
  rcases (by omega : (n = 1 ∨ n = 2 ∨ n = 3)) with rfl | rfl | rfl <;> rcases (by omega : v = 0 ∨ v = 1 ∨ v = 2) with rfl | rfl | rfl <;> (first | (exfalso; omega) | skip) <;> cases h0 : p 0 <;> cases h1 : p 1 <;> cases h2 : p 2 <;> simp [putZ, h0, h1, h2]
/-- a row, or a column, that has a weight -/
def rowU (ws : List Int) (Y : Nat) (x : Nat) : Bool := (List.range Y).any fun y => decide (atZ ws ((x : Int) * Y + y) ≠ 0)
def colU (ws : List Int) (X Y : Nat) (y : Nat) : Bool := (List.range X).any fun x => decide (atZ ws ((x : Int) * Y + y) ≠ 0)
def colS (ws : List Int) (Y : Nat) (y : Nat) : Nat → Int
  | 0 => 0
  | x + 1 => colS ws Y y x + atZ ws ((x : Int) * Y + y)
theorem colS_bd {ws : List Int} {Y y : Nat} : ∀ {X : Nat}, (∀ x, x < X → 0 ≤ atZ ws ((x : Int) * Y + y) ∧ atZ ws ((x : Int) * Y + y) ≤ 99) → 0 ≤ colS ws Y y X ∧ colS ws Y y X ≤ 99 * X ∧ decide (0 < colS ws Y y X) = colU ws X Y y
  | 0, _ => by simp [colS, colU]
  | X + 1, h => by
    obtain ⟨a, b, c⟩ := colS_bd (X := X) fun x hx => h x (by omega)
    have d := h X (by omega)
    refine ⟨by simp only [colS]; omega, by simp only [colS]; omega, ?_⟩
    have e : colU ws (X + 1) Y y = (colU ws X Y y || decide (atZ ws ((X : Int) * Y + y) ≠ 0)) := by simp [colU, List.range_succ]
    rw [e, ← c]
    by_cases hz : atZ ws ((X : Int) * Y + y) = 0
    · simp [colS, hz]
    · have : 0 < colS ws Y y X + atZ ws ((X : Int) * Y + y) := by omega
      simp [colS, hz, this]
theorem sum_pos : ∀ {l : List Int}, (∀ x ∈ l, 0 ≤ x) → 0 ≤ l.sum ∧ decide (0 < l.sum) = l.any fun x => decide (x ≠ 0)
  | [], _ => by simp
  | a :: l, h => by
    obtain ⟨h1, h2⟩ := sum_pos (l := l) fun x hx => h x (by simp [hx])
    have h3 := h a (by simp)
    refine ⟨by simp; omega, ?_⟩
    rw [List.any_cons, ← h2]
    by_cases hz : a = 0
    · simp [hz]
    · have : 0 < a + l.sum := by omega
      simp [hz, this]
theorem row_pos {ws : List Int} {X Y x : Nat} (hl : ws.length = X * Y) (hb : allB ws 0 99 = true) (hx : x < X) (hs : X * Y ≤ 9) : decide (0 < sum64 (partZ ws ((x : Int) * Y) (((x : Int) + 1) * Y))) = rowU ws Y x := by
  have e1 : ((x : Int) * Y).toNat = x * Y := by rw [← Int.natCast_mul, Int.toNat_natCast]
  have e2 : (((x : Int) + 1) * Y).toNat = (x + 1) * Y := by rw [show ((x : Int) + 1) = ((x + 1 : Nat) : Int) by omega, ← Int.natCast_mul, Int.toNat_natCast]
  have h3 : (x + 1) * Y ≤ X * Y := Nat.mul_le_mul_right _ hx
  have h4 : (x + 1) * Y = x * Y + Y := Nat.succ_mul x Y
  unfold partZ
  rw [e1, e2]
  have hmem : ∀ z ∈ (ws.drop (x * Y)).take ((x + 1) * Y - x * Y), 0 ≤ z ∧ z ≤ 99 := fun z hz => by
    unfold allB at hb; rw [List.all_eq_true] at hb
    exact inB_iff.1 (hb z (List.mem_of_mem_drop (List.mem_of_mem_take hz)))
  have hall : allB ((ws.drop (x * Y)).take ((x + 1) * Y - x * Y)) 0 99 = true := by unfold allB; rw [List.all_eq_true]; exact fun z hz => inB_iff.2 (hmem z hz)
  rw [(sum64_small (l := (ws.drop (x * Y)).take ((x + 1) * Y - x * Y)) (m := 99) (by simp; omega) hall (by omega) (by omega)).1]
  rw [(sum_pos fun z hz => (hmem z hz).1).2]
  have e : (ws.drop (x * Y)).take ((x + 1) * Y - x * Y) = (List.range Y).map fun y : Nat => atZ ws ((x : Int) * Y + y) := by
    refine List.ext_getElem (by simp; omega) fun i h1 h2 => ?_
    have hi : i < Y := by simpa using h2
    simp only [List.getElem_take, List.getElem_drop, List.getElem_map, List.getElem_range]
    rw [← Int.natCast_mul, ← Int.natCast_add, atZ_nat (by omega)]
  rw [e, List.any_map]; rfl
/-- what has been seen of the weights -/
def seenU (ws : List Int) (key : Nat → Nat) (i : Nat) (v : Nat) : Bool := (List.range i).any fun j => decide (atZ ws (j : Int) ≠ 0) && decide (key j = v)
theorem seenU_succ (ws : List Int) (key : Nat → Nat) (i : Nat) (v : Nat) : seenU ws key (i + 1) v = (seenU ws key i v || (decide (atZ ws (i : Int) ≠ 0) && decide (key i = v))) := by simp [seenU, List.range_succ]
theorem seen_row {ws : List Int} {X Y : Nat} {v : Nat} (hv : v < X) : seenU ws (· / Y) (X * Y) v = rowU ws Y v := by
  rw [Bool.eq_iff_iff]
  simp only [seenU, rowU, List.any_eq_true, List.mem_range, Bool.and_eq_true, decide_eq_true_eq]
  constructor
  · rintro ⟨j, hj, h0, rfl⟩
    have hY : 0 < Y := Nat.pos_of_ne_zero fun e => by subst e; simp at hj
    refine ⟨j % Y, Nat.mod_lt _ hY, ?_⟩
    rw [← Int.natCast_mul, ← Int.natCast_add, Nat.mul_comm, Nat.div_add_mod]; exact h0
  · rintro ⟨y, hy, h0⟩
    refine ⟨v * Y + y, ?_, ?_, ?_⟩
    · have : (v + 1) * Y ≤ X * Y := Nat.mul_le_mul_right _ hv
      rw [Nat.succ_mul] at this; omega
    · rw [Int.natCast_add, Int.natCast_mul]; exact h0
    · rw [Nat.add_comm, Nat.add_mul_div_right _ _ (by omega), Nat.div_eq_of_lt hy, Nat.zero_add]
theorem seen_col {ws : List Int} {X Y : Nat} {v : Nat} (hv : v < Y) : seenU ws (· % Y) (X * Y) v = colU ws X Y v := by
  rw [Bool.eq_iff_iff]
  simp only [seenU, colU, List.any_eq_true, List.mem_range, Bool.and_eq_true, decide_eq_true_eq]
  constructor
  · rintro ⟨j, hj, h0, rfl⟩
    refine ⟨j / Y, Nat.div_lt_of_lt_mul (by rw [Nat.mul_comm]; exact hj), ?_⟩
    rw [← Int.natCast_mul, ← Int.natCast_add, Nat.mul_comm, Nat.div_add_mod]; exact h0
  · rintro ⟨x, hx, h0⟩
    refine ⟨x * Y + v, ?_, ?_, ?_⟩
    · have : (x + 1) * Y ≤ X * Y := Nat.mul_le_mul_right _ hx
      rw [Nat.succ_mul] at this; omega
    · rw [Int.natCast_add, Int.natCast_mul]; exact h0
    · rw [Nat.add_comm, Nat.add_mul_mod_self_right, Nat.mod_eq_of_lt hv]
theorem used_zero (n : Nat) (ws : List Int) (key : Nat → Nat) : usedL n (seenU ws key 0) = [] := by simp [usedL, seenU]
theorem used_skip {n : Nat} {ws : List Int} {key : Nat → Nat} {i : Nat} (h : atZ ws (i : Int) = 0) : usedL n (seenU ws key (i + 1)) = usedL n (seenU ws key i) := usedL_congr fun v _ => by rw [seenU_succ]; simp [h]
theorem used_put {n : Nat} {ws : List Int} {key : Nat → Nat} {i : Nat} (hn : n ≤ 3) (hk : key i < n) (h : ¬ atZ ws (i : Int) = 0) : putZ (usedL n (seenU ws key i)) (key i : Nat) = usedL n (seenU ws key (i + 1)) := by
  rw [usedL_put hn _ hk]
  exact usedL_congr fun v _ => by rw [seenU_succ]; simp [h, eq_comm]
/-! a game with some of its questions -/
def askO (Y : Int) (wi : List (List Int)) (x y : Int) : List Int := atZ wi (x * Y + y)
def zerosL (n : Nat) : List Int := List.replicate n 0
@[simp] theorem zerosL_len (n : Nat) : (zerosL n).length = n := by simp [zerosL]
theorem zerosL_bits (n : Nat) : bitsB (zerosL n) n = true := by simp [bitsB, allB, zerosL, inB]
theorem zerosL_at (n : Nat) (i : Int) : atZ (zerosL n) i = 0 := by
  unfold atZ zerosL
  rw [List.getD_eq_getElem?_getD, List.getElem?_replicate]
  split <;> rfl
theorem rowF_self {l : List Int} (h : l.length = 4) : rowF (fun k : Nat => atZ l (k : Int)) 4 = l := by
  refine List.ext_getElem (by simp [h]) fun i h1 h2 => ?_
  simp [rowF, atZ_nat h2]
theorem ask_same {X Y : Int} {ws : List Int} {wi : List (List Int)} (h : gameB X Y ws wi = true) {fs ss : List Int} (hf : ∀ x ∈ fs, 0 ≤ x ∧ x < X) (hs : ∀ y ∈ ss, 0 ≤ y ∧ y < Y) (n : Nat) : pairsF (askR X Y wi (zerosL n)) fs ss = pairsF (askO Y wi) fs ss := by
  refine pairsF_congr fun x hx y hy => ?_
  have a := hf x hx
  have b := hs y hy
  have ix := idx_lt a.1 a.2 b.1 b.2
  have hl := bitsB_len (gameB_at h ix.1 ix.2.1).2
  unfold askR askO flipOf
  rw [zerosL_at, zerosL_at]
  simp only [xor4]
  simpa using rowF_self (l := atZ wi (x * Y + y)) (by omega)
def trim1 (X Y : Int) (ws : List Int) : List Int := usedL X.toNat (rowU ws Y.toNat)
def trim2 (X Y : Int) (ws : List Int) : List Int := usedL Y.toNat (colU ws X.toNat Y.toNat)
theorem trim1_mem {X Y : Int} {ws : List Int} (hX : 0 ≤ X) {x : Int} (h : x ∈ trim1 X Y ws) : 0 ≤ x ∧ x < X := by have := usedL_mem h; omega
theorem trim2_mem {X Y : Int} {ws : List Int} (hY : 0 ≤ Y) {x : Int} (h : x ∈ trim2 X Y ws) : 0 ≤ x ∧ x < Y := by have := usedL_mem h; omega
theorem trim1_len (X Y : Int) (ws : List Int) : (trim1 X Y ws).length ≤ X.toNat := usedL_len _ _
theorem trim2_len (X Y : Int) (ws : List Int) : (trim2 X Y ws).length ≤ Y.toNat := usedL_len _ _
def trimW (X Y : Int) (ws : List Int) : List Int := pairsF (askW Y ws) (trim1 X Y ws) (trim2 X Y ws)
def trimR (X Y : Int) (ws : List Int) (wi : List (List Int)) : List (List Int) := pairsF (askO Y wi) (trim1 X Y ws) (trim2 X Y ws)
theorem trimW_len (X Y : Int) (ws : List Int) (wi : List (List Int)) : (whenA (gameB X Y ws wi) (trimW X Y ws)).length ≤ 9 := by
  cases h : gameB X Y ws wi with
  | false => simp [whenA]
  | true =>
    have hg := gameB_spec h
    have g2 := hg.x3; have g4 := hg.y3
    have l1 := trim1_len X Y ws
    have l2 := trim2_len X Y ws
    simp only [whenA, if_pos, trimW, pairsF_len]
    exact Nat.le_trans (Nat.mul_le_mul (by omega : _ ≤ 3) (by omega : _ ≤ 3)) (by decide)
theorem trimR_cnt (X Y : Int) (ws : List Int) (wi : List (List Int)) : cnt (whenL (gameB X Y ws wi) (trimR X Y ws wi)) ≤ 36 := by
  cases h : gameB X Y ws wi with
  | false => simp [whenL, cnt]
  | true =>
    have hg := gameB_spec h
    have g1 := hg.x1; have g2 := hg.x3; have g3 := hg.y1; have g4 := hg.y3
    have l1 := trim1_len X Y ws
    have l2 := trim2_len X Y ws
    have hs := ask_same h (fs := trim1 X Y ws) (ss := trim2 X Y ws) (fun x hx => trim1_mem (by omega) hx) (fun x hx => trim2_mem (by omega) hx) 0
    simp only [whenL, if_pos, trimR, ← hs]
    rw [cnt_pairs (askR_len X Y wi _)]
    have := Nat.mul_le_mul (by omega : (trim1 X Y ws).length ≤ 3) (by omega : (trim2 X Y ws).length ≤ 3)
    omega

end Go.Proofs.Ytdnkmgbbkggmdaa

namespace Go.Proofs.Ytdnkmgbbkggmdaa
open Go.RowKit
set_option linter.unusedSectionVars false
variable [Glb]
open Go
/-! orders -/
def orderB (l : List Int) (n : Int) : Bool := ((cntL n.toNat).all fun i => l.contains i) && decide ((l.length : Int) = n)
theorem perm_of_all : ∀ {n : Nat} {l : List Int}, l.length = n → (∀ i : Nat, i < n → (i : Int) ∈ l) → l.Perm (cntL n)
  | 0, l, h, _ => by
    have : l = [] := List.length_eq_zero_iff.1 h
    subst this; exact .refl _
  | n + 1, l, h, hm => by
    have hn := hm n (by omega)
    have h1 := List.perm_cons_erase hn
    have hl : (l.erase (n : Int)).length = n := by rw [List.length_erase_of_mem hn]; omega
    have ih := perm_of_all hl fun i hi => (List.mem_erase_of_ne (by omega)).2 (hm i (by omega))
    rw [cntL_snoc]
    exact h1.trans ((ih.cons _).trans (List.perm_append_comm (l₁ := [(n : Int)]) (l₂ := cntL n)))
theorem cntL_has {n i : Nat} (h : i < n) : (i : Int) ∈ cntL n := by unfold cntL; exact List.mem_map.2 ⟨i, List.mem_range.2 h, rfl⟩
theorem orderB_perm {l : List Int} {n : Int} (hn : 0 ≤ n) : orderB l n = true ↔ l.Perm (cntL n.toNat) := by
  simp only [orderB, Bool.and_eq_true, decide_eq_true_eq, List.all_eq_true, List.contains_iff_mem]
  constructor
  · rintro ⟨h1, h2⟩
    exact perm_of_all (by omega) fun i hi => h1 _ (cntL_has hi)
  · intro h
    have := h.length_eq
    rw [cntL_len] at this
    exact ⟨fun i hi => h.mem_iff.2 hi, by omega⟩
theorem orderB_mem {l : List Int} {n : Int} (hn : 0 ≤ n) (h : orderB l n = true) {x : Int} (hx : x ∈ l) : 0 ≤ x ∧ x < n := by
  have := cntL_mem (((orderB_perm hn).1 h).mem_iff.1 hx)
  omega
theorem orderB_len {l : List Int} {n : Int} (h : orderB l n = true) : (l.length : Int) = n := by
  simp only [orderB, Bool.and_eq_true, decide_eq_true_eq] at h; exact h.2
theorem eq_of_perm_le : ∀ {a b : List Int}, a.Perm b → a.Pairwise (fun x y => decide (x ≤ y) = true) → b.Pairwise (fun x y => decide (x ≤ y) = true) → a = b
  | [], b, h, _, _ => by rw [List.nil_perm] at h; exact h.symm
  | x :: a, [], h, _, _ => by have := h.length_eq; simp at this
  | x :: a, y :: b, h, h1, h2 => by
    rw [List.pairwise_cons] at h1 h2
    have e : x = y := by
      have hx : x ∈ y :: b := h.mem_iff.1 (List.mem_cons_self ..)
      have hy : y ∈ x :: a := h.mem_iff.2 (List.mem_cons_self ..)
      rcases List.mem_cons.1 hx with e | hx
      · exact e
      · rcases List.mem_cons.1 hy with e | hy
        · exact e.symm
        · have g1 := h2.1 x hx
          have g2 := h1.1 y hy
          simp only [decide_eq_true_eq] at g1 g2
          omega
    subst e
    rw [eq_of_perm_le ((List.perm_cons x).1 h) h1.2 h2.2]
theorem cntL_sorted (n : Nat) : (cntL n).Pairwise (fun x y => decide (x ≤ y) = true) := by
  unfold cntL
  rw [List.pairwise_map]
  exact List.pairwise_lt_range.imp fun h => by simp only [decide_eq_true_eq]; omega
theorem sorted_le (l : List Int) : (l.mergeSort fun x y => decide (x ≤ y)).Pairwise (fun x y => decide (x ≤ y) = true) :=
  List.pairwise_mergeSort (fun a b c h1 h2 => by simp only [decide_eq_true_eq] at *; omega) (fun a b => by simp only [Bool.or_eq_true, decide_eq_true_eq]; omega) l
theorem order_sort {l : List Int} {n : Int} (hn : 0 ≤ n) : decide ((l.mergeSort fun x y => decide (x ≤ y)) = cntL n.toNat) = orderB l n := by
  rw [Bool.eq_iff_iff, decide_eq_true_eq, orderB_perm hn]
  constructor
  · intro h
    have := List.mergeSort_perm l fun x y => decide (x ≤ y)
    rw [h] at this; exact this.symm
  · intro h
    exact eq_of_perm_le ((List.mergeSort_perm l _).trans h) (sorted_le l) (cntL_sorted _)
def askB (X Y : Int) (ws : List Int) (wi : List (List Int)) (fs ss : List Int) : Bool := gameB X Y ws wi && (orderB fs X && orderB ss Y)
def askGW (Y : Int) (ws fs ss : List Int) : List Int := pairsF (askW Y ws) fs ss
def askGR (Y : Int) (wi : List (List Int)) (fs ss : List Int) : List (List Int) := pairsF (askO Y wi) fs ss
theorem askGW_len (X Y : Int) (ws : List Int) (wi : List (List Int)) (fs ss : List Int) : (whenA (askB X Y ws wi fs ss) (askGW Y ws fs ss)).length ≤ 9 := by
  cases h : askB X Y ws wi fs ss with
  | false => simp [whenA]
  | true =>
    simp only [askB, Bool.and_eq_true] at h
    have hg := gameB_spec h.1
    have g2 := hg.x3; have g4 := hg.y3
    have l1 := orderB_len h.2.1
    have l2 := orderB_len h.2.2
    simp only [whenA, if_pos, askGW, pairsF_len]
    exact Nat.le_trans (Nat.mul_le_mul (by omega : _ ≤ 3) (by omega : _ ≤ 3)) (by decide)
theorem askGR_cnt (X Y : Int) (ws : List Int) (wi : List (List Int)) (fs ss : List Int) : cnt (whenL (askB X Y ws wi fs ss) (askGR Y wi fs ss)) ≤ 36 := by
  cases h : askB X Y ws wi fs ss with
  | false => simp [whenL, cnt]
  | true =>
    simp only [askB, Bool.and_eq_true] at h
    have hg := gameB_spec h.1
    have g1 := hg.x1; have g2 := hg.x3; have g3 := hg.y1; have g4 := hg.y3
    have l1 := orderB_len h.2.1
    have l2 := orderB_len h.2.2
    have hs := ask_same h.1 (fs := fs) (ss := ss) (fun x hx => orderB_mem (by omega) h.2.1 hx) (fun x hx => orderB_mem (by omega) h.2.2 hx) 0
    simp only [whenL, if_pos, askGR, ← hs]
    rw [cnt_pairs (askR_len X Y wi _)]
    have := Nat.mul_le_mul (by omega : fs.length ≤ 3) (by omega : ss.length ≤ 3)
    omega

end Go.Proofs.Ytdnkmgbbkggmdaa

namespace Go.Proofs.Ytdnkmgbbkggmdaa
open Go.RowKit
set_option linter.unusedSectionVars false
variable [Glb]
set_option maxRecDepth 10000
set_option maxHeartbeats 4000000
open Go.Shelf Go.Proofs
def Try.lays189_ren_slices_Sort_intslices_Sort_int_none : Go.Shelf.Ren := ⟨fun | 189 => 64 | 125 => 71 | 257 => 70 | 128 => 86 | 129 => 87 | 294 => 77 | 295 => 78 | 296 => 79 | 297 => 80 | 298 => 81 | 299 => 82 | 216 => 83 | 300 => 84 | 301 => 85 | 328 => 93 | 329 => 94 | 330 => 95 | 331 => 96 | 332 => 97 | 215 => 98 | 343 => 100 | n => n, fun | 28 => 29 | 3 => 3 | 46 => 76 | 0 => 0 | 51 => 92 | 53 => 94 | 4 => 4 | 183 => 86 | 182 => 85 | 131 => 89 | 5 => 5 | 9 => 9 | 218 => 99 | 222 => 103 | 228 => 105 | 229 => 106 | n => n, fun | n => n⟩
theorem Try.lays189_slices_Sort_intslices_Sort_int_none : Go.Proofs.Lays.n189 Try.prog Try.lays189_ren_slices_Sort_intslices_Sort_int_none := {
  mixed := by kernel_rfl
  f125 := Try.func71.trans (congrArg some (by kernel_rfl))
  f128 := Try.func86.trans (congrArg some (by kernel_rfl))
  f129 := Try.func87.trans (congrArg some (by kernel_rfl))
  f189 := Try.func64.trans (congrArg some (by kernel_rfl))
  f215 := Try.func98.trans (congrArg some (by kernel_rfl))
  f216 := Try.func83.trans (congrArg some (by kernel_rfl))
  f257 := Try.func70.trans (congrArg some (by kernel_rfl))
  f294 := Try.func77.trans (congrArg some (by kernel_rfl))
  f295 := Try.func78.trans (congrArg some (by kernel_rfl))
  f296 := Try.func79.trans (congrArg some (by kernel_rfl))
  f297 := Try.func80.trans (congrArg some (by kernel_rfl))
  f298 := Try.func81.trans (congrArg some (by kernel_rfl))
  f299 := Try.func82.trans (congrArg some (by kernel_rfl))
  f300 := Try.func84.trans (congrArg some (by kernel_rfl))
  f301 := Try.func85.trans (congrArg some (by kernel_rfl))
  f328 := Try.func93.trans (congrArg some (by kernel_rfl))
  f329 := Try.func94.trans (congrArg some (by kernel_rfl))
  f330 := Try.func95.trans (congrArg some (by kernel_rfl))
  f331 := Try.func96.trans (congrArg some (by kernel_rfl))
  f332 := Try.func97.trans (congrArg some (by kernel_rfl))
  f343 := Try.func100.trans (congrArg some (by kernel_rfl))
  t0 := Try.underlying0
  a0 := Try.isAgg0
  z0 := Try.sizeOf0
  v0 := Try.zeroValue0
  t3 := Try.underlying3
  a3 := Try.isAgg3
  z3 := Try.sizeOf3
  v3 := Try.zeroValue3
  t4 := Try.underlying4
  a4 := Try.isAgg4
  z4 := Try.sizeOf4
  v4 := Try.zeroValue4
  t5 := Try.underlying5
  a5 := Try.isAgg5
  z5 := Try.sizeOf5
  v5 := Try.zeroValue5
  t9 := Try.underlying9
  a9 := Try.isAgg9
  z9 := Try.sizeOf9
  v9 := Try.zeroValue9
  t28 := Try.underlying29
  a28 := Try.isAgg29
  z28 := Try.sizeOf29
  v28 := Try.zeroValue29
  t46 := Try.underlying76
  a46 := Try.isAgg76
  z46 := Try.sizeOf76
  v46 := Try.zeroValue76
  t51 := Try.underlying92
  a51 := Try.isAgg92
  z51 := Try.sizeOf92
  v51 := Try.zeroValue92
  t53 := Try.underlying94
  a53 := Try.isAgg94
  z53 := Try.sizeOf94
  v53 := Try.zeroValue94
  t131 := Try.underlying89
  a131 := Try.isAgg89
  z131 := Try.sizeOf89
  v131 := Try.zeroValue89
  t182 := Try.underlying85
  a182 := Try.isAgg85
  z182 := Try.sizeOf85
  v182 := Try.zeroValue85
  t183 := Try.underlying86
  a183 := Try.isAgg86
  z183 := Try.sizeOf86
  v183 := Try.zeroValue86
  t218 := Try.underlying99
  a218 := Try.isAgg99
  z218 := Try.sizeOf99
  v218 := Try.zeroValue99
  t222 := Try.underlying103
  a222 := Try.isAgg103
  z222 := Try.sizeOf103
  v222 := Try.zeroValue103
  t228 := Try.underlying105
  a228 := Try.isAgg105
  z228 := Try.sizeOf105
  v228 := Try.zeroValue105
  t229 := Try.underlying106
  a229 := Try.isAgg106
  z229 := Try.sizeOf106
  v229 := Try.zeroValue106 }
open Go.Sort Go.RowKit in
theorem Try.slices_Sort_int (blk off cap : Nat) (zs : List Int) (w : World) (hH : Holds (Value.int .i64) w blk off zs.toArray) (hblk : blk < w.heap.size) (hsz : zs.length < 4611686018427387904) :
    Calls Try.prog 64 #[.slice (some ⟨blk, off, none⟩) zs.length cap] w fun e w' =>
      e = .returned (.tuple #[]) ∧ ∃ n os, w' = grow (putRow (Value.int .i64) (Sort.ahead w n) blk off (zs.mergeSort fun x y => decide (x ≤ y)).toArray) os := Any.slices_Sort_int Try.lays189_slices_Sort_intslices_Sort_int_none blk off cap zs w hH hblk hsz
open Go.RowKit Go.Sort in
theorem Try.slices_Sort_int_none (p : Option Addr) (cap : Nat) (w : World) :
    Calls Try.prog 64 #[.slice p 0 cap] w fun e w' => e = .returned (.tuple #[]) ∧ w' = w := Any.slices_Sort_int_none Try.lays189_slices_Sort_intslices_Sort_int_none p cap w

end Go.Proofs.Ytdnkmgbbkggmdaa

namespace Go.Proofs.Ytdnkmgbbkggmdaa
open Go.RowKit
set_option linter.unusedSectionVars false
variable [Glb]
set_option maxRecDepth 10000
set_option maxHeartbeats 4000000
theorem put_at {w : World} {g : Nat} {cs : Array Value} {E : TypeId} (d : Array Int) (hg : w.heap[g]? = some (.cells cs E (0, 0))) : (Go.Sort.putRow (Value.int .i64) w g 0 d).heap[g]? = some (.cells (Go.Sort.putCells (Value.int .i64) 0 d cs) E (0, 0)) := by
  unfold Go.Sort.putRow Go.Sort.mapBlock
  simp [Array.getElem?_modify, hg, Go.Sort.onCells]
theorem put_ne {w : World} {g k : Nat} (d : Array Int) (h : k ≠ g) : (Go.Sort.putRow (Value.int .i64) w g 0 d).heap[k]? = w.heap[k]? := by
  unfold Go.Sort.putRow Go.Sort.mapBlock
  simp [Array.getElem?_modify, Ne.symm h]
theorem put_size {w : World} {g : Nat} (d : Array Int) : (Go.Sort.putRow (Value.int .i64) w g 0 d).heap.size = w.heap.size := by
  unfold Go.Sort.putRow Go.Sort.mapBlock
  simp
theorem sort_n (l : List Int) (hl : l.length ≤ 100000000) : PN Try.prog 64 [.c (eI l)] [eI (l.mergeSort fun x y => decide (x ≤ y))] := by
  refine ⟨Go.Proofs.enters_of Try.func64 (by kernel_rfl) rfl, fun x hx e => ?_, fun w us Fs ho hnd ok gl => ?_⟩
  · simp at hx; subst hx; cases e
  · have ho' : OwC w us [eI l] Fs := ho
    cases ho' with
    | cons h t =>
      cases t
      rename_i v F
      obtain ⟨S, hS⟩ : ∃ S, S = l.mergeSort fun x y => decide (x ≤ y) := ⟨_, rfl⟩
      have hSl : S.length = l.length := by rw [hS, List.length_mergeSort]
      have hv : asmL [RP.c (eI l)] [v] = [v] := rfl
      rw [hv, ← hS]
      obtain ⟨x, hx⟩ : ∃ x, x = eI l := ⟨_, rfl⟩
      rw [← hx] at h
      cases h with
      | lit v h => cases hx
      | any v h => cases hx
      | nil sz hz =>
        simp only [eI, D.sl.injEq] at hx
        have hl0 : l = [] := List.length_eq_zero_iff.1 hx.2.1.symm
        have hS0 : S = [] := List.length_eq_zero_iff.1 (by rw [hSl, hl0]; rfl)
        refine Calls.mono (Try.slices_Sort_int_none none 0 w) ?_
        rintro e w' ⟨rfl, rfl⟩
        rw [hS0]
        exact ⟨[[]], rfl, .cons (.nil 1 (by decide)) .nil, by simp, fun g hg => by simp at hg, .refl _ _⟩
      | sl g n cap sz E cs ds us Fs hn hz hle hg hnc hcap hc hr =>
        simp only [eI, D.sl.injEq] at hx
        obtain ⟨rfl, rfl, rfl⟩ := hx
        simp only [List.length_map, Nat.mul_one] at hn hcap hc hr
        have hcell : ∀ j (hj : j < l.length), cs[j]? = some (.int .i64 l[j]) := fun j hj => by
          have h1 := hc j (by simpa using hj)
          have h2 := hr j (by simpa using hj)
          rw [List.getElem_map] at h2
          have : us j = .int .i64 l[j] := by
            generalize us j = u at h2
            generalize Fs j = F at h2
            cases h2; rfl
          rw [h1, this]
        have hH : Go.Sort.Holds (Value.int .i64) w g 0 l.toArray := fun j hj => by
          have hj' : j < l.length := by simpa using hj
          refine ⟨?_, ?_⟩
          · rw [Nat.zero_add, cell_of_row w g j cs E (0, 0) hg, hcell j hj']
            simp [hj']
          · simp [World.frozen?, hg]
        have hlt := (Array.getElem?_eq_some_iff.1 hg).1
        refine Calls.mono (Try.slices_Sort_int g 0 cap l w hH hlt (by omega)) ?_
        rintro e w' ⟨rfl, m, os, rfl⟩
        rw [← hS]
        have hg2 : (Go.Sort.grow (Go.Sort.putRow (Value.int .i64) (Go.Sort.ahead w m) g 0 S.toArray) os).heap[g]? = some (.cells (Go.Sort.putCells (Value.int .i64) 0 S.toArray cs) E (0, 0)) := by
          have h1 := put_at (w := Go.Sort.ahead w m) S.toArray hg
          unfold Go.Sort.grow
          rw [Array.getElem?_append_left (by rw [put_size]; exact hlt)]
          exact h1
        have hother : ∀ k, k ≠ g → k < w.heap.size → (Go.Sort.grow (Go.Sort.putRow (Value.int .i64) (Go.Sort.ahead w m) g 0 S.toArray) os).heap[k]? = w.heap[k]? := fun k hk hlt => by
          have h1 := put_ne (w := Go.Sort.ahead w m) S.toArray hk
          unfold Go.Sort.grow
          rw [Array.getElem?_append_left (by rw [put_size]; exact hlt)]
          exact h1
        have hpc : (Go.Sort.putCells (Value.int .i64) 0 S.toArray cs).size = cs.size := by simp [Go.Sort.putCells]
        have hlcs : l.length ≤ cs.size := by omega
        have hnil : parts (S.map dI).length (fun _ => []) = [] := by simp [parts]
        refine ⟨[g :: parts (S.map dI).length fun _ => []], rfl, .cons ?_ .nil, by rw [hnil]; simp, fun k hk => by rw [hnil] at hk; simp at hk; subst hk; exact .inl (by simp), rfl, rfl, rfl, ?_, ?_, ?_⟩
        · rw [eI, hSl]
          refine .sl g l.length cap 1 E (Go.Sort.putCells (Value.int .i64) 0 S.toArray cs) (S.map dI) (fun k => .int .i64 (S.getD k 0)) (fun _ => []) (by simp [hSl]) hz hle hg2 hnc (by rw [hpc]; omega) (fun k hk => ?_) fun k hk => ?_
          · have hk' : k < S.length := by simpa using hk
            have hkc : k < cs.size := by omega
            simp [Go.Sort.putCells, Array.getElem?_mapIdx, hkc, hk']
          · rw [List.getElem_map]
            have hk' : k < S.length := by simpa using hk
            rw [List.getD_eq_getElem?_getD, List.getElem?_eq_getElem hk']
            exact .lit _ rfl
        · simp only [Go.Sort.grow, Array.size_append, put_size]
          exact Nat.le_add_right _ _
        · intro k cs' E' hk
          by_cases hkg : k = g
          · subst hkg
            rw [hg] at hk; cases hk
            exact ⟨_, hg2, hpc⟩
          · exact ⟨cs', by rw [hother k hkg (Array.getElem?_eq_some_iff.1 hk).1]; exact hk, rfl⟩
        · intro k hk
          by_cases hkg : k = g
          · subst hkg; exact absurd (.inr (by simp)) hk
          · by_cases hlt : k < w.heap.size
            · exact hother k hkg hlt
            · exact absurd (.inl (Nat.le_of_not_lt hlt)) hk

end Go.Proofs.Ytdnkmgbbkggmdaa

namespace Go.Proofs.Ytdnkmgbbkggmdaa
open Go.RowKit
set_option linter.unusedSectionVars false
variable [Glb]
set_option maxRecDepth 10000
set_option maxHeartbeats 4000000
theorem slEqual_p (a b : List Int) : PC Try.prog 60 [.c (eI a), .c (eI b)] (.p (.c (dB (decide (a = b))))) := by
  refine pc_intro Try.func60 rfl rfl rfl (by kernel_rfl) rfl rfl ?_; rintro ⟨hl, hm, -⟩
  have hl := hl.len
  have hm := hm.len
  repeat' (first | (refine so_is (.assign _) ?_; (refine so_q (qt_asC rfl) rfl ?_)) | (refine so_is (.move _) ?_; (refine so_q (qt_mvC rfl) rfl ?_)) | (refine so_is (.call ⟨.builtin .len, _, #[29]⟩) ?_; (refine so_q (qt_len_d rfl (by kernel_rfl)) rfl ?_)) | (refine so_is (.binOp .neq 3 _ _ _) ?_; refine so_q (qt_neq rfl rfl) rfl ?_) | refine so_nil ?_ | refine sk_seq ?_ | refine sk_block ?_ | refine sk_skip ?_ | refine sk_region ?_ | refine sk_if rfl (fun hc => ?_) (fun hc => ?_))
  · (apply sk_ret; apply ret_eq; (· apply RetOK.p; (· (apply GvA.cons; (· exact .tmp _); (· exact GvP.c (.lit _))); exact GvA.nil); (· (decide))))
    have : a ≠ b := fun e => by subst e; simp at *
    simp [this]
  have hab : a.length = b.length := by simp at *; omega
  apply sk_packC [0, 1, 12, 13] [] rfl; (· (repeat (first | exact Pf.nil | apply Pf.cons (.c rfl (.d rfl))))); (· (repeat (exact Pb.nil)))
  refine sk_loopL [0, 1, 12] [] (fun k => [(13, iN k)]) (fun _ => []) (fun k => k ≤ a.length ∧ a.take k = b.take k) (fun k => a.length - k) (0) ?_ (by (repeat (first | exact trivial | refine ⟨(by (rfl)), ?_⟩))) (by (repeat (exact trivial))) ?_
  · simp
  rintro k ⟨hk, hs⟩
  repeat' (first | (refine so_is (.assign _) ?_; (refine so_q (qt_asC rfl) rfl ?_)) | (refine so_is (.move _) ?_; (refine so_q (qt_mvC rfl) rfl ?_)) | (refine so_is (.binOp .neq 3 _ _ _) ?_; refine so_q (qt_neq rfl rfl) rfl ?_) | (refine so_is (.binOp .lss 3 _ _ _) ?_; refine so_q (qt_lss rfl rfl) rfl ?_) | (refine so_is (.indexAddr 29 _ _) ?_; (refine so_q (qt_idxI rfl rfl (by kernel_rfl) (by (omega)) (by (omega))) rfl ?_)) | (refine so_is (.load 3 _) ?_; (refine so_q (qt_load_pt rfl (by kernel_rfl) rfl) rfl ?_)) | (refine so_is (.binOp .add 3 _ _ _) ?_; refine so_q (qt_addI rfl rfl (by (omega))) rfl ?_) | refine so_nil ?_ | refine sk_seq ?_ | refine sk_block ?_ | refine sk_blk ?_ | refine sk_exit rfl ?_ | refine sk_skip ?_ | refine sk_region ?_ | refine sk_drawQ 6 (fun _ => false) (.step 0 true (.step 1 true (.step 2 true (.step 3 true (.step 4 true (.step 5 true (.step 6 true (.step 7 true (.step 8 true .nil))))))))) [(0, 511, 511, true), (0, 511, 511, true), (3, 508, 511, true), (4, 507, 511, false), (0, 511, 511, true), (0, 511, 511, true), (48, 463, 511, true), (64, 447, 511, false), (136, 375, 511, true)] (by kernel_rfl) (by kernel_rfl) ?_ | refine sk_if rfl (fun hc => ?_) (fun hc => ?_))
  · rename_i hk'
    rw [atZ_nat (by omega), atZ_nat (by omega)] at hc
    (apply sk_ret; apply ret_eq; (· apply RetOK.p; (· (apply GvA.cons; (· exact .tmp _); (· exact GvP.c (.lit _))); exact GvA.nil); (· (decide))))
    have : a ≠ b := fun e => by subst e; exact hc rfl
    simp [this]
  · rename_i hk'
    rw [atZ_nat (by omega), atZ_nat (by omega)] at hc
    refine sk_back ?_; refine ⟨k + 1, ?_, ?_, le_at rfl (by (repeat (first | exact trivial | refine ⟨(by (rfl)), ?_⟩))) (by (repeat (first | exact trivial | refine ⟨rfl, ?_⟩))) (by (repeat (exact trivial))) (by (repeat (exact trivial)))⟩
    · exact ⟨by omega, by rw [List.take_succ_eq_append_getElem (by omega), List.take_succ_eq_append_getElem (by omega), hs]; simp at hc; rw [hc]⟩
    · omega
  · have e : k = a.length := by omega
    subst e
    rw [List.take_length, hab, List.take_length] at hs
    (apply sk_ret; apply ret_eq; (· apply RetOK.p; (· (apply GvA.cons; (· exact .tmp _); (· exact GvP.c (.lit _))); exact GvA.nil); (· (decide))))
    simp [hs]

end Go.Proofs.Ytdnkmgbbkggmdaa

namespace Go.Proofs.Ytdnkmgbbkggmdaa
open Go.RowKit
set_option linter.unusedSectionVars false
variable [Glb]
set_option maxRecDepth 10000
set_option maxHeartbeats 4000000
theorem asked_p (X Y : Int) (ws : List Int) (wi : List (List Int)) (fs ss fl : List Int) (h : gameB X Y ws wi = true) (hf : ∀ x ∈ fs, 0 ≤ x ∧ x < X) (hs : ∀ y ∈ ss, 0 ≤ y ∧ y < Y) (hfl : bitsB fl (X + Y) = true) (f3 : fs.length ≤ 3) (s3 : ss.length ≤ 3) :
    PC Try.prog 38 [.g [dI X, dI Y, eI ws, eII wi], .c (eI fs), .c (eI ss), .c (eI fl)] (.p (.g [dI fs.length, dI ss.length, eI (pairsF (askW Y ws) fs ss), eII (pairsF (askR X Y wi fl) fs ss)])) := by
  have hg := gameB_spec h
  have g1 := hg.x1; have g2 := hg.x3; have g3 := hg.y1; have g4 := hg.y3; have g5 := hg.wl; have g6 := hg.il
  have hlf := bitsB_len hfl
  have hXY := mul_bd3 (sizeB_iff.2 ⟨⟨g1, g2⟩, g3, g4⟩)
  have hsf : ss.length * fs.length ≤ 3 * 3 := Nat.mul_le_mul s3 f3
  refine pc_intro Try.func38 rfl rfl rfl (by kernel_rfl) rfl rfl ?_; intro _
  repeat' (first | (refine so_is (.box 36 _) ?_; refine so_box rfl rfl ?_) | (refine so_is (.alloc 36) ?_; refine so_alloc (zs := [.int .i64 0, .int .i64 0, .slice none 0 0, .slice none 0 0]) (by kernel_rfl) rfl ?_) | (refine so_is (.move _) ?_; (refine so_q (qt_mvC rfl) rfl ?_)) | (refine so_is (.call ⟨.builtin .len, _, #[29]⟩) ?_; (refine so_q (qt_len_d rfl (by kernel_rfl)) rfl ?_)) | (refine so_is (.build 36 _) ?_; refine so_q (qt_build (cs := [_, _, _, _]) [(0, 1), (1, 1), (2, 1), (3, 1)] [.int .i64 0, .int .i64 0, .slice none 0 0, .slice none 0 0] (by kernel_rfl) (by kernel_rfl) rfl) rfl ?_) | (refine so_is (.store 36 _ _) ?_; (refine so_store_box rfl rfl rfl (by kernel_rfl) rfl rfl ?_)) | refine so_nil ?_ | refine sk_seq ?_ | refine sk_block ?_ | refine sk_region ?_)
  refine sk_ghost (sim_nil_box 9 2 78 1 rfl (by decide) rfl rfl rfl) ?_
  refine sk_ghost (sim_nil_box 9 3 83 1 rfl (by decide) rfl rfl rfl) ?_
  apply sk_packC [2, 3, 4, 8, 9, 22, 23, 24] [4, 8, 9, 40, 67, 68, 77, 78, 82, 83] rfl; (· (repeat (first | exact Pf.nil | apply Pf.cons (.c rfl (.d rfl)) | apply Pf.cons (.c rfl (.lp rfl))))); (· (repeat (first | exact Pb.nil | apply Pb.cons (.row rfl) | (apply Pb.cons; (· apply Nb.box rfl; (repeat (first | exact Ncs.nil rfl | (apply Ncs.cons rfl; (· (first | exact .d rfl | exact .ls rfl))))))) | apply Pb.skip)))
  refine sk_loopL [2, 3, 4, 8, 9, 22, 23] [4, 8, 40, 67, 68, 77, 82] (fun i => [(24, iN i)]) (fun i => [(9, .box [.d (dI fs.length), .d (dI ss.length), .ls 78 1 0 (ss.length * i), .ls 83 1 0 (ss.length * i)]), (78, .row 1 (cI (pairsP (askW Y ws) fs ss i 0))), (83, .row 1 (cII (pairsP (askR X Y wi fl) fs ss i 0)))]) (fun i => i ≤ fs.length) (fun i => fs.length - i) (0) ?_ (by (repeat (first | exact trivial | refine ⟨(by (rfl)), ?_⟩))) (by (repeat (first | exact trivial | refine ⟨(by (first | (refine box_eq rfl ?_; simp; done) | rfl)), ?_⟩))) ?_
  · omega
  intro i hi
  repeat' (first | (refine so_is (.move _) ?_; (refine so_q (qt_mvC rfl) rfl ?_)) | (refine so_is (.call ⟨.builtin .len, _, #[29]⟩) ?_; (refine so_q (qt_len_d rfl (by kernel_rfl)) rfl ?_)) | (refine so_is (.store 36 _ _) ?_; (refine so_store_box rfl rfl rfl (by kernel_rfl) rfl rfl ?_)) | (refine so_is (.binOp .lss 3 _ _ _) ?_; refine so_q (qt_lss rfl rfl) rfl ?_) | (refine so_is (.indexAddr 29 _ _) ?_; (refine so_q (qt_idxI rfl rfl (by kernel_rfl) (by (omega)) (by (omega))) rfl ?_)) | (refine so_is (.load 3 _) ?_; (refine so_q (qt_load_pt rfl (by kernel_rfl) rfl) rfl ?_)) | (refine so_is (.assign _) ?_; (refine so_q (qt_asC rfl) rfl ?_)) | (refine so_is (.load 36 _) ?_; (refine so_q (qt_load_boxs rfl rfl (by kernel_rfl : tAgg _ 36 4 = true) rfl) rfl ?_)) | refine so_nil ?_ | refine sk_seq ?_ | refine sk_block ?_ | refine sk_exit rfl ?_ | refine sk_skip ?_ | refine sk_region ?_ | refine sk_if rfl (fun hc => ?_) (fun hc => ?_))
  · have hi2 : i < fs.length := by omega
    have fx := hf _ (mem_atZ hi2)
    apply sk_packC [2, 3, 4, 8, 9, 11, 22, 23, 24, 28, 29, 30] [4, 8, 9, 40, 67, 68, 77, 78, 82, 83] rfl; (· (repeat (first | exact Pf.nil | apply Pf.cons (.c rfl (.d rfl)) | apply Pf.cons (.c rfl (.lp rfl))))); (· (repeat (first | exact Pb.nil | apply Pb.cons (.row rfl) | (apply Pb.cons; (· apply Nb.box rfl; (repeat (first | exact Ncs.nil rfl | (apply Ncs.cons rfl; (· (first | exact .d rfl | exact .ls rfl))))))) | apply Pb.skip)))
    refine sk_loopL [2, 3, 4, 8, 9, 11, 22, 23, 24, 28, 29] [4, 8, 40, 67, 68, 77, 82] (fun k => [(30, iN k)]) (fun k => [(9, .box [.d (dI fs.length), .d (dI ss.length), .ls 78 1 0 (ss.length * i + k), .ls 83 1 0 (ss.length * i + k)]), (78, .row 1 (cI (pairsP (askW Y ws) fs ss i k))), (83, .row 1 (cII (pairsP (askR X Y wi fl) fs ss i k)))]) (fun k => k ≤ ss.length) (fun k => ss.length - k) (0) ?_ (by (repeat (first | exact trivial | refine ⟨(by (rfl)), ?_⟩))) (by (repeat (first | exact trivial | refine ⟨(by (first | (refine row_eq rfl ?_; simp; done) | (refine box_eq rfl ?_; simp; done))), ?_⟩))) ?_
    · omega
    intro k hk
    have sy := fun hk2 : k < ss.length => hs _ (mem_atZ hk2)
    have ix := fun hk2 : k < ss.length => idx_lt fx.1 fx.2 (sy hk2).1 (sy hk2).2
    have ik := fun hk2 : k < ss.length => idx_ltN hi2 hk2
    have L1 := pairsP_len (askW Y ws) fs ss hi hk
    have L2 := pairsP_len (askR X Y wi fl) fs ss hi hk
    repeat' (first | (refine so_is (.move _) ?_; (refine so_q (qt_mvC rfl) rfl ?_)) | (refine so_is (.binOp .lss 3 _ _ _) ?_; refine so_q (qt_lss rfl rfl) rfl ?_) | (refine so_is (.indexAddr 29 _ _) ?_; (refine so_q (qt_idxI rfl rfl (by kernel_rfl) (by (omega)) (by (omega))) rfl ?_)) | (refine so_is (.load 3 _) ?_; (first | refine so_q (qt_load_box rfl rfl (by kernel_rfl) rfl) rfl ?_ | refine so_q (qt_load_pt rfl (by kernel_rfl) rfl) rfl ?_)) | (refine so_is (.assign _) ?_; (refine so_q (qt_asC rfl) rfl ?_)) | (refine so_is (.fieldAddr 36 _ 1) ?_; (refine so_q (qt_fld_lp (off := 1) rfl (by kernel_rfl)) rfl ?_)) | (refine so_is (.binOp .mul 3 _ _ _) ?_; refine so_q (qt_mulI rfl rfl (by (omega))) rfl ?_) | (refine so_is (.binOp .add 3 _ _ _) ?_; refine so_q (qt_addI rfl rfl (by (omega))) rfl ?_) | (refine so_is (.buildSlice 29 0 _) ?_; (apply so_bslice (sz := 1) (by_ := 8); (· kernel_rfl); (· decide); (· (repeat (exact GvS.nil _))); (· (decide)); (· rfl); (· rfl); (· rfl))) | refine so_nil ?_ | refine sk_seq ?_ | refine sk_block ?_ | refine sk_blk ?_ | refine sk_exit rfl ?_ | refine sk_skip ?_ | refine sk_region ?_ | refine sk_if rfl (fun hc => ?_) (fun hc => ?_))
    · have hk2 : k < ss.length := by omega
      have sy := sy hk2
      have ix := ix hk2
      have ik := ik hk2
      have ga := (gameB_at h ix.1 ix.2.1).2
      have gl := bitsB_len ga
      have b1 := bitsB_at hfl fx.1 (by omega)
      have b2 := bitsB_at hfl (i := X + atZ ss k) (by omega) (by omega)
      apply sk_packC [2, 3, 4, 8, 9, 11, 13, 14, 15, 22, 23, 24, 28, 29, 30, 41] [4, 8, 9, 40, 67, 68, 77, 78, 82, 83] rfl; (· (repeat (first | exact Pf.nil | apply Pf.cons (.c rfl (.d rfl)) | apply Pf.cons (.c rfl (.ls rfl)) | apply Pf.cons (.c rfl (.lp rfl))))); (· (repeat (first | exact Pb.nil | apply Pb.cons (.row rfl) | (apply Pb.cons; (· apply Nb.box rfl; (repeat (first | exact Ncs.nil rfl | (apply Ncs.cons rfl; (· (first | exact .d rfl | exact .ls rfl))))))) | apply Pb.skip)))
      refine sk_loopL [2, 3, 4, 8, 9, 11, 13, 14, 22, 23, 24, 28, 29, 30] [4, 8, 9, 67, 68, 77, 78, 82, 83] (fun p => [(41, iN p), (15, .c (.ls 40 1 0 p))]) (fun p => [(40, .row 1 (cI (rowF (fun p => atZ (atZ wi (atZ fs i * Y + atZ ss k)) (xor4 p (flipOf fl X (atZ fs i) (atZ ss k)))) p)))]) (fun p => p ≤ 4) (fun p => 4 - p) (0) ?_ (by (repeat (first | exact trivial | refine ⟨(by (rfl)), ?_⟩))) (by (repeat (first | exact trivial | refine ⟨(by (rfl)), ?_⟩))) ?_
      · omega
      intro p hp
      have xe := fun hp4 : p < 4 => xor4_eq (k := p) (m := 2 * atZ fl (atZ fs i) + atZ fl (X + atZ ss k)) hp4 (by omega) (by omega)
      have ag := bitsB_at ga (i := xor4 p (flipOf fl X (atZ fs i) (atZ ss k)))
      repeat' (first | (with_reducible apply so_lt) | intro Y hY | ((with_reducible apply so_j2); (· assumption); (· rfl); (· exact (by (repeat (first | exact trivial | refine ⟨rfl, ?_⟩)))); (· exact (by (repeat (first | exact trivial | refine ⟨rfl, ?_⟩))))) | ((with_reducible apply so_j1); (· rfl); (· (repeat (first | exact Pf.nil | apply Pf.cons (.c rfl (.d rfl)) | apply Pf.cons (.c rfl (.ls rfl)) | apply Pf.cons (.c rfl (.lp rfl))))); (· (repeat (first | exact Pb.nil | apply Pb.cons (.row rfl) | (apply Pb.cons; (· apply Nb.box rfl; (repeat (first | exact Ncs.nil rfl | (apply Ncs.cons rfl; (· (first | exact .d rfl | exact .ls rfl | exact .any _))))))) | apply Pb.skip))); (· assumption)) | refine so_alt ?_ ?_ | (refine so_is (.move _) ?_; (refine so_q (qt_mvC rfl) rfl ?_)) | (refine so_is (.binOp .lss 3 _ _ _) ?_; refine so_q (qt_lss rfl rfl) rfl ?_) | (refine so_is (.indexAddr 29 _ _) ?_; (refine so_q (qt_idxI rfl rfl (by kernel_rfl) (by (omega)) (by (omega))) rfl ?_)) | (refine so_is (.load 3 _) ?_; (first | refine so_q (qt_load_box rfl rfl (by kernel_rfl) rfl) rfl ?_ | refine so_q (qt_load_pt rfl (by kernel_rfl) rfl) rfl ?_)) | (refine so_is (.assign _) ?_; (refine so_q (qt_asC rfl) rfl ?_)) | (refine so_is (.binOp .mul 3 _ _ _) ?_; refine so_q (qt_mulI rfl rfl (by (omega))) rfl ?_) | (refine so_is (.binOp .add 3 _ _ _) ?_; refine so_q (qt_addI rfl rfl (by (omega))) rfl ?_) | (refine so_is (.fieldAddr 36 _ 3) ?_; (refine so_q (qt_fld_lp (off := 3) rfl (by kernel_rfl)) rfl ?_)) | (refine so_is (.load 30 _) ?_; (refine so_q (qt_load_box rfl rfl (by kernel_rfl) rfl) rfl ?_)) | (refine so_is (.indexAddr 30 _ _) ?_; (refine so_q (qt_idxII rfl rfl (by kernel_rfl) (by (omega)) (by (omega))) rfl ?_)) | (refine so_is (.load 29 _) ?_; (first | refine so_q (qt_load_box rfl rfl (by kernel_rfl) rfl) rfl ?_ | refine so_q (qt_load_pt rfl (by kernel_rfl) rfl) rfl ?_)) | (refine so_is (.fieldAddr 36 _ 0) ?_; (refine so_q (qt_fld_lp (off := 0) rfl (by kernel_rfl)) rfl ?_)) | (refine so_is (.binOp .xor 3 _ _ _) ?_; refine so_q (qt_bits rfl rfl (by simp)) rfl ?_) | (refine so_is (.buildSlice 29 1 _) ?_; (apply so_bslice (sz := 1) (by_ := 8); (· kernel_rfl); (· decide); (· (repeat (first | exact GvS.nil _ | apply GvS.c rfl rfl (.lit _) rfl))); (· (decide)); (· rfl); (· rfl); (· rfl))) | (refine so_is (.call ⟨.builtin .append, _, #[29, 29]⟩) ?_; ((apply so_appR (sz := 1) (by_ := 8); (· rfl); (· rfl); (· (first | (simp; done) | (simp; omega))); (· exact .row _ _ _ _ rfl (by ((simp; done)))); (· (decide)); (· kernel_rfl); (· decide); (· (omega)); (· (omega)); (· rfl); (· rfl); (· rfl)))) | (refine so_is (.fieldAddr 36 _ 2) ?_; (refine so_q (qt_fld_lp (off := 2) rfl (by kernel_rfl)) rfl ?_)) | (refine so_is (.buildSlice 30 1 _) ?_; (apply so_bslice (sz := 1) (by_ := 24); (· kernel_rfl); (· decide); (· (repeat (first | exact GvS.nil _ | apply GvS.c rfl rfl (.row _ _ _ _ rfl (by ((simp; done)))) rfl))); (· (decide)); (· rfl); (· rfl); (· rfl))) | (refine so_is (.call ⟨.builtin .append, _, #[30, 30]⟩) ?_; ((apply so_appR (sz := 1) (by_ := 24); (· rfl); (· rfl); (· ((simp; omega))); (· exact .row _ _ _ _ rfl (by ((simp; done)))); (· (decide)); (· kernel_rfl); (· decide); (· (omega)); (· (omega)); (· rfl); (· rfl); (· rfl)))) | (refine so_is (.store 29 _ _) ?_; (refine so_store_box1 rfl rfl rfl rfl (by kernel_rfl) rfl rfl ?_)) | (refine so_is (.store 30 _ _) ?_; (refine so_store_box1 rfl rfl rfl rfl (by kernel_rfl) rfl rfl ?_)) | refine so_nil ?_ | refine sk_seq ?_ | refine sk_block ?_ | refine sk_blk ?_ | refine sk_exit rfl ?_ | refine sk_skip ?_ | refine sk_region ?_ | refine sk_drawQ 12 (fun i => i == 24) (.step 0 true (.step 1 true (.step 2 true (.step 3 true (.step 4 true (.step 5 true (.step 6 true (.step 7 true (.step 8 true (.step 9 true (.step 10 true (.step 11 true (.step 12 true (.step 13 true (.step 14 true (.step 15 true (.step 16 true (.step 17 true (.step 18 true (.step 19 true (.step 20 true (.step 21 true (.step 22 true (.step 23 false (.step 24 false (.step 25 true .nil)))))))))))))))))))))))))) [(0, 67108863, 67108863, true), (0, 67108863, 67108863, true), (2, 67108861, 67108863, false), (0, 67108863, 67108863, true), (12, 67108851, 67108863, true), (16, 67108847, 67108863, false), (0, 67108863, 67108863, true), (0, 67108863, 67108863, true), (0, 67108863, 67108863, true), (384, 67108479, 67108863, true), (512, 67108351, 67108863, false), (1024, 67107839, 67108863, true), (0, 67108863, 67108863, true), (0, 67108863, 67108863, true), (8192, 67100671, 67108863, false), (0, 67108863, 67108863, true), (49152, 67059711, 67108863, true), (69632, 67039231, 67108863, true), (131072, 66977791, 67108863, false), (264192, 66844671, 67108863, true), (524352, 66584511, 67108863, true), (1048608, 66060255, 67108863, true), (2097152, 65011711, 67108863, false), (4194304, 62914559, 67108863, false), (8388609, 58720254, 67108863, false), (33554431, 50331646, 50331647, true)] (by kernel_rfl) (by kernel_rfl) ?_ | refine sk_drawQ 14 (fun i => i == 8 || i == 13 || i == 15 || i == 17) (IT.lt (.step 13 false (.step 15 false (.step 16 true (.step 17 false .nil)))) fun Y5 => (IT.lt (.step 12 false (IT.ref false [2, 3, 4, 8, 9, 11, 22, 23, 24, 28, 29, 30, 78, 80, 82, 84] [4, 8, 9, 40, 67, 68, 77, 78, 82, 83] Y5)) fun Y4 => (IT.lt (.step 8 false (.step 14 true (IT.ref false [2, 3, 4, 8, 9, 11, 22, 23, 24, 28, 29, 30, 78, 80, 82, 84] [4, 8, 9, 40, 67, 68, 77, 78, 82, 83] Y5))) fun Y3 => (IT.lt (.alt 14 (.step 8 false (.step 14 true (IT.ref false [2, 3, 4, 8, 9, 11, 22, 23, 24, 28, 29, 30, 78, 80, 81, 84] [4, 8, 9, 40, 67, 68, 77, 78, 82, 83] Y4))) (.step 12 false (IT.ref false [2, 3, 4, 8, 9, 11, 22, 23, 24, 28, 29, 30, 71, 77, 80, 82] [4, 8, 9, 40, 67, 68, 77, 78, 82, 83] Y3))) fun Y2 => (IT.lt (.alt 14 (.step 8 false (.step 10 true (.step 14 true (IT.ref true [2, 3, 4, 8, 9, 11, 22, 23, 24, 28, 29, 30, 78, 80, 82, 84] [4, 8, 9, 40, 67, 68, 77, 78, 82, 83] Y5)))) (.step 10 false (IT.ref false [2, 3, 4, 8, 9, 11, 22, 23, 24, 28, 29, 30, 71, 77, 80, 82] [4, 8, 9, 40, 67, 68, 77, 78, 82, 83] Y3))) fun Y1 => (IT.lt (.step 7 false (IT.ref true [2, 3, 4, 8, 9, 11, 22, 23, 24, 28, 29, 30, 71, 77, 80, 82] [4, 8, 9, 40, 67, 68, 77, 78, 82, 83] Y3)) fun Y0 => (.step 0 true (.step 1 true (.step 2 true (.step 3 true (.step 4 true (.step 5 true (.step 6 true (.step 9 true (.step 11 true (.alt 14 (.step 7 false (.alt 14 (.step 8 false (.step 10 true (.step 14 true (IT.ref true [2, 3, 4, 8, 9, 11, 22, 23, 24, 28, 29, 30, 78, 80, 81, 84] [4, 8, 9, 40, 67, 68, 77, 78, 82, 83] Y4)))) (.alt 14 (.step 10 false (IT.ref true [2, 3, 4, 8, 9, 11, 22, 23, 24, 28, 29, 30, 71, 77, 80, 81] [4, 8, 9, 40, 67, 68, 77, 78, 82, 83] Y2)) (.step 12 false (IT.ref true [2, 3, 4, 8, 9, 11, 22, 23, 24, 28, 29, 30, 71, 77, 79, 82] [4, 8, 9, 40, 67, 68, 77, 78, 82, 83] Y1))))) (.alt 14 (.step 10 false (.alt 14 (.step 7 false (IT.ref false [2, 3, 4, 8, 9, 11, 22, 23, 24, 28, 29, 30, 71, 77, 80, 81] [4, 8, 9, 40, 67, 68, 77, 78, 82, 83] Y2)) (.step 12 false (IT.ref true [2, 3, 4, 8, 9, 11, 22, 23, 24, 28, 29, 30, 71, 76, 80, 82] [4, 8, 9, 40, 67, 68, 77, 78, 82, 83] Y0)))) (.step 12 false (.alt 14 (.step 7 false (IT.ref false [2, 3, 4, 8, 9, 11, 22, 23, 24, 28, 29, 30, 71, 77, 79, 82] [4, 8, 9, 40, 67, 68, 77, 78, 82, 83] Y1)) (.step 10 false (IT.ref false [2, 3, 4, 8, 9, 11, 22, 23, 24, 28, 29, 30, 71, 76, 80, 82] [4, 8, 9, 40, 67, 68, 77, 78, 82, 83] Y0))))))))))))))))))))) [(0, 262143, 262143, true), (1, 262142, 262143, false), (0, 262143, 262143, true), (4, 262139, 262143, false), (0, 262143, 262143, true), (24, 262119, 262143, true), (32, 262111, 262143, false), (64, 262079, 262143, false), (130, 262013, 262143, false), (0, 262143, 261887, true), (512, 261631, 261887, false), (0, 262143, 261887, true), (2048, 260095, 261887, false), (5376, 257023, 261887, false), (2047, 262143, 253695, true), (26623, 245503, 253695, false), (65535, 262143, 220927, true), (131071, 188415, 220927, false)] (by kernel_rfl) (by kernel_rfl) ?_ | refine sk_if rfl (fun hc => ?_) (fun hc => ?_))
      · have xe := xe (by omega)
        refine sk_back ?_; refine ⟨p + 1, ?_, ?_, le_at rfl (by (repeat (first | exact trivial | refine ⟨(by (rfl)), ?_⟩))) (by (repeat (first | exact trivial | refine ⟨rfl, ?_⟩))) (by (repeat (first | exact trivial | refine ⟨(by ((refine row_eq rfl ?_; simp  [rowF_snoc, flipOf, xe.1]; done))), ?_⟩))) (by (repeat (first | exact trivial | refine ⟨.inr rfl, ?_⟩)))⟩
        · omega
        · omega
      · have h4 : p = 4 := by omega
        subst h4
        refine sk_back ?_; refine ⟨k + 1, ?_, ?_, le_at rfl (by (repeat (first | exact trivial | refine ⟨(by (rfl)), ?_⟩))) (by (repeat (first | exact trivial | refine ⟨rfl, ?_⟩))) (by (repeat (first | exact trivial | refine ⟨(by (first | (refine row_eq rfl ?_; simp  [pairsP_snoc _ _ _ _ hk2, askW, askR, ← Nat.add_assoc]; done) | rfl)), ?_⟩))) (by (repeat (first | exact trivial | refine ⟨.inr rfl, ?_⟩)))⟩
        · omega
        · omega
    · have h4 : k = ss.length := by omega
      subst h4
      refine sk_back ?_; refine ⟨i + 1, ?_, ?_, le_at rfl (by (repeat (first | exact trivial | refine ⟨(by (rfl)), ?_⟩))) (by (repeat (first | exact trivial | refine ⟨rfl, ?_⟩))) (by (repeat (first | exact trivial | refine ⟨(by (first | (refine row_eq rfl ?_; simp  [pairsP_row _ _ _ hi2, Nat.mul_add]; done) | (refine box_eq rfl ?_; simp  [pairsP_row _ _ _ hi2, Nat.mul_add]; done))), ?_⟩))) (by (repeat (first | exact trivial | refine ⟨.inr rfl, ?_⟩)))⟩
      · omega
      · omega
  · have h4 : i = fs.length := by omega
    subst h4
    have L1 := pairsP_len (askW Y ws) fs ss (Nat.le_refl _) (Nat.zero_le ss.length)
    have L2 := pairsP_len (askR X Y wi fl) fs ss (Nat.le_refl _) (Nat.zero_le ss.length)
    repeat' fail
    (apply sk_ret; apply ret_eq; (· apply RetOK.p; (· (apply GvA.cons; (· (apply RV.cellN (n := 4); (· rfl); (· rfl); (· kernel_rfl); (· rfl))); (· (apply GvP.g; (· (apply GvL.cons (.lit _)); (apply GvL.cons (.lit _)); ((apply GvL.cons (.row _ _ _ _ rfl (by ((simp; omega)))))); ((apply GvL.cons (.row _ _ _ _ rfl (by ((simp; omega)))))); exact GvL.nil)))); exact GvA.nil); (· (decide))))
    simp [pairsP_all, pairsF_len, Nat.mul_comm]

end Go.Proofs.Ytdnkmgbbkggmdaa

namespace Go.Proofs.Ytdnkmgbbkggmdaa
open Go.RowKit
set_option linter.unusedSectionVars false
variable [Glb]
set_option maxRecDepth 10000
set_option maxHeartbeats 4000000
theorem noFlips_p (X Y : Int) (ws : List Int) (wi : List (List Int)) (h1 : 0 ≤ X) (h2 : X ≤ 1000) (h3 : 0 ≤ Y) (h4 : Y ≤ 1000) : PC Try.prog 43 [.g [dI X, dI Y, eI ws, eII wi]] (.p (.c (eI (zerosL (X + Y).toNat)))) := by
  refine pc_intro Try.func43 rfl rfl rfl (by kernel_rfl) rfl rfl ?_; intro _
  repeat' (first | (refine so_is (.box 36 _) ?_; refine so_box rfl rfl ?_) | (refine so_is (.assign _) ?_; (refine so_q (qt_asC rfl) rfl ?_)) | (refine so_is (.fieldAddr 36 _ 0) ?_; (refine so_q (qt_fld_lp (off := 0) rfl (by kernel_rfl)) rfl ?_)) | (refine so_is (.load 3 _) ?_; (refine so_q (qt_load_box rfl rfl (by kernel_rfl) rfl) rfl ?_)) | (refine so_is (.fieldAddr 36 _ 1) ?_; (refine so_q (qt_fld_lp (off := 1) rfl (by kernel_rfl)) rfl ?_)) | (refine so_is (.binOp .add 3 _ _ _) ?_; refine so_q (qt_addI rfl rfl (by (omega))) rfl ?_) | (refine so_is (.makeSlice 29 _ _) ?_; (refine so_make (by_ := 8) (z := .int .i64 0) (y := .lit (.int .i64 0)) rfl rfl (by kernel_rfl) (by kernel_rfl) rfl (fun _ => .lit _ rfl) (by (omega)) (by (omega)) (by (omega)) rfl ?_)) | refine so_nil ?_ | refine sk_seq ?_ | refine sk_region ?_)
  (apply sk_ret; apply ret_eq; (· apply RetOK.p; (· (apply GvA.cons; (· exact .tmp _); (· (exact GvP.c (.row _ _ _ _ rfl (by ((simp; done))))))); exact GvA.nil); (· (decide))))
  simp [zerosL]

end Go.Proofs.Ytdnkmgbbkggmdaa

namespace Go.Proofs.Ytdnkmgbbkggmdaa
open Go.RowKit
set_option linter.unusedSectionVars false
variable [Glb]
set_option maxRecDepth 10000
set_option maxHeartbeats 4000000
theorem within_p (n lo hi : Int) : PC Try.prog 67 [.c (dI n), .c (dI lo), .c (dI hi)] (.p (.c (dB (inB n lo hi)))) := by
  refine pc_intro Try.func67 rfl rfl rfl (by kernel_rfl) rfl rfl ?_; intro _
  repeat' (first | (refine so_is (.assign _) ?_; (refine so_q (qt_asC rfl) rfl ?_)) | (refine so_is (.move _) ?_; (refine so_q (qt_mvC rfl) rfl ?_)) | (refine so_is (.binOp .geq 3 _ _ _) ?_; refine so_q (qt_geq rfl rfl) rfl ?_) | (refine so_is (.binOp .leq 3 _ _ _) ?_; refine so_q (qt_leq rfl rfl) rfl ?_) | (refine so_is (.pick _ _ _) ?_; (refine so_q (qt_pkC rfl rfl) rfl ?_)) | refine so_nil ?_ | refine so_g_no rfl rfl rfl rfl ?_ | refine so_g_yes rfl rfl rfl rfl ?_ | refine so_g_if rfl rfl (fun hg => ?_) (fun hg => ?_) | refine sk_seq ?_ | refine sk_region ?_)
  all_goals ((apply sk_ret; apply ret_eq; (· apply RetOK.p; (· (apply GvA.cons; (· exact .tmp _); (· exact GvP.c (.lit _))); exact GvA.nil); (· (decide)))))
  all_goals (simp [dB, inB, *]; try omega)

end Go.Proofs.Ytdnkmgbbkggmdaa

namespace Go.Proofs.Ytdnkmgbbkggmdaa
open Go.RowKit
set_option linter.unusedSectionVars false
variable [Glb]
set_option maxRecDepth 10000
set_option maxHeartbeats 4000000
theorem allWithin_p (l : List Int) (lo hi : Int) : PC Try.prog 56 [.c (eI l), .c (dI lo), .c (dI hi)] (.p (.c (dB (allB l lo hi)))) := by
  refine pc_intro Try.func56 rfl rfl rfl (by kernel_rfl) rfl rfl ?_; rintro ⟨hl, -⟩
  have hl := hl.len
  repeat' (first | (refine so_is (.assign _) ?_; (refine so_q (qt_asC rfl) rfl ?_)) | (refine so_is (.move _) ?_; (refine so_q (qt_mvC rfl) rfl ?_)) | (refine so_is (.call ⟨.builtin .len, _, #[29]⟩) ?_; (refine so_q (qt_len_d rfl (by kernel_rfl)) rfl ?_)) | refine so_nil ?_ | refine sk_seq ?_ | refine sk_block ?_ | refine sk_region ?_)
  apply sk_packC [1, 2, 9, 10, 11] [] rfl; (· (repeat (first | exact Pf.nil | apply Pf.cons (.c rfl (.d rfl))))); (· (repeat (exact Pb.nil)))
  refine sk_loopL [1, 2, 9, 10] [] (fun k => [(11, iN k)]) (fun _ => []) (fun k => k ≤ l.length ∧ (l.take k).all (fun n => inB n lo hi) = true) (fun k => l.length - k) (0) ?_ (by (repeat (first | exact trivial | refine ⟨(by (rfl)), ?_⟩))) (by (repeat (exact trivial))) ?_
  · simp
  rintro k ⟨hk, ha⟩
  repeat' (first | (refine so_is (.assign _) ?_; (refine so_q (qt_asC rfl) rfl ?_)) | (refine so_is (.move _) ?_; (refine so_q (qt_mvC rfl) rfl ?_)) | (refine so_is (.binOp .lss 3 _ _ _) ?_; refine so_q (qt_lss rfl rfl) rfl ?_) | (refine so_is (.indexAddr 29 _ _) ?_; (refine so_q (qt_idxI rfl rfl (by kernel_rfl) (by (omega)) (by (omega))) rfl ?_)) | (refine so_is (.load 3 _) ?_; (refine so_q (qt_load_pt rfl (by kernel_rfl) rfl) rfl ?_)) | (refine so_is (.unOp .not 4 _) ?_; refine so_q (qt_not rfl) rfl ?_) | (refine so_is (.binOp .add 3 _ _ _) ?_; refine so_q (qt_addI rfl rfl (by (omega))) rfl ?_) | (refine so_is (.call ⟨.value (.func 67), _, _⟩) ?_; (apply so_call0 (fid := 67); (· (repeat (first | exact SeA.nil | apply SeA.cons (.c (.d _))))); (· exact within_p _ _ _); (· rfl))) | refine so_nil ?_ | refine sk_seq ?_ | refine sk_block ?_ | refine sk_blk ?_ | refine sk_exit rfl ?_ | refine sk_skip ?_ | refine sk_region ?_ | refine sk_if rfl (fun hc => ?_) (fun hc => ?_) | refine sk_not rfl (fun hc => ?_) (fun hc => ?_))
  · rename_i hk'
    rw [atZ_nat (by omega)] at hc
    (apply sk_ret; apply ret_eq; (· apply RetOK.p; (· (apply GvA.cons; (· exact .tmp _); (· exact GvP.c (.lit _))); exact GvA.nil); (· (decide))))
    rw [allB, all_f (by omega) hc]
  · rename_i hk'
    rw [atZ_nat (by omega)] at hc
    refine sk_back ?_; refine ⟨k + 1, ?_, ?_, le_at rfl (by (repeat (first | exact trivial | refine ⟨(by (rfl)), ?_⟩))) (by (repeat (first | exact trivial | refine ⟨rfl, ?_⟩))) (by (repeat (exact trivial))) (by (repeat (exact trivial)))⟩
    · exact ⟨by omega, by rw [take_succ_all _ _ _ (by omega), ha, hc]; rfl⟩
    · omega
  · (apply sk_ret; apply ret_eq; (· apply RetOK.p; (· (apply GvA.cons; (· exact .tmp _); (· exact GvP.c (.lit _))); exact GvA.nil); (· (decide))))
    rw [allB, all_t (by omega) ha]

end Go.Proofs.Ytdnkmgbbkggmdaa

namespace Go.Proofs.Ytdnkmgbbkggmdaa
open Go.RowKit
set_option linter.unusedSectionVars false
variable [Glb]
set_option maxRecDepth 10000
set_option maxHeartbeats 4000000
theorem areQuestions_p (x y : Int) : PC Try.prog 55 [.c (dI x), .c (dI y)] (.p (.c (dB (sizeB x y)))) := by
  refine pc_intro Try.func55 rfl rfl rfl (by kernel_rfl) rfl rfl ?_; intro _
  repeat' (first | (refine so_is (.assign _) ?_; (refine so_q (qt_asC rfl) rfl ?_)) | (refine so_is (.move _) ?_; (refine so_q (qt_mvC rfl) rfl ?_)) | (refine so_is (.pick _ _ _) ?_; (refine so_q (qt_pkC rfl rfl) rfl ?_)) | (refine so_is (.call ⟨.value (.func 67), _, _⟩) ?_; (apply so_call0 (fid := 67); (· (repeat (first | exact SeA.nil | apply SeA.cons (.c (.d _))))); (· exact within_p _ _ _); (· rfl))) | refine so_nil ?_ | refine so_g_no rfl rfl rfl rfl ?_ | refine so_g_yes rfl rfl rfl rfl ?_ | refine so_g_b rfl rfl (fun hg => ?_) (fun hg => ?_) | refine sk_seq ?_ | refine sk_region ?_)
  all_goals (apply sk_ret; apply ret_eq; (· apply RetOK.p; (· (apply GvA.cons; (· exact .tmp _); (· exact GvP.c (.lit _))); exact GvA.nil); (· (decide))))
  all_goals ((simp_all [sizeB]; done))

end Go.Proofs.Ytdnkmgbbkggmdaa

namespace Go.Proofs.Ytdnkmgbbkggmdaa
open Go.RowKit
set_option linter.unusedSectionVars false
variable [Glb]
set_option maxRecDepth 10000
set_option maxHeartbeats 4000000
theorem total_p (l : List Int) : PC Try.prog 57 [.c (eI l)] (.p (.c (dI (sum64 l)))) := by
  refine pc_intro Try.func57 rfl rfl rfl (by kernel_rfl) rfl rfl ?_; rintro ⟨hl, -⟩
  have hl := hl.len
  repeat' (first | (refine so_is (.assign _) ?_; (refine so_q (qt_asC rfl) rfl ?_)) | (refine so_is (.move _) ?_; (refine so_q (qt_mvC rfl) rfl ?_)) | (refine so_is (.call ⟨.builtin .len, _, #[29]⟩) ?_; (refine so_q (qt_len_d rfl (by kernel_rfl)) rfl ?_)) | refine so_nil ?_ | refine sk_seq ?_ | refine sk_block ?_ | refine sk_region ?_)
  apply sk_packC [3, 6, 7, 8] [] rfl; (· (repeat (first | exact Pf.nil | apply Pf.cons (.c rfl (.d rfl))))); (· (repeat (exact Pb.nil)))
  refine sk_loopL [6, 7] [] (fun k => [(8, iN k), (3, iZ (sum64 (l.take k)))]) (fun _ => []) (fun k => k ≤ l.length) (fun k => l.length - k) (0) ?_ (by (repeat (first | exact trivial | refine ⟨(by (rfl)), ?_⟩))) (by (repeat (exact trivial))) ?_
  · simp
  intro k hk
  repeat' (first | (refine so_is (.assign _) ?_; (refine so_q (qt_asC rfl) rfl ?_)) | (refine so_is (.move _) ?_; (refine so_q (qt_mvC rfl) rfl ?_)) | (refine so_is (.binOp .lss 3 _ _ _) ?_; refine so_q (qt_lss rfl rfl) rfl ?_) | (refine so_is (.indexAddr 29 _ _) ?_; (refine so_q (qt_idxI rfl rfl (by kernel_rfl) (by (omega)) (by (omega))) rfl ?_)) | (refine so_is (.load 3 _) ?_; (refine so_q (qt_load_pt rfl (by kernel_rfl) rfl) rfl ?_)) | (refine so_is (.binOp .add 3 _ _ _) ?_; (first | refine so_q (qt_addI rfl rfl (by (omega))) rfl ?_ | refine so_q (qt_add rfl rfl) rfl ?_)) | refine so_nil ?_ | refine sk_seq ?_ | refine sk_block ?_ | refine sk_blk ?_ | refine sk_exit rfl ?_ | refine sk_skip ?_ | refine sk_region ?_ | refine sk_if rfl (fun hc => ?_) (fun hc => ?_))
  · have hk2 : k < l.length := by omega
    refine sk_back ?_; refine ⟨k + 1, ?_, ?_, le_at rfl (by (repeat (first | exact trivial | refine ⟨(by (first | rfl | (refine int_eq rfl ?_; ((simp  [sum64_snoc hk2, atZ_nat hk2]; done))))), ?_⟩))) (by (repeat (first | exact trivial | refine ⟨rfl, ?_⟩))) (by (repeat (exact trivial))) (by (repeat (exact trivial)))⟩
    · omega
    · omega
  · have : k = l.length := by omega
    subst this
    (apply sk_ret; apply ret_eq; (· apply RetOK.p; (· (apply GvA.cons; (· exact .tmp _); (· exact GvP.c (.lit _))); exact GvA.nil); (· (decide))))
    simp

end Go.Proofs.Ytdnkmgbbkggmdaa

namespace Go.Proofs.Ytdnkmgbbkggmdaa
open Go.RowKit
set_option linter.unusedSectionVars false
variable [Glb]
set_option maxRecDepth 10000
set_option maxHeartbeats 4000000
theorem IsGame_p (x y : Int) (ws : List Int) (wi : List (List Int)) : PC Try.prog 35 [.g [dI x, dI y, eI ws, eII wi]] (.p (.c (dB (gameB x y ws wi)))) := by
  refine pc_intro Try.func35 rfl rfl rfl (by kernel_rfl) rfl rfl ?_; rintro ⟨hl, -⟩
  have hl := (hl _ (List.mem_cons_of_mem _ (List.mem_cons_of_mem _ (List.mem_cons_of_mem _ (List.mem_cons_self ..))))).len
  have hw := wrap_mul3 (x := x) (y := y)
  repeat' (first | (refine so_is (.box 36 _) ?_; refine so_box rfl rfl ?_) | (refine so_is (.assign _) ?_; (refine so_q (qt_asC rfl) rfl ?_)) | (refine so_is (.fieldAddr 36 _ 0) ?_; (refine so_q (qt_fld_lp (off := 0) rfl (by kernel_rfl)) rfl ?_)) | (refine so_is (.load 3 _) ?_; (refine so_q (qt_load_box rfl rfl (by kernel_rfl) rfl) rfl ?_)) | (refine so_is (.fieldAddr 36 _ 1) ?_; (refine so_q (qt_fld_lp (off := 1) rfl (by kernel_rfl)) rfl ?_)) | (refine so_is (.binOp .mul 3 _ _ _) ?_; (refine so_q (qt_mul rfl rfl) rfl ?_)) | (refine so_is (.unOp .not 4 _) ?_; refine so_q (qt_not rfl) rfl ?_) | (refine so_is (.move _) ?_; (refine so_q (qt_mvC rfl) rfl ?_)) | (refine so_is (.fieldAddr 36 _ 2) ?_; (refine so_q (qt_fld_lp (off := 2) rfl (by kernel_rfl)) rfl ?_)) | (refine so_is (.load 29 _) ?_; (refine so_q (qt_load_box rfl rfl (by kernel_rfl) rfl) rfl ?_)) | (refine so_is (.call ⟨.builtin .len, _, #[29]⟩) ?_; (refine so_q (qt_len_d rfl (by kernel_rfl)) rfl ?_)) | (refine so_is (.binOp .neq 3 _ _ _) ?_; refine so_q (qt_neq rfl rfl) rfl ?_) | (refine so_is (.pick _ _ _) ?_; (refine so_q (qt_pkC rfl rfl) rfl ?_)) | (refine so_is (.binOp .eql 3 _ _ _) ?_; refine so_q (qt_eql rfl rfl) rfl ?_) | (refine so_is (.fieldAddr 36 _ 3) ?_; (refine so_q (qt_fld_lp (off := 3) rfl (by kernel_rfl)) rfl ?_)) | (refine so_is (.load 30 _) ?_; (refine so_q (qt_load_box rfl rfl (by kernel_rfl) rfl) rfl ?_)) | (refine so_is (.call ⟨.builtin .len, _, #[30]⟩) ?_; (refine so_q (qt_len_d rfl (by kernel_rfl)) rfl ?_)) | (refine so_is (.call ⟨.value (.func 55), _, _⟩) ?_; (apply so_call0 (fid := 55); (· (repeat (first | exact SeA.nil | apply SeA.cons (.c (.d _))))); (· exact areQuestions_p _ _); (· rfl))) | (refine so_is (.call ⟨.value (.func 56), _, _⟩) ?_; (apply so_call0 (fid := 56); (· (repeat (first | exact SeA.nil | apply SeA.cons (.c (.d _))))); (· exact allWithin_p _ _ _); (· rfl))) | (refine so_is (.call ⟨.value (.func 57), _, _⟩) ?_; (apply so_call0 (fid := 57); (· (repeat (first | exact SeA.nil | apply SeA.cons (.c (.d _))))); (· exact total_p _); (· rfl))) | refine so_nil ?_ | refine so_g_no rfl rfl rfl rfl ?_ | refine so_g_yes rfl rfl rfl rfl ?_ | refine so_g_if rfl rfl (fun hg => ?_) (fun hg => ?_) | refine so_g_b rfl rfl (fun hg => ?_) (fun hg => ?_) | refine sk_seq ?_ | refine sk_block ?_ | refine sk_skip ?_ | refine sk_region ?_ | refine sk_true rfl ?_ | refine sk_if rfl (fun hc => ?_) (fun hc => ?_))
  · (apply sk_ret; apply ret_eq; (· apply RetOK.p; (· (apply GvA.cons; (· exact .tmp _); (· exact GvP.c (.lit _))); exact GvA.nil); (· (decide))))
    have h9 : sizeB x y = false := by simpa using hg
    simp [gameB, h9]
  · (apply sk_ret; apply ret_eq; (· apply RetOK.p; (· (apply GvA.cons; (· exact .tmp _); (· exact GvP.c (.lit _))); exact GvA.nil); (· (decide))))
    have h9 : ¬ (ws.length : Int) = x * y := by rw [← hw (by simp_all)]; omega
    simp [gameB, h9]
  · (apply sk_ret; apply ret_eq; (· apply RetOK.p; (· (apply GvA.cons; (· exact .tmp _); (· exact GvP.c (.lit _))); exact GvA.nil); (· (decide))))
    have h9 : allB ws 0 99 = false := by simpa using hg
    simp [gameB, h9]
  · (apply sk_ret; apply ret_eq; (· apply RetOK.p; (· (apply GvA.cons; (· exact .tmp _); (· exact GvP.c (.lit _))); exact GvA.nil); (· (decide))))
    simp [gameB, hg]
  · (apply sk_ret; apply ret_eq; (· apply RetOK.p; (· (apply GvA.cons; (· exact .tmp _); (· exact GvP.c (.lit _))); exact GvA.nil); (· (decide))))
    have h9 : ¬ (wi.length : Int) = x * y := by rw [← hw (by simp_all)]; omega
    simp [gameB, h9]
  have hs : sizeB x y = true := by simp_all
  have h1 : (ws.length : Int) = x * y := by rw [← hw hs]; simp_all
  have h2 : allB ws 0 99 = true := by simp_all
  have h3 : sum64 ws ≠ 0 := by simp_all
  have h4 : (wi.length : Int) = x * y := by rw [← hw hs]; simp_all
  apply sk_packC [44, 45, 46] [1] rfl; (· (repeat (first | exact Pf.nil | apply Pf.cons (.c rfl (.d rfl))))); (· (repeat (first | exact Pb.nil | (apply Pb.cons; (· apply Nb.box rfl; (repeat (first | exact Ncs.nil rfl | (apply Ncs.cons rfl; (· (exact .d rfl))))))))))
  refine sk_loopL [44, 45] [1] (fun k => [(46, iN k)]) (fun _ => []) (fun k => k ≤ wi.length ∧ (wi.take k).all (fun l => bitsB l 4) = true) (fun k => wi.length - k) (0) ?_ (by (repeat (first | exact trivial | refine ⟨(by (rfl)), ?_⟩))) (by (repeat (exact trivial))) ?_
  · simp
  rintro k ⟨hk, ha⟩
  repeat' (first | (refine so_is (.assign _) ?_; (refine so_q (qt_asC rfl) rfl ?_)) | (refine so_is (.unOp .not 4 _) ?_; refine so_q (qt_not rfl) rfl ?_) | (refine so_is (.move _) ?_; (refine so_q (qt_mvC rfl) rfl ?_)) | (refine so_is (.load 29 _) ?_; (refine so_q (qt_load_pt rfl (by kernel_rfl) rfl) rfl ?_)) | (refine so_is (.call ⟨.builtin .len, _, #[29]⟩) ?_; (refine so_q (qt_len_d rfl (by kernel_rfl)) rfl ?_)) | (refine so_is (.binOp .neq 3 _ _ _) ?_; refine so_q (qt_neq rfl rfl) rfl ?_) | (refine so_is (.pick _ _ _) ?_; (refine so_q (qt_pkC rfl rfl) rfl ?_)) | (refine so_is (.binOp .lss 3 _ _ _) ?_; refine so_q (qt_lss rfl rfl) rfl ?_) | (refine so_is (.indexAddr 30 _ _) ?_; (refine so_q (qt_idxII rfl rfl (by kernel_rfl) (by (omega)) (by (omega))) rfl ?_)) | (refine so_is (.binOp .add 3 _ _ _) ?_; refine so_q (qt_addI rfl rfl (by (omega))) rfl ?_) | (refine so_is (.call ⟨.value (.func 56), _, _⟩) ?_; (apply so_call0 (fid := 56); (· (repeat (first | exact SeA.nil | apply SeA.cons (.c (.d _))))); (· exact allWithin_p _ _ _); (· rfl))) | refine so_nil ?_ | refine so_g_no rfl rfl rfl rfl ?_ | refine so_g_yes rfl rfl rfl rfl ?_ | refine so_g_if rfl rfl (fun hg => ?_) (fun hg => ?_) | refine sk_seq ?_ | refine sk_block ?_ | refine sk_blk ?_ | refine sk_exit rfl ?_ | refine sk_skip ?_ | refine sk_region ?_ | refine sk_true rfl ?_ | refine sk_if rfl (fun hc => ?_) (fun hc => ?_) | refine sk_not rfl (fun hc => ?_) (fun hc => ?_))
  · have hk2 : k < wi.length := by omega
    rw [atZ_nat hk2] at hg
    (apply sk_ret; apply ret_eq; (· apply RetOK.p; (· (apply GvA.cons; (· exact .tmp _); (· exact GvP.c (.lit _))); exact GvA.nil); (· (decide))))
    have h9 : bitsB wi[k] 4 = false := by simp [bitsB]; omega
    simp only [gameB, all_f (p := fun l => bitsB l 4) hk2 h9]; simp
  · have hk2 : k < wi.length := by omega
    rw [atZ_nat hk2] at hc
    (apply sk_ret; apply ret_eq; (· apply RetOK.p; (· (apply GvA.cons; (· exact .tmp _); (· exact GvP.c (.lit _))); exact GvA.nil); (· (decide))))
    have h9 : bitsB wi[k] 4 = false := by simp [bitsB, hc]
    simp only [gameB, all_f (p := fun l => bitsB l 4) hk2 h9]; simp
  · have hk2 : k < wi.length := by omega
    rw [atZ_nat hk2] at hc hg
    have h9 : bitsB wi[k] 4 = true := by simp [bitsB, hc]; omega
    refine sk_back ?_; refine ⟨k + 1, ?_, ?_, le_at rfl (by (repeat (first | exact trivial | refine ⟨(by (rfl)), ?_⟩))) (by (repeat (first | exact trivial | refine ⟨rfl, ?_⟩))) (by (repeat (exact trivial))) (by (repeat (first | exact trivial | refine ⟨.inr rfl, ?_⟩)))⟩
    · exact ⟨by omega, by rw [take_succ_all _ _ _ hk2, ha, h9]; rfl⟩
    · omega
  · have : k = wi.length := by omega
    subst this
    rw [List.take_length] at ha
    (apply sk_ret; apply ret_eq; (· apply RetOK.p; (· (apply GvA.cons; (· exact .tmp _); (· exact GvP.c (.lit _))); exact GvA.nil); (· (decide))))
    simp [gameB, hs, h1, h2, h3, h4, ha]

end Go.Proofs.Ytdnkmgbbkggmdaa

namespace Go.Proofs.Ytdnkmgbbkggmdaa
open Go.RowKit
set_option linter.unusedSectionVars false
variable [Glb]
set_option maxRecDepth 10000
set_option maxHeartbeats 4000000
theorem copied_p (l : List Int) (h : l.length ≤ 10000000) : PC Try.prog 63 [.c (eI l)] (.p (.c (eI l))) := by
  refine pc_intro Try.func63 rfl rfl rfl (by kernel_rfl) rfl rfl ?_; intro _
  repeat' (first | (refine so_is (.assign _) ?_; (refine so_q (qt_asC rfl) rfl ?_)) | (refine so_is (.buildSlice 29 0 _) ?_; (apply so_bslice (sz := 1) (by_ := 8); (· kernel_rfl); (· decide); (· (repeat (exact GvS.nil _))); (· (decide)); (· rfl); (· rfl); (· rfl))) | (refine so_is (.move _) ?_; (refine so_q (qt_mvC rfl) rfl ?_)) | (refine so_is (.call ⟨.builtin .append, _, #[29, 29]⟩) ?_; ((apply so_appR (sz := 1) (by_ := 8); (· rfl); (· rfl); (· ((simp; done))); (· exact .see _ _ _ (by (exact Lits.map))); (· (decide)); (· kernel_rfl); (· decide); (· (omega)); (· (omega)); (· rfl); (· rfl); (· rfl)))) | refine so_nil ?_ | refine sk_seq ?_ | refine sk_region ?_)
  · (apply sk_ret; apply ret_eq; (· apply RetOK.p; (· (apply GvA.cons; (· exact .tmp _); (· (exact GvP.c (.row _ _ _ _ rfl (by ((simp; done))))))); exact GvA.nil); (· (decide))))
    simp

end Go.Proofs.Ytdnkmgbbkggmdaa

namespace Go.Proofs.Ytdnkmgbbkggmdaa
open Go.RowKit
set_option linter.unusedSectionVars false
variable [Glb]
set_option maxRecDepth 10000
set_option maxHeartbeats 4000000
theorem counting_p (n : Int) (h0 : 0 ≤ n) (h1 : n ≤ 1000) : PC Try.prog 65 [.c (dI n)] (.p (.c (eI (cntL n.toNat)))) := by
  refine pc_intro Try.func65 rfl rfl rfl (by kernel_rfl) rfl rfl ?_; intro _
  repeat' (first | (refine so_is (.assign _) ?_; (refine so_q (qt_asC rfl) rfl ?_)) | (refine so_is (.buildSlice 29 0 _) ?_; (apply so_bslice (sz := 1) (by_ := 8); (· kernel_rfl); (· decide); (· (repeat (exact GvS.nil _))); (· (decide)); (· rfl); (· rfl); (· rfl))) | (refine so_is (.move _) ?_; (refine so_q (qt_mvC rfl) rfl ?_)) | refine so_nil ?_ | refine sk_seq ?_ | refine sk_block ?_ | refine sk_region ?_)
  apply sk_packC [3, 6, 7] [5, 12, 13] rfl; (· (repeat (first | exact Pf.nil | apply Pf.cons (.c rfl (.d rfl)) | apply Pf.cons (.c rfl (.ls rfl))))); (· (repeat (first | exact Pb.nil | apply Pb.cons (.row rfl) | apply Pb.skip)))
  refine sk_loopL [6] [12, 13] (fun i => [(7, iN i), (3, .c (.ls 5 1 0 i))]) (fun i => [(5, .row 1 (cI (cntL i)))]) (fun i => i ≤ n.toNat) (fun i => n.toNat - i) (0) ?_ (by (repeat (first | exact trivial | refine ⟨(by (rfl)), ?_⟩))) (by (repeat (first | exact trivial | refine ⟨(by (rfl)), ?_⟩))) ?_
  · omega
  intro i hi
  repeat' (first | (refine so_is (.assign _) ?_; (refine so_q (qt_asC rfl) rfl ?_)) | (refine so_is (.move _) ?_; (refine so_q (qt_mvC rfl) rfl ?_)) | (refine so_is (.binOp .lss 3 _ _ _) ?_; refine so_q (qt_lss rfl rfl) rfl ?_) | (refine so_is (.buildSlice 29 1 _) ?_; (apply so_bslice (sz := 1) (by_ := 8); (· kernel_rfl); (· decide); (· (repeat (first | exact GvS.nil _ | apply GvS.c rfl rfl (.lit _) rfl))); (· (decide)); (· rfl); (· rfl); (· rfl))) | (refine so_is (.call ⟨.builtin .append, _, #[29, 29]⟩) ?_; ((apply so_appR (sz := 1) (by_ := 8); (· rfl); (· rfl); (· ((simp; done))); (· exact .row _ _ _ _ rfl (by ((simp; done)))); (· (decide)); (· kernel_rfl); (· decide); (· (omega)); (· (omega)); (· rfl); (· rfl); (· rfl)))) | (refine so_is (.binOp .add 3 _ _ _) ?_; refine so_q (qt_addI rfl rfl (by (omega))) rfl ?_) | refine so_nil ?_ | refine sk_seq ?_ | refine sk_block ?_ | refine sk_blk ?_ | refine sk_exit rfl ?_ | refine sk_skip ?_ | refine sk_region ?_ | refine sk_if rfl (fun hc => ?_) (fun hc => ?_))
  · refine sk_back ?_; refine ⟨i + 1, ?_, ?_, le_at rfl (by (repeat (first | exact trivial | refine ⟨(by (rfl)), ?_⟩))) (by (repeat (first | exact trivial | refine ⟨rfl, ?_⟩))) (by (repeat (first | exact trivial | refine ⟨(by ((refine row_eq rfl ?_; simp  [cntL_snoc]; done))), ?_⟩))) (by (repeat (first | exact trivial | refine ⟨.inr rfl, ?_⟩)))⟩
    · omega
    · omega
  · have h : i = n.toNat := by omega
    subst h
    (apply sk_ret; apply ret_eq; (· apply RetOK.p; (· (apply GvA.cons; (· exact .tmp _); (· (exact GvP.c (.row _ _ _ _ rfl (by ((simp; done))))))); exact GvA.nil); (· (decide))))
    simp

end Go.Proofs.Ytdnkmgbbkggmdaa

namespace Go.Proofs.Ytdnkmgbbkggmdaa
open Go.RowKit
set_option linter.unusedSectionVars false
variable [Glb]
set_option maxRecDepth 10000
set_option maxHeartbeats 4000000
theorem isOrder_p (l : List Int) (n : Int) (h : l.length ≤ 1048576) (h1 : 1 ≤ n ∧ n ≤ 3) : PC Try.prog 42 [.c (eI l), .c (dI n)] (.p (.c (dB (orderB l n)))) := by
  obtain ⟨S, hS⟩ : ∃ S, S = l.mergeSort fun x y => decide (x ≤ y) := ⟨_, rfl⟩
  have hSl : S.length = l.length := by rw [hS, List.length_mergeSort]
  have sn := sort_n l (by omega)
  rw [← hS] at sn
  have eS : eI S = .sl 1 l.length (cI S) := by unfold eI; rw [hSl]
  have eqp := slEqual_p S (cntL n.toNat)
  rw [eS] at eqp
  have ho := order_sort (l := l) (n := n) (by omega)
  rw [← hS] at ho
  rw [ho] at eqp
  refine pc_intro Try.func42 rfl rfl rfl (by kernel_rfl) rfl rfl ?_; intro _
  repeat' (first | (refine so_is (.assign _) ?_; (refine so_q (qt_asC rfl) rfl ?_)) | (refine so_is (.move _) ?_; (refine so_q (qt_mvC rfl) rfl ?_)) | (refine so_is (.call ⟨.value (.func 63), _, _⟩) ?_; ((apply so_callO0 (fid := 63); (· (repeat (first | exact SeA.nil | apply SeA.cons (.c (.d _))))); (· exact copied_p _ (by omega)); (· rfl); (· rfl)))) | (refine so_is (.call ⟨.value (.func 64), _, _⟩) ?_; ((apply so_callN (fid := 64); (· (repeat (first | exact ArgM.nil | apply ArgM.c rfl (.row _ _ _ _ rfl (by ((simp; done))))))); (· (decide)); (· exact sn); (· rfl); (· rfl)))) | (refine so_is (.call ⟨.value (.func 65), _, _⟩) ?_; ((apply so_call0 (fid := 65); (· (repeat (first | exact SeA.nil | apply SeA.cons (.c (.d _))))); (· exact counting_p _ (by omega) (by omega)); (· rfl)))) | (refine so_is (.call ⟨.value (.func 60), _, _⟩) ?_; ((apply so_call0 (fid := 60); (· (repeat (first | exact SeA.nil | apply SeA.cons (.c (.d _)) | apply SeA.cons (.c (.all _ _ _ _ rfl (by ((simp; omega)))))))); (· exact eqp); (· rfl)))) | refine so_nil ?_ | refine sk_seq ?_ | refine sk_region ?_)
  (apply sk_ret; apply ret_eq; (· apply RetOK.p; (· (apply GvA.cons; (· exact .tmp _); (· exact GvP.c (.lit _))); exact GvA.nil); (· (decide))))
  rfl
theorem AskGame_p (X Y : Int) (ws : List Int) (wi : List (List Int)) (fs ss : List Int) (hf : fs.length ≤ 1048576) (hs : ss.length ≤ 1048576) : PC Try.prog 17 [.g [dI X, dI Y, eI ws, eII wi], .c (eI fs), .c (eI ss)]
    (.t [.g [dI (whenN (askB X Y ws wi fs ss) fs.length), dI (whenN (askB X Y ws wi fs ss) ss.length), eI (whenA (askB X Y ws wi fs ss) (askGW Y ws fs ss)), eII (whenL (askB X Y ws wi fs ss) (askGR Y wi fs ss))], .c (dB (askB X Y ws wi fs ss))]) := by
  cases hg : gameB X Y ws wi with
  | false =>
    have e : askB X Y ws wi fs ss = false := by simp [askB, hg]
    rw [e]
    refine pc_intro Try.func17 rfl rfl rfl (by kernel_rfl) rfl rfl ?_; intro _
    repeat' (first | (refine so_is (.box 36 _) ?_; refine so_box rfl rfl ?_) | (refine so_is (.alloc 36) ?_; refine so_alloc (zs := [.int .i64 0, .int .i64 0, .slice none 0 0, .slice none 0 0]) (by kernel_rfl) rfl ?_) | (refine so_is (.assign _) ?_; (refine so_q (qt_asC rfl) rfl ?_)) | (refine so_is (.load 36 _) ?_; (refine so_q (qt_load_boxs rfl rfl (by kernel_rfl : tAgg _ 36 4 = true) rfl) rfl ?_)) | (refine so_is (.unOp .not 4 _) ?_; refine so_q (qt_not rfl) rfl ?_) | (refine so_is (.move _) ?_; (refine so_q (qt_mvC rfl) rfl ?_)) | (refine so_is (.fieldAddr 36 _ 0) ?_; (refine so_q (qt_fld_lp (off := 0) rfl (by kernel_rfl)) rfl ?_)) | (refine so_is (.load 3 _) ?_; (refine so_q (qt_load_box rfl rfl (by kernel_rfl) rfl) rfl ?_)) | (refine so_is (.pick _ _ _) ?_; (refine so_q (qt_pkC rfl rfl) rfl ?_)) | (refine so_is (.build 36 _) ?_; refine so_q (qt_build (cs := [_, _, _, _]) [(0, 1), (1, 1), (2, 1), (3, 1)] [.int .i64 0, .int .i64 0, .slice none 0 0, .slice none 0 0] (by kernel_rfl) (by kernel_rfl) rfl) rfl ?_) | (refine so_is (.store 36 _ _) ?_; (refine so_store_box rfl rfl rfl (by kernel_rfl) rfl rfl ?_)) | (refine so_is (.call ⟨.value (.func 35), _, _⟩) ?_; (apply so_call0 (fid := 35); (· (repeat (first | exact SeA.nil | (apply SeA.cons; (· (apply SeP.g; (repeat (first | exact SeL.nil | apply SeL.cons (.d _))))))))); (· exact IsGame_p _ _ _ _); (· rfl))) | refine so_nil ?_ | refine so_g_no rfl rfl rfl rfl ?_ | refine so_g_yes rfl rfl rfl rfl ?_ | refine so_g_b rfl rfl (fun hg => ?_) (fun hg => ?_) | refine sk_seq ?_ | refine sk_region ?_ | refine sk_true rfl ?_)
    all_goals first | (exfalso; simp_all; done) | skip
    all_goals (apply sk_ret; apply ret_eq; (· apply RetOK.t; (· (apply GvA.cons; (· (apply RV.cellN (n := 4); (· rfl); (· rfl); (· kernel_rfl); (· rfl))); (· (apply GvP.g; (· (apply GvL.cons (.lit _)); (apply GvL.cons (.lit _)); ((apply GvL.cons (.nil 1 (by decide)))); ((apply GvL.cons (.nil 1 (by decide)))); exact GvL.nil)))); (apply GvA.cons; (· exact .tmp _); (· exact GvP.c (.lit _))); exact GvA.nil); (· rfl); (· (decide))))
    all_goals simp [whenN, whenL, whenA]
  | true =>
    have g := gameB_spec hg
    have g1 := g.x1; have g2 := g.x3; have g3 := g.y1; have g4 := g.y3
    cases e : askB X Y ws wi fs ss with
    | false =>
      have e' := e
      simp only [askB, hg, Bool.true_and] at e'
      refine pc_intro Try.func17 rfl rfl rfl (by kernel_rfl) rfl rfl ?_; intro _
      repeat' (first | (refine so_is (.box 36 _) ?_; refine so_box rfl rfl ?_) | (refine so_is (.alloc 36) ?_; refine so_alloc (zs := [.int .i64 0, .int .i64 0, .slice none 0 0, .slice none 0 0]) (by kernel_rfl) rfl ?_) | (refine so_is (.assign _) ?_; (refine so_q (qt_asC rfl) rfl ?_)) | (refine so_is (.load 36 _) ?_; (refine so_q (qt_load_boxs rfl rfl (by kernel_rfl : tAgg _ 36 4 = true) rfl) rfl ?_)) | (refine so_is (.unOp .not 4 _) ?_; refine so_q (qt_not rfl) rfl ?_) | (refine so_is (.move _) ?_; (refine so_q (qt_mvC rfl) rfl ?_)) | (refine so_is (.fieldAddr 36 _ 0) ?_; (refine so_q (qt_fld_lp (off := 0) rfl (by kernel_rfl)) rfl ?_)) | (refine so_is (.load 3 _) ?_; (refine so_q (qt_load_box rfl rfl (by kernel_rfl) rfl) rfl ?_)) | (refine so_is (.pick _ _ _) ?_; (refine so_q (qt_pkC rfl rfl) rfl ?_)) | (refine so_is (.fieldAddr 36 _ 1) ?_; (refine so_q (qt_fld_lp (off := 1) rfl (by kernel_rfl)) rfl ?_)) | (refine so_is (.build 36 _) ?_; refine so_q (qt_build (cs := [_, _, _, _]) [(0, 1), (1, 1), (2, 1), (3, 1)] [.int .i64 0, .int .i64 0, .slice none 0 0, .slice none 0 0] (by kernel_rfl) (by kernel_rfl) rfl) rfl ?_) | (refine so_is (.store 36 _ _) ?_; (refine so_store_box rfl rfl rfl (by kernel_rfl) rfl rfl ?_)) | (refine so_is (.call ⟨.value (.func 35), _, _⟩) ?_; (apply so_call0 (fid := 35); (· (repeat (first | exact SeA.nil | (apply SeA.cons; (· (apply SeP.g; (repeat (first | exact SeL.nil | apply SeL.cons (.d _))))))))); (· exact IsGame_p _ _ _ _); (· rfl))) | (refine so_is (.call ⟨.value (.func 42), _, _⟩) ?_; (apply so_call0 (fid := 42); (· (repeat (first | exact SeA.nil | apply SeA.cons (.c (.d _))))); (· exact isOrder_p _ _ (by omega) (by omega)); (· rfl))) | refine so_nil ?_ | refine so_g_no rfl rfl rfl rfl ?_ | refine so_g_yes rfl rfl rfl rfl ?_ | refine so_g_b rfl rfl (fun hg => ?_) (fun hg => ?_) | refine sk_seq ?_ | refine sk_skip ?_ | refine sk_region ?_ | refine sk_drawQ 3 (fun i => i == 6) (.step 0 true (.step 1 true (.step 2 true (.step 3 true (.step 4 false (.step 5 false (.step 6 false (.step 7 true .nil)))))))) [(0, 255, 255, false), (0, 255, 255, true), (0, 255, 255, true), (0, 255, 255, false), (8, 247, 255, false), (23, 232, 255, false), (63, 223, 255, false), (127, 255, 191, true)] (by kernel_rfl) (by kernel_rfl) ?_ | refine sk_true rfl ?_ | refine sk_not rfl (fun hc => ?_) (fun hc => ?_))
      all_goals first | (exfalso; simp_all; done) | skip
      all_goals (apply sk_ret; apply ret_eq; (· apply RetOK.t; (· (apply GvA.cons; (· (apply RV.cellN (n := 4); (· rfl); (· rfl); (· kernel_rfl); (· rfl))); (· (apply GvP.g; (· (apply GvL.cons (.lit _)); (apply GvL.cons (.lit _)); ((apply GvL.cons (.nil 1 (by decide)))); ((apply GvL.cons (.nil 1 (by decide)))); exact GvL.nil)))); (apply GvA.cons; (· exact .tmp _); (· exact GvP.c (.lit _))); exact GvA.nil); (· rfl); (· (decide))))
      all_goals simp [whenN, whenL, whenA]
    | true =>
      have e' := e
      simp only [askB, hg, Bool.true_and, Bool.and_eq_true] at e'
      have l1 := orderB_len e'.1
      have l2 := orderB_len e'.2
      have m1 : ∀ x ∈ fs, 0 ≤ x ∧ x < X := fun x hx => orderB_mem (by omega) e'.1 hx
      have m2 : ∀ x ∈ ss, 0 ≤ x ∧ x < Y := fun x hx => orderB_mem (by omega) e'.2 hx
      have fl : bitsB (zerosL (X + Y).toNat) (X + Y) = true := by have := zerosL_bits (X + Y).toNat; rwa [Int.toNat_of_nonneg (by omega)] at this
      have ap := asked_p X Y ws wi fs ss _ hg m1 m2 fl (by omega) (by omega)
      have hsame := ask_same hg m1 m2 (X + Y).toNat
      rw [hsame] at ap
      refine pc_intro Try.func17 rfl rfl rfl (by kernel_rfl) rfl rfl ?_; intro _
      repeat' (first | (refine so_is (.box 36 _) ?_; refine so_box rfl rfl ?_) | (refine so_is (.alloc 36) ?_; refine so_alloc (zs := [.int .i64 0, .int .i64 0, .slice none 0 0, .slice none 0 0]) (by kernel_rfl) rfl ?_) | (refine so_is (.assign _) ?_; (refine so_q (qt_asC rfl) rfl ?_)) | (refine so_is (.load 36 _) ?_; (refine so_q (qt_load_boxs rfl rfl (by kernel_rfl : tAgg _ 36 4 = true) rfl) rfl ?_)) | (refine so_is (.unOp .not 4 _) ?_; refine so_q (qt_not rfl) rfl ?_) | (refine so_is (.move _) ?_; (refine so_q (qt_mvC rfl) rfl ?_)) | (refine so_is (.fieldAddr 36 _ 0) ?_; (refine so_q (qt_fld_lp (off := 0) rfl (by kernel_rfl)) rfl ?_)) | (refine so_is (.load 3 _) ?_; (refine so_q (qt_load_box rfl rfl (by kernel_rfl) rfl) rfl ?_)) | (refine so_is (.pick _ _ _) ?_; (refine so_q (qt_pkC rfl rfl) rfl ?_)) | (refine so_is (.fieldAddr 36 _ 1) ?_; (refine so_q (qt_fld_lp (off := 1) rfl (by kernel_rfl)) rfl ?_)) | (refine so_is (.build 36 _) ?_; refine so_q (qt_build (cs := [_, _, _, _]) [(0, 1), (1, 1), (2, 1), (3, 1)] [.int .i64 0, .int .i64 0, .slice none 0 0, .slice none 0 0] (by kernel_rfl) (by kernel_rfl) rfl) rfl ?_) | (refine so_is (.store 36 _ _) ?_; (refine so_store_box rfl rfl rfl (by kernel_rfl) rfl rfl ?_)) | (refine so_is (.call ⟨.value (.func 35), _, _⟩) ?_; ((apply so_call0 (fid := 35); (· (repeat (first | exact SeA.nil | (apply SeA.cons; (· (apply SeP.g; (repeat (first | exact SeL.nil | apply SeL.cons (.d _))))))))); (· exact IsGame_p _ _ _ _); (· rfl)))) | (refine so_is (.call ⟨.value (.func 42), _, _⟩) ?_; ((apply so_call0 (fid := 42); (· (repeat (first | exact SeA.nil | apply SeA.cons (.c (.d _))))); (· exact isOrder_p _ _ (by omega) (by omega)); (· rfl)))) | (refine so_is (.call ⟨.value (.func 43), _, _⟩) ?_; ((apply so_call0 (fid := 43); (· (repeat (first | exact SeA.nil | (apply SeA.cons; (· (apply SeP.g; (repeat (first | exact SeL.nil | apply SeL.cons (.d _))))))))); (· exact noFlips_p _ _ _ _ (by omega) (by omega) (by omega) (by omega)); (· rfl)))) | (refine so_is (.call ⟨.value (.func 38), _, _⟩) ?_; (apply so_callO0 (fid := 38); (· (repeat (first | exact SeA.nil | apply SeA.cons (.c (.d _)) | (apply SeA.cons; (· (apply SeP.g; (repeat (first | exact SeL.nil | apply SeL.cons (.d _))))))))); (· exact ap); (· rfl); (· rfl))) | refine so_nil ?_ | refine so_g_no rfl rfl rfl rfl ?_ | refine so_g_yes rfl rfl rfl rfl ?_ | refine so_g_b rfl rfl (fun hg => ?_) (fun hg => ?_) | refine sk_seq ?_ | refine sk_skip ?_ | refine sk_region ?_ | refine sk_drawQ 3 (fun i => i == 6) (.step 0 true (.step 1 true (.step 2 true (.step 3 true (.step 4 false (.step 5 false (.step 6 false (.step 7 true .nil)))))))) [(0, 255, 255, false), (0, 255, 255, true), (0, 255, 255, true), (0, 255, 255, false), (8, 247, 255, false), (23, 232, 255, false), (63, 223, 255, false), (127, 255, 191, true)] (by kernel_rfl) (by kernel_rfl) ?_ | refine sk_true rfl ?_ | refine sk_not rfl (fun hc => ?_) (fun hc => ?_))
      all_goals first | (exfalso; simp_all; done) | skip
      all_goals (apply sk_ret; apply ret_eq; (· apply RetOK.t; (· (apply GvA.cons; (· (apply RV.cellN (n := 4); (· rfl); (· rfl); (· kernel_rfl); (· rfl))); (· (apply GvP.g; (· (apply GvL.cons (.lit _)); (apply GvL.cons (.lit _)); ((apply GvL.cons (.row _ _ _ _ rfl (by ((simp; done)))))); ((apply GvL.cons (.row _ _ _ _ rfl (by ((simp; done)))))); exact GvL.nil)))); (apply GvA.cons; (· exact .tmp _); (· exact GvP.c (.lit _))); exact GvA.nil); (· rfl); (· (decide))))
      all_goals simp [whenN, whenL, whenA, askGW, askGR]

end Go.Proofs.Ytdnkmgbbkggmdaa

namespace Go.Proofs.Ytdnkmgbbkggmdaa
open Go.RowKit
set_option linter.unusedSectionVars false
variable [Glb]
set_option maxRecDepth 10000
set_option maxHeartbeats 4000000
theorem eqIntS_p (a b : List Int) : PC Try.prog 18 [.c (eI a), .c (eI b)] (.p (.c (dB (decide (a = b))))) := by
  refine pc_intro Try.func18 rfl rfl rfl (by kernel_rfl) rfl rfl ?_; rintro ⟨hl, hm, -⟩
  have hl := hl.len
  have hm := hm.len
  repeat' (first | (refine so_is (.assign _) ?_; (refine so_q (qt_asC rfl) rfl ?_)) | (refine so_is (.move _) ?_; (refine so_q (qt_mvC rfl) rfl ?_)) | (refine so_is (.call ⟨.builtin .len, _, #[29]⟩) ?_; (refine so_q (qt_len_d rfl (by kernel_rfl)) rfl ?_)) | (refine so_is (.binOp .neq 3 _ _ _) ?_; refine so_q (qt_neq rfl rfl) rfl ?_) | refine so_nil ?_ | refine sk_seq ?_ | refine sk_block ?_ | refine sk_skip ?_ | refine sk_region ?_ | refine sk_if rfl (fun hc => ?_) (fun hc => ?_))
  · (apply sk_ret; apply ret_eq; (· apply RetOK.p; (· (apply GvA.cons; (· exact .tmp _); (· exact GvP.c (.lit _))); exact GvA.nil); (· (decide))))
    have : a ≠ b := fun e => by subst e; simp at *
    simp [this]
  have hab : a.length = b.length := by simp at *; omega
  apply sk_packC [0, 1, 5] [] rfl; (· (repeat (first | exact Pf.nil | apply Pf.cons (.c rfl (.d rfl))))); (· (repeat (exact Pb.nil)))
  refine sk_loopL [0, 1] [] (fun k => [(5, iN k)]) (fun _ => []) (fun k => k ≤ a.length ∧ a.take k = b.take k) (fun k => a.length - k) (0) ?_ (by (repeat (first | exact trivial | refine ⟨(by (rfl)), ?_⟩))) (by (repeat (exact trivial))) ?_
  · simp
  rintro k ⟨hk, hs⟩
  repeat' (first | (refine so_is (.assign _) ?_; (refine so_q (qt_asC rfl) rfl ?_)) | (refine so_is (.move _) ?_; (refine so_q (qt_mvC rfl) rfl ?_)) | (refine so_is (.call ⟨.builtin .len, _, #[29]⟩) ?_; (refine so_q (qt_len_d rfl (by kernel_rfl)) rfl ?_)) | (refine so_is (.binOp .neq 3 _ _ _) ?_; refine so_q (qt_neq rfl rfl) rfl ?_) | (refine so_is (.binOp .lss 3 _ _ _) ?_; refine so_q (qt_lss rfl rfl) rfl ?_) | (refine so_is (.indexAddr 29 _ _) ?_; (refine so_q (qt_idxI rfl rfl (by kernel_rfl) (by (omega)) (by (omega))) rfl ?_)) | (refine so_is (.load 3 _) ?_; (refine so_q (qt_load_pt rfl (by kernel_rfl) rfl) rfl ?_)) | (refine so_is (.binOp .add 3 _ _ _) ?_; refine so_q (qt_addI rfl rfl (by (omega))) rfl ?_) | refine so_nil ?_ | refine sk_seq ?_ | refine sk_block ?_ | refine sk_blk ?_ | refine sk_exit rfl ?_ | refine sk_skip ?_ | refine sk_region ?_ | refine sk_drawQ 6 (fun _ => false) (.step 0 true (.step 1 true (.step 2 true (.step 3 true (.step 4 true (.step 5 true (.step 6 true (.step 7 true (.step 8 true .nil))))))))) [(0, 511, 511, true), (0, 511, 511, true), (3, 508, 511, true), (4, 507, 511, false), (0, 511, 511, true), (0, 511, 511, true), (48, 463, 511, true), (64, 447, 511, false), (136, 375, 511, true)] (by kernel_rfl) (by kernel_rfl) ?_ | refine sk_if rfl (fun hc => ?_) (fun hc => ?_))
  · rename_i hk'
    rw [atZ_nat (by omega), atZ_nat (by omega)] at hc
    (apply sk_ret; apply ret_eq; (· apply RetOK.p; (· (apply GvA.cons; (· exact .tmp _); (· exact GvP.c (.lit _))); exact GvA.nil); (· (decide))))
    have : a ≠ b := fun e => by subst e; exact hc rfl
    simp [this]
  · rename_i hk'
    rw [atZ_nat (by omega), atZ_nat (by omega)] at hc
    refine sk_back ?_; refine ⟨k + 1, ?_, ?_, le_at rfl (by (repeat (first | exact trivial | refine ⟨(by (rfl)), ?_⟩))) (by (repeat (first | exact trivial | refine ⟨rfl, ?_⟩))) (by (repeat (exact trivial))) (by (repeat (exact trivial)))⟩
    · exact ⟨by omega, by rw [List.take_succ_eq_append_getElem (by omega), List.take_succ_eq_append_getElem (by omega), hs]; simp at hc; rw [hc]⟩
    · omega
  · have e : k = a.length := by omega
    subst e
    rw [List.take_length, hab, List.take_length] at hs
    (apply sk_ret; apply ret_eq; (· apply RetOK.p; (· (apply GvA.cons; (· exact .tmp _); (· exact GvP.c (.lit _))); exact GvA.nil); (· (decide))))
    simp [hs]
theorem eqIntS_same (a : List Int) : PC Try.prog 18 [.c (eI a), .c (eI a)] (.p (.c (dB true))) := by
  have := eqIntS_p a a; rwa [decide_eq_true rfl] at this

end Go.Proofs.Ytdnkmgbbkggmdaa

namespace Go.Proofs.Ytdnkmgbbkggmdaa
open Go.RowKit
set_option linter.unusedSectionVars false
variable [Glb]
set_option maxRecDepth 10000
set_option maxHeartbeats 4000000
theorem eqIntSS_p (a b : List (List Int)) : PC Try.prog 40 [.c (eII a), .c (eII b)] (.p (.c (dB (decide (a = b))))) := by
  refine pc_intro Try.func40 rfl rfl rfl (by kernel_rfl) rfl rfl ?_; rintro ⟨hl, hm, -⟩
  have hl := hl.len
  have hm := hm.len
  repeat' (first | (refine so_is (.assign _) ?_; (refine so_q (qt_asC rfl) rfl ?_)) | (refine so_is (.move _) ?_; (refine so_q (qt_mvC rfl) rfl ?_)) | (refine so_is (.call ⟨.builtin .len, _, #[30]⟩) ?_; (refine so_q (qt_len_d rfl (by kernel_rfl)) rfl ?_)) | (refine so_is (.binOp .neq 3 _ _ _) ?_; refine so_q (qt_neq rfl rfl) rfl ?_) | refine so_nil ?_ | refine sk_seq ?_ | refine sk_block ?_ | refine sk_skip ?_ | refine sk_region ?_ | refine sk_if rfl (fun hc => ?_) (fun hc => ?_))
  · (apply sk_ret; apply ret_eq; (· apply RetOK.p; (· (apply GvA.cons; (· exact .tmp _); (· exact GvP.c (.lit _))); exact GvA.nil); (· (decide))))
    have : a ≠ b := fun e => by subst e; simp at *
    simp [this]
  have hab : a.length = b.length := by simp at *; omega
  apply sk_packC [0, 1, 5] [] rfl; (· (repeat (first | exact Pf.nil | apply Pf.cons (.c rfl (.d rfl))))); (· (repeat (exact Pb.nil)))
  refine sk_loopL [0, 1] [] (fun k => [(5, iN k)]) (fun _ => []) (fun k => k ≤ a.length ∧ a.take k = b.take k) (fun k => a.length - k) (0) ?_ (by (repeat (first | exact trivial | refine ⟨(by (rfl)), ?_⟩))) (by (repeat (exact trivial))) ?_
  · simp
  rintro k ⟨hk, hs⟩
  repeat' (first | (refine so_is (.assign _) ?_; (refine so_q (qt_asC rfl) rfl ?_)) | (refine so_is (.move _) ?_; (refine so_q (qt_mvC rfl) rfl ?_)) | (refine so_is (.call ⟨.builtin .len, _, #[30]⟩) ?_; (refine so_q (qt_len_d rfl (by kernel_rfl)) rfl ?_)) | (refine so_is (.binOp .lss 3 _ _ _) ?_; refine so_q (qt_lss rfl rfl) rfl ?_) | (refine so_is (.indexAddr 30 _ _) ?_; (refine so_q (qt_idxII rfl rfl (by kernel_rfl) (by (omega)) (by (omega))) rfl ?_)) | (refine so_is (.load 29 _) ?_; (refine so_q (qt_load_pt rfl (by kernel_rfl) rfl) rfl ?_)) | (refine so_is (.unOp .not 4 _) ?_; refine so_q (qt_not rfl) rfl ?_) | (refine so_is (.binOp .add 3 _ _ _) ?_; refine so_q (qt_addI rfl rfl (by (omega))) rfl ?_) | (refine so_is (.call ⟨.value (.func 18), _, _⟩) ?_; (apply so_call0 (fid := 18); (· (repeat (first | exact SeA.nil | apply SeA.cons (.c (.d _))))); (· exact eqIntS_p _ _); (· rfl))) | refine so_nil ?_ | refine sk_seq ?_ | refine sk_block ?_ | refine sk_blk ?_ | refine sk_exit rfl ?_ | refine sk_skip ?_ | refine sk_region ?_ | refine sk_drawQ 6 (fun _ => false) (.step 0 true (.step 1 true (.step 2 true (.step 3 true (.step 4 true (.step 5 true (.step 6 true (.step 7 true (.step 8 false (.step 9 true .nil)))))))))) [(0, 1023, 1023, true), (0, 1023, 1023, true), (3, 1020, 1023, true), (4, 1019, 1023, false), (0, 1023, 1023, true), (0, 1023, 1023, true), (48, 975, 1023, true), (64, 959, 1023, false), (136, 887, 1023, false), (256, 767, 1023, true)] (by kernel_rfl) (by kernel_rfl) ?_ | refine sk_if rfl (fun hc => ?_) (fun hc => ?_) | refine sk_nif rfl (fun hc => ?_) (fun hc => ?_))
  · rename_i hk'
    rw [atZ_nat (by omega), atZ_nat (by omega)] at hc
    (apply sk_ret; apply ret_eq; (· apply RetOK.p; (· (apply GvA.cons; (· exact .tmp _); (· exact GvP.c (.lit _))); exact GvA.nil); (· (decide))))
    have : a ≠ b := fun e => by subst e; simp at hc
    simp [this]
  · rename_i hk'
    rw [atZ_nat (by omega), atZ_nat (by omega)] at hc
    refine sk_back ?_; refine ⟨k + 1, ?_, ?_, le_at rfl (by (repeat (first | exact trivial | refine ⟨(by (rfl)), ?_⟩))) (by (repeat (first | exact trivial | refine ⟨rfl, ?_⟩))) (by (repeat (exact trivial))) (by (repeat (exact trivial)))⟩
    · exact ⟨by omega, by rw [List.take_succ_eq_append_getElem (by omega), List.take_succ_eq_append_getElem (by omega), hs, hc]⟩
    · omega
  · have e : k = a.length := by omega
    subst e
    rw [List.take_length, hab, List.take_length] at hs
    (apply sk_ret; apply ret_eq; (· apply RetOK.p; (· (apply GvA.cons; (· exact .tmp _); (· exact GvP.c (.lit _))); exact GvA.nil); (· (decide))))
    simp [hs]
theorem eqIntSS_same (a : List (List Int)) : PC Try.prog 40 [.c (eII a), .c (eII a)] (.p (.c (dB true))) := by
  have := eqIntSS_p a a; rwa [decide_eq_true rfl] at this

end Go.Proofs.Ytdnkmgbbkggmdaa

namespace Go.Proofs.Ytdnkmgbbkggmdaa
open Go.RowKit
set_option linter.unusedSectionVars false
variable [Glb]
set_option maxRecDepth 10000
set_option maxHeartbeats 4000000
theorem eqGame_same (x : Int) (y : Int) (we : List Int) (wi : List (List Int)) : PC Try.prog 14 [.g [dI x, dI y, eI we, eII wi], .g [dI x, dI y, eI we, eII wi]] (.p (.c (dB true))) := by
  refine pc_intro Try.func14 rfl rfl rfl (by kernel_rfl) rfl rfl ?_; intro _
  repeat' (first | (refine so_is (.box 36 _) ?_; refine so_box rfl rfl ?_) | (refine so_is (.assign _) ?_; (refine so_q (qt_asC rfl) rfl ?_)) | (refine so_is (.fieldAddr 36 _ 0) ?_; (refine so_q (qt_fld_lp (off := 0) rfl (by kernel_rfl)) rfl ?_)) | (refine so_is (.load 3 _) ?_; (refine so_q (qt_load_box rfl rfl (by kernel_rfl) rfl) rfl ?_)) | (refine so_is (.binOp .neq 3 _ _ _) ?_; (refine so_q (qt_neq_same rfl rfl) rfl ?_)) | (refine so_is (.fieldAddr 36 _ 1) ?_; (refine so_q (qt_fld_lp (off := 1) rfl (by kernel_rfl)) rfl ?_)) | (refine so_is (.fieldAddr 36 _ 2) ?_; (refine so_q (qt_fld_lp (off := 2) rfl (by kernel_rfl)) rfl ?_)) | (refine so_is (.load 29 _) ?_; (refine so_q (qt_load_box rfl rfl (by kernel_rfl) rfl) rfl ?_)) | (refine so_is (.unOp .not 4 _) ?_; refine so_q (qt_not rfl) rfl ?_) | (refine so_is (.fieldAddr 36 _ 3) ?_; (refine so_q (qt_fld_lp (off := 3) rfl (by kernel_rfl)) rfl ?_)) | (refine so_is (.load 30 _) ?_; (refine so_q (qt_load_box rfl rfl (by kernel_rfl) rfl) rfl ?_)) | (refine so_is (.call ⟨.value (.func 18), _, _⟩) ?_; (apply so_call0 (fid := 18); (· (repeat (first | exact SeA.nil | apply SeA.cons (.c (.d _))))); (· exact eqIntS_same _); (· rfl))) | (refine so_is (.call ⟨.value (.func 40), _, _⟩) ?_; (apply so_call0 (fid := 40); (· (repeat (first | exact SeA.nil | apply SeA.cons (.c (.d _))))); (· exact eqIntSS_same _); (· rfl))) | refine so_nil ?_ | refine sk_seq ?_ | refine sk_skip ?_ | refine sk_region ?_ | refine sk_false rfl ?_)
  · (apply sk_ret; apply ret_eq; (· apply RetOK.p; (· (apply GvA.cons; (· exact .tmp _); (· exact GvP.c (.lit _))); exact GvA.nil); (· (decide))))
    rfl

end Go.Proofs.Ytdnkmgbbkggmdaa

namespace Go.Proofs.Ytdnkmgbbkggmdaa
open Go.RowKit
set_option linter.unusedSectionVars false
variable [Glb]
set_option maxRecDepth 10000
set_option maxHeartbeats 4000000
theorem heldIntS_p (l : List Int) (n : Nat) (k : Int) (e : l = mkI k n) (h0 : 0 ≤ k) (h1 : k + n ≤ 1099511627776) : PC Try.prog 45 [.c (eI l), .c (dI k)] (.p (.c (dI (k + n)))) := by
  subst e
  refine pc_intro Try.func45 rfl rfl rfl (by kernel_rfl) rfl rfl ?_; rintro -
  repeat' (first | (refine so_is (.assign _) ?_; (refine so_q (qt_asC rfl) rfl ?_)) | refine so_nil ?_ | refine sk_seq ?_ | refine sk_block ?_ | refine sk_region ?_)
  apply sk_packC [0, 1, 5] [] rfl; (· (repeat (first | exact Pf.nil | apply Pf.cons (.c rfl (.d rfl))))); (· (repeat (exact Pb.nil)))
  refine sk_loopL [0] [] (fun j => [(5, iN j), (1, iZ (k + j))]) (fun _ => []) (fun j => j ≤ n) (fun j => n - j) (0) ?_ (by (repeat (first | exact trivial | refine ⟨(by (first | rfl | (refine int_eq rfl ?_; (omega)))), ?_⟩))) (by (repeat (exact trivial))) ?_
  · simp
  intro j hj
  have hn := mkI_len k n
  repeat' (first | (refine so_is (.assign _) ?_; (refine so_q (qt_asC rfl) rfl ?_)) | (refine so_is (.move _) ?_; (refine so_q (qt_mvC rfl) rfl ?_)) | (refine so_is (.call ⟨.builtin .len, _, #[29]⟩) ?_; (refine so_q (qt_len_d rfl (by kernel_rfl)) rfl ?_)) | (refine so_is (.binOp .lss 3 _ _ _) ?_; refine so_q (qt_lss rfl rfl) rfl ?_) | (refine so_is (.indexAddr 29 _ _) ?_; (refine so_q (qt_idxI rfl rfl (by kernel_rfl) (by (omega)) (by (omega))) rfl ?_)) | (refine so_is (.load 3 _) ?_; (refine so_q (qt_load_pt rfl (by kernel_rfl) rfl) rfl ?_)) | (refine so_is (.binOp .neq 3 _ _ _) ?_; refine so_q (qt_neq rfl rfl) rfl ?_) | (refine so_is (.binOp .add 3 _ _ _) ?_; refine so_q (qt_addI rfl rfl (by (omega))) rfl ?_) | refine so_nil ?_ | refine sk_seq ?_ | refine sk_block ?_ | refine sk_blk ?_ | refine sk_exit rfl ?_ | refine sk_skip ?_ | refine sk_region ?_ | refine sk_if rfl (fun hc => ?_) (fun hc => ?_))
  · rename_i hj'
    have hj2 : j < n := by simp at *; omega
    rw [atZ_nat (by simpa using hj2), mkI_get] at hc
    exact absurd rfl hc
  · rename_i hj'
    have hj2 : j < n := by simp at *; omega
    refine sk_back ?_; refine ⟨j + 1, ?_, ?_, le_at rfl (by (repeat (first | exact trivial | refine ⟨(by (first | rfl | (refine int_eq rfl ?_; (omega)))), ?_⟩))) (by (repeat (first | exact trivial | refine ⟨rfl, ?_⟩))) (by (repeat (exact trivial))) (by (repeat (exact trivial)))⟩
    · omega
    · omega
  · have : j = n := by simp at *; omega
    subst this
    (apply sk_ret; apply ret_eq; (· apply RetOK.p; (· (apply GvA.cons; (· exact .tmp _); (· exact GvP.c (.lit _))); exact GvA.nil); (· (decide))))
    rfl
theorem heldIntS_k (n : Nat) (k : Int) (h0 : 0 ≤ k) (h1 : k + n ≤ 1099511627776) : PC Try.prog 45 [.c (.sl 1 n (cI (mkI k n))), .c (dI k)] (.p (.c (dI (k + n)))) := by
  have := heldIntS_p (mkI k n) n k rfl h0 h1; simp only [eI, mkI_len] at this; exact this

end Go.Proofs.Ytdnkmgbbkggmdaa

namespace Go.Proofs.Ytdnkmgbbkggmdaa
open Go.RowKit
set_option linter.unusedSectionVars false
variable [Glb]
set_option maxRecDepth 10000
set_option maxHeartbeats 4000000
theorem mkII_atZ {ll : List (List Int)} {k : Int} {j : Nat} (h : j < ll.length) : atZ (mkII k ll) (j : Int) = mkI (k + cnt (ll.take j)) ll[j].length := by
  unfold atZ; rw [Int.toNat_natCast, List.getD_eq_getElem?_getD, mkII_at h]; rfl
theorem heldIntSS_p (lk ll : List (List Int)) (k : Int) (e : lk = mkII k ll) (h0 : 0 ≤ k) (h1 : k + cnt ll ≤ 1099511627776) : PC Try.prog 46 [.c (eII lk), .c (dI k)] (.p (.c (dI (k + cnt ll)))) := by
  subst e
  refine pc_intro Try.func46 rfl rfl rfl (by kernel_rfl) rfl rfl ?_; rintro ⟨hl, -⟩
  have hl := hl.len
  rw [mkII_len] at hl
  repeat' (first | (refine so_is (.assign _) ?_; (refine so_q (qt_asC rfl) rfl ?_)) | refine so_nil ?_ | refine sk_seq ?_ | refine sk_block ?_ | refine sk_region ?_)
  apply sk_packC [0, 1, 5] [] rfl; (· (repeat (first | exact Pf.nil | apply Pf.cons (.c rfl (.d rfl))))); (· (repeat (exact Pb.nil)))
  refine sk_loopL [0] [] (fun j => [(5, iN j), (1, iZ (k + cnt (ll.take j)))]) (fun _ => []) (fun j => j ≤ ll.length) (fun j => ll.length - j) (0) ?_ (by (repeat (first | exact trivial | refine ⟨(by (first | rfl | (refine int_eq rfl ?_; ((simp  [cnt]; done))))), ?_⟩))) (by (repeat (exact trivial))) ?_
  · simp
  intro j hj
  have hn := mkII_len k ll
  have hle := cnt_take_le ll (j + 1)
  have hst : ∀ h : j < ll.length, _ := fun h => cnt_take ll j h
  repeat' (first | (refine so_is (.assign _) ?_; (refine so_q (qt_asC rfl) rfl ?_)) | (refine so_is (.move _) ?_; (refine so_q (qt_mvC rfl) rfl ?_)) | (refine so_is (.call ⟨.builtin .len, _, #[30]⟩) ?_; (refine so_q (qt_len_d rfl (by kernel_rfl)) rfl ?_)) | (refine so_is (.binOp .lss 3 _ _ _) ?_; refine so_q (qt_lss rfl rfl) rfl ?_) | (refine so_is (.indexAddr 30 _ _) ?_; (refine so_q (qt_idxII rfl rfl (by kernel_rfl) (by (omega)) (by (omega))) rfl ?_)) | (refine so_is (.load 29 _) ?_; (refine so_q (qt_load_pt rfl (by kernel_rfl) rfl) rfl ?_)) | (refine so_is (.binOp .add 3 _ _ _) ?_; refine so_q (qt_addI rfl rfl (by (omega))) rfl ?_) | (refine so_is (.call ⟨.value (.func 45), _, _⟩) ?_; (apply so_call0 (fid := 45); (· (repeat (first | exact SeA.nil | apply SeA.cons (.c (.d _))))); (· exact heldIntS_p _ (ll[j]'(by omega)).length _ (mkII_atZ (by omega)) (by omega) (by have := hst (by omega); omega)); (· rfl))) | refine so_nil ?_ | refine sk_seq ?_ | refine sk_block ?_ | refine sk_blk ?_ | refine sk_exit rfl ?_ | refine sk_skip ?_ | refine sk_region ?_ | refine sk_if rfl (fun hc => ?_) (fun hc => ?_))
  · rename_i hj'
    have := hst (by omega)
    exfalso; omega
  · rename_i hj'
    have := hst (by omega)
    refine sk_back ?_; refine ⟨j + 1, ?_, ?_, le_at rfl (by (repeat (first | exact trivial | refine ⟨(by (first | rfl | (refine int_eq rfl ?_; (omega)))), ?_⟩))) (by (repeat (first | exact trivial | refine ⟨rfl, ?_⟩))) (by (repeat (exact trivial))) (by (repeat (exact trivial)))⟩
    · omega
    · omega
  · have : j = ll.length := by omega
    subst this
    (apply sk_ret; apply ret_eq; (· apply RetOK.p; (· (apply GvA.cons; (· exact .tmp _); (· exact GvP.c (.lit _))); exact GvA.nil); (· (decide))))
    simp
theorem heldIntSS_k (ll : List (List Int)) (k : Int) (h0 : 0 ≤ k) (h1 : k + cnt ll ≤ 1099511627776) : PC Try.prog 46 [.c (.sl 1 ll.length (cII (mkII k ll))), .c (dI k)] (.p (.c (dI (k + cnt ll)))) := by
  have := heldIntSS_p (mkII k ll) ll k rfl h0 h1; simp only [eII, mkII_len] at this; exact this

end Go.Proofs.Ytdnkmgbbkggmdaa

namespace Go.Proofs.Ytdnkmgbbkggmdaa
open Go.RowKit
set_option linter.unusedSectionVars false
variable [Glb]
set_option maxRecDepth 10000
set_option maxHeartbeats 4000000
theorem heldGame_k (x : Int) (y : Int) (we : List Int) (wi : List (List Int)) (k : Int) (h0 : 0 ≤ k) (h1 : k + we.length + cnt wi ≤ 1099511627776) : PC Try.prog 21 [.g [dI x, dI y, .sl 1 we.length (cI (mkI (k) we.length)), .sl 1 wi.length (cII (mkII (k + we.length) wi))], .c (dI k)] (.p (.c (dI (k + we.length + cnt wi)))) := by
  refine pc_intro Try.func21 rfl rfl rfl (by kernel_rfl) rfl rfl ?_; intro _
  repeat' (first | (refine so_is (.box 36 _) ?_; refine so_box rfl rfl ?_) | (refine so_is (.assign _) ?_; (refine so_q (qt_asC rfl) rfl ?_)) | (refine so_is (.fieldAddr 36 _ 2) ?_; (refine so_q (qt_fld_lp (off := 2) rfl (by kernel_rfl)) rfl ?_)) | (refine so_is (.load 29 _) ?_; (refine so_q (qt_load_box rfl rfl (by kernel_rfl) rfl) rfl ?_)) | (refine so_is (.move _) ?_; (refine so_q (qt_mvC rfl) rfl ?_)) | (refine so_is (.binOp .lss 3 _ _ _) ?_; refine so_q (qt_lss rfl rfl) rfl ?_) | (refine so_is (.fieldAddr 36 _ 3) ?_; (refine so_q (qt_fld_lp (off := 3) rfl (by kernel_rfl)) rfl ?_)) | (refine so_is (.load 30 _) ?_; (refine so_q (qt_load_box rfl rfl (by kernel_rfl) rfl) rfl ?_)) | (refine so_is (.call ⟨.value (.func 45), _, _⟩) ?_; (apply so_call0 (fid := 45); (· (repeat (first | exact SeA.nil | apply SeA.cons (.c (.d _))))); (· exact heldIntS_k _ _ (by omega) (by omega)); (· rfl))) | (refine so_is (.call ⟨.value (.func 46), _, _⟩) ?_; (apply so_call0 (fid := 46); (· (repeat (first | exact SeA.nil | apply SeA.cons (.c (.d _))))); (· exact heldIntSS_k _ _ (by omega) (by omega)); (· rfl))) | refine so_nil ?_ | refine sk_seq ?_ | refine sk_skip ?_ | refine sk_region ?_ | refine sk_if rfl (fun hc => ?_) (fun hc => ?_))
  all_goals first | (exfalso; omega) | skip
  · (apply sk_ret; apply ret_eq; (· apply RetOK.p; (· (apply GvA.cons; (· exact .tmp _); (· exact GvP.c (.lit _))); exact GvA.nil); (· (decide))))
    rfl

end Go.Proofs.Ytdnkmgbbkggmdaa

namespace Go.Proofs.Ytdnkmgbbkggmdaa
open Go.RowKit
set_option linter.unusedSectionVars false
variable [Glb]
set_option maxRecDepth 10000
set_option maxHeartbeats 4000000
theorem markIntS_m (l : List Int) (k : Int) (h0 : 0 ≤ k) (h1 : k + l.length ≤ 1099511627776) : PM Try.prog 20 [.c (eI l), .c (dI k)] [eI (mkI k l.length), dI k] (.c (dI (k + l.length))) := by
  refine pm_intro Try.func20 rfl rfl rfl (by kernel_rfl) rfl rfl ?_; intro _
  repeat' (first | (refine so_is (.assign _) ?_; (refine so_q (qt_asC rfl) rfl ?_)) | refine so_nil ?_ | refine sk_seq ?_ | refine sk_block ?_ | refine sk_region ?_)
  apply sk_packC [0, 1, 5] [1000000] rfl; (· (repeat (first | exact Pf.nil | apply Pf.cons (.c rfl (.d rfl)) | apply Pf.cons (.c rfl (.ls rfl))))); (· (repeat (first | exact Pb.nil | apply Pb.cons (.row rfl))))
  refine sk_loopL [0] [] (fun j => [(5, iN j), (1, iZ (k + j))]) (fun j => [(1000000, .row 1 (cI (mkL l k j)))]) (fun j => j ≤ l.length) (fun j => l.length - j) (0) ?_ (by (repeat (first | exact trivial | refine ⟨(by (first | rfl | (refine int_eq rfl ?_; (omega)))), ?_⟩))) (by (repeat (first | exact trivial | refine ⟨(by ((refine row_eq rfl ?_; simp  [mkL_zero]; done))), ?_⟩))) ?_
  · simp
  intro j hj
  have hL := mkL_len l k hj
  repeat' (first | (refine so_is (.assign _) ?_; (refine so_q (qt_asC rfl) rfl ?_)) | (refine so_is (.move _) ?_; (refine so_q (qt_mvC rfl) rfl ?_)) | (refine so_is (.call ⟨.builtin .len, _, #[29]⟩) ?_; (refine so_q (qt_len_ls rfl (by kernel_rfl)) rfl ?_)) | (refine so_is (.binOp .lss 3 _ _ _) ?_; refine so_q (qt_lss rfl rfl) rfl ?_) | (refine so_is (.indexAddr 29 _ _) ?_; (refine so_q (qt_idx_ls rfl rfl (by kernel_rfl : tSl _ 29 1 = true) (by (omega)) (by (omega))) rfl ?_)) | (refine so_is (.store 3 _ _) ?_; ((refine so_store_row rfl rfl rfl rfl (.lit _) (by simp) (by simp) (by kernel_rfl) (by ((simp only [List.length_map, List.length_append, List.length_replicate, fillL_len, rowF_len, gridF_len, mkI_len, mkII_len, partZ_min] at *; omega))) rfl ?_; simp only [St.drop]))) | (refine so_is (.binOp .add 3 _ _ _) ?_; refine so_q (qt_addI rfl rfl (by (omega))) rfl ?_) | refine so_nil ?_ | refine sk_seq ?_ | refine sk_block ?_ | refine sk_blk ?_ | refine sk_exit rfl ?_ | refine sk_skip ?_ | refine sk_region ?_ | refine sk_if rfl (fun hc => ?_) (fun hc => ?_))
  · have hj' : j < l.length := by omega
    refine sk_back ?_; refine ⟨j + 1, ?_, ?_, le_at rfl (by (repeat (first | exact trivial | refine ⟨(by (first | rfl | (refine int_eq rfl ?_; (omega)))), ?_⟩))) (by (repeat (first | exact trivial | refine ⟨rfl, ?_⟩))) (by (repeat (first | exact trivial | refine ⟨(by ((refine row_eq rfl ?_; simp  [← List.map_set, mkL_set hj']; done))), ?_⟩))) (by (repeat (exact trivial)))⟩
    · omega
    · omega
  · have : j = l.length := by omega
    subst this
    rw [mkL_all]
    (refine sk_mret rfl ?_ ?_; rotate_left; (· (repeat (first | exact .nil _ | refine .lit ?_ | refine .sl2 rfl (by ((simp; done))) (by ((simp; done))) ?_))))
    rfl

end Go.Proofs.Ytdnkmgbbkggmdaa

namespace Go.Proofs.Ytdnkmgbbkggmdaa
open Go.RowKit
set_option linter.unusedSectionVars false
variable [Glb]
set_option maxRecDepth 10000
set_option maxHeartbeats 4000000
theorem markIntSS_m (ll : List (List Int)) (k : Int) (h0 : 0 ≤ k) (h1 : k + cnt ll ≤ 1099511627776) : PM Try.prog 44 [.c (eII ll), .c (dI k)] [eII (mkII k ll), dI k] (.c (dI (k + cnt ll))) := by
  refine pm_intro Try.func44 rfl rfl rfl (by kernel_rfl) rfl rfl ?_; rintro hf
  have hl := (hf.at 0 rfl).len
  repeat' (first | (refine so_is (.assign _) ?_; (refine so_q (qt_asC rfl) rfl ?_)) | refine so_nil ?_ | refine sk_seq ?_ | refine sk_block ?_ | refine sk_region ?_)
  apply sk_packC [0, 1, 5] [1000000] rfl; (· (repeat (first | exact Pf.nil | apply Pf.cons (.c rfl (.d rfl)) | apply Pf.cons (.c rfl (.ls rfl))))); (· (repeat (first | exact Pb.nil | apply Pb.cons (.row rfl))))
  refine sk_loopL [0] [] (fun j => [(5, iN j), (1, iZ (k + cnt (ll.take j)))]) (fun j => [(1000000, .row 1 (cII (mkLL ll k j)))]) (fun j => j ≤ ll.length) (fun j => ll.length - j) (0) ?_ (by (repeat (first | exact trivial | refine ⟨(by (first | rfl | (refine int_eq rfl ?_; ((simp  [mkLL_zero, cnt]; done))))), ?_⟩))) (by (repeat (first | exact trivial | refine ⟨(by ((refine row_eq rfl ?_; simp  [mkLL_zero, cnt]; done))), ?_⟩))) ?_
  · simp
  intro j hj
  have hL := mkLL_len ll k hj
  have hle := cnt_take_le ll (j + 1)
  have hst : ∀ h : j < ll.length, _ := fun h => cnt_take ll j h
  repeat' (first | (refine so_is (.assign _) ?_; (refine so_q (qt_asC rfl) rfl ?_)) | (refine so_is (.move _) ?_; (refine so_q (qt_mvC rfl) rfl ?_)) | (refine so_is (.call ⟨.builtin .len, _, #[30]⟩) ?_; (refine so_q (qt_len_ls rfl (by kernel_rfl)) rfl ?_)) | (refine so_is (.binOp .lss 3 _ _ _) ?_; refine so_q (qt_lss rfl rfl) rfl ?_) | refine so_nil ?_ | refine sk_seq ?_ | refine sk_block ?_ | refine sk_exit rfl ?_ | refine sk_skip ?_ | refine sk_region (id := 2) ?_ | refine sk_region (id := 5) ?_ | refine sk_if rfl (fun hc => ?_) (fun hc => ?_))
  · refine sk_region (id := 4) ?_
    all_goals ((refine so_q (qt_mvC rfl) rfl ?_))
    all_goals ((refine so_q (qt_mvC rfl) rfl ?_))
    all_goals ((refine so_q (qt_idx_ls rfl rfl (by kernel_rfl : tSl _ 30 1 = true) (by (omega)) (by (omega))) rfl ?_))
    all_goals (refine so_thaw (c := 2000) (sz' := 1) (n := (ll[j]'(by omega)).length) (ds' := cI (ll[j]'(by omega))) rfl rfl (by kernel_rfl) (by simp [mkLL_get (show j < ll.length by omega)]) rfl rfl rfl ?_)
    all_goals ((refine so_q (qt_mvC rfl) rfl ?_))
    all_goals ((apply so_callM (fid := 20); (· (repeat (first | exact ArgM.nil | apply ArgM.c rfl (.lit _) | apply ArgM.c rfl (.row _ _ _ _ rfl (by ((simp; done))))))); (· (decide)); (· exact markIntS_m _ _ (by omega) (by have := hst (by omega); omega)); (· rfl); (· rfl)))
    all_goals (refine so_ghost (sim_back (b := 1000000) (c := 2000) rfl rfl (by simp) rfl) ?_; refine so_q (qt_asC rfl) rfl ?_)
    all_goals refine so_nil ?_
    repeat' (first | (refine so_is (.assign _) ?_; (refine so_q (qt_asC rfl) rfl ?_)) | (refine so_is (.move _) ?_; (refine so_q (qt_mvC rfl) rfl ?_)) | (refine so_is (.binOp .add 3 _ _ _) ?_; refine so_q (qt_addI rfl rfl (by (omega))) rfl ?_) | refine so_nil ?_ | refine sk_blk ?_ | refine sk_region ?_)
    have := hst (by omega)
    have hj1 : j < ll.length := by omega
    refine sk_back ?_; refine ⟨j + 1, ?_, ?_, le_at rfl (by (repeat (first | exact trivial | refine ⟨(by (first | rfl | (refine int_eq rfl ?_; (omega)))), ?_⟩))) (by (repeat (first | exact trivial | refine ⟨rfl, ?_⟩))) (by (repeat (first | exact trivial | refine ⟨(by ((refine row_eq rfl ?_; simp  [List.map_set, ← mkLL_set hj1, eI]; done))), ?_⟩))) (by (repeat (exact trivial)))⟩
    · omega
    · omega
  · have : j = ll.length := by omega
    subst this
    rw [mkLL_all, List.take_length]
    (refine sk_mret rfl ?_ ?_; rotate_left; (· (repeat (first | exact .nil _ | refine .lit ?_ | refine .sl2 rfl (by ((simp; done))) (by ((simp; done))) ?_))))
    rfl

end Go.Proofs.Ytdnkmgbbkggmdaa

namespace Go.Proofs.Ytdnkmgbbkggmdaa
open Go.RowKit
set_option linter.unusedSectionVars false
variable [Glb]
set_option maxRecDepth 10000
set_option maxHeartbeats 4000000
theorem markGame_m (x : Int) (y : Int) (we : List Int) (wi : List (List Int)) (k : Int) (h0 : 0 ≤ k) (h1 : k + we.length + cnt wi ≤ 1099511627776) : PM Try.prog 19 [.g [dI x, dI y, eI we, eII wi], .c (dI k)] [dI x, dI y, .sl 1 we.length (cI (mkI (k) we.length)), .sl 1 wi.length (cII (mkII (k + we.length) wi)), dI k] (.c (dI (k + we.length + cnt wi))) := by
  refine pm_intro Try.func19 rfl rfl rfl (by kernel_rfl) rfl rfl ?_; intro _
  repeat' (first | (refine so_is (.box 36 _) ?_; refine so_box rfl rfl ?_) | (refine so_is (.assign _) ?_; (refine so_q (qt_asC rfl) rfl ?_)) | (refine so_is (.fieldAddr 36 _ 2) ?_; (refine so_q (qt_fld_lp (off := 2) rfl (by kernel_rfl)) rfl ?_)) | (refine so_is (.load 29 _) ?_; (refine so_q (qt_load_box rfl rfl (by kernel_rfl) rfl) rfl ?_)) | (refine so_is (.move _) ?_; (refine so_q (qt_mvC rfl) rfl ?_)) | (refine so_is (.fieldAddr 36 _ 3) ?_; (refine so_q (qt_fld_lp (off := 3) rfl (by kernel_rfl)) rfl ?_)) | (refine so_is (.load 30 _) ?_; (refine so_q (qt_load_box rfl rfl (by kernel_rfl) rfl) rfl ?_)) | (refine so_is (.call ⟨.value (.func 20), _, _⟩) ?_; (apply so_callM (fid := 20); (· (repeat (first | exact ArgM.nil | apply ArgM.c rfl (.lit _) | apply ArgM.c rfl (.row _ _ _ _ rfl (by ((simp; done))))))); (· (decide)); (· exact markIntS_m _ _ (by omega) (by omega)); (· rfl); (· rfl))) | (refine so_is (.call ⟨.value (.func 44), _, _⟩) ?_; (apply so_callM (fid := 44); (· (repeat (first | exact ArgM.nil | apply ArgM.c rfl (.lit _) | apply ArgM.c rfl (.row _ _ _ _ rfl (by ((simp; done))))))); (· (decide)); (· exact markIntSS_m _ _ (by omega) (by omega)); (· rfl); (· rfl))) | refine so_nil ?_ | refine sk_seq ?_ | refine sk_region ?_)
  · (refine sk_mret rfl ?_ ?_; rotate_left; (· (repeat (first | exact .nil _ | refine .lit ?_ | refine .sl rfl (by ((simp; done))) ?_))))
    rfl

end Go.Proofs.Ytdnkmgbbkggmdaa

namespace Go.Proofs.Ytdnkmgbbkggmdaa
open Go.RowKit
set_option linter.unusedSectionVars false
variable [Glb]
set_option maxRecDepth 10000
set_option maxHeartbeats 4000000
theorem szIntS_p (l : List Int) (left : Int) (h0 : 0 ≤ left) (h1 : left ≤ 1048576) : PC Try.prog 25 [.c (eI l), .c (dI left)] (.p (.c (dI (szI l.length left)))) := by
  refine pc_intro Try.func25 rfl rfl rfl (by kernel_rfl) rfl rfl ?_; rintro ⟨hl, -⟩
  have hl := hl.len
  repeat' (first | (refine so_is (.assign _) ?_; (refine so_q (qt_asC rfl) rfl ?_)) | (refine so_is (.move _) ?_; (refine so_q (qt_mvC rfl) rfl ?_)) | (refine so_is (.call ⟨.builtin .len, _, #[29]⟩) ?_; (refine so_q (qt_len_d rfl (by kernel_rfl)) rfl ?_)) | (refine so_is (.binOp .sub 3 _ _ _) ?_; refine so_q (qt_subI rfl rfl (by (omega))) rfl ?_) | (refine so_is (.binOp .lss 3 _ _ _) ?_; refine so_q (qt_lss rfl rfl) rfl ?_) | refine so_nil ?_ | refine sk_seq ?_ | refine sk_skip ?_ | refine sk_region ?_ | refine sk_if rfl (fun hc => ?_) (fun hc => ?_))
  all_goals ((apply sk_ret; apply ret_eq; (· apply RetOK.p; (· (apply GvA.cons; (· exact .tmp _); (· exact GvP.c (.lit _))); exact GvA.nil); (· (decide)))))
  all_goals simp [szI]
  all_goals omega
theorem szIntS_ok (l : List Int) (left : Int) (h : l.length ≤ left) (h1 : left ≤ 1048576) : PC Try.prog 25 [.c (eI l), .c (dI left)] (.p (.c (dI (left - l.length)))) := by
  have := szIntS_p l left (by omega) h1; rwa [show szI l.length left = left - l.length by unfold szI; rw [if_neg (by omega)]] at this
theorem szIntS_no (l : List Int) (left : Int) (h : left < l.length) (h0 : 0 ≤ left) (h1 : left ≤ 1048576) : PC Try.prog 25 [.c (eI l), .c (dI left)] (.p (.c (dI (-1)))) := by
  have := szIntS_p l left h0 h1; rwa [show szI l.length left = -1 by unfold szI; rw [if_pos (by omega)]] at this

end Go.Proofs.Ytdnkmgbbkggmdaa

namespace Go.Proofs.Ytdnkmgbbkggmdaa
open Go.RowKit
set_option linter.unusedSectionVars false
variable [Glb]
set_option maxRecDepth 10000
set_option maxHeartbeats 4000000
theorem szR_take (ll : List (List Int)) (k : Nat) (left : Int) (h : k < ll.length) : szR (ll.drop k) left = if szI ll[k].length left < 0 then -1 else szR (ll.drop (k + 1)) (szI ll[k].length left) := by
  rw [List.drop_eq_getElem_cons h]; rfl
theorem szIntSS_p (ll : List (List Int)) (left : Int) (h0 : 0 ≤ left) (h1 : left ≤ 1048576) : PC Try.prog 26 [.c (eII ll), .c (dI left)] (.p (.c (dI (szL ll.length ll left)))) := by
  refine pc_intro Try.func26 rfl rfl rfl (by kernel_rfl) rfl rfl ?_; rintro ⟨hl, -⟩
  have hl := hl.len
  repeat' (first | (refine so_is (.assign _) ?_; (refine so_q (qt_asC rfl) rfl ?_)) | (refine so_is (.move _) ?_; (refine so_q (qt_mvC rfl) rfl ?_)) | (refine so_is (.call ⟨.builtin .len, _, #[30]⟩) ?_; (refine so_q (qt_len_d rfl (by kernel_rfl)) rfl ?_)) | (refine so_is (.binOp .sub 3 _ _ _) ?_; refine so_q (qt_subI rfl rfl (by (omega))) rfl ?_) | (refine so_is (.binOp .lss 3 _ _ _) ?_; refine so_q (qt_lss rfl rfl) rfl ?_) | refine so_nil ?_ | refine sk_seq ?_ | refine sk_block ?_ | refine sk_skip ?_ | refine sk_region ?_ | refine sk_if rfl (fun hc => ?_) (fun hc => ?_))
  · (apply sk_ret; apply ret_eq; (· apply RetOK.p; (· (apply GvA.cons; (· exact .tmp _); (· exact GvP.c (.lit _))); exact GvA.nil); (· (decide))))
    simp [szL]; omega
  apply sk_packC [0, 1, 5] [] rfl; (· (repeat (first | exact Pf.nil | apply Pf.cons (.c rfl (.d rfl))))); (· (repeat (exact Pb.nil)))
  refine sk_loopL [0] [] (fun g => [(5, iN g.1), (1, iZ g.2)]) (fun _ => []) (fun g => g.1 ≤ ll.length ∧ 0 ≤ g.2 ∧ g.2 ≤ 1048576 ∧ szR (ll.drop g.1) g.2 = szR ll (left - ll.length)) (fun g => ll.length - g.1) (((0 : Nat), left - ll.length)) ?_ (by (repeat (first | exact trivial | refine ⟨(by (rfl)), ?_⟩))) (by (repeat (exact trivial))) ?_
  · simp; omega
  rintro ⟨k, c⟩ ⟨hk, hc0, hc1, hs⟩
  simp only at hk hc0 hc1 hs
  repeat' (first | (refine so_is (.assign _) ?_; (refine so_q (qt_asC rfl) rfl ?_)) | (refine so_is (.move _) ?_; (refine so_q (qt_mvC rfl) rfl ?_)) | (refine so_is (.call ⟨.builtin .len, _, #[30]⟩) ?_; (refine so_q (qt_len_d rfl (by kernel_rfl)) rfl ?_)) | (refine so_is (.binOp .lss 3 _ _ _) ?_; refine so_q (qt_lss rfl rfl) rfl ?_) | (refine so_is (.indexAddr 30 _ _) ?_; (refine so_q (qt_idxII rfl rfl (by kernel_rfl) (by (omega)) (by (omega))) rfl ?_)) | (refine so_is (.load 29 _) ?_; (refine so_q (qt_load_pt rfl (by kernel_rfl) rfl) rfl ?_)) | (refine so_is (.binOp .add 3 _ _ _) ?_; refine so_q (qt_addI rfl rfl (by (omega))) rfl ?_) | (refine so_is (.call ⟨.value (.func 25), _, _⟩) ?_; (apply so_call0 (fid := 25); (· (repeat (first | exact SeA.nil | apply SeA.cons (.c (.d _))))); (· exact szIntS_p _ _ hc0 hc1); (· rfl))) | refine so_nil ?_ | refine sk_seq ?_ | refine sk_block ?_ | refine sk_blk ?_ | refine sk_exit rfl ?_ | refine sk_skip ?_ | refine sk_region ?_ | refine sk_if rfl (fun hc => ?_) (fun hc => ?_))
  · rename_i hk'
    rw [atZ_nat (by omega)] at hc
    have e := szR_take ll k c (by omega)
    rw [if_pos hc, hs] at e
    (apply sk_ret; apply ret_eq; (· apply RetOK.p; (· (apply GvA.cons; (· exact .tmp _); (· exact GvP.c (.lit _))); exact GvA.nil); (· (decide))))
    simp [szL, e]
  · rename_i hk'
    rw [atZ_nat (by omega)] at hc
    have e := szR_take ll k c (by omega)
    rw [if_neg hc, hs] at e
    have h2 : szI ll[k].length c ≤ c := by unfold szI; split <;> omega
    refine sk_back ?_; refine ⟨(k + 1, szI ll[k].length c), ?_, ?_, le_at rfl (by (repeat (first | exact trivial | refine ⟨(by (first | rfl | (refine int_eq rfl ?_; ((simp  [atZ_nat (show k < ll.length by omega)]; done))))), ?_⟩))) (by (repeat (first | exact trivial | refine ⟨rfl, ?_⟩))) (by (repeat (exact trivial))) (by (repeat (exact trivial)))⟩
    · have h3 : 0 ≤ szI ll[k].length c := by simp only at hc; omega
      exact ⟨by simp only; omega, by simp only; omega, by simp only; omega, e.symm⟩
    · simp only; omega
  · have e : k = ll.length := by omega
    subst e
    rw [List.drop_length] at hs
    (apply sk_ret; apply ret_eq; (· apply RetOK.p; (· (apply GvA.cons; (· exact .tmp _); (· exact GvP.c (.lit _))); exact GvA.nil); (· (decide))))
    simp only [szR] at hs
    have h9 : ¬ left - (ll.length : Int) < 0 := by simp at *; omega
    simp [szL, ← hs, h9]
theorem szIntSS_ok (ll : List (List Int)) (left : Int) (h : ll.length + cnt ll ≤ left) (h1 : left ≤ 1048576) : PC Try.prog 26 [.c (eII ll), .c (dI left)] (.p (.c (dI (left - ll.length - cnt ll)))) := by
  have := szIntSS_p ll left (by omega) h1; rwa [szL_ok h] at this
theorem szIntSS_no (ll : List (List Int)) (left : Int) (h : left < ll.length + cnt ll) (h0 : 0 ≤ left) (h1 : left ≤ 1048576) : PC Try.prog 26 [.c (eII ll), .c (dI left)] (.p (.c (dI (-1)))) := by
  have := szIntSS_p ll left h0 h1; rwa [szL_no h h0] at this

end Go.Proofs.Ytdnkmgbbkggmdaa

namespace Go.Proofs.Ytdnkmgbbkggmdaa
open Go.RowKit
set_option linter.unusedSectionVars false
variable [Glb]
set_option maxRecDepth 10000
set_option maxHeartbeats 4000000
theorem szGame_ok (x : Int) (y : Int) (we : List Int) (wi : List (List Int)) (left : Int) (h : we.length + wi.length + cnt wi ≤ left) (h1 : left ≤ 1048576) : PC Try.prog 10 [.g [dI x, dI y, eI we, eII wi], .c (dI left)] (.p (.c (dI (left - we.length - wi.length - cnt wi)))) := by
  refine pc_intro Try.func10 rfl rfl rfl (by kernel_rfl) rfl rfl ?_; intro _
  repeat' (first | (refine so_is (.box 32 _) ?_; refine so_box rfl rfl ?_) | (refine so_is (.assign _) ?_; (refine so_q (qt_asC rfl) rfl ?_)) | (refine so_is (.fieldAddr 32 _ 2) ?_; (refine so_q (qt_fld_lp (off := 2) rfl (by kernel_rfl)) rfl ?_)) | (refine so_is (.load 29 _) ?_; (refine so_q (qt_load_box rfl rfl (by kernel_rfl) rfl) rfl ?_)) | (refine so_is (.move _) ?_; (refine so_q (qt_mvC rfl) rfl ?_)) | (refine so_is (.binOp .lss 3 _ _ _) ?_; refine so_q (qt_lss rfl rfl) rfl ?_) | (refine so_is (.fieldAddr 32 _ 3) ?_; (refine so_q (qt_fld_lp (off := 3) rfl (by kernel_rfl)) rfl ?_)) | (refine so_is (.load 30 _) ?_; (refine so_q (qt_load_box rfl rfl (by kernel_rfl) rfl) rfl ?_)) | (refine so_is (.call ⟨.value (.func 25), _, _⟩) ?_; (apply so_call0 (fid := 25); (· (repeat (first | exact SeA.nil | apply SeA.cons (.c (.d _))))); (· exact szIntS_ok _ _ (by omega) (by omega)); (· rfl))) | (refine so_is (.call ⟨.value (.func 26), _, _⟩) ?_; (apply so_call0 (fid := 26); (· (repeat (first | exact SeA.nil | apply SeA.cons (.c (.d _))))); (· exact szIntSS_ok _ _ (by omega) (by omega)); (· rfl))) | refine so_nil ?_ | refine sk_seq ?_ | refine sk_skip ?_ | refine sk_region ?_ | refine sk_if rfl (fun hc => ?_) (fun hc => ?_))
  all_goals first | (exfalso; omega) | skip
  · (apply sk_ret; apply ret_eq; (· apply RetOK.p; (· (apply GvA.cons; (· exact .tmp _); (· exact GvP.c (.lit _))); exact GvA.nil); (· (decide))))
    rfl
theorem szGame_no (x : Int) (y : Int) (we : List Int) (wi : List (List Int)) (left : Int) (h : left < we.length + wi.length + cnt wi) (h0 : 0 ≤ left) (h1 : left ≤ 1048576) : PC Try.prog 10 [.g [dI x, dI y, eI we, eII wi], .c (dI left)] (.p (.c (dI (-1)))) := by
  by_cases c0 : left < we.length
  · refine pc_intro Try.func10 rfl rfl rfl (by kernel_rfl) rfl rfl ?_; intro _
    repeat' (first | (refine so_is (.box 32 _) ?_; refine so_box rfl rfl ?_) | (refine so_is (.assign _) ?_; (refine so_q (qt_asC rfl) rfl ?_)) | (refine so_is (.fieldAddr 32 _ 2) ?_; (refine so_q (qt_fld_lp (off := 2) rfl (by kernel_rfl)) rfl ?_)) | (refine so_is (.load 29 _) ?_; (refine so_q (qt_load_box rfl rfl (by kernel_rfl) rfl) rfl ?_)) | (refine so_is (.move _) ?_; (refine so_q (qt_mvC rfl) rfl ?_)) | (refine so_is (.binOp .lss 3 _ _ _) ?_; refine so_q (qt_lss rfl rfl) rfl ?_) | (refine so_is (.call ⟨.value (.func 25), _, _⟩) ?_; ((apply so_call0 (fid := 25); (· (repeat (first | exact SeA.nil | apply SeA.cons (.c (.d _))))); (· exact szIntS_no _ _ (by omega) (by omega) (by omega)); (· rfl)))) | refine so_nil ?_ | refine sk_seq ?_ | refine sk_region ?_ | refine sk_true rfl ?_)
    all_goals first | (exfalso; omega) | skip
    all_goals (apply sk_ret; apply ret_eq; (· apply RetOK.p; (· (apply GvA.cons; (· exact .tmp _); (· exact GvP.c (.lit _))); exact GvA.nil); (· (decide))))
    all_goals rfl
  · refine pc_intro Try.func10 rfl rfl rfl (by kernel_rfl) rfl rfl ?_; intro _
    repeat' (first | (refine so_is (.box 32 _) ?_; refine so_box rfl rfl ?_) | (refine so_is (.assign _) ?_; (refine so_q (qt_asC rfl) rfl ?_)) | (refine so_is (.fieldAddr 32 _ 2) ?_; (refine so_q (qt_fld_lp (off := 2) rfl (by kernel_rfl)) rfl ?_)) | (refine so_is (.load 29 _) ?_; (refine so_q (qt_load_box rfl rfl (by kernel_rfl) rfl) rfl ?_)) | (refine so_is (.move _) ?_; (refine so_q (qt_mvC rfl) rfl ?_)) | (refine so_is (.binOp .lss 3 _ _ _) ?_; refine so_q (qt_lss rfl rfl) rfl ?_) | (refine so_is (.fieldAddr 32 _ 3) ?_; (refine so_q (qt_fld_lp (off := 3) rfl (by kernel_rfl)) rfl ?_)) | (refine so_is (.load 30 _) ?_; (refine so_q (qt_load_box rfl rfl (by kernel_rfl) rfl) rfl ?_)) | (refine so_is (.call ⟨.value (.func 25), _, _⟩) ?_; ((apply so_call0 (fid := 25); (· (repeat (first | exact SeA.nil | apply SeA.cons (.c (.d _))))); (· exact szIntS_ok _ _ (by omega) (by omega)); (· rfl)))) | (refine so_is (.call ⟨.value (.func 26), _, _⟩) ?_; ((apply so_call0 (fid := 26); (· (repeat (first | exact SeA.nil | apply SeA.cons (.c (.d _))))); (· exact szIntSS_no _ _ (by omega) (by omega) (by omega)); (· rfl)))) | refine so_nil ?_ | refine sk_seq ?_ | refine sk_skip ?_ | refine sk_region ?_ | refine sk_true rfl ?_ | refine sk_if rfl (fun hc => ?_) (fun hc => ?_))
    all_goals first | (exfalso; omega) | skip
    all_goals (apply sk_ret; apply ret_eq; (· apply RetOK.p; (· (apply GvA.cons; (· exact .tmp _); (· exact GvP.c (.lit _))); exact GvA.nil); (· (decide))))
    all_goals rfl

end Go.Proofs.Ytdnkmgbbkggmdaa

namespace Go.Proofs.Ytdnkmgbbkggmdaa
open Go.RowKit
set_option linter.unusedSectionVars false
variable [Glb]
set_option maxRecDepth 10000
set_option maxHeartbeats 4000000
theorem toIntS_p (l : List Int) (h : l.length ≤ 1048576) : PC Try.prog 16 [.c (eI l)] (.p (.c (eI l))) := by
  refine pc_intro Try.func16 rfl rfl rfl (by kernel_rfl) rfl rfl ?_; intro _
  repeat' (first | (refine so_is (.assign _) ?_; (refine so_q (qt_asC rfl) rfl ?_)) | (refine so_is (.move _) ?_; (refine so_q (qt_mvC rfl) rfl ?_)) | (refine so_is (.call ⟨.builtin .len, _, #[29]⟩) ?_; (refine so_q (qt_len_d rfl (by kernel_rfl)) rfl ?_)) | (refine so_is (.makeSlice 29 _ _) ?_; (refine so_make (by_ := 8) (z := .int .i64 0) (y := .lit (.int .i64 0)) rfl rfl (by kernel_rfl) (by kernel_rfl) rfl (fun _ => .lit _ rfl) (by (omega)) (by (omega)) (by (omega)) rfl ?_)) | refine so_nil ?_ | refine sk_seq ?_ | refine sk_block ?_ | refine sk_region ?_)
  apply sk_packC [0, 3, 4] [7] rfl; (· (repeat (first | exact Pf.nil | apply Pf.cons (.c rfl (.d rfl)) | apply Pf.cons (.c rfl (.ls rfl))))); (· (repeat (first | exact Pb.nil | apply Pb.cons (.row rfl))))
  refine sk_loopL [0, 3] [] (fun k => [(4, iN k)]) (fun k => [(7, .row 1 (cI (fillL l 0 k)))]) (fun k => k ≤ l.length) (fun k => l.length - k) (0) ?_ (by (repeat (first | exact trivial | refine ⟨(by (rfl)), ?_⟩))) (by (repeat (first | exact trivial | refine ⟨(by ((refine row_eq rfl ?_; simp  [fillL_zero, cI]; done))), ?_⟩))) ?_
  · simp
  intro k hk
  repeat' (first | (refine so_is (.assign _) ?_; (refine so_q (qt_asC rfl) rfl ?_)) | (refine so_is (.move _) ?_; (refine so_q (qt_mvC rfl) rfl ?_)) | (refine so_is (.call ⟨.builtin .len, _, #[29]⟩) ?_; (refine so_q (qt_len_d rfl (by kernel_rfl)) rfl ?_)) | (refine so_is (.binOp .lss 3 _ _ _) ?_; refine so_q (qt_lss rfl rfl) rfl ?_) | (refine so_is (.indexAddr 29 _ _) ?_; (first | refine so_q (qt_idxI rfl rfl (by kernel_rfl) (by (omega)) (by (omega))) rfl ?_ | refine so_q (qt_idx_ls rfl rfl (by kernel_rfl : tSl _ 29 1 = true) (by (omega)) (by (omega))) rfl ?_)) | (refine so_is (.load 3 _) ?_; (refine so_q (qt_load_pt rfl (by kernel_rfl) rfl) rfl ?_)) | (refine so_is (.store 3 _ _) ?_; ((refine so_store_row rfl rfl rfl rfl (.lit _) (by simp) (by simp) (by kernel_rfl) (by ((simp only [List.length_map, List.length_append, List.length_replicate, fillL_len, rowF_len, gridF_len, mkI_len, mkII_len, partZ_min] at *; omega))) rfl ?_; simp only [St.drop]))) | (refine so_is (.binOp .add 3 _ _ _) ?_; refine so_q (qt_addI rfl rfl (by (omega))) rfl ?_) | refine so_nil ?_ | refine sk_seq ?_ | refine sk_block ?_ | refine sk_blk ?_ | refine sk_exit rfl ?_ | refine sk_skip ?_ | refine sk_region ?_ | refine sk_if rfl (fun hc => ?_) (fun hc => ?_))
  · have hk' : k < l.length := by omega
    refine sk_back ?_; refine ⟨k + 1, ?_, ?_, le_at rfl (by (repeat (first | exact trivial | refine ⟨(by (rfl)), ?_⟩))) (by (repeat (first | exact trivial | refine ⟨rfl, ?_⟩))) (by (repeat (first | exact trivial | refine ⟨(by ((refine row_eq rfl ?_; simp  [atZ_nat hk', ← List.map_set, fillL_set 0 hk']; done))), ?_⟩))) (by (repeat (exact trivial)))⟩
    · omega
    · omega
  · have : k = l.length := by omega
    subst this
    rw [fillL_all]
    (apply sk_ret; apply ret_eq; (· apply RetOK.p; (· (apply GvA.cons; (· exact .tmp _); (· (exact GvP.c (.row _ _ _ _ rfl (by ((simp; done))))))); exact GvA.nil); (· (decide))))
    simp

end Go.Proofs.Ytdnkmgbbkggmdaa

namespace Go.Proofs.Ytdnkmgbbkggmdaa
open Go.RowKit
set_option linter.unusedSectionVars false
variable [Glb]
set_option maxRecDepth 10000
set_option maxHeartbeats 4000000
theorem toIntSS_p (ll : List (List Int)) (h : ll.length ≤ 1048576) (hr : ∀ l ∈ ll, l.length ≤ 1048576) : PC Try.prog 34 [.c (eII ll)] (.p (.c (eII ll))) := by
  refine pc_intro Try.func34 rfl rfl rfl (by kernel_rfl) rfl rfl ?_; intro _
  repeat' (first | (refine so_is (.assign _) ?_; (refine so_q (qt_asC rfl) rfl ?_)) | (refine so_is (.move _) ?_; (refine so_q (qt_mvC rfl) rfl ?_)) | (refine so_is (.call ⟨.builtin .len, _, #[30]⟩) ?_; (refine so_q (qt_len_d rfl (by kernel_rfl)) rfl ?_)) | (refine so_is (.makeSlice 30 _ _) ?_; (refine so_make (by_ := 24) (z := .slice none 0 0) (y := .sl 1 0 []) rfl rfl (by kernel_rfl) (by kernel_rfl) rfl (fun _ => .nil _ (by decide)) (by (omega)) (by (omega)) (by (omega)) rfl ?_)) | refine so_nil ?_ | refine sk_seq ?_ | refine sk_block ?_ | refine sk_region ?_)
  apply sk_packC [0, 3, 4] [7, 20] rfl; (· (repeat (first | exact Pf.nil | apply Pf.cons (.c rfl (.d rfl)) | apply Pf.cons (.c rfl (.ls rfl))))); (· (repeat (first | exact Pb.nil | apply Pb.cons (.row rfl) | apply Pb.skip)))
  refine sk_loopL [0, 3] [20] (fun k => [(4, iN k)]) (fun k => [(7, .row 1 (cII (fillL ll [] k)))]) (fun k => k ≤ ll.length) (fun k => ll.length - k) (0) ?_ (by (repeat (first | exact trivial | refine ⟨(by (rfl)), ?_⟩))) (by (repeat (first | exact trivial | refine ⟨(by ((refine row_eq rfl ?_; simp  [fillL_zero]; done))), ?_⟩))) ?_
  · simp
  intro k hk
  repeat' (first | (refine so_is (.assign _) ?_; (refine so_q (qt_asC rfl) rfl ?_)) | (refine so_is (.move _) ?_; (refine so_q (qt_mvC rfl) rfl ?_)) | (refine so_is (.call ⟨.builtin .len, _, #[30]⟩) ?_; (refine so_q (qt_len_d rfl (by kernel_rfl)) rfl ?_)) | (refine so_is (.binOp .lss 3 _ _ _) ?_; refine so_q (qt_lss rfl rfl) rfl ?_) | (refine so_is (.indexAddr 30 _ _) ?_; (first | refine so_q (qt_idxII rfl rfl (by kernel_rfl) (by (omega)) (by (omega))) rfl ?_ | refine so_q (qt_idx_ls rfl rfl (by kernel_rfl : tSl _ 30 1 = true) (by (omega)) (by (omega))) rfl ?_)) | (refine so_is (.load 29 _) ?_; (refine so_q (qt_load_pt rfl (by kernel_rfl) rfl) rfl ?_)) | (refine so_is (.store 29 _ _) ?_; (refine so_store_row rfl rfl rfl rfl (.row _ _ _ _ rfl (by ((simp; done)))) (by decide) (by decide) (by kernel_rfl) (by ((simp only [List.length_map, List.length_append, List.length_replicate, fillL_len, rowF_len, gridF_len, mkI_len, mkII_len, partZ_min] at *; omega))) rfl ?_)) | (refine so_is (.binOp .add 3 _ _ _) ?_; refine so_q (qt_addI rfl rfl (by (omega))) rfl ?_) | (refine so_is (.call ⟨.value (.func 16), _, _⟩) ?_; (apply so_callO0 (fid := 16); (· (repeat (first | exact SeA.nil | apply SeA.cons (.c (.d _))))); (· exact toIntS_p (atZ ll k) (by rw [atZ_nat (by omega)]; exact hr _ (List.getElem_mem _))); (· rfl); (· rfl))) | refine so_nil ?_ | refine sk_seq ?_ | refine sk_block ?_ | refine sk_blk ?_ | refine sk_exit rfl ?_ | refine sk_skip ?_ | refine sk_region ?_ | refine sk_if rfl (fun hc => ?_) (fun hc => ?_))
  · have hk' : k < ll.length := by omega
    refine sk_back ?_; refine ⟨k + 1, ?_, ?_, le_at rfl (by (repeat (first | exact trivial | refine ⟨(by (rfl)), ?_⟩))) (by (repeat (first | exact trivial | refine ⟨rfl, ?_⟩))) (by (repeat (first | exact trivial | refine ⟨(by ((refine row_eq rfl ?_; simp  [atZ_nat hk', ← fillL_set [] hk']; done))), ?_⟩))) (by (repeat (first | exact trivial | refine ⟨.inr rfl, ?_⟩)))⟩
    · omega
    · omega
  · have : k = ll.length := by omega
    subst this
    rw [fillL_all]
    (apply sk_ret; apply ret_eq; (· apply RetOK.p; (· (apply GvA.cons; (· exact .tmp _); (· (exact GvP.c (.row _ _ _ _ rfl (by ((simp; done))))))); exact GvA.nil); (· (decide))))
    simp
theorem toIntSS_z (ll : List (List Int)) (h : ll.length + cnt ll ≤ 1048576) : PC Try.prog 34 [.c (eII ll)] (.p (.c (eII ll))) :=
  toIntSS_p ll (by omega) fun l hl => by have := cnt_mem hl; omega

end Go.Proofs.Ytdnkmgbbkggmdaa

namespace Go.Proofs.Ytdnkmgbbkggmdaa
open Go.RowKit
set_option linter.unusedSectionVars false
variable [Glb]
set_option maxRecDepth 10000
set_option maxHeartbeats 4000000
theorem toGame_p (x : Int) (y : Int) (we : List Int) (wi : List (List Int)) (h : we.length + wi.length + cnt wi ≤ 1048576) : PC Try.prog 12 [.g [dI x, dI y, eI we, eII wi]] (.p (.g [dI x, dI y, eI we, eII wi])) := by
  refine pc_intro Try.func12 rfl rfl rfl (by kernel_rfl) rfl rfl ?_; intro _
  repeat' (first | (refine so_is (.box 32 _) ?_; refine so_box rfl rfl ?_) | (refine so_is (.alloc 36) ?_; refine so_alloc (zs := [.int .i64 0, .int .i64 0, .slice none 0 0, .slice none 0 0]) (by kernel_rfl) rfl ?_) | (refine so_is (.fieldAddr 32 _ 0) ?_; (refine so_q (qt_fld_lp (off := 0) rfl (by kernel_rfl)) rfl ?_)) | (refine so_is (.load 3 _) ?_; (refine so_q (qt_load_box rfl rfl (by kernel_rfl) rfl) rfl ?_)) | (refine so_is (.fieldAddr 36 _ 0) ?_; (refine so_q (qt_fld_lp (off := 0) rfl (by kernel_rfl)) rfl ?_)) | (refine so_is (.store 3 _ _) ?_; (refine so_store_box1 rfl rfl rfl rfl (by kernel_rfl) rfl rfl ?_)) | (refine so_is (.fieldAddr 32 _ 1) ?_; (refine so_q (qt_fld_lp (off := 1) rfl (by kernel_rfl)) rfl ?_)) | (refine so_is (.fieldAddr 36 _ 1) ?_; (refine so_q (qt_fld_lp (off := 1) rfl (by kernel_rfl)) rfl ?_)) | (refine so_is (.fieldAddr 32 _ 2) ?_; (refine so_q (qt_fld_lp (off := 2) rfl (by kernel_rfl)) rfl ?_)) | (refine so_is (.load 29 _) ?_; (refine so_q (qt_load_box rfl rfl (by kernel_rfl) rfl) rfl ?_)) | (refine so_is (.fieldAddr 36 _ 2) ?_; (refine so_q (qt_fld_lp (off := 2) rfl (by kernel_rfl)) rfl ?_)) | (refine so_is (.store 29 _ _) ?_; (refine so_store_box1 rfl rfl rfl rfl (by kernel_rfl) rfl rfl ?_)) | (refine so_is (.fieldAddr 32 _ 3) ?_; (refine so_q (qt_fld_lp (off := 3) rfl (by kernel_rfl)) rfl ?_)) | (refine so_is (.load 30 _) ?_; (refine so_q (qt_load_box rfl rfl (by kernel_rfl) rfl) rfl ?_)) | (refine so_is (.fieldAddr 36 _ 3) ?_; (refine so_q (qt_fld_lp (off := 3) rfl (by kernel_rfl)) rfl ?_)) | (refine so_is (.store 30 _ _) ?_; (refine so_store_box1 rfl rfl rfl rfl (by kernel_rfl) rfl rfl ?_)) | (refine so_is (.load 36 _) ?_; (refine so_q (qt_load_boxs rfl rfl (by kernel_rfl : tAgg _ 36 4 = true) rfl) rfl ?_)) | (refine so_is (.store 36 _ _) ?_; (refine so_store_box rfl rfl rfl (by kernel_rfl) rfl rfl ?_)) | (refine so_is (.call ⟨.value (.func 16), _, _⟩) ?_; (apply so_callO0 (fid := 16); (· (repeat (first | exact SeA.nil | apply SeA.cons (.c (.d _))))); (· exact toIntS_p _ (by omega)); (· rfl); (· rfl))) | (refine so_is (.call ⟨.value (.func 34), _, _⟩) ?_; (apply so_callO0 (fid := 34); (· (repeat (first | exact SeA.nil | apply SeA.cons (.c (.d _))))); (· exact toIntSS_z _ (by omega)); (· rfl); (· rfl))) | refine so_nil ?_ | refine sk_seq ?_ | refine sk_region (id := 0) ?_ | refine sk_region (id := 1) ?_ | refine sk_region (id := 2) ?_ | refine sk_region (id := 3) ?_ | (apply sk_pack 4 [1, 2, 3] [1, 2, 3] rfl; (· (repeat (first | exact Pf.nil | apply Pf.cons (.c rfl (.lp rfl))))); (· (repeat (first | exact Pb.nil | (apply Pb.cons; (· apply Nb.box rfl; (repeat (first | exact Ncs.nil rfl | (apply Ncs.cons rfl; (· (exact .d rfl)))))))))); refine sk_region (id := 4) ?_) | refine sk_region (id := 5) ?_ | refine sk_region (id := 6) ?_)
  · (apply sk_ret; apply ret_eq; (· apply RetOK.p; (· (apply GvA.cons; (· (apply RV.cellN (n := 4); (· rfl); (· rfl); (· kernel_rfl); (· rfl))); (· (apply GvP.g; (· (apply GvL.cons (.lit _)); (apply GvL.cons (.lit _)); ((apply GvL.cons (.row _ _ _ _ rfl (by ((simp; done)))))); ((apply GvL.cons (.row _ _ _ _ rfl (by ((simp; done)))))); exact GvL.nil)))); exact GvA.nil); (· (decide))))
    rfl

end Go.Proofs.Ytdnkmgbbkggmdaa

namespace Go.Proofs.Ytdnkmgbbkggmdaa
open Go.RowKit
set_option linter.unusedSectionVars false
variable [Glb]
set_option maxRecDepth 10000
set_option maxHeartbeats 4000000
theorem l1Own_p (l : List Int) (h : l.length ≤ 1000000) : PC Try.prog 54 [.c (eI l)] (.p (.c (eI l))) := by
  refine pc_intro Try.func54 rfl rfl rfl (by kernel_rfl) rfl rfl ?_; intro _
  repeat' (first | (refine so_is (.assign _) ?_; (refine so_q (qt_asC rfl) rfl ?_)) | (refine so_is (.buildSlice 29 0 _) ?_; (apply so_bslice (sz := 1) (by_ := 8); (· kernel_rfl); (· decide); (· (repeat (exact GvS.nil _))); (· (decide)); (· rfl); (· rfl); (· rfl))) | (refine so_is (.move _) ?_; (refine so_q (qt_mvC rfl) rfl ?_)) | (refine so_is (.call ⟨.builtin .append, _, #[29, 29]⟩) ?_; ((apply so_appR (sz := 1) (by_ := 8); (· rfl); (· rfl); (· ((simp; done))); (· exact .see _ _ _ (by (exact Lits.map))); (· (decide)); (· kernel_rfl); (· decide); (· (omega)); (· (omega)); (· rfl); (· rfl); (· rfl)))) | refine so_nil ?_ | refine sk_seq ?_ | refine sk_region ?_)
  · (apply sk_ret; apply ret_eq; (· apply RetOK.p; (· (apply GvA.cons; (· exact .tmp _); (· (exact GvP.c (.row _ _ _ _ rfl (by ((simp; done))))))); exact GvA.nil); (· (decide))))
    simp

end Go.Proofs.Ytdnkmgbbkggmdaa

namespace Go.Proofs.Ytdnkmgbbkggmdaa
open Go.RowKit
set_option linter.unusedSectionVars false
variable [Glb]
set_option maxRecDepth 10000
set_option maxHeartbeats 4000000
theorem l4Ask_p (X Y : Int) (ws : List Int) (wi : List (List Int)) (fs ss : List Int) (h : gameB X Y ws wi = true) (hf : ∀ x ∈ fs, 0 ≤ x ∧ x < X) (hs : ∀ y ∈ ss, 0 ≤ y ∧ y < Y) (f3 : fs.length ≤ 3) (s3 : ss.length ≤ 3) :
    PC Try.prog 30 [.g [dI X, dI Y, eI ws, eII wi], .c (eI fs), .c (eI ss)] (.p (.g [dI fs.length, dI ss.length, eI (pairsF (askW Y ws) fs ss), eII (pairsF (askO Y wi) fs ss)])) := by
  have hg := gameB_spec h
  have g1 := hg.x1; have g2 := hg.x3; have g3 := hg.y1; have g4 := hg.y3; have g5 := hg.wl; have g6 := hg.il
  have hXY := mul_bd3 (sizeB_iff.2 ⟨⟨g1, g2⟩, g3, g4⟩)
  have hsf : ss.length * fs.length ≤ 3 * 3 := Nat.mul_le_mul s3 f3
  refine pc_intro Try.func30 rfl rfl rfl (by kernel_rfl) rfl rfl ?_; intro _
  repeat' (first | (refine so_is (.box 36 _) ?_; refine so_box rfl rfl ?_) | (refine so_is (.alloc 36) ?_; refine so_alloc (zs := [.int .i64 0, .int .i64 0, .slice none 0 0, .slice none 0 0]) (by kernel_rfl) rfl ?_) | (refine so_is (.move _) ?_; (refine so_q (qt_mvC rfl) rfl ?_)) | (refine so_is (.call ⟨.builtin .len, _, #[29]⟩) ?_; (refine so_q (qt_len_d rfl (by kernel_rfl)) rfl ?_)) | (refine so_is (.buildSlice 29 0 _) ?_; (apply so_bslice (sz := 1) (by_ := 8); (· kernel_rfl); (· decide); (· (repeat (exact GvS.nil _))); (· (decide)); (· rfl); (· rfl); (· rfl))) | (refine so_is (.buildSlice 30 0 _) ?_; (apply so_bslice (sz := 1) (by_ := 24); (· kernel_rfl); (· decide); (· (repeat (exact GvS.nil _))); (· (decide)); (· rfl); (· rfl); (· rfl))) | (refine so_is (.build 36 _) ?_; refine so_q (qt_build (cs := [_, _, _, _]) [(0, 1), (1, 1), (2, 1), (3, 1)] [.int .i64 0, .int .i64 0, .slice none 0 0, .slice none 0 0] (by kernel_rfl) (by kernel_rfl) rfl) rfl ?_) | (refine so_is (.store 36 _ _) ?_; (refine so_store_box rfl rfl rfl (by kernel_rfl) rfl rfl ?_)) | (refine so_is (.assign _) ?_; (refine so_q (qt_asC rfl) rfl ?_)) | refine so_nil ?_ | refine sk_seq ?_ | refine sk_block ?_ | refine sk_region ?_)
  apply sk_packC [1, 2, 3, 6, 7, 8] [3, 6, 7, 15, 16, 49, 50, 59, 60, 61] rfl; (· (repeat (first | exact Pf.nil | apply Pf.cons (.c rfl (.d rfl)) | apply Pf.cons (.c rfl (.lp rfl))))); (· (repeat (first | exact Pb.nil | apply Pb.cons (.row rfl) | (apply Pb.cons; (· apply Nb.box rfl; (repeat (first | exact Ncs.nil rfl | (apply Ncs.cons rfl; (· (first | exact .d rfl | exact .ls rfl))))))) | apply Pb.skip)))
  refine sk_loopL [1, 2, 3, 6, 7] [3, 6, 49, 50, 59, 60, 61] (fun i => [(8, iN i)]) (fun i => [(7, .box [.d (dI fs.length), .d (dI ss.length), .ls 15 1 0 (ss.length * i), .ls 16 1 0 (ss.length * i)]), (15, .row 1 (cI (pairsP (askW Y ws) fs ss i 0))), (16, .row 1 (cII (pairsP (askO Y wi) fs ss i 0)))]) (fun i => i ≤ fs.length) (fun i => fs.length - i) (0) ?_ (by (repeat (first | exact trivial | refine ⟨(by (rfl)), ?_⟩))) (by (repeat (first | exact trivial | refine ⟨(by (first | (refine row_eq rfl ?_; simp  [pairsP_zero]; done) | (refine box_eq rfl ?_; simp  [pairsP_zero]; done))), ?_⟩))) ?_
  · omega
  intro i hi
  repeat' (first | (refine so_is (.move _) ?_; (refine so_q (qt_mvC rfl) rfl ?_)) | (refine so_is (.call ⟨.builtin .len, _, #[29]⟩) ?_; (refine so_q (qt_len_d rfl (by kernel_rfl)) rfl ?_)) | (refine so_is (.store 36 _ _) ?_; (refine so_store_box rfl rfl rfl (by kernel_rfl) rfl rfl ?_)) | (refine so_is (.assign _) ?_; (refine so_q (qt_asC rfl) rfl ?_)) | (refine so_is (.binOp .lss 3 _ _ _) ?_; refine so_q (qt_lss rfl rfl) rfl ?_) | (refine so_is (.load 36 _) ?_; (refine so_q (qt_load_boxs rfl rfl (by kernel_rfl : tAgg _ 36 4 = true) rfl) rfl ?_)) | refine so_nil ?_ | refine sk_seq ?_ | refine sk_block ?_ | refine sk_exit rfl ?_ | refine sk_skip ?_ | refine sk_region ?_ | refine sk_if rfl (fun hc => ?_) (fun hc => ?_))
  · have hi2 : i < fs.length := by omega
    have fx := hf _ (mem_atZ hi2)
    apply sk_packC [1, 2, 3, 6, 7, 8, 9] [3, 6, 7, 15, 16, 49, 50, 59, 60, 61] rfl; (· (repeat (first | exact Pf.nil | apply Pf.cons (.c rfl (.d rfl)) | apply Pf.cons (.c rfl (.lp rfl))))); (· (repeat (first | exact Pb.nil | apply Pb.cons (.row rfl) | (apply Pb.cons; (· apply Nb.box rfl; (repeat (first | exact Ncs.nil rfl | (apply Ncs.cons rfl; (· (first | exact .d rfl | exact .ls rfl))))))) | apply Pb.skip)))
    refine sk_loopL [1, 2, 3, 6, 7, 8] [3, 6, 49, 50, 59, 60, 61] (fun k => [(9, iN k)]) (fun k => [(7, .box [.d (dI fs.length), .d (dI ss.length), .ls 15 1 0 (ss.length * i + k), .ls 16 1 0 (ss.length * i + k)]), (15, .row 1 (cI (pairsP (askW Y ws) fs ss i k))), (16, .row 1 (cII (pairsP (askO Y wi) fs ss i k)))]) (fun k => k ≤ ss.length) (fun k => ss.length - k) (0) ?_ (by (repeat (first | exact trivial | refine ⟨(by (rfl)), ?_⟩))) (by (repeat (first | exact trivial | refine ⟨(by (first | (refine row_eq rfl ?_; simp; done) | (refine box_eq rfl ?_; simp; done))), ?_⟩))) ?_
    · omega
    intro k hk
    have sy := fun hk2 : k < ss.length => hs _ (mem_atZ hk2)
    have ix := fun hk2 : k < ss.length => idx_lt fx.1 fx.2 (sy hk2).1 (sy hk2).2
    have ik := fun hk2 : k < ss.length => idx_ltN hi2 hk2
    have L1 := pairsP_len (askW Y ws) fs ss hi hk
    have L2 := pairsP_len (askO Y wi) fs ss hi hk
    by_cases hk2 : k < ss.length
    · have sy := sy hk2
      have ix := ix hk2
      have ik := ik hk2
      have ga := (gameB_at h ix.1 ix.2.1).2
      have gl := bitsB_len ga
      repeat' (first | (refine so_is (.move _) ?_; (refine so_q (qt_mvC rfl) rfl ?_)) | (refine so_is (.call ⟨.builtin .len, _, #[29]⟩) ?_; (refine so_q (qt_len_d rfl (by kernel_rfl)) rfl ?_)) | (refine so_is (.assign _) ?_; (refine so_q (qt_asC rfl) rfl ?_)) | (refine so_is (.binOp .lss 3 _ _ _) ?_; refine so_q (qt_lss rfl rfl) rfl ?_) | (refine so_is (.indexAddr 29 _ _) ?_; (refine so_q (qt_idxI rfl rfl (by kernel_rfl) (by (omega)) (by (omega))) rfl ?_)) | (refine so_is (.load 3 _) ?_; (first | refine so_q (qt_load_box rfl rfl (by kernel_rfl) rfl) rfl ?_ | refine so_q (qt_load_pt rfl (by kernel_rfl) rfl) rfl ?_)) | (refine so_is (.fieldAddr 36 _ 1) ?_; (refine so_q (qt_fld_lp (off := 1) rfl (by kernel_rfl)) rfl ?_)) | (refine so_is (.binOp .mul 3 _ _ _) ?_; refine so_q (qt_mulI rfl rfl (by (omega))) rfl ?_) | (refine so_is (.binOp .add 3 _ _ _) ?_; refine so_q (qt_addI rfl rfl (by (omega))) rfl ?_) | (refine so_is (.fieldAddr 36 _ 2) ?_; (refine so_q (qt_fld_lp (off := 2) rfl (by kernel_rfl)) rfl ?_)) | (refine so_is (.load 29 _) ?_; (first | refine so_q (qt_load_box rfl rfl (by kernel_rfl) rfl) rfl ?_ | refine so_q (qt_load_pt rfl (by kernel_rfl) rfl) rfl ?_)) | (refine so_is (.buildSlice 29 1 _) ?_; (apply so_bslice (sz := 1) (by_ := 8); (· kernel_rfl); (· decide); (· (repeat (first | exact GvS.nil _ | apply GvS.c rfl rfl (.lit _) rfl))); (· (decide)); (· rfl); (· rfl); (· rfl))) | (refine so_is (.call ⟨.builtin .append, _, #[29, 29]⟩) ?_; ((apply so_appR (sz := 1) (by_ := 8); (· rfl); (· rfl); (· ((simp; omega))); (· exact .row _ _ _ _ rfl (by ((simp; done)))); (· (decide)); (· kernel_rfl); (· decide); (· (omega)); (· (omega)); (· rfl); (· rfl); (· rfl)))) | (refine so_is (.store 29 _ _) ?_; (refine so_store_box1 rfl rfl rfl rfl (by kernel_rfl) rfl rfl ?_)) | (refine so_is (.fieldAddr 36 _ 3) ?_; (refine so_q (qt_fld_lp (off := 3) rfl (by kernel_rfl)) rfl ?_)) | (refine so_is (.load 30 _) ?_; (refine so_q (qt_load_box rfl rfl (by kernel_rfl) rfl) rfl ?_)) | (refine so_is (.indexAddr 30 _ _) ?_; (refine so_q (qt_idxII rfl rfl (by kernel_rfl) (by (omega)) (by (omega))) rfl ?_)) | (refine so_is (.buildSlice 30 1 _) ?_; (apply so_bslice (sz := 1) (by_ := 24); (· kernel_rfl); (· decide); (· (repeat (first | exact GvS.nil _ | apply GvS.c rfl rfl (.row _ _ _ _ rfl (by ((simp; done)))) rfl))); (· (decide)); (· rfl); (· rfl); (· rfl))) | (refine so_is (.call ⟨.builtin .append, _, #[30, 30]⟩) ?_; ((apply so_appR (sz := 1) (by_ := 24); (· rfl); (· rfl); (· ((simp; omega))); (· exact .row _ _ _ _ rfl (by ((simp; done)))); (· (decide)); (· kernel_rfl); (· decide); (· (omega)); (· (omega)); (· rfl); (· rfl); (· rfl)))) | (refine so_is (.store 30 _ _) ?_; (refine so_store_box1 rfl rfl rfl rfl (by kernel_rfl) rfl rfl ?_)) | (refine so_is (.call ⟨.value (.func 54), _, _⟩) ?_; (apply so_callO0 (fid := 54); (· (repeat (first | exact SeA.nil | apply SeA.cons (.c (.d _))))); (· exact l1Own_p _ (by omega)); (· rfl); (· rfl))) | refine so_nil ?_ | refine sk_seq ?_ | refine sk_block ?_ | refine sk_blk ?_ | refine sk_exit rfl ?_ | refine sk_skip ?_ | refine sk_region ?_ | refine sk_drawQ 8 (fun _ => false) (.step 0 true (.step 1 true (.step 2 true (.step 3 true (.step 4 true (.step 5 true (.step 6 true (.step 7 true (.step 8 true (.step 9 true (.step 10 true (.step 11 true (.step 12 true .nil))))))))))))) [(0, 8191, 8191, true), (0, 8191, 8191, true), (3, 8188, 8191, true), (4, 8187, 8191, false), (0, 8191, 8191, true), (16, 8175, 8191, false), (40, 8151, 8191, true), (0, 8191, 8191, true), (0, 8191, 8191, true), (384, 7807, 8191, true), (512, 7679, 8191, false), (1088, 7103, 8191, true), (4095, 6143, 8191, true)] (by kernel_rfl) (by kernel_rfl) ?_ | refine sk_drawQ 9 (fun i => i == 8 || i == 10) (.step 0 true (.step 1 true (.step 2 true (.step 3 true (.step 4 true (.step 5 true (.step 6 true (.step 7 false (.step 8 false (.step 9 true (.step 10 false .nil))))))))))) [(0, 2047, 2047, true), (1, 2046, 2047, false), (0, 2047, 2047, true), (4, 2043, 2047, false), (0, 2047, 2047, true), (24, 2023, 2047, true), (32, 2015, 2047, false), (64, 1983, 2047, false), (130, 1917, 2047, false), (511, 2047, 1791, true), (1023, 1279, 1791, false)] (by kernel_rfl) (by kernel_rfl) ?_ | refine sk_drawQ 10 (fun i => i == 9 || i == 11) (.step 0 true (.step 1 true (.step 2 true (.step 3 true (.step 4 true (.step 5 true (.step 6 true (.step 7 false (.step 8 false (.step 9 false (.step 10 true (.step 11 false .nil)))))))))))) [(0, 4095, 4095, true), (1, 4094, 4095, false), (0, 4095, 4095, true), (4, 4091, 4095, false), (0, 4095, 4095, true), (24, 4071, 4095, true), (32, 4063, 4095, false), (64, 4031, 4095, false), (128, 3967, 4095, false), (386, 3837, 4095, false), (1023, 4095, 3583, true), (2047, 2559, 3583, false)] (by kernel_rfl) (by kernel_rfl) ?_ | refine sk_if rfl (fun hc => ?_) (fun hc => ?_))
      · refine sk_back ?_; refine ⟨k + 1, ?_, ?_, le_at rfl (by (repeat (first | exact trivial | refine ⟨(by (rfl)), ?_⟩))) (by (repeat (first | exact trivial | refine ⟨rfl, ?_⟩))) (by (repeat (first | exact trivial | refine ⟨(by (first | (refine row_eq rfl ?_; simp  [pairsP_snoc _ _ _ _ hk2, askW, askO, ← Nat.add_assoc]; done) | rfl)), ?_⟩))) (by (repeat (first | exact trivial | refine ⟨.inr rfl, ?_⟩)))⟩
        · omega
        · omega
      · exfalso; omega
    · have h4 : k = ss.length := by omega
      subst h4
      repeat' (first | (refine so_is (.move _) ?_; (refine so_q (qt_mvC rfl) rfl ?_)) | (refine so_is (.call ⟨.builtin .len, _, #[29]⟩) ?_; (refine so_q (qt_len_d rfl (by kernel_rfl)) rfl ?_)) | (refine so_is (.assign _) ?_; (refine so_q (qt_asC rfl) rfl ?_)) | (refine so_is (.binOp .lss 3 _ _ _) ?_; refine so_q (qt_lss rfl rfl) rfl ?_) | (refine so_is (.indexAddr 29 _ _) ?_; (refine so_q (qt_idxI rfl rfl (by kernel_rfl) (by (omega)) (by (omega))) rfl ?_)) | (refine so_is (.load 3 _) ?_; (first | refine so_q (qt_load_box rfl rfl (by kernel_rfl) rfl) rfl ?_ | refine so_q (qt_load_pt rfl (by kernel_rfl) rfl) rfl ?_)) | (refine so_is (.fieldAddr 36 _ 1) ?_; (refine so_q (qt_fld_lp (off := 1) rfl (by kernel_rfl)) rfl ?_)) | (refine so_is (.binOp .mul 3 _ _ _) ?_; refine so_q (qt_mulI rfl rfl (by (omega))) rfl ?_) | (refine so_is (.binOp .add 3 _ _ _) ?_; refine so_q (qt_addI rfl rfl (by (omega))) rfl ?_) | (refine so_is (.fieldAddr 36 _ 2) ?_; (refine so_q (qt_fld_lp (off := 2) rfl (by kernel_rfl)) rfl ?_)) | (refine so_is (.load 29 _) ?_; (first | refine so_q (qt_load_box rfl rfl (by kernel_rfl) rfl) rfl ?_ | refine so_q (qt_load_pt rfl (by kernel_rfl) rfl) rfl ?_)) | (refine so_is (.buildSlice 29 1 _) ?_; (apply so_bslice (sz := 1) (by_ := 8); (· kernel_rfl); (· decide); (· (repeat (first | exact GvS.nil _ | apply GvS.c rfl rfl (.lit _) rfl))); (· (decide)); (· rfl); (· rfl); (· rfl))) | (refine so_is (.call ⟨.builtin .append, _, #[29, 29]⟩) ?_; ((apply so_appR (sz := 1) (by_ := 8); (· rfl); (· rfl); (· ((simp; omega))); (· exact .row _ _ _ _ rfl (by ((simp; done)))); (· (decide)); (· kernel_rfl); (· decide); (· (omega)); (· (omega)); (· rfl); (· rfl); (· rfl)))) | (refine so_is (.store 29 _ _) ?_; (refine so_store_box1 rfl rfl rfl rfl (by kernel_rfl) rfl rfl ?_)) | (refine so_is (.fieldAddr 36 _ 3) ?_; (refine so_q (qt_fld_lp (off := 3) rfl (by kernel_rfl)) rfl ?_)) | (refine so_is (.load 30 _) ?_; (refine so_q (qt_load_box rfl rfl (by kernel_rfl) rfl) rfl ?_)) | (refine so_is (.indexAddr 30 _ _) ?_; (refine so_q (qt_idxII rfl rfl (by kernel_rfl) (by (omega)) (by (omega))) rfl ?_)) | (refine so_is (.buildSlice 30 1 _) ?_; (apply so_bslice (sz := 1) (by_ := 24); (· kernel_rfl); (· decide); (· (repeat (first | exact GvS.nil _ | apply GvS.c rfl rfl (.row _ _ _ _ rfl (by ((simp; done)))) rfl))); (· (decide)); (· rfl); (· rfl); (· rfl))) | (refine so_is (.call ⟨.builtin .append, _, #[30, 30]⟩) ?_; ((apply so_appR (sz := 1) (by_ := 24); (· rfl); (· rfl); (· ((simp; omega))); (· exact .row _ _ _ _ rfl (by ((simp; done)))); (· (decide)); (· kernel_rfl); (· decide); (· (omega)); (· (omega)); (· rfl); (· rfl); (· rfl)))) | (refine so_is (.store 30 _ _) ?_; (refine so_store_box1 rfl rfl rfl rfl (by kernel_rfl) rfl rfl ?_)) | (refine so_is (.call ⟨.value (.func 54), _, _⟩) ?_; (apply so_callO0 (fid := 54); (· (repeat (first | exact SeA.nil | apply SeA.cons (.c (.d _))))); (· exact l1Own_p _ (by omega)); (· rfl); (· rfl))) | refine so_nil ?_ | refine sk_seq ?_ | refine sk_block ?_ | refine sk_blk ?_ | refine sk_exit rfl ?_ | refine sk_skip ?_ | refine sk_region ?_ | refine sk_drawQ 8 (fun _ => false) (.step 0 true (.step 1 true (.step 2 true (.step 3 true (.step 4 true (.step 5 true (.step 6 true (.step 7 true (.step 8 true (.step 9 true (.step 10 true (.step 11 true (.step 12 true .nil))))))))))))) [(0, 8191, 8191, true), (0, 8191, 8191, true), (3, 8188, 8191, true), (4, 8187, 8191, false), (0, 8191, 8191, true), (16, 8175, 8191, false), (40, 8151, 8191, true), (0, 8191, 8191, true), (0, 8191, 8191, true), (384, 7807, 8191, true), (512, 7679, 8191, false), (1088, 7103, 8191, true), (4095, 6143, 8191, true)] (by kernel_rfl) (by kernel_rfl) ?_ | refine sk_drawQ 9 (fun i => i == 8 || i == 10) (.step 0 true (.step 1 true (.step 2 true (.step 3 true (.step 4 true (.step 5 true (.step 6 true (.step 7 false (.step 8 false (.step 9 true (.step 10 false .nil))))))))))) [(0, 2047, 2047, true), (1, 2046, 2047, false), (0, 2047, 2047, true), (4, 2043, 2047, false), (0, 2047, 2047, true), (24, 2023, 2047, true), (32, 2015, 2047, false), (64, 1983, 2047, false), (130, 1917, 2047, false), (511, 2047, 1791, true), (1023, 1279, 1791, false)] (by kernel_rfl) (by kernel_rfl) ?_ | refine sk_drawQ 10 (fun i => i == 9 || i == 11) (.step 0 true (.step 1 true (.step 2 true (.step 3 true (.step 4 true (.step 5 true (.step 6 true (.step 7 false (.step 8 false (.step 9 false (.step 10 true (.step 11 false .nil)))))))))))) [(0, 4095, 4095, true), (1, 4094, 4095, false), (0, 4095, 4095, true), (4, 4091, 4095, false), (0, 4095, 4095, true), (24, 4071, 4095, true), (32, 4063, 4095, false), (64, 4031, 4095, false), (128, 3967, 4095, false), (386, 3837, 4095, false), (1023, 4095, 3583, true), (2047, 2559, 3583, false)] (by kernel_rfl) (by kernel_rfl) ?_ | refine sk_if rfl (fun hc => ?_) (fun hc => ?_))
      · exfalso; omega
      · refine sk_back ?_; refine ⟨i + 1, ?_, ?_, le_at rfl (by (repeat (first | exact trivial | refine ⟨(by (rfl)), ?_⟩))) (by (repeat (first | exact trivial | refine ⟨rfl, ?_⟩))) (by (repeat (first | exact trivial | refine ⟨(by (first | (refine row_eq rfl ?_; simp  [pairsP_row _ _ _ hi2, Nat.mul_add]; done) | (refine box_eq rfl ?_; simp  [pairsP_row _ _ _ hi2, Nat.mul_add]; done))), ?_⟩))) (by (repeat (first | exact trivial | refine ⟨.inr rfl, ?_⟩)))⟩
        · omega
        · omega
  · have h4 : i = fs.length := by omega
    subst h4
    have L1 := pairsP_len (askW Y ws) fs ss (Nat.le_refl _) (Nat.zero_le ss.length)
    have L2 := pairsP_len (askO Y wi) fs ss (Nat.le_refl _) (Nat.zero_le ss.length)
    repeat' fail
    (apply sk_ret; apply ret_eq; (· apply RetOK.p; (· (apply GvA.cons; (· (apply RV.cellN (n := 4); (· rfl); (· rfl); (· kernel_rfl); (· rfl))); (· (apply GvP.g; (· (apply GvL.cons (.lit _)); (apply GvL.cons (.lit _)); ((apply GvL.cons (.row _ _ _ _ rfl (by ((simp; omega)))))); ((apply GvL.cons (.row _ _ _ _ rfl (by ((simp; omega)))))); exact GvL.nil)))); exact GvA.nil); (· (decide))))
    simp [pairsP_all, pairsF_len, Nat.mul_comm]

end Go.Proofs.Ytdnkmgbbkggmdaa
