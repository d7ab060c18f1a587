/- What the functions that FnExactSameByNames reaches return: part of its proof. No condition beyond those of its theorems. -/
import Derived.Test.YtefbiejoikpkmaaProg
import Derived.Test.YtefbiejoikpkmaaKplainB
import Derived.Test.YtefbiejoikpkmaaKplainC
import Derived.WalkKit
import Derived.Test.YtefbiejoikpkmaaKplainA
set_option linter.unusedVariables false
set_option linter.unusedSimpArgs false
--plain: PureMisc PureTake PureView PureAlt PurePack PureDag PureQ PureRen PureMany PureSlice Texts PureText Defs
namespace Go.Proofs.Ytefbiejoikpkmaa
open Go.RowKit
set_option linter.unusedSectionVars false
variable [Glb]

abbrev dI (n : Int) : D := .lit (.int .i64 n)
abbrev dB (b : Bool) : D := .lit (.bool b)
abbrev dS (s : ByteArray) : D := .lit (.string s)
abbrev iN (k : Nat) : FV := .c (.d (dI k))
abbrev iZ (k : Int) : FV := .c (.d (dI k))
/-- a list of numbers, of lists of numbers, of texts -/
abbrev cI (l : List Int) : List D := l.map dI
abbrev eI (l : List Int) : D := .sl 1 l.length (cI l)
abbrev cII (l : List (List Int)) : List D := l.map fun x => eI x
abbrev eII (l : List (List Int)) : D := .sl 1 l.length (cII l)
section
variable {P : Program} {st : St} {dst : Option Tmp} {ty : TypeId} {pos : String} {af : Array Edge} {T : TypeId} {x y : Operand} {k : IntKind} {i : Int}
theorem qt_idxI {l : List Int} (hx : st.ev x = .c (.d (eI l))) (hy : st.ev y = .c (.d (.lit (.int k i)))) (ht : tSl P T 1 = true) (h0 : 0 ≤ i) (h1 : i < l.length) : Qt P ⟨dst, .indexAddr T x y, ty, pos, af, none⟩ st (.c (.d (.pt [dI (atZ l i)]))) :=
  qt_idx hx hy ht h0 h1 (map_at (atZ_some h0 h1))
theorem qt_idxII {l : List (List Int)} (hx : st.ev x = .c (.d (eII l))) (hy : st.ev y = .c (.d (.lit (.int k i)))) (ht : tSl P T 1 = true) (h0 : 0 ≤ i) (h1 : i < l.length) : Qt P ⟨dst, .indexAddr T x y, ty, pos, af, none⟩ st (.c (.d (.pt [eI (atZ l i)]))) :=
  qt_idx hx hy ht h0 h1 (map_at (atZ_some h0 h1))
theorem qt_load_rowI {l : List Int} {b : Nat} {i : Int} (hx : st.ev x = .c (.lp b (0 + i.toNat * 1))) (hb : st.bl b = some (.row 1 (cI l))) (ht : tOne P T = true) (h0 : 0 ≤ i) (h1 : i < l.length) : Qt P ⟨dst, .load T x, ty, pos, af, none⟩ st (.c (.d (dI (atZ l i)))) :=
  qt_load_row hx hb ht (by rw [List.getElem?_map, Nat.zero_add, Nat.mul_one, atZ_some h0 h1]; rfl)
theorem qt_slice_dI11 {l : List Int} {x lo hi : Operand} {kl kh : IntKind} {i j : Int} (hx : st.ev x = .c (.d (eI l))) (hl : st.ev lo = .c (.d (.lit (.int kl i)))) (hh : st.ev hi = .c (.d (.lit (.int kh j)))) (ht : tSl P T 1 = true) (h0 : 0 ≤ i) (h1 : i ≤ j) (h2 : j ≤ l.length) :
    Qt P ⟨dst, .slice T x (some lo) (some hi) none, ty, pos, af, none⟩ st (.c (.d (eI (partZ l i j)))) :=
  qt_slice_d (vl := some (kl, i)) (vh := some (kh, j)) (i := i.toNat) (j := j.toNat) hx (ev_some hl) (ev_some hh) ht ⟨h0, rfl⟩ ⟨by omega, rfl⟩ (by omega) (by omega) (partZ_len h2).symm (by rw [partZ_len h2]; exact map_part l _ i j)
theorem qt_slice_dI10 {l : List Int} {x lo : Operand} {kl : IntKind} {i : Int} (hx : st.ev x = .c (.d (eI l))) (hl : st.ev lo = .c (.d (.lit (.int kl i)))) (ht : tSl P T 1 = true) (h0 : 0 ≤ i) (h1 : i ≤ l.length) :
    Qt P ⟨dst, .slice T x (some lo) none none, ty, pos, af, none⟩ st (.c (.d (eI (partZ l i l.length)))) :=
  qt_slice_d (vl := some (kl, i)) (vh := none) (i := i.toNat) (j := l.length) hx (ev_some hl) (fun _ _ _ _ _ => rfl) ht ⟨h0, rfl⟩ rfl (by omega) (by omega) (by rw [partZ_len (by omega)]; simp) (by rw [partZ_len (by omega)]; exact map_part l _ i l.length)
theorem qt_slice_dI01 {l : List Int} {x hi : Operand} {kh : IntKind} {j : Int} (hx : st.ev x = .c (.d (eI l))) (hh : st.ev hi = .c (.d (.lit (.int kh j)))) (ht : tSl P T 1 = true) (h0 : 0 ≤ j) (h2 : j ≤ l.length) :
    Qt P ⟨dst, .slice T x none (some hi) none, ty, pos, af, none⟩ st (.c (.d (eI (partZ l 0 j)))) :=
  qt_slice_d (vl := none) (vh := some (kh, j)) (i := 0) (j := j.toNat) hx (fun _ _ _ _ _ => rfl) (ev_some hh) ht rfl ⟨h0, rfl⟩ (by omega) (by omega) (by rw [partZ_len h2]; simp) (by rw [partZ_len h2]; simpa using map_part l _ 0 j)
theorem qt_slice_dII11 {l : List (List Int)} {x lo hi : Operand} {kl kh : IntKind} {i j : Int} (hx : st.ev x = .c (.d (eII l))) (hl : st.ev lo = .c (.d (.lit (.int kl i)))) (hh : st.ev hi = .c (.d (.lit (.int kh j)))) (ht : tSl P T 1 = true) (h0 : 0 ≤ i) (h1 : i ≤ j) (h2 : j ≤ l.length) :
    Qt P ⟨dst, .slice T x (some lo) (some hi) none, ty, pos, af, none⟩ st (.c (.d (eII (partZ l i j)))) :=
  qt_slice_d (vl := some (kl, i)) (vh := some (kh, j)) (i := i.toNat) (j := j.toNat) hx (ev_some hl) (ev_some hh) ht ⟨h0, rfl⟩ ⟨by omega, rfl⟩ (by omega) (by omega) (partZ_len h2).symm (by rw [partZ_len h2]; exact map_part l _ i j)
theorem qt_slice_dII10 {l : List (List Int)} {x lo : Operand} {kl : IntKind} {i : Int} (hx : st.ev x = .c (.d (eII l))) (hl : st.ev lo = .c (.d (.lit (.int kl i)))) (ht : tSl P T 1 = true) (h0 : 0 ≤ i) (h1 : i ≤ l.length) :
    Qt P ⟨dst, .slice T x (some lo) none none, ty, pos, af, none⟩ st (.c (.d (eII (partZ l i l.length)))) :=
  qt_slice_d (vl := some (kl, i)) (vh := none) (i := i.toNat) (j := l.length) hx (ev_some hl) (fun _ _ _ _ _ => rfl) ht ⟨h0, rfl⟩ rfl (by omega) (by omega) (by rw [partZ_len (by omega)]; simp) (by rw [partZ_len (by omega)]; exact map_part l _ i l.length)
theorem qt_slice_dII01 {l : List (List Int)} {x hi : Operand} {kh : IntKind} {j : Int} (hx : st.ev x = .c (.d (eII l))) (hh : st.ev hi = .c (.d (.lit (.int kh j)))) (ht : tSl P T 1 = true) (h0 : 0 ≤ j) (h2 : j ≤ l.length) :
    Qt P ⟨dst, .slice T x none (some hi) none, ty, pos, af, none⟩ st (.c (.d (eII (partZ l 0 j)))) :=
  qt_slice_d (vl := none) (vh := some (kh, j)) (i := 0) (j := j.toNat) hx (fun _ _ _ _ _ => rfl) (ev_some hh) ht rfl ⟨h0, rfl⟩ (by omega) (by omega) (by rw [partZ_len h2]; simp) (by rw [partZ_len h2]; simpa using map_part l _ 0 j)
end
end Go.Proofs.Ytefbiejoikpkmaa

namespace Go.Proofs.Ytefbiejoikpkmaa
open Go.RowKit
theorem szR_ok : ∀ (ll : List (List Int)) (left : Int), (cnt ll : Int) ≤ left → szR ll left = left - cnt ll
  | [], left, _ => by simp [szR, cnt]
  | l :: r, left, h => by
    simp only [cnt] at h ⊢
    have e : szI l.length left = left - l.length := by unfold szI; rw [if_neg (by omega)]
    unfold szR
    rw [e, if_neg (by omega), szR_ok r _ (by omega)]; omega
theorem szR_no : ∀ (ll : List (List Int)) (left : Int), left < (cnt ll : Int) → 0 ≤ left → szR ll left = -1
  | [], left, h, h0 => by simp [cnt] at h; omega
  | l :: r, left, h, h0 => by
    simp only [cnt] at h
    unfold szR
    by_cases hl : left - l.length < 0
    · have e : szI l.length left = -1 := by unfold szI; rw [if_pos hl]
      rw [e, if_pos (by omega)]
    · have e : szI l.length left = left - l.length := by unfold szI; rw [if_neg hl]
      rw [e, if_neg (by omega), szR_no r _ (by omega) (by omega)]
theorem szL_ok {ll : List (List Int)} {left : Int} (h : (ll.length : Int) + cnt ll ≤ left) : szL ll.length ll left = left - ll.length - cnt ll := by
  unfold szL; rw [if_neg (by omega), szR_ok _ _ (by omega)]
theorem szL_no {ll : List (List Int)} {left : Int} (h : left < (ll.length : Int) + cnt ll) (h0 : 0 ≤ left) : szL ll.length ll left = -1 := by
  unfold szL
  split
  · rfl
  · exact szR_no _ _ (by omega) (by omega)
theorem cnt_mem : ∀ {ll : List (List Int)} {l : List Int}, l ∈ ll → l.length ≤ cnt ll
  | l' :: r, l, h => by
    simp only [cnt]
    rcases List.mem_cons.1 h with rfl | h
    · omega
    · have := cnt_mem h; omega

end Go.Proofs.Ytefbiejoikpkmaa

namespace Go.Proofs.Ytefbiejoikpkmaa
open Go.RowKit
open Go
/-! trios -/
def sum64 (l : List Int) : Int := l.foldl (fun s n => IntKind.i64.wrap (s + n)) 0
theorem sum64_snoc {l : List Int} {k : Nat} (h : k < l.length) : sum64 (l.take (k + 1)) = IntKind.i64.wrap (sum64 (l.take k) + l[k]) := by
  unfold sum64; rw [List.take_succ_eq_append_getElem h, List.foldl_append]; rfl
def rowB (n : Int) (row : List Int) : Bool := (decide (row.length = 8) && allB row 0 n) && decide (sum64 row = n)
def trioB (n : Int) (ll : List (List Int)) : Bool := (inB n 1 1000 && decide (ll.length = 8)) && ll.all (rowB n)
theorem rowB_len {n : Int} {row : List Int} (h : rowB n row = true) : row.length = 8 ∧ ∀ k (hk : k < row.length), 0 ≤ row[k] ∧ row[k] ≤ n := by
  simp only [rowB, Bool.and_eq_true, decide_eq_true_eq, allB, List.all_eq_true] at h
  exact ⟨h.1.1, fun k hk => inB_iff.1 (h.1.2 _ (List.getElem_mem hk))⟩
theorem trioB_spec {n : Int} {ll : List (List Int)} (h : trioB n ll = true) : 1 ≤ n ∧ n ≤ 1000 ∧ ll.length = 8 ∧ ∀ q (hq : q < ll.length), ll[q].length = 8 ∧ ∀ k (hk : k < ll[q].length), 0 ≤ ll[q][k] ∧ ll[q][k] ≤ n := by
  simp only [trioB, Bool.and_eq_true, decide_eq_true_eq, List.all_eq_true] at h
  have := inB_iff.1 h.1.1
  exact ⟨this.1, this.2, h.1.2, fun q hq => rowB_len (h.2 _ (List.getElem_mem hq))⟩
/-- the bit of a player in a place -/
def bitZ (q : Int) (m : Nat) : Int := q / 2 ^ (2 - m) % 2
theorem bitZ_le (q : Int) (m : Nat) : 0 ≤ bitZ q m ∧ bitZ q m ≤ 1 := by unfold bitZ; omega
/-- the answers of a play -/
def playP (l : List Int) (q : Int) : Nat → Int
  | 0 => 0
  | m + 1 => 2 * playP l q m + atZ l (2 * m + bitZ q m)
theorem playP_bd {l : List Int} (h : bitsB l 6 = true) (q : Int) : ∀ m : Nat, m ≤ 3 → 0 ≤ playP l q m ∧ playP l q m < 2 ^ m
  | 0, _ => by simp [playP]
  | m + 1, hm => by
    have ih := playP_bd h q m (by omega)
    have hb := bitZ_le q m
    have := bitsB_at h (i := 2 * m + bitZ q m) (by omega) (by omega)
    rw [playP, Int.pow_succ]
    omega
theorem playP_4 {l : List Int} (h : bitsB l 6 = true) (q : Int) (m : Nat) (hm : m ≤ 2) : 0 ≤ playP l q m ∧ playP l q m < 4 := by
  have := playP_bd h q m (by omega)
  have : (2 : Int) ^ m ≤ 4 := by rcases (by omega : m = 0 ∨ m = 1 ∨ m = 2) with rfl | rfl | rfl <;> decide
  omega
def playV (l : List Int) (q : Int) : Int := playP l q 3
theorem playV_eq (l : List Int) {q : Int} (h0 : 0 ≤ q) (h8 : q < 8) : playV l q = 4 * atZ l (q / 4) + 2 * atZ l (2 + q / 2 % 2) + atZ l (4 + q % 2) := by
  have e : q / 4 % 2 = q / 4 := by omega
  simp [playV, playP, bitZ, e]; omega
theorem playV_bd {l : List Int} (h : bitsB l 6 = true) (q : Int) : 0 ≤ playV l q ∧ playV l q < 8 := by
  have := playP_bd h q 3 (by omega); unfold playV; omega
def ansF (n : Int) (g : Nat → Int) (q k : Nat) : Int := if (k : Int) = g q then n else 0
def trioOfB (l : List Int) (n : Int) : Bool := bitsB l 6 && inB n 1 1000
theorem oneHotZ {α : Type} (g : Int → α) (n : Int) {p : Int} (h0 : 0 ≤ p) (h8 : p < 8) : (List.replicate 8 (g 0)).set (p.toNat) (g n) = (rowF (fun k => if (k : Int) = p then n else 0) 8).map g := by
  rcases (by omega : p = 0 ∨ p = 1 ∨ p = 2 ∨ p = 3 ∨ p = 4 ∨ p = 5 ∨ p = 6 ∨ p = 7) with rfl | rfl | rfl | rfl | rfl | rfl | rfl | rfl <;> simp [rowF, List.range, List.range.loop, List.replicate, List.set]
theorem rowF_atZ (f : Nat → Int) {m k : Nat} (h : k < m) : atZ (rowF f m) (k : Int) = f k := by
  rw [atZ_nat (by simpa using h)]; simp [rowF]
theorem gridF_ans (n : Int) (f : Nat → Int) : gridF (ansF n fun q => atZ (rowF f 8) q) 8 8 = gridF (ansF n f) 8 8 :=
  gridF_congr fun i hi k _ => by have := rowF_atZ f hi; show (if (k : Int) = atZ (rowF f 8) i then n else 0) = if (k : Int) = f i then n else 0; simp only [this]
/-- the two players other than one -/
def oth1 (a : Int) : Nat := if a = 0 then 1 else 0
def oth2 (a : Int) : Nat := if a = 0 then 2 else if a = 1 then 2 else 1
def othL (a : Int) (k : Nat) : List Int := (([0, 1, 2] : List Int).take k).filter fun x => decide (x ≠ a)
theorem othL_succ (a : Int) {k : Nat} (h : k < 3) : othL a (k + 1) = if (k : Int) = a then othL a k else othL a k ++ [(k : Int)] := by
  unfold othL
  rw [List.take_succ_eq_append_getElem (by simpa using h), List.filter_append]
  by_cases e : (k : Int) = a
  · rcases (by omega : k = 0 ∨ k = 1 ∨ k = 2) with rfl | rfl | rfl <;> simp at e <;> simp [List.filter, ← e]
  · rcases (by omega : k = 0 ∨ k = 1 ∨ k = 2) with rfl | rfl | rfl <;> simp at e <;> simp [List.filter, e]
theorem othL_3 {a : Int} (h0 : 0 ≤ a) (h2 : a ≤ 2) : othL a 3 = [(oth1 a : Int), (oth2 a : Int)] := by
  rcases (by omega : a = 0 ∨ a = 1 ∨ a = 2) with rfl | rfl | rfl <;> rfl
/-- the answers of a group play -/
def grpAt (a q : Int) : Int := 2 * (2 * bitZ q (oth1 a) + bitZ q (oth2 a))
def grpV (a : Int) (own joint : List Int) (q : Int) : Int :=
  atZ own (bitZ q a.toNat) * 2 ^ (2 - a.toNat) + atZ joint (grpAt a q) * 2 ^ (2 - oth1 a) + atZ joint (grpAt a q + 1) * 2 ^ (2 - oth2 a)
theorem or421 {x y z : Int} (hx : 0 ≤ x ∧ x ≤ 1) (hy : 0 ≤ y ∧ y ≤ 1) (hz : 0 ≤ z ∧ z ≤ 1) : bits .or .i64 (bits .or .i64 (x * 4) (y * 2)) z = x * 4 + y * 2 + z := by
  rcases (by omega : x = 0 ∨ x = 1) with rfl | rfl <;> rcases (by omega : y = 0 ∨ y = 1) with rfl | rfl <;> rcases (by omega : z = 0 ∨ z = 1) with rfl | rfl <;> rfl
theorem or241 {x y z : Int} (hx : 0 ≤ x ∧ x ≤ 1) (hy : 0 ≤ y ∧ y ≤ 1) (hz : 0 ≤ z ∧ z ≤ 1) : bits .or .i64 (bits .or .i64 (x * 2) (y * 4)) z = x * 2 + y * 4 + z := by
  rcases (by omega : x = 0 ∨ x = 1) with rfl | rfl <;> rcases (by omega : y = 0 ∨ y = 1) with rfl | rfl <;> rcases (by omega : z = 0 ∨ z = 1) with rfl | rfl <;> rfl
theorem or142 {x y z : Int} (hx : 0 ≤ x ∧ x ≤ 1) (hy : 0 ≤ y ∧ y ≤ 1) (hz : 0 ≤ z ∧ z ≤ 1) : bits .or .i64 (bits .or .i64 x (y * 4)) (z * 2) = x + y * 4 + z * 2 := by
  rcases (by omega : x = 0 ∨ x = 1) with rfl | rfl <;> rcases (by omega : y = 0 ∨ y = 1) with rfl | rfl <;> rcases (by omega : z = 0 ∨ z = 1) with rfl | rfl <;> rfl
def groupB (a : Int) (own joint : List Int) (n : Int) : Bool := inB a 0 2 && bitsB own 2 && bitsB joint 8 && inB n 1 1000
theorem othL_len (a : Int) (k : Nat) : (othL a k).length ≤ 3 := by
  unfold othL; refine Nat.le_trans (List.length_filter_le _ _) ?_; rw [List.length_take]; exact Nat.min_le_right _ _

theorem inB_02 {a : Int} (h : inB a 0 2 = true) : a = 0 ∨ a = 1 ∨ a = 2 := by have := inB_iff.1 h; omega
theorem grpV_bd {a : Int} {own joint : List Int} (h : inB a 0 2 = true) (ho : bitsB own 2 = true) (hj : bitsB joint 8 = true) (q : Int) : 0 ≤ grpV a own joint q ∧ grpV a own joint q < 8 := by
  have b0 := bitZ_le q a.toNat
  have b1 := bitZ_le q (oth1 a)
  have b2 := bitZ_le q (oth2 a)
  have p0 := bitsB_at ho (i := bitZ q a.toNat) (by omega) (by omega)
  have a0 := bitsB_at hj (i := grpAt a q) (by unfold grpAt; omega) (by unfold grpAt; omega)
  have a1 := bitsB_at hj (i := grpAt a q + 1) (by unfold grpAt; omega) (by unfold grpAt; omega)
  rcases inB_02 h with rfl | rfl | rfl <;> simp [grpV, oth1, oth2] at * <;> omega
/-- a place whose digits are turned -/
def turnP (p : Int) : Int := p * 2 % 8 + p / 4
theorem turnP_bd {p : Int} (h0 : 0 ≤ p) (h8 : p < 8) : 0 ≤ turnP p ∧ turnP p < 8 := by unfold turnP; omega
theorem or_turn {p : Int} (h0 : 0 ≤ p) (h8 : p < 8) : bits .or .i64 (p * 2 % 8) (p / 4) = turnP p := by
  rcases (by omega : p = 0 ∨ p = 1 ∨ p = 2 ∨ p = 3 ∨ p = 4 ∨ p = 5 ∨ p = 6 ∨ p = 7) with rfl | rfl | rfl | rfl | rfl | rfl | rfl | rfl <;> rfl
def turnI (k : Nat) : Nat := k / 2 + k % 2 * 4
theorem turnI_lt {p : Nat} (h : p < 8) : turnI p < 8 := by unfold turnI; omega
def turnN (p : Nat) : Nat := p * 2 % 8 + p / 4
theorem turnP_nat (p : Nat) : turnP p = (turnN p : Nat) := by unfold turnP turnN; omega
theorem turnN_lt {p : Nat} (h : p < 8) : turnN p < 8 := by unfold turnN; omega
/-- a list of eight that is filled at the turned places, k of them so far -/
def turnL {α : Type} (z : α) (f : Nat → α) (k : Nat) : List α := (List.range 8).map fun j => if turnN j < k then f j else z
theorem turnL_len {α : Type} (z : α) (f : Nat → α) (k : Nat) : (turnL z f k).length = 8 := by simp [turnL]
theorem turnL_zero {α : Type} (z : α) (f : Nat → α) : turnL z f 0 = List.replicate 8 z := by simp [turnL, List.range, List.range.loop, List.replicate]
theorem turnL_set {α : Type} (z : α) (f : Nat → α) {k : Nat} (h : k < 8) : (turnL z f k).set (turnI k) (f (turnI k)) = turnL z f (k + 1) := by
  rcases (by omega : k = 0 ∨ k = 1 ∨ k = 2 ∨ k = 3 ∨ k = 4 ∨ k = 5 ∨ k = 6 ∨ k = 7) with rfl | rfl | rfl | rfl | rfl | rfl | rfl | rfl <;> rfl
theorem turnL_all {α : Type} (z : α) (f : Nat → α) : turnL z f 8 = (List.range 8).map f := by
  unfold turnL
  refine List.map_congr_left fun j hj => ?_
  have := turnN_lt (List.mem_range.1 hj)
  rw [if_pos (by omega)]
theorem turnN_inv {k : Nat} (h : k < 8) : turnN (turnI k) = k := by
  rcases (by omega : k = 0 ∨ k = 1 ∨ k = 2 ∨ k = 3 ∨ k = 4 ∨ k = 5 ∨ k = 6 ∨ k = 7) with rfl | rfl | rfl | rfl | rfl | rfl | rfl | rfl <;> rfl
def turnF (ll : List (List Int)) (q k : Nat) : Int := atZ (atZ ll (turnP q)) (turnP k)
def mixF (a b : List (List Int)) (q k : Nat) : Int := atZ (atZ a q) k + atZ (atZ b q) k
theorem trioB_at {n : Int} {ll : List (List Int)} (h : trioB n ll = true) {q : Int} (h0 : 0 ≤ q) (h8 : q < 8) : (atZ ll q).length = 8 ∧ ∀ k : Int, 0 ≤ k → k < 8 → 0 ≤ atZ (atZ ll q) k ∧ atZ (atZ ll q) k ≤ n := by
  obtain ⟨h1, h2, h3, h4⟩ := trioB_spec h
  obtain ⟨i, rfl⟩ := Int.eq_ofNat_of_zero_le h0
  rw [atZ_nat (by omega)]
  obtain ⟨h5, h6⟩ := h4 i (by omega)
  refine ⟨h5, fun k hk0 hk8 => ?_⟩
  obtain ⟨j, rfl⟩ := Int.eq_ofNat_of_zero_le hk0
  rw [atZ_nat (by omega)]
  exact h6 j (by omega)
theorem sum64_of {l : List Int} (h : l.length = 8) (hb : ∀ k (hk : k < l.length), 0 ≤ l[k] ∧ l[k] ≤ 1000000) : sum64 l = l.sum := by
  have key : ∀ (l : List Int) (s : Int), 0 ≤ s → (∀ x ∈ l, 0 ≤ x ∧ x ≤ 1000000) → s + l.length * 1000000 ≤ 1000000000 → l.foldl (fun s n => IntKind.i64.wrap (s + n)) s = s + l.sum := by
    intro l
    induction l with
    | nil => intro s _ _ _; simp
    | cons x l ih =>
      intro s h0 hx hs
      have h1 := hx x (List.mem_cons_self ..)
      simp only [List.length_cons] at hs
      rw [List.foldl_cons, IntWalk.i64_in _ (by omega), ih _ (by omega) (fun y hy => hx y (List.mem_cons_of_mem _ hy)) (by omega), List.sum_cons]; omega
  have := key l 0 (by omega) (fun x hx => by obtain ⟨k, hk, rfl⟩ := List.getElem_of_mem hx; exact hb k hk) (by omega)
  unfold sum64; rw [this]; omega
theorem len8 {l : List Int} (h : l.length = 8) : ∃ a b c d e f g i, l = [a, b, c, d, e, f, g, i] := by
  match l, h with
  | [a, b, c, d, e, f, g, i], _ => exact ⟨a, b, c, d, e, f, g, i, rfl⟩
theorem mix_row {m n : Int} {a b : List Int} (ha : rowB m a = true) (hb : rowB n b = true) (hm : m ≤ 1000) (hn : n ≤ 1000) : rowB (m + n) (rowF (fun k => atZ a k + atZ b k) 8) = true := by
  obtain ⟨a1, a2⟩ := rowB_len ha
  obtain ⟨b1, b2⟩ := rowB_len hb
  have sa : sum64 a = m := by simp [rowB] at ha; exact ha.2
  have sb : sum64 b = n := by simp [rowB] at hb; exact hb.2
  rw [sum64_of a1 fun k hk => ⟨(a2 k hk).1, by have := (a2 k hk).2; omega⟩] at sa
  rw [sum64_of b1 fun k hk => ⟨(b2 k hk).1, by have := (b2 k hk).2; omega⟩] at sb
  have bd : ∀ k (hk : k < (rowF (fun k : Nat => atZ a k + atZ b k) 8).length), 0 ≤ (rowF (fun k : Nat => atZ a k + atZ b k) 8)[k] ∧ (rowF (fun k : Nat => atZ a k + atZ b k) 8)[k] ≤ m + n := fun k hk => by
    simp only [rowF, List.getElem_map, List.getElem_range]
    have hk8 : k < 8 := by simpa using hk
    rw [atZ_nat (by omega), atZ_nat (by omega)]
    have := a2 k (by omega); have := b2 k (by omega); omega
  have e : sum64 (rowF (fun k : Nat => atZ a k + atZ b k) 8) = m + n := by
    rw [sum64_of (by simp) fun k hk => ⟨(bd k hk).1, by have := (bd k hk).2; omega⟩]
    obtain ⟨x0, x1, x2, x3, x4, x5, x6, x7, rfl⟩ := len8 a1
    obtain ⟨y0, y1, y2, y3, y4, y5, y6, y7, rfl⟩ := len8 b1
    simp [rowF, List.range, List.range.loop, atZ] at sa sb ⊢
    omega
  simp only [rowB, allB, e, rowF_len, decide_true, Bool.true_and, Bool.and_true, List.all_eq_true]
  intro x hx
  obtain ⟨k, hk, rfl⟩ := List.getElem_of_mem hx
  exact inB_iff.2 (bd k hk)
theorem mix_trio {m n : Int} {a b : List (List Int)} (ha : trioB m a = true) (hb : trioB n b = true) : trioB (m + n) (gridF (mixF a b) 8 8) = decide (m + n ≤ 1000) := by
  obtain ⟨a1, a2, a3, _⟩ := trioB_spec ha
  obtain ⟨b1, b2, b3, _⟩ := trioB_spec hb
  simp only [trioB, Bool.and_eq_true, List.all_eq_true] at ha hb
  have rows : (gridF (mixF a b) 8 8).all (rowB (m + n)) = true := by
    rw [List.all_eq_true]
    intro x hx
    unfold gridF at hx
    obtain ⟨q, hq, rfl⟩ := List.mem_map.1 hx
    have hq := List.mem_range.1 hq
    have := mix_row (ha.2 (a[q]'(by omega)) (List.getElem_mem _)) (hb.2 (b[q]'(by omega)) (List.getElem_mem _)) a2 b2
    have e : (mixF a b q) = fun k : Nat => atZ (a[q]'(by omega)) k + atZ (b[q]'(by omega)) k := by
      funext k; unfold mixF; rw [show atZ a (q : Int) = a[q]'(by omega) from atZ_nat (by omega), show atZ b (q : Int) = b[q]'(by omega) from atZ_nat (by omega)]
    rw [e]; exact this
  unfold trioB
  rw [rows]
  simp [inB]; omega
def mixB (m : Int) (a : List (List Int)) (n : Int) (b : List (List Int)) : Bool := trioB m a && trioB n b && decide (m + n ≤ 1000)

end Go.Proofs.Ytefbiejoikpkmaa

namespace Go.Proofs.Ytefbiejoikpkmaa
open Go.RowKit
/-! all plays -/
def bitN (c e : Nat) : Nat := c / 2 ^ e % 2
def bitsM (n c : Nat) : List Int := rowF (fun i => (bitN c (n - 1 - i) : Int)) n
def playsF (n : Nat) : List (List Int) := (List.range (2 ^ n)).map (bitsM n)
@[simp] theorem bitsM_len (n c : Nat) : (bitsM n c).length = n := by simp [bitsM]
@[simp] theorem playsF_len (n : Nat) : (playsF n).length = 2 ^ n := by simp [playsF]
theorem bitsM_bits (n c : Nat) : bitsB (bitsM n c) n = true := by
  simp only [bitsB, bitsM_len, decide_true, Bool.true_and, allB, List.all_eq_true]
  intro x hx
  unfold bitsM rowF at hx
  obtain ⟨i, _, rfl⟩ := List.mem_map.1 hx
  exact inB_iff.2 ⟨by unfold bitN; omega, by unfold bitN; omega⟩
theorem playsF_at {n k : Nat} (h : k < 2 ^ n) : atZ (playsF n) (k : Int) = bitsM n k := by rw [atZ_nat (by simpa using h)]; simp [playsF]
theorem plays_snoc (n c : Nat) : (List.range (c + 1)).map (bitsM n) = (List.range c).map (bitsM n) ++ [bitsM n c] := by simp [List.range_succ]
theorem bit_nat (c e : Nat) : (c : Int) / 2 ^ e % 2 = (bitN c e : Int) := by
  unfold bitN
  rw [Int.natCast_emod, Int.natCast_ediv, Int.natCast_pow]; rfl
/-- the greatest of numbers, at least 0 -/
def bestN (f : Nat → Int) : Nat → Int
  | 0 => 0
  | k + 1 => max (bestN f k) (f k)
theorem bestN_ge (f : Nat → Int) : ∀ n, 0 ≤ bestN f n
  | 0 => by simp [bestN]
  | k + 1 => by have := bestN_ge f k; simp only [bestN]; omega
theorem le_bestN (f : Nat → Int) : ∀ n k, k < n → f k ≤ bestN f n
  | n + 1, k, h => by
    simp only [bestN]
    by_cases e : k = n
    · subst e; omega
    · have := le_bestN f n k (by omega); omega
theorem bestN_le (f : Nat → Int) (M : Int) (h0 : 0 ≤ M) : ∀ n, (∀ k, k < n → f k ≤ M) → bestN f n ≤ M
  | 0, _ => by simpa [bestN] using h0
  | n + 1, h => by
    have h1 := bestN_le f M h0 n fun k hk => h k (by omega)
    have h2 := h n (by omega)
    simp only [bestN]; omega
theorem bestN_congr {f g : Nat → Int} : ∀ {n : Nat}, (∀ k, k < n → f k = g k) → bestN f n = bestN g n
  | 0, _ => rfl
  | n + 1, h => by simp only [bestN]; rw [bestN_congr fun k hk => h k (by omega), h n (by omega)]
theorem bestN_perm {f g : Nat → Int} {n : Nat} (r : Nat → Nat) (hr : ∀ k, k < n → r k < n) (h1 : ∀ k, k < n → f k = g (r k)) (h2 : ∀ k, k < n → g k = f (r k)) : bestN f n = bestN g n := by
  have a := bestN_le f (bestN g n) (bestN_ge g n) n fun k hk => by rw [h1 k hk]; exact le_bestN g n _ (hr k hk)
  have b := bestN_le g (bestN f n) (bestN_ge f n) n fun k hk => by rw [h2 k hk]; exact le_bestN f n _ (hr k hk)
  omega
/-- the score of answers -/
def parZ (p : Int) : Int := (p / 4 + p / 2 + p) % 2
def scoreN (w odd : List Int) (f : Int → Int) : Nat → Int
  | 0 => 0
  | k + 1 => scoreN w odd f k + if parZ (f k) = atZ odd k then atZ w k else 0
def valB (w odd : List Int) : Bool := decide (w.length = 8) && allB w 0 99 && bitsB odd 8
theorem allB_at {l : List Int} {lo hi : Int} (h : allB l lo hi = true) {i : Int} (h0 : 0 ≤ i) (h1 : i < l.length) : lo ≤ atZ l i ∧ atZ l i ≤ hi := by
  unfold allB at h
  rw [List.all_eq_true] at h
  obtain ⟨k, rfl⟩ := Int.eq_ofNat_of_zero_le h0
  rw [atZ_nat (by omega)]
  exact inB_iff.1 (h (l[k]'(by omega)) (List.getElem_mem _))
theorem scoreN_bd {w odd : List Int} (h : valB w odd = true) (f : Int → Int) : ∀ k : Nat, k ≤ 8 → 0 ≤ scoreN w odd f k ∧ scoreN w odd f k ≤ 99 * k
  | 0, _ => by simp [scoreN]
  | k + 1, hk => by
    have ih := scoreN_bd h f k (by omega)
    simp only [valB, Bool.and_eq_true, decide_eq_true_eq] at h
    have := allB_at h.1.2 (i := k) (by omega) (by omega)
    simp only [scoreN]
    split <;> omega
def trioVal (w odd : List Int) : Int := bestN (fun c => scoreN w odd (fun q => playV (bitsM 6 c) q) 8) 64
def bitsL (c : Nat) : List Int := rowF (fun i => (bitN c i : Int)) 6
def rev6 (c : Nat) : Nat := c % 2 * 32 + c / 2 % 2 * 16 + c / 4 % 2 * 8 + c / 8 % 2 * 4 + c / 16 % 2 * 2 + c / 32
theorem rev6_lt {c : Nat} (h : c < 64) : rev6 c < 64 := by unfold rev6; omega
theorem bitsL_bits (c : Nat) : bitsB (bitsL c) 6 = true := by
  simp only [bitsB, bitsL, rowF_len, Bool.and_eq_true, allB, List.all_eq_true]
  refine ⟨by decide, ?_⟩
  intro x hx
  unfold rowF at hx
  obtain ⟨i, _, rfl⟩ := List.mem_map.1 hx
  exact inB_iff.2 ⟨by unfold bitN; omega, by unfold bitN; omega⟩
theorem bits_rev : ∀ c : Fin 64, bitsM 6 c = bitsL (rev6 c) ∧ bitsL c = bitsM 6 (rev6 c) := by decide +kernel
theorem trioVal_L (w odd : List Int) : bestN (fun c => scoreN w odd (fun q => playV (bitsL c) q) 8) 64 = trioVal w odd :=
  bestN_perm rev6 (fun _ => rev6_lt) (fun k hk => by rw [(bits_rev ⟨k, hk⟩).2]) (fun k hk => by rw [(bits_rev ⟨k, hk⟩).1])

end Go.Proofs.Ytefbiejoikpkmaa

namespace Go.Proofs.Ytefbiejoikpkmaa
open Go.RowKit
set_option linter.unusedSectionVars false
variable [Glb]
set_option maxRecDepth 10000
set_option maxHeartbeats 4000000
theorem eqIntS_p (a b : List Int) : PC Try.prog 116 [.c (eI a), .c (eI b)] (.p (.c (dB (decide (a = b))))) := by
  refine pc_intro Try.func116 rfl rfl rfl (by kernel_rfl) rfl rfl ?_; rintro ⟨hl, hm, -⟩
  have hl := hl.len
  have hm := hm.len
  repeat' (first | (refine so_is (.assign _) ?_; (refine so_q (qt_asC rfl) rfl ?_)) | (refine so_is (.move _) ?_; (refine so_q (qt_mvC rfl) rfl ?_)) | (refine so_is (.call ⟨.builtin .len, _, #[24]⟩) ?_; (refine so_q (qt_len_d rfl (by kernel_rfl)) rfl ?_)) | (refine so_is (.binOp .neq 3 _ _ _) ?_; refine so_q (qt_neq rfl rfl) rfl ?_) | refine so_nil ?_ | refine sk_seq ?_ | refine sk_block ?_ | refine sk_skip ?_ | refine sk_region ?_ | refine sk_if rfl (fun hc => ?_) (fun hc => ?_))
  · (apply sk_ret; apply ret_eq; (· apply RetOK.p; (· (apply GvA.cons; (· exact .tmp _); (· exact GvP.c (.lit _))); exact GvA.nil); (· (decide))))
    have : a ≠ b := fun e => by subst e; simp at *
    simp [this]
  have hab : a.length = b.length := by simp at *; omega
  apply sk_packC [0, 1, 5] [] rfl; (· (repeat (first | exact Pf.nil | apply Pf.cons (.c rfl (.d rfl))))); (· (repeat (exact Pb.nil)))
  refine sk_loopL [0, 1] [] (fun k => [(5, iN k)]) (fun _ => []) (fun k => k ≤ a.length ∧ a.take k = b.take k) (fun k => a.length - k) (0) ?_ (by (repeat (first | exact trivial | refine ⟨(by (rfl)), ?_⟩))) (by (repeat (exact trivial))) ?_
  · simp
  rintro k ⟨hk, hs⟩
  repeat' (first | (refine so_is (.assign _) ?_; (refine so_q (qt_asC rfl) rfl ?_)) | (refine so_is (.move _) ?_; (refine so_q (qt_mvC rfl) rfl ?_)) | (refine so_is (.call ⟨.builtin .len, _, #[24]⟩) ?_; (refine so_q (qt_len_d rfl (by kernel_rfl)) rfl ?_)) | (refine so_is (.binOp .neq 3 _ _ _) ?_; refine so_q (qt_neq rfl rfl) rfl ?_) | (refine so_is (.binOp .lss 3 _ _ _) ?_; refine so_q (qt_lss rfl rfl) rfl ?_) | (refine so_is (.indexAddr 24 _ _) ?_; (refine so_q (qt_idxI rfl rfl (by kernel_rfl) (by (omega)) (by (omega))) rfl ?_)) | (refine so_is (.load 3 _) ?_; (refine so_q (qt_load_pt rfl (by kernel_rfl) rfl) rfl ?_)) | (refine so_is (.binOp .add 3 _ _ _) ?_; refine so_q (qt_addI rfl rfl (by (omega))) rfl ?_) | refine so_nil ?_ | refine sk_seq ?_ | refine sk_block ?_ | refine sk_blk ?_ | refine sk_exit rfl ?_ | refine sk_skip ?_ | refine sk_region ?_ | refine sk_drawQ 6 (fun _ => false) (.step 0 true (.step 1 true (.step 2 true (.step 3 true (.step 4 true (.step 5 true (.step 6 true (.step 7 true (.step 8 true .nil))))))))) [(0, 511, 511, true), (0, 511, 511, true), (3, 508, 511, true), (4, 507, 511, false), (0, 511, 511, true), (0, 511, 511, true), (48, 463, 511, true), (64, 447, 511, false), (136, 375, 511, true)] (by kernel_rfl) (by kernel_rfl) ?_ | refine sk_if rfl (fun hc => ?_) (fun hc => ?_))
  · rename_i hk'
    rw [atZ_nat (by omega), atZ_nat (by omega)] at hc
    (apply sk_ret; apply ret_eq; (· apply RetOK.p; (· (apply GvA.cons; (· exact .tmp _); (· exact GvP.c (.lit _))); exact GvA.nil); (· (decide))))
    have : a ≠ b := fun e => by subst e; exact hc rfl
    simp [this]
  · rename_i hk'
    rw [atZ_nat (by omega), atZ_nat (by omega)] at hc
    refine sk_back ?_; refine ⟨k + 1, ?_, ?_, le_at rfl (by (repeat (first | exact trivial | refine ⟨(by (rfl)), ?_⟩))) (by (repeat (first | exact trivial | refine ⟨rfl, ?_⟩))) (by (repeat (exact trivial))) (by (repeat (exact trivial)))⟩
    · exact ⟨by omega, by rw [List.take_succ_eq_append_getElem (by omega), List.take_succ_eq_append_getElem (by omega), hs]; simp at hc; rw [hc]⟩
    · omega
  · have e : k = a.length := by omega
    subst e
    rw [List.take_length, hab, List.take_length] at hs
    (apply sk_ret; apply ret_eq; (· apply RetOK.p; (· (apply GvA.cons; (· exact .tmp _); (· exact GvP.c (.lit _))); exact GvA.nil); (· (decide))))
    simp [hs]
theorem eqIntS_same (a : List Int) : PC Try.prog 116 [.c (eI a), .c (eI a)] (.p (.c (dB true))) := by
  have := eqIntS_p a a; rwa [decide_eq_true rfl] at this

end Go.Proofs.Ytefbiejoikpkmaa

namespace Go.Proofs.Ytefbiejoikpkmaa
open Go.RowKit
set_option linter.unusedSectionVars false
variable [Glb]
set_option maxRecDepth 10000
set_option maxHeartbeats 4000000
theorem eqIntSS_p (a b : List (List Int)) : PC Try.prog 117 [.c (eII a), .c (eII b)] (.p (.c (dB (decide (a = b))))) := by
  refine pc_intro Try.func117 rfl rfl rfl (by kernel_rfl) rfl rfl ?_; rintro ⟨hl, hm, -⟩
  have hl := hl.len
  have hm := hm.len
  repeat' (first | (refine so_is (.assign _) ?_; (refine so_q (qt_asC rfl) rfl ?_)) | (refine so_is (.move _) ?_; (refine so_q (qt_mvC rfl) rfl ?_)) | (refine so_is (.call ⟨.builtin .len, _, #[25]⟩) ?_; (refine so_q (qt_len_d rfl (by kernel_rfl)) rfl ?_)) | (refine so_is (.binOp .neq 3 _ _ _) ?_; refine so_q (qt_neq rfl rfl) rfl ?_) | refine so_nil ?_ | refine sk_seq ?_ | refine sk_block ?_ | refine sk_skip ?_ | refine sk_region ?_ | refine sk_if rfl (fun hc => ?_) (fun hc => ?_))
  · (apply sk_ret; apply ret_eq; (· apply RetOK.p; (· (apply GvA.cons; (· exact .tmp _); (· exact GvP.c (.lit _))); exact GvA.nil); (· (decide))))
    have : a ≠ b := fun e => by subst e; simp at *
    simp [this]
  have hab : a.length = b.length := by simp at *; omega
  apply sk_packC [0, 1, 5] [] rfl; (· (repeat (first | exact Pf.nil | apply Pf.cons (.c rfl (.d rfl))))); (· (repeat (exact Pb.nil)))
  refine sk_loopL [0, 1] [] (fun k => [(5, iN k)]) (fun _ => []) (fun k => k ≤ a.length ∧ a.take k = b.take k) (fun k => a.length - k) (0) ?_ (by (repeat (first | exact trivial | refine ⟨(by (rfl)), ?_⟩))) (by (repeat (exact trivial))) ?_
  · simp
  rintro k ⟨hk, hs⟩
  repeat' (first | (refine so_is (.assign _) ?_; (refine so_q (qt_asC rfl) rfl ?_)) | (refine so_is (.move _) ?_; (refine so_q (qt_mvC rfl) rfl ?_)) | (refine so_is (.call ⟨.builtin .len, _, #[25]⟩) ?_; (refine so_q (qt_len_d rfl (by kernel_rfl)) rfl ?_)) | (refine so_is (.binOp .lss 3 _ _ _) ?_; refine so_q (qt_lss rfl rfl) rfl ?_) | (refine so_is (.indexAddr 25 _ _) ?_; (refine so_q (qt_idxII rfl rfl (by kernel_rfl) (by (omega)) (by (omega))) rfl ?_)) | (refine so_is (.load 24 _) ?_; (refine so_q (qt_load_pt rfl (by kernel_rfl) rfl) rfl ?_)) | (refine so_is (.unOp .not 4 _) ?_; refine so_q (qt_not rfl) rfl ?_) | (refine so_is (.binOp .add 3 _ _ _) ?_; refine so_q (qt_addI rfl rfl (by (omega))) rfl ?_) | (refine so_is (.call ⟨.value (.func 116), _, _⟩) ?_; (apply so_call0 (fid := 116); (· (repeat (first | exact SeA.nil | apply SeA.cons (.c (.d _))))); (· exact eqIntS_p _ _); (· rfl))) | refine so_nil ?_ | refine sk_seq ?_ | refine sk_block ?_ | refine sk_blk ?_ | refine sk_exit rfl ?_ | refine sk_skip ?_ | refine sk_region ?_ | refine sk_drawQ 6 (fun _ => false) (.step 0 true (.step 1 true (.step 2 true (.step 3 true (.step 4 true (.step 5 true (.step 6 true (.step 7 true (.step 8 false (.step 9 true .nil)))))))))) [(0, 1023, 1023, true), (0, 1023, 1023, true), (3, 1020, 1023, true), (4, 1019, 1023, false), (0, 1023, 1023, true), (0, 1023, 1023, true), (48, 975, 1023, true), (64, 959, 1023, false), (136, 887, 1023, false), (256, 767, 1023, true)] (by kernel_rfl) (by kernel_rfl) ?_ | refine sk_if rfl (fun hc => ?_) (fun hc => ?_) | refine sk_nif rfl (fun hc => ?_) (fun hc => ?_))
  · rename_i hk'
    rw [atZ_nat (by omega), atZ_nat (by omega)] at hc
    (apply sk_ret; apply ret_eq; (· apply RetOK.p; (· (apply GvA.cons; (· exact .tmp _); (· exact GvP.c (.lit _))); exact GvA.nil); (· (decide))))
    have : a ≠ b := fun e => by subst e; simp at hc
    simp [this]
  · rename_i hk'
    rw [atZ_nat (by omega), atZ_nat (by omega)] at hc
    refine sk_back ?_; refine ⟨k + 1, ?_, ?_, le_at rfl (by (repeat (first | exact trivial | refine ⟨(by (rfl)), ?_⟩))) (by (repeat (first | exact trivial | refine ⟨rfl, ?_⟩))) (by (repeat (exact trivial))) (by (repeat (exact trivial)))⟩
    · exact ⟨by omega, by rw [List.take_succ_eq_append_getElem (by omega), List.take_succ_eq_append_getElem (by omega), hs, hc]⟩
    · omega
  · have e : k = a.length := by omega
    subst e
    rw [List.take_length, hab, List.take_length] at hs
    (apply sk_ret; apply ret_eq; (· apply RetOK.p; (· (apply GvA.cons; (· exact .tmp _); (· exact GvP.c (.lit _))); exact GvA.nil); (· (decide))))
    simp [hs]
theorem eqIntSS_same (a : List (List Int)) : PC Try.prog 117 [.c (eII a), .c (eII a)] (.p (.c (dB true))) := by
  have := eqIntSS_p a a; rwa [decide_eq_true rfl] at this

end Go.Proofs.Ytefbiejoikpkmaa

namespace Go.Proofs.Ytefbiejoikpkmaa
open Go.RowKit
set_option linter.unusedSectionVars false
variable [Glb]
set_option maxRecDepth 10000
set_option maxHeartbeats 4000000
theorem eqGame_same (x : Int) (y : Int) (we : List Int) (wi : List (List Int)) : PC Try.prog 27 [.g [dI x, dI y, eI we, eII wi], .g [dI x, dI y, eI we, eII wi]] (.p (.c (dB true))) := by
  refine pc_intro Try.func27 rfl rfl rfl (by kernel_rfl) rfl rfl ?_; intro _
  repeat' (first | (refine so_is (.box 27 _) ?_; refine so_box rfl rfl ?_) | (refine so_is (.assign _) ?_; (refine so_q (qt_asC rfl) rfl ?_)) | (refine so_is (.fieldAddr 27 _ 0) ?_; (refine so_q (qt_fld_lp (off := 0) rfl (by kernel_rfl)) rfl ?_)) | (refine so_is (.load 3 _) ?_; (refine so_q (qt_load_box rfl rfl (by kernel_rfl) rfl) rfl ?_)) | (refine so_is (.binOp .neq 3 _ _ _) ?_; (refine so_q (qt_neq_same rfl rfl) rfl ?_)) | (refine so_is (.fieldAddr 27 _ 1) ?_; (refine so_q (qt_fld_lp (off := 1) rfl (by kernel_rfl)) rfl ?_)) | (refine so_is (.fieldAddr 27 _ 2) ?_; (refine so_q (qt_fld_lp (off := 2) rfl (by kernel_rfl)) rfl ?_)) | (refine so_is (.load 24 _) ?_; (refine so_q (qt_load_box rfl rfl (by kernel_rfl) rfl) rfl ?_)) | (refine so_is (.unOp .not 4 _) ?_; refine so_q (qt_not rfl) rfl ?_) | (refine so_is (.fieldAddr 27 _ 3) ?_; (refine so_q (qt_fld_lp (off := 3) rfl (by kernel_rfl)) rfl ?_)) | (refine so_is (.load 25 _) ?_; (refine so_q (qt_load_box rfl rfl (by kernel_rfl) rfl) rfl ?_)) | (refine so_is (.call ⟨.value (.func 116), _, _⟩) ?_; (apply so_call0 (fid := 116); (· (repeat (first | exact SeA.nil | apply SeA.cons (.c (.d _))))); (· exact eqIntS_same _); (· rfl))) | (refine so_is (.call ⟨.value (.func 117), _, _⟩) ?_; (apply so_call0 (fid := 117); (· (repeat (first | exact SeA.nil | apply SeA.cons (.c (.d _))))); (· exact eqIntSS_same _); (· rfl))) | refine so_nil ?_ | refine sk_seq ?_ | refine sk_skip ?_ | refine sk_region ?_ | refine sk_false rfl ?_)
  · (apply sk_ret; apply ret_eq; (· apply RetOK.p; (· (apply GvA.cons; (· exact .tmp _); (· exact GvP.c (.lit _))); exact GvA.nil); (· (decide))))
    rfl

end Go.Proofs.Ytefbiejoikpkmaa

namespace Go.Proofs.Ytefbiejoikpkmaa
open Go.RowKit
set_option linter.unusedSectionVars false
variable [Glb]
set_option maxRecDepth 10000
set_option maxHeartbeats 4000000
theorem szIntS_p (l : List Int) (left : Int) (h0 : 0 ≤ left) (h1 : left ≤ 1048576) : PC Try.prog 112 [.c (eI l), .c (dI left)] (.p (.c (dI (szI l.length left)))) := by
  refine pc_intro Try.func112 rfl rfl rfl (by kernel_rfl) rfl rfl ?_; rintro ⟨hl, -⟩
  have hl := hl.len
  repeat' (first | (refine so_is (.assign _) ?_; (refine so_q (qt_asC rfl) rfl ?_)) | (refine so_is (.move _) ?_; (refine so_q (qt_mvC rfl) rfl ?_)) | (refine so_is (.call ⟨.builtin .len, _, #[24]⟩) ?_; (refine so_q (qt_len_d rfl (by kernel_rfl)) rfl ?_)) | (refine so_is (.binOp .sub 3 _ _ _) ?_; refine so_q (qt_subI rfl rfl (by (omega))) rfl ?_) | (refine so_is (.binOp .lss 3 _ _ _) ?_; refine so_q (qt_lss rfl rfl) rfl ?_) | refine so_nil ?_ | refine sk_seq ?_ | refine sk_skip ?_ | refine sk_region ?_ | refine sk_if rfl (fun hc => ?_) (fun hc => ?_))
  all_goals ((apply sk_ret; apply ret_eq; (· apply RetOK.p; (· (apply GvA.cons; (· exact .tmp _); (· exact GvP.c (.lit _))); exact GvA.nil); (· (decide)))))
  all_goals simp [szI]
  all_goals omega
theorem szIntS_ok (l : List Int) (left : Int) (h : l.length ≤ left) (h1 : left ≤ 1048576) : PC Try.prog 112 [.c (eI l), .c (dI left)] (.p (.c (dI (left - l.length)))) := by
  have := szIntS_p l left (by omega) h1; rwa [show szI l.length left = left - l.length by unfold szI; rw [if_neg (by omega)]] at this
theorem szIntS_no (l : List Int) (left : Int) (h : left < l.length) (h0 : 0 ≤ left) (h1 : left ≤ 1048576) : PC Try.prog 112 [.c (eI l), .c (dI left)] (.p (.c (dI (-1)))) := by
  have := szIntS_p l left h0 h1; rwa [show szI l.length left = -1 by unfold szI; rw [if_pos (by omega)]] at this

end Go.Proofs.Ytefbiejoikpkmaa

namespace Go.Proofs.Ytefbiejoikpkmaa
open Go.RowKit
set_option linter.unusedSectionVars false
variable [Glb]
set_option maxRecDepth 10000
set_option maxHeartbeats 4000000
theorem szR_take (ll : List (List Int)) (k : Nat) (left : Int) (h : k < ll.length) : szR (ll.drop k) left = if szI ll[k].length left < 0 then -1 else szR (ll.drop (k + 1)) (szI ll[k].length left) := by
  rw [List.drop_eq_getElem_cons h]; rfl
theorem szIntSS_p (ll : List (List Int)) (left : Int) (h0 : 0 ≤ left) (h1 : left ≤ 1048576) : PC Try.prog 113 [.c (eII ll), .c (dI left)] (.p (.c (dI (szL ll.length ll left)))) := by
  refine pc_intro Try.func113 rfl rfl rfl (by kernel_rfl) rfl rfl ?_; rintro ⟨hl, -⟩
  have hl := hl.len
  repeat' (first | (refine so_is (.assign _) ?_; (refine so_q (qt_asC rfl) rfl ?_)) | (refine so_is (.move _) ?_; (refine so_q (qt_mvC rfl) rfl ?_)) | (refine so_is (.call ⟨.builtin .len, _, #[25]⟩) ?_; (refine so_q (qt_len_d rfl (by kernel_rfl)) rfl ?_)) | (refine so_is (.binOp .sub 3 _ _ _) ?_; refine so_q (qt_subI rfl rfl (by (omega))) rfl ?_) | (refine so_is (.binOp .lss 3 _ _ _) ?_; refine so_q (qt_lss rfl rfl) rfl ?_) | refine so_nil ?_ | refine sk_seq ?_ | refine sk_block ?_ | refine sk_skip ?_ | refine sk_region ?_ | refine sk_if rfl (fun hc => ?_) (fun hc => ?_))
  · (apply sk_ret; apply ret_eq; (· apply RetOK.p; (· (apply GvA.cons; (· exact .tmp _); (· exact GvP.c (.lit _))); exact GvA.nil); (· (decide))))
    simp [szL]; omega
  apply sk_packC [0, 1, 5] [] rfl; (· (repeat (first | exact Pf.nil | apply Pf.cons (.c rfl (.d rfl))))); (· (repeat (exact Pb.nil)))
  refine sk_loopL [0] [] (fun g => [(5, iN g.1), (1, iZ g.2)]) (fun _ => []) (fun g => g.1 ≤ ll.length ∧ 0 ≤ g.2 ∧ g.2 ≤ 1048576 ∧ szR (ll.drop g.1) g.2 = szR ll (left - ll.length)) (fun g => ll.length - g.1) (((0 : Nat), left - ll.length)) ?_ (by (repeat (first | exact trivial | refine ⟨(by (rfl)), ?_⟩))) (by (repeat (exact trivial))) ?_
  · simp; omega
  rintro ⟨k, c⟩ ⟨hk, hc0, hc1, hs⟩
  simp only at hk hc0 hc1 hs
  repeat' (first | (refine so_is (.assign _) ?_; (refine so_q (qt_asC rfl) rfl ?_)) | (refine so_is (.move _) ?_; (refine so_q (qt_mvC rfl) rfl ?_)) | (refine so_is (.call ⟨.builtin .len, _, #[25]⟩) ?_; (refine so_q (qt_len_d rfl (by kernel_rfl)) rfl ?_)) | (refine so_is (.binOp .lss 3 _ _ _) ?_; refine so_q (qt_lss rfl rfl) rfl ?_) | (refine so_is (.indexAddr 25 _ _) ?_; (refine so_q (qt_idxII rfl rfl (by kernel_rfl) (by (omega)) (by (omega))) rfl ?_)) | (refine so_is (.load 24 _) ?_; (refine so_q (qt_load_pt rfl (by kernel_rfl) rfl) rfl ?_)) | (refine so_is (.binOp .add 3 _ _ _) ?_; refine so_q (qt_addI rfl rfl (by (omega))) rfl ?_) | (refine so_is (.call ⟨.value (.func 112), _, _⟩) ?_; (apply so_call0 (fid := 112); (· (repeat (first | exact SeA.nil | apply SeA.cons (.c (.d _))))); (· exact szIntS_p _ _ hc0 hc1); (· rfl))) | refine so_nil ?_ | refine sk_seq ?_ | refine sk_block ?_ | refine sk_blk ?_ | refine sk_exit rfl ?_ | refine sk_skip ?_ | refine sk_region ?_ | refine sk_if rfl (fun hc => ?_) (fun hc => ?_))
  · rename_i hk'
    rw [atZ_nat (by omega)] at hc
    have e := szR_take ll k c (by omega)
    rw [if_pos hc, hs] at e
    (apply sk_ret; apply ret_eq; (· apply RetOK.p; (· (apply GvA.cons; (· exact .tmp _); (· exact GvP.c (.lit _))); exact GvA.nil); (· (decide))))
    simp [szL, e]
  · rename_i hk'
    rw [atZ_nat (by omega)] at hc
    have e := szR_take ll k c (by omega)
    rw [if_neg hc, hs] at e
    have h2 : szI ll[k].length c ≤ c := by unfold szI; split <;> omega
    refine sk_back ?_; refine ⟨(k + 1, szI ll[k].length c), ?_, ?_, le_at rfl (by (repeat (first | exact trivial | refine ⟨(by (first | rfl | (refine int_eq rfl ?_; ((simp  [atZ_nat (show k < ll.length by omega)]; done))))), ?_⟩))) (by (repeat (first | exact trivial | refine ⟨rfl, ?_⟩))) (by (repeat (exact trivial))) (by (repeat (exact trivial)))⟩
    · have h3 : 0 ≤ szI ll[k].length c := by simp only at hc; omega
      exact ⟨by simp only; omega, by simp only; omega, by simp only; omega, e.symm⟩
    · simp only; omega
  · have e : k = ll.length := by omega
    subst e
    rw [List.drop_length] at hs
    (apply sk_ret; apply ret_eq; (· apply RetOK.p; (· (apply GvA.cons; (· exact .tmp _); (· exact GvP.c (.lit _))); exact GvA.nil); (· (decide))))
    simp only [szR] at hs
    have h9 : ¬ left - (ll.length : Int) < 0 := by simp at *; omega
    simp [szL, ← hs, h9]
theorem szIntSS_ok (ll : List (List Int)) (left : Int) (h : ll.length + cnt ll ≤ left) (h1 : left ≤ 1048576) : PC Try.prog 113 [.c (eII ll), .c (dI left)] (.p (.c (dI (left - ll.length - cnt ll)))) := by
  have := szIntSS_p ll left (by omega) h1; rwa [szL_ok h] at this
theorem szIntSS_no (ll : List (List Int)) (left : Int) (h : left < ll.length + cnt ll) (h0 : 0 ≤ left) (h1 : left ≤ 1048576) : PC Try.prog 113 [.c (eII ll), .c (dI left)] (.p (.c (dI (-1)))) := by
  have := szIntSS_p ll left h0 h1; rwa [szL_no h h0] at this

end Go.Proofs.Ytefbiejoikpkmaa

namespace Go.Proofs.Ytefbiejoikpkmaa
open Go.RowKit
set_option linter.unusedSectionVars false
variable [Glb]
set_option maxRecDepth 10000
set_option maxHeartbeats 4000000
theorem szGame_ok (x : Int) (y : Int) (we : List Int) (wi : List (List Int)) (left : Int) (h : we.length + wi.length + cnt wi ≤ left) (h1 : left ≤ 1048576) : PC Try.prog 25 [.g [dI x, dI y, eI we, eII wi], .c (dI left)] (.p (.c (dI (left - we.length - wi.length - cnt wi)))) := by
  refine pc_intro Try.func25 rfl rfl rfl (by kernel_rfl) rfl rfl ?_; intro _
  repeat' (first | (refine so_is (.box 48 _) ?_; refine so_box rfl rfl ?_) | (refine so_is (.assign _) ?_; (refine so_q (qt_asC rfl) rfl ?_)) | (refine so_is (.fieldAddr 48 _ 2) ?_; (refine so_q (qt_fld_lp (off := 2) rfl (by kernel_rfl)) rfl ?_)) | (refine so_is (.load 24 _) ?_; (refine so_q (qt_load_box rfl rfl (by kernel_rfl) rfl) rfl ?_)) | (refine so_is (.move _) ?_; (refine so_q (qt_mvC rfl) rfl ?_)) | (refine so_is (.binOp .lss 3 _ _ _) ?_; refine so_q (qt_lss rfl rfl) rfl ?_) | (refine so_is (.fieldAddr 48 _ 3) ?_; (refine so_q (qt_fld_lp (off := 3) rfl (by kernel_rfl)) rfl ?_)) | (refine so_is (.load 25 _) ?_; (refine so_q (qt_load_box rfl rfl (by kernel_rfl) rfl) rfl ?_)) | (refine so_is (.call ⟨.value (.func 112), _, _⟩) ?_; (apply so_call0 (fid := 112); (· (repeat (first | exact SeA.nil | apply SeA.cons (.c (.d _))))); (· exact szIntS_ok _ _ (by omega) (by omega)); (· rfl))) | (refine so_is (.call ⟨.value (.func 113), _, _⟩) ?_; (apply so_call0 (fid := 113); (· (repeat (first | exact SeA.nil | apply SeA.cons (.c (.d _))))); (· exact szIntSS_ok _ _ (by omega) (by omega)); (· rfl))) | refine so_nil ?_ | refine sk_seq ?_ | refine sk_skip ?_ | refine sk_region ?_ | refine sk_if rfl (fun hc => ?_) (fun hc => ?_))
  all_goals first | (exfalso; omega) | skip
  · (apply sk_ret; apply ret_eq; (· apply RetOK.p; (· (apply GvA.cons; (· exact .tmp _); (· exact GvP.c (.lit _))); exact GvA.nil); (· (decide))))
    rfl
theorem szGame_no (x : Int) (y : Int) (we : List Int) (wi : List (List Int)) (left : Int) (h : left < we.length + wi.length + cnt wi) (h0 : 0 ≤ left) (h1 : left ≤ 1048576) : PC Try.prog 25 [.g [dI x, dI y, eI we, eII wi], .c (dI left)] (.p (.c (dI (-1)))) := by
  by_cases c0 : left < we.length
  · refine pc_intro Try.func25 rfl rfl rfl (by kernel_rfl) rfl rfl ?_; intro _
    repeat' (first | (refine so_is (.box 48 _) ?_; refine so_box rfl rfl ?_) | (refine so_is (.assign _) ?_; (refine so_q (qt_asC rfl) rfl ?_)) | (refine so_is (.fieldAddr 48 _ 2) ?_; (refine so_q (qt_fld_lp (off := 2) rfl (by kernel_rfl)) rfl ?_)) | (refine so_is (.load 24 _) ?_; (refine so_q (qt_load_box rfl rfl (by kernel_rfl) rfl) rfl ?_)) | (refine so_is (.move _) ?_; (refine so_q (qt_mvC rfl) rfl ?_)) | (refine so_is (.binOp .lss 3 _ _ _) ?_; refine so_q (qt_lss rfl rfl) rfl ?_) | (refine so_is (.call ⟨.value (.func 112), _, _⟩) ?_; ((apply so_call0 (fid := 112); (· (repeat (first | exact SeA.nil | apply SeA.cons (.c (.d _))))); (· exact szIntS_no _ _ (by omega) (by omega) (by omega)); (· rfl)))) | refine so_nil ?_ | refine sk_seq ?_ | refine sk_region ?_ | refine sk_true rfl ?_)
    all_goals first | (exfalso; omega) | skip
    all_goals (apply sk_ret; apply ret_eq; (· apply RetOK.p; (· (apply GvA.cons; (· exact .tmp _); (· exact GvP.c (.lit _))); exact GvA.nil); (· (decide))))
    all_goals rfl
  · refine pc_intro Try.func25 rfl rfl rfl (by kernel_rfl) rfl rfl ?_; intro _
    repeat' (first | (refine so_is (.box 48 _) ?_; refine so_box rfl rfl ?_) | (refine so_is (.assign _) ?_; (refine so_q (qt_asC rfl) rfl ?_)) | (refine so_is (.fieldAddr 48 _ 2) ?_; (refine so_q (qt_fld_lp (off := 2) rfl (by kernel_rfl)) rfl ?_)) | (refine so_is (.load 24 _) ?_; (refine so_q (qt_load_box rfl rfl (by kernel_rfl) rfl) rfl ?_)) | (refine so_is (.move _) ?_; (refine so_q (qt_mvC rfl) rfl ?_)) | (refine so_is (.binOp .lss 3 _ _ _) ?_; refine so_q (qt_lss rfl rfl) rfl ?_) | (refine so_is (.fieldAddr 48 _ 3) ?_; (refine so_q (qt_fld_lp (off := 3) rfl (by kernel_rfl)) rfl ?_)) | (refine so_is (.load 25 _) ?_; (refine so_q (qt_load_box rfl rfl (by kernel_rfl) rfl) rfl ?_)) | (refine so_is (.call ⟨.value (.func 112), _, _⟩) ?_; ((apply so_call0 (fid := 112); (· (repeat (first | exact SeA.nil | apply SeA.cons (.c (.d _))))); (· exact szIntS_ok _ _ (by omega) (by omega)); (· rfl)))) | (refine so_is (.call ⟨.value (.func 113), _, _⟩) ?_; ((apply so_call0 (fid := 113); (· (repeat (first | exact SeA.nil | apply SeA.cons (.c (.d _))))); (· exact szIntSS_no _ _ (by omega) (by omega) (by omega)); (· rfl)))) | refine so_nil ?_ | refine sk_seq ?_ | refine sk_skip ?_ | refine sk_region ?_ | refine sk_true rfl ?_ | refine sk_if rfl (fun hc => ?_) (fun hc => ?_))
    all_goals first | (exfalso; omega) | skip
    all_goals (apply sk_ret; apply ret_eq; (· apply RetOK.p; (· (apply GvA.cons; (· exact .tmp _); (· exact GvP.c (.lit _))); exact GvA.nil); (· (decide))))
    all_goals rfl

end Go.Proofs.Ytefbiejoikpkmaa

namespace Go.Proofs.Ytefbiejoikpkmaa
open Go.RowKit
set_option linter.unusedSectionVars false
variable [Glb]
set_option maxRecDepth 10000
set_option maxHeartbeats 4000000
theorem toIntS_p (l : List Int) (h : l.length ≤ 1048576) : PC Try.prog 114 [.c (eI l)] (.p (.c (eI l))) := by
  refine pc_intro Try.func114 rfl rfl rfl (by kernel_rfl) rfl rfl ?_; intro _
  repeat' (first | (refine so_is (.assign _) ?_; (refine so_q (qt_asC rfl) rfl ?_)) | (refine so_is (.move _) ?_; (refine so_q (qt_mvC rfl) rfl ?_)) | (refine so_is (.call ⟨.builtin .len, _, #[24]⟩) ?_; (refine so_q (qt_len_d rfl (by kernel_rfl)) rfl ?_)) | (refine so_is (.makeSlice 24 _ _) ?_; (refine so_make (by_ := 8) (z := .int .i64 0) (y := .lit (.int .i64 0)) rfl rfl (by kernel_rfl) (by kernel_rfl) rfl (fun _ => .lit _ rfl) (by (omega)) (by (omega)) (by (omega)) rfl ?_)) | refine so_nil ?_ | refine sk_seq ?_ | refine sk_block ?_ | refine sk_region ?_)
  apply sk_packC [0, 3, 4] [7] rfl; (· (repeat (first | exact Pf.nil | apply Pf.cons (.c rfl (.d rfl)) | apply Pf.cons (.c rfl (.ls rfl))))); (· (repeat (first | exact Pb.nil | apply Pb.cons (.row rfl))))
  refine sk_loopL [0, 3] [] (fun k => [(4, iN k)]) (fun k => [(7, .row 1 (cI (fillL l 0 k)))]) (fun k => k ≤ l.length) (fun k => l.length - k) (0) ?_ (by (repeat (first | exact trivial | refine ⟨(by (rfl)), ?_⟩))) (by (repeat (first | exact trivial | refine ⟨(by ((refine row_eq rfl ?_; simp  [fillL_zero, cI]; done))), ?_⟩))) ?_
  · simp
  intro k hk
  repeat' (first | (refine so_is (.assign _) ?_; (refine so_q (qt_asC rfl) rfl ?_)) | (refine so_is (.move _) ?_; (refine so_q (qt_mvC rfl) rfl ?_)) | (refine so_is (.call ⟨.builtin .len, _, #[24]⟩) ?_; (refine so_q (qt_len_d rfl (by kernel_rfl)) rfl ?_)) | (refine so_is (.binOp .lss 3 _ _ _) ?_; refine so_q (qt_lss rfl rfl) rfl ?_) | (refine so_is (.indexAddr 24 _ _) ?_; (first | refine so_q (qt_idxI rfl rfl (by kernel_rfl) (by (omega)) (by (omega))) rfl ?_ | refine so_q (qt_idx_ls rfl rfl (by kernel_rfl : tSl _ 24 1 = true) (by (omega)) (by (omega))) rfl ?_)) | (refine so_is (.load 3 _) ?_; (refine so_q (qt_load_pt rfl (by kernel_rfl) rfl) rfl ?_)) | (refine so_is (.store 3 _ _) ?_; ((refine so_store_row rfl rfl rfl rfl (.lit _) (by simp) (by simp) (by kernel_rfl) (by ((simp only [List.length_map, List.length_append, List.length_replicate, fillL_len, rowF_len, gridF_len, mkI_len, mkII_len, partZ_min] at *; omega))) rfl ?_; simp only [St.drop]))) | (refine so_is (.binOp .add 3 _ _ _) ?_; refine so_q (qt_addI rfl rfl (by (omega))) rfl ?_) | refine so_nil ?_ | refine sk_seq ?_ | refine sk_block ?_ | refine sk_blk ?_ | refine sk_exit rfl ?_ | refine sk_skip ?_ | refine sk_region ?_ | refine sk_if rfl (fun hc => ?_) (fun hc => ?_))
  · have hk' : k < l.length := by omega
    refine sk_back ?_; refine ⟨k + 1, ?_, ?_, le_at rfl (by (repeat (first | exact trivial | refine ⟨(by (rfl)), ?_⟩))) (by (repeat (first | exact trivial | refine ⟨rfl, ?_⟩))) (by (repeat (first | exact trivial | refine ⟨(by ((refine row_eq rfl ?_; simp  [atZ_nat hk', ← List.map_set, fillL_set 0 hk']; done))), ?_⟩))) (by (repeat (exact trivial)))⟩
    · omega
    · omega
  · have : k = l.length := by omega
    subst this
    rw [fillL_all]
    (apply sk_ret; apply ret_eq; (· apply RetOK.p; (· (apply GvA.cons; (· exact .tmp _); (· (exact GvP.c (.row _ _ _ _ rfl (by ((simp; done))))))); exact GvA.nil); (· (decide))))
    simp

end Go.Proofs.Ytefbiejoikpkmaa

namespace Go.Proofs.Ytefbiejoikpkmaa
open Go.RowKit
set_option linter.unusedSectionVars false
variable [Glb]
set_option maxRecDepth 10000
set_option maxHeartbeats 4000000
theorem toIntSS_p (ll : List (List Int)) (h : ll.length ≤ 1048576) (hr : ∀ l ∈ ll, l.length ≤ 1048576) : PC Try.prog 115 [.c (eII ll)] (.p (.c (eII ll))) := by
  refine pc_intro Try.func115 rfl rfl rfl (by kernel_rfl) rfl rfl ?_; intro _
  repeat' (first | (refine so_is (.assign _) ?_; (refine so_q (qt_asC rfl) rfl ?_)) | (refine so_is (.move _) ?_; (refine so_q (qt_mvC rfl) rfl ?_)) | (refine so_is (.call ⟨.builtin .len, _, #[25]⟩) ?_; (refine so_q (qt_len_d rfl (by kernel_rfl)) rfl ?_)) | (refine so_is (.makeSlice 25 _ _) ?_; (refine so_make (by_ := 24) (z := .slice none 0 0) (y := .sl 1 0 []) rfl rfl (by kernel_rfl) (by kernel_rfl) rfl (fun _ => .nil _ (by decide)) (by (omega)) (by (omega)) (by (omega)) rfl ?_)) | refine so_nil ?_ | refine sk_seq ?_ | refine sk_block ?_ | refine sk_region ?_)
  apply sk_packC [0, 3, 4] [7, 20] rfl; (· (repeat (first | exact Pf.nil | apply Pf.cons (.c rfl (.d rfl)) | apply Pf.cons (.c rfl (.ls rfl))))); (· (repeat (first | exact Pb.nil | apply Pb.cons (.row rfl) | apply Pb.skip)))
  refine sk_loopL [0, 3] [20] (fun k => [(4, iN k)]) (fun k => [(7, .row 1 (cII (fillL ll [] k)))]) (fun k => k ≤ ll.length) (fun k => ll.length - k) (0) ?_ (by (repeat (first | exact trivial | refine ⟨(by (rfl)), ?_⟩))) (by (repeat (first | exact trivial | refine ⟨(by ((refine row_eq rfl ?_; simp  [fillL_zero]; done))), ?_⟩))) ?_
  · simp
  intro k hk
  repeat' (first | (refine so_is (.assign _) ?_; (refine so_q (qt_asC rfl) rfl ?_)) | (refine so_is (.move _) ?_; (refine so_q (qt_mvC rfl) rfl ?_)) | (refine so_is (.call ⟨.builtin .len, _, #[25]⟩) ?_; (refine so_q (qt_len_d rfl (by kernel_rfl)) rfl ?_)) | (refine so_is (.binOp .lss 3 _ _ _) ?_; refine so_q (qt_lss rfl rfl) rfl ?_) | (refine so_is (.indexAddr 25 _ _) ?_; (first | refine so_q (qt_idxII rfl rfl (by kernel_rfl) (by (omega)) (by (omega))) rfl ?_ | refine so_q (qt_idx_ls rfl rfl (by kernel_rfl : tSl _ 25 1 = true) (by (omega)) (by (omega))) rfl ?_)) | (refine so_is (.load 24 _) ?_; (refine so_q (qt_load_pt rfl (by kernel_rfl) rfl) rfl ?_)) | (refine so_is (.store 24 _ _) ?_; (refine so_store_row rfl rfl rfl rfl (.row _ _ _ _ rfl (by ((simp; done)))) (by decide) (by decide) (by kernel_rfl) (by ((simp only [List.length_map, List.length_append, List.length_replicate, fillL_len, rowF_len, gridF_len, mkI_len, mkII_len, partZ_min] at *; omega))) rfl ?_)) | (refine so_is (.binOp .add 3 _ _ _) ?_; refine so_q (qt_addI rfl rfl (by (omega))) rfl ?_) | (refine so_is (.call ⟨.value (.func 114), _, _⟩) ?_; (apply so_callO0 (fid := 114); (· (repeat (first | exact SeA.nil | apply SeA.cons (.c (.d _))))); (· exact toIntS_p (atZ ll k) (by rw [atZ_nat (by omega)]; exact hr _ (List.getElem_mem _))); (· rfl); (· rfl))) | refine so_nil ?_ | refine sk_seq ?_ | refine sk_block ?_ | refine sk_blk ?_ | refine sk_exit rfl ?_ | refine sk_skip ?_ | refine sk_region ?_ | refine sk_if rfl (fun hc => ?_) (fun hc => ?_))
  · have hk' : k < ll.length := by omega
    refine sk_back ?_; refine ⟨k + 1, ?_, ?_, le_at rfl (by (repeat (first | exact trivial | refine ⟨(by (rfl)), ?_⟩))) (by (repeat (first | exact trivial | refine ⟨rfl, ?_⟩))) (by (repeat (first | exact trivial | refine ⟨(by ((refine row_eq rfl ?_; simp  [atZ_nat hk', ← fillL_set [] hk']; done))), ?_⟩))) (by (repeat (first | exact trivial | refine ⟨.inr rfl, ?_⟩)))⟩
    · omega
    · omega
  · have : k = ll.length := by omega
    subst this
    rw [fillL_all]
    (apply sk_ret; apply ret_eq; (· apply RetOK.p; (· (apply GvA.cons; (· exact .tmp _); (· (exact GvP.c (.row _ _ _ _ rfl (by ((simp; done))))))); exact GvA.nil); (· (decide))))
    simp
theorem toIntSS_z (ll : List (List Int)) (h : ll.length + cnt ll ≤ 1048576) : PC Try.prog 115 [.c (eII ll)] (.p (.c (eII ll))) :=
  toIntSS_p ll (by omega) fun l hl => by have := cnt_mem hl; omega

end Go.Proofs.Ytefbiejoikpkmaa

namespace Go.Proofs.Ytefbiejoikpkmaa
open Go.RowKit
set_option linter.unusedSectionVars false
variable [Glb]
set_option maxRecDepth 10000
set_option maxHeartbeats 4000000
theorem toGame_p (x : Int) (y : Int) (we : List Int) (wi : List (List Int)) (h : we.length + wi.length + cnt wi ≤ 1048576) : PC Try.prog 26 [.g [dI x, dI y, eI we, eII wi]] (.p (.g [dI x, dI y, eI we, eII wi])) := by
  refine pc_intro Try.func26 rfl rfl rfl (by kernel_rfl) rfl rfl ?_; intro _
  repeat' (first | (refine so_is (.box 48 _) ?_; refine so_box rfl rfl ?_) | (refine so_is (.alloc 27) ?_; refine so_alloc (zs := [.int .i64 0, .int .i64 0, .slice none 0 0, .slice none 0 0]) (by kernel_rfl) rfl ?_) | (refine so_is (.fieldAddr 48 _ 0) ?_; (refine so_q (qt_fld_lp (off := 0) rfl (by kernel_rfl)) rfl ?_)) | (refine so_is (.load 3 _) ?_; (refine so_q (qt_load_box rfl rfl (by kernel_rfl) rfl) rfl ?_)) | (refine so_is (.fieldAddr 27 _ 0) ?_; (refine so_q (qt_fld_lp (off := 0) rfl (by kernel_rfl)) rfl ?_)) | (refine so_is (.store 3 _ _) ?_; (refine so_store_box1 rfl rfl rfl rfl (by kernel_rfl) rfl rfl ?_)) | (refine so_is (.fieldAddr 48 _ 1) ?_; (refine so_q (qt_fld_lp (off := 1) rfl (by kernel_rfl)) rfl ?_)) | (refine so_is (.fieldAddr 27 _ 1) ?_; (refine so_q (qt_fld_lp (off := 1) rfl (by kernel_rfl)) rfl ?_)) | (refine so_is (.fieldAddr 48 _ 2) ?_; (refine so_q (qt_fld_lp (off := 2) rfl (by kernel_rfl)) rfl ?_)) | (refine so_is (.load 24 _) ?_; (refine so_q (qt_load_box rfl rfl (by kernel_rfl) rfl) rfl ?_)) | (refine so_is (.fieldAddr 27 _ 2) ?_; (refine so_q (qt_fld_lp (off := 2) rfl (by kernel_rfl)) rfl ?_)) | (refine so_is (.store 24 _ _) ?_; (refine so_store_box1 rfl rfl rfl rfl (by kernel_rfl) rfl rfl ?_)) | (refine so_is (.fieldAddr 48 _ 3) ?_; (refine so_q (qt_fld_lp (off := 3) rfl (by kernel_rfl)) rfl ?_)) | (refine so_is (.load 25 _) ?_; (refine so_q (qt_load_box rfl rfl (by kernel_rfl) rfl) rfl ?_)) | (refine so_is (.fieldAddr 27 _ 3) ?_; (refine so_q (qt_fld_lp (off := 3) rfl (by kernel_rfl)) rfl ?_)) | (refine so_is (.store 25 _ _) ?_; (refine so_store_box1 rfl rfl rfl rfl (by kernel_rfl) rfl rfl ?_)) | (refine so_is (.load 27 _) ?_; (refine so_q (qt_load_boxs rfl rfl (by kernel_rfl : tAgg _ 27 4 = true) rfl) rfl ?_)) | (refine so_is (.store 27 _ _) ?_; (refine so_store_box rfl rfl rfl (by kernel_rfl) rfl rfl ?_)) | (refine so_is (.call ⟨.value (.func 114), _, _⟩) ?_; (apply so_callO0 (fid := 114); (· (repeat (first | exact SeA.nil | apply SeA.cons (.c (.d _))))); (· exact toIntS_p _ (by omega)); (· rfl); (· rfl))) | (refine so_is (.call ⟨.value (.func 115), _, _⟩) ?_; (apply so_callO0 (fid := 115); (· (repeat (first | exact SeA.nil | apply SeA.cons (.c (.d _))))); (· exact toIntSS_z _ (by omega)); (· rfl); (· rfl))) | refine so_nil ?_ | refine sk_seq ?_ | refine sk_region (id := 0) ?_ | refine sk_region (id := 1) ?_ | refine sk_region (id := 2) ?_ | refine sk_region (id := 3) ?_ | (apply sk_pack 4 [1, 2, 3] [1, 2, 3] rfl; (· (repeat (first | exact Pf.nil | apply Pf.cons (.c rfl (.lp rfl))))); (· (repeat (first | exact Pb.nil | (apply Pb.cons; (· apply Nb.box rfl; (repeat (first | exact Ncs.nil rfl | (apply Ncs.cons rfl; (· (exact .d rfl)))))))))); refine sk_region (id := 4) ?_) | refine sk_region (id := 5) ?_ | refine sk_region (id := 6) ?_)
  · (apply sk_ret; apply ret_eq; (· apply RetOK.p; (· (apply GvA.cons; (· (apply RV.cellN (n := 4); (· rfl); (· rfl); (· kernel_rfl); (· rfl))); (· (apply GvP.g; (· (apply GvL.cons (.lit _)); (apply GvL.cons (.lit _)); ((apply GvL.cons (.row _ _ _ _ rfl (by ((simp; done)))))); ((apply GvL.cons (.row _ _ _ _ rfl (by ((simp; done)))))); exact GvL.nil)))); exact GvA.nil); (· (decide))))
    rfl

end Go.Proofs.Ytefbiejoikpkmaa

namespace Go.Proofs.Ytefbiejoikpkmaa
open Go.RowKit
open Go
/-! boxes -/
def row4B (n : Int) (row : List Int) : Bool := (decide (row.length = 4) && allB row 0 n) && decide (sum64 row = n)
def sizeB (x y : Int) : Bool := inB x 1 3 && inB y 1 3
def boxB (x y n : Int) (ll : List (List Int)) : Bool := ((sizeB x y && inB n 1 1000) && decide ((ll.length : Int) = x * y)) && ll.all (row4B n)
theorem sizeB_iff {x y : Int} : sizeB x y = true ↔ (1 ≤ x ∧ x ≤ 3) ∧ (1 ≤ y ∧ y ≤ 3) := by simp [sizeB, inB_iff]
theorem mul_bd3 {x y : Int} (h : sizeB x y = true) : 1 ≤ x * y ∧ x * y ≤ 9 := by
  obtain ⟨⟨a, b⟩, c, d⟩ := sizeB_iff.1 h
  rcases (by omega : x = 1 ∨ x = 2 ∨ x = 3) with rfl | rfl | rfl <;> rcases (by omega : y = 1 ∨ y = 2 ∨ y = 3) with rfl | rfl | rfl <;> decide
theorem wrap_mul3 {x y : Int} (h : sizeB x y = true) : IntKind.i64.wrap (x * y) = x * y := IntWalk.i64_in _ (by have := mul_bd3 h; omega)
theorem row4B_len {n : Int} {row : List Int} (h : row4B n row = true) : row.length = 4 ∧ ∀ k (hk : k < row.length), 0 ≤ row[k] ∧ row[k] ≤ n := by
  simp only [row4B, Bool.and_eq_true, decide_eq_true_eq, allB, List.all_eq_true] at h
  exact ⟨h.1.1, fun k hk => inB_iff.1 (h.1.2 _ (List.getElem_mem hk))⟩
theorem row4B_sum {n : Int} {row : List Int} (h : row4B n row = true) : sum64 row = n := by simp [row4B] at h; exact h.2
structure BoxOK (x y n : Int) (ll : List (List Int)) : Prop where
  x1 : 1 ≤ x
  x3 : x ≤ 3
  y1 : 1 ≤ y
  y3 : y ≤ 3
  n1 : 1 ≤ n
  n2 : n ≤ 1000
  len : (ll.length : Int) = x * y
  row : ∀ q, (hq : q < ll.length) → row4B n ll[q] = true
theorem boxB_spec {x y n : Int} {ll : List (List Int)} (h : boxB x y n ll = true) : BoxOK x y n ll := by
  simp only [boxB, Bool.and_eq_true, decide_eq_true_eq, List.all_eq_true] at h
  obtain ⟨⟨⟨h1, h2⟩, h3⟩, h4⟩ := h
  have a := sizeB_iff.1 h1
  have b := inB_iff.1 h2
  exact ⟨a.1.1, a.1.2, a.2.1, a.2.2, b.1, b.2, h3, fun q hq => h4 _ (List.getElem_mem hq)⟩
theorem boxB_at {x y n : Int} {ll : List (List Int)} (h : boxB x y n ll = true) {q : Int} (h0 : 0 ≤ q) (h8 : q < x * y) : (atZ ll q).length = 4 ∧ ∀ k : Int, 0 ≤ k → k < 4 → 0 ≤ atZ (atZ ll q) k ∧ atZ (atZ ll q) k ≤ n := by
  have hb := boxB_spec h
  obtain ⟨i, rfl⟩ := Int.eq_ofNat_of_zero_le h0
  have hi : i < ll.length := by have := hb.len; omega
  rw [atZ_nat hi]
  obtain ⟨h5, h6⟩ := row4B_len (hb.row i hi)
  refine ⟨h5, fun k hk0 hk8 => ?_⟩
  obtain ⟨j, rfl⟩ := Int.eq_ofNat_of_zero_le hk0
  rw [atZ_nat (by omega)]
  exact h6 j (by omega)
/-- the place of a pair of questions -/
theorem idx_lt {i k X Y : Int} (h0 : 0 ≤ i) (h1 : i < X) (h2 : 0 ≤ k) (h3 : k < Y) : 0 ≤ i * Y + k ∧ i * Y + k < X * Y ∧ 0 ≤ i * Y ∧ i * Y < X * Y := by
  have hY : 0 ≤ Y := by omega
  have a : 0 ≤ i * Y := Int.mul_nonneg h0 hY
  have b : (i + 1) * Y ≤ X * Y := Int.mul_le_mul_of_nonneg_right (by omega) hY
  rw [Int.add_mul, Int.one_mul] at b
  omega
theorem idx_ltN {i k X Y : Nat} (h1 : i < X) (h3 : k < Y) : Y * i + k < Y * X := by
  rw [Nat.mul_comm Y i, Nat.mul_comm Y X]
  have b : (i + 1) * Y ≤ X * Y := Nat.mul_le_mul_right _ (by omega)
  rw [Nat.add_mul, Nat.one_mul] at b
  omega
/-- the rows of a box told by a function of questions and place -/
def boxF (f : Nat → Nat → Nat → Int) (y n : Nat) : List (List Int) := (List.range n).map fun j => rowF (f (j / y) (j % y)) 4
@[simp] theorem boxF_len (f : Nat → Nat → Nat → Int) (y n : Nat) : (boxF f y n).length = n := by simp [boxF]
theorem boxF_snoc (f : Nat → Nat → Nat → Int) (y : Nat) (i k : Nat) (h : k < y) : boxF f y (y * i + (k + 1)) = boxF f y (y * i + k) ++ [rowF (f i k) 4] := by
  have e1 : (y * i + k) / y = i := by rw [Nat.mul_comm, Nat.add_comm, Nat.add_mul_div_right _ _ (by omega), Nat.div_eq_of_lt h, Nat.zero_add]
  have e2 : (y * i + k) % y = k := by rw [Nat.mul_comm, Nat.add_comm, Nat.add_mul_mod_self_right, Nat.mod_eq_of_lt h]
  simp [boxF, ← Nat.add_assoc, List.range_succ, e1, e2]
theorem boxF_congr {f g : Nat → Nat → Nat → Int} {x y : Nat} (h : ∀ i k p, i < x → k < y → p < 4 → f i k p = g i k p) : boxF f y (y * x) = boxF g y (y * x) := by
  unfold boxF
  refine List.map_congr_left fun j hj => ?_
  have hj := List.mem_range.1 hj
  by_cases hy : y = 0
  · subst hy; simp at hj
  · exact rowF_congr fun p hp => h _ _ _ (Nat.div_lt_of_lt_mul hj) (Nat.mod_lt _ (by omega)) hp
theorem cnt_boxF (f : Nat → Nat → Nat → Int) (y n : Nat) : cnt (boxF f y n) = n * 4 := by
  rw [cnt_len 4]
  · simp
  · intro l hl; unfold boxF at hl; obtain ⟨j, _, rfl⟩ := List.mem_map.1 hl; simp
theorem boxF_at {f : Nat → Nat → Nat → Int} {y n : Nat} {j : Nat} (h : j < n) : atZ (boxF f y n) (j : Int) = rowF (f (j / y) (j % y)) 4 := by
  rw [atZ_nat (by simpa using h)]; simp [boxF]
/-- a box's number -/
def atB (ll : List (List Int)) (Y i k p : Int) : Int := atZ (atZ ll (i * Y + k)) p

end Go.Proofs.Ytefbiejoikpkmaa

namespace Go.Proofs.Ytefbiejoikpkmaa
open Go.RowKit
open Go
/-! lists told by two lists of questions -/
def pairsF {α : Type} (h : Int → Int → α) (l m : List Int) : List α := l.flatMap fun x => m.map fun y => h x y
def pairsP {α : Type} (h : Int → Int → α) (l m : List Int) (i k : Nat) : List α := (pairsF h (l.take i) m) ++ ((m.take k).map fun y => h (atZ l i) y)
theorem pairsP_zero {α : Type} (h : Int → Int → α) (l m : List Int) : pairsP h l m 0 0 = [] := by simp [pairsP, pairsF]
theorem pairsP_snoc {α : Type} (h : Int → Int → α) (l m : List Int) (i : Nat) {k : Nat} (hk : k < m.length) : pairsP h l m i (k + 1) = pairsP h l m i k ++ [h (atZ l i) (atZ m k)] := by
  have e : m.take (k + 1) = m.take k ++ [m[k]] := List.take_succ_eq_append_getElem hk
  have e2 := atZ_nat hk
  unfold pairsP
  rw [e, e2, List.map_append, ← List.append_assoc]; rfl
theorem pairsP_row {α : Type} (h : Int → Int → α) (l m : List Int) {i : Nat} (hi : i < l.length) : pairsP h l m i m.length = pairsP h l m (i + 1) 0 := by
  have e : l.take (i + 1) = l.take i ++ [l[i]] := List.take_succ_eq_append_getElem hi
  have e2 := atZ_nat hi
  unfold pairsP pairsF
  rw [e, e2, List.flatMap_append, List.take_length]
  simp only [List.flatMap_cons, List.flatMap_nil, List.take_zero, List.map_nil, List.append_nil]
theorem pairsP_all {α : Type} (h : Int → Int → α) (l m : List Int) : pairsP h l m l.length 0 = pairsF h l m := by simp [pairsP]
theorem pairsF_len {α : Type} (h : Int → Int → α) : ∀ (l m : List Int), (pairsF h l m).length = l.length * m.length
  | [], m => by simp [pairsF]
  | x :: l, m => by
    have := pairsF_len h l m
    unfold pairsF at *
    rw [List.flatMap_cons, List.length_append, this, List.length_map, List.length_cons, Nat.add_mul]; omega
theorem pairsP_len {α : Type} (h : Int → Int → α) (l m : List Int) {i k : Nat} (hi : i ≤ l.length) (hk : k ≤ m.length) : (pairsP h l m i k).length = m.length * i + k := by
  unfold pairsP
  rw [Nat.mul_comm, List.length_append, pairsF_len, List.length_map, List.length_take, List.length_take, Nat.min_eq_left hi, Nat.min_eq_left hk]
theorem pairsF_congr {α : Type} {h g : Int → Int → α} {l m : List Int} (e : ∀ x ∈ l, ∀ y ∈ m, h x y = g x y) : pairsF h l m = pairsF g l m := by
  unfold pairsF
  induction l with
  | nil => rfl
  | cons x l ih =>
    rw [List.flatMap_cons, List.flatMap_cons, ih fun x hx y hy => e x (List.mem_cons_of_mem _ hx) y hy]
    congr 1
    exact List.map_congr_left fun y hy => e x (List.mem_cons_self ..) y hy
/-- the numbers less than n -/
def cntL (n : Nat) : List Int := (List.range n).map fun i : Nat => (i : Int)
@[simp] theorem cntL_len (n : Nat) : (cntL n).length = n := by simp [cntL]
theorem cntL_snoc (n : Nat) : cntL (n + 1) = cntL n ++ [(n : Int)] := by simp [cntL, List.range_succ]
theorem cntL_at {n i : Nat} (h : i < n) : atZ (cntL n) (i : Int) = i := by rw [atZ_nat (by simpa using h)]; simp [cntL]
theorem cntL_mem {n : Nat} {x : Int} (h : x ∈ cntL n) : 0 ≤ x ∧ x < n := by
  unfold cntL at h
  obtain ⟨i, hi, rfl⟩ := List.mem_map.1 h
  have := List.mem_range.1 hi; omega
/-! games -/
def totB (l : List Int) : Int := sum64 l
def gameB (x y : Int) (ws : List Int) (wi : List (List Int)) : Bool := sizeB x y && (decide ((ws.length : Int) = x * y) && (allB ws 0 99 && (decide (sum64 ws ≠ 0) && (decide ((wi.length : Int) = x * y) && wi.all (fun l => bitsB l 4)))))
structure GameOK (x y : Int) (ws : List Int) (wi : List (List Int)) : Prop where
  x1 : 1 ≤ x
  x3 : x ≤ 3
  y1 : 1 ≤ y
  y3 : y ≤ 3
  wl : (ws.length : Int) = x * y
  il : (wi.length : Int) = x * y
  wb : allB ws 0 99 = true
  s0 : sum64 ws ≠ 0
  row : ∀ q, (hq : q < wi.length) → bitsB wi[q] 4 = true
theorem gameB_spec {x y : Int} {ws : List Int} {wi : List (List Int)} (h : gameB x y ws wi = true) : GameOK x y ws wi := by
  simp only [gameB, Bool.and_eq_true, decide_eq_true_eq, List.all_eq_true] at h
  obtain ⟨h1, h2, h3, h4, h5, h6⟩ := h
  have a := sizeB_iff.1 h1
  exact ⟨a.1.1, a.1.2, a.2.1, a.2.2, h2, h5, h3, h4, fun q hq => h6 _ (List.getElem_mem hq)⟩
theorem sum64_small {l : List Int} {m : Int} (hl : l.length ≤ 1000) (hb : allB l 0 m = true) (hm : 0 ≤ m) (hm2 : m ≤ 1000000) : sum64 l = l.sum ∧ 0 ≤ l.sum ∧ l.sum ≤ l.length * m := by
  have key : ∀ (l : List Int) (s : Int), 0 ≤ s → (∀ x ∈ l, 0 ≤ x ∧ x ≤ m) → s + l.length * m ≤ 1000000000000 → l.foldl (fun s n => IntKind.i64.wrap (s + n)) s = s + l.sum ∧ 0 ≤ l.sum ∧ l.sum ≤ l.length * m := by
    intro l
    induction l with
    | nil => intro s _ _ _; simp
    | cons x l ih =>
      intro s h0 hx hs
      have h1 := hx x (List.mem_cons_self ..)
      simp only [List.length_cons, Int.natCast_add, Int.add_mul] at hs ⊢
      have h2 : 0 ≤ (l.length : Int) * m := Int.mul_nonneg (by omega) hm
      obtain ⟨e1, e2, e3⟩ := ih (s + x) (by omega) (fun y hy => hx y (List.mem_cons_of_mem _ hy)) (by simp at hs; omega)
      rw [List.foldl_cons, IntWalk.i64_in _ (by simp at hs; omega), e1, List.sum_cons]
      simp at hs ⊢; omega
  unfold allB at hb
  rw [List.all_eq_true] at hb
  have hlm : (l.length : Int) * m ≤ 1000 * 1000000 := Int.mul_le_mul (by omega) hm2 hm (by omega)
  have := key l 0 (by omega) (fun x hx => inB_iff.1 (hb x hx)) (by omega)
  unfold sum64; omega

theorem mem_atZ {α : Type} [Inhabited α] {l : List α} {i : Nat} (h : i < l.length) : atZ l (i : Int) ∈ l := by rw [atZ_nat h]; exact List.getElem_mem _
def whenA {α : Type} (b : Bool) (l : List α) : List α := if b = true then l else []
def xor4 (k : Nat) (m : Int) : Int := ((k ^^^ m.toNat : Nat) : Int)
theorem xor4_eq {k : Nat} {m : Int} (hk : k < 4) (h0 : 0 ≤ m) (h4 : m < 4) : bits .xor .i64 (k : Int) m = xor4 k m ∧ 0 ≤ xor4 k m ∧ xor4 k m < 4 := by
  rcases (by omega : k = 0 ∨ k = 1 ∨ k = 2 ∨ k = 3) with rfl | rfl | rfl | rfl <;> rcases (by omega : m = 0 ∨ m = 1 ∨ m = 2 ∨ m = 3) with rfl | rfl | rfl | rfl <;> exact ⟨rfl, by decide, by decide⟩
def flipOf (fl : List Int) (X x y : Int) : Int := 2 * atZ fl x + atZ fl (X + y)
/-- the weights and the wins that are asked for -/
def askW (Y : Int) (ws : List Int) (x y : Int) : Int := atZ ws (x * Y + y)
def askR (X Y : Int) (wi : List (List Int)) (fl : List Int) (x y : Int) : List Int := rowF (fun k => atZ (atZ wi (x * Y + y)) (xor4 k (flipOf fl X x y))) 4
@[simp] theorem askR_len (X Y : Int) (wi : List (List Int)) (fl : List Int) (x y : Int) : (askR X Y wi fl x y).length = 4 := by simp [askR]
theorem askR_get (X Y : Int) (wi : List (List Int)) (fl : List Int) (x y : Int) {p : Nat} (hp : p < (askR X Y wi fl x y).length) : (askR X Y wi fl x y)[p] = atZ (atZ wi (x * Y + y)) (xor4 p (flipOf fl X x y)) := by simp [askR, rowF]
theorem gameB_at {x y : Int} {ws : List Int} {wi : List (List Int)} (h : gameB x y ws wi = true) {q : Int} (h0 : 0 ≤ q) (h1 : q < x * y) : (0 ≤ atZ ws q ∧ atZ ws q ≤ 99) ∧ bitsB (atZ wi q) 4 = true := by
  have hg := gameB_spec h
  refine ⟨allB_at hg.wb h0 (by rw [hg.wl]; exact h1), ?_⟩
  obtain ⟨i, rfl⟩ := Int.eq_ofNat_of_zero_le h0
  have hi : i < wi.length := by have := hg.il; omega
  rw [atZ_nat hi]; exact hg.row i hi
theorem pairs_all {ws : List Int} {X Y : Nat} (h : ws.length = Y * X) : pairsF (askW Y ws) (cntL X) (cntL Y) = ws := by
  have e : pairsF (askW Y ws) (cntL X) (cntL Y) = (List.range (Y * X)).map fun j : Nat => atZ ws (j : Int) := by
    clear h
    induction X with
    | zero => simp [pairsF, cntL]
    | succ n ih =>
      unfold pairsF at ih ⊢
      rw [cntL_snoc, List.flatMap_append, ih, Nat.mul_succ, List.range_add, List.map_append, List.map_map]
      congr 1
      simp only [List.flatMap_cons, List.flatMap_nil, List.append_nil, cntL, List.map_map]
      refine List.map_congr_left fun k _ => ?_
      simp only [Function.comp, askW]
      congr 1
      rw [Int.natCast_add, Int.natCast_mul, Int.mul_comm]
  rw [e, ← h]
  refine List.ext_getElem (by simp) fun i h1 h2 => ?_
  simp [atZ_nat h2]
def flipB (X Y : Int) (ws : List Int) (wi : List (List Int)) (fl : List Int) : Bool := gameB X Y ws wi && bitsB fl (X + Y)
theorem flipB_spec {X Y : Int} {ws : List Int} {wi : List (List Int)} {fl : List Int} (h : flipB X Y ws wi fl = true) : 1 ≤ X ∧ X ≤ 3 ∧ 1 ≤ Y ∧ Y ≤ 3 := by
  simp only [flipB, Bool.and_eq_true] at h
  have := gameB_spec h.1
  exact ⟨this.x1, this.x3, this.y1, this.y3⟩
def flipR (X Y : Int) (wi : List (List Int)) (fl : List Int) : List (List Int) := pairsF (askR X Y wi fl) (cntL X.toNat) (cntL Y.toNat)
theorem pairs_allZ {ws : List Int} {X Y : Int} (h0 : 0 ≤ X) (h1 : 0 ≤ Y) (h : (ws.length : Int) = X * Y) : pairsF (askW Y ws) (cntL X.toNat) (cntL Y.toNat) = ws := by
  obtain ⟨x, rfl⟩ := Int.eq_ofNat_of_zero_le h0
  obtain ⟨y, rfl⟩ := Int.eq_ofNat_of_zero_le h1
  have e : ws.length = y * x := by rw [← Int.natCast_mul] at h; rw [Nat.mul_comm]; omega
  simpa using pairs_all e
theorem whenA_len {α : Type} (b : Bool) (l : List α) : (whenA b l).length ≤ l.length := by unfold whenA; split <;> simp
theorem cnt_pairs {h : Int → Int → List Int} {l m : List Int} (hr : ∀ x y, (h x y).length = 4) : cnt (pairsF h l m) = l.length * m.length * 4 := by
  rw [cnt_len 4, pairsF_len]
  intro r hr'
  unfold pairsF at hr'
  obtain ⟨x, _, hx⟩ := List.mem_flatMap.1 hr'
  obtain ⟨y, _, rfl⟩ := List.mem_map.1 hx
  exact hr x y
theorem cnt_flip (X Y : Int) (ws : List Int) (wi : List (List Int)) (fl : List Int) : cnt (whenL (flipB X Y ws wi fl) (flipR X Y wi fl)) ≤ 36 := by
  cases h : flipB X Y ws wi fl with
  | false => simp [whenL, cnt]
  | true =>
    have := flipB_spec h
    simp only [whenL, if_pos, flipR]
    rw [cnt_pairs (askR_len X Y wi fl), cntL_len, cntL_len]
    have h1 : X.toNat * Y.toNat ≤ 3 * 3 := Nat.mul_le_mul (by omega) (by omega)
    omega

end Go.Proofs.Ytefbiejoikpkmaa

namespace Go.Proofs.Ytefbiejoikpkmaa
open Go.RowKit
set_option linter.unusedSectionVars false
variable [Glb]
open Go
/-! lists of questions that are used -/
def putZ : List Int → Int → List Int
  | [], n => [n]
  | a :: l, n => if a < n then a :: putZ l n else if a = n then a :: l else n :: a :: l
theorem putZ_take : ∀ (l : List Int) (n : Int) (k : Nat), (∀ x ∈ l.take k, x < n) → putZ l n = l.take k ++ putZ (l.drop k) n
  | l, n, 0, _ => by simp
  | [], n, k + 1, _ => by simp [putZ]
  | a :: l, n, k + 1, h => by
    have h1 := h a (by simp)
    have ih := putZ_take l n k fun x hx => h x (by simp [hx])
    simp [putZ, h1, ih]
theorem putZ_end {l : List Int} {n : Int} (h : ∀ x ∈ l.take l.length, x < n) : putZ l n = l ++ [n] := by
  rw [putZ_take l n l.length h]; simp [putZ]
theorem putZ_eq {l : List Int} {n : Int} {k : Nat} (hk : k < l.length) (h : ∀ x ∈ l.take k, x < n) (e : l[k] = n) : putZ l n = l := by
  rw [putZ_take l n k h, List.drop_eq_getElem_cons hk]
  simp only [putZ, e, Int.lt_irrefl, if_false, if_true]
  rw [← e, ← List.drop_eq_getElem_cons hk, List.take_append_drop]
theorem putZ_mid {l : List Int} {n : Int} {k : Nat} (hk : k < l.length) (h : ∀ x ∈ l.take k, x < n) (h1 : ¬ l[k] < n) (e : ¬ l[k] = n) : putZ l n = l.take k ++ [n] ++ l.drop k := by
  rw [putZ_take l n k h, List.drop_eq_getElem_cons hk]
  simp [putZ, h1, e]
theorem putZ_le (l : List Int) (n : Int) : (putZ l n).length ≤ l.length + 1 := by
  induction l with
  | nil => simp [putZ]
  | cons a l ih => simp only [putZ]; split; (· simp; omega); split <;> simp
def usedL (n : Nat) (p : Nat → Bool) : List Int := ((List.range n).filter p).map fun i : Nat => (i : Int)
theorem usedL_len (n : Nat) (p : Nat → Bool) : (usedL n p).length ≤ n := by
  unfold usedL; rw [List.length_map]; exact Nat.le_trans (List.length_filter_le _ _) (by simp)
theorem usedL_succ (n : Nat) (p : Nat → Bool) : usedL (n + 1) p = if p n = true then usedL n p ++ [(n : Int)] else usedL n p := by
  unfold usedL; rw [List.range_succ, List.filter_append]
  by_cases h : p n = true <;> simp [List.filter, h]
theorem usedL_mem {n : Nat} {p : Nat → Bool} {x : Int} (h : x ∈ usedL n p) : 0 ≤ x ∧ x < n := by
  unfold usedL at h
  obtain ⟨i, hi, rfl⟩ := List.mem_map.1 h
  have := List.mem_range.1 (List.mem_filter.1 hi).1; omega
theorem usedL_congr {n : Nat} {p q : Nat → Bool} (h : ∀ i, i < n → p i = q i) : usedL n p = usedL n q := by
  unfold usedL
  rw [List.filter_congr fun i hi => h i (List.mem_range.1 hi)]
theorem usedL_put {n : Nat} (hn : n ≤ 3) (p : Nat → Bool) {v : Nat} (hv : v < n) : putZ (usedL n p) v = usedL n (fun i => p i || decide (i = v)) := by
  have e : ∀ q : Nat → Bool, usedL n q = (if 0 < n ∧ q 0 = true then [0] else []) ++ ((if 1 < n ∧ q 1 = true then [1] else []) ++ (if 2 < n ∧ q 2 = true then [2] else [])) := fun q => by
    rcases (by omega : n = 1 ∨ n = 2 ∨ n = 3) with rfl | rfl | rfl <;> cases h0 : q 0 <;> cases h1 : q 1 <;> cases h2 : q 2 <;> simp [usedL, List.range, List.range.loop, List.filter, h0, h1, h2]
  rw [e, e]
  rcases (by omega : (n = 1 ∨ n = 2 ∨ n = 3)) with rfl | rfl | rfl <;> rcases (by omega : v = 0 ∨ v = 1 ∨ v = 2) with rfl | rfl | rfl <;> (first | (exfalso; omega) | skip) <;> cases h0 : p 0 <;> cases h1 : p 1 <;> cases h2 : p 2 <;> simp [putZ, h0, h1, h2]
/-- a row, or a column, that has a weight -/
def rowU (ws : List Int) (Y : Nat) (x : Nat) : Bool := (List.range Y).any fun y => decide (atZ ws ((x : Int) * Y + y) ≠ 0)
def colU (ws : List Int) (X Y : Nat) (y : Nat) : Bool := (List.range X).any fun x => decide (atZ ws ((x : Int) * Y + y) ≠ 0)
def colS (ws : List Int) (Y : Nat) (y : Nat) : Nat → Int
  | 0 => 0
  | x + 1 => colS ws Y y x + atZ ws ((x : Int) * Y + y)
theorem colS_bd {ws : List Int} {Y y : Nat} : ∀ {X : Nat}, (∀ x, x < X → 0 ≤ atZ ws ((x : Int) * Y + y) ∧ atZ ws ((x : Int) * Y + y) ≤ 99) → 0 ≤ colS ws Y y X ∧ colS ws Y y X ≤ 99 * X ∧ decide (0 < colS ws Y y X) = colU ws X Y y
  | 0, _ => by simp [colS, colU]
  | X + 1, h => by
    obtain ⟨a, b, c⟩ := colS_bd (X := X) fun x hx => h x (by omega)
    have d := h X (by omega)
    refine ⟨by simp only [colS]; omega, by simp only [colS]; omega, ?_⟩
    have e : colU ws (X + 1) Y y = (colU ws X Y y || decide (atZ ws ((X : Int) * Y + y) ≠ 0)) := by simp [colU, List.range_succ]
    rw [e, ← c]
    by_cases hz : atZ ws ((X : Int) * Y + y) = 0
    · simp [colS, hz]
    · have : 0 < colS ws Y y X + atZ ws ((X : Int) * Y + y) := by omega
      simp [colS, hz, this]
theorem sum_pos : ∀ {l : List Int}, (∀ x ∈ l, 0 ≤ x) → 0 ≤ l.sum ∧ decide (0 < l.sum) = l.any fun x => decide (x ≠ 0)
  | [], _ => by simp
  | a :: l, h => by
    obtain ⟨h1, h2⟩ := sum_pos (l := l) fun x hx => h x (by simp [hx])
    have h3 := h a (by simp)
    refine ⟨by simp; omega, ?_⟩
    rw [List.any_cons, ← h2]
    by_cases hz : a = 0
    · simp [hz]
    · have : 0 < a + l.sum := by omega
      simp [hz, this]
theorem row_pos {ws : List Int} {X Y x : Nat} (hl : ws.length = X * Y) (hb : allB ws 0 99 = true) (hx : x < X) (hs : X * Y ≤ 9) : decide (0 < sum64 (partZ ws ((x : Int) * Y) (((x : Int) + 1) * Y))) = rowU ws Y x := by
  have e1 : ((x : Int) * Y).toNat = x * Y := by rw [← Int.natCast_mul, Int.toNat_natCast]
  have e2 : (((x : Int) + 1) * Y).toNat = (x + 1) * Y := by rw [show ((x : Int) + 1) = ((x + 1 : Nat) : Int) by omega, ← Int.natCast_mul, Int.toNat_natCast]
  have h3 : (x + 1) * Y ≤ X * Y := Nat.mul_le_mul_right _ hx
  have h4 : (x + 1) * Y = x * Y + Y := Nat.succ_mul x Y
  unfold partZ
  rw [e1, e2]
  have hmem : ∀ z ∈ (ws.drop (x * Y)).take ((x + 1) * Y - x * Y), 0 ≤ z ∧ z ≤ 99 := fun z hz => by
    unfold allB at hb; rw [List.all_eq_true] at hb
    exact inB_iff.1 (hb z (List.mem_of_mem_drop (List.mem_of_mem_take hz)))
  have hall : allB ((ws.drop (x * Y)).take ((x + 1) * Y - x * Y)) 0 99 = true := by unfold allB; rw [List.all_eq_true]; exact fun z hz => inB_iff.2 (hmem z hz)
  rw [(sum64_small (l := (ws.drop (x * Y)).take ((x + 1) * Y - x * Y)) (m := 99) (by simp; omega) hall (by omega) (by omega)).1]
  rw [(sum_pos fun z hz => (hmem z hz).1).2]
  have e : (ws.drop (x * Y)).take ((x + 1) * Y - x * Y) = (List.range Y).map fun y : Nat => atZ ws ((x : Int) * Y + y) := by
    refine List.ext_getElem (by simp; omega) fun i h1 h2 => ?_
    have hi : i < Y := by simpa using h2
    simp only [List.getElem_take, List.getElem_drop, List.getElem_map, List.getElem_range]
    rw [← Int.natCast_mul, ← Int.natCast_add, atZ_nat (by omega)]
  rw [e, List.any_map]; rfl
/-- what has been seen of the weights -/
def seenU (ws : List Int) (key : Nat → Nat) (i : Nat) (v : Nat) : Bool := (List.range i).any fun j => decide (atZ ws (j : Int) ≠ 0) && decide (key j = v)
theorem seenU_succ (ws : List Int) (key : Nat → Nat) (i : Nat) (v : Nat) : seenU ws key (i + 1) v = (seenU ws key i v || (decide (atZ ws (i : Int) ≠ 0) && decide (key i = v))) := by simp [seenU, List.range_succ]
theorem seen_row {ws : List Int} {X Y : Nat} {v : Nat} (hv : v < X) : seenU ws (· / Y) (X * Y) v = rowU ws Y v := by
  rw [Bool.eq_iff_iff]
  simp only [seenU, rowU, List.any_eq_true, List.mem_range, Bool.and_eq_true, decide_eq_true_eq]
  constructor
  · rintro ⟨j, hj, h0, rfl⟩
    have hY : 0 < Y := Nat.pos_of_ne_zero fun e => by subst e; simp at hj
    refine ⟨j % Y, Nat.mod_lt _ hY, ?_⟩
    rw [← Int.natCast_mul, ← Int.natCast_add, Nat.mul_comm, Nat.div_add_mod]; exact h0
  · rintro ⟨y, hy, h0⟩
    refine ⟨v * Y + y, ?_, ?_, ?_⟩
    · have : (v + 1) * Y ≤ X * Y := Nat.mul_le_mul_right _ hv
      rw [Nat.succ_mul] at this; omega
    · rw [Int.natCast_add, Int.natCast_mul]; exact h0
    · rw [Nat.add_comm, Nat.add_mul_div_right _ _ (by omega), Nat.div_eq_of_lt hy, Nat.zero_add]
theorem seen_col {ws : List Int} {X Y : Nat} {v : Nat} (hv : v < Y) : seenU ws (· % Y) (X * Y) v = colU ws X Y v := by
  rw [Bool.eq_iff_iff]
  simp only [seenU, colU, List.any_eq_true, List.mem_range, Bool.and_eq_true, decide_eq_true_eq]
  constructor
  · rintro ⟨j, hj, h0, rfl⟩
    refine ⟨j / Y, Nat.div_lt_of_lt_mul (by rw [Nat.mul_comm]; exact hj), ?_⟩
    rw [← Int.natCast_mul, ← Int.natCast_add, Nat.mul_comm, Nat.div_add_mod]; exact h0
  · rintro ⟨x, hx, h0⟩
    refine ⟨x * Y + v, ?_, ?_, ?_⟩
    · have : (x + 1) * Y ≤ X * Y := Nat.mul_le_mul_right _ hx
      rw [Nat.succ_mul] at this; omega
    · rw [Int.natCast_add, Int.natCast_mul]; exact h0
    · rw [Nat.add_comm, Nat.add_mul_mod_self_right, Nat.mod_eq_of_lt hv]
theorem used_zero (n : Nat) (ws : List Int) (key : Nat → Nat) : usedL n (seenU ws key 0) = [] := by simp [usedL, seenU]
theorem used_skip {n : Nat} {ws : List Int} {key : Nat → Nat} {i : Nat} (h : atZ ws (i : Int) = 0) : usedL n (seenU ws key (i + 1)) = usedL n (seenU ws key i) := usedL_congr fun v _ => by rw [seenU_succ]; simp [h]
theorem used_put {n : Nat} {ws : List Int} {key : Nat → Nat} {i : Nat} (hn : n ≤ 3) (hk : key i < n) (h : ¬ atZ ws (i : Int) = 0) : putZ (usedL n (seenU ws key i)) (key i : Nat) = usedL n (seenU ws key (i + 1)) := by
  rw [usedL_put hn _ hk]
  exact usedL_congr fun v _ => by rw [seenU_succ]; simp [h, eq_comm]
/-! a game with some of its questions -/
def askO (Y : Int) (wi : List (List Int)) (x y : Int) : List Int := atZ wi (x * Y + y)
def zerosL (n : Nat) : List Int := List.replicate n 0
@[simp] theorem zerosL_len (n : Nat) : (zerosL n).length = n := by simp [zerosL]
theorem zerosL_bits (n : Nat) : bitsB (zerosL n) n = true := by simp [bitsB, allB, zerosL, inB]
theorem zerosL_at (n : Nat) (i : Int) : atZ (zerosL n) i = 0 := by
  unfold atZ zerosL
  rw [List.getD_eq_getElem?_getD, List.getElem?_replicate]
  split <;> rfl
theorem rowF_self {l : List Int} (h : l.length = 4) : rowF (fun k : Nat => atZ l (k : Int)) 4 = l := by
  refine List.ext_getElem (by simp [h]) fun i h1 h2 => ?_
  simp [rowF, atZ_nat h2]
theorem ask_same {X Y : Int} {ws : List Int} {wi : List (List Int)} (h : gameB X Y ws wi = true) {fs ss : List Int} (hf : ∀ x ∈ fs, 0 ≤ x ∧ x < X) (hs : ∀ y ∈ ss, 0 ≤ y ∧ y < Y) (n : Nat) : pairsF (askR X Y wi (zerosL n)) fs ss = pairsF (askO Y wi) fs ss := by
  refine pairsF_congr fun x hx y hy => ?_
  have a := hf x hx
  have b := hs y hy
  have ix := idx_lt a.1 a.2 b.1 b.2
  have hl := bitsB_len (gameB_at h ix.1 ix.2.1).2
  unfold askR askO flipOf
  rw [zerosL_at, zerosL_at]
  simp only [xor4]
  simpa using rowF_self (l := atZ wi (x * Y + y)) (by omega)
def trim1 (X Y : Int) (ws : List Int) : List Int := usedL X.toNat (rowU ws Y.toNat)
def trim2 (X Y : Int) (ws : List Int) : List Int := usedL Y.toNat (colU ws X.toNat Y.toNat)
theorem trim1_mem {X Y : Int} {ws : List Int} (hX : 0 ≤ X) {x : Int} (h : x ∈ trim1 X Y ws) : 0 ≤ x ∧ x < X := by have := usedL_mem h; omega
theorem trim2_mem {X Y : Int} {ws : List Int} (hY : 0 ≤ Y) {x : Int} (h : x ∈ trim2 X Y ws) : 0 ≤ x ∧ x < Y := by have := usedL_mem h; omega
theorem trim1_len (X Y : Int) (ws : List Int) : (trim1 X Y ws).length ≤ X.toNat := usedL_len _ _
theorem trim2_len (X Y : Int) (ws : List Int) : (trim2 X Y ws).length ≤ Y.toNat := usedL_len _ _
def trimW (X Y : Int) (ws : List Int) : List Int := pairsF (askW Y ws) (trim1 X Y ws) (trim2 X Y ws)
def trimR (X Y : Int) (ws : List Int) (wi : List (List Int)) : List (List Int) := pairsF (askO Y wi) (trim1 X Y ws) (trim2 X Y ws)
theorem trimW_len (X Y : Int) (ws : List Int) (wi : List (List Int)) : (whenA (gameB X Y ws wi) (trimW X Y ws)).length ≤ 9 := by
  cases h : gameB X Y ws wi with
  | false => simp [whenA]
  | true =>
    have hg := gameB_spec h
    have g2 := hg.x3; have g4 := hg.y3
    have l1 := trim1_len X Y ws
    have l2 := trim2_len X Y ws
    simp only [whenA, if_pos, trimW, pairsF_len]
    exact Nat.le_trans (Nat.mul_le_mul (by omega : _ ≤ 3) (by omega : _ ≤ 3)) (by decide)
theorem trimR_cnt (X Y : Int) (ws : List Int) (wi : List (List Int)) : cnt (whenL (gameB X Y ws wi) (trimR X Y ws wi)) ≤ 36 := by
  cases h : gameB X Y ws wi with
  | false => simp [whenL, cnt]
  | true =>
    have hg := gameB_spec h
    have g1 := hg.x1; have g2 := hg.x3; have g3 := hg.y1; have g4 := hg.y3
    have l1 := trim1_len X Y ws
    have l2 := trim2_len X Y ws
    have hs := ask_same h (fs := trim1 X Y ws) (ss := trim2 X Y ws) (fun x hx => trim1_mem (by omega) hx) (fun x hx => trim2_mem (by omega) hx) 0
    simp only [whenL, if_pos, trimR, ← hs]
    rw [cnt_pairs (askR_len X Y wi _)]
    have := Nat.mul_le_mul (by omega : (trim1 X Y ws).length ≤ 3) (by omega : (trim2 X Y ws).length ≤ 3)
    omega

end Go.Proofs.Ytefbiejoikpkmaa

namespace Go.Proofs.Ytefbiejoikpkmaa
open Go.RowKit
open Go
/-! numbers added up at places -/
def accN (s : Nat → Nat) (v : Nat → Int) : Nat → Nat → Int
  | 0, _ => 0
  | m + 1, p => accN s v m p + if s m = p then v m else 0
theorem accN_set (s : Nat → Nat) (v : Nat → Int) (m : Nat) (h : s m < 4) : (rowF (accN s v m) 4).set (s m) (accN s v m (s m) + v m) = rowF (accN s v (m + 1)) 4 := by
  rcases (by omega : s m = 0 ∨ s m = 1 ∨ s m = 2 ∨ s m = 3) with e | e | e | e <;> simp [rowF, accN, e, List.range, List.range.loop, List.set]
theorem accN_sum (s : Nat → Nat) (v : Nat → Int) : ∀ m, (∀ t, t < m → s t < 4) → accN s v m 0 + accN s v m 1 + accN s v m 2 + accN s v m 3 = ((List.range m).map v).sum
  | 0, _ => by simp [accN]
  | m + 1, h => by
    have ih := accN_sum s v m fun t ht => h t (by omega)
    have hs := h m (by omega)
    simp only [accN, List.range_succ, List.map_append, List.sum_append, List.map_cons, List.map_nil, List.sum_cons, List.sum_nil]
    rcases (by omega : s m = 0 ∨ s m = 1 ∨ s m = 2 ∨ s m = 3) with e | e | e | e <;> simp [e] <;> omega
theorem accN_nn (s : Nat → Nat) (v : Nat → Int) : ∀ m p, (∀ t, t < m → 0 ≤ v t) → 0 ≤ accN s v m p
  | 0, _, _ => by simp [accN]
  | m + 1, p, h => by
    have := accN_nn s v m p fun t ht => h t (by omega)
    have := h m (by omega)
    simp only [accN]; split <;> omega
def pairB (x y n : Int) (ll : List (List Int)) : Bool := boxB x y n ll && (decide (x = 2) && decide (y = 2))
def agrZ (row : List Int) : Int := atZ row 0 - atZ row 1 - atZ row 2 + atZ row 3

end Go.Proofs.Ytefbiejoikpkmaa

namespace Go.Proofs.Ytefbiejoikpkmaa
open Go.RowKit
set_option linter.unusedSectionVars false
variable [Glb]
open Go
/-! rules, wirings -/
def tabB (t : List (List Int)) (n m : Int) : Bool := decide ((t.length : Int) = n) && t.all (fun l => bitsB l m)
def ruleB (f : List Int) (a s : List (List Int)) : Bool := bitsB f 2 && (tabB a 2 2 && tabB s 2 4)
theorem tabB_at {t : List (List Int)} {n m : Int} (h : tabB t n m = true) {i : Int} (h0 : 0 ≤ i) (h1 : i < n) : bitsB (atZ t i) m = true := by
  simp only [tabB, Bool.and_eq_true, decide_eq_true_eq, List.all_eq_true] at h
  obtain ⟨k, rfl⟩ := Int.eq_ofNat_of_zero_le h0
  rw [atZ_nat (by omega)]
  exact h.2 _ (List.getElem_mem _)
theorem tabB_len {t : List (List Int)} {n m : Int} (h : tabB t n m = true) : (t.length : Int) = n := by
  simp [tabB] at h; exact h.1
structure RuleOK (f : List Int) (a s : List (List Int)) : Prop where
  fl : f.length = 2
  al : a.length = 2
  sl : s.length = 2
  fb : ∀ i : Int, 0 ≤ i → i < 2 → 0 ≤ atZ f i ∧ atZ f i ≤ 1
  ab : ∀ i : Int, 0 ≤ i → i < 2 → bitsB (atZ a i) 2 = true
  sb : ∀ i : Int, 0 ≤ i → i < 2 → bitsB (atZ s i) 4 = true
theorem ruleB_spec {f : List Int} {a s : List (List Int)} (h : ruleB f a s = true) : RuleOK f a s := by
  simp only [ruleB, Bool.and_eq_true] at h
  obtain ⟨h1, h2, h3⟩ := h
  have l1 := bitsB_len h1
  have l2 := tabB_len h2
  have l3 := tabB_len h3
  exact ⟨by omega, by omega, by omega, fun i h0 h2 => bitsB_at h1 h0 h2, fun i h0 hi => tabB_at h2 h0 hi, fun i h0 hi => tabB_at h3 h0 hi⟩
theorem RuleOK.ask {f : List Int} {a s : List (List Int)} (h : RuleOK f a s) {x i : Int} (x0 : 0 ≤ x) (x1 : x < 2) (i0 : 0 ≤ i) (i1 : i < 2) : (atZ a x).length = 2 ∧ 0 ≤ atZ (atZ a x) i ∧ atZ (atZ a x) i ≤ 1 := by
  have hb := h.ab x x0 x1
  have hl := bitsB_len hb
  exact ⟨by omega, bitsB_at hb i0 i1⟩
theorem RuleOK.say {f : List Int} {a s : List (List Int)} (h : RuleOK f a s) {x i : Int} (x0 : 0 ≤ x) (x1 : x < 2) (i0 : 0 ≤ i) (i1 : i < 4) : (atZ s x).length = 4 ∧ 0 ≤ atZ (atZ s x) i ∧ atZ (atZ s x) i ≤ 1 := by
  have hb := h.sb x x0 x1
  have hl := bitsB_len hb
  exact ⟨by omega, bitsB_at hb i0 i1⟩
/-- a sum, term by term -/
def accT (t : Nat → Int) : Nat → Int
  | 0 => 0
  | m + 1 => accT t m + t m
theorem accN_T (s : Nat → Nat) (v : Nat → Int) (p : Nat) : ∀ m, accN s v m p = accT (fun c => if s c = p then v c else 0) m
  | 0 => rfl
  | m + 1 => by simp only [accN, accT, accN_T s v p m]
theorem accT_nn {t : Nat → Int} : ∀ {m : Nat}, (∀ c, c < m → 0 ≤ t c) → 0 ≤ accT t m
  | 0, _ => by simp [accT]
  | m + 1, h => by
    have := accT_nn fun c hc => h c (Nat.lt_succ_of_lt hc)
    have := h m (by omega)
    simp only [accT]; omega
theorem accT_le {t u : Nat → Int} : ∀ {m : Nat}, (∀ c, c < m → t c ≤ u c) → accT t m ≤ accT u m
  | 0, _ => by simp [accT]
  | m + 1, h => by
    have := accT_le fun c hc => h c (Nat.lt_succ_of_lt hc)
    have := h m (by omega)
    simp only [accT]; omega
theorem accT_add {t u : Nat → Int} : ∀ {m : Nat}, accT (fun c => t c + u c) m = accT t m + accT u m
  | 0 => by simp [accT]
  | m + 1 => by
    have := accT_add (t := t) (u := u) (m := m)
    simp only [accT] at this ⊢; omega
theorem accT_congr {t u : Nat → Int} : ∀ {m : Nat}, (∀ c, c < m → t c = u c) → accT t m = accT u m
  | 0, _ => rfl
  | m + 1, h => by
    have := accT_congr fun c hc => h c (Nat.lt_succ_of_lt hc)
    have := h m (by omega)
    simp only [accT]; omega
theorem accT_const (M : Int) : ∀ m : Nat, accT (fun _ => M) m = m * M
  | 0 => by simp [accT]
  | m + 1 => by
    have := accT_const M m
    simp only [accT, this, Int.natCast_add, Int.add_mul]; omega
theorem accN_le {s : Nat → Nat} {v : Nat → Int} {M : Int} {m : Nat} (p : Nat) (h0 : 0 ≤ M) (h : ∀ c, c < m → v c ≤ M) : accN s v m p ≤ m * M := by
  rw [accN_T, ← accT_const]
  refine accT_le fun c hc => ?_
  have := h c hc
  split <;> omega
/-- two orders of sixteen terms -/
theorem acc16 (T : Nat → Nat → Nat → Nat → Int) : accT (fun c => T (c % 2) (c / 2 % 2) (c / 4 % 2) (c / 8 % 2)) 16 = accT (fun m => T (m / 8) (m / 4 % 2) (m / 2 % 2) (m % 2)) 16 := by
  simp only [accT, Nat.reduceDiv, Nat.reduceMod, Nat.zero_div, Nat.zero_mod]
  omega
section
variable (la lb : List (List Int)) (f1 : List Int) (a1 s1 : List (List Int)) (f2 : List Int) (a2 s2 : List (List Int))
def wV (x y i j k l : Nat) : Int := atB la 2 (atZ f1 x) (atZ f2 y) ((2 * i + j : Nat) : Int) * atB lb 2 (atZ (atZ a1 x) i) (atZ (atZ a2 y) j) ((2 * k + l : Nat) : Int)
def wS (x y i j k l : Nat) : Nat := (2 * atZ (atZ s1 x) ((2 * i + k : Nat) : Int) + atZ (atZ s2 y) ((2 * j + l : Nat) : Int)).toNat
def wI (x y m p : Nat) : Int := accN (fun c => wS s1 s2 x y (c % 2) (c / 2 % 2) (c / 4 % 2) (c / 8 % 2)) (fun c => wV la lb f1 a1 f2 a2 x y (c % 2) (c / 2 % 2) (c / 4 % 2) (c / 8 % 2)) m p
def wP (x y m p : Nat) : Int := accN (fun m => wS s1 s2 x y (m / 8) (m / 4 % 2) (m / 2 % 2) (m % 2)) (fun m => wV la lb f1 a1 f2 a2 x y (m / 8) (m / 4 % 2) (m / 2 % 2) (m % 2)) m p
theorem wI_P (x y p : Nat) : wI la lb f1 a1 s1 f2 a2 s2 x y 16 p = wP la lb f1 a1 s1 f2 a2 s2 x y 16 p := by
  unfold wI wP
  rw [accN_T, accN_T]
  exact acc16 fun i j k l => if wS s1 s2 x y i j k l = p then wV la lb f1 a1 f2 a2 x y i j k l else 0
/-- the rows of a wiring -/
def wiredL : List (List Int) := boxF (fun x y p => wP la lb f1 a1 s1 f2 a2 s2 x y 16 p) 2 4
end
theorem box4 {X Y n : Int} {ll : List (List Int)} (h : boxB X Y n ll = true) {q : Int} (h0 : 0 ≤ q) (h1 : q < X * Y) : atZ (atZ ll q) 0 + atZ (atZ ll q) 1 + atZ (atZ ll q) 2 + atZ (atZ ll q) 3 = n := by
  have hb := boxB_spec h
  obtain ⟨i, rfl⟩ := Int.eq_ofNat_of_zero_le h0
  have hi : i < ll.length := by have := hb.len; omega
  rw [atZ_nat hi]
  have hr := hb.row i hi
  have hs := row4B_sum hr
  have hl := (row4B_len hr).1
  have hn := hb.n2
  have ha : allB ll[i] 0 n = true := by simp only [row4B, Bool.and_eq_true] at hr; exact hr.1.2
  rw [(sum64_small (l := ll[i]) (m := n) (by omega) ha (by have := hb.n1; omega) (by omega)).1] at hs
  generalize ll[i] = r at hs hl
  match r, hl with
  | [a, b, c, d], _ => simp [atZ] at hs ⊢; omega
theorem rowF4_sum (f : Nat → Int) (h : ∀ p, p < 4 → 0 ≤ f p ∧ f p ≤ 1000000) : sum64 (rowF f 4) = f 0 + f 1 + f 2 + f 3 := by
  have h0 := h 0 (by omega); have h1 := h 1 (by omega); have h2 := h 2 (by omega); have h3 := h 3 (by omega)
  have ha : allB (rowF f 4) 0 1000000 = true := by
    unfold allB; rw [List.all_eq_true]; intro x hx
    unfold rowF at hx; obtain ⟨p, hp, rfl⟩ := List.mem_map.1 hx
    exact inB_iff.2 (h p (List.mem_range.1 hp))
  rw [(sum64_small (l := rowF f 4) (m := 1000000) (by simp) ha (by omega) (by omega)).1]
  simp [rowF, List.range, List.range.loop]; omega
/-- rows told by a function make a box -/
theorem rows_box {x y : Nat} {n : Int} {f : Nat → Nat → Nat → Int} (hx : 1 ≤ x ∧ x ≤ 3) (hy : 1 ≤ y ∧ y ≤ 3) (h0 : 1 ≤ n) (h1 : n ≤ 1000000) (hf : ∀ i k, i < x → k < y → (∀ p, p < 4 → 0 ≤ f i k p) ∧ f i k 0 + f i k 1 + f i k 2 + f i k 3 = n) :
    boxB x y n (boxF f y (y * x)) = decide (n ≤ 1000) := by
  have hs : sizeB x y = true := sizeB_iff.2 ⟨⟨by omega, by omega⟩, by omega, by omega⟩
  have hl : ((boxF f y (y * x)).length : Int) = (x : Int) * y := by rw [boxF_len, Int.natCast_mul, Int.mul_comm]
  have hr : (boxF f y (y * x)).all (row4B n) = true := by
    rw [List.all_eq_true]; intro r hr
    unfold boxF at hr
    obtain ⟨j, hj, rfl⟩ := List.mem_map.1 hr
    have hj := List.mem_range.1 hj
    have hi : j / y < x := Nat.div_lt_of_lt_mul hj
    have hk : j % y < y := Nat.mod_lt _ (by omega)
    obtain ⟨a, b⟩ := hf _ _ hi hk
    generalize f (j / y) (j % y) = g at a b
    have a0 := a 0 (by omega); have a1 := a 1 (by omega); have a2 := a 2 (by omega); have a3 := a 3 (by omega)
    have bd : ∀ p, p < 4 → 0 ≤ g p ∧ g p ≤ n := fun p hp => by rcases (by omega : p = 0 ∨ p = 1 ∨ p = 2 ∨ p = 3) with rfl | rfl | rfl | rfl <;> omega
    have hsum := rowF4_sum g fun p hp => by have := bd p hp; omega
    simp only [row4B, rowF_len, decide_true, Bool.true_and, Bool.and_eq_true, decide_eq_true_eq, hsum, allB, List.all_eq_true]
    refine ⟨fun m hm => ?_, b⟩
    unfold rowF at hm; obtain ⟨p, hp, rfl⟩ := List.mem_map.1 hm
    exact inB_iff.2 (bd p (List.mem_range.1 hp))
  simp only [boxB, hs, hl, hr, decide_true, Bool.and_true, Bool.true_and, inB]
  simp; omega
section
variable {la lb : List (List Int)} {f1 : List Int} {a1 s1 : List (List Int)} {f2 : List Int} {a2 s2 : List (List Int)} {na nb : Int}
theorem wS_lt (h1 : ruleB f1 a1 s1 = true) (h2 : ruleB f2 a2 s2 = true) {x y i j k l : Nat} (hx : x < 2) (hy : y < 2) (hi : i < 2) (hj : j < 2) (hk : k < 2) (hl : l < 2) : wS s1 s2 x y i j k l < 4 := by
  have b1 := (ruleB_spec h1).say (x := x) (i := ((2 * i + k : Nat) : Int)) (by omega) (by omega) (by omega) (by omega)
  have b2 := (ruleB_spec h2).say (x := y) (i := ((2 * j + l : Nat) : Int)) (by omega) (by omega) (by omega) (by omega)
  unfold wS; omega
theorem atB_bd (ha : boxB 2 2 na la = true) {x y : Int} (x0 : 0 ≤ x) (x1 : x ≤ 1) (y0 : 0 ≤ y) (y1 : y ≤ 1) : (∀ p : Nat, p < 4 → 0 ≤ atB la 2 x y p ∧ atB la 2 x y p ≤ na) ∧ atB la 2 x y (0 : Nat) + atB la 2 x y (1 : Nat) + atB la 2 x y (2 : Nat) + atB la 2 x y (3 : Nat) = na :=
  ⟨fun p hp => (boxB_at ha (q := x * 2 + y) (by omega) (by omega)).2 p (by omega) (by omega), box4 ha (q := x * 2 + y) (by omega) (by omega)⟩
theorem wV_bd (ha : boxB 2 2 na la = true) (hb : boxB 2 2 nb lb = true) (h1 : ruleB f1 a1 s1 = true) (h2 : ruleB f2 a2 s2 = true) {x y : Nat} (hx : x < 2) (hy : y < 2) :
    (∀ i j k l, i < 2 → j < 2 → k < 2 → l < 2 → 0 ≤ wV la lb f1 a1 f2 a2 x y i j k l ∧ wV la lb f1 a1 f2 a2 x y i j k l ≤ 1000000) ∧ accT (fun m => wV la lb f1 a1 f2 a2 x y (m / 8) (m / 4 % 2) (m / 2 % 2) (m % 2)) 16 = na * nb := by
  have r1 := ruleB_spec h1
  have r2 := ruleB_spec h2
  have A := atB_bd ha (r1.fb x (by omega) (by omega)).1 (r1.fb x (by omega) (by omega)).2 (r2.fb y (by omega) (by omega)).1 (r2.fb y (by omega) (by omega)).2
  have B := fun (i j : Nat) (hi : i < 2) (hj : j < 2) => atB_bd hb (r1.ask (x := x) (i := i) (by omega) (by omega) (by omega) (by omega)).2.1 (r1.ask (x := x) (i := i) (by omega) (by omega) (by omega) (by omega)).2.2
    (r2.ask (x := y) (i := j) (by omega) (by omega) (by omega) (by omega)).2.1 (r2.ask (x := y) (i := j) (by omega) (by omega) (by omega) (by omega)).2.2
  have na1 := (boxB_spec ha).n2
  have nb1 := (boxB_spec hb).n2
  unfold wV
  generalize atB la 2 (atZ f1 x) (atZ f2 y) = a at A ⊢
  obtain ⟨b, hb'⟩ : ∃ b : Nat → Nat → Int → Int, ∀ i j, b i j = atB lb 2 (atZ (atZ a1 x) i) (atZ (atZ a2 y) j) := ⟨_, fun _ _ => rfl⟩
  simp only [← hb'] at B ⊢
  refine ⟨fun i j k l hi hj hk hl => ?_, ?_⟩
  · have p := A.1 (2 * i + j) (by omega)
    have q := (B i j hi hj).1 (2 * k + l) (by omega)
    refine ⟨Int.mul_nonneg p.1 q.1, Int.le_trans (Int.mul_le_mul p.2 q.2 q.1 (by omega)) (Int.le_trans (Int.mul_le_mul na1 nb1 (by omega) (by omega)) (by decide))⟩
  · have b00 := (B 0 0 (by omega) (by omega)).2
    have b01 := (B 0 1 (by omega) (by omega)).2
    have b10 := (B 1 0 (by omega) (by omega)).2
    have b11 := (B 1 1 (by omega) (by omega)).2
    have a0 := A.2
    simp only [accT, Nat.reduceDiv, Nat.reduceMod, Nat.reduceMul, Nat.reduceAdd, Nat.zero_div, Nat.zero_mod, Nat.mul_zero, Nat.mul_one, Nat.zero_add]
    have e00 := congrArg (a (0 : Nat) * ·) b00
    have e01 := congrArg (a (1 : Nat) * ·) b01
    have e10 := congrArg (a (2 : Nat) * ·) b10
    have e11 := congrArg (a (3 : Nat) * ·) b11
    have e := congrArg (· * nb) a0
    simp only [Int.mul_add, Int.add_mul] at e00 e01 e10 e11 e
    omega
theorem wire_box (ha : boxB 2 2 na la = true) (hb : boxB 2 2 nb lb = true) (h1 : ruleB f1 a1 s1 = true) (h2 : ruleB f2 a2 s2 = true) : boxB 2 2 (na * nb) (wiredL la lb f1 a1 s1 f2 a2 s2) = decide (na * nb ≤ 1000) := by
  have a1' := boxB_spec ha
  have b1' := boxB_spec hb
  have n1 : 1 ≤ na * nb := by have := Int.mul_le_mul a1'.n1 b1'.n1 (by omega) (by have := a1'.n1; omega); omega
  have n2 : na * nb ≤ 1000000 := Int.le_trans (Int.mul_le_mul a1'.n2 b1'.n2 (by have := b1'.n1; omega) (by omega)) (by decide)
  refine rows_box (x := 2) (y := 2) (by omega) (by omega) n1 n2 fun x y hx hy => ?_
  obtain ⟨vb, vs⟩ := wV_bd ha hb h1 h2 hx hy
  refine ⟨fun p hp => accN_nn _ _ _ _ fun m hm => (vb _ _ _ _ (by omega) (by omega) (by omega) (by omega)).1, ?_⟩
  rw [← vs]
  have := accN_sum (fun m => wS s1 s2 x y (m / 8) (m / 4 % 2) (m / 2 % 2) (m % 2)) (fun m => wV la lb f1 a1 f2 a2 x y (m / 8) (m / 4 % 2) (m / 2 % 2) (m % 2)) 16 fun m hm => wS_lt h1 h2 hx hy (by omega) (by omega) (by omega) (by omega)
  unfold wP
  rw [this]
  simp [List.range, List.range.loop, accT]
  omega
end
section
variable {la lb : List (List Int)} {f1 : List Int} {a1 s1 : List (List Int)} {f2 : List Int} {a2 s2 : List (List Int)} {na nb : Int}
theorem acc_bd {s : Nat → Nat} {v : Nat → Int} {m : Nat} (hm : m ≤ 16) (h : ∀ t, t < m → 0 ≤ v t ∧ v t ≤ 1000000) (p : Nat) : 0 ≤ accN s v m p ∧ accN s v m p ≤ 16000000 := by
  refine ⟨accN_nn _ _ _ _ fun t ht => (h t ht).1, ?_⟩
  have := accN_le (s := s) (M := 1000000) (m := m) p (by omega) fun t ht => (h t ht).2
  omega
theorem wP_step (ha : boxB 2 2 na la = true) (hb : boxB 2 2 nb lb = true) (h1 : ruleB f1 a1 s1 = true) (h2 : ruleB f2 a2 s2 = true) {x y k n : Nat} (hx : x < 2) (hy : y < 2) (hk : k < 4) (hn : n < 4) :
    ∃ (s : Nat) (v : Int), 2 * atZ (atZ s1 x) (2 * ((k : Int) / 2) + (n : Int) / 2) + atZ (atZ s2 y) (2 * ((k : Int) % 2) + (n : Int) % 2) = (s : Int) ∧ s < 4 ∧
      atZ (atZ la (atZ f1 x * 2 + atZ f2 y)) k * atZ (atZ lb (atZ (atZ a1 x) ((k : Int) / 2) * 2 + atZ (atZ a2 y) ((k : Int) % 2))) n = v ∧ (0 ≤ v ∧ v ≤ 1000000) ∧
      (rowF (wP la lb f1 a1 s1 f2 a2 s2 x y (4 * k + n)) 4).set s (wP la lb f1 a1 s1 f2 a2 s2 x y (4 * k + n) s + v) = rowF (wP la lb f1 a1 s1 f2 a2 s2 x y (4 * k + n + 1)) 4 ∧
      (0 ≤ wP la lb f1 a1 s1 f2 a2 s2 x y (4 * k + n) s ∧ wP la lb f1 a1 s1 f2 a2 s2 x y (4 * k + n) s ≤ 16000000) := by
  have vb := (wV_bd ha hb h1 h2 hx hy).1
  have e1 : (4 * k + n) / 8 = k / 2 := by omega
  have e2 : (4 * k + n) / 4 % 2 = k % 2 := by omega
  have e3 : (4 * k + n) / 2 % 2 = n / 2 := by omega
  have e4 : (4 * k + n) % 2 = n % 2 := by omega
  have b1 := (ruleB_spec h1).say (x := x) (i := ((2 * (k / 2) + n / 2 : Nat) : Int)) (by omega) (by omega) (by omega) (by omega)
  have b2 := (ruleB_spec h2).say (x := y) (i := ((2 * (k % 2) + n % 2 : Nat) : Int)) (by omega) (by omega) (by omega) (by omega)
  refine ⟨wS s1 s2 x y (k / 2) (k % 2) (n / 2) (n % 2), wV la lb f1 a1 f2 a2 x y (k / 2) (k % 2) (n / 2) (n % 2), ?_, wS_lt h1 h2 hx hy (by omega) (by omega) (by omega) (by omega), ?_, vb _ _ _ _ (by omega) (by omega) (by omega) (by omega), ?_, ?_⟩
  · unfold wS
    have c1 : (2 * ((k : Int) / 2) + (n : Int) / 2) = ((2 * (k / 2) + n / 2 : Nat) : Int) := by omega
    have c2 : (2 * ((k : Int) % 2) + (n : Int) % 2) = ((2 * (k % 2) + n % 2 : Nat) : Int) := by omega
    rw [c1, c2]; omega
  · unfold wV atB
    have c1 : ((2 * (k / 2) + k % 2 : Nat) : Int) = k := by omega
    have c2 : ((2 * (n / 2) + n % 2 : Nat) : Int) = n := by omega
    have c3 : ((k / 2 : Nat) : Int) = (k : Int) / 2 := by omega
    have c4 : ((k % 2 : Nat) : Int) = (k : Int) % 2 := by omega
    rw [c1, c2, c3, c4]
  · have := accN_set (fun m => wS s1 s2 x y (m / 8) (m / 4 % 2) (m / 2 % 2) (m % 2)) (fun m => wV la lb f1 a1 f2 a2 x y (m / 8) (m / 4 % 2) (m / 2 % 2) (m % 2)) (4 * k + n) (wS_lt h1 h2 hx hy (by omega) (by omega) (by omega) (by omega))
    simp only [e1, e2, e3, e4] at this
    exact this
  · exact acc_bd (by omega) (fun t ht => vb _ _ _ _ (by omega) (by omega) (by omega) (by omega)) _
theorem wI_step (ha : boxB 2 2 na la = true) (hb : boxB 2 2 nb lb = true) (h1 : ruleB f1 a1 s1 = true) (h2 : ruleB f2 a2 s2 = true) {x y c : Nat} (hx : x < 2) (hy : y < 2) (hc : c < 16) :
    ∃ (s : Nat) (v : Int), 2 * atZ (atZ s1 x) (2 * ((c : Int) % 2) + (c : Int) / 4 % 2) + atZ (atZ s2 y) (2 * ((c : Int) / 2 % 2) + (c : Int) / 8 % 2) = (s : Int) ∧ s < 4 ∧
      atB la 2 (atZ f1 x) (atZ f2 y) (2 * ((c : Int) % 2) + (c : Int) / 2 % 2) * atB lb 2 (atZ (atZ a1 x) ((c : Int) % 2)) (atZ (atZ a2 y) ((c : Int) / 2 % 2)) (2 * ((c : Int) / 4 % 2) + (c : Int) / 8 % 2) = v ∧ (0 ≤ v ∧ v ≤ 1000000) ∧
      (rowF (wI la lb f1 a1 s1 f2 a2 s2 x y c) 4).set s (wI la lb f1 a1 s1 f2 a2 s2 x y c s + v) = rowF (wI la lb f1 a1 s1 f2 a2 s2 x y (c + 1)) 4 ∧
      (0 ≤ wI la lb f1 a1 s1 f2 a2 s2 x y c s ∧ wI la lb f1 a1 s1 f2 a2 s2 x y c s ≤ 16000000) := by
  have vb := (wV_bd ha hb h1 h2 hx hy).1
  have b1 := (ruleB_spec h1).say (x := x) (i := ((2 * (c % 2) + c / 4 % 2 : Nat) : Int)) (by omega) (by omega) (by omega) (by omega)
  have b2 := (ruleB_spec h2).say (x := y) (i := ((2 * (c / 2 % 2) + c / 8 % 2 : Nat) : Int)) (by omega) (by omega) (by omega) (by omega)
  refine ⟨wS s1 s2 x y (c % 2) (c / 2 % 2) (c / 4 % 2) (c / 8 % 2), wV la lb f1 a1 f2 a2 x y (c % 2) (c / 2 % 2) (c / 4 % 2) (c / 8 % 2), ?_, wS_lt h1 h2 hx hy (by omega) (by omega) (by omega) (by omega), ?_, vb _ _ _ _ (by omega) (by omega) (by omega) (by omega), ?_, ?_⟩
  · unfold wS
    have c1 : (2 * ((c : Int) % 2) + (c : Int) / 4 % 2) = ((2 * (c % 2) + c / 4 % 2 : Nat) : Int) := by omega
    have c2 : (2 * ((c : Int) / 2 % 2) + (c : Int) / 8 % 2) = ((2 * (c / 2 % 2) + c / 8 % 2 : Nat) : Int) := by omega
    rw [c1, c2]; omega
  · unfold wV
    have c1 : ((2 * (c % 2) + c / 2 % 2 : Nat) : Int) = 2 * ((c : Int) % 2) + (c : Int) / 2 % 2 := by omega
    have c2 : ((2 * (c / 4 % 2) + c / 8 % 2 : Nat) : Int) = 2 * ((c : Int) / 4 % 2) + (c : Int) / 8 % 2 := by omega
    have c3 : ((c % 2 : Nat) : Int) = (c : Int) % 2 := by omega
    have c4 : ((c / 2 % 2 : Nat) : Int) = (c : Int) / 2 % 2 := by omega
    rw [c1, c2, c3, c4]
  · exact accN_set (fun c => wS s1 s2 x y (c % 2) (c / 2 % 2) (c / 4 % 2) (c / 8 % 2)) (fun c => wV la lb f1 a1 f2 a2 x y (c % 2) (c / 2 % 2) (c / 4 % 2) (c / 8 % 2)) c (wS_lt h1 h2 hx hy (by omega) (by omega) (by omega) (by omega))
  · exact acc_bd (by omega) (fun t ht => vb _ _ _ _ (by omega) (by omega) (by omega) (by omega)) _
end
def wiresB (xa ya na : Int) (la : List (List Int)) (xb yb nb : Int) (lb : List (List Int)) : Bool := pairB xa ya na la && (pairB xb yb nb lb && decide (na * nb ≤ 1000))
def wireOK (xa ya na : Int) (la : List (List Int)) (xb yb nb : Int) (lb : List (List Int)) (f1 : List Int) (a1 s1 : List (List Int)) (f2 : List Int) (a2 s2 : List (List Int)) : Bool :=
  wiresB xa ya na la xb yb nb lb && (ruleB f1 a1 s1 && ruleB f2 a2 s2)
theorem pairB_spec {x y n : Int} {ll : List (List Int)} (h : pairB x y n ll = true) : x = 2 ∧ y = 2 ∧ boxB 2 2 n ll = true ∧ 1 ≤ n ∧ n ≤ 1000 := by
  simp only [pairB, Bool.and_eq_true, decide_eq_true_eq] at h
  obtain ⟨h1, rfl, rfl⟩ := h
  exact ⟨rfl, rfl, h1, (boxB_spec h1).n1, (boxB_spec h1).n2⟩
theorem mul_whole {na nb : Int} (h1 : 1 ≤ na ∧ na ≤ 1000) (h2 : 1 ≤ nb ∧ nb ≤ 1000) : 0 ≤ na * nb ∧ na * nb ≤ 1000000 :=
  ⟨Int.mul_nonneg (by omega) (by omega), Int.le_trans (Int.mul_le_mul h1.2 h2.2 (by omega) (by omega)) (by decide)⟩
def sumF : List Int := [0, 1]
def sumA : List (List Int) := [[0, 0], [1, 1]]
def sumS : List (List Int) := [[0, 1, 1, 0], [0, 1, 1, 0]]
theorem sum_rule : ruleB sumF sumA sumS = true := by decide
def ruleA (asks : List Int) : List (List Int) := [[atZ asks 0, atZ asks 1], [atZ asks 2, atZ asks 3]]
theorem part4 {asks : List Int} (h : asks.length = 4) : partZ asks 0 2 = [atZ asks 0, atZ asks 1] ∧ partZ asks 2 asks.length = [atZ asks 2, atZ asks 3] := by
  match asks, h with
  | [a, b, c, d], _ => exact ⟨by simp [partZ, atZ], by simp [partZ, atZ]⟩
/-- the rows of a wiring on the way -/
def wireM (W : Nat → Nat → Nat → Nat → Int) (j0 m : Nat) : List (List Int) := (List.range 4).map fun j => rowF (W (j / 2) (j % 2) (if j < j0 then 16 else if j = j0 then m else 0)) 4
@[simp] theorem wireM_len (W : Nat → Nat → Nat → Nat → Int) (j0 m : Nat) : (wireM W j0 m).length = 4 := by simp [wireM]
theorem wireM_get (W : Nat → Nat → Nat → Nat → Int) {j0 : Nat} (m : Nat) (h : j0 < 4) : (wireM W j0 m)[j0]? = some (rowF (W (j0 / 2) (j0 % 2) m) 4) := by
  rcases (by omega : j0 = 0 ∨ j0 = 1 ∨ j0 = 2 ∨ j0 = 3) with rfl | rfl | rfl | rfl <;> simp [wireM, List.range, List.range.loop]
theorem wireM_set (W : Nat → Nat → Nat → Nat → Int) {j0 : Nat} (m m' : Nat) (h : j0 < 4) : (wireM W j0 m).set j0 (rowF (W (j0 / 2) (j0 % 2) m') 4) = wireM W j0 m' := by
  rcases (by omega : j0 = 0 ∨ j0 = 1 ∨ j0 = 2 ∨ j0 = 3) with rfl | rfl | rfl | rfl <;> simp [wireM, List.range, List.range.loop]
theorem wireM_next (W : Nat → Nat → Nat → Nat → Int) {j0 : Nat} (h : j0 < 4) : wireM W j0 16 = wireM W (j0 + 1) 0 := by
  rcases (by omega : j0 = 0 ∨ j0 = 1 ∨ j0 = 2 ∨ j0 = 3) with rfl | rfl | rfl | rfl <;> simp [wireM, List.range, List.range.loop]
theorem wireM_zero (W : Nat → Nat → Nat → Nat → Int) (h : ∀ x y p, W x y 0 p = 0) : boxF (fun _ _ _ => 0) 2 4 = wireM W 0 0 := by
  simp [wireM, boxF, rowF, List.range, List.range.loop, h]
theorem wireM_end (W : Nat → Nat → Nat → Nat → Int) (m : Nat) : wireM W 4 m = boxF (fun x y p => W x y 16 p) 2 4 := by
  simp [wireM, boxF, List.range, List.range.loop]
theorem cnt_wired (b : Bool) (la lb : List (List Int)) (f1 : List Int) (a1 s1 : List (List Int)) (f2 : List Int) (a2 s2 : List (List Int)) : cnt (whenL b (wiredL la lb f1 a1 s1 f2 a2 s2)) ≤ 16 :=
  Nat.le_trans (cnt_whenL _ _) (by unfold wiredL; rw [cnt_boxF]; decide)

end Go.Proofs.Ytefbiejoikpkmaa

namespace Go.Proofs.Ytefbiejoikpkmaa
open Go.RowKit
open Go
/-! quiet trios -/
def at2 (ll : List (List Int)) (q k : Nat) : Int := atZ (atZ ll (q : Int)) (k : Int)
/-- the numbers of the places that differ by a digit add up alike for the questions that differ by it -/
def quietAt (ll : List (List Int)) (d q a : Nat) : Bool := (q &&& d != 0) || decide (at2 ll q a + at2 ll q (a ^^^ d) = at2 ll (q ||| d) a + at2 ll (q ||| d) (a ^^^ d))
def quiet3 (ll : List (List Int)) : Bool := [4, 2, 1].all fun d => (List.range 8).all fun q => (List.range 8).all fun a => quietAt ll d q a
theorem range_all_f {f : Nat → Bool} {n k : Nat} (h : k < n) (hf : f k = false) : (List.range n).all f = false := by
  rw [← Bool.not_eq_true, List.all_eq_true]; intro H; have := H k (List.mem_range.2 h); rw [hf] at this; cases this
theorem range_all_s {f : Nat → Bool} {k : Nat} : (List.range (k + 1)).all f = ((List.range k).all f && f k) := by simp [List.range_succ]
theorem quiet_digit (p : Nat) (h : p < 3) : ∃ d : Nat, (4 : Int) / 2 ^ p = (d : Int) ∧ (∀ f : Nat → Bool, (List.take (p + 1) [4, 2, 1]).all f = ((List.take p [4, 2, 1]).all f && f d)) ∧ d ≤ 4 ∧ (∀ f : Nat → Bool, f d = false → [4, 2, 1].all f = false) ∧ (∀ a, a < 8 → a ^^^ d < 8) ∧ (∀ q, q < 8 → q ||| d < 8) ∧ 1 ≤ d := by
  have : p = 0 ∨ p = 1 ∨ p = 2 := by omega
  rcases this with rfl | rfl | rfl
  · exact ⟨4, by decide, fun f => by simp, by decide, fun f h => by simp [h], by decide, by decide, by decide⟩
  · exact ⟨2, by decide, fun f => by simp, by decide, fun f h => by simp [h], by decide, by decide, by decide⟩
  · exact ⟨1, by decide, fun f => by simp [Bool.and_assoc], by decide, fun f h => by simp [h], by decide, by decide, by decide⟩
def spQuietAt (ll : List (List Int)) (d q a : Nat) : Bool := (q &&& d != 0) || (a &&& d != 0) || decide (at2 ll q a + at2 ll q (a ^^^ d) = at2 ll (q ||| d) a + at2 ll (q ||| d) (a ^^^ d))
def spQuiet (ll : List (List Int)) (p : Nat) : Bool := (List.take p [1, 2, 4]).all fun d => (List.range 8).all fun q => (List.range 8).all fun a => spQuietAt ll d q a
theorem spQuiet_row {ll : List (List Int)} {d q : Nat} (h : d = 1 ∨ d = 2 ∨ d = 4) : ((List.range 8).all fun a => spQuietAt ll d q a) = ((List.range 8).all fun a => quietAt ll d q a) := by
  rw [Bool.eq_iff_iff, List.all_eq_true, List.all_eq_true]
  constructor
  · intro H a ha
    by_cases hd : a &&& d = 0
    · have := H a ha
      simpa [spQuietAt, quietAt, hd] using this
    · have hx : a ^^^ d < 8 ∧ (a ^^^ d) &&& d = 0 ∧ (a ^^^ d) ^^^ d = a := by
        have ha' := List.mem_range.1 ha
        have hall : ∀ d, (d = 1 ∨ d = 2 ∨ d = 4) → ∀ a, a < 8 → a &&& d ≠ 0 → a ^^^ d < 8 ∧ (a ^^^ d) &&& d = 0 ∧ (a ^^^ d) ^^^ d = a := by
          rintro d (rfl | rfl | rfl) <;> decide
        exact hall d h a ha' hd
      have := H (a ^^^ d) (List.mem_range.2 hx.1)
      simp only [spQuietAt, quietAt, hx.2.1, hx.2.2, Bool.or_eq_true, bne_iff_ne, ne_eq, not_true_eq_false, or_false, decide_eq_true_eq] at this ⊢
      rcases this with h1 | h1
      · exact .inl h1
      · right; omega
  · intro H a ha
    have := H a ha
    simp only [spQuietAt, quietAt, Bool.or_eq_true] at this ⊢
    rcases this with h1 | h1
    · exact .inl (.inl h1)
    · exact .inr h1
theorem spQuiet_eq (ll : List (List Int)) : spQuiet ll 3 = quiet3 ll := by
  have e : ∀ d, (d = 1 ∨ d = 2 ∨ d = 4) → ((List.range 8).all fun q => (List.range 8).all fun a => spQuietAt ll d q a) = ((List.range 8).all fun q => (List.range 8).all fun a => quietAt ll d q a) := fun d hd =>
    congrArg (List.all (List.range 8)) (funext fun q => spQuiet_row hd)
  unfold spQuiet quiet3
  simp only [List.take_succ_cons, List.take_zero, List.all_cons, List.all_nil, Bool.and_true]
  rw [e 1 (by simp), e 2 (by simp), e 4 (by simp)]
  cases (List.range 8).all fun q => (List.range 8).all fun a => quietAt ll 1 q a <;> cases (List.range 8).all fun q => (List.range 8).all fun a => quietAt ll 2 q a <;> cases (List.range 8).all fun q => (List.range 8).all fun a => quietAt ll 4 q a <;> rfl
def pw2 (p : Nat) : Nat := 2 ^ p
theorem spQuiet_digit (p : Nat) (h : p < 3) : ∃ d : Nat, pw2 p = d ∧ pw2 (p + 1) = d * 2 ∧ (∀ f : Nat → Bool, (List.take (p + 1) [1, 2, 4]).all f = ((List.take p [1, 2, 4]).all f && f d)) ∧ (∀ f : Nat → Bool, f d = false → (List.take 3 [1, 2, 4]).all f = false) ∧ (d = 1 ∨ d = 2 ∨ d = 4) := by
  have : p = 0 ∨ p = 1 ∨ p = 2 := by omega
  rcases this with rfl | rfl | rfl
  · exact ⟨1, by decide, by decide, fun f => by simp, fun f h => by simp [h], by simp⟩
  · exact ⟨2, by decide, by decide, fun f => by simp, fun f h => by simp [h], by simp⟩
  · exact ⟨4, by decide, by decide, fun f => by simp [Bool.and_assoc], fun f h => by simp [h], by simp⟩
theorem digit_add {d k : Nat} (hd : d = 1 ∨ d = 2 ∨ d = 4) (hk : k < 8) (h : k &&& d = 0) : k + d = k ^^^ d ∧ k + d = k ||| d ∧ k + d < 8 := by
  have hall : ∀ d, (d = 1 ∨ d = 2 ∨ d = 4) → ∀ k, k < 8 → k &&& d = 0 → k + d = k ^^^ d ∧ k + d = k ||| d ∧ k + d < 8 := by rintro d (rfl | rfl | rfl) <;> decide
  exact hall d hd k hk h

end Go.Proofs.Ytefbiejoikpkmaa

namespace Go.Proofs.Ytefbiejoikpkmaa
open Go.RowKit
set_option linter.unusedSectionVars false
variable [Glb]
open Go
/-! scenes, halls -/
def riseAt (l : List Int) (lo hi : Int) (i : Nat) : Bool := inB (atZ l i) lo hi && (decide (i = 0) || decide (atZ l ((i : Int) - 1) < atZ l i))
def riseB (l : List Int) (lo hi : Int) : Bool := (List.range l.length).all fun i => riseAt l lo hi i
theorem riseB_f {l : List Int} {lo hi : Int} {k : Nat} (h : k < l.length) (hf : riseAt l lo hi k = false) : riseB l lo hi = false := range_all_f h hf
def ctxB (n : Int) (l : List Int) : Bool := decide (0 < l.length) && riseB l 0 (n - 1)
def sceneB (ev : Int) (cc : List (List Int)) (ss : List Int) : Bool := inB ev 0 12 && (decide (cc.length ≤ 10) && (bitsB ss cc.length && cc.all (ctxB ev)))
structure SceneOK (ev : Int) (cc : List (List Int)) (ss : List Int) : Prop where
  e0 : 0 ≤ ev
  e12 : ev ≤ 12
  c10 : cc.length ≤ 10
  sl : ss.length = cc.length
  sb : bitsB ss cc.length = true
  ctx : ∀ q, (hq : q < cc.length) → ctxB ev cc[q] = true
theorem sceneB_spec {ev : Int} {cc : List (List Int)} {ss : List Int} (h : sceneB ev cc ss = true) : SceneOK ev cc ss := by
  simp only [sceneB, Bool.and_eq_true, decide_eq_true_eq, List.all_eq_true] at h
  obtain ⟨h1, h2, h3, h4⟩ := h
  have a := inB_iff.1 h1
  have := bitsB_len h3
  exact ⟨a.1, a.2, h2, by omega, h3, fun q hq => h4 _ (List.getElem_mem hq)⟩
def hallB (bx by_ bwh : Int) (bll : List (List Int)) (pl : List Int) (ev : Int) (cc : List (List Int)) (ss nu : List Int) (co : Int) : Bool :=
  boxB bx by_ bwh bll && (bitsB pl (bx + by_) && (sceneB ev cc ss && (bitsB nu ev && inB co 0 1000)))
/-- the least of numbers -/
def leastN (m : Int) (f : Nat → Int) : Nat → Int
  | 0 => m
  | k + 1 => min (leastN m f k) (f k)
def chanceF (Y X : Nat) (ll : List (List Int)) (pl : List Int) (j : Nat) : Int := atZ (atZ ll j) (2 * atZ pl ((j / Y : Nat) : Int) + atZ pl ((X : Int) + (j % Y : Nat)))
theorem rise_no {l : List Int} {lo hi : Int} {k : Nat} (hk : (k : Int) < l.length) (h : inB (atZ l k) lo hi = false ∨ ((k : Int) > 0 ∧ atZ l ((k : Int) - 1) ≥ atZ l k)) : riseB l lo hi = false := by
  refine riseB_f (k := k) (by omega) ?_
  unfold riseAt
  rcases h with h | ⟨h1, h2⟩
  · simp [h]
  · have : ¬ k = 0 := by omega
    have h3 : ¬ atZ l ((k : Int) - 1) < atZ l k := by omega
    simp [this, h3]
theorem rise_yes {l : List Int} {lo hi : Int} {k : Nat} (ha : (List.range k).all (riseAt l lo hi) = true) (h : inB (atZ l k) lo hi = true) (h2 : ¬ (k : Int) > 0 ∨ ¬ atZ l ((k : Int) - 1) ≥ atZ l k) : (List.range (k + 1)).all (riseAt l lo hi) = true := by
  rw [range_all_s, ha, Bool.true_and]
  unfold riseAt
  rcases h2 with h2 | h2
  · have : k = 0 := by omega
    simp [h, this]
    subst this; simpa using h
  · have h3 : atZ l ((k : Int) - 1) < atZ l k := by omega
    simp [h, h3]
structure HallOK (bx by_ bwh : Int) (bll : List (List Int)) (pl : List Int) (ev : Int) (cc : List (List Int)) (ss nu : List Int) (co : Int) : Prop where
  box : boxB bx by_ bwh bll = true
  pl : bitsB pl (bx + by_) = true
  sc : sceneB ev cc ss = true
  nu : bitsB nu ev = true
  co : inB co 0 1000 = true
theorem hallB_spec {bx by_ bwh : Int} {bll : List (List Int)} {pl : List Int} {ev : Int} {cc : List (List Int)} {ss nu : List Int} {co : Int} (h : hallB bx by_ bwh bll pl ev cc ss nu co = true) : HallOK bx by_ bwh bll pl ev cc ss nu co := by
  simp only [hallB, Bool.and_eq_true] at h
  exact ⟨h.1, h.2.1, h.2.2.1, h.2.2.2.1, h.2.2.2.2⟩
theorem chance_at {X Y : Nat} {ll : List (List Int)} {pl : List Int} {i k : Nat} (hk : k < Y) : chanceF Y X ll pl (Y * i + k) = atB ll Y i k (2 * atZ pl i + atZ pl ((X : Int) + k)) := by
  have e1 : (Y * i + k) / Y = i := by rw [Nat.mul_comm, Nat.add_comm, Nat.add_mul_div_right _ _ (by omega), Nat.div_eq_of_lt hk, Nat.zero_add]
  have e2 : (Y * i + k) % Y = k := by rw [Nat.mul_comm, Nat.add_comm, Nat.add_mul_mod_self_right, Nat.mod_eq_of_lt hk]
  unfold chanceF atB
  rw [e1, e2, Int.natCast_add, Int.natCast_mul, Int.mul_comm]
theorem chance_split {X Y : Nat} (ll : List (List Int)) (pl : List Int) {i : Nat} (hY : 1 ≤ Y) (hi : i < Y * X) :
    ∃ a m : Nat, (i : Int) / Y = a ∧ (i : Int) % Y = m ∧ a < X ∧ m < Y ∧ chanceF Y X ll pl i = atZ (atZ ll i) (2 * atZ pl a + atZ pl ((X : Int) + m)) :=
  ⟨i / Y, i % Y, by simp, by simp, Nat.div_lt_of_lt_mul hi, Nat.mod_lt _ hY, rfl⟩

end Go.Proofs.Ytefbiejoikpkmaa

namespace Go.Proofs.Ytefbiejoikpkmaa
open Go.RowKit
set_option linter.unusedSectionVars false
variable [Glb]
open Go
/-! new halls -/
def newB (bx by_ bwh : Int) (bll : List (List Int)) (ev : Int) (cc : List (List Int)) (ss : List Int) : Bool := boxB bx by_ bwh bll && sceneB ev cc ss
structure NewOK (bx by_ bwh : Int) (bll : List (List Int)) (ev : Int) (cc : List (List Int)) (ss : List Int) : Prop where
  x1 : 1 ≤ bx
  x3 : bx ≤ 3
  y1 : 1 ≤ by_
  y3 : by_ ≤ 3
  e0 : 0 ≤ ev
  e12 : ev ≤ 12
  bl : bll.length ≤ 9
  br : ∀ r ∈ bll, r.length ≤ 1000000
  cl : cc.length ≤ 10
  cr : ∀ r ∈ cc, r.length ≤ 1000000
  cb : ∀ r ∈ cc, allB r 0 1000 = true
  sl : ss.length ≤ 10
theorem rise_lt {l : List Int} {lo hi : Int} (h : riseB l lo hi = true) : ∀ i : Nat, i < l.length → lo + i ≤ atZ l i ∧ atZ l i ≤ hi := by
  intro i
  induction i with
  | zero =>
    intro hi
    unfold riseB at h
    rw [List.all_eq_true] at h
    have := h 0 (List.mem_range.2 hi)
    simp only [riseAt, Bool.and_eq_true] at this
    have := inB_iff.1 this.1
    simp at this ⊢; omega
  | succ i ih =>
    intro hi
    have a := ih (by omega)
    unfold riseB at h
    rw [List.all_eq_true] at h
    have b := h (i + 1) (List.mem_range.2 hi)
    simp only [riseAt, Bool.and_eq_true, Bool.or_eq_true, decide_eq_true_eq] at b
    have c := inB_iff.1 b.1
    rcases b.2 with e | e
    · omega
    · rw [show ((i + 1 : Nat) : Int) - 1 = (i : Int) by omega] at e
      omega
theorem ctxB_len {n : Int} {l : List Int} (hn : n ≤ 1000) (h : ctxB n l = true) : l.length ≤ 1000 ∧ allB l 0 1000 = true := by
  simp only [ctxB, Bool.and_eq_true] at h
  have hr := rise_lt h.2
  constructor
  · rcases Nat.eq_zero_or_pos l.length with e | e
    · omega
    · have := hr (l.length - 1) (by omega); omega
  · unfold allB
    rw [List.all_eq_true]
    intro x hx
    obtain ⟨i, hi, rfl⟩ := List.getElem_of_mem hx
    have := hr i hi
    rw [atZ_nat hi] at this
    exact inB_iff.2 (by omega)
theorem newB_spec {bx by_ bwh : Int} {bll : List (List Int)} {ev : Int} {cc : List (List Int)} {ss : List Int} (h : newB bx by_ bwh bll ev cc ss = true) : NewOK bx by_ bwh bll ev cc ss := by
  simp only [newB, Bool.and_eq_true] at h
  have b := boxB_spec h.1
  have s := sceneB_spec h.2
  have m := mul_bd3 (sizeB_iff.2 ⟨⟨b.x1, b.x3⟩, b.y1, b.y3⟩)
  have hl := b.len
  have c : ∀ r ∈ cc, r.length ≤ 1000 ∧ allB r 0 1000 = true := fun r hr => by
    obtain ⟨i, hi, rfl⟩ := List.getElem_of_mem hr
    exact ctxB_len (by have := s.e12; omega) (s.ctx i hi)
  refine ⟨b.x1, b.x3, b.y1, b.y3, s.e0, s.e12, by omega, fun r hr => ?_, s.c10, fun r hr => by have := (c r hr).1; omega, fun r hr => (c r hr).2, by have := s.sl; have := s.c10; omega⟩
  obtain ⟨i, hi, rfl⟩ := List.getElem_of_mem hr
  have := (row4B_len (b.row i hi)).1
  omega
theorem len_le_cnt : ∀ {cc : List (List Int)} {n m : Nat}, cc.length ≤ n → (∀ r ∈ cc, r.length ≤ m) → cnt cc ≤ n * m
  | [], _, _, _, _ => by simp [cnt]
  | r :: cc, 0, _, h, _ => by simp at h
  | r :: cc, n + 1, m, h, h2 => by
    have a := len_le_cnt (n := n) (m := m) (cc := cc) (by simpa using h) fun x hx => h2 x (List.mem_cons_of_mem _ hx)
    have b := h2 r (List.mem_cons_self ..)
    simp only [cnt, Nat.succ_mul]; omega
theorem newB_cnt (bx by_ bwh : Int) (bll : List (List Int)) (ev : Int) (cc : List (List Int)) (ss : List Int) :
    (cnt (whenL (newB bx by_ bwh bll ev cc ss) bll) ≤ cnt bll ∧ (whenA (newB bx by_ bwh bll ev cc ss) (zerosL (bx + by_).toNat)).length ≤ 6) ∧ (cnt (whenL (newB bx by_ bwh bll ev cc ss) cc) ≤ cnt cc ∧ (whenA (newB bx by_ bwh bll ev cc ss) ss).length ≤ ss.length) ∧ (whenA (newB bx by_ bwh bll ev cc ss) (zerosL ev.toNat)).length ≤ 12 := by
  refine ⟨⟨cnt_whenL _ _, ?_⟩, ⟨cnt_whenL _ _, whenA_len _ _⟩, ?_⟩
  · cases h : newB bx by_ bwh bll ev cc ss with
    | false => simp [whenA]
    | true => have := newB_spec h; have a := this.x3; have b := this.y3; simp [whenA]; omega
  · cases h : newB bx by_ bwh bll ev cc ss with
    | false => simp [whenA]
    | true => have := newB_spec h; have a := this.e12; simp [whenA]; omega
structure HallBd (bll : List (List Int)) (pl : List Int) (cc : List (List Int)) (ss nu : List Int) : Prop where
  bl : bll.length ≤ 9
  br : ∀ r ∈ bll, r.length ≤ 1000000
  cl : cc.length ≤ 10
  cr : ∀ r ∈ cc, r.length ≤ 1000000
  cb : ∀ r ∈ cc, allB r 0 1000 = true
  sl : ss.length ≤ 10
  pl6 : pl.length ≤ 6
  nl : nu.length ≤ 12
theorem hallB_bd {bx by_ bwh : Int} {bll : List (List Int)} {pl : List Int} {ev : Int} {cc : List (List Int)} {ss nu : List Int} {co : Int} (h : hallB bx by_ bwh bll pl ev cc ss nu co = true) : HallBd bll pl cc ss nu := by
  have hH := hallB_spec h
  have hN := newB_spec (bx := bx) (by_ := by_) (bwh := bwh) (bll := bll) (ev := ev) (cc := cc) (ss := ss) (by simp [newB, hH.box, hH.sc])
  have a := bitsB_len hH.pl
  have b := bitsB_len hH.nu
  have x3 := hN.x3; have y3 := hN.y3; have e12 := hN.e12
  exact ⟨hN.bl, hN.br, hN.cl, hN.cr, hN.cb, hN.sl, by omega, by omega⟩
theorem hall_cnt (bx by_ bwh : Int) (bll : List (List Int)) (pl : List Int) (ev : Int) (cc : List (List Int)) (ss nu : List Int) (co : Int) (b : Bool) :
    (cnt (whenL b bll) ≤ cnt bll ∧ (whenA b pl).length ≤ pl.length) ∧ (cnt (whenL b cc) ≤ cnt cc ∧ (whenA b ss).length ≤ ss.length) ∧ (whenA b nu).length ≤ nu.length :=
  ⟨⟨cnt_whenL _ _, whenA_len _ _⟩, ⟨cnt_whenL _ _, whenA_len _ _⟩, whenA_len _ _⟩

end Go.Proofs.Ytefbiejoikpkmaa

namespace Go.Proofs.Ytefbiejoikpkmaa
open Go.RowKit
set_option linter.unusedSectionVars false
variable [Glb]
open Go
/-! the calls of a hall -/
theorem box_at {x y : Nat} {n : Int} {ll : List (List Int)} (h : boxB x y n ll = true) {i k : Nat} (hi : i < x) (hk : k < y) : (∀ p : Nat, p < 4 → 0 ≤ atB ll y i k p ∧ atB ll y i k p ≤ n) ∧ atB ll y i k ((0 : Nat) : Int) + atB ll y i k ((1 : Nat) : Int) + atB ll y i k ((2 : Nat) : Int) + atB ll y i k ((3 : Nat) : Int) = n := by
  have ix := idx_lt (i := (i : Int)) (k := (k : Int)) (X := x) (Y := y) (by omega) (by omega) (by omega) (by omega)
  exact ⟨fun p hp => (boxB_at h ix.1 ix.2.1).2 p (by omega) (by omega), by have := box4 h ix.1 ix.2.1; unfold atB; simpa using this⟩
theorem box_nat {X Y n : Int} {ll : List (List Int)} (h : boxB X Y n ll = true) : ∃ x y : Nat, X = x ∧ Y = y ∧ (1 ≤ x ∧ x ≤ 3) ∧ (1 ≤ y ∧ y ≤ 3) := by
  have b := boxB_spec h
  have a1 := b.x1; have a2 := b.x3; have a3 := b.y1; have a4 := b.y3
  exact ⟨X.toNat, Y.toNat, by omega, by omega, by omega, by omega⟩
/-- the sum of two boxes -/
def bmixF (la lb : List (List Int)) (Y : Nat) (i k p : Nat) : Int := atB la Y i k p + atB lb Y i k p
def bmixL (la lb : List (List Int)) (X Y : Int) : List (List Int) := boxF (bmixF la lb Y.toNat) Y.toNat (Y.toNat * X.toNat)
def sameB (x y n : Int) (la : List (List Int)) (x2 y2 m : Int) (lb : List (List Int)) : Bool := boxB x y n la && (boxB x2 y2 m lb && (decide (x = x2) && decide (y = y2)))
def bmixB (x y n : Int) (la : List (List Int)) (x2 y2 m : Int) (lb : List (List Int)) : Bool := sameB x y n la x2 y2 m lb && decide (n + m ≤ 1000)
theorem sameB_spec {x y n : Int} {la : List (List Int)} {x2 y2 m : Int} {lb : List (List Int)} (h : sameB x y n la x2 y2 m lb = true) : boxB x y n la = true ∧ boxB x y m lb = true ∧ x2 = x ∧ y2 = y := by
  simp only [sameB, Bool.and_eq_true, decide_eq_true_eq] at h
  obtain ⟨h1, h2, rfl, rfl⟩ := h
  exact ⟨h1, h2, rfl, rfl⟩
theorem mix_box {x y : Nat} {n m : Int} {la lb : List (List Int)} (ha : boxB x y n la = true) (hb : boxB x y m lb = true) : boxB x y (n + m) (bmixL la lb x y) = decide (n + m ≤ 1000) := by
  have a := boxB_spec ha; have b := boxB_spec hb
  have a1 := a.x1; have a2 := a.x3; have a3 := a.y1; have a4 := a.y3; have a5 := a.n1; have a6 := a.n2; have b5 := b.n1; have b6 := b.n2
  unfold bmixL
  simp only [Int.toNat_natCast]
  refine rows_box (by omega) (by omega) (by omega) (by omega) fun i k hi hk => ?_
  obtain ⟨a7, a8⟩ := box_at ha hi hk
  obtain ⟨b7, b8⟩ := box_at hb hi hk
  exact ⟨fun p hp => by have := a7 p hp; have := b7 p hp; unfold bmixF; omega, by unfold bmixF; omega⟩
/-- the box of a play -/
def playF (pl : List Int) (X : Nat) (wh : Int) (i k p : Nat) : Int := if atZ pl i = ((p / 2 : Nat) : Int) ∧ atZ pl ((X : Int) + k) = ((p % 2 : Nat) : Int) then wh else 0
def playL (pl : List Int) (X Y wh : Int) : List (List Int) := boxF (playF pl X.toNat wh) Y.toNat (Y.toNat * X.toNat)
def playB (x y : Int) (pl : List Int) (wh : Int) : Bool := sizeB x y && (bitsB pl (x + y) && inB wh 1 1000)
/-- the box with the players swapped -/
def swapF (ll : List (List Int)) (Y : Nat) (i k p : Nat) : Int := atB ll Y k i ((2 * (p % 2) + p / 2 : Nat) : Int)
def swapL (ll : List (List Int)) (X Y : Int) : List (List Int) := boxF (swapF ll Y.toNat) X.toNat (X.toNat * Y.toNat)
/-- the box with flipped answers -/
def bflF (ll : List (List Int)) (X Y : Nat) (fl : List Int) (i k p : Nat) : Int := atB ll Y i k (xor4 p (flipOf fl X i k))
def bflL (ll : List (List Int)) (X Y : Int) (fl : List Int) : List (List Int) := boxF (bflF ll X.toNat Y.toNat fl) Y.toNat (Y.toNat * X.toNat)
/-- the box with the least numbers -/
def gcdI (a b : Int) : Int := ((Nat.gcd a.toNat b.toNat : Nat) : Int)
def gcdR (d : Int) (row : List Int) : Int := row.foldl gcdI d
def gcdL (d : Int) (ll : List (List Int)) : Int := ll.foldl gcdR d
theorem gcdI_pos {a b : Int} (ha : 1 ≤ a) : 1 ≤ gcdI a b ∧ gcdI a b ≤ a := by
  have h1 : 0 < Nat.gcd a.toNat b.toNat := Nat.gcd_pos_of_pos_left _ (by omega)
  have h2 : Nat.gcd a.toNat b.toNat ≤ a.toNat := Nat.gcd_le_left _ (by omega)
  unfold gcdI; omega
theorem gcdR_pos : ∀ {row : List Int} {d : Int}, 1 ≤ d → 1 ≤ gcdR d row ∧ gcdR d row ≤ d
  | [], d, h => ⟨h, Int.le_refl _⟩
  | x :: row, d, h => by
    have a := gcdI_pos (b := x) h
    have b := gcdR_pos (row := row) a.1
    unfold gcdR at *
    rw [List.foldl_cons]; omega
theorem gcdL_pos : ∀ {ll : List (List Int)} {d : Int}, 1 ≤ d → 1 ≤ gcdL d ll ∧ gcdL d ll ≤ d
  | [], d, h => ⟨h, Int.le_refl _⟩
  | x :: ll, d, h => by
    have a := gcdR_pos (row := x) h
    have b := gcdL_pos (ll := ll) a.1
    unfold gcdL at *
    rw [List.foldl_cons]; omega
theorem gcdR_snoc {row : List Int} {d : Int} {k : Nat} (h : k < row.length) : gcdR d (row.take (k + 1)) = gcdI (gcdR d (row.take k)) (atZ row k) := by
  unfold gcdR; rw [List.take_succ_eq_append_getElem h, List.foldl_append, atZ_nat h]; rfl
theorem gcdL_snoc {ll : List (List Int)} {d : Int} {k : Nat} (h : k < ll.length) : gcdL d (ll.take (k + 1)) = gcdR (gcdL d (ll.take k)) (atZ ll k) := by
  unfold gcdL; rw [List.take_succ_eq_append_getElem h, List.foldl_append, atZ_nat h]; rfl
theorem gcd_step {a b : Int} (ha : 0 ≤ a) (hb : 1 ≤ b) : gcdI b (a % b) = gcdI a b := by
  have h0 := Int.emod_nonneg a (show b ≠ 0 by omega)
  have e : (a % b).toNat = a.toNat % b.toNat := by
    have h1 := Int.toNat_of_nonneg ha
    have h2 := Int.toNat_of_nonneg (show 0 ≤ b by omega)
    have : (a % b) = ((a.toNat % b.toNat : Nat) : Int) := by rw [Int.natCast_emod, h1, h2]
    omega
  unfold gcdI
  rw [e, Nat.gcd_comm a.toNat b.toNat, Nat.gcd_rec b.toNat a.toNat, Nat.gcd_comm]
theorem gcd_zero {a : Int} (ha : 0 ≤ a) : gcdI a 0 = a := by
  unfold gcdI; simp; omega
def redF (ll : List (List Int)) (Y : Nat) (d : Int) (i k p : Nat) : Int := atB ll Y i k p / d
def redL (ll : List (List Int)) (X Y : Int) (d : Int) : List (List Int) := boxF (redF ll Y.toNat d) Y.toNat (Y.toNat * X.toNat)
/-- the sums of a scene with an event flipped -/
def evF (cc : List (List Int)) (ss : List Int) (e : Int) (i : Nat) : Int := if (atZ cc (i : Int)).contains e = true then 1 - atZ ss i else atZ ss i
def evL (cc : List (List Int)) (ss : List Int) (e : Int) : List Int := rowF (evF cc ss e) ss.length
theorem xor_pair {p : Nat} {f g : Int} (hp : p < 4) (hf : 0 ≤ f ∧ f ≤ 1) (hg : 0 ≤ g ∧ g ≤ 1) : ((0 ≤ bits .xor .i64 ((p / 2 : Nat) : Int) f ∧ bits .xor .i64 ((p / 2 : Nat) : Int) f ≤ 1) ∧ 0 ≤ bits .xor .i64 ((p % 2 : Nat) : Int) g ∧ bits .xor .i64 ((p % 2 : Nat) : Int) g ≤ 1) ∧
    2 * bits .xor .i64 ((p / 2 : Nat) : Int) f + bits .xor .i64 ((p % 2 : Nat) : Int) g = xor4 p (2 * f + g) := by
  rcases (by omega : p = 0 ∨ p = 1 ∨ p = 2 ∨ p = 3) with rfl | rfl | rfl | rfl <;> rcases (by omega : f = 0 ∨ f = 1) with rfl | rfl <;> rcases (by omega : g = 0 ∨ g = 1) with rfl | rfl <;> exact ⟨by decide, rfl⟩
/-- the sums of which the first k are done -/
def evM (cc : List (List Int)) (ss : List Int) (e : Int) (k : Nat) : List Int := rowF (fun j => if j < k then evF cc ss e j else atZ ss (j : Int)) ss.length
theorem evM_zero (cc : List (List Int)) (ss : List Int) (e : Int) : evM cc ss e 0 = ss := by
  apply List.ext_getElem
  · simp [evM]
  · intro i h1 h2
    simp [evM, rowF, atZ_nat h2]
theorem evM_all (cc : List (List Int)) (ss : List Int) (e : Int) : evM cc ss e ss.length = evL cc ss e := by
  unfold evM evL
  exact rowF_congr fun k hk => if_pos hk
@[simp] theorem evM_len (cc : List (List Int)) (ss : List Int) (e : Int) (k : Nat) : (evM cc ss e k).length = ss.length := by simp [evM]
@[simp] theorem evL_len (cc : List (List Int)) (ss : List Int) (e : Int) : (evL cc ss e).length = ss.length := by simp [evL]
theorem evM_at (cc : List (List Int)) (ss : List Int) (e : Int) {k : Nat} (h : k < ss.length) : atZ (evM cc ss e k) (k : Int) = atZ ss (k : Int) := by
  rw [atZ_nat (by simpa using h)]; simp [evM, rowF]
theorem evM_hit {cc : List (List Int)} {ss : List Int} {e : Int} {k : Nat} (h : k < ss.length) (hc : (atZ cc (k : Int)).contains e = true) : (evM cc ss e k).set k (1 - atZ ss (k : Int)) = evM cc ss e (k + 1) := by
  apply List.ext_getElem
  · simp
  · intro i h1 h2
    rw [List.getElem_set]
    simp only [evM, rowF, List.getElem_map, List.getElem_range]
    by_cases hi : k = i
    · subst hi; rw [if_pos rfl, if_pos (by omega), evF, if_pos hc]
    · rw [if_neg hi]
      by_cases h3 : i < k
      · rw [if_pos h3, if_pos (by omega)]
      · rw [if_neg h3, if_neg (by omega)]
theorem evM_miss {cc : List (List Int)} {ss : List Int} {e : Int} {k : Nat} (hc : ¬ (atZ cc (k : Int)).contains e = true) : evM cc ss e k = evM cc ss e (k + 1) := by
  unfold evM
  refine rowF_congr fun i hi => ?_
  by_cases h3 : i < k
  · rw [if_pos h3, if_pos (by omega)]
  · rw [if_neg h3]
    by_cases h4 : i = k
    · subst h4; rw [if_pos (by omega), evF, if_neg hc]
    · rw [if_neg (by omega)]
theorem emod_bd0 {x n : Int} (hx : 0 ≤ x) (hn : 0 < n) : 0 ≤ x % n ∧ x % n < n ∧ x % n ≤ x := by
  refine ⟨Int.emod_nonneg _ (by omega), Int.emod_lt_of_pos _ (by omega), ?_⟩
  have h1 := Int.emod_add_mul_ediv x n
  have h2 : 0 ≤ n * (x / n) := Int.mul_nonneg (by omega) (Int.ediv_nonneg hx (by omega))
  omega
/-! halls as data -/
structure HD where
  bx : Int
  by_ : Int
  bwh : Int
  bll : List (List Int)
  pl : List Int
  ev : Int
  cc : List (List Int)
  ss : List Int
  nu : List Int
  co : Int
structure HV (h : HD) : Prop where
  box : boxB h.bx h.by_ h.bwh h.bll = true
  pl : bitsB h.pl (h.bx + h.by_) = true
  sc : sceneB h.ev h.cc h.ss = true
  nu : bitsB h.nu h.ev = true
/-- 1 at one place -/
def oneL (n : Nat) (a : Int) : List Int := (List.replicate n (0 : Int)).set a.toNat 1
@[simp] theorem oneL_len (n : Nat) (a : Int) : (oneL n a).length = n := by simp [oneL]
theorem oneL_bits (n : Nat) (a : Int) : bitsB (oneL n a) n = true := by
  simp only [bitsB, oneL_len, decide_true, Bool.true_and, allB, List.all_eq_true]
  intro x hx
  unfold oneL at hx
  rcases List.mem_or_eq_of_mem_set hx with h | h
  · have := List.eq_of_mem_replicate h; subst this; decide
  · subst h; decide
theorem xor_one {v : Int} (h : 0 ≤ v ∧ v ≤ 1) : bits .xor .i64 v 1 = 1 - v := by
  rcases (by omega : v = 0 ∨ v = 1) with rfl | rfl <;> rfl
def mixOK (h : HD) (a : Int) : Bool := playB h.bx h.by_ h.pl a && bmixB h.bx h.by_ h.bwh h.bll h.bx h.by_ a (playL h.pl h.bx h.by_ a)
def callT (h : HD) (k a : Int) : Option HD :=
  if k = 1 then if mixOK h a = true then some { h with bwh := h.bwh + a, bll := bmixL h.bll (playL h.pl h.bx h.by_ a) h.bx h.by_ } else none
  else if k = 2 then if inB a 0 (h.pl.length - 1) = true then some { h with pl := h.pl.set a.toNat (1 - atZ h.pl a) } else none
  else if k = 3 then if inB a 0 (h.pl.length - 1) = true then some { h with bll := bflL h.bll h.bx h.by_ (oneL h.pl.length a) } else none
  else if k = 4 then if a = 0 then some { h with bx := h.by_, by_ := h.bx, bll := swapL h.bll h.bx h.by_, pl := partZ h.pl h.bx h.pl.length ++ partZ h.pl 0 h.bx } else none
  else if k = 5 then if a = 0 then some { h with bwh := h.bwh / gcdL h.bwh h.bll, bll := redL h.bll h.bx h.by_ (gcdL h.bwh h.bll) } else none
  else if k = 6 then if inB a 0 (h.nu.length - 1) = true then some { h with nu := h.nu.set a.toNat (1 - atZ h.nu a) } else none
  else if k = 7 then if inB a 0 (h.ev - 1) = true then some { h with ss := evL h.cc h.ss a } else none
  else none
/-! rows told one by one -/
def rowsF (g : Nat → Nat → Int) (n : Nat) : List (List Int) := (List.range n).map fun j => rowF (g j) 4
@[simp] theorem rowsF_len (g : Nat → Nat → Int) (n : Nat) : (rowsF g n).length = n := by simp [rowsF]
theorem rowsF_snoc (g : Nat → Nat → Int) (n : Nat) : rowsF g (n + 1) = rowsF g n ++ [rowF (g n) 4] := by simp [rowsF, List.range_succ]
theorem boxF_rows {f : Nat → Nat → Nat → Int} {g : Nat → Nat → Int} {y n : Nat} (h : ∀ j p, j < n → p < 4 → f (j / y) (j % y) p = g j p) : boxF f y n = rowsF g n := by
  unfold boxF rowsF
  exact List.map_congr_left fun j hj => rowF_congr fun p hp => h j p (List.mem_range.1 hj) hp
theorem atB_row (ll : List (List Int)) (y j : Nat) (p : Int) : atB ll y ((j / y : Nat) : Int) ((j % y : Nat) : Int) p = atZ (atZ ll (j : Int)) p := by
  unfold atB
  have : ((j / y : Nat) : Int) * (y : Int) + ((j % y : Nat) : Int) = (j : Int) := by
    have := Nat.div_add_mod j y
    rw [← Int.natCast_mul, ← Int.natCast_add, Nat.mul_comm, this]
  rw [this]
def mixR (la lb : List (List Int)) (j p : Nat) : Int := atZ (atZ la (j : Int)) (p : Int) + atZ (atZ lb (j : Int)) (p : Int)
theorem bmixL_rows {x y : Nat} (la lb : List (List Int)) : bmixL la lb x y = rowsF (mixR la lb) (y * x) := by
  unfold bmixL
  simp only [Int.toNat_natCast]
  exact boxF_rows fun j p _ _ => by unfold bmixF mixR; rw [atB_row, atB_row]
def redR (ll : List (List Int)) (d : Int) (j p : Nat) : Int := atZ (atZ ll (j : Int)) (p : Int) / d
theorem redL_rows {x y : Nat} (ll : List (List Int)) (d : Int) : redL ll x y d = rowsF (redR ll d) (y * x) := by
  unfold redL
  simp only [Int.toNat_natCast]
  exact boxF_rows fun j p _ _ => by unfold redF redR; rw [atB_row]
/-- a row with flipped answers, on the way -/
def flM (row : List Int) (m : Int) (k : Nat) : List Int := rowF (fun j => if (xor4 j m).toNat < k then atZ row (xor4 j m) else 0) 4
@[simp] theorem flM_len (row : List Int) (m : Int) (k : Nat) : (flM row m k).length = 4 := by simp [flM]
theorem flM_zero (row : List Int) (m : Int) : flM row m 0 = List.replicate 4 0 := by simp [flM, rowF, List.range, List.range.loop]
theorem flM_set {row : List Int} {m : Int} {k : Nat} (hm : 0 ≤ m ∧ m < 4) (hk : k < 4) : (flM row m k).set (xor4 k m).toNat (atZ row k) = flM row m (k + 1) := by
  rcases (by omega : k = 0 ∨ k = 1 ∨ k = 2 ∨ k = 3) with rfl | rfl | rfl | rfl <;> rcases (by omega : m = 0 ∨ m = 1 ∨ m = 2 ∨ m = 3) with rfl | rfl | rfl | rfl <;> rfl
theorem flM_all (row : List Int) {m : Int} (hm : 0 ≤ m ∧ m < 4) : flM row m 4 = rowF (fun j => atZ row (xor4 j m)) 4 := by
  unfold flM
  refine rowF_congr fun j hj => if_pos ?_
  have := (xor4_eq hj hm.1 hm.2).2
  omega
theorem play_row {f g wh : Int} (hf : 0 ≤ f ∧ f ≤ 1) (hg : 0 ≤ g ∧ g ≤ 1) : (List.replicate 4 (0 : Int)).set (2 * f + g).toNat wh = rowF (fun p => if f = ((p / 2 : Nat) : Int) ∧ g = ((p % 2 : Nat) : Int) then wh else 0) 4 := by
  rcases (by omega : f = 0 ∨ f = 1) with rfl | rfl <;> rcases (by omega : g = 0 ∨ g = 1) with rfl | rfl <;> simp [rowF, List.range, List.range.loop]

end Go.Proofs.Ytefbiejoikpkmaa

namespace Go.Proofs.Ytefbiejoikpkmaa
open Go.RowKit
set_option linter.unusedSectionVars false
variable [Glb]
open Go
/-! the eight sums of a box; the first of the greatest -/
def difK (k x y : Nat) : Int := ((x * y + k / 4 % 2 * x + k / 2 % 2 * y + k % 2) % 2 : Nat)
theorem difK_bd (k x y : Nat) : 0 ≤ difK k x y ∧ difK k x y ≤ 1 := by unfold difK; omega
def sgnT (ll : List (List Int)) (k j : Nat) : Int := agrZ (atZ ll (j : Int)) * (1 - 2 * difK k (j / 2) (j % 2))
def sgnK (ll : List (List Int)) (k : Nat) : Int := accT (sgnT ll k) 4
def sumsL (ll : List (List Int)) : List Int := rowF (sgnK ll) 8
theorem agr_bd {n : Int} {ll : List (List Int)} (h : boxB 2 2 n ll = true) {j : Nat} (hj : j < 4) : -n ≤ agrZ (atZ ll (j : Int)) ∧ agrZ (atZ ll (j : Int)) ≤ n := by
  have hb := boxB_at h (q := (j : Int)) (by omega) (by omega)
  have b4 := box4 h (q := (j : Int)) (by omega) (by omega)
  have v0 := hb.2 0 (by omega) (by omega)
  have v1 := hb.2 1 (by omega) (by omega)
  have v2 := hb.2 2 (by omega) (by omega)
  have v3 := hb.2 3 (by omega) (by omega)
  unfold agrZ; omega
theorem sign_bd {a d n : Int} (h1 : -n ≤ a) (h2 : a ≤ n) (hd : 0 ≤ d ∧ d ≤ 1) : (1 - 2 * d = 1 ∨ 1 - 2 * d = -1) ∧ -n ≤ a * (1 - 2 * d) ∧ a * (1 - 2 * d) ≤ n := by
  rcases (by omega : d = 0 ∨ d = 1) with rfl | rfl
  · exact ⟨.inl rfl, by omega, by omega⟩
  · exact ⟨.inr rfl, by omega, by omega⟩
theorem sgnT_bd {n : Int} {ll : List (List Int)} (h : boxB 2 2 n ll = true) (k : Nat) {j : Nat} (hj : j < 4) : -n ≤ sgnT ll k j ∧ sgnT ll k j ≤ n := by
  have a := agr_bd h hj
  exact (sign_bd a.1 a.2 (difK_bd k (j / 2) (j % 2))).2
theorem accT_bd {t : Nat → Int} {n : Int} (hn : 0 ≤ n) : ∀ {m : Nat}, (∀ j, j < m → -n ≤ t j ∧ t j ≤ n) → -(m * n) ≤ accT t m ∧ accT t m ≤ m * n
  | 0, _ => by simp [accT]
  | m + 1, h => by
    have := accT_bd hn (m := m) fun j hj => h j (by omega)
    have h2 := h m (by omega)
    simp only [accT]
    rw [show ((m + 1 : Nat) : Int) * n = m * n + n by rw [Int.natCast_add, Int.add_mul]; simp]
    omega
/-- the place of the first of the greatest numbers -/
def bstT (s : Nat → Int) : Nat → Nat
  | 0 => 0
  | 1 => 0
  | t + 2 => if s (bstT s (t + 1)) < s (t + 1) then t + 1 else bstT s (t + 1)
theorem bstT_lt (s : Nat → Int) : ∀ {t : Nat}, 0 < t → bstT s t < t
  | 1, _ => by simp [bstT]
  | t + 2, _ => by
    have := bstT_lt s (t := t + 1) (by omega)
    unfold bstT
    split <;> omega
theorem bstT_yes {s : Nat → Int} {t : Nat} (h : t = 0 ∨ s (bstT s t) < s t) : bstT s (t + 1) = t := by
  cases t with
  | zero => rfl
  | succ t =>
    rcases h with h | h
    · omega
    · show (if _ then _ else _) = _; rw [if_pos h]
theorem bstT_no {s : Nat → Int} {t : Nat} (h0 : t ≠ 0) (h : ¬ s (bstT s t) < s t) : bstT s (t + 1) = bstT s t := by
  cases t with
  | zero => exact absurd rfl h0
  | succ t => show (if _ then _ else _) = _; rw [if_neg h]
theorem bstT_max (s : Nat → Int) : ∀ {t k : Nat}, k < t → s k ≤ s (bstT s t)
  | 1, k, h => by
    have : k = 0 := by omega
    subst this; exact Int.le_refl _
  | t + 2, k, h => by
    by_cases hk : k = t + 1
    · subst hk
      by_cases hs : s (bstT s (t + 1)) < s (t + 1)
      · rw [bstT_yes (.inr hs)]; exact Int.le_refl _
      · rw [bstT_no (by omega) hs]; omega
    · have ih := bstT_max s (t := t + 1) (k := k) (by omega)
      by_cases hs : s (bstT s (t + 1)) < s (t + 1)
      · rw [bstT_yes (.inr hs)]; omega
      · rw [bstT_no (by omega) hs]; exact ih
/-- the box of a pair of ask lists -/
def askRow (k : Nat) : List Int := bitsM 4 k
def askLL (la lb : List (List Int)) (t : Nat) : List (List Int) := wiredL la lb sumF (ruleA (askRow (t / 16))) sumS sumF (ruleA (askRow (t % 16))) sumS
def askS (la lb : List (List Int)) (k : Nat) (t : Nat) : Int := sgnK (askLL la lb t) k
def bestP (la lb : List (List Int)) (k : Nat) : Nat := bstT (askS la lb k) 256
def bestB (xa ya na : Int) (la : List (List Int)) (xb yb nb : Int) (lb : List (List Int)) (k : Int) : Bool := wiresB xa ya na la xb yb nb lb && inB k 0 7
def firstA (s : Nat → Int) : Nat → List Int
  | 0 => []
  | t + 1 => askRow (bstT s (t + 1) / 16)
def secondA (s : Nat → Int) : Nat → List Int
  | 0 => []
  | t + 1 => askRow (bstT s (t + 1) % 16)
def mostA (s : Nat → Int) : Nat → Int
  | 0 => 0
  | t + 1 => s (bstT s (t + 1))
def foundA : Nat → Bool
  | 0 => false
  | _ + 1 => true
theorem sel_yes {s : Nat → Int} {t : Nat} (h : foundA t = false ∨ mostA s t < s t) : firstA s (t + 1) = askRow (t / 16) ∧ secondA s (t + 1) = askRow (t % 16) ∧ mostA s (t + 1) = s t := by
  have : bstT s (t + 1) = t := bstT_yes (by
    cases t with
    | zero => exact .inl rfl
    | succ t => rcases h with h | h
                · cases h
                · exact .inr h)
  exact ⟨by rw [firstA, this], by rw [secondA, this], by rw [mostA, this]⟩
theorem sel_no {s : Nat → Int} {t : Nat} (h : foundA t = true) (h2 : ¬ mostA s t < s t) : firstA s (t + 1) = firstA s t ∧ secondA s (t + 1) = secondA s t ∧ mostA s (t + 1) = mostA s t := by
  cases t with
  | zero => cases h
  | succ t =>
    have := bstT_no (s := s) (t := t + 1) (by omega) h2
    exact ⟨by rw [firstA, this, firstA], by rw [secondA, this, secondA], by rw [mostA, this, mostA]⟩
theorem askRow_len (k : Nat) : (askRow k).length = 4 := bitsM_len 4 k
theorem askRow_bits (k : Nat) : bitsB (askRow k) 4 = true := bitsM_bits 4 k
theorem ask_at {k : Nat} (h : k < 16) : atZ (playsF 4) (k : Int) = askRow k := playsF_at h
theorem firstA_len (s : Nat → Int) (t : Nat) : (firstA s t).length ≤ 4 := by
  cases t with
  | zero => simp [firstA]
  | succ t => rw [firstA, askRow_len]; exact Nat.le_refl _
theorem secondA_len (s : Nat → Int) (t : Nat) : (secondA s t).length ≤ 4 := by
  cases t with
  | zero => simp [secondA]
  | succ t => rw [secondA, askRow_len]; exact Nat.le_refl _
theorem sumsL_at (ll : List (List Int)) {k : Nat} (h : k < 8) : atZ (sumsL ll) (k : Int) = sgnK ll k := rowF_atZ _ h
theorem askRule (k : Nat) : ruleB sumF (ruleA (askRow k)) sumS = true := by
  have hl := askRow_len k
  have b0 := bitsB_at (askRow_bits k) (i := 0) (by omega) (by omega)
  have b1 := bitsB_at (askRow_bits k) (i := 1) (by omega) (by omega)
  have b2 := bitsB_at (askRow_bits k) (i := 2) (by omega) (by omega)
  have b3 := bitsB_at (askRow_bits k) (i := 3) (by omega) (by omega)
  unfold ruleB ruleA
  rw [show bitsB sumF 2 = true by decide, show tabB sumS 2 4 = true by decide]
  simp [tabB, bitsB, allB, inB]
  omega

end Go.Proofs.Ytefbiejoikpkmaa

namespace Go.Proofs.Ytefbiejoikpkmaa
open Go.RowKit
set_option linter.unusedSectionVars false
variable [Glb]
/-! games: scores, lost pairs, best plays -/
def winT (X Y : Nat) (wi : List (List Int)) (pl : List Int) (t : Nat) : Int := atZ (atZ wi (t : Int)) (flipOf pl X ((t / Y : Nat) : Int) ((t % Y : Nat) : Int))
def scoT (X Y : Nat) (ws : List Int) (wi : List (List Int)) (pl : List Int) (t : Nat) : Int := atZ ws (t : Int) * winT X Y wi pl t
def scoG (X Y : Nat) (ws : List Int) (wi : List (List Int)) (pl : List Int) : Int := accT (scoT X Y ws wi pl) (Y * X)
def funL (ws : List Int) (wi : List (List Int)) : List (List Int) := gridF (fun i k => atZ (atZ wi (i : Int)) (k : Int) * atZ ws (i : Int)) wi.length 4
theorem pair_div {Y i k : Nat} (hk : k < Y) : (Y * i + k) / Y = i ∧ (Y * i + k) % Y = k := by
  have hY : 0 < Y := by omega
  refine ⟨?_, ?_⟩
  · rw [Nat.mul_add_div hY, Nat.div_eq_of_lt hk, Nat.add_zero]
  · rw [Nat.mul_add_mod, Nat.mod_eq_of_lt hk]
theorem pair_cast (Y i k : Nat) : ((Y * i + k : Nat) : Int) = (i : Int) * Y + k := by rw [Int.natCast_add, Int.natCast_mul, Int.mul_comm]
theorem winT_at {X Y : Nat} (wi : List (List Int)) (pl : List Int) {i k : Nat} (hk : k < Y) : winT X Y wi pl (Y * i + k) = atZ (atZ wi ((i : Int) * Y + k)) (2 * atZ pl i + atZ pl ((X : Int) + k)) := by
  obtain ⟨e1, e2⟩ := pair_div (i := i) hk
  unfold winT flipOf
  rw [e1, e2, pair_cast]
theorem scoT_at {X Y : Nat} (ws : List Int) (wi : List (List Int)) (pl : List Int) {i k : Nat} (hk : k < Y) : scoT X Y ws wi pl (Y * i + k) = atZ ws ((i : Int) * Y + k) * atZ (atZ wi ((i : Int) * Y + k)) (2 * atZ pl i + atZ pl ((X : Int) + k)) := by
  unfold scoT
  rw [winT_at wi pl hk, pair_cast]
theorem flip4 {pl : List Int} {X Y : Nat} (hp : bitsB pl ((X : Int) + Y) = true) {i k : Nat} (hi : i < X) (hk : k < Y) : (0 ≤ atZ pl (i : Int) ∧ atZ pl (i : Int) ≤ 1) ∧ (0 ≤ atZ pl ((X : Int) + k) ∧ atZ pl ((X : Int) + k) ≤ 1) ∧ 0 ≤ 2 * atZ pl i + atZ pl ((X : Int) + k) ∧ 2 * atZ pl i + atZ pl ((X : Int) + k) < 4 := by
  have h1 := bitsB_at hp (i := (i : Int)) (by omega) (by omega)
  have h2 := bitsB_at hp (i := (X : Int) + k) (by omega) (by omega)
  omega
structure PairOK (X Y : Nat) (ws : List Int) (wi : List (List Int)) (i k : Nat) : Prop where
  lt : (i : Int) * Y + k < ws.length
  lt2 : (i : Int) * Y + k < wi.length
  ge : 0 ≤ (i : Int) * Y + k
  le : (i : Int) * Y + k ≤ 8
  g1 : 0 ≤ (i : Int) * Y
  g2 : (i : Int) * Y ≤ 8
  w0 : 0 ≤ atZ ws ((i : Int) * Y + k)
  w1 : atZ ws ((i : Int) * Y + k) ≤ 99
  len : (atZ wi ((i : Int) * Y + k)).length = 4
  bit : ∀ p : Int, 0 ≤ p → p < 4 → 0 ≤ atZ (atZ wi ((i : Int) * Y + k)) p ∧ atZ (atZ wi ((i : Int) * Y + k)) p ≤ 1
theorem mul01 {a b : Int} (ha : 0 ≤ a ∧ a ≤ 99) (hb : 0 ≤ b ∧ b ≤ 1) : 0 ≤ a * b ∧ a * b ≤ 99 ∧ (a * b = a ∨ b = 0) ∧ a * b = b * a := by
  rcases (by omega : b = 0 ∨ b = 1) with rfl | rfl <;> simp <;> omega
theorem pair_ok {X Y : Nat} {ws : List Int} {wi : List (List Int)} (h : gameB X Y ws wi = true) {i k : Nat} (hi : i < X) (hk : k < Y) : PairOK X Y ws wi i k := by
  have g := gameB_spec h
  have e := idx_lt (i := (i : Int)) (k := (k : Int)) (X := X) (Y := Y) (by omega) (by omega) (by omega) (by omega)
  have m := mul_bd3 (sizeB_iff.2 ⟨⟨g.x1, g.x3⟩, g.y1, g.y3⟩)
  have a := gameB_at h e.1 e.2.1
  have b := bitsB_len a.2
  have wl := g.wl
  have il := g.il
  exact ⟨by omega, by omega, by omega, by omega, by omega, by omega, a.1.1, a.1.2, by omega, fun p h0 h1 => bitsB_at a.2 h0 h1⟩
theorem scoT_bd {X Y : Nat} {ws : List Int} {wi : List (List Int)} {pl : List Int} (h : gameB X Y ws wi = true) (hp : bitsB pl ((X : Int) + Y) = true) {t : Nat} (ht : t < Y * X) : 0 ≤ scoT X Y ws wi pl t ∧ scoT X Y ws wi pl t ≤ 99 := by
  have hY : 0 < Y := by rcases Nat.eq_zero_or_pos Y with e | e; · subst e; simp at ht
                        · exact e
  have hk : t % Y < Y := Nat.mod_lt _ hY
  have hi : t / Y < X := by rw [Nat.div_lt_iff_lt_mul hY, Nat.mul_comm]; exact ht
  have e : t = Y * (t / Y) + t % Y := (Nat.div_add_mod t Y).symm
  have p := pair_ok h hi hk
  have f := flip4 hp hi hk
  have b := p.bit _ f.2.2.1 f.2.2.2
  rw [e, scoT_at ws wi pl hk]
  have := mul01 ⟨p.w0, p.w1⟩ b
  omega
theorem accT_bd1 {t : Nat → Int} {M : Int} : ∀ {m : Nat}, (∀ c, c < m → 0 ≤ t c ∧ t c ≤ M) → 0 ≤ accT t m ∧ accT t m ≤ m * M
  | 0, _ => by simp [accT]
  | m + 1, h => by
    have a := accT_bd1 (t := t) (M := M) (m := m) fun c hc => h c (by omega)
    have b := h m (by omega)
    simp only [accT, Int.natCast_add, Int.add_mul]
    omega
theorem scoN_bd {X Y : Nat} {ws : List Int} {wi : List (List Int)} {pl : List Int} (h : gameB X Y ws wi = true) (hp : bitsB pl ((X : Int) + Y) = true) {m : Nat} (hm : m ≤ Y * X) : 0 ≤ accT (scoT X Y ws wi pl) m ∧ accT (scoT X Y ws wi pl) m ≤ 900 := by
  have a := accT_bd1 (t := scoT X Y ws wi pl) (M := 99) (m := m) fun c hc => scoT_bd h hp (by omega)
  have g := gameB_spec h
  have n := mul_bd3 (sizeB_iff.2 ⟨⟨g.x1, g.x3⟩, g.y1, g.y3⟩)
  rw [← Int.natCast_mul, Nat.mul_comm] at n
  omega
theorem game_nat {X Y : Int} {ws : List Int} {wi : List (List Int)} (h : gameB X Y ws wi = true) : ∃ x y : Nat, X = x ∧ Y = y ∧ (1 ≤ x ∧ x ≤ 3) ∧ (1 ≤ y ∧ y ≤ 3) ∧ ws.length = y * x ∧ wi.length = y * x ∧ y * x ≤ 9 := by
  have g := gameB_spec h
  have g1 := g.x1; have g2 := g.x3; have g3 := g.y1; have g4 := g.y3; have wl := g.wl; have il := g.il
  obtain ⟨x, rfl⟩ := Int.eq_ofNat_of_zero_le (by omega : 0 ≤ X)
  obtain ⟨y, rfl⟩ := Int.eq_ofNat_of_zero_le (by omega : 0 ≤ Y)
  have m := mul_bd3 (sizeB_iff.2 ⟨⟨g1, g2⟩, g3, g4⟩)
  rw [← Int.natCast_mul, Nat.mul_comm] at wl il m
  exact ⟨x, y, rfl, rfl, by omega, by omega, by omega, by omega, by omega⟩
theorem funL_at {ws : List Int} {wi : List (List Int)} {i : Nat} (hi : i < wi.length) : atZ (funL ws wi) (i : Int) = rowF (fun k => atZ (atZ wi (i : Int)) (k : Int) * atZ ws (i : Int)) 4 := by
  rw [atZ_nat (by simpa [funL] using hi)]
  simp [funL, gridF]
theorem funL_atZ {ws : List Int} {wi : List (List Int)} {t p : Int} (h0 : 0 ≤ t) (h1 : t < wi.length) (p0 : 0 ≤ p) (p1 : p < 4) : atZ (atZ (funL ws wi) t) p = atZ ws t * atZ (atZ wi t) p ∧ (atZ (funL ws wi) t).length = 4 := by
  obtain ⟨i, rfl⟩ := Int.eq_ofNat_of_zero_le h0
  obtain ⟨k, rfl⟩ := Int.eq_ofNat_of_zero_le p0
  rw [funL_at (by omega), rowF_atZ _ (by omega)]
  exact ⟨Int.mul_comm _ _, by simp⟩
@[simp] theorem funL_len (ws : List Int) (wi : List (List Int)) : (funL ws wi).length = wi.length := by simp [funL]
/-- the pairs that a play loses -/
def lostP (X Y : Nat) (ws : List Int) (wi : List (List Int)) (pl : List Int) (t : Nat) : Bool := decide (0 < atZ ws (t : Int)) && decide (winT X Y wi pl t = 0)
def lostL (X Y : Nat) (ws : List Int) (wi : List (List Int)) (pl : List Int) : List Int := usedL (Y * X) (lostP X Y ws wi pl)
theorem lostP_at {X Y : Nat} (ws : List Int) (wi : List (List Int)) (pl : List Int) {i k : Nat} (hk : k < Y) : lostP X Y ws wi pl (Y * i + k) = (decide (0 < atZ ws ((i : Int) * Y + k)) && decide (atZ (atZ wi ((i : Int) * Y + k)) (2 * atZ pl i + atZ pl ((X : Int) + k)) = 0)) := by
  unfold lostP
  rw [winT_at wi pl hk, pair_cast]
/-- the first best play -/
def playN (X Y : Nat) (ws : List Int) (wi : List (List Int)) (c : Nat) : Int := scoG X Y ws wi (bitsM (X + Y) c)
def bestC (X Y : Nat) (ws : List Int) (wi : List (List Int)) : Nat := bstT (playN X Y ws wi) (2 ^ (X + Y))
def bestG (X Y : Nat) (ws : List Int) (wi : List (List Int)) : List Int := bitsM (X + Y) (bestC X Y ws wi)
def valueG (X Y : Nat) (ws : List Int) (wi : List (List Int)) : Int := playN X Y ws wi (bestC X Y ws wi)
def valN (s : Nat → Int) : Nat → Int
  | 0 => -1
  | i + 1 => s (bstT s (i + 1))
theorem playN_bd {X Y : Nat} {ws : List Int} {wi : List (List Int)} (h : gameB X Y ws wi = true) (c : Nat) : 0 ≤ playN X Y ws wi c ∧ playN X Y ws wi c ≤ 900 :=
  scoN_bd h (by rw [← Int.natCast_add]; exact bitsM_bits _ _) (Nat.le_refl _)
theorem valN_yes {s : Nat → Int} {i : Nat} (h : valN s i < s i) (h0 : 0 ≤ s i) : bstT s (i + 1) = i ∧ valN s (i + 1) = s i := by
  have e : bstT s (i + 1) = i := bstT_yes (by
    cases i with
    | zero => exact .inl rfl
    | succ i => exact .inr h)
  exact ⟨e, by simp only [valN, e]⟩
theorem valN_no {s : Nat → Int} {i : Nat} (h : ¬ valN s i < s i) (h0 : 0 ≤ s i) : bstT s (i + 1) = bstT s i ∧ valN s (i + 1) = valN s i ∧ i ≠ 0 := by
  have hi : i ≠ 0 := by rintro rfl; simp only [valN] at h; omega
  obtain ⟨j, rfl⟩ := Nat.exists_eq_succ_of_ne_zero hi
  have e := bstT_no (s := s) (t := j + 1) (by omega) h
  exact ⟨e, by simp only [valN, Nat.succ_eq_add_one, e], hi⟩
/-- how many plays have a score -/
def cntV (X Y : Nat) (ws : List Int) (wi : List (List Int)) (v : Int) (i : Nat) : Nat := ((List.range i).countP fun c => decide (playN X Y ws wi c = v))
theorem cntV_succ (X Y : Nat) (ws : List Int) (wi : List (List Int)) (v : Int) (i : Nat) : cntV X Y ws wi v (i + 1) = if playN X Y ws wi i = v then cntV X Y ws wi v i + 1 else cntV X Y ws wi v i := by
  unfold cntV
  rw [List.range_succ, List.countP_append, List.countP_singleton]
  by_cases h : playN X Y ws wi i = v <;> simp [h]
theorem cntV_le (X Y : Nat) (ws : List Int) (wi : List (List Int)) (v : Int) (i : Nat) : cntV X Y ws wi v i ≤ i := by
  have := List.countP_le_length (l := List.range i) (p := fun c => decide (playN X Y ws wi c = v))
  simpa [cntV] using this
def countG (X Y : Nat) (ws : List Int) (wi : List (List Int)) : Nat := cntV X Y ws wi (valueG X Y ws wi) (2 ^ (X + Y))
def totG (ws : List Int) : Int := accT (fun t => atZ ws (t : Int)) ws.length
theorem accT_take (l : List Int) : ∀ {m : Nat}, m ≤ l.length → accT (fun t => atZ l (t : Int)) m = (l.take m).sum
  | 0, _ => by simp [accT]
  | m + 1, h => by
    have ih := accT_take l (m := m) (by omega)
    simp only [accT]
    rw [ih, atZ_nat (show m < l.length by omega), List.take_succ_eq_append_getElem (by omega), List.sum_append]
    simp
theorem totG_sum (ws : List Int) : totG ws = ws.sum := by
  unfold totG
  rw [accT_take ws (Nat.le_refl _), List.take_length]
theorem totG_64 {ws : List Int} (hl : ws.length ≤ 9) (hb : allB ws 0 99 = true) : sum64 ws = totG ws ∧ 0 ≤ totG ws ∧ totG ws ≤ 900 := by
  have := sum64_small (l := ws) (m := 99) (by omega) hb (by omega) (by omega)
  rw [totG_sum]
  omega
theorem totN_bd {ws : List Int} (hl : ws.length ≤ 9) (hb : allB ws 0 99 = true) {m : Nat} (hm : m ≤ ws.length) : 0 ≤ accT (fun t => atZ ws (t : Int)) m ∧ accT (fun t => atZ ws (t : Int)) m ≤ 900 := by
  have := accT_bd1 (t := fun t => atZ ws (t : Int)) (M := 99) (m := m) fun c hc => allB_at hb (by omega) (by omega)
  omega
/-- what is won for two questions and an answer of the first player -/
def repT (Y : Nat) (ws : List Int) (wi : List (List Int)) (fs : List Int) (y : Nat) (b : Int) (x : Nat) : Int := atZ ws ((x : Int) * Y + y) * atZ (atZ wi ((x : Int) * Y + y)) (2 * atZ fs (x : Int) + b)
def repS (X Y : Nat) (ws : List Int) (wi : List (List Int)) (fs : List Int) (b : Int) (y : Nat) : Int := accT (repT Y ws wi fs y b) X
def repA (X Y : Nat) (ws : List Int) (wi : List (List Int)) (fs : List Int) (y : Nat) : Int := if repS X Y ws wi fs 1 y > repS X Y ws wi fs 0 y then 1 else 0
def repM (X Y : Nat) (ws : List Int) (wi : List (List Int)) (fs : List Int) (y : Nat) : Int := if repS X Y ws wi fs 1 y > repS X Y ws wi fs 0 y then repS X Y ws wi fs 1 y else repS X Y ws wi fs 0 y
theorem repT_bd {X Y : Nat} {ws : List Int} {wi : List (List Int)} {fs : List Int} (h : gameB X Y ws wi = true) (hp : bitsB fs (X : Int) = true) {x y : Nat} (hx : x < X) (hy : y < Y) {b : Int} (hb : 0 ≤ b ∧ b ≤ 1) : 0 ≤ repT Y ws wi fs y b x ∧ repT Y ws wi fs y b x ≤ 99 := by
  have p := pair_ok h hx hy
  have f := bitsB_at hp (i := (x : Int)) (by omega) (by omega)
  have := mul01 ⟨p.w0, p.w1⟩ (p.bit (2 * atZ fs (x : Int) + b) (by omega) (by omega))
  unfold repT
  omega
theorem repN_bd {X Y : Nat} {ws : List Int} {wi : List (List Int)} {fs : List Int} (h : gameB X Y ws wi = true) (hp : bitsB fs (X : Int) = true) {y : Nat} (hy : y < Y) {b : Int} (hb : 0 ≤ b ∧ b ≤ 1) {m : Nat} (hm : m ≤ X) : 0 ≤ accT (repT Y ws wi fs y b) m ∧ accT (repT Y ws wi fs y b) m ≤ 300 := by
  have a := accT_bd1 (t := repT Y ws wi fs y b) (M := 99) (m := m) fun c hc => repT_bd h hp (by omega) hy hb
  have g := (gameB_spec h).x3
  omega
theorem repM_bd {X Y : Nat} {ws : List Int} {wi : List (List Int)} {fs : List Int} (h : gameB X Y ws wi = true) (hp : bitsB fs (X : Int) = true) {y : Nat} (hy : y < Y) : 0 ≤ repM X Y ws wi fs y ∧ repM X Y ws wi fs y ≤ 300 := by
  have a := repN_bd h hp hy (b := 0) (by omega) (Nat.le_refl X)
  have b := repN_bd h hp hy (b := 1) (by omega) (Nat.le_refl X)
  unfold repM repS
  split <;> omega
theorem repMN_bd {X Y : Nat} {ws : List Int} {wi : List (List Int)} {fs : List Int} (h : gameB X Y ws wi = true) (hp : bitsB fs (X : Int) = true) {m : Nat} (hm : m ≤ Y) : 0 ≤ accT (repM X Y ws wi fs) m ∧ accT (repM X Y ws wi fs) m ≤ 900 := by
  have a := accT_bd1 (t := repM X Y ws wi fs) (M := 300) (m := m) fun c hc => repM_bd h hp (by omega)
  have g := (gameB_spec h).y3
  omega

end Go.Proofs.Ytefbiejoikpkmaa

namespace Go.Proofs.Ytefbiejoikpkmaa
open Go.RowKit
set_option linter.unusedSectionVars false
variable [Glb]
/-! games: what is lost; all plays in another order -/
theorem pair_split {X Y t : Nat} (ht : t < Y * X) : t / Y < X ∧ t % Y < Y ∧ Y * (t / Y) + t % Y = t := by
  have hY : 0 < Y := by
    rcases Nat.eq_zero_or_pos Y with e | e
    · subst e; simp at ht
    · exact e
  exact ⟨by rw [Nat.div_lt_iff_lt_mul hY, Nat.mul_comm]; exact ht, Nat.mod_lt _ hY, Nat.div_add_mod t Y⟩
theorem sco_facts {X Y : Nat} {ws : List Int} {wi : List (List Int)} {pl : List Int} (h : gameB X Y ws wi = true) (hp : bitsB pl ((X : Int) + Y) = true) {t : Nat} (ht : t < Y * X) : (0 ≤ atZ ws (t : Int) ∧ atZ ws (t : Int) ≤ 99) ∧ (winT X Y wi pl t = 0 ∨ winT X Y wi pl t = 1) := by
  obtain ⟨hi, hk, e⟩ := pair_split ht
  have p := pair_ok h hi hk
  have f := flip4 hp hi hk
  have b := p.bit _ f.2.2.1 f.2.2.2
  have e1 := winT_at (X := X) wi pl (i := t / Y) hk
  have e2 := pair_cast Y (t / Y) (t % Y)
  rw [e] at e1 e2
  rw [e1, e2]
  exact ⟨⟨p.w0, p.w1⟩, by omega⟩
def lostS (ws : List Int) (l : List Int) : Int := (l.map fun t => atZ ws t).sum
theorem lostS_snoc (ws l : List Int) (t : Int) : lostS ws (l ++ [t]) = lostS ws l + atZ ws t := by simp [lostS]
theorem won_lost {X Y : Nat} {ws : List Int} {wi : List (List Int)} {pl : List Int} (h : gameB X Y ws wi = true) (hp : bitsB pl ((X : Int) + Y) = true) : ∀ {m : Nat}, m ≤ Y * X → accT (scoT X Y ws wi pl) m + lostS ws (usedL m (lostP X Y ws wi pl)) = accT (fun t => atZ ws (t : Int)) m
  | 0, _ => by simp [accT, usedL, lostS]
  | m + 1, hm => by
    have ih := won_lost h hp (m := m) (by omega)
    obtain ⟨⟨w0, w1⟩, hw⟩ := sco_facts h hp (t := m) (by omega)
    simp only [accT]
    rw [usedL_succ, ← ih]
    have es : scoT X Y ws wi pl m = atZ ws (m : Int) * winT X Y wi pl m := rfl
    rcases hw with hw | hw
    · rw [es, hw, Int.mul_zero]
      by_cases h0 : 0 < atZ ws (m : Int)
      · rw [if_pos (by simp [lostP, h0, hw]), lostS_snoc]; omega
      · rw [if_neg (by simp [lostP, h0])]; omega
    · rw [es, hw, Int.mul_one, if_neg (by simp [lostP, hw])]; omega
theorem total_lost {X Y : Nat} {ws : List Int} {wi : List (List Int)} {pl : List Int} (h : gameB X Y ws wi = true) (hp : bitsB pl ((X : Int) + Y) = true) : scoG X Y ws wi pl + lostS ws (lostL X Y ws wi pl) = totG ws := by
  obtain ⟨x, y, e1, e2, hx, hy, wl, il, h9⟩ := game_nat h
  obtain rfl : X = x := by omega
  obtain rfl : Y = y := by omega
  have := won_lost h hp (Nat.le_refl (Y * X))
  unfold scoG lostL totG
  rw [wl]
  exact this
theorem lostL_mem {X Y : Nat} {ws : List Int} {wi : List (List Int)} {pl : List Int} {t : Int} (ht : t ∈ lostL X Y ws wi pl) : 0 ≤ t ∧ t < ((Y * X : Nat) : Int) ∧ 0 < atZ ws t := by
  unfold lostL usedL at ht
  obtain ⟨i, hi, rfl⟩ := List.mem_map.1 ht
  rw [List.mem_filter] at hi
  have h1 := List.mem_range.1 hi.1
  have h2 := hi.2
  simp only [lostP, Bool.and_eq_true, decide_eq_true_eq] at h2
  exact ⟨by omega, by omega, h2.1⟩
theorem lostS_pos {ws : List Int} : ∀ {l : List Int}, (∀ t ∈ l, 0 < atZ ws t) → 0 ≤ lostS ws l ∧ (lostS ws l = 0 → l = [])
  | [], _ => by simp [lostS]
  | t :: l, h => by
    have a := h t (List.mem_cons_self ..)
    have b := lostS_pos (ws := ws) (l := l) fun x hx => h x (List.mem_cons_of_mem _ hx)
    have e : lostS ws (t :: l) = atZ ws t + lostS ws l := by simp [lostS]
    rw [e]
    exact ⟨by omega, fun h0 => by omega⟩
theorem perfect_iff {X Y : Nat} {ws : List Int} {wi : List (List Int)} (h : gameB X Y ws wi = true) : decide (lostL X Y ws wi (bestG X Y ws wi) = []) = decide (totG ws ≤ valueG X Y ws wi) ∧ (lostL X Y ws wi (bestG X Y ws wi) = [] ↔ valueG X Y ws wi = totG ws) := by
  have hp : bitsB (bestG X Y ws wi) ((X : Int) + Y) = true := by rw [← Int.natCast_add]; exact bitsM_bits _ _
  have t := total_lost h hp
  have e : scoG X Y ws wi (bestG X Y ws wi) = valueG X Y ws wi := rfl
  rw [e] at t
  have p := lostS_pos (ws := ws) (l := lostL X Y ws wi (bestG X Y ws wi)) fun t ht => (lostL_mem ht).2.2
  have k : lostL X Y ws wi (bestG X Y ws wi) = [] ↔ valueG X Y ws wi = totG ws := by
    constructor
    · intro h0
      rw [h0] at t
      simp only [lostS, List.map_nil, List.sum_nil] at t
      omega
    · intro h0
      exact p.2 (by omega)
  refine ⟨?_, k⟩
  by_cases h0 : valueG X Y ws wi = totG ws
  · rw [decide_eq_true (k.2 h0), decide_eq_true (by omega)]
  · rw [decide_eq_false (fun h1 => h0 (k.1 h1)), decide_eq_false (by omega)]
/-- partial sums of what is lost -/
theorem accT_map (f : Int → Int) (l : List Int) : ∀ {m : Nat}, m ≤ l.length → accT (fun k => f (atZ l (k : Int))) m = ((l.take m).map f).sum
  | 0, _ => by simp [accT]
  | m + 1, h => by
    have ih := accT_map f l (m := m) (by omega)
    simp only [accT]
    rw [ih, atZ_nat (show m < l.length by omega), List.take_succ_eq_append_getElem (by omega), List.map_append, List.sum_append]
    simp
theorem lostS_acc (ws l : List Int) : accT (fun k => atZ ws (atZ l (k : Int))) l.length = lostS ws l := by
  rw [accT_map (fun t => atZ ws t) l (Nat.le_refl _), List.take_length]; rfl
/-- all plays, the first answer as the least digit -/
def bitsR (n c : Nat) : List Int := rowF (fun i => (bitN c i : Int)) n
def rplaysF (n : Nat) : List (List Int) := (List.range (2 ^ n)).map (bitsR n)
theorem rplays_snoc (n c : Nat) : (List.range (c + 1)).map (bitsR n) = (List.range c).map (bitsR n) ++ [bitsR n c] := by simp [List.range_succ]
theorem rplays_isPerm : ∀ n : Fin 7, (rplaysF n.val).isPerm (playsF n.val) = true := by decide +kernel
theorem rplays_perm {n : Nat} (h : n ≤ 6) : (rplaysF n).Perm (playsF n) := List.isPerm_iff.1 (rplays_isPerm ⟨n, by omega⟩)
theorem playsF_mem {n : Nat} {p : List Int} (h : p ∈ playsF n) : ∃ c, c < 2 ^ n ∧ p = bitsM n c := by
  unfold playsF at h
  obtain ⟨c, hc, rfl⟩ := List.mem_map.1 h
  exact ⟨c, List.mem_range.1 hc, rfl⟩
theorem rplays_at {n i : Nat} (hn : n ≤ 6) (h : i < 2 ^ n) : ∃ c, c < 2 ^ n ∧ atZ (rplaysF n) (i : Int) = bitsM n c := by
  have hl : i < (rplaysF n).length := by simpa [rplaysF] using h
  rw [atZ_nat hl]
  exact playsF_mem ((rplays_perm hn).mem_iff.1 (List.getElem_mem hl))
theorem playN_le {X Y : Nat} (ws : List Int) (wi : List (List Int)) {c : Nat} (h : c < 2 ^ (X + Y)) : playN X Y ws wi c ≤ valueG X Y ws wi := bstT_max _ h
def cntR (X Y : Nat) (ws : List Int) (wi : List (List Int)) (v : Int) (i : Nat) : Nat := ((rplaysF (X + Y)).take i).countP fun p => decide (scoG X Y ws wi p = v)
theorem cntR_succ (X Y : Nat) (ws : List Int) (wi : List (List Int)) (v : Int) {i : Nat} (h : i < 2 ^ (X + Y)) : cntR X Y ws wi v (i + 1) = if scoG X Y ws wi (atZ (rplaysF (X + Y)) (i : Int)) = v then cntR X Y ws wi v i + 1 else cntR X Y ws wi v i := by
  have hl : i < (rplaysF (X + Y)).length := by simpa [rplaysF] using h
  unfold cntR
  rw [List.take_succ_eq_append_getElem hl, List.countP_append, List.countP_singleton, atZ_nat hl]
  by_cases h : scoG X Y ws wi (rplaysF (X + Y))[i] = v <;> simp [h]
theorem cntR_le (X Y : Nat) (ws : List Int) (wi : List (List Int)) (v : Int) (i : Nat) : cntR X Y ws wi v i ≤ i := by
  have := List.countP_le_length (l := (rplaysF (X + Y)).take i) (p := fun p => decide (scoG X Y ws wi p = v))
  simp only [List.length_take] at this
  unfold cntR
  omega
theorem cntR_all {X Y : Nat} (ws : List Int) (wi : List (List Int)) (h : X + Y ≤ 6) : cntR X Y ws wi (valueG X Y ws wi) (2 ^ (X + Y)) = countG X Y ws wi := by
  have hl : (rplaysF (X + Y)).length = 2 ^ (X + Y) := by simp [rplaysF]
  unfold cntR countG cntV
  rw [← hl, List.take_length, (rplays_perm h).countP_eq]
  rw [hl]
  unfold playsF
  rw [List.countP_map]
  rfl
/-- replies -/
theorem reply_score {X Y : Nat} {ws : List Int} {wi : List (List Int)} {fs : List Int} (hf : bitsB fs (X : Int) = true) : bitsB (fs ++ rowF (repA X Y ws wi fs) Y) ((X : Int) + Y) = true := by
  have hl := bitsB_len hf
  unfold bitsB allB at hf ⊢
  simp only [Bool.and_eq_true, decide_eq_true_eq] at hf ⊢
  refine ⟨by simp; omega, ?_⟩
  rw [List.all_append, hf.2, Bool.true_and, List.all_eq_true]
  intro v hv
  unfold rowF at hv
  obtain ⟨k, _, rfl⟩ := List.mem_map.1 hv
  refine inB_iff.2 ?_
  unfold repA
  split <;> omega

end Go.Proofs.Ytefbiejoikpkmaa

namespace Go.Proofs.Ytefbiejoikpkmaa
open Go.RowKit
set_option linter.unusedSectionVars false
variable [Glb]
open Go
/-! orders -/
def orderB (l : List Int) (n : Int) : Bool := ((cntL n.toNat).all fun i => l.contains i) && decide ((l.length : Int) = n)
theorem perm_of_all : ∀ {n : Nat} {l : List Int}, l.length = n → (∀ i : Nat, i < n → (i : Int) ∈ l) → l.Perm (cntL n)
  | 0, l, h, _ => by
    have : l = [] := List.length_eq_zero_iff.1 h
    subst this; exact .refl _
  | n + 1, l, h, hm => by
    have hn := hm n (by omega)
    have h1 := List.perm_cons_erase hn
    have hl : (l.erase (n : Int)).length = n := by rw [List.length_erase_of_mem hn]; omega
    have ih := perm_of_all hl fun i hi => (List.mem_erase_of_ne (by omega)).2 (hm i (by omega))
    rw [cntL_snoc]
    exact h1.trans ((ih.cons _).trans (List.perm_append_comm (l₁ := [(n : Int)]) (l₂ := cntL n)))
theorem cntL_has {n i : Nat} (h : i < n) : (i : Int) ∈ cntL n := by unfold cntL; exact List.mem_map.2 ⟨i, List.mem_range.2 h, rfl⟩
theorem orderB_perm {l : List Int} {n : Int} (hn : 0 ≤ n) : orderB l n = true ↔ l.Perm (cntL n.toNat) := by
  simp only [orderB, Bool.and_eq_true, decide_eq_true_eq, List.all_eq_true, List.contains_iff_mem]
  constructor
  · rintro ⟨h1, h2⟩
    exact perm_of_all (by omega) fun i hi => h1 _ (cntL_has hi)
  · intro h
    have := h.length_eq
    rw [cntL_len] at this
    exact ⟨fun i hi => h.mem_iff.2 hi, by omega⟩
theorem orderB_mem {l : List Int} {n : Int} (hn : 0 ≤ n) (h : orderB l n = true) {x : Int} (hx : x ∈ l) : 0 ≤ x ∧ x < n := by
  have := cntL_mem (((orderB_perm hn).1 h).mem_iff.1 hx)
  omega
theorem orderB_len {l : List Int} {n : Int} (h : orderB l n = true) : (l.length : Int) = n := by
  simp only [orderB, Bool.and_eq_true, decide_eq_true_eq] at h; exact h.2
theorem eq_of_perm_le : ∀ {a b : List Int}, a.Perm b → a.Pairwise (fun x y => decide (x ≤ y) = true) → b.Pairwise (fun x y => decide (x ≤ y) = true) → a = b
  | [], b, h, _, _ => by rw [List.nil_perm] at h; exact h.symm
  | x :: a, [], h, _, _ => by have := h.length_eq; simp at this
  | x :: a, y :: b, h, h1, h2 => by
    rw [List.pairwise_cons] at h1 h2
    have e : x = y := by
      have hx : x ∈ y :: b := h.mem_iff.1 (List.mem_cons_self ..)
      have hy : y ∈ x :: a := h.mem_iff.2 (List.mem_cons_self ..)
      rcases List.mem_cons.1 hx with e | hx
      · exact e
      · rcases List.mem_cons.1 hy with e | hy
        · exact e.symm
        · have g1 := h2.1 x hx
          have g2 := h1.1 y hy
          simp only [decide_eq_true_eq] at g1 g2
          omega
    subst e
    rw [eq_of_perm_le ((List.perm_cons x).1 h) h1.2 h2.2]
theorem cntL_sorted (n : Nat) : (cntL n).Pairwise (fun x y => decide (x ≤ y) = true) := by
  unfold cntL
  rw [List.pairwise_map]
  exact List.pairwise_lt_range.imp fun h => by simp only [decide_eq_true_eq]; omega
theorem sorted_le (l : List Int) : (l.mergeSort fun x y => decide (x ≤ y)).Pairwise (fun x y => decide (x ≤ y) = true) :=
  List.pairwise_mergeSort (fun a b c h1 h2 => by simp only [decide_eq_true_eq] at *; omega) (fun a b => by simp only [Bool.or_eq_true, decide_eq_true_eq]; omega) l
theorem order_sort {l : List Int} {n : Int} (hn : 0 ≤ n) : decide ((l.mergeSort fun x y => decide (x ≤ y)) = cntL n.toNat) = orderB l n := by
  rw [Bool.eq_iff_iff, decide_eq_true_eq, orderB_perm hn]
  constructor
  · intro h
    have := List.mergeSort_perm l fun x y => decide (x ≤ y)
    rw [h] at this; exact this.symm
  · intro h
    exact eq_of_perm_le ((List.mergeSort_perm l _).trans h) (sorted_le l) (cntL_sorted _)
def askB (X Y : Int) (ws : List Int) (wi : List (List Int)) (fs ss : List Int) : Bool := gameB X Y ws wi && (orderB fs X && orderB ss Y)
def askGW (Y : Int) (ws fs ss : List Int) : List Int := pairsF (askW Y ws) fs ss
def askGR (Y : Int) (wi : List (List Int)) (fs ss : List Int) : List (List Int) := pairsF (askO Y wi) fs ss
theorem askGW_len (X Y : Int) (ws : List Int) (wi : List (List Int)) (fs ss : List Int) : (whenA (askB X Y ws wi fs ss) (askGW Y ws fs ss)).length ≤ 9 := by
  cases h : askB X Y ws wi fs ss with
  | false => simp [whenA]
  | true =>
    simp only [askB, Bool.and_eq_true] at h
    have hg := gameB_spec h.1
    have g2 := hg.x3; have g4 := hg.y3
    have l1 := orderB_len h.2.1
    have l2 := orderB_len h.2.2
    simp only [whenA, if_pos, askGW, pairsF_len]
    exact Nat.le_trans (Nat.mul_le_mul (by omega : _ ≤ 3) (by omega : _ ≤ 3)) (by decide)
theorem askGR_cnt (X Y : Int) (ws : List Int) (wi : List (List Int)) (fs ss : List Int) : cnt (whenL (askB X Y ws wi fs ss) (askGR Y wi fs ss)) ≤ 36 := by
  cases h : askB X Y ws wi fs ss with
  | false => simp [whenL, cnt]
  | true =>
    simp only [askB, Bool.and_eq_true] at h
    have hg := gameB_spec h.1
    have g1 := hg.x1; have g2 := hg.x3; have g3 := hg.y1; have g4 := hg.y3
    have l1 := orderB_len h.2.1
    have l2 := orderB_len h.2.2
    have hs := ask_same h.1 (fs := fs) (ss := ss) (fun x hx => orderB_mem (by omega) h.2.1 hx) (fun x hx => orderB_mem (by omega) h.2.2 hx) 0
    simp only [whenL, if_pos, askGR, ← hs]
    rw [cnt_pairs (askR_len X Y wi _)]
    have := Nat.mul_le_mul (by omega : fs.length ≤ 3) (by omega : ss.length ≤ 3)
    omega

end Go.Proofs.Ytefbiejoikpkmaa

namespace Go.Proofs.Ytefbiejoikpkmaa
open Go.RowKit
set_option linter.unusedSectionVars false
variable [Glb]
/-! games: double sums, replies, other questions -/
theorem accT_split (t : Nat → Int) (m : Nat) : ∀ k, accT t (m + k) = accT t m + accT (fun j => t (m + j)) k
  | 0 => by simp [accT]
  | k + 1 => by
    have := accT_split t m k
    rw [← Nat.add_assoc]
    simp only [accT, this]
    omega
theorem accT_mul (t : Nat → Int) (Y : Nat) : ∀ X, accT t (Y * X) = accT (fun x => accT (fun y => t (Y * x + y)) Y) X
  | 0 => by simp [accT]
  | X + 1 => by
    rw [Nat.mul_succ, accT_split, accT_mul t Y X]
    rfl
theorem accT_zero {t : Nat → Int} : ∀ {m : Nat}, (∀ c, c < m → t c = 0) → accT t m = 0
  | 0, _ => rfl
  | m + 1, h => by
    have a := accT_zero (t := t) (m := m) fun c hc => h c (by omega)
    have b := h m (by omega)
    simp only [accT, a, b]
    rfl
theorem accT_swap (g : Nat → Nat → Int) (n : Nat) : ∀ m, accT (fun x => accT (fun y => g x y) n) m = accT (fun y => accT (fun x => g x y) m) n
  | 0 => by simp only [accT]; exact (accT_zero fun _ _ => rfl).symm
  | m + 1 => by
    have := accT_swap g n m
    simp only [accT, this, ← accT_add]
/-- the score as a double sum -/
theorem scoG_sum (X Y : Nat) (ws : List Int) (wi : List (List Int)) (pl : List Int) : scoG X Y ws wi pl = accT (fun x => accT (fun y => atZ ws ((x : Int) * Y + y) * atZ (atZ wi ((x : Int) * Y + y)) (2 * atZ pl (x : Int) + atZ pl ((X : Int) + y))) Y) X := by
  unfold scoG
  rw [accT_mul]
  exact accT_congr fun x _ => accT_congr fun y hy => scoT_at ws wi pl hy
theorem atZ_left {l m : List Int} {i : Nat} (h : i < l.length) : atZ (l ++ m) (i : Int) = atZ l (i : Int) := by
  rw [atZ_nat (by simp; omega), atZ_nat h, List.getElem_append_left h]
theorem atZ_right {l m : List Int} {n i : Nat} (hn : l.length = n) (h : i < m.length) : atZ (l ++ m) ((n : Int) + i) = atZ m (i : Int) := by
  rw [← Int.natCast_add, atZ_nat (by simp; omega), atZ_nat h, List.getElem_append_right (by omega)]
  congr 1
  omega
theorem reply_sum {X Y : Nat} {ws : List Int} {wi : List (List Int)} {fs : List Int} (hf : bitsB fs (X : Int) = true) : scoG X Y ws wi (fs ++ rowF (repA X Y ws wi fs) Y) = accT (repM X Y ws wi fs) Y := by
  have hl := bitsB_len hf
  rw [scoG_sum, accT_swap]
  refine accT_congr fun y hy => ?_
  have e : accT (fun x : Nat => atZ ws ((x : Int) * Y + y) * atZ (atZ wi ((x : Int) * Y + y)) (2 * atZ (fs ++ rowF (repA X Y ws wi fs) Y) (x : Int) + atZ (fs ++ rowF (repA X Y ws wi fs) Y) ((X : Int) + y))) X = repS X Y ws wi fs (repA X Y ws wi fs y) y := by
    unfold repS
    refine accT_congr fun x hx => ?_
    rw [atZ_left (by omega), atZ_right (n := X) (by omega) (by simpa using hy), rowF_atZ _ hy]
    rfl
  rw [e]
  unfold repM repA
  split <;> rfl
/-- all lists of 0 and 1 are plays -/
theorem bitN_high {n c b : Nat} (hb : b ≤ 1) (hc : c < 2 ^ n) : bitN (b * 2 ^ n + c) n = b := by
  unfold bitN
  rw [Nat.mul_comm, Nat.mul_add_div (Nat.two_pow_pos n), Nat.div_eq_of_lt hc]
  omega
theorem bitN_low {n c b e : Nat} (he : e < n) : bitN (b * 2 ^ n + c) e = bitN c e := by
  unfold bitN
  obtain ⟨k, rfl⟩ : ∃ k, n = e + 1 + k := ⟨n - (e + 1), by omega⟩
  have e1 : b * 2 ^ (e + 1 + k) + c = c + 2 ^ e * (2 * (b * 2 ^ k)) := by
    rw [Nat.pow_add, Nat.pow_add, Nat.pow_one, Nat.add_comm]
    congr 1
    rw [← Nat.mul_assoc, ← Nat.mul_assoc, Nat.mul_comm b]
    rw [Nat.mul_assoc, Nat.mul_comm 2 (2 ^ k), ← Nat.mul_assoc]
    rw [Nat.mul_assoc, Nat.mul_assoc]
    congr 1
    rw [← Nat.mul_assoc, Nat.mul_comm]
  rw [e1, Nat.add_mul_div_left _ _ (Nat.two_pow_pos e), Nat.add_mul_mod_self_left]
theorem bits_play : ∀ {n : Nat} {p : List Int}, bitsB p (n : Int) = true → ∃ c, c < 2 ^ n ∧ p = bitsM n c
  | 0, p, h => by
    have := bitsB_len h
    have e : p = [] := List.eq_nil_of_length_eq_zero (by omega)
    exact ⟨0, by decide, by rw [e]; rfl⟩
  | n + 1, [], h => by have := bitsB_len h; simp at this; omega
  | n + 1, b :: p, h => by
    have hl := bitsB_len h
    unfold bitsB allB at h
    simp only [Bool.and_eq_true, decide_eq_true_eq, List.all_cons] at h
    have hb := inB_iff.1 h.2.1
    obtain ⟨c, hc, e⟩ := bits_play (n := n) (p := p) (by simp only [bitsB, allB, Bool.and_eq_true, decide_eq_true_eq]; exact ⟨by simp at hl; omega, h.2.2⟩)
    obtain ⟨b, rfl⟩ := Int.eq_ofNat_of_zero_le hb.1
    have hb1 : b ≤ 1 := by omega
    refine ⟨b * 2 ^ n + c, ?_, ?_⟩
    · rw [Nat.pow_succ]
      have : b * 2 ^ n ≤ 1 * 2 ^ n := Nat.mul_le_mul_right _ hb1
      omega
    · rw [e]
      unfold bitsM rowF
      rw [List.range_succ_eq_map, List.map_cons, List.map_map]
      congr 1
      · rw [show n + 1 - 1 - 0 = n by omega, bitN_high hb1 hc]
      · refine List.map_congr_left fun i hi => ?_
        have hi := List.mem_range.1 hi
        simp only [Function.comp]
        rw [show n + 1 - 1 - (i + 1) = n - 1 - i by omega, bitN_low (by omega)]
theorem value_le {X Y : Nat} {ws : List Int} {wi : List (List Int)} {p : List Int} (hp : bitsB p ((X : Int) + Y) = true) : scoG X Y ws wi p ≤ valueG X Y ws wi := by
  rw [← Int.natCast_add] at hp
  obtain ⟨c, hc, rfl⟩ := bits_play hp
  exact playN_le ws wi hc
theorem value_at (X Y : Nat) (ws : List Int) (wi : List (List Int)) : ∃ p, bitsB p ((X : Int) + Y) = true ∧ scoG X Y ws wi p = valueG X Y ws wi :=
  ⟨bestG X Y ws wi, by rw [← Int.natCast_add]; exact bitsM_bits _ _, rfl⟩

end Go.Proofs.Ytefbiejoikpkmaa

namespace Go.Proofs.Ytefbiejoikpkmaa
open Go.RowKit
set_option linter.unusedSectionVars false
variable [Glb]
/-! trimmed games -/
theorem pairsF_size {α : Type} (h : Int → Int → α) (m : List Int) : ∀ l : List Int, (pairsF h l m).length = l.length * m.length
  | [] => by simp [pairsF]
  | a :: l => by
    have e : pairsF h (a :: l) m = m.map (fun y => h a y) ++ pairsF h l m := rfl
    rw [e, List.length_append, List.length_map, pairsF_size h m l, List.length_cons, Nat.add_mul, Nat.one_mul, Nat.add_comm]
theorem pairsF_at {α : Type} [Inhabited α] (h : Int → Int → α) (m : List Int) : ∀ {l : List Int} {i k : Nat}, i < l.length → k < m.length → atZ (pairsF h l m) ((i : Int) * m.length + k) = h (atZ l i) (atZ m k)
  | [], i, k, hi, _ => absurd hi (Nat.not_lt_zero _)
  | a :: l, 0, k, _, hk => by
    have e : pairsF h (a :: l) m = m.map (fun y => h a y) ++ pairsF h l m := rfl
    have e2 : ((0 : Nat) : Int) * m.length + k = ((k : Nat) : Int) := by simp
    rw [e2, atZ_nat (by rw [pairsF_size, List.length_cons, Nat.add_mul]; omega), atZ_nat (show 0 < (a :: l).length by simp), atZ_nat hk]
    simp only [e]
    rw [List.getElem_append_left (by simpa using hk)]
    simp
  | a :: l, i + 1, k, hi, hk => by
    have e : pairsF h (a :: l) m = m.map (fun y => h a y) ++ pairsF h l m := rfl
    have hi2 : i < l.length := by simpa using hi
    have ih := pairsF_at h m (l := l) (i := i) (k := k) hi2 hk
    have lt : i * m.length + k < l.length * m.length := by
      have : (i + 1) * m.length ≤ l.length * m.length := Nat.mul_le_mul_right _ (by omega)
      rw [Nat.add_mul, Nat.one_mul] at this
      omega
    have e2 : ((i + 1 : Nat) : Int) * m.length + k = ((m.length + (i * m.length + k) : Nat) : Int) := by
      rw [Int.natCast_add, Int.natCast_add, Int.natCast_add, Int.natCast_mul, Int.add_mul]
      simp only [Int.natCast_one, Int.one_mul]
      omega
    have e3 : (i : Int) * m.length + k = ((i * m.length + k : Nat) : Int) := by rw [Int.natCast_add, Int.natCast_mul]
    rw [e3, atZ_nat (by rw [pairsF_size]; exact lt)] at ih
    rw [e2, atZ_nat (by rw [pairsF_size, List.length_cons, Nat.add_mul]; omega), atZ_nat hi, atZ_nat hk]
    rw [atZ_nat hi2, atZ_nat hk] at ih
    simp only [e]
    rw [List.getElem_append_right (by simp)]
    simp only [List.length_map, Nat.add_sub_cancel_left, List.getElem_cons_succ]
    exact ih
theorem used_sum (P : Nat → Bool) (f : Int → Int) (n : Nat) : accT (fun i => f (atZ (usedL n P) (i : Int))) (usedL n P).length = accT (fun x => if P x = true then f (x : Int) else 0) n := by
  rw [accT_map f (usedL n P) (Nat.le_refl _), List.take_length]
  induction n with
  | zero => simp [usedL, accT]
  | succ n ih =>
    rw [usedL_succ]
    simp only [accT, ← ih]
    by_cases h : P n = true
    · simp [h]
    · simp [h]
theorem used_rank (P : Nat → Bool) : ∀ {n i : Nat}, i < (usedL n P).length → ∃ x, x < n ∧ P x = true ∧ atZ (usedL n P) (i : Int) = (x : Int) ∧ (usedL x P).length = i
  | 0, i, h => by simp [usedL] at h
  | n + 1, i, h => by
    have e := usedL_succ n P
    by_cases hP : P n = true
    · rw [if_pos hP] at e
      by_cases hi : i < (usedL n P).length
      · obtain ⟨x, h1, h2, h3, h4⟩ := used_rank P hi
        exact ⟨x, by omega, h2, by rw [e, atZ_left hi]; exact h3, h4⟩
      · have hi2 : i = (usedL n P).length := by rw [e] at h; simp at h; omega
        refine ⟨n, by omega, hP, ?_, hi2.symm⟩
        rw [e, hi2]
        have := atZ_right (l := usedL n P) (m := [(n : Int)]) (n := (usedL n P).length) (i := 0) rfl (by simp)
        have e9 : atZ [(n : Int)] ((0 : Nat) : Int) = (n : Int) := rfl
        rw [e9] at this
        simpa using this
    · rw [if_neg hP] at e
      obtain ⟨x, h1, h2, h3, h4⟩ := used_rank P (n := n) (i := i) (by rw [← e]; exact h)
      exact ⟨x, by omega, h2, by rw [e]; exact h3, h4⟩
/-- what a play says to some questions -/
def restr (fs ss : List Int) (X : Nat) (q : List Int) : List Int := fs.map (fun x => atZ q x) ++ ss.map (fun y => atZ q ((X : Int) + y))
theorem atZ_map {f : Int → Int} {l : List Int} {i : Nat} (h : i < l.length) : atZ (l.map f) (i : Int) = f (atZ l (i : Int)) := by
  rw [atZ_nat (by simpa using h), atZ_nat h]; simp
theorem restr_score {X Y : Nat} {ws : List Int} {wi : List (List Int)} (P Q : Nat → Bool) (q : List Int) (hz : ∀ x y, x < X → y < Y → ¬ (P x = true ∧ Q y = true) → atZ ws ((x : Int) * Y + y) = 0) :
    scoG (usedL X P).length (usedL Y Q).length (pairsF (askW Y ws) (usedL X P) (usedL Y Q)) (pairsF (askO Y wi) (usedL X P) (usedL Y Q)) (restr (usedL X P) (usedL Y Q) X q) = scoG X Y ws wi q := by
  rw [scoG_sum, scoG_sum]
  let G : Int → Int → Int := fun x y => atZ ws (x * Y + y) * atZ (atZ wi (x * Y + y)) (2 * atZ q x + atZ q ((X : Int) + y))
  have e1 : accT (fun x : Nat => accT (fun y : Nat => atZ (pairsF (askW Y ws) (usedL X P) (usedL Y Q)) ((x : Int) * (usedL Y Q).length + y) * atZ (atZ (pairsF (askO Y wi) (usedL X P) (usedL Y Q)) ((x : Int) * (usedL Y Q).length + y)) (2 * atZ (restr (usedL X P) (usedL Y Q) X q) (x : Int) + atZ (restr (usedL X P) (usedL Y Q) X q) (((usedL X P).length : Int) + y))) (usedL Y Q).length) (usedL X P).length
      = accT (fun i : Nat => accT (fun k : Nat => G (atZ (usedL X P) (i : Int)) (atZ (usedL Y Q) (k : Int))) (usedL Y Q).length) (usedL X P).length := by
    refine accT_congr fun i hi => accT_congr fun k hk => ?_
    rw [pairsF_at (askW Y ws) (usedL Y Q) hi hk, pairsF_at (askO Y wi) (usedL Y Q) hi hk]
    unfold restr
    rw [atZ_left (by simpa using hi), atZ_right (n := (usedL X P).length) (by simp) (by simpa using hk), atZ_map hi, atZ_map hk]
    rfl
  rw [e1]
  have e2 : ∀ i, i < (usedL X P).length → accT (fun k : Nat => G (atZ (usedL X P) (i : Int)) (atZ (usedL Y Q) (k : Int))) (usedL Y Q).length = accT (fun y => if Q y = true then G (atZ (usedL X P) (i : Int)) (y : Int) else 0) Y := fun i _ => used_sum Q (fun z => G (atZ (usedL X P) (i : Int)) z) Y
  rw [accT_congr e2, used_sum P (fun z => accT (fun y => if Q y = true then G z (y : Int) else 0) Y) X]
  refine accT_congr fun x hx => ?_
  by_cases hP : P x = true
  · rw [if_pos hP]
    refine accT_congr fun y hy => ?_
    by_cases hQ : Q y = true
    · rw [if_pos hQ]
    · rw [if_neg hQ, hz x y hx hy (fun h => hQ h.2), Int.zero_mul]
  · rw [if_neg hP]
    refine (accT_zero fun y hy => ?_).symm
    rw [hz x y hx hy (fun h => hP h.1), Int.zero_mul]
theorem restr_bits {X Y : Nat} {P Q : Nat → Bool} {q : List Int} (hq : bitsB q ((X : Int) + Y) = true) : bitsB (restr (usedL X P) (usedL Y Q) X q) (((usedL X P).length : Int) + (usedL Y Q).length) = true := by
  unfold bitsB allB
  rw [Bool.and_eq_true, decide_eq_true_eq, List.all_eq_true]
  refine ⟨by simp [restr], fun v hv => ?_⟩
  unfold restr at hv
  rcases List.mem_append.1 hv with hv | hv
  · obtain ⟨x, hx, rfl⟩ := List.mem_map.1 hv
    have := usedL_mem hx
    exact inB_iff.2 (bitsB_at hq (by omega) (by omega))
  · obtain ⟨y, hy, rfl⟩ := List.mem_map.1 hv
    have := usedL_mem hy
    exact inB_iff.2 (bitsB_at hq (by omega) (by omega))
/-- a play that says so -/
def extd (P Q : Nat → Bool) (X Y : Nat) (p : List Int) : List Int := rowF (fun x => if P x = true then atZ p ((usedL x P).length : Int) else 0) X ++ rowF (fun y => if Q y = true then atZ p (((usedL X P).length : Int) + (usedL y Q).length) else 0) Y
theorem used_mono (P : Nat → Bool) {x n : Nat} (hx : x < n) (hP : P x = true) : (usedL x P).length < (usedL n P).length := by
  induction n with
  | zero => omega
  | succ n ih =>
    rw [usedL_succ]
    by_cases e : x = n
    · subst e; rw [if_pos hP]; simp
    · have := ih (by omega)
      split <;> simp <;> omega
theorem extd_bits {X Y : Nat} {P Q : Nat → Bool} {p : List Int} (hp : bitsB p (((usedL X P).length : Int) + (usedL Y Q).length) = true) : bitsB (extd P Q X Y p) ((X : Int) + Y) = true := by
  unfold bitsB allB
  rw [Bool.and_eq_true, decide_eq_true_eq, List.all_eq_true]
  refine ⟨by simp [extd], fun v hv => ?_⟩
  unfold extd rowF at hv
  rcases List.mem_append.1 hv with hv | hv
  · obtain ⟨x, hx, rfl⟩ := List.mem_map.1 hv
    have hx := List.mem_range.1 hx
    split
    · rename_i h
      have := used_mono P hx h
      exact inB_iff.2 (bitsB_at hp (by omega) (by omega))
    · decide
  · obtain ⟨y, hy, rfl⟩ := List.mem_map.1 hv
    have hy := List.mem_range.1 hy
    split
    · rename_i h
      have := used_mono Q hy h
      exact inB_iff.2 (bitsB_at hp (by omega) (by omega))
    · decide
theorem restr_extd {X Y : Nat} {P Q : Nat → Bool} {p : List Int} (hp : bitsB p (((usedL X P).length : Int) + (usedL Y Q).length) = true) : restr (usedL X P) (usedL Y Q) X (extd P Q X Y p) = p := by
  have hl := bitsB_len hp
  have key : ∀ j : Nat, j < p.length → atZ (restr (usedL X P) (usedL Y Q) X (extd P Q X Y p)) (j : Int) = atZ p (j : Int) := fun j hj => by
    by_cases h1 : j < (usedL X P).length
    · obtain ⟨x, hx, hP, e, r⟩ := used_rank P h1
      unfold restr
      rw [atZ_left (by simpa using h1), atZ_map h1, e]
      unfold extd
      rw [atZ_left (by simpa using hx), rowF_atZ _ hx, if_pos hP, r]
    · obtain ⟨k, rfl⟩ : ∃ k, j = (usedL X P).length + k := ⟨j - (usedL X P).length, by omega⟩
      have h2 : k < (usedL Y Q).length := by omega
      obtain ⟨y, hy, hQ, e, r⟩ := used_rank Q h2
      unfold restr
      rw [Int.natCast_add, atZ_right (n := (usedL X P).length) (by simp) (by simpa using h2), atZ_map h2, e]
      unfold extd
      rw [atZ_right (n := X) (by simp) (by simpa using hy), rowF_atZ _ hy, if_pos hQ, r]
  have hlen : (restr (usedL X P) (usedL Y Q) X (extd P Q X Y p)).length = p.length := by simp [restr]; omega
  refine List.ext_getElem hlen fun j h1 h2 => ?_
  have := key j h2
  rw [atZ_nat h1, atZ_nat h2] at this
  exact this
theorem value_part {X Y : Nat} {ws : List Int} {wi : List (List Int)} (P Q : Nat → Bool) (hz : ∀ x y, x < X → y < Y → ¬ (P x = true ∧ Q y = true) → atZ ws ((x : Int) * Y + y) = 0) :
    valueG (usedL X P).length (usedL Y Q).length (pairsF (askW Y ws) (usedL X P) (usedL Y Q)) (pairsF (askO Y wi) (usedL X P) (usedL Y Q)) = valueG X Y ws wi := by
  apply Int.le_antisymm
  · obtain ⟨p, hp, e⟩ := value_at (usedL X P).length (usedL Y Q).length (pairsF (askW Y ws) (usedL X P) (usedL Y Q)) (pairsF (askO Y wi) (usedL X P) (usedL Y Q))
    rw [← e, ← restr_extd hp, restr_score P Q _ hz]
    exact value_le (extd_bits hp)
  · obtain ⟨q, hq, e⟩ := value_at X Y ws wi
    rw [← e, ← restr_score P Q q hz]
    exact value_le (restr_bits hq)
theorem pairsF_mem {α : Type} {h : Int → Int → α} {l m : List Int} {v : α} (hv : v ∈ pairsF h l m) : ∃ x y, x ∈ l ∧ y ∈ m ∧ v = h x y := by
  unfold pairsF at hv
  obtain ⟨x, hx, hv⟩ := List.mem_flatMap.1 hv
  obtain ⟨y, hy, rfl⟩ := List.mem_map.1 hv
  exact ⟨x, y, hx, hy, rfl⟩
theorem used_nat {P : Nat → Bool} {n : Nat} {x : Int} (h : x ∈ usedL n P) : ∃ k : Nat, x = k ∧ k < n ∧ P k = true := by
  unfold usedL at h
  obtain ⟨k, hk, rfl⟩ := List.mem_map.1 h
  rw [List.mem_filter] at hk
  exact ⟨k, rfl, List.mem_range.1 hk.1, hk.2⟩
theorem used_in {P : Nat → Bool} {n k : Nat} (h : k < n) (hP : P k = true) : (k : Int) ∈ usedL n P := by
  unfold usedL
  exact List.mem_map.2 ⟨k, List.mem_filter.2 ⟨List.mem_range.2 h, hP⟩, rfl⟩
theorem game_part {X Y : Nat} {ws : List Int} {wi : List (List Int)} (P Q : Nat → Bool) (h : gameB X Y ws wi = true) (hz : ∀ x y, x < X → y < Y → ¬ (P x = true ∧ Q y = true) → atZ ws ((x : Int) * Y + y) = 0) :
    gameB (usedL X P).length (usedL Y Q).length (pairsF (askW Y ws) (usedL X P) (usedL Y Q)) (pairsF (askO Y wi) (usedL X P) (usedL Y Q)) = true := by
  obtain ⟨x, y, e1, e2, hx, hy, wl, il, h9⟩ := game_nat h
  obtain rfl : X = x := by omega
  obtain rfl : Y = y := by omega
  have g := gameB_spec h
  have some_t : ∃ t, t < ws.length ∧ atZ ws (t : Int) ≠ 0 := by
    apply Classical.byContradiction
    intro hn
    have z : totG ws = 0 := accT_zero fun t ht => Classical.byContradiction fun h0 => hn ⟨t, ht, h0⟩
    exact g.s0 ((totG_64 (by omega) g.wb).1.trans z)
  obtain ⟨t, ht, ht0⟩ := some_t
  obtain ⟨hi, hk, e⟩ := pair_split (X := X) (Y := Y) (t := t) (by omega)
  have e3 := pair_cast Y (t / Y) (t % Y)
  rw [e] at e3
  have hPQ : P (t / Y) = true ∧ Q (t % Y) = true := Classical.byContradiction fun hn => ht0 (by rw [e3]; exact hz _ _ hi hk hn)
  have m1 := used_mono P hi hPQ.1
  have m2 := used_mono Q hk hPQ.2
  have l1 := usedL_len X P
  have l2 := usedL_len Y Q
  have sz : sizeB ((usedL X P).length : Int) ((usedL Y Q).length : Int) = true := sizeB_iff.2 ⟨⟨by omega, by omega⟩, by omega, by omega⟩
  have m9 := mul_bd3 sz
  have wlen : ((pairsF (askW Y ws) (usedL X P) (usedL Y Q)).length : Int) = ((usedL X P).length : Int) * (usedL Y Q).length := by rw [pairsF_size, Int.natCast_mul]
  have ilen : ((pairsF (askO Y wi) (usedL X P) (usedL Y Q)).length : Int) = ((usedL X P).length : Int) * (usedL Y Q).length := by rw [pairsF_size, Int.natCast_mul]
  have inw : ∀ v ∈ pairsF (askW Y ws) (usedL X P) (usedL Y Q), 0 ≤ v ∧ v ≤ 99 := fun v hv => by
    obtain ⟨x, y, hx, hy, rfl⟩ := pairsF_mem hv
    obtain ⟨i, rfl, hi, _⟩ := used_nat hx
    obtain ⟨k, rfl, hk, _⟩ := used_nat hy
    have p := pair_ok h hi hk
    exact ⟨p.w0, p.w1⟩
  have wb : allB (pairsF (askW Y ws) (usedL X P) (usedL Y Q)) 0 99 = true := by
    unfold allB
    rw [List.all_eq_true]
    exact fun v hv => inB_iff.2 (inw v hv)
  have s0 : sum64 (pairsF (askW Y ws) (usedL X P) (usedL Y Q)) ≠ 0 := by
    rw [(totG_64 (by omega) wb).1, totG_sum]
    have sp := sum_pos (l := pairsF (askW Y ws) (usedL X P) (usedL Y Q)) fun v hv => (inw v hv).1
    have mem : askW Y ws ((t / Y : Nat) : Int) ((t % Y : Nat) : Int) ∈ pairsF (askW Y ws) (usedL X P) (usedL Y Q) := by
      unfold pairsF
      exact List.mem_flatMap.2 ⟨_, used_in hi hPQ.1, List.mem_map.2 ⟨_, used_in hk hPQ.2, rfl⟩⟩
    have nz : askW Y ws ((t / Y : Nat) : Int) ((t % Y : Nat) : Int) ≠ 0 := by unfold askW; rw [← e3]; exact ht0
    have any : ((pairsF (askW Y ws) (usedL X P) (usedL Y Q)).any fun x => decide (x ≠ 0)) = true := List.any_eq_true.2 ⟨_, mem, by simpa using nz⟩
    rw [any] at sp
    have := of_decide_eq_true sp.2
    omega
  have ib : (pairsF (askO Y wi) (usedL X P) (usedL Y Q)).all (fun l => bitsB l 4) = true := by
    rw [List.all_eq_true]
    intro l hl
    obtain ⟨x, y, hx, hy, rfl⟩ := pairsF_mem hl
    obtain ⟨i, rfl, hi, _⟩ := used_nat hx
    obtain ⟨k, rfl, hk, _⟩ := used_nat hy
    have e := idx_lt (i := (i : Int)) (k := (k : Int)) (X := X) (Y := Y) (by omega) (by omega) (by omega) (by omega)
    exact (gameB_at h e.1 e.2.1).2
  unfold gameB
  rw [sz, wb, ib, decide_eq_true wlen, decide_eq_true s0, decide_eq_true ilen]
  rfl
theorem trim_zero {X Y : Nat} {ws : List Int} : ∀ x y, x < X → y < Y → ¬ (rowU ws Y x = true ∧ colU ws X Y y = true) → atZ ws ((x : Int) * Y + y) = 0 := fun x y hx hy hn =>
  Classical.byContradiction fun h0 => hn ⟨List.any_eq_true.2 ⟨y, List.mem_range.2 hy, by simpa using h0⟩, List.any_eq_true.2 ⟨x, List.mem_range.2 hx, by simpa using h0⟩⟩
theorem game_trim {X Y : Nat} {ws : List Int} {wi : List (List Int)} (h : gameB X Y ws wi = true) : gameB (trim1 X Y ws).length (trim2 X Y ws).length (trimW X Y ws) (trimR X Y ws wi) = true ∧ valueG (trim1 X Y ws).length (trim2 X Y ws).length (trimW X Y ws) (trimR X Y ws wi) = valueG X Y ws wi :=
  ⟨game_part (rowU ws Y) (colU ws X Y) h trim_zero, value_part (rowU ws Y) (colU ws X Y) trim_zero⟩

end Go.Proofs.Ytefbiejoikpkmaa
