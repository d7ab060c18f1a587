/- What the functions that FnExactTrioValue reaches return: part of its proof. No condition beyond those of its theorems. -/
import Derived.Test.YtfgnjcodilebeaaProg
import Derived.Test.YtfgnjcodilebeaaKplainB
import Derived.WalkKit
import Derived.Test.YtfgnjcodilebeaaKplainA
--plain: PureMisc PureTake PureAlt PurePack Defs
namespace Go.Proofs.Ytfgnjcodilebeaa
open Go.RowKit

abbrev dI (n : Int) : D := .lit (.int .i64 n)
abbrev dB (b : Bool) : D := .lit (.bool b)
abbrev dS (s : ByteArray) : D := .lit (.string s)
abbrev iN (k : Nat) : FV := .c (.d (dI k))
abbrev iZ (k : Int) : FV := .c (.d (dI k))
/-- a list of numbers, of lists of numbers, of texts -/
abbrev cI (l : List Int) : List D := l.map dI
abbrev eI (l : List Int) : D := .sl 1 l.length (cI l)
abbrev cII (l : List (List Int)) : List D := l.map fun x => eI x
abbrev eII (l : List (List Int)) : D := .sl 1 l.length (cII l)
section
variable {P : Program} {st : St} {dst : Option Tmp} {ty : TypeId} {pos : String} {af : Array Edge} {T : TypeId} {x y : Operand} {k : IntKind} {i : Int}
theorem qt_idxI {l : List Int} (hx : st.ev x = .c (.d (eI l))) (hy : st.ev y = .c (.d (.lit (.int k i)))) (ht : tSl P T 1 = true) (h0 : 0 ≤ i) (h1 : i < l.length) : Qt P ⟨dst, .indexAddr T x y, ty, pos, af, none⟩ st (.c (.d (.pt [dI (atZ l i)]))) :=
  qt_idx hx hy ht h0 h1 (map_at (atZ_some h0 h1))
theorem qt_idxII {l : List (List Int)} (hx : st.ev x = .c (.d (eII l))) (hy : st.ev y = .c (.d (.lit (.int k i)))) (ht : tSl P T 1 = true) (h0 : 0 ≤ i) (h1 : i < l.length) : Qt P ⟨dst, .indexAddr T x y, ty, pos, af, none⟩ st (.c (.d (.pt [eI (atZ l i)]))) :=
  qt_idx hx hy ht h0 h1 (map_at (atZ_some h0 h1))
end
end Go.Proofs.Ytfgnjcodilebeaa

namespace Go.Proofs.Ytfgnjcodilebeaa
open Go.RowKit
theorem szR_ok : ∀ (ll : List (List Int)) (left : Int), (cnt ll : Int) ≤ left → szR ll left = left - cnt ll
  | [], left, _ => by simp [szR, cnt]
  | l :: r, left, h => by
    simp only [cnt] at h ⊢
    have e : szI l.length left = left - l.length := by unfold szI; rw [if_neg (by omega)]
    unfold szR
    rw [e, if_neg (by omega), szR_ok r _ (by omega)]; omega
theorem szR_no : ∀ (ll : List (List Int)) (left : Int), left < (cnt ll : Int) → 0 ≤ left → szR ll left = -1
  | [], left, h, h0 => by simp [cnt] at h; omega
  | l :: r, left, h, h0 => by
    simp only [cnt] at h
    unfold szR
    by_cases hl : left - l.length < 0
    · have e : szI l.length left = -1 := by unfold szI; rw [if_pos hl]
      rw [e, if_pos (by omega)]
    · have e : szI l.length left = left - l.length := by unfold szI; rw [if_neg hl]
      rw [e, if_neg (by omega), szR_no r _ (by omega) (by omega)]
theorem szL_ok {ll : List (List Int)} {left : Int} (h : (ll.length : Int) + cnt ll ≤ left) : szL ll.length ll left = left - ll.length - cnt ll := by
  unfold szL; rw [if_neg (by omega), szR_ok _ _ (by omega)]
theorem szL_no {ll : List (List Int)} {left : Int} (h : left < (ll.length : Int) + cnt ll) (h0 : 0 ≤ left) : szL ll.length ll left = -1 := by
  unfold szL
  split
  · rfl
  · exact szR_no _ _ (by omega) (by omega)
theorem cnt_mem : ∀ {ll : List (List Int)} {l : List Int}, l ∈ ll → l.length ≤ cnt ll
  | l' :: r, l, h => by
    simp only [cnt]
    rcases List.mem_cons.1 h with rfl | h
    · omega
    · have := cnt_mem h; omega

end Go.Proofs.Ytfgnjcodilebeaa

namespace Go.Proofs.Ytfgnjcodilebeaa
open Go.RowKit
open Go
/-! trios -/
def sum64 (l : List Int) : Int := l.foldl (fun s n => IntKind.i64.wrap (s + n)) 0
theorem sum64_snoc {l : List Int} {k : Nat} (h : k < l.length) : sum64 (l.take (k + 1)) = IntKind.i64.wrap (sum64 (l.take k) + l[k]) := by
  unfold sum64; rw [List.take_succ_eq_append_getElem h, List.foldl_append]; rfl
def rowB (n : Int) (row : List Int) : Bool := (decide (row.length = 8) && allB row 0 n) && decide (sum64 row = n)
def trioB (n : Int) (ll : List (List Int)) : Bool := (inB n 1 1000 && decide (ll.length = 8)) && ll.all (rowB n)
theorem rowB_len {n : Int} {row : List Int} (h : rowB n row = true) : row.length = 8 ∧ ∀ k (hk : k < row.length), 0 ≤ row[k] ∧ row[k] ≤ n := by
  simp only [rowB, Bool.and_eq_true, decide_eq_true_eq, allB, List.all_eq_true] at h
  exact ⟨h.1.1, fun k hk => inB_iff.1 (h.1.2 _ (List.getElem_mem hk))⟩
theorem trioB_spec {n : Int} {ll : List (List Int)} (h : trioB n ll = true) : 1 ≤ n ∧ n ≤ 1000 ∧ ll.length = 8 ∧ ∀ q (hq : q < ll.length), ll[q].length = 8 ∧ ∀ k (hk : k < ll[q].length), 0 ≤ ll[q][k] ∧ ll[q][k] ≤ n := by
  simp only [trioB, Bool.and_eq_true, decide_eq_true_eq, List.all_eq_true] at h
  have := inB_iff.1 h.1.1
  exact ⟨this.1, this.2, h.1.2, fun q hq => rowB_len (h.2 _ (List.getElem_mem hq))⟩
/-- the bit of a player in a place -/
def bitZ (q : Int) (m : Nat) : Int := q / 2 ^ (2 - m) % 2
theorem bitZ_le (q : Int) (m : Nat) : 0 ≤ bitZ q m ∧ bitZ q m ≤ 1 := by unfold bitZ; omega
/-- the answers of a play -/
def playP (l : List Int) (q : Int) : Nat → Int
  | 0 => 0
  | m + 1 => 2 * playP l q m + atZ l (2 * m + bitZ q m)
theorem playP_bd {l : List Int} (h : bitsB l 6 = true) (q : Int) : ∀ m : Nat, m ≤ 3 → 0 ≤ playP l q m ∧ playP l q m < 2 ^ m
  | 0, _ => by simp [playP]
  | m + 1, hm => by
    have ih := playP_bd h q m (by omega)
    have hb := bitZ_le q m
    have := bitsB_at h (i := 2 * m + bitZ q m) (by omega) (by omega)
    rw [playP, Int.pow_succ]
    omega
theorem playP_4 {l : List Int} (h : bitsB l 6 = true) (q : Int) (m : Nat) (hm : m ≤ 2) : 0 ≤ playP l q m ∧ playP l q m < 4 := by
  have := playP_bd h q m (by omega)
  have : (2 : Int) ^ m ≤ 4 := by rcases (by omega : m = 0 ∨ m = 1 ∨ m = 2) with rfl | rfl | rfl <;> decide
  omega
def playV (l : List Int) (q : Int) : Int := playP l q 3
theorem playV_eq (l : List Int) {q : Int} (h0 : 0 ≤ q) (h8 : q < 8) : playV l q = 4 * atZ l (q / 4) + 2 * atZ l (2 + q / 2 % 2) + atZ l (4 + q % 2) := by
  have e : q / 4 % 2 = q / 4 := by omega
  simp [playV, playP, bitZ, e]; omega
theorem playV_bd {l : List Int} (h : bitsB l 6 = true) (q : Int) : 0 ≤ playV l q ∧ playV l q < 8 := by
  have := playP_bd h q 3 (by omega); unfold playV; omega
def ansF (n : Int) (g : Nat → Int) (q k : Nat) : Int := if (k : Int) = g q then n else 0
def trioOfB (l : List Int) (n : Int) : Bool := bitsB l 6 && inB n 1 1000
theorem oneHotZ {α : Type} (g : Int → α) (n : Int) {p : Int} (h0 : 0 ≤ p) (h8 : p < 8) : (List.replicate 8 (g 0)).set (p.toNat) (g n) = (rowF (fun k => if (k : Int) = p then n else 0) 8).map g := by
  rcases (by omega : p = 0 ∨ p = 1 ∨ p = 2 ∨ p = 3 ∨ p = 4 ∨ p = 5 ∨ p = 6 ∨ p = 7) with rfl | rfl | rfl | rfl | rfl | rfl | rfl | rfl <;> simp [rowF, List.range, List.range.loop, List.replicate, List.set]
theorem rowF_atZ (f : Nat → Int) {m k : Nat} (h : k < m) : atZ (rowF f m) (k : Int) = f k := by
  rw [atZ_nat (by simpa using h)]; simp [rowF]
theorem gridF_ans (n : Int) (f : Nat → Int) : gridF (ansF n fun q => atZ (rowF f 8) q) 8 8 = gridF (ansF n f) 8 8 :=
  gridF_congr fun i hi k _ => by have := rowF_atZ f hi; show (if (k : Int) = atZ (rowF f 8) i then n else 0) = if (k : Int) = f i then n else 0; simp only [this]
/-- the two players other than one -/
def oth1 (a : Int) : Nat := if a = 0 then 1 else 0
def oth2 (a : Int) : Nat := if a = 0 then 2 else if a = 1 then 2 else 1
def othL (a : Int) (k : Nat) : List Int := (([0, 1, 2] : List Int).take k).filter fun x => decide (x ≠ a)
theorem othL_succ (a : Int) {k : Nat} (h : k < 3) : othL a (k + 1) = if (k : Int) = a then othL a k else othL a k ++ [(k : Int)] := by
  unfold othL
  rw [List.take_succ_eq_append_getElem (by simpa using h), List.filter_append]
  by_cases e : (k : Int) = a
  · rcases (by omega : k = 0 ∨ k = 1 ∨ k = 2) with rfl | rfl | rfl <;> simp at e <;> simp [List.filter, ← e]
  · rcases (by omega : k = 0 ∨ k = 1 ∨ k = 2) with rfl | rfl | rfl <;> simp at e <;> simp [List.filter, e]
theorem othL_3 {a : Int} (h0 : 0 ≤ a) (h2 : a ≤ 2) : othL a 3 = [(oth1 a : Int), (oth2 a : Int)] := by
  rcases (by omega : a = 0 ∨ a = 1 ∨ a = 2) with rfl | rfl | rfl <;> rfl
/-- the answers of a group play -/
def grpAt (a q : Int) : Int := 2 * (2 * bitZ q (oth1 a) + bitZ q (oth2 a))
def grpV (a : Int) (own joint : List Int) (q : Int) : Int :=
  atZ own (bitZ q a.toNat) * 2 ^ (2 - a.toNat) + atZ joint (grpAt a q) * 2 ^ (2 - oth1 a) + atZ joint (grpAt a q + 1) * 2 ^ (2 - oth2 a)
theorem or421 {x y z : Int} (hx : 0 ≤ x ∧ x ≤ 1) (hy : 0 ≤ y ∧ y ≤ 1) (hz : 0 ≤ z ∧ z ≤ 1) : bits .or .i64 (bits .or .i64 (x * 4) (y * 2)) z = x * 4 + y * 2 + z := by
  rcases (by omega : x = 0 ∨ x = 1) with rfl | rfl <;> rcases (by omega : y = 0 ∨ y = 1) with rfl | rfl <;> rcases (by omega : z = 0 ∨ z = 1) with rfl | rfl <;> rfl
theorem or241 {x y z : Int} (hx : 0 ≤ x ∧ x ≤ 1) (hy : 0 ≤ y ∧ y ≤ 1) (hz : 0 ≤ z ∧ z ≤ 1) : bits .or .i64 (bits .or .i64 (x * 2) (y * 4)) z = x * 2 + y * 4 + z := by
  rcases (by omega : x = 0 ∨ x = 1) with rfl | rfl <;> rcases (by omega : y = 0 ∨ y = 1) with rfl | rfl <;> rcases (by omega : z = 0 ∨ z = 1) with rfl | rfl <;> rfl
theorem or142 {x y z : Int} (hx : 0 ≤ x ∧ x ≤ 1) (hy : 0 ≤ y ∧ y ≤ 1) (hz : 0 ≤ z ∧ z ≤ 1) : bits .or .i64 (bits .or .i64 x (y * 4)) (z * 2) = x + y * 4 + z * 2 := by
  rcases (by omega : x = 0 ∨ x = 1) with rfl | rfl <;> rcases (by omega : y = 0 ∨ y = 1) with rfl | rfl <;> rcases (by omega : z = 0 ∨ z = 1) with rfl | rfl <;> rfl
def groupB (a : Int) (own joint : List Int) (n : Int) : Bool := inB a 0 2 && bitsB own 2 && bitsB joint 8 && inB n 1 1000
theorem othL_len (a : Int) (k : Nat) : (othL a k).length ≤ 3 := by
  unfold othL; refine Nat.le_trans (List.length_filter_le _ _) ?_; rw [List.length_take]; exact Nat.min_le_right _ _

theorem inB_02 {a : Int} (h : inB a 0 2 = true) : a = 0 ∨ a = 1 ∨ a = 2 := by have := inB_iff.1 h; omega
theorem grpV_bd {a : Int} {own joint : List Int} (h : inB a 0 2 = true) (ho : bitsB own 2 = true) (hj : bitsB joint 8 = true) (q : Int) : 0 ≤ grpV a own joint q ∧ grpV a own joint q < 8 := by
  have b0 := bitZ_le q a.toNat
  have b1 := bitZ_le q (oth1 a)
  have b2 := bitZ_le q (oth2 a)
  have p0 := bitsB_at ho (i := bitZ q a.toNat) (by omega) (by omega)
  have a0 := bitsB_at hj (i := grpAt a q) (by unfold grpAt; omega) (by unfold grpAt; omega)
  have a1 := bitsB_at hj (i := grpAt a q + 1) (by unfold grpAt; omega) (by unfold grpAt; omega)
  rcases inB_02 h with rfl | rfl | rfl <;> simp [grpV, oth1, oth2] at * <;> omega
/-- a place whose digits are turned -/
def turnP (p : Int) : Int := p * 2 % 8 + p / 4
theorem turnP_bd {p : Int} (h0 : 0 ≤ p) (h8 : p < 8) : 0 ≤ turnP p ∧ turnP p < 8 := by unfold turnP; omega
theorem or_turn {p : Int} (h0 : 0 ≤ p) (h8 : p < 8) : bits .or .i64 (p * 2 % 8) (p / 4) = turnP p := by
  rcases (by omega : p = 0 ∨ p = 1 ∨ p = 2 ∨ p = 3 ∨ p = 4 ∨ p = 5 ∨ p = 6 ∨ p = 7) with rfl | rfl | rfl | rfl | rfl | rfl | rfl | rfl <;> rfl
def turnI (k : Nat) : Nat := k / 2 + k % 2 * 4
theorem turnI_lt {p : Nat} (h : p < 8) : turnI p < 8 := by unfold turnI; omega
def turnN (p : Nat) : Nat := p * 2 % 8 + p / 4
theorem turnP_nat (p : Nat) : turnP p = (turnN p : Nat) := by unfold turnP turnN; omega
theorem turnN_lt {p : Nat} (h : p < 8) : turnN p < 8 := by unfold turnN; omega
/-- a list of eight that is filled at the turned places, k of them so far -/
def turnL {α : Type} (z : α) (f : Nat → α) (k : Nat) : List α := (List.range 8).map fun j => if turnN j < k then f j else z
theorem turnL_len {α : Type} (z : α) (f : Nat → α) (k : Nat) : (turnL z f k).length = 8 := by simp [turnL]
theorem turnL_zero {α : Type} (z : α) (f : Nat → α) : turnL z f 0 = List.replicate 8 z := by simp [turnL, List.range, List.range.loop, List.replicate]
theorem turnL_set {α : Type} (z : α) (f : Nat → α) {k : Nat} (h : k < 8) : (turnL z f k).set (turnI k) (f (turnI k)) = turnL z f (k + 1) := by
  rcases (by omega : k = 0 ∨ k = 1 ∨ k = 2 ∨ k = 3 ∨ k = 4 ∨ k = 5 ∨ k = 6 ∨ k = 7) with rfl | rfl | rfl | rfl | rfl | rfl | rfl | rfl <;> rfl
theorem turnL_all {α : Type} (z : α) (f : Nat → α) : turnL z f 8 = (List.range 8).map f := by
  unfold turnL
  refine List.map_congr_left fun j hj => ?_
  have := turnN_lt (List.mem_range.1 hj)
  rw [if_pos (by omega)]
theorem turnN_inv {k : Nat} (h : k < 8) : turnN (turnI k) = k := by
  rcases (by omega : k = 0 ∨ k = 1 ∨ k = 2 ∨ k = 3 ∨ k = 4 ∨ k = 5 ∨ k = 6 ∨ k = 7) with rfl | rfl | rfl | rfl | rfl | rfl | rfl | rfl <;> rfl
def turnF (ll : List (List Int)) (q k : Nat) : Int := atZ (atZ ll (turnP q)) (turnP k)
def mixF (a b : List (List Int)) (q k : Nat) : Int := atZ (atZ a q) k + atZ (atZ b q) k
theorem trioB_at {n : Int} {ll : List (List Int)} (h : trioB n ll = true) {q : Int} (h0 : 0 ≤ q) (h8 : q < 8) : (atZ ll q).length = 8 ∧ ∀ k : Int, 0 ≤ k → k < 8 → 0 ≤ atZ (atZ ll q) k ∧ atZ (atZ ll q) k ≤ n := by
  obtain ⟨h1, h2, h3, h4⟩ := trioB_spec h
  obtain ⟨i, rfl⟩ := Int.eq_ofNat_of_zero_le h0
  rw [atZ_nat (by omega)]
  obtain ⟨h5, h6⟩ := h4 i (by omega)
  refine ⟨h5, fun k hk0 hk8 => ?_⟩
  obtain ⟨j, rfl⟩ := Int.eq_ofNat_of_zero_le hk0
  rw [atZ_nat (by omega)]
  exact h6 j (by omega)
theorem sum64_of {l : List Int} (h : l.length = 8) (hb : ∀ k (hk : k < l.length), 0 ≤ l[k] ∧ l[k] ≤ 1000000) : sum64 l = l.sum := by
  have key : ∀ (l : List Int) (s : Int), 0 ≤ s → (∀ x ∈ l, 0 ≤ x ∧ x ≤ 1000000) → s + l.length * 1000000 ≤ 1000000000 → l.foldl (fun s n => IntKind.i64.wrap (s + n)) s = s + l.sum := by
    intro l
    induction l with
    | nil => intro s _ _ _; simp
    | cons x l ih =>
      intro s h0 hx hs
      have h1 := hx x (List.mem_cons_self ..)
      simp only [List.length_cons] at hs
      rw [List.foldl_cons, IntWalk.i64_in _ (by omega), ih _ (by omega) (fun y hy => hx y (List.mem_cons_of_mem _ hy)) (by omega), List.sum_cons]; omega
  have := key l 0 (by omega) (fun x hx => by obtain ⟨k, hk, rfl⟩ := List.getElem_of_mem hx; exact hb k hk) (by omega)
  unfold sum64; rw [this]; omega
theorem len8 {l : List Int} (h : l.length = 8) : ∃ a b c d e f g i, l = [a, b, c, d, e, f, g, i] := by
  match l, h with
  | [a, b, c, d, e, f, g, i], _ => exact ⟨a, b, c, d, e, f, g, i, rfl⟩
theorem mix_row {m n : Int} {a b : List Int} (ha : rowB m a = true) (hb : rowB n b = true) (hm : m ≤ 1000) (hn : n ≤ 1000) : rowB (m + n) (rowF (fun k => atZ a k + atZ b k) 8) = true := by
  obtain ⟨a1, a2⟩ := rowB_len ha
  obtain ⟨b1, b2⟩ := rowB_len hb
  have sa : sum64 a = m := by simp [rowB] at ha; exact ha.2
  have sb : sum64 b = n := by simp [rowB] at hb; exact hb.2
  rw [sum64_of a1 fun k hk => ⟨(a2 k hk).1, by have := (a2 k hk).2; omega⟩] at sa
  rw [sum64_of b1 fun k hk => ⟨(b2 k hk).1, by have := (b2 k hk).2; omega⟩] at sb
  have bd : ∀ k (hk : k < (rowF (fun k : Nat => atZ a k + atZ b k) 8).length), 0 ≤ (rowF (fun k : Nat => atZ a k + atZ b k) 8)[k] ∧ (rowF (fun k : Nat => atZ a k + atZ b k) 8)[k] ≤ m + n := fun k hk => by
    simp only [rowF, List.getElem_map, List.getElem_range]
    have hk8 : k < 8 := by simpa using hk
    rw [atZ_nat (by omega), atZ_nat (by omega)]
    have := a2 k (by omega); have := b2 k (by omega); omega
  have e : sum64 (rowF (fun k : Nat => atZ a k + atZ b k) 8) = m + n := by
    rw [sum64_of (by simp) fun k hk => ⟨(bd k hk).1, by have := (bd k hk).2; omega⟩]
    obtain ⟨x0, x1, x2, x3, x4, x5, x6, x7, rfl⟩ := len8 a1
    obtain ⟨y0, y1, y2, y3, y4, y5, y6, y7, rfl⟩ := len8 b1
    simp [rowF, List.range, List.range.loop, atZ] at sa sb ⊢
    omega
  simp only [rowB, allB, e, rowF_len, decide_true, Bool.true_and, Bool.and_true, List.all_eq_true]
  intro x hx
  obtain ⟨k, hk, rfl⟩ := List.getElem_of_mem hx
  exact inB_iff.2 (bd k hk)
theorem mix_trio {m n : Int} {a b : List (List Int)} (ha : trioB m a = true) (hb : trioB n b = true) : trioB (m + n) (gridF (mixF a b) 8 8) = decide (m + n ≤ 1000) := by
  obtain ⟨a1, a2, a3, _⟩ := trioB_spec ha
  obtain ⟨b1, b2, b3, _⟩ := trioB_spec hb
  simp only [trioB, Bool.and_eq_true, List.all_eq_true] at ha hb
  have rows : (gridF (mixF a b) 8 8).all (rowB (m + n)) = true := by
    rw [List.all_eq_true]
    intro x hx
    unfold gridF at hx
    obtain ⟨q, hq, rfl⟩ := List.mem_map.1 hx
    have hq := List.mem_range.1 hq
    have := mix_row (ha.2 (a[q]'(by omega)) (List.getElem_mem _)) (hb.2 (b[q]'(by omega)) (List.getElem_mem _)) a2 b2
    have e : (mixF a b q) = fun k : Nat => atZ (a[q]'(by omega)) k + atZ (b[q]'(by omega)) k := by
      funext k; unfold mixF; rw [show atZ a (q : Int) = a[q]'(by omega) from atZ_nat (by omega), show atZ b (q : Int) = b[q]'(by omega) from atZ_nat (by omega)]
    rw [e]; exact this
  unfold trioB
  rw [rows]
  simp [inB]; omega
def mixB (m : Int) (a : List (List Int)) (n : Int) (b : List (List Int)) : Bool := trioB m a && trioB n b && decide (m + n ≤ 1000)

end Go.Proofs.Ytfgnjcodilebeaa

namespace Go.Proofs.Ytfgnjcodilebeaa
open Go.RowKit
/-! all plays -/
def bitN (c e : Nat) : Nat := c / 2 ^ e % 2
def bitsM (n c : Nat) : List Int := rowF (fun i => (bitN c (n - 1 - i) : Int)) n
def playsF (n : Nat) : List (List Int) := (List.range (2 ^ n)).map (bitsM n)
@[simp] theorem bitsM_len (n c : Nat) : (bitsM n c).length = n := by simp [bitsM]
@[simp] theorem playsF_len (n : Nat) : (playsF n).length = 2 ^ n := by simp [playsF]
theorem bitsM_bits (n c : Nat) : bitsB (bitsM n c) n = true := by
  simp only [bitsB, bitsM_len, decide_true, Bool.true_and, allB, List.all_eq_true]
  intro x hx
  unfold bitsM rowF at hx
  obtain ⟨i, _, rfl⟩ := List.mem_map.1 hx
  exact inB_iff.2 ⟨by unfold bitN; omega, by unfold bitN; omega⟩
theorem playsF_at {n k : Nat} (h : k < 2 ^ n) : atZ (playsF n) (k : Int) = bitsM n k := by rw [atZ_nat (by simpa using h)]; simp [playsF]
theorem plays_snoc (n c : Nat) : (List.range (c + 1)).map (bitsM n) = (List.range c).map (bitsM n) ++ [bitsM n c] := by simp [List.range_succ]
theorem bit_nat (c e : Nat) : (c : Int) / 2 ^ e % 2 = (bitN c e : Int) := by
  unfold bitN
  rw [Int.natCast_emod, Int.natCast_ediv, Int.natCast_pow]; rfl
/-- the greatest of numbers, at least 0 -/
def bestN (f : Nat → Int) : Nat → Int
  | 0 => 0
  | k + 1 => max (bestN f k) (f k)
theorem bestN_ge (f : Nat → Int) : ∀ n, 0 ≤ bestN f n
  | 0 => by simp [bestN]
  | k + 1 => by have := bestN_ge f k; simp only [bestN]; omega
theorem le_bestN (f : Nat → Int) : ∀ n k, k < n → f k ≤ bestN f n
  | n + 1, k, h => by
    simp only [bestN]
    by_cases e : k = n
    · subst e; omega
    · have := le_bestN f n k (by omega); omega
theorem bestN_le (f : Nat → Int) (M : Int) (h0 : 0 ≤ M) : ∀ n, (∀ k, k < n → f k ≤ M) → bestN f n ≤ M
  | 0, _ => by simpa [bestN] using h0
  | n + 1, h => by
    have h1 := bestN_le f M h0 n fun k hk => h k (by omega)
    have h2 := h n (by omega)
    simp only [bestN]; omega
theorem bestN_congr {f g : Nat → Int} : ∀ {n : Nat}, (∀ k, k < n → f k = g k) → bestN f n = bestN g n
  | 0, _ => rfl
  | n + 1, h => by simp only [bestN]; rw [bestN_congr fun k hk => h k (by omega), h n (by omega)]
theorem bestN_perm {f g : Nat → Int} {n : Nat} (r : Nat → Nat) (hr : ∀ k, k < n → r k < n) (h1 : ∀ k, k < n → f k = g (r k)) (h2 : ∀ k, k < n → g k = f (r k)) : bestN f n = bestN g n := by
  have a := bestN_le f (bestN g n) (bestN_ge g n) n fun k hk => by rw [h1 k hk]; exact le_bestN g n _ (hr k hk)
  have b := bestN_le g (bestN f n) (bestN_ge f n) n fun k hk => by rw [h2 k hk]; exact le_bestN f n _ (hr k hk)
  omega
/-- the score of answers -/
def parZ (p : Int) : Int := (p / 4 + p / 2 + p) % 2
def scoreN (w odd : List Int) (f : Int → Int) : Nat → Int
  | 0 => 0
  | k + 1 => scoreN w odd f k + if parZ (f k) = atZ odd k then atZ w k else 0
def valB (w odd : List Int) : Bool := decide (w.length = 8) && allB w 0 99 && bitsB odd 8
theorem allB_at {l : List Int} {lo hi : Int} (h : allB l lo hi = true) {i : Int} (h0 : 0 ≤ i) (h1 : i < l.length) : lo ≤ atZ l i ∧ atZ l i ≤ hi := by
  unfold allB at h
  rw [List.all_eq_true] at h
  obtain ⟨k, rfl⟩ := Int.eq_ofNat_of_zero_le h0
  rw [atZ_nat (by omega)]
  exact inB_iff.1 (h (l[k]'(by omega)) (List.getElem_mem _))
theorem scoreN_bd {w odd : List Int} (h : valB w odd = true) (f : Int → Int) : ∀ k : Nat, k ≤ 8 → 0 ≤ scoreN w odd f k ∧ scoreN w odd f k ≤ 99 * k
  | 0, _ => by simp [scoreN]
  | k + 1, hk => by
    have ih := scoreN_bd h f k (by omega)
    simp only [valB, Bool.and_eq_true, decide_eq_true_eq] at h
    have := allB_at h.1.2 (i := k) (by omega) (by omega)
    simp only [scoreN]
    split <;> omega
def trioVal (w odd : List Int) : Int := bestN (fun c => scoreN w odd (fun q => playV (bitsM 6 c) q) 8) 64
def bitsL (c : Nat) : List Int := rowF (fun i => (bitN c i : Int)) 6
def rev6 (c : Nat) : Nat := c % 2 * 32 + c / 2 % 2 * 16 + c / 4 % 2 * 8 + c / 8 % 2 * 4 + c / 16 % 2 * 2 + c / 32
theorem rev6_lt {c : Nat} (h : c < 64) : rev6 c < 64 := by unfold rev6; omega
theorem bitsL_bits (c : Nat) : bitsB (bitsL c) 6 = true := by
  simp only [bitsB, bitsL, rowF_len, Bool.and_eq_true, allB, List.all_eq_true]
  refine ⟨by decide, ?_⟩
  intro x hx
  unfold rowF at hx
  obtain ⟨i, _, rfl⟩ := List.mem_map.1 hx
  exact inB_iff.2 ⟨by unfold bitN; omega, by unfold bitN; omega⟩
theorem bits_rev : ∀ c : Fin 64, bitsM 6 c = bitsL (rev6 c) ∧ bitsL c = bitsM 6 (rev6 c) := by decide +kernel
theorem trioVal_L (w odd : List Int) : bestN (fun c => scoreN w odd (fun q => playV (bitsL c) q) 8) 64 = trioVal w odd :=
  bestN_perm rev6 (fun _ => rev6_lt) (fun k hk => by rw [(bits_rev ⟨k, hk⟩).2]) (fun k hk => by rw [(bits_rev ⟨k, hk⟩).1])

end Go.Proofs.Ytfgnjcodilebeaa

namespace Go.Proofs.Ytfgnjcodilebeaa
open Go.RowKit
set_option maxRecDepth 10000
set_option maxHeartbeats 4000000
theorem within_p (n lo hi : Int) : PC Try.prog 53 [.c (dI n), .c (dI lo), .c (dI hi)] (.p (.c (dB (inB n lo hi)))) := by
  refine pc_intro Try.func53 rfl rfl rfl (by kernel_rfl) rfl rfl ?_; intro _
  repeat' (first | (refine so_is (.assign _) ?_; (refine so_q (qt_asC rfl) rfl ?_)) | (refine so_is (.move _) ?_; (refine so_q (qt_mvC rfl) rfl ?_)) | (refine so_is (.binOp .geq 3 _ _ _) ?_; refine so_q (qt_geq rfl rfl) rfl ?_) | (refine so_is (.binOp .leq 3 _ _ _) ?_; refine so_q (qt_leq rfl rfl) rfl ?_) | (refine so_is (.pick _ _ _) ?_; (refine so_q (qt_pkC rfl rfl) rfl ?_)) | refine so_nil ?_ | refine so_g_no rfl rfl rfl rfl ?_ | refine so_g_yes rfl rfl rfl rfl ?_ | refine so_g_if rfl rfl (fun hg => ?_) (fun hg => ?_) | refine sk_seq ?_ | refine sk_region ?_)
  all_goals ((apply sk_ret; apply ret_eq; (· apply RetOK.p; (· (apply GvA.cons; (· exact .tmp _); (· exact GvP.c (.lit _))); exact GvA.nil); (· (decide)))))
  all_goals (simp [dB, inB, *]; try omega)

end Go.Proofs.Ytfgnjcodilebeaa

namespace Go.Proofs.Ytfgnjcodilebeaa
open Go.RowKit
set_option maxRecDepth 10000
set_option maxHeartbeats 4000000
theorem allWithin_p (l : List Int) (lo hi : Int) : PC Try.prog 54 [.c (eI l), .c (dI lo), .c (dI hi)] (.p (.c (dB (allB l lo hi)))) := by
  refine pc_intro Try.func54 rfl rfl rfl (by kernel_rfl) rfl rfl ?_; rintro ⟨hl, -⟩
  have hl := hl.len
  repeat' (first | (refine so_is (.assign _) ?_; (refine so_q (qt_asC rfl) rfl ?_)) | (refine so_is (.move _) ?_; (refine so_q (qt_mvC rfl) rfl ?_)) | (refine so_is (.call ⟨.builtin .len, _, #[31]⟩) ?_; (refine so_q (qt_len_d rfl (by kernel_rfl)) rfl ?_)) | refine so_nil ?_ | refine sk_seq ?_ | refine sk_block ?_ | refine sk_region ?_)
  refine sk_loopL [1, 2, 9, 10] [] (fun k => [(11, iN k)]) (fun _ => []) (fun k => k ≤ l.length ∧ (l.take k).all (fun n => inB n lo hi) = true) (fun k => l.length - k) (0) ?_ (by (repeat (first | exact trivial | refine ⟨(by (rfl)), ?_⟩))) (by (repeat (exact trivial))) ?_
  · simp
  rintro k ⟨hk, ha⟩
  repeat' (first | (refine so_is (.assign _) ?_; (refine so_q (qt_asC rfl) rfl ?_)) | (refine so_is (.move _) ?_; (refine so_q (qt_mvC rfl) rfl ?_)) | (refine so_is (.binOp .lss 3 _ _ _) ?_; refine so_q (qt_lss rfl rfl) rfl ?_) | (refine so_is (.indexAddr 31 _ _) ?_; (refine so_q (qt_idxI rfl rfl (by kernel_rfl) (by (omega)) (by (omega))) rfl ?_)) | (refine so_is (.load 3 _) ?_; (refine so_q (qt_load_pt rfl (by kernel_rfl) rfl) rfl ?_)) | (refine so_is (.unOp .not 4 _) ?_; refine so_q (qt_not rfl) rfl ?_) | (refine so_is (.binOp .add 3 _ _ _) ?_; refine so_q (qt_addI rfl rfl (by (omega))) rfl ?_) | (refine so_is (.call ⟨.value (.func 53), _, _⟩) ?_; (apply so_call0 (fid := 53); (· (repeat (first | exact SeA.nil | apply SeA.cons (.c (.d _))))); (· exact within_p _ _ _); (· rfl))) | refine so_nil ?_ | refine sk_seq ?_ | refine sk_block ?_ | refine sk_blk ?_ | refine sk_exit rfl ?_ | refine sk_skip ?_ | refine sk_region ?_ | refine sk_if rfl (fun hc => ?_) (fun hc => ?_) | refine sk_not rfl (fun hc => ?_) (fun hc => ?_))
  · rename_i hk'
    rw [atZ_nat (by omega)] at hc
    (apply sk_ret; apply ret_eq; (· apply RetOK.p; (· (apply GvA.cons; (· exact .tmp _); (· exact GvP.c (.lit _))); exact GvA.nil); (· (decide))))
    rw [allB, all_f (by omega) hc]
  · rename_i hk'
    rw [atZ_nat (by omega)] at hc
    refine sk_back ?_; refine ⟨k + 1, ?_, ?_, le_at rfl (by (repeat (first | exact trivial | refine ⟨(by (rfl)), ?_⟩))) (by (repeat (first | exact trivial | refine ⟨rfl, ?_⟩))) (by (repeat (exact trivial))) (by (repeat (first | exact trivial | refine ⟨.inr rfl, ?_⟩)))⟩
    · exact ⟨by omega, by rw [take_succ_all _ _ _ (by omega), ha, hc]; rfl⟩
    · omega
  · (apply sk_ret; apply ret_eq; (· apply RetOK.p; (· (apply GvA.cons; (· exact .tmp _); (· exact GvP.c (.lit _))); exact GvA.nil); (· (decide))))
    rw [allB, all_t (by omega) ha]

end Go.Proofs.Ytfgnjcodilebeaa

namespace Go.Proofs.Ytfgnjcodilebeaa
open Go.RowKit
set_option maxRecDepth 10000
set_option maxHeartbeats 4000000
theorem isBits_p (l : List Int) (n : Int) : PC Try.prog 62 [.c (eI l), .c (dI n)] (.p (.c (dB (bitsB l n)))) := by
  refine pc_intro Try.func62 rfl rfl rfl (by kernel_rfl) rfl rfl ?_; intro _
  repeat' (first | (refine so_is (.assign _) ?_; (refine so_q (qt_asC rfl) rfl ?_)) | (refine so_is (.move _) ?_; (refine so_q (qt_mvC rfl) rfl ?_)) | (refine so_is (.call ⟨.builtin .len, _, #[31]⟩) ?_; (refine so_q (qt_len_d rfl (by kernel_rfl)) rfl ?_)) | (refine so_is (.binOp .eql 3 _ _ _) ?_; refine so_q (qt_eql rfl rfl) rfl ?_) | (refine so_is (.pick _ _ _) ?_; (refine so_q (qt_pkC rfl rfl) rfl ?_)) | (refine so_is (.call ⟨.value (.func 54), _, _⟩) ?_; (apply so_call0 (fid := 54); (· (repeat (first | exact SeA.nil | apply SeA.cons (.c (.d _))))); (· exact allWithin_p _ _ _); (· rfl))) | refine so_nil ?_ | refine so_g_no rfl rfl rfl rfl ?_ | refine so_g_yes rfl rfl rfl rfl ?_ | refine so_g_if rfl rfl (fun hg => ?_) (fun hg => ?_) | refine sk_seq ?_ | refine sk_region ?_)
  all_goals (apply sk_ret; apply ret_eq; (· apply RetOK.p; (· (apply GvA.cons; (· exact .tmp _); (· exact GvP.c (.lit _))); exact GvA.nil); (· (decide))))
  all_goals simp [bitsB, *]

end Go.Proofs.Ytfgnjcodilebeaa

namespace Go.Proofs.Ytfgnjcodilebeaa
open Go.RowKit
set_option maxRecDepth 10000
set_option maxHeartbeats 4000000
abbrev dU (n : Int) : D := .lit (.int .u64 n)
theorem OnesCount64_p (n : Nat) (h : n < 8) : PC Try.prog 102 [.c (dU n)] (.p (.c (dI ((n / 4 + n / 2 % 2 + n % 2 : Nat) : Int)))) := by
  rcases (by omega : n = 0 ∨ n = 1 ∨ n = 2 ∨ n = 3 ∨ n = 4 ∨ n = 5 ∨ n = 6 ∨ n = 7) with rfl | rfl | rfl | rfl | rfl | rfl | rfl | rfl
  all_goals
    refine pc_intro Try.func102 rfl rfl rfl (by kernel_rfl) rfl rfl ?_; intro _
    repeat' (first | (refine so_is (.assign _) ?_; (refine so_q (qt_asC rfl) rfl ?_)) | (refine so_is (.move _) ?_; (refine so_q (qt_mvC rfl) rfl ?_)) | (refine so_is (.binOp .shr 90 _ _ _) ?_; (first | refine so_q (qt_shrC (c := 2) rfl rfl (by decide)) rfl ?_ | refine so_q (qt_shrC (c := 4) rfl rfl (by decide)) rfl ?_ | refine so_q (qt_shrC (c := 16) rfl rfl (by decide)) rfl ?_ | refine so_q (qt_shrC (c := 256) rfl rfl (by decide)) rfl ?_ | refine so_q (qt_shrC (c := 65536) rfl rfl (by decide)) rfl ?_ | refine so_q (qt_shrC (c := 4294967296) rfl rfl (by decide)) rfl ?_)) | (refine so_is (.binOp .and 90 _ _ _) ?_; refine so_q (qt_bits rfl rfl (by simp)) rfl ?_) | (refine so_is (.binOp .add 90 _ _ _) ?_; refine so_q (qt_add rfl rfl) rfl ?_) | (refine so_is (.convert 90 3 _) ?_; (refine so_q (qt_convI (k' := .i64) rfl (by kernel_rfl) (by kernel_rfl) (by (rfl))) rfl ?_)) | (refine so_is (.binOp .and 3 _ _ _) ?_; refine so_q (qt_andM 7 (c := 128) rfl rfl (by decide)) rfl ?_) | refine so_nil ?_ | refine sk_seq ?_ | refine sk_region ?_)
    (apply sk_ret; apply ret_eq; (· apply RetOK.p; (· (apply GvA.cons; (· exact .tmp _); (· exact GvP.c (.lit _))); exact GvA.nil); (· (decide))))
    rfl
theorem OnesCount_p (n : Nat) (h : n < 8) : PC Try.prog 91 [.c (dU n)] (.p (.c (dI ((n / 4 + n / 2 % 2 + n % 2 : Nat) : Int)))) := by
  refine pc_intro Try.func91 rfl rfl rfl (by kernel_rfl) rfl rfl ?_; intro _
  repeat' (first | (refine so_is (.assign _) ?_; (refine so_q (qt_asC rfl) rfl ?_)) | (refine so_is (.move _) ?_; (refine so_q (qt_mvC rfl) rfl ?_)) | (refine so_is (.call ⟨.value (.func 102), _, _⟩) ?_; (apply so_call0 (fid := 102); (· (repeat (first | exact SeA.nil | apply SeA.cons (.c (.d _))))); (· exact OnesCount64_p n h); (· rfl))) | refine so_nil ?_ | refine sk_seq ?_ | refine sk_skip ?_ | refine sk_region ?_ | refine sk_false rfl ?_)
  · (apply sk_ret; apply ret_eq; (· apply RetOK.p; (· (apply GvA.cons; (· exact .tmp _); (· exact GvP.c (.lit _))); exact GvA.nil); (· (decide))))
    rfl

end Go.Proofs.Ytfgnjcodilebeaa

namespace Go.Proofs.Ytfgnjcodilebeaa
open Go.RowKit
set_option maxRecDepth 10000
set_option maxHeartbeats 4000000
theorem parity_p (n : Nat) (h : n < 8) : PC Try.prog 64 [.c (dI n)] (.p (.c (dI (parZ n)))) := by
  refine pc_intro Try.func64 rfl rfl rfl (by kernel_rfl) rfl rfl ?_; intro _
  repeat' (first | (refine so_is (.assign _) ?_; (refine so_q (qt_asC rfl) rfl ?_)) | (refine so_is (.move _) ?_; (refine so_q (qt_mvC rfl) rfl ?_)) | (refine so_is (.convert 3 80 _) ?_; (refine so_q (qt_convI (k' := .u64) rfl (by kernel_rfl) (by kernel_rfl) (by (exact wrapU64 (by (omega))))) rfl ?_)) | (refine so_is (.binOp .rem 3 _ _ _) ?_; (refine so_q (qt_remN rfl rfl (by (omega)) (by (omega)) (by (omega))) rfl ?_)) | (refine so_is (.call ⟨.value (.func 91), _, _⟩) ?_; (apply so_call0 (fid := 91); (· (repeat (first | exact SeA.nil | apply SeA.cons (.c (.d _))))); (· exact OnesCount_p n h); (· rfl))) | refine so_nil ?_ | refine sk_seq ?_ | refine sk_region ?_)
  · (apply sk_ret; apply ret_eq; (· apply RetOK.p; (· (apply GvA.cons; (· exact .tmp _); (· exact GvP.c (.lit _))); exact GvA.nil); (· (decide))))
    simp [parZ]; omega
theorem parityZ_p (p : Int) (h0 : 0 ≤ p) (h : p < 8) : PC Try.prog 64 [.c (dI p)] (.p (.c (dI (parZ p)))) := by
  obtain ⟨n, rfl⟩ := Int.eq_ofNat_of_zero_le h0
  exact parity_p n (by omega)

end Go.Proofs.Ytfgnjcodilebeaa

namespace Go.Proofs.Ytfgnjcodilebeaa
open Go.RowKit
set_option maxRecDepth 10000
set_option maxHeartbeats 4000000
theorem bitOf_p (q : Int) (m : Nat) (hm : m < 3) : PC Try.prog 79 [.c (dI q), .c (dI m)] (.p (.c (dI (bitZ q m)))) := by
  refine pc_intro Try.func79 rfl rfl rfl (by kernel_rfl) rfl rfl ?_; intro _
  repeat' (first | (refine so_is (.assign _) ?_; (refine so_q (qt_asC rfl) rfl ?_)) | (refine so_is (.move _) ?_; (refine so_q (qt_mvC rfl) rfl ?_)) | (refine so_is (.binOp .sub 3 _ _ _) ?_; refine so_q (qt_subI rfl rfl (by (omega))) rfl ?_) | (refine so_is (.binOp .shr 3 _ _ _) ?_; (refine so_q (qt_shrI rfl rfl (by (omega)) (by (omega))) rfl ?_)) | (refine so_is (.binOp .and 3 _ _ _) ?_; refine so_q (qt_andM 1 (c := 2) rfl rfl (by decide)) rfl ?_) | refine so_nil ?_ | refine sk_seq ?_ | refine sk_region ?_)
  · (apply sk_ret; apply ret_eq; (· apply RetOK.p; (· (apply GvA.cons; (· exact .tmp _); (· exact GvP.c (.lit _))); exact GvA.nil); (· (decide))))
    have : (2 - (m : Int)).toNat = 2 - m := by omega
    rw [this, bitZ]

end Go.Proofs.Ytfgnjcodilebeaa

namespace Go.Proofs.Ytfgnjcodilebeaa
open Go.RowKit
set_option maxRecDepth 10000
set_option maxHeartbeats 4000000
theorem played_p (l : List Int) (q : Int) (h : bitsB l 6 = true) : PC Try.prog 65 [.c (eI l), .c (dI q)] (.p (.c (dI (playV l q)))) := by
  refine pc_intro Try.func65 rfl rfl rfl (by kernel_rfl) rfl rfl ?_; intro _
  have hl6 := bitsB_len h
  repeat' (first | (refine so_is (.assign _) ?_; (refine so_q (qt_asC rfl) rfl ?_)) | (refine so_is (.move _) ?_; (refine so_q (qt_mvC rfl) rfl ?_)) | refine so_nil ?_ | refine sk_seq ?_ | refine sk_block ?_ | refine sk_region ?_)
  refine sk_loopL [0, 1] [] (fun m => [(7, iN m), (5, iZ (playP l q m))]) (fun _ => []) (fun m => m ≤ 3) (fun m => 3 - m) (0) ?_ (by (repeat (first | exact trivial | refine ⟨(by (rfl)), ?_⟩))) (by (repeat (exact trivial))) ?_
  · simp
  intro m hm
  have b1 := bitZ_le q m
  have b2 : m ≤ 2 → _ := fun h2 => playP_4 h q m h2
  have b3 : m ≤ 2 → _ := fun h2 => bitsB_at h (i := 2 * m + bitZ q m) (by omega) (by omega)
  repeat' (first | (refine so_is (.assign _) ?_; (refine so_q (qt_asC rfl) rfl ?_)) | (refine so_is (.move _) ?_; (refine so_q (qt_mvC rfl) rfl ?_)) | (refine so_is (.binOp .lss 3 _ _ _) ?_; refine so_q (qt_lss rfl rfl) rfl ?_) | (refine so_is (.binOp .mul 3 _ _ _) ?_; refine so_q (qt_mulI rfl rfl (by (omega))) rfl ?_) | (refine so_is (.binOp .add 3 _ _ _) ?_; refine so_q (qt_addI rfl rfl (by (omega))) rfl ?_) | (refine so_is (.indexAddr 31 _ _) ?_; (refine so_q (qt_idxI rfl rfl (by kernel_rfl) (by (omega)) (by (omega))) rfl ?_)) | (refine so_is (.load 3 _) ?_; (refine so_q (qt_load_pt rfl (by kernel_rfl) rfl) rfl ?_)) | (refine so_is (.call ⟨.value (.func 79), _, _⟩) ?_; (apply so_call0 (fid := 79); (· (repeat (first | exact SeA.nil | apply SeA.cons (.c (.d _))))); (· exact bitOf_p _ _ (by omega)); (· rfl))) | refine so_nil ?_ | refine sk_seq ?_ | refine sk_block ?_ | refine sk_blk ?_ | refine sk_exit rfl ?_ | refine sk_skip ?_ | refine sk_region ?_ | refine sk_if rfl (fun hc => ?_) (fun hc => ?_))
  · refine sk_back ?_; refine ⟨m + 1, ?_, ?_, le_at rfl (by (repeat (first | exact trivial | refine ⟨(by (rfl)), ?_⟩))) (by (repeat (first | exact trivial | refine ⟨rfl, ?_⟩))) (by (repeat (exact trivial))) (by (repeat (exact trivial)))⟩
    · omega
    · omega
  · have : m = 3 := by omega
    subst this
    (apply sk_ret; apply ret_eq; (· apply RetOK.p; (· (apply GvA.cons; (· exact .tmp _); (· exact GvP.c (.lit _))); exact GvA.nil); (· (decide))))
    rfl

end Go.Proofs.Ytfgnjcodilebeaa

namespace Go.Proofs.Ytfgnjcodilebeaa
open Go.RowKit
set_option maxRecDepth 10000
set_option maxHeartbeats 4000000
theorem plays_p (x y : Nat) (h : x + y ≤ 6) : PC Try.prog 63 [.c (dI x), .c (dI y)] (.p (.c (eII (playsF (x + y))))) := by
  have e2 : (2 : Nat) ^ (x + y) ≤ 64 := Nat.le_trans (Nat.pow_le_pow_right (by omega) h) (by decide)
  obtain ⟨N, hN⟩ : ∃ N : Nat, N = 2 ^ (x + y) := ⟨_, rfl⟩
  rw [← hN] at e2
  have e1 : (1 : Int) * 2 ^ ((x : Int) + y).toNat = N := by
    rw [show ((x : Int) + y).toNat = x + y by omega, hN, Int.natCast_pow]; simp
  refine pc_intro Try.func63 rfl rfl rfl (by kernel_rfl) rfl rfl ?_; intro _
  repeat' (first | (refine so_is (.assign _) ?_; (refine so_q (qt_asC rfl) rfl ?_)) | (refine so_is (.buildSlice 22 0 _) ?_; (apply so_bslice (sz := 1) (by_ := 24); (· kernel_rfl); (· decide); (· (repeat (exact GvS.nil _))); (· (decide)); (· rfl); (· rfl); (· rfl))) | (refine so_is (.move _) ?_; (refine so_q (qt_mvC rfl) rfl ?_)) | (refine so_is (.binOp .add 3 _ _ _) ?_; refine so_q (qt_addI rfl rfl (by (omega))) rfl ?_) | (refine so_is (.binOp .shl 3 _ _ _) ?_; (refine so_q (qt_shlI rfl rfl (by (omega)) (by (omega)) (by (omega))) rfl ?_)) | refine so_nil ?_ | refine sk_seq ?_ | refine sk_block ?_ | refine sk_region ?_)
  refine sk_loopL [0, 1, 13] [17, 34, 35, 39, 40] (fun c => [(14, iN c), (5, .c (.ls 9 1 0 c))]) (fun c => [(9, .row 1 (cII ((List.range c).map (bitsM (x + y)))))]) (fun c => c ≤ N) (fun c => N - c) (0) ?_ (by (repeat (first | exact trivial | refine ⟨(by (rfl)), ?_⟩))) (by (repeat (first | exact trivial | refine ⟨(by (rfl)), ?_⟩))) ?_
  · omega
  intro c hc
  repeat' (first | (refine so_is (.assign _) ?_; (refine so_q (qt_asC rfl) rfl ?_)) | (refine so_is (.move _) ?_; (refine so_q (qt_mvC rfl) rfl ?_)) | (refine so_is (.binOp .add 3 _ _ _) ?_; refine so_q (qt_addI rfl rfl (by (omega))) rfl ?_) | (refine so_is (.binOp .lss 3 _ _ _) ?_; refine so_q (qt_lss rfl rfl) rfl ?_) | (refine so_is (.buildSlice 31 0 _) ?_; (apply so_bslice (sz := 1) (by_ := 8); (· kernel_rfl); (· decide); (· (repeat (exact GvS.nil _))); (· (decide)); (· rfl); (· rfl); (· rfl))) | refine so_nil ?_ | refine sk_seq ?_ | refine sk_block ?_ | refine sk_exit rfl ?_ | refine sk_skip ?_ | refine sk_region ?_ | refine sk_if rfl (fun hc => ?_) (fun hc => ?_))
  · refine sk_loopL [0, 1, 5, 6, 13, 14, 20] [9, 34, 35, 39, 40] (fun i => [(21, iN i), (7, .c (.ls 17 1 0 i))]) (fun i => [(17, .row 1 (cI (rowF (fun i => (bitN c (x + y - 1 - i) : Int)) i)))]) (fun i => i ≤ x + y) (fun i => x + y - i) (0) ?_ (by (repeat (first | exact trivial | refine ⟨(by (rfl)), ?_⟩))) (by (repeat (first | exact trivial | refine ⟨(by (rfl)), ?_⟩))) ?_
    · omega
    intro i hi
    have e3 : i < x + y → (c : Int) / 2 ^ ((x : Int) + y - 1 - i).toNat % 2 = (bitN c (x + y - 1 - i) : Int) := fun h => by
      rw [show ((x : Int) + y - 1 - i).toNat = x + y - 1 - i by omega, bit_nat]
    repeat' (first | (refine so_is (.assign _) ?_; (refine so_q (qt_asC rfl) rfl ?_)) | (refine so_is (.move _) ?_; (refine so_q (qt_mvC rfl) rfl ?_)) | (refine so_is (.binOp .add 3 _ _ _) ?_; refine so_q (qt_addI rfl rfl (by (omega))) rfl ?_) | (refine so_is (.binOp .lss 3 _ _ _) ?_; refine so_q (qt_lss rfl rfl) rfl ?_) | (refine so_is (.binOp .sub 3 _ _ _) ?_; refine so_q (qt_subI rfl rfl (by (omega))) rfl ?_) | (refine so_is (.binOp .shr 3 _ _ _) ?_; (refine so_q (qt_shrI rfl rfl (by (omega)) (by (omega))) rfl ?_)) | (refine so_is (.binOp .and 3 _ _ _) ?_; refine so_q (qt_andM 1 (c := 2) rfl rfl (by decide)) rfl ?_) | (refine so_is (.buildSlice 31 1 _) ?_; (apply so_bslice (sz := 1) (by_ := 8); (· kernel_rfl); (· decide); (· (repeat (first | exact GvS.nil _ | apply GvS.c rfl rfl (.lit _) rfl))); (· (decide)); (· rfl); (· rfl); (· rfl))) | (refine so_is (.call ⟨.builtin .append, _, #[31, 31]⟩) ?_; ((apply so_appR (sz := 1) (by_ := 8); (· rfl); (· rfl); (· ((simp; done))); (· exact .row _ _ _ _ rfl (by (rfl))); (· (decide)); (· kernel_rfl); (· decide); (· (omega)); (· (omega)); (· rfl); (· rfl); (· rfl)))) | (refine so_is (.buildSlice 22 1 _) ?_; (apply so_bslice (sz := 1) (by_ := 24); (· kernel_rfl); (· decide); (· (repeat (first | exact GvS.nil _ | apply GvS.c rfl rfl (.row _ _ _ _ rfl (by ((simp; done)))) rfl))); (· (decide)); (· rfl); (· rfl); (· rfl))) | (refine so_is (.call ⟨.builtin .append, _, #[22, 22]⟩) ?_; ((apply so_appR (sz := 1) (by_ := 24); (· rfl); (· rfl); (· ((simp; done))); (· exact .row _ _ _ _ rfl (by (rfl))); (· (decide)); (· kernel_rfl); (· decide); (· (omega)); (· (omega)); (· rfl); (· rfl); (· rfl)))) | refine so_nil ?_ | refine sk_seq ?_ | refine sk_block ?_ | refine sk_blk ?_ | refine sk_exit rfl ?_ | refine sk_skip ?_ | refine sk_region ?_ | refine sk_if rfl (fun hc => ?_) (fun hc => ?_))
    · have e3 := e3 (by omega)
      simp at e3
      refine sk_back ?_; refine ⟨i + 1, ?_, ?_, le_at rfl (by (repeat (first | exact trivial | refine ⟨(by (rfl)), ?_⟩))) (by (repeat (first | exact trivial | refine ⟨rfl, ?_⟩))) (by (repeat (first | exact trivial | refine ⟨(by ((refine row_eq rfl ?_; simp  [rowF_snoc, e3]; done))), ?_⟩))) (by (repeat (first | exact trivial | refine ⟨.inr rfl, ?_⟩)))⟩
      · omega
      · omega
    · have h8 : i = x + y := by omega
      subst h8
      refine sk_back ?_; refine ⟨c + 1, ?_, ?_, le_at rfl (by (repeat (first | exact trivial | refine ⟨(by (rfl)), ?_⟩))) (by (repeat (first | exact trivial | refine ⟨rfl, ?_⟩))) (by (repeat (first | exact trivial | refine ⟨(by ((refine row_eq rfl ?_; simp  [plays_snoc, bitsM]; done))), ?_⟩))) (by (repeat (first | exact trivial | refine ⟨.inr rfl, ?_⟩)))⟩
      · omega
      · omega
  · have h8 : c = N := by omega
    subst h8
    subst hN
    (apply sk_ret; apply ret_eq; (· apply RetOK.p; (· (apply GvA.cons; (· exact .tmp _); (· (exact GvP.c (.row _ _ _ _ rfl (by ((simp; done))))))); exact GvA.nil); (· (decide))))
    simp [playsF]

end Go.Proofs.Ytfgnjcodilebeaa

namespace Go.Proofs.Ytfgnjcodilebeaa
open Go.RowKit
set_option maxRecDepth 10000
set_option maxHeartbeats 4000000
theorem TrioValue_p (w odd : List Int) : PC Try.prog 22 [.c (eI w), .c (eI odd)] (.t [.c (dI (if valB w odd = true then trioVal w odd else 0)), .c (dB (valB w odd))]) := by
  refine pc_intro Try.func22 rfl rfl rfl (by kernel_rfl) rfl rfl ?_; intro _
  repeat' (first | (refine so_is (.assign _) ?_; (refine so_q (qt_asC rfl) rfl ?_)) | (refine so_is (.move _) ?_; (refine so_q (qt_mvC rfl) rfl ?_)) | (refine so_is (.call ⟨.builtin .len, _, #[31]⟩) ?_; (refine so_q (qt_len_d rfl (by kernel_rfl)) rfl ?_)) | (refine so_is (.binOp .neq 3 _ _ _) ?_; refine so_q (qt_neq rfl rfl) rfl ?_) | (refine so_is (.unOp .not 4 _) ?_; refine so_q (qt_not rfl) rfl ?_) | (refine so_is (.pick _ _ _) ?_; (refine so_q (qt_pkC rfl rfl) rfl ?_)) | (refine so_is (.call ⟨.builtin .len, _, #[22]⟩) ?_; (refine so_q (qt_len_d rfl (by kernel_rfl)) rfl ?_)) | (refine so_is (.call ⟨.value (.func 54), _, _⟩) ?_; (apply so_call0 (fid := 54); (· (repeat (first | exact SeA.nil | apply SeA.cons (.c (.d _))))); (· exact allWithin_p _ _ _); (· rfl))) | (refine so_is (.call ⟨.value (.func 62), _, _⟩) ?_; (apply so_call0 (fid := 62); (· (repeat (first | exact SeA.nil | apply SeA.cons (.c (.d _))))); (· exact isBits_p _ _); (· rfl))) | (refine so_is (.call ⟨.value (.func 63), _, _⟩) ?_; (apply so_call0 (fid := 63); (· (repeat (first | exact SeA.nil | apply SeA.cons (.c (.d _))))); (· exact plays_p 3 3 (by omega)); (· rfl))) | refine so_nil ?_ | refine so_g_no rfl rfl rfl rfl ?_ | refine so_g_yes rfl rfl rfl rfl ?_ | refine so_g_if rfl rfl (fun hg => ?_) (fun hg => ?_) | refine so_g_b rfl rfl (fun hg => ?_) (fun hg => ?_) | refine sk_seq ?_ | refine sk_block ?_ | refine sk_skip ?_ | refine sk_region ?_ | refine sk_true rfl ?_ | refine sk_not rfl (fun hc => ?_) (fun hc => ?_))
  · (apply sk_ret; apply ret_eq; (· apply RetOK.t; (· (apply GvA.cons; (· exact .tmp _); (· exact GvP.c (.lit _))); (apply GvA.cons; (· exact .tmp _); (· exact GvP.c (.lit _))); exact GvA.nil); (· rfl); (· (decide))))
    have : ¬ w.length = 8 := by omega
    simp [valB, this]
  · (apply sk_ret; apply ret_eq; (· apply RetOK.t; (· (apply GvA.cons; (· exact .tmp _); (· exact GvP.c (.lit _))); (apply GvA.cons; (· exact .tmp _); (· exact GvP.c (.lit _))); exact GvA.nil); (· rfl); (· (decide))))
    simp at hg
    simp [valB, hg]
  · (apply sk_ret; apply ret_eq; (· apply RetOK.t; (· (apply GvA.cons; (· exact .tmp _); (· exact GvP.c (.lit _))); (apply GvA.cons; (· exact .tmp _); (· exact GvP.c (.lit _))); exact GvA.nil); (· rfl); (· (decide))))
    simp [valB, hc]
  have hv : valB w odd = true := by simp_all [valB]; omega
  have hw : w.length = 8 := by simp at *; omega
  have ho := bitsB_len hc
  refine sk_loopL [0, 1, 25, 26] [25] (fun c => [(27, iN c), (6, iZ (bestN (fun c => scoreN w odd (fun q => playV (bitsM 6 c) q) 8) c))]) (fun _ => []) (fun c => c ≤ 64) (fun c => 64 - c) (0) ?_ (by (repeat (first | exact trivial | refine ⟨(by (rfl)), ?_⟩))) (by (repeat (exact trivial))) ?_
  · omega
  intro c hc64
  have hp : c < 64 → atZ (playsF 6) (c : Int) = bitsM 6 c := fun h => playsF_at h
  repeat' (first | (refine so_is (.assign _) ?_; (refine so_q (qt_asC rfl) rfl ?_)) | (refine so_is (.move _) ?_; (refine so_q (qt_mvC rfl) rfl ?_)) | (refine so_is (.call ⟨.builtin .len, _, #[31]⟩) ?_; (refine so_q (qt_len_d rfl (by kernel_rfl)) rfl ?_)) | (refine so_is (.binOp .lss 3 _ _ _) ?_; refine so_q (qt_lss rfl rfl) rfl ?_) | (refine so_is (.indexAddr 22 _ _) ?_; (refine so_q (qt_idxII rfl rfl (by kernel_rfl) (by (omega)) (by (omega))) rfl ?_)) | (refine so_is (.load 31 _) ?_; (refine so_q (qt_load_pt rfl (by kernel_rfl) rfl) rfl ?_)) | refine so_nil ?_ | refine sk_seq ?_ | refine sk_block ?_ | refine sk_exit rfl ?_ | refine sk_skip ?_ | refine sk_region ?_ | refine sk_if rfl (fun hc => ?_) (fun hc => ?_))
  · have hp := hp (by simp at *; omega)
    refine sk_loopL [0, 1, 6, 8, 25, 26, 27, 31, 32] [25] (fun q => [(33, iN q), (9, iZ (scoreN w odd (fun q => playV (bitsM 6 c) q) q))]) (fun _ => []) (fun q => q ≤ 8) (fun q => 8 - q) (0) ?_ (by (repeat (first | exact trivial | refine ⟨(by (rfl)), ?_⟩))) (by (repeat (exact trivial))) ?_
    · omega
    intro q hq
    have hb := bitsM_bits 6 c
    have pv := playV_bd hb q
    have sb := scoreN_bd hv (fun q => playV (bitsM 6 c) q) q (by omega)
    have wb := fun h => allB_at (l := w) (lo := 0) (hi := 99) (by simp_all [valB]) (i := q) (by omega) h
    rw [hp]
    repeat' (first | (refine so_is (.assign _) ?_; (refine so_q (qt_asC rfl) rfl ?_)) | (refine so_is (.move _) ?_; (refine so_q (qt_mvC rfl) rfl ?_)) | (refine so_is (.binOp .lss 3 _ _ _) ?_; refine so_q (qt_lss rfl rfl) rfl ?_) | (refine so_is (.indexAddr 31 _ _) ?_; (refine so_q (qt_idxI rfl rfl (by kernel_rfl) (by (omega)) (by (omega))) rfl ?_)) | (refine so_is (.load 3 _) ?_; (refine so_q (qt_load_pt rfl (by kernel_rfl) rfl) rfl ?_)) | (refine so_is (.binOp .eql 3 _ _ _) ?_; refine so_q (qt_eql rfl rfl) rfl ?_) | (refine so_is (.binOp .add 3 _ _ _) ?_; refine so_q (qt_addI rfl rfl (by (omega))) rfl ?_) | (refine so_is (.call ⟨.builtin .max, _, #[3, 3]⟩) ?_; refine so_q (qt_max rfl rfl) rfl ?_) | (refine so_is (.call ⟨.value (.func 65), _, _⟩) ?_; (apply so_call0 (fid := 65); (· (repeat (first | exact SeA.nil | apply SeA.cons (.c (.d _))))); (· exact played_p _ _ hb); (· rfl))) | (refine so_is (.call ⟨.value (.func 64), _, _⟩) ?_; (apply so_call0 (fid := 64); (· (repeat (first | exact SeA.nil | apply SeA.cons (.c (.d _))))); (· exact parityZ_p _ (by omega) (by omega)); (· rfl))) | refine so_nil ?_ | refine sk_seq ?_ | refine sk_block ?_ | refine sk_blk ?_ | refine sk_exit rfl ?_ | refine sk_skip ?_ | refine sk_region ?_ | refine sk_draw 11 (fun _ => false) (.step 0 true (.step 1 true (.step 4 true (.step 5 true (.step 6 true (.step 7 true (.step 2 false (.step 3 false (.step 8 true .nil))))))))) (by kernel_rfl) (by kernel_rfl) ?_ | refine sk_if rfl (fun hc => ?_) (fun hc => ?_))
    · refine sk_back ?_; refine ⟨q + 1, ?_, ?_, le_at rfl (by (repeat (first | exact trivial | refine ⟨(by (first | rfl | (refine int_eq rfl ?_; ((simp  [scoreN, hc]; done))))), ?_⟩))) (by (repeat (first | exact trivial | refine ⟨rfl, ?_⟩))) (by (repeat (exact trivial))) (by (repeat (first | exact trivial | refine ⟨.inr rfl, ?_⟩)))⟩
      · omega
      · omega
    · refine sk_back ?_; refine ⟨q + 1, ?_, ?_, le_at rfl (by (repeat (first | exact trivial | refine ⟨(by (first | rfl | (refine int_eq rfl ?_; ((simp  [scoreN, hc]; done))))), ?_⟩))) (by (repeat (first | exact trivial | refine ⟨rfl, ?_⟩))) (by (repeat (exact trivial))) (by (repeat (first | exact trivial | refine ⟨.inr rfl, ?_⟩)))⟩
      · omega
      · omega
    · have h8 : q = 8 := by omega
      subst h8
      refine sk_back ?_; refine ⟨c + 1, ?_, ?_, le_at rfl (by (repeat (first | exact trivial | refine ⟨(by (rfl)), ?_⟩))) (by (repeat (first | exact trivial | refine ⟨rfl, ?_⟩))) (by (repeat (exact trivial))) (by (repeat (first | exact trivial | refine ⟨.inr rfl, ?_⟩)))⟩
      · simp at *; omega
      · simp at *; omega
  · have h8 : c = 64 := by simp at *; omega
    subst h8
    (apply sk_ret; apply ret_eq; (· apply RetOK.t; (· (apply GvA.cons; (· exact .tmp _); (· exact GvP.c (.lit _))); (apply GvA.cons; (· exact .tmp _); (· exact GvP.c (.lit _))); exact GvA.nil); (· rfl); (· (decide))))
    simp [hv, trioVal]

end Go.Proofs.Ytfgnjcodilebeaa

namespace Go.Proofs.Ytfgnjcodilebeaa
open Go.RowKit
set_option maxRecDepth 10000
set_option maxHeartbeats 4000000
theorem eqIntS_p (a b : List Int) : PC Try.prog 23 [.c (eI a), .c (eI b)] (.p (.c (dB (decide (a = b))))) := by
  refine pc_intro Try.func23 rfl rfl rfl (by kernel_rfl) rfl rfl ?_; rintro ⟨hl, hm, -⟩
  have hl := hl.len
  have hm := hm.len
  repeat' (first | (refine so_is (.assign _) ?_; (refine so_q (qt_asC rfl) rfl ?_)) | (refine so_is (.move _) ?_; (refine so_q (qt_mvC rfl) rfl ?_)) | (refine so_is (.call ⟨.builtin .len, _, #[31]⟩) ?_; (refine so_q (qt_len_d rfl (by kernel_rfl)) rfl ?_)) | (refine so_is (.binOp .neq 3 _ _ _) ?_; refine so_q (qt_neq rfl rfl) rfl ?_) | refine so_nil ?_ | refine sk_seq ?_ | refine sk_block ?_ | refine sk_skip ?_ | refine sk_region ?_ | refine sk_if rfl (fun hc => ?_) (fun hc => ?_))
  · (apply sk_ret; apply ret_eq; (· apply RetOK.p; (· (apply GvA.cons; (· exact .tmp _); (· exact GvP.c (.lit _))); exact GvA.nil); (· (decide))))
    have : a ≠ b := fun e => by subst e; simp at *
    simp [this]
  have hab : a.length = b.length := by simp at *; omega
  refine sk_loopL [0, 1] [] (fun k => [(5, iN k)]) (fun _ => []) (fun k => k ≤ a.length ∧ a.take k = b.take k) (fun k => a.length - k) (0) ?_ (by (repeat (first | exact trivial | refine ⟨(by (rfl)), ?_⟩))) (by (repeat (exact trivial))) ?_
  · simp
  rintro k ⟨hk, hs⟩
  repeat' (first | (refine so_is (.assign _) ?_; (refine so_q (qt_asC rfl) rfl ?_)) | (refine so_is (.move _) ?_; (refine so_q (qt_mvC rfl) rfl ?_)) | (refine so_is (.call ⟨.builtin .len, _, #[31]⟩) ?_; (refine so_q (qt_len_d rfl (by kernel_rfl)) rfl ?_)) | (refine so_is (.binOp .neq 3 _ _ _) ?_; refine so_q (qt_neq rfl rfl) rfl ?_) | (refine so_is (.binOp .lss 3 _ _ _) ?_; refine so_q (qt_lss rfl rfl) rfl ?_) | (refine so_is (.indexAddr 31 _ _) ?_; (refine so_q (qt_idxI rfl rfl (by kernel_rfl) (by (omega)) (by (omega))) rfl ?_)) | (refine so_is (.load 3 _) ?_; (refine so_q (qt_load_pt rfl (by kernel_rfl) rfl) rfl ?_)) | (refine so_is (.binOp .add 3 _ _ _) ?_; refine so_q (qt_addI rfl rfl (by (omega))) rfl ?_) | refine so_nil ?_ | refine sk_seq ?_ | refine sk_block ?_ | refine sk_blk ?_ | refine sk_exit rfl ?_ | refine sk_skip ?_ | refine sk_region ?_ | refine sk_draw 6 (fun _ => false) (.step 0 true (.step 1 true (.step 2 true (.step 3 true (.step 4 true (.step 5 true (.step 6 true (.step 7 true (.step 8 true .nil))))))))) (by kernel_rfl) (by kernel_rfl) ?_ | refine sk_if rfl (fun hc => ?_) (fun hc => ?_))
  · rename_i hk'
    rw [atZ_nat (by omega), atZ_nat (by omega)] at hc
    (apply sk_ret; apply ret_eq; (· apply RetOK.p; (· (apply GvA.cons; (· exact .tmp _); (· exact GvP.c (.lit _))); exact GvA.nil); (· (decide))))
    have : a ≠ b := fun e => by subst e; exact hc rfl
    simp [this]
  · rename_i hk'
    rw [atZ_nat (by omega), atZ_nat (by omega)] at hc
    refine sk_back ?_; refine ⟨k + 1, ?_, ?_, le_at rfl (by (repeat (first | exact trivial | refine ⟨(by (rfl)), ?_⟩))) (by (repeat (first | exact trivial | refine ⟨rfl, ?_⟩))) (by (repeat (exact trivial))) (by (repeat (exact trivial)))⟩
    · exact ⟨by omega, by rw [List.take_succ_eq_append_getElem (by omega), List.take_succ_eq_append_getElem (by omega), hs]; simp at hc; rw [hc]⟩
    · omega
  · have e : k = a.length := by omega
    subst e
    rw [List.take_length, hab, List.take_length] at hs
    (apply sk_ret; apply ret_eq; (· apply RetOK.p; (· (apply GvA.cons; (· exact .tmp _); (· exact GvP.c (.lit _))); exact GvA.nil); (· (decide))))
    simp [hs]
theorem eqIntS_same (a : List Int) : PC Try.prog 23 [.c (eI a), .c (eI a)] (.p (.c (dB true))) := by
  have := eqIntS_p a a; rwa [decide_eq_true rfl] at this

end Go.Proofs.Ytfgnjcodilebeaa

namespace Go.Proofs.Ytfgnjcodilebeaa
open Go.RowKit
set_option maxRecDepth 10000
set_option maxHeartbeats 4000000
theorem toIntS_p (l : List Int) (h : l.length ≤ 1048576) : PC Try.prog 21 [.c (eI l)] (.p (.c (eI l))) := by
  refine pc_intro Try.func21 rfl rfl rfl (by kernel_rfl) rfl rfl ?_; intro _
  repeat' (first | (refine so_is (.assign _) ?_; (refine so_q (qt_asC rfl) rfl ?_)) | (refine so_is (.move _) ?_; (refine so_q (qt_mvC rfl) rfl ?_)) | (refine so_is (.call ⟨.builtin .len, _, #[31]⟩) ?_; (refine so_q (qt_len_d rfl (by kernel_rfl)) rfl ?_)) | (refine so_is (.makeSlice 31 _ _) ?_; (refine so_make (by_ := 8) (z := .int .i64 0) (y := .lit (.int .i64 0)) rfl rfl (by kernel_rfl) (by kernel_rfl) rfl (fun _ => .lit _ rfl) (by (omega)) (by (omega)) (by (omega)) rfl ?_)) | refine so_nil ?_ | refine sk_seq ?_ | refine sk_block ?_ | refine sk_region ?_)
  refine sk_loopL [0, 3] [] (fun k => [(4, iN k)]) (fun k => [(7, .row 1 (cI (fillL l 0 k)))]) (fun k => k ≤ l.length) (fun k => l.length - k) (0) ?_ (by (repeat (first | exact trivial | refine ⟨(by (rfl)), ?_⟩))) (by (repeat (first | exact trivial | refine ⟨(by ((refine row_eq rfl ?_; simp  [fillL_zero, cI]; done))), ?_⟩))) ?_
  · simp
  intro k hk
  repeat' (first | (refine so_is (.assign _) ?_; (refine so_q (qt_asC rfl) rfl ?_)) | (refine so_is (.move _) ?_; (refine so_q (qt_mvC rfl) rfl ?_)) | (refine so_is (.call ⟨.builtin .len, _, #[31]⟩) ?_; (refine so_q (qt_len_d rfl (by kernel_rfl)) rfl ?_)) | (refine so_is (.binOp .lss 3 _ _ _) ?_; refine so_q (qt_lss rfl rfl) rfl ?_) | (refine so_is (.indexAddr 31 _ _) ?_; (first | refine so_q (qt_idxI rfl rfl (by kernel_rfl) (by (omega)) (by (omega))) rfl ?_ | refine so_q (qt_idx_ls rfl rfl (by kernel_rfl : tSl _ 31 1 = true) (by (omega)) (by (omega))) rfl ?_)) | (refine so_is (.load 3 _) ?_; (refine so_q (qt_load_pt rfl (by kernel_rfl) rfl) rfl ?_)) | (refine so_is (.store 3 _ _) ?_; ((refine so_store_row rfl rfl rfl rfl (.lit _) (by simp) (by simp) (by kernel_rfl) (by ((simp only [List.length_map, List.length_append, List.length_replicate, fillL_len, rowF_len, gridF_len, mkI_len, mkII_len] at *; omega))) rfl ?_; simp only [St.drop]))) | (refine so_is (.binOp .add 3 _ _ _) ?_; refine so_q (qt_addI rfl rfl (by (omega))) rfl ?_) | refine so_nil ?_ | refine sk_seq ?_ | refine sk_block ?_ | refine sk_blk ?_ | refine sk_exit rfl ?_ | refine sk_skip ?_ | refine sk_region ?_ | refine sk_if rfl (fun hc => ?_) (fun hc => ?_))
  · have hk' : k < l.length := by omega
    refine sk_back ?_; refine ⟨k + 1, ?_, ?_, le_at rfl (by (repeat (first | exact trivial | refine ⟨(by (rfl)), ?_⟩))) (by (repeat (first | exact trivial | refine ⟨rfl, ?_⟩))) (by (repeat (first | exact trivial | refine ⟨(by ((refine row_eq rfl ?_; simp  [atZ_nat hk', ← List.map_set, fillL_set 0 hk']; done))), ?_⟩))) (by (repeat (exact trivial)))⟩
    · omega
    · omega
  · have : k = l.length := by omega
    subst this
    rw [fillL_all]
    (apply sk_ret; apply ret_eq; (· apply RetOK.p; (· (apply GvA.cons; (· exact .tmp _); (· (exact GvP.c (.row _ _ _ _ rfl (by ((simp; done))))))); exact GvA.nil); (· (decide))))
    simp

end Go.Proofs.Ytfgnjcodilebeaa

namespace Go.Proofs.Ytfgnjcodilebeaa
open Go.RowKit
set_option maxRecDepth 10000
set_option maxHeartbeats 4000000
theorem l11Parity_p (p : Int) (h0 : 0 ≤ p) (h : p < 8) : PC Try.prog 59 [.c (dI p)] (.p (.c (dI (parZ p)))) := by
  refine pc_intro Try.func59 rfl rfl rfl (by kernel_rfl) rfl rfl ?_; intro _
  repeat' (first | (refine so_is (.assign _) ?_; (refine so_q (qt_asC rfl) rfl ?_)) | (refine so_is (.move _) ?_; (refine so_q (qt_mvC rfl) rfl ?_)) | (refine so_is (.binOp .shr 3 _ _ _) ?_; (first | refine so_q (qt_shrC (c := 4) rfl rfl (by decide)) rfl ?_ | refine so_q (qt_shrC (c := 2) rfl rfl (by decide)) rfl ?_)) | (refine so_is (.binOp .add 3 _ _ _) ?_; refine so_q (qt_addI rfl rfl (by (omega))) rfl ?_) | (refine so_is (.binOp .and 3 _ _ _) ?_; refine so_q (qt_andM 1 (c := 2) rfl rfl (by decide)) rfl ?_) | refine so_nil ?_ | refine sk_seq ?_ | refine sk_region ?_)
  · (apply sk_ret; apply ret_eq; (· apply RetOK.p; (· (apply GvA.cons; (· exact .tmp _); (· exact GvP.c (.lit _))); exact GvA.nil); (· (decide))))
    rfl

end Go.Proofs.Ytfgnjcodilebeaa

namespace Go.Proofs.Ytfgnjcodilebeaa
open Go.RowKit
set_option maxRecDepth 10000
set_option maxHeartbeats 4000000
theorem l11Says_p (l : List Int) (q : Int) (h : bitsB l 6 = true) (h0 : 0 ≤ q) (h8 : q < 8) : PC Try.prog 60 [.c (eI l), .c (dI q)] (.p (.c (dI (playV l q)))) := by
  refine pc_intro Try.func60 rfl rfl rfl (by kernel_rfl) rfl rfl ?_; intro _
  have hl6 := bitsB_len h
  have b1 := bitsB_at h (i := q / 4) (by omega) (by omega)
  have b2 := bitsB_at h (i := 2 + q / 2 % 2) (by omega) (by omega)
  have b3 := bitsB_at h (i := 4 + q % 2) (by omega) (by omega)
  repeat' (first | (refine so_is (.assign _) ?_; (refine so_q (qt_asC rfl) rfl ?_)) | (refine so_is (.move _) ?_; (refine so_q (qt_mvC rfl) rfl ?_)) | (refine so_is (.binOp .shr 3 _ _ _) ?_; (first | refine so_q (qt_shrC (c := 4) rfl rfl (by decide)) rfl ?_ | refine so_q (qt_shrC (c := 2) rfl rfl (by decide)) rfl ?_)) | (refine so_is (.indexAddr 31 _ _) ?_; (refine so_q (qt_idxI rfl rfl (by kernel_rfl) (by (omega)) (by (omega))) rfl ?_)) | (refine so_is (.load 3 _) ?_; (refine so_q (qt_load_pt rfl (by kernel_rfl) rfl) rfl ?_)) | (refine so_is (.binOp .mul 3 _ _ _) ?_; refine so_q (qt_mulI rfl rfl (by (omega))) rfl ?_) | (refine so_is (.binOp .and 3 _ _ _) ?_; refine so_q (qt_andM 1 (c := 2) rfl rfl (by decide)) rfl ?_) | (refine so_is (.binOp .add 3 _ _ _) ?_; refine so_q (qt_addI rfl rfl (by (omega))) rfl ?_) | refine so_nil ?_ | refine sk_seq ?_ | refine sk_region ?_ | refine sk_draw 1 (fun _ => false) (.step 0 true (.step 1 true (.step 2 true (.step 3 true (.step 4 true (.step 5 true (.step 6 true (.step 7 true (.step 8 true (.step 9 true (.step 10 true (.step 11 true (.step 12 true (.step 13 true (.step 14 true (.step 15 true (.step 16 true (.step 17 true (.step 18 true (.step 19 true (.step 20 true (.step 21 true (.step 22 true .nil))))))))))))))))))))))) (by kernel_rfl) (by kernel_rfl) ?_)
  · (apply sk_ret; apply ret_eq; (· apply RetOK.p; (· (apply GvA.cons; (· exact .tmp _); (· exact GvP.c (.lit _))); exact GvA.nil); (· (decide))))
    rw [playV_eq l h0 h8]

end Go.Proofs.Ytfgnjcodilebeaa

namespace Go.Proofs.Ytfgnjcodilebeaa
open Go.RowKit
set_option maxRecDepth 10000
set_option maxHeartbeats 4000000
theorem l1In_p (n lo hi : Int) : PC Try.prog 58 [.c (dI n), .c (dI lo), .c (dI hi)] (.p (.c (dB (inB n lo hi)))) := by
  refine pc_intro Try.func58 rfl rfl rfl (by kernel_rfl) rfl rfl ?_; intro _
  repeat' (first | (refine so_is (.assign _) ?_; (refine so_q (qt_asC rfl) rfl ?_)) | (refine so_is (.move _) ?_; (refine so_q (qt_mvC rfl) rfl ?_)) | (refine so_is (.binOp .geq 3 _ _ _) ?_; refine so_q (qt_geq rfl rfl) rfl ?_) | (refine so_is (.binOp .leq 3 _ _ _) ?_; refine so_q (qt_leq rfl rfl) rfl ?_) | (refine so_is (.pick _ _ _) ?_; (refine so_q (qt_pkC rfl rfl) rfl ?_)) | refine so_nil ?_ | refine so_g_no rfl rfl rfl rfl ?_ | refine so_g_yes rfl rfl rfl rfl ?_ | refine so_g_if rfl rfl (fun hg => ?_) (fun hg => ?_) | refine sk_seq ?_ | refine sk_region ?_)
  all_goals ((apply sk_ret; apply ret_eq; (· apply RetOK.p; (· (apply GvA.cons; (· exact .tmp _); (· exact GvP.c (.lit _))); exact GvA.nil); (· (decide)))))
  all_goals (simp [dB, inB, *]; try omega)

end Go.Proofs.Ytfgnjcodilebeaa

namespace Go.Proofs.Ytfgnjcodilebeaa
open Go.RowKit
set_option maxRecDepth 10000
set_option maxHeartbeats 4000000
theorem l1Most_p (a b : Int) : PC Try.prog 61 [.c (dI a), .c (dI b)] (.p (.c (dI (max a b)))) := by
  refine pc_intro Try.func61 rfl rfl rfl (by kernel_rfl) rfl rfl ?_; intro _
  repeat' (first | (refine so_is (.assign _) ?_; (refine so_q (qt_asC rfl) rfl ?_)) | (refine so_is (.move _) ?_; (refine so_q (qt_mvC rfl) rfl ?_)) | (refine so_is (.binOp .gtr 3 _ _ _) ?_; refine so_q (qt_gtr rfl rfl) rfl ?_) | refine so_nil ?_ | refine sk_seq ?_ | refine sk_skip ?_ | refine sk_region ?_ | refine sk_if rfl (fun hc => ?_) (fun hc => ?_))
  all_goals (apply sk_ret; apply ret_eq; (· apply RetOK.p; (· (apply GvA.cons; (· exact .tmp _); (· exact GvP.c (.lit _))); exact GvA.nil); (· (decide))))
  all_goals simp
  all_goals omega

end Go.Proofs.Ytfgnjcodilebeaa

namespace Go.Proofs.Ytfgnjcodilebeaa
open Go.RowKit
set_option maxRecDepth 10000
set_option maxHeartbeats 4000000
theorem l2Bits_p (l : List Int) (n : Int) : PC Try.prog 57 [.c (eI l), .c (dI n)] (.p (.c (dB (bitsB l n)))) := by
  refine pc_intro Try.func57 rfl rfl rfl (by kernel_rfl) rfl rfl ?_; rintro ⟨hl, -⟩
  have hl := hl.len
  repeat' (first | (refine so_is (.assign _) ?_; (refine so_q (qt_asC rfl) rfl ?_)) | refine so_nil ?_ | refine sk_seq ?_ | refine sk_block ?_ | refine sk_region ?_)
  refine sk_loopL [0, 1] [] (fun k => [(5, iN k)]) (fun _ => []) (fun k => k ≤ l.length ∧ (l.take k).all (fun n => inB n 0 1) = true) (fun k => l.length - k) (0) ?_ (by (repeat (first | exact trivial | refine ⟨(by (rfl)), ?_⟩))) (by (repeat (exact trivial))) ?_
  · simp
  rintro k ⟨hk, ha⟩
  repeat' (first | (refine so_is (.assign _) ?_; (refine so_q (qt_asC rfl) rfl ?_)) | (refine so_is (.move _) ?_; (refine so_q (qt_mvC rfl) rfl ?_)) | (refine so_is (.call ⟨.builtin .len, _, #[31]⟩) ?_; (refine so_q (qt_len_d rfl (by kernel_rfl)) rfl ?_)) | (refine so_is (.binOp .lss 3 _ _ _) ?_; refine so_q (qt_lss rfl rfl) rfl ?_) | (refine so_is (.indexAddr 31 _ _) ?_; (refine so_q (qt_idxI rfl rfl (by kernel_rfl) (by (omega)) (by (omega))) rfl ?_)) | (refine so_is (.load 3 _) ?_; (refine so_q (qt_load_pt rfl (by kernel_rfl) rfl) rfl ?_)) | (refine so_is (.unOp .not 4 _) ?_; refine so_q (qt_not rfl) rfl ?_) | (refine so_is (.binOp .add 3 _ _ _) ?_; refine so_q (qt_addI rfl rfl (by (omega))) rfl ?_) | (refine so_is (.binOp .eql 3 _ _ _) ?_; refine so_q (qt_eql rfl rfl) rfl ?_) | (refine so_is (.call ⟨.value (.func 58), _, _⟩) ?_; (apply so_call0 (fid := 58); (· (repeat (first | exact SeA.nil | apply SeA.cons (.c (.d _))))); (· exact l1In_p _ _ _); (· rfl))) | refine so_nil ?_ | refine sk_seq ?_ | refine sk_block ?_ | refine sk_blk ?_ | refine sk_exit rfl ?_ | refine sk_skip ?_ | refine sk_region ?_ | refine sk_if rfl (fun hc => ?_) (fun hc => ?_) | refine sk_not rfl (fun hc => ?_) (fun hc => ?_))
  · rename_i hk'
    rw [atZ_nat (by omega)] at hc
    (apply sk_ret; apply ret_eq; (· apply RetOK.p; (· (apply GvA.cons; (· exact .tmp _); (· exact GvP.c (.lit _))); exact GvA.nil); (· (decide))))
    rw [bitsB, allB, all_f (by omega) hc]; simp
  · rename_i hk'
    rw [atZ_nat (by omega)] at hc
    refine sk_back ?_; refine ⟨k + 1, ?_, ?_, le_at rfl (by (repeat (first | exact trivial | refine ⟨(by (rfl)), ?_⟩))) (by (repeat (first | exact trivial | refine ⟨rfl, ?_⟩))) (by (repeat (exact trivial))) (by (repeat (exact trivial)))⟩
    · exact ⟨by omega, by rw [take_succ_all _ _ _ (by omega), ha, hc]; rfl⟩
    · omega
  · (apply sk_ret; apply ret_eq; (· apply RetOK.p; (· (apply GvA.cons; (· exact .tmp _); (· exact GvP.c (.lit _))); exact GvA.nil); (· (decide))))
    rw [bitsB, allB, all_t (by omega) ha]; simp

end Go.Proofs.Ytfgnjcodilebeaa

namespace Go.Proofs.Ytfgnjcodilebeaa
open Go.RowKit
set_option maxRecDepth 10000
set_option maxHeartbeats 4000000
theorem spTrioValue_p (w odd : List Int) : PC Try.prog 20 [.c (eI w), .c (eI odd)] (.t [.c (dI (if valB w odd = true then trioVal w odd else 0)), .c (dB (valB w odd))]) := by
  refine pc_intro Try.func20 rfl rfl rfl (by kernel_rfl) rfl rfl ?_; intro _
  repeat' (first | (refine so_is (.assign _) ?_; (refine so_q (qt_asC rfl) rfl ?_)) | (refine so_is (.move _) ?_; (refine so_q (qt_mvC rfl) rfl ?_)) | (refine so_is (.call ⟨.builtin .len, _, #[31]⟩) ?_; (refine so_q (qt_len_d rfl (by kernel_rfl)) rfl ?_)) | (refine so_is (.binOp .neq 3 _ _ _) ?_; refine so_q (qt_neq rfl rfl) rfl ?_) | (refine so_is (.unOp .not 4 _) ?_; refine so_q (qt_not rfl) rfl ?_) | (refine so_is (.pick _ _ _) ?_; (refine so_q (qt_pkC rfl rfl) rfl ?_)) | (refine so_is (.call ⟨.value (.func 57), _, _⟩) ?_; (apply so_call0 (fid := 57); (· (repeat (first | exact SeA.nil | apply SeA.cons (.c (.d _))))); (· exact l2Bits_p _ _); (· rfl))) | refine so_nil ?_ | refine so_g_no rfl rfl rfl rfl ?_ | refine so_g_yes rfl rfl rfl rfl ?_ | refine so_g_if rfl rfl (fun hg => ?_) (fun hg => ?_) | refine sk_seq ?_ | refine sk_block ?_ | refine sk_skip ?_ | refine sk_region ?_ | refine sk_true rfl ?_ | refine sk_not rfl (fun hc => ?_) (fun hc => ?_))
  · (apply sk_ret; apply ret_eq; (· apply RetOK.t; (· (apply GvA.cons; (· exact .tmp _); (· exact GvP.c (.lit _))); (apply GvA.cons; (· exact .tmp _); (· exact GvP.c (.lit _))); exact GvA.nil); (· rfl); (· (decide))))
    have : ¬ w.length = 8 := by omega
    simp [valB, this]
  · (apply sk_ret; apply ret_eq; (· apply RetOK.t; (· (apply GvA.cons; (· exact .tmp _); (· exact GvP.c (.lit _))); (apply GvA.cons; (· exact .tmp _); (· exact GvP.c (.lit _))); exact GvA.nil); (· rfl); (· (decide))))
    simp [valB, hc]
  have hw : w.length = 8 := by omega
  have ho := bitsB_len hc
  refine sk_loopL [0, 1] [35, 45, 46] (fun k => [(6, iN k)]) (fun _ => []) (fun k => k ≤ 8 ∧ (w.take k).all (fun n => inB n 0 99) = true) (fun k => 8 - k) (0) ?_ (by (repeat (first | exact trivial | refine ⟨(by (rfl)), ?_⟩))) (by (repeat (exact trivial))) ?_
  · simp
  rintro k ⟨hk, ha⟩
  repeat' (first | (refine so_is (.assign _) ?_; (refine so_q (qt_asC rfl) rfl ?_)) | (refine so_is (.move _) ?_; (refine so_q (qt_mvC rfl) rfl ?_)) | (refine so_is (.unOp .not 4 _) ?_; refine so_q (qt_not rfl) rfl ?_) | (refine so_is (.binOp .lss 3 _ _ _) ?_; refine so_q (qt_lss rfl rfl) rfl ?_) | (refine so_is (.indexAddr 31 _ _) ?_; (refine so_q (qt_idxI rfl rfl (by kernel_rfl) (by (omega)) (by (omega))) rfl ?_)) | (refine so_is (.load 3 _) ?_; (refine so_q (qt_load_pt rfl (by kernel_rfl) rfl) rfl ?_)) | (refine so_is (.binOp .add 3 _ _ _) ?_; refine so_q (qt_addI rfl rfl (by (omega))) rfl ?_) | (refine so_is (.call ⟨.value (.func 58), _, _⟩) ?_; (apply so_call0 (fid := 58); (· (repeat (first | exact SeA.nil | apply SeA.cons (.c (.d _))))); (· exact l1In_p _ _ _); (· rfl))) | refine so_nil ?_ | refine sk_seq ?_ | refine sk_block ?_ | refine sk_blk ?_ | refine sk_exit rfl ?_ | refine sk_skip ?_ | refine sk_region ?_ | refine sk_if rfl (fun hc => ?_) (fun hc => ?_) | refine sk_not rfl (fun hc => ?_) (fun hc => ?_))
  · have hk2 : k < w.length := by omega
    rw [atZ_nat hk2] at hc
    have h9 : allB w 0 99 = false := all_f hk2 hc
    (apply sk_ret; apply ret_eq; (· apply RetOK.t; (· (apply GvA.cons; (· exact .tmp _); (· exact GvP.c (.lit _))); (apply GvA.cons; (· exact .tmp _); (· exact GvP.c (.lit _))); exact GvA.nil); (· rfl); (· (decide))))
    simp [valB, h9]
  · have hk2 : k < w.length := by omega
    rw [atZ_nat hk2] at hc
    refine sk_back ?_; refine ⟨k + 1, ?_, ?_, le_at rfl (by (repeat (first | exact trivial | refine ⟨(by (rfl)), ?_⟩))) (by (repeat (first | exact trivial | refine ⟨rfl, ?_⟩))) (by (repeat (exact trivial))) (by (repeat (first | exact trivial | refine ⟨.inr rfl, ?_⟩)))⟩
    · exact ⟨by omega, by rw [take_succ_all _ _ _ hk2, ha, hc]; rfl⟩
    · omega
  have hv : valB w odd = true := by
    rw [List.take_of_length_le (by omega)] at ha
    simp_all [valB, allB]
  refine sk_loopL [0, 1] [35, 45, 46] (fun c => [(8, iN c), (7, iZ (bestN (fun c => scoreN w odd (fun q => playV (bitsL c) q) 8) c))]) (fun _ => []) (fun c => c ≤ 64) (fun c => 64 - c) (0) ?_ (by (repeat (first | exact trivial | refine ⟨(by (rfl)), ?_⟩))) (by (repeat (exact trivial))) ?_
  · omega
  intro c hc64
  repeat' (first | (refine so_is (.assign _) ?_; (refine so_q (qt_asC rfl) rfl ?_)) | (refine so_is (.move _) ?_; (refine so_q (qt_mvC rfl) rfl ?_)) | (refine so_is (.binOp .lss 3 _ _ _) ?_; refine so_q (qt_lss rfl rfl) rfl ?_) | (refine so_is (.buildSlice 31 0 _) ?_; (apply so_bslice (sz := 1) (by_ := 8); (· kernel_rfl); (· decide); (· (repeat (exact GvS.nil _))); (· (decide)); (· rfl); (· rfl); (· rfl))) | refine so_nil ?_ | refine sk_seq ?_ | refine sk_block ?_ | refine sk_exit rfl ?_ | refine sk_skip ?_ | refine sk_region ?_ | refine sk_if rfl (fun hc => ?_) (fun hc => ?_))
  · refine sk_loopL [0, 1, 7, 8, 10] [45, 46] (fun i => [(11, iN i), (9, .c (.ls 35 1 0 i))]) (fun i => [(35, .row 1 (cI (rowF (fun i => (bitN c i : Int)) i)))]) (fun i => i ≤ 6) (fun i => 6 - i) (0) ?_ (by (repeat (first | exact trivial | refine ⟨(by (rfl)), ?_⟩))) (by (repeat (first | exact trivial | refine ⟨(by (rfl)), ?_⟩))) ?_
    · omega
    intro i hi
    have e3 := bit_nat c i
    repeat' (first | (refine so_is (.assign _) ?_; (refine so_q (qt_asC rfl) rfl ?_)) | (refine so_is (.move _) ?_; (refine so_q (qt_mvC rfl) rfl ?_)) | (refine so_is (.binOp .lss 3 _ _ _) ?_; refine so_q (qt_lss rfl rfl) rfl ?_) | (refine so_is (.binOp .add 3 _ _ _) ?_; refine so_q (qt_addI rfl rfl (by (omega))) rfl ?_) | (refine so_is (.binOp .shr 3 _ _ _) ?_; (refine so_q (qt_shrI rfl rfl (by (omega)) (by (omega))) rfl ?_)) | (refine so_is (.binOp .and 3 _ _ _) ?_; refine so_q (qt_andM 1 (c := 2) rfl rfl (by decide)) rfl ?_) | (refine so_is (.buildSlice 31 1 _) ?_; (apply so_bslice (sz := 1) (by_ := 8); (· kernel_rfl); (· decide); (· (repeat (first | exact GvS.nil _ | apply GvS.c rfl rfl (.lit _) rfl))); (· (decide)); (· rfl); (· rfl); (· rfl))) | (refine so_is (.call ⟨.builtin .append, _, #[31, 31]⟩) ?_; ((apply so_appR (sz := 1) (by_ := 8); (· rfl); (· rfl); (· ((simp; done))); (· exact .row _ _ _ _ rfl (by (rfl))); (· (decide)); (· kernel_rfl); (· decide); (· (omega)); (· (omega)); (· rfl); (· rfl); (· rfl)))) | refine so_nil ?_ | refine sk_seq ?_ | refine sk_block ?_ | refine sk_blk ?_ | refine sk_exit rfl ?_ | refine sk_skip ?_ | refine sk_region ?_ | refine sk_if rfl (fun hc => ?_) (fun hc => ?_))
    · refine sk_back ?_; refine ⟨i + 1, ?_, ?_, le_at rfl (by (repeat (first | exact trivial | refine ⟨(by (rfl)), ?_⟩))) (by (repeat (first | exact trivial | refine ⟨rfl, ?_⟩))) (by (repeat (first | exact trivial | refine ⟨(by ((refine row_eq rfl ?_; simp  [rowF_snoc, e3]; done))), ?_⟩))) (by (repeat (first | exact trivial | refine ⟨.inr rfl, ?_⟩)))⟩
      · omega
      · omega
    have h6 : i = 6 := by omega
    subst h6
    repeat' fail
    refine sk_loopL [0, 1, 7, 8, 9] [35, 45, 46] (fun q => [(12, iN q), (10, iZ (scoreN w odd (fun q => playV (bitsL c) q) q))]) (fun _ => []) (fun q => q ≤ 8) (fun q => 8 - q) (0) ?_ (by (repeat (first | exact trivial | refine ⟨(by (rfl)), ?_⟩))) (by (repeat (exact trivial))) ?_
    · omega
    intro q hq
    have hb := bitsL_bits c
    have pv := playV_bd hb q
    have sb := scoreN_bd hv (fun q => playV (bitsL c) q) q (by omega)
    have wb := fun h => allB_at (l := w) (lo := 0) (hi := 99) (by simp_all [valB]) (i := q) (by omega) h
    repeat' (first | (refine so_is (.assign _) ?_; (refine so_q (qt_asC rfl) rfl ?_)) | (refine so_is (.move _) ?_; (refine so_q (qt_mvC rfl) rfl ?_)) | (refine so_is (.binOp .lss 3 _ _ _) ?_; refine so_q (qt_lss rfl rfl) rfl ?_) | (refine so_is (.indexAddr 31 _ _) ?_; (refine so_q (qt_idxI rfl rfl (by kernel_rfl) (by (omega)) (by (omega))) rfl ?_)) | (refine so_is (.load 3 _) ?_; (refine so_q (qt_load_pt rfl (by kernel_rfl) rfl) rfl ?_)) | (refine so_is (.binOp .add 3 _ _ _) ?_; refine so_q (qt_addI rfl rfl (by (omega))) rfl ?_) | (refine so_is (.binOp .eql 3 _ _ _) ?_; refine so_q (qt_eql rfl rfl) rfl ?_) | (refine so_is (.call ⟨.value (.func 60), _, _⟩) ?_; (apply so_call0 (fid := 60); (· (repeat (first | exact SeA.nil | apply SeA.cons (.c (.d _)) | apply SeA.cons (.c (.all _ _ _ _ rfl (by (rfl))))))); (· exact l11Says_p (bitsL c) _ hb (by omega) (by omega)); (· rfl))) | (refine so_is (.call ⟨.value (.func 59), _, _⟩) ?_; (apply so_call0 (fid := 59); (· (repeat (first | exact SeA.nil | apply SeA.cons (.c (.d _))))); (· exact l11Parity_p _ (by omega) (by omega)); (· rfl))) | (refine so_is (.call ⟨.value (.func 61), _, _⟩) ?_; (apply so_call0 (fid := 61); (· (repeat (first | exact SeA.nil | apply SeA.cons (.c (.d _))))); (· exact l1Most_p _ _); (· rfl))) | refine so_nil ?_ | refine sk_seq ?_ | refine sk_block ?_ | refine sk_blk ?_ | refine sk_exit rfl ?_ | refine sk_skip ?_ | refine sk_region ?_ | refine sk_draw 20 (fun _ => false) (.step 0 true (.step 1 true (.step 4 true (.step 5 true (.step 6 true (.step 7 true (.step 2 false (.step 3 false (.step 8 true .nil))))))))) (by kernel_rfl) (by kernel_rfl) ?_ | refine sk_if rfl (fun hc => ?_) (fun hc => ?_))
    · refine sk_back ?_; refine ⟨q + 1, ?_, ?_, le_at rfl (by (repeat (first | exact trivial | refine ⟨(by (first | rfl | (refine int_eq rfl ?_; ((simp  [scoreN, hc]; done))))), ?_⟩))) (by (repeat (first | exact trivial | refine ⟨rfl, ?_⟩))) (by (repeat (exact trivial))) (by (repeat (first | exact trivial | refine ⟨.inr rfl, ?_⟩)))⟩
      · omega
      · omega
    · refine sk_back ?_; refine ⟨q + 1, ?_, ?_, le_at rfl (by (repeat (first | exact trivial | refine ⟨(by (first | rfl | (refine int_eq rfl ?_; ((simp  [scoreN, hc]; done))))), ?_⟩))) (by (repeat (first | exact trivial | refine ⟨rfl, ?_⟩))) (by (repeat (exact trivial))) (by (repeat (first | exact trivial | refine ⟨.inr rfl, ?_⟩)))⟩
      · omega
      · omega
    · have h8 : q = 8 := by omega
      subst h8
      refine sk_back ?_; refine ⟨c + 1, ?_, ?_, le_at rfl (by (repeat (first | exact trivial | refine ⟨(by (rfl)), ?_⟩))) (by (repeat (first | exact trivial | refine ⟨rfl, ?_⟩))) (by (repeat (exact trivial))) (by (repeat (first | exact trivial | refine ⟨.inr rfl, ?_⟩ | refine ⟨.inl rfl, ?_⟩)))⟩
      · omega
      · omega
  · have h8 : c = 64 := by omega
    subst h8
    (apply sk_ret; apply ret_eq; (· apply RetOK.t; (· (apply GvA.cons; (· exact .tmp _); (· exact GvP.c (.lit _))); (apply GvA.cons; (· exact .tmp _); (· exact GvP.c (.lit _))); exact GvA.nil); (· rfl); (· (decide))))
    simp [hv, trioVal_L]

end Go.Proofs.Ytfgnjcodilebeaa

namespace Go.Proofs.Ytfgnjcodilebeaa
open Go.RowKit
set_option maxRecDepth 10000
set_option maxHeartbeats 4000000
theorem FnExactTrioValue_p (a0 : List Int) (a1 : List Int) : PC Try.prog 4 [.c (eI a0), .c (eI a1)] (.p (.c (dB true))) := by
  refine pc_intro Try.func4 rfl rfl rfl (by kernel_rfl) rfl rfl ?_; intro _
  repeat' (first | (refine so_is (.assign _) ?_; (refine so_q (qt_asC rfl) rfl ?_)) | (refine so_is (.move _) ?_; (first | refine so_q (qt_mvC rfl) rfl ?_ | refine so_q (qt_mvT rfl) rfl ?_)) | (refine so_is (.call ⟨.builtin .len, _, #[31]⟩) ?_; (refine so_q (qt_len_d rfl (by kernel_rfl)) rfl ?_)) | (refine so_is (.binOp .gtr 3 _ _ _) ?_; refine so_q (qt_gtr rfl rfl) rfl ?_) | (refine so_is (.extract _ _) ?_; refine so_q (qt_extract rfl rfl) rfl ?_) | (refine so_is (.binOp .neq 3 _ _ _) ?_; (refine so_q (qt_neq_same rfl rfl) rfl ?_)) | (refine so_is (.binOp .neq 4 _ _ _) ?_; (refine so_q (qt_neqB_same (by kernel_rfl) rfl rfl) rfl ?_)) | (refine so_is (.pick _ _ _) ?_; (refine so_q (qt_pkC rfl rfl) rfl ?_)) | (refine so_is (.unOp .not 4 _) ?_; refine so_q (qt_not rfl) rfl ?_) | (refine so_is (.call ⟨.value (.func 21), _, _⟩) ?_; (apply so_callO0 (fid := 21); (· (repeat (first | exact SeA.nil | apply SeA.cons (.c (.d _))))); (· exact toIntS_p _ (by omega)); (· rfl); (· rfl))) | (refine so_is (.call ⟨.value (.func 20), _, _⟩) ?_; (apply so_call0 (fid := 20); (· (repeat (first | exact SeA.nil | apply SeA.cons (.c (.all _ _ _ _ rfl (by ((simp; done)))))))); (· exact spTrioValue_p _ _); (· rfl))) | (refine so_is (.call ⟨.value (.func 22), _, _⟩) ?_; (apply so_callO0 (fid := 22); (· (repeat (first | exact SeA.nil | apply SeA.cons (.c (.all _ _ _ _ rfl (by ((simp; done)))))))); (· exact TrioValue_p _ _); (· rfl); (· rfl))) | (refine so_is (.call ⟨.value (.func 23), _, _⟩) ?_; (apply so_call0 (fid := 23); (· (repeat (first | exact SeA.nil | apply SeA.cons (.c (.all _ _ _ _ rfl (by ((simp; done)))))))); (· exact eqIntS_same _); (· rfl))) | refine so_nil ?_ | refine so_g_yes rfl rfl rfl rfl ?_ | refine sk_seq ?_ | refine sk_skip ?_ | refine sk_region (id := 0) ?_ | refine sk_region (id := 1) ?_ | refine sk_region (id := 2) ?_ | refine sk_region (id := 3) ?_ | refine sk_region (id := 4) ?_ | (apply sk_pack 5 [0, 1] [] rfl; (· (repeat (first | exact Pf.nil | apply Pf.cons (.c rfl (.d rfl))))); (· (repeat (exact Pb.nil))); refine sk_region (id := 5) ?_) | (apply sk_pack 6 [0, 1, 5, 6] [19, 21] rfl; (· (repeat (first | exact Pf.nil | apply Pf.cons (.c rfl (.d rfl))))); (· (repeat (first | exact Pb.nil | apply Pb.cons (.row rfl)))); refine sk_region (id := 6) ?_) | refine sk_region (id := 7) ?_ | (apply sk_pack 8 [0, 1, 5, 6, 7, 8] [19, 21, 26, 28] rfl; (· (repeat (first | exact Pf.nil | apply Pf.cons (.c rfl (.d rfl)) | apply Pf.cons (.c rfl (.ls rfl))))); (· (repeat (first | exact Pb.nil | apply Pb.cons (.row rfl)))); refine sk_region (id := 8) ?_) | (apply sk_pack 9 [0, 1, 5, 6, 7, 8, 9, 10] [19, 21, 26, 28] rfl; (· (repeat (first | exact Pf.nil | apply Pf.cons (.c rfl (.d rfl)) | apply Pf.cons (.c rfl (.ls rfl))))); (· (repeat (first | exact Pb.nil | apply Pb.cons (.row rfl)))); refine sk_region (id := 9) ?_) | (apply sk_pack 11 [0, 1, 7, 8] [19, 21, 26, 28] rfl; (· (repeat (first | exact Pf.nil | apply Pf.cons (.c rfl (.d rfl)) | apply Pf.cons (.c rfl (.ls rfl))))); (· (repeat (first | exact Pb.nil | apply Pb.cons (.row rfl)))); refine sk_region (id := 11) ?_) | refine sk_region (id := 13) ?_ | (apply sk_pack 15 [] [19, 21, 26, 28, 45, 50] rfl; (· (repeat (exact Pf.nil))); (· (repeat (first | exact Pb.nil | apply Pb.cons (.row rfl)))); refine sk_region (id := 15) ?_) | refine sk_false rfl ?_ | refine sk_if rfl (fun hc => ?_) (fun hc => ?_))
  all_goals first | (exfalso; omega) | skip
  all_goals (apply sk_ret; apply ret_eq; (· apply RetOK.p; (· (apply GvA.cons; (· exact .tmp _); (· exact GvP.c (.lit _))); exact GvA.nil); (· (decide))))
  all_goals rfl

end Go.Proofs.Ytfgnjcodilebeaa
