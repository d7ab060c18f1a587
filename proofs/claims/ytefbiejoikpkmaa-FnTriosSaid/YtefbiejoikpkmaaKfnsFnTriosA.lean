/- What the functions that FnTrios reaches return: part of its proof. No condition beyond those of its theorems. -/
import Derived.Test.YtefbiejoikpkmaaProg
import Derived.Test.YtefbiejoikpkmaaKplainB
import Derived.Test.YtefbiejoikpkmaaKplainC
import Derived.WalkKit
import Derived.Test.YtefbiejoikpkmaaKplainA
import Derived.Laws.StructEq
set_option linter.unusedVariables false
set_option linter.unusedSimpArgs false
--plain: PureMisc PureTake PureView PureAlt PurePack PureDag PureQ PureRen PureMany PureSlice Texts PureText Defs
namespace Go.Proofs.Ytefbiejoikpkmaa
open Go.RowKit
set_option linter.unusedSectionVars false
variable [Glb]

abbrev dI (n : Int) : D := .lit (.int .i64 n)
abbrev dB (b : Bool) : D := .lit (.bool b)
abbrev dS (s : ByteArray) : D := .lit (.string s)
abbrev iN (k : Nat) : FV := .c (.d (dI k))
abbrev iZ (k : Int) : FV := .c (.d (dI k))
/-- a list of numbers, of lists of numbers, of texts -/
abbrev cI (l : List Int) : List D := l.map dI
abbrev eI (l : List Int) : D := .sl 1 l.length (cI l)
abbrev cII (l : List (List Int)) : List D := l.map fun x => eI x
abbrev eII (l : List (List Int)) : D := .sl 1 l.length (cII l)
section
variable {P : Program} {st : St} {dst : Option Tmp} {ty : TypeId} {pos : String} {af : Array Edge} {T : TypeId} {x y : Operand} {k : IntKind} {i : Int}
theorem qt_idxI {l : List Int} (hx : st.ev x = .c (.d (eI l))) (hy : st.ev y = .c (.d (.lit (.int k i)))) (ht : tSl P T 1 = true) (h0 : 0 ≤ i) (h1 : i < l.length) : Qt P ⟨dst, .indexAddr T x y, ty, pos, af, none⟩ st (.c (.d (.pt [dI (atZ l i)]))) :=
  qt_idx hx hy ht h0 h1 (map_at (atZ_some h0 h1))
theorem qt_idxII {l : List (List Int)} (hx : st.ev x = .c (.d (eII l))) (hy : st.ev y = .c (.d (.lit (.int k i)))) (ht : tSl P T 1 = true) (h0 : 0 ≤ i) (h1 : i < l.length) : Qt P ⟨dst, .indexAddr T x y, ty, pos, af, none⟩ st (.c (.d (.pt [eI (atZ l i)]))) :=
  qt_idx hx hy ht h0 h1 (map_at (atZ_some h0 h1))
theorem qt_load_rowI {l : List Int} {b : Nat} {i : Int} (hx : st.ev x = .c (.lp b (0 + i.toNat * 1))) (hb : st.bl b = some (.row 1 (cI l))) (ht : tOne P T = true) (h0 : 0 ≤ i) (h1 : i < l.length) : Qt P ⟨dst, .load T x, ty, pos, af, none⟩ st (.c (.d (dI (atZ l i)))) :=
  qt_load_row hx hb ht (by rw [List.getElem?_map, Nat.zero_add, Nat.mul_one, atZ_some h0 h1]; rfl)
theorem qt_slice_dI11 {l : List Int} {x lo hi : Operand} {kl kh : IntKind} {i j : Int} (hx : st.ev x = .c (.d (eI l))) (hl : st.ev lo = .c (.d (.lit (.int kl i)))) (hh : st.ev hi = .c (.d (.lit (.int kh j)))) (ht : tSl P T 1 = true) (h0 : 0 ≤ i) (h1 : i ≤ j) (h2 : j ≤ l.length) :
    Qt P ⟨dst, .slice T x (some lo) (some hi) none, ty, pos, af, none⟩ st (.c (.d (eI (partZ l i j)))) :=
  qt_slice_d (vl := some (kl, i)) (vh := some (kh, j)) (i := i.toNat) (j := j.toNat) hx (ev_some hl) (ev_some hh) ht ⟨h0, rfl⟩ ⟨by omega, rfl⟩ (by omega) (by omega) (partZ_len h2).symm (by rw [partZ_len h2]; exact map_part l _ i j)
theorem qt_slice_dI10 {l : List Int} {x lo : Operand} {kl : IntKind} {i : Int} (hx : st.ev x = .c (.d (eI l))) (hl : st.ev lo = .c (.d (.lit (.int kl i)))) (ht : tSl P T 1 = true) (h0 : 0 ≤ i) (h1 : i ≤ l.length) :
    Qt P ⟨dst, .slice T x (some lo) none none, ty, pos, af, none⟩ st (.c (.d (eI (partZ l i l.length)))) :=
  qt_slice_d (vl := some (kl, i)) (vh := none) (i := i.toNat) (j := l.length) hx (ev_some hl) (fun _ _ _ _ _ => rfl) ht ⟨h0, rfl⟩ rfl (by omega) (by omega) (by rw [partZ_len (by omega)]; simp) (by rw [partZ_len (by omega)]; exact map_part l _ i l.length)
theorem qt_slice_dI01 {l : List Int} {x hi : Operand} {kh : IntKind} {j : Int} (hx : st.ev x = .c (.d (eI l))) (hh : st.ev hi = .c (.d (.lit (.int kh j)))) (ht : tSl P T 1 = true) (h0 : 0 ≤ j) (h2 : j ≤ l.length) :
    Qt P ⟨dst, .slice T x none (some hi) none, ty, pos, af, none⟩ st (.c (.d (eI (partZ l 0 j)))) :=
  qt_slice_d (vl := none) (vh := some (kh, j)) (i := 0) (j := j.toNat) hx (fun _ _ _ _ _ => rfl) (ev_some hh) ht rfl ⟨h0, rfl⟩ (by omega) (by omega) (by rw [partZ_len h2]; simp) (by rw [partZ_len h2]; simpa using map_part l _ 0 j)
theorem qt_slice_dII11 {l : List (List Int)} {x lo hi : Operand} {kl kh : IntKind} {i j : Int} (hx : st.ev x = .c (.d (eII l))) (hl : st.ev lo = .c (.d (.lit (.int kl i)))) (hh : st.ev hi = .c (.d (.lit (.int kh j)))) (ht : tSl P T 1 = true) (h0 : 0 ≤ i) (h1 : i ≤ j) (h2 : j ≤ l.length) :
    Qt P ⟨dst, .slice T x (some lo) (some hi) none, ty, pos, af, none⟩ st (.c (.d (eII (partZ l i j)))) :=
  qt_slice_d (vl := some (kl, i)) (vh := some (kh, j)) (i := i.toNat) (j := j.toNat) hx (ev_some hl) (ev_some hh) ht ⟨h0, rfl⟩ ⟨by omega, rfl⟩ (by omega) (by omega) (partZ_len h2).symm (by rw [partZ_len h2]; exact map_part l _ i j)
theorem qt_slice_dII10 {l : List (List Int)} {x lo : Operand} {kl : IntKind} {i : Int} (hx : st.ev x = .c (.d (eII l))) (hl : st.ev lo = .c (.d (.lit (.int kl i)))) (ht : tSl P T 1 = true) (h0 : 0 ≤ i) (h1 : i ≤ l.length) :
    Qt P ⟨dst, .slice T x (some lo) none none, ty, pos, af, none⟩ st (.c (.d (eII (partZ l i l.length)))) :=
  qt_slice_d (vl := some (kl, i)) (vh := none) (i := i.toNat) (j := l.length) hx (ev_some hl) (fun _ _ _ _ _ => rfl) ht ⟨h0, rfl⟩ rfl (by omega) (by omega) (by rw [partZ_len (by omega)]; simp) (by rw [partZ_len (by omega)]; exact map_part l _ i l.length)
theorem qt_slice_dII01 {l : List (List Int)} {x hi : Operand} {kh : IntKind} {j : Int} (hx : st.ev x = .c (.d (eII l))) (hh : st.ev hi = .c (.d (.lit (.int kh j)))) (ht : tSl P T 1 = true) (h0 : 0 ≤ j) (h2 : j ≤ l.length) :
    Qt P ⟨dst, .slice T x none (some hi) none, ty, pos, af, none⟩ st (.c (.d (eII (partZ l 0 j)))) :=
  qt_slice_d (vl := none) (vh := some (kh, j)) (i := 0) (j := j.toNat) hx (fun _ _ _ _ _ => rfl) (ev_some hh) ht rfl ⟨h0, rfl⟩ (by omega) (by omega) (by rw [partZ_len h2]; simp) (by rw [partZ_len h2]; simpa using map_part l _ 0 j)
end
end Go.Proofs.Ytefbiejoikpkmaa

namespace Go.Proofs.Ytefbiejoikpkmaa
open Go.RowKit
set_option linter.unusedSectionVars false
variable [Glb]
open Go Go.RowKit
/-! readings of bytes -/
theorem pr_u8 {P : Program} {T : TypeId} (hT : P.underlying T = some (.int .u8)) : PR P T fun b : UInt8 => [dY b] := by
  intro H enc W fuel cs x h
  obtain ⟨n, rfl, -, wf⟩ := DataW.trod_int hT h
  have hn : 0 ≤ n ∧ n ≤ 255 := by
    simpa [Lit.wf, IntKind.min, IntKind.max, IntKind.signed, IntKind.bits] using wf
  have e : ((UInt8.ofNat n.toNat).toNat : Int) = n := by rw [UInt8.toNat_ofNat']; omega
  refine ⟨UInt8.ofNat n.toNat, ?_⟩
  have : VwD W [Value.int .u8 n] [D.lit (.int .u8 n)] := .one (.lit _ rfl)
  simpa only [dY, e] using this

end Go.Proofs.Ytefbiejoikpkmaa

namespace Go.Proofs.Ytefbiejoikpkmaa
open Go.RowKit
set_option linter.unusedSectionVars false
variable [Glb]
open Go Go.RowKit
/-! several ways through a part of the code that are told as one behind it -/
theorem sk_join {P : Program} {R : St → Prop} {k : List Itm} {st : St} {c : Code} {G : Type} (U UB : List Nat) (V : G → List (Nat × FV)) (B : G → List (Nat × Blk)) (ok : G → Prop)
    (first : SK P (.code c :: .back (fun st' => ∃ g', ok g' ∧ True ∧ st'.le (st.at U UB (V g') (B g'))) :: k) st R)
    (rest : ∀ g, ok g → SK P k (st.at U UB (V g) (B g)) R) : SK P (.code c :: k) st R := by
  refine ⟨fun w0 a w hs => Code.wp_mono ?_ (first.lv w0 a w hs)⟩
  rintro e a' w' ⟨st1, h1, h2⟩
  cases e with
  | normal =>
    obtain ⟨g, hg, _, hle⟩ := h2
    exact ⟨_, h1.le hle, (rest g hg).lv⟩
  | ret => exact ⟨st1, h1, by rw [LV.ret] at *; exact h2⟩
  | exit id => exact ⟨st1, h1, h2⟩
  | goto l => exact (LV.bad trivial h2).elim
  | panic c => exact (LV.bad trivial h2).elim
  | outgrown => exact (LV.bad trivial h2).elim

end Go.Proofs.Ytefbiejoikpkmaa

namespace Go.Proofs.Ytefbiejoikpkmaa
open Go.RowKit
open Go
/-! trios -/
def sum64 (l : List Int) : Int := l.foldl (fun s n => IntKind.i64.wrap (s + n)) 0
theorem sum64_snoc {l : List Int} {k : Nat} (h : k < l.length) : sum64 (l.take (k + 1)) = IntKind.i64.wrap (sum64 (l.take k) + l[k]) := by
  unfold sum64; rw [List.take_succ_eq_append_getElem h, List.foldl_append]; rfl
def rowB (n : Int) (row : List Int) : Bool := (decide (row.length = 8) && allB row 0 n) && decide (sum64 row = n)
def trioB (n : Int) (ll : List (List Int)) : Bool := (inB n 1 1000 && decide (ll.length = 8)) && ll.all (rowB n)
theorem rowB_len {n : Int} {row : List Int} (h : rowB n row = true) : row.length = 8 ∧ ∀ k (hk : k < row.length), 0 ≤ row[k] ∧ row[k] ≤ n := by
  simp only [rowB, Bool.and_eq_true, decide_eq_true_eq, allB, List.all_eq_true] at h
  exact ⟨h.1.1, fun k hk => inB_iff.1 (h.1.2 _ (List.getElem_mem hk))⟩
theorem trioB_spec {n : Int} {ll : List (List Int)} (h : trioB n ll = true) : 1 ≤ n ∧ n ≤ 1000 ∧ ll.length = 8 ∧ ∀ q (hq : q < ll.length), ll[q].length = 8 ∧ ∀ k (hk : k < ll[q].length), 0 ≤ ll[q][k] ∧ ll[q][k] ≤ n := by
  simp only [trioB, Bool.and_eq_true, decide_eq_true_eq, List.all_eq_true] at h
  have := inB_iff.1 h.1.1
  exact ⟨this.1, this.2, h.1.2, fun q hq => rowB_len (h.2 _ (List.getElem_mem hq))⟩
/-- the bit of a player in a place -/
def bitZ (q : Int) (m : Nat) : Int := q / 2 ^ (2 - m) % 2
theorem bitZ_le (q : Int) (m : Nat) : 0 ≤ bitZ q m ∧ bitZ q m ≤ 1 := by unfold bitZ; omega
/-- the answers of a play -/
def playP (l : List Int) (q : Int) : Nat → Int
  | 0 => 0
  | m + 1 => 2 * playP l q m + atZ l (2 * m + bitZ q m)
theorem playP_bd {l : List Int} (h : bitsB l 6 = true) (q : Int) : ∀ m : Nat, m ≤ 3 → 0 ≤ playP l q m ∧ playP l q m < 2 ^ m
  | 0, _ => by simp [playP]
  | m + 1, hm => by
    have ih := playP_bd h q m (by omega)
    have hb := bitZ_le q m
    have := bitsB_at h (i := 2 * m + bitZ q m) (by omega) (by omega)
    rw [playP, Int.pow_succ]
    omega
theorem playP_4 {l : List Int} (h : bitsB l 6 = true) (q : Int) (m : Nat) (hm : m ≤ 2) : 0 ≤ playP l q m ∧ playP l q m < 4 := by
  have := playP_bd h q m (by omega)
  have : (2 : Int) ^ m ≤ 4 := by rcases (by omega : m = 0 ∨ m = 1 ∨ m = 2) with rfl | rfl | rfl <;> decide
  omega
def playV (l : List Int) (q : Int) : Int := playP l q 3
theorem playV_eq (l : List Int) {q : Int} (h0 : 0 ≤ q) (h8 : q < 8) : playV l q = 4 * atZ l (q / 4) + 2 * atZ l (2 + q / 2 % 2) + atZ l (4 + q % 2) := by
  have e : q / 4 % 2 = q / 4 := by omega
  simp [playV, playP, bitZ, e]; omega
theorem playV_bd {l : List Int} (h : bitsB l 6 = true) (q : Int) : 0 ≤ playV l q ∧ playV l q < 8 := by
  have := playP_bd h q 3 (by omega); unfold playV; omega
def ansF (n : Int) (g : Nat → Int) (q k : Nat) : Int := if (k : Int) = g q then n else 0
def trioOfB (l : List Int) (n : Int) : Bool := bitsB l 6 && inB n 1 1000
theorem oneHotZ {α : Type} (g : Int → α) (n : Int) {p : Int} (h0 : 0 ≤ p) (h8 : p < 8) : (List.replicate 8 (g 0)).set (p.toNat) (g n) = (rowF (fun k => if (k : Int) = p then n else 0) 8).map g := by
  rcases (by omega : p = 0 ∨ p = 1 ∨ p = 2 ∨ p = 3 ∨ p = 4 ∨ p = 5 ∨ p = 6 ∨ p = 7) with rfl | rfl | rfl | rfl | rfl | rfl | rfl | rfl <;> simp [rowF, List.range, List.range.loop, List.replicate, List.set]
theorem rowF_atZ (f : Nat → Int) {m k : Nat} (h : k < m) : atZ (rowF f m) (k : Int) = f k := by
  rw [atZ_nat (by simpa using h)]; simp [rowF]
theorem gridF_ans (n : Int) (f : Nat → Int) : gridF (ansF n fun q => atZ (rowF f 8) q) 8 8 = gridF (ansF n f) 8 8 :=
  gridF_congr fun i hi k _ => by have := rowF_atZ f hi; show (if (k : Int) = atZ (rowF f 8) i then n else 0) = if (k : Int) = f i then n else 0; simp only [this]
/-- the two players other than one -/
def oth1 (a : Int) : Nat := if a = 0 then 1 else 0
def oth2 (a : Int) : Nat := if a = 0 then 2 else if a = 1 then 2 else 1
def othL (a : Int) (k : Nat) : List Int := (([0, 1, 2] : List Int).take k).filter fun x => decide (x ≠ a)
theorem othL_succ (a : Int) {k : Nat} (h : k < 3) : othL a (k + 1) = if (k : Int) = a then othL a k else othL a k ++ [(k : Int)] := by
  unfold othL
  rw [List.take_succ_eq_append_getElem (by simpa using h), List.filter_append]
  by_cases e : (k : Int) = a
  · rcases (by omega : k = 0 ∨ k = 1 ∨ k = 2) with rfl | rfl | rfl <;> simp at e <;> simp [List.filter, ← e]
  · rcases (by omega : k = 0 ∨ k = 1 ∨ k = 2) with rfl | rfl | rfl <;> simp at e <;> simp [List.filter, e]
theorem othL_3 {a : Int} (h0 : 0 ≤ a) (h2 : a ≤ 2) : othL a 3 = [(oth1 a : Int), (oth2 a : Int)] := by
  rcases (by omega : a = 0 ∨ a = 1 ∨ a = 2) with rfl | rfl | rfl <;> rfl
/-- the answers of a group play -/
def grpAt (a q : Int) : Int := 2 * (2 * bitZ q (oth1 a) + bitZ q (oth2 a))
def grpV (a : Int) (own joint : List Int) (q : Int) : Int :=
  atZ own (bitZ q a.toNat) * 2 ^ (2 - a.toNat) + atZ joint (grpAt a q) * 2 ^ (2 - oth1 a) + atZ joint (grpAt a q + 1) * 2 ^ (2 - oth2 a)
theorem or421 {x y z : Int} (hx : 0 ≤ x ∧ x ≤ 1) (hy : 0 ≤ y ∧ y ≤ 1) (hz : 0 ≤ z ∧ z ≤ 1) : bits .or .i64 (bits .or .i64 (x * 4) (y * 2)) z = x * 4 + y * 2 + z := by
  rcases (by omega : x = 0 ∨ x = 1) with rfl | rfl <;> rcases (by omega : y = 0 ∨ y = 1) with rfl | rfl <;> rcases (by omega : z = 0 ∨ z = 1) with rfl | rfl <;> rfl
theorem or241 {x y z : Int} (hx : 0 ≤ x ∧ x ≤ 1) (hy : 0 ≤ y ∧ y ≤ 1) (hz : 0 ≤ z ∧ z ≤ 1) : bits .or .i64 (bits .or .i64 (x * 2) (y * 4)) z = x * 2 + y * 4 + z := by
  rcases (by omega : x = 0 ∨ x = 1) with rfl | rfl <;> rcases (by omega : y = 0 ∨ y = 1) with rfl | rfl <;> rcases (by omega : z = 0 ∨ z = 1) with rfl | rfl <;> rfl
theorem or142 {x y z : Int} (hx : 0 ≤ x ∧ x ≤ 1) (hy : 0 ≤ y ∧ y ≤ 1) (hz : 0 ≤ z ∧ z ≤ 1) : bits .or .i64 (bits .or .i64 x (y * 4)) (z * 2) = x + y * 4 + z * 2 := by
  rcases (by omega : x = 0 ∨ x = 1) with rfl | rfl <;> rcases (by omega : y = 0 ∨ y = 1) with rfl | rfl <;> rcases (by omega : z = 0 ∨ z = 1) with rfl | rfl <;> rfl
def groupB (a : Int) (own joint : List Int) (n : Int) : Bool := inB a 0 2 && bitsB own 2 && bitsB joint 8 && inB n 1 1000
theorem othL_len (a : Int) (k : Nat) : (othL a k).length ≤ 3 := by
  unfold othL; refine Nat.le_trans (List.length_filter_le _ _) ?_; rw [List.length_take]; exact Nat.min_le_right _ _

theorem inB_02 {a : Int} (h : inB a 0 2 = true) : a = 0 ∨ a = 1 ∨ a = 2 := by have := inB_iff.1 h; omega
theorem grpV_bd {a : Int} {own joint : List Int} (h : inB a 0 2 = true) (ho : bitsB own 2 = true) (hj : bitsB joint 8 = true) (q : Int) : 0 ≤ grpV a own joint q ∧ grpV a own joint q < 8 := by
  have b0 := bitZ_le q a.toNat
  have b1 := bitZ_le q (oth1 a)
  have b2 := bitZ_le q (oth2 a)
  have p0 := bitsB_at ho (i := bitZ q a.toNat) (by omega) (by omega)
  have a0 := bitsB_at hj (i := grpAt a q) (by unfold grpAt; omega) (by unfold grpAt; omega)
  have a1 := bitsB_at hj (i := grpAt a q + 1) (by unfold grpAt; omega) (by unfold grpAt; omega)
  rcases inB_02 h with rfl | rfl | rfl <;> simp [grpV, oth1, oth2] at * <;> omega
/-- a place whose digits are turned -/
def turnP (p : Int) : Int := p * 2 % 8 + p / 4
theorem turnP_bd {p : Int} (h0 : 0 ≤ p) (h8 : p < 8) : 0 ≤ turnP p ∧ turnP p < 8 := by unfold turnP; omega
theorem or_turn {p : Int} (h0 : 0 ≤ p) (h8 : p < 8) : bits .or .i64 (p * 2 % 8) (p / 4) = turnP p := by
  rcases (by omega : p = 0 ∨ p = 1 ∨ p = 2 ∨ p = 3 ∨ p = 4 ∨ p = 5 ∨ p = 6 ∨ p = 7) with rfl | rfl | rfl | rfl | rfl | rfl | rfl | rfl <;> rfl
def turnI (k : Nat) : Nat := k / 2 + k % 2 * 4
theorem turnI_lt {p : Nat} (h : p < 8) : turnI p < 8 := by unfold turnI; omega
def turnN (p : Nat) : Nat := p * 2 % 8 + p / 4
theorem turnP_nat (p : Nat) : turnP p = (turnN p : Nat) := by unfold turnP turnN; omega
theorem turnN_lt {p : Nat} (h : p < 8) : turnN p < 8 := by unfold turnN; omega
/-- a list of eight that is filled at the turned places, k of them so far -/
def turnL {α : Type} (z : α) (f : Nat → α) (k : Nat) : List α := (List.range 8).map fun j => if turnN j < k then f j else z
theorem turnL_len {α : Type} (z : α) (f : Nat → α) (k : Nat) : (turnL z f k).length = 8 := by simp [turnL]
theorem turnL_zero {α : Type} (z : α) (f : Nat → α) : turnL z f 0 = List.replicate 8 z := by simp [turnL, List.range, List.range.loop, List.replicate]
theorem turnL_set {α : Type} (z : α) (f : Nat → α) {k : Nat} (h : k < 8) : (turnL z f k).set (turnI k) (f (turnI k)) = turnL z f (k + 1) := by
  rcases (by omega : k = 0 ∨ k = 1 ∨ k = 2 ∨ k = 3 ∨ k = 4 ∨ k = 5 ∨ k = 6 ∨ k = 7) with rfl | rfl | rfl | rfl | rfl | rfl | rfl | rfl <;> rfl
theorem turnL_all {α : Type} (z : α) (f : Nat → α) : turnL z f 8 = (List.range 8).map f := by
  unfold turnL
  refine List.map_congr_left fun j hj => ?_
  have := turnN_lt (List.mem_range.1 hj)
  rw [if_pos (by omega)]
theorem turnN_inv {k : Nat} (h : k < 8) : turnN (turnI k) = k := by
  rcases (by omega : k = 0 ∨ k = 1 ∨ k = 2 ∨ k = 3 ∨ k = 4 ∨ k = 5 ∨ k = 6 ∨ k = 7) with rfl | rfl | rfl | rfl | rfl | rfl | rfl | rfl <;> rfl
def turnF (ll : List (List Int)) (q k : Nat) : Int := atZ (atZ ll (turnP q)) (turnP k)
def mixF (a b : List (List Int)) (q k : Nat) : Int := atZ (atZ a q) k + atZ (atZ b q) k
theorem trioB_at {n : Int} {ll : List (List Int)} (h : trioB n ll = true) {q : Int} (h0 : 0 ≤ q) (h8 : q < 8) : (atZ ll q).length = 8 ∧ ∀ k : Int, 0 ≤ k → k < 8 → 0 ≤ atZ (atZ ll q) k ∧ atZ (atZ ll q) k ≤ n := by
  obtain ⟨h1, h2, h3, h4⟩ := trioB_spec h
  obtain ⟨i, rfl⟩ := Int.eq_ofNat_of_zero_le h0
  rw [atZ_nat (by omega)]
  obtain ⟨h5, h6⟩ := h4 i (by omega)
  refine ⟨h5, fun k hk0 hk8 => ?_⟩
  obtain ⟨j, rfl⟩ := Int.eq_ofNat_of_zero_le hk0
  rw [atZ_nat (by omega)]
  exact h6 j (by omega)
theorem sum64_of {l : List Int} (h : l.length = 8) (hb : ∀ k (hk : k < l.length), 0 ≤ l[k] ∧ l[k] ≤ 1000000) : sum64 l = l.sum := by
  have key : ∀ (l : List Int) (s : Int), 0 ≤ s → (∀ x ∈ l, 0 ≤ x ∧ x ≤ 1000000) → s + l.length * 1000000 ≤ 1000000000 → l.foldl (fun s n => IntKind.i64.wrap (s + n)) s = s + l.sum := by
    intro l
    induction l with
    | nil => intro s _ _ _; simp
    | cons x l ih =>
      intro s h0 hx hs
      have h1 := hx x (List.mem_cons_self ..)
      simp only [List.length_cons] at hs
      rw [List.foldl_cons, IntWalk.i64_in _ (by omega), ih _ (by omega) (fun y hy => hx y (List.mem_cons_of_mem _ hy)) (by omega), List.sum_cons]; omega
  have := key l 0 (by omega) (fun x hx => by obtain ⟨k, hk, rfl⟩ := List.getElem_of_mem hx; exact hb k hk) (by omega)
  unfold sum64; rw [this]; omega
theorem len8 {l : List Int} (h : l.length = 8) : ∃ a b c d e f g i, l = [a, b, c, d, e, f, g, i] := by
  match l, h with
  | [a, b, c, d, e, f, g, i], _ => exact ⟨a, b, c, d, e, f, g, i, rfl⟩
theorem mix_row {m n : Int} {a b : List Int} (ha : rowB m a = true) (hb : rowB n b = true) (hm : m ≤ 1000) (hn : n ≤ 1000) : rowB (m + n) (rowF (fun k => atZ a k + atZ b k) 8) = true := by
  obtain ⟨a1, a2⟩ := rowB_len ha
  obtain ⟨b1, b2⟩ := rowB_len hb
  have sa : sum64 a = m := by simp [rowB] at ha; exact ha.2
  have sb : sum64 b = n := by simp [rowB] at hb; exact hb.2
  rw [sum64_of a1 fun k hk => ⟨(a2 k hk).1, by have := (a2 k hk).2; omega⟩] at sa
  rw [sum64_of b1 fun k hk => ⟨(b2 k hk).1, by have := (b2 k hk).2; omega⟩] at sb
  have bd : ∀ k (hk : k < (rowF (fun k : Nat => atZ a k + atZ b k) 8).length), 0 ≤ (rowF (fun k : Nat => atZ a k + atZ b k) 8)[k] ∧ (rowF (fun k : Nat => atZ a k + atZ b k) 8)[k] ≤ m + n := fun k hk => by
    simp only [rowF, List.getElem_map, List.getElem_range]
    have hk8 : k < 8 := by simpa using hk
    rw [atZ_nat (by omega), atZ_nat (by omega)]
    have := a2 k (by omega); have := b2 k (by omega); omega
  have e : sum64 (rowF (fun k : Nat => atZ a k + atZ b k) 8) = m + n := by
    rw [sum64_of (by simp) fun k hk => ⟨(bd k hk).1, by have := (bd k hk).2; omega⟩]
    obtain ⟨x0, x1, x2, x3, x4, x5, x6, x7, rfl⟩ := len8 a1
    obtain ⟨y0, y1, y2, y3, y4, y5, y6, y7, rfl⟩ := len8 b1
    simp [rowF, List.range, List.range.loop, atZ] at sa sb ⊢
    omega
  simp only [rowB, allB, e, rowF_len, decide_true, Bool.true_and, Bool.and_true, List.all_eq_true]
  intro x hx
  obtain ⟨k, hk, rfl⟩ := List.getElem_of_mem hx
  exact inB_iff.2 (bd k hk)
theorem mix_trio {m n : Int} {a b : List (List Int)} (ha : trioB m a = true) (hb : trioB n b = true) : trioB (m + n) (gridF (mixF a b) 8 8) = decide (m + n ≤ 1000) := by
  obtain ⟨a1, a2, a3, _⟩ := trioB_spec ha
  obtain ⟨b1, b2, b3, _⟩ := trioB_spec hb
  simp only [trioB, Bool.and_eq_true, List.all_eq_true] at ha hb
  have rows : (gridF (mixF a b) 8 8).all (rowB (m + n)) = true := by
    rw [List.all_eq_true]
    intro x hx
    unfold gridF at hx
    obtain ⟨q, hq, rfl⟩ := List.mem_map.1 hx
    have hq := List.mem_range.1 hq
    have := mix_row (ha.2 (a[q]'(by omega)) (List.getElem_mem _)) (hb.2 (b[q]'(by omega)) (List.getElem_mem _)) a2 b2
    have e : (mixF a b q) = fun k : Nat => atZ (a[q]'(by omega)) k + atZ (b[q]'(by omega)) k := by
      funext k; unfold mixF; rw [show atZ a (q : Int) = a[q]'(by omega) from atZ_nat (by omega), show atZ b (q : Int) = b[q]'(by omega) from atZ_nat (by omega)]
    rw [e]; exact this
  unfold trioB
  rw [rows]
  simp [inB]; omega
def mixB (m : Int) (a : List (List Int)) (n : Int) (b : List (List Int)) : Bool := trioB m a && trioB n b && decide (m + n ≤ 1000)

end Go.Proofs.Ytefbiejoikpkmaa

namespace Go.Proofs.Ytefbiejoikpkmaa
open Go.RowKit
/-! all plays -/
def bitN (c e : Nat) : Nat := c / 2 ^ e % 2
def bitsM (n c : Nat) : List Int := rowF (fun i => (bitN c (n - 1 - i) : Int)) n
def playsF (n : Nat) : List (List Int) := (List.range (2 ^ n)).map (bitsM n)
@[simp] theorem bitsM_len (n c : Nat) : (bitsM n c).length = n := by simp [bitsM]
@[simp] theorem playsF_len (n : Nat) : (playsF n).length = 2 ^ n := by simp [playsF]
theorem bitsM_bits (n c : Nat) : bitsB (bitsM n c) n = true := by
  simp only [bitsB, bitsM_len, decide_true, Bool.true_and, allB, List.all_eq_true]
  intro x hx
  unfold bitsM rowF at hx
  obtain ⟨i, _, rfl⟩ := List.mem_map.1 hx
  exact inB_iff.2 ⟨by unfold bitN; omega, by unfold bitN; omega⟩
theorem playsF_at {n k : Nat} (h : k < 2 ^ n) : atZ (playsF n) (k : Int) = bitsM n k := by rw [atZ_nat (by simpa using h)]; simp [playsF]
theorem plays_snoc (n c : Nat) : (List.range (c + 1)).map (bitsM n) = (List.range c).map (bitsM n) ++ [bitsM n c] := by simp [List.range_succ]
theorem bit_nat (c e : Nat) : (c : Int) / 2 ^ e % 2 = (bitN c e : Int) := by
  unfold bitN
  rw [Int.natCast_emod, Int.natCast_ediv, Int.natCast_pow]; rfl
/-- the greatest of numbers, at least 0 -/
def bestN (f : Nat → Int) : Nat → Int
  | 0 => 0
  | k + 1 => max (bestN f k) (f k)
theorem bestN_ge (f : Nat → Int) : ∀ n, 0 ≤ bestN f n
  | 0 => by simp [bestN]
  | k + 1 => by have := bestN_ge f k; simp only [bestN]; omega
theorem le_bestN (f : Nat → Int) : ∀ n k, k < n → f k ≤ bestN f n
  | n + 1, k, h => by
    simp only [bestN]
    by_cases e : k = n
    · subst e; omega
    · have := le_bestN f n k (by omega); omega
theorem bestN_le (f : Nat → Int) (M : Int) (h0 : 0 ≤ M) : ∀ n, (∀ k, k < n → f k ≤ M) → bestN f n ≤ M
  | 0, _ => by simpa [bestN] using h0
  | n + 1, h => by
    have h1 := bestN_le f M h0 n fun k hk => h k (by omega)
    have h2 := h n (by omega)
    simp only [bestN]; omega
theorem bestN_congr {f g : Nat → Int} : ∀ {n : Nat}, (∀ k, k < n → f k = g k) → bestN f n = bestN g n
  | 0, _ => rfl
  | n + 1, h => by simp only [bestN]; rw [bestN_congr fun k hk => h k (by omega), h n (by omega)]
theorem bestN_perm {f g : Nat → Int} {n : Nat} (r : Nat → Nat) (hr : ∀ k, k < n → r k < n) (h1 : ∀ k, k < n → f k = g (r k)) (h2 : ∀ k, k < n → g k = f (r k)) : bestN f n = bestN g n := by
  have a := bestN_le f (bestN g n) (bestN_ge g n) n fun k hk => by rw [h1 k hk]; exact le_bestN g n _ (hr k hk)
  have b := bestN_le g (bestN f n) (bestN_ge f n) n fun k hk => by rw [h2 k hk]; exact le_bestN f n _ (hr k hk)
  omega
/-- the score of answers -/
def parZ (p : Int) : Int := (p / 4 + p / 2 + p) % 2
def scoreN (w odd : List Int) (f : Int → Int) : Nat → Int
  | 0 => 0
  | k + 1 => scoreN w odd f k + if parZ (f k) = atZ odd k then atZ w k else 0
def valB (w odd : List Int) : Bool := decide (w.length = 8) && allB w 0 99 && bitsB odd 8
theorem allB_at {l : List Int} {lo hi : Int} (h : allB l lo hi = true) {i : Int} (h0 : 0 ≤ i) (h1 : i < l.length) : lo ≤ atZ l i ∧ atZ l i ≤ hi := by
  unfold allB at h
  rw [List.all_eq_true] at h
  obtain ⟨k, rfl⟩ := Int.eq_ofNat_of_zero_le h0
  rw [atZ_nat (by omega)]
  exact inB_iff.1 (h (l[k]'(by omega)) (List.getElem_mem _))
theorem scoreN_bd {w odd : List Int} (h : valB w odd = true) (f : Int → Int) : ∀ k : Nat, k ≤ 8 → 0 ≤ scoreN w odd f k ∧ scoreN w odd f k ≤ 99 * k
  | 0, _ => by simp [scoreN]
  | k + 1, hk => by
    have ih := scoreN_bd h f k (by omega)
    simp only [valB, Bool.and_eq_true, decide_eq_true_eq] at h
    have := allB_at h.1.2 (i := k) (by omega) (by omega)
    simp only [scoreN]
    split <;> omega
def trioVal (w odd : List Int) : Int := bestN (fun c => scoreN w odd (fun q => playV (bitsM 6 c) q) 8) 64
def bitsL (c : Nat) : List Int := rowF (fun i => (bitN c i : Int)) 6
def rev6 (c : Nat) : Nat := c % 2 * 32 + c / 2 % 2 * 16 + c / 4 % 2 * 8 + c / 8 % 2 * 4 + c / 16 % 2 * 2 + c / 32
theorem rev6_lt {c : Nat} (h : c < 64) : rev6 c < 64 := by unfold rev6; omega
theorem bitsL_bits (c : Nat) : bitsB (bitsL c) 6 = true := by
  simp only [bitsB, bitsL, rowF_len, Bool.and_eq_true, allB, List.all_eq_true]
  refine ⟨by decide, ?_⟩
  intro x hx
  unfold rowF at hx
  obtain ⟨i, _, rfl⟩ := List.mem_map.1 hx
  exact inB_iff.2 ⟨by unfold bitN; omega, by unfold bitN; omega⟩
theorem bits_rev : ∀ c : Fin 64, bitsM 6 c = bitsL (rev6 c) ∧ bitsL c = bitsM 6 (rev6 c) := by decide +kernel
theorem trioVal_L (w odd : List Int) : bestN (fun c => scoreN w odd (fun q => playV (bitsL c) q) 8) 64 = trioVal w odd :=
  bestN_perm rev6 (fun _ => rev6_lt) (fun k hk => by rw [(bits_rev ⟨k, hk⟩).2]) (fun k hk => by rw [(bits_rev ⟨k, hk⟩).1])

end Go.Proofs.Ytefbiejoikpkmaa

namespace Go.Proofs.Ytefbiejoikpkmaa
open Go.RowKit
open Go
/-! quiet trios -/
def at2 (ll : List (List Int)) (q k : Nat) : Int := atZ (atZ ll (q : Int)) (k : Int)
/-- the numbers of the places that differ by a digit add up alike for the questions that differ by it -/
def quietAt (ll : List (List Int)) (d q a : Nat) : Bool := (q &&& d != 0) || decide (at2 ll q a + at2 ll q (a ^^^ d) = at2 ll (q ||| d) a + at2 ll (q ||| d) (a ^^^ d))
def quiet3 (ll : List (List Int)) : Bool := [4, 2, 1].all fun d => (List.range 8).all fun q => (List.range 8).all fun a => quietAt ll d q a
theorem range_all_f {f : Nat → Bool} {n k : Nat} (h : k < n) (hf : f k = false) : (List.range n).all f = false := by
  rw [← Bool.not_eq_true, List.all_eq_true]; intro H; have := H k (List.mem_range.2 h); rw [hf] at this; cases this
theorem range_all_s {f : Nat → Bool} {k : Nat} : (List.range (k + 1)).all f = ((List.range k).all f && f k) := by simp [List.range_succ]
theorem quiet_digit (p : Nat) (h : p < 3) : ∃ d : Nat, (4 : Int) / 2 ^ p = (d : Int) ∧ (∀ f : Nat → Bool, (List.take (p + 1) [4, 2, 1]).all f = ((List.take p [4, 2, 1]).all f && f d)) ∧ d ≤ 4 ∧ (∀ f : Nat → Bool, f d = false → [4, 2, 1].all f = false) ∧ (∀ a, a < 8 → a ^^^ d < 8) ∧ (∀ q, q < 8 → q ||| d < 8) ∧ 1 ≤ d := by
  have : p = 0 ∨ p = 1 ∨ p = 2 := by omega
  rcases this with rfl | rfl | rfl
  · exact ⟨4, by decide, fun f => by simp, by decide, fun f h => by simp [h], by decide, by decide, by decide⟩
  · exact ⟨2, by decide, fun f => by simp, by decide, fun f h => by simp [h], by decide, by decide, by decide⟩
  · exact ⟨1, by decide, fun f => by simp [Bool.and_assoc], by decide, fun f h => by simp [h], by decide, by decide, by decide⟩
def spQuietAt (ll : List (List Int)) (d q a : Nat) : Bool := (q &&& d != 0) || (a &&& d != 0) || decide (at2 ll q a + at2 ll q (a ^^^ d) = at2 ll (q ||| d) a + at2 ll (q ||| d) (a ^^^ d))
def spQuiet (ll : List (List Int)) (p : Nat) : Bool := (List.take p [1, 2, 4]).all fun d => (List.range 8).all fun q => (List.range 8).all fun a => spQuietAt ll d q a
theorem spQuiet_row {ll : List (List Int)} {d q : Nat} (h : d = 1 ∨ d = 2 ∨ d = 4) : ((List.range 8).all fun a => spQuietAt ll d q a) = ((List.range 8).all fun a => quietAt ll d q a) := by
  rw [Bool.eq_iff_iff, List.all_eq_true, List.all_eq_true]
  constructor
  · intro H a ha
    by_cases hd : a &&& d = 0
    · have := H a ha
      simpa [spQuietAt, quietAt, hd] using this
    · have hx : a ^^^ d < 8 ∧ (a ^^^ d) &&& d = 0 ∧ (a ^^^ d) ^^^ d = a := by
        have ha' := List.mem_range.1 ha
        have hall : ∀ d, (d = 1 ∨ d = 2 ∨ d = 4) → ∀ a, a < 8 → a &&& d ≠ 0 → a ^^^ d < 8 ∧ (a ^^^ d) &&& d = 0 ∧ (a ^^^ d) ^^^ d = a := by
          rintro d (rfl | rfl | rfl) <;> decide
        exact hall d h a ha' hd
      have := H (a ^^^ d) (List.mem_range.2 hx.1)
      simp only [spQuietAt, quietAt, hx.2.1, hx.2.2, Bool.or_eq_true, bne_iff_ne, ne_eq, not_true_eq_false, or_false, decide_eq_true_eq] at this ⊢
      rcases this with h1 | h1
      · exact .inl h1
      · right; omega
  · intro H a ha
    have := H a ha
    simp only [spQuietAt, quietAt, Bool.or_eq_true] at this ⊢
    rcases this with h1 | h1
    · exact .inl (.inl h1)
    · exact .inr h1
theorem spQuiet_eq (ll : List (List Int)) : spQuiet ll 3 = quiet3 ll := by
  have e : ∀ d, (d = 1 ∨ d = 2 ∨ d = 4) → ((List.range 8).all fun q => (List.range 8).all fun a => spQuietAt ll d q a) = ((List.range 8).all fun q => (List.range 8).all fun a => quietAt ll d q a) := fun d hd =>
    congrArg (List.all (List.range 8)) (funext fun q => spQuiet_row hd)
  unfold spQuiet quiet3
  simp only [List.take_succ_cons, List.take_zero, List.all_cons, List.all_nil, Bool.and_true]
  rw [e 1 (by simp), e 2 (by simp), e 4 (by simp)]
  cases (List.range 8).all fun q => (List.range 8).all fun a => quietAt ll 1 q a <;> cases (List.range 8).all fun q => (List.range 8).all fun a => quietAt ll 2 q a <;> cases (List.range 8).all fun q => (List.range 8).all fun a => quietAt ll 4 q a <;> rfl
def pw2 (p : Nat) : Nat := 2 ^ p
theorem spQuiet_digit (p : Nat) (h : p < 3) : ∃ d : Nat, pw2 p = d ∧ pw2 (p + 1) = d * 2 ∧ (∀ f : Nat → Bool, (List.take (p + 1) [1, 2, 4]).all f = ((List.take p [1, 2, 4]).all f && f d)) ∧ (∀ f : Nat → Bool, f d = false → (List.take 3 [1, 2, 4]).all f = false) ∧ (d = 1 ∨ d = 2 ∨ d = 4) := by
  have : p = 0 ∨ p = 1 ∨ p = 2 := by omega
  rcases this with rfl | rfl | rfl
  · exact ⟨1, by decide, by decide, fun f => by simp, fun f h => by simp [h], by simp⟩
  · exact ⟨2, by decide, by decide, fun f => by simp, fun f h => by simp [h], by simp⟩
  · exact ⟨4, by decide, by decide, fun f => by simp [Bool.and_assoc], fun f h => by simp [h], by simp⟩
theorem digit_add {d k : Nat} (hd : d = 1 ∨ d = 2 ∨ d = 4) (hk : k < 8) (h : k &&& d = 0) : k + d = k ^^^ d ∧ k + d = k ||| d ∧ k + d < 8 := by
  have hall : ∀ d, (d = 1 ∨ d = 2 ∨ d = 4) → ∀ k, k < 8 → k &&& d = 0 → k + d = k ^^^ d ∧ k + d = k ||| d ∧ k + d < 8 := by rintro d (rfl | rfl | rfl) <;> decide
  exact hall d hd k hk h

end Go.Proofs.Ytefbiejoikpkmaa

namespace Go.Proofs.Ytefbiejoikpkmaa
open Go.RowKit
open Go
/-! boxes -/
def row4B (n : Int) (row : List Int) : Bool := (decide (row.length = 4) && allB row 0 n) && decide (sum64 row = n)
def sizeB (x y : Int) : Bool := inB x 1 3 && inB y 1 3
def boxB (x y n : Int) (ll : List (List Int)) : Bool := ((sizeB x y && inB n 1 1000) && decide ((ll.length : Int) = x * y)) && ll.all (row4B n)
theorem sizeB_iff {x y : Int} : sizeB x y = true ↔ (1 ≤ x ∧ x ≤ 3) ∧ (1 ≤ y ∧ y ≤ 3) := by simp [sizeB, inB_iff]
theorem mul_bd3 {x y : Int} (h : sizeB x y = true) : 1 ≤ x * y ∧ x * y ≤ 9 := by
  obtain ⟨⟨a, b⟩, c, d⟩ := sizeB_iff.1 h
  rcases (by omega : x = 1 ∨ x = 2 ∨ x = 3) with rfl | rfl | rfl <;> rcases (by omega : y = 1 ∨ y = 2 ∨ y = 3) with rfl | rfl | rfl <;> decide
theorem wrap_mul3 {x y : Int} (h : sizeB x y = true) : IntKind.i64.wrap (x * y) = x * y := IntWalk.i64_in _ (by have := mul_bd3 h; omega)
theorem row4B_len {n : Int} {row : List Int} (h : row4B n row = true) : row.length = 4 ∧ ∀ k (hk : k < row.length), 0 ≤ row[k] ∧ row[k] ≤ n := by
  simp only [row4B, Bool.and_eq_true, decide_eq_true_eq, allB, List.all_eq_true] at h
  exact ⟨h.1.1, fun k hk => inB_iff.1 (h.1.2 _ (List.getElem_mem hk))⟩
theorem row4B_sum {n : Int} {row : List Int} (h : row4B n row = true) : sum64 row = n := by simp [row4B] at h; exact h.2
structure BoxOK (x y n : Int) (ll : List (List Int)) : Prop where
  x1 : 1 ≤ x
  x3 : x ≤ 3
  y1 : 1 ≤ y
  y3 : y ≤ 3
  n1 : 1 ≤ n
  n2 : n ≤ 1000
  len : (ll.length : Int) = x * y
  row : ∀ q, (hq : q < ll.length) → row4B n ll[q] = true
theorem boxB_spec {x y n : Int} {ll : List (List Int)} (h : boxB x y n ll = true) : BoxOK x y n ll := by
  simp only [boxB, Bool.and_eq_true, decide_eq_true_eq, List.all_eq_true] at h
  obtain ⟨⟨⟨h1, h2⟩, h3⟩, h4⟩ := h
  have a := sizeB_iff.1 h1
  have b := inB_iff.1 h2
  exact ⟨a.1.1, a.1.2, a.2.1, a.2.2, b.1, b.2, h3, fun q hq => h4 _ (List.getElem_mem hq)⟩
theorem boxB_at {x y n : Int} {ll : List (List Int)} (h : boxB x y n ll = true) {q : Int} (h0 : 0 ≤ q) (h8 : q < x * y) : (atZ ll q).length = 4 ∧ ∀ k : Int, 0 ≤ k → k < 4 → 0 ≤ atZ (atZ ll q) k ∧ atZ (atZ ll q) k ≤ n := by
  have hb := boxB_spec h
  obtain ⟨i, rfl⟩ := Int.eq_ofNat_of_zero_le h0
  have hi : i < ll.length := by have := hb.len; omega
  rw [atZ_nat hi]
  obtain ⟨h5, h6⟩ := row4B_len (hb.row i hi)
  refine ⟨h5, fun k hk0 hk8 => ?_⟩
  obtain ⟨j, rfl⟩ := Int.eq_ofNat_of_zero_le hk0
  rw [atZ_nat (by omega)]
  exact h6 j (by omega)
/-- the place of a pair of questions -/
theorem idx_lt {i k X Y : Int} (h0 : 0 ≤ i) (h1 : i < X) (h2 : 0 ≤ k) (h3 : k < Y) : 0 ≤ i * Y + k ∧ i * Y + k < X * Y ∧ 0 ≤ i * Y ∧ i * Y < X * Y := by
  have hY : 0 ≤ Y := by omega
  have a : 0 ≤ i * Y := Int.mul_nonneg h0 hY
  have b : (i + 1) * Y ≤ X * Y := Int.mul_le_mul_of_nonneg_right (by omega) hY
  rw [Int.add_mul, Int.one_mul] at b
  omega
theorem idx_ltN {i k X Y : Nat} (h1 : i < X) (h3 : k < Y) : Y * i + k < Y * X := by
  rw [Nat.mul_comm Y i, Nat.mul_comm Y X]
  have b : (i + 1) * Y ≤ X * Y := Nat.mul_le_mul_right _ (by omega)
  rw [Nat.add_mul, Nat.one_mul] at b
  omega
/-- the rows of a box told by a function of questions and place -/
def boxF (f : Nat → Nat → Nat → Int) (y n : Nat) : List (List Int) := (List.range n).map fun j => rowF (f (j / y) (j % y)) 4
@[simp] theorem boxF_len (f : Nat → Nat → Nat → Int) (y n : Nat) : (boxF f y n).length = n := by simp [boxF]
theorem boxF_snoc (f : Nat → Nat → Nat → Int) (y : Nat) (i k : Nat) (h : k < y) : boxF f y (y * i + (k + 1)) = boxF f y (y * i + k) ++ [rowF (f i k) 4] := by
  have e1 : (y * i + k) / y = i := by rw [Nat.mul_comm, Nat.add_comm, Nat.add_mul_div_right _ _ (by omega), Nat.div_eq_of_lt h, Nat.zero_add]
  have e2 : (y * i + k) % y = k := by rw [Nat.mul_comm, Nat.add_comm, Nat.add_mul_mod_self_right, Nat.mod_eq_of_lt h]
  simp [boxF, ← Nat.add_assoc, List.range_succ, e1, e2]
theorem boxF_congr {f g : Nat → Nat → Nat → Int} {x y : Nat} (h : ∀ i k p, i < x → k < y → p < 4 → f i k p = g i k p) : boxF f y (y * x) = boxF g y (y * x) := by
  unfold boxF
  refine List.map_congr_left fun j hj => ?_
  have hj := List.mem_range.1 hj
  by_cases hy : y = 0
  · subst hy; simp at hj
  · exact rowF_congr fun p hp => h _ _ _ (Nat.div_lt_of_lt_mul hj) (Nat.mod_lt _ (by omega)) hp
theorem cnt_boxF (f : Nat → Nat → Nat → Int) (y n : Nat) : cnt (boxF f y n) = n * 4 := by
  rw [cnt_len 4]
  · simp
  · intro l hl; unfold boxF at hl; obtain ⟨j, _, rfl⟩ := List.mem_map.1 hl; simp
theorem boxF_at {f : Nat → Nat → Nat → Int} {y n : Nat} {j : Nat} (h : j < n) : atZ (boxF f y n) (j : Int) = rowF (f (j / y) (j % y)) 4 := by
  rw [atZ_nat (by simpa using h)]; simp [boxF]
/-- a box's number -/
def atB (ll : List (List Int)) (Y i k p : Int) : Int := atZ (atZ ll (i * Y + k)) p

end Go.Proofs.Ytefbiejoikpkmaa

namespace Go.Proofs.Ytefbiejoikpkmaa
open Go.RowKit
open Go
/-! numbers added up at places -/
def accN (s : Nat → Nat) (v : Nat → Int) : Nat → Nat → Int
  | 0, _ => 0
  | m + 1, p => accN s v m p + if s m = p then v m else 0
theorem accN_set (s : Nat → Nat) (v : Nat → Int) (m : Nat) (h : s m < 4) : (rowF (accN s v m) 4).set (s m) (accN s v m (s m) + v m) = rowF (accN s v (m + 1)) 4 := by
  rcases (by omega : s m = 0 ∨ s m = 1 ∨ s m = 2 ∨ s m = 3) with e | e | e | e <;> simp [rowF, accN, e, List.range, List.range.loop, List.set]
theorem accN_sum (s : Nat → Nat) (v : Nat → Int) : ∀ m, (∀ t, t < m → s t < 4) → accN s v m 0 + accN s v m 1 + accN s v m 2 + accN s v m 3 = ((List.range m).map v).sum
  | 0, _ => by simp [accN]
  | m + 1, h => by
    have ih := accN_sum s v m fun t ht => h t (by omega)
    have hs := h m (by omega)
    simp only [accN, List.range_succ, List.map_append, List.sum_append, List.map_cons, List.map_nil, List.sum_cons, List.sum_nil]
    rcases (by omega : s m = 0 ∨ s m = 1 ∨ s m = 2 ∨ s m = 3) with e | e | e | e <;> simp [e] <;> omega
theorem accN_nn (s : Nat → Nat) (v : Nat → Int) : ∀ m p, (∀ t, t < m → 0 ≤ v t) → 0 ≤ accN s v m p
  | 0, _, _ => by simp [accN]
  | m + 1, p, h => by
    have := accN_nn s v m p fun t ht => h t (by omega)
    have := h m (by omega)
    simp only [accN]; split <;> omega
def pairB (x y n : Int) (ll : List (List Int)) : Bool := boxB x y n ll && (decide (x = 2) && decide (y = 2))
def agrZ (row : List Int) : Int := atZ row 0 - atZ row 1 - atZ row 2 + atZ row 3

end Go.Proofs.Ytefbiejoikpkmaa

namespace Go.Proofs.Ytefbiejoikpkmaa
open Go.RowKit
open Go
/-! lists told by two lists of questions -/
def pairsF {α : Type} (h : Int → Int → α) (l m : List Int) : List α := l.flatMap fun x => m.map fun y => h x y
def pairsP {α : Type} (h : Int → Int → α) (l m : List Int) (i k : Nat) : List α := (pairsF h (l.take i) m) ++ ((m.take k).map fun y => h (atZ l i) y)
theorem pairsP_zero {α : Type} (h : Int → Int → α) (l m : List Int) : pairsP h l m 0 0 = [] := by simp [pairsP, pairsF]
theorem pairsP_snoc {α : Type} (h : Int → Int → α) (l m : List Int) (i : Nat) {k : Nat} (hk : k < m.length) : pairsP h l m i (k + 1) = pairsP h l m i k ++ [h (atZ l i) (atZ m k)] := by
  have e : m.take (k + 1) = m.take k ++ [m[k]] := List.take_succ_eq_append_getElem hk
  have e2 := atZ_nat hk
  unfold pairsP
  rw [e, e2, List.map_append, ← List.append_assoc]; rfl
theorem pairsP_row {α : Type} (h : Int → Int → α) (l m : List Int) {i : Nat} (hi : i < l.length) : pairsP h l m i m.length = pairsP h l m (i + 1) 0 := by
  have e : l.take (i + 1) = l.take i ++ [l[i]] := List.take_succ_eq_append_getElem hi
  have e2 := atZ_nat hi
  unfold pairsP pairsF
  rw [e, e2, List.flatMap_append, List.take_length]
  simp only [List.flatMap_cons, List.flatMap_nil, List.take_zero, List.map_nil, List.append_nil]
theorem pairsP_all {α : Type} (h : Int → Int → α) (l m : List Int) : pairsP h l m l.length 0 = pairsF h l m := by simp [pairsP]
theorem pairsF_len {α : Type} (h : Int → Int → α) : ∀ (l m : List Int), (pairsF h l m).length = l.length * m.length
  | [], m => by simp [pairsF]
  | x :: l, m => by
    have := pairsF_len h l m
    unfold pairsF at *
    rw [List.flatMap_cons, List.length_append, this, List.length_map, List.length_cons, Nat.add_mul]; omega
theorem pairsP_len {α : Type} (h : Int → Int → α) (l m : List Int) {i k : Nat} (hi : i ≤ l.length) (hk : k ≤ m.length) : (pairsP h l m i k).length = m.length * i + k := by
  unfold pairsP
  rw [Nat.mul_comm, List.length_append, pairsF_len, List.length_map, List.length_take, List.length_take, Nat.min_eq_left hi, Nat.min_eq_left hk]
theorem pairsF_congr {α : Type} {h g : Int → Int → α} {l m : List Int} (e : ∀ x ∈ l, ∀ y ∈ m, h x y = g x y) : pairsF h l m = pairsF g l m := by
  unfold pairsF
  induction l with
  | nil => rfl
  | cons x l ih =>
    rw [List.flatMap_cons, List.flatMap_cons, ih fun x hx y hy => e x (List.mem_cons_of_mem _ hx) y hy]
    congr 1
    exact List.map_congr_left fun y hy => e x (List.mem_cons_self ..) y hy
/-- the numbers less than n -/
def cntL (n : Nat) : List Int := (List.range n).map fun i : Nat => (i : Int)
@[simp] theorem cntL_len (n : Nat) : (cntL n).length = n := by simp [cntL]
theorem cntL_snoc (n : Nat) : cntL (n + 1) = cntL n ++ [(n : Int)] := by simp [cntL, List.range_succ]
theorem cntL_at {n i : Nat} (h : i < n) : atZ (cntL n) (i : Int) = i := by rw [atZ_nat (by simpa using h)]; simp [cntL]
theorem cntL_mem {n : Nat} {x : Int} (h : x ∈ cntL n) : 0 ≤ x ∧ x < n := by
  unfold cntL at h
  obtain ⟨i, hi, rfl⟩ := List.mem_map.1 h
  have := List.mem_range.1 hi; omega
/-! games -/
def totB (l : List Int) : Int := sum64 l
def gameB (x y : Int) (ws : List Int) (wi : List (List Int)) : Bool := sizeB x y && (decide ((ws.length : Int) = x * y) && (allB ws 0 99 && (decide (sum64 ws ≠ 0) && (decide ((wi.length : Int) = x * y) && wi.all (fun l => bitsB l 4)))))
structure GameOK (x y : Int) (ws : List Int) (wi : List (List Int)) : Prop where
  x1 : 1 ≤ x
  x3 : x ≤ 3
  y1 : 1 ≤ y
  y3 : y ≤ 3
  wl : (ws.length : Int) = x * y
  il : (wi.length : Int) = x * y
  wb : allB ws 0 99 = true
  s0 : sum64 ws ≠ 0
  row : ∀ q, (hq : q < wi.length) → bitsB wi[q] 4 = true
theorem gameB_spec {x y : Int} {ws : List Int} {wi : List (List Int)} (h : gameB x y ws wi = true) : GameOK x y ws wi := by
  simp only [gameB, Bool.and_eq_true, decide_eq_true_eq, List.all_eq_true] at h
  obtain ⟨h1, h2, h3, h4, h5, h6⟩ := h
  have a := sizeB_iff.1 h1
  exact ⟨a.1.1, a.1.2, a.2.1, a.2.2, h2, h5, h3, h4, fun q hq => h6 _ (List.getElem_mem hq)⟩
theorem sum64_small {l : List Int} {m : Int} (hl : l.length ≤ 1000) (hb : allB l 0 m = true) (hm : 0 ≤ m) (hm2 : m ≤ 1000000) : sum64 l = l.sum ∧ 0 ≤ l.sum ∧ l.sum ≤ l.length * m := by
  have key : ∀ (l : List Int) (s : Int), 0 ≤ s → (∀ x ∈ l, 0 ≤ x ∧ x ≤ m) → s + l.length * m ≤ 1000000000000 → l.foldl (fun s n => IntKind.i64.wrap (s + n)) s = s + l.sum ∧ 0 ≤ l.sum ∧ l.sum ≤ l.length * m := by
    intro l
    induction l with
    | nil => intro s _ _ _; simp
    | cons x l ih =>
      intro s h0 hx hs
      have h1 := hx x (List.mem_cons_self ..)
      simp only [List.length_cons, Int.natCast_add, Int.add_mul] at hs ⊢
      have h2 : 0 ≤ (l.length : Int) * m := Int.mul_nonneg (by omega) hm
      obtain ⟨e1, e2, e3⟩ := ih (s + x) (by omega) (fun y hy => hx y (List.mem_cons_of_mem _ hy)) (by simp at hs; omega)
      rw [List.foldl_cons, IntWalk.i64_in _ (by simp at hs; omega), e1, List.sum_cons]
      simp at hs ⊢; omega
  unfold allB at hb
  rw [List.all_eq_true] at hb
  have hlm : (l.length : Int) * m ≤ 1000 * 1000000 := Int.mul_le_mul (by omega) hm2 hm (by omega)
  have := key l 0 (by omega) (fun x hx => inB_iff.1 (hb x hx)) (by omega)
  unfold sum64; omega

theorem mem_atZ {α : Type} [Inhabited α] {l : List α} {i : Nat} (h : i < l.length) : atZ l (i : Int) ∈ l := by rw [atZ_nat h]; exact List.getElem_mem _
def whenA {α : Type} (b : Bool) (l : List α) : List α := if b = true then l else []
def xor4 (k : Nat) (m : Int) : Int := ((k ^^^ m.toNat : Nat) : Int)
theorem xor4_eq {k : Nat} {m : Int} (hk : k < 4) (h0 : 0 ≤ m) (h4 : m < 4) : bits .xor .i64 (k : Int) m = xor4 k m ∧ 0 ≤ xor4 k m ∧ xor4 k m < 4 := by
  rcases (by omega : k = 0 ∨ k = 1 ∨ k = 2 ∨ k = 3) with rfl | rfl | rfl | rfl <;> rcases (by omega : m = 0 ∨ m = 1 ∨ m = 2 ∨ m = 3) with rfl | rfl | rfl | rfl <;> exact ⟨rfl, by decide, by decide⟩
def flipOf (fl : List Int) (X x y : Int) : Int := 2 * atZ fl x + atZ fl (X + y)
/-- the weights and the wins that are asked for -/
def askW (Y : Int) (ws : List Int) (x y : Int) : Int := atZ ws (x * Y + y)
def askR (X Y : Int) (wi : List (List Int)) (fl : List Int) (x y : Int) : List Int := rowF (fun k => atZ (atZ wi (x * Y + y)) (xor4 k (flipOf fl X x y))) 4
@[simp] theorem askR_len (X Y : Int) (wi : List (List Int)) (fl : List Int) (x y : Int) : (askR X Y wi fl x y).length = 4 := by simp [askR]
theorem askR_get (X Y : Int) (wi : List (List Int)) (fl : List Int) (x y : Int) {p : Nat} (hp : p < (askR X Y wi fl x y).length) : (askR X Y wi fl x y)[p] = atZ (atZ wi (x * Y + y)) (xor4 p (flipOf fl X x y)) := by simp [askR, rowF]
theorem gameB_at {x y : Int} {ws : List Int} {wi : List (List Int)} (h : gameB x y ws wi = true) {q : Int} (h0 : 0 ≤ q) (h1 : q < x * y) : (0 ≤ atZ ws q ∧ atZ ws q ≤ 99) ∧ bitsB (atZ wi q) 4 = true := by
  have hg := gameB_spec h
  refine ⟨allB_at hg.wb h0 (by rw [hg.wl]; exact h1), ?_⟩
  obtain ⟨i, rfl⟩ := Int.eq_ofNat_of_zero_le h0
  have hi : i < wi.length := by have := hg.il; omega
  rw [atZ_nat hi]; exact hg.row i hi
theorem pairs_all {ws : List Int} {X Y : Nat} (h : ws.length = Y * X) : pairsF (askW Y ws) (cntL X) (cntL Y) = ws := by
  have e : pairsF (askW Y ws) (cntL X) (cntL Y) = (List.range (Y * X)).map fun j : Nat => atZ ws (j : Int) := by
    clear h
    induction X with
    | zero => simp [pairsF, cntL]
    | succ n ih =>
      unfold pairsF at ih ⊢
      rw [cntL_snoc, List.flatMap_append, ih, Nat.mul_succ, List.range_add, List.map_append, List.map_map]
      congr 1
      simp only [List.flatMap_cons, List.flatMap_nil, List.append_nil, cntL, List.map_map]
      refine List.map_congr_left fun k _ => ?_
      simp only [Function.comp, askW]
      congr 1
      rw [Int.natCast_add, Int.natCast_mul, Int.mul_comm]
  rw [e, ← h]
  refine List.ext_getElem (by simp) fun i h1 h2 => ?_
  simp [atZ_nat h2]
def flipB (X Y : Int) (ws : List Int) (wi : List (List Int)) (fl : List Int) : Bool := gameB X Y ws wi && bitsB fl (X + Y)
theorem flipB_spec {X Y : Int} {ws : List Int} {wi : List (List Int)} {fl : List Int} (h : flipB X Y ws wi fl = true) : 1 ≤ X ∧ X ≤ 3 ∧ 1 ≤ Y ∧ Y ≤ 3 := by
  simp only [flipB, Bool.and_eq_true] at h
  have := gameB_spec h.1
  exact ⟨this.x1, this.x3, this.y1, this.y3⟩
def flipR (X Y : Int) (wi : List (List Int)) (fl : List Int) : List (List Int) := pairsF (askR X Y wi fl) (cntL X.toNat) (cntL Y.toNat)
theorem pairs_allZ {ws : List Int} {X Y : Int} (h0 : 0 ≤ X) (h1 : 0 ≤ Y) (h : (ws.length : Int) = X * Y) : pairsF (askW Y ws) (cntL X.toNat) (cntL Y.toNat) = ws := by
  obtain ⟨x, rfl⟩ := Int.eq_ofNat_of_zero_le h0
  obtain ⟨y, rfl⟩ := Int.eq_ofNat_of_zero_le h1
  have e : ws.length = y * x := by rw [← Int.natCast_mul] at h; rw [Nat.mul_comm]; omega
  simpa using pairs_all e
theorem whenA_len {α : Type} (b : Bool) (l : List α) : (whenA b l).length ≤ l.length := by unfold whenA; split <;> simp
theorem cnt_pairs {h : Int → Int → List Int} {l m : List Int} (hr : ∀ x y, (h x y).length = 4) : cnt (pairsF h l m) = l.length * m.length * 4 := by
  rw [cnt_len 4, pairsF_len]
  intro r hr'
  unfold pairsF at hr'
  obtain ⟨x, _, hx⟩ := List.mem_flatMap.1 hr'
  obtain ⟨y, _, rfl⟩ := List.mem_map.1 hx
  exact hr x y
theorem cnt_flip (X Y : Int) (ws : List Int) (wi : List (List Int)) (fl : List Int) : cnt (whenL (flipB X Y ws wi fl) (flipR X Y wi fl)) ≤ 36 := by
  cases h : flipB X Y ws wi fl with
  | false => simp [whenL, cnt]
  | true =>
    have := flipB_spec h
    simp only [whenL, if_pos, flipR]
    rw [cnt_pairs (askR_len X Y wi fl), cntL_len, cntL_len]
    have h1 : X.toNat * Y.toNat ≤ 3 * 3 := Nat.mul_le_mul (by omega) (by omega)
    omega

end Go.Proofs.Ytefbiejoikpkmaa

namespace Go.Proofs.Ytefbiejoikpkmaa
open Go.RowKit
set_option linter.unusedSectionVars false
variable [Glb]
open Go
/-! rules, wirings -/
def tabB (t : List (List Int)) (n m : Int) : Bool := decide ((t.length : Int) = n) && t.all (fun l => bitsB l m)
def ruleB (f : List Int) (a s : List (List Int)) : Bool := bitsB f 2 && (tabB a 2 2 && tabB s 2 4)
theorem tabB_at {t : List (List Int)} {n m : Int} (h : tabB t n m = true) {i : Int} (h0 : 0 ≤ i) (h1 : i < n) : bitsB (atZ t i) m = true := by
  simp only [tabB, Bool.and_eq_true, decide_eq_true_eq, List.all_eq_true] at h
  obtain ⟨k, rfl⟩ := Int.eq_ofNat_of_zero_le h0
  rw [atZ_nat (by omega)]
  exact h.2 _ (List.getElem_mem _)
theorem tabB_len {t : List (List Int)} {n m : Int} (h : tabB t n m = true) : (t.length : Int) = n := by
  simp [tabB] at h; exact h.1
structure RuleOK (f : List Int) (a s : List (List Int)) : Prop where
  fl : f.length = 2
  al : a.length = 2
  sl : s.length = 2
  fb : ∀ i : Int, 0 ≤ i → i < 2 → 0 ≤ atZ f i ∧ atZ f i ≤ 1
  ab : ∀ i : Int, 0 ≤ i → i < 2 → bitsB (atZ a i) 2 = true
  sb : ∀ i : Int, 0 ≤ i → i < 2 → bitsB (atZ s i) 4 = true
theorem ruleB_spec {f : List Int} {a s : List (List Int)} (h : ruleB f a s = true) : RuleOK f a s := by
  simp only [ruleB, Bool.and_eq_true] at h
  obtain ⟨h1, h2, h3⟩ := h
  have l1 := bitsB_len h1
  have l2 := tabB_len h2
  have l3 := tabB_len h3
  exact ⟨by omega, by omega, by omega, fun i h0 h2 => bitsB_at h1 h0 h2, fun i h0 hi => tabB_at h2 h0 hi, fun i h0 hi => tabB_at h3 h0 hi⟩
theorem RuleOK.ask {f : List Int} {a s : List (List Int)} (h : RuleOK f a s) {x i : Int} (x0 : 0 ≤ x) (x1 : x < 2) (i0 : 0 ≤ i) (i1 : i < 2) : (atZ a x).length = 2 ∧ 0 ≤ atZ (atZ a x) i ∧ atZ (atZ a x) i ≤ 1 := by
  have hb := h.ab x x0 x1
  have hl := bitsB_len hb
  exact ⟨by omega, bitsB_at hb i0 i1⟩
theorem RuleOK.say {f : List Int} {a s : List (List Int)} (h : RuleOK f a s) {x i : Int} (x0 : 0 ≤ x) (x1 : x < 2) (i0 : 0 ≤ i) (i1 : i < 4) : (atZ s x).length = 4 ∧ 0 ≤ atZ (atZ s x) i ∧ atZ (atZ s x) i ≤ 1 := by
  have hb := h.sb x x0 x1
  have hl := bitsB_len hb
  exact ⟨by omega, bitsB_at hb i0 i1⟩
/-- a sum, term by term -/
def accT (t : Nat → Int) : Nat → Int
  | 0 => 0
  | m + 1 => accT t m + t m
theorem accN_T (s : Nat → Nat) (v : Nat → Int) (p : Nat) : ∀ m, accN s v m p = accT (fun c => if s c = p then v c else 0) m
  | 0 => rfl
  | m + 1 => by simp only [accN, accT, accN_T s v p m]
theorem accT_nn {t : Nat → Int} : ∀ {m : Nat}, (∀ c, c < m → 0 ≤ t c) → 0 ≤ accT t m
  | 0, _ => by simp [accT]
  | m + 1, h => by
    have := accT_nn fun c hc => h c (Nat.lt_succ_of_lt hc)
    have := h m (by omega)
    simp only [accT]; omega
theorem accT_le {t u : Nat → Int} : ∀ {m : Nat}, (∀ c, c < m → t c ≤ u c) → accT t m ≤ accT u m
  | 0, _ => by simp [accT]
  | m + 1, h => by
    have := accT_le fun c hc => h c (Nat.lt_succ_of_lt hc)
    have := h m (by omega)
    simp only [accT]; omega
theorem accT_add {t u : Nat → Int} : ∀ {m : Nat}, accT (fun c => t c + u c) m = accT t m + accT u m
  | 0 => by simp [accT]
  | m + 1 => by
    have := accT_add (t := t) (u := u) (m := m)
    simp only [accT] at this ⊢; omega
theorem accT_congr {t u : Nat → Int} : ∀ {m : Nat}, (∀ c, c < m → t c = u c) → accT t m = accT u m
  | 0, _ => rfl
  | m + 1, h => by
    have := accT_congr fun c hc => h c (Nat.lt_succ_of_lt hc)
    have := h m (by omega)
    simp only [accT]; omega
theorem accT_const (M : Int) : ∀ m : Nat, accT (fun _ => M) m = m * M
  | 0 => by simp [accT]
  | m + 1 => by
    have := accT_const M m
    simp only [accT, this, Int.natCast_add, Int.add_mul]; omega
theorem accN_le {s : Nat → Nat} {v : Nat → Int} {M : Int} {m : Nat} (p : Nat) (h0 : 0 ≤ M) (h : ∀ c, c < m → v c ≤ M) : accN s v m p ≤ m * M := by
  rw [accN_T, ← accT_const]
  refine accT_le fun c hc => ?_
  have := h c hc
  split <;> omega
/-- two orders of sixteen terms -/
theorem acc16 (T : Nat → Nat → Nat → Nat → Int) : accT (fun c => T (c % 2) (c / 2 % 2) (c / 4 % 2) (c / 8 % 2)) 16 = accT (fun m => T (m / 8) (m / 4 % 2) (m / 2 % 2) (m % 2)) 16 := by
  simp only [accT, Nat.reduceDiv, Nat.reduceMod, Nat.zero_div, Nat.zero_mod]
  omega
section
variable (la lb : List (List Int)) (f1 : List Int) (a1 s1 : List (List Int)) (f2 : List Int) (a2 s2 : List (List Int))
def wV (x y i j k l : Nat) : Int := atB la 2 (atZ f1 x) (atZ f2 y) ((2 * i + j : Nat) : Int) * atB lb 2 (atZ (atZ a1 x) i) (atZ (atZ a2 y) j) ((2 * k + l : Nat) : Int)
def wS (x y i j k l : Nat) : Nat := (2 * atZ (atZ s1 x) ((2 * i + k : Nat) : Int) + atZ (atZ s2 y) ((2 * j + l : Nat) : Int)).toNat
def wI (x y m p : Nat) : Int := accN (fun c => wS s1 s2 x y (c % 2) (c / 2 % 2) (c / 4 % 2) (c / 8 % 2)) (fun c => wV la lb f1 a1 f2 a2 x y (c % 2) (c / 2 % 2) (c / 4 % 2) (c / 8 % 2)) m p
def wP (x y m p : Nat) : Int := accN (fun m => wS s1 s2 x y (m / 8) (m / 4 % 2) (m / 2 % 2) (m % 2)) (fun m => wV la lb f1 a1 f2 a2 x y (m / 8) (m / 4 % 2) (m / 2 % 2) (m % 2)) m p
theorem wI_P (x y p : Nat) : wI la lb f1 a1 s1 f2 a2 s2 x y 16 p = wP la lb f1 a1 s1 f2 a2 s2 x y 16 p := by
  unfold wI wP
  rw [accN_T, accN_T]
  exact acc16 fun i j k l => if wS s1 s2 x y i j k l = p then wV la lb f1 a1 f2 a2 x y i j k l else 0
/-- the rows of a wiring -/
def wiredL : List (List Int) := boxF (fun x y p => wP la lb f1 a1 s1 f2 a2 s2 x y 16 p) 2 4
end
theorem box4 {X Y n : Int} {ll : List (List Int)} (h : boxB X Y n ll = true) {q : Int} (h0 : 0 ≤ q) (h1 : q < X * Y) : atZ (atZ ll q) 0 + atZ (atZ ll q) 1 + atZ (atZ ll q) 2 + atZ (atZ ll q) 3 = n := by
  have hb := boxB_spec h
  obtain ⟨i, rfl⟩ := Int.eq_ofNat_of_zero_le h0
  have hi : i < ll.length := by have := hb.len; omega
  rw [atZ_nat hi]
  have hr := hb.row i hi
  have hs := row4B_sum hr
  have hl := (row4B_len hr).1
  have hn := hb.n2
  have ha : allB ll[i] 0 n = true := by simp only [row4B, Bool.and_eq_true] at hr; exact hr.1.2
  rw [(sum64_small (l := ll[i]) (m := n) (by omega) ha (by have := hb.n1; omega) (by omega)).1] at hs
  generalize ll[i] = r at hs hl
  match r, hl with
  | [a, b, c, d], _ => simp [atZ] at hs ⊢; omega
theorem rowF4_sum (f : Nat → Int) (h : ∀ p, p < 4 → 0 ≤ f p ∧ f p ≤ 1000000) : sum64 (rowF f 4) = f 0 + f 1 + f 2 + f 3 := by
  have h0 := h 0 (by omega); have h1 := h 1 (by omega); have h2 := h 2 (by omega); have h3 := h 3 (by omega)
  have ha : allB (rowF f 4) 0 1000000 = true := by
    unfold allB; rw [List.all_eq_true]; intro x hx
    unfold rowF at hx; obtain ⟨p, hp, rfl⟩ := List.mem_map.1 hx
    exact inB_iff.2 (h p (List.mem_range.1 hp))
  rw [(sum64_small (l := rowF f 4) (m := 1000000) (by simp) ha (by omega) (by omega)).1]
  simp [rowF, List.range, List.range.loop]; omega
/-- rows told by a function make a box -/
theorem rows_box {x y : Nat} {n : Int} {f : Nat → Nat → Nat → Int} (hx : 1 ≤ x ∧ x ≤ 3) (hy : 1 ≤ y ∧ y ≤ 3) (h0 : 1 ≤ n) (h1 : n ≤ 1000000) (hf : ∀ i k, i < x → k < y → (∀ p, p < 4 → 0 ≤ f i k p) ∧ f i k 0 + f i k 1 + f i k 2 + f i k 3 = n) :
    boxB x y n (boxF f y (y * x)) = decide (n ≤ 1000) := by
  have hs : sizeB x y = true := sizeB_iff.2 ⟨⟨by omega, by omega⟩, by omega, by omega⟩
  have hl : ((boxF f y (y * x)).length : Int) = (x : Int) * y := by rw [boxF_len, Int.natCast_mul, Int.mul_comm]
  have hr : (boxF f y (y * x)).all (row4B n) = true := by
    rw [List.all_eq_true]; intro r hr
    unfold boxF at hr
    obtain ⟨j, hj, rfl⟩ := List.mem_map.1 hr
    have hj := List.mem_range.1 hj
    have hi : j / y < x := Nat.div_lt_of_lt_mul hj
    have hk : j % y < y := Nat.mod_lt _ (by omega)
    obtain ⟨a, b⟩ := hf _ _ hi hk
    generalize f (j / y) (j % y) = g at a b
    have a0 := a 0 (by omega); have a1 := a 1 (by omega); have a2 := a 2 (by omega); have a3 := a 3 (by omega)
    have bd : ∀ p, p < 4 → 0 ≤ g p ∧ g p ≤ n := fun p hp => by rcases (by omega : p = 0 ∨ p = 1 ∨ p = 2 ∨ p = 3) with rfl | rfl | rfl | rfl <;> omega
    have hsum := rowF4_sum g fun p hp => by have := bd p hp; omega
    simp only [row4B, rowF_len, decide_true, Bool.true_and, Bool.and_eq_true, decide_eq_true_eq, hsum, allB, List.all_eq_true]
    refine ⟨fun m hm => ?_, b⟩
    unfold rowF at hm; obtain ⟨p, hp, rfl⟩ := List.mem_map.1 hm
    exact inB_iff.2 (bd p (List.mem_range.1 hp))
  simp only [boxB, hs, hl, hr, decide_true, Bool.and_true, Bool.true_and, inB]
  simp; omega
section
variable {la lb : List (List Int)} {f1 : List Int} {a1 s1 : List (List Int)} {f2 : List Int} {a2 s2 : List (List Int)} {na nb : Int}
theorem wS_lt (h1 : ruleB f1 a1 s1 = true) (h2 : ruleB f2 a2 s2 = true) {x y i j k l : Nat} (hx : x < 2) (hy : y < 2) (hi : i < 2) (hj : j < 2) (hk : k < 2) (hl : l < 2) : wS s1 s2 x y i j k l < 4 := by
  have b1 := (ruleB_spec h1).say (x := x) (i := ((2 * i + k : Nat) : Int)) (by omega) (by omega) (by omega) (by omega)
  have b2 := (ruleB_spec h2).say (x := y) (i := ((2 * j + l : Nat) : Int)) (by omega) (by omega) (by omega) (by omega)
  unfold wS; omega
theorem atB_bd (ha : boxB 2 2 na la = true) {x y : Int} (x0 : 0 ≤ x) (x1 : x ≤ 1) (y0 : 0 ≤ y) (y1 : y ≤ 1) : (∀ p : Nat, p < 4 → 0 ≤ atB la 2 x y p ∧ atB la 2 x y p ≤ na) ∧ atB la 2 x y (0 : Nat) + atB la 2 x y (1 : Nat) + atB la 2 x y (2 : Nat) + atB la 2 x y (3 : Nat) = na :=
  ⟨fun p hp => (boxB_at ha (q := x * 2 + y) (by omega) (by omega)).2 p (by omega) (by omega), box4 ha (q := x * 2 + y) (by omega) (by omega)⟩
theorem wV_bd (ha : boxB 2 2 na la = true) (hb : boxB 2 2 nb lb = true) (h1 : ruleB f1 a1 s1 = true) (h2 : ruleB f2 a2 s2 = true) {x y : Nat} (hx : x < 2) (hy : y < 2) :
    (∀ i j k l, i < 2 → j < 2 → k < 2 → l < 2 → 0 ≤ wV la lb f1 a1 f2 a2 x y i j k l ∧ wV la lb f1 a1 f2 a2 x y i j k l ≤ 1000000) ∧ accT (fun m => wV la lb f1 a1 f2 a2 x y (m / 8) (m / 4 % 2) (m / 2 % 2) (m % 2)) 16 = na * nb := by
  have r1 := ruleB_spec h1
  have r2 := ruleB_spec h2
  have A := atB_bd ha (r1.fb x (by omega) (by omega)).1 (r1.fb x (by omega) (by omega)).2 (r2.fb y (by omega) (by omega)).1 (r2.fb y (by omega) (by omega)).2
  have B := fun (i j : Nat) (hi : i < 2) (hj : j < 2) => atB_bd hb (r1.ask (x := x) (i := i) (by omega) (by omega) (by omega) (by omega)).2.1 (r1.ask (x := x) (i := i) (by omega) (by omega) (by omega) (by omega)).2.2
    (r2.ask (x := y) (i := j) (by omega) (by omega) (by omega) (by omega)).2.1 (r2.ask (x := y) (i := j) (by omega) (by omega) (by omega) (by omega)).2.2
  have na1 := (boxB_spec ha).n2
  have nb1 := (boxB_spec hb).n2
  unfold wV
  generalize atB la 2 (atZ f1 x) (atZ f2 y) = a at A ⊢
  obtain ⟨b, hb'⟩ : ∃ b : Nat → Nat → Int → Int, ∀ i j, b i j = atB lb 2 (atZ (atZ a1 x) i) (atZ (atZ a2 y) j) := ⟨_, fun _ _ => rfl⟩
  simp only [← hb'] at B ⊢
  refine ⟨fun i j k l hi hj hk hl => ?_, ?_⟩
  · have p := A.1 (2 * i + j) (by omega)
    have q := (B i j hi hj).1 (2 * k + l) (by omega)
    refine ⟨Int.mul_nonneg p.1 q.1, Int.le_trans (Int.mul_le_mul p.2 q.2 q.1 (by omega)) (Int.le_trans (Int.mul_le_mul na1 nb1 (by omega) (by omega)) (by decide))⟩
  · have b00 := (B 0 0 (by omega) (by omega)).2
    have b01 := (B 0 1 (by omega) (by omega)).2
    have b10 := (B 1 0 (by omega) (by omega)).2
    have b11 := (B 1 1 (by omega) (by omega)).2
    have a0 := A.2
    simp only [accT, Nat.reduceDiv, Nat.reduceMod, Nat.reduceMul, Nat.reduceAdd, Nat.zero_div, Nat.zero_mod, Nat.mul_zero, Nat.mul_one, Nat.zero_add]
    have e00 := congrArg (a (0 : Nat) * ·) b00
    have e01 := congrArg (a (1 : Nat) * ·) b01
    have e10 := congrArg (a (2 : Nat) * ·) b10
    have e11 := congrArg (a (3 : Nat) * ·) b11
    have e := congrArg (· * nb) a0
    simp only [Int.mul_add, Int.add_mul] at e00 e01 e10 e11 e
    omega
theorem wire_box (ha : boxB 2 2 na la = true) (hb : boxB 2 2 nb lb = true) (h1 : ruleB f1 a1 s1 = true) (h2 : ruleB f2 a2 s2 = true) : boxB 2 2 (na * nb) (wiredL la lb f1 a1 s1 f2 a2 s2) = decide (na * nb ≤ 1000) := by
  have a1' := boxB_spec ha
  have b1' := boxB_spec hb
  have n1 : 1 ≤ na * nb := by have := Int.mul_le_mul a1'.n1 b1'.n1 (by omega) (by have := a1'.n1; omega); omega
  have n2 : na * nb ≤ 1000000 := Int.le_trans (Int.mul_le_mul a1'.n2 b1'.n2 (by have := b1'.n1; omega) (by omega)) (by decide)
  refine rows_box (x := 2) (y := 2) (by omega) (by omega) n1 n2 fun x y hx hy => ?_
  obtain ⟨vb, vs⟩ := wV_bd ha hb h1 h2 hx hy
  refine ⟨fun p hp => accN_nn _ _ _ _ fun m hm => (vb _ _ _ _ (by omega) (by omega) (by omega) (by omega)).1, ?_⟩
  rw [← vs]
  have := accN_sum (fun m => wS s1 s2 x y (m / 8) (m / 4 % 2) (m / 2 % 2) (m % 2)) (fun m => wV la lb f1 a1 f2 a2 x y (m / 8) (m / 4 % 2) (m / 2 % 2) (m % 2)) 16 fun m hm => wS_lt h1 h2 hx hy (by omega) (by omega) (by omega) (by omega)
  unfold wP
  rw [this]
  simp [List.range, List.range.loop, accT]
  omega
end
section
variable {la lb : List (List Int)} {f1 : List Int} {a1 s1 : List (List Int)} {f2 : List Int} {a2 s2 : List (List Int)} {na nb : Int}
theorem acc_bd {s : Nat → Nat} {v : Nat → Int} {m : Nat} (hm : m ≤ 16) (h : ∀ t, t < m → 0 ≤ v t ∧ v t ≤ 1000000) (p : Nat) : 0 ≤ accN s v m p ∧ accN s v m p ≤ 16000000 := by
  refine ⟨accN_nn _ _ _ _ fun t ht => (h t ht).1, ?_⟩
  have := accN_le (s := s) (M := 1000000) (m := m) p (by omega) fun t ht => (h t ht).2
  omega
theorem wP_step (ha : boxB 2 2 na la = true) (hb : boxB 2 2 nb lb = true) (h1 : ruleB f1 a1 s1 = true) (h2 : ruleB f2 a2 s2 = true) {x y k n : Nat} (hx : x < 2) (hy : y < 2) (hk : k < 4) (hn : n < 4) :
    ∃ (s : Nat) (v : Int), 2 * atZ (atZ s1 x) (2 * ((k : Int) / 2) + (n : Int) / 2) + atZ (atZ s2 y) (2 * ((k : Int) % 2) + (n : Int) % 2) = (s : Int) ∧ s < 4 ∧
      atZ (atZ la (atZ f1 x * 2 + atZ f2 y)) k * atZ (atZ lb (atZ (atZ a1 x) ((k : Int) / 2) * 2 + atZ (atZ a2 y) ((k : Int) % 2))) n = v ∧ (0 ≤ v ∧ v ≤ 1000000) ∧
      (rowF (wP la lb f1 a1 s1 f2 a2 s2 x y (4 * k + n)) 4).set s (wP la lb f1 a1 s1 f2 a2 s2 x y (4 * k + n) s + v) = rowF (wP la lb f1 a1 s1 f2 a2 s2 x y (4 * k + n + 1)) 4 ∧
      (0 ≤ wP la lb f1 a1 s1 f2 a2 s2 x y (4 * k + n) s ∧ wP la lb f1 a1 s1 f2 a2 s2 x y (4 * k + n) s ≤ 16000000) := by
  have vb := (wV_bd ha hb h1 h2 hx hy).1
  have e1 : (4 * k + n) / 8 = k / 2 := by omega
  have e2 : (4 * k + n) / 4 % 2 = k % 2 := by omega
  have e3 : (4 * k + n) / 2 % 2 = n / 2 := by omega
  have e4 : (4 * k + n) % 2 = n % 2 := by omega
  have b1 := (ruleB_spec h1).say (x := x) (i := ((2 * (k / 2) + n / 2 : Nat) : Int)) (by omega) (by omega) (by omega) (by omega)
  have b2 := (ruleB_spec h2).say (x := y) (i := ((2 * (k % 2) + n % 2 : Nat) : Int)) (by omega) (by omega) (by omega) (by omega)
  refine ⟨wS s1 s2 x y (k / 2) (k % 2) (n / 2) (n % 2), wV la lb f1 a1 f2 a2 x y (k / 2) (k % 2) (n / 2) (n % 2), ?_, wS_lt h1 h2 hx hy (by omega) (by omega) (by omega) (by omega), ?_, vb _ _ _ _ (by omega) (by omega) (by omega) (by omega), ?_, ?_⟩
  · unfold wS
    have c1 : (2 * ((k : Int) / 2) + (n : Int) / 2) = ((2 * (k / 2) + n / 2 : Nat) : Int) := by omega
    have c2 : (2 * ((k : Int) % 2) + (n : Int) % 2) = ((2 * (k % 2) + n % 2 : Nat) : Int) := by omega
    rw [c1, c2]; omega
  · unfold wV atB
    have c1 : ((2 * (k / 2) + k % 2 : Nat) : Int) = k := by omega
    have c2 : ((2 * (n / 2) + n % 2 : Nat) : Int) = n := by omega
    have c3 : ((k / 2 : Nat) : Int) = (k : Int) / 2 := by omega
    have c4 : ((k % 2 : Nat) : Int) = (k : Int) % 2 := by omega
    rw [c1, c2, c3, c4]
  · have := accN_set (fun m => wS s1 s2 x y (m / 8) (m / 4 % 2) (m / 2 % 2) (m % 2)) (fun m => wV la lb f1 a1 f2 a2 x y (m / 8) (m / 4 % 2) (m / 2 % 2) (m % 2)) (4 * k + n) (wS_lt h1 h2 hx hy (by omega) (by omega) (by omega) (by omega))
    simp only [e1, e2, e3, e4] at this
    exact this
  · exact acc_bd (by omega) (fun t ht => vb _ _ _ _ (by omega) (by omega) (by omega) (by omega)) _
theorem wI_step (ha : boxB 2 2 na la = true) (hb : boxB 2 2 nb lb = true) (h1 : ruleB f1 a1 s1 = true) (h2 : ruleB f2 a2 s2 = true) {x y c : Nat} (hx : x < 2) (hy : y < 2) (hc : c < 16) :
    ∃ (s : Nat) (v : Int), 2 * atZ (atZ s1 x) (2 * ((c : Int) % 2) + (c : Int) / 4 % 2) + atZ (atZ s2 y) (2 * ((c : Int) / 2 % 2) + (c : Int) / 8 % 2) = (s : Int) ∧ s < 4 ∧
      atB la 2 (atZ f1 x) (atZ f2 y) (2 * ((c : Int) % 2) + (c : Int) / 2 % 2) * atB lb 2 (atZ (atZ a1 x) ((c : Int) % 2)) (atZ (atZ a2 y) ((c : Int) / 2 % 2)) (2 * ((c : Int) / 4 % 2) + (c : Int) / 8 % 2) = v ∧ (0 ≤ v ∧ v ≤ 1000000) ∧
      (rowF (wI la lb f1 a1 s1 f2 a2 s2 x y c) 4).set s (wI la lb f1 a1 s1 f2 a2 s2 x y c s + v) = rowF (wI la lb f1 a1 s1 f2 a2 s2 x y (c + 1)) 4 ∧
      (0 ≤ wI la lb f1 a1 s1 f2 a2 s2 x y c s ∧ wI la lb f1 a1 s1 f2 a2 s2 x y c s ≤ 16000000) := by
  have vb := (wV_bd ha hb h1 h2 hx hy).1
  have b1 := (ruleB_spec h1).say (x := x) (i := ((2 * (c % 2) + c / 4 % 2 : Nat) : Int)) (by omega) (by omega) (by omega) (by omega)
  have b2 := (ruleB_spec h2).say (x := y) (i := ((2 * (c / 2 % 2) + c / 8 % 2 : Nat) : Int)) (by omega) (by omega) (by omega) (by omega)
  refine ⟨wS s1 s2 x y (c % 2) (c / 2 % 2) (c / 4 % 2) (c / 8 % 2), wV la lb f1 a1 f2 a2 x y (c % 2) (c / 2 % 2) (c / 4 % 2) (c / 8 % 2), ?_, wS_lt h1 h2 hx hy (by omega) (by omega) (by omega) (by omega), ?_, vb _ _ _ _ (by omega) (by omega) (by omega) (by omega), ?_, ?_⟩
  · unfold wS
    have c1 : (2 * ((c : Int) % 2) + (c : Int) / 4 % 2) = ((2 * (c % 2) + c / 4 % 2 : Nat) : Int) := by omega
    have c2 : (2 * ((c : Int) / 2 % 2) + (c : Int) / 8 % 2) = ((2 * (c / 2 % 2) + c / 8 % 2 : Nat) : Int) := by omega
    rw [c1, c2]; omega
  · unfold wV
    have c1 : ((2 * (c % 2) + c / 2 % 2 : Nat) : Int) = 2 * ((c : Int) % 2) + (c : Int) / 2 % 2 := by omega
    have c2 : ((2 * (c / 4 % 2) + c / 8 % 2 : Nat) : Int) = 2 * ((c : Int) / 4 % 2) + (c : Int) / 8 % 2 := by omega
    have c3 : ((c % 2 : Nat) : Int) = (c : Int) % 2 := by omega
    have c4 : ((c / 2 % 2 : Nat) : Int) = (c : Int) / 2 % 2 := by omega
    rw [c1, c2, c3, c4]
  · exact accN_set (fun c => wS s1 s2 x y (c % 2) (c / 2 % 2) (c / 4 % 2) (c / 8 % 2)) (fun c => wV la lb f1 a1 f2 a2 x y (c % 2) (c / 2 % 2) (c / 4 % 2) (c / 8 % 2)) c (wS_lt h1 h2 hx hy (by omega) (by omega) (by omega) (by omega))
  · exact acc_bd (by omega) (fun t ht => vb _ _ _ _ (by omega) (by omega) (by omega) (by omega)) _
end
def wiresB (xa ya na : Int) (la : List (List Int)) (xb yb nb : Int) (lb : List (List Int)) : Bool := pairB xa ya na la && (pairB xb yb nb lb && decide (na * nb ≤ 1000))
def wireOK (xa ya na : Int) (la : List (List Int)) (xb yb nb : Int) (lb : List (List Int)) (f1 : List Int) (a1 s1 : List (List Int)) (f2 : List Int) (a2 s2 : List (List Int)) : Bool :=
  wiresB xa ya na la xb yb nb lb && (ruleB f1 a1 s1 && ruleB f2 a2 s2)
theorem pairB_spec {x y n : Int} {ll : List (List Int)} (h : pairB x y n ll = true) : x = 2 ∧ y = 2 ∧ boxB 2 2 n ll = true ∧ 1 ≤ n ∧ n ≤ 1000 := by
  simp only [pairB, Bool.and_eq_true, decide_eq_true_eq] at h
  obtain ⟨h1, rfl, rfl⟩ := h
  exact ⟨rfl, rfl, h1, (boxB_spec h1).n1, (boxB_spec h1).n2⟩
theorem mul_whole {na nb : Int} (h1 : 1 ≤ na ∧ na ≤ 1000) (h2 : 1 ≤ nb ∧ nb ≤ 1000) : 0 ≤ na * nb ∧ na * nb ≤ 1000000 :=
  ⟨Int.mul_nonneg (by omega) (by omega), Int.le_trans (Int.mul_le_mul h1.2 h2.2 (by omega) (by omega)) (by decide)⟩
def sumF : List Int := [0, 1]
def sumA : List (List Int) := [[0, 0], [1, 1]]
def sumS : List (List Int) := [[0, 1, 1, 0], [0, 1, 1, 0]]
theorem sum_rule : ruleB sumF sumA sumS = true := by decide
def ruleA (asks : List Int) : List (List Int) := [[atZ asks 0, atZ asks 1], [atZ asks 2, atZ asks 3]]
theorem part4 {asks : List Int} (h : asks.length = 4) : partZ asks 0 2 = [atZ asks 0, atZ asks 1] ∧ partZ asks 2 asks.length = [atZ asks 2, atZ asks 3] := by
  match asks, h with
  | [a, b, c, d], _ => exact ⟨by simp [partZ, atZ], by simp [partZ, atZ]⟩
/-- the rows of a wiring on the way -/
def wireM (W : Nat → Nat → Nat → Nat → Int) (j0 m : Nat) : List (List Int) := (List.range 4).map fun j => rowF (W (j / 2) (j % 2) (if j < j0 then 16 else if j = j0 then m else 0)) 4
@[simp] theorem wireM_len (W : Nat → Nat → Nat → Nat → Int) (j0 m : Nat) : (wireM W j0 m).length = 4 := by simp [wireM]
theorem wireM_get (W : Nat → Nat → Nat → Nat → Int) {j0 : Nat} (m : Nat) (h : j0 < 4) : (wireM W j0 m)[j0]? = some (rowF (W (j0 / 2) (j0 % 2) m) 4) := by
  rcases (by omega : j0 = 0 ∨ j0 = 1 ∨ j0 = 2 ∨ j0 = 3) with rfl | rfl | rfl | rfl <;> simp [wireM, List.range, List.range.loop]
theorem wireM_set (W : Nat → Nat → Nat → Nat → Int) {j0 : Nat} (m m' : Nat) (h : j0 < 4) : (wireM W j0 m).set j0 (rowF (W (j0 / 2) (j0 % 2) m') 4) = wireM W j0 m' := by
  rcases (by omega : j0 = 0 ∨ j0 = 1 ∨ j0 = 2 ∨ j0 = 3) with rfl | rfl | rfl | rfl <;> simp [wireM, List.range, List.range.loop]
theorem wireM_next (W : Nat → Nat → Nat → Nat → Int) {j0 : Nat} (h : j0 < 4) : wireM W j0 16 = wireM W (j0 + 1) 0 := by
  rcases (by omega : j0 = 0 ∨ j0 = 1 ∨ j0 = 2 ∨ j0 = 3) with rfl | rfl | rfl | rfl <;> simp [wireM, List.range, List.range.loop]
theorem wireM_zero (W : Nat → Nat → Nat → Nat → Int) (h : ∀ x y p, W x y 0 p = 0) : boxF (fun _ _ _ => 0) 2 4 = wireM W 0 0 := by
  simp [wireM, boxF, rowF, List.range, List.range.loop, h]
theorem wireM_end (W : Nat → Nat → Nat → Nat → Int) (m : Nat) : wireM W 4 m = boxF (fun x y p => W x y 16 p) 2 4 := by
  simp [wireM, boxF, List.range, List.range.loop]
theorem cnt_wired (b : Bool) (la lb : List (List Int)) (f1 : List Int) (a1 s1 : List (List Int)) (f2 : List Int) (a2 s2 : List (List Int)) : cnt (whenL b (wiredL la lb f1 a1 s1 f2 a2 s2)) ≤ 16 :=
  Nat.le_trans (cnt_whenL _ _) (by unfold wiredL; rw [cnt_boxF]; decide)

end Go.Proofs.Ytefbiejoikpkmaa

namespace Go.Proofs.Ytefbiejoikpkmaa
open Go.RowKit
set_option linter.unusedSectionVars false
variable [Glb]
open Go
/-! scenes, halls -/
def riseAt (l : List Int) (lo hi : Int) (i : Nat) : Bool := inB (atZ l i) lo hi && (decide (i = 0) || decide (atZ l ((i : Int) - 1) < atZ l i))
def riseB (l : List Int) (lo hi : Int) : Bool := (List.range l.length).all fun i => riseAt l lo hi i
theorem riseB_f {l : List Int} {lo hi : Int} {k : Nat} (h : k < l.length) (hf : riseAt l lo hi k = false) : riseB l lo hi = false := range_all_f h hf
def ctxB (n : Int) (l : List Int) : Bool := decide (0 < l.length) && riseB l 0 (n - 1)
def sceneB (ev : Int) (cc : List (List Int)) (ss : List Int) : Bool := inB ev 0 12 && (decide (cc.length ≤ 10) && (bitsB ss cc.length && cc.all (ctxB ev)))
structure SceneOK (ev : Int) (cc : List (List Int)) (ss : List Int) : Prop where
  e0 : 0 ≤ ev
  e12 : ev ≤ 12
  c10 : cc.length ≤ 10
  sl : ss.length = cc.length
  sb : bitsB ss cc.length = true
  ctx : ∀ q, (hq : q < cc.length) → ctxB ev cc[q] = true
theorem sceneB_spec {ev : Int} {cc : List (List Int)} {ss : List Int} (h : sceneB ev cc ss = true) : SceneOK ev cc ss := by
  simp only [sceneB, Bool.and_eq_true, decide_eq_true_eq, List.all_eq_true] at h
  obtain ⟨h1, h2, h3, h4⟩ := h
  have a := inB_iff.1 h1
  have := bitsB_len h3
  exact ⟨a.1, a.2, h2, by omega, h3, fun q hq => h4 _ (List.getElem_mem hq)⟩
def hallB (bx by_ bwh : Int) (bll : List (List Int)) (pl : List Int) (ev : Int) (cc : List (List Int)) (ss nu : List Int) (co : Int) : Bool :=
  boxB bx by_ bwh bll && (bitsB pl (bx + by_) && (sceneB ev cc ss && (bitsB nu ev && inB co 0 1000)))
/-- the least of numbers -/
def leastN (m : Int) (f : Nat → Int) : Nat → Int
  | 0 => m
  | k + 1 => min (leastN m f k) (f k)
def chanceF (Y X : Nat) (ll : List (List Int)) (pl : List Int) (j : Nat) : Int := atZ (atZ ll j) (2 * atZ pl ((j / Y : Nat) : Int) + atZ pl ((X : Int) + (j % Y : Nat)))
theorem rise_no {l : List Int} {lo hi : Int} {k : Nat} (hk : (k : Int) < l.length) (h : inB (atZ l k) lo hi = false ∨ ((k : Int) > 0 ∧ atZ l ((k : Int) - 1) ≥ atZ l k)) : riseB l lo hi = false := by
  refine riseB_f (k := k) (by omega) ?_
  unfold riseAt
  rcases h with h | ⟨h1, h2⟩
  · simp [h]
  · have : ¬ k = 0 := by omega
    have h3 : ¬ atZ l ((k : Int) - 1) < atZ l k := by omega
    simp [this, h3]
theorem rise_yes {l : List Int} {lo hi : Int} {k : Nat} (ha : (List.range k).all (riseAt l lo hi) = true) (h : inB (atZ l k) lo hi = true) (h2 : ¬ (k : Int) > 0 ∨ ¬ atZ l ((k : Int) - 1) ≥ atZ l k) : (List.range (k + 1)).all (riseAt l lo hi) = true := by
  rw [range_all_s, ha, Bool.true_and]
  unfold riseAt
  rcases h2 with h2 | h2
  · have : k = 0 := by omega
    simp [h, this]
    subst this; simpa using h
  · have h3 : atZ l ((k : Int) - 1) < atZ l k := by omega
    simp [h, h3]
structure HallOK (bx by_ bwh : Int) (bll : List (List Int)) (pl : List Int) (ev : Int) (cc : List (List Int)) (ss nu : List Int) (co : Int) : Prop where
  box : boxB bx by_ bwh bll = true
  pl : bitsB pl (bx + by_) = true
  sc : sceneB ev cc ss = true
  nu : bitsB nu ev = true
  co : inB co 0 1000 = true
theorem hallB_spec {bx by_ bwh : Int} {bll : List (List Int)} {pl : List Int} {ev : Int} {cc : List (List Int)} {ss nu : List Int} {co : Int} (h : hallB bx by_ bwh bll pl ev cc ss nu co = true) : HallOK bx by_ bwh bll pl ev cc ss nu co := by
  simp only [hallB, Bool.and_eq_true] at h
  exact ⟨h.1, h.2.1, h.2.2.1, h.2.2.2.1, h.2.2.2.2⟩
theorem chance_at {X Y : Nat} {ll : List (List Int)} {pl : List Int} {i k : Nat} (hk : k < Y) : chanceF Y X ll pl (Y * i + k) = atB ll Y i k (2 * atZ pl i + atZ pl ((X : Int) + k)) := by
  have e1 : (Y * i + k) / Y = i := by rw [Nat.mul_comm, Nat.add_comm, Nat.add_mul_div_right _ _ (by omega), Nat.div_eq_of_lt hk, Nat.zero_add]
  have e2 : (Y * i + k) % Y = k := by rw [Nat.mul_comm, Nat.add_comm, Nat.add_mul_mod_self_right, Nat.mod_eq_of_lt hk]
  unfold chanceF atB
  rw [e1, e2, Int.natCast_add, Int.natCast_mul, Int.mul_comm]
theorem chance_split {X Y : Nat} (ll : List (List Int)) (pl : List Int) {i : Nat} (hY : 1 ≤ Y) (hi : i < Y * X) :
    ∃ a m : Nat, (i : Int) / Y = a ∧ (i : Int) % Y = m ∧ a < X ∧ m < Y ∧ chanceF Y X ll pl i = atZ (atZ ll i) (2 * atZ pl a + atZ pl ((X : Int) + m)) :=
  ⟨i / Y, i % Y, by simp, by simp, Nat.div_lt_of_lt_mul hi, Nat.mod_lt _ hY, rfl⟩

end Go.Proofs.Ytefbiejoikpkmaa

namespace Go.Proofs.Ytefbiejoikpkmaa
open Go.RowKit
set_option linter.unusedSectionVars false
variable [Glb]
open Go
/-! lists of questions that are used -/
def putZ : List Int → Int → List Int
  | [], n => [n]
  | a :: l, n => if a < n then a :: putZ l n else if a = n then a :: l else n :: a :: l
theorem putZ_take : ∀ (l : List Int) (n : Int) (k : Nat), (∀ x ∈ l.take k, x < n) → putZ l n = l.take k ++ putZ (l.drop k) n
  | l, n, 0, _ => by simp
  | [], n, k + 1, _ => by simp [putZ]
  | a :: l, n, k + 1, h => by
    have h1 := h a (by simp)
    have ih := putZ_take l n k fun x hx => h x (by simp [hx])
    simp [putZ, h1, ih]
theorem putZ_end {l : List Int} {n : Int} (h : ∀ x ∈ l.take l.length, x < n) : putZ l n = l ++ [n] := by
  rw [putZ_take l n l.length h]; simp [putZ]
theorem putZ_eq {l : List Int} {n : Int} {k : Nat} (hk : k < l.length) (h : ∀ x ∈ l.take k, x < n) (e : l[k] = n) : putZ l n = l := by
  rw [putZ_take l n k h, List.drop_eq_getElem_cons hk]
  simp only [putZ, e, Int.lt_irrefl, if_false, if_true]
  rw [← e, ← List.drop_eq_getElem_cons hk, List.take_append_drop]
theorem putZ_mid {l : List Int} {n : Int} {k : Nat} (hk : k < l.length) (h : ∀ x ∈ l.take k, x < n) (h1 : ¬ l[k] < n) (e : ¬ l[k] = n) : putZ l n = l.take k ++ [n] ++ l.drop k := by
  rw [putZ_take l n k h, List.drop_eq_getElem_cons hk]
  simp [putZ, h1, e]
theorem putZ_le (l : List Int) (n : Int) : (putZ l n).length ≤ l.length + 1 := by
  induction l with
  | nil => simp [putZ]
  | cons a l ih => simp only [putZ]; split; (· simp; omega); split <;> simp
def usedL (n : Nat) (p : Nat → Bool) : List Int := ((List.range n).filter p).map fun i : Nat => (i : Int)
theorem usedL_len (n : Nat) (p : Nat → Bool) : (usedL n p).length ≤ n := by
  unfold usedL; rw [List.length_map]; exact Nat.le_trans (List.length_filter_le _ _) (by simp)
theorem usedL_succ (n : Nat) (p : Nat → Bool) : usedL (n + 1) p = if p n = true then usedL n p ++ [(n : Int)] else usedL n p := by
  unfold usedL; rw [List.range_succ, List.filter_append]
  by_cases h : p n = true <;> simp [List.filter, h]
theorem usedL_mem {n : Nat} {p : Nat → Bool} {x : Int} (h : x ∈ usedL n p) : 0 ≤ x ∧ x < n := by
  unfold usedL at h
  obtain ⟨i, hi, rfl⟩ := List.mem_map.1 h
  have := List.mem_range.1 (List.mem_filter.1 hi).1; omega
theorem usedL_congr {n : Nat} {p q : Nat → Bool} (h : ∀ i, i < n → p i = q i) : usedL n p = usedL n q := by
  unfold usedL
  rw [List.filter_congr fun i hi => h i (List.mem_range.1 hi)]
theorem usedL_put {n : Nat} (hn : n ≤ 3) (p : Nat → Bool) {v : Nat} (hv : v < n) : putZ (usedL n p) v = usedL n (fun i => p i || decide (i = v)) := by
  have e : ∀ q : Nat → Bool, usedL n q = (if 0 < n ∧ q 0 = true then [0] else []) ++ ((if 1 < n ∧ q 1 = true then [1] else []) ++ (if 2 < n ∧ q 2 = true then [2] else [])) := fun q => by
    rcases (by omega : n = 1 ∨ n = 2 ∨ n = 3) with rfl | rfl | rfl <;> cases h0 : q 0 <;> cases h1 : q 1 <;> cases h2 : q 2 <;> simp [usedL, List.range, List.range.loop, List.filter, h0, h1, h2]
  rw [e, e]
  rcases (by omega : (n = 1 ∨ n = 2 ∨ n = 3)) with rfl | rfl | rfl <;> rcases (by omega : v = 0 ∨ v = 1 ∨ v = 2) with rfl | rfl | rfl <;> (first | (exfalso; omega) | skip) <;> cases h0 : p 0 <;> cases h1 : p 1 <;> cases h2 : p 2 <;> simp [putZ, h0, h1, h2]
/-- a row, or a column, that has a weight -/
def rowU (ws : List Int) (Y : Nat) (x : Nat) : Bool := (List.range Y).any fun y => decide (atZ ws ((x : Int) * Y + y) ≠ 0)
def colU (ws : List Int) (X Y : Nat) (y : Nat) : Bool := (List.range X).any fun x => decide (atZ ws ((x : Int) * Y + y) ≠ 0)
def colS (ws : List Int) (Y : Nat) (y : Nat) : Nat → Int
  | 0 => 0
  | x + 1 => colS ws Y y x + atZ ws ((x : Int) * Y + y)
theorem colS_bd {ws : List Int} {Y y : Nat} : ∀ {X : Nat}, (∀ x, x < X → 0 ≤ atZ ws ((x : Int) * Y + y) ∧ atZ ws ((x : Int) * Y + y) ≤ 99) → 0 ≤ colS ws Y y X ∧ colS ws Y y X ≤ 99 * X ∧ decide (0 < colS ws Y y X) = colU ws X Y y
  | 0, _ => by simp [colS, colU]
  | X + 1, h => by
    obtain ⟨a, b, c⟩ := colS_bd (X := X) fun x hx => h x (by omega)
    have d := h X (by omega)
    refine ⟨by simp only [colS]; omega, by simp only [colS]; omega, ?_⟩
    have e : colU ws (X + 1) Y y = (colU ws X Y y || decide (atZ ws ((X : Int) * Y + y) ≠ 0)) := by simp [colU, List.range_succ]
    rw [e, ← c]
    by_cases hz : atZ ws ((X : Int) * Y + y) = 0
    · simp [colS, hz]
    · have : 0 < colS ws Y y X + atZ ws ((X : Int) * Y + y) := by omega
      simp [colS, hz, this]
theorem sum_pos : ∀ {l : List Int}, (∀ x ∈ l, 0 ≤ x) → 0 ≤ l.sum ∧ decide (0 < l.sum) = l.any fun x => decide (x ≠ 0)
  | [], _ => by simp
  | a :: l, h => by
    obtain ⟨h1, h2⟩ := sum_pos (l := l) fun x hx => h x (by simp [hx])
    have h3 := h a (by simp)
    refine ⟨by simp; omega, ?_⟩
    rw [List.any_cons, ← h2]
    by_cases hz : a = 0
    · simp [hz]
    · have : 0 < a + l.sum := by omega
      simp [hz, this]
theorem row_pos {ws : List Int} {X Y x : Nat} (hl : ws.length = X * Y) (hb : allB ws 0 99 = true) (hx : x < X) (hs : X * Y ≤ 9) : decide (0 < sum64 (partZ ws ((x : Int) * Y) (((x : Int) + 1) * Y))) = rowU ws Y x := by
  have e1 : ((x : Int) * Y).toNat = x * Y := by rw [← Int.natCast_mul, Int.toNat_natCast]
  have e2 : (((x : Int) + 1) * Y).toNat = (x + 1) * Y := by rw [show ((x : Int) + 1) = ((x + 1 : Nat) : Int) by omega, ← Int.natCast_mul, Int.toNat_natCast]
  have h3 : (x + 1) * Y ≤ X * Y := Nat.mul_le_mul_right _ hx
  have h4 : (x + 1) * Y = x * Y + Y := Nat.succ_mul x Y
  unfold partZ
  rw [e1, e2]
  have hmem : ∀ z ∈ (ws.drop (x * Y)).take ((x + 1) * Y - x * Y), 0 ≤ z ∧ z ≤ 99 := fun z hz => by
    unfold allB at hb; rw [List.all_eq_true] at hb
    exact inB_iff.1 (hb z (List.mem_of_mem_drop (List.mem_of_mem_take hz)))
  have hall : allB ((ws.drop (x * Y)).take ((x + 1) * Y - x * Y)) 0 99 = true := by unfold allB; rw [List.all_eq_true]; exact fun z hz => inB_iff.2 (hmem z hz)
  rw [(sum64_small (l := (ws.drop (x * Y)).take ((x + 1) * Y - x * Y)) (m := 99) (by simp; omega) hall (by omega) (by omega)).1]
  rw [(sum_pos fun z hz => (hmem z hz).1).2]
  have e : (ws.drop (x * Y)).take ((x + 1) * Y - x * Y) = (List.range Y).map fun y : Nat => atZ ws ((x : Int) * Y + y) := by
    refine List.ext_getElem (by simp; omega) fun i h1 h2 => ?_
    have hi : i < Y := by simpa using h2
    simp only [List.getElem_take, List.getElem_drop, List.getElem_map, List.getElem_range]
    rw [← Int.natCast_mul, ← Int.natCast_add, atZ_nat (by omega)]
  rw [e, List.any_map]; rfl
/-- what has been seen of the weights -/
def seenU (ws : List Int) (key : Nat → Nat) (i : Nat) (v : Nat) : Bool := (List.range i).any fun j => decide (atZ ws (j : Int) ≠ 0) && decide (key j = v)
theorem seenU_succ (ws : List Int) (key : Nat → Nat) (i : Nat) (v : Nat) : seenU ws key (i + 1) v = (seenU ws key i v || (decide (atZ ws (i : Int) ≠ 0) && decide (key i = v))) := by simp [seenU, List.range_succ]
theorem seen_row {ws : List Int} {X Y : Nat} {v : Nat} (hv : v < X) : seenU ws (· / Y) (X * Y) v = rowU ws Y v := by
  rw [Bool.eq_iff_iff]
  simp only [seenU, rowU, List.any_eq_true, List.mem_range, Bool.and_eq_true, decide_eq_true_eq]
  constructor
  · rintro ⟨j, hj, h0, rfl⟩
    have hY : 0 < Y := Nat.pos_of_ne_zero fun e => by subst e; simp at hj
    refine ⟨j % Y, Nat.mod_lt _ hY, ?_⟩
    rw [← Int.natCast_mul, ← Int.natCast_add, Nat.mul_comm, Nat.div_add_mod]; exact h0
  · rintro ⟨y, hy, h0⟩
    refine ⟨v * Y + y, ?_, ?_, ?_⟩
    · have : (v + 1) * Y ≤ X * Y := Nat.mul_le_mul_right _ hv
      rw [Nat.succ_mul] at this; omega
    · rw [Int.natCast_add, Int.natCast_mul]; exact h0
    · rw [Nat.add_comm, Nat.add_mul_div_right _ _ (by omega), Nat.div_eq_of_lt hy, Nat.zero_add]
theorem seen_col {ws : List Int} {X Y : Nat} {v : Nat} (hv : v < Y) : seenU ws (· % Y) (X * Y) v = colU ws X Y v := by
  rw [Bool.eq_iff_iff]
  simp only [seenU, colU, List.any_eq_true, List.mem_range, Bool.and_eq_true, decide_eq_true_eq]
  constructor
  · rintro ⟨j, hj, h0, rfl⟩
    refine ⟨j / Y, Nat.div_lt_of_lt_mul (by rw [Nat.mul_comm]; exact hj), ?_⟩
    rw [← Int.natCast_mul, ← Int.natCast_add, Nat.mul_comm, Nat.div_add_mod]; exact h0
  · rintro ⟨x, hx, h0⟩
    refine ⟨x * Y + v, ?_, ?_, ?_⟩
    · have : (x + 1) * Y ≤ X * Y := Nat.mul_le_mul_right _ hx
      rw [Nat.succ_mul] at this; omega
    · rw [Int.natCast_add, Int.natCast_mul]; exact h0
    · rw [Nat.add_comm, Nat.add_mul_mod_self_right, Nat.mod_eq_of_lt hv]
theorem used_zero (n : Nat) (ws : List Int) (key : Nat → Nat) : usedL n (seenU ws key 0) = [] := by simp [usedL, seenU]
theorem used_skip {n : Nat} {ws : List Int} {key : Nat → Nat} {i : Nat} (h : atZ ws (i : Int) = 0) : usedL n (seenU ws key (i + 1)) = usedL n (seenU ws key i) := usedL_congr fun v _ => by rw [seenU_succ]; simp [h]
theorem used_put {n : Nat} {ws : List Int} {key : Nat → Nat} {i : Nat} (hn : n ≤ 3) (hk : key i < n) (h : ¬ atZ ws (i : Int) = 0) : putZ (usedL n (seenU ws key i)) (key i : Nat) = usedL n (seenU ws key (i + 1)) := by
  rw [usedL_put hn _ hk]
  exact usedL_congr fun v _ => by rw [seenU_succ]; simp [h, eq_comm]
/-! a game with some of its questions -/
def askO (Y : Int) (wi : List (List Int)) (x y : Int) : List Int := atZ wi (x * Y + y)
def zerosL (n : Nat) : List Int := List.replicate n 0
@[simp] theorem zerosL_len (n : Nat) : (zerosL n).length = n := by simp [zerosL]
theorem zerosL_bits (n : Nat) : bitsB (zerosL n) n = true := by simp [bitsB, allB, zerosL, inB]
theorem zerosL_at (n : Nat) (i : Int) : atZ (zerosL n) i = 0 := by
  unfold atZ zerosL
  rw [List.getD_eq_getElem?_getD, List.getElem?_replicate]
  split <;> rfl
theorem rowF_self {l : List Int} (h : l.length = 4) : rowF (fun k : Nat => atZ l (k : Int)) 4 = l := by
  refine List.ext_getElem (by simp [h]) fun i h1 h2 => ?_
  simp [rowF, atZ_nat h2]
theorem ask_same {X Y : Int} {ws : List Int} {wi : List (List Int)} (h : gameB X Y ws wi = true) {fs ss : List Int} (hf : ∀ x ∈ fs, 0 ≤ x ∧ x < X) (hs : ∀ y ∈ ss, 0 ≤ y ∧ y < Y) (n : Nat) : pairsF (askR X Y wi (zerosL n)) fs ss = pairsF (askO Y wi) fs ss := by
  refine pairsF_congr fun x hx y hy => ?_
  have a := hf x hx
  have b := hs y hy
  have ix := idx_lt a.1 a.2 b.1 b.2
  have hl := bitsB_len (gameB_at h ix.1 ix.2.1).2
  unfold askR askO flipOf
  rw [zerosL_at, zerosL_at]
  simp only [xor4]
  simpa using rowF_self (l := atZ wi (x * Y + y)) (by omega)
def trim1 (X Y : Int) (ws : List Int) : List Int := usedL X.toNat (rowU ws Y.toNat)
def trim2 (X Y : Int) (ws : List Int) : List Int := usedL Y.toNat (colU ws X.toNat Y.toNat)
theorem trim1_mem {X Y : Int} {ws : List Int} (hX : 0 ≤ X) {x : Int} (h : x ∈ trim1 X Y ws) : 0 ≤ x ∧ x < X := by have := usedL_mem h; omega
theorem trim2_mem {X Y : Int} {ws : List Int} (hY : 0 ≤ Y) {x : Int} (h : x ∈ trim2 X Y ws) : 0 ≤ x ∧ x < Y := by have := usedL_mem h; omega
theorem trim1_len (X Y : Int) (ws : List Int) : (trim1 X Y ws).length ≤ X.toNat := usedL_len _ _
theorem trim2_len (X Y : Int) (ws : List Int) : (trim2 X Y ws).length ≤ Y.toNat := usedL_len _ _
def trimW (X Y : Int) (ws : List Int) : List Int := pairsF (askW Y ws) (trim1 X Y ws) (trim2 X Y ws)
def trimR (X Y : Int) (ws : List Int) (wi : List (List Int)) : List (List Int) := pairsF (askO Y wi) (trim1 X Y ws) (trim2 X Y ws)
theorem trimW_len (X Y : Int) (ws : List Int) (wi : List (List Int)) : (whenA (gameB X Y ws wi) (trimW X Y ws)).length ≤ 9 := by
  cases h : gameB X Y ws wi with
  | false => simp [whenA]
  | true =>
    have hg := gameB_spec h
    have g2 := hg.x3; have g4 := hg.y3
    have l1 := trim1_len X Y ws
    have l2 := trim2_len X Y ws
    simp only [whenA, if_pos, trimW, pairsF_len]
    exact Nat.le_trans (Nat.mul_le_mul (by omega : _ ≤ 3) (by omega : _ ≤ 3)) (by decide)
theorem trimR_cnt (X Y : Int) (ws : List Int) (wi : List (List Int)) : cnt (whenL (gameB X Y ws wi) (trimR X Y ws wi)) ≤ 36 := by
  cases h : gameB X Y ws wi with
  | false => simp [whenL, cnt]
  | true =>
    have hg := gameB_spec h
    have g1 := hg.x1; have g2 := hg.x3; have g3 := hg.y1; have g4 := hg.y3
    have l1 := trim1_len X Y ws
    have l2 := trim2_len X Y ws
    have hs := ask_same h (fs := trim1 X Y ws) (ss := trim2 X Y ws) (fun x hx => trim1_mem (by omega) hx) (fun x hx => trim2_mem (by omega) hx) 0
    simp only [whenL, if_pos, trimR, ← hs]
    rw [cnt_pairs (askR_len X Y wi _)]
    have := Nat.mul_le_mul (by omega : (trim1 X Y ws).length ≤ 3) (by omega : (trim2 X Y ws).length ≤ 3)
    omega

end Go.Proofs.Ytefbiejoikpkmaa

namespace Go.Proofs.Ytefbiejoikpkmaa
open Go.RowKit
set_option linter.unusedSectionVars false
variable [Glb]
open Go
/-! new halls -/
def newB (bx by_ bwh : Int) (bll : List (List Int)) (ev : Int) (cc : List (List Int)) (ss : List Int) : Bool := boxB bx by_ bwh bll && sceneB ev cc ss
structure NewOK (bx by_ bwh : Int) (bll : List (List Int)) (ev : Int) (cc : List (List Int)) (ss : List Int) : Prop where
  x1 : 1 ≤ bx
  x3 : bx ≤ 3
  y1 : 1 ≤ by_
  y3 : by_ ≤ 3
  e0 : 0 ≤ ev
  e12 : ev ≤ 12
  bl : bll.length ≤ 9
  br : ∀ r ∈ bll, r.length ≤ 1000000
  cl : cc.length ≤ 10
  cr : ∀ r ∈ cc, r.length ≤ 1000000
  cb : ∀ r ∈ cc, allB r 0 1000 = true
  sl : ss.length ≤ 10
theorem rise_lt {l : List Int} {lo hi : Int} (h : riseB l lo hi = true) : ∀ i : Nat, i < l.length → lo + i ≤ atZ l i ∧ atZ l i ≤ hi := by
  intro i
  induction i with
  | zero =>
    intro hi
    unfold riseB at h
    rw [List.all_eq_true] at h
    have := h 0 (List.mem_range.2 hi)
    simp only [riseAt, Bool.and_eq_true] at this
    have := inB_iff.1 this.1
    simp at this ⊢; omega
  | succ i ih =>
    intro hi
    have a := ih (by omega)
    unfold riseB at h
    rw [List.all_eq_true] at h
    have b := h (i + 1) (List.mem_range.2 hi)
    simp only [riseAt, Bool.and_eq_true, Bool.or_eq_true, decide_eq_true_eq] at b
    have c := inB_iff.1 b.1
    rcases b.2 with e | e
    · omega
    · rw [show ((i + 1 : Nat) : Int) - 1 = (i : Int) by omega] at e
      omega
theorem ctxB_len {n : Int} {l : List Int} (hn : n ≤ 1000) (h : ctxB n l = true) : l.length ≤ 1000 ∧ allB l 0 1000 = true := by
  simp only [ctxB, Bool.and_eq_true] at h
  have hr := rise_lt h.2
  constructor
  · rcases Nat.eq_zero_or_pos l.length with e | e
    · omega
    · have := hr (l.length - 1) (by omega); omega
  · unfold allB
    rw [List.all_eq_true]
    intro x hx
    obtain ⟨i, hi, rfl⟩ := List.getElem_of_mem hx
    have := hr i hi
    rw [atZ_nat hi] at this
    exact inB_iff.2 (by omega)
theorem newB_spec {bx by_ bwh : Int} {bll : List (List Int)} {ev : Int} {cc : List (List Int)} {ss : List Int} (h : newB bx by_ bwh bll ev cc ss = true) : NewOK bx by_ bwh bll ev cc ss := by
  simp only [newB, Bool.and_eq_true] at h
  have b := boxB_spec h.1
  have s := sceneB_spec h.2
  have m := mul_bd3 (sizeB_iff.2 ⟨⟨b.x1, b.x3⟩, b.y1, b.y3⟩)
  have hl := b.len
  have c : ∀ r ∈ cc, r.length ≤ 1000 ∧ allB r 0 1000 = true := fun r hr => by
    obtain ⟨i, hi, rfl⟩ := List.getElem_of_mem hr
    exact ctxB_len (by have := s.e12; omega) (s.ctx i hi)
  refine ⟨b.x1, b.x3, b.y1, b.y3, s.e0, s.e12, by omega, fun r hr => ?_, s.c10, fun r hr => by have := (c r hr).1; omega, fun r hr => (c r hr).2, by have := s.sl; have := s.c10; omega⟩
  obtain ⟨i, hi, rfl⟩ := List.getElem_of_mem hr
  have := (row4B_len (b.row i hi)).1
  omega
theorem len_le_cnt : ∀ {cc : List (List Int)} {n m : Nat}, cc.length ≤ n → (∀ r ∈ cc, r.length ≤ m) → cnt cc ≤ n * m
  | [], _, _, _, _ => by simp [cnt]
  | r :: cc, 0, _, h, _ => by simp at h
  | r :: cc, n + 1, m, h, h2 => by
    have a := len_le_cnt (n := n) (m := m) (cc := cc) (by simpa using h) fun x hx => h2 x (List.mem_cons_of_mem _ hx)
    have b := h2 r (List.mem_cons_self ..)
    simp only [cnt, Nat.succ_mul]; omega
theorem newB_cnt (bx by_ bwh : Int) (bll : List (List Int)) (ev : Int) (cc : List (List Int)) (ss : List Int) :
    (cnt (whenL (newB bx by_ bwh bll ev cc ss) bll) ≤ cnt bll ∧ (whenA (newB bx by_ bwh bll ev cc ss) (zerosL (bx + by_).toNat)).length ≤ 6) ∧ (cnt (whenL (newB bx by_ bwh bll ev cc ss) cc) ≤ cnt cc ∧ (whenA (newB bx by_ bwh bll ev cc ss) ss).length ≤ ss.length) ∧ (whenA (newB bx by_ bwh bll ev cc ss) (zerosL ev.toNat)).length ≤ 12 := by
  refine ⟨⟨cnt_whenL _ _, ?_⟩, ⟨cnt_whenL _ _, whenA_len _ _⟩, ?_⟩
  · cases h : newB bx by_ bwh bll ev cc ss with
    | false => simp [whenA]
    | true => have := newB_spec h; have a := this.x3; have b := this.y3; simp [whenA]; omega
  · cases h : newB bx by_ bwh bll ev cc ss with
    | false => simp [whenA]
    | true => have := newB_spec h; have a := this.e12; simp [whenA]; omega
structure HallBd (bll : List (List Int)) (pl : List Int) (cc : List (List Int)) (ss nu : List Int) : Prop where
  bl : bll.length ≤ 9
  br : ∀ r ∈ bll, r.length ≤ 1000000
  cl : cc.length ≤ 10
  cr : ∀ r ∈ cc, r.length ≤ 1000000
  cb : ∀ r ∈ cc, allB r 0 1000 = true
  sl : ss.length ≤ 10
  pl6 : pl.length ≤ 6
  nl : nu.length ≤ 12
theorem hallB_bd {bx by_ bwh : Int} {bll : List (List Int)} {pl : List Int} {ev : Int} {cc : List (List Int)} {ss nu : List Int} {co : Int} (h : hallB bx by_ bwh bll pl ev cc ss nu co = true) : HallBd bll pl cc ss nu := by
  have hH := hallB_spec h
  have hN := newB_spec (bx := bx) (by_ := by_) (bwh := bwh) (bll := bll) (ev := ev) (cc := cc) (ss := ss) (by simp [newB, hH.box, hH.sc])
  have a := bitsB_len hH.pl
  have b := bitsB_len hH.nu
  have x3 := hN.x3; have y3 := hN.y3; have e12 := hN.e12
  exact ⟨hN.bl, hN.br, hN.cl, hN.cr, hN.cb, hN.sl, by omega, by omega⟩
theorem hall_cnt (bx by_ bwh : Int) (bll : List (List Int)) (pl : List Int) (ev : Int) (cc : List (List Int)) (ss nu : List Int) (co : Int) (b : Bool) :
    (cnt (whenL b bll) ≤ cnt bll ∧ (whenA b pl).length ≤ pl.length) ∧ (cnt (whenL b cc) ≤ cnt cc ∧ (whenA b ss).length ≤ ss.length) ∧ (whenA b nu).length ≤ nu.length :=
  ⟨⟨cnt_whenL _ _, whenA_len _ _⟩, ⟨cnt_whenL _ _, whenA_len _ _⟩, whenA_len _ _⟩

end Go.Proofs.Ytefbiejoikpkmaa

namespace Go.Proofs.Ytefbiejoikpkmaa
open Go.RowKit
set_option linter.unusedSectionVars false
variable [Glb]
open Go
/-! the calls of a hall -/
theorem box_at {x y : Nat} {n : Int} {ll : List (List Int)} (h : boxB x y n ll = true) {i k : Nat} (hi : i < x) (hk : k < y) : (∀ p : Nat, p < 4 → 0 ≤ atB ll y i k p ∧ atB ll y i k p ≤ n) ∧ atB ll y i k ((0 : Nat) : Int) + atB ll y i k ((1 : Nat) : Int) + atB ll y i k ((2 : Nat) : Int) + atB ll y i k ((3 : Nat) : Int) = n := by
  have ix := idx_lt (i := (i : Int)) (k := (k : Int)) (X := x) (Y := y) (by omega) (by omega) (by omega) (by omega)
  exact ⟨fun p hp => (boxB_at h ix.1 ix.2.1).2 p (by omega) (by omega), by have := box4 h ix.1 ix.2.1; unfold atB; simpa using this⟩
theorem box_nat {X Y n : Int} {ll : List (List Int)} (h : boxB X Y n ll = true) : ∃ x y : Nat, X = x ∧ Y = y ∧ (1 ≤ x ∧ x ≤ 3) ∧ (1 ≤ y ∧ y ≤ 3) := by
  have b := boxB_spec h
  have a1 := b.x1; have a2 := b.x3; have a3 := b.y1; have a4 := b.y3
  exact ⟨X.toNat, Y.toNat, by omega, by omega, by omega, by omega⟩
/-- the sum of two boxes -/
def bmixF (la lb : List (List Int)) (Y : Nat) (i k p : Nat) : Int := atB la Y i k p + atB lb Y i k p
def bmixL (la lb : List (List Int)) (X Y : Int) : List (List Int) := boxF (bmixF la lb Y.toNat) Y.toNat (Y.toNat * X.toNat)
def sameB (x y n : Int) (la : List (List Int)) (x2 y2 m : Int) (lb : List (List Int)) : Bool := boxB x y n la && (boxB x2 y2 m lb && (decide (x = x2) && decide (y = y2)))
def bmixB (x y n : Int) (la : List (List Int)) (x2 y2 m : Int) (lb : List (List Int)) : Bool := sameB x y n la x2 y2 m lb && decide (n + m ≤ 1000)
theorem sameB_spec {x y n : Int} {la : List (List Int)} {x2 y2 m : Int} {lb : List (List Int)} (h : sameB x y n la x2 y2 m lb = true) : boxB x y n la = true ∧ boxB x y m lb = true ∧ x2 = x ∧ y2 = y := by
  simp only [sameB, Bool.and_eq_true, decide_eq_true_eq] at h
  obtain ⟨h1, h2, rfl, rfl⟩ := h
  exact ⟨h1, h2, rfl, rfl⟩
theorem mix_box {x y : Nat} {n m : Int} {la lb : List (List Int)} (ha : boxB x y n la = true) (hb : boxB x y m lb = true) : boxB x y (n + m) (bmixL la lb x y) = decide (n + m ≤ 1000) := by
  have a := boxB_spec ha; have b := boxB_spec hb
  have a1 := a.x1; have a2 := a.x3; have a3 := a.y1; have a4 := a.y3; have a5 := a.n1; have a6 := a.n2; have b5 := b.n1; have b6 := b.n2
  unfold bmixL
  simp only [Int.toNat_natCast]
  refine rows_box (by omega) (by omega) (by omega) (by omega) fun i k hi hk => ?_
  obtain ⟨a7, a8⟩ := box_at ha hi hk
  obtain ⟨b7, b8⟩ := box_at hb hi hk
  exact ⟨fun p hp => by have := a7 p hp; have := b7 p hp; unfold bmixF; omega, by unfold bmixF; omega⟩
/-- the box of a play -/
def playF (pl : List Int) (X : Nat) (wh : Int) (i k p : Nat) : Int := if atZ pl i = ((p / 2 : Nat) : Int) ∧ atZ pl ((X : Int) + k) = ((p % 2 : Nat) : Int) then wh else 0
def playL (pl : List Int) (X Y wh : Int) : List (List Int) := boxF (playF pl X.toNat wh) Y.toNat (Y.toNat * X.toNat)
def playB (x y : Int) (pl : List Int) (wh : Int) : Bool := sizeB x y && (bitsB pl (x + y) && inB wh 1 1000)
/-- the box with the players swapped -/
def swapF (ll : List (List Int)) (Y : Nat) (i k p : Nat) : Int := atB ll Y k i ((2 * (p % 2) + p / 2 : Nat) : Int)
def swapL (ll : List (List Int)) (X Y : Int) : List (List Int) := boxF (swapF ll Y.toNat) X.toNat (X.toNat * Y.toNat)
/-- the box with flipped answers -/
def bflF (ll : List (List Int)) (X Y : Nat) (fl : List Int) (i k p : Nat) : Int := atB ll Y i k (xor4 p (flipOf fl X i k))
def bflL (ll : List (List Int)) (X Y : Int) (fl : List Int) : List (List Int) := boxF (bflF ll X.toNat Y.toNat fl) Y.toNat (Y.toNat * X.toNat)
/-- the box with the least numbers -/
def gcdI (a b : Int) : Int := ((Nat.gcd a.toNat b.toNat : Nat) : Int)
def gcdR (d : Int) (row : List Int) : Int := row.foldl gcdI d
def gcdL (d : Int) (ll : List (List Int)) : Int := ll.foldl gcdR d
theorem gcdI_pos {a b : Int} (ha : 1 ≤ a) : 1 ≤ gcdI a b ∧ gcdI a b ≤ a := by
  have h1 : 0 < Nat.gcd a.toNat b.toNat := Nat.gcd_pos_of_pos_left _ (by omega)
  have h2 : Nat.gcd a.toNat b.toNat ≤ a.toNat := Nat.gcd_le_left _ (by omega)
  unfold gcdI; omega
theorem gcdR_pos : ∀ {row : List Int} {d : Int}, 1 ≤ d → 1 ≤ gcdR d row ∧ gcdR d row ≤ d
  | [], d, h => ⟨h, Int.le_refl _⟩
  | x :: row, d, h => by
    have a := gcdI_pos (b := x) h
    have b := gcdR_pos (row := row) a.1
    unfold gcdR at *
    rw [List.foldl_cons]; omega
theorem gcdL_pos : ∀ {ll : List (List Int)} {d : Int}, 1 ≤ d → 1 ≤ gcdL d ll ∧ gcdL d ll ≤ d
  | [], d, h => ⟨h, Int.le_refl _⟩
  | x :: ll, d, h => by
    have a := gcdR_pos (row := x) h
    have b := gcdL_pos (ll := ll) a.1
    unfold gcdL at *
    rw [List.foldl_cons]; omega
theorem gcdR_snoc {row : List Int} {d : Int} {k : Nat} (h : k < row.length) : gcdR d (row.take (k + 1)) = gcdI (gcdR d (row.take k)) (atZ row k) := by
  unfold gcdR; rw [List.take_succ_eq_append_getElem h, List.foldl_append, atZ_nat h]; rfl
theorem gcdL_snoc {ll : List (List Int)} {d : Int} {k : Nat} (h : k < ll.length) : gcdL d (ll.take (k + 1)) = gcdR (gcdL d (ll.take k)) (atZ ll k) := by
  unfold gcdL; rw [List.take_succ_eq_append_getElem h, List.foldl_append, atZ_nat h]; rfl
theorem gcd_step {a b : Int} (ha : 0 ≤ a) (hb : 1 ≤ b) : gcdI b (a % b) = gcdI a b := by
  have h0 := Int.emod_nonneg a (show b ≠ 0 by omega)
  have e : (a % b).toNat = a.toNat % b.toNat := by
    have h1 := Int.toNat_of_nonneg ha
    have h2 := Int.toNat_of_nonneg (show 0 ≤ b by omega)
    have : (a % b) = ((a.toNat % b.toNat : Nat) : Int) := by rw [Int.natCast_emod, h1, h2]
    omega
  unfold gcdI
  rw [e, Nat.gcd_comm a.toNat b.toNat, Nat.gcd_rec b.toNat a.toNat, Nat.gcd_comm]
theorem gcd_zero {a : Int} (ha : 0 ≤ a) : gcdI a 0 = a := by
  unfold gcdI; simp; omega
def redF (ll : List (List Int)) (Y : Nat) (d : Int) (i k p : Nat) : Int := atB ll Y i k p / d
def redL (ll : List (List Int)) (X Y : Int) (d : Int) : List (List Int) := boxF (redF ll Y.toNat d) Y.toNat (Y.toNat * X.toNat)
/-- the sums of a scene with an event flipped -/
def evF (cc : List (List Int)) (ss : List Int) (e : Int) (i : Nat) : Int := if (atZ cc (i : Int)).contains e = true then 1 - atZ ss i else atZ ss i
def evL (cc : List (List Int)) (ss : List Int) (e : Int) : List Int := rowF (evF cc ss e) ss.length
theorem xor_pair {p : Nat} {f g : Int} (hp : p < 4) (hf : 0 ≤ f ∧ f ≤ 1) (hg : 0 ≤ g ∧ g ≤ 1) : ((0 ≤ bits .xor .i64 ((p / 2 : Nat) : Int) f ∧ bits .xor .i64 ((p / 2 : Nat) : Int) f ≤ 1) ∧ 0 ≤ bits .xor .i64 ((p % 2 : Nat) : Int) g ∧ bits .xor .i64 ((p % 2 : Nat) : Int) g ≤ 1) ∧
    2 * bits .xor .i64 ((p / 2 : Nat) : Int) f + bits .xor .i64 ((p % 2 : Nat) : Int) g = xor4 p (2 * f + g) := by
  rcases (by omega : p = 0 ∨ p = 1 ∨ p = 2 ∨ p = 3) with rfl | rfl | rfl | rfl <;> rcases (by omega : f = 0 ∨ f = 1) with rfl | rfl <;> rcases (by omega : g = 0 ∨ g = 1) with rfl | rfl <;> exact ⟨by decide, rfl⟩
/-- the sums of which the first k are done -/
def evM (cc : List (List Int)) (ss : List Int) (e : Int) (k : Nat) : List Int := rowF (fun j => if j < k then evF cc ss e j else atZ ss (j : Int)) ss.length
theorem evM_zero (cc : List (List Int)) (ss : List Int) (e : Int) : evM cc ss e 0 = ss := by
  apply List.ext_getElem
  · simp [evM]
  · intro i h1 h2
    simp [evM, rowF, atZ_nat h2]
theorem evM_all (cc : List (List Int)) (ss : List Int) (e : Int) : evM cc ss e ss.length = evL cc ss e := by
  unfold evM evL
  exact rowF_congr fun k hk => if_pos hk
@[simp] theorem evM_len (cc : List (List Int)) (ss : List Int) (e : Int) (k : Nat) : (evM cc ss e k).length = ss.length := by simp [evM]
@[simp] theorem evL_len (cc : List (List Int)) (ss : List Int) (e : Int) : (evL cc ss e).length = ss.length := by simp [evL]
theorem evM_at (cc : List (List Int)) (ss : List Int) (e : Int) {k : Nat} (h : k < ss.length) : atZ (evM cc ss e k) (k : Int) = atZ ss (k : Int) := by
  rw [atZ_nat (by simpa using h)]; simp [evM, rowF]
theorem evM_hit {cc : List (List Int)} {ss : List Int} {e : Int} {k : Nat} (h : k < ss.length) (hc : (atZ cc (k : Int)).contains e = true) : (evM cc ss e k).set k (1 - atZ ss (k : Int)) = evM cc ss e (k + 1) := by
  apply List.ext_getElem
  · simp
  · intro i h1 h2
    rw [List.getElem_set]
    simp only [evM, rowF, List.getElem_map, List.getElem_range]
    by_cases hi : k = i
    · subst hi; rw [if_pos rfl, if_pos (by omega), evF, if_pos hc]
    · rw [if_neg hi]
      by_cases h3 : i < k
      · rw [if_pos h3, if_pos (by omega)]
      · rw [if_neg h3, if_neg (by omega)]
theorem evM_miss {cc : List (List Int)} {ss : List Int} {e : Int} {k : Nat} (hc : ¬ (atZ cc (k : Int)).contains e = true) : evM cc ss e k = evM cc ss e (k + 1) := by
  unfold evM
  refine rowF_congr fun i hi => ?_
  by_cases h3 : i < k
  · rw [if_pos h3, if_pos (by omega)]
  · rw [if_neg h3]
    by_cases h4 : i = k
    · subst h4; rw [if_pos (by omega), evF, if_neg hc]
    · rw [if_neg (by omega)]
theorem emod_bd0 {x n : Int} (hx : 0 ≤ x) (hn : 0 < n) : 0 ≤ x % n ∧ x % n < n ∧ x % n ≤ x := by
  refine ⟨Int.emod_nonneg _ (by omega), Int.emod_lt_of_pos _ (by omega), ?_⟩
  have h1 := Int.emod_add_mul_ediv x n
  have h2 : 0 ≤ n * (x / n) := Int.mul_nonneg (by omega) (Int.ediv_nonneg hx (by omega))
  omega
/-! halls as data -/
structure HD where
  bx : Int
  by_ : Int
  bwh : Int
  bll : List (List Int)
  pl : List Int
  ev : Int
  cc : List (List Int)
  ss : List Int
  nu : List Int
  co : Int
structure HV (h : HD) : Prop where
  box : boxB h.bx h.by_ h.bwh h.bll = true
  pl : bitsB h.pl (h.bx + h.by_) = true
  sc : sceneB h.ev h.cc h.ss = true
  nu : bitsB h.nu h.ev = true
/-- 1 at one place -/
def oneL (n : Nat) (a : Int) : List Int := (List.replicate n (0 : Int)).set a.toNat 1
@[simp] theorem oneL_len (n : Nat) (a : Int) : (oneL n a).length = n := by simp [oneL]
theorem oneL_bits (n : Nat) (a : Int) : bitsB (oneL n a) n = true := by
  simp only [bitsB, oneL_len, decide_true, Bool.true_and, allB, List.all_eq_true]
  intro x hx
  unfold oneL at hx
  rcases List.mem_or_eq_of_mem_set hx with h | h
  · have := List.eq_of_mem_replicate h; subst this; decide
  · subst h; decide
theorem xor_one {v : Int} (h : 0 ≤ v ∧ v ≤ 1) : bits .xor .i64 v 1 = 1 - v := by
  rcases (by omega : v = 0 ∨ v = 1) with rfl | rfl <;> rfl
def mixOK (h : HD) (a : Int) : Bool := playB h.bx h.by_ h.pl a && bmixB h.bx h.by_ h.bwh h.bll h.bx h.by_ a (playL h.pl h.bx h.by_ a)
def callT (h : HD) (k a : Int) : Option HD :=
  if k = 1 then if mixOK h a = true then some { h with bwh := h.bwh + a, bll := bmixL h.bll (playL h.pl h.bx h.by_ a) h.bx h.by_ } else none
  else if k = 2 then if inB a 0 (h.pl.length - 1) = true then some { h with pl := h.pl.set a.toNat (1 - atZ h.pl a) } else none
  else if k = 3 then if inB a 0 (h.pl.length - 1) = true then some { h with bll := bflL h.bll h.bx h.by_ (oneL h.pl.length a) } else none
  else if k = 4 then if a = 0 then some { h with bx := h.by_, by_ := h.bx, bll := swapL h.bll h.bx h.by_, pl := partZ h.pl h.bx h.pl.length ++ partZ h.pl 0 h.bx } else none
  else if k = 5 then if a = 0 then some { h with bwh := h.bwh / gcdL h.bwh h.bll, bll := redL h.bll h.bx h.by_ (gcdL h.bwh h.bll) } else none
  else if k = 6 then if inB a 0 (h.nu.length - 1) = true then some { h with nu := h.nu.set a.toNat (1 - atZ h.nu a) } else none
  else if k = 7 then if inB a 0 (h.ev - 1) = true then some { h with ss := evL h.cc h.ss a } else none
  else none
/-! rows told one by one -/
def rowsF (g : Nat → Nat → Int) (n : Nat) : List (List Int) := (List.range n).map fun j => rowF (g j) 4
@[simp] theorem rowsF_len (g : Nat → Nat → Int) (n : Nat) : (rowsF g n).length = n := by simp [rowsF]
theorem rowsF_snoc (g : Nat → Nat → Int) (n : Nat) : rowsF g (n + 1) = rowsF g n ++ [rowF (g n) 4] := by simp [rowsF, List.range_succ]
theorem boxF_rows {f : Nat → Nat → Nat → Int} {g : Nat → Nat → Int} {y n : Nat} (h : ∀ j p, j < n → p < 4 → f (j / y) (j % y) p = g j p) : boxF f y n = rowsF g n := by
  unfold boxF rowsF
  exact List.map_congr_left fun j hj => rowF_congr fun p hp => h j p (List.mem_range.1 hj) hp
theorem atB_row (ll : List (List Int)) (y j : Nat) (p : Int) : atB ll y ((j / y : Nat) : Int) ((j % y : Nat) : Int) p = atZ (atZ ll (j : Int)) p := by
  unfold atB
  have : ((j / y : Nat) : Int) * (y : Int) + ((j % y : Nat) : Int) = (j : Int) := by
    have := Nat.div_add_mod j y
    rw [← Int.natCast_mul, ← Int.natCast_add, Nat.mul_comm, this]
  rw [this]
def mixR (la lb : List (List Int)) (j p : Nat) : Int := atZ (atZ la (j : Int)) (p : Int) + atZ (atZ lb (j : Int)) (p : Int)
theorem bmixL_rows {x y : Nat} (la lb : List (List Int)) : bmixL la lb x y = rowsF (mixR la lb) (y * x) := by
  unfold bmixL
  simp only [Int.toNat_natCast]
  exact boxF_rows fun j p _ _ => by unfold bmixF mixR; rw [atB_row, atB_row]
def redR (ll : List (List Int)) (d : Int) (j p : Nat) : Int := atZ (atZ ll (j : Int)) (p : Int) / d
theorem redL_rows {x y : Nat} (ll : List (List Int)) (d : Int) : redL ll x y d = rowsF (redR ll d) (y * x) := by
  unfold redL
  simp only [Int.toNat_natCast]
  exact boxF_rows fun j p _ _ => by unfold redF redR; rw [atB_row]
/-- a row with flipped answers, on the way -/
def flM (row : List Int) (m : Int) (k : Nat) : List Int := rowF (fun j => if (xor4 j m).toNat < k then atZ row (xor4 j m) else 0) 4
@[simp] theorem flM_len (row : List Int) (m : Int) (k : Nat) : (flM row m k).length = 4 := by simp [flM]
theorem flM_zero (row : List Int) (m : Int) : flM row m 0 = List.replicate 4 0 := by simp [flM, rowF, List.range, List.range.loop]
theorem flM_set {row : List Int} {m : Int} {k : Nat} (hm : 0 ≤ m ∧ m < 4) (hk : k < 4) : (flM row m k).set (xor4 k m).toNat (atZ row k) = flM row m (k + 1) := by
  rcases (by omega : k = 0 ∨ k = 1 ∨ k = 2 ∨ k = 3) with rfl | rfl | rfl | rfl <;> rcases (by omega : m = 0 ∨ m = 1 ∨ m = 2 ∨ m = 3) with rfl | rfl | rfl | rfl <;> rfl
theorem flM_all (row : List Int) {m : Int} (hm : 0 ≤ m ∧ m < 4) : flM row m 4 = rowF (fun j => atZ row (xor4 j m)) 4 := by
  unfold flM
  refine rowF_congr fun j hj => if_pos ?_
  have := (xor4_eq hj hm.1 hm.2).2
  omega
theorem play_row {f g wh : Int} (hf : 0 ≤ f ∧ f ≤ 1) (hg : 0 ≤ g ∧ g ≤ 1) : (List.replicate 4 (0 : Int)).set (2 * f + g).toNat wh = rowF (fun p => if f = ((p / 2 : Nat) : Int) ∧ g = ((p % 2 : Nat) : Int) then wh else 0) 4 := by
  rcases (by omega : f = 0 ∨ f = 1) with rfl | rfl <;> rcases (by omega : g = 0 ∨ g = 1) with rfl | rfl <;> simp [rowF, List.range, List.range.loop]

end Go.Proofs.Ytefbiejoikpkmaa

namespace Go.Proofs.Ytefbiejoikpkmaa
open Go.RowKit
set_option linter.unusedSectionVars false
variable [Glb]
open Go Go.RowKit
/-! lists of structs -/
section
variable {α : Type} {c : α → List D} {n : Nat}
theorem flatL_len (hc : ∀ a, (c a).length = n) : ∀ l : List α, (l.flatMap c).length = l.length * n
  | [] => by simp
  | a :: l => by rw [List.flatMap_cons, List.length_append, hc, flatL_len hc l, List.length_cons, Nat.add_mul]; omega
theorem flatL_split (hc : ∀ a, (c a).length = n) {l : List α} {j : Nat} (h : j < l.length) : l.flatMap c = (l.take j).flatMap c ++ (c l[j] ++ (l.drop (j + 1)).flatMap c) ∧ ((l.take j).flatMap c).length = j * n := by
  refine ⟨?_, by rw [flatL_len hc, List.length_take]; congr 1; omega⟩
  conv => lhs; rw [← List.take_append_drop j l, List.drop_eq_getElem_cons h]
  simp only [List.flatMap_append, List.flatMap_cons]
theorem flatL_cut (hc : ∀ a, (c a).length = n) {l : List α} {j : Nat} {e : α} (h : l[j]? = some e) : ((l.flatMap c).drop (j * n)).take n = c e := by
  obtain ⟨hlt, rfl⟩ := List.getElem?_eq_some_iff.1 h
  obtain ⟨h1, h2⟩ := flatL_split hc hlt
  rw [h1, ← h2, List.drop_left, ← hc l[j], List.take_left]
theorem flatL_at (hc : ∀ a, (c a).length = n) {l : List α} {j i : Nat} {e : α} (h : l[j]? = some e) (hi : i < n) : (l.flatMap c)[j * n + i]? = (c e)[i]? := by
  obtain ⟨hlt, rfl⟩ := List.getElem?_eq_some_iff.1 h
  obtain ⟨h1, h2⟩ := flatL_split hc hlt
  rw [h1, List.getElem?_append_right (by omega), h2, Nat.add_sub_cancel_left, List.getElem?_append_left (by rw [hc]; exact hi)]
theorem flatL_set (hc : ∀ a, (c a).length = n) {l : List α} {j i : Nat} {e e' : α} {d : D} (h : l[j]? = some e) (hi : i < n) (he : (c e).set i d = c e') : (l.flatMap c).set (j * n + i) d = (l.set j e').flatMap c := by
  obtain ⟨hlt, rfl⟩ := List.getElem?_eq_some_iff.1 h
  obtain ⟨h1, h2⟩ := flatL_split hc hlt
  have hlt' : j < (l.set j e').length := by simpa using hlt
  obtain ⟨g1, g2⟩ := flatL_split hc hlt'
  rw [h1, g1, List.set_append_right _ _ (by omega), h2, Nat.add_sub_cancel_left, List.set_append_left _ _ (by rw [hc]; exact hi), he]
  have e1 : (l.set j e').take j = l.take j := by rw [List.take_set, List.set_eq_of_length_le (by rw [List.length_take]; omega)]
  rw [e1]
  simp [List.drop_set]
/-- a list that is filled from the front -/
def fillS (c : α → List D) (z : List D) (l : List α) (k : Nat) : List D := (l.take k).flatMap c ++ repL' (l.length - k) z
theorem fillS_zero (z : List D) (l : List α) : fillS c z l 0 = repL' l.length z := by simp [fillS]
theorem fillS_all (z : List D) (l : List α) : fillS c z l l.length = l.flatMap c := by simp [fillS, repL']
theorem fillS_len (hc : ∀ a, (c a).length = n) {z : List D} (hz : z.length = n) (l : List α) {k : Nat} (hk : k ≤ l.length) : (fillS c z l k).length = l.length * n := by
  unfold fillS
  rw [List.length_append, flatL_len hc, repL'_len, hz, List.length_take, Nat.min_eq_left hk, ← Nat.add_mul]
  congr 1; omega
theorem fillS_set (hc : ∀ a, (c a).length = n) {z : List D} (hz : z.length = n) {l : List α} {k : Nat} {ys : List D} (hk : k < l.length) (hy : ys = c l[k]) : (fillS c z l k).take (k * n) ++ ys ++ (fillS c z l k).drop (k * n + n) = fillS c z l (k + 1) := by
  have h2 := (flatL_split hc hk).2
  unfold fillS
  rw [show l.length - k = (l.length - (k + 1)) + 1 by omega, repL'_succ, hy]
  have e1 : ((l.take k).flatMap c ++ (z ++ repL' (l.length - (k + 1)) z)).take (k * n) = (l.take k).flatMap c := by rw [← h2, List.take_left]
  have e2 : ((l.take k).flatMap c ++ (z ++ repL' (l.length - (k + 1)) z)).drop (k * n + n) = repL' (l.length - (k + 1)) z := by
    rw [← List.append_assoc, show k * n + n = ((l.take k).flatMap c ++ z).length by rw [List.length_append, h2, hz], List.drop_left]
  rw [e1, e2, List.take_succ_eq_append_getElem hk, List.flatMap_append]
  simp
end
/-! marks -/
def mkS {α : Type} (m : Int → α → α) (w : α → Nat) : Int → List α → List α
  | _, [] => []
  | k, r :: l => m k r :: mkS m w (k + w r) l
def cntS {α : Type} (w : α → Nat) : List α → Nat
  | [] => 0
  | r :: l => w r + cntS w l
def mkSL {α : Type} (m : Int → α → α) (w : α → Nat) (l : List α) (k : Int) (j : Nat) : List α := mkS m w k (l.take j) ++ l.drop j
section
variable {α : Type} {m : Int → α → α} {w : α → Nat}
@[simp] theorem mkS_len : ∀ (k : Int) (l : List α), (mkS m w k l).length = l.length
  | _, [] => rfl
  | k, r :: l => by simp [mkS, mkS_len]
theorem cntS_append : ∀ a b : List α, cntS w (a ++ b) = cntS w a + cntS w b
  | [], b => by simp [cntS]
  | l :: a, b => by simp [cntS, cntS_append a b]; omega
theorem cntS_take {l : List α} {i : Nat} (h : i < l.length) : cntS w (l.take (i + 1)) = cntS w (l.take i) + w l[i] := by
  rw [List.take_succ_eq_append_getElem h, cntS_append]; simp [cntS]
theorem cntS_take_le (l : List α) (i : Nat) : cntS w (l.take i) ≤ cntS w l := by
  conv => rhs; rw [← List.take_append_drop i l, cntS_append]
  omega
theorem mkS_append : ∀ (a b : List α) (k : Int), mkS m w k (a ++ b) = mkS m w k a ++ mkS m w (k + cntS w a) b
  | [], b, k => by simp [mkS, cntS]
  | l :: a, b, k => by simp [mkS, mkS_append a b, cntS]; congr 1; omega
theorem mkSL_zero (l : List α) (k : Int) : mkSL m w l k 0 = l := by simp [mkSL, mkS]
theorem mkSL_all (l : List α) (k : Int) : mkSL m w l k l.length = mkS m w k l := by simp [mkSL]
theorem mkSL_len (l : List α) (k : Int) {j : Nat} (h : j ≤ l.length) : (mkSL m w l k j).length = l.length := by simp [mkSL]; omega
theorem mkSL_get {l : List α} {k : Int} {j : Nat} (h : j < l.length) : (mkSL m w l k j)[j]? = some l[j] := by
  unfold mkSL
  rw [List.getElem?_append_right (by simp; omega), mkS_len, List.length_take, Nat.min_eq_left (by omega), Nat.sub_self, List.getElem?_drop]
  simp [h]
theorem mkSL_set {l : List α} {k : Int} {j : Nat} (h : j < l.length) : (mkSL m w l k j).set j (m (k + cntS w (l.take j)) l[j]) = mkSL m w l k (j + 1) := by
  unfold mkSL
  have hl : (mkS m w k (l.take j)).length = j := by simp; omega
  rw [List.set_append_right _ _ (by omega), hl, Nat.sub_self, List.drop_eq_getElem_cons h, List.set_cons_zero, List.take_succ_eq_append_getElem h, mkS_append]
  simp [mkS]
end
theorem cntS_mem {α : Type} {w : α → Nat} : ∀ {l : List α} {e : α}, e ∈ l → w e ≤ cntS w l
  | x :: l, e, h => by
    rcases List.mem_cons.1 h with rfl | h
    · simp [cntS]
    · have := cntS_mem (w := w) h; simp only [cntS]; omega
/-! calls, rules -/
abbrev CallE := Int × Int × Unit
def mC (k : Int) (_ : CallE) : CallE := (k, k + 1, ())
def wC (_ : CallE) : Nat := 2
theorem cntC : ∀ l : List CallE, cntS wC l = 2 * l.length
  | [] => rfl
  | e :: l => by simp [cntS, cntC l, wC]; omega
abbrev RuleE := List Int × List (List Int) × List (List Int) × Unit
def mU (k : Int) (e : RuleE) : RuleE := (mkI k e.1.length, mkII (k + e.1.length) e.2.1, mkII (k + e.1.length + cnt e.2.1) e.2.2.1, ())
def wU (e : RuleE) : Nat := e.1.length + cnt e.2.1 + cnt e.2.2.1
/-- the cells that a list of rules holds -/
def zU (e : RuleE) : Nat := e.1.length + e.2.1.length + cnt e.2.1 + e.2.2.1.length + cnt e.2.2.1
theorem wU_le : ∀ l : List RuleE, cntS wU l ≤ cntS zU l
  | [] => by simp [cntS]
  | e :: l => by have := wU_le l; simp only [cntS, wU, zU]; omega

end Go.Proofs.Ytefbiejoikpkmaa

namespace Go.Proofs.Ytefbiejoikpkmaa
open Go.RowKit
set_option linter.unusedSectionVars false
variable [Glb]
open Go
/-! mixtures of wirings -/
def wirR (la lb : List (List Int)) (r s : RuleE) : List (List Int) := wiredL la lb r.1 r.2.1 r.2.2.1 s.1 s.2.1 s.2.2.1
def wirOK (xa ya na : Int) (la : List (List Int)) (xb yb nb : Int) (lb : List (List Int)) (r s : RuleE) : Bool := wireOK xa ya na la xb yb nb lb r.1 r.2.1 r.2.2.1 s.1 s.2.1 s.2.2.1
def mwN (w : Int) : Nat → Int
  | 0 => 0
  | 1 => w
  | k + 2 => mwN w (k + 1) + w
def mwL (la lb : List (List Int)) (l1 l2 : List RuleE) : Nat → List (List Int)
  | 0 => []
  | 1 => wirR la lb (atZ l1 ((0 : Nat) : Int)) (atZ l2 ((0 : Nat) : Int))
  | k + 2 => bmixL (mwL la lb l1 l2 (k + 1)) (wirR la lb (atZ l1 ((k + 1 : Nat) : Int)) (atZ l2 ((k + 1 : Nat) : Int))) 2 2
def mwOK (xa ya na : Int) (la : List (List Int)) (xb yb nb : Int) (lb : List (List Int)) (l1 l2 : List RuleE) : Nat → Bool
  | 0 => true
  | k + 1 => mwOK xa ya na la xb yb nb lb l1 l2 k && (wirOK xa ya na la xb yb nb lb (atZ l1 (k : Int)) (atZ l2 (k : Int)) && decide (mwN (na * nb) (k + 1) ≤ 1000))
def mwB (xa ya na : Int) (la : List (List Int)) (xb yb nb : Int) (lb : List (List Int)) (l1 l2 : List RuleE) : Bool := (decide (0 < l1.length) && decide (l1.length = l2.length)) && mwOK xa ya na la xb yb nb lb l1 l2 l1.length
theorem mwN_one (w : Int) : mwN w 1 = w := rfl
section
variable {xa ya na : Int} {la : List (List Int)} {xb yb nb : Int} {lb : List (List Int)} {l1 l2 : List RuleE}
theorem mwOK_mono : ∀ {m k : Nat}, k ≤ m → mwOK xa ya na la xb yb nb lb l1 l2 m = true → mwOK xa ya na la xb yb nb lb l1 l2 k = true
  | 0, k, h, _ => by
    have : k = 0 := by omega
    subst this; rfl
  | m + 1, k, h, h2 => by
    by_cases hk : k = m + 1
    · subst hk; exact h2
    · simp only [mwOK, Bool.and_eq_true] at h2
      exact mwOK_mono (by omega) h2.1
theorem mwOK_no {m k : Nat} (h : k < m) (h2 : wirOK xa ya na la xb yb nb lb (atZ l1 (k : Int)) (atZ l2 (k : Int)) = false ∨ ¬ mwN (na * nb) (k + 1) ≤ 1000) : mwOK xa ya na la xb yb nb lb l1 l2 m = false := by
  cases hm : mwOK xa ya na la xb yb nb lb l1 l2 m with
  | false => rfl
  | true =>
    have := mwOK_mono (k := k + 1) (by omega) hm
    simp only [mwOK, Bool.and_eq_true, decide_eq_true_eq] at this
    rcases h2 with h2 | h2
    · rw [h2] at this; exact absurd this.2.1 (by simp)
    · exact absurd this.2.2 h2
theorem wirOK_spec {r s : RuleE} (h : wirOK xa ya na la xb yb nb lb r s = true) : xa = 2 ∧ ya = 2 ∧ xb = 2 ∧ yb = 2 ∧ boxB 2 2 na la = true ∧ boxB 2 2 nb lb = true ∧ (1 ≤ na * nb ∧ na * nb ≤ 1000) ∧ boxB 2 2 (na * nb) (wirR la lb r s) = true ∧ (ruleB r.1 r.2.1 r.2.2.1 = true ∧ ruleB s.1 s.2.1 s.2.2.1 = true) := by
  simp only [wirOK, wireOK, wiresB, Bool.and_eq_true, decide_eq_true_eq] at h
  obtain ⟨⟨v1, v2, hn⟩, v3, v4⟩ := h
  obtain ⟨rfl, rfl, ha, a1, a2⟩ := pairB_spec v1
  obtain ⟨rfl, rfl, hb, b1, b2⟩ := pairB_spec v2
  have hw := wire_box ha hb v3 v4
  rw [decide_eq_true hn] at hw
  have h1 := (boxB_spec hw).n1
  exact ⟨rfl, rfl, rfl, rfl, ha, hb, ⟨h1, hn⟩, hw, v3, v4⟩
theorem mw_box : ∀ {k : Nat}, mwOK xa ya na la xb yb nb lb l1 l2 (k + 1) = true → boxB 2 2 (mwN (na * nb) (k + 1)) (mwL la lb l1 l2 (k + 1)) = true
  | 0, h => by
    simp only [mwOK, Bool.and_eq_true] at h
    rw [mwN_one]
    exact (wirOK_spec h.2.1).2.2.2.2.2.2.2.1
  | k + 1, h => by
    rw [mwOK] at h
    simp only [Bool.and_eq_true, decide_eq_true_eq] at h
    have ih := mw_box h.1
    have w := (wirOK_spec h.2.1).2.2.2.2.2.2.2.1
    have m := mix_box (x := 2) (y := 2) ih w
    rw [show mwN (na * nb) (k + 1) + na * nb = mwN (na * nb) (k + 1 + 1) from rfl, decide_eq_true h.2.2] at m
    exact m
theorem mw_bd {k : Nat} (h : mwOK xa ya na la xb yb nb lb l1 l2 k = true) : 0 ≤ mwN (na * nb) k ∧ mwN (na * nb) k ≤ 1000 := by
  cases k with
  | zero => simp [mwN]
  | succ k => have b := boxB_spec (mw_box h); have := b.n1; have := b.n2; omega
theorem mw_cnt {k : Nat} : cnt (mwL la lb l1 l2 k) ≤ 16 := by
  match k with
  | 0 => simp [mwL, cnt]
  | 1 => 
    have : cnt (wirR la lb (atZ l1 ((0 : Nat) : Int)) (atZ l2 ((0 : Nat) : Int))) = 16 := by unfold wirR wiredL; rw [cnt_boxF]
    exact Nat.le_of_eq this
  | k + 2 =>
    have : cnt (mwL la lb l1 l2 (k + 2)) = 16 := by unfold mwL bmixL; rw [cnt_boxF]; rfl
    exact Nat.le_of_eq this
end
def q2 : Nat → Int
  | 0 => 0
  | _ + 1 => 2
theorem bmix_ok {n m : Int} {la lb : List (List Int)} (ha : boxB 2 2 n la = true) (hb : boxB 2 2 m lb = true) : bmixB 2 2 n la 2 2 m lb = decide (n + m ≤ 1000) := by
  simp [bmixB, sameB, ha, hb]
theorem mwOK_step {xa ya na : Int} {la : List (List Int)} {xb yb nb : Int} {lb : List (List Int)} {l1 l2 : List RuleE} {k : Nat} (h : mwOK xa ya na la xb yb nb lb l1 l2 k = true) (h2 : wirOK xa ya na la xb yb nb lb (atZ l1 (k : Int)) (atZ l2 (k : Int)) = true) (h3 : mwN (na * nb) (k + 1) ≤ 1000) : mwOK xa ya na la xb yb nb lb l1 l2 (k + 1) = true := by
  simp [mwOK, h, h2, h3]

end Go.Proofs.Ytefbiejoikpkmaa

namespace Go.Proofs.Ytefbiejoikpkmaa
open Go.RowKit
set_option linter.unusedSectionVars false
variable [Glb]
open Go
/-! trios: triple agreements, turning -/
def parN (k : Nat) : Nat := (k / 4 + k / 2 + k) % 2
def agrT (ll : List (List Int)) (q : Nat) : Int := accT (fun k => at2 ll q k * (1 - 2 * (parN k : Int))) 8
def agrL (ll : List (List Int)) : List Int := rowF (agrT ll) 8
def signT (ll : List (List Int)) : Int := agrT ll 0 - agrT ll 3 - agrT ll 5 - agrT ll 6
def grpS (q : Nat) : Int := if q = 0 ∨ q = 1 ∨ q = 2 ∨ q = 4 then 1 else -1
def grpN (ll : List (List Int)) : Nat → Int
  | 0 => 0
  | q + 1 => if q = 0 ∨ q = 1 ∨ q = 2 ∨ q = 4 then grpN ll q + agrT ll q else grpN ll q - agrT ll q
def grpT (ll : List (List Int)) : Int := grpN ll 8
theorem agrT_eq (ll : List (List Int)) (q : Nat) : agrT ll q = at2 ll q 0 - at2 ll q 1 - at2 ll q 2 + at2 ll q 3 - at2 ll q 4 + at2 ll q 5 + at2 ll q 6 - at2 ll q 7 := by
  have e0 : (1 : Int) - 2 * ((parN 0 : Nat) : Int) = 1 := rfl
  have e1 : (1 : Int) - 2 * ((parN 1 : Nat) : Int) = -1 := rfl
  have e2 : (1 : Int) - 2 * ((parN 2 : Nat) : Int) = -1 := rfl
  have e3 : (1 : Int) - 2 * ((parN 3 : Nat) : Int) = 1 := rfl
  have e4 : (1 : Int) - 2 * ((parN 4 : Nat) : Int) = -1 := rfl
  have e5 : (1 : Int) - 2 * ((parN 5 : Nat) : Int) = 1 := rfl
  have e6 : (1 : Int) - 2 * ((parN 6 : Nat) : Int) = 1 := rfl
  have e7 : (1 : Int) - 2 * ((parN 7 : Nat) : Int) = -1 := rfl
  simp only [agrT, accT]
  rw [e0, e1, e2, e3, e4, e5, e6, e7]
  omega
theorem grpT_eq (ll : List (List Int)) : grpT ll = agrT ll 0 + agrT ll 1 + agrT ll 2 + agrT ll 4 - agrT ll 3 - agrT ll 5 - agrT ll 6 - agrT ll 7 := by
  simp [grpT, grpN]; omega
theorem at2_grid {f : Nat → Nat → Int} {q k : Nat} (hq : q < 8) (hk : k < 8) : at2 (gridF f 8 8) q k = f q k := by
  have e : atZ (gridF f 8 8) (q : Int) = rowF (f q) 8 := by rw [atZ_nat (by simpa using hq)]; simp [gridF]
  unfold at2
  rw [e, rowF_atZ _ hk]
theorem trio_at2 {n : Int} {ll : List (List Int)} (h : trioB n ll = true) {q k : Nat} (hq : q < 8) (hk : k < 8) : 0 ≤ at2 ll q k ∧ at2 ll q k ≤ n :=
  (trioB_at h (q := (q : Int)) (by omega) (by omega)).2 k (by omega) (by omega)
/-- the numbers of a valid trio's rows add up to its whole -/
theorem trio_row {n : Int} {ll : List (List Int)} (h : trioB n ll = true) {q : Nat} (hq : q < 8) : at2 ll q 0 + at2 ll q 1 + at2 ll q 2 + at2 ll q 3 + at2 ll q 4 + at2 ll q 5 + at2 ll q 6 + at2 ll q 7 = n := by
  obtain ⟨h1, h2, h3, h4⟩ := trioB_spec h
  have hr : rowB n (ll[q]'(by omega)) = true := by
    simp only [trioB, Bool.and_eq_true, List.all_eq_true] at h
    exact h.2 _ (List.getElem_mem _)
  obtain ⟨h5, h6⟩ := rowB_len hr
  have hs : sum64 (ll[q]'(by omega)) = n := by simp only [rowB, Bool.and_eq_true, decide_eq_true_eq] at hr; exact hr.2
  rw [sum64_of h5 fun k hk => ⟨(h6 k hk).1, by have := (h6 k hk).2; omega⟩] at hs
  unfold at2
  rw [atZ_nat (l := ll) (k := q) (by omega)]
  obtain ⟨a, b, c, d, e, f, g, i, he⟩ := len8 h5
  rw [he] at hs ⊢
  simp [atZ] at hs ⊢
  omega
theorem agrT_bd {n : Int} {ll : List (List Int)} (h : trioB n ll = true) {q : Nat} (hq : q < 8) : -n ≤ agrT ll q ∧ agrT ll q ≤ n := by
  rw [agrT_eq]
  have r := trio_row h hq
  have a0 := trio_at2 h hq (k := 0) (by omega)
  have a1 := trio_at2 h hq (k := 1) (by omega)
  have a2 := trio_at2 h hq (k := 2) (by omega)
  have a3 := trio_at2 h hq (k := 3) (by omega)
  have a4 := trio_at2 h hq (k := 4) (by omega)
  have a5 := trio_at2 h hq (k := 5) (by omega)
  have a6 := trio_at2 h hq (k := 6) (by omega)
  have a7 := trio_at2 h hq (k := 7) (by omega)
  omega
/-- a grid whose rows add up is a trio -/
theorem grid_trio {n : Int} {f : Nat → Nat → Int} (h1 : 1 ≤ n) (h2 : n ≤ 1000) (hf : ∀ q k, q < 8 → k < 8 → 0 ≤ f q k) (hs : ∀ q, q < 8 → f q 0 + f q 1 + f q 2 + f q 3 + f q 4 + f q 5 + f q 6 + f q 7 = n) : trioB n (gridF f 8 8) = true := by
  simp only [trioB, Bool.and_eq_true, decide_eq_true_eq, List.all_eq_true, gridF_len, and_true]
  refine ⟨inB_iff.2 ⟨h1, h2⟩, fun x hx => ?_⟩
  unfold gridF at hx
  obtain ⟨q, hq, rfl⟩ := List.mem_map.1 hx
  have hq := List.mem_range.1 hq
  have hb : ∀ k, k < 8 → 0 ≤ f q k ∧ f q k ≤ n := fun k hk => by
    have h := hs q hq
    have b0 := hf q 0 hq (by omega); have b1 := hf q 1 hq (by omega); have b2 := hf q 2 hq (by omega); have b3 := hf q 3 hq (by omega)
    have b4 := hf q 4 hq (by omega); have b5 := hf q 5 hq (by omega); have b6 := hf q 6 hq (by omega); have b7 := hf q 7 hq (by omega)
    rcases (by omega : k = 0 ∨ k = 1 ∨ k = 2 ∨ k = 3 ∨ k = 4 ∨ k = 5 ∨ k = 6 ∨ k = 7) with rfl | rfl | rfl | rfl | rfl | rfl | rfl | rfl <;> omega
  have hget : ∀ k (hk : k < (rowF (f q) 8).length), (rowF (f q) 8)[k] = f q k := fun k hk => by simp [rowF]
  have e : sum64 (rowF (f q) 8) = n := by
    rw [sum64_of (by simp) fun k hk => by rw [hget k hk]; have := hb k (by simpa using hk); omega]
    have := hs q hq
    simp [rowF, List.range, List.range.loop]
    omega
  simp only [rowB, allB, e, rowF_len, decide_true, Bool.true_and, Bool.and_true, List.all_eq_true]
  intro x hx
  obtain ⟨k, hk, rfl⟩ := List.getElem_of_mem hx
  rw [hget k hk]
  exact inB_iff.2 (hb k (by simpa using hk))
theorem turnF_at (ll : List (List Int)) (q k : Nat) : turnF ll q k = at2 ll (turnN q) (turnN k) := by unfold turnF at2; rw [turnP_nat, turnP_nat]
def turnG (ll : List (List Int)) : List (List Int) := gridF (turnF ll) 8 8
theorem turnG_at (ll : List (List Int)) {q k : Nat} (hq : q < 8) (hk : k < 8) : at2 (turnG ll) q k = at2 ll (turnN q) (turnN k) := by unfold turnG; rw [at2_grid hq hk, turnF_at]
theorem turn_trio {n : Int} {ll : List (List Int)} (h : trioB n ll = true) : trioB n (turnG ll) = true := by
  obtain ⟨h1, h2, _, _⟩ := trioB_spec h
  refine grid_trio h1 h2 (fun q k hq hk => by rw [turnF_at]; exact (trio_at2 h (turnN_lt hq) (turnN_lt hk)).1) fun q hq => ?_
  simp only [turnF_at]
  have := trio_row h (turnN_lt hq)
  have e0 : turnN 0 = 0 := rfl
  have e1 : turnN 1 = 2 := rfl
  have e2 : turnN 2 = 4 := rfl
  have e3 : turnN 3 = 6 := rfl
  have e4 : turnN 4 = 1 := rfl
  have e5 : turnN 5 = 3 := rfl
  have e6 : turnN 6 = 5 := rfl
  have e7 : turnN 7 = 7 := rfl
  rw [e0, e1, e2, e3, e4, e5, e6, e7]
  omega
theorem turn_agr (ll : List (List Int)) {q : Nat} (hq : q < 8) : agrT (turnG ll) q = agrT ll (turnN q) := by
  rw [agrT_eq, agrT_eq, turnG_at ll hq (by omega), turnG_at ll hq (by omega), turnG_at ll hq (by omega), turnG_at ll hq (by omega), turnG_at ll hq (by omega), turnG_at ll hq (by omega), turnG_at ll hq (by omega), turnG_at ll hq (by omega)]
  have e0 : turnN 0 = 0 := rfl
  have e1 : turnN 1 = 2 := rfl
  have e2 : turnN 2 = 4 := rfl
  have e3 : turnN 3 = 6 := rfl
  have e4 : turnN 4 = 1 := rfl
  have e5 : turnN 5 = 3 := rfl
  have e6 : turnN 6 = 5 := rfl
  have e7 : turnN 7 = 7 := rfl
  rw [e0, e1, e2, e3, e4, e5, e6, e7]
  omega
theorem turn_sign (ll : List (List Int)) : signT (turnG ll) = signT ll := by
  unfold signT
  rw [turn_agr ll (by omega), turn_agr ll (by omega), turn_agr ll (by omega), turn_agr ll (by omega)]
  show agrT ll 0 - agrT ll 6 - agrT ll 3 - agrT ll 5 = _
  omega
theorem turn_grp (ll : List (List Int)) : grpT (turnG ll) = grpT ll := by
  rw [grpT_eq, grpT_eq, turn_agr ll (by omega), turn_agr ll (by omega), turn_agr ll (by omega), turn_agr ll (by omega), turn_agr ll (by omega), turn_agr ll (by omega), turn_agr ll (by omega), turn_agr ll (by omega)]
  show agrT ll 0 + agrT ll 2 + agrT ll 4 + agrT ll 1 - agrT ll 6 - agrT ll 3 - agrT ll 5 - agrT ll 7 = _
  omega
theorem grid_self {n : Int} {ll : List (List Int)} (h : trioB n ll = true) {f : Nat → Nat → Int} (hf : ∀ q k, q < 8 → k < 8 → f q k = at2 ll q k) : gridF f 8 8 = ll := by
  obtain ⟨_, _, h3, h4⟩ := trioB_spec h
  refine List.ext_getElem (by simp [h3]) fun q h1 h2 => ?_
  have hq : q < 8 := by simpa using h1
  have h5 := (h4 q h2).1
  refine List.ext_getElem (by simp [gridF, h5]) fun k g1 g2 => ?_
  have hk : k < 8 := by omega
  have := hf q k hq hk
  unfold at2 at this
  rw [atZ_nat h2, atZ_nat g2] at this
  simpa [gridF, rowF] using this
theorem turn3 {n : Int} {ll : List (List Int)} (h : trioB n ll = true) : turnG (turnG (turnG ll)) = ll := by
  refine grid_self h fun q k hq hk => ?_
  have a := turnN_lt hq; have b := turnN_lt hk
  rw [turnF_at, turnG_at _ a b, turnG_at _ (turnN_lt a) (turnN_lt b)]
  have e : ∀ q, q < 8 → turnN (turnN (turnN q)) = q := by decide
  rw [e q hq, e k hk]
/-- quiet, said of all places -/
def QuietP (ll : List (List Int)) : Prop := ∀ d, (d = 4 ∨ d = 2 ∨ d = 1) → ∀ q, q < 8 → ∀ a, a < 8 → q &&& d = 0 → at2 ll q a + at2 ll q (a ^^^ d) = at2 ll (q ||| d) a + at2 ll (q ||| d) (a ^^^ d)
theorem quiet_iff (ll : List (List Int)) : quiet3 ll = true ↔ QuietP ll := by
  unfold quiet3 QuietP
  simp only [List.all_eq_true, List.mem_cons, List.not_mem_nil, or_false, List.mem_range, quietAt, Bool.or_eq_true, bne_iff_ne, ne_eq, decide_eq_true_eq]
  constructor
  · intro h d hd q hq a ha h0
    rcases h d hd q hq a ha with h | h
    · exact absurd h0 h
    · exact h
  · intro h d hd q hq a ha
    by_cases h0 : q &&& d = 0
    · exact .inr (h d hd q hq a ha h0)
    · exact .inl h0
theorem turn_bits : ∀ d, (d = 4 ∨ d = 2 ∨ d = 1) → (turnN d = 4 ∨ turnN d = 2 ∨ turnN d = 1) ∧ ∀ q, q < 8 → turnN (q ||| d) = turnN q ||| turnN d ∧ turnN (q ^^^ d) = turnN q ^^^ turnN d ∧ (q &&& d = 0 → turnN q &&& turnN d = 0) ∧ q ||| d < 8 ∧ q ^^^ d < 8 := by
  rintro d (rfl | rfl | rfl) <;> exact ⟨by decide, by decide⟩
theorem quietP_turn {ll : List (List Int)} (h : QuietP ll) : QuietP (turnG ll) := by
  intro d hd q hq a ha h0
  obtain ⟨hd', hb⟩ := turn_bits d hd
  obtain ⟨q1, q2, q3, q4, q5⟩ := hb q hq
  obtain ⟨a1, a2, a3, a4, a5⟩ := hb a ha
  rw [turnG_at ll hq ha, turnG_at ll hq a5, turnG_at ll q4 ha, turnG_at ll q4 a5, q1, a2]
  exact h _ hd' _ (turnN_lt hq) _ (turnN_lt ha) (q3 h0)
theorem turn_quiet {n : Int} {ll : List (List Int)} (h : trioB n ll = true) : quiet3 (turnG ll) = quiet3 ll := by
  rw [Bool.eq_iff_iff, quiet_iff, quiet_iff]
  refine ⟨fun hq => ?_, quietP_turn⟩
  have := quietP_turn (quietP_turn hq)
  rwa [turn3 h] at this
/-! the trio of a play -/
def GN (c q : Nat) : Nat := 4 * (c / 2 ^ (q / 4) % 2) + 2 * (c / 2 ^ (2 + q / 2 % 2) % 2) + c / 2 ^ (4 + q % 2) % 2
theorem len6 {l : List Int} (h : l.length = 6) : ∃ a b c d e f, l = [a, b, c, d, e, f] := by
  match l, h with
  | [a, b, c, d, e, f], _ => exact ⟨a, b, c, d, e, f, rfl⟩
theorem play_code {l : List Int} (h : bitsB l 6 = true) : ∃ c, c < 64 ∧ ∀ q : Nat, q < 8 → playV l (q : Int) = ((GN c q : Nat) : Int) := by
  have hl := bitsB_len h
  obtain ⟨a, b, c, d, e, f, rfl⟩ := len6 (by omega : l.length = 6)
  have b0 := bitsB_at h (i := 0) (by omega) (by omega)
  have b1 := bitsB_at h (i := 1) (by omega) (by omega)
  have b2 := bitsB_at h (i := 2) (by omega) (by omega)
  have b3 := bitsB_at h (i := 3) (by omega) (by omega)
  have b4 := bitsB_at h (i := 4) (by omega) (by omega)
  have b5 := bitsB_at h (i := 5) (by omega) (by omega)
  simp [atZ] at b0 b1 b2 b3 b4 b5
  clear h hl
  refine ⟨(a + 2 * b + 4 * c + 8 * d + 16 * e + 32 * f).toNat, by omega, ?_⟩
  rcases (by omega : a = 0 ∨ a = 1) with rfl | rfl <;> rcases (by omega : b = 0 ∨ b = 1) with rfl | rfl <;> rcases (by omega : c = 0 ∨ c = 1) with rfl | rfl <;> rcases (by omega : d = 0 ∨ d = 1) with rfl | rfl <;> rcases (by omega : e = 0 ∨ e = 1) with rfl | rfl <;> rcases (by omega : f = 0 ∨ f = 1) with rfl | rfl <;> decide
theorem GN_step : ∀ c, c < 64 → ∀ d, (d = 4 ∨ d = 2 ∨ d = 1) → ∀ q, q < 8 → q &&& d = 0 → GN c (q ||| d) = GN c q ∨ GN c (q ||| d) = GN c q ^^^ d := by
  intro c hc d hd
  rcases hd with rfl | rfl | rfl <;> revert c <;> decide
theorem GN_lt (c q : Nat) : GN c q < 8 := by unfold GN; omega
theorem GN_sign : ∀ c, c < 64 → ((1 - 2 * (parN (GN c 0) : Int)) - (1 - 2 * (parN (GN c 3) : Int)) - (1 - 2 * (parN (GN c 5) : Int)) - (1 - 2 * (parN (GN c 6) : Int)) = 2 ∨ (1 - 2 * (parN (GN c 0) : Int)) - (1 - 2 * (parN (GN c 3) : Int)) - (1 - 2 * (parN (GN c 5) : Int)) - (1 - 2 * (parN (GN c 6) : Int)) = -2) := by decide
theorem xor_swap : ∀ d, (d = 4 ∨ d = 2 ∨ d = 1) → ∀ a, a < 8 → ∀ u, u < 8 → ((a ^^^ d = u ↔ a = u ^^^ d) ∧ (a ^^^ d = u ^^^ d ↔ a = u)) := by
  rintro d (rfl | rfl | rfl) <;> decide
def hotF (n : Int) (g : Nat → Nat) (q k : Nat) : Int := if k = g q then n else 0
theorem hot_ans {n : Int} {h : Nat → Int} {g : Nat → Nat} (e : ∀ q, q < 8 → h q = (g q : Nat)) : gridF (ansF n h) 8 8 = gridF (hotF n g) 8 8 :=
  gridF_congr fun q hq k _ => by
    unfold ansF hotF
    rw [e q hq]
    by_cases hk : k = g q
    · rw [if_pos hk, if_pos (by omega)]
    · rw [if_neg hk, if_neg (by omega)]
theorem hot_trio {n : Int} {g : Nat → Nat} (h1 : 1 ≤ n) (h2 : n ≤ 1000) (hg : ∀ q, q < 8 → g q < 8) : trioB n (gridF (hotF n g) 8 8) = true := by
  refine grid_trio h1 h2 (fun q k _ _ => by unfold hotF; split <;> omega) fun q hq => ?_
  have := hg q hq
  unfold hotF
  generalize g q = u at this
  rcases (by omega : u = 0 ∨ u = 1 ∨ u = 2 ∨ u = 3 ∨ u = 4 ∨ u = 5 ∨ u = 6 ∨ u = 7) with rfl | rfl | rfl | rfl | rfl | rfl | rfl | rfl <;> simp
theorem hot_agr {n : Int} {g : Nat → Nat} {q : Nat} (hq : q < 8) (hg : g q < 8) : agrT (gridF (hotF n g) 8 8) q = n * (1 - 2 * (parN (g q) : Int)) := by
  rw [agrT_eq, at2_grid hq (by omega), at2_grid hq (by omega), at2_grid hq (by omega), at2_grid hq (by omega), at2_grid hq (by omega), at2_grid hq (by omega), at2_grid hq (by omega), at2_grid hq (by omega)]
  unfold hotF
  generalize g q = u at hg
  rcases (by omega : u = 0 ∨ u = 1 ∨ u = 2 ∨ u = 3 ∨ u = 4 ∨ u = 5 ∨ u = 6 ∨ u = 7) with rfl | rfl | rfl | rfl | rfl | rfl | rfl | rfl <;> simp [parN] <;> omega
theorem play_quiet {n : Int} {c : Nat} (hc : c < 64) : quiet3 (gridF (hotF n (GN c)) 8 8) = true := by
  rw [quiet_iff]
  intro d hd q hq a ha h0
  obtain ⟨_, hb⟩ := turn_bits d hd
  obtain ⟨_, _, _, q4, _⟩ := hb q hq
  obtain ⟨_, _, _, _, a5⟩ := hb a ha
  rw [at2_grid hq ha, at2_grid hq a5, at2_grid q4 ha, at2_grid q4 a5]
  have hu := GN_lt c q
  unfold hotF
  rcases GN_step c hc d hd q hq h0 with e | e
  · rw [e]
  · rw [e]
    obtain ⟨x1, x2⟩ := xor_swap d hd a ha _ hu
    simp only [x1, x2]
    omega
theorem play_sign {n : Int} {c : Nat} (hc : c < 64) : signT (gridF (hotF n (GN c)) 8 8) = 2 * n ∨ signT (gridF (hotF n (GN c)) 8 8) = -2 * n := by
  unfold signT
  rw [hot_agr (by omega) (GN_lt _ _), hot_agr (by omega) (GN_lt _ _), hot_agr (by omega) (GN_lt _ _), hot_agr (by omega) (GN_lt _ _), ← Int.mul_sub, ← Int.mul_sub, ← Int.mul_sub]
  rcases GN_sign c hc with h | h
  · rw [h]; omega
  · rw [h]; omega
/-! the trio of sums -/
def sumF3 (odd : List Int) (q k : Nat) : Int := if (parN k : Int) = atZ odd (q : Int) then 1 else 0
theorem sum3_trio {odd : List Int} (h : bitsB odd 8 = true) : trioB 4 (gridF (sumF3 odd) 8 8) = true := by
  refine grid_trio (by omega) (by omega) (fun q k _ _ => by unfold sumF3; split <;> omega) fun q hq => ?_
  have := bitsB_at h (i := (q : Int)) (by omega) (by omega)
  unfold sumF3
  generalize atZ odd (q : Int) = u at this
  rcases (by omega : u = 0 ∨ u = 1) with rfl | rfl <;> decide
theorem sum3_agr {odd : List Int} (h : bitsB odd 8 = true) {q : Nat} (hq : q < 8) : agrT (gridF (sumF3 odd) 8 8) q = 4 - 8 * atZ odd (q : Int) := by
  have := bitsB_at h (i := (q : Int)) (by omega) (by omega)
  rw [agrT_eq, at2_grid hq (by omega), at2_grid hq (by omega), at2_grid hq (by omega), at2_grid hq (by omega), at2_grid hq (by omega), at2_grid hq (by omega), at2_grid hq (by omega), at2_grid hq (by omega)]
  unfold sumF3
  generalize atZ odd (q : Int) = u at this
  rcases (by omega : u = 0 ∨ u = 1) with rfl | rfl <;> decide
theorem par_xor : ∀ d, (d = 4 ∨ d = 2 ∨ d = 1) → ∀ a, a < 8 → parN (a ^^^ d) = 1 - parN a := by
  rintro d (rfl | rfl | rfl) <;> decide
theorem sum3_quiet {odd : List Int} (h : bitsB odd 8 = true) : quiet3 (gridF (sumF3 odd) 8 8) = true := by
  rw [quiet_iff]
  intro d hd q hq a ha h0
  obtain ⟨_, hb⟩ := turn_bits d hd
  obtain ⟨_, _, _, q4, _⟩ := hb q hq
  obtain ⟨_, _, _, _, a5⟩ := hb a ha
  rw [at2_grid hq ha, at2_grid hq a5, at2_grid q4 ha, at2_grid q4 a5]
  have u := bitsB_at h (i := (q : Int)) (by omega) (by omega)
  have v := bitsB_at h (i := ((q ||| d : Nat) : Int)) (by omega) (by omega)
  unfold sumF3
  rw [par_xor d hd a ha]
  have hp : parN a < 2 := by unfold parN; omega
  generalize atZ odd (q : Int) = x at u
  generalize atZ odd ((q ||| d : Nat) : Int) = y at v
  generalize parN a = p at hp
  rcases (by omega : x = 0 ∨ x = 1) with rfl | rfl <;> rcases (by omega : y = 0 ∨ y = 1) with rfl | rfl <;> rcases (by omega : p = 0 ∨ p = 1) with rfl | rfl <;> decide
/-! mixtures -/
theorem mix_agr (a b : List (List Int)) {q : Nat} (hq : q < 8) : agrT (gridF (mixF a b) 8 8) q = agrT a q + agrT b q := by
  have e : ∀ k, k < 8 → at2 (gridF (mixF a b) 8 8) q k = at2 a q k + at2 b q k := fun k hk => by rw [at2_grid hq hk]; rfl
  rw [agrT_eq, agrT_eq, agrT_eq, e 0 (by omega), e 1 (by omega), e 2 (by omega), e 3 (by omega), e 4 (by omega), e 5 (by omega), e 6 (by omega), e 7 (by omega)]
  omega
theorem mix_grp (a b : List (List Int)) : grpT (gridF (mixF a b) 8 8) = grpT a + grpT b := by
  rw [grpT_eq, grpT_eq, grpT_eq, mix_agr a b (by omega), mix_agr a b (by omega), mix_agr a b (by omega), mix_agr a b (by omega), mix_agr a b (by omega), mix_agr a b (by omega), mix_agr a b (by omega), mix_agr a b (by omega)]
  omega
theorem parZ_nat (n : Nat) : parZ (n : Int) = (parN n : Int) := by unfold parZ parN; omega
theorem parN_le (n : Nat) : parN n ≤ 1 := by unfold parN; omega
def agrS (ll : List (List Int)) (q k : Nat) : Int := at2 ll q k * (1 - 2 * (parN k : Int))
theorem agrS_bd {n : Int} {ll : List (List Int)} (h : trioB n ll = true) {q k : Nat} (hq : q < 8) (hk : k < 8) : -n ≤ agrS ll q k ∧ agrS ll q k ≤ n := by
  have a := trio_at2 h hq hk
  have hp := parN_le k
  unfold agrS
  rcases (by omega : parN k = 0 ∨ parN k = 1) with e | e <;> rw [e] <;> omega
theorem accS_bd {n : Int} {ll : List (List Int)} (h : trioB n ll = true) {q : Nat} (hq : q < 8) : ∀ {k : Nat}, k ≤ 8 → -(1000 * k) ≤ accT (agrS ll q) k ∧ accT (agrS ll q) k ≤ 1000 * k
  | 0, _ => by simp [accT]
  | k + 1, hk => by
    have := accS_bd h hq (k := k) (by omega)
    have := agrS_bd h hq (k := k) (by omega)
    have := (trioB_spec h).2.1
    simp only [accT]; omega
theorem grpN_bd {n : Int} {ll : List (List Int)} (h : trioB n ll = true) : ∀ {k : Nat}, k ≤ 8 → -(1000 * k) ≤ grpN ll k ∧ grpN ll k ≤ 1000 * k
  | 0, _ => by simp [grpN]
  | k + 1, hk => by
    have := grpN_bd h (k := k) (by omega)
    have := agrT_bd h (q := k) (by omega)
    have := (trioB_spec h).2.1
    simp only [grpN]
    split <;> omega
@[simp] theorem agrL_len (ll : List (List Int)) : (agrL ll).length = 8 := by simp [agrL]
theorem agrL_at (ll : List (List Int)) {k : Nat} (h : k < 8) : atZ (agrL ll) (k : Int) = agrT ll k := rowF_atZ _ h
def sumRow (odd : List Int) (q k : Nat) : List Int := rowF (fun j => if j < k then sumF3 odd q j else 0) 8
theorem sumRow_zero (odd : List Int) (q : Nat) : sumRow odd q 0 = List.replicate 8 0 := by simp [sumRow, rowF, List.range, List.range.loop, List.replicate]
theorem sumRow_all (odd : List Int) (q : Nat) : sumRow odd q 8 = rowF (sumF3 odd q) 8 := rowF_congr fun k hk => if_pos hk
@[simp] theorem sumRow_len (odd : List Int) (q k : Nat) : (sumRow odd q k).length = 8 := by simp [sumRow]
theorem sumRow_hit {odd : List Int} {q k : Nat} (hk : k < 8) (h : (parN k : Int) = atZ odd (q : Int)) : (sumRow odd q k).set k 1 = sumRow odd q (k + 1) := by
  apply List.ext_getElem
  · simp
  · intro i h1 h2
    rw [List.getElem_set]
    simp only [sumRow, rowF, List.getElem_map, List.getElem_range]
    by_cases hi : k = i
    · subst hi; rw [if_pos rfl, if_pos (by omega), sumF3, if_pos h]
    · rw [if_neg hi]
      by_cases h3 : i < k
      · rw [if_pos h3, if_pos (by omega)]
      · rw [if_neg h3, if_neg (by omega)]
theorem sumRow_miss {odd : List Int} {q k : Nat} (h : ¬ (parN k : Int) = atZ odd (q : Int)) : sumRow odd q k = sumRow odd q (k + 1) := by
  unfold sumRow
  refine rowF_congr fun i hi => ?_
  by_cases h3 : i < k
  · rw [if_pos h3, if_pos (by omega)]
  · rw [if_neg h3]
    by_cases h4 : i = k
    · subst h4; rw [if_pos (by omega), sumF3, if_neg h]
    · rw [if_neg (by omega)]
theorem sum_xor {p u : Int} (hp : p = 0 ∨ p = 1) (hu : 0 ≤ u ∧ u ≤ 1) : 1 - bits .xor .i64 p u = (if p = u then 1 else 0) ∧ 0 ≤ bits .xor .i64 p u ∧ bits .xor .i64 p u ≤ 1 := by
  rcases hp with rfl | rfl <;> rcases (by omega : u = 0 ∨ u = 1) with rfl | rfl <;> exact ⟨by decide, by decide, by decide⟩

end Go.Proofs.Ytefbiejoikpkmaa

namespace Go.Proofs.Ytefbiejoikpkmaa
open Go.RowKit
open Go
/-! a box and a third player -/
def thirdF (ll : List (List Int)) (ch : List Int) (most : Int) (q k : Nat) : Int := atZ (atZ ll ((q : Int) / 2)) ((k : Int) / 2) * (if (k : Int) % 2 = 0 then most - atZ ch ((q : Int) % 2) else atZ ch ((q : Int) % 2))
def thirdB (x y n : Int) (ll : List (List Int)) (ch : List Int) (most : Int) : Bool := pairB x y n ll && (decide ((ch.length : Int) = 2) && (inB most 1 1000 && allB ch 0 most))
def thirdOK (x y n : Int) (ll : List (List Int)) (ch : List Int) (most : Int) : Bool := thirdB x y n ll ch most && trioB (n * most) (gridF (thirdF ll ch most) 8 8)
structure ThirdOK (x y n : Int) (ll : List (List Int)) (ch : List Int) (most : Int) : Prop where
  x2 : x = 2
  y2 : y = 2
  box : boxB 2 2 n ll = true
  cl : ch.length = 2
  m1 : 1 ≤ most
  m2 : most ≤ 1000
  cb : ∀ i : Int, 0 ≤ i → i < 2 → 0 ≤ atZ ch i ∧ atZ ch i ≤ most
  n1 : 1 ≤ n
  n2 : n ≤ 1000
  p1 : 1 ≤ n * most
  p2 : n * most ≤ 1000000
theorem thirdB_spec {x y n : Int} {ll : List (List Int)} {ch : List Int} {most : Int} (h : thirdB x y n ll ch most = true) : ThirdOK x y n ll ch most := by
  simp only [thirdB, pairB, Bool.and_eq_true, decide_eq_true_eq] at h
  obtain ⟨⟨h1, hx, hy⟩, h2, h3, h4⟩ := h
  subst hx hy
  have b := boxB_spec h1
  have c := inB_iff.1 h3
  have n1 := b.n1
  have n2 := b.n2
  refine ⟨rfl, rfl, h1, by omega, c.1, c.2, fun i h0 hi => allB_at h4 h0 (by omega), b.n1, b.n2, ?_, ?_⟩
  · have := Int.mul_le_mul n1 c.1 (by omega) (by omega); omega
  · exact Int.le_trans (Int.mul_le_mul n2 c.2 (by omega) (by omega)) (by decide)
theorem chances2 {ch : List Int} {m : Int} (h : ch.length = 2) : allB ch 0 m = (inB (atZ ch 0) 0 m && inB (atZ ch 1) 0 m) := by
  match ch, h with
  | [a, b], _ => simp [allB, atZ]
theorem third_mul {ll : List (List Int)} {ch : List Int} {most n x y : Int} (h : ThirdOK x y n ll ch most) {q k : Nat} (hq : q < 8) (hk : k < 8) :
    ((atZ ll ((q : Int) / 2)).length = 4 ∧ 0 ≤ atZ (atZ ll ((q : Int) / 2)) ((k : Int) / 2) ∧ atZ (atZ ll ((q : Int) / 2)) ((k : Int) / 2) ≤ 1000) ∧ (0 ≤ atZ ch ((q : Int) % 2) ∧ atZ ch ((q : Int) % 2) ≤ most) ∧
    (0 ≤ atZ (atZ ll ((q : Int) / 2)) ((k : Int) / 2) * (most - atZ ch ((q : Int) % 2)) ∧ atZ (atZ ll ((q : Int) / 2)) ((k : Int) / 2) * (most - atZ ch ((q : Int) % 2)) ≤ 1000000) ∧
    (0 ≤ atZ (atZ ll ((q : Int) / 2)) ((k : Int) / 2) * atZ ch ((q : Int) % 2) ∧ atZ (atZ ll ((q : Int) / 2)) ((k : Int) / 2) * atZ ch ((q : Int) % 2) ≤ 1000000) := by
  have r := boxB_at h.box (q := (q : Int) / 2) (by omega) (by omega)
  have e := r.2 ((k : Int) / 2) (by omega) (by omega)
  have c := h.cb ((q : Int) % 2) (by omega) (by omega)
  have n2 := h.n2
  have m2 := h.m2
  refine ⟨⟨r.1, e.1, by omega⟩, c, ⟨Int.mul_nonneg e.1 (by omega), ?_⟩, ⟨Int.mul_nonneg e.1 (by omega), ?_⟩⟩
  · exact Int.le_trans (Int.mul_le_mul (by omega : _ ≤ (1000 : Int)) (by omega : _ ≤ (1000 : Int)) (by omega) (by omega)) (by decide)
  · exact Int.le_trans (Int.mul_le_mul (by omega : _ ≤ (1000 : Int)) (by omega : _ ≤ (1000 : Int)) (by omega) (by omega)) (by decide)

end Go.Proofs.Ytefbiejoikpkmaa

namespace Go.Proofs.Ytefbiejoikpkmaa
open Go.RowKit
set_option linter.unusedSectionVars false
variable [Glb]
open Go
/-! the eight sums of a box; the first of the greatest -/
def difK (k x y : Nat) : Int := ((x * y + k / 4 % 2 * x + k / 2 % 2 * y + k % 2) % 2 : Nat)
theorem difK_bd (k x y : Nat) : 0 ≤ difK k x y ∧ difK k x y ≤ 1 := by unfold difK; omega
def sgnT (ll : List (List Int)) (k j : Nat) : Int := agrZ (atZ ll (j : Int)) * (1 - 2 * difK k (j / 2) (j % 2))
def sgnK (ll : List (List Int)) (k : Nat) : Int := accT (sgnT ll k) 4
def sumsL (ll : List (List Int)) : List Int := rowF (sgnK ll) 8
theorem agr_bd {n : Int} {ll : List (List Int)} (h : boxB 2 2 n ll = true) {j : Nat} (hj : j < 4) : -n ≤ agrZ (atZ ll (j : Int)) ∧ agrZ (atZ ll (j : Int)) ≤ n := by
  have hb := boxB_at h (q := (j : Int)) (by omega) (by omega)
  have b4 := box4 h (q := (j : Int)) (by omega) (by omega)
  have v0 := hb.2 0 (by omega) (by omega)
  have v1 := hb.2 1 (by omega) (by omega)
  have v2 := hb.2 2 (by omega) (by omega)
  have v3 := hb.2 3 (by omega) (by omega)
  unfold agrZ; omega
theorem sign_bd {a d n : Int} (h1 : -n ≤ a) (h2 : a ≤ n) (hd : 0 ≤ d ∧ d ≤ 1) : (1 - 2 * d = 1 ∨ 1 - 2 * d = -1) ∧ -n ≤ a * (1 - 2 * d) ∧ a * (1 - 2 * d) ≤ n := by
  rcases (by omega : d = 0 ∨ d = 1) with rfl | rfl
  · exact ⟨.inl rfl, by omega, by omega⟩
  · exact ⟨.inr rfl, by omega, by omega⟩
theorem sgnT_bd {n : Int} {ll : List (List Int)} (h : boxB 2 2 n ll = true) (k : Nat) {j : Nat} (hj : j < 4) : -n ≤ sgnT ll k j ∧ sgnT ll k j ≤ n := by
  have a := agr_bd h hj
  exact (sign_bd a.1 a.2 (difK_bd k (j / 2) (j % 2))).2
theorem accT_bd {t : Nat → Int} {n : Int} (hn : 0 ≤ n) : ∀ {m : Nat}, (∀ j, j < m → -n ≤ t j ∧ t j ≤ n) → -(m * n) ≤ accT t m ∧ accT t m ≤ m * n
  | 0, _ => by simp [accT]
  | m + 1, h => by
    have := accT_bd hn (m := m) fun j hj => h j (by omega)
    have h2 := h m (by omega)
    simp only [accT]
    rw [show ((m + 1 : Nat) : Int) * n = m * n + n by rw [Int.natCast_add, Int.add_mul]; simp]
    omega
/-- the place of the first of the greatest numbers -/
def bstT (s : Nat → Int) : Nat → Nat
  | 0 => 0
  | 1 => 0
  | t + 2 => if s (bstT s (t + 1)) < s (t + 1) then t + 1 else bstT s (t + 1)
theorem bstT_lt (s : Nat → Int) : ∀ {t : Nat}, 0 < t → bstT s t < t
  | 1, _ => by simp [bstT]
  | t + 2, _ => by
    have := bstT_lt s (t := t + 1) (by omega)
    unfold bstT
    split <;> omega
theorem bstT_yes {s : Nat → Int} {t : Nat} (h : t = 0 ∨ s (bstT s t) < s t) : bstT s (t + 1) = t := by
  cases t with
  | zero => rfl
  | succ t =>
    rcases h with h | h
    · omega
    · show (if _ then _ else _) = _; rw [if_pos h]
theorem bstT_no {s : Nat → Int} {t : Nat} (h0 : t ≠ 0) (h : ¬ s (bstT s t) < s t) : bstT s (t + 1) = bstT s t := by
  cases t with
  | zero => exact absurd rfl h0
  | succ t => show (if _ then _ else _) = _; rw [if_neg h]
theorem bstT_max (s : Nat → Int) : ∀ {t k : Nat}, k < t → s k ≤ s (bstT s t)
  | 1, k, h => by
    have : k = 0 := by omega
    subst this; exact Int.le_refl _
  | t + 2, k, h => by
    by_cases hk : k = t + 1
    · subst hk
      by_cases hs : s (bstT s (t + 1)) < s (t + 1)
      · rw [bstT_yes (.inr hs)]; exact Int.le_refl _
      · rw [bstT_no (by omega) hs]; omega
    · have ih := bstT_max s (t := t + 1) (k := k) (by omega)
      by_cases hs : s (bstT s (t + 1)) < s (t + 1)
      · rw [bstT_yes (.inr hs)]; omega
      · rw [bstT_no (by omega) hs]; exact ih
/-- the box of a pair of ask lists -/
def askRow (k : Nat) : List Int := bitsM 4 k
def askLL (la lb : List (List Int)) (t : Nat) : List (List Int) := wiredL la lb sumF (ruleA (askRow (t / 16))) sumS sumF (ruleA (askRow (t % 16))) sumS
def askS (la lb : List (List Int)) (k : Nat) (t : Nat) : Int := sgnK (askLL la lb t) k
def bestP (la lb : List (List Int)) (k : Nat) : Nat := bstT (askS la lb k) 256
def bestB (xa ya na : Int) (la : List (List Int)) (xb yb nb : Int) (lb : List (List Int)) (k : Int) : Bool := wiresB xa ya na la xb yb nb lb && inB k 0 7
def firstA (s : Nat → Int) : Nat → List Int
  | 0 => []
  | t + 1 => askRow (bstT s (t + 1) / 16)
def secondA (s : Nat → Int) : Nat → List Int
  | 0 => []
  | t + 1 => askRow (bstT s (t + 1) % 16)
def mostA (s : Nat → Int) : Nat → Int
  | 0 => 0
  | t + 1 => s (bstT s (t + 1))
def foundA : Nat → Bool
  | 0 => false
  | _ + 1 => true
theorem sel_yes {s : Nat → Int} {t : Nat} (h : foundA t = false ∨ mostA s t < s t) : firstA s (t + 1) = askRow (t / 16) ∧ secondA s (t + 1) = askRow (t % 16) ∧ mostA s (t + 1) = s t := by
  have : bstT s (t + 1) = t := bstT_yes (by
    cases t with
    | zero => exact .inl rfl
    | succ t => rcases h with h | h
                · cases h
                · exact .inr h)
  exact ⟨by rw [firstA, this], by rw [secondA, this], by rw [mostA, this]⟩
theorem sel_no {s : Nat → Int} {t : Nat} (h : foundA t = true) (h2 : ¬ mostA s t < s t) : firstA s (t + 1) = firstA s t ∧ secondA s (t + 1) = secondA s t ∧ mostA s (t + 1) = mostA s t := by
  cases t with
  | zero => cases h
  | succ t =>
    have := bstT_no (s := s) (t := t + 1) (by omega) h2
    exact ⟨by rw [firstA, this, firstA], by rw [secondA, this, secondA], by rw [mostA, this, mostA]⟩
theorem askRow_len (k : Nat) : (askRow k).length = 4 := bitsM_len 4 k
theorem askRow_bits (k : Nat) : bitsB (askRow k) 4 = true := bitsM_bits 4 k
theorem ask_at {k : Nat} (h : k < 16) : atZ (playsF 4) (k : Int) = askRow k := playsF_at h
theorem firstA_len (s : Nat → Int) (t : Nat) : (firstA s t).length ≤ 4 := by
  cases t with
  | zero => simp [firstA]
  | succ t => rw [firstA, askRow_len]; exact Nat.le_refl _
theorem secondA_len (s : Nat → Int) (t : Nat) : (secondA s t).length ≤ 4 := by
  cases t with
  | zero => simp [secondA]
  | succ t => rw [secondA, askRow_len]; exact Nat.le_refl _
theorem sumsL_at (ll : List (List Int)) {k : Nat} (h : k < 8) : atZ (sumsL ll) (k : Int) = sgnK ll k := rowF_atZ _ h
theorem askRule (k : Nat) : ruleB sumF (ruleA (askRow k)) sumS = true := by
  have hl := askRow_len k
  have b0 := bitsB_at (askRow_bits k) (i := 0) (by omega) (by omega)
  have b1 := bitsB_at (askRow_bits k) (i := 1) (by omega) (by omega)
  have b2 := bitsB_at (askRow_bits k) (i := 2) (by omega) (by omega)
  have b3 := bitsB_at (askRow_bits k) (i := 3) (by omega) (by omega)
  unfold ruleB ruleA
  rw [show bitsB sumF 2 = true by decide, show tabB sumS 2 4 = true by decide]
  simp [tabB, bitsB, allB, inB]
  omega

end Go.Proofs.Ytefbiejoikpkmaa

namespace Go.Proofs.Ytefbiejoikpkmaa
open Go.RowKit
set_option linter.unusedSectionVars false
variable [Glb]
open Go
/-! drawn trios: what they are before they are spoilt -/
structure GridP (N : Int) (ll : List (List Int)) : Prop where
  len : ll.length = 8
  row : ∀ q : Int, 0 ≤ q → q < 8 → (atZ ll q).length = 8 ∧ ∀ k : Int, 0 ≤ k → k < 8 → 0 ≤ atZ (atZ ll q) k ∧ atZ (atZ ll q) k ≤ N
theorem trioB_grid {n : Int} {ll : List (List Int)} (h : trioB n ll = true) : GridP n ll := ⟨(trioB_spec h).2.2.1, fun q h0 h8 => trioB_at h h0 h8⟩
theorem GridP.mono {N M : Int} {ll : List (List Int)} (h : GridP N ll) (hNM : N ≤ M) : GridP M ll := ⟨h.len, fun q h0 h8 => ⟨(h.row q h0 h8).1, fun k k0 k8 => by have := (h.row q h0 h8).2 k k0 k8; omega⟩⟩
theorem grid_row {f : Nat → Nat → Int} {q : Int} (h0 : 0 ≤ q) (h8 : q < 8) : atZ (gridF f 8 8) q = rowF (f q.toNat) 8 := by
  obtain ⟨i, rfl⟩ := Int.eq_ofNat_of_zero_le h0
  rw [atZ_nat (by simp; omega)]; simp [gridF]
theorem grid_of {N : Int} {f : Nat → Nat → Int} (hf : ∀ q k, q < 8 → k < 8 → 0 ≤ f q k ∧ f q k ≤ N) : GridP N (gridF f 8 8) := by
  refine ⟨by simp, fun q h0 h8 => ?_⟩
  rw [grid_row h0 h8]
  refine ⟨by simp, fun k k0 k8 => ?_⟩
  obtain ⟨j, rfl⟩ := Int.eq_ofNat_of_zero_le k0
  rw [rowF_atZ _ (by omega)]
  exact hf _ _ (by omega) (by omega)
theorem grid_mix {M N : Int} {a b : List (List Int)} (ha : GridP M a) (hb : GridP N b) : GridP (M + N) (gridF (mixF a b) 8 8) := by
  refine grid_of fun q k hq hk => ?_
  have h1 := (ha.row (q : Int) (by omega) (by omega)).2 (k : Int) (by omega) (by omega)
  have h2 := (hb.row (q : Int) (by omega) (by omega)).2 (k : Int) (by omega) (by omega)
  unfold mixF
  omega
theorem grid_zero {N : Int} (h : 0 ≤ N) : GridP N (gridF (fun _ _ => 0) 8 8) := grid_of fun _ _ _ _ => ⟨Int.le_refl _, h⟩
theorem playV_bd8 {l : List Int} (h : bitsB l 8 = true) {q : Int} (h0 : 0 ≤ q) (h8 : q < 8) : 0 ≤ playV l q ∧ playV l q < 8 := by
  have b1 := bitsB_at h (i := q / 4) (by omega) (by omega)
  have b2 := bitsB_at h (i := 2 + q / 2 % 2) (by omega) (by omega)
  have b3 := bitsB_at h (i := 4 + q % 2) (by omega) (by omega)
  rw [playV_eq l h0 h8]
  omega
theorem ans_trio {n : Int} {h : Nat → Int} (h1 : 1 ≤ n) (h2 : n ≤ 1000) (hb : ∀ q, q < 8 → 0 ≤ h q ∧ h q < 8) : trioB n (gridF (ansF n h) 8 8) = true := by
  rw [hot_ans (g := fun q => (h q).toNat) fun q hq => by have := hb q hq; omega]
  exact hot_trio h1 h2 fun q hq => by have := hb q hq; omega
/-- the k-th sum as a box -/
def sum6F (k q j : Nat) : Int := if j = 0 ∨ j = 3 then 1 - difK k (q / 2) (q % 2) else difK k (q / 2) (q % 2)
theorem bits_snoc {l : List Int} {n : Nat} {x : Int} (h : bitsB l n = true) (h0 : 0 ≤ x) (h1 : x ≤ 1) : bitsB (l ++ [x]) ((n + 1 : Nat) : Int) = true := by
  have hl := bitsB_len h
  unfold bitsB at h ⊢
  simp only [Bool.and_eq_true, decide_eq_true_eq, allB, List.all_append, List.all_cons, List.all_nil, Bool.and_true] at h ⊢
  refine ⟨by simp; omega, h.2, inB_iff.2 ⟨h0, h1⟩⟩

end Go.Proofs.Ytefbiejoikpkmaa

namespace Go.Proofs.Ytefbiejoikpkmaa
open Go.RowKit
set_option linter.unusedSectionVars false
variable [Glb]
open Go Go.RowKit
/-! structs of texts and numbers, compared -/
def eqA : Value → Value → Bool
  | .int _ a, .int _ b => a == b
  | .string a, .string b => a.toList == b.toList
  | _, _ => false
def eqL : List Value → List Value → Bool
  | u :: us, v :: vs => eqA u v && eqL us vs
  | _, _ => true
@[simp] theorem eqA_t (a b : Tx) : eqA (.string (bsT a)) (.string (bsT b)) = decide (a = b) := by
  show ((bsT a).toList == (bsT b).toList) = _
  rw [ByteArray.toList_eq, ByteArray.toList_eq]
  show ((bsT a).data.toList == (bsT b).data.toList) = _
  simp only [bsT]
  rw [Bool.eq_iff_iff, beq_iff_eq, decide_eq_true_iff]
@[simp] theorem eqA_i (k k' : IntKind) (a b : Int) : eqA (.int k a) (.int k' b) = decide (a = b) := rfl
@[simp] theorem eqL_cons (u v : Value) (us vs : List Value) : eqL (u :: us) (v :: vs) = (eqA u v && eqL us vs) := rfl
@[simp] theorem eqL_nil : eqL [] [] = true := rfl
def oneEq (P : Program) (T : TypeId) : Value → Value → Bool
  | .string _, .string _ => match P.underlying T with | some .string => true | _ => false
  | .int k _, .int k' _ => match P.underlying T with | some (.int _) => k == k' | _ => false
  | _, _ => false
def flatEq (P : Program) : Nat → List Field → List Value → List Value → Bool
  | _, [], [], [] => true
  | o, f :: fs, u :: us, v :: vs => f.name != "_" && (f.offset == o && (oneEq P f.type u v && flatEq P (o + 1) fs us vs))
  | _, _, _, _ => false
def structEq (P : Program) (T : TypeId) (us vs : List Value) : Bool := match P.underlying T with
  | some (.struct fs) => !(P.stoodInHeld T) && (!(P.eqGuardType P.depth T) && flatEq P 0 fs.toList us vs)
  | _ => false
section
variable {P : Program} {w : World}
theorem oneEq_run {T : TypeId} {u v : Value} {d : Nat} (h : oneEq P T u v = true) : (Op.equalIn (d + 1) T u v).run P w = .ok (eqA u v) w ∧ ∀ (xs : Array Value) (o : Nat) (x : Value), xs[o]? = some x → (part T xs o).run P w = .ok x w := by
  unfold oneEq at h
  split at h
  · split at h
    · rename_i hu
      exact ⟨run_equalIn_string w d T _ _ hu, fun xs o x hx => by simp [part, isAgg, run_underlying hu, hx]⟩
    · cases h
  · split at h
    · rename_i hu
      have e := eq_of_beq h
      subst e
      exact ⟨run_equalIn_int w d T _ _ _ _ hu, fun xs o x hx => by simp [part, isAgg, run_underlying hu, hx]⟩
    · cases h
  · cases h
theorem flatEq_run {d : Nat} : ∀ {fs : List Field} {us vs : List Value} {o : Nat} {xs ys : Array Value}, flatEq P o fs us vs = true → (∀ k x, us[k]? = some x → xs[o + k]? = some x) → (∀ k x, vs[k]? = some x → ys[o + k]? = some x) →
    (Op.eqFields (d + 1) xs ys fs).run P w = .ok (eqL us vs) w
  | [], [], [], _, _, _, _, _, _ => rfl
  | f :: fs, u :: us, v :: vs, o, xs, ys, h, h1, h2 => by
    simp only [flatEq, Bool.and_eq_true, bne_iff_ne, ne_eq, beq_iff_eq] at h
    obtain ⟨a, rfl, b, c⟩ := h
    obtain ⟨e1, e2⟩ := oneEq_run (w := w) (d := d) b
    have i := flatEq_run (d := d) (xs := xs) (ys := ys) c (fun k x hk => by have := h1 (k + 1) x (by simpa using hk); rwa [show f.offset + (k + 1) = f.offset + 1 + k by omega] at this) (fun k x hk => by have := h2 (k + 1) x (by simpa using hk); rwa [show f.offset + (k + 1) = f.offset + 1 + k by omega] at this)
    have x1 := e2 xs f.offset u (h1 0 u rfl)
    have x2 := e2 ys f.offset v (h2 0 v rfl)
    simp only [Op.eqFields, ne_eq, a, not_false_eq_true, if_true, Sem.run_bind, x1, x2, e1, Result.andThen_ok, Sem.run_ite, i]
    cases h3 : eqA u v <;> simp [h3]
  | [], [], _ :: _, _, _, _, h, _, _ => by simp [flatEq] at h
  | [], _ :: _, _, _, _, _, h, _, _ => by simp [flatEq] at h
  | _ :: _, [], _, _, _, _, h, _, _ => by simp [flatEq] at h
  | _ :: _, _ :: _, [], _, _, _, h, _, _ => by simp [flatEq] at h
theorem structEq_run {T : TypeId} {us vs : List Value} (h : structEq P T us vs = true) : (Op.equalIn 10000 T (.agg us.toArray) (.agg vs.toArray)).run P w = .ok (eqL us vs) w ∧ ∀ op x y, (eqGuard op T x y (.agg us.toArray) (.agg vs.toArray)).run P w = .ok () w := by
  unfold structEq at h
  split at h
  · rename_i fs hu
    simp only [Bool.and_eq_true, Bool.not_eq_true'] at h
    obtain ⟨a, b, c⟩ := h
    have hf : P.fieldsOf T = fs := by simp [Program.fieldsOf, hu]
    refine ⟨?_, fun op x y => run_eqGuard_agg w op T x y _ _ b⟩
    rw [run_equalIn_agg w 9999 T _ _ (by rw [hf]; exact hu) a, hf]
    exact flatEq_run (d := 9998) c (fun k x hk => by simpa using hk) (fun k x hk => by simpa using hk)
  · cases h
end
section
variable {P : Program} {st : St} {dst : Option Tmp} {ty : TypeId} {pos : String} {af : Array Edge} {T T' : TypeId} {x y : Operand}
theorem agg_inv {w : World} {ρ : Nat → Option Nat} {Φ : Nat → Prop} {v : Value} {us : List Value} (h : FR w ρ Φ v (.g (us.map fun u => .d (.lit u)))) : v = .agg us.toArray := by
  cases h with
  | g _ vs hl hr =>
    congr 2
    have hl' : vs.length = us.length := by simpa using hl
    refine List.ext_getElem hl' fun k h1 h2 => ?_
    have h3 := hr k (by simpa using h2)
    rw [List.getD_eq_getElem?_getD, List.getElem?_eq_getElem h1, Option.getD_some, List.getElem_map] at h3
    exact FR.lit_inv (.c _ _ h3)
theorem qt_eqlG {us vs : List Value} (hx : st.ev x = .g (us.map fun u => .d (.lit u))) (hy : st.ev y = .g (vs.map fun u => .d (.lit u))) (h : structEq P T us vs = true) :
    Qt P ⟨dst, .binOp .eql T x y T', ty, pos, af, none⟩ st (.c (.d (.lit (.bool (eqL us vs))))) := fun _ _ _ a _ hm => by
  have h1 := agg_inv (by rw [← hx]; exact hm.ev x)
  have h2 := agg_inv (by rw [← hy]; exact hm.ev y)
  refine ⟨_, fun w' _ => ?_, .litI rfl⟩
  obtain ⟨e1, e2⟩ := structEq_run (w := w') h
  simp only [execOp, h1, h2, Sem.run_bind, e2, Result.andThen_ok, run_eql_struct, e1, Sem.run_pure]
theorem qt_neqG {us vs : List Value} (hx : st.ev x = .g (us.map fun u => .d (.lit u))) (hy : st.ev y = .g (vs.map fun u => .d (.lit u))) (h : structEq P T us vs = true) :
    Qt P ⟨dst, .binOp .neq T x y T', ty, pos, af, none⟩ st (.c (.d (.lit (.bool (!(eqL us vs)))))) := fun _ _ _ a _ hm => by
  have h1 := agg_inv (by rw [← hx]; exact hm.ev x)
  have h2 := agg_inv (by rw [← hy]; exact hm.ev y)
  refine ⟨_, fun w' _ => ?_, .litI rfl⟩
  obtain ⟨e1, e2⟩ := structEq_run (w := w') h
  simp only [execOp, h1, h2, Sem.run_bind, e2, Result.andThen_ok, run_neq_struct, e1, Sem.run_pure]
theorem oneEq_self {T : TypeId} {u : Value} (h : oneEq P T u u = true) : eqA u u = true := by
  unfold oneEq at h
  cases u <;> simp_all [eqA]
theorem flatEq_self : ∀ {fs : List Field} {us : List Value} {o : Nat}, flatEq P o fs us us = true → eqL us us = true
  | _, [], _, _ => rfl
  | [], _ :: _, _, h => by simp [flatEq] at h
  | f :: fs, u :: us, o, h => by
    simp only [flatEq, Bool.and_eq_true] at h
    rw [eqL_cons, oneEq_self h.2.2.1, flatEq_self h.2.2.2]; rfl
theorem structEq_self {us : List Value} (h : structEq P T us us = true) : eqL us us = true := by
  unfold structEq at h
  split at h
  · simp only [Bool.and_eq_true] at h
    exact flatEq_self h.2.2
  · cases h
theorem qt_neqG2_same {a b : Value} (hx : st.ev x = .g [.d (.lit a), .d (.lit b)]) (hy : st.ev y = .g [.d (.lit a), .d (.lit b)]) (h : structEq P T [a, b] [a, b] = true) : Qt P ⟨dst, .binOp .neq T x y T', ty, pos, af, none⟩ st (.c (.d (.lit (.bool false)))) := by
  have := qt_neqG (dst := dst) (ty := ty) (pos := pos) (af := af) (T' := T') (us := [a, b]) (vs := [a, b]) hx hy h
  rwa [structEq_self h] at this
theorem qt_neqG3_same {a b c : Value} (hx : st.ev x = .g [.d (.lit a), .d (.lit b), .d (.lit c)]) (hy : st.ev y = .g [.d (.lit a), .d (.lit b), .d (.lit c)]) (h : structEq P T [a, b, c] [a, b, c] = true) : Qt P ⟨dst, .binOp .neq T x y T', ty, pos, af, none⟩ st (.c (.d (.lit (.bool false)))) := by
  have := qt_neqG (dst := dst) (ty := ty) (pos := pos) (af := af) (T' := T') (us := [a, b, c]) (vs := [a, b, c]) hx hy h
  rwa [structEq_self h] at this
theorem qt_eqlG2 {a b c d : Value} (hx : st.ev x = .g [.d (.lit a), .d (.lit b)]) (hy : st.ev y = .g [.d (.lit c), .d (.lit d)]) (h : structEq P T [a, b] [c, d] = true) : Qt P ⟨dst, .binOp .eql T x y T', ty, pos, af, none⟩ st (.c (.d (.lit (.bool (eqL [a, b] [c, d]))))) := qt_eqlG hx hy h
theorem qt_neqG2 {a b c d : Value} (hx : st.ev x = .g [.d (.lit a), .d (.lit b)]) (hy : st.ev y = .g [.d (.lit c), .d (.lit d)]) (h : structEq P T [a, b] [c, d] = true) : Qt P ⟨dst, .binOp .neq T x y T', ty, pos, af, none⟩ st (.c (.d (.lit (.bool (!(eqL [a, b] [c, d])))))) := qt_neqG hx hy h
theorem qt_eqlG3 {a b e c d f : Value} (hx : st.ev x = .g [.d (.lit a), .d (.lit b), .d (.lit e)]) (hy : st.ev y = .g [.d (.lit c), .d (.lit d), .d (.lit f)]) (h : structEq P T [a, b, e] [c, d, f] = true) : Qt P ⟨dst, .binOp .eql T x y T', ty, pos, af, none⟩ st (.c (.d (.lit (.bool (eqL [a, b, e] [c, d, f]))))) := qt_eqlG hx hy h
theorem qt_neqG3 {a b e c d f : Value} (hx : st.ev x = .g [.d (.lit a), .d (.lit b), .d (.lit e)]) (hy : st.ev y = .g [.d (.lit c), .d (.lit d), .d (.lit f)]) (h : structEq P T [a, b, e] [c, d, f] = true) : Qt P ⟨dst, .binOp .neq T x y T', ty, pos, af, none⟩ st (.c (.d (.lit (.bool (!(eqL [a, b, e] [c, d, f])))))) := qt_neqG hx hy h
end

end Go.Proofs.Ytefbiejoikpkmaa

namespace Go.Proofs.Ytefbiejoikpkmaa
open Go.RowKit
set_option linter.unusedSectionVars false
variable [Glb]
set_option maxRecDepth 10000
set_option maxHeartbeats 4000000
theorem rBig_p (code : Tx) : PC Try.prog 8 [.c (eB code)] (.p (.c (dB (decide ((code.length : Int) > 65536))))) := by
  refine pc_intro Try.func8 rfl rfl rfl (by kernel_rfl) rfl rfl ?_; intro _
  repeat' (first | (refine so_is (.assign _) ?_; (refine so_q (qt_asC rfl) rfl ?_)) | (refine so_is (.move _) ?_; (refine so_q (qt_mvC rfl) rfl ?_)) | (refine so_is (.call ⟨.builtin .len, _, #[22]⟩) ?_; (refine so_q (qt_len_d rfl (by kernel_rfl)) rfl ?_)) | (refine so_is (.binOp .gtr 3 _ _ _) ?_; refine so_q (qt_gtr rfl rfl) rfl ?_) | refine so_nil ?_ | refine sk_seq ?_ | refine sk_region ?_)
  all_goals (apply sk_ret; apply ret_eq; (· apply RetOK.p; (· (apply GvA.cons; (· exact .tmp _); (· exact GvP.c (.lit _))); exact GvA.nil); (· (decide))))
  all_goals rfl

end Go.Proofs.Ytefbiejoikpkmaa

namespace Go.Proofs.Ytefbiejoikpkmaa
open Go.RowKit
set_option linter.unusedSectionVars false
variable [Glb]
set_option maxRecDepth 10000
set_option maxHeartbeats 4000000
theorem rInts_p (a b : List Int) : PC Try.prog 21 [.c (eI a), .c (eI b)] (.p (.c (dB (decide (a = b))))) := by
  refine pc_intro Try.func21 rfl rfl rfl (by kernel_rfl) rfl rfl ?_; rintro ⟨hl, hm, -⟩
  have hl := hl.len
  have hm := hm.len
  repeat' (first | (refine so_is (.assign _) ?_; (refine so_q (qt_asC rfl) rfl ?_)) | (refine so_is (.move _) ?_; (refine so_q (qt_mvC rfl) rfl ?_)) | (refine so_is (.call ⟨.builtin .len, _, #[24]⟩) ?_; (refine so_q (qt_len_d rfl (by kernel_rfl)) rfl ?_)) | (refine so_is (.binOp .neq 3 _ _ _) ?_; refine so_q (qt_neq rfl rfl) rfl ?_) | refine so_nil ?_ | refine sk_seq ?_ | refine sk_block ?_ | refine sk_skip ?_ | refine sk_region ?_ | refine sk_if rfl (fun hc => ?_) (fun hc => ?_))
  · (apply sk_ret; apply ret_eq; (· apply RetOK.p; (· (apply GvA.cons; (· exact .tmp _); (· exact GvP.c (.lit _))); exact GvA.nil); (· (decide))))
    have : a ≠ b := fun e => by subst e; simp at *
    simp [this]
  have hab : a.length = b.length := by simp at *; omega
  apply sk_packC [0, 1, 5] [] rfl; (· (repeat (first | exact Pf.nil | apply Pf.cons (.c rfl (.d rfl))))); (· (repeat (exact Pb.nil)))
  refine sk_loopL [0, 1] [] (fun k => [(5, iN k)]) (fun _ => []) (fun k => k ≤ a.length ∧ a.take k = b.take k) (fun k => a.length - k) (0) ?_ (by (repeat (first | exact trivial | refine ⟨(by (rfl)), ?_⟩))) (by (repeat (exact trivial))) ?_
  · simp
  rintro k ⟨hk, hs⟩
  repeat' (first | (refine so_is (.assign _) ?_; (refine so_q (qt_asC rfl) rfl ?_)) | (refine so_is (.move _) ?_; (refine so_q (qt_mvC rfl) rfl ?_)) | (refine so_is (.call ⟨.builtin .len, _, #[24]⟩) ?_; (refine so_q (qt_len_d rfl (by kernel_rfl)) rfl ?_)) | (refine so_is (.binOp .neq 3 _ _ _) ?_; refine so_q (qt_neq rfl rfl) rfl ?_) | (refine so_is (.binOp .lss 3 _ _ _) ?_; refine so_q (qt_lss rfl rfl) rfl ?_) | (refine so_is (.indexAddr 24 _ _) ?_; (refine so_q (qt_idxI rfl rfl (by kernel_rfl) (by (omega)) (by (omega))) rfl ?_)) | (refine so_is (.load 3 _) ?_; (refine so_q (qt_load_pt rfl (by kernel_rfl) rfl) rfl ?_)) | (refine so_is (.binOp .add 3 _ _ _) ?_; refine so_q (qt_addI rfl rfl (by (omega))) rfl ?_) | refine so_nil ?_ | refine sk_seq ?_ | refine sk_block ?_ | refine sk_blk ?_ | refine sk_exit rfl ?_ | refine sk_skip ?_ | refine sk_region ?_ | refine sk_drawQ 6 (fun _ => false) (.step 0 true (.step 1 true (.step 2 true (.step 3 true (.step 4 true (.step 5 true (.step 6 true (.step 7 true (.step 8 true .nil))))))))) [(0, 511, 511, true), (0, 511, 511, true), (3, 508, 511, true), (4, 507, 511, false), (0, 511, 511, true), (0, 511, 511, true), (48, 463, 511, true), (64, 447, 511, false), (136, 375, 511, true)] (by kernel_rfl) (by kernel_rfl) ?_ | refine sk_if rfl (fun hc => ?_) (fun hc => ?_))
  · rename_i hk'
    rw [atZ_nat (by omega), atZ_nat (by omega)] at hc
    (apply sk_ret; apply ret_eq; (· apply RetOK.p; (· (apply GvA.cons; (· exact .tmp _); (· exact GvP.c (.lit _))); exact GvA.nil); (· (decide))))
    have : a ≠ b := fun e => by subst e; exact hc rfl
    simp [this]
  · rename_i hk'
    rw [atZ_nat (by omega), atZ_nat (by omega)] at hc
    refine sk_back ?_; refine ⟨k + 1, ?_, ?_, le_at rfl (by (repeat (first | exact trivial | refine ⟨(by (rfl)), ?_⟩))) (by (repeat (first | exact trivial | refine ⟨rfl, ?_⟩))) (by (repeat (exact trivial))) (by (repeat (exact trivial)))⟩
    · exact ⟨by omega, by rw [List.take_succ_eq_append_getElem (by omega), List.take_succ_eq_append_getElem (by omega), hs]; simp at hc; rw [hc]⟩
    · omega
  · have e : k = a.length := by omega
    subst e
    rw [List.take_length, hab, List.take_length] at hs
    (apply sk_ret; apply ret_eq; (· apply RetOK.p; (· (apply GvA.cons; (· exact .tmp _); (· exact GvP.c (.lit _))); exact GvA.nil); (· (decide))))
    simp [hs]
theorem rInts_same (a : List Int) : PC Try.prog 21 [.c (eI a), .c (eI a)] (.p (.c (dB true))) := by
  have := rInts_p a a; rwa [decide_eq_true rfl] at this

end Go.Proofs.Ytefbiejoikpkmaa

namespace Go.Proofs.Ytefbiejoikpkmaa
open Go.RowKit
set_option linter.unusedSectionVars false
variable [Glb]
set_option maxRecDepth 10000
set_option maxHeartbeats 4000000
theorem rTable_p (a b : List (List Int)) : PC Try.prog 103 [.c (eII a), .c (eII b)] (.p (.c (dB (decide (a = b))))) := by
  refine pc_intro Try.func103 rfl rfl rfl (by kernel_rfl) rfl rfl ?_; rintro ⟨hl, hm, -⟩
  have hl := hl.len
  have hm := hm.len
  repeat' (first | (refine so_is (.assign _) ?_; (refine so_q (qt_asC rfl) rfl ?_)) | (refine so_is (.move _) ?_; (refine so_q (qt_mvC rfl) rfl ?_)) | (refine so_is (.call ⟨.builtin .len, _, #[25]⟩) ?_; (refine so_q (qt_len_d rfl (by kernel_rfl)) rfl ?_)) | (refine so_is (.binOp .neq 3 _ _ _) ?_; refine so_q (qt_neq rfl rfl) rfl ?_) | refine so_nil ?_ | refine sk_seq ?_ | refine sk_block ?_ | refine sk_skip ?_ | refine sk_region ?_ | refine sk_if rfl (fun hc => ?_) (fun hc => ?_))
  · (apply sk_ret; apply ret_eq; (· apply RetOK.p; (· (apply GvA.cons; (· exact .tmp _); (· exact GvP.c (.lit _))); exact GvA.nil); (· (decide))))
    have : a ≠ b := fun e => by subst e; simp at *
    simp [this]
  have hab : a.length = b.length := by simp at *; omega
  apply sk_packC [0, 1, 5] [] rfl; (· (repeat (first | exact Pf.nil | apply Pf.cons (.c rfl (.d rfl))))); (· (repeat (exact Pb.nil)))
  refine sk_loopL [0, 1] [] (fun k => [(5, iN k)]) (fun _ => []) (fun k => k ≤ a.length ∧ a.take k = b.take k) (fun k => a.length - k) (0) ?_ (by (repeat (first | exact trivial | refine ⟨(by (rfl)), ?_⟩))) (by (repeat (exact trivial))) ?_
  · simp
  rintro k ⟨hk, hs⟩
  repeat' (first | (refine so_is (.assign _) ?_; (refine so_q (qt_asC rfl) rfl ?_)) | (refine so_is (.move _) ?_; (refine so_q (qt_mvC rfl) rfl ?_)) | (refine so_is (.call ⟨.builtin .len, _, #[25]⟩) ?_; (refine so_q (qt_len_d rfl (by kernel_rfl)) rfl ?_)) | (refine so_is (.binOp .lss 3 _ _ _) ?_; refine so_q (qt_lss rfl rfl) rfl ?_) | (refine so_is (.indexAddr 25 _ _) ?_; (refine so_q (qt_idxII rfl rfl (by kernel_rfl) (by (omega)) (by (omega))) rfl ?_)) | (refine so_is (.load 24 _) ?_; (refine so_q (qt_load_pt rfl (by kernel_rfl) rfl) rfl ?_)) | (refine so_is (.unOp .not 4 _) ?_; refine so_q (qt_not rfl) rfl ?_) | (refine so_is (.binOp .add 3 _ _ _) ?_; refine so_q (qt_addI rfl rfl (by (omega))) rfl ?_) | (refine so_is (.call ⟨.value (.func 21), _, _⟩) ?_; (apply so_call0 (fid := 21); (· (repeat (first | exact SeA.nil | apply SeA.cons (.c (.d _))))); (· exact rInts_p _ _); (· rfl))) | refine so_nil ?_ | refine sk_seq ?_ | refine sk_block ?_ | refine sk_blk ?_ | refine sk_exit rfl ?_ | refine sk_skip ?_ | refine sk_region ?_ | refine sk_drawQ 6 (fun _ => false) (.step 0 true (.step 1 true (.step 2 true (.step 3 true (.step 4 true (.step 5 true (.step 6 true (.step 7 true (.step 8 false (.step 9 true .nil)))))))))) [(0, 1023, 1023, true), (0, 1023, 1023, true), (3, 1020, 1023, true), (4, 1019, 1023, false), (0, 1023, 1023, true), (0, 1023, 1023, true), (48, 975, 1023, true), (64, 959, 1023, false), (136, 887, 1023, false), (256, 767, 1023, true)] (by kernel_rfl) (by kernel_rfl) ?_ | refine sk_if rfl (fun hc => ?_) (fun hc => ?_) | refine sk_nif rfl (fun hc => ?_) (fun hc => ?_))
  · rename_i hk'
    rw [atZ_nat (by omega), atZ_nat (by omega)] at hc
    (apply sk_ret; apply ret_eq; (· apply RetOK.p; (· (apply GvA.cons; (· exact .tmp _); (· exact GvP.c (.lit _))); exact GvA.nil); (· (decide))))
    have : a ≠ b := fun e => by subst e; simp at hc
    simp [this]
  · rename_i hk'
    rw [atZ_nat (by omega), atZ_nat (by omega)] at hc
    refine sk_back ?_; refine ⟨k + 1, ?_, ?_, le_at rfl (by (repeat (first | exact trivial | refine ⟨(by (rfl)), ?_⟩))) (by (repeat (first | exact trivial | refine ⟨rfl, ?_⟩))) (by (repeat (exact trivial))) (by (repeat (exact trivial)))⟩
    · exact ⟨by omega, by rw [List.take_succ_eq_append_getElem (by omega), List.take_succ_eq_append_getElem (by omega), hs, hc]⟩
    · omega
  · have e : k = a.length := by omega
    subst e
    rw [List.take_length, hab, List.take_length] at hs
    (apply sk_ret; apply ret_eq; (· apply RetOK.p; (· (apply GvA.cons; (· exact .tmp _); (· exact GvP.c (.lit _))); exact GvA.nil); (· (decide))))
    simp [hs]
theorem rTable_same (a : List (List Int)) : PC Try.prog 103 [.c (eII a), .c (eII a)] (.p (.c (dB true))) := by
  have := rTable_p a a; rwa [decide_eq_true rfl] at this

end Go.Proofs.Ytefbiejoikpkmaa

namespace Go.Proofs.Ytefbiejoikpkmaa
open Go.RowKit
set_option linter.unusedSectionVars false
variable [Glb]
set_option maxRecDepth 10000
set_option maxHeartbeats 4000000
theorem rTrio_same (wh : Int) (ll : List (List Int)) : PC Try.prog 54 [.g [dI wh, eII ll], .g [dI wh, eII ll]] (.p (.c (dB true))) := by
  refine pc_intro Try.func54 rfl rfl rfl (by kernel_rfl) rfl rfl ?_; intro _
  repeat' (first | (refine so_is (.box 60 _) ?_; refine so_box rfl rfl ?_) | (refine so_is (.assign _) ?_; (refine so_q (qt_asC rfl) rfl ?_)) | (refine so_is (.fieldAddr 60 _ 0) ?_; (refine so_q (qt_fld_lp (off := 0) rfl (by kernel_rfl)) rfl ?_)) | (refine so_is (.load 3 _) ?_; (refine so_q (qt_load_box rfl rfl (by kernel_rfl) rfl) rfl ?_)) | (refine so_is (.binOp .eql 3 _ _ _) ?_; refine so_q (qt_eql rfl rfl) rfl ?_) | (refine so_is (.move _) ?_; (refine so_q (qt_mvC rfl) rfl ?_)) | (refine so_is (.fieldAddr 60 _ 1) ?_; (refine so_q (qt_fld_lp (off := 1) rfl (by kernel_rfl)) rfl ?_)) | (refine so_is (.load 25 _) ?_; (refine so_q (qt_load_box rfl rfl (by kernel_rfl) rfl) rfl ?_)) | (refine so_is (.pick _ _ _) ?_; (refine so_q (qt_pkC rfl rfl) rfl ?_)) | (refine so_is (.call ⟨.value (.func 103), _, _⟩) ?_; (apply so_call0 (fid := 103); (· (repeat (first | exact SeA.nil | apply SeA.cons (.c (.d _))))); (· exact rTable_same _); (· rfl))) | refine so_nil ?_ | refine so_g_no rfl rfl rfl rfl ?_ | refine so_g_yes rfl rfl rfl rfl ?_ | refine so_g_if rfl rfl (fun hg => ?_) (fun hg => ?_) | refine sk_seq ?_ | refine sk_region ?_)
  all_goals first | (exfalso; simp_all; done) | skip
  all_goals (apply sk_ret; apply ret_eq; (· apply RetOK.p; (· (apply GvA.cons; (· exact .tmp _); (· exact GvP.c (.lit _))); exact GvA.nil); (· (decide))))
  all_goals simp

end Go.Proofs.Ytefbiejoikpkmaa

namespace Go.Proofs.Ytefbiejoikpkmaa
open Go.RowKit
set_option linter.unusedSectionVars false
variable [Glb]
set_option maxRecDepth 10000
set_option maxHeartbeats 4000000
abbrev dW (n : Int) : D := .lit (.int .u64 n)
abbrev CurB (code : Tx) (a s : Int) : List BC := [.k (eB code), .o (dI a), .o (dW s)]
def CurR (a N : Int) (Q : Res → Prop) (ds : List D) (res : Res) : Prop := ∃ a' s', (a ≤ a' ∧ a' ≤ a + N) ∧ ds = [dI a', dW s'] ∧ Q res
theorem emod_bd {x n : Int} (hx : 0 ≤ x) (hn : 1 < n) : 0 ≤ x % n ∧ x % n < n ∧ x % n ≤ x := by
  refine ⟨Int.emod_nonneg _ (by omega), Int.emod_lt_of_pos _ (by omega), ?_⟩
  have h1 := Int.emod_add_mul_ediv x n
  have h2 : 0 ≤ n * (x / n) := Int.mul_nonneg (by omega) (Int.ediv_nonneg hx (by omega))
  omega
theorem pick_bd {x n : Int} (h0 : 0 ≤ x) (h1 : x ≤ 65535) (hn : 1 < n) : 0 ≤ x % n ∧ x % n ≤ 65535 ∧ (n ≤ 1 → x % n = 0) ∧ (1 < n → x % n < n) := by
  have := emod_bd h0 hn
  omega
theorem curNext_p (code : Tx) (a s : Int) (h0 : 0 ≤ a) (h1 : a ≤ 4611686018427387904) : PX Try.prog 223 (CurB code a s) [] (CurR a 1 fun res => ∃ x : Int, (0 ≤ x ∧ x ≤ 255) ∧ res = .p (.c (dI x))) := by
  have hb := byt_lt code a
  refine px_intro Try.func223 rfl rfl rfl (by kernel_rfl) rfl rfl rfl ?_; intro kv
  repeat' (first | (refine so_is (.assign _) ?_; (refine so_q (qt_asC rfl) rfl ?_)) | (refine so_is (.move _) ?_; (refine so_q (qt_mvC rfl) rfl ?_)) | (refine so_is (.nilCheck _) ?_; (refine so_q (qt_nilCheck_lp rfl) rfl ?_)) | (refine so_is (.fieldAddr 104 _ 1) ?_; (refine so_q (qt_fld_lp (off := 1) rfl (by kernel_rfl)) rfl ?_)) | (refine so_is (.load 3 _) ?_; (refine so_q (qt_load_box rfl rfl (by kernel_rfl) rfl) rfl ?_)) | (refine so_is (.fieldAddr 104 _ 0) ?_; (refine so_q (qt_fld_lp (off := 0) rfl (by kernel_rfl)) rfl ?_)) | (refine so_is (.load 22 _) ?_; (refine so_q (qt_load_same rfl rfl (by kernel_rfl) rfl) rfl ?_)) | (refine so_is (.call ⟨.builtin .len, _, #[22]⟩) ?_; (refine so_q (qt_len_d rfl (by kernel_rfl)) rfl ?_)) | (refine so_is (.binOp .lss 3 _ _ _) ?_; refine so_q (qt_lss rfl rfl) rfl ?_) | (refine so_is (.indexAddr 22 _ _) ?_; (refine so_q (qt_idxY rfl rfl (by kernel_rfl) (by (omega)) (by (omega))) rfl ?_)) | (refine so_is (.load 5 _) ?_; (refine so_q (qt_load_pt rfl (by kernel_rfl) rfl) rfl ?_)) | (refine so_is (.convert 5 3 _) ?_; (refine so_q (qt_convI (k' := .i64) rfl (by kernel_rfl) (by kernel_rfl) (by (exact IntWalk.i64_in _ (by (omega))))) rfl ?_)) | (refine so_is (.binOp .add 3 _ _ _) ?_; refine so_q (qt_addI rfl rfl (by (omega))) rfl ?_) | (refine so_is (.store 3 _ _) ?_; (refine so_store_box1 rfl rfl rfl rfl (by kernel_rfl) rfl rfl ?_)) | (refine so_is (.fieldAddr 104 _ 2) ?_; (refine so_q (qt_fld_lp (off := 2) rfl (by kernel_rfl)) rfl ?_)) | (refine so_is (.load 102 _) ?_; (refine so_q (qt_load_box rfl rfl (by kernel_rfl) rfl) rfl ?_)) | (refine so_is (.binOp .mul 102 _ _ _) ?_; refine so_q (qt_mul rfl rfl) rfl ?_) | (refine so_is (.convert 3 102 _) ?_; (refine so_q (qt_convI (k' := .u64) rfl (by kernel_rfl) (by kernel_rfl) (by (first | rfl | exact wrapU64 (by (omega))))) rfl ?_)) | (refine so_is (.binOp .add 102 _ _ _) ?_; refine so_q (qt_add rfl rfl) rfl ?_) | (refine so_is (.store 102 _ _) ?_; (refine so_store_box1 rfl rfl rfl rfl (by kernel_rfl) rfl rfl ?_)) | (refine so_is (.binOp .leq 3 _ _ _) ?_; refine so_q (qt_leq rfl rfl) rfl ?_) | (refine so_is (.binOp .shr 102 _ _ _) ?_; refine so_q (qt_shrC (c := 1099511627776) rfl rfl (by decide)) rfl ?_) | (refine so_is (.binOp .and 102 _ _ _) ?_; refine so_q (qt_andMU 8 (c := 256) rfl rfl (by decide)) rfl ?_) | (refine so_is (.convert 102 3 _) ?_; (refine so_q (qt_convI (k' := .i64) rfl (by kernel_rfl) (by kernel_rfl) (by (exact IntWalk.i64_in _ (by (omega))))) rfl ?_)) | refine so_nil ?_ | refine sk_seq ?_ | refine sk_skip ?_ | refine sk_region ?_ | refine sk_drawQ 2 (fun _ => false) (.step 0 true (.step 1 true (.step 2 true (.step 3 true (.step 4 true (.step 5 true (.step 6 true (.step 7 true (.step 8 true (.step 9 true .nil)))))))))) [(0, 1023, 1023, true), (1, 1022, 1023, true), (2, 1021, 1023, true), (4, 1019, 1023, false), (0, 1023, 1023, true), (16, 1007, 1023, true), (32, 991, 1023, true), (64, 959, 1023, false), (128, 895, 1023, true), (264, 759, 1023, true)] (by kernel_rfl) (by kernel_rfl) ?_ | refine sk_drawQ 3 (fun _ => false) (.step 0 true (.step 1 true (.step 2 true (.step 3 true (.step 4 true (.step 5 true (.step 6 true (.step 7 true (.step 8 true (.step 9 true (.step 10 true (.step 11 true .nil)))))))))))) [(0, 4095, 4095, true), (1, 4094, 4095, true), (2, 4093, 4095, true), (4, 4091, 4095, false), (0, 4095, 4095, true), (16, 4079, 4095, true), (32, 4063, 4095, true), (64, 4031, 4095, false), (136, 3959, 4095, true), (256, 3839, 4095, false), (512, 3583, 4095, true), (2047, 3071, 4095, true)] (by kernel_rfl) (by kernel_rfl) ?_ | refine sk_drawQ 6 (fun _ => false) (.step 0 true (.step 1 true (.step 2 true (.step 3 true (.step 4 true (.step 5 true (.step 6 true (.step 7 true (.step 8 true (.step 9 true .nil)))))))))) [(0, 1023, 1023, true), (1, 1022, 1023, true), (2, 1021, 1023, true), (4, 1019, 1023, false), (0, 1023, 1023, true), (16, 1007, 1023, true), (32, 991, 1023, true), (64, 959, 1023, false), (128, 895, 1023, true), (264, 759, 1023, true)] (by kernel_rfl) (by kernel_rfl) ?_ | refine sk_if rfl (fun hc => ?_) (fun hc => ?_))
  all_goals (apply sk_xret; (· (apply RetX.p; (· rfl); (· (repeat (first | exact BxO.nil _ | apply BxO.k | (apply BxO.o; (· (exact .lit _)))))); (· (apply GvA.cons; (· exact .tmp _); (· exact GvP.c (.lit _))); exact GvA.nil); (· (decide)))))
  all_goals exact ⟨_, _, by omega, rfl, _, by omega, rfl⟩
theorem curPick_p (code : Tx) (a s n : Int) (h0 : 0 ≤ a) (h1 : a ≤ 4611686018427387000) : PX Try.prog 180 (CurB code a s) [.v (.c (dI n))] (CurR a 2 fun res => ∃ x : Int, (0 ≤ x ∧ x ≤ 65535 ∧ (n ≤ 1 → x = 0) ∧ (1 < n → x < n)) ∧ res = .p (.c (dI x))) := by
  refine px_intro Try.func180 rfl rfl rfl (by kernel_rfl) rfl rfl rfl ?_; intro kv
  repeat' (first | (refine so_is (.assign _) ?_; (refine so_q (qt_asC rfl) rfl ?_)) | (refine so_is (.move _) ?_; (refine so_q (qt_mvC rfl) rfl ?_)) | (refine so_is (.binOp .leq 3 _ _ _) ?_; refine so_q (qt_leq rfl rfl) rfl ?_) | (refine so_is (.binOp .gtr 3 _ _ _) ?_; refine so_q (qt_gtr rfl rfl) rfl ?_) | (refine so_is (.binOp .mul 3 _ _ _) ?_; refine so_q (qt_mulI rfl rfl (by (omega))) rfl ?_) | (refine so_is (.binOp .add 3 _ _ _) ?_; refine so_q (qt_addI rfl rfl (by (omega))) rfl ?_) | (refine so_is (.binOp .rem 3 _ _ _) ?_; (refine so_q (qt_remN rfl rfl (by (omega)) (by (omega)) (by (omega))) rfl ?_)) | (refine so_is (.call ⟨.value (.func 223), _, _⟩) ?_; (apply so_callX (fid := 223); (· rfl); (· rfl); (· (repeat (first | exact BxI.nil | apply BxI.ks | (apply BxI.o; (· (exact .lit _)))))); (· (repeat (exact ArX.nil))); (· (decide)); (· (decide)); (· exact curNext_p code _ _ (by omega) (by omega)); (· rfl); (· (intro b hb1 hb2; omega)); (· rfl); (rintro _ _ ⟨a1, s1, ha1, rfl, x1, hx1, rfl⟩; refine ⟨(by first | rfl | simp [*]), ?_⟩))) | refine so_nil ?_ | refine sk_seq ?_ | refine sk_skip ?_ | refine sk_region ?_ | refine sk_if rfl (fun hc => ?_) (fun hc => ?_))
  all_goals (apply sk_xret; (· (apply RetX.p; (· rfl); (· (repeat (first | exact BxO.nil _ | apply BxO.k | (apply BxO.o; (· (exact .lit _)))))); (· (apply GvA.cons; (· exact .tmp _); (· exact GvP.c (.lit _))); exact GvA.nil); (· (decide)))))
  · exact ⟨_, _, by omega, rfl, _, by omega, rfl⟩
  · exact ⟨_, _, by omega, rfl, _, pick_bd (by omega) (by omega) (by omega), rfl⟩
  · exact ⟨_, _, by omega, rfl, _, pick_bd (by omega) (by omega) (by omega), rfl⟩
theorem curOne_p (code : Tx) (a s n : Int) (h0 : 0 ≤ a) (h1 : a ≤ 4611686018427387000) : PX Try.prog 88 (CurB code a s) [.v (.c (dI n))] (CurR a 2 fun res => ∃ b : Bool, res = .p (.c (dB b))) := by
  refine px_intro Try.func88 rfl rfl rfl (by kernel_rfl) rfl rfl rfl ?_; intro kv
  repeat' (first | (refine so_is (.assign _) ?_; (refine so_q (qt_asC rfl) rfl ?_)) | (refine so_is (.move _) ?_; (refine so_q (qt_mvC rfl) rfl ?_)) | (refine so_is (.binOp .eql 3 _ _ _) ?_; refine so_q (qt_eql rfl rfl) rfl ?_) | (refine so_is (.call ⟨.value (.func 180), _, _⟩) ?_; (apply so_callX (fid := 180); (· rfl); (· rfl); (· (repeat (first | exact BxI.nil | apply BxI.ks | (apply BxI.o; (· (exact .lit _)))))); (· (repeat (first | exact ArX.nil | apply ArX.v (.c (.d _))))); (· (decide)); (· (decide)); (· exact curPick_p code _ _ _ (by omega) (by omega)); (· rfl); (· (intro b hb1 hb2; omega)); (· rfl); (rintro _ _ ⟨a1, s1, ha1, rfl, x1, hx1, rfl⟩; refine ⟨(by first | rfl | simp [*]), ?_⟩))) | refine so_nil ?_ | refine sk_seq ?_ | refine sk_region ?_)
  all_goals (apply sk_xret; (· (apply RetX.p; (· rfl); (· (repeat (first | exact BxO.nil _ | apply BxO.k | (apply BxO.o; (· (exact .lit _)))))); (· (apply GvA.cons; (· exact .tmp _); (· exact GvP.c (.lit _))); exact GvA.nil); (· (decide)))))
  all_goals exact ⟨_, _, by omega, rfl, _, rfl⟩
theorem mem_at {α : Type} [Inhabited α] {l : List α} {x : Int} (h0 : 0 ≤ x) (h1 : x < l.length) : atZ l x ∈ l := List.mem_of_getElem? (atZ_some h0 h1)
theorem curAmong_p (code : Tx) (a s : Int) (l : List Int) (hl : 0 < l.length) (h0 : 0 ≤ a) (h1 : a ≤ 4611686018427387000) : PX Try.prog 139 (CurB code a s) [.v (.c (eI l))] (CurR a 2 fun res => ∃ t : Int, t ∈ l ∧ res = .p (.c (dI t))) := by
  refine px_intro Try.func139 rfl rfl rfl (by kernel_rfl) rfl rfl rfl ?_; intro kv
  repeat' (first | (refine so_is (.assign _) ?_; (refine so_q (qt_asC rfl) rfl ?_)) | (refine so_is (.move _) ?_; (refine so_q (qt_mvC rfl) rfl ?_)) | (refine so_is (.call ⟨.builtin .len, _, #[24]⟩) ?_; (refine so_q (qt_len_d rfl (by kernel_rfl)) rfl ?_)) | (refine so_is (.indexAddr 24 _ _) ?_; (refine so_q (qt_idxI rfl rfl (by kernel_rfl) (by (omega)) (by (omega))) rfl ?_)) | (refine so_is (.load 3 _) ?_; (refine so_q (qt_load_pt rfl (by kernel_rfl) rfl) rfl ?_)) | (refine so_is (.call ⟨.value (.func 180), _, _⟩) ?_; (apply so_callX (fid := 180); (· rfl); (· rfl); (· (repeat (first | exact BxI.nil | apply BxI.ks | (apply BxI.o; (· (exact .lit _)))))); (· (repeat (first | exact ArX.nil | apply ArX.v (.c (.d _))))); (· (decide)); (· (decide)); (· exact curPick_p code _ _ _ (by omega) (by omega)); (· rfl); (· (intro b hb1 hb2; omega)); (· rfl); (rintro _ _ ⟨a1, s1, ha1, rfl, x1, hx1, rfl⟩; refine ⟨(by first | rfl | simp [*]), ?_⟩))) | refine so_nil ?_ | refine sk_seq ?_ | refine sk_region ?_)
  all_goals (apply sk_xret; (· (apply RetX.p; (· rfl); (· (repeat (first | exact BxO.nil _ | apply BxO.k | (apply BxO.o; (· (exact .lit _)))))); (· (apply GvA.cons; (· exact .tmp _); (· exact GvP.c (.lit _))); exact GvA.nil); (· (decide)))))
  all_goals exact ⟨_, _, by omega, rfl, _, mem_at (by omega) (by omega), rfl⟩
theorem curAmongD_p (code : Tx) (a s : Int) (n : Nat) (ds : List D) (Q : Int → Prop) (hn : n = ds.length) (h2 : 0 < n) (h : ∀ x ∈ ds, ∃ t : Int, x = dI t ∧ Q t) (h0 : 0 ≤ a) (h1 : a ≤ 4611686018427387000) : PX Try.prog 139 (CurB code a s) [.v (.c (.sl 1 n ds))] (CurR a 2 fun res => ∃ t : Int, Q t ∧ res = .p (.c (dI t))) := by
  have : ∃ l : List Int, ds = l.map dI ∧ ∀ t ∈ l, Q t := by
    clear hn h2
    induction ds with
    | nil => exact ⟨[], rfl, fun t ht => by cases ht⟩
    | cons x ds ih =>
      obtain ⟨t, e, ht⟩ := h x (List.mem_cons_self ..)
      obtain ⟨l, e2, hl⟩ := ih fun y hy => h y (List.mem_cons_of_mem _ hy)
      exact ⟨t :: l, by rw [List.map_cons, e, e2], fun u hu => by rcases List.mem_cons.1 hu with e3 | hu; rw [e3]; exact ht; exact hl u hu⟩
  obtain ⟨l, rfl, hl⟩ := this
  rw [List.length_map] at hn
  subst hn
  refine (curAmong_p code a s l h2 h0 h1).mono ?_
  rintro ds res ⟨a1, s1, ha, rfl, t, ht, rfl⟩
  exact ⟨_, _, ha, rfl, t, hl t ht, rfl⟩

end Go.Proofs.Ytefbiejoikpkmaa

namespace Go.Proofs.Ytefbiejoikpkmaa
open Go.RowKit
set_option linter.unusedSectionVars false
variable [Glb]
set_option maxRecDepth 10000
set_option maxHeartbeats 4000000
theorem l11Of_p (l : List Int) (n : Int) (hl : l.length = 8) (hp : ∀ q : Nat, q < 8 → 0 ≤ atZ l q ∧ atZ l q < 8) : PC Try.prog 201 [.c (eI l), .c (dI n)] (.p (.g [dI n, eII (gridF (ansF n fun q => atZ l q) 8 8)])) := by
  refine pc_intro Try.func201 rfl rfl rfl (by kernel_rfl) rfl rfl ?_; intro _
  repeat' (first | (refine so_is (.alloc 60) ?_; refine so_alloc (zs := [.int .i64 0, .slice none 0 0]) (by kernel_rfl) rfl ?_) | (refine so_is (.move _) ?_; (refine so_q (qt_mvC rfl) rfl ?_)) | (refine so_is (.buildSlice 25 0 _) ?_; (apply so_bslice (sz := 1) (by_ := 24); (· kernel_rfl); (· decide); (· (repeat (exact GvS.nil _))); (· (decide)); (· rfl); (· rfl); (· rfl))) | (refine so_is (.build 60 _) ?_; refine so_q (qt_build (cs := [_, _]) [(0, 1), (1, 1)] [.int .i64 0, .slice none 0 0] (by kernel_rfl) (by kernel_rfl) rfl) rfl ?_) | (refine so_is (.store 60 _ _) ?_; (refine so_store_box rfl rfl rfl (by kernel_rfl) rfl rfl ?_)) | (refine so_is (.assign _) ?_; (refine so_q (qt_asC rfl) rfl ?_)) | refine so_nil ?_ | refine sk_seq ?_ | refine sk_block ?_ | refine sk_region ?_)
  apply sk_packC [0, 1, 4, 5, 6] [4, 5, 9, 15, 26, 27] rfl; (· (repeat (first | exact Pf.nil | apply Pf.cons (.c rfl (.d rfl)) | apply Pf.cons (.c rfl (.lp rfl))))); (· (repeat (first | exact Pb.nil | apply Pb.cons (.row rfl) | (apply Pb.cons; (· apply Nb.box rfl; (repeat (first | exact Ncs.nil rfl | (apply Ncs.cons rfl; (· (first | exact .d rfl | exact .ls rfl))))))) | apply Pb.skip)))
  refine sk_loopL [0, 1, 4, 5] [4, 15, 26, 27] (fun q => [(6, iN q)]) (fun q => [(5, .box [.d (dI n), .ls 9 1 0 q]), (9, .row 1 (cII (gridF (ansF n fun q => atZ l q) q 8)))]) (fun q => q ≤ 8) (fun q => 8 - q) (0) ?_ (by (repeat (first | exact trivial | refine ⟨(by (rfl)), ?_⟩))) (by (repeat (first | exact trivial | refine ⟨(by (first | (refine box_eq rfl ?_; simp; done) | rfl)), ?_⟩))) ?_
  · simp
  intro q hq
  have hp1 : q < 8 → _ := hp q
  repeat' (first | (refine so_is (.move _) ?_; (refine so_q (qt_mvC rfl) rfl ?_)) | (refine so_is (.store 60 _ _) ?_; (refine so_store_box rfl rfl rfl (by kernel_rfl) rfl rfl ?_)) | (refine so_is (.assign _) ?_; (refine so_q (qt_asC rfl) rfl ?_)) | (refine so_is (.binOp .lss 3 _ _ _) ?_; refine so_q (qt_lss rfl rfl) rfl ?_) | (refine so_is (.makeSlice 24 _ _) ?_; (refine so_make (by_ := 8) (z := .int .i64 0) (y := .lit (.int .i64 0)) rfl rfl (by kernel_rfl) (by kernel_rfl) rfl (fun _ => .lit _ rfl) (by (omega)) (by (omega)) (by (omega)) rfl ?_)) | (refine so_is (.indexAddr 24 _ _) ?_; (first | refine so_q (qt_idxI rfl rfl (by kernel_rfl) (by (omega)) (by (omega))) rfl ?_ | refine so_q (qt_idx_ls rfl rfl (by kernel_rfl : tSl _ 24 1 = true) (by (omega)) (by (omega))) rfl ?_)) | (refine so_is (.load 3 _) ?_; (refine so_q (qt_load_pt rfl (by kernel_rfl) rfl) rfl ?_)) | (refine so_is (.store 3 _ _) ?_; ((refine so_store_row rfl rfl rfl rfl (.lit _) (by simp) (by simp) (by kernel_rfl) (by ((simp only [List.length_map, List.length_append, List.length_replicate, fillL_len, rowF_len, gridF_len, mkI_len, mkII_len, partZ_min] at *; omega))) rfl ?_; simp only [St.drop]))) | (refine so_is (.fieldAddr 60 _ 1) ?_; (refine so_q (qt_fld_lp (off := 1) rfl (by kernel_rfl)) rfl ?_)) | (refine so_is (.load 25 _) ?_; (refine so_q (qt_load_box rfl rfl (by kernel_rfl) rfl) rfl ?_)) | (refine so_is (.buildSlice 25 1 _) ?_; (apply so_bslice (sz := 1) (by_ := 24); (· kernel_rfl); (· decide); (· (repeat (first | exact GvS.nil _ | apply GvS.c rfl rfl (.row _ _ _ _ rfl (by ((simp; done)))) rfl))); (· (decide)); (· rfl); (· rfl); (· rfl))) | (refine so_is (.call ⟨.builtin .append, _, #[25, 25]⟩) ?_; ((apply so_appR (sz := 1) (by_ := 24); (· rfl); (· rfl); (· ((simp; done))); (· exact .row _ _ _ _ rfl (by ((simp; done)))); (· (decide)); (· kernel_rfl); (· decide); (· (omega)); (· (omega)); (· rfl); (· rfl); (· rfl)))) | (refine so_is (.store 25 _ _) ?_; (refine so_store_box1 rfl rfl rfl rfl (by kernel_rfl) rfl rfl ?_)) | (refine so_is (.binOp .add 3 _ _ _) ?_; refine so_q (qt_addI rfl rfl (by (omega))) rfl ?_) | (refine so_is (.load 60 _) ?_; (refine so_q (qt_load_boxs rfl rfl (by kernel_rfl : tAgg _ 60 2 = true) rfl) rfl ?_)) | refine so_nil ?_ | refine sk_seq ?_ | refine sk_block ?_ | refine sk_blk ?_ | refine sk_exit rfl ?_ | refine sk_skip ?_ | refine sk_region ?_ | refine sk_if rfl (fun hc => ?_) (fun hc => ?_))
  · have hq2 : q < 8 := by omega
    have hone : (List.replicate 8 (dI 0)).set (atZ l q).toNat (dI n) = cI (rowF (ansF n (fun q => atZ l q) q) 8) := oneHotZ dI n (hp1 hq2).1 (hp1 hq2).2
    refine sk_back ?_; refine ⟨q + 1, ?_, ?_, le_at rfl (by (repeat (first | exact trivial | refine ⟨(by (rfl)), ?_⟩))) (by (repeat (first | exact trivial | refine ⟨rfl, ?_⟩))) (by (repeat (first | exact trivial | refine ⟨(by (first | (refine row_eq rfl ?_; simp  [gridF_snoc, ← hone, eI, List.replicate]; done) | rfl)), ?_⟩))) (by (repeat (first | exact trivial | refine ⟨.inr rfl, ?_⟩)))⟩
    · omega
    · omega
  · have h8 : q = 8 := by omega
    subst h8
    (apply sk_ret; apply ret_eq; (· apply RetOK.p; (· (apply GvA.cons; (· (apply RV.cellN (n := 2); (· rfl); (· rfl); (· kernel_rfl); (· rfl))); (· (apply GvP.g; (· (apply GvL.cons (.lit _)); ((apply GvL.cons (.row _ _ _ _ rfl (by ((simp; done)))))); exact GvL.nil)))); exact GvA.nil); (· (decide))))
    simp

end Go.Proofs.Ytefbiejoikpkmaa

namespace Go.Proofs.Ytefbiejoikpkmaa
open Go.RowKit
set_option linter.unusedSectionVars false
variable [Glb]
set_option maxRecDepth 10000
set_option maxHeartbeats 4000000
theorem l11Digits_p (k : Int) : PC Try.prog 229 [.c (dI k)] (.p (.c (eI [k / 4, k / 2 % 2, k % 2]))) := by
  refine pc_intro Try.func229 rfl rfl rfl (by kernel_rfl) rfl rfl ?_; intro _
  repeat' (first | (refine so_is (.assign _) ?_; (refine so_q (qt_asC rfl) rfl ?_)) | (refine so_is (.move _) ?_; (refine so_q (qt_mvC rfl) rfl ?_)) | (refine so_is (.binOp .shr 3 _ _ _) ?_; (first | refine so_q (qt_shrC (c := 4) rfl rfl (by decide)) rfl ?_ | refine so_q (qt_shrC (c := 2) rfl rfl (by decide)) rfl ?_)) | (refine so_is (.binOp .and 3 _ _ _) ?_; refine so_q (qt_andM 1 (c := 2) rfl rfl (by decide)) rfl ?_) | (refine so_is (.buildSlice 24 3 _) ?_; (apply so_bslice (sz := 1) (by_ := 8); (· kernel_rfl); (· decide); (· (repeat (first | exact GvS.nil _ | apply GvS.c rfl rfl (.lit _) rfl))); (· (decide)); (· rfl); (· rfl); (· rfl))) | refine so_nil ?_ | refine sk_seq ?_ | refine sk_region ?_)
  · (apply sk_ret; apply ret_eq; (· apply RetOK.p; (· (apply GvA.cons; (· exact .tmp _); (· (exact GvP.c (.row _ _ _ _ rfl (by ((simp; done))))))); exact GvA.nil); (· (decide))))
    rfl

end Go.Proofs.Ytefbiejoikpkmaa

namespace Go.Proofs.Ytefbiejoikpkmaa
open Go.RowKit
set_option linter.unusedSectionVars false
variable [Glb]
set_option maxRecDepth 10000
set_option maxHeartbeats 4000000
theorem l11Others_p (a : Int) : PC Try.prog 228 [.c (dI a)] (.p (.c (eI (othL a 3)))) := by
  refine pc_intro Try.func228 rfl rfl rfl (by kernel_rfl) rfl rfl ?_; intro _
  repeat' (first | (refine so_is (.assign _) ?_; (refine so_q (qt_asC rfl) rfl ?_)) | (refine so_is (.buildSlice 24 0 _) ?_; (apply so_bslice (sz := 1) (by_ := 8); (· kernel_rfl); (· decide); (· (repeat (exact GvS.nil _))); (· (decide)); (· rfl); (· rfl); (· rfl))) | refine so_nil ?_ | refine sk_seq ?_ | refine sk_block ?_ | refine sk_region ?_)
  apply sk_packC [0, 3, 4] [5, 15, 16] rfl; (· (repeat (first | exact Pf.nil | apply Pf.cons (.c rfl (.d rfl)) | apply Pf.cons (.c rfl (.ls rfl))))); (· (repeat (first | exact Pb.nil | apply Pb.cons (.row rfl) | apply Pb.skip)))
  refine sk_loopL [0] [15, 16] (fun k => [(4, iN k), (3, .c (.ls 5 1 0 (othL a k).length))]) (fun k => [(5, .row 1 (cI (othL a k)))]) (fun k => k ≤ 3) (fun k => 3 - k) (0) ?_ (by (repeat (first | exact trivial | refine ⟨(by (rfl)), ?_⟩))) (by (repeat (first | exact trivial | refine ⟨(by (rfl)), ?_⟩))) ?_
  · simp
  intro k hk
  have e := fun h => othL_succ a (k := k) h
  have hL := othL_len a k
  repeat' (first | (refine so_is (.assign _) ?_; (refine so_q (qt_asC rfl) rfl ?_)) | (refine so_is (.move _) ?_; (refine so_q (qt_mvC rfl) rfl ?_)) | (refine so_is (.binOp .lss 3 _ _ _) ?_; refine so_q (qt_lss rfl rfl) rfl ?_) | (refine so_is (.binOp .neq 3 _ _ _) ?_; refine so_q (qt_neq rfl rfl) rfl ?_) | (refine so_is (.buildSlice 24 1 _) ?_; (apply so_bslice (sz := 1) (by_ := 8); (· kernel_rfl); (· decide); (· (repeat (first | exact GvS.nil _ | apply GvS.c rfl rfl (.lit _) rfl))); (· (decide)); (· rfl); (· rfl); (· rfl))) | (refine so_is (.call ⟨.builtin .append, _, #[24, 24]⟩) ?_; ((apply so_appR (sz := 1) (by_ := 8); (· rfl); (· rfl); (· ((simp; done))); (· exact .row _ _ _ _ rfl (by ((simp; done)))); (· (decide)); (· kernel_rfl); (· decide); (· (omega)); (· (omega)); (· rfl); (· rfl); (· rfl)))) | (refine so_is (.binOp .add 3 _ _ _) ?_; refine so_q (qt_addI rfl rfl (by (omega))) rfl ?_) | refine so_nil ?_ | refine sk_seq ?_ | refine sk_block ?_ | refine sk_blk ?_ | refine sk_exit rfl ?_ | refine sk_skip ?_ | refine sk_region ?_ | refine sk_if rfl (fun hc => ?_) (fun hc => ?_))
  · rename_i hk'
    have e := e (by omega)
    rw [if_neg (by simpa using hc)] at e
    refine sk_back ?_; refine ⟨k + 1, ?_, ?_, le_at rfl (by (repeat (first | exact trivial | refine ⟨(by (first | rfl | (refine ls_eq rfl ?_; ((simp  [e]; done))))), ?_⟩))) (by (repeat (first | exact trivial | refine ⟨rfl, ?_⟩))) (by (repeat (first | exact trivial | refine ⟨(by ((refine row_eq rfl ?_; simp  [e]; done))), ?_⟩))) (by (repeat (first | exact trivial | refine ⟨.inr rfl, ?_⟩)))⟩
    · omega
    · omega
  · rename_i hk'
    have e := e (by omega)
    rw [if_pos (by simpa using hc)] at e
    refine sk_back ?_; refine ⟨k + 1, ?_, ?_, le_at rfl (by (repeat (first | exact trivial | refine ⟨(by (first | rfl | (refine ls_eq rfl ?_; ((simp  [e]; done))))), ?_⟩))) (by (repeat (first | exact trivial | refine ⟨rfl, ?_⟩))) (by (repeat (first | exact trivial | refine ⟨(by ((refine row_eq rfl ?_; simp  [e]; done))), ?_⟩))) (by (repeat (first | exact trivial | refine ⟨.inr rfl, ?_⟩)))⟩
    · omega
    · omega
  · have : k = 3 := by omega
    subst this
    (apply sk_ret; apply ret_eq; (· apply RetOK.p; (· (apply GvA.cons; (· exact .tmp _); (· (exact GvP.c (.row _ _ _ _ rfl (by ((simp; done))))))); exact GvA.nil); (· (decide))))
    rfl
theorem l11Others0_p : PC Try.prog 228 [.c (dI 0)] (.p (.c (eI [1, 2]))) := by have := l11Others_p 0; rwa [show othL 0 3 = [1, 2] from rfl] at this
theorem l11Others1_p : PC Try.prog 228 [.c (dI 1)] (.p (.c (eI [0, 2]))) := by have := l11Others_p 1; rwa [show othL 1 3 = [0, 2] from rfl] at this
theorem l11Others2_p : PC Try.prog 228 [.c (dI 2)] (.p (.c (eI [0, 1]))) := by have := l11Others_p 2; rwa [show othL 2 3 = [0, 1] from rfl] at this

end Go.Proofs.Ytefbiejoikpkmaa
