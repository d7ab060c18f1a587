/- What the functions that FnGroups reaches return: part of its proof. No condition beyond those of its theorems. -/
import Derived.Test.YtefbiejoikpkmaaGreatProg
import Derived.Test.YtefbiejoikpkmaaGreatKplainB
import Derived.WalkKit
import Derived.Test.YtefbiejoikpkmaaGreatKplainA
import Derived.Laws.StructEq
import Derived.Test.YtefbiejoikpkmaaGreatKplainC
set_option linter.unusedVariables false
set_option linter.unusedSimpArgs false
--plain: PureMisc PureTake PureView PureAlt PurePack PureDag PureQ PureRen PureMany PureSlice Texts PureText Defs
namespace Go.Proofs.YtefbiejoikpkmaaGreat
open Go.RowKit
set_option linter.unusedSectionVars false
variable [Glb]

abbrev dI (n : Int) : D := .lit (.int .i64 n)
abbrev dB (b : Bool) : D := .lit (.bool b)
abbrev dS (s : ByteArray) : D := .lit (.string s)
abbrev iN (k : Nat) : FV := .c (.d (dI k))
abbrev iZ (k : Int) : FV := .c (.d (dI k))
/-- a list of numbers, of lists of numbers, of texts -/
abbrev cI (l : List Int) : List D := l.map dI
abbrev eI (l : List Int) : D := .sl 1 l.length (cI l)
abbrev cII (l : List (List Int)) : List D := l.map fun x => eI x
abbrev eII (l : List (List Int)) : D := .sl 1 l.length (cII l)
section
variable {P : Program} {st : St} {dst : Option Tmp} {ty : TypeId} {pos : String} {af : Array Edge} {T : TypeId} {x y : Operand} {k : IntKind} {i : Int}
theorem qt_idxI {l : List Int} (hx : st.ev x = .c (.d (eI l))) (hy : st.ev y = .c (.d (.lit (.int k i)))) (ht : tSl P T 1 = true) (h0 : 0 ≤ i) (h1 : i < l.length) : Qt P ⟨dst, .indexAddr T x y, ty, pos, af, none⟩ st (.c (.d (.pt [dI (atZ l i)]))) :=
  qt_idx hx hy ht h0 h1 (map_at (atZ_some h0 h1))
theorem qt_idxII {l : List (List Int)} (hx : st.ev x = .c (.d (eII l))) (hy : st.ev y = .c (.d (.lit (.int k i)))) (ht : tSl P T 1 = true) (h0 : 0 ≤ i) (h1 : i < l.length) : Qt P ⟨dst, .indexAddr T x y, ty, pos, af, none⟩ st (.c (.d (.pt [eI (atZ l i)]))) :=
  qt_idx hx hy ht h0 h1 (map_at (atZ_some h0 h1))
theorem qt_load_rowI {l : List Int} {b : Nat} {i : Int} (hx : st.ev x = .c (.lp b (0 + i.toNat * 1))) (hb : st.bl b = some (.row 1 (cI l))) (ht : tOne P T = true) (h0 : 0 ≤ i) (h1 : i < l.length) : Qt P ⟨dst, .load T x, ty, pos, af, none⟩ st (.c (.d (dI (atZ l i)))) :=
  qt_load_row hx hb ht (by rw [List.getElem?_map, Nat.zero_add, Nat.mul_one, atZ_some h0 h1]; rfl)
theorem qt_slice_dI10 {l : List Int} {x lo : Operand} {kl : IntKind} {i : Int} (hx : st.ev x = .c (.d (eI l))) (hl : st.ev lo = .c (.d (.lit (.int kl i)))) (ht : tSl P T 1 = true) (h0 : 0 ≤ i) (h1 : i ≤ l.length) :
    Qt P ⟨dst, .slice T x (some lo) none none, ty, pos, af, none⟩ st (.c (.d (eI (partZ l i l.length)))) :=
  qt_slice_d (vl := some (kl, i)) (vh := none) (i := i.toNat) (j := l.length) hx (ev_some hl) (fun _ _ _ _ _ => rfl) ht ⟨h0, rfl⟩ rfl (by omega) (by omega) (by rw [partZ_len (by omega)]; simp) (by rw [partZ_len (by omega)]; exact map_part l _ i l.length)
end
end Go.Proofs.YtefbiejoikpkmaaGreat

namespace Go.Proofs.YtefbiejoikpkmaaGreat
open Go.RowKit
set_option linter.unusedSectionVars false
variable [Glb]
open Go Go.RowKit
/-! readings of bytes -/
theorem pr_u8 {P : Program} {T : TypeId} (hT : P.underlying T = some (.int .u8)) : PR P T fun b : UInt8 => [dY b] := by
  intro H enc W fuel cs x h
  obtain ⟨n, rfl, -, wf⟩ := DataW.trod_int hT h
  have hn : 0 ≤ n ∧ n ≤ 255 := by
    simpa [Lit.wf, IntKind.min, IntKind.max, IntKind.signed, IntKind.bits] using wf
  have e : ((UInt8.ofNat n.toNat).toNat : Int) = n := by rw [UInt8.toNat_ofNat']; omega
  refine ⟨UInt8.ofNat n.toNat, ?_⟩
  have : VwD W [Value.int .u8 n] [D.lit (.int .u8 n)] := .one (.lit _ rfl)
  simpa only [dY, e] using this

end Go.Proofs.YtefbiejoikpkmaaGreat

namespace Go.Proofs.YtefbiejoikpkmaaGreat
open Go.RowKit
set_option linter.unusedSectionVars false
variable [Glb]
open Go Go.RowKit
/-! several ways through a part of the code that are told as one behind it -/
theorem sk_join {P : Program} {R : St → Prop} {k : List Itm} {st : St} {c : Code} {G : Type} (U UB : List Nat) (V : G → List (Nat × FV)) (B : G → List (Nat × Blk)) (ok : G → Prop)
    (first : SK P (.code c :: .back (fun st' => ∃ g', ok g' ∧ True ∧ st'.le (st.at U UB (V g') (B g'))) :: k) st R)
    (rest : ∀ g, ok g → SK P k (st.at U UB (V g) (B g)) R) : SK P (.code c :: k) st R := by
  refine ⟨fun w0 a w hs => Code.wp_mono ?_ (first.lv w0 a w hs)⟩
  rintro e a' w' ⟨st1, h1, h2⟩
  cases e with
  | normal =>
    obtain ⟨g, hg, _, hle⟩ := h2
    exact ⟨_, h1.le hle, (rest g hg).lv⟩
  | ret => exact ⟨st1, h1, by rw [LV.ret] at *; exact h2⟩
  | exit id => exact ⟨st1, h1, h2⟩
  | goto l => exact (LV.bad trivial h2).elim
  | panic c => exact (LV.bad trivial h2).elim
  | outgrown => exact (LV.bad trivial h2).elim
theorem sim_sloteq {st : St} (t : Nat) {x : FV} (x' : FV) (hb : st.fr t = x) (e : x = x') : ∀ w0 a w, Sim w0 st a w → Sim w0 (st.put t x') a w := by
  subst e
  have : st.put t x = st := by
    unfold St.put
    cases st with
    | mk n fr bl =>
      simp only [St.mk.injEq, and_true, true_and]
      funext k
      split
      · rename_i h; subst h; exact hb.symm
      · rfl
  rw [this]
  exact fun _ _ _ h => h
section
variable {P : Program} {st : St} {dst : Option Tmp} {ty : TypeId} {pos : String} {af : Array Edge}
end

end Go.Proofs.YtefbiejoikpkmaaGreat

namespace Go.Proofs.YtefbiejoikpkmaaGreat
open Go.RowKit
set_option linter.unusedSectionVars false
variable [Glb]
open Go Go.RowKit
/-! parts of the orders that several ways lead to, told for all names that were bound ahead of them -/
section
variable {P : Program} {ops : Array Oper} {mu : Nat → Bool} {st : St} {K : St → Prop}
theorem so_lt3 {A1 A2 A3 : Type} {S : A1 → A2 → A3 → St} {ok : A1 → A2 → A3 → Prop} {os : List Oper} {T : IT} {C : IT → IT} (main : ∀ Y, (∀ x1 x2 x3, ok x1 x2 x3 → SO P ops mu (OT.of os Y) (S x1 x2 x3) K) → SO P ops mu (OT.of os (C Y)) st K) (h : ∀ x1 x2 x3, ok x1 x2 x3 → SO P ops mu (OT.of os T) (S x1 x2 x3) K) : SO P ops mu (OT.of os (IT.lt T C)) st K := main T h
theorem so_lt6 {A1 A2 A3 A4 A5 A6 : Type} {S : A1 → A2 → A3 → A4 → A5 → A6 → St} {ok : A1 → A2 → A3 → A4 → A5 → A6 → Prop} {os : List Oper} {T : IT} {C : IT → IT} (main : ∀ Y, (∀ x1 x2 x3 x4 x5 x6, ok x1 x2 x3 x4 x5 x6 → SO P ops mu (OT.of os Y) (S x1 x2 x3 x4 x5 x6) K) → SO P ops mu (OT.of os (C Y)) st K) (h : ∀ x1 x2 x3 x4 x5 x6, ok x1 x2 x3 x4 x5 x6 → SO P ops mu (OT.of os T) (S x1 x2 x3 x4 x5 x6) K) : SO P ops mu (OT.of os (IT.lt T C)) st K := main T h
end

end Go.Proofs.YtefbiejoikpkmaaGreat

namespace Go.Proofs.YtefbiejoikpkmaaGreat
open Go.RowKit
set_option linter.unusedSectionVars false
variable [Glb]
open Go Go.RowKit
/-! structs of texts and numbers, compared -/
def eqA : Value → Value → Bool
  | .int _ a, .int _ b => a == b
  | .string a, .string b => a.toList == b.toList
  | _, _ => false
def eqL : List Value → List Value → Bool
  | u :: us, v :: vs => eqA u v && eqL us vs
  | _, _ => true
@[simp] theorem eqA_t (a b : Tx) : eqA (.string (bsT a)) (.string (bsT b)) = decide (a = b) := by
  show ((bsT a).toList == (bsT b).toList) = _
  rw [ByteArray.toList_eq, ByteArray.toList_eq]
  show ((bsT a).data.toList == (bsT b).data.toList) = _
  simp only [bsT]
  rw [Bool.eq_iff_iff, beq_iff_eq, decide_eq_true_iff]
@[simp] theorem eqA_i (k k' : IntKind) (a b : Int) : eqA (.int k a) (.int k' b) = decide (a = b) := rfl
@[simp] theorem eqL_cons (u v : Value) (us vs : List Value) : eqL (u :: us) (v :: vs) = (eqA u v && eqL us vs) := rfl
@[simp] theorem eqL_nil : eqL [] [] = true := rfl
def oneEq (P : Program) (T : TypeId) : Value → Value → Bool
  | .string _, .string _ => match P.underlying T with | some .string => true | _ => false
  | .int k _, .int k' _ => match P.underlying T with | some (.int _) => k == k' | _ => false
  | _, _ => false
def flatEq (P : Program) : Nat → List Field → List Value → List Value → Bool
  | _, [], [], [] => true
  | o, f :: fs, u :: us, v :: vs => f.name != "_" && (f.offset == o && (oneEq P f.type u v && flatEq P (o + 1) fs us vs))
  | _, _, _, _ => false
def structEq (P : Program) (T : TypeId) (us vs : List Value) : Bool := match P.underlying T with
  | some (.struct fs) => !(P.stoodInHeld T) && (!(P.eqGuardType P.depth T) && flatEq P 0 fs.toList us vs)
  | _ => false
section
variable {P : Program} {w : World}
end
section
variable {P : Program} {st : St} {dst : Option Tmp} {ty : TypeId} {pos : String} {af : Array Edge} {T T' : TypeId} {x y : Operand}
end

end Go.Proofs.YtefbiejoikpkmaaGreat

namespace Go.Proofs.YtefbiejoikpkmaaGreat
open Go.RowKit
open Go
/-! trios -/
def sum64 (l : List Int) : Int := l.foldl (fun s n => IntKind.i64.wrap (s + n)) 0
theorem sum64_snoc {l : List Int} {k : Nat} (h : k < l.length) : sum64 (l.take (k + 1)) = IntKind.i64.wrap (sum64 (l.take k) + l[k]) := by
  unfold sum64; rw [List.take_succ_eq_append_getElem h, List.foldl_append]; rfl
def rowB (n : Int) (row : List Int) : Bool := (decide (row.length = 8) && allB row 0 n) && decide (sum64 row = n)
def trioB (n : Int) (ll : List (List Int)) : Bool := (inB n 1 1000 && decide (ll.length = 8)) && ll.all (rowB n)
theorem rowB_len {n : Int} {row : List Int} (h : rowB n row = true) : row.length = 8 ∧ ∀ k (hk : k < row.length), 0 ≤ row[k] ∧ row[k] ≤ n := by
  simp only [rowB, Bool.and_eq_true, decide_eq_true_eq, allB, List.all_eq_true] at h
  exact ⟨h.1.1, fun k hk => inB_iff.1 (h.1.2 _ (List.getElem_mem hk))⟩
theorem trioB_spec {n : Int} {ll : List (List Int)} (h : trioB n ll = true) : 1 ≤ n ∧ n ≤ 1000 ∧ ll.length = 8 ∧ ∀ q (hq : q < ll.length), ll[q].length = 8 ∧ ∀ k (hk : k < ll[q].length), 0 ≤ ll[q][k] ∧ ll[q][k] ≤ n := by
  simp only [trioB, Bool.and_eq_true, decide_eq_true_eq, List.all_eq_true] at h
  have := inB_iff.1 h.1.1
  exact ⟨this.1, this.2, h.1.2, fun q hq => rowB_len (h.2 _ (List.getElem_mem hq))⟩
/-- the bit of a player in a place -/
def bitZ (q : Int) (m : Nat) : Int := q / 2 ^ (2 - m) % 2
theorem bitZ_le (q : Int) (m : Nat) : 0 ≤ bitZ q m ∧ bitZ q m ≤ 1 := by unfold bitZ; omega
/-- the answers of a play -/
def playP (l : List Int) (q : Int) : Nat → Int
  | 0 => 0
  | m + 1 => 2 * playP l q m + atZ l (2 * m + bitZ q m)
theorem playP_bd {l : List Int} (h : bitsB l 6 = true) (q : Int) : ∀ m : Nat, m ≤ 3 → 0 ≤ playP l q m ∧ playP l q m < 2 ^ m
  | 0, _ => by simp [playP]
  | m + 1, hm => by
    have ih := playP_bd h q m (by omega)
    have hb := bitZ_le q m
    have := bitsB_at h (i := 2 * m + bitZ q m) (by omega) (by omega)
    rw [playP, Int.pow_succ]
    omega
theorem playP_4 {l : List Int} (h : bitsB l 6 = true) (q : Int) (m : Nat) (hm : m ≤ 2) : 0 ≤ playP l q m ∧ playP l q m < 4 := by
  have := playP_bd h q m (by omega)
  have : (2 : Int) ^ m ≤ 4 := by rcases (by omega : m = 0 ∨ m = 1 ∨ m = 2) with rfl | rfl | rfl <;> decide
  omega
def playV (l : List Int) (q : Int) : Int := playP l q 3
theorem playV_eq (l : List Int) {q : Int} (h0 : 0 ≤ q) (h8 : q < 8) : playV l q = 4 * atZ l (q / 4) + 2 * atZ l (2 + q / 2 % 2) + atZ l (4 + q % 2) := by
  have e : q / 4 % 2 = q / 4 := by omega
  simp [playV, playP, bitZ, e]; omega
theorem playV_bd {l : List Int} (h : bitsB l 6 = true) (q : Int) : 0 ≤ playV l q ∧ playV l q < 8 := by
  have := playP_bd h q 3 (by omega); unfold playV; omega
def ansF (n : Int) (g : Nat → Int) (q k : Nat) : Int := if (k : Int) = g q then n else 0
def trioOfB (l : List Int) (n : Int) : Bool := bitsB l 6 && inB n 1 1000
theorem oneHotZ {α : Type} (g : Int → α) (n : Int) {p : Int} (h0 : 0 ≤ p) (h8 : p < 8) : (List.replicate 8 (g 0)).set (p.toNat) (g n) = (rowF (fun k => if (k : Int) = p then n else 0) 8).map g := by
  rcases (by omega : p = 0 ∨ p = 1 ∨ p = 2 ∨ p = 3 ∨ p = 4 ∨ p = 5 ∨ p = 6 ∨ p = 7) with rfl | rfl | rfl | rfl | rfl | rfl | rfl | rfl <;> simp [rowF, List.range, List.range.loop, List.replicate, List.set]
theorem rowF_atZ (f : Nat → Int) {m k : Nat} (h : k < m) : atZ (rowF f m) (k : Int) = f k := by
  rw [atZ_nat (by simpa using h)]; simp [rowF]
theorem gridF_ans (n : Int) (f : Nat → Int) : gridF (ansF n fun q => atZ (rowF f 8) q) 8 8 = gridF (ansF n f) 8 8 :=
  gridF_congr fun i hi k _ => by have := rowF_atZ f hi; show (if (k : Int) = atZ (rowF f 8) i then n else 0) = if (k : Int) = f i then n else 0; simp only [this]
/-- the two players other than one -/
def oth1 (a : Int) : Nat := if a = 0 then 1 else 0
def oth2 (a : Int) : Nat := if a = 0 then 2 else if a = 1 then 2 else 1
def othL (a : Int) (k : Nat) : List Int := (([0, 1, 2] : List Int).take k).filter fun x => decide (x ≠ a)
theorem othL_succ (a : Int) {k : Nat} (h : k < 3) : othL a (k + 1) = if (k : Int) = a then othL a k else othL a k ++ [(k : Int)] := by
  unfold othL
  rw [List.take_succ_eq_append_getElem (by simpa using h), List.filter_append]
  by_cases e : (k : Int) = a
  · rcases (by omega : k = 0 ∨ k = 1 ∨ k = 2) with rfl | rfl | rfl <;> simp at e <;> simp [List.filter, ← e]
  · rcases (by omega : k = 0 ∨ k = 1 ∨ k = 2) with rfl | rfl | rfl <;> simp at e <;> simp [List.filter, e]
theorem othL_3 {a : Int} (h0 : 0 ≤ a) (h2 : a ≤ 2) : othL a 3 = [(oth1 a : Int), (oth2 a : Int)] := by
  rcases (by omega : a = 0 ∨ a = 1 ∨ a = 2) with rfl | rfl | rfl <;> rfl
/-- the answers of a group play -/
def grpAt (a q : Int) : Int := 2 * (2 * bitZ q (oth1 a) + bitZ q (oth2 a))
def grpV (a : Int) (own joint : List Int) (q : Int) : Int :=
  atZ own (bitZ q a.toNat) * 2 ^ (2 - a.toNat) + atZ joint (grpAt a q) * 2 ^ (2 - oth1 a) + atZ joint (grpAt a q + 1) * 2 ^ (2 - oth2 a)
theorem or421 {x y z : Int} (hx : 0 ≤ x ∧ x ≤ 1) (hy : 0 ≤ y ∧ y ≤ 1) (hz : 0 ≤ z ∧ z ≤ 1) : bits .or .i64 (bits .or .i64 (x * 4) (y * 2)) z = x * 4 + y * 2 + z := by
  rcases (by omega : x = 0 ∨ x = 1) with rfl | rfl <;> rcases (by omega : y = 0 ∨ y = 1) with rfl | rfl <;> rcases (by omega : z = 0 ∨ z = 1) with rfl | rfl <;> rfl
theorem or241 {x y z : Int} (hx : 0 ≤ x ∧ x ≤ 1) (hy : 0 ≤ y ∧ y ≤ 1) (hz : 0 ≤ z ∧ z ≤ 1) : bits .or .i64 (bits .or .i64 (x * 2) (y * 4)) z = x * 2 + y * 4 + z := by
  rcases (by omega : x = 0 ∨ x = 1) with rfl | rfl <;> rcases (by omega : y = 0 ∨ y = 1) with rfl | rfl <;> rcases (by omega : z = 0 ∨ z = 1) with rfl | rfl <;> rfl
theorem or142 {x y z : Int} (hx : 0 ≤ x ∧ x ≤ 1) (hy : 0 ≤ y ∧ y ≤ 1) (hz : 0 ≤ z ∧ z ≤ 1) : bits .or .i64 (bits .or .i64 x (y * 4)) (z * 2) = x + y * 4 + z * 2 := by
  rcases (by omega : x = 0 ∨ x = 1) with rfl | rfl <;> rcases (by omega : y = 0 ∨ y = 1) with rfl | rfl <;> rcases (by omega : z = 0 ∨ z = 1) with rfl | rfl <;> rfl
def groupB (a : Int) (own joint : List Int) (n : Int) : Bool := inB a 0 2 && bitsB own 2 && bitsB joint 8 && inB n 1 1000
theorem othL_len (a : Int) (k : Nat) : (othL a k).length ≤ 3 := by
  unfold othL; refine Nat.le_trans (List.length_filter_le _ _) ?_; rw [List.length_take]; exact Nat.min_le_right _ _

theorem inB_02 {a : Int} (h : inB a 0 2 = true) : a = 0 ∨ a = 1 ∨ a = 2 := by have := inB_iff.1 h; omega
theorem grpV_bd {a : Int} {own joint : List Int} (h : inB a 0 2 = true) (ho : bitsB own 2 = true) (hj : bitsB joint 8 = true) (q : Int) : 0 ≤ grpV a own joint q ∧ grpV a own joint q < 8 := by
  have b0 := bitZ_le q a.toNat
  have b1 := bitZ_le q (oth1 a)
  have b2 := bitZ_le q (oth2 a)
  have p0 := bitsB_at ho (i := bitZ q a.toNat) (by omega) (by omega)
  have a0 := bitsB_at hj (i := grpAt a q) (by unfold grpAt; omega) (by unfold grpAt; omega)
  have a1 := bitsB_at hj (i := grpAt a q + 1) (by unfold grpAt; omega) (by unfold grpAt; omega)
  rcases inB_02 h with rfl | rfl | rfl <;> simp [grpV, oth1, oth2] at * <;> omega
/-- a place whose digits are turned -/
def turnP (p : Int) : Int := p * 2 % 8 + p / 4
def turnI (k : Nat) : Nat := k / 2 + k % 2 * 4
theorem turnI_lt {p : Nat} (h : p < 8) : turnI p < 8 := by unfold turnI; omega
def turnN (p : Nat) : Nat := p * 2 % 8 + p / 4
theorem turnP_nat (p : Nat) : turnP p = (turnN p : Nat) := by unfold turnP turnN; omega
theorem turnN_lt {p : Nat} (h : p < 8) : turnN p < 8 := by unfold turnN; omega
/-- a list of eight that is filled at the turned places, k of them so far -/
def turnL {α : Type} (z : α) (f : Nat → α) (k : Nat) : List α := (List.range 8).map fun j => if turnN j < k then f j else z
theorem turnL_len {α : Type} (z : α) (f : Nat → α) (k : Nat) : (turnL z f k).length = 8 := by simp [turnL]
theorem turnL_zero {α : Type} (z : α) (f : Nat → α) : turnL z f 0 = List.replicate 8 z := by simp [turnL, List.range, List.range.loop, List.replicate]
theorem turnL_set {α : Type} (z : α) (f : Nat → α) {k : Nat} (h : k < 8) : (turnL z f k).set (turnI k) (f (turnI k)) = turnL z f (k + 1) := by
  rcases (by omega : k = 0 ∨ k = 1 ∨ k = 2 ∨ k = 3 ∨ k = 4 ∨ k = 5 ∨ k = 6 ∨ k = 7) with rfl | rfl | rfl | rfl | rfl | rfl | rfl | rfl <;> rfl
theorem turnL_all {α : Type} (z : α) (f : Nat → α) : turnL z f 8 = (List.range 8).map f := by
  unfold turnL
  refine List.map_congr_left fun j hj => ?_
  have := turnN_lt (List.mem_range.1 hj)
  rw [if_pos (by omega)]
theorem turnN_inv {k : Nat} (h : k < 8) : turnN (turnI k) = k := by
  rcases (by omega : k = 0 ∨ k = 1 ∨ k = 2 ∨ k = 3 ∨ k = 4 ∨ k = 5 ∨ k = 6 ∨ k = 7) with rfl | rfl | rfl | rfl | rfl | rfl | rfl | rfl <;> rfl
def turnF (ll : List (List Int)) (q k : Nat) : Int := atZ (atZ ll (turnP q)) (turnP k)
def mixF (a b : List (List Int)) (q k : Nat) : Int := atZ (atZ a q) k + atZ (atZ b q) k
theorem trioB_at {n : Int} {ll : List (List Int)} (h : trioB n ll = true) {q : Int} (h0 : 0 ≤ q) (h8 : q < 8) : (atZ ll q).length = 8 ∧ ∀ k : Int, 0 ≤ k → k < 8 → 0 ≤ atZ (atZ ll q) k ∧ atZ (atZ ll q) k ≤ n := by
  obtain ⟨h1, h2, h3, h4⟩ := trioB_spec h
  obtain ⟨i, rfl⟩ := Int.eq_ofNat_of_zero_le h0
  rw [atZ_nat (by omega)]
  obtain ⟨h5, h6⟩ := h4 i (by omega)
  refine ⟨h5, fun k hk0 hk8 => ?_⟩
  obtain ⟨j, rfl⟩ := Int.eq_ofNat_of_zero_le hk0
  rw [atZ_nat (by omega)]
  exact h6 j (by omega)
theorem sum64_of {l : List Int} (h : l.length = 8) (hb : ∀ k (hk : k < l.length), 0 ≤ l[k] ∧ l[k] ≤ 1000000) : sum64 l = l.sum := by
  have key : ∀ (l : List Int) (s : Int), 0 ≤ s → (∀ x ∈ l, 0 ≤ x ∧ x ≤ 1000000) → s + l.length * 1000000 ≤ 1000000000 → l.foldl (fun s n => IntKind.i64.wrap (s + n)) s = s + l.sum := by
    intro l
    induction l with
    | nil => intro s _ _ _; simp
    | cons x l ih =>
      intro s h0 hx hs
      have h1 := hx x (List.mem_cons_self ..)
      simp only [List.length_cons] at hs
      rw [List.foldl_cons, IntWalk.i64_in _ (by omega), ih _ (by omega) (fun y hy => hx y (List.mem_cons_of_mem _ hy)) (by omega), List.sum_cons]; omega
  have := key l 0 (by omega) (fun x hx => by obtain ⟨k, hk, rfl⟩ := List.getElem_of_mem hx; exact hb k hk) (by omega)
  unfold sum64; rw [this]; omega
theorem len8 {l : List Int} (h : l.length = 8) : ∃ a b c d e f g i, l = [a, b, c, d, e, f, g, i] := by
  match l, h with
  | [a, b, c, d, e, f, g, i], _ => exact ⟨a, b, c, d, e, f, g, i, rfl⟩
def mixB (m : Int) (a : List (List Int)) (n : Int) (b : List (List Int)) : Bool := trioB m a && trioB n b && decide (m + n ≤ 1000)

end Go.Proofs.YtefbiejoikpkmaaGreat

namespace Go.Proofs.YtefbiejoikpkmaaGreat
open Go.RowKit
/-! all plays -/
def bitN (c e : Nat) : Nat := c / 2 ^ e % 2
def bitsM (n c : Nat) : List Int := rowF (fun i => (bitN c (n - 1 - i) : Int)) n
def playsF (n : Nat) : List (List Int) := (List.range (2 ^ n)).map (bitsM n)
@[simp] theorem bitsM_len (n c : Nat) : (bitsM n c).length = n := by simp [bitsM]
@[simp] theorem playsF_len (n : Nat) : (playsF n).length = 2 ^ n := by simp [playsF]
theorem bitsM_bits (n c : Nat) : bitsB (bitsM n c) n = true := by
  simp only [bitsB, bitsM_len, decide_true, Bool.true_and, allB, List.all_eq_true]
  intro x hx
  unfold bitsM rowF at hx
  obtain ⟨i, _, rfl⟩ := List.mem_map.1 hx
  exact inB_iff.2 ⟨by unfold bitN; omega, by unfold bitN; omega⟩
theorem playsF_at {n k : Nat} (h : k < 2 ^ n) : atZ (playsF n) (k : Int) = bitsM n k := by rw [atZ_nat (by simpa using h)]; simp [playsF]
theorem plays_snoc (n c : Nat) : (List.range (c + 1)).map (bitsM n) = (List.range c).map (bitsM n) ++ [bitsM n c] := by simp [List.range_succ]
theorem bit_nat (c e : Nat) : (c : Int) / 2 ^ e % 2 = (bitN c e : Int) := by
  unfold bitN
  rw [Int.natCast_emod, Int.natCast_ediv, Int.natCast_pow]; rfl
/-- the greatest of numbers, at least 0 -/
def bestN (f : Nat → Int) : Nat → Int
  | 0 => 0
  | k + 1 => max (bestN f k) (f k)
theorem bestN_ge (f : Nat → Int) : ∀ n, 0 ≤ bestN f n
  | 0 => by simp [bestN]
  | k + 1 => by have := bestN_ge f k; simp only [bestN]; omega
theorem le_bestN (f : Nat → Int) : ∀ n k, k < n → f k ≤ bestN f n
  | n + 1, k, h => by
    simp only [bestN]
    by_cases e : k = n
    · subst e; omega
    · have := le_bestN f n k (by omega); omega
theorem bestN_le (f : Nat → Int) (M : Int) (h0 : 0 ≤ M) : ∀ n, (∀ k, k < n → f k ≤ M) → bestN f n ≤ M
  | 0, _ => by simpa [bestN] using h0
  | n + 1, h => by
    have h1 := bestN_le f M h0 n fun k hk => h k (by omega)
    have h2 := h n (by omega)
    simp only [bestN]; omega
theorem bestN_perm {f g : Nat → Int} {n : Nat} (r : Nat → Nat) (hr : ∀ k, k < n → r k < n) (h1 : ∀ k, k < n → f k = g (r k)) (h2 : ∀ k, k < n → g k = f (r k)) : bestN f n = bestN g n := by
  have a := bestN_le f (bestN g n) (bestN_ge g n) n fun k hk => by rw [h1 k hk]; exact le_bestN g n _ (hr k hk)
  have b := bestN_le g (bestN f n) (bestN_ge f n) n fun k hk => by rw [h2 k hk]; exact le_bestN f n _ (hr k hk)
  omega
/-- the score of answers -/
def parZ (p : Int) : Int := (p / 4 + p / 2 + p) % 2
def scoreN (w odd : List Int) (f : Int → Int) : Nat → Int
  | 0 => 0
  | k + 1 => scoreN w odd f k + if parZ (f k) = atZ odd k then atZ w k else 0
def valB (w odd : List Int) : Bool := decide (w.length = 8) && allB w 0 99 && bitsB odd 8
theorem allB_at {l : List Int} {lo hi : Int} (h : allB l lo hi = true) {i : Int} (h0 : 0 ≤ i) (h1 : i < l.length) : lo ≤ atZ l i ∧ atZ l i ≤ hi := by
  unfold allB at h
  rw [List.all_eq_true] at h
  obtain ⟨k, rfl⟩ := Int.eq_ofNat_of_zero_le h0
  rw [atZ_nat (by omega)]
  exact inB_iff.1 (h (l[k]'(by omega)) (List.getElem_mem _))
theorem scoreN_bd {w odd : List Int} (h : valB w odd = true) (f : Int → Int) : ∀ k : Nat, k ≤ 8 → 0 ≤ scoreN w odd f k ∧ scoreN w odd f k ≤ 99 * k
  | 0, _ => by simp [scoreN]
  | k + 1, hk => by
    have ih := scoreN_bd h f k (by omega)
    simp only [valB, Bool.and_eq_true, decide_eq_true_eq] at h
    have := allB_at h.1.2 (i := k) (by omega) (by omega)
    simp only [scoreN]
    split <;> omega
def trioVal (w odd : List Int) : Int := bestN (fun c => scoreN w odd (fun q => playV (bitsM 6 c) q) 8) 64
def bitsL (c : Nat) : List Int := rowF (fun i => (bitN c i : Int)) 6
def rev6 (c : Nat) : Nat := c % 2 * 32 + c / 2 % 2 * 16 + c / 4 % 2 * 8 + c / 8 % 2 * 4 + c / 16 % 2 * 2 + c / 32
theorem rev6_lt {c : Nat} (h : c < 64) : rev6 c < 64 := by unfold rev6; omega
theorem bitsL_bits (c : Nat) : bitsB (bitsL c) 6 = true := by
  simp only [bitsB, bitsL, rowF_len, Bool.and_eq_true, allB, List.all_eq_true]
  refine ⟨by decide, ?_⟩
  intro x hx
  unfold rowF at hx
  obtain ⟨i, _, rfl⟩ := List.mem_map.1 hx
  exact inB_iff.2 ⟨by unfold bitN; omega, by unfold bitN; omega⟩
theorem bits_rev : ∀ c : Fin 64, bitsM 6 c = bitsL (rev6 c) ∧ bitsL c = bitsM 6 (rev6 c) := by decide +kernel
theorem trioVal_L (w odd : List Int) : bestN (fun c => scoreN w odd (fun q => playV (bitsL c) q) 8) 64 = trioVal w odd :=
  bestN_perm rev6 (fun _ => rev6_lt) (fun k hk => by rw [(bits_rev ⟨k, hk⟩).2]) (fun k hk => by rw [(bits_rev ⟨k, hk⟩).1])

end Go.Proofs.YtefbiejoikpkmaaGreat

namespace Go.Proofs.YtefbiejoikpkmaaGreat
open Go.RowKit
open Go
/-! quiet trios -/
def at2 (ll : List (List Int)) (q k : Nat) : Int := atZ (atZ ll (q : Int)) (k : Int)
/-- the numbers of the places that differ by a digit add up alike for the questions that differ by it -/
def quietAt (ll : List (List Int)) (d q a : Nat) : Bool := (q &&& d != 0) || decide (at2 ll q a + at2 ll q (a ^^^ d) = at2 ll (q ||| d) a + at2 ll (q ||| d) (a ^^^ d))
def quiet3 (ll : List (List Int)) : Bool := [4, 2, 1].all fun d => (List.range 8).all fun q => (List.range 8).all fun a => quietAt ll d q a
theorem range_all_f {f : Nat → Bool} {n k : Nat} (h : k < n) (hf : f k = false) : (List.range n).all f = false := by
  rw [← Bool.not_eq_true, List.all_eq_true]; intro H; have := H k (List.mem_range.2 h); rw [hf] at this; cases this
theorem range_all_s {f : Nat → Bool} {k : Nat} : (List.range (k + 1)).all f = ((List.range k).all f && f k) := by simp [List.range_succ]
theorem quiet_digit (p : Nat) (h : p < 3) : ∃ d : Nat, (4 : Int) / 2 ^ p = (d : Int) ∧ (∀ f : Nat → Bool, (List.take (p + 1) [4, 2, 1]).all f = ((List.take p [4, 2, 1]).all f && f d)) ∧ d ≤ 4 ∧ (∀ f : Nat → Bool, f d = false → [4, 2, 1].all f = false) ∧ (∀ a, a < 8 → a ^^^ d < 8) ∧ (∀ q, q < 8 → q ||| d < 8) ∧ 1 ≤ d := by
  have : p = 0 ∨ p = 1 ∨ p = 2 := by omega
  rcases this with rfl | rfl | rfl
  · exact ⟨4, by decide, fun f => by simp, by decide, fun f h => by simp [h], by decide, by decide, by decide⟩
  · exact ⟨2, by decide, fun f => by simp, by decide, fun f h => by simp [h], by decide, by decide, by decide⟩
  · exact ⟨1, by decide, fun f => by simp [Bool.and_assoc], by decide, fun f h => by simp [h], by decide, by decide, by decide⟩
def spQuietAt (ll : List (List Int)) (d q a : Nat) : Bool := (q &&& d != 0) || (a &&& d != 0) || decide (at2 ll q a + at2 ll q (a ^^^ d) = at2 ll (q ||| d) a + at2 ll (q ||| d) (a ^^^ d))
def spQuiet (ll : List (List Int)) (p : Nat) : Bool := (List.take p [1, 2, 4]).all fun d => (List.range 8).all fun q => (List.range 8).all fun a => spQuietAt ll d q a
theorem spQuiet_row {ll : List (List Int)} {d q : Nat} (h : d = 1 ∨ d = 2 ∨ d = 4) : ((List.range 8).all fun a => spQuietAt ll d q a) = ((List.range 8).all fun a => quietAt ll d q a) := by
  rw [Bool.eq_iff_iff, List.all_eq_true, List.all_eq_true]
  constructor
  · intro H a ha
    by_cases hd : a &&& d = 0
    · have := H a ha
      simpa [spQuietAt, quietAt, hd] using this
    · have hx : a ^^^ d < 8 ∧ (a ^^^ d) &&& d = 0 ∧ (a ^^^ d) ^^^ d = a := by
        have ha' := List.mem_range.1 ha
        have hall : ∀ d, (d = 1 ∨ d = 2 ∨ d = 4) → ∀ a, a < 8 → a &&& d ≠ 0 → a ^^^ d < 8 ∧ (a ^^^ d) &&& d = 0 ∧ (a ^^^ d) ^^^ d = a := by
          rintro d (rfl | rfl | rfl) <;> decide
        exact hall d h a ha' hd
      have := H (a ^^^ d) (List.mem_range.2 hx.1)
      simp only [spQuietAt, quietAt, hx.2.1, hx.2.2, Bool.or_eq_true, bne_iff_ne, ne_eq, not_true_eq_false, or_false, decide_eq_true_eq] at this ⊢
      rcases this with h1 | h1
      · exact .inl h1
      · right; omega
  · intro H a ha
    have := H a ha
    simp only [spQuietAt, quietAt, Bool.or_eq_true] at this ⊢
    rcases this with h1 | h1
    · exact .inl (.inl h1)
    · exact .inr h1
theorem spQuiet_eq (ll : List (List Int)) : spQuiet ll 3 = quiet3 ll := by
  have e : ∀ d, (d = 1 ∨ d = 2 ∨ d = 4) → ((List.range 8).all fun q => (List.range 8).all fun a => spQuietAt ll d q a) = ((List.range 8).all fun q => (List.range 8).all fun a => quietAt ll d q a) := fun d hd =>
    congrArg (List.all (List.range 8)) (funext fun q => spQuiet_row hd)
  unfold spQuiet quiet3
  simp only [List.take_succ_cons, List.take_zero, List.all_cons, List.all_nil, Bool.and_true]
  rw [e 1 (by simp), e 2 (by simp), e 4 (by simp)]
  cases (List.range 8).all fun q => (List.range 8).all fun a => quietAt ll 1 q a <;> cases (List.range 8).all fun q => (List.range 8).all fun a => quietAt ll 2 q a <;> cases (List.range 8).all fun q => (List.range 8).all fun a => quietAt ll 4 q a <;> rfl
def pw2 (p : Nat) : Nat := 2 ^ p
theorem spQuiet_digit (p : Nat) (h : p < 3) : ∃ d : Nat, pw2 p = d ∧ pw2 (p + 1) = d * 2 ∧ (∀ f : Nat → Bool, (List.take (p + 1) [1, 2, 4]).all f = ((List.take p [1, 2, 4]).all f && f d)) ∧ (∀ f : Nat → Bool, f d = false → (List.take 3 [1, 2, 4]).all f = false) ∧ (d = 1 ∨ d = 2 ∨ d = 4) := by
  have : p = 0 ∨ p = 1 ∨ p = 2 := by omega
  rcases this with rfl | rfl | rfl
  · exact ⟨1, by decide, by decide, fun f => by simp, fun f h => by simp [h], by simp⟩
  · exact ⟨2, by decide, by decide, fun f => by simp, fun f h => by simp [h], by simp⟩
  · exact ⟨4, by decide, by decide, fun f => by simp [Bool.and_assoc], fun f h => by simp [h], by simp⟩
theorem digit_add {d k : Nat} (hd : d = 1 ∨ d = 2 ∨ d = 4) (hk : k < 8) (h : k &&& d = 0) : k + d = k ^^^ d ∧ k + d = k ||| d ∧ k + d < 8 := by
  have hall : ∀ d, (d = 1 ∨ d = 2 ∨ d = 4) → ∀ k, k < 8 → k &&& d = 0 → k + d = k ^^^ d ∧ k + d = k ||| d ∧ k + d < 8 := by rintro d (rfl | rfl | rfl) <;> decide
  exact hall d hd k hk h

end Go.Proofs.YtefbiejoikpkmaaGreat

namespace Go.Proofs.YtefbiejoikpkmaaGreat
open Go.RowKit
open Go
/-! boxes -/
def row4B (n : Int) (row : List Int) : Bool := (decide (row.length = 4) && allB row 0 n) && decide (sum64 row = n)
def sizeB (x y : Int) : Bool := inB x 1 3 && inB y 1 3
def boxB (x y n : Int) (ll : List (List Int)) : Bool := ((sizeB x y && inB n 1 1000) && decide ((ll.length : Int) = x * y)) && ll.all (row4B n)
theorem sizeB_iff {x y : Int} : sizeB x y = true ↔ (1 ≤ x ∧ x ≤ 3) ∧ (1 ≤ y ∧ y ≤ 3) := by simp [sizeB, inB_iff]
theorem mul_bd3 {x y : Int} (h : sizeB x y = true) : 1 ≤ x * y ∧ x * y ≤ 9 := by
  obtain ⟨⟨a, b⟩, c, d⟩ := sizeB_iff.1 h
  rcases (by omega : x = 1 ∨ x = 2 ∨ x = 3) with rfl | rfl | rfl <;> rcases (by omega : y = 1 ∨ y = 2 ∨ y = 3) with rfl | rfl | rfl <;> decide
theorem wrap_mul3 {x y : Int} (h : sizeB x y = true) : IntKind.i64.wrap (x * y) = x * y := IntWalk.i64_in _ (by have := mul_bd3 h; omega)
theorem row4B_len {n : Int} {row : List Int} (h : row4B n row = true) : row.length = 4 ∧ ∀ k (hk : k < row.length), 0 ≤ row[k] ∧ row[k] ≤ n := by
  simp only [row4B, Bool.and_eq_true, decide_eq_true_eq, allB, List.all_eq_true] at h
  exact ⟨h.1.1, fun k hk => inB_iff.1 (h.1.2 _ (List.getElem_mem hk))⟩
theorem row4B_sum {n : Int} {row : List Int} (h : row4B n row = true) : sum64 row = n := by simp [row4B] at h; exact h.2
structure BoxOK (x y n : Int) (ll : List (List Int)) : Prop where
  x1 : 1 ≤ x
  x3 : x ≤ 3
  y1 : 1 ≤ y
  y3 : y ≤ 3
  n1 : 1 ≤ n
  n2 : n ≤ 1000
  len : (ll.length : Int) = x * y
  row : ∀ q, (hq : q < ll.length) → row4B n ll[q] = true
theorem boxB_spec {x y n : Int} {ll : List (List Int)} (h : boxB x y n ll = true) : BoxOK x y n ll := by
  simp only [boxB, Bool.and_eq_true, decide_eq_true_eq, List.all_eq_true] at h
  obtain ⟨⟨⟨h1, h2⟩, h3⟩, h4⟩ := h
  have a := sizeB_iff.1 h1
  have b := inB_iff.1 h2
  exact ⟨a.1.1, a.1.2, a.2.1, a.2.2, b.1, b.2, h3, fun q hq => h4 _ (List.getElem_mem hq)⟩
theorem boxB_at {x y n : Int} {ll : List (List Int)} (h : boxB x y n ll = true) {q : Int} (h0 : 0 ≤ q) (h8 : q < x * y) : (atZ ll q).length = 4 ∧ ∀ k : Int, 0 ≤ k → k < 4 → 0 ≤ atZ (atZ ll q) k ∧ atZ (atZ ll q) k ≤ n := by
  have hb := boxB_spec h
  obtain ⟨i, rfl⟩ := Int.eq_ofNat_of_zero_le h0
  have hi : i < ll.length := by have := hb.len; omega
  rw [atZ_nat hi]
  obtain ⟨h5, h6⟩ := row4B_len (hb.row i hi)
  refine ⟨h5, fun k hk0 hk8 => ?_⟩
  obtain ⟨j, rfl⟩ := Int.eq_ofNat_of_zero_le hk0
  rw [atZ_nat (by omega)]
  exact h6 j (by omega)
/-- the place of a pair of questions -/
theorem idx_lt {i k X Y : Int} (h0 : 0 ≤ i) (h1 : i < X) (h2 : 0 ≤ k) (h3 : k < Y) : 0 ≤ i * Y + k ∧ i * Y + k < X * Y ∧ 0 ≤ i * Y ∧ i * Y < X * Y := by
  have hY : 0 ≤ Y := by omega
  have a : 0 ≤ i * Y := Int.mul_nonneg h0 hY
  have b : (i + 1) * Y ≤ X * Y := Int.mul_le_mul_of_nonneg_right (by omega) hY
  rw [Int.add_mul, Int.one_mul] at b
  omega
theorem idx_ltN {i k X Y : Nat} (h1 : i < X) (h3 : k < Y) : Y * i + k < Y * X := by
  rw [Nat.mul_comm Y i, Nat.mul_comm Y X]
  have b : (i + 1) * Y ≤ X * Y := Nat.mul_le_mul_right _ (by omega)
  rw [Nat.add_mul, Nat.one_mul] at b
  omega
/-- the rows of a box told by a function of questions and place -/
def boxF (f : Nat → Nat → Nat → Int) (y n : Nat) : List (List Int) := (List.range n).map fun j => rowF (f (j / y) (j % y)) 4
@[simp] theorem boxF_len (f : Nat → Nat → Nat → Int) (y n : Nat) : (boxF f y n).length = n := by simp [boxF]
theorem boxF_snoc (f : Nat → Nat → Nat → Int) (y : Nat) (i k : Nat) (h : k < y) : boxF f y (y * i + (k + 1)) = boxF f y (y * i + k) ++ [rowF (f i k) 4] := by
  have e1 : (y * i + k) / y = i := by rw [Nat.mul_comm, Nat.add_comm, Nat.add_mul_div_right _ _ (by omega), Nat.div_eq_of_lt h, Nat.zero_add]
  have e2 : (y * i + k) % y = k := by rw [Nat.mul_comm, Nat.add_comm, Nat.add_mul_mod_self_right, Nat.mod_eq_of_lt h]
  simp [boxF, ← Nat.add_assoc, List.range_succ, e1, e2]
theorem boxF_at {f : Nat → Nat → Nat → Int} {y n : Nat} {j : Nat} (h : j < n) : atZ (boxF f y n) (j : Int) = rowF (f (j / y) (j % y)) 4 := by
  rw [atZ_nat (by simpa using h)]; simp [boxF]
/-- a box's number -/
def atB (ll : List (List Int)) (Y i k p : Int) : Int := atZ (atZ ll (i * Y + k)) p

end Go.Proofs.YtefbiejoikpkmaaGreat

namespace Go.Proofs.YtefbiejoikpkmaaGreat
open Go.RowKit
open Go
/-! numbers added up at places -/
def accN (s : Nat → Nat) (v : Nat → Int) : Nat → Nat → Int
  | 0, _ => 0
  | m + 1, p => accN s v m p + if s m = p then v m else 0
theorem accN_set (s : Nat → Nat) (v : Nat → Int) (m : Nat) (h : s m < 4) : (rowF (accN s v m) 4).set (s m) (accN s v m (s m) + v m) = rowF (accN s v (m + 1)) 4 := by
  rcases (by omega : s m = 0 ∨ s m = 1 ∨ s m = 2 ∨ s m = 3) with e | e | e | e <;> simp [rowF, accN, e, List.range, List.range.loop, List.set]
theorem accN_nn (s : Nat → Nat) (v : Nat → Int) : ∀ m p, (∀ t, t < m → 0 ≤ v t) → 0 ≤ accN s v m p
  | 0, _, _ => by simp [accN]
  | m + 1, p, h => by
    have := accN_nn s v m p fun t ht => h t (by omega)
    have := h m (by omega)
    simp only [accN]; split <;> omega
def pairB (x y n : Int) (ll : List (List Int)) : Bool := boxB x y n ll && (decide (x = 2) && decide (y = 2))
def agrZ (row : List Int) : Int := atZ row 0 - atZ row 1 - atZ row 2 + atZ row 3

end Go.Proofs.YtefbiejoikpkmaaGreat

namespace Go.Proofs.YtefbiejoikpkmaaGreat
open Go.RowKit
open Go
/-! lists told by two lists of questions -/
def pairsF {α : Type} (h : Int → Int → α) (l m : List Int) : List α := l.flatMap fun x => m.map fun y => h x y
def pairsP {α : Type} (h : Int → Int → α) (l m : List Int) (i k : Nat) : List α := (pairsF h (l.take i) m) ++ ((m.take k).map fun y => h (atZ l i) y)
/-- the numbers less than n -/
def cntL (n : Nat) : List Int := (List.range n).map fun i : Nat => (i : Int)
@[simp] theorem cntL_len (n : Nat) : (cntL n).length = n := by simp [cntL]
/-! games -/
def totB (l : List Int) : Int := sum64 l
def gameB (x y : Int) (ws : List Int) (wi : List (List Int)) : Bool := sizeB x y && (decide ((ws.length : Int) = x * y) && (allB ws 0 99 && (decide (sum64 ws ≠ 0) && (decide ((wi.length : Int) = x * y) && wi.all (fun l => bitsB l 4)))))
structure GameOK (x y : Int) (ws : List Int) (wi : List (List Int)) : Prop where
  x1 : 1 ≤ x
  x3 : x ≤ 3
  y1 : 1 ≤ y
  y3 : y ≤ 3
  wl : (ws.length : Int) = x * y
  il : (wi.length : Int) = x * y
  wb : allB ws 0 99 = true
  s0 : sum64 ws ≠ 0
  row : ∀ q, (hq : q < wi.length) → bitsB wi[q] 4 = true
theorem sum64_small {l : List Int} {m : Int} (hl : l.length ≤ 1000) (hb : allB l 0 m = true) (hm : 0 ≤ m) (hm2 : m ≤ 1000000) : sum64 l = l.sum ∧ 0 ≤ l.sum ∧ l.sum ≤ l.length * m := by
  have key : ∀ (l : List Int) (s : Int), 0 ≤ s → (∀ x ∈ l, 0 ≤ x ∧ x ≤ m) → s + l.length * m ≤ 1000000000000 → l.foldl (fun s n => IntKind.i64.wrap (s + n)) s = s + l.sum ∧ 0 ≤ l.sum ∧ l.sum ≤ l.length * m := by
    intro l
    induction l with
    | nil => intro s _ _ _; simp
    | cons x l ih =>
      intro s h0 hx hs
      have h1 := hx x (List.mem_cons_self ..)
      simp only [List.length_cons, Int.natCast_add, Int.add_mul] at hs ⊢
      have h2 : 0 ≤ (l.length : Int) * m := Int.mul_nonneg (by omega) hm
      obtain ⟨e1, e2, e3⟩ := ih (s + x) (by omega) (fun y hy => hx y (List.mem_cons_of_mem _ hy)) (by simp at hs; omega)
      rw [List.foldl_cons, IntWalk.i64_in _ (by simp at hs; omega), e1, List.sum_cons]
      simp at hs ⊢; omega
  unfold allB at hb
  rw [List.all_eq_true] at hb
  have hlm : (l.length : Int) * m ≤ 1000 * 1000000 := Int.mul_le_mul (by omega) hm2 hm (by omega)
  have := key l 0 (by omega) (fun x hx => inB_iff.1 (hb x hx)) (by omega)
  unfold sum64; omega

theorem mem_atZ {α : Type} [Inhabited α] {l : List α} {i : Nat} (h : i < l.length) : atZ l (i : Int) ∈ l := by rw [atZ_nat h]; exact List.getElem_mem _
def whenA {α : Type} (b : Bool) (l : List α) : List α := if b = true then l else []
def xor4 (k : Nat) (m : Int) : Int := ((k ^^^ m.toNat : Nat) : Int)
theorem xor4_eq {k : Nat} {m : Int} (hk : k < 4) (h0 : 0 ≤ m) (h4 : m < 4) : bits .xor .i64 (k : Int) m = xor4 k m ∧ 0 ≤ xor4 k m ∧ xor4 k m < 4 := by
  rcases (by omega : k = 0 ∨ k = 1 ∨ k = 2 ∨ k = 3) with rfl | rfl | rfl | rfl <;> rcases (by omega : m = 0 ∨ m = 1 ∨ m = 2 ∨ m = 3) with rfl | rfl | rfl | rfl <;> exact ⟨rfl, by decide, by decide⟩
def flipOf (fl : List Int) (X x y : Int) : Int := 2 * atZ fl x + atZ fl (X + y)
/-- the weights and the wins that are asked for -/
def askW (Y : Int) (ws : List Int) (x y : Int) : Int := atZ ws (x * Y + y)
def askR (X Y : Int) (wi : List (List Int)) (fl : List Int) (x y : Int) : List Int := rowF (fun k => atZ (atZ wi (x * Y + y)) (xor4 k (flipOf fl X x y))) 4
@[simp] theorem askR_len (X Y : Int) (wi : List (List Int)) (fl : List Int) (x y : Int) : (askR X Y wi fl x y).length = 4 := by simp [askR]
def flipB (X Y : Int) (ws : List Int) (wi : List (List Int)) (fl : List Int) : Bool := gameB X Y ws wi && bitsB fl (X + Y)
def flipR (X Y : Int) (wi : List (List Int)) (fl : List Int) : List (List Int) := pairsF (askR X Y wi fl) (cntL X.toNat) (cntL Y.toNat)
end Go.Proofs.YtefbiejoikpkmaaGreat

namespace Go.Proofs.YtefbiejoikpkmaaGreat
open Go.RowKit
set_option linter.unusedSectionVars false
variable [Glb]
open Go
/-! rules, wirings -/
def tabB (t : List (List Int)) (n m : Int) : Bool := decide ((t.length : Int) = n) && t.all (fun l => bitsB l m)
def ruleB (f : List Int) (a s : List (List Int)) : Bool := bitsB f 2 && (tabB a 2 2 && tabB s 2 4)
structure RuleOK (f : List Int) (a s : List (List Int)) : Prop where
  fl : f.length = 2
  al : a.length = 2
  sl : s.length = 2
  fb : ∀ i : Int, 0 ≤ i → i < 2 → 0 ≤ atZ f i ∧ atZ f i ≤ 1
  ab : ∀ i : Int, 0 ≤ i → i < 2 → bitsB (atZ a i) 2 = true
  sb : ∀ i : Int, 0 ≤ i → i < 2 → bitsB (atZ s i) 4 = true
theorem RuleOK.ask {f : List Int} {a s : List (List Int)} (h : RuleOK f a s) {x i : Int} (x0 : 0 ≤ x) (x1 : x < 2) (i0 : 0 ≤ i) (i1 : i < 2) : (atZ a x).length = 2 ∧ 0 ≤ atZ (atZ a x) i ∧ atZ (atZ a x) i ≤ 1 := by
  have hb := h.ab x x0 x1
  have hl := bitsB_len hb
  exact ⟨by omega, bitsB_at hb i0 i1⟩
/-- a sum, term by term -/
def accT (t : Nat → Int) : Nat → Int
  | 0 => 0
  | m + 1 => accT t m + t m
section
variable (la lb : List (List Int)) (f1 : List Int) (a1 s1 : List (List Int)) (f2 : List Int) (a2 s2 : List (List Int))
def wV (x y i j k l : Nat) : Int := atB la 2 (atZ f1 x) (atZ f2 y) ((2 * i + j : Nat) : Int) * atB lb 2 (atZ (atZ a1 x) i) (atZ (atZ a2 y) j) ((2 * k + l : Nat) : Int)
def wS (x y i j k l : Nat) : Nat := (2 * atZ (atZ s1 x) ((2 * i + k : Nat) : Int) + atZ (atZ s2 y) ((2 * j + l : Nat) : Int)).toNat
def wI (x y m p : Nat) : Int := accN (fun c => wS s1 s2 x y (c % 2) (c / 2 % 2) (c / 4 % 2) (c / 8 % 2)) (fun c => wV la lb f1 a1 f2 a2 x y (c % 2) (c / 2 % 2) (c / 4 % 2) (c / 8 % 2)) m p
def wP (x y m p : Nat) : Int := accN (fun m => wS s1 s2 x y (m / 8) (m / 4 % 2) (m / 2 % 2) (m % 2)) (fun m => wV la lb f1 a1 f2 a2 x y (m / 8) (m / 4 % 2) (m / 2 % 2) (m % 2)) m p
/-- the rows of a wiring -/
def wiredL : List (List Int) := boxF (fun x y p => wP la lb f1 a1 s1 f2 a2 s2 x y 16 p) 2 4
end
theorem box4 {X Y n : Int} {ll : List (List Int)} (h : boxB X Y n ll = true) {q : Int} (h0 : 0 ≤ q) (h1 : q < X * Y) : atZ (atZ ll q) 0 + atZ (atZ ll q) 1 + atZ (atZ ll q) 2 + atZ (atZ ll q) 3 = n := by
  have hb := boxB_spec h
  obtain ⟨i, rfl⟩ := Int.eq_ofNat_of_zero_le h0
  have hi : i < ll.length := by have := hb.len; omega
  rw [atZ_nat hi]
  have hr := hb.row i hi
  have hs := row4B_sum hr
  have hl := (row4B_len hr).1
  have hn := hb.n2
  have ha : allB ll[i] 0 n = true := by simp only [row4B, Bool.and_eq_true] at hr; exact hr.1.2
  rw [(sum64_small (l := ll[i]) (m := n) (by omega) ha (by have := hb.n1; omega) (by omega)).1] at hs
  generalize ll[i] = r at hs hl
  match r, hl with
  | [a, b, c, d], _ => simp [atZ] at hs ⊢; omega
theorem rowF4_sum (f : Nat → Int) (h : ∀ p, p < 4 → 0 ≤ f p ∧ f p ≤ 1000000) : sum64 (rowF f 4) = f 0 + f 1 + f 2 + f 3 := by
  have h0 := h 0 (by omega); have h1 := h 1 (by omega); have h2 := h 2 (by omega); have h3 := h 3 (by omega)
  have ha : allB (rowF f 4) 0 1000000 = true := by
    unfold allB; rw [List.all_eq_true]; intro x hx
    unfold rowF at hx; obtain ⟨p, hp, rfl⟩ := List.mem_map.1 hx
    exact inB_iff.2 (h p (List.mem_range.1 hp))
  rw [(sum64_small (l := rowF f 4) (m := 1000000) (by simp) ha (by omega) (by omega)).1]
  simp [rowF, List.range, List.range.loop]; omega
/-- rows told by a function make a box -/
theorem rows_box {x y : Nat} {n : Int} {f : Nat → Nat → Nat → Int} (hx : 1 ≤ x ∧ x ≤ 3) (hy : 1 ≤ y ∧ y ≤ 3) (h0 : 1 ≤ n) (h1 : n ≤ 1000000) (hf : ∀ i k, i < x → k < y → (∀ p, p < 4 → 0 ≤ f i k p) ∧ f i k 0 + f i k 1 + f i k 2 + f i k 3 = n) :
    boxB x y n (boxF f y (y * x)) = decide (n ≤ 1000) := by
  have hs : sizeB x y = true := sizeB_iff.2 ⟨⟨by omega, by omega⟩, by omega, by omega⟩
  have hl : ((boxF f y (y * x)).length : Int) = (x : Int) * y := by rw [boxF_len, Int.natCast_mul, Int.mul_comm]
  have hr : (boxF f y (y * x)).all (row4B n) = true := by
    rw [List.all_eq_true]; intro r hr
    unfold boxF at hr
    obtain ⟨j, hj, rfl⟩ := List.mem_map.1 hr
    have hj := List.mem_range.1 hj
    have hi : j / y < x := Nat.div_lt_of_lt_mul hj
    have hk : j % y < y := Nat.mod_lt _ (by omega)
    obtain ⟨a, b⟩ := hf _ _ hi hk
    generalize f (j / y) (j % y) = g at a b
    have a0 := a 0 (by omega); have a1 := a 1 (by omega); have a2 := a 2 (by omega); have a3 := a 3 (by omega)
    have bd : ∀ p, p < 4 → 0 ≤ g p ∧ g p ≤ n := fun p hp => by rcases (by omega : p = 0 ∨ p = 1 ∨ p = 2 ∨ p = 3) with rfl | rfl | rfl | rfl <;> omega
    have hsum := rowF4_sum g fun p hp => by have := bd p hp; omega
    simp only [row4B, rowF_len, decide_true, Bool.true_and, Bool.and_eq_true, decide_eq_true_eq, hsum, allB, List.all_eq_true]
    refine ⟨fun m hm => ?_, b⟩
    unfold rowF at hm; obtain ⟨p, hp, rfl⟩ := List.mem_map.1 hm
    exact inB_iff.2 (bd p (List.mem_range.1 hp))
  simp only [boxB, hs, hl, hr, decide_true, Bool.and_true, Bool.true_and, inB]
  simp; omega
section
variable {la lb : List (List Int)} {f1 : List Int} {a1 s1 : List (List Int)} {f2 : List Int} {a2 s2 : List (List Int)} {na nb : Int}
theorem atB_bd (ha : boxB 2 2 na la = true) {x y : Int} (x0 : 0 ≤ x) (x1 : x ≤ 1) (y0 : 0 ≤ y) (y1 : y ≤ 1) : (∀ p : Nat, p < 4 → 0 ≤ atB la 2 x y p ∧ atB la 2 x y p ≤ na) ∧ atB la 2 x y (0 : Nat) + atB la 2 x y (1 : Nat) + atB la 2 x y (2 : Nat) + atB la 2 x y (3 : Nat) = na :=
  ⟨fun p hp => (boxB_at ha (q := x * 2 + y) (by omega) (by omega)).2 p (by omega) (by omega), box4 ha (q := x * 2 + y) (by omega) (by omega)⟩
end
section
variable {la lb : List (List Int)} {f1 : List Int} {a1 s1 : List (List Int)} {f2 : List Int} {a2 s2 : List (List Int)} {na nb : Int}
end
def wiresB (xa ya na : Int) (la : List (List Int)) (xb yb nb : Int) (lb : List (List Int)) : Bool := pairB xa ya na la && (pairB xb yb nb lb && decide (na * nb ≤ 1000))
def wireOK (xa ya na : Int) (la : List (List Int)) (xb yb nb : Int) (lb : List (List Int)) (f1 : List Int) (a1 s1 : List (List Int)) (f2 : List Int) (a2 s2 : List (List Int)) : Bool :=
  wiresB xa ya na la xb yb nb lb && (ruleB f1 a1 s1 && ruleB f2 a2 s2)
theorem pairB_spec {x y n : Int} {ll : List (List Int)} (h : pairB x y n ll = true) : x = 2 ∧ y = 2 ∧ boxB 2 2 n ll = true ∧ 1 ≤ n ∧ n ≤ 1000 := by
  simp only [pairB, Bool.and_eq_true, decide_eq_true_eq] at h
  obtain ⟨h1, rfl, rfl⟩ := h
  exact ⟨rfl, rfl, h1, (boxB_spec h1).n1, (boxB_spec h1).n2⟩
def sumF : List Int := [0, 1]
def sumA : List (List Int) := [[0, 0], [1, 1]]
def sumS : List (List Int) := [[0, 1, 1, 0], [0, 1, 1, 0]]
def ruleA (asks : List Int) : List (List Int) := [[atZ asks 0, atZ asks 1], [atZ asks 2, atZ asks 3]]
/-- the rows of a wiring on the way -/
def wireM (W : Nat → Nat → Nat → Nat → Int) (j0 m : Nat) : List (List Int) := (List.range 4).map fun j => rowF (W (j / 2) (j % 2) (if j < j0 then 16 else if j = j0 then m else 0)) 4
@[simp] theorem wireM_len (W : Nat → Nat → Nat → Nat → Int) (j0 m : Nat) : (wireM W j0 m).length = 4 := by simp [wireM]
end Go.Proofs.YtefbiejoikpkmaaGreat

namespace Go.Proofs.YtefbiejoikpkmaaGreat
open Go.RowKit
set_option linter.unusedSectionVars false
variable [Glb]
open Go
/-! scenes, halls -/
def riseAt (l : List Int) (lo hi : Int) (i : Nat) : Bool := inB (atZ l i) lo hi && (decide (i = 0) || decide (atZ l ((i : Int) - 1) < atZ l i))
def riseB (l : List Int) (lo hi : Int) : Bool := (List.range l.length).all fun i => riseAt l lo hi i
def ctxB (n : Int) (l : List Int) : Bool := decide (0 < l.length) && riseB l 0 (n - 1)
def sceneB (ev : Int) (cc : List (List Int)) (ss : List Int) : Bool := inB ev 0 12 && (decide (cc.length ≤ 10) && (bitsB ss cc.length && cc.all (ctxB ev)))
structure SceneOK (ev : Int) (cc : List (List Int)) (ss : List Int) : Prop where
  e0 : 0 ≤ ev
  e12 : ev ≤ 12
  c10 : cc.length ≤ 10
  sl : ss.length = cc.length
  sb : bitsB ss cc.length = true
  ctx : ∀ q, (hq : q < cc.length) → ctxB ev cc[q] = true
def hallB (bx by_ bwh : Int) (bll : List (List Int)) (pl : List Int) (ev : Int) (cc : List (List Int)) (ss nu : List Int) (co : Int) : Bool :=
  boxB bx by_ bwh bll && (bitsB pl (bx + by_) && (sceneB ev cc ss && (bitsB nu ev && inB co 0 1000)))
/-- the least of numbers -/
def leastN (m : Int) (f : Nat → Int) : Nat → Int
  | 0 => m
  | k + 1 => min (leastN m f k) (f k)
def chanceF (Y X : Nat) (ll : List (List Int)) (pl : List Int) (j : Nat) : Int := atZ (atZ ll j) (2 * atZ pl ((j / Y : Nat) : Int) + atZ pl ((X : Int) + (j % Y : Nat)))
structure HallOK (bx by_ bwh : Int) (bll : List (List Int)) (pl : List Int) (ev : Int) (cc : List (List Int)) (ss nu : List Int) (co : Int) : Prop where
  box : boxB bx by_ bwh bll = true
  pl : bitsB pl (bx + by_) = true
  sc : sceneB ev cc ss = true
  nu : bitsB nu ev = true
  co : inB co 0 1000 = true
end Go.Proofs.YtefbiejoikpkmaaGreat

namespace Go.Proofs.YtefbiejoikpkmaaGreat
open Go.RowKit
set_option linter.unusedSectionVars false
variable [Glb]
open Go
/-! lists of questions that are used -/
def putZ : List Int → Int → List Int
  | [], n => [n]
  | a :: l, n => if a < n then a :: putZ l n else if a = n then a :: l else n :: a :: l
def usedL (n : Nat) (p : Nat → Bool) : List Int := ((List.range n).filter p).map fun i : Nat => (i : Int)
/-- a row, or a column, that has a weight -/
def rowU (ws : List Int) (Y : Nat) (x : Nat) : Bool := (List.range Y).any fun y => decide (atZ ws ((x : Int) * Y + y) ≠ 0)
def colU (ws : List Int) (X Y : Nat) (y : Nat) : Bool := (List.range X).any fun x => decide (atZ ws ((x : Int) * Y + y) ≠ 0)
def colS (ws : List Int) (Y : Nat) (y : Nat) : Nat → Int
  | 0 => 0
  | x + 1 => colS ws Y y x + atZ ws ((x : Int) * Y + y)
/-- what has been seen of the weights -/
def seenU (ws : List Int) (key : Nat → Nat) (i : Nat) (v : Nat) : Bool := (List.range i).any fun j => decide (atZ ws (j : Int) ≠ 0) && decide (key j = v)
/-! a game with some of its questions -/
def askO (Y : Int) (wi : List (List Int)) (x y : Int) : List Int := atZ wi (x * Y + y)
def zerosL (n : Nat) : List Int := List.replicate n 0
@[simp] theorem zerosL_len (n : Nat) : (zerosL n).length = n := by simp [zerosL]
def trim1 (X Y : Int) (ws : List Int) : List Int := usedL X.toNat (rowU ws Y.toNat)
def trim2 (X Y : Int) (ws : List Int) : List Int := usedL Y.toNat (colU ws X.toNat Y.toNat)
def trimW (X Y : Int) (ws : List Int) : List Int := pairsF (askW Y ws) (trim1 X Y ws) (trim2 X Y ws)
def trimR (X Y : Int) (ws : List Int) (wi : List (List Int)) : List (List Int) := pairsF (askO Y wi) (trim1 X Y ws) (trim2 X Y ws)
end Go.Proofs.YtefbiejoikpkmaaGreat

namespace Go.Proofs.YtefbiejoikpkmaaGreat
open Go.RowKit
set_option linter.unusedSectionVars false
variable [Glb]
open Go
/-! new halls -/
def newB (bx by_ bwh : Int) (bll : List (List Int)) (ev : Int) (cc : List (List Int)) (ss : List Int) : Bool := boxB bx by_ bwh bll && sceneB ev cc ss
structure NewOK (bx by_ bwh : Int) (bll : List (List Int)) (ev : Int) (cc : List (List Int)) (ss : List Int) : Prop where
  x1 : 1 ≤ bx
  x3 : bx ≤ 3
  y1 : 1 ≤ by_
  y3 : by_ ≤ 3
  e0 : 0 ≤ ev
  e12 : ev ≤ 12
  bl : bll.length ≤ 9
  br : ∀ r ∈ bll, r.length ≤ 1000000
  cl : cc.length ≤ 10
  cr : ∀ r ∈ cc, r.length ≤ 1000000
  cb : ∀ r ∈ cc, allB r 0 1000 = true
  sl : ss.length ≤ 10
structure HallBd (bll : List (List Int)) (pl : List Int) (cc : List (List Int)) (ss nu : List Int) : Prop where
  bl : bll.length ≤ 9
  br : ∀ r ∈ bll, r.length ≤ 1000000
  cl : cc.length ≤ 10
  cr : ∀ r ∈ cc, r.length ≤ 1000000
  cb : ∀ r ∈ cc, allB r 0 1000 = true
  sl : ss.length ≤ 10
  pl6 : pl.length ≤ 6
  nl : nu.length ≤ 12
end Go.Proofs.YtefbiejoikpkmaaGreat

namespace Go.Proofs.YtefbiejoikpkmaaGreat
open Go.RowKit
set_option linter.unusedSectionVars false
variable [Glb]
open Go
/-! the calls of a hall -/
theorem box_at {x y : Nat} {n : Int} {ll : List (List Int)} (h : boxB x y n ll = true) {i k : Nat} (hi : i < x) (hk : k < y) : (∀ p : Nat, p < 4 → 0 ≤ atB ll y i k p ∧ atB ll y i k p ≤ n) ∧ atB ll y i k ((0 : Nat) : Int) + atB ll y i k ((1 : Nat) : Int) + atB ll y i k ((2 : Nat) : Int) + atB ll y i k ((3 : Nat) : Int) = n := by
  have ix := idx_lt (i := (i : Int)) (k := (k : Int)) (X := x) (Y := y) (by omega) (by omega) (by omega) (by omega)
  exact ⟨fun p hp => (boxB_at h ix.1 ix.2.1).2 p (by omega) (by omega), by have := box4 h ix.1 ix.2.1; unfold atB; simpa using this⟩
/-- the sum of two boxes -/
def bmixF (la lb : List (List Int)) (Y : Nat) (i k p : Nat) : Int := atB la Y i k p + atB lb Y i k p
def bmixL (la lb : List (List Int)) (X Y : Int) : List (List Int) := boxF (bmixF la lb Y.toNat) Y.toNat (Y.toNat * X.toNat)
def sameB (x y n : Int) (la : List (List Int)) (x2 y2 m : Int) (lb : List (List Int)) : Bool := boxB x y n la && (boxB x2 y2 m lb && (decide (x = x2) && decide (y = y2)))
def bmixB (x y n : Int) (la : List (List Int)) (x2 y2 m : Int) (lb : List (List Int)) : Bool := sameB x y n la x2 y2 m lb && decide (n + m ≤ 1000)
theorem mix_box {x y : Nat} {n m : Int} {la lb : List (List Int)} (ha : boxB x y n la = true) (hb : boxB x y m lb = true) : boxB x y (n + m) (bmixL la lb x y) = decide (n + m ≤ 1000) := by
  have a := boxB_spec ha; have b := boxB_spec hb
  have a1 := a.x1; have a2 := a.x3; have a3 := a.y1; have a4 := a.y3; have a5 := a.n1; have a6 := a.n2; have b5 := b.n1; have b6 := b.n2
  unfold bmixL
  simp only [Int.toNat_natCast]
  refine rows_box (by omega) (by omega) (by omega) (by omega) fun i k hi hk => ?_
  obtain ⟨a7, a8⟩ := box_at ha hi hk
  obtain ⟨b7, b8⟩ := box_at hb hi hk
  exact ⟨fun p hp => by have := a7 p hp; have := b7 p hp; unfold bmixF; omega, by unfold bmixF; omega⟩
/-- the box of a play -/
def playF (pl : List Int) (X : Nat) (wh : Int) (i k p : Nat) : Int := if atZ pl i = ((p / 2 : Nat) : Int) ∧ atZ pl ((X : Int) + k) = ((p % 2 : Nat) : Int) then wh else 0
def playL (pl : List Int) (X Y wh : Int) : List (List Int) := boxF (playF pl X.toNat wh) Y.toNat (Y.toNat * X.toNat)
def playB (x y : Int) (pl : List Int) (wh : Int) : Bool := sizeB x y && (bitsB pl (x + y) && inB wh 1 1000)
/-- the box with the players swapped -/
def swapF (ll : List (List Int)) (Y : Nat) (i k p : Nat) : Int := atB ll Y k i ((2 * (p % 2) + p / 2 : Nat) : Int)
def swapL (ll : List (List Int)) (X Y : Int) : List (List Int) := boxF (swapF ll Y.toNat) X.toNat (X.toNat * Y.toNat)
/-- the box with flipped answers -/
def bflF (ll : List (List Int)) (X Y : Nat) (fl : List Int) (i k p : Nat) : Int := atB ll Y i k (xor4 p (flipOf fl X i k))
def bflL (ll : List (List Int)) (X Y : Int) (fl : List Int) : List (List Int) := boxF (bflF ll X.toNat Y.toNat fl) Y.toNat (Y.toNat * X.toNat)
/-- the box with the least numbers -/
def gcdI (a b : Int) : Int := ((Nat.gcd a.toNat b.toNat : Nat) : Int)
def gcdR (d : Int) (row : List Int) : Int := row.foldl gcdI d
def gcdL (d : Int) (ll : List (List Int)) : Int := ll.foldl gcdR d
theorem gcdI_pos {a b : Int} (ha : 1 ≤ a) : 1 ≤ gcdI a b ∧ gcdI a b ≤ a := by
  have h1 : 0 < Nat.gcd a.toNat b.toNat := Nat.gcd_pos_of_pos_left _ (by omega)
  have h2 : Nat.gcd a.toNat b.toNat ≤ a.toNat := Nat.gcd_le_left _ (by omega)
  unfold gcdI; omega
theorem gcdR_pos : ∀ {row : List Int} {d : Int}, 1 ≤ d → 1 ≤ gcdR d row ∧ gcdR d row ≤ d
  | [], d, h => ⟨h, Int.le_refl _⟩
  | x :: row, d, h => by
    have a := gcdI_pos (b := x) h
    have b := gcdR_pos (row := row) a.1
    unfold gcdR at *
    rw [List.foldl_cons]; omega
theorem gcdL_pos : ∀ {ll : List (List Int)} {d : Int}, 1 ≤ d → 1 ≤ gcdL d ll ∧ gcdL d ll ≤ d
  | [], d, h => ⟨h, Int.le_refl _⟩
  | x :: ll, d, h => by
    have a := gcdR_pos (row := x) h
    have b := gcdL_pos (ll := ll) a.1
    unfold gcdL at *
    rw [List.foldl_cons]; omega
theorem gcdR_snoc {row : List Int} {d : Int} {k : Nat} (h : k < row.length) : gcdR d (row.take (k + 1)) = gcdI (gcdR d (row.take k)) (atZ row k) := by
  unfold gcdR; rw [List.take_succ_eq_append_getElem h, List.foldl_append, atZ_nat h]; rfl
theorem gcdL_snoc {ll : List (List Int)} {d : Int} {k : Nat} (h : k < ll.length) : gcdL d (ll.take (k + 1)) = gcdR (gcdL d (ll.take k)) (atZ ll k) := by
  unfold gcdL; rw [List.take_succ_eq_append_getElem h, List.foldl_append, atZ_nat h]; rfl
theorem gcd_step {a b : Int} (ha : 0 ≤ a) (hb : 1 ≤ b) : gcdI b (a % b) = gcdI a b := by
  have h0 := Int.emod_nonneg a (show b ≠ 0 by omega)
  have e : (a % b).toNat = a.toNat % b.toNat := by
    have h1 := Int.toNat_of_nonneg ha
    have h2 := Int.toNat_of_nonneg (show 0 ≤ b by omega)
    have : (a % b) = ((a.toNat % b.toNat : Nat) : Int) := by rw [Int.natCast_emod, h1, h2]
    omega
  unfold gcdI
  rw [e, Nat.gcd_comm a.toNat b.toNat, Nat.gcd_rec b.toNat a.toNat, Nat.gcd_comm]
theorem gcd_zero {a : Int} (ha : 0 ≤ a) : gcdI a 0 = a := by
  unfold gcdI; simp; omega
def redF (ll : List (List Int)) (Y : Nat) (d : Int) (i k p : Nat) : Int := atB ll Y i k p / d
def redL (ll : List (List Int)) (X Y : Int) (d : Int) : List (List Int) := boxF (redF ll Y.toNat d) Y.toNat (Y.toNat * X.toNat)
/-- the sums of a scene with an event flipped -/
def evF (cc : List (List Int)) (ss : List Int) (e : Int) (i : Nat) : Int := if (atZ cc (i : Int)).contains e = true then 1 - atZ ss i else atZ ss i
def evL (cc : List (List Int)) (ss : List Int) (e : Int) : List Int := rowF (evF cc ss e) ss.length
/-- the sums of which the first k are done -/
def evM (cc : List (List Int)) (ss : List Int) (e : Int) (k : Nat) : List Int := rowF (fun j => if j < k then evF cc ss e j else atZ ss (j : Int)) ss.length
@[simp] theorem evM_len (cc : List (List Int)) (ss : List Int) (e : Int) (k : Nat) : (evM cc ss e k).length = ss.length := by simp [evM]
@[simp] theorem evL_len (cc : List (List Int)) (ss : List Int) (e : Int) : (evL cc ss e).length = ss.length := by simp [evL]
theorem emod_bd0 {x n : Int} (hx : 0 ≤ x) (hn : 0 < n) : 0 ≤ x % n ∧ x % n < n ∧ x % n ≤ x := by
  refine ⟨Int.emod_nonneg _ (by omega), Int.emod_lt_of_pos _ (by omega), ?_⟩
  have h1 := Int.emod_add_mul_ediv x n
  have h2 : 0 ≤ n * (x / n) := Int.mul_nonneg (by omega) (Int.ediv_nonneg hx (by omega))
  omega
/-! halls as data -/
structure HD where
  bx : Int
  by_ : Int
  bwh : Int
  bll : List (List Int)
  pl : List Int
  ev : Int
  cc : List (List Int)
  ss : List Int
  nu : List Int
  co : Int
structure HV (h : HD) : Prop where
  box : boxB h.bx h.by_ h.bwh h.bll = true
  pl : bitsB h.pl (h.bx + h.by_) = true
  sc : sceneB h.ev h.cc h.ss = true
  nu : bitsB h.nu h.ev = true
/-- 1 at one place -/
def oneL (n : Nat) (a : Int) : List Int := (List.replicate n (0 : Int)).set a.toNat 1
@[simp] theorem oneL_len (n : Nat) (a : Int) : (oneL n a).length = n := by simp [oneL]
def mixOK (h : HD) (a : Int) : Bool := playB h.bx h.by_ h.pl a && bmixB h.bx h.by_ h.bwh h.bll h.bx h.by_ a (playL h.pl h.bx h.by_ a)
def callT (h : HD) (k a : Int) : Option HD :=
  if k = 1 then if mixOK h a = true then some { h with bwh := h.bwh + a, bll := bmixL h.bll (playL h.pl h.bx h.by_ a) h.bx h.by_ } else none
  else if k = 2 then if inB a 0 (h.pl.length - 1) = true then some { h with pl := h.pl.set a.toNat (1 - atZ h.pl a) } else none
  else if k = 3 then if inB a 0 (h.pl.length - 1) = true then some { h with bll := bflL h.bll h.bx h.by_ (oneL h.pl.length a) } else none
  else if k = 4 then if a = 0 then some { h with bx := h.by_, by_ := h.bx, bll := swapL h.bll h.bx h.by_, pl := partZ h.pl h.bx h.pl.length ++ partZ h.pl 0 h.bx } else none
  else if k = 5 then if a = 0 then some { h with bwh := h.bwh / gcdL h.bwh h.bll, bll := redL h.bll h.bx h.by_ (gcdL h.bwh h.bll) } else none
  else if k = 6 then if inB a 0 (h.nu.length - 1) = true then some { h with nu := h.nu.set a.toNat (1 - atZ h.nu a) } else none
  else if k = 7 then if inB a 0 (h.ev - 1) = true then some { h with ss := evL h.cc h.ss a } else none
  else none
/-! rows told one by one -/
def rowsF (g : Nat → Nat → Int) (n : Nat) : List (List Int) := (List.range n).map fun j => rowF (g j) 4
@[simp] theorem rowsF_len (g : Nat → Nat → Int) (n : Nat) : (rowsF g n).length = n := by simp [rowsF]
theorem rowsF_snoc (g : Nat → Nat → Int) (n : Nat) : rowsF g (n + 1) = rowsF g n ++ [rowF (g n) 4] := by simp [rowsF, List.range_succ]
theorem boxF_rows {f : Nat → Nat → Nat → Int} {g : Nat → Nat → Int} {y n : Nat} (h : ∀ j p, j < n → p < 4 → f (j / y) (j % y) p = g j p) : boxF f y n = rowsF g n := by
  unfold boxF rowsF
  exact List.map_congr_left fun j hj => rowF_congr fun p hp => h j p (List.mem_range.1 hj) hp
theorem atB_row (ll : List (List Int)) (y j : Nat) (p : Int) : atB ll y ((j / y : Nat) : Int) ((j % y : Nat) : Int) p = atZ (atZ ll (j : Int)) p := by
  unfold atB
  have : ((j / y : Nat) : Int) * (y : Int) + ((j % y : Nat) : Int) = (j : Int) := by
    have := Nat.div_add_mod j y
    rw [← Int.natCast_mul, ← Int.natCast_add, Nat.mul_comm, this]
  rw [this]
def mixR (la lb : List (List Int)) (j p : Nat) : Int := atZ (atZ la (j : Int)) (p : Int) + atZ (atZ lb (j : Int)) (p : Int)
theorem bmixL_rows {x y : Nat} (la lb : List (List Int)) : bmixL la lb x y = rowsF (mixR la lb) (y * x) := by
  unfold bmixL
  simp only [Int.toNat_natCast]
  exact boxF_rows fun j p _ _ => by unfold bmixF mixR; rw [atB_row, atB_row]
def redR (ll : List (List Int)) (d : Int) (j p : Nat) : Int := atZ (atZ ll (j : Int)) (p : Int) / d
theorem redL_rows {x y : Nat} (ll : List (List Int)) (d : Int) : redL ll x y d = rowsF (redR ll d) (y * x) := by
  unfold redL
  simp only [Int.toNat_natCast]
  exact boxF_rows fun j p _ _ => by unfold redF redR; rw [atB_row]
/-- a row with flipped answers, on the way -/
def flM (row : List Int) (m : Int) (k : Nat) : List Int := rowF (fun j => if (xor4 j m).toNat < k then atZ row (xor4 j m) else 0) 4
@[simp] theorem flM_len (row : List Int) (m : Int) (k : Nat) : (flM row m k).length = 4 := by simp [flM]
theorem flM_zero (row : List Int) (m : Int) : flM row m 0 = List.replicate 4 0 := by simp [flM, rowF, List.range, List.range.loop]
theorem flM_set {row : List Int} {m : Int} {k : Nat} (hm : 0 ≤ m ∧ m < 4) (hk : k < 4) : (flM row m k).set (xor4 k m).toNat (atZ row k) = flM row m (k + 1) := by
  rcases (by omega : k = 0 ∨ k = 1 ∨ k = 2 ∨ k = 3) with rfl | rfl | rfl | rfl <;> rcases (by omega : m = 0 ∨ m = 1 ∨ m = 2 ∨ m = 3) with rfl | rfl | rfl | rfl <;> rfl
theorem flM_all (row : List Int) {m : Int} (hm : 0 ≤ m ∧ m < 4) : flM row m 4 = rowF (fun j => atZ row (xor4 j m)) 4 := by
  unfold flM
  refine rowF_congr fun j hj => if_pos ?_
  have := (xor4_eq hj hm.1 hm.2).2
  omega
theorem play_row {f g wh : Int} (hf : 0 ≤ f ∧ f ≤ 1) (hg : 0 ≤ g ∧ g ≤ 1) : (List.replicate 4 (0 : Int)).set (2 * f + g).toNat wh = rowF (fun p => if f = ((p / 2 : Nat) : Int) ∧ g = ((p % 2 : Nat) : Int) then wh else 0) 4 := by
  rcases (by omega : f = 0 ∨ f = 1) with rfl | rfl <;> rcases (by omega : g = 0 ∨ g = 1) with rfl | rfl <;> simp [rowF, List.range, List.range.loop]

end Go.Proofs.YtefbiejoikpkmaaGreat

namespace Go.Proofs.YtefbiejoikpkmaaGreat
open Go.RowKit
set_option linter.unusedSectionVars false
variable [Glb]
open Go
/-! the eight sums of a box; the first of the greatest -/
def difK (k x y : Nat) : Int := ((x * y + k / 4 % 2 * x + k / 2 % 2 * y + k % 2) % 2 : Nat)
theorem difK_bd (k x y : Nat) : 0 ≤ difK k x y ∧ difK k x y ≤ 1 := by unfold difK; omega
def sgnT (ll : List (List Int)) (k j : Nat) : Int := agrZ (atZ ll (j : Int)) * (1 - 2 * difK k (j / 2) (j % 2))
def sgnK (ll : List (List Int)) (k : Nat) : Int := accT (sgnT ll k) 4
def sumsL (ll : List (List Int)) : List Int := rowF (sgnK ll) 8
theorem agr_bd {n : Int} {ll : List (List Int)} (h : boxB 2 2 n ll = true) {j : Nat} (hj : j < 4) : -n ≤ agrZ (atZ ll (j : Int)) ∧ agrZ (atZ ll (j : Int)) ≤ n := by
  have hb := boxB_at h (q := (j : Int)) (by omega) (by omega)
  have b4 := box4 h (q := (j : Int)) (by omega) (by omega)
  have v0 := hb.2 0 (by omega) (by omega)
  have v1 := hb.2 1 (by omega) (by omega)
  have v2 := hb.2 2 (by omega) (by omega)
  have v3 := hb.2 3 (by omega) (by omega)
  unfold agrZ; omega
theorem sign_bd {a d n : Int} (h1 : -n ≤ a) (h2 : a ≤ n) (hd : 0 ≤ d ∧ d ≤ 1) : (1 - 2 * d = 1 ∨ 1 - 2 * d = -1) ∧ -n ≤ a * (1 - 2 * d) ∧ a * (1 - 2 * d) ≤ n := by
  rcases (by omega : d = 0 ∨ d = 1) with rfl | rfl
  · exact ⟨.inl rfl, by omega, by omega⟩
  · exact ⟨.inr rfl, by omega, by omega⟩
theorem sgnT_bd {n : Int} {ll : List (List Int)} (h : boxB 2 2 n ll = true) (k : Nat) {j : Nat} (hj : j < 4) : -n ≤ sgnT ll k j ∧ sgnT ll k j ≤ n := by
  have a := agr_bd h hj
  exact (sign_bd a.1 a.2 (difK_bd k (j / 2) (j % 2))).2
theorem accT_bd {t : Nat → Int} {n : Int} (hn : 0 ≤ n) : ∀ {m : Nat}, (∀ j, j < m → -n ≤ t j ∧ t j ≤ n) → -(m * n) ≤ accT t m ∧ accT t m ≤ m * n
  | 0, _ => by simp [accT]
  | m + 1, h => by
    have := accT_bd hn (m := m) fun j hj => h j (by omega)
    have h2 := h m (by omega)
    simp only [accT]
    rw [show ((m + 1 : Nat) : Int) * n = m * n + n by rw [Int.natCast_add, Int.add_mul]; simp]
    omega
/-- the place of the first of the greatest numbers -/
def bstT (s : Nat → Int) : Nat → Nat
  | 0 => 0
  | 1 => 0
  | t + 2 => if s (bstT s (t + 1)) < s (t + 1) then t + 1 else bstT s (t + 1)
/-- the box of a pair of ask lists -/
def askRow (k : Nat) : List Int := bitsM 4 k
def askLL (la lb : List (List Int)) (t : Nat) : List (List Int) := wiredL la lb sumF (ruleA (askRow (t / 16))) sumS sumF (ruleA (askRow (t % 16))) sumS
def askS (la lb : List (List Int)) (k : Nat) (t : Nat) : Int := sgnK (askLL la lb t) k
def bestP (la lb : List (List Int)) (k : Nat) : Nat := bstT (askS la lb k) 256
def bestB (xa ya na : Int) (la : List (List Int)) (xb yb nb : Int) (lb : List (List Int)) (k : Int) : Bool := wiresB xa ya na la xb yb nb lb && inB k 0 7
def firstA (s : Nat → Int) : Nat → List Int
  | 0 => []
  | t + 1 => askRow (bstT s (t + 1) / 16)
def secondA (s : Nat → Int) : Nat → List Int
  | 0 => []
  | t + 1 => askRow (bstT s (t + 1) % 16)
def mostA (s : Nat → Int) : Nat → Int
  | 0 => 0
  | t + 1 => s (bstT s (t + 1))
def foundA : Nat → Bool
  | 0 => false
  | _ + 1 => true
theorem sumsL_at (ll : List (List Int)) {k : Nat} (h : k < 8) : atZ (sumsL ll) (k : Int) = sgnK ll k := rowF_atZ _ h
end Go.Proofs.YtefbiejoikpkmaaGreat

namespace Go.Proofs.YtefbiejoikpkmaaGreat
open Go.RowKit
open Go
/-! the box of two players of a trio -/
def two2 (a : Int) (x y : Nat) : Nat := x * 2 ^ (2 - oth1 a) + y * 2 ^ (2 - oth2 a)
def pairV (a : Int) (ll : List (List Int)) (x y p : Nat) : Int := atZ (atZ ll (two2 a x y)) (two2 a (p / 2) (p % 2)) + atZ (atZ ll (two2 a x y)) ((two2 a (p / 2) (p % 2) + 2 ^ (2 - a.toNat) : Nat) : Int)
/-- the place of the answers of the two players -/
def dig3 (k : Nat) (j : Nat) : Nat := k / 2 ^ (2 - j) % 2
def place2 (a : Int) (k : Nat) : Nat := 2 * dig3 k (oth1 a) + dig3 k (oth2 a)
theorem place2_lt (a : Int) (k : Nat) : place2 a k < 4 := by unfold place2 dig3; omega
theorem pair_row {a : Int} (h : a = 0 ∨ a = 1 ∨ a = 2) (v : Nat → Int) (p : Nat) (hp : p < 4) : accN (place2 a) v 8 p = v (two2 a (p / 2) (p % 2)) + v (two2 a (p / 2) (p % 2) + 2 ^ (2 - a.toNat)) := by
  rcases h with rfl | rfl | rfl <;> rcases (by omega : p = 0 ∨ p = 1 ∨ p = 2 ∨ p = 3) with rfl | rfl | rfl | rfl <;> simp [accN, place2, dig3, two2, oth1, oth2]
def pairOfB (m : Int) (ll : List (List Int)) (a : Int) : Bool := trioB m ll && (quiet3 ll && inB a 0 2)
theorem accN_le2 (s : Nat → Nat) (v : Nat → Int) (M : Int) (hM : 0 ≤ M) : ∀ m p, (∀ t, t < m → v t ≤ M) → accN s v m p ≤ m * M
  | 0, _, _ => by simp [accN]
  | m + 1, p, h => by
    have := accN_le2 s v M hM m p fun t ht => h t (by omega)
    have := h m (by omega)
    simp only [accN, Int.natCast_add, Int.add_mul]; split <;> omega
def pairG (a : Int) (ll : List (List Int)) (x y k : Nat) : Int := atZ (atZ ll (two2 a x y)) (k : Nat)
def pairA (a : Int) (ll : List (List Int)) (x y m p : Nat) : Int := accN (place2 a) (pairG a ll x y) m p
theorem pairA_8 {a : Int} (h : a = 0 ∨ a = 1 ∨ a = 2) (ll : List (List Int)) (x y : Nat) : rowF (pairA a ll x y 8) 4 = rowF (pairV a ll x y) 4 :=
  rowF_congr fun p hp => by unfold pairA; rw [pair_row h _ p hp]; rfl
theorem two2_lt {a : Int} (h : a = 0 ∨ a = 1 ∨ a = 2) {x y : Nat} (hx : x ≤ 1) (hy : y ≤ 1) : two2 a x y < 8 ∧ two2 a x y + 2 ^ (2 - a.toNat) < 8 := by
  rcases h with rfl | rfl | rfl <;> simp [two2, oth1, oth2] <;> omega
theorem pairA_bd {a n : Int} {ll : List (List Int)} (ht : trioB n ll = true) (h : a = 0 ∨ a = 1 ∨ a = 2) {x y : Nat} (hx : x ≤ 1) (hy : y ≤ 1) {m : Nat} (hm : m ≤ 8) (p : Nat) : 0 ≤ pairA a ll x y m p ∧ pairA a ll x y m p ≤ 8000 := by
  have h2 := two2_lt h hx hy
  have hr := trioB_at ht (q := two2 a x y) (by omega) (by omega)
  have hn := (trioB_spec ht).2.1
  have b : ∀ t, t < m → 0 ≤ pairG a ll x y t ∧ pairG a ll x y t ≤ 1000 := fun t htm => by have := hr.2 t (by omega) (by omega); unfold pairG; omega
  refine ⟨accN_nn _ _ _ _ fun t h => (b t h).1, ?_⟩
  have := accN_le2 (place2 a) (pairG a ll x y) 1000 (by omega) m p fun t h => (b t h).2
  unfold pairA; omega
theorem digit_at {k j : Nat} (hk : k < 8) (hj : j ≤ 2) : atZ [(k : Int) / 4, (k : Int) / 2 % 2, (k : Int) % 2] (j : Int) = ((dig3 k j : Nat) : Int) := by
  rcases (by omega : j = 0 ∨ j = 1 ∨ j = 2) with rfl | rfl | rfl <;> simp [atZ, dig3] <;> omega
theorem dig3_le (k j : Nat) : dig3 k j ≤ 1 := by unfold dig3; omega
theorem pairA_set {a : Int} {ll : List (List Int)} {x y k : Nat} (T : Nat) (hT : T = two2 a x y) : (rowF (pairA a ll x y k) 4).set (place2 a k) (pairA a ll x y k (place2 a k) + atZ (atZ ll (T : Int)) (k : Int)) = rowF (pairA a ll x y (k + 1)) 4 := by
  subst hT
  have := accN_set (place2 a) (pairG a ll x y) k (place2_lt a k)
  unfold pairA
  rw [← this]; rfl
theorem two_sum {a : Int} (h : a = 0 ∨ a = 1 ∨ a = 2) {x y : Nat} (hx : x ≤ 1) (hy : y ≤ 1) : (x : Int) * 2 ^ (2 - (oth1 a : Int)).toNat + (y : Int) * 2 ^ (2 - (oth2 a : Int)).toNat = ((two2 a x y : Nat) : Int) := by
  rcases h with rfl | rfl | rfl <;> rcases (by omega : x = 0 ∨ x = 1) with rfl | rfl <;> rcases (by omega : y = 0 ∨ y = 1) with rfl | rfl <;> rfl

end Go.Proofs.YtefbiejoikpkmaaGreat

namespace Go.Proofs.YtefbiejoikpkmaaGreat
open Go.RowKit
open Go
/-! a box and a third player -/
def thirdF (ll : List (List Int)) (ch : List Int) (most : Int) (q k : Nat) : Int := atZ (atZ ll ((q : Int) / 2)) ((k : Int) / 2) * (if (k : Int) % 2 = 0 then most - atZ ch ((q : Int) % 2) else atZ ch ((q : Int) % 2))
def thirdB (x y n : Int) (ll : List (List Int)) (ch : List Int) (most : Int) : Bool := pairB x y n ll && (decide ((ch.length : Int) = 2) && (inB most 1 1000 && allB ch 0 most))
def thirdOK (x y n : Int) (ll : List (List Int)) (ch : List Int) (most : Int) : Bool := thirdB x y n ll ch most && trioB (n * most) (gridF (thirdF ll ch most) 8 8)
structure ThirdOK (x y n : Int) (ll : List (List Int)) (ch : List Int) (most : Int) : Prop where
  x2 : x = 2
  y2 : y = 2
  box : boxB 2 2 n ll = true
  cl : ch.length = 2
  m1 : 1 ≤ most
  m2 : most ≤ 1000
  cb : ∀ i : Int, 0 ≤ i → i < 2 → 0 ≤ atZ ch i ∧ atZ ch i ≤ most
  n1 : 1 ≤ n
  n2 : n ≤ 1000
  p1 : 1 ≤ n * most
  p2 : n * most ≤ 1000000
theorem thirdB_spec {x y n : Int} {ll : List (List Int)} {ch : List Int} {most : Int} (h : thirdB x y n ll ch most = true) : ThirdOK x y n ll ch most := by
  simp only [thirdB, pairB, Bool.and_eq_true, decide_eq_true_eq] at h
  obtain ⟨⟨h1, hx, hy⟩, h2, h3, h4⟩ := h
  subst hx hy
  have b := boxB_spec h1
  have c := inB_iff.1 h3
  have n1 := b.n1
  have n2 := b.n2
  refine ⟨rfl, rfl, h1, by omega, c.1, c.2, fun i h0 hi => allB_at h4 h0 (by omega), b.n1, b.n2, ?_, ?_⟩
  · have := Int.mul_le_mul n1 c.1 (by omega) (by omega); omega
  · exact Int.le_trans (Int.mul_le_mul n2 c.2 (by omega) (by omega)) (by decide)
theorem chances2 {ch : List Int} {m : Int} (h : ch.length = 2) : allB ch 0 m = (inB (atZ ch 0) 0 m && inB (atZ ch 1) 0 m) := by
  match ch, h with
  | [a, b], _ => simp [allB, atZ]
theorem third_mul {ll : List (List Int)} {ch : List Int} {most n x y : Int} (h : ThirdOK x y n ll ch most) {q k : Nat} (hq : q < 8) (hk : k < 8) :
    ((atZ ll ((q : Int) / 2)).length = 4 ∧ 0 ≤ atZ (atZ ll ((q : Int) / 2)) ((k : Int) / 2) ∧ atZ (atZ ll ((q : Int) / 2)) ((k : Int) / 2) ≤ 1000) ∧ (0 ≤ atZ ch ((q : Int) % 2) ∧ atZ ch ((q : Int) % 2) ≤ most) ∧
    (0 ≤ atZ (atZ ll ((q : Int) / 2)) ((k : Int) / 2) * (most - atZ ch ((q : Int) % 2)) ∧ atZ (atZ ll ((q : Int) / 2)) ((k : Int) / 2) * (most - atZ ch ((q : Int) % 2)) ≤ 1000000) ∧
    (0 ≤ atZ (atZ ll ((q : Int) / 2)) ((k : Int) / 2) * atZ ch ((q : Int) % 2) ∧ atZ (atZ ll ((q : Int) / 2)) ((k : Int) / 2) * atZ ch ((q : Int) % 2) ≤ 1000000) := by
  have r := boxB_at h.box (q := (q : Int) / 2) (by omega) (by omega)
  have e := r.2 ((k : Int) / 2) (by omega) (by omega)
  have c := h.cb ((q : Int) % 2) (by omega) (by omega)
  have n2 := h.n2
  have m2 := h.m2
  refine ⟨⟨r.1, e.1, by omega⟩, c, ⟨Int.mul_nonneg e.1 (by omega), ?_⟩, ⟨Int.mul_nonneg e.1 (by omega), ?_⟩⟩
  · exact Int.le_trans (Int.mul_le_mul (by omega : _ ≤ (1000 : Int)) (by omega : _ ≤ (1000 : Int)) (by omega) (by omega)) (by decide)
  · exact Int.le_trans (Int.mul_le_mul (by omega : _ ≤ (1000 : Int)) (by omega : _ ≤ (1000 : Int)) (by omega) (by omega)) (by decide)

end Go.Proofs.YtefbiejoikpkmaaGreat

namespace Go.Proofs.YtefbiejoikpkmaaGreat
open Go.RowKit
set_option linter.unusedSectionVars false
variable [Glb]
open Go Go.RowKit
/-! lists of structs -/
section
variable {α : Type} {c : α → List D} {n : Nat}
theorem flatL_len (hc : ∀ a, (c a).length = n) : ∀ l : List α, (l.flatMap c).length = l.length * n
  | [] => by simp
  | a :: l => by rw [List.flatMap_cons, List.length_append, hc, flatL_len hc l, List.length_cons, Nat.add_mul]; omega
theorem flatL_split (hc : ∀ a, (c a).length = n) {l : List α} {j : Nat} (h : j < l.length) : l.flatMap c = (l.take j).flatMap c ++ (c l[j] ++ (l.drop (j + 1)).flatMap c) ∧ ((l.take j).flatMap c).length = j * n := by
  refine ⟨?_, by rw [flatL_len hc, List.length_take]; congr 1; omega⟩
  conv => lhs; rw [← List.take_append_drop j l, List.drop_eq_getElem_cons h]
  simp only [List.flatMap_append, List.flatMap_cons]
theorem flatL_cut (hc : ∀ a, (c a).length = n) {l : List α} {j : Nat} {e : α} (h : l[j]? = some e) : ((l.flatMap c).drop (j * n)).take n = c e := by
  obtain ⟨hlt, rfl⟩ := List.getElem?_eq_some_iff.1 h
  obtain ⟨h1, h2⟩ := flatL_split hc hlt
  rw [h1, ← h2, List.drop_left, ← hc l[j], List.take_left]
/-- a list that is filled from the front -/
def fillS (c : α → List D) (z : List D) (l : List α) (k : Nat) : List D := (l.take k).flatMap c ++ repL' (l.length - k) z
end
/-! marks -/
def mkS {α : Type} (m : Int → α → α) (w : α → Nat) : Int → List α → List α
  | _, [] => []
  | k, r :: l => m k r :: mkS m w (k + w r) l
def cntS {α : Type} (w : α → Nat) : List α → Nat
  | [] => 0
  | r :: l => w r + cntS w l
def mkSL {α : Type} (m : Int → α → α) (w : α → Nat) (l : List α) (k : Int) (j : Nat) : List α := mkS m w k (l.take j) ++ l.drop j
section
variable {α : Type} {m : Int → α → α} {w : α → Nat}
@[simp] theorem mkS_len : ∀ (k : Int) (l : List α), (mkS m w k l).length = l.length
  | _, [] => rfl
  | k, r :: l => by simp [mkS, mkS_len]
end
/-! calls, rules -/
abbrev CallE := Int × Int × Unit
def mC (k : Int) (_ : CallE) : CallE := (k, k + 1, ())
def wC (_ : CallE) : Nat := 2
abbrev RuleE := List Int × List (List Int) × List (List Int) × Unit
def mU (k : Int) (e : RuleE) : RuleE := (mkI k e.1.length, mkII (k + e.1.length) e.2.1, mkII (k + e.1.length + cnt e.2.1) e.2.2.1, ())
def wU (e : RuleE) : Nat := e.1.length + cnt e.2.1 + cnt e.2.2.1
/-- the cells that a list of rules holds -/
def zU (e : RuleE) : Nat := e.1.length + e.2.1.length + cnt e.2.1 + e.2.2.1.length + cnt e.2.2.1
end Go.Proofs.YtefbiejoikpkmaaGreat

namespace Go.Proofs.YtefbiejoikpkmaaGreat
open Go.RowKit
set_option linter.unusedSectionVars false
variable [Glb]
open Go
/-! mixtures of wirings -/
def wirR (la lb : List (List Int)) (r s : RuleE) : List (List Int) := wiredL la lb r.1 r.2.1 r.2.2.1 s.1 s.2.1 s.2.2.1
def wirOK (xa ya na : Int) (la : List (List Int)) (xb yb nb : Int) (lb : List (List Int)) (r s : RuleE) : Bool := wireOK xa ya na la xb yb nb lb r.1 r.2.1 r.2.2.1 s.1 s.2.1 s.2.2.1
def mwN (w : Int) : Nat → Int
  | 0 => 0
  | 1 => w
  | k + 2 => mwN w (k + 1) + w
def mwL (la lb : List (List Int)) (l1 l2 : List RuleE) : Nat → List (List Int)
  | 0 => []
  | 1 => wirR la lb (atZ l1 ((0 : Nat) : Int)) (atZ l2 ((0 : Nat) : Int))
  | k + 2 => bmixL (mwL la lb l1 l2 (k + 1)) (wirR la lb (atZ l1 ((k + 1 : Nat) : Int)) (atZ l2 ((k + 1 : Nat) : Int))) 2 2
def mwOK (xa ya na : Int) (la : List (List Int)) (xb yb nb : Int) (lb : List (List Int)) (l1 l2 : List RuleE) : Nat → Bool
  | 0 => true
  | k + 1 => mwOK xa ya na la xb yb nb lb l1 l2 k && (wirOK xa ya na la xb yb nb lb (atZ l1 (k : Int)) (atZ l2 (k : Int)) && decide (mwN (na * nb) (k + 1) ≤ 1000))
def mwB (xa ya na : Int) (la : List (List Int)) (xb yb nb : Int) (lb : List (List Int)) (l1 l2 : List RuleE) : Bool := (decide (0 < l1.length) && decide (l1.length = l2.length)) && mwOK xa ya na la xb yb nb lb l1 l2 l1.length
section
variable {xa ya na : Int} {la : List (List Int)} {xb yb nb : Int} {lb : List (List Int)} {l1 l2 : List RuleE}
end
def q2 : Nat → Int
  | 0 => 0
  | _ + 1 => 2
end Go.Proofs.YtefbiejoikpkmaaGreat

namespace Go.Proofs.YtefbiejoikpkmaaGreat
open Go.RowKit
set_option linter.unusedSectionVars false
variable [Glb]
open Go
/-! trios: triple agreements, turning -/
def parN (k : Nat) : Nat := (k / 4 + k / 2 + k) % 2
def agrT (ll : List (List Int)) (q : Nat) : Int := accT (fun k => at2 ll q k * (1 - 2 * (parN k : Int))) 8
def agrL (ll : List (List Int)) : List Int := rowF (agrT ll) 8
def signT (ll : List (List Int)) : Int := agrT ll 0 - agrT ll 3 - agrT ll 5 - agrT ll 6
def grpS (q : Nat) : Int := if q = 0 ∨ q = 1 ∨ q = 2 ∨ q = 4 then 1 else -1
def grpN (ll : List (List Int)) : Nat → Int
  | 0 => 0
  | q + 1 => if q = 0 ∨ q = 1 ∨ q = 2 ∨ q = 4 then grpN ll q + agrT ll q else grpN ll q - agrT ll q
def grpT (ll : List (List Int)) : Int := grpN ll 8
theorem agrT_eq (ll : List (List Int)) (q : Nat) : agrT ll q = at2 ll q 0 - at2 ll q 1 - at2 ll q 2 + at2 ll q 3 - at2 ll q 4 + at2 ll q 5 + at2 ll q 6 - at2 ll q 7 := by
  have e0 : (1 : Int) - 2 * ((parN 0 : Nat) : Int) = 1 := rfl
  have e1 : (1 : Int) - 2 * ((parN 1 : Nat) : Int) = -1 := rfl
  have e2 : (1 : Int) - 2 * ((parN 2 : Nat) : Int) = -1 := rfl
  have e3 : (1 : Int) - 2 * ((parN 3 : Nat) : Int) = 1 := rfl
  have e4 : (1 : Int) - 2 * ((parN 4 : Nat) : Int) = -1 := rfl
  have e5 : (1 : Int) - 2 * ((parN 5 : Nat) : Int) = 1 := rfl
  have e6 : (1 : Int) - 2 * ((parN 6 : Nat) : Int) = 1 := rfl
  have e7 : (1 : Int) - 2 * ((parN 7 : Nat) : Int) = -1 := rfl
  simp only [agrT, accT]
  rw [e0, e1, e2, e3, e4, e5, e6, e7]
  omega
theorem grpT_eq (ll : List (List Int)) : grpT ll = agrT ll 0 + agrT ll 1 + agrT ll 2 + agrT ll 4 - agrT ll 3 - agrT ll 5 - agrT ll 6 - agrT ll 7 := by
  simp [grpT, grpN]; omega
theorem at2_grid {f : Nat → Nat → Int} {q k : Nat} (hq : q < 8) (hk : k < 8) : at2 (gridF f 8 8) q k = f q k := by
  have e : atZ (gridF f 8 8) (q : Int) = rowF (f q) 8 := by rw [atZ_nat (by simpa using hq)]; simp [gridF]
  unfold at2
  rw [e, rowF_atZ _ hk]
theorem trio_at2 {n : Int} {ll : List (List Int)} (h : trioB n ll = true) {q k : Nat} (hq : q < 8) (hk : k < 8) : 0 ≤ at2 ll q k ∧ at2 ll q k ≤ n :=
  (trioB_at h (q := (q : Int)) (by omega) (by omega)).2 k (by omega) (by omega)
/-- the numbers of a valid trio's rows add up to its whole -/
theorem trio_row {n : Int} {ll : List (List Int)} (h : trioB n ll = true) {q : Nat} (hq : q < 8) : at2 ll q 0 + at2 ll q 1 + at2 ll q 2 + at2 ll q 3 + at2 ll q 4 + at2 ll q 5 + at2 ll q 6 + at2 ll q 7 = n := by
  obtain ⟨h1, h2, h3, h4⟩ := trioB_spec h
  have hr : rowB n (ll[q]'(by omega)) = true := by
    simp only [trioB, Bool.and_eq_true, List.all_eq_true] at h
    exact h.2 _ (List.getElem_mem _)
  obtain ⟨h5, h6⟩ := rowB_len hr
  have hs : sum64 (ll[q]'(by omega)) = n := by simp only [rowB, Bool.and_eq_true, decide_eq_true_eq] at hr; exact hr.2
  rw [sum64_of h5 fun k hk => ⟨(h6 k hk).1, by have := (h6 k hk).2; omega⟩] at hs
  unfold at2
  rw [atZ_nat (l := ll) (k := q) (by omega)]
  obtain ⟨a, b, c, d, e, f, g, i, he⟩ := len8 h5
  rw [he] at hs ⊢
  simp [atZ] at hs ⊢
  omega
theorem agrT_bd {n : Int} {ll : List (List Int)} (h : trioB n ll = true) {q : Nat} (hq : q < 8) : -n ≤ agrT ll q ∧ agrT ll q ≤ n := by
  rw [agrT_eq]
  have r := trio_row h hq
  have a0 := trio_at2 h hq (k := 0) (by omega)
  have a1 := trio_at2 h hq (k := 1) (by omega)
  have a2 := trio_at2 h hq (k := 2) (by omega)
  have a3 := trio_at2 h hq (k := 3) (by omega)
  have a4 := trio_at2 h hq (k := 4) (by omega)
  have a5 := trio_at2 h hq (k := 5) (by omega)
  have a6 := trio_at2 h hq (k := 6) (by omega)
  have a7 := trio_at2 h hq (k := 7) (by omega)
  omega
/-- a grid whose rows add up is a trio -/
theorem grid_trio {n : Int} {f : Nat → Nat → Int} (h1 : 1 ≤ n) (h2 : n ≤ 1000) (hf : ∀ q k, q < 8 → k < 8 → 0 ≤ f q k) (hs : ∀ q, q < 8 → f q 0 + f q 1 + f q 2 + f q 3 + f q 4 + f q 5 + f q 6 + f q 7 = n) : trioB n (gridF f 8 8) = true := by
  simp only [trioB, Bool.and_eq_true, decide_eq_true_eq, List.all_eq_true, gridF_len, and_true]
  refine ⟨inB_iff.2 ⟨h1, h2⟩, fun x hx => ?_⟩
  unfold gridF at hx
  obtain ⟨q, hq, rfl⟩ := List.mem_map.1 hx
  have hq := List.mem_range.1 hq
  have hb : ∀ k, k < 8 → 0 ≤ f q k ∧ f q k ≤ n := fun k hk => by
    have h := hs q hq
    have b0 := hf q 0 hq (by omega); have b1 := hf q 1 hq (by omega); have b2 := hf q 2 hq (by omega); have b3 := hf q 3 hq (by omega)
    have b4 := hf q 4 hq (by omega); have b5 := hf q 5 hq (by omega); have b6 := hf q 6 hq (by omega); have b7 := hf q 7 hq (by omega)
    rcases (by omega : k = 0 ∨ k = 1 ∨ k = 2 ∨ k = 3 ∨ k = 4 ∨ k = 5 ∨ k = 6 ∨ k = 7) with rfl | rfl | rfl | rfl | rfl | rfl | rfl | rfl <;> omega
  have hget : ∀ k (hk : k < (rowF (f q) 8).length), (rowF (f q) 8)[k] = f q k := fun k hk => by simp [rowF]
  have e : sum64 (rowF (f q) 8) = n := by
    rw [sum64_of (by simp) fun k hk => by rw [hget k hk]; have := hb k (by simpa using hk); omega]
    have := hs q hq
    simp [rowF, List.range, List.range.loop]
    omega
  simp only [rowB, allB, e, rowF_len, decide_true, Bool.true_and, Bool.and_true, List.all_eq_true]
  intro x hx
  obtain ⟨k, hk, rfl⟩ := List.getElem_of_mem hx
  rw [hget k hk]
  exact inB_iff.2 (hb k (by simpa using hk))
theorem turnF_at (ll : List (List Int)) (q k : Nat) : turnF ll q k = at2 ll (turnN q) (turnN k) := by unfold turnF at2; rw [turnP_nat, turnP_nat]
def turnG (ll : List (List Int)) : List (List Int) := gridF (turnF ll) 8 8
theorem turn_trio {n : Int} {ll : List (List Int)} (h : trioB n ll = true) : trioB n (turnG ll) = true := by
  obtain ⟨h1, h2, _, _⟩ := trioB_spec h
  refine grid_trio h1 h2 (fun q k hq hk => by rw [turnF_at]; exact (trio_at2 h (turnN_lt hq) (turnN_lt hk)).1) fun q hq => ?_
  simp only [turnF_at]
  have := trio_row h (turnN_lt hq)
  have e0 : turnN 0 = 0 := rfl
  have e1 : turnN 1 = 2 := rfl
  have e2 : turnN 2 = 4 := rfl
  have e3 : turnN 3 = 6 := rfl
  have e4 : turnN 4 = 1 := rfl
  have e5 : turnN 5 = 3 := rfl
  have e6 : turnN 6 = 5 := rfl
  have e7 : turnN 7 = 7 := rfl
  rw [e0, e1, e2, e3, e4, e5, e6, e7]
  omega
/-- quiet, said of all places -/
def QuietP (ll : List (List Int)) : Prop := ∀ d, (d = 4 ∨ d = 2 ∨ d = 1) → ∀ q, q < 8 → ∀ a, a < 8 → q &&& d = 0 → at2 ll q a + at2 ll q (a ^^^ d) = at2 ll (q ||| d) a + at2 ll (q ||| d) (a ^^^ d)
theorem quiet_iff (ll : List (List Int)) : quiet3 ll = true ↔ QuietP ll := by
  unfold quiet3 QuietP
  simp only [List.all_eq_true, List.mem_cons, List.not_mem_nil, or_false, List.mem_range, quietAt, Bool.or_eq_true, bne_iff_ne, ne_eq, decide_eq_true_eq]
  constructor
  · intro h d hd q hq a ha h0
    rcases h d hd q hq a ha with h | h
    · exact absurd h0 h
    · exact h
  · intro h d hd q hq a ha
    by_cases h0 : q &&& d = 0
    · exact .inr (h d hd q hq a ha h0)
    · exact .inl h0
/-! the trio of a play -/
def GN (c q : Nat) : Nat := 4 * (c / 2 ^ (q / 4) % 2) + 2 * (c / 2 ^ (2 + q / 2 % 2) % 2) + c / 2 ^ (4 + q % 2) % 2
def hotF (n : Int) (g : Nat → Nat) (q k : Nat) : Int := if k = g q then n else 0
theorem hot_ans {n : Int} {h : Nat → Int} {g : Nat → Nat} (e : ∀ q, q < 8 → h q = (g q : Nat)) : gridF (ansF n h) 8 8 = gridF (hotF n g) 8 8 :=
  gridF_congr fun q hq k _ => by
    unfold ansF hotF
    rw [e q hq]
    by_cases hk : k = g q
    · rw [if_pos hk, if_pos (by omega)]
    · rw [if_neg hk, if_neg (by omega)]
theorem hot_trio {n : Int} {g : Nat → Nat} (h1 : 1 ≤ n) (h2 : n ≤ 1000) (hg : ∀ q, q < 8 → g q < 8) : trioB n (gridF (hotF n g) 8 8) = true := by
  refine grid_trio h1 h2 (fun q k _ _ => by unfold hotF; split <;> omega) fun q hq => ?_
  have := hg q hq
  unfold hotF
  generalize g q = u at this
  rcases (by omega : u = 0 ∨ u = 1 ∨ u = 2 ∨ u = 3 ∨ u = 4 ∨ u = 5 ∨ u = 6 ∨ u = 7) with rfl | rfl | rfl | rfl | rfl | rfl | rfl | rfl <;> simp
theorem hot_agr {n : Int} {g : Nat → Nat} {q : Nat} (hq : q < 8) (hg : g q < 8) : agrT (gridF (hotF n g) 8 8) q = n * (1 - 2 * (parN (g q) : Int)) := by
  rw [agrT_eq, at2_grid hq (by omega), at2_grid hq (by omega), at2_grid hq (by omega), at2_grid hq (by omega), at2_grid hq (by omega), at2_grid hq (by omega), at2_grid hq (by omega), at2_grid hq (by omega)]
  unfold hotF
  generalize g q = u at hg
  rcases (by omega : u = 0 ∨ u = 1 ∨ u = 2 ∨ u = 3 ∨ u = 4 ∨ u = 5 ∨ u = 6 ∨ u = 7) with rfl | rfl | rfl | rfl | rfl | rfl | rfl | rfl <;> simp [parN] <;> omega
/-! the trio of sums -/
def sumF3 (odd : List Int) (q k : Nat) : Int := if (parN k : Int) = atZ odd (q : Int) then 1 else 0
theorem sum3_trio {odd : List Int} (h : bitsB odd 8 = true) : trioB 4 (gridF (sumF3 odd) 8 8) = true := by
  refine grid_trio (by omega) (by omega) (fun q k _ _ => by unfold sumF3; split <;> omega) fun q hq => ?_
  have := bitsB_at h (i := (q : Int)) (by omega) (by omega)
  unfold sumF3
  generalize atZ odd (q : Int) = u at this
  rcases (by omega : u = 0 ∨ u = 1) with rfl | rfl <;> decide
/-! mixtures -/
theorem parZ_nat (n : Nat) : parZ (n : Int) = (parN n : Int) := by unfold parZ parN; omega
theorem parN_le (n : Nat) : parN n ≤ 1 := by unfold parN; omega
def agrS (ll : List (List Int)) (q k : Nat) : Int := at2 ll q k * (1 - 2 * (parN k : Int))
theorem agrS_bd {n : Int} {ll : List (List Int)} (h : trioB n ll = true) {q k : Nat} (hq : q < 8) (hk : k < 8) : -n ≤ agrS ll q k ∧ agrS ll q k ≤ n := by
  have a := trio_at2 h hq hk
  have hp := parN_le k
  unfold agrS
  rcases (by omega : parN k = 0 ∨ parN k = 1) with e | e <;> rw [e] <;> omega
theorem accS_bd {n : Int} {ll : List (List Int)} (h : trioB n ll = true) {q : Nat} (hq : q < 8) : ∀ {k : Nat}, k ≤ 8 → -(1000 * k) ≤ accT (agrS ll q) k ∧ accT (agrS ll q) k ≤ 1000 * k
  | 0, _ => by simp [accT]
  | k + 1, hk => by
    have := accS_bd h hq (k := k) (by omega)
    have := agrS_bd h hq (k := k) (by omega)
    have := (trioB_spec h).2.1
    simp only [accT]; omega
theorem grpN_bd {n : Int} {ll : List (List Int)} (h : trioB n ll = true) : ∀ {k : Nat}, k ≤ 8 → -(1000 * k) ≤ grpN ll k ∧ grpN ll k ≤ 1000 * k
  | 0, _ => by simp [grpN]
  | k + 1, hk => by
    have := grpN_bd h (k := k) (by omega)
    have := agrT_bd h (q := k) (by omega)
    have := (trioB_spec h).2.1
    simp only [grpN]
    split <;> omega
@[simp] theorem agrL_len (ll : List (List Int)) : (agrL ll).length = 8 := by simp [agrL]
theorem agrL_at (ll : List (List Int)) {k : Nat} (h : k < 8) : atZ (agrL ll) (k : Int) = agrT ll k := rowF_atZ _ h
def sumRow (odd : List Int) (q k : Nat) : List Int := rowF (fun j => if j < k then sumF3 odd q j else 0) 8
theorem sumRow_zero (odd : List Int) (q : Nat) : sumRow odd q 0 = List.replicate 8 0 := by simp [sumRow, rowF, List.range, List.range.loop, List.replicate]
theorem sumRow_all (odd : List Int) (q : Nat) : sumRow odd q 8 = rowF (sumF3 odd q) 8 := rowF_congr fun k hk => if_pos hk
@[simp] theorem sumRow_len (odd : List Int) (q k : Nat) : (sumRow odd q k).length = 8 := by simp [sumRow]
theorem sumRow_hit {odd : List Int} {q k : Nat} (hk : k < 8) (h : (parN k : Int) = atZ odd (q : Int)) : (sumRow odd q k).set k 1 = sumRow odd q (k + 1) := by
  apply List.ext_getElem
  · simp
  · intro i h1 h2
    rw [List.getElem_set]
    simp only [sumRow, rowF, List.getElem_map, List.getElem_range]
    by_cases hi : k = i
    · subst hi; rw [if_pos rfl, if_pos (by omega), sumF3, if_pos h]
    · rw [if_neg hi]
      by_cases h3 : i < k
      · rw [if_pos h3, if_pos (by omega)]
      · rw [if_neg h3, if_neg (by omega)]
theorem sumRow_miss {odd : List Int} {q k : Nat} (h : ¬ (parN k : Int) = atZ odd (q : Int)) : sumRow odd q k = sumRow odd q (k + 1) := by
  unfold sumRow
  refine rowF_congr fun i hi => ?_
  by_cases h3 : i < k
  · rw [if_pos h3, if_pos (by omega)]
  · rw [if_neg h3]
    by_cases h4 : i = k
    · subst h4; rw [if_pos (by omega), sumF3, if_neg h]
    · rw [if_neg (by omega)]
end Go.Proofs.YtefbiejoikpkmaaGreat

namespace Go.Proofs.YtefbiejoikpkmaaGreat
open Go.RowKit
set_option linter.unusedSectionVars false
variable [Glb]
open Go
/-! more boxes: plays, flips, multiples, noise, the sum box of any size -/
theorem play_box {x y : Nat} {pl : List Int} {wh : Int} (hx : 1 ≤ x ∧ x ≤ 3) (hy : 1 ≤ y ∧ y ≤ 3) (hp : bitsB pl ((x : Int) + y) = true) (hw : 1 ≤ wh ∧ wh ≤ 1000) : boxB x y wh (playL pl x y wh) = true := by
  unfold playL
  simp only [Int.toNat_natCast]
  rw [rows_box hx hy hw.1 (by omega), decide_eq_true hw.2]
  intro i k hi hk
  have f1 := bitsB_at hp (i := (i : Int)) (by omega) (by omega)
  have f2 := bitsB_at hp (i := (x : Int) + k) (by omega) (by omega)
  unfold playF
  refine ⟨fun p hp => by split <;> omega, ?_⟩
  generalize atZ pl (i : Int) = f at *
  generalize atZ pl ((x : Int) + k) = g at *
  rcases (by omega : f = 0 ∨ f = 1) with rfl | rfl <;> rcases (by omega : g = 0 ∨ g = 1) with rfl | rfl <;> simp
theorem flip_box {x y : Nat} {n : Int} {ll : List (List Int)} {fl : List Int} (hb : boxB x y n ll = true) (hf : bitsB fl ((x : Int) + y) = true) : boxB x y n (bflL ll x y fl) = true := by
  have b := boxB_spec hb
  have a1 := b.x1; have a2 := b.x3; have a3 := b.y1; have a4 := b.y3; have a5 := b.n1; have a6 := b.n2
  unfold bflL
  simp only [Int.toNat_natCast]
  rw [rows_box (by omega) (by omega) (by omega) (by omega), decide_eq_true (by omega)]
  intro i k hi hk
  obtain ⟨b7, b8⟩ := box_at hb hi hk
  have f1 := bitsB_at hf (i := (i : Int)) (by omega) (by omega)
  have f2 := bitsB_at hf (i := (x : Int) + k) (by omega) (by omega)
  have hm : 0 ≤ flipOf fl x i k ∧ flipOf fl x i k < 4 := by unfold flipOf; omega
  unfold bflF
  generalize flipOf fl (x : Int) (i : Int) (k : Int) = m at *
  refine ⟨fun p hp => ?_, ?_⟩
  · have x4 := xor4_eq hp hm.1 hm.2
    obtain ⟨t, ht⟩ := Int.eq_ofNat_of_zero_le x4.2.1
    rw [ht] at x4 ⊢
    exact (b7 t (by omega)).1
  · have e : ∀ p : Nat, xor4 p m = ((p ^^^ m.toNat : Nat) : Int) := fun p => rfl
    rw [e, e, e, e]
    rcases (by omega : m = 0 ∨ m = 1 ∨ m = 2 ∨ m = 3) with rfl | rfl | rfl | rfl
    · simpa using b8
    · have c : ((0 ^^^ (1 : Int).toNat : Nat) : Int) = ((1 : Nat) : Int) ∧ ((1 ^^^ (1 : Int).toNat : Nat) : Int) = ((0 : Nat) : Int) ∧ ((2 ^^^ (1 : Int).toNat : Nat) : Int) = ((3 : Nat) : Int) ∧ ((3 ^^^ (1 : Int).toNat : Nat) : Int) = ((2 : Nat) : Int) := by decide
      rw [c.1, c.2.1, c.2.2.1, c.2.2.2]; omega
    · have c : ((0 ^^^ (2 : Int).toNat : Nat) : Int) = ((2 : Nat) : Int) ∧ ((1 ^^^ (2 : Int).toNat : Nat) : Int) = ((3 : Nat) : Int) ∧ ((2 ^^^ (2 : Int).toNat : Nat) : Int) = ((0 : Nat) : Int) ∧ ((3 ^^^ (2 : Int).toNat : Nat) : Int) = ((1 : Nat) : Int) := by decide
      rw [c.1, c.2.1, c.2.2.1, c.2.2.2]; omega
    · have c : ((0 ^^^ (3 : Int).toNat : Nat) : Int) = ((3 : Nat) : Int) ∧ ((1 ^^^ (3 : Int).toNat : Nat) : Int) = ((2 : Nat) : Int) ∧ ((2 ^^^ (3 : Int).toNat : Nat) : Int) = ((1 : Nat) : Int) ∧ ((3 ^^^ (3 : Int).toNat : Nat) : Int) = ((0 : Nat) : Int) := by decide
      rw [c.1, c.2.1, c.2.2.1, c.2.2.2]; omega
/-- the sum box of any size -/
def oddR (n i : Nat) : List Int := if i + 1 = n then [0, 1, 1, 0] else [1, 0, 0, 1]
def oddL (n i : Nat) : List (List Int) := (List.range i).map (oddR n)
@[simp] theorem oddL_len (n i : Nat) : (oddL n i).length = i := by simp [oddL]
theorem oddL_snoc (n i : Nat) : oddL n (i + 1) = oddL n i ++ [oddR n i] := by simp [oddL, List.range_succ]
theorem odd_box {x y : Nat} (hx : 1 ≤ x ∧ x ≤ 3) (hy : 1 ≤ y ∧ y ≤ 3) : boxB x y 2 (oddL (x * y) (x * y)) = true := by
  rcases (by omega : x = 1 ∨ x = 2 ∨ x = 3) with rfl | rfl | rfl <;> rcases (by omega : y = 1 ∨ y = 2 ∨ y = 3) with rfl | rfl | rfl <;> decide
/-- noise -/
def noiL (i : Nat) : List (List Int) := List.replicate i [1, 1, 1, 1]
theorem noi_box {x y : Nat} (hx : 1 ≤ x ∧ x ≤ 3) (hy : 1 ≤ y ∧ y ≤ 3) : boxB x y 4 (noiL (x * y)) = true := by
  rcases (by omega : x = 1 ∨ x = 2 ∨ x = 3) with rfl | rfl | rfl <;> rcases (by omega : y = 1 ∨ y = 2 ∨ y = 3) with rfl | rfl | rfl <;> decide
/-- multiples -/
def timR (ll : List (List Int)) (t : Int) (j p : Nat) : Int := atZ (atZ ll (j : Int)) (p : Int) * t
theorem tim_box {x y : Nat} {n t : Int} {ll : List (List Int)} (hb : boxB x y n ll = true) (ht : 1 ≤ t) (hn : n * t ≤ 1000) : boxB x y (n * t) (rowsF (timR ll t) (y * x)) = true := by
  have b := boxB_spec hb
  have a1 := b.x1; have a2 := b.x3; have a3 := b.y1; have a4 := b.y3; have a5 := b.n1; have a6 := b.n2
  have e : boxF (fun i k p => atB ll y i k p * t) y (y * x) = rowsF (timR ll t) (y * x) := boxF_rows fun j p _ _ => by unfold timR; rw [atB_row]
  have h1 : 1 ≤ n * t := by
    have : 1 * 1 ≤ n * t := Int.mul_le_mul a5 ht (by omega) (by omega)
    omega
  rw [← e, rows_box (by omega) (by omega) h1 (by omega), decide_eq_true hn]
  intro i k hi hk
  obtain ⟨b7, b8⟩ := box_at hb hi hk
  refine ⟨fun p hp => Int.mul_nonneg (b7 p hp).1 (by omega), ?_⟩
  rw [← b8, Int.add_mul, Int.add_mul, Int.add_mul]
theorem mul_bd {a t n m : Int} (h0 : 0 ≤ a) (h1 : a ≤ n) (t0 : 0 ≤ t) (t1 : t ≤ m) (hn : 0 ≤ n) : 0 ≤ a * t ∧ a * t ≤ n * m := ⟨Int.mul_nonneg h0 t0, Int.mul_le_mul h1 t1 t0 hn⟩

end Go.Proofs.YtefbiejoikpkmaaGreat

namespace Go.Proofs.YtefbiejoikpkmaaGreat
open Go.RowKit
set_option linter.unusedSectionVars false
variable [Glb]
open Go
/-! quiet boxes of two questions each, boxes that are alike -/
/-- how often player w says 1 to question q, when the other is asked j -/
def onB (ll : List (List Int)) (w q j : Int) : Int := if w = 0 then atB ll 2 q j 2 + atB ll 2 q j 3 else atB ll 2 j q 1 + atB ll 2 j q 3
def stillB (ll : List (List Int)) (w q : Int) : Bool := decide (onB ll w q 1 = onB ll w q 0)
def quiet2 (ll : List (List Int)) : Bool := stillB ll 0 0 && (stillB ll 0 1 && (stillB ll 1 0 && stillB ll 1 1))
def loudR (ll : List (List Int)) : Int × Int := if stillB ll 0 0 = false then (0, 0) else if stillB ll 0 1 = false then (0, 1) else if stillB ll 1 0 = false then (1, 0) else if stillB ll 1 1 = false then (1, 1) else (0, 0)
theorem loudR_at {ll : List (List Int)} {w q : Nat} (hw : w < 2) (hq : q < 2) (h0 : ∀ u : Nat, u < w → stillB ll (u : Int) 0 = true ∧ stillB ll (u : Int) 1 = true) (h1 : ∀ r : Nat, r < q → stillB ll (w : Int) (r : Int) = true) (h : stillB ll (w : Int) (q : Int) = false) :
    loudR ll = ((w : Int), (q : Int)) ∧ quiet2 ll = false := by
  rcases (by omega : w = 0 ∨ w = 1) with rfl | rfl <;> rcases (by omega : q = 0 ∨ q = 1) with rfl | rfl
  · simp only [Int.natCast_zero] at *; simp [loudR, quiet2, h]
  · have := h1 0 (by omega); simp only [Int.natCast_zero, Int.natCast_one] at *; simp [loudR, quiet2, h, this]
  · have := h0 0 (by omega); simp only [Int.natCast_zero, Int.natCast_one] at *; simp [loudR, quiet2, h, this]
  · have a := h0 0 (by omega); have b := h1 0 (by omega); simp only [Int.natCast_zero, Int.natCast_one] at *; simp [loudR, quiet2, h, a, b]
theorem loudR_end {ll : List (List Int)} (h0 : ∀ u : Nat, u < 2 → stillB ll (u : Int) 0 = true ∧ stillB ll (u : Int) 1 = true) : loudR ll = (0, 0) ∧ quiet2 ll = true := by
  have a := h0 0 (by omega); have b := h0 1 (by omega)
  simp only [Int.natCast_zero, Int.natCast_one] at a b
  simp [loudR, quiet2, a, b]
/-- the same chances -/
def alikeB (la : List (List Int)) (na : Int) (lb : List (List Int)) (nb : Int) : Bool := (List.range la.length).all fun q => (List.range 4).all fun k => decide (at2 la q k * nb = at2 lb q k * na)
/-- what a box of a play says -/
def tellF (ll : List (List Int)) (n : Int) (k : Nat) : Int := onB ll ((k / 2 : Nat) : Int) ((k % 2 : Nat) : Int) 0 / n
def tellL (ll : List (List Int)) (n : Int) : List Int := rowF (tellF ll n) 4
theorem mul_small {a b : Int} (a0 : 0 ≤ a) (a1 : a ≤ 1000) (b0 : 0 ≤ b) (b1 : b ≤ 1000) : 0 ≤ a * b ∧ a * b ≤ 1000000 :=
  ⟨Int.mul_nonneg a0 b0, Int.le_trans (Int.mul_le_mul a1 b1 b0 (by omega)) (by decide)⟩
theorem box_len9 {x y n : Int} {ll : List (List Int)} (h : boxB x y n ll = true) : ll.length ≤ 9 := by
  have b := boxB_spec h
  have := mul_bd3 (sizeB_iff.2 ⟨⟨b.x1, b.x3⟩, b.y1, b.y3⟩)
  have := b.len
  omega

end Go.Proofs.YtefbiejoikpkmaaGreat

namespace Go.Proofs.YtefbiejoikpkmaaGreat
open Go.RowKit
set_option linter.unusedSectionVars false
variable [Glb]
open Go
/-! sums of a box with itself -/
def pwr (n : Int) : Nat → Int
  | 0 => n
  | k + 1 => pwr n k * n
def sumL (la lb : List (List Int)) : List (List Int) := wiredL la lb sumF sumA sumS sumF sumA sumS
def repL (ll : List (List Int)) : Nat → List (List Int)
  | 0 => ll
  | k + 1 => sumL (repL ll k) ll
def repOK (n : Int) (k : Nat) : Bool := (List.range k).all fun j => decide (pwr n (j + 1) ≤ 1000)
def repeatB (x y n : Int) (ll : List (List Int)) (m : Int) : Bool := pairB x y n ll && inB m 1 9
def repeatOK (x y n : Int) (ll : List (List Int)) (m : Int) : Bool := repeatB x y n ll m && repOK n (m - 1).toNat
end Go.Proofs.YtefbiejoikpkmaaGreat

namespace Go.Proofs.YtefbiejoikpkmaaGreat
open Go.RowKit
set_option linter.unusedSectionVars false
variable [Glb]
/-! games: scores, lost pairs, best plays -/
def winT (X Y : Nat) (wi : List (List Int)) (pl : List Int) (t : Nat) : Int := atZ (atZ wi (t : Int)) (flipOf pl X ((t / Y : Nat) : Int) ((t % Y : Nat) : Int))
def scoT (X Y : Nat) (ws : List Int) (wi : List (List Int)) (pl : List Int) (t : Nat) : Int := atZ ws (t : Int) * winT X Y wi pl t
def scoG (X Y : Nat) (ws : List Int) (wi : List (List Int)) (pl : List Int) : Int := accT (scoT X Y ws wi pl) (Y * X)
def funL (ws : List Int) (wi : List (List Int)) : List (List Int) := gridF (fun i k => atZ (atZ wi (i : Int)) (k : Int) * atZ ws (i : Int)) wi.length 4
structure PairOK (X Y : Nat) (ws : List Int) (wi : List (List Int)) (i k : Nat) : Prop where
  lt : (i : Int) * Y + k < ws.length
  lt2 : (i : Int) * Y + k < wi.length
  ge : 0 ≤ (i : Int) * Y + k
  le : (i : Int) * Y + k ≤ 8
  g1 : 0 ≤ (i : Int) * Y
  g2 : (i : Int) * Y ≤ 8
  w0 : 0 ≤ atZ ws ((i : Int) * Y + k)
  w1 : atZ ws ((i : Int) * Y + k) ≤ 99
  len : (atZ wi ((i : Int) * Y + k)).length = 4
  bit : ∀ p : Int, 0 ≤ p → p < 4 → 0 ≤ atZ (atZ wi ((i : Int) * Y + k)) p ∧ atZ (atZ wi ((i : Int) * Y + k)) p ≤ 1
@[simp] theorem funL_len (ws : List Int) (wi : List (List Int)) : (funL ws wi).length = wi.length := by simp [funL]
/-- the pairs that a play loses -/
def lostP (X Y : Nat) (ws : List Int) (wi : List (List Int)) (pl : List Int) (t : Nat) : Bool := decide (0 < atZ ws (t : Int)) && decide (winT X Y wi pl t = 0)
def lostL (X Y : Nat) (ws : List Int) (wi : List (List Int)) (pl : List Int) : List Int := usedL (Y * X) (lostP X Y ws wi pl)
/-- the first best play -/
def playN (X Y : Nat) (ws : List Int) (wi : List (List Int)) (c : Nat) : Int := scoG X Y ws wi (bitsM (X + Y) c)
def bestC (X Y : Nat) (ws : List Int) (wi : List (List Int)) : Nat := bstT (playN X Y ws wi) (2 ^ (X + Y))
def bestG (X Y : Nat) (ws : List Int) (wi : List (List Int)) : List Int := bitsM (X + Y) (bestC X Y ws wi)
def valueG (X Y : Nat) (ws : List Int) (wi : List (List Int)) : Int := playN X Y ws wi (bestC X Y ws wi)
def valN (s : Nat → Int) : Nat → Int
  | 0 => -1
  | i + 1 => s (bstT s (i + 1))
/-- how many plays have a score -/
def cntV (X Y : Nat) (ws : List Int) (wi : List (List Int)) (v : Int) (i : Nat) : Nat := ((List.range i).countP fun c => decide (playN X Y ws wi c = v))
def countG (X Y : Nat) (ws : List Int) (wi : List (List Int)) : Nat := cntV X Y ws wi (valueG X Y ws wi) (2 ^ (X + Y))
def totG (ws : List Int) : Int := accT (fun t => atZ ws (t : Int)) ws.length
/-- what is won for two questions and an answer of the first player -/
def repT (Y : Nat) (ws : List Int) (wi : List (List Int)) (fs : List Int) (y : Nat) (b : Int) (x : Nat) : Int := atZ ws ((x : Int) * Y + y) * atZ (atZ wi ((x : Int) * Y + y)) (2 * atZ fs (x : Int) + b)
def repS (X Y : Nat) (ws : List Int) (wi : List (List Int)) (fs : List Int) (b : Int) (y : Nat) : Int := accT (repT Y ws wi fs y b) X
def repA (X Y : Nat) (ws : List Int) (wi : List (List Int)) (fs : List Int) (y : Nat) : Int := if repS X Y ws wi fs 1 y > repS X Y ws wi fs 0 y then 1 else 0
def repM (X Y : Nat) (ws : List Int) (wi : List (List Int)) (fs : List Int) (y : Nat) : Int := if repS X Y ws wi fs 1 y > repS X Y ws wi fs 0 y then repS X Y ws wi fs 1 y else repS X Y ws wi fs 0 y
end Go.Proofs.YtefbiejoikpkmaaGreat

namespace Go.Proofs.YtefbiejoikpkmaaGreat
open Go.RowKit
set_option linter.unusedSectionVars false
variable [Glb]
/-! games: what is lost; all plays in another order -/
def lostS (ws : List Int) (l : List Int) : Int := (l.map fun t => atZ ws t).sum
/-- all plays, the first answer as the least digit -/
def bitsR (n c : Nat) : List Int := rowF (fun i => (bitN c i : Int)) n
def rplaysF (n : Nat) : List (List Int) := (List.range (2 ^ n)).map (bitsR n)
theorem playsF_mem {n : Nat} {p : List Int} (h : p ∈ playsF n) : ∃ c, c < 2 ^ n ∧ p = bitsM n c := by
  unfold playsF at h
  obtain ⟨c, hc, rfl⟩ := List.mem_map.1 h
  exact ⟨c, List.mem_range.1 hc, rfl⟩
def cntR (X Y : Nat) (ws : List Int) (wi : List (List Int)) (v : Int) (i : Nat) : Nat := ((rplaysF (X + Y)).take i).countP fun p => decide (scoG X Y ws wi p = v)
end Go.Proofs.YtefbiejoikpkmaaGreat

namespace Go.Proofs.YtefbiejoikpkmaaGreat
open Go.RowKit
set_option linter.unusedSectionVars false
variable [Glb]
open Go
/-! orders -/
def orderB (l : List Int) (n : Int) : Bool := ((cntL n.toNat).all fun i => l.contains i) && decide ((l.length : Int) = n)
def askB (X Y : Int) (ws : List Int) (wi : List (List Int)) (fs ss : List Int) : Bool := gameB X Y ws wi && (orderB fs X && orderB ss Y)
def askGW (Y : Int) (ws fs ss : List Int) : List Int := pairsF (askW Y ws) fs ss
def askGR (Y : Int) (wi : List (List Int)) (fs ss : List Int) : List (List Int) := pairsF (askO Y wi) fs ss
end Go.Proofs.YtefbiejoikpkmaaGreat

namespace Go.Proofs.YtefbiejoikpkmaaGreat
open Go.RowKit
set_option linter.unusedSectionVars false
variable [Glb]
/-! games: double sums, replies, other questions -/
end Go.Proofs.YtefbiejoikpkmaaGreat

namespace Go.Proofs.YtefbiejoikpkmaaGreat
open Go.RowKit
set_option linter.unusedSectionVars false
variable [Glb]
open Go
/-! the agreements of what is wired by the sum rule -/
def agrK (ll : List (List Int)) (k : Nat) : Int := agrZ (atZ ll (k : Int))
def agrsL (ll : List (List Int)) : List Int := rowF (agrK ll) ll.length
/-- powers, from 1 on -/
def pw0 (a : Int) : Nat → Int
  | 0 => 1
  | k + 1 => pw0 a k * a
end Go.Proofs.YtefbiejoikpkmaaGreat

namespace Go.Proofs.YtefbiejoikpkmaaGreat
open Go.RowKit
set_option linter.unusedSectionVars false
variable [Glb]
open Go
/-! group plays have at most the group bound -/
theorem par_grp {a : Int} {own joint : List Int} (h : inB a 0 2 = true) (ho : bitsB own 2 = true) (hj : bitsB joint 8 = true) (q : Nat) :
    (parN (grpV a own joint (q : Int)).toNat : Int) = (atZ own (bitZ q a.toNat) + atZ joint (grpAt a q) + atZ joint (grpAt a q + 1)) % 2 := by
  have b0 := bitZ_le q a.toNat
  have b1 := bitZ_le q (oth1 a)
  have b2 := bitZ_le q (oth2 a)
  have p0 := bitsB_at ho (i := bitZ q a.toNat) (by omega) (by omega)
  have a0 := bitsB_at hj (i := grpAt a q) (by unfold grpAt; omega) (by unfold grpAt; omega)
  have a1 := bitsB_at hj (i := grpAt a q + 1) (by unfold grpAt; omega) (by unfold grpAt; omega)
  unfold grpV
  generalize atZ own (bitZ q a.toNat) = x at *
  generalize atZ joint (grpAt a q) = y at *
  generalize atZ joint (grpAt a q + 1) = z at *
  rcases inB_02 h with rfl | rfl | rfl <;> rcases (by omega : x = 0 ∨ x = 1) with rfl | rfl <;> rcases (by omega : y = 0 ∨ y = 1) with rfl | rfl <;> rcases (by omega : z = 0 ∨ z = 1) with rfl | rfl <;> rfl
theorem mod_bit {o J : Int} (h : o = 0 ∨ o = 1) : (1 - 2 * ((o + J) % 2) = 1 - 2 * (J % 2) ∧ o = 0) ∨ (1 - 2 * ((o + J) % 2) = 2 * (J % 2) - 1 ∧ o = 1) := by
  rcases h with rfl | rfl <;> omega
theorem grp_key {o p J0 J1 J2 J3 : Int} (ho : o = 0 ∨ o = 1) (hp : p = 0 ∨ p = 1) :
    -4 ≤ (1 - 2 * ((o + J0) % 2)) + (1 - 2 * ((o + J1) % 2)) + (1 - 2 * ((o + J2) % 2)) - (1 - 2 * ((o + J3) % 2)) + (1 - 2 * ((p + J0) % 2)) - (1 - 2 * ((p + J1) % 2)) - (1 - 2 * ((p + J2) % 2)) - (1 - 2 * ((p + J3) % 2)) ∧
    (1 - 2 * ((o + J0) % 2)) + (1 - 2 * ((o + J1) % 2)) + (1 - 2 * ((o + J2) % 2)) - (1 - 2 * ((o + J3) % 2)) + (1 - 2 * ((p + J0) % 2)) - (1 - 2 * ((p + J1) % 2)) - (1 - 2 * ((p + J2) % 2)) - (1 - 2 * ((p + J3) % 2)) ≤ 4 := by
  have h0 : 0 ≤ J0 % 2 ∧ J0 % 2 ≤ 1 := by omega
  have h1 : 0 ≤ J1 % 2 ∧ J1 % 2 ≤ 1 := by omega
  have h2 : 0 ≤ J2 % 2 ∧ J2 % 2 ≤ 1 := by omega
  have h3 : 0 ≤ J3 % 2 ∧ J3 % 2 ≤ 1 := by omega
  rcases mod_bit (J := J0) ho with ⟨a0, e⟩ | ⟨a0, e⟩ <;> rcases mod_bit (J := J0) hp with ⟨b0, f⟩ | ⟨b0, f⟩ <;>
    subst e <;> subst f <;>
    (have a1 := mod_bit (J := J1) ho; have a2 := mod_bit (J := J2) ho; have a3 := mod_bit (J := J3) ho
     have b1 := mod_bit (J := J1) hp; have b2 := mod_bit (J := J2) hp; have b3 := mod_bit (J := J3) hp
     simp at a1 a2 a3 b1 b2 b3
     generalize J0 % 2 = t0 at *; generalize J1 % 2 = t1 at *; generalize J2 % 2 = t2 at *; generalize J3 % 2 = t3 at *
     omega)
theorem mul_four {n s : Int} (hn : 1 ≤ n) (h : -4 ≤ s ∧ s ≤ 4) : -(4 * n) ≤ n * s ∧ n * s ≤ 4 * n := by
  have a := Int.mul_le_mul_of_nonneg_left h.1 (show 0 ≤ n by omega)
  have b := Int.mul_le_mul_of_nonneg_left h.2 (show 0 ≤ n by omega)
  omega
theorem group_trio {a n : Int} {own joint : List Int} (h : groupB a own joint n = true) : trioB n (gridF (ansF n fun q => grpV a own joint q) 8 8) = true := by
  simp only [groupB, Bool.and_eq_true] at h
  obtain ⟨⟨⟨h1, h2⟩, h3⟩, h4⟩ := h
  have hn := inB_iff.1 h4
  have V := fun q : Nat => grpV_bd h1 h2 h3 (q : Int)
  rw [hot_ans (g := fun q : Nat => (grpV a own joint (q : Int)).toNat) fun q hq => by have := V q; omega]
  exact hot_trio hn.1 hn.2 fun q hq => by have := V q; show (grpV a own joint (q : Int)).toNat < 8; omega
theorem group_bd {a n : Int} {own joint : List Int} (h : groupB a own joint n = true) : -(4 * n) ≤ grpT (gridF (ansF n fun q => grpV a own joint q) 8 8) ∧ grpT (gridF (ansF n fun q => grpV a own joint q) 8 8) ≤ 4 * n := by
  simp only [groupB, Bool.and_eq_true] at h
  obtain ⟨⟨⟨h1, h2⟩, h3⟩, h4⟩ := h
  have hn := inB_iff.1 h4
  have V := fun q : Nat => grpV_bd h1 h2 h3 (q : Int)
  rw [hot_ans (g := fun q : Nat => (grpV a own joint (q : Int)).toNat) fun q hq => by have := V q; omega]
  have A : ∀ q : Nat, q < 8 → agrT (gridF (hotF n fun q : Nat => (grpV a own joint (q : Int)).toNat) 8 8) q = n * (1 - 2 * ((atZ own (bitZ q a.toNat) + (atZ joint (grpAt a q) + atZ joint (grpAt a q + 1))) % 2)) := fun q hq => by
    rw [hot_agr hq (by have := V q; show (grpV a own joint (q : Int)).toNat < 8; omega)]
    show n * (1 - 2 * ((parN (grpV a own joint (q : Int)).toNat : Nat) : Int)) = _
    rw [par_grp h1 h2 h3 q, Int.add_assoc]
  rw [grpT_eq, A 0 (by omega), A 1 (by omega), A 2 (by omega), A 3 (by omega), A 4 (by omega), A 5 (by omega), A 6 (by omega), A 7 (by omega)]
  have p0 := bitsB_at h2 (i := 0) (by omega) (by omega)
  have p1 := bitsB_at h2 (i := 1) (by omega) (by omega)
  have K := grp_key (o := atZ own 0) (p := atZ own 1) (J0 := atZ joint 0 + atZ joint 1) (J1 := atZ joint 2 + atZ joint 3) (J2 := atZ joint 4 + atZ joint 5) (J3 := atZ joint 6 + atZ joint 7) (by omega) (by omega)
  have M := mul_four hn.1 K
  simp only [Int.mul_add, Int.mul_sub] at M
  rcases inB_02 h1 with rfl | rfl | rfl <;> simp [bitZ, grpAt, oth1, oth2, Int.mul_add, Int.mul_sub] at M ⊢ <;> omega
/-! a third player who knows nothing -/
theorem third_at (la : List (List Int)) (ch : List Int) (most : Int) {q k : Nat} (hq : q < 8) (hk : k < 8) :
    at2 (gridF (thirdF la ch most) 8 8) q k = at2 la (q / 2) (k / 2) * (if k % 2 = 0 then most - atZ ch ((q % 2 : Nat) : Int) else atZ ch ((q % 2 : Nat) : Int)) := by
  rw [at2_grid hq hk]
  unfold thirdF at2
  have e1 : (q : Int) / 2 = ((q / 2 : Nat) : Int) := by omega
  have e2 : (k : Int) / 2 = ((k / 2 : Nat) : Int) := by omega
  have e3 : (q : Int) % 2 = ((q % 2 : Nat) : Int) := by omega
  rw [e1, e2, e3]
  by_cases h : k % 2 = 0
  · rw [if_pos h, if_pos (by omega)]
  · rw [if_neg h, if_neg (by omega)]
/-- what a quiet box says, told by its numbers -/
structure Quiet4 (la : List (List Int)) : Prop where
  f : ∀ y b : Nat, y < 2 → b < 2 → at2 la y b + at2 la y (b + 2) = at2 la (y + 2) b + at2 la (y + 2) (b + 2)
  s : ∀ x a : Nat, x < 2 → a < 2 → at2 la (2 * x) (2 * a) + at2 la (2 * x) (2 * a + 1) = at2 la (2 * x + 1) (2 * a) + at2 la (2 * x + 1) (2 * a + 1)
theorem box_sum {n : Int} {la : List (List Int)} (h : boxB 2 2 n la = true) {j : Nat} (hj : j < 4) : at2 la j 0 + at2 la j 1 + at2 la j 2 + at2 la j 3 = n := box4 h (q := (j : Int)) (by omega) (by omega)
theorem quiet4 {n : Int} {la : List (List Int)} (h : boxB 2 2 n la = true) (hq : quiet2 la = true) : Quiet4 la := by
  have s0 := box_sum h (j := 0) (by omega); have s1 := box_sum h (j := 1) (by omega); have s2 := box_sum h (j := 2) (by omega); have s3 := box_sum h (j := 3) (by omega)
  simp only [quiet2, stillB, Bool.and_eq_true, decide_eq_true_eq] at hq
  obtain ⟨q1, q2, q3, q4⟩ := hq
  replace q1 : at2 la 1 2 + at2 la 1 3 = at2 la 0 2 + at2 la 0 3 := q1
  replace q2 : at2 la 3 2 + at2 la 3 3 = at2 la 2 2 + at2 la 2 3 := q2
  replace q3 : at2 la 2 1 + at2 la 2 3 = at2 la 0 1 + at2 la 0 3 := q3
  replace q4 : at2 la 3 1 + at2 la 3 3 = at2 la 1 1 + at2 la 1 3 := q4
  refine ⟨fun y b hy hb => ?_, fun x a hx ha => ?_⟩
  · rcases (by omega : y = 0 ∨ y = 1) with rfl | rfl <;> rcases (by omega : b = 0 ∨ b = 1) with rfl | rfl <;> simp only [Nat.zero_add, Nat.reduceAdd] <;> omega
  · rcases (by omega : x = 0 ∨ x = 1) with rfl | rfl <;> rcases (by omega : a = 0 ∨ a = 1) with rfl | rfl <;> simp only [Nat.zero_add, Nat.reduceAdd, Nat.reduceMul, Nat.mul_zero] <;> omega
theorem quiet4_2 {la : List (List Int)} (h : Quiet4 la) : quiet2 la = true := by
  have a1 := h.s 0 1 (by omega) (by omega)
  have a2 := h.s 1 1 (by omega) (by omega)
  have a3 := h.f 0 1 (by omega) (by omega)
  have a4 := h.f 1 1 (by omega) (by omega)
  simp only [quiet2, stillB, Bool.and_eq_true, decide_eq_true_eq]
  exact ⟨a1.symm, a2.symm, a3.symm, a4.symm⟩
theorem third_quiet {n : Int} {la : List (List Int)} (ch : List Int) (most : Int) (h : boxB 2 2 n la = true) (hq : quiet2 la = true) : quiet3 (gridF (thirdF la ch most) 8 8) = true := by
  have Q := quiet4 h hq
  rw [quiet_iff]
  rintro d (rfl | rfl | rfl) q hq a ha h0
  · have hq4 : q < 4 := by
      rcases (by omega : q < 4 ∨ q = 4 ∨ q = 5 ∨ q = 6 ∨ q = 7) with h | rfl | rfl | rfl | rfl
      · exact h
      all_goals exact absurd h0 (by decide)
    have e1 : q ||| 4 = q + 4 := by rcases (by omega : q = 0 ∨ q = 1 ∨ q = 2 ∨ q = 3) with rfl | rfl | rfl | rfl <;> rfl
    have e2 : (a ^^^ 4) < 8 ∧ (a ^^^ 4) % 2 = a % 2 ∧ ((a / 2 < 2 ∧ (a ^^^ 4) / 2 = a / 2 + 2) ∨ ((a ^^^ 4) / 2 < 2 ∧ a / 2 = (a ^^^ 4) / 2 + 2)) := by
      rcases (by omega : a = 0 ∨ a = 1 ∨ a = 2 ∨ a = 3 ∨ a = 4 ∨ a = 5 ∨ a = 6 ∨ a = 7) with rfl | rfl | rfl | rfl | rfl | rfl | rfl | rfl <;> decide
    obtain ⟨x1, x2, x3⟩ := e2
    rw [e1, third_at la ch most hq ha, third_at la ch most hq x1, third_at la ch most (by omega) ha, third_at la ch most (by omega) x1, x2, show (q + 4) % 2 = q % 2 by omega, show (q + 4) / 2 = q / 2 + 2 by omega, ← Int.add_mul, ← Int.add_mul]
    congr 1
    rcases x3 with ⟨u, v⟩ | ⟨u, v⟩
    · rw [v]; exact Q.f _ _ (by omega) u
    · rw [v]; have := Q.f (q / 2) _ (by omega) u; omega
  · have hq4 : q % 4 < 2 := by
      rcases (by omega : q % 4 < 2 ∨ q = 2 ∨ q = 3 ∨ q = 6 ∨ q = 7) with h | rfl | rfl | rfl | rfl
      · exact h
      all_goals exact absurd h0 (by decide)
    have e1 : q ||| 2 = q + 2 := by rcases (by omega : q = 0 ∨ q = 1 ∨ q = 4 ∨ q = 5) with rfl | rfl | rfl | rfl <;> rfl
    have e2 : (a ^^^ 2) < 8 ∧ (a ^^^ 2) % 2 = a % 2 ∧ ((a / 2 = 2 * (a / 4) ∧ (a ^^^ 2) / 2 = 2 * (a / 4) + 1) ∨ ((a ^^^ 2) / 2 = 2 * (a / 4) ∧ a / 2 = 2 * (a / 4) + 1)) ∧ a / 4 < 2 := by
      rcases (by omega : a = 0 ∨ a = 1 ∨ a = 2 ∨ a = 3 ∨ a = 4 ∨ a = 5 ∨ a = 6 ∨ a = 7) with rfl | rfl | rfl | rfl | rfl | rfl | rfl | rfl <;> decide
    obtain ⟨x1, x2, x3, x4⟩ := e2
    rw [e1, third_at la ch most hq ha, third_at la ch most hq x1, third_at la ch most (by omega) ha, third_at la ch most (by omega) x1, x2, show (q + 2) % 2 = q % 2 by omega, show (q + 2) / 2 = 2 * (q / 4) + 1 by omega, show q / 2 = 2 * (q / 4) by omega, ← Int.add_mul, ← Int.add_mul]
    congr 1
    have := Q.s (q / 4) (a / 4) (by omega) x4
    rcases x3 with ⟨u, v⟩ | ⟨u, v⟩
    · rw [u, v]; exact this
    · rw [u, v]; omega
  · have hq4 : q % 2 = 0 := by
      rcases (by omega : q % 2 = 0 ∨ q = 1 ∨ q = 3 ∨ q = 5 ∨ q = 7) with h | rfl | rfl | rfl | rfl
      · exact h
      all_goals exact absurd h0 (by decide)
    have e1 : q ||| 1 = q + 1 := by rcases (by omega : q = 0 ∨ q = 2 ∨ q = 4 ∨ q = 6) with rfl | rfl | rfl | rfl <;> rfl
    have e2 : (a ^^^ 1) < 8 ∧ (a ^^^ 1) / 2 = a / 2 ∧ ((a % 2 = 0 ∧ (a ^^^ 1) % 2 = 1) ∨ (a % 2 = 1 ∧ (a ^^^ 1) % 2 = 0)) := by
      rcases (by omega : a = 0 ∨ a = 1 ∨ a = 2 ∨ a = 3 ∨ a = 4 ∨ a = 5 ∨ a = 6 ∨ a = 7) with rfl | rfl | rfl | rfl | rfl | rfl | rfl | rfl <;> decide
    obtain ⟨x1, x2, x3⟩ := e2
    rw [e1, third_at la ch most hq ha, third_at la ch most hq x1, third_at la ch most (by omega) ha, third_at la ch most (by omega) x1, x2, show (q + 1) / 2 = q / 2 by omega, ← Int.mul_add, ← Int.mul_add]
    congr 1
    rcases x3 with ⟨u, v⟩ | ⟨u, v⟩ <;> rw [u, v] <;> simp <;> omega
theorem pair_at2 (a : Int) (ll : List (List Int)) {j p : Nat} (hj : j < 4) (hp : p < 4) : at2 (boxF (pairV a ll) 2 4) j p = at2 ll (two2 a (j / 2) (j % 2)) (two2 a (p / 2) (p % 2)) + at2 ll (two2 a (j / 2) (j % 2)) (two2 a (p / 2) (p % 2) + 2 ^ (2 - a.toNat)) := by
  unfold at2
  rw [boxF_at hj, rowF_atZ _ hp]
  rfl
theorem third_pair (la : List (List Int)) (ch : List Int) (most : Int) {j p : Nat} (hj : j < 4) (hp : p < 4) : at2 (boxF (pairV 2 (gridF (thirdF la ch most) 8 8)) 2 4) j p = at2 la j p * most := by
  rw [pair_at2 2 _ hj hp]
  have e1 : two2 2 (j / 2) (j % 2) = 2 * j := by rcases (by omega : j = 0 ∨ j = 1 ∨ j = 2 ∨ j = 3) with rfl | rfl | rfl | rfl <;> rfl
  have e2 : two2 2 (p / 2) (p % 2) = 2 * p := by rcases (by omega : p = 0 ∨ p = 1 ∨ p = 2 ∨ p = 3) with rfl | rfl | rfl | rfl <;> rfl
  have e3 : 2 ^ (2 - (2 : Int).toNat) = 1 := rfl
  rw [e1, e2, e3, third_at la ch most (by omega) (by omega), third_at la ch most (by omega) (by omega), ← show j = 2 * j / 2 by omega, show 2 * p / 2 = p by omega, show (2 * p + 1) / 2 = p by omega, if_pos (by omega), if_neg (by omega), ← Int.mul_add]
  congr 1
  omega
theorem third_alike (la : List (List Int)) (ch : List Int) (most n : Int) (hl : la.length = 4) : alikeB (boxF (pairV 2 (gridF (thirdF la ch most) 8 8)) 2 4) (n * most) la n = true := by
  unfold alikeB
  rw [List.all_eq_true]
  intro q hq
  rw [List.all_eq_true]
  intro k hk
  have hq := List.mem_range.1 hq
  have hk := List.mem_range.1 hk
  rw [boxF_len] at hq
  rw [third_pair la ch most hq hk, decide_eq_true_eq, Int.mul_assoc, Int.mul_comm most n]
/-! the boxes of a quiet trio's pairs -/
theorem pair_box {a n : Int} {ll : List (List Int)} (ha : a = 0 ∨ a = 1 ∨ a = 2) (h : trioB n ll = true) : boxB 2 2 n (boxF (pairV a ll) 2 4) = true := by
  have hn := trioB_spec h
  have := rows_box (x := 2) (y := 2) (n := n) (f := pairV a ll) (by omega) (by omega) (by omega) (by omega) fun i k hi hk => by
    have t := two2_lt ha (x := i) (y := k) (by omega) (by omega)
    have s := trio_row h t.1
    have e : ∀ p, pairV a ll i k p = at2 ll (two2 a i k) (two2 a (p / 2) (p % 2)) + at2 ll (two2 a i k) (two2 a (p / 2) (p % 2) + 2 ^ (2 - a.toNat)) := fun p => rfl
    refine ⟨fun p hp => ?_, ?_⟩
    · have u := two2_lt ha (x := p / 2) (y := p % 2) (by omega) (by omega)
      have b1 := trio_at2 h t.1 u.1
      have b2 := trio_at2 h t.1 u.2
      rw [e]; omega
    · rw [e, e, e, e, ← s]
      rcases ha with rfl | rfl | rfl <;> simp [two2, oth1, oth2] <;> omega
  have d : decide (n ≤ 1000) = true := decide_eq_true hn.2.1
  rw [d] at this
  exact this
/-- the quiet equations, with numbers in hand -/
theorem quiet_eqs {ll : List (List Int)} (h : QuietP ll) : ∀ q, q < 8 → ∀ a, a < 8 → (q / 4 = 0 → at2 ll q a + at2 ll q (a ^^^ 4) = at2 ll (q + 4) a + at2 ll (q + 4) (a ^^^ 4)) ∧ (q / 2 % 2 = 0 → at2 ll q a + at2 ll q (a ^^^ 2) = at2 ll (q + 2) a + at2 ll (q + 2) (a ^^^ 2)) ∧ (q % 2 = 0 → at2 ll q a + at2 ll q (a ^^^ 1) = at2 ll (q + 1) a + at2 ll (q + 1) (a ^^^ 1)) := by
  intro q hq a ha
  have F := h 4 (.inl rfl) q hq a ha
  have G := h 2 (.inr (.inl rfl)) q hq a ha
  have H := h 1 (.inr (.inr rfl)) q hq a ha
  rcases (by omega : q = 0 ∨ q = 1 ∨ q = 2 ∨ q = 3 ∨ q = 4 ∨ q = 5 ∨ q = 6 ∨ q = 7) with rfl | rfl | rfl | rfl | rfl | rfl | rfl | rfl <;>
    exact ⟨fun e => by first | exact F rfl | exact absurd e (by decide), fun e => by first | exact G rfl | exact absurd e (by decide), fun e => by first | exact H rfl | exact absurd e (by decide)⟩

end Go.Proofs.YtefbiejoikpkmaaGreat

namespace Go.Proofs.YtefbiejoikpkmaaGreat
open Go.RowKit
set_option linter.unusedSectionVars false
variable [Glb]
open Go
/-! two pairs of a quiet trio share their sums -/
theorem quiet_4 {ll : List (List Int)} (h : QuietP ll) : (at2 ll 0 0 + at2 ll 0 4 = at2 ll 4 0 + at2 ll 4 4) ∧ (at2 ll 0 1 + at2 ll 0 5 = at2 ll 4 1 + at2 ll 4 5) ∧ (at2 ll 0 2 + at2 ll 0 6 = at2 ll 4 2 + at2 ll 4 6) ∧ (at2 ll 0 3 + at2 ll 0 7 = at2 ll 4 3 + at2 ll 4 7) ∧ (at2 ll 1 0 + at2 ll 1 4 = at2 ll 5 0 + at2 ll 5 4) ∧ (at2 ll 1 1 + at2 ll 1 5 = at2 ll 5 1 + at2 ll 5 5) ∧ (at2 ll 1 2 + at2 ll 1 6 = at2 ll 5 2 + at2 ll 5 6) ∧ (at2 ll 1 3 + at2 ll 1 7 = at2 ll 5 3 + at2 ll 5 7) ∧ (at2 ll 2 0 + at2 ll 2 4 = at2 ll 6 0 + at2 ll 6 4) ∧ (at2 ll 2 1 + at2 ll 2 5 = at2 ll 6 1 + at2 ll 6 5) ∧ (at2 ll 2 2 + at2 ll 2 6 = at2 ll 6 2 + at2 ll 6 6) ∧ (at2 ll 2 3 + at2 ll 2 7 = at2 ll 6 3 + at2 ll 6 7) ∧ (at2 ll 3 0 + at2 ll 3 4 = at2 ll 7 0 + at2 ll 7 4) ∧ (at2 ll 3 1 + at2 ll 3 5 = at2 ll 7 1 + at2 ll 7 5) ∧ (at2 ll 3 2 + at2 ll 3 6 = at2 ll 7 2 + at2 ll 7 6) ∧ (at2 ll 3 3 + at2 ll 3 7 = at2 ll 7 3 + at2 ll 7 7) := by
  have k := quiet_eqs h
  exact ⟨(k 0 (by omega) 0 (by omega)).1 rfl, (k 0 (by omega) 1 (by omega)).1 rfl, (k 0 (by omega) 2 (by omega)).1 rfl, (k 0 (by omega) 3 (by omega)).1 rfl, (k 1 (by omega) 0 (by omega)).1 rfl, (k 1 (by omega) 1 (by omega)).1 rfl, (k 1 (by omega) 2 (by omega)).1 rfl, (k 1 (by omega) 3 (by omega)).1 rfl, (k 2 (by omega) 0 (by omega)).1 rfl, (k 2 (by omega) 1 (by omega)).1 rfl, (k 2 (by omega) 2 (by omega)).1 rfl, (k 2 (by omega) 3 (by omega)).1 rfl, (k 3 (by omega) 0 (by omega)).1 rfl, (k 3 (by omega) 1 (by omega)).1 rfl, (k 3 (by omega) 2 (by omega)).1 rfl, (k 3 (by omega) 3 (by omega)).1 rfl⟩
theorem quiet_2 {ll : List (List Int)} (h : QuietP ll) : (at2 ll 0 0 + at2 ll 0 2 = at2 ll 2 0 + at2 ll 2 2) ∧ (at2 ll 0 1 + at2 ll 0 3 = at2 ll 2 1 + at2 ll 2 3) ∧ (at2 ll 0 4 + at2 ll 0 6 = at2 ll 2 4 + at2 ll 2 6) ∧ (at2 ll 0 5 + at2 ll 0 7 = at2 ll 2 5 + at2 ll 2 7) ∧ (at2 ll 1 0 + at2 ll 1 2 = at2 ll 3 0 + at2 ll 3 2) ∧ (at2 ll 1 1 + at2 ll 1 3 = at2 ll 3 1 + at2 ll 3 3) ∧ (at2 ll 1 4 + at2 ll 1 6 = at2 ll 3 4 + at2 ll 3 6) ∧ (at2 ll 1 5 + at2 ll 1 7 = at2 ll 3 5 + at2 ll 3 7) ∧ (at2 ll 4 0 + at2 ll 4 2 = at2 ll 6 0 + at2 ll 6 2) ∧ (at2 ll 4 1 + at2 ll 4 3 = at2 ll 6 1 + at2 ll 6 3) ∧ (at2 ll 4 4 + at2 ll 4 6 = at2 ll 6 4 + at2 ll 6 6) ∧ (at2 ll 4 5 + at2 ll 4 7 = at2 ll 6 5 + at2 ll 6 7) ∧ (at2 ll 5 0 + at2 ll 5 2 = at2 ll 7 0 + at2 ll 7 2) ∧ (at2 ll 5 1 + at2 ll 5 3 = at2 ll 7 1 + at2 ll 7 3) ∧ (at2 ll 5 4 + at2 ll 5 6 = at2 ll 7 4 + at2 ll 7 6) ∧ (at2 ll 5 5 + at2 ll 5 7 = at2 ll 7 5 + at2 ll 7 7) := by
  have k := quiet_eqs h
  exact ⟨(k 0 (by omega) 0 (by omega)).2.1 rfl, (k 0 (by omega) 1 (by omega)).2.1 rfl, (k 0 (by omega) 4 (by omega)).2.1 rfl, (k 0 (by omega) 5 (by omega)).2.1 rfl, (k 1 (by omega) 0 (by omega)).2.1 rfl, (k 1 (by omega) 1 (by omega)).2.1 rfl, (k 1 (by omega) 4 (by omega)).2.1 rfl, (k 1 (by omega) 5 (by omega)).2.1 rfl, (k 4 (by omega) 0 (by omega)).2.1 rfl, (k 4 (by omega) 1 (by omega)).2.1 rfl, (k 4 (by omega) 4 (by omega)).2.1 rfl, (k 4 (by omega) 5 (by omega)).2.1 rfl, (k 5 (by omega) 0 (by omega)).2.1 rfl, (k 5 (by omega) 1 (by omega)).2.1 rfl, (k 5 (by omega) 4 (by omega)).2.1 rfl, (k 5 (by omega) 5 (by omega)).2.1 rfl⟩
theorem quiet_1 {ll : List (List Int)} (h : QuietP ll) : (at2 ll 0 0 + at2 ll 0 1 = at2 ll 1 0 + at2 ll 1 1) ∧ (at2 ll 0 2 + at2 ll 0 3 = at2 ll 1 2 + at2 ll 1 3) ∧ (at2 ll 0 4 + at2 ll 0 5 = at2 ll 1 4 + at2 ll 1 5) ∧ (at2 ll 0 6 + at2 ll 0 7 = at2 ll 1 6 + at2 ll 1 7) ∧ (at2 ll 2 0 + at2 ll 2 1 = at2 ll 3 0 + at2 ll 3 1) ∧ (at2 ll 2 2 + at2 ll 2 3 = at2 ll 3 2 + at2 ll 3 3) ∧ (at2 ll 2 4 + at2 ll 2 5 = at2 ll 3 4 + at2 ll 3 5) ∧ (at2 ll 2 6 + at2 ll 2 7 = at2 ll 3 6 + at2 ll 3 7) ∧ (at2 ll 4 0 + at2 ll 4 1 = at2 ll 5 0 + at2 ll 5 1) ∧ (at2 ll 4 2 + at2 ll 4 3 = at2 ll 5 2 + at2 ll 5 3) ∧ (at2 ll 4 4 + at2 ll 4 5 = at2 ll 5 4 + at2 ll 5 5) ∧ (at2 ll 4 6 + at2 ll 4 7 = at2 ll 5 6 + at2 ll 5 7) ∧ (at2 ll 6 0 + at2 ll 6 1 = at2 ll 7 0 + at2 ll 7 1) ∧ (at2 ll 6 2 + at2 ll 6 3 = at2 ll 7 2 + at2 ll 7 3) ∧ (at2 ll 6 4 + at2 ll 6 5 = at2 ll 7 4 + at2 ll 7 5) ∧ (at2 ll 6 6 + at2 ll 6 7 = at2 ll 7 6 + at2 ll 7 7) := by
  have k := quiet_eqs h
  exact ⟨(k 0 (by omega) 0 (by omega)).2.2 rfl, (k 0 (by omega) 2 (by omega)).2.2 rfl, (k 0 (by omega) 4 (by omega)).2.2 rfl, (k 0 (by omega) 6 (by omega)).2.2 rfl, (k 2 (by omega) 0 (by omega)).2.2 rfl, (k 2 (by omega) 2 (by omega)).2.2 rfl, (k 2 (by omega) 4 (by omega)).2.2 rfl, (k 2 (by omega) 6 (by omega)).2.2 rfl, (k 4 (by omega) 0 (by omega)).2.2 rfl, (k 4 (by omega) 2 (by omega)).2.2 rfl, (k 4 (by omega) 4 (by omega)).2.2 rfl, (k 4 (by omega) 6 (by omega)).2.2 rfl, (k 6 (by omega) 0 (by omega)).2.2 rfl, (k 6 (by omega) 2 (by omega)).2.2 rfl, (k 6 (by omega) 4 (by omega)).2.2 rfl, (k 6 (by omega) 6 (by omega)).2.2 rfl⟩
theorem agr_pair (a : Int) (ll : List (List Int)) (j : Nat) : agrK (boxF (pairV a ll) 2 4) j = at2 (boxF (pairV a ll) 2 4) j 0 - at2 (boxF (pairV a ll) 2 4) j 1 - at2 (boxF (pairV a ll) 2 4) j 2 + at2 (boxF (pairV a ll) 2 4) j 3 := rfl
theorem agr_00 (ll : List (List Int)) : agrK (boxF (pairV 0 ll) 2 4) 0 = (at2 ll 0 0 + at2 ll 0 4) - (at2 ll 0 1 + at2 ll 0 5) - (at2 ll 0 2 + at2 ll 0 6) + (at2 ll 0 3 + at2 ll 0 7) := by
  rw [agr_pair, pair_at2 0 ll (j := 0) (p := 0) (by omega) (by omega), pair_at2 0 ll (j := 0) (p := 1) (by omega) (by omega), pair_at2 0 ll (j := 0) (p := 2) (by omega) (by omega), pair_at2 0 ll (j := 0) (p := 3) (by omega) (by omega)]; rfl
theorem agr_01 (ll : List (List Int)) : agrK (boxF (pairV 0 ll) 2 4) 1 = (at2 ll 1 0 + at2 ll 1 4) - (at2 ll 1 1 + at2 ll 1 5) - (at2 ll 1 2 + at2 ll 1 6) + (at2 ll 1 3 + at2 ll 1 7) := by
  rw [agr_pair, pair_at2 0 ll (j := 1) (p := 0) (by omega) (by omega), pair_at2 0 ll (j := 1) (p := 1) (by omega) (by omega), pair_at2 0 ll (j := 1) (p := 2) (by omega) (by omega), pair_at2 0 ll (j := 1) (p := 3) (by omega) (by omega)]; rfl
theorem agr_02 (ll : List (List Int)) : agrK (boxF (pairV 0 ll) 2 4) 2 = (at2 ll 2 0 + at2 ll 2 4) - (at2 ll 2 1 + at2 ll 2 5) - (at2 ll 2 2 + at2 ll 2 6) + (at2 ll 2 3 + at2 ll 2 7) := by
  rw [agr_pair, pair_at2 0 ll (j := 2) (p := 0) (by omega) (by omega), pair_at2 0 ll (j := 2) (p := 1) (by omega) (by omega), pair_at2 0 ll (j := 2) (p := 2) (by omega) (by omega), pair_at2 0 ll (j := 2) (p := 3) (by omega) (by omega)]; rfl
theorem agr_03 (ll : List (List Int)) : agrK (boxF (pairV 0 ll) 2 4) 3 = (at2 ll 3 0 + at2 ll 3 4) - (at2 ll 3 1 + at2 ll 3 5) - (at2 ll 3 2 + at2 ll 3 6) + (at2 ll 3 3 + at2 ll 3 7) := by
  rw [agr_pair, pair_at2 0 ll (j := 3) (p := 0) (by omega) (by omega), pair_at2 0 ll (j := 3) (p := 1) (by omega) (by omega), pair_at2 0 ll (j := 3) (p := 2) (by omega) (by omega), pair_at2 0 ll (j := 3) (p := 3) (by omega) (by omega)]; rfl
theorem agr_10 (ll : List (List Int)) : agrK (boxF (pairV 1 ll) 2 4) 0 = (at2 ll 0 0 + at2 ll 0 2) - (at2 ll 0 1 + at2 ll 0 3) - (at2 ll 0 4 + at2 ll 0 6) + (at2 ll 0 5 + at2 ll 0 7) := by
  rw [agr_pair, pair_at2 1 ll (j := 0) (p := 0) (by omega) (by omega), pair_at2 1 ll (j := 0) (p := 1) (by omega) (by omega), pair_at2 1 ll (j := 0) (p := 2) (by omega) (by omega), pair_at2 1 ll (j := 0) (p := 3) (by omega) (by omega)]; rfl
theorem agr_11 (ll : List (List Int)) : agrK (boxF (pairV 1 ll) 2 4) 1 = (at2 ll 1 0 + at2 ll 1 2) - (at2 ll 1 1 + at2 ll 1 3) - (at2 ll 1 4 + at2 ll 1 6) + (at2 ll 1 5 + at2 ll 1 7) := by
  rw [agr_pair, pair_at2 1 ll (j := 1) (p := 0) (by omega) (by omega), pair_at2 1 ll (j := 1) (p := 1) (by omega) (by omega), pair_at2 1 ll (j := 1) (p := 2) (by omega) (by omega), pair_at2 1 ll (j := 1) (p := 3) (by omega) (by omega)]; rfl
theorem agr_12 (ll : List (List Int)) : agrK (boxF (pairV 1 ll) 2 4) 2 = (at2 ll 4 0 + at2 ll 4 2) - (at2 ll 4 1 + at2 ll 4 3) - (at2 ll 4 4 + at2 ll 4 6) + (at2 ll 4 5 + at2 ll 4 7) := by
  rw [agr_pair, pair_at2 1 ll (j := 2) (p := 0) (by omega) (by omega), pair_at2 1 ll (j := 2) (p := 1) (by omega) (by omega), pair_at2 1 ll (j := 2) (p := 2) (by omega) (by omega), pair_at2 1 ll (j := 2) (p := 3) (by omega) (by omega)]; rfl
theorem agr_13 (ll : List (List Int)) : agrK (boxF (pairV 1 ll) 2 4) 3 = (at2 ll 5 0 + at2 ll 5 2) - (at2 ll 5 1 + at2 ll 5 3) - (at2 ll 5 4 + at2 ll 5 6) + (at2 ll 5 5 + at2 ll 5 7) := by
  rw [agr_pair, pair_at2 1 ll (j := 3) (p := 0) (by omega) (by omega), pair_at2 1 ll (j := 3) (p := 1) (by omega) (by omega), pair_at2 1 ll (j := 3) (p := 2) (by omega) (by omega), pair_at2 1 ll (j := 3) (p := 3) (by omega) (by omega)]; rfl
theorem agr_20 (ll : List (List Int)) : agrK (boxF (pairV 2 ll) 2 4) 0 = (at2 ll 0 0 + at2 ll 0 1) - (at2 ll 0 2 + at2 ll 0 3) - (at2 ll 0 4 + at2 ll 0 5) + (at2 ll 0 6 + at2 ll 0 7) := by
  rw [agr_pair, pair_at2 2 ll (j := 0) (p := 0) (by omega) (by omega), pair_at2 2 ll (j := 0) (p := 1) (by omega) (by omega), pair_at2 2 ll (j := 0) (p := 2) (by omega) (by omega), pair_at2 2 ll (j := 0) (p := 3) (by omega) (by omega)]; rfl
theorem agr_21 (ll : List (List Int)) : agrK (boxF (pairV 2 ll) 2 4) 1 = (at2 ll 2 0 + at2 ll 2 1) - (at2 ll 2 2 + at2 ll 2 3) - (at2 ll 2 4 + at2 ll 2 5) + (at2 ll 2 6 + at2 ll 2 7) := by
  rw [agr_pair, pair_at2 2 ll (j := 1) (p := 0) (by omega) (by omega), pair_at2 2 ll (j := 1) (p := 1) (by omega) (by omega), pair_at2 2 ll (j := 1) (p := 2) (by omega) (by omega), pair_at2 2 ll (j := 1) (p := 3) (by omega) (by omega)]; rfl
theorem agr_22 (ll : List (List Int)) : agrK (boxF (pairV 2 ll) 2 4) 2 = (at2 ll 4 0 + at2 ll 4 1) - (at2 ll 4 2 + at2 ll 4 3) - (at2 ll 4 4 + at2 ll 4 5) + (at2 ll 4 6 + at2 ll 4 7) := by
  rw [agr_pair, pair_at2 2 ll (j := 2) (p := 0) (by omega) (by omega), pair_at2 2 ll (j := 2) (p := 1) (by omega) (by omega), pair_at2 2 ll (j := 2) (p := 2) (by omega) (by omega), pair_at2 2 ll (j := 2) (p := 3) (by omega) (by omega)]; rfl
theorem agr_23 (ll : List (List Int)) : agrK (boxF (pairV 2 ll) 2 4) 3 = (at2 ll 6 0 + at2 ll 6 1) - (at2 ll 6 2 + at2 ll 6 3) - (at2 ll 6 4 + at2 ll 6 5) + (at2 ll 6 6 + at2 ll 6 7) := by
  rw [agr_pair, pair_at2 2 ll (j := 3) (p := 0) (by omega) (by omega), pair_at2 2 ll (j := 3) (p := 1) (by omega) (by omega), pair_at2 2 ll (j := 3) (p := 2) (by omega) (by omega), pair_at2 2 ll (j := 3) (p := 3) (by omega) (by omega)]; rfl
theorem pair_quiet {a : Int} {ll : List (List Int)} (ha : a = 0 ∨ a = 1 ∨ a = 2) (hq : quiet3 ll = true) : quiet2 (boxF (pairV a ll) 2 4) = true := by
  have Q := (quiet_iff ll).1 hq
  have A := quiet_4 Q
  have B := quiet_2 Q
  have C := quiet_1 Q
  refine quiet4_2 ⟨fun y b hy hb => ?_, fun x b hx hb => ?_⟩
  · rcases ha with rfl | rfl | rfl <;> rcases (by omega : y = 0 ∨ y = 1) with rfl | rfl <;> rcases (by omega : b = 0 ∨ b = 1) with rfl | rfl <;> rw [pair_at2 _ _ (by omega) (by omega), pair_at2 _ _ (by omega) (by omega), pair_at2 _ _ (by omega) (by omega), pair_at2 _ _ (by omega) (by omega)]
    · show (at2 ll 0 0 + at2 ll 0 4) + (at2 ll 0 2 + at2 ll 0 6) = (at2 ll 2 0 + at2 ll 2 4) + (at2 ll 2 2 + at2 ll 2 6); clear A C Q; omega
    · show (at2 ll 0 1 + at2 ll 0 5) + (at2 ll 0 3 + at2 ll 0 7) = (at2 ll 2 1 + at2 ll 2 5) + (at2 ll 2 3 + at2 ll 2 7); clear A C Q; omega
    · show (at2 ll 1 0 + at2 ll 1 4) + (at2 ll 1 2 + at2 ll 1 6) = (at2 ll 3 0 + at2 ll 3 4) + (at2 ll 3 2 + at2 ll 3 6); clear A C Q; omega
    · show (at2 ll 1 1 + at2 ll 1 5) + (at2 ll 1 3 + at2 ll 1 7) = (at2 ll 3 1 + at2 ll 3 5) + (at2 ll 3 3 + at2 ll 3 7); clear A C Q; omega
    · show (at2 ll 0 0 + at2 ll 0 2) + (at2 ll 0 4 + at2 ll 0 6) = (at2 ll 4 0 + at2 ll 4 2) + (at2 ll 4 4 + at2 ll 4 6); clear B C Q; omega
    · show (at2 ll 0 1 + at2 ll 0 3) + (at2 ll 0 5 + at2 ll 0 7) = (at2 ll 4 1 + at2 ll 4 3) + (at2 ll 4 5 + at2 ll 4 7); clear B C Q; omega
    · show (at2 ll 1 0 + at2 ll 1 2) + (at2 ll 1 4 + at2 ll 1 6) = (at2 ll 5 0 + at2 ll 5 2) + (at2 ll 5 4 + at2 ll 5 6); clear B C Q; omega
    · show (at2 ll 1 1 + at2 ll 1 3) + (at2 ll 1 5 + at2 ll 1 7) = (at2 ll 5 1 + at2 ll 5 3) + (at2 ll 5 5 + at2 ll 5 7); clear B C Q; omega
    · show (at2 ll 0 0 + at2 ll 0 1) + (at2 ll 0 4 + at2 ll 0 5) = (at2 ll 4 0 + at2 ll 4 1) + (at2 ll 4 4 + at2 ll 4 5); clear B C Q; omega
    · show (at2 ll 0 2 + at2 ll 0 3) + (at2 ll 0 6 + at2 ll 0 7) = (at2 ll 4 2 + at2 ll 4 3) + (at2 ll 4 6 + at2 ll 4 7); clear B C Q; omega
    · show (at2 ll 2 0 + at2 ll 2 1) + (at2 ll 2 4 + at2 ll 2 5) = (at2 ll 6 0 + at2 ll 6 1) + (at2 ll 6 4 + at2 ll 6 5); clear B C Q; omega
    · show (at2 ll 2 2 + at2 ll 2 3) + (at2 ll 2 6 + at2 ll 2 7) = (at2 ll 6 2 + at2 ll 6 3) + (at2 ll 6 6 + at2 ll 6 7); clear B C Q; omega
  · rcases ha with rfl | rfl | rfl <;> rcases (by omega : x = 0 ∨ x = 1) with rfl | rfl <;> rcases (by omega : b = 0 ∨ b = 1) with rfl | rfl <;> rw [pair_at2 _ _ (by omega) (by omega), pair_at2 _ _ (by omega) (by omega), pair_at2 _ _ (by omega) (by omega), pair_at2 _ _ (by omega) (by omega)]
    · show (at2 ll 0 0 + at2 ll 0 4) + (at2 ll 0 1 + at2 ll 0 5) = (at2 ll 1 0 + at2 ll 1 4) + (at2 ll 1 1 + at2 ll 1 5); clear A B Q; omega
    · show (at2 ll 0 2 + at2 ll 0 6) + (at2 ll 0 3 + at2 ll 0 7) = (at2 ll 1 2 + at2 ll 1 6) + (at2 ll 1 3 + at2 ll 1 7); clear A B Q; omega
    · show (at2 ll 2 0 + at2 ll 2 4) + (at2 ll 2 1 + at2 ll 2 5) = (at2 ll 3 0 + at2 ll 3 4) + (at2 ll 3 1 + at2 ll 3 5); clear A B Q; omega
    · show (at2 ll 2 2 + at2 ll 2 6) + (at2 ll 2 3 + at2 ll 2 7) = (at2 ll 3 2 + at2 ll 3 6) + (at2 ll 3 3 + at2 ll 3 7); clear A B Q; omega
    · show (at2 ll 0 0 + at2 ll 0 2) + (at2 ll 0 1 + at2 ll 0 3) = (at2 ll 1 0 + at2 ll 1 2) + (at2 ll 1 1 + at2 ll 1 3); clear A B Q; omega
    · show (at2 ll 0 4 + at2 ll 0 6) + (at2 ll 0 5 + at2 ll 0 7) = (at2 ll 1 4 + at2 ll 1 6) + (at2 ll 1 5 + at2 ll 1 7); clear A B Q; omega
    · show (at2 ll 4 0 + at2 ll 4 2) + (at2 ll 4 1 + at2 ll 4 3) = (at2 ll 5 0 + at2 ll 5 2) + (at2 ll 5 1 + at2 ll 5 3); clear A B Q; omega
    · show (at2 ll 4 4 + at2 ll 4 6) + (at2 ll 4 5 + at2 ll 4 7) = (at2 ll 5 4 + at2 ll 5 6) + (at2 ll 5 5 + at2 ll 5 7); clear A B Q; omega
    · show (at2 ll 0 0 + at2 ll 0 1) + (at2 ll 0 2 + at2 ll 0 3) = (at2 ll 2 0 + at2 ll 2 1) + (at2 ll 2 2 + at2 ll 2 3); clear A C Q; omega
    · show (at2 ll 0 4 + at2 ll 0 5) + (at2 ll 0 6 + at2 ll 0 7) = (at2 ll 2 4 + at2 ll 2 5) + (at2 ll 2 6 + at2 ll 2 7); clear A C Q; omega
    · show (at2 ll 4 0 + at2 ll 4 1) + (at2 ll 4 2 + at2 ll 4 3) = (at2 ll 6 0 + at2 ll 6 1) + (at2 ll 6 2 + at2 ll 6 3); clear A C Q; omega
    · show (at2 ll 4 4 + at2 ll 4 5) + (at2 ll 4 6 + at2 ll 4 7) = (at2 ll 6 4 + at2 ll 6 5) + (at2 ll 6 6 + at2 ll 6 7); clear A C Q; omega
def Sgn (x : Int) : Prop := x = 1 ∨ x = -1
theorem sgn_mul {x y : Int} (hx : Sgn x) (hy : Sgn y) : Sgn (x * y) := by
  rcases hx with rfl | rfl <;> rcases hy with rfl | rfl <;> simp [Sgn]
theorem m16 {f0 f1 f2 f3 f4 f5 f6 f7 g0 g1 g2 g3 g4 g5 g6 g7 n α β α' β' : Int} (hf0 : 0 ≤ f0) (hg0 : 0 ≤ g0) (hf1 : 0 ≤ f1) (hg1 : 0 ≤ g1) (hf2 : 0 ≤ f2) (hg2 : 0 ≤ g2) (hf3 : 0 ≤ f3) (hg3 : 0 ≤ g3) (hf4 : 0 ≤ f4) (hg4 : 0 ≤ g4) (hf5 : 0 ≤ f5) (hg5 : 0 ≤ g5) (hf6 : 0 ≤ f6) (hg6 : 0 ≤ g6) (hf7 : 0 ≤ f7) (hg7 : 0 ≤ g7) (e0 : f0 + f4 = g0 + g4) (e1 : f1 + f5 = g1 + g5) (e2 : f2 + f6 = g2 + g6) (e3 : f3 + f7 = g3 + g7) (hn : f0 + f1 + f2 + f3 + f4 + f5 + f6 + f7 = n)
    (ha : Sgn α) (hb : Sgn β) (ha' : Sgn α') (hb' : Sgn β') (h : α * α' * (β * β') = -1) :
    (f0 + f1 - f2 - f3 - f4 - f5 + f6 + f7) * α + (f0 - f1 + f2 - f3 - f4 + f5 - f6 + f7) * β + (g0 + g1 - g2 - g3 - g4 - g5 + g6 + g7) * α' + (g0 - g1 + g2 - g3 - g4 + g5 - g6 + g7) * β' ≤ 2 * n := by
  rcases ha with rfl | rfl <;> rcases hb with rfl | rfl <;> rcases ha' with rfl | rfl <;> rcases hb' with rfl | rfl <;> first | (exfalso; revert h; decide) | (clear h; omega)
theorem monoSgn {EP ER a b : Nat → Nat → Int} {n : Int} (M : ∀ u v, u < 2 → v < 2 → ∀ α β α' β' : Int, Sgn α → Sgn β → Sgn α' → Sgn β' → α * α' * (β * β') = -1 → EP 0 u * α + ER 0 v * β + EP 1 u * α' + ER 1 v * β' ≤ 2 * n)
    (ha : ∀ s u, Sgn (a s u)) (hb : ∀ s u, Sgn (b s u)) (pa : a 0 0 * a 1 0 * (a 0 1 * a 1 1) = -1) (pb : b 0 0 * b 1 0 * (b 0 1 * b 1 1) = -1) :
    EP 0 0 * a 0 0 + EP 0 1 * a 0 1 + EP 1 0 * a 1 0 + EP 1 1 * a 1 1 + (ER 0 0 * b 0 0 + ER 0 1 * b 0 1 + ER 1 0 * b 1 0 + ER 1 1 * b 1 1) ≤ 4 * n := by
  have p0 := sgn_mul (ha 0 0) (ha 1 0)
  have p1 := sgn_mul (ha 0 1) (ha 1 1)
  have r0 := sgn_mul (hb 0 0) (hb 1 0)
  have r1 := sgn_mul (hb 0 1) (hb 1 1)
  have m00 := M 0 0 (by omega) (by omega) _ _ _ _ (ha 0 0) (hb 0 0) (ha 1 0) (hb 1 0)
  have m01 := M 0 1 (by omega) (by omega) _ _ _ _ (ha 0 0) (hb 0 1) (ha 1 0) (hb 1 1)
  have m10 := M 1 0 (by omega) (by omega) _ _ _ _ (ha 0 1) (hb 0 0) (ha 1 1) (hb 1 0)
  have m11 := M 1 1 (by omega) (by omega) _ _ _ _ (ha 0 1) (hb 0 1) (ha 1 1) (hb 1 1)
  generalize a 0 0 * a 1 0 = P0 at *
  generalize a 0 1 * a 1 1 = P1 at *
  generalize b 0 0 * b 1 0 = R0 at *
  generalize b 0 1 * b 1 1 = R1 at *
  rcases p0 with rfl | rfl <;> rcases r0 with rfl | rfl <;> rcases p1 with rfl | rfl <;> rcases r1 with rfl | rfl <;>
    first
    | (exfalso; revert pa; decide)
    | (exfalso; revert pb; decide)
    | (have x := m00 rfl; have y := m11 rfl; clear m00 m01 m10 m11 M; omega)
    | (have x := m01 rfl; have y := m10 rfl; clear m00 m01 m10 m11 M; omega)
def sigK (k x y : Nat) : Int := 1 - 2 * difK k x y
theorem sigK_sgn (k x y : Nat) : Sgn (sigK k x y) := by have := difK_bd k x y; unfold sigK Sgn; omega
theorem sigK_prod : ∀ k, k < 8 → sigK k 0 0 * sigK k 1 0 * (sigK k 0 1 * sigK k 1 1) = -1 ∧ sigK k 0 0 * sigK k 0 1 * (sigK k 1 0 * sigK k 1 1) = -1 := by decide
theorem sgnK_eq (P : List (List Int)) (k : Nat) : sgnK P k = agrK P 0 * sigK k 0 0 + agrK P 1 * sigK k 0 1 + agrK P 2 * sigK k 1 0 + agrK P 3 * sigK k 1 1 := by
  unfold sgnK
  simp only [accT, Int.zero_add]
  rfl
theorem mm_000 {n : Int} {ll : List (List Int)} (ht : trioB n ll = true) (Q : QuietP ll) {α β α' β' : Int} (ha : Sgn α) (hb : Sgn β) (ha' : Sgn α') (hb' : Sgn β') (h : α * α' * (β * β') = -1) : agrK (boxF (pairV 0 ll) 2 4) 0 * α + agrK (boxF (pairV 1 ll) 2 4) 0 * β + agrK (boxF (pairV 0 ll) 2 4) 1 * α' + agrK (boxF (pairV 1 ll) 2 4) 1 * β' ≤ 2 * n := by
  have QS := quiet_1 Q
  have QP := quiet_2 Q
  have QR := quiet_4 Q
  have N := fun q k : Nat => fun (hq : q < 8) (hk : k < 8) => (trio_at2 ht hq hk).1
  have T := trio_row ht (q := 0) (by omega)
  have x0 : agrK (boxF (pairV 0 ll) 2 4) 0 = at2 ll 0 0 + at2 ll 0 4 - at2 ll 0 2 - at2 ll 0 6 - at2 ll 0 1 - at2 ll 0 5 + at2 ll 0 3 + at2 ll 0 7 := by rw [agr_00]; clear QS QP ha hb ha' hb' h T; omega
  have x1 : agrK (boxF (pairV 0 ll) 2 4) 1 = at2 ll 1 0 + at2 ll 1 4 - at2 ll 1 2 - at2 ll 1 6 - at2 ll 1 1 - at2 ll 1 5 + at2 ll 1 3 + at2 ll 1 7 := by rw [agr_01]; clear QS QP ha hb ha' hb' h T; omega
  have y0 : agrK (boxF (pairV 1 ll) 2 4) 0 = at2 ll 0 0 - at2 ll 0 4 + at2 ll 0 2 - at2 ll 0 6 - at2 ll 0 1 + at2 ll 0 5 - at2 ll 0 3 + at2 ll 0 7 := by rw [agr_10]; clear QS QR ha hb ha' hb' h T; omega
  have y1 : agrK (boxF (pairV 1 ll) 2 4) 1 = at2 ll 1 0 - at2 ll 1 4 + at2 ll 1 2 - at2 ll 1 6 - at2 ll 1 1 + at2 ll 1 5 - at2 ll 1 3 + at2 ll 1 7 := by rw [agr_11]; clear QS QR ha hb ha' hb' h T; omega
  rw [x0, x1, y0, y1]
  exact m16 (N 0 0 (by omega) (by omega)) (N 1 0 (by omega) (by omega)) (N 0 4 (by omega) (by omega)) (N 1 4 (by omega) (by omega)) (N 0 2 (by omega) (by omega)) (N 1 2 (by omega) (by omega)) (N 0 6 (by omega) (by omega)) (N 1 6 (by omega) (by omega)) (N 0 1 (by omega) (by omega)) (N 1 1 (by omega) (by omega)) (N 0 5 (by omega) (by omega)) (N 1 5 (by omega) (by omega)) (N 0 3 (by omega) (by omega)) (N 1 3 (by omega) (by omega)) (N 0 7 (by omega) (by omega)) (N 1 7 (by omega) (by omega)) (by clear QP QR T; omega) (by clear QP QR T; omega) (by clear QP QR T; omega) (by clear QP QR T; omega) (by clear QS QP QR; omega) ha hb ha' hb' h
theorem mm_001 {n : Int} {ll : List (List Int)} (ht : trioB n ll = true) (Q : QuietP ll) {α β α' β' : Int} (ha : Sgn α) (hb : Sgn β) (ha' : Sgn α') (hb' : Sgn β') (h : α * α' * (β * β') = -1) : agrK (boxF (pairV 0 ll) 2 4) 0 * α + agrK (boxF (pairV 1 ll) 2 4) 2 * β + agrK (boxF (pairV 0 ll) 2 4) 1 * α' + agrK (boxF (pairV 1 ll) 2 4) 3 * β' ≤ 2 * n := by
  have QS := quiet_1 Q
  have QP := quiet_2 Q
  have QR := quiet_4 Q
  have N := fun q k : Nat => fun (hq : q < 8) (hk : k < 8) => (trio_at2 ht hq hk).1
  have T := trio_row ht (q := 4) (by omega)
  have x0 : agrK (boxF (pairV 0 ll) 2 4) 0 = at2 ll 4 0 + at2 ll 4 4 - at2 ll 4 2 - at2 ll 4 6 - at2 ll 4 1 - at2 ll 4 5 + at2 ll 4 3 + at2 ll 4 7 := by rw [agr_00]; clear QS QP ha hb ha' hb' h T; omega
  have x1 : agrK (boxF (pairV 0 ll) 2 4) 1 = at2 ll 5 0 + at2 ll 5 4 - at2 ll 5 2 - at2 ll 5 6 - at2 ll 5 1 - at2 ll 5 5 + at2 ll 5 3 + at2 ll 5 7 := by rw [agr_01]; clear QS QP ha hb ha' hb' h T; omega
  have y0 : agrK (boxF (pairV 1 ll) 2 4) 2 = at2 ll 4 0 - at2 ll 4 4 + at2 ll 4 2 - at2 ll 4 6 - at2 ll 4 1 + at2 ll 4 5 - at2 ll 4 3 + at2 ll 4 7 := by rw [agr_12]; clear QS QR ha hb ha' hb' h T; omega
  have y1 : agrK (boxF (pairV 1 ll) 2 4) 3 = at2 ll 5 0 - at2 ll 5 4 + at2 ll 5 2 - at2 ll 5 6 - at2 ll 5 1 + at2 ll 5 5 - at2 ll 5 3 + at2 ll 5 7 := by rw [agr_13]; clear QS QR ha hb ha' hb' h T; omega
  rw [x0, x1, y0, y1]
  exact m16 (N 4 0 (by omega) (by omega)) (N 5 0 (by omega) (by omega)) (N 4 4 (by omega) (by omega)) (N 5 4 (by omega) (by omega)) (N 4 2 (by omega) (by omega)) (N 5 2 (by omega) (by omega)) (N 4 6 (by omega) (by omega)) (N 5 6 (by omega) (by omega)) (N 4 1 (by omega) (by omega)) (N 5 1 (by omega) (by omega)) (N 4 5 (by omega) (by omega)) (N 5 5 (by omega) (by omega)) (N 4 3 (by omega) (by omega)) (N 5 3 (by omega) (by omega)) (N 4 7 (by omega) (by omega)) (N 5 7 (by omega) (by omega)) (by clear QP QR T; omega) (by clear QP QR T; omega) (by clear QP QR T; omega) (by clear QP QR T; omega) (by clear QS QP QR; omega) ha hb ha' hb' h
theorem mm_010 {n : Int} {ll : List (List Int)} (ht : trioB n ll = true) (Q : QuietP ll) {α β α' β' : Int} (ha : Sgn α) (hb : Sgn β) (ha' : Sgn α') (hb' : Sgn β') (h : α * α' * (β * β') = -1) : agrK (boxF (pairV 0 ll) 2 4) 2 * α + agrK (boxF (pairV 1 ll) 2 4) 0 * β + agrK (boxF (pairV 0 ll) 2 4) 3 * α' + agrK (boxF (pairV 1 ll) 2 4) 1 * β' ≤ 2 * n := by
  have QS := quiet_1 Q
  have QP := quiet_2 Q
  have QR := quiet_4 Q
  have N := fun q k : Nat => fun (hq : q < 8) (hk : k < 8) => (trio_at2 ht hq hk).1
  have T := trio_row ht (q := 2) (by omega)
  have x0 : agrK (boxF (pairV 0 ll) 2 4) 2 = at2 ll 2 0 + at2 ll 2 4 - at2 ll 2 2 - at2 ll 2 6 - at2 ll 2 1 - at2 ll 2 5 + at2 ll 2 3 + at2 ll 2 7 := by rw [agr_02]; clear QS QP ha hb ha' hb' h T; omega
  have x1 : agrK (boxF (pairV 0 ll) 2 4) 3 = at2 ll 3 0 + at2 ll 3 4 - at2 ll 3 2 - at2 ll 3 6 - at2 ll 3 1 - at2 ll 3 5 + at2 ll 3 3 + at2 ll 3 7 := by rw [agr_03]; clear QS QP ha hb ha' hb' h T; omega
  have y0 : agrK (boxF (pairV 1 ll) 2 4) 0 = at2 ll 2 0 - at2 ll 2 4 + at2 ll 2 2 - at2 ll 2 6 - at2 ll 2 1 + at2 ll 2 5 - at2 ll 2 3 + at2 ll 2 7 := by rw [agr_10]; clear QS QR ha hb ha' hb' h T; omega
  have y1 : agrK (boxF (pairV 1 ll) 2 4) 1 = at2 ll 3 0 - at2 ll 3 4 + at2 ll 3 2 - at2 ll 3 6 - at2 ll 3 1 + at2 ll 3 5 - at2 ll 3 3 + at2 ll 3 7 := by rw [agr_11]; clear QS QR ha hb ha' hb' h T; omega
  rw [x0, x1, y0, y1]
  exact m16 (N 2 0 (by omega) (by omega)) (N 3 0 (by omega) (by omega)) (N 2 4 (by omega) (by omega)) (N 3 4 (by omega) (by omega)) (N 2 2 (by omega) (by omega)) (N 3 2 (by omega) (by omega)) (N 2 6 (by omega) (by omega)) (N 3 6 (by omega) (by omega)) (N 2 1 (by omega) (by omega)) (N 3 1 (by omega) (by omega)) (N 2 5 (by omega) (by omega)) (N 3 5 (by omega) (by omega)) (N 2 3 (by omega) (by omega)) (N 3 3 (by omega) (by omega)) (N 2 7 (by omega) (by omega)) (N 3 7 (by omega) (by omega)) (by clear QP QR T; omega) (by clear QP QR T; omega) (by clear QP QR T; omega) (by clear QP QR T; omega) (by clear QS QP QR; omega) ha hb ha' hb' h
theorem mm_011 {n : Int} {ll : List (List Int)} (ht : trioB n ll = true) (Q : QuietP ll) {α β α' β' : Int} (ha : Sgn α) (hb : Sgn β) (ha' : Sgn α') (hb' : Sgn β') (h : α * α' * (β * β') = -1) : agrK (boxF (pairV 0 ll) 2 4) 2 * α + agrK (boxF (pairV 1 ll) 2 4) 2 * β + agrK (boxF (pairV 0 ll) 2 4) 3 * α' + agrK (boxF (pairV 1 ll) 2 4) 3 * β' ≤ 2 * n := by
  have QS := quiet_1 Q
  have QP := quiet_2 Q
  have QR := quiet_4 Q
  have N := fun q k : Nat => fun (hq : q < 8) (hk : k < 8) => (trio_at2 ht hq hk).1
  have T := trio_row ht (q := 6) (by omega)
  have x0 : agrK (boxF (pairV 0 ll) 2 4) 2 = at2 ll 6 0 + at2 ll 6 4 - at2 ll 6 2 - at2 ll 6 6 - at2 ll 6 1 - at2 ll 6 5 + at2 ll 6 3 + at2 ll 6 7 := by rw [agr_02]; clear QS QP ha hb ha' hb' h T; omega
  have x1 : agrK (boxF (pairV 0 ll) 2 4) 3 = at2 ll 7 0 + at2 ll 7 4 - at2 ll 7 2 - at2 ll 7 6 - at2 ll 7 1 - at2 ll 7 5 + at2 ll 7 3 + at2 ll 7 7 := by rw [agr_03]; clear QS QP ha hb ha' hb' h T; omega
  have y0 : agrK (boxF (pairV 1 ll) 2 4) 2 = at2 ll 6 0 - at2 ll 6 4 + at2 ll 6 2 - at2 ll 6 6 - at2 ll 6 1 + at2 ll 6 5 - at2 ll 6 3 + at2 ll 6 7 := by rw [agr_12]; clear QS QR ha hb ha' hb' h T; omega
  have y1 : agrK (boxF (pairV 1 ll) 2 4) 3 = at2 ll 7 0 - at2 ll 7 4 + at2 ll 7 2 - at2 ll 7 6 - at2 ll 7 1 + at2 ll 7 5 - at2 ll 7 3 + at2 ll 7 7 := by rw [agr_13]; clear QS QR ha hb ha' hb' h T; omega
  rw [x0, x1, y0, y1]
  exact m16 (N 6 0 (by omega) (by omega)) (N 7 0 (by omega) (by omega)) (N 6 4 (by omega) (by omega)) (N 7 4 (by omega) (by omega)) (N 6 2 (by omega) (by omega)) (N 7 2 (by omega) (by omega)) (N 6 6 (by omega) (by omega)) (N 7 6 (by omega) (by omega)) (N 6 1 (by omega) (by omega)) (N 7 1 (by omega) (by omega)) (N 6 5 (by omega) (by omega)) (N 7 5 (by omega) (by omega)) (N 6 3 (by omega) (by omega)) (N 7 3 (by omega) (by omega)) (N 6 7 (by omega) (by omega)) (N 7 7 (by omega) (by omega)) (by clear QP QR T; omega) (by clear QP QR T; omega) (by clear QP QR T; omega) (by clear QP QR T; omega) (by clear QS QP QR; omega) ha hb ha' hb' h
theorem monog_0 {n : Int} {ll : List (List Int)} (ht : trioB n ll = true) (hq : quiet3 ll = true) {k k' : Nat} (hk : k < 8) (hk' : k' < 8) : sgnK (boxF (pairV 0 ll) 2 4) k + sgnK (boxF (pairV 1 ll) 2 4) k' ≤ 4 * n := by
  have Q := (quiet_iff ll).1 hq
  have M : ∀ u v, u < 2 → v < 2 → ∀ α β α' β' : Int, Sgn α → Sgn β → Sgn α' → Sgn β' → α * α' * (β * β') = -1 → (fun s u => agrK (boxF (pairV 0 ll) 2 4) (2 * u + s)) 0 u * α + (fun s v => agrK (boxF (pairV 1 ll) 2 4) (2 * v + s)) 0 v * β + (fun s u => agrK (boxF (pairV 0 ll) 2 4) (2 * u + s)) 1 u * α' + (fun s v => agrK (boxF (pairV 1 ll) 2 4) (2 * v + s)) 1 v * β' ≤ 2 * n := by
    intro u v hu hv α β α' β' ha hb ha' hb' h
    rcases (by omega : u = 0 ∨ u = 1) with rfl | rfl <;> rcases (by omega : v = 0 ∨ v = 1) with rfl | rfl
    · exact mm_000 ht Q ha hb ha' hb' h
    · exact mm_001 ht Q ha hb ha' hb' h
    · exact mm_010 ht Q ha hb ha' hb' h
    · exact mm_011 ht Q ha hb ha' hb' h
  have K := monoSgn (EP := fun s u => agrK (boxF (pairV 0 ll) 2 4) (2 * u + s)) (ER := fun s v => agrK (boxF (pairV 1 ll) 2 4) (2 * v + s)) (a := fun s u => sigK k u s) (b := fun s v => sigK k' v s) M (fun s u => sigK_sgn _ _ _) (fun s u => sigK_sgn _ _ _) (sigK_prod k hk).2 (sigK_prod k' hk').2
  rw [sgnK_eq, sgnK_eq]
  simp only [Nat.mul_zero, Nat.mul_one, Nat.reduceMul, Nat.reduceAdd, Nat.zero_add, Nat.add_zero] at K
  clear M Q
  omega
theorem mm_100 {n : Int} {ll : List (List Int)} (ht : trioB n ll = true) (Q : QuietP ll) {α β α' β' : Int} (ha : Sgn α) (hb : Sgn β) (ha' : Sgn α') (hb' : Sgn β') (h : α * α' * (β * β') = -1) : agrK (boxF (pairV 1 ll) 2 4) 0 * α + agrK (boxF (pairV 2 ll) 2 4) 0 * β + agrK (boxF (pairV 1 ll) 2 4) 2 * α' + agrK (boxF (pairV 2 ll) 2 4) 2 * β' ≤ 2 * n := by
  have QS := quiet_4 Q
  have QP := quiet_1 Q
  have QR := quiet_2 Q
  have N := fun q k : Nat => fun (hq : q < 8) (hk : k < 8) => (trio_at2 ht hq hk).1
  have T := trio_row ht (q := 0) (by omega)
  have x0 : agrK (boxF (pairV 1 ll) 2 4) 0 = at2 ll 0 0 + at2 ll 0 2 - at2 ll 0 1 - at2 ll 0 3 - at2 ll 0 4 - at2 ll 0 6 + at2 ll 0 5 + at2 ll 0 7 := by rw [agr_10]; clear QS QP ha hb ha' hb' h T; omega
  have x1 : agrK (boxF (pairV 1 ll) 2 4) 2 = at2 ll 4 0 + at2 ll 4 2 - at2 ll 4 1 - at2 ll 4 3 - at2 ll 4 4 - at2 ll 4 6 + at2 ll 4 5 + at2 ll 4 7 := by rw [agr_12]; clear QS QP ha hb ha' hb' h T; omega
  have y0 : agrK (boxF (pairV 2 ll) 2 4) 0 = at2 ll 0 0 - at2 ll 0 2 + at2 ll 0 1 - at2 ll 0 3 - at2 ll 0 4 + at2 ll 0 6 - at2 ll 0 5 + at2 ll 0 7 := by rw [agr_20]; clear QS QR ha hb ha' hb' h T; omega
  have y1 : agrK (boxF (pairV 2 ll) 2 4) 2 = at2 ll 4 0 - at2 ll 4 2 + at2 ll 4 1 - at2 ll 4 3 - at2 ll 4 4 + at2 ll 4 6 - at2 ll 4 5 + at2 ll 4 7 := by rw [agr_22]; clear QS QR ha hb ha' hb' h T; omega
  rw [x0, x1, y0, y1]
  exact m16 (N 0 0 (by omega) (by omega)) (N 4 0 (by omega) (by omega)) (N 0 2 (by omega) (by omega)) (N 4 2 (by omega) (by omega)) (N 0 1 (by omega) (by omega)) (N 4 1 (by omega) (by omega)) (N 0 3 (by omega) (by omega)) (N 4 3 (by omega) (by omega)) (N 0 4 (by omega) (by omega)) (N 4 4 (by omega) (by omega)) (N 0 6 (by omega) (by omega)) (N 4 6 (by omega) (by omega)) (N 0 5 (by omega) (by omega)) (N 4 5 (by omega) (by omega)) (N 0 7 (by omega) (by omega)) (N 4 7 (by omega) (by omega)) (by clear QP QR T; omega) (by clear QP QR T; omega) (by clear QP QR T; omega) (by clear QP QR T; omega) (by clear QS QP QR; omega) ha hb ha' hb' h
theorem mm_101 {n : Int} {ll : List (List Int)} (ht : trioB n ll = true) (Q : QuietP ll) {α β α' β' : Int} (ha : Sgn α) (hb : Sgn β) (ha' : Sgn α') (hb' : Sgn β') (h : α * α' * (β * β') = -1) : agrK (boxF (pairV 1 ll) 2 4) 0 * α + agrK (boxF (pairV 2 ll) 2 4) 1 * β + agrK (boxF (pairV 1 ll) 2 4) 2 * α' + agrK (boxF (pairV 2 ll) 2 4) 3 * β' ≤ 2 * n := by
  have QS := quiet_4 Q
  have QP := quiet_1 Q
  have QR := quiet_2 Q
  have N := fun q k : Nat => fun (hq : q < 8) (hk : k < 8) => (trio_at2 ht hq hk).1
  have T := trio_row ht (q := 2) (by omega)
  have x0 : agrK (boxF (pairV 1 ll) 2 4) 0 = at2 ll 2 0 + at2 ll 2 2 - at2 ll 2 1 - at2 ll 2 3 - at2 ll 2 4 - at2 ll 2 6 + at2 ll 2 5 + at2 ll 2 7 := by rw [agr_10]; clear QS QP ha hb ha' hb' h T; omega
  have x1 : agrK (boxF (pairV 1 ll) 2 4) 2 = at2 ll 6 0 + at2 ll 6 2 - at2 ll 6 1 - at2 ll 6 3 - at2 ll 6 4 - at2 ll 6 6 + at2 ll 6 5 + at2 ll 6 7 := by rw [agr_12]; clear QS QP ha hb ha' hb' h T; omega
  have y0 : agrK (boxF (pairV 2 ll) 2 4) 1 = at2 ll 2 0 - at2 ll 2 2 + at2 ll 2 1 - at2 ll 2 3 - at2 ll 2 4 + at2 ll 2 6 - at2 ll 2 5 + at2 ll 2 7 := by rw [agr_21]; clear QS QR ha hb ha' hb' h T; omega
  have y1 : agrK (boxF (pairV 2 ll) 2 4) 3 = at2 ll 6 0 - at2 ll 6 2 + at2 ll 6 1 - at2 ll 6 3 - at2 ll 6 4 + at2 ll 6 6 - at2 ll 6 5 + at2 ll 6 7 := by rw [agr_23]; clear QS QR ha hb ha' hb' h T; omega
  rw [x0, x1, y0, y1]
  exact m16 (N 2 0 (by omega) (by omega)) (N 6 0 (by omega) (by omega)) (N 2 2 (by omega) (by omega)) (N 6 2 (by omega) (by omega)) (N 2 1 (by omega) (by omega)) (N 6 1 (by omega) (by omega)) (N 2 3 (by omega) (by omega)) (N 6 3 (by omega) (by omega)) (N 2 4 (by omega) (by omega)) (N 6 4 (by omega) (by omega)) (N 2 6 (by omega) (by omega)) (N 6 6 (by omega) (by omega)) (N 2 5 (by omega) (by omega)) (N 6 5 (by omega) (by omega)) (N 2 7 (by omega) (by omega)) (N 6 7 (by omega) (by omega)) (by clear QP QR T; omega) (by clear QP QR T; omega) (by clear QP QR T; omega) (by clear QP QR T; omega) (by clear QS QP QR; omega) ha hb ha' hb' h
theorem mm_110 {n : Int} {ll : List (List Int)} (ht : trioB n ll = true) (Q : QuietP ll) {α β α' β' : Int} (ha : Sgn α) (hb : Sgn β) (ha' : Sgn α') (hb' : Sgn β') (h : α * α' * (β * β') = -1) : agrK (boxF (pairV 1 ll) 2 4) 1 * α + agrK (boxF (pairV 2 ll) 2 4) 0 * β + agrK (boxF (pairV 1 ll) 2 4) 3 * α' + agrK (boxF (pairV 2 ll) 2 4) 2 * β' ≤ 2 * n := by
  have QS := quiet_4 Q
  have QP := quiet_1 Q
  have QR := quiet_2 Q
  have N := fun q k : Nat => fun (hq : q < 8) (hk : k < 8) => (trio_at2 ht hq hk).1
  have T := trio_row ht (q := 1) (by omega)
  have x0 : agrK (boxF (pairV 1 ll) 2 4) 1 = at2 ll 1 0 + at2 ll 1 2 - at2 ll 1 1 - at2 ll 1 3 - at2 ll 1 4 - at2 ll 1 6 + at2 ll 1 5 + at2 ll 1 7 := by rw [agr_11]; clear QS QP ha hb ha' hb' h T; omega
  have x1 : agrK (boxF (pairV 1 ll) 2 4) 3 = at2 ll 5 0 + at2 ll 5 2 - at2 ll 5 1 - at2 ll 5 3 - at2 ll 5 4 - at2 ll 5 6 + at2 ll 5 5 + at2 ll 5 7 := by rw [agr_13]; clear QS QP ha hb ha' hb' h T; omega
  have y0 : agrK (boxF (pairV 2 ll) 2 4) 0 = at2 ll 1 0 - at2 ll 1 2 + at2 ll 1 1 - at2 ll 1 3 - at2 ll 1 4 + at2 ll 1 6 - at2 ll 1 5 + at2 ll 1 7 := by rw [agr_20]; clear QS QR ha hb ha' hb' h T; omega
  have y1 : agrK (boxF (pairV 2 ll) 2 4) 2 = at2 ll 5 0 - at2 ll 5 2 + at2 ll 5 1 - at2 ll 5 3 - at2 ll 5 4 + at2 ll 5 6 - at2 ll 5 5 + at2 ll 5 7 := by rw [agr_22]; clear QS QR ha hb ha' hb' h T; omega
  rw [x0, x1, y0, y1]
  exact m16 (N 1 0 (by omega) (by omega)) (N 5 0 (by omega) (by omega)) (N 1 2 (by omega) (by omega)) (N 5 2 (by omega) (by omega)) (N 1 1 (by omega) (by omega)) (N 5 1 (by omega) (by omega)) (N 1 3 (by omega) (by omega)) (N 5 3 (by omega) (by omega)) (N 1 4 (by omega) (by omega)) (N 5 4 (by omega) (by omega)) (N 1 6 (by omega) (by omega)) (N 5 6 (by omega) (by omega)) (N 1 5 (by omega) (by omega)) (N 5 5 (by omega) (by omega)) (N 1 7 (by omega) (by omega)) (N 5 7 (by omega) (by omega)) (by clear QP QR T; omega) (by clear QP QR T; omega) (by clear QP QR T; omega) (by clear QP QR T; omega) (by clear QS QP QR; omega) ha hb ha' hb' h
theorem mm_111 {n : Int} {ll : List (List Int)} (ht : trioB n ll = true) (Q : QuietP ll) {α β α' β' : Int} (ha : Sgn α) (hb : Sgn β) (ha' : Sgn α') (hb' : Sgn β') (h : α * α' * (β * β') = -1) : agrK (boxF (pairV 1 ll) 2 4) 1 * α + agrK (boxF (pairV 2 ll) 2 4) 1 * β + agrK (boxF (pairV 1 ll) 2 4) 3 * α' + agrK (boxF (pairV 2 ll) 2 4) 3 * β' ≤ 2 * n := by
  have QS := quiet_4 Q
  have QP := quiet_1 Q
  have QR := quiet_2 Q
  have N := fun q k : Nat => fun (hq : q < 8) (hk : k < 8) => (trio_at2 ht hq hk).1
  have T := trio_row ht (q := 3) (by omega)
  have x0 : agrK (boxF (pairV 1 ll) 2 4) 1 = at2 ll 3 0 + at2 ll 3 2 - at2 ll 3 1 - at2 ll 3 3 - at2 ll 3 4 - at2 ll 3 6 + at2 ll 3 5 + at2 ll 3 7 := by rw [agr_11]; clear QS QP ha hb ha' hb' h T; omega
  have x1 : agrK (boxF (pairV 1 ll) 2 4) 3 = at2 ll 7 0 + at2 ll 7 2 - at2 ll 7 1 - at2 ll 7 3 - at2 ll 7 4 - at2 ll 7 6 + at2 ll 7 5 + at2 ll 7 7 := by rw [agr_13]; clear QS QP ha hb ha' hb' h T; omega
  have y0 : agrK (boxF (pairV 2 ll) 2 4) 1 = at2 ll 3 0 - at2 ll 3 2 + at2 ll 3 1 - at2 ll 3 3 - at2 ll 3 4 + at2 ll 3 6 - at2 ll 3 5 + at2 ll 3 7 := by rw [agr_21]; clear QS QR ha hb ha' hb' h T; omega
  have y1 : agrK (boxF (pairV 2 ll) 2 4) 3 = at2 ll 7 0 - at2 ll 7 2 + at2 ll 7 1 - at2 ll 7 3 - at2 ll 7 4 + at2 ll 7 6 - at2 ll 7 5 + at2 ll 7 7 := by rw [agr_23]; clear QS QR ha hb ha' hb' h T; omega
  rw [x0, x1, y0, y1]
  exact m16 (N 3 0 (by omega) (by omega)) (N 7 0 (by omega) (by omega)) (N 3 2 (by omega) (by omega)) (N 7 2 (by omega) (by omega)) (N 3 1 (by omega) (by omega)) (N 7 1 (by omega) (by omega)) (N 3 3 (by omega) (by omega)) (N 7 3 (by omega) (by omega)) (N 3 4 (by omega) (by omega)) (N 7 4 (by omega) (by omega)) (N 3 6 (by omega) (by omega)) (N 7 6 (by omega) (by omega)) (N 3 5 (by omega) (by omega)) (N 7 5 (by omega) (by omega)) (N 3 7 (by omega) (by omega)) (N 7 7 (by omega) (by omega)) (by clear QP QR T; omega) (by clear QP QR T; omega) (by clear QP QR T; omega) (by clear QP QR T; omega) (by clear QS QP QR; omega) ha hb ha' hb' h
theorem monog_1 {n : Int} {ll : List (List Int)} (ht : trioB n ll = true) (hq : quiet3 ll = true) {k k' : Nat} (hk : k < 8) (hk' : k' < 8) : sgnK (boxF (pairV 1 ll) 2 4) k + sgnK (boxF (pairV 2 ll) 2 4) k' ≤ 4 * n := by
  have Q := (quiet_iff ll).1 hq
  have M : ∀ u v, u < 2 → v < 2 → ∀ α β α' β' : Int, Sgn α → Sgn β → Sgn α' → Sgn β' → α * α' * (β * β') = -1 → (fun s u => agrK (boxF (pairV 1 ll) 2 4) (2 * s + u)) 0 u * α + (fun s v => agrK (boxF (pairV 2 ll) 2 4) (2 * s + v)) 0 v * β + (fun s u => agrK (boxF (pairV 1 ll) 2 4) (2 * s + u)) 1 u * α' + (fun s v => agrK (boxF (pairV 2 ll) 2 4) (2 * s + v)) 1 v * β' ≤ 2 * n := by
    intro u v hu hv α β α' β' ha hb ha' hb' h
    rcases (by omega : u = 0 ∨ u = 1) with rfl | rfl <;> rcases (by omega : v = 0 ∨ v = 1) with rfl | rfl
    · exact mm_100 ht Q ha hb ha' hb' h
    · exact mm_101 ht Q ha hb ha' hb' h
    · exact mm_110 ht Q ha hb ha' hb' h
    · exact mm_111 ht Q ha hb ha' hb' h
  have K := monoSgn (EP := fun s u => agrK (boxF (pairV 1 ll) 2 4) (2 * s + u)) (ER := fun s v => agrK (boxF (pairV 2 ll) 2 4) (2 * s + v)) (a := fun s u => sigK k s u) (b := fun s v => sigK k' s v) M (fun s u => sigK_sgn _ _ _) (fun s u => sigK_sgn _ _ _) (sigK_prod k hk).1 (sigK_prod k' hk').1
  rw [sgnK_eq, sgnK_eq]
  simp only [Nat.mul_zero, Nat.mul_one, Nat.reduceMul, Nat.reduceAdd, Nat.zero_add, Nat.add_zero] at K
  clear M Q
  omega
theorem mm_200 {n : Int} {ll : List (List Int)} (ht : trioB n ll = true) (Q : QuietP ll) {α β α' β' : Int} (ha : Sgn α) (hb : Sgn β) (ha' : Sgn α') (hb' : Sgn β') (h : α * α' * (β * β') = -1) : agrK (boxF (pairV 2 ll) 2 4) 0 * α + agrK (boxF (pairV 0 ll) 2 4) 0 * β + agrK (boxF (pairV 2 ll) 2 4) 1 * α' + agrK (boxF (pairV 0 ll) 2 4) 2 * β' ≤ 2 * n := by
  have QS := quiet_2 Q
  have QP := quiet_4 Q
  have QR := quiet_1 Q
  have N := fun q k : Nat => fun (hq : q < 8) (hk : k < 8) => (trio_at2 ht hq hk).1
  have T := trio_row ht (q := 0) (by omega)
  have x0 : agrK (boxF (pairV 2 ll) 2 4) 0 = at2 ll 0 0 + at2 ll 0 1 - at2 ll 0 4 - at2 ll 0 5 - at2 ll 0 2 - at2 ll 0 3 + at2 ll 0 6 + at2 ll 0 7 := by rw [agr_20]; clear QS QP ha hb ha' hb' h T; omega
  have x1 : agrK (boxF (pairV 2 ll) 2 4) 1 = at2 ll 2 0 + at2 ll 2 1 - at2 ll 2 4 - at2 ll 2 5 - at2 ll 2 2 - at2 ll 2 3 + at2 ll 2 6 + at2 ll 2 7 := by rw [agr_21]; clear QS QP ha hb ha' hb' h T; omega
  have y0 : agrK (boxF (pairV 0 ll) 2 4) 0 = at2 ll 0 0 - at2 ll 0 1 + at2 ll 0 4 - at2 ll 0 5 - at2 ll 0 2 + at2 ll 0 3 - at2 ll 0 6 + at2 ll 0 7 := by rw [agr_00]; clear QS QR ha hb ha' hb' h T; omega
  have y1 : agrK (boxF (pairV 0 ll) 2 4) 2 = at2 ll 2 0 - at2 ll 2 1 + at2 ll 2 4 - at2 ll 2 5 - at2 ll 2 2 + at2 ll 2 3 - at2 ll 2 6 + at2 ll 2 7 := by rw [agr_02]; clear QS QR ha hb ha' hb' h T; omega
  rw [x0, x1, y0, y1]
  exact m16 (N 0 0 (by omega) (by omega)) (N 2 0 (by omega) (by omega)) (N 0 1 (by omega) (by omega)) (N 2 1 (by omega) (by omega)) (N 0 4 (by omega) (by omega)) (N 2 4 (by omega) (by omega)) (N 0 5 (by omega) (by omega)) (N 2 5 (by omega) (by omega)) (N 0 2 (by omega) (by omega)) (N 2 2 (by omega) (by omega)) (N 0 3 (by omega) (by omega)) (N 2 3 (by omega) (by omega)) (N 0 6 (by omega) (by omega)) (N 2 6 (by omega) (by omega)) (N 0 7 (by omega) (by omega)) (N 2 7 (by omega) (by omega)) (by clear QP QR T; omega) (by clear QP QR T; omega) (by clear QP QR T; omega) (by clear QP QR T; omega) (by clear QS QP QR; omega) ha hb ha' hb' h
theorem mm_201 {n : Int} {ll : List (List Int)} (ht : trioB n ll = true) (Q : QuietP ll) {α β α' β' : Int} (ha : Sgn α) (hb : Sgn β) (ha' : Sgn α') (hb' : Sgn β') (h : α * α' * (β * β') = -1) : agrK (boxF (pairV 2 ll) 2 4) 0 * α + agrK (boxF (pairV 0 ll) 2 4) 1 * β + agrK (boxF (pairV 2 ll) 2 4) 1 * α' + agrK (boxF (pairV 0 ll) 2 4) 3 * β' ≤ 2 * n := by
  have QS := quiet_2 Q
  have QP := quiet_4 Q
  have QR := quiet_1 Q
  have N := fun q k : Nat => fun (hq : q < 8) (hk : k < 8) => (trio_at2 ht hq hk).1
  have T := trio_row ht (q := 1) (by omega)
  have x0 : agrK (boxF (pairV 2 ll) 2 4) 0 = at2 ll 1 0 + at2 ll 1 1 - at2 ll 1 4 - at2 ll 1 5 - at2 ll 1 2 - at2 ll 1 3 + at2 ll 1 6 + at2 ll 1 7 := by rw [agr_20]; clear QS QP ha hb ha' hb' h T; omega
  have x1 : agrK (boxF (pairV 2 ll) 2 4) 1 = at2 ll 3 0 + at2 ll 3 1 - at2 ll 3 4 - at2 ll 3 5 - at2 ll 3 2 - at2 ll 3 3 + at2 ll 3 6 + at2 ll 3 7 := by rw [agr_21]; clear QS QP ha hb ha' hb' h T; omega
  have y0 : agrK (boxF (pairV 0 ll) 2 4) 1 = at2 ll 1 0 - at2 ll 1 1 + at2 ll 1 4 - at2 ll 1 5 - at2 ll 1 2 + at2 ll 1 3 - at2 ll 1 6 + at2 ll 1 7 := by rw [agr_01]; clear QS QR ha hb ha' hb' h T; omega
  have y1 : agrK (boxF (pairV 0 ll) 2 4) 3 = at2 ll 3 0 - at2 ll 3 1 + at2 ll 3 4 - at2 ll 3 5 - at2 ll 3 2 + at2 ll 3 3 - at2 ll 3 6 + at2 ll 3 7 := by rw [agr_03]; clear QS QR ha hb ha' hb' h T; omega
  rw [x0, x1, y0, y1]
  exact m16 (N 1 0 (by omega) (by omega)) (N 3 0 (by omega) (by omega)) (N 1 1 (by omega) (by omega)) (N 3 1 (by omega) (by omega)) (N 1 4 (by omega) (by omega)) (N 3 4 (by omega) (by omega)) (N 1 5 (by omega) (by omega)) (N 3 5 (by omega) (by omega)) (N 1 2 (by omega) (by omega)) (N 3 2 (by omega) (by omega)) (N 1 3 (by omega) (by omega)) (N 3 3 (by omega) (by omega)) (N 1 6 (by omega) (by omega)) (N 3 6 (by omega) (by omega)) (N 1 7 (by omega) (by omega)) (N 3 7 (by omega) (by omega)) (by clear QP QR T; omega) (by clear QP QR T; omega) (by clear QP QR T; omega) (by clear QP QR T; omega) (by clear QS QP QR; omega) ha hb ha' hb' h
theorem mm_210 {n : Int} {ll : List (List Int)} (ht : trioB n ll = true) (Q : QuietP ll) {α β α' β' : Int} (ha : Sgn α) (hb : Sgn β) (ha' : Sgn α') (hb' : Sgn β') (h : α * α' * (β * β') = -1) : agrK (boxF (pairV 2 ll) 2 4) 2 * α + agrK (boxF (pairV 0 ll) 2 4) 0 * β + agrK (boxF (pairV 2 ll) 2 4) 3 * α' + agrK (boxF (pairV 0 ll) 2 4) 2 * β' ≤ 2 * n := by
  have QS := quiet_2 Q
  have QP := quiet_4 Q
  have QR := quiet_1 Q
  have N := fun q k : Nat => fun (hq : q < 8) (hk : k < 8) => (trio_at2 ht hq hk).1
  have T := trio_row ht (q := 4) (by omega)
  have x0 : agrK (boxF (pairV 2 ll) 2 4) 2 = at2 ll 4 0 + at2 ll 4 1 - at2 ll 4 4 - at2 ll 4 5 - at2 ll 4 2 - at2 ll 4 3 + at2 ll 4 6 + at2 ll 4 7 := by rw [agr_22]; clear QS QP ha hb ha' hb' h T; omega
  have x1 : agrK (boxF (pairV 2 ll) 2 4) 3 = at2 ll 6 0 + at2 ll 6 1 - at2 ll 6 4 - at2 ll 6 5 - at2 ll 6 2 - at2 ll 6 3 + at2 ll 6 6 + at2 ll 6 7 := by rw [agr_23]; clear QS QP ha hb ha' hb' h T; omega
  have y0 : agrK (boxF (pairV 0 ll) 2 4) 0 = at2 ll 4 0 - at2 ll 4 1 + at2 ll 4 4 - at2 ll 4 5 - at2 ll 4 2 + at2 ll 4 3 - at2 ll 4 6 + at2 ll 4 7 := by rw [agr_00]; clear QS QR ha hb ha' hb' h T; omega
  have y1 : agrK (boxF (pairV 0 ll) 2 4) 2 = at2 ll 6 0 - at2 ll 6 1 + at2 ll 6 4 - at2 ll 6 5 - at2 ll 6 2 + at2 ll 6 3 - at2 ll 6 6 + at2 ll 6 7 := by rw [agr_02]; clear QS QR ha hb ha' hb' h T; omega
  rw [x0, x1, y0, y1]
  exact m16 (N 4 0 (by omega) (by omega)) (N 6 0 (by omega) (by omega)) (N 4 1 (by omega) (by omega)) (N 6 1 (by omega) (by omega)) (N 4 4 (by omega) (by omega)) (N 6 4 (by omega) (by omega)) (N 4 5 (by omega) (by omega)) (N 6 5 (by omega) (by omega)) (N 4 2 (by omega) (by omega)) (N 6 2 (by omega) (by omega)) (N 4 3 (by omega) (by omega)) (N 6 3 (by omega) (by omega)) (N 4 6 (by omega) (by omega)) (N 6 6 (by omega) (by omega)) (N 4 7 (by omega) (by omega)) (N 6 7 (by omega) (by omega)) (by clear QP QR T; omega) (by clear QP QR T; omega) (by clear QP QR T; omega) (by clear QP QR T; omega) (by clear QS QP QR; omega) ha hb ha' hb' h
theorem mm_211 {n : Int} {ll : List (List Int)} (ht : trioB n ll = true) (Q : QuietP ll) {α β α' β' : Int} (ha : Sgn α) (hb : Sgn β) (ha' : Sgn α') (hb' : Sgn β') (h : α * α' * (β * β') = -1) : agrK (boxF (pairV 2 ll) 2 4) 2 * α + agrK (boxF (pairV 0 ll) 2 4) 1 * β + agrK (boxF (pairV 2 ll) 2 4) 3 * α' + agrK (boxF (pairV 0 ll) 2 4) 3 * β' ≤ 2 * n := by
  have QS := quiet_2 Q
  have QP := quiet_4 Q
  have QR := quiet_1 Q
  have N := fun q k : Nat => fun (hq : q < 8) (hk : k < 8) => (trio_at2 ht hq hk).1
  have T := trio_row ht (q := 5) (by omega)
  have x0 : agrK (boxF (pairV 2 ll) 2 4) 2 = at2 ll 5 0 + at2 ll 5 1 - at2 ll 5 4 - at2 ll 5 5 - at2 ll 5 2 - at2 ll 5 3 + at2 ll 5 6 + at2 ll 5 7 := by rw [agr_22]; clear QS QP ha hb ha' hb' h T; omega
  have x1 : agrK (boxF (pairV 2 ll) 2 4) 3 = at2 ll 7 0 + at2 ll 7 1 - at2 ll 7 4 - at2 ll 7 5 - at2 ll 7 2 - at2 ll 7 3 + at2 ll 7 6 + at2 ll 7 7 := by rw [agr_23]; clear QS QP ha hb ha' hb' h T; omega
  have y0 : agrK (boxF (pairV 0 ll) 2 4) 1 = at2 ll 5 0 - at2 ll 5 1 + at2 ll 5 4 - at2 ll 5 5 - at2 ll 5 2 + at2 ll 5 3 - at2 ll 5 6 + at2 ll 5 7 := by rw [agr_01]; clear QS QR ha hb ha' hb' h T; omega
  have y1 : agrK (boxF (pairV 0 ll) 2 4) 3 = at2 ll 7 0 - at2 ll 7 1 + at2 ll 7 4 - at2 ll 7 5 - at2 ll 7 2 + at2 ll 7 3 - at2 ll 7 6 + at2 ll 7 7 := by rw [agr_03]; clear QS QR ha hb ha' hb' h T; omega
  rw [x0, x1, y0, y1]
  exact m16 (N 5 0 (by omega) (by omega)) (N 7 0 (by omega) (by omega)) (N 5 1 (by omega) (by omega)) (N 7 1 (by omega) (by omega)) (N 5 4 (by omega) (by omega)) (N 7 4 (by omega) (by omega)) (N 5 5 (by omega) (by omega)) (N 7 5 (by omega) (by omega)) (N 5 2 (by omega) (by omega)) (N 7 2 (by omega) (by omega)) (N 5 3 (by omega) (by omega)) (N 7 3 (by omega) (by omega)) (N 5 6 (by omega) (by omega)) (N 7 6 (by omega) (by omega)) (N 5 7 (by omega) (by omega)) (N 7 7 (by omega) (by omega)) (by clear QP QR T; omega) (by clear QP QR T; omega) (by clear QP QR T; omega) (by clear QP QR T; omega) (by clear QS QP QR; omega) ha hb ha' hb' h
theorem monog_2 {n : Int} {ll : List (List Int)} (ht : trioB n ll = true) (hq : quiet3 ll = true) {k k' : Nat} (hk : k < 8) (hk' : k' < 8) : sgnK (boxF (pairV 2 ll) 2 4) k + sgnK (boxF (pairV 0 ll) 2 4) k' ≤ 4 * n := by
  have Q := (quiet_iff ll).1 hq
  have M : ∀ u v, u < 2 → v < 2 → ∀ α β α' β' : Int, Sgn α → Sgn β → Sgn α' → Sgn β' → α * α' * (β * β') = -1 → (fun s u => agrK (boxF (pairV 2 ll) 2 4) (2 * u + s)) 0 u * α + (fun s v => agrK (boxF (pairV 0 ll) 2 4) (2 * s + v)) 0 v * β + (fun s u => agrK (boxF (pairV 2 ll) 2 4) (2 * u + s)) 1 u * α' + (fun s v => agrK (boxF (pairV 0 ll) 2 4) (2 * s + v)) 1 v * β' ≤ 2 * n := by
    intro u v hu hv α β α' β' ha hb ha' hb' h
    rcases (by omega : u = 0 ∨ u = 1) with rfl | rfl <;> rcases (by omega : v = 0 ∨ v = 1) with rfl | rfl
    · exact mm_200 ht Q ha hb ha' hb' h
    · exact mm_201 ht Q ha hb ha' hb' h
    · exact mm_210 ht Q ha hb ha' hb' h
    · exact mm_211 ht Q ha hb ha' hb' h
  have K := monoSgn (EP := fun s u => agrK (boxF (pairV 2 ll) 2 4) (2 * u + s)) (ER := fun s v => agrK (boxF (pairV 0 ll) 2 4) (2 * s + v)) (a := fun s u => sigK k u s) (b := fun s v => sigK k' s v) M (fun s u => sigK_sgn _ _ _) (fun s u => sigK_sgn _ _ _) (sigK_prod k hk).2 (sigK_prod k' hk').1
  rw [sgnK_eq, sgnK_eq]
  simp only [Nat.mul_zero, Nat.mul_one, Nat.reduceMul, Nat.reduceAdd, Nat.zero_add, Nat.add_zero] at K
  clear M Q
  omega

end Go.Proofs.YtefbiejoikpkmaaGreat

namespace Go.Proofs.YtefbiejoikpkmaaGreat
open Go.RowKit
set_option linter.unusedSectionVars false
variable [Glb]
set_option maxRecDepth 10000
set_option maxHeartbeats 4000000
theorem rBig_p (code : Tx) : PC Tryz.prog 7 [.c (eB code)] (.p (.c (dB (decide ((code.length : Int) > 65536))))) := by
  refine pc_intro Tryz.func7 rfl rfl rfl (by kernel_rfl) rfl rfl ?_; intro _
  repeat' (first | (refine so_is (.assign _) ?_; (refine so_q (qt_asC rfl) rfl ?_)) | (refine so_is (.move _) ?_; (refine so_q (qt_mvC rfl) rfl ?_)) | (refine so_is (.call ⟨.builtin .len, _, #[22]⟩) ?_; (refine so_q (qt_len_d rfl (by kernel_rfl)) rfl ?_)) | (refine so_is (.binOp .gtr 3 _ _ _) ?_; refine so_q (qt_gtr rfl rfl) rfl ?_) | refine so_nil ?_ | refine sk_seq ?_ | refine sk_region ?_)
  all_goals (apply sk_ret; apply ret_eq; (· apply RetOK.p; (· (apply GvA.cons; (· exact .tmp _); (· exact GvP.c (.lit _))); exact GvA.nil); (· (decide))))
  all_goals rfl

end Go.Proofs.YtefbiejoikpkmaaGreat

namespace Go.Proofs.YtefbiejoikpkmaaGreat
open Go.RowKit
set_option linter.unusedSectionVars false
variable [Glb]
set_option maxRecDepth 10000
set_option maxHeartbeats 4000000
theorem rInts_p (a b : List Int) : PC Tryz.prog 26 [.c (eI a), .c (eI b)] (.p (.c (dB (decide (a = b))))) := by
  refine pc_intro Tryz.func26 rfl rfl rfl (by kernel_rfl) rfl rfl ?_; rintro ⟨hl, hm, -⟩
  have hl := hl.len
  have hm := hm.len
  repeat' (first | (refine so_is (.assign _) ?_; (refine so_q (qt_asC rfl) rfl ?_)) | (refine so_is (.move _) ?_; (refine so_q (qt_mvC rfl) rfl ?_)) | (refine so_is (.call ⟨.builtin .len, _, #[27]⟩) ?_; (refine so_q (qt_len_d rfl (by kernel_rfl)) rfl ?_)) | (refine so_is (.binOp .neq 3 _ _ _) ?_; refine so_q (qt_neq rfl rfl) rfl ?_) | refine so_nil ?_ | refine sk_seq ?_ | refine sk_block ?_ | refine sk_skip ?_ | refine sk_region ?_ | refine sk_if rfl (fun hc => ?_) (fun hc => ?_))
  · (apply sk_ret; apply ret_eq; (· apply RetOK.p; (· (apply GvA.cons; (· exact .tmp _); (· exact GvP.c (.lit _))); exact GvA.nil); (· (decide))))
    have : a ≠ b := fun e => by subst e; simp at *
    simp [this]
  have hab : a.length = b.length := by simp at *; omega
  apply sk_packC [0, 1, 5] [] rfl; (· (repeat (first | exact Pf.nil | apply Pf.cons (.c rfl (.d rfl))))); (· (repeat (exact Pb.nil)))
  refine sk_loopL [0, 1] [] (fun k => [(5, iN k)]) (fun _ => []) (fun k => k ≤ a.length ∧ a.take k = b.take k) (fun k => a.length - k) (0) ?_ (by (repeat (first | exact trivial | refine ⟨(by (rfl)), ?_⟩))) (by (repeat (exact trivial))) ?_
  · simp
  rintro k ⟨hk, hs⟩
  repeat' (first | (refine so_is (.assign _) ?_; (refine so_q (qt_asC rfl) rfl ?_)) | (refine so_is (.move _) ?_; (refine so_q (qt_mvC rfl) rfl ?_)) | (refine so_is (.call ⟨.builtin .len, _, #[27]⟩) ?_; (refine so_q (qt_len_d rfl (by kernel_rfl)) rfl ?_)) | (refine so_is (.binOp .neq 3 _ _ _) ?_; refine so_q (qt_neq rfl rfl) rfl ?_) | (refine so_is (.binOp .lss 3 _ _ _) ?_; refine so_q (qt_lss rfl rfl) rfl ?_) | (refine so_is (.indexAddr 27 _ _) ?_; (refine so_q (qt_idxI rfl rfl (by kernel_rfl) (by (omega)) (by (omega))) rfl ?_)) | (refine so_is (.load 3 _) ?_; (refine so_q (qt_load_pt rfl (by kernel_rfl) rfl) rfl ?_)) | (refine so_is (.binOp .add 3 _ _ _) ?_; refine so_q (qt_addI rfl rfl (by (omega))) rfl ?_) | refine so_nil ?_ | refine sk_seq ?_ | refine sk_block ?_ | refine sk_blk ?_ | refine sk_exit rfl ?_ | refine sk_skip ?_ | refine sk_region ?_ | refine sk_drawQ 6 (fun _ => false) (.step 0 true (.step 1 true (.step 2 true (.step 3 true (.step 4 true (.step 5 true (.step 6 true (.step 7 true (.step 8 true .nil))))))))) [(0, 511, 511, true), (0, 511, 511, true), (3, 508, 511, true), (4, 507, 511, false), (0, 511, 511, true), (0, 511, 511, true), (48, 463, 511, true), (64, 447, 511, false), (136, 375, 511, true)] (by kernel_rfl) (by kernel_rfl) ?_ | refine sk_if rfl (fun hc => ?_) (fun hc => ?_))
  · rename_i hk'
    rw [atZ_nat (by omega), atZ_nat (by omega)] at hc
    (apply sk_ret; apply ret_eq; (· apply RetOK.p; (· (apply GvA.cons; (· exact .tmp _); (· exact GvP.c (.lit _))); exact GvA.nil); (· (decide))))
    have : a ≠ b := fun e => by subst e; exact hc rfl
    simp [this]
  · rename_i hk'
    rw [atZ_nat (by omega), atZ_nat (by omega)] at hc
    refine sk_back ?_; refine ⟨k + 1, ?_, ?_, le_at rfl (by (repeat (first | exact trivial | refine ⟨(by (rfl)), ?_⟩))) (by (repeat (first | exact trivial | refine ⟨rfl, ?_⟩))) (by (repeat (exact trivial))) (by (repeat (exact trivial)))⟩
    · exact ⟨by omega, by rw [List.take_succ_eq_append_getElem (by omega), List.take_succ_eq_append_getElem (by omega), hs]; simp at hc; rw [hc]⟩
    · omega
  · have e : k = a.length := by omega
    subst e
    rw [List.take_length, hab, List.take_length] at hs
    (apply sk_ret; apply ret_eq; (· apply RetOK.p; (· (apply GvA.cons; (· exact .tmp _); (· exact GvP.c (.lit _))); exact GvA.nil); (· (decide))))
    simp [hs]
end Go.Proofs.YtefbiejoikpkmaaGreat

namespace Go.Proofs.YtefbiejoikpkmaaGreat
open Go.RowKit
set_option linter.unusedSectionVars false
variable [Glb]
set_option maxRecDepth 10000
set_option maxHeartbeats 4000000
theorem rTable_p (a b : List (List Int)) : PC Tryz.prog 76 [.c (eII a), .c (eII b)] (.p (.c (dB (decide (a = b))))) := by
  refine pc_intro Tryz.func76 rfl rfl rfl (by kernel_rfl) rfl rfl ?_; rintro ⟨hl, hm, -⟩
  have hl := hl.len
  have hm := hm.len
  repeat' (first | (refine so_is (.assign _) ?_; (refine so_q (qt_asC rfl) rfl ?_)) | (refine so_is (.move _) ?_; (refine so_q (qt_mvC rfl) rfl ?_)) | (refine so_is (.call ⟨.builtin .len, _, #[24]⟩) ?_; (refine so_q (qt_len_d rfl (by kernel_rfl)) rfl ?_)) | (refine so_is (.binOp .neq 3 _ _ _) ?_; refine so_q (qt_neq rfl rfl) rfl ?_) | refine so_nil ?_ | refine sk_seq ?_ | refine sk_block ?_ | refine sk_skip ?_ | refine sk_region ?_ | refine sk_if rfl (fun hc => ?_) (fun hc => ?_))
  · (apply sk_ret; apply ret_eq; (· apply RetOK.p; (· (apply GvA.cons; (· exact .tmp _); (· exact GvP.c (.lit _))); exact GvA.nil); (· (decide))))
    have : a ≠ b := fun e => by subst e; simp at *
    simp [this]
  have hab : a.length = b.length := by simp at *; omega
  apply sk_packC [0, 1, 5] [] rfl; (· (repeat (first | exact Pf.nil | apply Pf.cons (.c rfl (.d rfl))))); (· (repeat (exact Pb.nil)))
  refine sk_loopL [0, 1] [] (fun k => [(5, iN k)]) (fun _ => []) (fun k => k ≤ a.length ∧ a.take k = b.take k) (fun k => a.length - k) (0) ?_ (by (repeat (first | exact trivial | refine ⟨(by (rfl)), ?_⟩))) (by (repeat (exact trivial))) ?_
  · simp
  rintro k ⟨hk, hs⟩
  repeat' (first | (refine so_is (.assign _) ?_; (refine so_q (qt_asC rfl) rfl ?_)) | (refine so_is (.move _) ?_; (refine so_q (qt_mvC rfl) rfl ?_)) | (refine so_is (.call ⟨.builtin .len, _, #[24]⟩) ?_; (refine so_q (qt_len_d rfl (by kernel_rfl)) rfl ?_)) | (refine so_is (.binOp .lss 3 _ _ _) ?_; refine so_q (qt_lss rfl rfl) rfl ?_) | (refine so_is (.indexAddr 24 _ _) ?_; (refine so_q (qt_idxII rfl rfl (by kernel_rfl) (by (omega)) (by (omega))) rfl ?_)) | (refine so_is (.load 27 _) ?_; (refine so_q (qt_load_pt rfl (by kernel_rfl) rfl) rfl ?_)) | (refine so_is (.unOp .not 4 _) ?_; refine so_q (qt_not rfl) rfl ?_) | (refine so_is (.binOp .add 3 _ _ _) ?_; refine so_q (qt_addI rfl rfl (by (omega))) rfl ?_) | (refine so_is (.call ⟨.value (.func 26), _, _⟩) ?_; (apply so_call0 (fid := 26); (· (repeat (first | exact SeA.nil | apply SeA.cons (.c (.d _))))); (· exact rInts_p _ _); (· rfl))) | refine so_nil ?_ | refine sk_seq ?_ | refine sk_block ?_ | refine sk_blk ?_ | refine sk_exit rfl ?_ | refine sk_skip ?_ | refine sk_region ?_ | refine sk_drawQ 6 (fun _ => false) (.step 0 true (.step 1 true (.step 2 true (.step 3 true (.step 4 true (.step 5 true (.step 6 true (.step 7 true (.step 8 false (.step 9 true .nil)))))))))) [(0, 1023, 1023, true), (0, 1023, 1023, true), (3, 1020, 1023, true), (4, 1019, 1023, false), (0, 1023, 1023, true), (0, 1023, 1023, true), (48, 975, 1023, true), (64, 959, 1023, false), (136, 887, 1023, false), (256, 767, 1023, true)] (by kernel_rfl) (by kernel_rfl) ?_ | refine sk_if rfl (fun hc => ?_) (fun hc => ?_) | refine sk_nif rfl (fun hc => ?_) (fun hc => ?_))
  · rename_i hk'
    rw [atZ_nat (by omega), atZ_nat (by omega)] at hc
    (apply sk_ret; apply ret_eq; (· apply RetOK.p; (· (apply GvA.cons; (· exact .tmp _); (· exact GvP.c (.lit _))); exact GvA.nil); (· (decide))))
    have : a ≠ b := fun e => by subst e; simp at hc
    simp [this]
  · rename_i hk'
    rw [atZ_nat (by omega), atZ_nat (by omega)] at hc
    refine sk_back ?_; refine ⟨k + 1, ?_, ?_, le_at rfl (by (repeat (first | exact trivial | refine ⟨(by (rfl)), ?_⟩))) (by (repeat (first | exact trivial | refine ⟨rfl, ?_⟩))) (by (repeat (exact trivial))) (by (repeat (exact trivial)))⟩
    · exact ⟨by omega, by rw [List.take_succ_eq_append_getElem (by omega), List.take_succ_eq_append_getElem (by omega), hs, hc]⟩
    · omega
  · have e : k = a.length := by omega
    subst e
    rw [List.take_length, hab, List.take_length] at hs
    (apply sk_ret; apply ret_eq; (· apply RetOK.p; (· (apply GvA.cons; (· exact .tmp _); (· exact GvP.c (.lit _))); exact GvA.nil); (· (decide))))
    simp [hs]
theorem rTable_same (a : List (List Int)) : PC Tryz.prog 76 [.c (eII a), .c (eII a)] (.p (.c (dB true))) := by
  have := rTable_p a a; rwa [decide_eq_true rfl] at this

end Go.Proofs.YtefbiejoikpkmaaGreat

namespace Go.Proofs.YtefbiejoikpkmaaGreat
open Go.RowKit
set_option linter.unusedSectionVars false
variable [Glb]
set_option maxRecDepth 10000
set_option maxHeartbeats 4000000
theorem rTrio_same (wh : Int) (ll : List (List Int)) : PC Tryz.prog 57 [.g [dI wh, eII ll], .g [dI wh, eII ll]] (.p (.c (dB true))) := by
  refine pc_intro Tryz.func57 rfl rfl rfl (by kernel_rfl) rfl rfl ?_; intro _
  repeat' (first | (refine so_is (.box 88 _) ?_; refine so_box rfl rfl ?_) | (refine so_is (.assign _) ?_; (refine so_q (qt_asC rfl) rfl ?_)) | (refine so_is (.fieldAddr 88 _ 0) ?_; (refine so_q (qt_fld_lp (off := 0) rfl (by kernel_rfl)) rfl ?_)) | (refine so_is (.load 3 _) ?_; (refine so_q (qt_load_box rfl rfl (by kernel_rfl) rfl) rfl ?_)) | (refine so_is (.binOp .eql 3 _ _ _) ?_; refine so_q (qt_eql rfl rfl) rfl ?_) | (refine so_is (.move _) ?_; (refine so_q (qt_mvC rfl) rfl ?_)) | (refine so_is (.fieldAddr 88 _ 1) ?_; (refine so_q (qt_fld_lp (off := 1) rfl (by kernel_rfl)) rfl ?_)) | (refine so_is (.load 24 _) ?_; (refine so_q (qt_load_box rfl rfl (by kernel_rfl) rfl) rfl ?_)) | (refine so_is (.pick _ _ _) ?_; (refine so_q (qt_pkC rfl rfl) rfl ?_)) | (refine so_is (.call ⟨.value (.func 76), _, _⟩) ?_; (apply so_call0 (fid := 76); (· (repeat (first | exact SeA.nil | apply SeA.cons (.c (.d _))))); (· exact rTable_same _); (· rfl))) | refine so_nil ?_ | refine so_g_no rfl rfl rfl rfl ?_ | refine so_g_yes rfl rfl rfl rfl ?_ | refine so_g_if rfl rfl (fun hg => ?_) (fun hg => ?_) | refine sk_seq ?_ | refine sk_region ?_)
  all_goals first | (exfalso; simp_all; done) | skip
  all_goals (apply sk_ret; apply ret_eq; (· apply RetOK.p; (· (apply GvA.cons; (· exact .tmp _); (· exact GvP.c (.lit _))); exact GvA.nil); (· (decide))))
  all_goals simp

end Go.Proofs.YtefbiejoikpkmaaGreat

namespace Go.Proofs.YtefbiejoikpkmaaGreat
open Go.RowKit
set_option linter.unusedSectionVars false
variable [Glb]
set_option maxRecDepth 10000
set_option maxHeartbeats 4000000
theorem rBox_same (x y wh : Int) (ll : List (List Int)) : PC Tryz.prog 11 [.g [dI x, dI y, dI wh, eII ll], .g [dI x, dI y, dI wh, eII ll]] (.p (.c (dB true))) := by
  refine pc_intro Tryz.func11 rfl rfl rfl (by kernel_rfl) rfl rfl ?_; intro _
  repeat' (first | (refine so_is (.box 26 _) ?_; refine so_box rfl rfl ?_) | (refine so_is (.assign _) ?_; (refine so_q (qt_asC rfl) rfl ?_)) | (refine so_is (.fieldAddr 26 _ 0) ?_; (refine so_q (qt_fld_lp (off := 0) rfl (by kernel_rfl)) rfl ?_)) | (refine so_is (.load 3 _) ?_; (refine so_q (qt_load_box rfl rfl (by kernel_rfl) rfl) rfl ?_)) | (refine so_is (.binOp .eql 3 _ _ _) ?_; refine so_q (qt_eql rfl rfl) rfl ?_) | (refine so_is (.move _) ?_; (refine so_q (qt_mvC rfl) rfl ?_)) | (refine so_is (.fieldAddr 26 _ 1) ?_; (refine so_q (qt_fld_lp (off := 1) rfl (by kernel_rfl)) rfl ?_)) | (refine so_is (.pick _ _ _) ?_; (refine so_q (qt_pkC rfl rfl) rfl ?_)) | (refine so_is (.fieldAddr 26 _ 2) ?_; (refine so_q (qt_fld_lp (off := 2) rfl (by kernel_rfl)) rfl ?_)) | (refine so_is (.fieldAddr 26 _ 3) ?_; (refine so_q (qt_fld_lp (off := 3) rfl (by kernel_rfl)) rfl ?_)) | (refine so_is (.load 24 _) ?_; (refine so_q (qt_load_box rfl rfl (by kernel_rfl) rfl) rfl ?_)) | (refine so_is (.call ⟨.value (.func 76), _, _⟩) ?_; (apply so_call0 (fid := 76); (· (repeat (first | exact SeA.nil | apply SeA.cons (.c (.d _))))); (· exact rTable_same _); (· rfl))) | refine so_nil ?_ | refine so_g_no rfl rfl rfl rfl ?_ | refine so_g_yes rfl rfl rfl rfl ?_ | refine so_g_if rfl rfl (fun hg => ?_) (fun hg => ?_) | refine sk_seq ?_ | refine sk_region ?_)
  all_goals first | (exfalso; simp_all; done) | skip
  all_goals (apply sk_ret; apply ret_eq; (· apply RetOK.p; (· (apply GvA.cons; (· exact .tmp _); (· exact GvP.c (.lit _))); exact GvA.nil); (· (decide))))
  all_goals simp

end Go.Proofs.YtefbiejoikpkmaaGreat

namespace Go.Proofs.YtefbiejoikpkmaaGreat
open Go.RowKit
set_option linter.unusedSectionVars false
variable [Glb]
set_option maxRecDepth 10000
set_option maxHeartbeats 4000000
def mostR (l : List Int) : Nat → Int
  | 0 => atZ l 0
  | k + 1 => if atZ l ((k + 1 : Nat) : Int) > mostR l k then atZ l ((k + 1 : Nat) : Int) else mostR l k
theorem mostR_mem (l : List Int) : ∀ k : Nat, ∃ i : Nat, i ≤ k ∧ mostR l k = atZ l (i : Int)
  | 0 => ⟨0, by omega, rfl⟩
  | k + 1 => by
    obtain ⟨i, hi, e⟩ := mostR_mem l k
    unfold mostR
    split
    · exact ⟨k + 1, by omega, rfl⟩
    · exact ⟨i, by omega, e⟩
theorem rMost_p (l : List Int) (n : Nat) (h : l.length = n + 1) : PC Tryz.prog 69 [.c (eI l)] (.p (.c (dI (mostR l n)))) := by
  refine pc_intro Tryz.func69 rfl rfl rfl (by kernel_rfl) rfl rfl ?_; rintro ⟨hf, -⟩
  have hf := hf.len
  repeat' (first | (refine so_is (.assign _) ?_; (refine so_q (qt_asC rfl) rfl ?_)) | (refine so_is (.move _) ?_; (refine so_q (qt_mvC rfl) rfl ?_)) | (refine so_is (.indexAddr 27 _ _) ?_; (refine so_q (qt_idxI rfl rfl (by kernel_rfl) (by (omega)) (by (omega))) rfl ?_)) | (refine so_is (.load 3 _) ?_; (refine so_q (qt_load_pt rfl (by kernel_rfl) rfl) rfl ?_)) | refine so_nil ?_ | refine sk_seq ?_ | refine sk_block ?_ | refine sk_region ?_)
  all_goals first | (exfalso; omega) | skip
  apply sk_packC [0, 3, 4] [] rfl; (· (repeat (first | exact Pf.nil | apply Pf.cons (.c rfl (.d rfl))))); (· (repeat (exact Pb.nil)))
  refine sk_loopL [0] [] (fun k : Nat => [(4, iN (k + 1)), (3, iZ (mostR l k))]) (fun _ => []) (fun k => k ≤ n) (fun k => n - k) (0) ?_ (by (repeat (first | exact trivial | refine ⟨(by (rfl)), ?_⟩))) (by (repeat (exact trivial))) ?_
  · omega
  intro k hk
  by_cases hk2 : k < n
  · repeat' (first | (refine so_is (.assign _) ?_; (refine so_q (qt_asC rfl) rfl ?_)) | (refine so_is (.move _) ?_; (refine so_q (qt_mvC rfl) rfl ?_)) | (refine so_is (.indexAddr 27 _ _) ?_; (refine so_q (qt_idxI rfl rfl (by kernel_rfl) (by (omega)) (by (omega))) rfl ?_)) | (refine so_is (.load 3 _) ?_; (refine so_q (qt_load_pt rfl (by kernel_rfl) rfl) rfl ?_)) | (refine so_is (.call ⟨.builtin .len, _, #[27]⟩) ?_; (refine so_q (qt_len_d rfl (by kernel_rfl)) rfl ?_)) | (refine so_is (.binOp .lss 3 _ _ _) ?_; refine so_q (qt_lss rfl rfl) rfl ?_) | (refine so_is (.binOp .gtr 3 _ _ _) ?_; refine so_q (qt_gtr rfl rfl) rfl ?_) | (refine so_is (.binOp .add 3 _ _ _) ?_; refine so_q (qt_addI rfl rfl (by (omega))) rfl ?_) | refine so_nil ?_ | refine sk_seq ?_ | refine sk_block ?_ | refine sk_blk ?_ | refine sk_exit rfl ?_ | refine sk_skip ?_ | refine sk_region ?_ | refine sk_if rfl (fun hc => ?_) (fun hc => ?_))
    all_goals first | (exfalso; omega) | skip
    · have e : mostR l (k + 1) = atZ l ((k + 1 : Nat) : Int) := if_pos hc
      refine sk_back ?_; refine ⟨k + 1, ?_, ?_, le_at rfl (by (repeat (first | exact trivial | refine ⟨(by (first | rfl | (refine int_eq rfl ?_; (omega)))), ?_⟩))) (by (repeat (first | exact trivial | refine ⟨rfl, ?_⟩))) (by (repeat (exact trivial))) (by (repeat (exact trivial)))⟩
      · omega
      · omega
    · have e : mostR l (k + 1) = mostR l k := if_neg hc
      refine sk_back ?_; refine ⟨k + 1, ?_, ?_, le_at rfl (by (repeat (first | exact trivial | refine ⟨(by (first | rfl | (refine int_eq rfl ?_; (omega)))), ?_⟩))) (by (repeat (first | exact trivial | refine ⟨rfl, ?_⟩))) (by (repeat (exact trivial))) (by (repeat (exact trivial)))⟩
      · omega
      · omega
  · have e : k = n := by omega
    subst e
    repeat' (first | (refine so_is (.assign _) ?_; (refine so_q (qt_asC rfl) rfl ?_)) | (refine so_is (.move _) ?_; (refine so_q (qt_mvC rfl) rfl ?_)) | (refine so_is (.indexAddr 27 _ _) ?_; (refine so_q (qt_idxI rfl rfl (by kernel_rfl) (by (omega)) (by (omega))) rfl ?_)) | (refine so_is (.load 3 _) ?_; (refine so_q (qt_load_pt rfl (by kernel_rfl) rfl) rfl ?_)) | (refine so_is (.call ⟨.builtin .len, _, #[27]⟩) ?_; (refine so_q (qt_len_d rfl (by kernel_rfl)) rfl ?_)) | (refine so_is (.binOp .lss 3 _ _ _) ?_; refine so_q (qt_lss rfl rfl) rfl ?_) | (refine so_is (.binOp .gtr 3 _ _ _) ?_; refine so_q (qt_gtr rfl rfl) rfl ?_) | (refine so_is (.binOp .add 3 _ _ _) ?_; refine so_q (qt_addI rfl rfl (by (omega))) rfl ?_) | refine so_nil ?_ | refine sk_seq ?_ | refine sk_block ?_ | refine sk_blk ?_ | refine sk_exit rfl ?_ | refine sk_skip ?_ | refine sk_region ?_ | refine sk_if rfl (fun hc => ?_) (fun hc => ?_))
    all_goals first | (exfalso; omega) | skip
    all_goals (apply sk_ret; apply ret_eq; (· apply RetOK.p; (· (apply GvA.cons; (· exact .tmp _); (· exact GvP.c (.lit _))); exact GvA.nil); (· (decide))))
    all_goals rfl

end Go.Proofs.YtefbiejoikpkmaaGreat

namespace Go.Proofs.YtefbiejoikpkmaaGreat
open Go.RowKit
set_option linter.unusedSectionVars false
variable [Glb]
open Go
/-! drawn trios: what they are before they are spoilt -/
structure GridP (N : Int) (ll : List (List Int)) : Prop where
  len : ll.length = 8
  row : ∀ q : Int, 0 ≤ q → q < 8 → (atZ ll q).length = 8 ∧ ∀ k : Int, 0 ≤ k → k < 8 → 0 ≤ atZ (atZ ll q) k ∧ atZ (atZ ll q) k ≤ N
theorem trioB_grid {n : Int} {ll : List (List Int)} (h : trioB n ll = true) : GridP n ll := ⟨(trioB_spec h).2.2.1, fun q h0 h8 => trioB_at h h0 h8⟩
theorem GridP.mono {N M : Int} {ll : List (List Int)} (h : GridP N ll) (hNM : N ≤ M) : GridP M ll := ⟨h.len, fun q h0 h8 => ⟨(h.row q h0 h8).1, fun k k0 k8 => by have := (h.row q h0 h8).2 k k0 k8; omega⟩⟩
theorem grid_row {f : Nat → Nat → Int} {q : Int} (h0 : 0 ≤ q) (h8 : q < 8) : atZ (gridF f 8 8) q = rowF (f q.toNat) 8 := by
  obtain ⟨i, rfl⟩ := Int.eq_ofNat_of_zero_le h0
  rw [atZ_nat (by simp; omega)]; simp [gridF]
theorem grid_of {N : Int} {f : Nat → Nat → Int} (hf : ∀ q k, q < 8 → k < 8 → 0 ≤ f q k ∧ f q k ≤ N) : GridP N (gridF f 8 8) := by
  refine ⟨by simp, fun q h0 h8 => ?_⟩
  rw [grid_row h0 h8]
  refine ⟨by simp, fun k k0 k8 => ?_⟩
  obtain ⟨j, rfl⟩ := Int.eq_ofNat_of_zero_le k0
  rw [rowF_atZ _ (by omega)]
  exact hf _ _ (by omega) (by omega)
theorem grid_mix {M N : Int} {a b : List (List Int)} (ha : GridP M a) (hb : GridP N b) : GridP (M + N) (gridF (mixF a b) 8 8) := by
  refine grid_of fun q k hq hk => ?_
  have h1 := (ha.row (q : Int) (by omega) (by omega)).2 (k : Int) (by omega) (by omega)
  have h2 := (hb.row (q : Int) (by omega) (by omega)).2 (k : Int) (by omega) (by omega)
  unfold mixF
  omega
theorem grid_zero {N : Int} (h : 0 ≤ N) : GridP N (gridF (fun _ _ => 0) 8 8) := grid_of fun _ _ _ _ => ⟨Int.le_refl _, h⟩
theorem playV_bd8 {l : List Int} (h : bitsB l 8 = true) {q : Int} (h0 : 0 ≤ q) (h8 : q < 8) : 0 ≤ playV l q ∧ playV l q < 8 := by
  have b1 := bitsB_at h (i := q / 4) (by omega) (by omega)
  have b2 := bitsB_at h (i := 2 + q / 2 % 2) (by omega) (by omega)
  have b3 := bitsB_at h (i := 4 + q % 2) (by omega) (by omega)
  rw [playV_eq l h0 h8]
  omega
theorem ans_trio {n : Int} {h : Nat → Int} (h1 : 1 ≤ n) (h2 : n ≤ 1000) (hb : ∀ q, q < 8 → 0 ≤ h q ∧ h q < 8) : trioB n (gridF (ansF n h) 8 8) = true := by
  rw [hot_ans (g := fun q => (h q).toNat) fun q hq => by have := hb q hq; omega]
  exact hot_trio h1 h2 fun q hq => by have := hb q hq; omega
/-- the k-th sum as a box -/
def sum6F (k q j : Nat) : Int := if j = 0 ∨ j = 3 then 1 - difK k (q / 2) (q % 2) else difK k (q / 2) (q % 2)
theorem bits_snoc {l : List Int} {n : Nat} {x : Int} (h : bitsB l n = true) (h0 : 0 ≤ x) (h1 : x ≤ 1) : bitsB (l ++ [x]) ((n + 1 : Nat) : Int) = true := by
  have hl := bitsB_len h
  unfold bitsB at h ⊢
  simp only [Bool.and_eq_true, decide_eq_true_eq, allB, List.all_append, List.all_cons, List.all_nil, Bool.and_true] at h ⊢
  refine ⟨by simp; omega, h.2, inB_iff.2 ⟨h0, h1⟩⟩

end Go.Proofs.YtefbiejoikpkmaaGreat

namespace Go.Proofs.YtefbiejoikpkmaaGreat
open Go.RowKit
set_option linter.unusedSectionVars false
variable [Glb]
open Go Go.RowKit
/-! a whole row that is looked at only -/
theorem dem_all (b : Nat) {n : Nat} {ds : List D} (hn : n = ds.length) : C.dem b ds (.ls b 1 0 n) = .d (.sl 1 n ds) := by
  subst hn
  have b1 : Nat.beq b b = true := by simp
  have b2 : Nat.blt 0 1 = true := rfl
  have b3 : ds.length.ble ds.length = true := by simp
  simp [C.dem, b1, b2, b3]
theorem dem_slot {st : St} (t b : Nat) {n : Nat} {ds : List D} (hb : st.fr t = .c (C.dem b ds (.ls b 1 0 n))) (hn : n = ds.length) : ∀ w0 a w, Sim w0 st a w → Sim w0 (st.put t (.c (.d (.sl 1 n ds)))) a w :=
  sim_sloteq t (.c (.d (.sl 1 n ds))) hb (by rw [dem_all b hn])

end Go.Proofs.YtefbiejoikpkmaaGreat

namespace Go.Proofs.YtefbiejoikpkmaaGreat
open Go.RowKit
set_option linter.unusedSectionVars false
variable [Glb]
set_option maxRecDepth 10000
set_option maxHeartbeats 4000000
abbrev dW (n : Int) : D := .lit (.int .u64 n)
abbrev CurB (code : Tx) (a s : Int) : List BC := [.k (eB code), .o (dI a), .o (dW s)]
def CurR (a N : Int) (Q : Res → Prop) (ds : List D) (res : Res) : Prop := ∃ a' s', (a ≤ a' ∧ a' ≤ a + N) ∧ ds = [dI a', dW s'] ∧ Q res
theorem emod_bd {x n : Int} (hx : 0 ≤ x) (hn : 1 < n) : 0 ≤ x % n ∧ x % n < n ∧ x % n ≤ x := by
  refine ⟨Int.emod_nonneg _ (by omega), Int.emod_lt_of_pos _ (by omega), ?_⟩
  have h1 := Int.emod_add_mul_ediv x n
  have h2 : 0 ≤ n * (x / n) := Int.mul_nonneg (by omega) (Int.ediv_nonneg hx (by omega))
  omega
theorem pick_bd {x n : Int} (h0 : 0 ≤ x) (h1 : x ≤ 65535) (hn : 1 < n) : 0 ≤ x % n ∧ x % n ≤ 65535 ∧ (n ≤ 1 → x % n = 0) ∧ (1 < n → x % n < n) := by
  have := emod_bd h0 hn
  omega
theorem curNext_p (code : Tx) (a s : Int) (h0 : 0 ≤ a) (h1 : a ≤ 4611686018427387904) : PX Tryz.prog 186 (CurB code a s) [] (CurR a 1 fun res => ∃ x : Int, (0 ≤ x ∧ x ≤ 255) ∧ res = .p (.c (dI x))) := by
  have hb := byt_lt code a
  refine px_intro Tryz.func186 rfl rfl rfl (by kernel_rfl) rfl rfl rfl ?_; intro kv
  repeat' (first | (refine so_is (.assign _) ?_; (refine so_q (qt_asC rfl) rfl ?_)) | (refine so_is (.move _) ?_; (refine so_q (qt_mvC rfl) rfl ?_)) | (refine so_is (.nilCheck _) ?_; (refine so_q (qt_nilCheck_lp rfl) rfl ?_)) | (refine so_is (.fieldAddr 106 _ 1) ?_; (refine so_q (qt_fld_lp (off := 1) rfl (by kernel_rfl)) rfl ?_)) | (refine so_is (.load 3 _) ?_; (refine so_q (qt_load_box rfl rfl (by kernel_rfl) rfl) rfl ?_)) | (refine so_is (.fieldAddr 106 _ 0) ?_; (refine so_q (qt_fld_lp (off := 0) rfl (by kernel_rfl)) rfl ?_)) | (refine so_is (.load 22 _) ?_; (refine so_q (qt_load_same rfl rfl (by kernel_rfl) rfl) rfl ?_)) | (refine so_is (.call ⟨.builtin .len, _, #[22]⟩) ?_; (refine so_q (qt_len_d rfl (by kernel_rfl)) rfl ?_)) | (refine so_is (.binOp .lss 3 _ _ _) ?_; refine so_q (qt_lss rfl rfl) rfl ?_) | (refine so_is (.indexAddr 22 _ _) ?_; (refine so_q (qt_idxY rfl rfl (by kernel_rfl) (by (omega)) (by (omega))) rfl ?_)) | (refine so_is (.load 5 _) ?_; (refine so_q (qt_load_pt rfl (by kernel_rfl) rfl) rfl ?_)) | (refine so_is (.convert 5 3 _) ?_; (refine so_q (qt_convI (k' := .i64) rfl (by kernel_rfl) (by kernel_rfl) (by (exact IntWalk.i64_in _ (by (omega))))) rfl ?_)) | (refine so_is (.binOp .add 3 _ _ _) ?_; refine so_q (qt_addI rfl rfl (by (omega))) rfl ?_) | (refine so_is (.store 3 _ _) ?_; (refine so_store_box1 rfl rfl rfl rfl (by kernel_rfl) rfl rfl ?_)) | (refine so_is (.fieldAddr 106 _ 2) ?_; (refine so_q (qt_fld_lp (off := 2) rfl (by kernel_rfl)) rfl ?_)) | (refine so_is (.load 104 _) ?_; (refine so_q (qt_load_box rfl rfl (by kernel_rfl) rfl) rfl ?_)) | (refine so_is (.binOp .mul 104 _ _ _) ?_; refine so_q (qt_mul rfl rfl) rfl ?_) | (refine so_is (.convert 3 104 _) ?_; (refine so_q (qt_convI (k' := .u64) rfl (by kernel_rfl) (by kernel_rfl) (by (first | rfl | exact wrapU64 (by (omega))))) rfl ?_)) | (refine so_is (.binOp .add 104 _ _ _) ?_; refine so_q (qt_add rfl rfl) rfl ?_) | (refine so_is (.store 104 _ _) ?_; (refine so_store_box1 rfl rfl rfl rfl (by kernel_rfl) rfl rfl ?_)) | (refine so_is (.binOp .leq 3 _ _ _) ?_; refine so_q (qt_leq rfl rfl) rfl ?_) | (refine so_is (.binOp .shr 104 _ _ _) ?_; refine so_q (qt_shrC (c := 1099511627776) rfl rfl (by decide)) rfl ?_) | (refine so_is (.binOp .and 104 _ _ _) ?_; refine so_q (qt_andMU 8 (c := 256) rfl rfl (by decide)) rfl ?_) | (refine so_is (.convert 104 3 _) ?_; (refine so_q (qt_convI (k' := .i64) rfl (by kernel_rfl) (by kernel_rfl) (by (exact IntWalk.i64_in _ (by (omega))))) rfl ?_)) | refine so_nil ?_ | refine sk_seq ?_ | refine sk_skip ?_ | refine sk_region ?_ | refine sk_drawQ 2 (fun _ => false) (.step 0 true (.step 1 true (.step 2 true (.step 3 true (.step 4 true (.step 5 true (.step 6 true (.step 7 true (.step 8 true (.step 9 true .nil)))))))))) [(0, 1023, 1023, true), (1, 1022, 1023, true), (2, 1021, 1023, true), (4, 1019, 1023, false), (0, 1023, 1023, true), (16, 1007, 1023, true), (32, 991, 1023, true), (64, 959, 1023, false), (128, 895, 1023, true), (264, 759, 1023, true)] (by kernel_rfl) (by kernel_rfl) ?_ | refine sk_drawQ 3 (fun _ => false) (.step 0 true (.step 1 true (.step 2 true (.step 3 true (.step 4 true (.step 5 true (.step 6 true (.step 7 true (.step 8 true (.step 9 true (.step 10 true (.step 11 true .nil)))))))))))) [(0, 4095, 4095, true), (1, 4094, 4095, true), (2, 4093, 4095, true), (4, 4091, 4095, false), (0, 4095, 4095, true), (16, 4079, 4095, true), (32, 4063, 4095, true), (64, 4031, 4095, false), (136, 3959, 4095, true), (256, 3839, 4095, false), (512, 3583, 4095, true), (2047, 3071, 4095, true)] (by kernel_rfl) (by kernel_rfl) ?_ | refine sk_drawQ 6 (fun _ => false) (.step 0 true (.step 1 true (.step 2 true (.step 3 true (.step 4 true (.step 5 true (.step 6 true (.step 7 true (.step 8 true (.step 9 true .nil)))))))))) [(0, 1023, 1023, true), (1, 1022, 1023, true), (2, 1021, 1023, true), (4, 1019, 1023, false), (0, 1023, 1023, true), (16, 1007, 1023, true), (32, 991, 1023, true), (64, 959, 1023, false), (128, 895, 1023, true), (264, 759, 1023, true)] (by kernel_rfl) (by kernel_rfl) ?_ | refine sk_if rfl (fun hc => ?_) (fun hc => ?_))
  all_goals (apply sk_xret; (· (apply RetX.p; (· rfl); (· (repeat (first | exact BxO.nil _ | apply BxO.k | (apply BxO.o; (· (exact .lit _)))))); (· (apply GvA.cons; (· exact .tmp _); (· exact GvP.c (.lit _))); exact GvA.nil); (· (decide)))))
  all_goals exact ⟨_, _, by omega, rfl, _, by omega, rfl⟩
theorem curPick_p (code : Tx) (a s n : Int) (h0 : 0 ≤ a) (h1 : a ≤ 4611686018427387000) : PX Tryz.prog 113 (CurB code a s) [.v (.c (dI n))] (CurR a 2 fun res => ∃ x : Int, (0 ≤ x ∧ x ≤ 65535 ∧ (n ≤ 1 → x = 0) ∧ (1 < n → x < n)) ∧ res = .p (.c (dI x))) := by
  refine px_intro Tryz.func113 rfl rfl rfl (by kernel_rfl) rfl rfl rfl ?_; intro kv
  repeat' (first | (refine so_is (.assign _) ?_; (refine so_q (qt_asC rfl) rfl ?_)) | (refine so_is (.move _) ?_; (refine so_q (qt_mvC rfl) rfl ?_)) | (refine so_is (.binOp .leq 3 _ _ _) ?_; refine so_q (qt_leq rfl rfl) rfl ?_) | (refine so_is (.binOp .gtr 3 _ _ _) ?_; refine so_q (qt_gtr rfl rfl) rfl ?_) | (refine so_is (.binOp .mul 3 _ _ _) ?_; refine so_q (qt_mulI rfl rfl (by (omega))) rfl ?_) | (refine so_is (.binOp .add 3 _ _ _) ?_; refine so_q (qt_addI rfl rfl (by (omega))) rfl ?_) | (refine so_is (.binOp .rem 3 _ _ _) ?_; (refine so_q (qt_remN rfl rfl (by (omega)) (by (omega)) (by (omega))) rfl ?_)) | (refine so_is (.call ⟨.value (.func 186), _, _⟩) ?_; (apply so_callX (fid := 186); (· rfl); (· rfl); (· (repeat (first | exact BxI.nil | apply BxI.ks | (apply BxI.o; (· (exact .lit _)))))); (· (repeat (exact ArX.nil))); (· (decide)); (· (decide)); (· exact curNext_p code _ _ (by omega) (by omega)); (· rfl); (· (intro b hb1 hb2; omega)); (· rfl); (rintro _ _ ⟨a1, s1, ha1, rfl, x1, hx1, rfl⟩; refine ⟨(by first | rfl | simp [*]), ?_⟩))) | refine so_nil ?_ | refine sk_seq ?_ | refine sk_skip ?_ | refine sk_region ?_ | refine sk_if rfl (fun hc => ?_) (fun hc => ?_))
  all_goals (apply sk_xret; (· (apply RetX.p; (· rfl); (· (repeat (first | exact BxO.nil _ | apply BxO.k | (apply BxO.o; (· (exact .lit _)))))); (· (apply GvA.cons; (· exact .tmp _); (· exact GvP.c (.lit _))); exact GvA.nil); (· (decide)))))
  · exact ⟨_, _, by omega, rfl, _, by omega, rfl⟩
  · exact ⟨_, _, by omega, rfl, _, pick_bd (by omega) (by omega) (by omega), rfl⟩
  · exact ⟨_, _, by omega, rfl, _, pick_bd (by omega) (by omega) (by omega), rfl⟩
theorem curOne_p (code : Tx) (a s n : Int) (h0 : 0 ≤ a) (h1 : a ≤ 4611686018427387000) : PX Tryz.prog 143 (CurB code a s) [.v (.c (dI n))] (CurR a 2 fun res => ∃ b : Bool, res = .p (.c (dB b))) := by
  refine px_intro Tryz.func143 rfl rfl rfl (by kernel_rfl) rfl rfl rfl ?_; intro kv
  repeat' (first | (refine so_is (.assign _) ?_; (refine so_q (qt_asC rfl) rfl ?_)) | (refine so_is (.move _) ?_; (refine so_q (qt_mvC rfl) rfl ?_)) | (refine so_is (.binOp .eql 3 _ _ _) ?_; refine so_q (qt_eql rfl rfl) rfl ?_) | (refine so_is (.call ⟨.value (.func 113), _, _⟩) ?_; (apply so_callX (fid := 113); (· rfl); (· rfl); (· (repeat (first | exact BxI.nil | apply BxI.ks | (apply BxI.o; (· (exact .lit _)))))); (· (repeat (first | exact ArX.nil | apply ArX.v (.c (.d _))))); (· (decide)); (· (decide)); (· exact curPick_p code _ _ _ (by omega) (by omega)); (· rfl); (· (intro b hb1 hb2; omega)); (· rfl); (rintro _ _ ⟨a1, s1, ha1, rfl, x1, hx1, rfl⟩; refine ⟨(by first | rfl | simp [*]), ?_⟩))) | refine so_nil ?_ | refine sk_seq ?_ | refine sk_region ?_)
  all_goals (apply sk_xret; (· (apply RetX.p; (· rfl); (· (repeat (first | exact BxO.nil _ | apply BxO.k | (apply BxO.o; (· (exact .lit _)))))); (· (apply GvA.cons; (· exact .tmp _); (· exact GvP.c (.lit _))); exact GvA.nil); (· (decide)))))
  all_goals exact ⟨_, _, by omega, rfl, _, rfl⟩
theorem mem_at {α : Type} [Inhabited α] {l : List α} {x : Int} (h0 : 0 ≤ x) (h1 : x < l.length) : atZ l x ∈ l := List.mem_of_getElem? (atZ_some h0 h1)
theorem curAmong_p (code : Tx) (a s : Int) (l : List Int) (hl : 0 < l.length) (h0 : 0 ≤ a) (h1 : a ≤ 4611686018427387000) : PX Tryz.prog 77 (CurB code a s) [.v (.c (eI l))] (CurR a 2 fun res => ∃ t : Int, t ∈ l ∧ res = .p (.c (dI t))) := by
  refine px_intro Tryz.func77 rfl rfl rfl (by kernel_rfl) rfl rfl rfl ?_; intro kv
  repeat' (first | (refine so_is (.assign _) ?_; (refine so_q (qt_asC rfl) rfl ?_)) | (refine so_is (.move _) ?_; (refine so_q (qt_mvC rfl) rfl ?_)) | (refine so_is (.call ⟨.builtin .len, _, #[27]⟩) ?_; (refine so_q (qt_len_d rfl (by kernel_rfl)) rfl ?_)) | (refine so_is (.indexAddr 27 _ _) ?_; (refine so_q (qt_idxI rfl rfl (by kernel_rfl) (by (omega)) (by (omega))) rfl ?_)) | (refine so_is (.load 3 _) ?_; (refine so_q (qt_load_pt rfl (by kernel_rfl) rfl) rfl ?_)) | (refine so_is (.call ⟨.value (.func 113), _, _⟩) ?_; (apply so_callX (fid := 113); (· rfl); (· rfl); (· (repeat (first | exact BxI.nil | apply BxI.ks | (apply BxI.o; (· (exact .lit _)))))); (· (repeat (first | exact ArX.nil | apply ArX.v (.c (.d _))))); (· (decide)); (· (decide)); (· exact curPick_p code _ _ _ (by omega) (by omega)); (· rfl); (· (intro b hb1 hb2; omega)); (· rfl); (rintro _ _ ⟨a1, s1, ha1, rfl, x1, hx1, rfl⟩; refine ⟨(by first | rfl | simp [*]), ?_⟩))) | refine so_nil ?_ | refine sk_seq ?_ | refine sk_region ?_)
  all_goals (apply sk_xret; (· (apply RetX.p; (· rfl); (· (repeat (first | exact BxO.nil _ | apply BxO.k | (apply BxO.o; (· (exact .lit _)))))); (· (apply GvA.cons; (· exact .tmp _); (· exact GvP.c (.lit _))); exact GvA.nil); (· (decide)))))
  all_goals exact ⟨_, _, by omega, rfl, _, mem_at (by omega) (by omega), rfl⟩
theorem curAmongD_p (code : Tx) (a s : Int) (n : Nat) (ds : List D) (Q : Int → Prop) (hn : n = ds.length) (h2 : 0 < n) (h : ∀ x ∈ ds, ∃ t : Int, x = dI t ∧ Q t) (h0 : 0 ≤ a) (h1 : a ≤ 4611686018427387000) : PX Tryz.prog 77 (CurB code a s) [.v (.c (.sl 1 n ds))] (CurR a 2 fun res => ∃ t : Int, Q t ∧ res = .p (.c (dI t))) := by
  have : ∃ l : List Int, ds = l.map dI ∧ ∀ t ∈ l, Q t := by
    clear hn h2
    induction ds with
    | nil => exact ⟨[], rfl, fun t ht => by cases ht⟩
    | cons x ds ih =>
      obtain ⟨t, e, ht⟩ := h x (List.mem_cons_self ..)
      obtain ⟨l, e2, hl⟩ := ih fun y hy => h y (List.mem_cons_of_mem _ hy)
      exact ⟨t :: l, by rw [List.map_cons, e, e2], fun u hu => by rcases List.mem_cons.1 hu with e3 | hu; rw [e3]; exact ht; exact hl u hu⟩
  obtain ⟨l, rfl, hl⟩ := this
  rw [List.length_map] at hn
  subst hn
  refine (curAmong_p code a s l h2 h0 h1).mono ?_
  rintro ds res ⟨a1, s1, ha, rfl, t, ht, rfl⟩
  exact ⟨_, _, ha, rfl, t, hl t ht, rfl⟩

end Go.Proofs.YtefbiejoikpkmaaGreat

namespace Go.Proofs.YtefbiejoikpkmaaGreat
open Go.RowKit
set_option linter.unusedSectionVars false
variable [Glb]
set_option maxRecDepth 10000
set_option maxHeartbeats 4000000
theorem l1Most_p (a b : Int) : PC Tryz.prog 154 [.c (dI a), .c (dI b)] (.p (.c (dI (max a b)))) := by
  refine pc_intro Tryz.func154 rfl rfl rfl (by kernel_rfl) rfl rfl ?_; intro _
  repeat' (first | (refine so_is (.assign _) ?_; (refine so_q (qt_asC rfl) rfl ?_)) | (refine so_is (.move _) ?_; (refine so_q (qt_mvC rfl) rfl ?_)) | (refine so_is (.binOp .gtr 3 _ _ _) ?_; refine so_q (qt_gtr rfl rfl) rfl ?_) | refine so_nil ?_ | refine sk_seq ?_ | refine sk_skip ?_ | refine sk_region ?_ | refine sk_if rfl (fun hc => ?_) (fun hc => ?_))
  all_goals (apply sk_ret; apply ret_eq; (· apply RetOK.p; (· (apply GvA.cons; (· exact .tmp _); (· exact GvP.c (.lit _))); exact GvA.nil); (· (decide))))
  all_goals simp
  all_goals omega

end Go.Proofs.YtefbiejoikpkmaaGreat
