/- What the functions that FnWirings reaches return: part of its proof. No condition beyond those of its theorems. -/
import Derived.Test.YtefbiejoikpkmaaGreatProg
import Derived.Test.YtefbiejoikpkmaaGreatKplainB
import Derived.WalkKit
import Derived.Test.YtefbiejoikpkmaaGreatKplainA
import Derived.Laws.StructEq
import Derived.Test.YtefbiejoikpkmaaGreatKplainC
set_option linter.unusedVariables false
set_option linter.unusedSimpArgs false
--plain: PureMisc PureTake PureView PureAlt PurePack PureDag PureQ PureRen PureMany PureSlice Texts PureText Defs
namespace Go.Proofs.YtefbiejoikpkmaaGreat
open Go.RowKit
set_option linter.unusedSectionVars false
variable [Glb]

abbrev dI (n : Int) : D := .lit (.int .i64 n)
abbrev dB (b : Bool) : D := .lit (.bool b)
abbrev dS (s : ByteArray) : D := .lit (.string s)
abbrev iN (k : Nat) : FV := .c (.d (dI k))
abbrev iZ (k : Int) : FV := .c (.d (dI k))
/-- a list of numbers, of lists of numbers, of texts -/
abbrev cI (l : List Int) : List D := l.map dI
abbrev eI (l : List Int) : D := .sl 1 l.length (cI l)
abbrev cII (l : List (List Int)) : List D := l.map fun x => eI x
abbrev eII (l : List (List Int)) : D := .sl 1 l.length (cII l)
section
variable {P : Program} {st : St} {dst : Option Tmp} {ty : TypeId} {pos : String} {af : Array Edge} {T : TypeId} {x y : Operand} {k : IntKind} {i : Int}
theorem qt_idxI {l : List Int} (hx : st.ev x = .c (.d (eI l))) (hy : st.ev y = .c (.d (.lit (.int k i)))) (ht : tSl P T 1 = true) (h0 : 0 ≤ i) (h1 : i < l.length) : Qt P ⟨dst, .indexAddr T x y, ty, pos, af, none⟩ st (.c (.d (.pt [dI (atZ l i)]))) :=
  qt_idx hx hy ht h0 h1 (map_at (atZ_some h0 h1))
theorem qt_idxII {l : List (List Int)} (hx : st.ev x = .c (.d (eII l))) (hy : st.ev y = .c (.d (.lit (.int k i)))) (ht : tSl P T 1 = true) (h0 : 0 ≤ i) (h1 : i < l.length) : Qt P ⟨dst, .indexAddr T x y, ty, pos, af, none⟩ st (.c (.d (.pt [eI (atZ l i)]))) :=
  qt_idx hx hy ht h0 h1 (map_at (atZ_some h0 h1))
theorem qt_load_rowI {l : List Int} {b : Nat} {i : Int} (hx : st.ev x = .c (.lp b (0 + i.toNat * 1))) (hb : st.bl b = some (.row 1 (cI l))) (ht : tOne P T = true) (h0 : 0 ≤ i) (h1 : i < l.length) : Qt P ⟨dst, .load T x, ty, pos, af, none⟩ st (.c (.d (dI (atZ l i)))) :=
  qt_load_row hx hb ht (by rw [List.getElem?_map, Nat.zero_add, Nat.mul_one, atZ_some h0 h1]; rfl)
theorem qt_slice_dI10 {l : List Int} {x lo : Operand} {kl : IntKind} {i : Int} (hx : st.ev x = .c (.d (eI l))) (hl : st.ev lo = .c (.d (.lit (.int kl i)))) (ht : tSl P T 1 = true) (h0 : 0 ≤ i) (h1 : i ≤ l.length) :
    Qt P ⟨dst, .slice T x (some lo) none none, ty, pos, af, none⟩ st (.c (.d (eI (partZ l i l.length)))) :=
  qt_slice_d (vl := some (kl, i)) (vh := none) (i := i.toNat) (j := l.length) hx (ev_some hl) (fun _ _ _ _ _ => rfl) ht ⟨h0, rfl⟩ rfl (by omega) (by omega) (by rw [partZ_len (by omega)]; simp) (by rw [partZ_len (by omega)]; exact map_part l _ i l.length)
theorem qt_slice_dI01 {l : List Int} {x hi : Operand} {kh : IntKind} {j : Int} (hx : st.ev x = .c (.d (eI l))) (hh : st.ev hi = .c (.d (.lit (.int kh j)))) (ht : tSl P T 1 = true) (h0 : 0 ≤ j) (h2 : j ≤ l.length) :
    Qt P ⟨dst, .slice T x none (some hi) none, ty, pos, af, none⟩ st (.c (.d (eI (partZ l 0 j)))) :=
  qt_slice_d (vl := none) (vh := some (kh, j)) (i := 0) (j := j.toNat) hx (fun _ _ _ _ _ => rfl) (ev_some hh) ht rfl ⟨h0, rfl⟩ (by omega) (by omega) (by rw [partZ_len h2]; simp) (by rw [partZ_len h2]; simpa using map_part l _ 0 j)
end
end Go.Proofs.YtefbiejoikpkmaaGreat

namespace Go.Proofs.YtefbiejoikpkmaaGreat
open Go.RowKit
set_option linter.unusedSectionVars false
variable [Glb]
open Go Go.RowKit
/-! readings of bytes -/
theorem pr_u8 {P : Program} {T : TypeId} (hT : P.underlying T = some (.int .u8)) : PR P T fun b : UInt8 => [dY b] := by
  intro H enc W fuel cs x h
  obtain ⟨n, rfl, -, wf⟩ := DataW.trod_int hT h
  have hn : 0 ≤ n ∧ n ≤ 255 := by
    simpa [Lit.wf, IntKind.min, IntKind.max, IntKind.signed, IntKind.bits] using wf
  have e : ((UInt8.ofNat n.toNat).toNat : Int) = n := by rw [UInt8.toNat_ofNat']; omega
  refine ⟨UInt8.ofNat n.toNat, ?_⟩
  have : VwD W [Value.int .u8 n] [D.lit (.int .u8 n)] := .one (.lit _ rfl)
  simpa only [dY, e] using this

end Go.Proofs.YtefbiejoikpkmaaGreat

namespace Go.Proofs.YtefbiejoikpkmaaGreat
open Go.RowKit
set_option linter.unusedSectionVars false
variable [Glb]
open Go Go.RowKit
/-! several ways through a part of the code that are told as one behind it -/
theorem sk_join {P : Program} {R : St → Prop} {k : List Itm} {st : St} {c : Code} {G : Type} (U UB : List Nat) (V : G → List (Nat × FV)) (B : G → List (Nat × Blk)) (ok : G → Prop)
    (first : SK P (.code c :: .back (fun st' => ∃ g', ok g' ∧ True ∧ st'.le (st.at U UB (V g') (B g'))) :: k) st R)
    (rest : ∀ g, ok g → SK P k (st.at U UB (V g) (B g)) R) : SK P (.code c :: k) st R := by
  refine ⟨fun w0 a w hs => Code.wp_mono ?_ (first.lv w0 a w hs)⟩
  rintro e a' w' ⟨st1, h1, h2⟩
  cases e with
  | normal =>
    obtain ⟨g, hg, _, hle⟩ := h2
    exact ⟨_, h1.le hle, (rest g hg).lv⟩
  | ret => exact ⟨st1, h1, by rw [LV.ret] at *; exact h2⟩
  | exit id => exact ⟨st1, h1, h2⟩
  | goto l => exact (LV.bad trivial h2).elim
  | panic c => exact (LV.bad trivial h2).elim
  | outgrown => exact (LV.bad trivial h2).elim
section
variable {P : Program} {st : St} {dst : Option Tmp} {ty : TypeId} {pos : String} {af : Array Edge}
end

end Go.Proofs.YtefbiejoikpkmaaGreat

namespace Go.Proofs.YtefbiejoikpkmaaGreat
open Go.RowKit
set_option linter.unusedSectionVars false
variable [Glb]
open Go Go.RowKit
/-! parts of the orders that several ways lead to, told for all names that were bound ahead of them -/
section
variable {P : Program} {ops : Array Oper} {mu : Nat → Bool} {st : St} {K : St → Prop}
theorem so_lt0 {S : St} {ok : Prop} {os : List Oper} {T : IT} {C : IT → IT} (main : ∀ Y, (ok → SO P ops mu (OT.of os Y) S K) → SO P ops mu (OT.of os (C Y)) st K) (h : ok → SO P ops mu (OT.of os T) S K) : SO P ops mu (OT.of os (IT.lt T C)) st K := main T h
theorem so_lt3 {A1 A2 A3 : Type} {S : A1 → A2 → A3 → St} {ok : A1 → A2 → A3 → Prop} {os : List Oper} {T : IT} {C : IT → IT} (main : ∀ Y, (∀ x1 x2 x3, ok x1 x2 x3 → SO P ops mu (OT.of os Y) (S x1 x2 x3) K) → SO P ops mu (OT.of os (C Y)) st K) (h : ∀ x1 x2 x3, ok x1 x2 x3 → SO P ops mu (OT.of os T) (S x1 x2 x3) K) : SO P ops mu (OT.of os (IT.lt T C)) st K := main T h
theorem so_lt6 {A1 A2 A3 A4 A5 A6 : Type} {S : A1 → A2 → A3 → A4 → A5 → A6 → St} {ok : A1 → A2 → A3 → A4 → A5 → A6 → Prop} {os : List Oper} {T : IT} {C : IT → IT} (main : ∀ Y, (∀ x1 x2 x3 x4 x5 x6, ok x1 x2 x3 x4 x5 x6 → SO P ops mu (OT.of os Y) (S x1 x2 x3 x4 x5 x6) K) → SO P ops mu (OT.of os (C Y)) st K) (h : ∀ x1 x2 x3 x4 x5 x6, ok x1 x2 x3 x4 x5 x6 → SO P ops mu (OT.of os T) (S x1 x2 x3 x4 x5 x6) K) : SO P ops mu (OT.of os (IT.lt T C)) st K := main T h
end

end Go.Proofs.YtefbiejoikpkmaaGreat

namespace Go.Proofs.YtefbiejoikpkmaaGreat
open Go.RowKit
set_option linter.unusedSectionVars false
variable [Glb]
open Go Go.RowKit
/-! structs of texts and numbers, compared -/
def eqA : Value → Value → Bool
  | .int _ a, .int _ b => a == b
  | .string a, .string b => a.toList == b.toList
  | _, _ => false
def eqL : List Value → List Value → Bool
  | u :: us, v :: vs => eqA u v && eqL us vs
  | _, _ => true
@[simp] theorem eqA_t (a b : Tx) : eqA (.string (bsT a)) (.string (bsT b)) = decide (a = b) := by
  show ((bsT a).toList == (bsT b).toList) = _
  rw [ByteArray.toList_eq, ByteArray.toList_eq]
  show ((bsT a).data.toList == (bsT b).data.toList) = _
  simp only [bsT]
  rw [Bool.eq_iff_iff, beq_iff_eq, decide_eq_true_iff]
@[simp] theorem eqA_i (k k' : IntKind) (a b : Int) : eqA (.int k a) (.int k' b) = decide (a = b) := rfl
@[simp] theorem eqL_cons (u v : Value) (us vs : List Value) : eqL (u :: us) (v :: vs) = (eqA u v && eqL us vs) := rfl
@[simp] theorem eqL_nil : eqL [] [] = true := rfl
def oneEq (P : Program) (T : TypeId) : Value → Value → Bool
  | .string _, .string _ => match P.underlying T with | some .string => true | _ => false
  | .int k _, .int k' _ => match P.underlying T with | some (.int _) => k == k' | _ => false
  | _, _ => false
def flatEq (P : Program) : Nat → List Field → List Value → List Value → Bool
  | _, [], [], [] => true
  | o, f :: fs, u :: us, v :: vs => f.name != "_" && (f.offset == o && (oneEq P f.type u v && flatEq P (o + 1) fs us vs))
  | _, _, _, _ => false
def structEq (P : Program) (T : TypeId) (us vs : List Value) : Bool := match P.underlying T with
  | some (.struct fs) => !(P.stoodInHeld T) && (!(P.eqGuardType P.depth T) && flatEq P 0 fs.toList us vs)
  | _ => false
section
variable {P : Program} {w : World}
end
section
variable {P : Program} {st : St} {dst : Option Tmp} {ty : TypeId} {pos : String} {af : Array Edge} {T T' : TypeId} {x y : Operand}
end

end Go.Proofs.YtefbiejoikpkmaaGreat

namespace Go.Proofs.YtefbiejoikpkmaaGreat
open Go.RowKit
open Go
/-! trios -/
def sum64 (l : List Int) : Int := l.foldl (fun s n => IntKind.i64.wrap (s + n)) 0
theorem sum64_snoc {l : List Int} {k : Nat} (h : k < l.length) : sum64 (l.take (k + 1)) = IntKind.i64.wrap (sum64 (l.take k) + l[k]) := by
  unfold sum64; rw [List.take_succ_eq_append_getElem h, List.foldl_append]; rfl
def rowB (n : Int) (row : List Int) : Bool := (decide (row.length = 8) && allB row 0 n) && decide (sum64 row = n)
def trioB (n : Int) (ll : List (List Int)) : Bool := (inB n 1 1000 && decide (ll.length = 8)) && ll.all (rowB n)
/-- the bit of a player in a place -/
def bitZ (q : Int) (m : Nat) : Int := q / 2 ^ (2 - m) % 2
/-- the answers of a play -/
def playP (l : List Int) (q : Int) : Nat → Int
  | 0 => 0
  | m + 1 => 2 * playP l q m + atZ l (2 * m + bitZ q m)
def playV (l : List Int) (q : Int) : Int := playP l q 3
def ansF (n : Int) (g : Nat → Int) (q k : Nat) : Int := if (k : Int) = g q then n else 0
def trioOfB (l : List Int) (n : Int) : Bool := bitsB l 6 && inB n 1 1000
theorem rowF_atZ (f : Nat → Int) {m k : Nat} (h : k < m) : atZ (rowF f m) (k : Int) = f k := by
  rw [atZ_nat (by simpa using h)]; simp [rowF]
/-- the two players other than one -/
def oth1 (a : Int) : Nat := if a = 0 then 1 else 0
def oth2 (a : Int) : Nat := if a = 0 then 2 else if a = 1 then 2 else 1
def othL (a : Int) (k : Nat) : List Int := (([0, 1, 2] : List Int).take k).filter fun x => decide (x ≠ a)
/-- the answers of a group play -/
def grpAt (a q : Int) : Int := 2 * (2 * bitZ q (oth1 a) + bitZ q (oth2 a))
def grpV (a : Int) (own joint : List Int) (q : Int) : Int :=
  atZ own (bitZ q a.toNat) * 2 ^ (2 - a.toNat) + atZ joint (grpAt a q) * 2 ^ (2 - oth1 a) + atZ joint (grpAt a q + 1) * 2 ^ (2 - oth2 a)
def groupB (a : Int) (own joint : List Int) (n : Int) : Bool := inB a 0 2 && bitsB own 2 && bitsB joint 8 && inB n 1 1000
/-- a place whose digits are turned -/
def turnP (p : Int) : Int := p * 2 % 8 + p / 4
def turnI (k : Nat) : Nat := k / 2 + k % 2 * 4
def turnN (p : Nat) : Nat := p * 2 % 8 + p / 4
/-- a list of eight that is filled at the turned places, k of them so far -/
def turnL {α : Type} (z : α) (f : Nat → α) (k : Nat) : List α := (List.range 8).map fun j => if turnN j < k then f j else z
def turnF (ll : List (List Int)) (q k : Nat) : Int := atZ (atZ ll (turnP q)) (turnP k)
def mixF (a b : List (List Int)) (q k : Nat) : Int := atZ (atZ a q) k + atZ (atZ b q) k
def mixB (m : Int) (a : List (List Int)) (n : Int) (b : List (List Int)) : Bool := trioB m a && trioB n b && decide (m + n ≤ 1000)

end Go.Proofs.YtefbiejoikpkmaaGreat

namespace Go.Proofs.YtefbiejoikpkmaaGreat
open Go.RowKit
/-! all plays -/
def bitN (c e : Nat) : Nat := c / 2 ^ e % 2
def bitsM (n c : Nat) : List Int := rowF (fun i => (bitN c (n - 1 - i) : Int)) n
def playsF (n : Nat) : List (List Int) := (List.range (2 ^ n)).map (bitsM n)
@[simp] theorem bitsM_len (n c : Nat) : (bitsM n c).length = n := by simp [bitsM]
@[simp] theorem playsF_len (n : Nat) : (playsF n).length = 2 ^ n := by simp [playsF]
theorem bitsM_bits (n c : Nat) : bitsB (bitsM n c) n = true := by
  simp only [bitsB, bitsM_len, decide_true, Bool.true_and, allB, List.all_eq_true]
  intro x hx
  unfold bitsM rowF at hx
  obtain ⟨i, _, rfl⟩ := List.mem_map.1 hx
  exact inB_iff.2 ⟨by unfold bitN; omega, by unfold bitN; omega⟩
theorem playsF_at {n k : Nat} (h : k < 2 ^ n) : atZ (playsF n) (k : Int) = bitsM n k := by rw [atZ_nat (by simpa using h)]; simp [playsF]
theorem plays_snoc (n c : Nat) : (List.range (c + 1)).map (bitsM n) = (List.range c).map (bitsM n) ++ [bitsM n c] := by simp [List.range_succ]
theorem bit_nat (c e : Nat) : (c : Int) / 2 ^ e % 2 = (bitN c e : Int) := by
  unfold bitN
  rw [Int.natCast_emod, Int.natCast_ediv, Int.natCast_pow]; rfl
/-- the greatest of numbers, at least 0 -/
def bestN (f : Nat → Int) : Nat → Int
  | 0 => 0
  | k + 1 => max (bestN f k) (f k)
/-- the score of answers -/
def parZ (p : Int) : Int := (p / 4 + p / 2 + p) % 2
def scoreN (w odd : List Int) (f : Int → Int) : Nat → Int
  | 0 => 0
  | k + 1 => scoreN w odd f k + if parZ (f k) = atZ odd k then atZ w k else 0
def valB (w odd : List Int) : Bool := decide (w.length = 8) && allB w 0 99 && bitsB odd 8
def trioVal (w odd : List Int) : Int := bestN (fun c => scoreN w odd (fun q => playV (bitsM 6 c) q) 8) 64
def bitsL (c : Nat) : List Int := rowF (fun i => (bitN c i : Int)) 6
def rev6 (c : Nat) : Nat := c % 2 * 32 + c / 2 % 2 * 16 + c / 4 % 2 * 8 + c / 8 % 2 * 4 + c / 16 % 2 * 2 + c / 32
end Go.Proofs.YtefbiejoikpkmaaGreat

namespace Go.Proofs.YtefbiejoikpkmaaGreat
open Go.RowKit
open Go
/-! boxes -/
def row4B (n : Int) (row : List Int) : Bool := (decide (row.length = 4) && allB row 0 n) && decide (sum64 row = n)
def sizeB (x y : Int) : Bool := inB x 1 3 && inB y 1 3
def boxB (x y n : Int) (ll : List (List Int)) : Bool := ((sizeB x y && inB n 1 1000) && decide ((ll.length : Int) = x * y)) && ll.all (row4B n)
theorem sizeB_iff {x y : Int} : sizeB x y = true ↔ (1 ≤ x ∧ x ≤ 3) ∧ (1 ≤ y ∧ y ≤ 3) := by simp [sizeB, inB_iff]
theorem mul_bd3 {x y : Int} (h : sizeB x y = true) : 1 ≤ x * y ∧ x * y ≤ 9 := by
  obtain ⟨⟨a, b⟩, c, d⟩ := sizeB_iff.1 h
  rcases (by omega : x = 1 ∨ x = 2 ∨ x = 3) with rfl | rfl | rfl <;> rcases (by omega : y = 1 ∨ y = 2 ∨ y = 3) with rfl | rfl | rfl <;> decide
theorem wrap_mul3 {x y : Int} (h : sizeB x y = true) : IntKind.i64.wrap (x * y) = x * y := IntWalk.i64_in _ (by have := mul_bd3 h; omega)
theorem row4B_len {n : Int} {row : List Int} (h : row4B n row = true) : row.length = 4 ∧ ∀ k (hk : k < row.length), 0 ≤ row[k] ∧ row[k] ≤ n := by
  simp only [row4B, Bool.and_eq_true, decide_eq_true_eq, allB, List.all_eq_true] at h
  exact ⟨h.1.1, fun k hk => inB_iff.1 (h.1.2 _ (List.getElem_mem hk))⟩
theorem row4B_sum {n : Int} {row : List Int} (h : row4B n row = true) : sum64 row = n := by simp [row4B] at h; exact h.2
structure BoxOK (x y n : Int) (ll : List (List Int)) : Prop where
  x1 : 1 ≤ x
  x3 : x ≤ 3
  y1 : 1 ≤ y
  y3 : y ≤ 3
  n1 : 1 ≤ n
  n2 : n ≤ 1000
  len : (ll.length : Int) = x * y
  row : ∀ q, (hq : q < ll.length) → row4B n ll[q] = true
theorem boxB_spec {x y n : Int} {ll : List (List Int)} (h : boxB x y n ll = true) : BoxOK x y n ll := by
  simp only [boxB, Bool.and_eq_true, decide_eq_true_eq, List.all_eq_true] at h
  obtain ⟨⟨⟨h1, h2⟩, h3⟩, h4⟩ := h
  have a := sizeB_iff.1 h1
  have b := inB_iff.1 h2
  exact ⟨a.1.1, a.1.2, a.2.1, a.2.2, b.1, b.2, h3, fun q hq => h4 _ (List.getElem_mem hq)⟩
theorem boxB_at {x y n : Int} {ll : List (List Int)} (h : boxB x y n ll = true) {q : Int} (h0 : 0 ≤ q) (h8 : q < x * y) : (atZ ll q).length = 4 ∧ ∀ k : Int, 0 ≤ k → k < 4 → 0 ≤ atZ (atZ ll q) k ∧ atZ (atZ ll q) k ≤ n := by
  have hb := boxB_spec h
  obtain ⟨i, rfl⟩ := Int.eq_ofNat_of_zero_le h0
  have hi : i < ll.length := by have := hb.len; omega
  rw [atZ_nat hi]
  obtain ⟨h5, h6⟩ := row4B_len (hb.row i hi)
  refine ⟨h5, fun k hk0 hk8 => ?_⟩
  obtain ⟨j, rfl⟩ := Int.eq_ofNat_of_zero_le hk0
  rw [atZ_nat (by omega)]
  exact h6 j (by omega)
/-- the place of a pair of questions -/
theorem idx_lt {i k X Y : Int} (h0 : 0 ≤ i) (h1 : i < X) (h2 : 0 ≤ k) (h3 : k < Y) : 0 ≤ i * Y + k ∧ i * Y + k < X * Y ∧ 0 ≤ i * Y ∧ i * Y < X * Y := by
  have hY : 0 ≤ Y := by omega
  have a : 0 ≤ i * Y := Int.mul_nonneg h0 hY
  have b : (i + 1) * Y ≤ X * Y := Int.mul_le_mul_of_nonneg_right (by omega) hY
  rw [Int.add_mul, Int.one_mul] at b
  omega
theorem idx_ltN {i k X Y : Nat} (h1 : i < X) (h3 : k < Y) : Y * i + k < Y * X := by
  rw [Nat.mul_comm Y i, Nat.mul_comm Y X]
  have b : (i + 1) * Y ≤ X * Y := Nat.mul_le_mul_right _ (by omega)
  rw [Nat.add_mul, Nat.one_mul] at b
  omega
/-- the rows of a box told by a function of questions and place -/
def boxF (f : Nat → Nat → Nat → Int) (y n : Nat) : List (List Int) := (List.range n).map fun j => rowF (f (j / y) (j % y)) 4
@[simp] theorem boxF_len (f : Nat → Nat → Nat → Int) (y n : Nat) : (boxF f y n).length = n := by simp [boxF]
theorem boxF_snoc (f : Nat → Nat → Nat → Int) (y : Nat) (i k : Nat) (h : k < y) : boxF f y (y * i + (k + 1)) = boxF f y (y * i + k) ++ [rowF (f i k) 4] := by
  have e1 : (y * i + k) / y = i := by rw [Nat.mul_comm, Nat.add_comm, Nat.add_mul_div_right _ _ (by omega), Nat.div_eq_of_lt h, Nat.zero_add]
  have e2 : (y * i + k) % y = k := by rw [Nat.mul_comm, Nat.add_comm, Nat.add_mul_mod_self_right, Nat.mod_eq_of_lt h]
  simp [boxF, ← Nat.add_assoc, List.range_succ, e1, e2]
theorem boxF_congr {f g : Nat → Nat → Nat → Int} {x y : Nat} (h : ∀ i k p, i < x → k < y → p < 4 → f i k p = g i k p) : boxF f y (y * x) = boxF g y (y * x) := by
  unfold boxF
  refine List.map_congr_left fun j hj => ?_
  have hj := List.mem_range.1 hj
  by_cases hy : y = 0
  · subst hy; simp at hj
  · exact rowF_congr fun p hp => h _ _ _ (Nat.div_lt_of_lt_mul hj) (Nat.mod_lt _ (by omega)) hp
theorem boxF_at {f : Nat → Nat → Nat → Int} {y n : Nat} {j : Nat} (h : j < n) : atZ (boxF f y n) (j : Int) = rowF (f (j / y) (j % y)) 4 := by
  rw [atZ_nat (by simpa using h)]; simp [boxF]
/-- a box's number -/
def atB (ll : List (List Int)) (Y i k p : Int) : Int := atZ (atZ ll (i * Y + k)) p

end Go.Proofs.YtefbiejoikpkmaaGreat

namespace Go.Proofs.YtefbiejoikpkmaaGreat
open Go.RowKit
open Go
/-! numbers added up at places -/
def accN (s : Nat → Nat) (v : Nat → Int) : Nat → Nat → Int
  | 0, _ => 0
  | m + 1, p => accN s v m p + if s m = p then v m else 0
theorem accN_set (s : Nat → Nat) (v : Nat → Int) (m : Nat) (h : s m < 4) : (rowF (accN s v m) 4).set (s m) (accN s v m (s m) + v m) = rowF (accN s v (m + 1)) 4 := by
  rcases (by omega : s m = 0 ∨ s m = 1 ∨ s m = 2 ∨ s m = 3) with e | e | e | e <;> simp [rowF, accN, e, List.range, List.range.loop, List.set]
theorem accN_sum (s : Nat → Nat) (v : Nat → Int) : ∀ m, (∀ t, t < m → s t < 4) → accN s v m 0 + accN s v m 1 + accN s v m 2 + accN s v m 3 = ((List.range m).map v).sum
  | 0, _ => by simp [accN]
  | m + 1, h => by
    have ih := accN_sum s v m fun t ht => h t (by omega)
    have hs := h m (by omega)
    simp only [accN, List.range_succ, List.map_append, List.sum_append, List.map_cons, List.map_nil, List.sum_cons, List.sum_nil]
    rcases (by omega : s m = 0 ∨ s m = 1 ∨ s m = 2 ∨ s m = 3) with e | e | e | e <;> simp [e] <;> omega
theorem accN_nn (s : Nat → Nat) (v : Nat → Int) : ∀ m p, (∀ t, t < m → 0 ≤ v t) → 0 ≤ accN s v m p
  | 0, _, _ => by simp [accN]
  | m + 1, p, h => by
    have := accN_nn s v m p fun t ht => h t (by omega)
    have := h m (by omega)
    simp only [accN]; split <;> omega
def pairB (x y n : Int) (ll : List (List Int)) : Bool := boxB x y n ll && (decide (x = 2) && decide (y = 2))
def agrZ (row : List Int) : Int := atZ row 0 - atZ row 1 - atZ row 2 + atZ row 3

end Go.Proofs.YtefbiejoikpkmaaGreat

namespace Go.Proofs.YtefbiejoikpkmaaGreat
open Go.RowKit
open Go
/-! lists told by two lists of questions -/
def pairsF {α : Type} (h : Int → Int → α) (l m : List Int) : List α := l.flatMap fun x => m.map fun y => h x y
def pairsP {α : Type} (h : Int → Int → α) (l m : List Int) (i k : Nat) : List α := (pairsF h (l.take i) m) ++ ((m.take k).map fun y => h (atZ l i) y)
/-- the numbers less than n -/
def cntL (n : Nat) : List Int := (List.range n).map fun i : Nat => (i : Int)
@[simp] theorem cntL_len (n : Nat) : (cntL n).length = n := by simp [cntL]
/-! games -/
def totB (l : List Int) : Int := sum64 l
def gameB (x y : Int) (ws : List Int) (wi : List (List Int)) : Bool := sizeB x y && (decide ((ws.length : Int) = x * y) && (allB ws 0 99 && (decide (sum64 ws ≠ 0) && (decide ((wi.length : Int) = x * y) && wi.all (fun l => bitsB l 4)))))
structure GameOK (x y : Int) (ws : List Int) (wi : List (List Int)) : Prop where
  x1 : 1 ≤ x
  x3 : x ≤ 3
  y1 : 1 ≤ y
  y3 : y ≤ 3
  wl : (ws.length : Int) = x * y
  il : (wi.length : Int) = x * y
  wb : allB ws 0 99 = true
  s0 : sum64 ws ≠ 0
  row : ∀ q, (hq : q < wi.length) → bitsB wi[q] 4 = true
theorem sum64_small {l : List Int} {m : Int} (hl : l.length ≤ 1000) (hb : allB l 0 m = true) (hm : 0 ≤ m) (hm2 : m ≤ 1000000) : sum64 l = l.sum ∧ 0 ≤ l.sum ∧ l.sum ≤ l.length * m := by
  have key : ∀ (l : List Int) (s : Int), 0 ≤ s → (∀ x ∈ l, 0 ≤ x ∧ x ≤ m) → s + l.length * m ≤ 1000000000000 → l.foldl (fun s n => IntKind.i64.wrap (s + n)) s = s + l.sum ∧ 0 ≤ l.sum ∧ l.sum ≤ l.length * m := by
    intro l
    induction l with
    | nil => intro s _ _ _; simp
    | cons x l ih =>
      intro s h0 hx hs
      have h1 := hx x (List.mem_cons_self ..)
      simp only [List.length_cons, Int.natCast_add, Int.add_mul] at hs ⊢
      have h2 : 0 ≤ (l.length : Int) * m := Int.mul_nonneg (by omega) hm
      obtain ⟨e1, e2, e3⟩ := ih (s + x) (by omega) (fun y hy => hx y (List.mem_cons_of_mem _ hy)) (by simp at hs; omega)
      rw [List.foldl_cons, IntWalk.i64_in _ (by simp at hs; omega), e1, List.sum_cons]
      simp at hs ⊢; omega
  unfold allB at hb
  rw [List.all_eq_true] at hb
  have hlm : (l.length : Int) * m ≤ 1000 * 1000000 := Int.mul_le_mul (by omega) hm2 hm (by omega)
  have := key l 0 (by omega) (fun x hx => inB_iff.1 (hb x hx)) (by omega)
  unfold sum64; omega

theorem mem_atZ {α : Type} [Inhabited α] {l : List α} {i : Nat} (h : i < l.length) : atZ l (i : Int) ∈ l := by rw [atZ_nat h]; exact List.getElem_mem _
def whenA {α : Type} (b : Bool) (l : List α) : List α := if b = true then l else []
def xor4 (k : Nat) (m : Int) : Int := ((k ^^^ m.toNat : Nat) : Int)
theorem xor4_eq {k : Nat} {m : Int} (hk : k < 4) (h0 : 0 ≤ m) (h4 : m < 4) : bits .xor .i64 (k : Int) m = xor4 k m ∧ 0 ≤ xor4 k m ∧ xor4 k m < 4 := by
  rcases (by omega : k = 0 ∨ k = 1 ∨ k = 2 ∨ k = 3) with rfl | rfl | rfl | rfl <;> rcases (by omega : m = 0 ∨ m = 1 ∨ m = 2 ∨ m = 3) with rfl | rfl | rfl | rfl <;> exact ⟨rfl, by decide, by decide⟩
def flipOf (fl : List Int) (X x y : Int) : Int := 2 * atZ fl x + atZ fl (X + y)
/-- the weights and the wins that are asked for -/
def askW (Y : Int) (ws : List Int) (x y : Int) : Int := atZ ws (x * Y + y)
def askR (X Y : Int) (wi : List (List Int)) (fl : List Int) (x y : Int) : List Int := rowF (fun k => atZ (atZ wi (x * Y + y)) (xor4 k (flipOf fl X x y))) 4
@[simp] theorem askR_len (X Y : Int) (wi : List (List Int)) (fl : List Int) (x y : Int) : (askR X Y wi fl x y).length = 4 := by simp [askR]
def flipB (X Y : Int) (ws : List Int) (wi : List (List Int)) (fl : List Int) : Bool := gameB X Y ws wi && bitsB fl (X + Y)
def flipR (X Y : Int) (wi : List (List Int)) (fl : List Int) : List (List Int) := pairsF (askR X Y wi fl) (cntL X.toNat) (cntL Y.toNat)
end Go.Proofs.YtefbiejoikpkmaaGreat

namespace Go.Proofs.YtefbiejoikpkmaaGreat
open Go.RowKit
set_option linter.unusedSectionVars false
variable [Glb]
open Go
/-! rules, wirings -/
def tabB (t : List (List Int)) (n m : Int) : Bool := decide ((t.length : Int) = n) && t.all (fun l => bitsB l m)
def ruleB (f : List Int) (a s : List (List Int)) : Bool := bitsB f 2 && (tabB a 2 2 && tabB s 2 4)
theorem tabB_at {t : List (List Int)} {n m : Int} (h : tabB t n m = true) {i : Int} (h0 : 0 ≤ i) (h1 : i < n) : bitsB (atZ t i) m = true := by
  simp only [tabB, Bool.and_eq_true, decide_eq_true_eq, List.all_eq_true] at h
  obtain ⟨k, rfl⟩ := Int.eq_ofNat_of_zero_le h0
  rw [atZ_nat (by omega)]
  exact h.2 _ (List.getElem_mem _)
theorem tabB_len {t : List (List Int)} {n m : Int} (h : tabB t n m = true) : (t.length : Int) = n := by
  simp [tabB] at h; exact h.1
structure RuleOK (f : List Int) (a s : List (List Int)) : Prop where
  fl : f.length = 2
  al : a.length = 2
  sl : s.length = 2
  fb : ∀ i : Int, 0 ≤ i → i < 2 → 0 ≤ atZ f i ∧ atZ f i ≤ 1
  ab : ∀ i : Int, 0 ≤ i → i < 2 → bitsB (atZ a i) 2 = true
  sb : ∀ i : Int, 0 ≤ i → i < 2 → bitsB (atZ s i) 4 = true
theorem ruleB_spec {f : List Int} {a s : List (List Int)} (h : ruleB f a s = true) : RuleOK f a s := by
  simp only [ruleB, Bool.and_eq_true] at h
  obtain ⟨h1, h2, h3⟩ := h
  have l1 := bitsB_len h1
  have l2 := tabB_len h2
  have l3 := tabB_len h3
  exact ⟨by omega, by omega, by omega, fun i h0 h2 => bitsB_at h1 h0 h2, fun i h0 hi => tabB_at h2 h0 hi, fun i h0 hi => tabB_at h3 h0 hi⟩
theorem RuleOK.ask {f : List Int} {a s : List (List Int)} (h : RuleOK f a s) {x i : Int} (x0 : 0 ≤ x) (x1 : x < 2) (i0 : 0 ≤ i) (i1 : i < 2) : (atZ a x).length = 2 ∧ 0 ≤ atZ (atZ a x) i ∧ atZ (atZ a x) i ≤ 1 := by
  have hb := h.ab x x0 x1
  have hl := bitsB_len hb
  exact ⟨by omega, bitsB_at hb i0 i1⟩
theorem RuleOK.say {f : List Int} {a s : List (List Int)} (h : RuleOK f a s) {x i : Int} (x0 : 0 ≤ x) (x1 : x < 2) (i0 : 0 ≤ i) (i1 : i < 4) : (atZ s x).length = 4 ∧ 0 ≤ atZ (atZ s x) i ∧ atZ (atZ s x) i ≤ 1 := by
  have hb := h.sb x x0 x1
  have hl := bitsB_len hb
  exact ⟨by omega, bitsB_at hb i0 i1⟩
/-- a sum, term by term -/
def accT (t : Nat → Int) : Nat → Int
  | 0 => 0
  | m + 1 => accT t m + t m
theorem accN_T (s : Nat → Nat) (v : Nat → Int) (p : Nat) : ∀ m, accN s v m p = accT (fun c => if s c = p then v c else 0) m
  | 0 => rfl
  | m + 1 => by simp only [accN, accT, accN_T s v p m]
theorem accT_le {t u : Nat → Int} : ∀ {m : Nat}, (∀ c, c < m → t c ≤ u c) → accT t m ≤ accT u m
  | 0, _ => by simp [accT]
  | m + 1, h => by
    have := accT_le fun c hc => h c (Nat.lt_succ_of_lt hc)
    have := h m (by omega)
    simp only [accT]; omega
theorem accT_add {t u : Nat → Int} : ∀ {m : Nat}, accT (fun c => t c + u c) m = accT t m + accT u m
  | 0 => by simp [accT]
  | m + 1 => by
    have := accT_add (t := t) (u := u) (m := m)
    simp only [accT] at this ⊢; omega
theorem accT_congr {t u : Nat → Int} : ∀ {m : Nat}, (∀ c, c < m → t c = u c) → accT t m = accT u m
  | 0, _ => rfl
  | m + 1, h => by
    have := accT_congr fun c hc => h c (Nat.lt_succ_of_lt hc)
    have := h m (by omega)
    simp only [accT]; omega
theorem accT_const (M : Int) : ∀ m : Nat, accT (fun _ => M) m = m * M
  | 0 => by simp [accT]
  | m + 1 => by
    have := accT_const M m
    simp only [accT, this, Int.natCast_add, Int.add_mul]; omega
theorem accN_le {s : Nat → Nat} {v : Nat → Int} {M : Int} {m : Nat} (p : Nat) (h0 : 0 ≤ M) (h : ∀ c, c < m → v c ≤ M) : accN s v m p ≤ m * M := by
  rw [accN_T, ← accT_const]
  refine accT_le fun c hc => ?_
  have := h c hc
  split <;> omega
/-- two orders of sixteen terms -/
theorem acc16 (T : Nat → Nat → Nat → Nat → Int) : accT (fun c => T (c % 2) (c / 2 % 2) (c / 4 % 2) (c / 8 % 2)) 16 = accT (fun m => T (m / 8) (m / 4 % 2) (m / 2 % 2) (m % 2)) 16 := by
  simp only [accT, Nat.reduceDiv, Nat.reduceMod, Nat.zero_div, Nat.zero_mod]
  omega
section
variable (la lb : List (List Int)) (f1 : List Int) (a1 s1 : List (List Int)) (f2 : List Int) (a2 s2 : List (List Int))
def wV (x y i j k l : Nat) : Int := atB la 2 (atZ f1 x) (atZ f2 y) ((2 * i + j : Nat) : Int) * atB lb 2 (atZ (atZ a1 x) i) (atZ (atZ a2 y) j) ((2 * k + l : Nat) : Int)
def wS (x y i j k l : Nat) : Nat := (2 * atZ (atZ s1 x) ((2 * i + k : Nat) : Int) + atZ (atZ s2 y) ((2 * j + l : Nat) : Int)).toNat
def wI (x y m p : Nat) : Int := accN (fun c => wS s1 s2 x y (c % 2) (c / 2 % 2) (c / 4 % 2) (c / 8 % 2)) (fun c => wV la lb f1 a1 f2 a2 x y (c % 2) (c / 2 % 2) (c / 4 % 2) (c / 8 % 2)) m p
def wP (x y m p : Nat) : Int := accN (fun m => wS s1 s2 x y (m / 8) (m / 4 % 2) (m / 2 % 2) (m % 2)) (fun m => wV la lb f1 a1 f2 a2 x y (m / 8) (m / 4 % 2) (m / 2 % 2) (m % 2)) m p
theorem wI_P (x y p : Nat) : wI la lb f1 a1 s1 f2 a2 s2 x y 16 p = wP la lb f1 a1 s1 f2 a2 s2 x y 16 p := by
  unfold wI wP
  rw [accN_T, accN_T]
  exact acc16 fun i j k l => if wS s1 s2 x y i j k l = p then wV la lb f1 a1 f2 a2 x y i j k l else 0
/-- the rows of a wiring -/
def wiredL : List (List Int) := boxF (fun x y p => wP la lb f1 a1 s1 f2 a2 s2 x y 16 p) 2 4
end
theorem box4 {X Y n : Int} {ll : List (List Int)} (h : boxB X Y n ll = true) {q : Int} (h0 : 0 ≤ q) (h1 : q < X * Y) : atZ (atZ ll q) 0 + atZ (atZ ll q) 1 + atZ (atZ ll q) 2 + atZ (atZ ll q) 3 = n := by
  have hb := boxB_spec h
  obtain ⟨i, rfl⟩ := Int.eq_ofNat_of_zero_le h0
  have hi : i < ll.length := by have := hb.len; omega
  rw [atZ_nat hi]
  have hr := hb.row i hi
  have hs := row4B_sum hr
  have hl := (row4B_len hr).1
  have hn := hb.n2
  have ha : allB ll[i] 0 n = true := by simp only [row4B, Bool.and_eq_true] at hr; exact hr.1.2
  rw [(sum64_small (l := ll[i]) (m := n) (by omega) ha (by have := hb.n1; omega) (by omega)).1] at hs
  generalize ll[i] = r at hs hl
  match r, hl with
  | [a, b, c, d], _ => simp [atZ] at hs ⊢; omega
theorem rowF4_sum (f : Nat → Int) (h : ∀ p, p < 4 → 0 ≤ f p ∧ f p ≤ 1000000) : sum64 (rowF f 4) = f 0 + f 1 + f 2 + f 3 := by
  have h0 := h 0 (by omega); have h1 := h 1 (by omega); have h2 := h 2 (by omega); have h3 := h 3 (by omega)
  have ha : allB (rowF f 4) 0 1000000 = true := by
    unfold allB; rw [List.all_eq_true]; intro x hx
    unfold rowF at hx; obtain ⟨p, hp, rfl⟩ := List.mem_map.1 hx
    exact inB_iff.2 (h p (List.mem_range.1 hp))
  rw [(sum64_small (l := rowF f 4) (m := 1000000) (by simp) ha (by omega) (by omega)).1]
  simp [rowF, List.range, List.range.loop]; omega
/-- rows told by a function make a box -/
theorem rows_box {x y : Nat} {n : Int} {f : Nat → Nat → Nat → Int} (hx : 1 ≤ x ∧ x ≤ 3) (hy : 1 ≤ y ∧ y ≤ 3) (h0 : 1 ≤ n) (h1 : n ≤ 1000000) (hf : ∀ i k, i < x → k < y → (∀ p, p < 4 → 0 ≤ f i k p) ∧ f i k 0 + f i k 1 + f i k 2 + f i k 3 = n) :
    boxB x y n (boxF f y (y * x)) = decide (n ≤ 1000) := by
  have hs : sizeB x y = true := sizeB_iff.2 ⟨⟨by omega, by omega⟩, by omega, by omega⟩
  have hl : ((boxF f y (y * x)).length : Int) = (x : Int) * y := by rw [boxF_len, Int.natCast_mul, Int.mul_comm]
  have hr : (boxF f y (y * x)).all (row4B n) = true := by
    rw [List.all_eq_true]; intro r hr
    unfold boxF at hr
    obtain ⟨j, hj, rfl⟩ := List.mem_map.1 hr
    have hj := List.mem_range.1 hj
    have hi : j / y < x := Nat.div_lt_of_lt_mul hj
    have hk : j % y < y := Nat.mod_lt _ (by omega)
    obtain ⟨a, b⟩ := hf _ _ hi hk
    generalize f (j / y) (j % y) = g at a b
    have a0 := a 0 (by omega); have a1 := a 1 (by omega); have a2 := a 2 (by omega); have a3 := a 3 (by omega)
    have bd : ∀ p, p < 4 → 0 ≤ g p ∧ g p ≤ n := fun p hp => by rcases (by omega : p = 0 ∨ p = 1 ∨ p = 2 ∨ p = 3) with rfl | rfl | rfl | rfl <;> omega
    have hsum := rowF4_sum g fun p hp => by have := bd p hp; omega
    simp only [row4B, rowF_len, decide_true, Bool.true_and, Bool.and_eq_true, decide_eq_true_eq, hsum, allB, List.all_eq_true]
    refine ⟨fun m hm => ?_, b⟩
    unfold rowF at hm; obtain ⟨p, hp, rfl⟩ := List.mem_map.1 hm
    exact inB_iff.2 (bd p (List.mem_range.1 hp))
  simp only [boxB, hs, hl, hr, decide_true, Bool.and_true, Bool.true_and, inB]
  simp; omega
section
variable {la lb : List (List Int)} {f1 : List Int} {a1 s1 : List (List Int)} {f2 : List Int} {a2 s2 : List (List Int)} {na nb : Int}
theorem wS_lt (h1 : ruleB f1 a1 s1 = true) (h2 : ruleB f2 a2 s2 = true) {x y i j k l : Nat} (hx : x < 2) (hy : y < 2) (hi : i < 2) (hj : j < 2) (hk : k < 2) (hl : l < 2) : wS s1 s2 x y i j k l < 4 := by
  have b1 := (ruleB_spec h1).say (x := x) (i := ((2 * i + k : Nat) : Int)) (by omega) (by omega) (by omega) (by omega)
  have b2 := (ruleB_spec h2).say (x := y) (i := ((2 * j + l : Nat) : Int)) (by omega) (by omega) (by omega) (by omega)
  unfold wS; omega
theorem atB_bd (ha : boxB 2 2 na la = true) {x y : Int} (x0 : 0 ≤ x) (x1 : x ≤ 1) (y0 : 0 ≤ y) (y1 : y ≤ 1) : (∀ p : Nat, p < 4 → 0 ≤ atB la 2 x y p ∧ atB la 2 x y p ≤ na) ∧ atB la 2 x y (0 : Nat) + atB la 2 x y (1 : Nat) + atB la 2 x y (2 : Nat) + atB la 2 x y (3 : Nat) = na :=
  ⟨fun p hp => (boxB_at ha (q := x * 2 + y) (by omega) (by omega)).2 p (by omega) (by omega), box4 ha (q := x * 2 + y) (by omega) (by omega)⟩
theorem wV_bd (ha : boxB 2 2 na la = true) (hb : boxB 2 2 nb lb = true) (h1 : ruleB f1 a1 s1 = true) (h2 : ruleB f2 a2 s2 = true) {x y : Nat} (hx : x < 2) (hy : y < 2) :
    (∀ i j k l, i < 2 → j < 2 → k < 2 → l < 2 → 0 ≤ wV la lb f1 a1 f2 a2 x y i j k l ∧ wV la lb f1 a1 f2 a2 x y i j k l ≤ 1000000) ∧ accT (fun m => wV la lb f1 a1 f2 a2 x y (m / 8) (m / 4 % 2) (m / 2 % 2) (m % 2)) 16 = na * nb := by
  have r1 := ruleB_spec h1
  have r2 := ruleB_spec h2
  have A := atB_bd ha (r1.fb x (by omega) (by omega)).1 (r1.fb x (by omega) (by omega)).2 (r2.fb y (by omega) (by omega)).1 (r2.fb y (by omega) (by omega)).2
  have B := fun (i j : Nat) (hi : i < 2) (hj : j < 2) => atB_bd hb (r1.ask (x := x) (i := i) (by omega) (by omega) (by omega) (by omega)).2.1 (r1.ask (x := x) (i := i) (by omega) (by omega) (by omega) (by omega)).2.2
    (r2.ask (x := y) (i := j) (by omega) (by omega) (by omega) (by omega)).2.1 (r2.ask (x := y) (i := j) (by omega) (by omega) (by omega) (by omega)).2.2
  have na1 := (boxB_spec ha).n2
  have nb1 := (boxB_spec hb).n2
  unfold wV
  generalize atB la 2 (atZ f1 x) (atZ f2 y) = a at A ⊢
  obtain ⟨b, hb'⟩ : ∃ b : Nat → Nat → Int → Int, ∀ i j, b i j = atB lb 2 (atZ (atZ a1 x) i) (atZ (atZ a2 y) j) := ⟨_, fun _ _ => rfl⟩
  simp only [← hb'] at B ⊢
  refine ⟨fun i j k l hi hj hk hl => ?_, ?_⟩
  · have p := A.1 (2 * i + j) (by omega)
    have q := (B i j hi hj).1 (2 * k + l) (by omega)
    refine ⟨Int.mul_nonneg p.1 q.1, Int.le_trans (Int.mul_le_mul p.2 q.2 q.1 (by omega)) (Int.le_trans (Int.mul_le_mul na1 nb1 (by omega) (by omega)) (by decide))⟩
  · have b00 := (B 0 0 (by omega) (by omega)).2
    have b01 := (B 0 1 (by omega) (by omega)).2
    have b10 := (B 1 0 (by omega) (by omega)).2
    have b11 := (B 1 1 (by omega) (by omega)).2
    have a0 := A.2
    simp only [accT, Nat.reduceDiv, Nat.reduceMod, Nat.reduceMul, Nat.reduceAdd, Nat.zero_div, Nat.zero_mod, Nat.mul_zero, Nat.mul_one, Nat.zero_add]
    have e00 := congrArg (a (0 : Nat) * ·) b00
    have e01 := congrArg (a (1 : Nat) * ·) b01
    have e10 := congrArg (a (2 : Nat) * ·) b10
    have e11 := congrArg (a (3 : Nat) * ·) b11
    have e := congrArg (· * nb) a0
    simp only [Int.mul_add, Int.add_mul] at e00 e01 e10 e11 e
    omega
theorem wire_box (ha : boxB 2 2 na la = true) (hb : boxB 2 2 nb lb = true) (h1 : ruleB f1 a1 s1 = true) (h2 : ruleB f2 a2 s2 = true) : boxB 2 2 (na * nb) (wiredL la lb f1 a1 s1 f2 a2 s2) = decide (na * nb ≤ 1000) := by
  have a1' := boxB_spec ha
  have b1' := boxB_spec hb
  have n1 : 1 ≤ na * nb := by have := Int.mul_le_mul a1'.n1 b1'.n1 (by omega) (by have := a1'.n1; omega); omega
  have n2 : na * nb ≤ 1000000 := Int.le_trans (Int.mul_le_mul a1'.n2 b1'.n2 (by have := b1'.n1; omega) (by omega)) (by decide)
  refine rows_box (x := 2) (y := 2) (by omega) (by omega) n1 n2 fun x y hx hy => ?_
  obtain ⟨vb, vs⟩ := wV_bd ha hb h1 h2 hx hy
  refine ⟨fun p hp => accN_nn _ _ _ _ fun m hm => (vb _ _ _ _ (by omega) (by omega) (by omega) (by omega)).1, ?_⟩
  rw [← vs]
  have := accN_sum (fun m => wS s1 s2 x y (m / 8) (m / 4 % 2) (m / 2 % 2) (m % 2)) (fun m => wV la lb f1 a1 f2 a2 x y (m / 8) (m / 4 % 2) (m / 2 % 2) (m % 2)) 16 fun m hm => wS_lt h1 h2 hx hy (by omega) (by omega) (by omega) (by omega)
  unfold wP
  rw [this]
  simp [List.range, List.range.loop, accT]
  omega
end
section
variable {la lb : List (List Int)} {f1 : List Int} {a1 s1 : List (List Int)} {f2 : List Int} {a2 s2 : List (List Int)} {na nb : Int}
theorem acc_bd {s : Nat → Nat} {v : Nat → Int} {m : Nat} (hm : m ≤ 16) (h : ∀ t, t < m → 0 ≤ v t ∧ v t ≤ 1000000) (p : Nat) : 0 ≤ accN s v m p ∧ accN s v m p ≤ 16000000 := by
  refine ⟨accN_nn _ _ _ _ fun t ht => (h t ht).1, ?_⟩
  have := accN_le (s := s) (M := 1000000) (m := m) p (by omega) fun t ht => (h t ht).2
  omega
theorem wP_step (ha : boxB 2 2 na la = true) (hb : boxB 2 2 nb lb = true) (h1 : ruleB f1 a1 s1 = true) (h2 : ruleB f2 a2 s2 = true) {x y k n : Nat} (hx : x < 2) (hy : y < 2) (hk : k < 4) (hn : n < 4) :
    ∃ (s : Nat) (v : Int), 2 * atZ (atZ s1 x) (2 * ((k : Int) / 2) + (n : Int) / 2) + atZ (atZ s2 y) (2 * ((k : Int) % 2) + (n : Int) % 2) = (s : Int) ∧ s < 4 ∧
      atZ (atZ la (atZ f1 x * 2 + atZ f2 y)) k * atZ (atZ lb (atZ (atZ a1 x) ((k : Int) / 2) * 2 + atZ (atZ a2 y) ((k : Int) % 2))) n = v ∧ (0 ≤ v ∧ v ≤ 1000000) ∧
      (rowF (wP la lb f1 a1 s1 f2 a2 s2 x y (4 * k + n)) 4).set s (wP la lb f1 a1 s1 f2 a2 s2 x y (4 * k + n) s + v) = rowF (wP la lb f1 a1 s1 f2 a2 s2 x y (4 * k + n + 1)) 4 ∧
      (0 ≤ wP la lb f1 a1 s1 f2 a2 s2 x y (4 * k + n) s ∧ wP la lb f1 a1 s1 f2 a2 s2 x y (4 * k + n) s ≤ 16000000) := by
  have vb := (wV_bd ha hb h1 h2 hx hy).1
  have e1 : (4 * k + n) / 8 = k / 2 := by omega
  have e2 : (4 * k + n) / 4 % 2 = k % 2 := by omega
  have e3 : (4 * k + n) / 2 % 2 = n / 2 := by omega
  have e4 : (4 * k + n) % 2 = n % 2 := by omega
  have b1 := (ruleB_spec h1).say (x := x) (i := ((2 * (k / 2) + n / 2 : Nat) : Int)) (by omega) (by omega) (by omega) (by omega)
  have b2 := (ruleB_spec h2).say (x := y) (i := ((2 * (k % 2) + n % 2 : Nat) : Int)) (by omega) (by omega) (by omega) (by omega)
  refine ⟨wS s1 s2 x y (k / 2) (k % 2) (n / 2) (n % 2), wV la lb f1 a1 f2 a2 x y (k / 2) (k % 2) (n / 2) (n % 2), ?_, wS_lt h1 h2 hx hy (by omega) (by omega) (by omega) (by omega), ?_, vb _ _ _ _ (by omega) (by omega) (by omega) (by omega), ?_, ?_⟩
  · unfold wS
    have c1 : (2 * ((k : Int) / 2) + (n : Int) / 2) = ((2 * (k / 2) + n / 2 : Nat) : Int) := by omega
    have c2 : (2 * ((k : Int) % 2) + (n : Int) % 2) = ((2 * (k % 2) + n % 2 : Nat) : Int) := by omega
    rw [c1, c2]; omega
  · unfold wV atB
    have c1 : ((2 * (k / 2) + k % 2 : Nat) : Int) = k := by omega
    have c2 : ((2 * (n / 2) + n % 2 : Nat) : Int) = n := by omega
    have c3 : ((k / 2 : Nat) : Int) = (k : Int) / 2 := by omega
    have c4 : ((k % 2 : Nat) : Int) = (k : Int) % 2 := by omega
    rw [c1, c2, c3, c4]
  · have := accN_set (fun m => wS s1 s2 x y (m / 8) (m / 4 % 2) (m / 2 % 2) (m % 2)) (fun m => wV la lb f1 a1 f2 a2 x y (m / 8) (m / 4 % 2) (m / 2 % 2) (m % 2)) (4 * k + n) (wS_lt h1 h2 hx hy (by omega) (by omega) (by omega) (by omega))
    simp only [e1, e2, e3, e4] at this
    exact this
  · exact acc_bd (by omega) (fun t ht => vb _ _ _ _ (by omega) (by omega) (by omega) (by omega)) _
theorem wI_step (ha : boxB 2 2 na la = true) (hb : boxB 2 2 nb lb = true) (h1 : ruleB f1 a1 s1 = true) (h2 : ruleB f2 a2 s2 = true) {x y c : Nat} (hx : x < 2) (hy : y < 2) (hc : c < 16) :
    ∃ (s : Nat) (v : Int), 2 * atZ (atZ s1 x) (2 * ((c : Int) % 2) + (c : Int) / 4 % 2) + atZ (atZ s2 y) (2 * ((c : Int) / 2 % 2) + (c : Int) / 8 % 2) = (s : Int) ∧ s < 4 ∧
      atB la 2 (atZ f1 x) (atZ f2 y) (2 * ((c : Int) % 2) + (c : Int) / 2 % 2) * atB lb 2 (atZ (atZ a1 x) ((c : Int) % 2)) (atZ (atZ a2 y) ((c : Int) / 2 % 2)) (2 * ((c : Int) / 4 % 2) + (c : Int) / 8 % 2) = v ∧ (0 ≤ v ∧ v ≤ 1000000) ∧
      (rowF (wI la lb f1 a1 s1 f2 a2 s2 x y c) 4).set s (wI la lb f1 a1 s1 f2 a2 s2 x y c s + v) = rowF (wI la lb f1 a1 s1 f2 a2 s2 x y (c + 1)) 4 ∧
      (0 ≤ wI la lb f1 a1 s1 f2 a2 s2 x y c s ∧ wI la lb f1 a1 s1 f2 a2 s2 x y c s ≤ 16000000) := by
  have vb := (wV_bd ha hb h1 h2 hx hy).1
  have b1 := (ruleB_spec h1).say (x := x) (i := ((2 * (c % 2) + c / 4 % 2 : Nat) : Int)) (by omega) (by omega) (by omega) (by omega)
  have b2 := (ruleB_spec h2).say (x := y) (i := ((2 * (c / 2 % 2) + c / 8 % 2 : Nat) : Int)) (by omega) (by omega) (by omega) (by omega)
  refine ⟨wS s1 s2 x y (c % 2) (c / 2 % 2) (c / 4 % 2) (c / 8 % 2), wV la lb f1 a1 f2 a2 x y (c % 2) (c / 2 % 2) (c / 4 % 2) (c / 8 % 2), ?_, wS_lt h1 h2 hx hy (by omega) (by omega) (by omega) (by omega), ?_, vb _ _ _ _ (by omega) (by omega) (by omega) (by omega), ?_, ?_⟩
  · unfold wS
    have c1 : (2 * ((c : Int) % 2) + (c : Int) / 4 % 2) = ((2 * (c % 2) + c / 4 % 2 : Nat) : Int) := by omega
    have c2 : (2 * ((c : Int) / 2 % 2) + (c : Int) / 8 % 2) = ((2 * (c / 2 % 2) + c / 8 % 2 : Nat) : Int) := by omega
    rw [c1, c2]; omega
  · unfold wV
    have c1 : ((2 * (c % 2) + c / 2 % 2 : Nat) : Int) = 2 * ((c : Int) % 2) + (c : Int) / 2 % 2 := by omega
    have c2 : ((2 * (c / 4 % 2) + c / 8 % 2 : Nat) : Int) = 2 * ((c : Int) / 4 % 2) + (c : Int) / 8 % 2 := by omega
    have c3 : ((c % 2 : Nat) : Int) = (c : Int) % 2 := by omega
    have c4 : ((c / 2 % 2 : Nat) : Int) = (c : Int) / 2 % 2 := by omega
    rw [c1, c2, c3, c4]
  · exact accN_set (fun c => wS s1 s2 x y (c % 2) (c / 2 % 2) (c / 4 % 2) (c / 8 % 2)) (fun c => wV la lb f1 a1 f2 a2 x y (c % 2) (c / 2 % 2) (c / 4 % 2) (c / 8 % 2)) c (wS_lt h1 h2 hx hy (by omega) (by omega) (by omega) (by omega))
  · exact acc_bd (by omega) (fun t ht => vb _ _ _ _ (by omega) (by omega) (by omega) (by omega)) _
end
def wiresB (xa ya na : Int) (la : List (List Int)) (xb yb nb : Int) (lb : List (List Int)) : Bool := pairB xa ya na la && (pairB xb yb nb lb && decide (na * nb ≤ 1000))
def wireOK (xa ya na : Int) (la : List (List Int)) (xb yb nb : Int) (lb : List (List Int)) (f1 : List Int) (a1 s1 : List (List Int)) (f2 : List Int) (a2 s2 : List (List Int)) : Bool :=
  wiresB xa ya na la xb yb nb lb && (ruleB f1 a1 s1 && ruleB f2 a2 s2)
theorem pairB_spec {x y n : Int} {ll : List (List Int)} (h : pairB x y n ll = true) : x = 2 ∧ y = 2 ∧ boxB 2 2 n ll = true ∧ 1 ≤ n ∧ n ≤ 1000 := by
  simp only [pairB, Bool.and_eq_true, decide_eq_true_eq] at h
  obtain ⟨h1, rfl, rfl⟩ := h
  exact ⟨rfl, rfl, h1, (boxB_spec h1).n1, (boxB_spec h1).n2⟩
theorem mul_whole {na nb : Int} (h1 : 1 ≤ na ∧ na ≤ 1000) (h2 : 1 ≤ nb ∧ nb ≤ 1000) : 0 ≤ na * nb ∧ na * nb ≤ 1000000 :=
  ⟨Int.mul_nonneg (by omega) (by omega), Int.le_trans (Int.mul_le_mul h1.2 h2.2 (by omega) (by omega)) (by decide)⟩
def sumF : List Int := [0, 1]
def sumA : List (List Int) := [[0, 0], [1, 1]]
def sumS : List (List Int) := [[0, 1, 1, 0], [0, 1, 1, 0]]
def ruleA (asks : List Int) : List (List Int) := [[atZ asks 0, atZ asks 1], [atZ asks 2, atZ asks 3]]
theorem part4 {asks : List Int} (h : asks.length = 4) : partZ asks 0 2 = [atZ asks 0, atZ asks 1] ∧ partZ asks 2 asks.length = [atZ asks 2, atZ asks 3] := by
  match asks, h with
  | [a, b, c, d], _ => exact ⟨by simp [partZ, atZ], by simp [partZ, atZ]⟩
/-- the rows of a wiring on the way -/
def wireM (W : Nat → Nat → Nat → Nat → Int) (j0 m : Nat) : List (List Int) := (List.range 4).map fun j => rowF (W (j / 2) (j % 2) (if j < j0 then 16 else if j = j0 then m else 0)) 4
@[simp] theorem wireM_len (W : Nat → Nat → Nat → Nat → Int) (j0 m : Nat) : (wireM W j0 m).length = 4 := by simp [wireM]
theorem wireM_get (W : Nat → Nat → Nat → Nat → Int) {j0 : Nat} (m : Nat) (h : j0 < 4) : (wireM W j0 m)[j0]? = some (rowF (W (j0 / 2) (j0 % 2) m) 4) := by
  rcases (by omega : j0 = 0 ∨ j0 = 1 ∨ j0 = 2 ∨ j0 = 3) with rfl | rfl | rfl | rfl <;> simp [wireM, List.range, List.range.loop]
theorem wireM_set (W : Nat → Nat → Nat → Nat → Int) {j0 : Nat} (m m' : Nat) (h : j0 < 4) : (wireM W j0 m).set j0 (rowF (W (j0 / 2) (j0 % 2) m') 4) = wireM W j0 m' := by
  rcases (by omega : j0 = 0 ∨ j0 = 1 ∨ j0 = 2 ∨ j0 = 3) with rfl | rfl | rfl | rfl <;> simp [wireM, List.range, List.range.loop]
theorem wireM_next (W : Nat → Nat → Nat → Nat → Int) {j0 : Nat} (h : j0 < 4) : wireM W j0 16 = wireM W (j0 + 1) 0 := by
  rcases (by omega : j0 = 0 ∨ j0 = 1 ∨ j0 = 2 ∨ j0 = 3) with rfl | rfl | rfl | rfl <;> simp [wireM, List.range, List.range.loop]
theorem wireM_zero (W : Nat → Nat → Nat → Nat → Int) (h : ∀ x y p, W x y 0 p = 0) : boxF (fun _ _ _ => 0) 2 4 = wireM W 0 0 := by
  simp [wireM, boxF, rowF, List.range, List.range.loop, h]
theorem wireM_end (W : Nat → Nat → Nat → Nat → Int) (m : Nat) : wireM W 4 m = boxF (fun x y p => W x y 16 p) 2 4 := by
  simp [wireM, boxF, List.range, List.range.loop]
end Go.Proofs.YtefbiejoikpkmaaGreat

namespace Go.Proofs.YtefbiejoikpkmaaGreat
open Go.RowKit
open Go
/-! quiet trios -/
def at2 (ll : List (List Int)) (q k : Nat) : Int := atZ (atZ ll (q : Int)) (k : Int)
/-- the numbers of the places that differ by a digit add up alike for the questions that differ by it -/
def quietAt (ll : List (List Int)) (d q a : Nat) : Bool := (q &&& d != 0) || decide (at2 ll q a + at2 ll q (a ^^^ d) = at2 ll (q ||| d) a + at2 ll (q ||| d) (a ^^^ d))
def quiet3 (ll : List (List Int)) : Bool := [4, 2, 1].all fun d => (List.range 8).all fun q => (List.range 8).all fun a => quietAt ll d q a
theorem range_all_f {f : Nat → Bool} {n k : Nat} (h : k < n) (hf : f k = false) : (List.range n).all f = false := by
  rw [← Bool.not_eq_true, List.all_eq_true]; intro H; have := H k (List.mem_range.2 h); rw [hf] at this; cases this
theorem range_all_s {f : Nat → Bool} {k : Nat} : (List.range (k + 1)).all f = ((List.range k).all f && f k) := by simp [List.range_succ]
def spQuietAt (ll : List (List Int)) (d q a : Nat) : Bool := (q &&& d != 0) || (a &&& d != 0) || decide (at2 ll q a + at2 ll q (a ^^^ d) = at2 ll (q ||| d) a + at2 ll (q ||| d) (a ^^^ d))
def spQuiet (ll : List (List Int)) (p : Nat) : Bool := (List.take p [1, 2, 4]).all fun d => (List.range 8).all fun q => (List.range 8).all fun a => spQuietAt ll d q a
def pw2 (p : Nat) : Nat := 2 ^ p
end Go.Proofs.YtefbiejoikpkmaaGreat

namespace Go.Proofs.YtefbiejoikpkmaaGreat
open Go.RowKit
set_option linter.unusedSectionVars false
variable [Glb]
open Go
/-! scenes, halls -/
def riseAt (l : List Int) (lo hi : Int) (i : Nat) : Bool := inB (atZ l i) lo hi && (decide (i = 0) || decide (atZ l ((i : Int) - 1) < atZ l i))
def riseB (l : List Int) (lo hi : Int) : Bool := (List.range l.length).all fun i => riseAt l lo hi i
def ctxB (n : Int) (l : List Int) : Bool := decide (0 < l.length) && riseB l 0 (n - 1)
def sceneB (ev : Int) (cc : List (List Int)) (ss : List Int) : Bool := inB ev 0 12 && (decide (cc.length ≤ 10) && (bitsB ss cc.length && cc.all (ctxB ev)))
structure SceneOK (ev : Int) (cc : List (List Int)) (ss : List Int) : Prop where
  e0 : 0 ≤ ev
  e12 : ev ≤ 12
  c10 : cc.length ≤ 10
  sl : ss.length = cc.length
  sb : bitsB ss cc.length = true
  ctx : ∀ q, (hq : q < cc.length) → ctxB ev cc[q] = true
def hallB (bx by_ bwh : Int) (bll : List (List Int)) (pl : List Int) (ev : Int) (cc : List (List Int)) (ss nu : List Int) (co : Int) : Bool :=
  boxB bx by_ bwh bll && (bitsB pl (bx + by_) && (sceneB ev cc ss && (bitsB nu ev && inB co 0 1000)))
/-- the least of numbers -/
def leastN (m : Int) (f : Nat → Int) : Nat → Int
  | 0 => m
  | k + 1 => min (leastN m f k) (f k)
def chanceF (Y X : Nat) (ll : List (List Int)) (pl : List Int) (j : Nat) : Int := atZ (atZ ll j) (2 * atZ pl ((j / Y : Nat) : Int) + atZ pl ((X : Int) + (j % Y : Nat)))
structure HallOK (bx by_ bwh : Int) (bll : List (List Int)) (pl : List Int) (ev : Int) (cc : List (List Int)) (ss nu : List Int) (co : Int) : Prop where
  box : boxB bx by_ bwh bll = true
  pl : bitsB pl (bx + by_) = true
  sc : sceneB ev cc ss = true
  nu : bitsB nu ev = true
  co : inB co 0 1000 = true
end Go.Proofs.YtefbiejoikpkmaaGreat

namespace Go.Proofs.YtefbiejoikpkmaaGreat
open Go.RowKit
set_option linter.unusedSectionVars false
variable [Glb]
open Go
/-! lists of questions that are used -/
def putZ : List Int → Int → List Int
  | [], n => [n]
  | a :: l, n => if a < n then a :: putZ l n else if a = n then a :: l else n :: a :: l
def usedL (n : Nat) (p : Nat → Bool) : List Int := ((List.range n).filter p).map fun i : Nat => (i : Int)
/-- a row, or a column, that has a weight -/
def rowU (ws : List Int) (Y : Nat) (x : Nat) : Bool := (List.range Y).any fun y => decide (atZ ws ((x : Int) * Y + y) ≠ 0)
def colU (ws : List Int) (X Y : Nat) (y : Nat) : Bool := (List.range X).any fun x => decide (atZ ws ((x : Int) * Y + y) ≠ 0)
def colS (ws : List Int) (Y : Nat) (y : Nat) : Nat → Int
  | 0 => 0
  | x + 1 => colS ws Y y x + atZ ws ((x : Int) * Y + y)
/-- what has been seen of the weights -/
def seenU (ws : List Int) (key : Nat → Nat) (i : Nat) (v : Nat) : Bool := (List.range i).any fun j => decide (atZ ws (j : Int) ≠ 0) && decide (key j = v)
/-! a game with some of its questions -/
def askO (Y : Int) (wi : List (List Int)) (x y : Int) : List Int := atZ wi (x * Y + y)
def zerosL (n : Nat) : List Int := List.replicate n 0
@[simp] theorem zerosL_len (n : Nat) : (zerosL n).length = n := by simp [zerosL]
def trim1 (X Y : Int) (ws : List Int) : List Int := usedL X.toNat (rowU ws Y.toNat)
def trim2 (X Y : Int) (ws : List Int) : List Int := usedL Y.toNat (colU ws X.toNat Y.toNat)
def trimW (X Y : Int) (ws : List Int) : List Int := pairsF (askW Y ws) (trim1 X Y ws) (trim2 X Y ws)
def trimR (X Y : Int) (ws : List Int) (wi : List (List Int)) : List (List Int) := pairsF (askO Y wi) (trim1 X Y ws) (trim2 X Y ws)
end Go.Proofs.YtefbiejoikpkmaaGreat

namespace Go.Proofs.YtefbiejoikpkmaaGreat
open Go.RowKit
set_option linter.unusedSectionVars false
variable [Glb]
open Go
/-! new halls -/
def newB (bx by_ bwh : Int) (bll : List (List Int)) (ev : Int) (cc : List (List Int)) (ss : List Int) : Bool := boxB bx by_ bwh bll && sceneB ev cc ss
structure NewOK (bx by_ bwh : Int) (bll : List (List Int)) (ev : Int) (cc : List (List Int)) (ss : List Int) : Prop where
  x1 : 1 ≤ bx
  x3 : bx ≤ 3
  y1 : 1 ≤ by_
  y3 : by_ ≤ 3
  e0 : 0 ≤ ev
  e12 : ev ≤ 12
  bl : bll.length ≤ 9
  br : ∀ r ∈ bll, r.length ≤ 1000000
  cl : cc.length ≤ 10
  cr : ∀ r ∈ cc, r.length ≤ 1000000
  cb : ∀ r ∈ cc, allB r 0 1000 = true
  sl : ss.length ≤ 10
structure HallBd (bll : List (List Int)) (pl : List Int) (cc : List (List Int)) (ss nu : List Int) : Prop where
  bl : bll.length ≤ 9
  br : ∀ r ∈ bll, r.length ≤ 1000000
  cl : cc.length ≤ 10
  cr : ∀ r ∈ cc, r.length ≤ 1000000
  cb : ∀ r ∈ cc, allB r 0 1000 = true
  sl : ss.length ≤ 10
  pl6 : pl.length ≤ 6
  nl : nu.length ≤ 12
end Go.Proofs.YtefbiejoikpkmaaGreat

namespace Go.Proofs.YtefbiejoikpkmaaGreat
open Go.RowKit
set_option linter.unusedSectionVars false
variable [Glb]
open Go
/-! the calls of a hall -/
theorem box_at {x y : Nat} {n : Int} {ll : List (List Int)} (h : boxB x y n ll = true) {i k : Nat} (hi : i < x) (hk : k < y) : (∀ p : Nat, p < 4 → 0 ≤ atB ll y i k p ∧ atB ll y i k p ≤ n) ∧ atB ll y i k ((0 : Nat) : Int) + atB ll y i k ((1 : Nat) : Int) + atB ll y i k ((2 : Nat) : Int) + atB ll y i k ((3 : Nat) : Int) = n := by
  have ix := idx_lt (i := (i : Int)) (k := (k : Int)) (X := x) (Y := y) (by omega) (by omega) (by omega) (by omega)
  exact ⟨fun p hp => (boxB_at h ix.1 ix.2.1).2 p (by omega) (by omega), by have := box4 h ix.1 ix.2.1; unfold atB; simpa using this⟩
theorem box_nat {X Y n : Int} {ll : List (List Int)} (h : boxB X Y n ll = true) : ∃ x y : Nat, X = x ∧ Y = y ∧ (1 ≤ x ∧ x ≤ 3) ∧ (1 ≤ y ∧ y ≤ 3) := by
  have b := boxB_spec h
  have a1 := b.x1; have a2 := b.x3; have a3 := b.y1; have a4 := b.y3
  exact ⟨X.toNat, Y.toNat, by omega, by omega, by omega, by omega⟩
/-- the sum of two boxes -/
def bmixF (la lb : List (List Int)) (Y : Nat) (i k p : Nat) : Int := atB la Y i k p + atB lb Y i k p
def bmixL (la lb : List (List Int)) (X Y : Int) : List (List Int) := boxF (bmixF la lb Y.toNat) Y.toNat (Y.toNat * X.toNat)
def sameB (x y n : Int) (la : List (List Int)) (x2 y2 m : Int) (lb : List (List Int)) : Bool := boxB x y n la && (boxB x2 y2 m lb && (decide (x = x2) && decide (y = y2)))
def bmixB (x y n : Int) (la : List (List Int)) (x2 y2 m : Int) (lb : List (List Int)) : Bool := sameB x y n la x2 y2 m lb && decide (n + m ≤ 1000)
theorem mix_box {x y : Nat} {n m : Int} {la lb : List (List Int)} (ha : boxB x y n la = true) (hb : boxB x y m lb = true) : boxB x y (n + m) (bmixL la lb x y) = decide (n + m ≤ 1000) := by
  have a := boxB_spec ha; have b := boxB_spec hb
  have a1 := a.x1; have a2 := a.x3; have a3 := a.y1; have a4 := a.y3; have a5 := a.n1; have a6 := a.n2; have b5 := b.n1; have b6 := b.n2
  unfold bmixL
  simp only [Int.toNat_natCast]
  refine rows_box (by omega) (by omega) (by omega) (by omega) fun i k hi hk => ?_
  obtain ⟨a7, a8⟩ := box_at ha hi hk
  obtain ⟨b7, b8⟩ := box_at hb hi hk
  exact ⟨fun p hp => by have := a7 p hp; have := b7 p hp; unfold bmixF; omega, by unfold bmixF; omega⟩
/-- the box of a play -/
def playF (pl : List Int) (X : Nat) (wh : Int) (i k p : Nat) : Int := if atZ pl i = ((p / 2 : Nat) : Int) ∧ atZ pl ((X : Int) + k) = ((p % 2 : Nat) : Int) then wh else 0
def playL (pl : List Int) (X Y wh : Int) : List (List Int) := boxF (playF pl X.toNat wh) Y.toNat (Y.toNat * X.toNat)
def playB (x y : Int) (pl : List Int) (wh : Int) : Bool := sizeB x y && (bitsB pl (x + y) && inB wh 1 1000)
/-- the box with the players swapped -/
def swapF (ll : List (List Int)) (Y : Nat) (i k p : Nat) : Int := atB ll Y k i ((2 * (p % 2) + p / 2 : Nat) : Int)
def swapL (ll : List (List Int)) (X Y : Int) : List (List Int) := boxF (swapF ll Y.toNat) X.toNat (X.toNat * Y.toNat)
/-- the box with flipped answers -/
def bflF (ll : List (List Int)) (X Y : Nat) (fl : List Int) (i k p : Nat) : Int := atB ll Y i k (xor4 p (flipOf fl X i k))
def bflL (ll : List (List Int)) (X Y : Int) (fl : List Int) : List (List Int) := boxF (bflF ll X.toNat Y.toNat fl) Y.toNat (Y.toNat * X.toNat)
/-- the box with the least numbers -/
def gcdI (a b : Int) : Int := ((Nat.gcd a.toNat b.toNat : Nat) : Int)
def gcdR (d : Int) (row : List Int) : Int := row.foldl gcdI d
def gcdL (d : Int) (ll : List (List Int)) : Int := ll.foldl gcdR d
theorem gcdI_pos {a b : Int} (ha : 1 ≤ a) : 1 ≤ gcdI a b ∧ gcdI a b ≤ a := by
  have h1 : 0 < Nat.gcd a.toNat b.toNat := Nat.gcd_pos_of_pos_left _ (by omega)
  have h2 : Nat.gcd a.toNat b.toNat ≤ a.toNat := Nat.gcd_le_left _ (by omega)
  unfold gcdI; omega
theorem gcdR_pos : ∀ {row : List Int} {d : Int}, 1 ≤ d → 1 ≤ gcdR d row ∧ gcdR d row ≤ d
  | [], d, h => ⟨h, Int.le_refl _⟩
  | x :: row, d, h => by
    have a := gcdI_pos (b := x) h
    have b := gcdR_pos (row := row) a.1
    unfold gcdR at *
    rw [List.foldl_cons]; omega
theorem gcdL_pos : ∀ {ll : List (List Int)} {d : Int}, 1 ≤ d → 1 ≤ gcdL d ll ∧ gcdL d ll ≤ d
  | [], d, h => ⟨h, Int.le_refl _⟩
  | x :: ll, d, h => by
    have a := gcdR_pos (row := x) h
    have b := gcdL_pos (ll := ll) a.1
    unfold gcdL at *
    rw [List.foldl_cons]; omega
theorem gcdR_snoc {row : List Int} {d : Int} {k : Nat} (h : k < row.length) : gcdR d (row.take (k + 1)) = gcdI (gcdR d (row.take k)) (atZ row k) := by
  unfold gcdR; rw [List.take_succ_eq_append_getElem h, List.foldl_append, atZ_nat h]; rfl
theorem gcdL_snoc {ll : List (List Int)} {d : Int} {k : Nat} (h : k < ll.length) : gcdL d (ll.take (k + 1)) = gcdR (gcdL d (ll.take k)) (atZ ll k) := by
  unfold gcdL; rw [List.take_succ_eq_append_getElem h, List.foldl_append, atZ_nat h]; rfl
theorem gcd_step {a b : Int} (ha : 0 ≤ a) (hb : 1 ≤ b) : gcdI b (a % b) = gcdI a b := by
  have h0 := Int.emod_nonneg a (show b ≠ 0 by omega)
  have e : (a % b).toNat = a.toNat % b.toNat := by
    have h1 := Int.toNat_of_nonneg ha
    have h2 := Int.toNat_of_nonneg (show 0 ≤ b by omega)
    have : (a % b) = ((a.toNat % b.toNat : Nat) : Int) := by rw [Int.natCast_emod, h1, h2]
    omega
  unfold gcdI
  rw [e, Nat.gcd_comm a.toNat b.toNat, Nat.gcd_rec b.toNat a.toNat, Nat.gcd_comm]
theorem gcd_zero {a : Int} (ha : 0 ≤ a) : gcdI a 0 = a := by
  unfold gcdI; simp; omega
def redF (ll : List (List Int)) (Y : Nat) (d : Int) (i k p : Nat) : Int := atB ll Y i k p / d
def redL (ll : List (List Int)) (X Y : Int) (d : Int) : List (List Int) := boxF (redF ll Y.toNat d) Y.toNat (Y.toNat * X.toNat)
/-- the sums of a scene with an event flipped -/
def evF (cc : List (List Int)) (ss : List Int) (e : Int) (i : Nat) : Int := if (atZ cc (i : Int)).contains e = true then 1 - atZ ss i else atZ ss i
def evL (cc : List (List Int)) (ss : List Int) (e : Int) : List Int := rowF (evF cc ss e) ss.length
theorem xor_pair {p : Nat} {f g : Int} (hp : p < 4) (hf : 0 ≤ f ∧ f ≤ 1) (hg : 0 ≤ g ∧ g ≤ 1) : ((0 ≤ bits .xor .i64 ((p / 2 : Nat) : Int) f ∧ bits .xor .i64 ((p / 2 : Nat) : Int) f ≤ 1) ∧ 0 ≤ bits .xor .i64 ((p % 2 : Nat) : Int) g ∧ bits .xor .i64 ((p % 2 : Nat) : Int) g ≤ 1) ∧
    2 * bits .xor .i64 ((p / 2 : Nat) : Int) f + bits .xor .i64 ((p % 2 : Nat) : Int) g = xor4 p (2 * f + g) := by
  rcases (by omega : p = 0 ∨ p = 1 ∨ p = 2 ∨ p = 3) with rfl | rfl | rfl | rfl <;> rcases (by omega : f = 0 ∨ f = 1) with rfl | rfl <;> rcases (by omega : g = 0 ∨ g = 1) with rfl | rfl <;> exact ⟨by decide, rfl⟩
/-- the sums of which the first k are done -/
def evM (cc : List (List Int)) (ss : List Int) (e : Int) (k : Nat) : List Int := rowF (fun j => if j < k then evF cc ss e j else atZ ss (j : Int)) ss.length
@[simp] theorem evM_len (cc : List (List Int)) (ss : List Int) (e : Int) (k : Nat) : (evM cc ss e k).length = ss.length := by simp [evM]
@[simp] theorem evL_len (cc : List (List Int)) (ss : List Int) (e : Int) : (evL cc ss e).length = ss.length := by simp [evL]
theorem emod_bd0 {x n : Int} (hx : 0 ≤ x) (hn : 0 < n) : 0 ≤ x % n ∧ x % n < n ∧ x % n ≤ x := by
  refine ⟨Int.emod_nonneg _ (by omega), Int.emod_lt_of_pos _ (by omega), ?_⟩
  have h1 := Int.emod_add_mul_ediv x n
  have h2 : 0 ≤ n * (x / n) := Int.mul_nonneg (by omega) (Int.ediv_nonneg hx (by omega))
  omega
/-! halls as data -/
structure HD where
  bx : Int
  by_ : Int
  bwh : Int
  bll : List (List Int)
  pl : List Int
  ev : Int
  cc : List (List Int)
  ss : List Int
  nu : List Int
  co : Int
structure HV (h : HD) : Prop where
  box : boxB h.bx h.by_ h.bwh h.bll = true
  pl : bitsB h.pl (h.bx + h.by_) = true
  sc : sceneB h.ev h.cc h.ss = true
  nu : bitsB h.nu h.ev = true
/-- 1 at one place -/
def oneL (n : Nat) (a : Int) : List Int := (List.replicate n (0 : Int)).set a.toNat 1
@[simp] theorem oneL_len (n : Nat) (a : Int) : (oneL n a).length = n := by simp [oneL]
def mixOK (h : HD) (a : Int) : Bool := playB h.bx h.by_ h.pl a && bmixB h.bx h.by_ h.bwh h.bll h.bx h.by_ a (playL h.pl h.bx h.by_ a)
def callT (h : HD) (k a : Int) : Option HD :=
  if k = 1 then if mixOK h a = true then some { h with bwh := h.bwh + a, bll := bmixL h.bll (playL h.pl h.bx h.by_ a) h.bx h.by_ } else none
  else if k = 2 then if inB a 0 (h.pl.length - 1) = true then some { h with pl := h.pl.set a.toNat (1 - atZ h.pl a) } else none
  else if k = 3 then if inB a 0 (h.pl.length - 1) = true then some { h with bll := bflL h.bll h.bx h.by_ (oneL h.pl.length a) } else none
  else if k = 4 then if a = 0 then some { h with bx := h.by_, by_ := h.bx, bll := swapL h.bll h.bx h.by_, pl := partZ h.pl h.bx h.pl.length ++ partZ h.pl 0 h.bx } else none
  else if k = 5 then if a = 0 then some { h with bwh := h.bwh / gcdL h.bwh h.bll, bll := redL h.bll h.bx h.by_ (gcdL h.bwh h.bll) } else none
  else if k = 6 then if inB a 0 (h.nu.length - 1) = true then some { h with nu := h.nu.set a.toNat (1 - atZ h.nu a) } else none
  else if k = 7 then if inB a 0 (h.ev - 1) = true then some { h with ss := evL h.cc h.ss a } else none
  else none
/-! rows told one by one -/
def rowsF (g : Nat → Nat → Int) (n : Nat) : List (List Int) := (List.range n).map fun j => rowF (g j) 4
@[simp] theorem rowsF_len (g : Nat → Nat → Int) (n : Nat) : (rowsF g n).length = n := by simp [rowsF]
theorem rowsF_snoc (g : Nat → Nat → Int) (n : Nat) : rowsF g (n + 1) = rowsF g n ++ [rowF (g n) 4] := by simp [rowsF, List.range_succ]
theorem boxF_rows {f : Nat → Nat → Nat → Int} {g : Nat → Nat → Int} {y n : Nat} (h : ∀ j p, j < n → p < 4 → f (j / y) (j % y) p = g j p) : boxF f y n = rowsF g n := by
  unfold boxF rowsF
  exact List.map_congr_left fun j hj => rowF_congr fun p hp => h j p (List.mem_range.1 hj) hp
theorem atB_row (ll : List (List Int)) (y j : Nat) (p : Int) : atB ll y ((j / y : Nat) : Int) ((j % y : Nat) : Int) p = atZ (atZ ll (j : Int)) p := by
  unfold atB
  have : ((j / y : Nat) : Int) * (y : Int) + ((j % y : Nat) : Int) = (j : Int) := by
    have := Nat.div_add_mod j y
    rw [← Int.natCast_mul, ← Int.natCast_add, Nat.mul_comm, this]
  rw [this]
def mixR (la lb : List (List Int)) (j p : Nat) : Int := atZ (atZ la (j : Int)) (p : Int) + atZ (atZ lb (j : Int)) (p : Int)
theorem bmixL_rows {x y : Nat} (la lb : List (List Int)) : bmixL la lb x y = rowsF (mixR la lb) (y * x) := by
  unfold bmixL
  simp only [Int.toNat_natCast]
  exact boxF_rows fun j p _ _ => by unfold bmixF mixR; rw [atB_row, atB_row]
def redR (ll : List (List Int)) (d : Int) (j p : Nat) : Int := atZ (atZ ll (j : Int)) (p : Int) / d
theorem redL_rows {x y : Nat} (ll : List (List Int)) (d : Int) : redL ll x y d = rowsF (redR ll d) (y * x) := by
  unfold redL
  simp only [Int.toNat_natCast]
  exact boxF_rows fun j p _ _ => by unfold redF redR; rw [atB_row]
/-- a row with flipped answers, on the way -/
def flM (row : List Int) (m : Int) (k : Nat) : List Int := rowF (fun j => if (xor4 j m).toNat < k then atZ row (xor4 j m) else 0) 4
@[simp] theorem flM_len (row : List Int) (m : Int) (k : Nat) : (flM row m k).length = 4 := by simp [flM]
theorem flM_zero (row : List Int) (m : Int) : flM row m 0 = List.replicate 4 0 := by simp [flM, rowF, List.range, List.range.loop]
theorem flM_set {row : List Int} {m : Int} {k : Nat} (hm : 0 ≤ m ∧ m < 4) (hk : k < 4) : (flM row m k).set (xor4 k m).toNat (atZ row k) = flM row m (k + 1) := by
  rcases (by omega : k = 0 ∨ k = 1 ∨ k = 2 ∨ k = 3) with rfl | rfl | rfl | rfl <;> rcases (by omega : m = 0 ∨ m = 1 ∨ m = 2 ∨ m = 3) with rfl | rfl | rfl | rfl <;> rfl
theorem flM_all (row : List Int) {m : Int} (hm : 0 ≤ m ∧ m < 4) : flM row m 4 = rowF (fun j => atZ row (xor4 j m)) 4 := by
  unfold flM
  refine rowF_congr fun j hj => if_pos ?_
  have := (xor4_eq hj hm.1 hm.2).2
  omega
theorem play_row {f g wh : Int} (hf : 0 ≤ f ∧ f ≤ 1) (hg : 0 ≤ g ∧ g ≤ 1) : (List.replicate 4 (0 : Int)).set (2 * f + g).toNat wh = rowF (fun p => if f = ((p / 2 : Nat) : Int) ∧ g = ((p % 2 : Nat) : Int) then wh else 0) 4 := by
  rcases (by omega : f = 0 ∨ f = 1) with rfl | rfl <;> rcases (by omega : g = 0 ∨ g = 1) with rfl | rfl <;> simp [rowF, List.range, List.range.loop]

end Go.Proofs.YtefbiejoikpkmaaGreat

namespace Go.Proofs.YtefbiejoikpkmaaGreat
open Go.RowKit
set_option linter.unusedSectionVars false
variable [Glb]
open Go
/-! rules: names, flips, plays that go through -/
def sayN (n : Int) : List Int := if n = 1 then [0, 0, 1, 1] else if n = 2 then [0, 1, 0, 1] else [0, 1, 1, 0]
theorem named_rule (n : Int) : ruleB sumF sumA [sayN n, sayN n] = true := by
  unfold sayN
  split
  · decide
  · split <;> decide
def askBy (asks : List Int) : Bool := bitsB asks 4
def nonL (l : List Int) : List Int := rowF (fun k => 1 - atZ l (k : Int)) 4
def flS (s : List (List Int)) : List (List Int) := (List.range 2).map fun x : Nat => nonL (atZ s (x : Int))
def flP (s : List (List Int)) (i : Nat) : List (List Int) := (List.range i).map fun x : Nat => nonL (atZ s (x : Int))
theorem flP_snoc (s : List (List Int)) (i : Nat) : flP s (i + 1) = flP s i ++ [nonL (atZ s (i : Int))] := by simp [flP, List.range_succ]
@[simp] theorem flP_len (s : List (List Int)) (i : Nat) : (flP s i).length = i := by simp [flP]
def cpP (a : List (List Int)) (i : Nat) : List (List Int) := (List.range i).map fun x : Nat => atZ a (x : Int)
theorem cpP_snoc (s : List (List Int)) (i : Nat) : cpP s (i + 1) = cpP s i ++ [atZ s (i : Int)] := by simp [cpP, List.range_succ]
@[simp] theorem cpP_len (s : List (List Int)) (i : Nat) : (cpP s i).length = i := by simp [cpP]
theorem cpP_all {a : List (List Int)} (h : a.length = 2) : cpP a 2 = a := by
  match a, h with
  | [u, v], _ => rfl
theorem two_list {a : List (List Int)} (h : a.length = 2) : a = [atZ a 0, atZ a 1] := by
  match a, h with
  | [u, v], _ => rfl
theorem flip_rule {f : List Int} {a s : List (List Int)} (h : ruleB f a s = true) : ruleB f a (flS s) = true := by
  have r := ruleB_spec h
  simp only [ruleB, Bool.and_eq_true] at h ⊢
  refine ⟨h.1, h.2.1, ?_⟩
  unfold tabB
  simp only [Bool.and_eq_true, decide_eq_true_eq, List.all_eq_true]
  refine ⟨by simp [flS], fun l hl => ?_⟩
  unfold flS at hl
  obtain ⟨x, hx, rfl⟩ := List.mem_map.1 hl
  have hx := List.mem_range.1 hx
  unfold bitsB allB nonL
  simp only [rowF_len, Bool.and_eq_true, decide_eq_true_eq, List.all_eq_true]
  refine ⟨by omega, fun v hv => ?_⟩
  unfold rowF at hv
  obtain ⟨k, hk, rfl⟩ := List.mem_map.1 hv
  have hk := List.mem_range.1 hk
  have b := (r.say (x := x) (i := k) (by omega) (by omega) (by omega) (by omega)).2
  exact inB_iff.2 (by omega)
/-- the answers of a player -/
def thrF (f : List Int) (a s : List (List Int)) (one two : List Int) (x : Nat) : Int := atZ (atZ s (x : Int)) (2 * atZ one (atZ f (x : Int)) + atZ two (atZ (atZ a (x : Int)) (atZ one (atZ f (x : Int)))))
def thrL (f : List Int) (a s : List (List Int)) (one two : List Int) : List Int := rowF (thrF f a s one two) 2
def thrB (f : List Int) (a s : List (List Int)) (one two : List Int) : Bool := ruleB f a s && (bitsB one 2 && bitsB two 2)
structure ThrOK (f : List Int) (a s : List (List Int)) (one two : List Int) (x : Nat) : Prop where
  f0 : 0 ≤ atZ f (x : Int) ∧ atZ f (x : Int) ≤ 1
  a0 : 0 ≤ atZ one (atZ f (x : Int)) ∧ atZ one (atZ f (x : Int)) ≤ 1
  al : (atZ a (x : Int)).length = 2
  k0 : 0 ≤ atZ (atZ a (x : Int)) (atZ one (atZ f (x : Int))) ∧ atZ (atZ a (x : Int)) (atZ one (atZ f (x : Int))) ≤ 1
  c0 : 0 ≤ atZ two (atZ (atZ a (x : Int)) (atZ one (atZ f (x : Int)))) ∧ atZ two (atZ (atZ a (x : Int)) (atZ one (atZ f (x : Int)))) ≤ 1
  sl : (atZ s (x : Int)).length = 4
  t0 : 0 ≤ thrF f a s one two x ∧ thrF f a s one two x ≤ 1
theorem thr_ok {f : List Int} {a s : List (List Int)} {one two : List Int} (h : thrB f a s one two = true) {x : Nat} (hx : x < 2) : ThrOK f a s one two x := by
  simp only [thrB, Bool.and_eq_true] at h
  obtain ⟨h1, h2, h3⟩ := h
  have r := ruleB_spec h1
  have f0 := r.fb x (by omega) (by omega)
  have a0 := bitsB_at h2 f0.1 (by omega)
  have k := r.ask (x := x) (i := atZ one (atZ f (x : Int))) (by omega) (by omega) a0.1 (by omega)
  have c0 := bitsB_at h3 k.2.1 (by omega)
  have sy := r.say (x := x) (i := 2 * atZ one (atZ f (x : Int)) + atZ two (atZ (atZ a (x : Int)) (atZ one (atZ f (x : Int))))) (by omega) (by omega) (by omega) (by omega)
  exact ⟨f0, a0, k.1, k.2, c0, sy.1, sy.2⟩
theorem thr_bits {f : List Int} {a s : List (List Int)} {one two : List Int} (h : thrB f a s one two = true) : bitsB (thrL f a s one two) 2 = true := by
  have t0 := (thr_ok h (x := 0) (by omega)).t0
  have t1 := (thr_ok h (x := 1) (by omega)).t0
  unfold bitsB allB thrL rowF
  simp [List.range, List.range.loop, inB]
  omega

end Go.Proofs.YtefbiejoikpkmaaGreat

namespace Go.Proofs.YtefbiejoikpkmaaGreat
open Go.RowKit
set_option linter.unusedSectionVars false
variable [Glb]
open Go
/-! more boxes: plays, flips, multiples, noise, the sum box of any size -/
theorem play_box {x y : Nat} {pl : List Int} {wh : Int} (hx : 1 ≤ x ∧ x ≤ 3) (hy : 1 ≤ y ∧ y ≤ 3) (hp : bitsB pl ((x : Int) + y) = true) (hw : 1 ≤ wh ∧ wh ≤ 1000) : boxB x y wh (playL pl x y wh) = true := by
  unfold playL
  simp only [Int.toNat_natCast]
  rw [rows_box hx hy hw.1 (by omega), decide_eq_true hw.2]
  intro i k hi hk
  have f1 := bitsB_at hp (i := (i : Int)) (by omega) (by omega)
  have f2 := bitsB_at hp (i := (x : Int) + k) (by omega) (by omega)
  unfold playF
  refine ⟨fun p hp => by split <;> omega, ?_⟩
  generalize atZ pl (i : Int) = f at *
  generalize atZ pl ((x : Int) + k) = g at *
  rcases (by omega : f = 0 ∨ f = 1) with rfl | rfl <;> rcases (by omega : g = 0 ∨ g = 1) with rfl | rfl <;> simp
theorem flip_box {x y : Nat} {n : Int} {ll : List (List Int)} {fl : List Int} (hb : boxB x y n ll = true) (hf : bitsB fl ((x : Int) + y) = true) : boxB x y n (bflL ll x y fl) = true := by
  have b := boxB_spec hb
  have a1 := b.x1; have a2 := b.x3; have a3 := b.y1; have a4 := b.y3; have a5 := b.n1; have a6 := b.n2
  unfold bflL
  simp only [Int.toNat_natCast]
  rw [rows_box (by omega) (by omega) (by omega) (by omega), decide_eq_true (by omega)]
  intro i k hi hk
  obtain ⟨b7, b8⟩ := box_at hb hi hk
  have f1 := bitsB_at hf (i := (i : Int)) (by omega) (by omega)
  have f2 := bitsB_at hf (i := (x : Int) + k) (by omega) (by omega)
  have hm : 0 ≤ flipOf fl x i k ∧ flipOf fl x i k < 4 := by unfold flipOf; omega
  unfold bflF
  generalize flipOf fl (x : Int) (i : Int) (k : Int) = m at *
  refine ⟨fun p hp => ?_, ?_⟩
  · have x4 := xor4_eq hp hm.1 hm.2
    obtain ⟨t, ht⟩ := Int.eq_ofNat_of_zero_le x4.2.1
    rw [ht] at x4 ⊢
    exact (b7 t (by omega)).1
  · have e : ∀ p : Nat, xor4 p m = ((p ^^^ m.toNat : Nat) : Int) := fun p => rfl
    rw [e, e, e, e]
    rcases (by omega : m = 0 ∨ m = 1 ∨ m = 2 ∨ m = 3) with rfl | rfl | rfl | rfl
    · simpa using b8
    · have c : ((0 ^^^ (1 : Int).toNat : Nat) : Int) = ((1 : Nat) : Int) ∧ ((1 ^^^ (1 : Int).toNat : Nat) : Int) = ((0 : Nat) : Int) ∧ ((2 ^^^ (1 : Int).toNat : Nat) : Int) = ((3 : Nat) : Int) ∧ ((3 ^^^ (1 : Int).toNat : Nat) : Int) = ((2 : Nat) : Int) := by decide
      rw [c.1, c.2.1, c.2.2.1, c.2.2.2]; omega
    · have c : ((0 ^^^ (2 : Int).toNat : Nat) : Int) = ((2 : Nat) : Int) ∧ ((1 ^^^ (2 : Int).toNat : Nat) : Int) = ((3 : Nat) : Int) ∧ ((2 ^^^ (2 : Int).toNat : Nat) : Int) = ((0 : Nat) : Int) ∧ ((3 ^^^ (2 : Int).toNat : Nat) : Int) = ((1 : Nat) : Int) := by decide
      rw [c.1, c.2.1, c.2.2.1, c.2.2.2]; omega
    · have c : ((0 ^^^ (3 : Int).toNat : Nat) : Int) = ((3 : Nat) : Int) ∧ ((1 ^^^ (3 : Int).toNat : Nat) : Int) = ((2 : Nat) : Int) ∧ ((2 ^^^ (3 : Int).toNat : Nat) : Int) = ((1 : Nat) : Int) ∧ ((3 ^^^ (3 : Int).toNat : Nat) : Int) = ((0 : Nat) : Int) := by decide
      rw [c.1, c.2.1, c.2.2.1, c.2.2.2]; omega
/-- the sum box of any size -/
def oddR (n i : Nat) : List Int := if i + 1 = n then [0, 1, 1, 0] else [1, 0, 0, 1]
def oddL (n i : Nat) : List (List Int) := (List.range i).map (oddR n)
@[simp] theorem oddL_len (n i : Nat) : (oddL n i).length = i := by simp [oddL]
theorem oddL_snoc (n i : Nat) : oddL n (i + 1) = oddL n i ++ [oddR n i] := by simp [oddL, List.range_succ]
theorem odd_box {x y : Nat} (hx : 1 ≤ x ∧ x ≤ 3) (hy : 1 ≤ y ∧ y ≤ 3) : boxB x y 2 (oddL (x * y) (x * y)) = true := by
  rcases (by omega : x = 1 ∨ x = 2 ∨ x = 3) with rfl | rfl | rfl <;> rcases (by omega : y = 1 ∨ y = 2 ∨ y = 3) with rfl | rfl | rfl <;> decide
/-- noise -/
def noiL (i : Nat) : List (List Int) := List.replicate i [1, 1, 1, 1]
theorem noi_box {x y : Nat} (hx : 1 ≤ x ∧ x ≤ 3) (hy : 1 ≤ y ∧ y ≤ 3) : boxB x y 4 (noiL (x * y)) = true := by
  rcases (by omega : x = 1 ∨ x = 2 ∨ x = 3) with rfl | rfl | rfl <;> rcases (by omega : y = 1 ∨ y = 2 ∨ y = 3) with rfl | rfl | rfl <;> decide
/-- multiples -/
def timR (ll : List (List Int)) (t : Int) (j p : Nat) : Int := atZ (atZ ll (j : Int)) (p : Int) * t
theorem tim_box {x y : Nat} {n t : Int} {ll : List (List Int)} (hb : boxB x y n ll = true) (ht : 1 ≤ t) (hn : n * t ≤ 1000) : boxB x y (n * t) (rowsF (timR ll t) (y * x)) = true := by
  have b := boxB_spec hb
  have a1 := b.x1; have a2 := b.x3; have a3 := b.y1; have a4 := b.y3; have a5 := b.n1; have a6 := b.n2
  have e : boxF (fun i k p => atB ll y i k p * t) y (y * x) = rowsF (timR ll t) (y * x) := boxF_rows fun j p _ _ => by unfold timR; rw [atB_row]
  have h1 : 1 ≤ n * t := by
    have : 1 * 1 ≤ n * t := Int.mul_le_mul a5 ht (by omega) (by omega)
    omega
  rw [← e, rows_box (by omega) (by omega) h1 (by omega), decide_eq_true hn]
  intro i k hi hk
  obtain ⟨b7, b8⟩ := box_at hb hi hk
  refine ⟨fun p hp => Int.mul_nonneg (b7 p hp).1 (by omega), ?_⟩
  rw [← b8, Int.add_mul, Int.add_mul, Int.add_mul]
theorem mul_bd {a t n m : Int} (h0 : 0 ≤ a) (h1 : a ≤ n) (t0 : 0 ≤ t) (t1 : t ≤ m) (hn : 0 ≤ n) : 0 ≤ a * t ∧ a * t ≤ n * m := ⟨Int.mul_nonneg h0 t0, Int.mul_le_mul h1 t1 t0 hn⟩

end Go.Proofs.YtefbiejoikpkmaaGreat

namespace Go.Proofs.YtefbiejoikpkmaaGreat
open Go.RowKit
set_option linter.unusedSectionVars false
variable [Glb]
open Go
/-! quiet boxes of two questions each, boxes that are alike -/
/-- how often player w says 1 to question q, when the other is asked j -/
def onB (ll : List (List Int)) (w q j : Int) : Int := if w = 0 then atB ll 2 q j 2 + atB ll 2 q j 3 else atB ll 2 j q 1 + atB ll 2 j q 3
def stillB (ll : List (List Int)) (w q : Int) : Bool := decide (onB ll w q 1 = onB ll w q 0)
def quiet2 (ll : List (List Int)) : Bool := stillB ll 0 0 && (stillB ll 0 1 && (stillB ll 1 0 && stillB ll 1 1))
def loudR (ll : List (List Int)) : Int × Int := if stillB ll 0 0 = false then (0, 0) else if stillB ll 0 1 = false then (0, 1) else if stillB ll 1 0 = false then (1, 0) else if stillB ll 1 1 = false then (1, 1) else (0, 0)
theorem loudR_at {ll : List (List Int)} {w q : Nat} (hw : w < 2) (hq : q < 2) (h0 : ∀ u : Nat, u < w → stillB ll (u : Int) 0 = true ∧ stillB ll (u : Int) 1 = true) (h1 : ∀ r : Nat, r < q → stillB ll (w : Int) (r : Int) = true) (h : stillB ll (w : Int) (q : Int) = false) :
    loudR ll = ((w : Int), (q : Int)) ∧ quiet2 ll = false := by
  rcases (by omega : w = 0 ∨ w = 1) with rfl | rfl <;> rcases (by omega : q = 0 ∨ q = 1) with rfl | rfl
  · simp only [Int.natCast_zero] at *; simp [loudR, quiet2, h]
  · have := h1 0 (by omega); simp only [Int.natCast_zero, Int.natCast_one] at *; simp [loudR, quiet2, h, this]
  · have := h0 0 (by omega); simp only [Int.natCast_zero, Int.natCast_one] at *; simp [loudR, quiet2, h, this]
  · have a := h0 0 (by omega); have b := h1 0 (by omega); simp only [Int.natCast_zero, Int.natCast_one] at *; simp [loudR, quiet2, h, a, b]
theorem loudR_end {ll : List (List Int)} (h0 : ∀ u : Nat, u < 2 → stillB ll (u : Int) 0 = true ∧ stillB ll (u : Int) 1 = true) : loudR ll = (0, 0) ∧ quiet2 ll = true := by
  have a := h0 0 (by omega); have b := h0 1 (by omega)
  simp only [Int.natCast_zero, Int.natCast_one] at a b
  simp [loudR, quiet2, a, b]
theorem onB_bd {n : Int} {ll : List (List Int)} (h : boxB 2 2 n ll = true) {w q j : Int} (hq : 0 ≤ q ∧ q ≤ 1) (hj : 0 ≤ j ∧ j ≤ 1) : 0 ≤ onB ll w q j ∧ onB ll w q j ≤ n := by
  unfold onB
  split
  · have b := atB_bd h hq.1 hq.2 hj.1 hj.2
    have b0 := b.1 0 (by omega); have b1 := b.1 1 (by omega); have b2 := b.1 2 (by omega); have b3 := b.1 3 (by omega)
    have e := b.2
    simp only [Int.natCast_zero, Int.natCast_one, Int.cast_ofNat_Int] at b0 b1 b2 b3 e
    omega
  · have b := atB_bd h hj.1 hj.2 hq.1 hq.2
    have b0 := b.1 0 (by omega); have b1 := b.1 1 (by omega); have b2 := b.1 2 (by omega); have b3 := b.1 3 (by omega)
    have e := b.2
    simp only [Int.natCast_zero, Int.natCast_one, Int.cast_ofNat_Int] at b0 b1 b2 b3 e
    omega
/-- the same chances -/
def alikeB (la : List (List Int)) (na : Int) (lb : List (List Int)) (nb : Int) : Bool := (List.range la.length).all fun q => (List.range 4).all fun k => decide (at2 la q k * nb = at2 lb q k * na)
/-- what a box of a play says -/
def tellF (ll : List (List Int)) (n : Int) (k : Nat) : Int := onB ll ((k / 2 : Nat) : Int) ((k % 2 : Nat) : Int) 0 / n
def tellL (ll : List (List Int)) (n : Int) : List Int := rowF (tellF ll n) 4
theorem tell_bits {n : Int} {ll : List (List Int)} (h : boxB 2 2 n ll = true) : bitsB (tellL ll n) 4 = true := by
  have n1 := (boxB_spec h).n1
  unfold bitsB allB tellL
  simp only [rowF_len, Bool.and_eq_true, decide_eq_true_eq, List.all_eq_true]
  refine ⟨by omega, fun v hv => ?_⟩
  unfold rowF at hv
  obtain ⟨k, hk, rfl⟩ := List.mem_map.1 hv
  have hk := List.mem_range.1 hk
  have b := onB_bd h (w := ((k / 2 : Nat) : Int)) (q := ((k % 2 : Nat) : Int)) (j := 0) (by omega) (by omega)
  unfold tellF
  refine inB_iff.2 ⟨Int.ediv_nonneg b.1 (by omega), ?_⟩
  have := Int.ediv_le_ediv (c := n) (by omega) b.2
  rw [Int.ediv_self (by omega)] at this
  exact this
theorem mul_small {a b : Int} (a0 : 0 ≤ a) (a1 : a ≤ 1000) (b0 : 0 ≤ b) (b1 : b ≤ 1000) : 0 ≤ a * b ∧ a * b ≤ 1000000 :=
  ⟨Int.mul_nonneg a0 b0, Int.le_trans (Int.mul_le_mul a1 b1 b0 (by omega)) (by decide)⟩
theorem box_len9 {x y n : Int} {ll : List (List Int)} (h : boxB x y n ll = true) : ll.length ≤ 9 := by
  have b := boxB_spec h
  have := mul_bd3 (sizeB_iff.2 ⟨⟨b.x1, b.x3⟩, b.y1, b.y3⟩)
  have := b.len
  omega

end Go.Proofs.YtefbiejoikpkmaaGreat

namespace Go.Proofs.YtefbiejoikpkmaaGreat
open Go.RowKit
set_option linter.unusedSectionVars false
variable [Glb]
open Go
/-! the eight sums of a box; the first of the greatest -/
def difK (k x y : Nat) : Int := ((x * y + k / 4 % 2 * x + k / 2 % 2 * y + k % 2) % 2 : Nat)
theorem difK_bd (k x y : Nat) : 0 ≤ difK k x y ∧ difK k x y ≤ 1 := by unfold difK; omega
def sgnT (ll : List (List Int)) (k j : Nat) : Int := agrZ (atZ ll (j : Int)) * (1 - 2 * difK k (j / 2) (j % 2))
def sgnK (ll : List (List Int)) (k : Nat) : Int := accT (sgnT ll k) 4
def sumsL (ll : List (List Int)) : List Int := rowF (sgnK ll) 8
/-- the place of the first of the greatest numbers -/
def bstT (s : Nat → Int) : Nat → Nat
  | 0 => 0
  | 1 => 0
  | t + 2 => if s (bstT s (t + 1)) < s (t + 1) then t + 1 else bstT s (t + 1)
/-- the box of a pair of ask lists -/
def askRow (k : Nat) : List Int := bitsM 4 k
def askLL (la lb : List (List Int)) (t : Nat) : List (List Int) := wiredL la lb sumF (ruleA (askRow (t / 16))) sumS sumF (ruleA (askRow (t % 16))) sumS
def askS (la lb : List (List Int)) (k : Nat) (t : Nat) : Int := sgnK (askLL la lb t) k
def bestP (la lb : List (List Int)) (k : Nat) : Nat := bstT (askS la lb k) 256
def bestB (xa ya na : Int) (la : List (List Int)) (xb yb nb : Int) (lb : List (List Int)) (k : Int) : Bool := wiresB xa ya na la xb yb nb lb && inB k 0 7
def firstA (s : Nat → Int) : Nat → List Int
  | 0 => []
  | t + 1 => askRow (bstT s (t + 1) / 16)
def secondA (s : Nat → Int) : Nat → List Int
  | 0 => []
  | t + 1 => askRow (bstT s (t + 1) % 16)
def mostA (s : Nat → Int) : Nat → Int
  | 0 => 0
  | t + 1 => s (bstT s (t + 1))
def foundA : Nat → Bool
  | 0 => false
  | _ + 1 => true
theorem askRow_len (k : Nat) : (askRow k).length = 4 := bitsM_len 4 k
theorem ask_at {k : Nat} (h : k < 16) : atZ (playsF 4) (k : Int) = askRow k := playsF_at h
end Go.Proofs.YtefbiejoikpkmaaGreat

namespace Go.Proofs.YtefbiejoikpkmaaGreat
open Go.RowKit
set_option linter.unusedSectionVars false
variable [Glb]
/-! games: scores, lost pairs, best plays -/
def winT (X Y : Nat) (wi : List (List Int)) (pl : List Int) (t : Nat) : Int := atZ (atZ wi (t : Int)) (flipOf pl X ((t / Y : Nat) : Int) ((t % Y : Nat) : Int))
def scoT (X Y : Nat) (ws : List Int) (wi : List (List Int)) (pl : List Int) (t : Nat) : Int := atZ ws (t : Int) * winT X Y wi pl t
def scoG (X Y : Nat) (ws : List Int) (wi : List (List Int)) (pl : List Int) : Int := accT (scoT X Y ws wi pl) (Y * X)
def funL (ws : List Int) (wi : List (List Int)) : List (List Int) := gridF (fun i k => atZ (atZ wi (i : Int)) (k : Int) * atZ ws (i : Int)) wi.length 4
structure PairOK (X Y : Nat) (ws : List Int) (wi : List (List Int)) (i k : Nat) : Prop where
  lt : (i : Int) * Y + k < ws.length
  lt2 : (i : Int) * Y + k < wi.length
  ge : 0 ≤ (i : Int) * Y + k
  le : (i : Int) * Y + k ≤ 8
  g1 : 0 ≤ (i : Int) * Y
  g2 : (i : Int) * Y ≤ 8
  w0 : 0 ≤ atZ ws ((i : Int) * Y + k)
  w1 : atZ ws ((i : Int) * Y + k) ≤ 99
  len : (atZ wi ((i : Int) * Y + k)).length = 4
  bit : ∀ p : Int, 0 ≤ p → p < 4 → 0 ≤ atZ (atZ wi ((i : Int) * Y + k)) p ∧ atZ (atZ wi ((i : Int) * Y + k)) p ≤ 1
@[simp] theorem funL_len (ws : List Int) (wi : List (List Int)) : (funL ws wi).length = wi.length := by simp [funL]
/-- the pairs that a play loses -/
def lostP (X Y : Nat) (ws : List Int) (wi : List (List Int)) (pl : List Int) (t : Nat) : Bool := decide (0 < atZ ws (t : Int)) && decide (winT X Y wi pl t = 0)
def lostL (X Y : Nat) (ws : List Int) (wi : List (List Int)) (pl : List Int) : List Int := usedL (Y * X) (lostP X Y ws wi pl)
/-- the first best play -/
def playN (X Y : Nat) (ws : List Int) (wi : List (List Int)) (c : Nat) : Int := scoG X Y ws wi (bitsM (X + Y) c)
def bestC (X Y : Nat) (ws : List Int) (wi : List (List Int)) : Nat := bstT (playN X Y ws wi) (2 ^ (X + Y))
def bestG (X Y : Nat) (ws : List Int) (wi : List (List Int)) : List Int := bitsM (X + Y) (bestC X Y ws wi)
def valueG (X Y : Nat) (ws : List Int) (wi : List (List Int)) : Int := playN X Y ws wi (bestC X Y ws wi)
def valN (s : Nat → Int) : Nat → Int
  | 0 => -1
  | i + 1 => s (bstT s (i + 1))
/-- how many plays have a score -/
def cntV (X Y : Nat) (ws : List Int) (wi : List (List Int)) (v : Int) (i : Nat) : Nat := ((List.range i).countP fun c => decide (playN X Y ws wi c = v))
def countG (X Y : Nat) (ws : List Int) (wi : List (List Int)) : Nat := cntV X Y ws wi (valueG X Y ws wi) (2 ^ (X + Y))
def totG (ws : List Int) : Int := accT (fun t => atZ ws (t : Int)) ws.length
/-- what is won for two questions and an answer of the first player -/
def repT (Y : Nat) (ws : List Int) (wi : List (List Int)) (fs : List Int) (y : Nat) (b : Int) (x : Nat) : Int := atZ ws ((x : Int) * Y + y) * atZ (atZ wi ((x : Int) * Y + y)) (2 * atZ fs (x : Int) + b)
def repS (X Y : Nat) (ws : List Int) (wi : List (List Int)) (fs : List Int) (b : Int) (y : Nat) : Int := accT (repT Y ws wi fs y b) X
def repA (X Y : Nat) (ws : List Int) (wi : List (List Int)) (fs : List Int) (y : Nat) : Int := if repS X Y ws wi fs 1 y > repS X Y ws wi fs 0 y then 1 else 0
def repM (X Y : Nat) (ws : List Int) (wi : List (List Int)) (fs : List Int) (y : Nat) : Int := if repS X Y ws wi fs 1 y > repS X Y ws wi fs 0 y then repS X Y ws wi fs 1 y else repS X Y ws wi fs 0 y
end Go.Proofs.YtefbiejoikpkmaaGreat

namespace Go.Proofs.YtefbiejoikpkmaaGreat
open Go.RowKit
set_option linter.unusedSectionVars false
variable [Glb]
/-! games: what is lost; all plays in another order -/
def lostS (ws : List Int) (l : List Int) : Int := (l.map fun t => atZ ws t).sum
/-- all plays, the first answer as the least digit -/
def bitsR (n c : Nat) : List Int := rowF (fun i => (bitN c i : Int)) n
def rplaysF (n : Nat) : List (List Int) := (List.range (2 ^ n)).map (bitsR n)
theorem playsF_mem {n : Nat} {p : List Int} (h : p ∈ playsF n) : ∃ c, c < 2 ^ n ∧ p = bitsM n c := by
  unfold playsF at h
  obtain ⟨c, hc, rfl⟩ := List.mem_map.1 h
  exact ⟨c, List.mem_range.1 hc, rfl⟩
def cntR (X Y : Nat) (ws : List Int) (wi : List (List Int)) (v : Int) (i : Nat) : Nat := ((rplaysF (X + Y)).take i).countP fun p => decide (scoG X Y ws wi p = v)
end Go.Proofs.YtefbiejoikpkmaaGreat

namespace Go.Proofs.YtefbiejoikpkmaaGreat
open Go.RowKit
set_option linter.unusedSectionVars false
variable [Glb]
open Go
/-! orders -/
def orderB (l : List Int) (n : Int) : Bool := ((cntL n.toNat).all fun i => l.contains i) && decide ((l.length : Int) = n)
def askB (X Y : Int) (ws : List Int) (wi : List (List Int)) (fs ss : List Int) : Bool := gameB X Y ws wi && (orderB fs X && orderB ss Y)
def askGW (Y : Int) (ws fs ss : List Int) : List Int := pairsF (askW Y ws) fs ss
def askGR (Y : Int) (wi : List (List Int)) (fs ss : List Int) : List (List Int) := pairsF (askO Y wi) fs ss
end Go.Proofs.YtefbiejoikpkmaaGreat

namespace Go.Proofs.YtefbiejoikpkmaaGreat
open Go.RowKit
set_option linter.unusedSectionVars false
variable [Glb]
/-! games: double sums, replies, other questions -/
theorem atZ_left {l m : List Int} {i : Nat} (h : i < l.length) : atZ (l ++ m) (i : Int) = atZ l (i : Int) := by
  rw [atZ_nat (by simp; omega), atZ_nat h, List.getElem_append_left h]
theorem atZ_right {l m : List Int} {n i : Nat} (hn : l.length = n) (h : i < m.length) : atZ (l ++ m) ((n : Int) + i) = atZ m (i : Int) := by
  rw [← Int.natCast_add, atZ_nat (by simp; omega), atZ_nat h, List.getElem_append_right (by omega)]
  congr 1
  omega
end Go.Proofs.YtefbiejoikpkmaaGreat

namespace Go.Proofs.YtefbiejoikpkmaaGreat
open Go.RowKit
set_option linter.unusedSectionVars false
variable [Glb]
open Go
/-! what is wired of quiet boxes is quiet -/
/-- the box of a wiring, place by place -/
theorem wired_at (la lb : List (List Int)) (f1 : List Int) (a1 s1 : List (List Int)) (f2 : List Int) (a2 s2 : List (List Int)) {x y p : Nat} (hx : x < 2) (hy : y < 2) (hp : p < 4) :
    atB (wiredL la lb f1 a1 s1 f2 a2 s2) 2 (x : Int) (y : Int) (p : Int) = wP la lb f1 a1 s1 f2 a2 s2 x y 16 p := by
  unfold atB wiredL
  have e : (x : Int) * 2 + y = ((x * 2 + y : Nat) : Int) := by omega
  rw [e, boxF_at (by omega), rowF_atZ _ hp, show (x * 2 + y) / 2 = x by omega, show (x * 2 + y) % 2 = y by omega]
theorem wsum1 (a : Nat → Int) (b : Nat → Nat → Nat → Int) (d : Nat → Nat → Bool) (Z M : Nat → Int) (h0 : ∀ i j, i < 2 → j < 2 → b i j 0 + b i j 1 = Z i) (h1 : ∀ i j, i < 2 → j < 2 → b i j 2 + b i j 3 = M i) :
    accT (fun m => if d (m / 8) (m / 2 % 2) = true then a (2 * (m / 8) + m / 4 % 2) * b (m / 8) (m / 4 % 2) (2 * (m / 2 % 2) + m % 2) else 0) 16 =
      (a 0 + a 1) * ((if d 0 0 = true then Z 0 else 0) + (if d 0 1 = true then M 0 else 0)) + (a 2 + a 3) * ((if d 1 0 = true then Z 1 else 0) + (if d 1 1 = true then M 1 else 0)) := by
  rw [← h0 0 0 (by omega) (by omega), ← h1 0 0 (by omega) (by omega), ← h0 1 0 (by omega) (by omega), ← h1 1 0 (by omega) (by omega)]
  have e0 := congrArg (a 1 * ·) ((h0 0 0 (by omega) (by omega)).trans (h0 0 1 (by omega) (by omega)).symm)
  have e1 := congrArg (a 1 * ·) ((h1 0 0 (by omega) (by omega)).trans (h1 0 1 (by omega) (by omega)).symm)
  have e2 := congrArg (a 3 * ·) ((h0 1 0 (by omega) (by omega)).trans (h0 1 1 (by omega) (by omega)).symm)
  have e3 := congrArg (a 3 * ·) ((h1 1 0 (by omega) (by omega)).trans (h1 1 1 (by omega) (by omega)).symm)
  simp only [accT, Nat.reduceDiv, Nat.reduceMod, Nat.reduceMul, Nat.reduceAdd, Nat.zero_div, Nat.zero_mod, Nat.mul_zero, Nat.mul_one, Nat.zero_add, Nat.add_zero]
  simp only [Int.mul_add] at e0 e1 e2 e3
  cases d 0 0 <;> cases d 0 1 <;> cases d 1 0 <;> cases d 1 1 <;> simp only [if_true, if_false, Bool.false_eq_true, Int.add_mul, Int.mul_add, Int.mul_zero, Int.add_zero, Int.zero_add] <;> omega
theorem wsum2 (a : Nat → Int) (b : Nat → Nat → Nat → Int) (d : Nat → Nat → Bool) (Z M : Nat → Int) (h0 : ∀ i j, i < 2 → j < 2 → b i j 0 + b i j 2 = Z j) (h1 : ∀ i j, i < 2 → j < 2 → b i j 1 + b i j 3 = M j) :
    accT (fun m => if d (m / 4 % 2) (m % 2) = true then a (2 * (m / 8) + m / 4 % 2) * b (m / 8) (m / 4 % 2) (2 * (m / 2 % 2) + m % 2) else 0) 16 =
      (a 0 + a 2) * ((if d 0 0 = true then Z 0 else 0) + (if d 0 1 = true then M 0 else 0)) + (a 1 + a 3) * ((if d 1 0 = true then Z 1 else 0) + (if d 1 1 = true then M 1 else 0)) := by
  rw [← h0 0 0 (by omega) (by omega), ← h1 0 0 (by omega) (by omega), ← h0 0 1 (by omega) (by omega), ← h1 0 1 (by omega) (by omega)]
  have e0 := congrArg (a 2 * ·) ((h0 0 0 (by omega) (by omega)).trans (h0 1 0 (by omega) (by omega)).symm)
  have e1 := congrArg (a 2 * ·) ((h1 0 0 (by omega) (by omega)).trans (h1 1 0 (by omega) (by omega)).symm)
  have e2 := congrArg (a 3 * ·) ((h0 0 1 (by omega) (by omega)).trans (h0 1 1 (by omega) (by omega)).symm)
  have e3 := congrArg (a 3 * ·) ((h1 0 1 (by omega) (by omega)).trans (h1 1 1 (by omega) (by omega)).symm)
  simp only [accT, Nat.reduceDiv, Nat.reduceMod, Nat.reduceMul, Nat.reduceAdd, Nat.zero_div, Nat.zero_mod, Nat.mul_zero, Nat.mul_one, Nat.zero_add, Nat.add_zero]
  simp only [Int.mul_add] at e0 e1 e2 e3
  cases d 0 0 <;> cases d 0 1 <;> cases d 1 0 <;> cases d 1 1 <;> simp only [if_true, if_false, Bool.false_eq_true, Int.add_mul, Int.mul_add, Int.mul_zero, Int.add_zero, Int.zero_add] <;> omega
theorem quiet2_iff {ll : List (List Int)} : quiet2 ll = true ↔ ∀ w q j : Int, (w = 0 ∨ w = 1) → (q = 0 ∨ q = 1) → (j = 0 ∨ j = 1) → onB ll w q j = onB ll w q 0 := by
  unfold quiet2 stillB
  simp only [Bool.and_eq_true, decide_eq_true_eq]
  constructor
  · rintro ⟨h1, h2, h3, h4⟩ w q j (rfl | rfl) (rfl | rfl) (rfl | rfl) <;> first | rfl | assumption
  · intro h
    exact ⟨h 0 0 1 (.inl rfl) (.inl rfl) (.inr rfl), h 0 1 1 (.inl rfl) (.inr rfl) (.inr rfl), h 1 0 1 (.inr rfl) (.inl rfl) (.inr rfl), h 1 1 1 (.inr rfl) (.inr rfl) (.inr rfl)⟩
/-- the shares of the first player, of the second -/
theorem on_first {n : Int} {ll : List (List Int)} (h : boxB 2 2 n ll = true) (hq : quiet2 ll = true) {x y : Int} (hx : 0 ≤ x ∧ x ≤ 1) (hy : 0 ≤ y ∧ y ≤ 1) :
    atB ll 2 x y 2 + atB ll 2 x y 3 = onB ll 0 x 0 ∧ atB ll 2 x y 0 + atB ll 2 x y 1 = n - onB ll 0 x 0 := by
  have e := quiet2_iff.1 hq 0 x y (.inl rfl) (by omega) (by omega)
  have b := (atB_bd h hx.1 hx.2 hy.1 hy.2).2
  simp only [Int.natCast_zero, Int.natCast_one, Int.cast_ofNat_Int] at b
  rw [show onB ll 0 x y = atB ll 2 x y 2 + atB ll 2 x y 3 from rfl] at e
  omega
theorem on_second {n : Int} {ll : List (List Int)} (h : boxB 2 2 n ll = true) (hq : quiet2 ll = true) {x y : Int} (hx : 0 ≤ x ∧ x ≤ 1) (hy : 0 ≤ y ∧ y ≤ 1) :
    atB ll 2 x y 1 + atB ll 2 x y 3 = onB ll 1 y 0 ∧ atB ll 2 x y 0 + atB ll 2 x y 2 = n - onB ll 1 y 0 := by
  have e := quiet2_iff.1 hq 1 y x (.inr rfl) (by omega) (by omega)
  have b := (atB_bd h hx.1 hx.2 hy.1 hy.2).2
  simp only [Int.natCast_zero, Int.natCast_one, Int.cast_ofNat_Int] at b
  rw [show onB ll 1 y x = atB ll 2 x y 1 + atB ll 2 x y 3 from rfl] at e
  omega
section
variable {la lb : List (List Int)} {f1 : List Int} {a1 s1 : List (List Int)} {f2 : List Int} {a2 s2 : List (List Int)} {na nb : Int}
theorem wS_bits (h1 : ruleB f1 a1 s1 = true) (h2 : ruleB f2 a2 s2 = true) {x y i j k l : Nat} (hx : x < 2) (hy : y < 2) (hi : i < 2) (hj : j < 2) (hk : k < 2) (hl : l < 2) :
    (0 ≤ atZ (atZ s1 x) ((2 * i + k : Nat) : Int) ∧ atZ (atZ s1 x) ((2 * i + k : Nat) : Int) ≤ 1) ∧ (0 ≤ atZ (atZ s2 y) ((2 * j + l : Nat) : Int) ∧ atZ (atZ s2 y) ((2 * j + l : Nat) : Int) ≤ 1) :=
  ⟨((ruleB_spec h1).say (x := x) (i := ((2 * i + k : Nat) : Int)) (by omega) (by omega) (by omega) (by omega)).2, ((ruleB_spec h2).say (x := y) (i := ((2 * j + l : Nat) : Int)) (by omega) (by omega) (by omega) (by omega)).2⟩
theorem w_first (ha : boxB 2 2 na la = true) (hb : boxB 2 2 nb lb = true) (h1 : ruleB f1 a1 s1 = true) (h2 : ruleB f2 a2 s2 = true) (qa : quiet2 la = true) (qb : quiet2 lb = true) {x y : Nat} (hx : x < 2) (hy : y < 2) :
    wP la lb f1 a1 s1 f2 a2 s2 x y 16 2 + wP la lb f1 a1 s1 f2 a2 s2 x y 16 3 =
      (na - onB la 0 (atZ f1 x) 0) * ((if atZ (atZ s1 x) ((2 * 0 + 0 : Nat) : Int) = 1 then nb - onB lb 0 (atZ (atZ a1 x) ((0 : Nat) : Int)) 0 else 0) + (if atZ (atZ s1 x) ((2 * 0 + 1 : Nat) : Int) = 1 then onB lb 0 (atZ (atZ a1 x) ((0 : Nat) : Int)) 0 else 0)) +
      onB la 0 (atZ f1 x) 0 * ((if atZ (atZ s1 x) ((2 * 1 + 0 : Nat) : Int) = 1 then nb - onB lb 0 (atZ (atZ a1 x) ((1 : Nat) : Int)) 0 else 0) + (if atZ (atZ s1 x) ((2 * 1 + 1 : Nat) : Int) = 1 then onB lb 0 (atZ (atZ a1 x) ((1 : Nat) : Int)) 0 else 0)) := by
  have r1 := ruleB_spec h1
  have r2 := ruleB_spec h2
  have A := on_first ha qa (x := atZ f1 x) (y := atZ f2 y) (r1.fb x (by omega) (by omega)) (r2.fb y (by omega) (by omega))
  have B := fun (i j : Nat) (hi : i < 2) (hj : j < 2) => on_first hb qb (x := atZ (atZ a1 x) (i : Int)) (y := atZ (atZ a2 y) (j : Int)) (r1.ask (x := x) (i := i) (by omega) (by omega) (by omega) (by omega)).2 (r2.ask (x := y) (i := j) (by omega) (by omega) (by omega) (by omega)).2
  have W := wsum1 (fun t => atB la 2 (atZ f1 x) (atZ f2 y) (t : Int)) (fun i j t => atB lb 2 (atZ (atZ a1 x) (i : Int)) (atZ (atZ a2 y) (j : Int)) (t : Int)) (fun i k => decide (atZ (atZ s1 x) ((2 * i + k : Nat) : Int) = 1))
    (fun i => nb - onB lb 0 (atZ (atZ a1 x) (i : Int)) 0) (fun i => onB lb 0 (atZ (atZ a1 x) (i : Int)) 0) (fun i j hi hj => (B i j hi hj).2) (fun i j hi hj => (B i j hi hj).1)
  simp only [decide_eq_true_eq, Int.natCast_zero, Int.natCast_one, Int.cast_ofNat_Int] at W ⊢
  rw [A.1, A.2] at W
  rw [← W]
  unfold wP
  rw [accN_T, accN_T]
  refine accT_add.symm.trans ?_
  refine accT_congr fun m hm => ?_
  obtain ⟨u, v⟩ := wS_bits h1 h2 (i := m / 8) (j := m / 4 % 2) (k := m / 2 % 2) (l := m % 2) hx hy (by omega) (by omega) (by omega) (by omega)
  unfold wS wV
  generalize atZ (atZ s1 x) ((2 * (m / 8) + m / 2 % 2 : Nat) : Int) = s at u ⊢
  generalize atZ (atZ s2 y) ((2 * (m / 4 % 2) + m % 2 : Nat) : Int) = t at v ⊢
  rcases (by omega : s = 0 ∨ s = 1) with rfl | rfl <;> rcases (by omega : t = 0 ∨ t = 1) with rfl | rfl <;> simp
theorem w_second (ha : boxB 2 2 na la = true) (hb : boxB 2 2 nb lb = true) (h1 : ruleB f1 a1 s1 = true) (h2 : ruleB f2 a2 s2 = true) (qa : quiet2 la = true) (qb : quiet2 lb = true) {x y : Nat} (hx : x < 2) (hy : y < 2) :
    wP la lb f1 a1 s1 f2 a2 s2 x y 16 1 + wP la lb f1 a1 s1 f2 a2 s2 x y 16 3 =
      (na - onB la 1 (atZ f2 y) 0) * ((if atZ (atZ s2 y) ((2 * 0 + 0 : Nat) : Int) = 1 then nb - onB lb 1 (atZ (atZ a2 y) ((0 : Nat) : Int)) 0 else 0) + (if atZ (atZ s2 y) ((2 * 0 + 1 : Nat) : Int) = 1 then onB lb 1 (atZ (atZ a2 y) ((0 : Nat) : Int)) 0 else 0)) +
      onB la 1 (atZ f2 y) 0 * ((if atZ (atZ s2 y) ((2 * 1 + 0 : Nat) : Int) = 1 then nb - onB lb 1 (atZ (atZ a2 y) ((1 : Nat) : Int)) 0 else 0) + (if atZ (atZ s2 y) ((2 * 1 + 1 : Nat) : Int) = 1 then onB lb 1 (atZ (atZ a2 y) ((1 : Nat) : Int)) 0 else 0)) := by
  have r1 := ruleB_spec h1
  have r2 := ruleB_spec h2
  have A := on_second ha qa (x := atZ f1 x) (y := atZ f2 y) (r1.fb x (by omega) (by omega)) (r2.fb y (by omega) (by omega))
  have B := fun (i j : Nat) (hi : i < 2) (hj : j < 2) => on_second hb qb (x := atZ (atZ a1 x) (i : Int)) (y := atZ (atZ a2 y) (j : Int)) (r1.ask (x := x) (i := i) (by omega) (by omega) (by omega) (by omega)).2 (r2.ask (x := y) (i := j) (by omega) (by omega) (by omega) (by omega)).2
  have W := wsum2 (fun t => atB la 2 (atZ f1 x) (atZ f2 y) (t : Int)) (fun i j t => atB lb 2 (atZ (atZ a1 x) (i : Int)) (atZ (atZ a2 y) (j : Int)) (t : Int)) (fun j l => decide (atZ (atZ s2 y) ((2 * j + l : Nat) : Int) = 1))
    (fun j => nb - onB lb 1 (atZ (atZ a2 y) (j : Int)) 0) (fun j => onB lb 1 (atZ (atZ a2 y) (j : Int)) 0) (fun i j hi hj => (B i j hi hj).2) (fun i j hi hj => (B i j hi hj).1)
  simp only [decide_eq_true_eq, Int.natCast_zero, Int.natCast_one, Int.cast_ofNat_Int] at W ⊢
  rw [A.1, A.2] at W
  rw [← W]
  unfold wP
  rw [accN_T, accN_T]
  refine accT_add.symm.trans ?_
  refine accT_congr fun m hm => ?_
  obtain ⟨u, v⟩ := wS_bits h1 h2 (i := m / 8) (j := m / 4 % 2) (k := m / 2 % 2) (l := m % 2) hx hy (by omega) (by omega) (by omega) (by omega)
  unfold wS wV
  generalize atZ (atZ s1 x) ((2 * (m / 8) + m / 2 % 2 : Nat) : Int) = s at u ⊢
  generalize atZ (atZ s2 y) ((2 * (m / 4 % 2) + m % 2 : Nat) : Int) = t at v ⊢
  rcases (by omega : s = 0 ∨ s = 1) with rfl | rfl <;> rcases (by omega : t = 0 ∨ t = 1) with rfl | rfl <;> simp
theorem wired_quiet (ha : boxB 2 2 na la = true) (hb : boxB 2 2 nb lb = true) (h1 : ruleB f1 a1 s1 = true) (h2 : ruleB f2 a2 s2 = true) (qa : quiet2 la = true) (qb : quiet2 lb = true) : quiet2 (wiredL la lb f1 a1 s1 f2 a2 s2) = true := by
  have F := fun x y : Nat => fun (hx : x < 2) (hy : y < 2) => w_first ha hb h1 h2 qa qb hx hy
  have S := fun x y : Nat => fun (hx : x < 2) (hy : y < 2) => w_second ha hb h1 h2 qa qb hx hy
  have E := fun x y p : Nat => fun (hx : x < 2) (hy : y < 2) (hp : p < 4) => wired_at la lb f1 a1 s1 f2 a2 s2 hx hy hp
  have e1 : ∀ x y : Nat, x < 2 → y < 2 → onB (wiredL la lb f1 a1 s1 f2 a2 s2) 0 (x : Int) (y : Int) = wP la lb f1 a1 s1 f2 a2 s2 x y 16 2 + wP la lb f1 a1 s1 f2 a2 s2 x y 16 3 := fun x y hx hy => by
    rw [← E x y 2 hx hy (by omega), ← E x y 3 hx hy (by omega)]; rfl
  have e2 : ∀ x y : Nat, x < 2 → y < 2 → onB (wiredL la lb f1 a1 s1 f2 a2 s2) 1 (y : Int) (x : Int) = wP la lb f1 a1 s1 f2 a2 s2 x y 16 1 + wP la lb f1 a1 s1 f2 a2 s2 x y 16 3 := fun x y hx hy => by
    rw [← E x y 1 hx hy (by omega), ← E x y 3 hx hy (by omega)]; rfl
  unfold quiet2 stillB
  simp only [Bool.and_eq_true, decide_eq_true_eq]
  refine ⟨?_, ?_, ?_, ?_⟩
  · have a := e1 0 1 (by omega) (by omega); have b := e1 0 0 (by omega) (by omega)
    rw [F 0 1 (by omega) (by omega)] at a; rw [F 0 0 (by omega) (by omega)] at b
    exact a.trans b.symm
  · have a := e1 1 1 (by omega) (by omega); have b := e1 1 0 (by omega) (by omega)
    rw [F 1 1 (by omega) (by omega)] at a; rw [F 1 0 (by omega) (by omega)] at b
    exact a.trans b.symm
  · have a := e2 1 0 (by omega) (by omega); have b := e2 0 0 (by omega) (by omega)
    rw [S 1 0 (by omega) (by omega)] at a; rw [S 0 0 (by omega) (by omega)] at b
    exact a.trans b.symm
  · have a := e2 1 1 (by omega) (by omega); have b := e2 0 1 (by omega) (by omega)
    rw [S 1 1 (by omega) (by omega)] at a; rw [S 0 1 (by omega) (by omega)] at b
    exact a.trans b.symm
end

end Go.Proofs.YtefbiejoikpkmaaGreat

namespace Go.Proofs.YtefbiejoikpkmaaGreat
open Go.RowKit
set_option linter.unusedSectionVars false
variable [Glb]
open Go
/-! flipped rules, rules that pass on, plays that go through a wiring -/
theorem accT_naught : ∀ m, accT (fun _ => 0) m = 0
  | 0 => rfl
  | m + 1 => by simp only [accT, accT_naught m]; rfl
theorem accT_single (c : Int) {m0 : Nat} : ∀ {n : Nat}, m0 < n → accT (fun m => if m = m0 then c else 0) n = c
  | 0, h => by omega
  | n + 1, h => by
    by_cases e : n = m0
    · subst e
      have : accT (fun m => if m = n then c else 0) n = 0 := by
        rw [accT_congr (u := fun _ => 0) fun k hk => if_neg (by omega)]
        exact accT_naught n
      simp only [accT, this]; simp
    · have := accT_single c (m0 := m0) (n := n) (by omega)
      simp only [accT, this, if_neg e]; omega
section
variable {la lb : List (List Int)} {f1 : List Int} {a1 s1 : List (List Int)} {f2 : List Int} {a2 s2 : List (List Int)} {na nb : Int}
theorem flS_at {s : List (List Int)} {x k : Nat} (hx : x < 2) (hk : k < 4) : atZ (atZ (flS s) (x : Int)) (k : Int) = 1 - atZ (atZ s (x : Int)) (k : Int) := by
  have e : atZ (flS s) (x : Int) = nonL (atZ s (x : Int)) := by
    unfold flS
    rw [atZ_nat (by simpa using hx)]
    simp
  rw [e]
  exact rowF_atZ _ hk
/-- a flipped rule flips the answers of the first -/
theorem wP_flip (h1 : ruleB f1 a1 s1 = true) (h2 : ruleB f2 a2 s2 = true) {x y p : Nat} (hx : x < 2) (hy : y < 2) (hp : p < 4) : wP la lb f1 a1 (flS s1) f2 a2 s2 x y 16 p = wP la lb f1 a1 s1 f2 a2 s2 x y 16 (p ^^^ 2) := by
  unfold wP
  rw [accN_T, accN_T]
  refine accT_congr fun m hm => ?_
  obtain ⟨u, v⟩ := wS_bits h1 h2 (i := m / 8) (j := m / 4 % 2) (k := m / 2 % 2) (l := m % 2) hx hy (by omega) (by omega) (by omega) (by omega)
  have fs := flS_at (s := s1) (k := 2 * (m / 8) + m / 2 % 2) hx (by omega)
  have e : (wS (flS s1) s2 x y (m / 8) (m / 4 % 2) (m / 2 % 2) (m % 2) = p) ↔ (wS s1 s2 x y (m / 8) (m / 4 % 2) (m / 2 % 2) (m % 2) = p ^^^ 2) := by
    unfold wS
    rw [fs]
    generalize atZ (atZ s1 x) ((2 * (m / 8) + m / 2 % 2 : Nat) : Int) = s at u ⊢
    generalize atZ (atZ s2 y) ((2 * (m / 4 % 2) + m % 2 : Nat) : Int) = t at v ⊢
    rcases (by omega : s = 0 ∨ s = 1) with rfl | rfl <;> rcases (by omega : t = 0 ∨ t = 1) with rfl | rfl <;> rcases (by omega : p = 0 ∨ p = 1 ∨ p = 2 ∨ p = 3) with rfl | rfl | rfl | rfl <;> decide
  simp only [e]
theorem wired_flip (h1 : ruleB f1 a1 s1 = true) (h2 : ruleB f2 a2 s2 = true) : wiredL la lb f1 a1 (flS s1) f2 a2 s2 = bflL (wiredL la lb f1 a1 s1 f2 a2 s2) 2 2 [1, 1, 0, 0] := by
  unfold bflL
  conv => lhs; unfold wiredL
  refine boxF_congr (x := 2) (y := 2) fun x y p hx hy hp => ?_
  rw [wP_flip h1 h2 hx hy hp]
  unfold bflF
  have e : xor4 p (flipOf [1, 1, 0, 0] ((2 : Int).toNat : Int) (x : Int) (y : Int)) = ((p ^^^ 2 : Nat) : Int) := by
    rcases (by omega : x = 0 ∨ x = 1) with rfl | rfl <;> rcases (by omega : y = 0 ∨ y = 1) with rfl | rfl <;> rfl
  rw [e]
  exact (wired_at la lb f1 a1 s1 f2 a2 s2 hx hy (by rcases (by omega : p = 0 ∨ p = 1 ∨ p = 2 ∨ p = 3) with rfl | rfl | rfl | rfl <;> decide)).symm
end
/-- the rule that passes the first answer on, the rule that takes the late one -/
theorem wP_pass {la lb : List (List Int)} {na nb : Int} (ha : boxB 2 2 na la = true) (hb : boxB 2 2 nb lb = true) {x y p : Nat} (hx : x < 2) (hy : y < 2) (hp : p < 4) :
    wP la lb sumF sumA [sayN 1, sayN 1] sumF sumA [sayN 1, sayN 1] x y 16 p = atB la 2 (x : Int) (y : Int) (p : Int) * nb := by
  have B := (atB_bd hb (x := (x : Int)) (y := (y : Int)) (by omega) (by omega) (by omega) (by omega)).2
  have e := congrArg (atB la 2 (x : Int) (y : Int) (p : Int) * ·) B
  simp only [Int.mul_add] at e
  rw [← e]
  unfold wP
  rw [accN_T]
  rcases (by omega : x = 0 ∨ x = 1) with rfl | rfl <;> rcases (by omega : y = 0 ∨ y = 1) with rfl | rfl <;> rcases (by omega : p = 0 ∨ p = 1 ∨ p = 2 ∨ p = 3) with rfl | rfl | rfl | rfl <;>
    simp [accT, wS, wV, sumF, sumA, sayN, atZ]
theorem wP_late {la lb : List (List Int)} {na nb : Int} (ha : boxB 2 2 na la = true) (hb : boxB 2 2 nb lb = true) {x y p : Nat} (hx : x < 2) (hy : y < 2) (hp : p < 4) :
    wP la lb sumF sumA [sayN 2, sayN 2] sumF sumA [sayN 2, sayN 2] x y 16 p = na * atB lb 2 (x : Int) (y : Int) (p : Int) := by
  have B := (atB_bd ha (x := (x : Int)) (y := (y : Int)) (by omega) (by omega) (by omega) (by omega)).2
  have e := congrArg (· * atB lb 2 (x : Int) (y : Int) (p : Int)) B
  simp only [Int.add_mul] at e
  rw [← e]
  unfold wP
  rw [accN_T]
  rcases (by omega : x = 0 ∨ x = 1) with rfl | rfl <;> rcases (by omega : y = 0 ∨ y = 1) with rfl | rfl <;> rcases (by omega : p = 0 ∨ p = 1 ∨ p = 2 ∨ p = 3) with rfl | rfl | rfl | rfl <;>
    simp [accT, wS, wV, sumF, sumA, sayN, atZ]
theorem alike_of {la lb : List (List Int)} {na nb : Int} (hl : la.length = 4) (h : ∀ x y p : Nat, x < 2 → y < 2 → p < 4 → atB la 2 (x : Int) (y : Int) (p : Int) * nb = atB lb 2 (x : Int) (y : Int) (p : Int) * na) : alikeB la na lb nb = true := by
  unfold alikeB
  rw [hl]
  simp only [List.all_eq_true, List.mem_range, decide_eq_true_eq]
  intro q hq k hk
  have := h (q / 2) (q % 2) k (by omega) (by omega) hk
  unfold atB at this
  rw [show ((q / 2 : Nat) : Int) * 2 + ((q % 2 : Nat) : Int) = (q : Int) by omega] at this
  exact this
@[simp] theorem wiredL_len (la lb : List (List Int)) (f1 : List Int) (a1 s1 : List (List Int)) (f2 : List Int) (a2 s2 : List (List Int)) : (wiredL la lb f1 a1 s1 f2 a2 s2).length = 4 := by simp [wiredL]
theorem pass_alike {la lb : List (List Int)} {na nb : Int} (ha : boxB 2 2 na la = true) (hb : boxB 2 2 nb lb = true) : alikeB (wiredL la lb sumF sumA [sayN 1, sayN 1] sumF sumA [sayN 1, sayN 1]) (na * nb) la na = true :=
  alike_of (wiredL_len ..) fun x y p hx hy hp => by rw [wired_at _ _ _ _ _ _ _ _ hx hy hp, wP_pass ha hb hx hy hp, Int.mul_assoc, Int.mul_comm nb na]
theorem late_alike {la lb : List (List Int)} {na nb : Int} (ha : boxB 2 2 na la = true) (hb : boxB 2 2 nb lb = true) : alikeB (wiredL la lb sumF sumA [sayN 2, sayN 2] sumF sumA [sayN 2, sayN 2]) (na * nb) lb nb = true :=
  alike_of (wiredL_len ..) fun x y p hx hy hp => by rw [wired_at _ _ _ _ _ _ _ _ hx hy hp, wP_late ha hb hx hy hp, Int.mul_comm na, Int.mul_assoc]
/-- plays that go through -/
theorem play_at {one : List Int} (h : bitsB one 2 = true) (wh : Int) {x y i j : Nat} (hx : x < 2) (hy : y < 2) (hi : i < 2) (hj : j < 2) :
    atB (playL (one ++ one) 2 2 wh) 2 (x : Int) (y : Int) ((2 * i + j : Nat) : Int) = if atZ one (x : Int) = (i : Int) ∧ atZ one (y : Int) = (j : Int) then wh else 0 := by
  have hl := bitsB_len h
  unfold atB playL
  have e : (x : Int) * 2 + y = ((x * 2 + y : Nat) : Int) := by omega
  have e2 : boxF (playF (one ++ one) (2 : Int).toNat wh) (2 : Int).toNat ((2 : Int).toNat * (2 : Int).toNat) = boxF (playF (one ++ one) 2 wh) 2 4 := rfl
  rw [e, e2, boxF_at (by omega), rowF_atZ _ (by omega), show (x * 2 + y) / 2 = x by omega, show (x * 2 + y) % 2 = y by omega]
  unfold playF
  rw [show (2 * i + j) / 2 = i by omega, show (2 * i + j) % 2 = j by omega, atZ_left (by omega), atZ_right (n := 2) (by omega) (by omega)]
theorem wP_play {f : List Int} {a s : List (List Int)} {one two : List Int} (h : thrB f a s one two = true) {x y p : Nat} (hx : x < 2) (hy : y < 2) (hp : p < 4) :
    wP (playL (one ++ one) 2 2 1) (playL (two ++ two) 2 2 2) f a s f a s x y 16 p = if 2 * thrF f a s one two x + thrF f a s one two y = (p : Int) then 2 else 0 := by
  have h' := h
  simp only [thrB, Bool.and_eq_true] at h'
  obtain ⟨hr, h1, h2⟩ := h'
  have tx := thr_ok h hx
  have ty := thr_ok h hy
  have f0 := tx.f0; have a0 := tx.a0; have k0 := tx.k0; have c0 := tx.c0; have t0 := tx.t0
  have g0 := ty.f0; have b0 := ty.a0; have l0 := ty.k0; have d0 := ty.c0; have u0 := ty.t0
  unfold wP
  rw [accN_T]
  unfold thrF at *
  unfold wV wS
  generalize ha : atZ a (x : Int) = ax at *
  generalize hb : atZ a (y : Int) = ay at *
  generalize hsx : atZ s (x : Int) = sx at *
  generalize hsy : atZ s (y : Int) = sy at *
  obtain ⟨F, hF⟩ := Int.eq_ofNat_of_zero_le f0.1
  obtain ⟨G, hG⟩ := Int.eq_ofNat_of_zero_le g0.1
  rw [hF] at f0 a0 k0 c0 t0 ⊢
  rw [hG] at g0 b0 l0 d0 u0 ⊢
  obtain ⟨I, hI⟩ := Int.eq_ofNat_of_zero_le a0.1
  obtain ⟨J, hJ⟩ := Int.eq_ofNat_of_zero_le b0.1
  rw [hI] at a0 k0 c0 t0 ⊢
  rw [hJ] at b0 l0 d0 u0 ⊢
  obtain ⟨A, hA⟩ := Int.eq_ofNat_of_zero_le k0.1
  obtain ⟨B, hB⟩ := Int.eq_ofNat_of_zero_le l0.1
  rw [hA] at k0 c0 t0 ⊢
  rw [hB] at l0 d0 u0 ⊢
  obtain ⟨K, hK⟩ := Int.eq_ofNat_of_zero_le c0.1
  obtain ⟨L, hL⟩ := Int.eq_ofNat_of_zero_le d0.1
  rw [hK] at c0 t0 ⊢
  rw [hL] at d0 u0 ⊢
  have S : ((2 * atZ sx (2 * (I : Int) + (K : Int)) + atZ sy (2 * (J : Int) + (L : Int))).toNat = p) ↔ (2 * atZ sx (2 * (I : Int) + (K : Int)) + atZ sy (2 * (J : Int) + (L : Int)) = (p : Int)) := by omega
  refine Eq.trans (accT_congr fun m hm => ?_) (accT_single _ (m0 := 8 * I + 4 * J + 2 * K + L) (n := 16) (by omega))
  by_cases e : m = 8 * I + 4 * J + 2 * K + L
  · have e1 : m / 8 = I := by omega
    have e2 : m / 4 % 2 = J := by omega
    have e3 : m / 2 % 2 = K := by omega
    have e4 : m % 2 = L := by omega
    rw [if_pos e, e1, e2, e3, e4, play_at h1 1 (by omega) (by omega) (by omega) (by omega), hA, hB, play_at h2 2 (by omega) (by omega) (by omega) (by omega)]
    rw [show ((2 * I + K : Nat) : Int) = 2 * (I : Int) + K by omega, show ((2 * J + L : Nat) : Int) = 2 * (J : Int) + L by omega]
    simp only [hI, hJ, hK, hL, and_self, if_true, Int.one_mul, S]
  · rw [if_neg e]
    rw [play_at h1 1 (by omega) (by omega) (by omega) (by omega), hI, hJ]
    by_cases c : (I : Int) = ((m / 8 : Nat) : Int) ∧ (J : Int) = ((m / 4 % 2 : Nat) : Int)
    · have hneg : ¬ ((K : Int) = ((m / 2 % 2 : Nat) : Int) ∧ (L : Int) = ((m % 2 : Nat) : Int)) := by omega
      rw [← c.1, ← c.2, hA, hB, play_at h2 2 (by omega) (by omega) (by omega) (by omega), hK, hL]
      simp only [hneg, if_false, Int.mul_zero, ite_self]
    · simp only [if_neg c, Int.zero_mul, ite_self]
theorem tell_play {f : List Int} {a s : List (List Int)} {one two : List Int} (h : thrB f a s one two = true) :
    tellL (wiredL (playL (one ++ one) 2 2 1) (playL (two ++ two) 2 2 2) f a s f a s) 2 = thrL f a s one two ++ thrL f a s one two := by
  have t0 := (thr_ok h (x := 0) (by omega)).t0
  have t1 := (thr_ok h (x := 1) (by omega)).t0
  have W := fun x y p : Nat => fun (hx : x < 2) (hy : y < 2) (hp : p < 4) => (wired_at (playL (one ++ one) 2 2 1) (playL (two ++ two) 2 2 2) f a s f a s hx hy hp).trans (wP_play h hx hy hp)
  have e : thrL f a s one two ++ thrL f a s one two = rowF (fun k => thrF f a s one two (k % 2)) 4 := rfl
  rw [e]
  refine rowF_congr fun k hk => ?_
  unfold tellF onB
  have w00 := fun p : Nat => W 0 0 p (by omega) (by omega)
  have w10 := fun p : Nat => W 1 0 p (by omega) (by omega)
  have w01 := fun p : Nat => W 0 1 p (by omega) (by omega)
  generalize wiredL (playL (one ++ one) 2 2 1) (playL (two ++ two) 2 2 2) f a s f a s = L at *
  have a2 := w00 2 (by omega); have a3 := w00 3 (by omega); have a1 := w00 1 (by omega)
  have b2 := w10 2 (by omega); have b3 := w10 3 (by omega)
  have c1 := w01 1 (by omega); have c3 := w01 3 (by omega)
  simp only [Int.natCast_zero, Int.natCast_one, Int.cast_ofNat_Int] at a1 a2 a3 b2 b3 c1 c3
  rcases (by omega : k = 0 ∨ k = 1 ∨ k = 2 ∨ k = 3) with rfl | rfl | rfl | rfl <;> simp only [Nat.reduceDiv, Nat.reduceMod, Nat.zero_div, Nat.zero_mod, Int.natCast_zero, Int.natCast_one, if_true, Int.reduceEq, if_false, Int.one_ne_zero, a1, a2, a3, b2, b3, c1, c3]
  all_goals generalize thrF f a s one two 0 = u at *
  all_goals generalize thrF f a s one two 1 = v at *
  all_goals (rcases (by omega : u = 0 ∨ u = 1) with rfl | rfl <;> rcases (by omega : v = 0 ∨ v = 1) with rfl | rfl <;> rfl)
theorem tell_alike {f : List Int} {a s : List (List Int)} {one two : List Int} (h : thrB f a s one two = true) :
    alikeB (wiredL (playL (one ++ one) 2 2 1) (playL (two ++ two) 2 2 2) f a s f a s) 2 (playL (thrL f a s one two ++ thrL f a s one two) 2 2 1) 1 = true := by
  refine alike_of (wiredL_len ..) fun x y p hx hy hp => ?_
  rw [wired_at _ _ _ _ _ _ _ _ hx hy hp, wP_play h hx hy hp]
  have t0 := (thr_ok h hx).t0
  have t1 := (thr_ok h hy).t0
  have P := play_at (thr_bits h) 1 (i := p / 2) (j := p % 2) hx hy (by omega) (by omega)
  have ax : atZ (thrL f a s one two) (x : Int) = thrF f a s one two x := rowF_atZ _ hx
  have ay : atZ (thrL f a s one two) (y : Int) = thrF f a s one two y := rowF_atZ _ hy
  rw [show 2 * (p / 2) + p % 2 = p by omega, ax, ay] at P
  rw [P]
  generalize thrF f a s one two x = u at *
  generalize thrF f a s one two y = v at *
  split <;> split <;> omega

end Go.Proofs.YtefbiejoikpkmaaGreat

namespace Go.Proofs.YtefbiejoikpkmaaGreat
open Go.RowKit
set_option linter.unusedSectionVars false
variable [Glb]
set_option maxRecDepth 10000
set_option maxHeartbeats 4000000
theorem rBig_p (code : Tx) : PC Tryz.prog 7 [.c (eB code)] (.p (.c (dB (decide ((code.length : Int) > 65536))))) := by
  refine pc_intro Tryz.func7 rfl rfl rfl (by kernel_rfl) rfl rfl ?_; intro _
  repeat' (first | (refine so_is (.assign _) ?_; (refine so_q (qt_asC rfl) rfl ?_)) | (refine so_is (.move _) ?_; (refine so_q (qt_mvC rfl) rfl ?_)) | (refine so_is (.call ⟨.builtin .len, _, #[22]⟩) ?_; (refine so_q (qt_len_d rfl (by kernel_rfl)) rfl ?_)) | (refine so_is (.binOp .gtr 3 _ _ _) ?_; refine so_q (qt_gtr rfl rfl) rfl ?_) | refine so_nil ?_ | refine sk_seq ?_ | refine sk_region ?_)
  all_goals (apply sk_ret; apply ret_eq; (· apply RetOK.p; (· (apply GvA.cons; (· exact .tmp _); (· exact GvP.c (.lit _))); exact GvA.nil); (· (decide))))
  all_goals rfl

end Go.Proofs.YtefbiejoikpkmaaGreat

namespace Go.Proofs.YtefbiejoikpkmaaGreat
open Go.RowKit
set_option linter.unusedSectionVars false
variable [Glb]
set_option maxRecDepth 10000
set_option maxHeartbeats 4000000
theorem rInts_p (a b : List Int) : PC Tryz.prog 26 [.c (eI a), .c (eI b)] (.p (.c (dB (decide (a = b))))) := by
  refine pc_intro Tryz.func26 rfl rfl rfl (by kernel_rfl) rfl rfl ?_; rintro ⟨hl, hm, -⟩
  have hl := hl.len
  have hm := hm.len
  repeat' (first | (refine so_is (.assign _) ?_; (refine so_q (qt_asC rfl) rfl ?_)) | (refine so_is (.move _) ?_; (refine so_q (qt_mvC rfl) rfl ?_)) | (refine so_is (.call ⟨.builtin .len, _, #[27]⟩) ?_; (refine so_q (qt_len_d rfl (by kernel_rfl)) rfl ?_)) | (refine so_is (.binOp .neq 3 _ _ _) ?_; refine so_q (qt_neq rfl rfl) rfl ?_) | refine so_nil ?_ | refine sk_seq ?_ | refine sk_block ?_ | refine sk_skip ?_ | refine sk_region ?_ | refine sk_if rfl (fun hc => ?_) (fun hc => ?_))
  · (apply sk_ret; apply ret_eq; (· apply RetOK.p; (· (apply GvA.cons; (· exact .tmp _); (· exact GvP.c (.lit _))); exact GvA.nil); (· (decide))))
    have : a ≠ b := fun e => by subst e; simp at *
    simp [this]
  have hab : a.length = b.length := by simp at *; omega
  apply sk_packC [0, 1, 5] [] rfl; (· (repeat (first | exact Pf.nil | apply Pf.cons (.c rfl (.d rfl))))); (· (repeat (exact Pb.nil)))
  refine sk_loopL [0, 1] [] (fun k => [(5, iN k)]) (fun _ => []) (fun k => k ≤ a.length ∧ a.take k = b.take k) (fun k => a.length - k) (0) ?_ (by (repeat (first | exact trivial | refine ⟨(by (rfl)), ?_⟩))) (by (repeat (exact trivial))) ?_
  · simp
  rintro k ⟨hk, hs⟩
  repeat' (first | (refine so_is (.assign _) ?_; (refine so_q (qt_asC rfl) rfl ?_)) | (refine so_is (.move _) ?_; (refine so_q (qt_mvC rfl) rfl ?_)) | (refine so_is (.call ⟨.builtin .len, _, #[27]⟩) ?_; (refine so_q (qt_len_d rfl (by kernel_rfl)) rfl ?_)) | (refine so_is (.binOp .neq 3 _ _ _) ?_; refine so_q (qt_neq rfl rfl) rfl ?_) | (refine so_is (.binOp .lss 3 _ _ _) ?_; refine so_q (qt_lss rfl rfl) rfl ?_) | (refine so_is (.indexAddr 27 _ _) ?_; (refine so_q (qt_idxI rfl rfl (by kernel_rfl) (by (omega)) (by (omega))) rfl ?_)) | (refine so_is (.load 3 _) ?_; (refine so_q (qt_load_pt rfl (by kernel_rfl) rfl) rfl ?_)) | (refine so_is (.binOp .add 3 _ _ _) ?_; refine so_q (qt_addI rfl rfl (by (omega))) rfl ?_) | refine so_nil ?_ | refine sk_seq ?_ | refine sk_block ?_ | refine sk_blk ?_ | refine sk_exit rfl ?_ | refine sk_skip ?_ | refine sk_region ?_ | refine sk_drawQ 6 (fun _ => false) (.step 0 true (.step 1 true (.step 2 true (.step 3 true (.step 4 true (.step 5 true (.step 6 true (.step 7 true (.step 8 true .nil))))))))) [(0, 511, 511, true), (0, 511, 511, true), (3, 508, 511, true), (4, 507, 511, false), (0, 511, 511, true), (0, 511, 511, true), (48, 463, 511, true), (64, 447, 511, false), (136, 375, 511, true)] (by kernel_rfl) (by kernel_rfl) ?_ | refine sk_if rfl (fun hc => ?_) (fun hc => ?_))
  · rename_i hk'
    rw [atZ_nat (by omega), atZ_nat (by omega)] at hc
    (apply sk_ret; apply ret_eq; (· apply RetOK.p; (· (apply GvA.cons; (· exact .tmp _); (· exact GvP.c (.lit _))); exact GvA.nil); (· (decide))))
    have : a ≠ b := fun e => by subst e; exact hc rfl
    simp [this]
  · rename_i hk'
    rw [atZ_nat (by omega), atZ_nat (by omega)] at hc
    refine sk_back ?_; refine ⟨k + 1, ?_, ?_, le_at rfl (by (repeat (first | exact trivial | refine ⟨(by (rfl)), ?_⟩))) (by (repeat (first | exact trivial | refine ⟨rfl, ?_⟩))) (by (repeat (exact trivial))) (by (repeat (exact trivial)))⟩
    · exact ⟨by omega, by rw [List.take_succ_eq_append_getElem (by omega), List.take_succ_eq_append_getElem (by omega), hs]; simp at hc; rw [hc]⟩
    · omega
  · have e : k = a.length := by omega
    subst e
    rw [List.take_length, hab, List.take_length] at hs
    (apply sk_ret; apply ret_eq; (· apply RetOK.p; (· (apply GvA.cons; (· exact .tmp _); (· exact GvP.c (.lit _))); exact GvA.nil); (· (decide))))
    simp [hs]
theorem rInts_same (a : List Int) : PC Tryz.prog 26 [.c (eI a), .c (eI a)] (.p (.c (dB true))) := by
  have := rInts_p a a; rwa [decide_eq_true rfl] at this

end Go.Proofs.YtefbiejoikpkmaaGreat

namespace Go.Proofs.YtefbiejoikpkmaaGreat
open Go.RowKit
set_option linter.unusedSectionVars false
variable [Glb]
set_option maxRecDepth 10000
set_option maxHeartbeats 4000000
theorem rTable_p (a b : List (List Int)) : PC Tryz.prog 76 [.c (eII a), .c (eII b)] (.p (.c (dB (decide (a = b))))) := by
  refine pc_intro Tryz.func76 rfl rfl rfl (by kernel_rfl) rfl rfl ?_; rintro ⟨hl, hm, -⟩
  have hl := hl.len
  have hm := hm.len
  repeat' (first | (refine so_is (.assign _) ?_; (refine so_q (qt_asC rfl) rfl ?_)) | (refine so_is (.move _) ?_; (refine so_q (qt_mvC rfl) rfl ?_)) | (refine so_is (.call ⟨.builtin .len, _, #[24]⟩) ?_; (refine so_q (qt_len_d rfl (by kernel_rfl)) rfl ?_)) | (refine so_is (.binOp .neq 3 _ _ _) ?_; refine so_q (qt_neq rfl rfl) rfl ?_) | refine so_nil ?_ | refine sk_seq ?_ | refine sk_block ?_ | refine sk_skip ?_ | refine sk_region ?_ | refine sk_if rfl (fun hc => ?_) (fun hc => ?_))
  · (apply sk_ret; apply ret_eq; (· apply RetOK.p; (· (apply GvA.cons; (· exact .tmp _); (· exact GvP.c (.lit _))); exact GvA.nil); (· (decide))))
    have : a ≠ b := fun e => by subst e; simp at *
    simp [this]
  have hab : a.length = b.length := by simp at *; omega
  apply sk_packC [0, 1, 5] [] rfl; (· (repeat (first | exact Pf.nil | apply Pf.cons (.c rfl (.d rfl))))); (· (repeat (exact Pb.nil)))
  refine sk_loopL [0, 1] [] (fun k => [(5, iN k)]) (fun _ => []) (fun k => k ≤ a.length ∧ a.take k = b.take k) (fun k => a.length - k) (0) ?_ (by (repeat (first | exact trivial | refine ⟨(by (rfl)), ?_⟩))) (by (repeat (exact trivial))) ?_
  · simp
  rintro k ⟨hk, hs⟩
  repeat' (first | (refine so_is (.assign _) ?_; (refine so_q (qt_asC rfl) rfl ?_)) | (refine so_is (.move _) ?_; (refine so_q (qt_mvC rfl) rfl ?_)) | (refine so_is (.call ⟨.builtin .len, _, #[24]⟩) ?_; (refine so_q (qt_len_d rfl (by kernel_rfl)) rfl ?_)) | (refine so_is (.binOp .lss 3 _ _ _) ?_; refine so_q (qt_lss rfl rfl) rfl ?_) | (refine so_is (.indexAddr 24 _ _) ?_; (refine so_q (qt_idxII rfl rfl (by kernel_rfl) (by (omega)) (by (omega))) rfl ?_)) | (refine so_is (.load 27 _) ?_; (refine so_q (qt_load_pt rfl (by kernel_rfl) rfl) rfl ?_)) | (refine so_is (.unOp .not 4 _) ?_; refine so_q (qt_not rfl) rfl ?_) | (refine so_is (.binOp .add 3 _ _ _) ?_; refine so_q (qt_addI rfl rfl (by (omega))) rfl ?_) | (refine so_is (.call ⟨.value (.func 26), _, _⟩) ?_; (apply so_call0 (fid := 26); (· (repeat (first | exact SeA.nil | apply SeA.cons (.c (.d _))))); (· exact rInts_p _ _); (· rfl))) | refine so_nil ?_ | refine sk_seq ?_ | refine sk_block ?_ | refine sk_blk ?_ | refine sk_exit rfl ?_ | refine sk_skip ?_ | refine sk_region ?_ | refine sk_drawQ 6 (fun _ => false) (.step 0 true (.step 1 true (.step 2 true (.step 3 true (.step 4 true (.step 5 true (.step 6 true (.step 7 true (.step 8 false (.step 9 true .nil)))))))))) [(0, 1023, 1023, true), (0, 1023, 1023, true), (3, 1020, 1023, true), (4, 1019, 1023, false), (0, 1023, 1023, true), (0, 1023, 1023, true), (48, 975, 1023, true), (64, 959, 1023, false), (136, 887, 1023, false), (256, 767, 1023, true)] (by kernel_rfl) (by kernel_rfl) ?_ | refine sk_if rfl (fun hc => ?_) (fun hc => ?_) | refine sk_nif rfl (fun hc => ?_) (fun hc => ?_))
  · rename_i hk'
    rw [atZ_nat (by omega), atZ_nat (by omega)] at hc
    (apply sk_ret; apply ret_eq; (· apply RetOK.p; (· (apply GvA.cons; (· exact .tmp _); (· exact GvP.c (.lit _))); exact GvA.nil); (· (decide))))
    have : a ≠ b := fun e => by subst e; simp at hc
    simp [this]
  · rename_i hk'
    rw [atZ_nat (by omega), atZ_nat (by omega)] at hc
    refine sk_back ?_; refine ⟨k + 1, ?_, ?_, le_at rfl (by (repeat (first | exact trivial | refine ⟨(by (rfl)), ?_⟩))) (by (repeat (first | exact trivial | refine ⟨rfl, ?_⟩))) (by (repeat (exact trivial))) (by (repeat (exact trivial)))⟩
    · exact ⟨by omega, by rw [List.take_succ_eq_append_getElem (by omega), List.take_succ_eq_append_getElem (by omega), hs, hc]⟩
    · omega
  · have e : k = a.length := by omega
    subst e
    rw [List.take_length, hab, List.take_length] at hs
    (apply sk_ret; apply ret_eq; (· apply RetOK.p; (· (apply GvA.cons; (· exact .tmp _); (· exact GvP.c (.lit _))); exact GvA.nil); (· (decide))))
    simp [hs]
theorem rTable_same (a : List (List Int)) : PC Tryz.prog 76 [.c (eII a), .c (eII a)] (.p (.c (dB true))) := by
  have := rTable_p a a; rwa [decide_eq_true rfl] at this

end Go.Proofs.YtefbiejoikpkmaaGreat

namespace Go.Proofs.YtefbiejoikpkmaaGreat
open Go.RowKit
set_option linter.unusedSectionVars false
variable [Glb]
set_option maxRecDepth 10000
set_option maxHeartbeats 4000000
theorem rBox_same (x y wh : Int) (ll : List (List Int)) : PC Tryz.prog 11 [.g [dI x, dI y, dI wh, eII ll], .g [dI x, dI y, dI wh, eII ll]] (.p (.c (dB true))) := by
  refine pc_intro Tryz.func11 rfl rfl rfl (by kernel_rfl) rfl rfl ?_; intro _
  repeat' (first | (refine so_is (.box 26 _) ?_; refine so_box rfl rfl ?_) | (refine so_is (.assign _) ?_; (refine so_q (qt_asC rfl) rfl ?_)) | (refine so_is (.fieldAddr 26 _ 0) ?_; (refine so_q (qt_fld_lp (off := 0) rfl (by kernel_rfl)) rfl ?_)) | (refine so_is (.load 3 _) ?_; (refine so_q (qt_load_box rfl rfl (by kernel_rfl) rfl) rfl ?_)) | (refine so_is (.binOp .eql 3 _ _ _) ?_; refine so_q (qt_eql rfl rfl) rfl ?_) | (refine so_is (.move _) ?_; (refine so_q (qt_mvC rfl) rfl ?_)) | (refine so_is (.fieldAddr 26 _ 1) ?_; (refine so_q (qt_fld_lp (off := 1) rfl (by kernel_rfl)) rfl ?_)) | (refine so_is (.pick _ _ _) ?_; (refine so_q (qt_pkC rfl rfl) rfl ?_)) | (refine so_is (.fieldAddr 26 _ 2) ?_; (refine so_q (qt_fld_lp (off := 2) rfl (by kernel_rfl)) rfl ?_)) | (refine so_is (.fieldAddr 26 _ 3) ?_; (refine so_q (qt_fld_lp (off := 3) rfl (by kernel_rfl)) rfl ?_)) | (refine so_is (.load 24 _) ?_; (refine so_q (qt_load_box rfl rfl (by kernel_rfl) rfl) rfl ?_)) | (refine so_is (.call ⟨.value (.func 76), _, _⟩) ?_; (apply so_call0 (fid := 76); (· (repeat (first | exact SeA.nil | apply SeA.cons (.c (.d _))))); (· exact rTable_same _); (· rfl))) | refine so_nil ?_ | refine so_g_no rfl rfl rfl rfl ?_ | refine so_g_yes rfl rfl rfl rfl ?_ | refine so_g_if rfl rfl (fun hg => ?_) (fun hg => ?_) | refine sk_seq ?_ | refine sk_region ?_)
  all_goals first | (exfalso; simp_all; done) | skip
  all_goals (apply sk_ret; apply ret_eq; (· apply RetOK.p; (· (apply GvA.cons; (· exact .tmp _); (· exact GvP.c (.lit _))); exact GvA.nil); (· (decide))))
  all_goals simp

end Go.Proofs.YtefbiejoikpkmaaGreat

namespace Go.Proofs.YtefbiejoikpkmaaGreat
open Go.RowKit
set_option linter.unusedSectionVars false
variable [Glb]
set_option maxRecDepth 10000
set_option maxHeartbeats 4000000
theorem rRule_same (f : List Int) (a s : List (List Int)) : PC Tryz.prog 15 [.g [eI f, eII a, eII s], .g [eI f, eII a, eII s]] (.p (.c (dB true))) := by
  refine pc_intro Tryz.func15 rfl rfl rfl (by kernel_rfl) rfl rfl ?_; intro _
  repeat' (first | (refine so_is (.box 29 _) ?_; refine so_box rfl rfl ?_) | (refine so_is (.assign _) ?_; (refine so_q (qt_asC rfl) rfl ?_)) | (refine so_is (.fieldAddr 29 _ 0) ?_; (refine so_q (qt_fld_lp (off := 0) rfl (by kernel_rfl)) rfl ?_)) | (refine so_is (.load 27 _) ?_; (refine so_q (qt_load_box rfl rfl (by kernel_rfl) rfl) rfl ?_)) | (refine so_is (.move _) ?_; (refine so_q (qt_mvC rfl) rfl ?_)) | (refine so_is (.fieldAddr 29 _ 1) ?_; (refine so_q (qt_fld_lp (off := 1) rfl (by kernel_rfl)) rfl ?_)) | (refine so_is (.load 24 _) ?_; (refine so_q (qt_load_box rfl rfl (by kernel_rfl) rfl) rfl ?_)) | (refine so_is (.pick _ _ _) ?_; (refine so_q (qt_pkC rfl rfl) rfl ?_)) | (refine so_is (.fieldAddr 29 _ 2) ?_; (refine so_q (qt_fld_lp (off := 2) rfl (by kernel_rfl)) rfl ?_)) | (refine so_is (.call ⟨.value (.func 26), _, _⟩) ?_; (apply so_call0 (fid := 26); (· (repeat (first | exact SeA.nil | apply SeA.cons (.c (.d _))))); (· exact rInts_same _); (· rfl))) | (refine so_is (.call ⟨.value (.func 76), _, _⟩) ?_; (apply so_call0 (fid := 76); (· (repeat (first | exact SeA.nil | apply SeA.cons (.c (.d _))))); (· exact rTable_same _); (· rfl))) | refine so_nil ?_ | refine so_g_yes rfl rfl rfl rfl ?_ | refine sk_seq ?_ | refine sk_region ?_)
  all_goals first | (exfalso; simp_all; done) | skip
  all_goals (apply sk_ret; apply ret_eq; (· apply RetOK.p; (· (apply GvA.cons; (· exact .tmp _); (· exact GvP.c (.lit _))); exact GvA.nil); (· (decide))))
  all_goals simp

end Go.Proofs.YtefbiejoikpkmaaGreat

namespace Go.Proofs.YtefbiejoikpkmaaGreat
open Go.RowKit
set_option linter.unusedSectionVars false
variable [Glb]
set_option maxRecDepth 10000
set_option maxHeartbeats 4000000
abbrev dW (n : Int) : D := .lit (.int .u64 n)
abbrev CurB (code : Tx) (a s : Int) : List BC := [.k (eB code), .o (dI a), .o (dW s)]
def CurR (a N : Int) (Q : Res → Prop) (ds : List D) (res : Res) : Prop := ∃ a' s', (a ≤ a' ∧ a' ≤ a + N) ∧ ds = [dI a', dW s'] ∧ Q res
theorem emod_bd {x n : Int} (hx : 0 ≤ x) (hn : 1 < n) : 0 ≤ x % n ∧ x % n < n ∧ x % n ≤ x := by
  refine ⟨Int.emod_nonneg _ (by omega), Int.emod_lt_of_pos _ (by omega), ?_⟩
  have h1 := Int.emod_add_mul_ediv x n
  have h2 : 0 ≤ n * (x / n) := Int.mul_nonneg (by omega) (Int.ediv_nonneg hx (by omega))
  omega
theorem pick_bd {x n : Int} (h0 : 0 ≤ x) (h1 : x ≤ 65535) (hn : 1 < n) : 0 ≤ x % n ∧ x % n ≤ 65535 ∧ (n ≤ 1 → x % n = 0) ∧ (1 < n → x % n < n) := by
  have := emod_bd h0 hn
  omega
theorem curNext_p (code : Tx) (a s : Int) (h0 : 0 ≤ a) (h1 : a ≤ 4611686018427387904) : PX Tryz.prog 186 (CurB code a s) [] (CurR a 1 fun res => ∃ x : Int, (0 ≤ x ∧ x ≤ 255) ∧ res = .p (.c (dI x))) := by
  have hb := byt_lt code a
  refine px_intro Tryz.func186 rfl rfl rfl (by kernel_rfl) rfl rfl rfl ?_; intro kv
  repeat' (first | (refine so_is (.assign _) ?_; (refine so_q (qt_asC rfl) rfl ?_)) | (refine so_is (.move _) ?_; (refine so_q (qt_mvC rfl) rfl ?_)) | (refine so_is (.nilCheck _) ?_; (refine so_q (qt_nilCheck_lp rfl) rfl ?_)) | (refine so_is (.fieldAddr 106 _ 1) ?_; (refine so_q (qt_fld_lp (off := 1) rfl (by kernel_rfl)) rfl ?_)) | (refine so_is (.load 3 _) ?_; (refine so_q (qt_load_box rfl rfl (by kernel_rfl) rfl) rfl ?_)) | (refine so_is (.fieldAddr 106 _ 0) ?_; (refine so_q (qt_fld_lp (off := 0) rfl (by kernel_rfl)) rfl ?_)) | (refine so_is (.load 22 _) ?_; (refine so_q (qt_load_same rfl rfl (by kernel_rfl) rfl) rfl ?_)) | (refine so_is (.call ⟨.builtin .len, _, #[22]⟩) ?_; (refine so_q (qt_len_d rfl (by kernel_rfl)) rfl ?_)) | (refine so_is (.binOp .lss 3 _ _ _) ?_; refine so_q (qt_lss rfl rfl) rfl ?_) | (refine so_is (.indexAddr 22 _ _) ?_; (refine so_q (qt_idxY rfl rfl (by kernel_rfl) (by (omega)) (by (omega))) rfl ?_)) | (refine so_is (.load 5 _) ?_; (refine so_q (qt_load_pt rfl (by kernel_rfl) rfl) rfl ?_)) | (refine so_is (.convert 5 3 _) ?_; (refine so_q (qt_convI (k' := .i64) rfl (by kernel_rfl) (by kernel_rfl) (by (exact IntWalk.i64_in _ (by (omega))))) rfl ?_)) | (refine so_is (.binOp .add 3 _ _ _) ?_; refine so_q (qt_addI rfl rfl (by (omega))) rfl ?_) | (refine so_is (.store 3 _ _) ?_; (refine so_store_box1 rfl rfl rfl rfl (by kernel_rfl) rfl rfl ?_)) | (refine so_is (.fieldAddr 106 _ 2) ?_; (refine so_q (qt_fld_lp (off := 2) rfl (by kernel_rfl)) rfl ?_)) | (refine so_is (.load 104 _) ?_; (refine so_q (qt_load_box rfl rfl (by kernel_rfl) rfl) rfl ?_)) | (refine so_is (.binOp .mul 104 _ _ _) ?_; refine so_q (qt_mul rfl rfl) rfl ?_) | (refine so_is (.convert 3 104 _) ?_; (refine so_q (qt_convI (k' := .u64) rfl (by kernel_rfl) (by kernel_rfl) (by (first | rfl | exact wrapU64 (by (omega))))) rfl ?_)) | (refine so_is (.binOp .add 104 _ _ _) ?_; refine so_q (qt_add rfl rfl) rfl ?_) | (refine so_is (.store 104 _ _) ?_; (refine so_store_box1 rfl rfl rfl rfl (by kernel_rfl) rfl rfl ?_)) | (refine so_is (.binOp .leq 3 _ _ _) ?_; refine so_q (qt_leq rfl rfl) rfl ?_) | (refine so_is (.binOp .shr 104 _ _ _) ?_; refine so_q (qt_shrC (c := 1099511627776) rfl rfl (by decide)) rfl ?_) | (refine so_is (.binOp .and 104 _ _ _) ?_; refine so_q (qt_andMU 8 (c := 256) rfl rfl (by decide)) rfl ?_) | (refine so_is (.convert 104 3 _) ?_; (refine so_q (qt_convI (k' := .i64) rfl (by kernel_rfl) (by kernel_rfl) (by (exact IntWalk.i64_in _ (by (omega))))) rfl ?_)) | refine so_nil ?_ | refine sk_seq ?_ | refine sk_skip ?_ | refine sk_region ?_ | refine sk_drawQ 2 (fun _ => false) (.step 0 true (.step 1 true (.step 2 true (.step 3 true (.step 4 true (.step 5 true (.step 6 true (.step 7 true (.step 8 true (.step 9 true .nil)))))))))) [(0, 1023, 1023, true), (1, 1022, 1023, true), (2, 1021, 1023, true), (4, 1019, 1023, false), (0, 1023, 1023, true), (16, 1007, 1023, true), (32, 991, 1023, true), (64, 959, 1023, false), (128, 895, 1023, true), (264, 759, 1023, true)] (by kernel_rfl) (by kernel_rfl) ?_ | refine sk_drawQ 3 (fun _ => false) (.step 0 true (.step 1 true (.step 2 true (.step 3 true (.step 4 true (.step 5 true (.step 6 true (.step 7 true (.step 8 true (.step 9 true (.step 10 true (.step 11 true .nil)))))))))))) [(0, 4095, 4095, true), (1, 4094, 4095, true), (2, 4093, 4095, true), (4, 4091, 4095, false), (0, 4095, 4095, true), (16, 4079, 4095, true), (32, 4063, 4095, true), (64, 4031, 4095, false), (136, 3959, 4095, true), (256, 3839, 4095, false), (512, 3583, 4095, true), (2047, 3071, 4095, true)] (by kernel_rfl) (by kernel_rfl) ?_ | refine sk_drawQ 6 (fun _ => false) (.step 0 true (.step 1 true (.step 2 true (.step 3 true (.step 4 true (.step 5 true (.step 6 true (.step 7 true (.step 8 true (.step 9 true .nil)))))))))) [(0, 1023, 1023, true), (1, 1022, 1023, true), (2, 1021, 1023, true), (4, 1019, 1023, false), (0, 1023, 1023, true), (16, 1007, 1023, true), (32, 991, 1023, true), (64, 959, 1023, false), (128, 895, 1023, true), (264, 759, 1023, true)] (by kernel_rfl) (by kernel_rfl) ?_ | refine sk_if rfl (fun hc => ?_) (fun hc => ?_))
  all_goals (apply sk_xret; (· (apply RetX.p; (· rfl); (· (repeat (first | exact BxO.nil _ | apply BxO.k | (apply BxO.o; (· (exact .lit _)))))); (· (apply GvA.cons; (· exact .tmp _); (· exact GvP.c (.lit _))); exact GvA.nil); (· (decide)))))
  all_goals exact ⟨_, _, by omega, rfl, _, by omega, rfl⟩
theorem curPick_p (code : Tx) (a s n : Int) (h0 : 0 ≤ a) (h1 : a ≤ 4611686018427387000) : PX Tryz.prog 113 (CurB code a s) [.v (.c (dI n))] (CurR a 2 fun res => ∃ x : Int, (0 ≤ x ∧ x ≤ 65535 ∧ (n ≤ 1 → x = 0) ∧ (1 < n → x < n)) ∧ res = .p (.c (dI x))) := by
  refine px_intro Tryz.func113 rfl rfl rfl (by kernel_rfl) rfl rfl rfl ?_; intro kv
  repeat' (first | (refine so_is (.assign _) ?_; (refine so_q (qt_asC rfl) rfl ?_)) | (refine so_is (.move _) ?_; (refine so_q (qt_mvC rfl) rfl ?_)) | (refine so_is (.binOp .leq 3 _ _ _) ?_; refine so_q (qt_leq rfl rfl) rfl ?_) | (refine so_is (.binOp .gtr 3 _ _ _) ?_; refine so_q (qt_gtr rfl rfl) rfl ?_) | (refine so_is (.binOp .mul 3 _ _ _) ?_; refine so_q (qt_mulI rfl rfl (by (omega))) rfl ?_) | (refine so_is (.binOp .add 3 _ _ _) ?_; refine so_q (qt_addI rfl rfl (by (omega))) rfl ?_) | (refine so_is (.binOp .rem 3 _ _ _) ?_; (refine so_q (qt_remN rfl rfl (by (omega)) (by (omega)) (by (omega))) rfl ?_)) | (refine so_is (.call ⟨.value (.func 186), _, _⟩) ?_; (apply so_callX (fid := 186); (· rfl); (· rfl); (· (repeat (first | exact BxI.nil | apply BxI.ks | (apply BxI.o; (· (exact .lit _)))))); (· (repeat (exact ArX.nil))); (· (decide)); (· (decide)); (· exact curNext_p code _ _ (by omega) (by omega)); (· rfl); (· (intro b hb1 hb2; omega)); (· rfl); (rintro _ _ ⟨a1, s1, ha1, rfl, x1, hx1, rfl⟩; refine ⟨(by first | rfl | simp [*]), ?_⟩))) | refine so_nil ?_ | refine sk_seq ?_ | refine sk_skip ?_ | refine sk_region ?_ | refine sk_if rfl (fun hc => ?_) (fun hc => ?_))
  all_goals (apply sk_xret; (· (apply RetX.p; (· rfl); (· (repeat (first | exact BxO.nil _ | apply BxO.k | (apply BxO.o; (· (exact .lit _)))))); (· (apply GvA.cons; (· exact .tmp _); (· exact GvP.c (.lit _))); exact GvA.nil); (· (decide)))))
  · exact ⟨_, _, by omega, rfl, _, by omega, rfl⟩
  · exact ⟨_, _, by omega, rfl, _, pick_bd (by omega) (by omega) (by omega), rfl⟩
  · exact ⟨_, _, by omega, rfl, _, pick_bd (by omega) (by omega) (by omega), rfl⟩
theorem curOne_p (code : Tx) (a s n : Int) (h0 : 0 ≤ a) (h1 : a ≤ 4611686018427387000) : PX Tryz.prog 143 (CurB code a s) [.v (.c (dI n))] (CurR a 2 fun res => ∃ b : Bool, res = .p (.c (dB b))) := by
  refine px_intro Tryz.func143 rfl rfl rfl (by kernel_rfl) rfl rfl rfl ?_; intro kv
  repeat' (first | (refine so_is (.assign _) ?_; (refine so_q (qt_asC rfl) rfl ?_)) | (refine so_is (.move _) ?_; (refine so_q (qt_mvC rfl) rfl ?_)) | (refine so_is (.binOp .eql 3 _ _ _) ?_; refine so_q (qt_eql rfl rfl) rfl ?_) | (refine so_is (.call ⟨.value (.func 113), _, _⟩) ?_; (apply so_callX (fid := 113); (· rfl); (· rfl); (· (repeat (first | exact BxI.nil | apply BxI.ks | (apply BxI.o; (· (exact .lit _)))))); (· (repeat (first | exact ArX.nil | apply ArX.v (.c (.d _))))); (· (decide)); (· (decide)); (· exact curPick_p code _ _ _ (by omega) (by omega)); (· rfl); (· (intro b hb1 hb2; omega)); (· rfl); (rintro _ _ ⟨a1, s1, ha1, rfl, x1, hx1, rfl⟩; refine ⟨(by first | rfl | simp [*]), ?_⟩))) | refine so_nil ?_ | refine sk_seq ?_ | refine sk_region ?_)
  all_goals (apply sk_xret; (· (apply RetX.p; (· rfl); (· (repeat (first | exact BxO.nil _ | apply BxO.k | (apply BxO.o; (· (exact .lit _)))))); (· (apply GvA.cons; (· exact .tmp _); (· exact GvP.c (.lit _))); exact GvA.nil); (· (decide)))))
  all_goals exact ⟨_, _, by omega, rfl, _, rfl⟩
theorem mem_at {α : Type} [Inhabited α] {l : List α} {x : Int} (h0 : 0 ≤ x) (h1 : x < l.length) : atZ l x ∈ l := List.mem_of_getElem? (atZ_some h0 h1)
theorem curAmong_p (code : Tx) (a s : Int) (l : List Int) (hl : 0 < l.length) (h0 : 0 ≤ a) (h1 : a ≤ 4611686018427387000) : PX Tryz.prog 77 (CurB code a s) [.v (.c (eI l))] (CurR a 2 fun res => ∃ t : Int, t ∈ l ∧ res = .p (.c (dI t))) := by
  refine px_intro Tryz.func77 rfl rfl rfl (by kernel_rfl) rfl rfl rfl ?_; intro kv
  repeat' (first | (refine so_is (.assign _) ?_; (refine so_q (qt_asC rfl) rfl ?_)) | (refine so_is (.move _) ?_; (refine so_q (qt_mvC rfl) rfl ?_)) | (refine so_is (.call ⟨.builtin .len, _, #[27]⟩) ?_; (refine so_q (qt_len_d rfl (by kernel_rfl)) rfl ?_)) | (refine so_is (.indexAddr 27 _ _) ?_; (refine so_q (qt_idxI rfl rfl (by kernel_rfl) (by (omega)) (by (omega))) rfl ?_)) | (refine so_is (.load 3 _) ?_; (refine so_q (qt_load_pt rfl (by kernel_rfl) rfl) rfl ?_)) | (refine so_is (.call ⟨.value (.func 113), _, _⟩) ?_; (apply so_callX (fid := 113); (· rfl); (· rfl); (· (repeat (first | exact BxI.nil | apply BxI.ks | (apply BxI.o; (· (exact .lit _)))))); (· (repeat (first | exact ArX.nil | apply ArX.v (.c (.d _))))); (· (decide)); (· (decide)); (· exact curPick_p code _ _ _ (by omega) (by omega)); (· rfl); (· (intro b hb1 hb2; omega)); (· rfl); (rintro _ _ ⟨a1, s1, ha1, rfl, x1, hx1, rfl⟩; refine ⟨(by first | rfl | simp [*]), ?_⟩))) | refine so_nil ?_ | refine sk_seq ?_ | refine sk_region ?_)
  all_goals (apply sk_xret; (· (apply RetX.p; (· rfl); (· (repeat (first | exact BxO.nil _ | apply BxO.k | (apply BxO.o; (· (exact .lit _)))))); (· (apply GvA.cons; (· exact .tmp _); (· exact GvP.c (.lit _))); exact GvA.nil); (· (decide)))))
  all_goals exact ⟨_, _, by omega, rfl, _, mem_at (by omega) (by omega), rfl⟩
theorem curAmongD_p (code : Tx) (a s : Int) (n : Nat) (ds : List D) (Q : Int → Prop) (hn : n = ds.length) (h2 : 0 < n) (h : ∀ x ∈ ds, ∃ t : Int, x = dI t ∧ Q t) (h0 : 0 ≤ a) (h1 : a ≤ 4611686018427387000) : PX Tryz.prog 77 (CurB code a s) [.v (.c (.sl 1 n ds))] (CurR a 2 fun res => ∃ t : Int, Q t ∧ res = .p (.c (dI t))) := by
  have : ∃ l : List Int, ds = l.map dI ∧ ∀ t ∈ l, Q t := by
    clear hn h2
    induction ds with
    | nil => exact ⟨[], rfl, fun t ht => by cases ht⟩
    | cons x ds ih =>
      obtain ⟨t, e, ht⟩ := h x (List.mem_cons_self ..)
      obtain ⟨l, e2, hl⟩ := ih fun y hy => h y (List.mem_cons_of_mem _ hy)
      exact ⟨t :: l, by rw [List.map_cons, e, e2], fun u hu => by rcases List.mem_cons.1 hu with e3 | hu; rw [e3]; exact ht; exact hl u hu⟩
  obtain ⟨l, rfl, hl⟩ := this
  rw [List.length_map] at hn
  subst hn
  refine (curAmong_p code a s l h2 h0 h1).mono ?_
  rintro ds res ⟨a1, s1, ha, rfl, t, ht, rfl⟩
  exact ⟨_, _, ha, rfl, t, hl t ht, rfl⟩

end Go.Proofs.YtefbiejoikpkmaaGreat

namespace Go.Proofs.YtefbiejoikpkmaaGreat
open Go.RowKit
set_option linter.unusedSectionVars false
variable [Glb]
open Go Go.RowKit
/-! a place whose row has been taken out -/
section
variable {P : Program} {ops : Array Oper} {mu : Nat → Bool} {r : OT} {st : St} {K : St → Prop} {j : Nat} {dst : Option Tmp} {ty : TypeId} {pos : String} {af : Array Edge}
/-- It is loaded once more. -/
theorem qt_load_rowX {T : TypeId} {x : Operand} {b sz i : Nat} {ds : List D} {c : C} (hx : st.ev x = .c (.lp b i)) (hb : st.bl b = some (.rowX sz ds i c)) (ht : tOne P T = true) :
    Qt P ⟨dst, .load T x, ty, pos, af, none⟩ st (.c c) := fun w0 ρ Φ a w hm => by
  have hp := hm.ev x
  rw [hx] at hp
  obtain ⟨g, hρ, hpv⟩ := lp_inv hp.c_inv
  have h0 := hm.bl b _ hb
  rw [hρ] at h0
  generalize hΦ : Φ b = Fb at h0
  cases h0 with
  | rowX _ us E _ _ _ _ vs Fs hz hg hl hi hFi hcc hr hxx =>
    refine ⟨vs i, fun w' hs0 => have hs : CellS w w' := hs0.resolve_left (by simp [memfree]); ?_, .c _ _ hxx⟩
    have h1 : w.cell? ⟨g, i, none⟩ = some (vs i) := by
      rw [cell_of_row w g i us E (0, 0) hg]
      exact hcc i hi
    have := run_load1 (P := P) (T := T) ht (cellS_some hs h1)
    simp [execOp, hpv, this]
/-- A value is put there. -/
theorem so_store_rowC {T : TypeId} {p x : Operand} {b sz i : Nat} {ds : List D} {c c' : C} (hp : st.ev p = .c (.lp b i)) (hb : st.bl b = some (.rowX sz ds i c)) (hv : st.ev x = .c c') (hok : C.ok c' = true) (ht : tSize P T 1 = true)
    (hmu : mu j = true) (h : SO P ops mu r (st.setB b (some (.rowX sz ds i c'))) K) :
    SO P ops mu (.cons (some ⟨none, .store T p x, ty, pos, af, none⟩, j, false) r) st K := by
  refine so_m hmu fun w0 a w hs next Q hn => ?_
  obtain ⟨ρ, Φ, hm⟩ := hs
  have hp' := hm.ev p
  rw [hp] at hp'
  obtain ⟨g, hρ, hpv⟩ := lp_inv hp'.c_inv
  have hx' := hm.ev x
  rw [hv] at hx'
  have hcx := hx'.c_inv
  have hone := hcx.one hok
  have h0 := hm.bl b _ hb
  rw [hρ] at h0
  generalize hΦ : Φ b = Fb at h0
  cases h0 with
  | rowX _ us E _ _ _ _ vs Fs hz hgh hl hi hFi hcc hr hxx =>
    have hrun := run_store_at (P := P) (w := w) (off := i) (vs := [a.eval x]) ht hgh (cells_one' hone) rfl (fun u hu => by simp at hu; subst hu; exact hone) (by omega)
    have hset : us.toList.take i ++ [a.eval x] ++ us.toList.drop (i + 1) = us.toList.set i (a.eval x) := by rw [List.set_eq_take_append_cons_drop, if_pos (by simp; omega)]; simp
    rw [hset] at hrun
    have hgΦ : g ∈ Φ b := by rw [hΦ]; exact List.mem_cons_self ..
    have hlow : w0.lo g := hm.low b g hgΦ
    have hsz : (us.toList.set i (a.eval x)).toArray.size = us.size := by simp
    have hndb := hm.nd b
    rw [hΦ, List.nodup_cons] at hndb
    have hshp := setRow_shp hgh hsz
    obtain ⟨Φ', hm'⟩ := hm.upd (w' := w.setRow g (us.toList.set i (a.eval x)).toArray) b [] (.rowX sz ds i c') (g :: parts ds.length Fs) g hgΦ (by simp)
      (setRow_below hlow hshp) (fun k hk => setRow_other w g k _ hk) hshp (List.nodup_cons.2 hndb) (fun g2 hg2 => .inl (by rw [hΦ]; exact hg2)) (fun Φ' hΦ' => by
        rw [hρ]
        refine BR.rowX (w := w.setRow g (us.toList.set i (a.eval x)).toArray) (ρ := ρ) (Φ := Φ') g (us.toList.set i (a.eval x)).toArray E sz ds i c' (fun k => if k = i then a.eval x else vs k) Fs hz (setRow_heap w g us _ E (0, 0) hgh) (by simp; omega) hi hFi
          (fun k hk => ?_) (fun k hk hki => ?_) ?_
        · by_cases hko : k = i
          · subst hko; simp [show k < us.size by omega]
          · simp only [List.getElem?_toArray, if_neg hko]
            rw [List.getElem?_set_ne (Ne.symm hko)]
            simpa using hcc k hk
        · simp only [if_neg hki]
          exact (hr k hk hki).keep fun g2 hg2 => setRow_other w g g2 _ fun e => by
            subst e; exact hndb.1 (mem_parts.2 ⟨k, hk, hg2⟩)
        · simp only [if_pos]
          exact hcx.keep (fun g2 hg2 _ => setRow_other w g g2 _ fun e => hg2 (e ▸ ⟨b, hgΦ⟩)) hshp fun g2 hin => .inl (hΦ' g2 hin))
    exact at_skip (by simp [execOp, hpv, hrun]) (hn _ _ (fun h => by cases h) ⟨_, ⟨ρ, Φ', hm'⟩, h⟩)
end

end Go.Proofs.YtefbiejoikpkmaaGreat

namespace Go.Proofs.YtefbiejoikpkmaaGreat
open Go.RowKit
set_option linter.unusedSectionVars false
variable [Glb]
open Go Go.RowKit
/-! lists of structs -/
section
variable {α : Type} {c : α → List D} {n : Nat}
theorem flatL_len (hc : ∀ a, (c a).length = n) : ∀ l : List α, (l.flatMap c).length = l.length * n
  | [] => by simp
  | a :: l => by rw [List.flatMap_cons, List.length_append, hc, flatL_len hc l, List.length_cons, Nat.add_mul]; omega
theorem flatL_split (hc : ∀ a, (c a).length = n) {l : List α} {j : Nat} (h : j < l.length) : l.flatMap c = (l.take j).flatMap c ++ (c l[j] ++ (l.drop (j + 1)).flatMap c) ∧ ((l.take j).flatMap c).length = j * n := by
  refine ⟨?_, by rw [flatL_len hc, List.length_take]; congr 1; omega⟩
  conv => lhs; rw [← List.take_append_drop j l, List.drop_eq_getElem_cons h]
  simp only [List.flatMap_append, List.flatMap_cons]
theorem flatL_cut (hc : ∀ a, (c a).length = n) {l : List α} {j : Nat} {e : α} (h : l[j]? = some e) : ((l.flatMap c).drop (j * n)).take n = c e := by
  obtain ⟨hlt, rfl⟩ := List.getElem?_eq_some_iff.1 h
  obtain ⟨h1, h2⟩ := flatL_split hc hlt
  rw [h1, ← h2, List.drop_left, ← hc l[j], List.take_left]
/-- a list that is filled from the front -/
def fillS (c : α → List D) (z : List D) (l : List α) (k : Nat) : List D := (l.take k).flatMap c ++ repL' (l.length - k) z
end
/-! marks -/
def mkS {α : Type} (m : Int → α → α) (w : α → Nat) : Int → List α → List α
  | _, [] => []
  | k, r :: l => m k r :: mkS m w (k + w r) l
def cntS {α : Type} (w : α → Nat) : List α → Nat
  | [] => 0
  | r :: l => w r + cntS w l
def mkSL {α : Type} (m : Int → α → α) (w : α → Nat) (l : List α) (k : Int) (j : Nat) : List α := mkS m w k (l.take j) ++ l.drop j
section
variable {α : Type} {m : Int → α → α} {w : α → Nat}
@[simp] theorem mkS_len : ∀ (k : Int) (l : List α), (mkS m w k l).length = l.length
  | _, [] => rfl
  | k, r :: l => by simp [mkS, mkS_len]
end
/-! calls, rules -/
abbrev CallE := Int × Int × Unit
def mC (k : Int) (_ : CallE) : CallE := (k, k + 1, ())
def wC (_ : CallE) : Nat := 2
abbrev RuleE := List Int × List (List Int) × List (List Int) × Unit
def mU (k : Int) (e : RuleE) : RuleE := (mkI k e.1.length, mkII (k + e.1.length) e.2.1, mkII (k + e.1.length + cnt e.2.1) e.2.2.1, ())
def wU (e : RuleE) : Nat := e.1.length + cnt e.2.1 + cnt e.2.2.1
/-- the cells that a list of rules holds -/
def zU (e : RuleE) : Nat := e.1.length + e.2.1.length + cnt e.2.1 + e.2.2.1.length + cnt e.2.2.1
end Go.Proofs.YtefbiejoikpkmaaGreat

namespace Go.Proofs.YtefbiejoikpkmaaGreat
open Go.RowKit
set_option linter.unusedSectionVars false
variable [Glb]
open Go
/-! mixtures of wirings -/
def wirR (la lb : List (List Int)) (r s : RuleE) : List (List Int) := wiredL la lb r.1 r.2.1 r.2.2.1 s.1 s.2.1 s.2.2.1
def wirOK (xa ya na : Int) (la : List (List Int)) (xb yb nb : Int) (lb : List (List Int)) (r s : RuleE) : Bool := wireOK xa ya na la xb yb nb lb r.1 r.2.1 r.2.2.1 s.1 s.2.1 s.2.2.1
def mwN (w : Int) : Nat → Int
  | 0 => 0
  | 1 => w
  | k + 2 => mwN w (k + 1) + w
def mwL (la lb : List (List Int)) (l1 l2 : List RuleE) : Nat → List (List Int)
  | 0 => []
  | 1 => wirR la lb (atZ l1 ((0 : Nat) : Int)) (atZ l2 ((0 : Nat) : Int))
  | k + 2 => bmixL (mwL la lb l1 l2 (k + 1)) (wirR la lb (atZ l1 ((k + 1 : Nat) : Int)) (atZ l2 ((k + 1 : Nat) : Int))) 2 2
def mwOK (xa ya na : Int) (la : List (List Int)) (xb yb nb : Int) (lb : List (List Int)) (l1 l2 : List RuleE) : Nat → Bool
  | 0 => true
  | k + 1 => mwOK xa ya na la xb yb nb lb l1 l2 k && (wirOK xa ya na la xb yb nb lb (atZ l1 (k : Int)) (atZ l2 (k : Int)) && decide (mwN (na * nb) (k + 1) ≤ 1000))
def mwB (xa ya na : Int) (la : List (List Int)) (xb yb nb : Int) (lb : List (List Int)) (l1 l2 : List RuleE) : Bool := (decide (0 < l1.length) && decide (l1.length = l2.length)) && mwOK xa ya na la xb yb nb lb l1 l2 l1.length
section
variable {xa ya na : Int} {la : List (List Int)} {xb yb nb : Int} {lb : List (List Int)} {l1 l2 : List RuleE}
end
def q2 : Nat → Int
  | 0 => 0
  | _ + 1 => 2
end Go.Proofs.YtefbiejoikpkmaaGreat

namespace Go.Proofs.YtefbiejoikpkmaaGreat
open Go.RowKit
set_option linter.unusedSectionVars false
variable [Glb]
open Go
/-! trios: triple agreements, turning -/
def parN (k : Nat) : Nat := (k / 4 + k / 2 + k) % 2
def agrT (ll : List (List Int)) (q : Nat) : Int := accT (fun k => at2 ll q k * (1 - 2 * (parN k : Int))) 8
def agrL (ll : List (List Int)) : List Int := rowF (agrT ll) 8
def signT (ll : List (List Int)) : Int := agrT ll 0 - agrT ll 3 - agrT ll 5 - agrT ll 6
def grpS (q : Nat) : Int := if q = 0 ∨ q = 1 ∨ q = 2 ∨ q = 4 then 1 else -1
def grpN (ll : List (List Int)) : Nat → Int
  | 0 => 0
  | q + 1 => if q = 0 ∨ q = 1 ∨ q = 2 ∨ q = 4 then grpN ll q + agrT ll q else grpN ll q - agrT ll q
def grpT (ll : List (List Int)) : Int := grpN ll 8
def turnG (ll : List (List Int)) : List (List Int) := gridF (turnF ll) 8 8
/-- quiet, said of all places -/
def QuietP (ll : List (List Int)) : Prop := ∀ d, (d = 4 ∨ d = 2 ∨ d = 1) → ∀ q, q < 8 → ∀ a, a < 8 → q &&& d = 0 → at2 ll q a + at2 ll q (a ^^^ d) = at2 ll (q ||| d) a + at2 ll (q ||| d) (a ^^^ d)
/-! the trio of a play -/
def GN (c q : Nat) : Nat := 4 * (c / 2 ^ (q / 4) % 2) + 2 * (c / 2 ^ (2 + q / 2 % 2) % 2) + c / 2 ^ (4 + q % 2) % 2
def hotF (n : Int) (g : Nat → Nat) (q k : Nat) : Int := if k = g q then n else 0
/-! the trio of sums -/
def sumF3 (odd : List Int) (q k : Nat) : Int := if (parN k : Int) = atZ odd (q : Int) then 1 else 0
/-! mixtures -/
def agrS (ll : List (List Int)) (q k : Nat) : Int := at2 ll q k * (1 - 2 * (parN k : Int))
@[simp] theorem agrL_len (ll : List (List Int)) : (agrL ll).length = 8 := by simp [agrL]
def sumRow (odd : List Int) (q k : Nat) : List Int := rowF (fun j => if j < k then sumF3 odd q j else 0) 8
@[simp] theorem sumRow_len (odd : List Int) (q k : Nat) : (sumRow odd q k).length = 8 := by simp [sumRow]
end Go.Proofs.YtefbiejoikpkmaaGreat

namespace Go.Proofs.YtefbiejoikpkmaaGreat
open Go.RowKit
open Go
/-! a box and a third player -/
def thirdF (ll : List (List Int)) (ch : List Int) (most : Int) (q k : Nat) : Int := atZ (atZ ll ((q : Int) / 2)) ((k : Int) / 2) * (if (k : Int) % 2 = 0 then most - atZ ch ((q : Int) % 2) else atZ ch ((q : Int) % 2))
def thirdB (x y n : Int) (ll : List (List Int)) (ch : List Int) (most : Int) : Bool := pairB x y n ll && (decide ((ch.length : Int) = 2) && (inB most 1 1000 && allB ch 0 most))
def thirdOK (x y n : Int) (ll : List (List Int)) (ch : List Int) (most : Int) : Bool := thirdB x y n ll ch most && trioB (n * most) (gridF (thirdF ll ch most) 8 8)
structure ThirdOK (x y n : Int) (ll : List (List Int)) (ch : List Int) (most : Int) : Prop where
  x2 : x = 2
  y2 : y = 2
  box : boxB 2 2 n ll = true
  cl : ch.length = 2
  m1 : 1 ≤ most
  m2 : most ≤ 1000
  cb : ∀ i : Int, 0 ≤ i → i < 2 → 0 ≤ atZ ch i ∧ atZ ch i ≤ most
  n1 : 1 ≤ n
  n2 : n ≤ 1000
  p1 : 1 ≤ n * most
  p2 : n * most ≤ 1000000
end Go.Proofs.YtefbiejoikpkmaaGreat

namespace Go.Proofs.YtefbiejoikpkmaaGreat
open Go.RowKit
set_option linter.unusedSectionVars false
variable [Glb]
open Go
/-! drawn trios: what they are before they are spoilt -/
structure GridP (N : Int) (ll : List (List Int)) : Prop where
  len : ll.length = 8
  row : ∀ q : Int, 0 ≤ q → q < 8 → (atZ ll q).length = 8 ∧ ∀ k : Int, 0 ≤ k → k < 8 → 0 ≤ atZ (atZ ll q) k ∧ atZ (atZ ll q) k ≤ N
theorem GridP.mono {N M : Int} {ll : List (List Int)} (h : GridP N ll) (hNM : N ≤ M) : GridP M ll := ⟨h.len, fun q h0 h8 => ⟨(h.row q h0 h8).1, fun k k0 k8 => by have := (h.row q h0 h8).2 k k0 k8; omega⟩⟩
/-- the k-th sum as a box -/
def sum6F (k q j : Nat) : Int := if j = 0 ∨ j = 3 then 1 - difK k (q / 2) (q % 2) else difK k (q / 2) (q % 2)
end Go.Proofs.YtefbiejoikpkmaaGreat

namespace Go.Proofs.YtefbiejoikpkmaaGreat
open Go.RowKit
set_option linter.unusedSectionVars false
variable [Glb]
set_option maxRecDepth 10000
set_option maxHeartbeats 4000000
theorem l1In_p (n lo hi : Int) : PC Tryz.prog 80 [.c (dI n), .c (dI lo), .c (dI hi)] (.p (.c (dB (inB n lo hi)))) := by
  refine pc_intro Tryz.func80 rfl rfl rfl (by kernel_rfl) rfl rfl ?_; intro _
  repeat' (first | (refine so_is (.assign _) ?_; (refine so_q (qt_asC rfl) rfl ?_)) | (refine so_is (.move _) ?_; (refine so_q (qt_mvC rfl) rfl ?_)) | (refine so_is (.binOp .geq 3 _ _ _) ?_; refine so_q (qt_geq rfl rfl) rfl ?_) | (refine so_is (.binOp .leq 3 _ _ _) ?_; refine so_q (qt_leq rfl rfl) rfl ?_) | (refine so_is (.pick _ _ _) ?_; (refine so_q (qt_pkC rfl rfl) rfl ?_)) | refine so_nil ?_ | refine so_g_no rfl rfl rfl rfl ?_ | refine so_g_yes rfl rfl rfl rfl ?_ | refine so_g_if rfl rfl (fun hg => ?_) (fun hg => ?_) | refine sk_seq ?_ | refine sk_region ?_)
  all_goals ((apply sk_ret; apply ret_eq; (· apply RetOK.p; (· (apply GvA.cons; (· exact .tmp _); (· exact GvP.c (.lit _))); exact GvA.nil); (· (decide)))))
  all_goals (simp [dB, inB, *]; try omega)

end Go.Proofs.YtefbiejoikpkmaaGreat

namespace Go.Proofs.YtefbiejoikpkmaaGreat
open Go.RowKit
set_option linter.unusedSectionVars false
variable [Glb]
set_option maxRecDepth 10000
set_option maxHeartbeats 4000000
theorem l2Sizes_p (x y : Int) : PC Tryz.prog 176 [.c (dI x), .c (dI y)] (.p (.c (dB (sizeB x y)))) := by
  refine pc_intro Tryz.func176 rfl rfl rfl (by kernel_rfl) rfl rfl ?_; intro _
  repeat' (first | (refine so_is (.assign _) ?_; (refine so_q (qt_asC rfl) rfl ?_)) | (refine so_is (.move _) ?_; (refine so_q (qt_mvC rfl) rfl ?_)) | (refine so_is (.pick _ _ _) ?_; (refine so_q (qt_pkC rfl rfl) rfl ?_)) | (refine so_is (.call ⟨.value (.func 80), _, _⟩) ?_; (apply so_call0 (fid := 80); (· (repeat (first | exact SeA.nil | apply SeA.cons (.c (.d _))))); (· exact l1In_p _ _ _); (· rfl))) | refine so_nil ?_ | refine so_g_no rfl rfl rfl rfl ?_ | refine so_g_yes rfl rfl rfl rfl ?_ | refine so_g_b rfl rfl (fun hg => ?_) (fun hg => ?_) | refine sk_seq ?_ | refine sk_region ?_)
  all_goals (apply sk_ret; apply ret_eq; (· apply RetOK.p; (· (apply GvA.cons; (· exact .tmp _); (· exact GvP.c (.lit _))); exact GvA.nil); (· (decide))))
  all_goals ((simp_all [sizeB]; done))

end Go.Proofs.YtefbiejoikpkmaaGreat

namespace Go.Proofs.YtefbiejoikpkmaaGreat
open Go.RowKit
set_option linter.unusedSectionVars false
variable [Glb]
set_option maxRecDepth 10000
set_option maxHeartbeats 4000000
theorem l2Four_p (l : List Int) (n : Int) : PC Tryz.prog 177 [.c (eI l), .c (dI n)] (.p (.c (dB (row4B n l)))) := by
  refine pc_intro Tryz.func177 rfl rfl rfl (by kernel_rfl) rfl rfl ?_; rintro ⟨hl, -⟩
  have hl := hl.len
  repeat' (first | (refine so_is (.assign _) ?_; (refine so_q (qt_asC rfl) rfl ?_)) | refine so_nil ?_ | refine sk_seq ?_ | refine sk_block ?_ | refine sk_region ?_)
  apply sk_packC [0, 1, 5, 6] [] rfl; (· (repeat (first | exact Pf.nil | apply Pf.cons (.c rfl (.d rfl))))); (· (repeat (exact Pb.nil)))
  refine sk_loopL [0, 1] [] (fun k => [(6, iN k), (5, iZ (sum64 (l.take k)))]) (fun _ => []) (fun k => k ≤ l.length ∧ k ≤ 5 ∧ (l.take k).all (fun m => inB m 0 n) = true) (fun k => l.length - k) (0) ?_ (by (repeat (first | exact trivial | refine ⟨(by (rfl)), ?_⟩))) (by (repeat (exact trivial))) ?_
  · simp
  rintro k ⟨hk, hk9, ha⟩
  repeat' (first | (refine so_is (.assign _) ?_; (refine so_q (qt_asC rfl) rfl ?_)) | (refine so_is (.move _) ?_; (refine so_q (qt_mvC rfl) rfl ?_)) | (refine so_is (.call ⟨.builtin .len, _, #[27]⟩) ?_; (refine so_q (qt_len_d rfl (by kernel_rfl)) rfl ?_)) | (refine so_is (.binOp .lss 3 _ _ _) ?_; refine so_q (qt_lss rfl rfl) rfl ?_) | (refine so_is (.pick _ _ _) ?_; (refine so_q (qt_pkC rfl rfl) rfl ?_)) | (refine so_is (.indexAddr 27 _ _) ?_; (refine so_q (qt_idxI rfl rfl (by kernel_rfl) (by (omega)) (by (omega))) rfl ?_)) | (refine so_is (.load 3 _) ?_; (refine so_q (qt_load_pt rfl (by kernel_rfl) rfl) rfl ?_)) | (refine so_is (.unOp .not 4 _) ?_; refine so_q (qt_not rfl) rfl ?_) | (refine so_is (.binOp .add 3 _ _ _) ?_; (first | refine so_q (qt_addI rfl rfl (by (omega))) rfl ?_ | refine so_q (qt_add rfl rfl) rfl ?_)) | (refine so_is (.binOp .eql 3 _ _ _) ?_; refine so_q (qt_eql rfl rfl) rfl ?_) | (refine so_is (.call ⟨.value (.func 80), _, _⟩) ?_; (apply so_call0 (fid := 80); (· (repeat (first | exact SeA.nil | apply SeA.cons (.c (.d _))))); (· exact l1In_p _ _ _); (· rfl))) | refine so_nil ?_ | refine so_g_no rfl rfl rfl rfl ?_ | refine so_g_yes rfl rfl rfl rfl ?_ | refine so_g_if rfl rfl (fun hg => ?_) (fun hg => ?_) | refine sk_seq ?_ | refine sk_block ?_ | refine sk_blk ?_ | refine sk_exit rfl ?_ | refine sk_skip ?_ | refine sk_region ?_ | refine sk_false rfl ?_ | refine sk_if rfl (fun hc => ?_) (fun hc => ?_) | refine sk_not rfl (fun hc => ?_) (fun hc => ?_))
  · rename_i hk'
    have hk2 : k < l.length := by omega
    rw [atZ_nat hk2] at hc
    (apply sk_ret; apply ret_eq; (· apply RetOK.p; (· (apply GvA.cons; (· exact .tmp _); (· exact GvP.c (.lit _))); exact GvA.nil); (· (decide))))
    rw [row4B, allB, all_f hk2 hc]; simp
  · rename_i hk'
    have hk2 : k < l.length := by omega
    rw [atZ_nat hk2] at hc
    refine sk_back ?_; refine ⟨k + 1, ?_, ?_, le_at rfl (by (repeat (first | exact trivial | refine ⟨(by (first | rfl | (refine int_eq rfl ?_; ((simp  [sum64_snoc hk2, atZ_nat hk2]; done))))), ?_⟩))) (by (repeat (first | exact trivial | refine ⟨rfl, ?_⟩))) (by (repeat (exact trivial))) (by (repeat (exact trivial)))⟩
    · exact ⟨by omega, by omega, by rw [take_succ_all _ _ _ hk2, ha, hc]; rfl⟩
    · omega
  all_goals (apply sk_ret; apply ret_eq; (· apply RetOK.p; (· (apply GvA.cons; (· exact .tmp _); (· exact GvP.c (.lit _))); exact GvA.nil); (· (decide))))
  all_goals simp only [row4B]
  · have h8 : l.length = 4 := by omega
    rw [List.take_of_length_le (by omega)] at *
    simp [h8, allB, ha]
  · have h8 : ¬ l.length = 4 := by omega
    simp [h8]
  · have h8 : l.length = 4 := by omega
    have hk8 : k = l.length := by omega
    rw [List.take_of_length_le (by omega)] at *
    simp [h8, allB, ha]
  · have h8 : ¬ l.length = 4 := by omega
    simp [h8]
theorem l2Box_p (x y n : Int) (ll : List (List Int)) : PC Tryz.prog 105 [.g [dI x, dI y, dI n, eII ll]] (.p (.c (dB (boxB x y n ll)))) := by
  refine pc_intro Tryz.func105 rfl rfl rfl (by kernel_rfl) rfl rfl ?_; rintro ⟨hl, -⟩
  have hl := (hl _ (List.mem_cons_of_mem _ (List.mem_cons_of_mem _ (List.mem_cons_of_mem _ (List.mem_cons_self ..))))).len
  repeat' (first | (refine so_is (.box 26 _) ?_; refine so_box rfl rfl ?_) | (refine so_is (.assign _) ?_; (refine so_q (qt_asC rfl) rfl ?_)) | (refine so_is (.fieldAddr 26 _ 0) ?_; (refine so_q (qt_fld_lp (off := 0) rfl (by kernel_rfl)) rfl ?_)) | (refine so_is (.load 3 _) ?_; (refine so_q (qt_load_box rfl rfl (by kernel_rfl) rfl) rfl ?_)) | (refine so_is (.fieldAddr 26 _ 1) ?_; (refine so_q (qt_fld_lp (off := 1) rfl (by kernel_rfl)) rfl ?_)) | (refine so_is (.unOp .not 4 _) ?_; refine so_q (qt_not rfl) rfl ?_) | (refine so_is (.move _) ?_; (refine so_q (qt_mvC rfl) rfl ?_)) | (refine so_is (.fieldAddr 26 _ 2) ?_; (refine so_q (qt_fld_lp (off := 2) rfl (by kernel_rfl)) rfl ?_)) | (refine so_is (.pick _ _ _) ?_; (refine so_q (qt_pkC rfl rfl) rfl ?_)) | (refine so_is (.fieldAddr 26 _ 3) ?_; (refine so_q (qt_fld_lp (off := 3) rfl (by kernel_rfl)) rfl ?_)) | (refine so_is (.load 24 _) ?_; (refine so_q (qt_load_box rfl rfl (by kernel_rfl) rfl) rfl ?_)) | (refine so_is (.call ⟨.builtin .len, _, #[24]⟩) ?_; (refine so_q (qt_len_d rfl (by kernel_rfl)) rfl ?_)) | (refine so_is (.binOp .mul 3 _ _ _) ?_; (refine so_q (qt_mul rfl rfl) rfl ?_)) | (refine so_is (.binOp .neq 3 _ _ _) ?_; refine so_q (qt_neq rfl rfl) rfl ?_) | (refine so_is (.call ⟨.value (.func 176), _, _⟩) ?_; (apply so_call0 (fid := 176); (· (repeat (first | exact SeA.nil | apply SeA.cons (.c (.d _))))); (· exact l2Sizes_p _ _); (· rfl))) | (refine so_is (.call ⟨.value (.func 80), _, _⟩) ?_; (apply so_call0 (fid := 80); (· (repeat (first | exact SeA.nil | apply SeA.cons (.c (.d _))))); (· exact l1In_p _ _ _); (· rfl))) | refine so_nil ?_ | refine so_g_no rfl rfl rfl rfl ?_ | refine so_g_yes rfl rfl rfl rfl ?_ | refine so_g_b rfl rfl (fun hg => ?_) (fun hg => ?_) | refine sk_seq ?_ | refine sk_block ?_ | refine sk_skip ?_ | refine sk_region ?_ | refine sk_true rfl ?_ | refine sk_if rfl (fun hc => ?_) (fun hc => ?_))
  · (apply sk_ret; apply ret_eq; (· apply RetOK.p; (· (apply GvA.cons; (· exact .tmp _); (· exact GvP.c (.lit _))); exact GvA.nil); (· (decide))))
    have h9 : sizeB x y = false := by simpa using hg
    simp [boxB, h9]
  · (apply sk_ret; apply ret_eq; (· apply RetOK.p; (· (apply GvA.cons; (· exact .tmp _); (· exact GvP.c (.lit _))); exact GvA.nil); (· (decide))))
    have h9 : inB n 1 1000 = false := by simpa using hg
    simp [boxB, h9]
  · (apply sk_ret; apply ret_eq; (· apply RetOK.p; (· (apply GvA.cons; (· exact .tmp _); (· exact GvP.c (.lit _))); exact GvA.nil); (· (decide))))
    have hs : sizeB x y = true := by simp_all
    rw [wrap_mul3 hs] at hc
    have h3 : ¬ (ll.length : Int) = x * y := by omega
    simp [boxB, h3]
  have hs : sizeB x y = true := by simp_all
  have hn : inB n 1 1000 = true := by simp_all
  have hlen : (ll.length : Int) = x * y := by rw [← wrap_mul3 hs]; omega
  apply sk_packC [1, 3] [1] rfl; (· (repeat (first | exact Pf.nil | apply Pf.cons (.c rfl (.d rfl)) | apply Pf.cons (.c rfl (.lp rfl))))); (· (repeat (first | exact Pb.nil | (apply Pb.cons; (· apply Nb.box rfl; (repeat (first | exact Ncs.nil rfl | (apply Ncs.cons rfl; (· (exact .d rfl))))))))))
  refine sk_loopL [1] [1] (fun k => [(3, iN k)]) (fun _ => []) (fun k => k ≤ ll.length ∧ (ll.take k).all (row4B n) = true) (fun k => ll.length - k) (0) ?_ (by (repeat (first | exact trivial | refine ⟨(by (rfl)), ?_⟩))) (by (repeat (exact trivial))) ?_
  · simp
  rintro k ⟨hk, ha⟩
  repeat' (first | (refine so_is (.assign _) ?_; (refine so_q (qt_asC rfl) rfl ?_)) | (refine so_is (.load 3 _) ?_; (refine so_q (qt_load_box rfl rfl (by kernel_rfl) rfl) rfl ?_)) | (refine so_is (.unOp .not 4 _) ?_; refine so_q (qt_not rfl) rfl ?_) | (refine so_is (.move _) ?_; (refine so_q (qt_mvC rfl) rfl ?_)) | (refine so_is (.fieldAddr 26 _ 2) ?_; (refine so_q (qt_fld_lp (off := 2) rfl (by kernel_rfl)) rfl ?_)) | (refine so_is (.fieldAddr 26 _ 3) ?_; (refine so_q (qt_fld_lp (off := 3) rfl (by kernel_rfl)) rfl ?_)) | (refine so_is (.load 24 _) ?_; (refine so_q (qt_load_box rfl rfl (by kernel_rfl) rfl) rfl ?_)) | (refine so_is (.call ⟨.builtin .len, _, #[24]⟩) ?_; (refine so_q (qt_len_d rfl (by kernel_rfl)) rfl ?_)) | (refine so_is (.binOp .lss 3 _ _ _) ?_; refine so_q (qt_lss rfl rfl) rfl ?_) | (refine so_is (.indexAddr 24 _ _) ?_; (refine so_q (qt_idxII rfl rfl (by kernel_rfl) (by (omega)) (by (omega))) rfl ?_)) | (refine so_is (.load 27 _) ?_; (refine so_q (qt_load_pt rfl (by kernel_rfl) rfl) rfl ?_)) | (refine so_is (.binOp .add 3 _ _ _) ?_; refine so_q (qt_addI rfl rfl (by (omega))) rfl ?_) | (refine so_is (.call ⟨.value (.func 177), _, _⟩) ?_; (apply so_call0 (fid := 177); (· (repeat (first | exact SeA.nil | apply SeA.cons (.c (.d _))))); (· exact l2Four_p _ _); (· rfl))) | refine so_nil ?_ | refine sk_seq ?_ | refine sk_block ?_ | refine sk_blk ?_ | refine sk_exit rfl ?_ | refine sk_skip ?_ | refine sk_region ?_ | refine sk_drawQ 6 (fun _ => false) (.step 0 true (.step 1 true (.step 2 true (.step 3 true (.step 4 true (.step 5 true (.step 6 true (.step 7 false (.step 8 true .nil))))))))) [(0, 511, 511, true), (1, 510, 511, false), (0, 511, 511, true), (6, 505, 511, true), (8, 503, 511, false), (0, 511, 511, true), (32, 479, 511, false), (80, 431, 511, false), (128, 383, 511, true)] (by kernel_rfl) (by kernel_rfl) ?_ | refine sk_if rfl (fun hc => ?_) (fun hc => ?_) | refine sk_not rfl (fun hc => ?_) (fun hc => ?_))
  · have hk2 : k < ll.length := by omega
    rw [atZ_nat hk2] at hc
    (apply sk_ret; apply ret_eq; (· apply RetOK.p; (· (apply GvA.cons; (· exact .tmp _); (· exact GvP.c (.lit _))); exact GvA.nil); (· (decide))))
    rw [boxB, all_f hk2 hc]; simp
  · have hk2 : k < ll.length := by omega
    rw [atZ_nat hk2] at hc
    refine sk_back ?_; refine ⟨k + 1, ?_, ?_, le_at rfl (by (repeat (first | exact trivial | refine ⟨(by (rfl)), ?_⟩))) (by (repeat (first | exact trivial | refine ⟨rfl, ?_⟩))) (by (repeat (exact trivial))) (by (repeat (first | exact trivial | refine ⟨.inr rfl, ?_⟩)))⟩
    · exact ⟨by omega, by rw [take_succ_all _ _ _ hk2, ha, hc]; rfl⟩
    · omega
  · have : k = ll.length := by omega
    subst this
    rw [List.take_length] at ha
    (apply sk_ret; apply ret_eq; (· apply RetOK.p; (· (apply GvA.cons; (· exact .tmp _); (· exact GvP.c (.lit _))); exact GvA.nil); (· (decide))))
    simp [boxB, hs, hn, hlen, ha]

end Go.Proofs.YtefbiejoikpkmaaGreat

namespace Go.Proofs.YtefbiejoikpkmaaGreat
open Go.RowKit
set_option linter.unusedSectionVars false
variable [Glb]
set_option maxRecDepth 10000
set_option maxHeartbeats 4000000
theorem l2Kept_t (x y n : Int) (ll : List (List Int)) : PT Tryz.prog 225 [.g [dI x, dI y, dI n, eII ll]] (.t [.g [dI (whenN (boxB x y n ll) x), dI (whenN (boxB x y n ll) y), dI (whenN (boxB x y n ll) n), eII (whenL (boxB x y n ll) ll)], .c (dB (boxB x y n ll))]) := by
  cases h : boxB x y n ll
  all_goals
    refine pt_intro Tryz.func225 rfl rfl rfl (by kernel_rfl) rfl rfl ?_; intro _
    repeat' (first | (refine so_is (.box 26 _) ?_; refine so_box rfl rfl ?_) | (refine so_is (.alloc 26) ?_; refine so_alloc (zs := [.int .i64 0, .int .i64 0, .int .i64 0, .slice none 0 0]) (by kernel_rfl) rfl ?_) | (refine so_is (.assign _) ?_; (refine so_q (qt_asC rfl) rfl ?_)) | (refine so_is (.load 26 _) ?_; (refine so_q (qt_load_boxs rfl rfl (by kernel_rfl : tAgg _ 26 4 = true) rfl) rfl ?_)) | (refine so_is (.unOp .not 4 _) ?_; refine so_q (qt_not rfl) rfl ?_) | (refine so_is (.build 26 _) ?_; refine so_q (qt_build (cs := [_, _, _, _]) [(0, 1), (1, 1), (2, 1), (3, 1)] [.int .i64 0, .int .i64 0, .int .i64 0, .slice none 0 0] (by kernel_rfl) (by kernel_rfl) rfl) rfl ?_) | (refine so_is (.store 26 _ _) ?_; (refine so_store_box rfl rfl rfl (by kernel_rfl) rfl rfl ?_)) | (refine so_is (.call ⟨.value (.func 105), _, _⟩) ?_; (apply so_call0 (fid := 105); (· (repeat (first | exact SeA.nil | (apply SeA.cons; (· (apply SeP.g; (repeat (first | exact SeL.nil | apply SeL.cons (.d _) | apply SeL.cons (.all _ _ _ _ rfl (by ((simp; done)))))))))))); (· exact l2Box_p _ _ _ _); (· rfl))) | refine so_nil ?_ | refine sk_seq ?_ | refine sk_skip ?_ | refine sk_region ?_ | refine sk_not rfl (fun hc => ?_) (fun hc => ?_))
    all_goals first | (exfalso; simp_all; done) | skip
    all_goals (apply sk_ret; apply ret_eq; (· apply RetOK.t; (· (apply GvA.cons; (· (apply RV.cellN (n := 4); (· rfl); (· rfl); (· kernel_rfl); (· rfl))); (· (apply GvP.g; (· (apply GvL.cons (.lit _)); (apply GvL.cons (.lit _)); (apply GvL.cons (.lit _)); ((first | apply GvL.cons (.nil 1 (by decide)) | apply GvL.cons (.row _ _ _ _ rfl (by ((simp; done)))))); exact GvL.nil)))); (apply GvA.cons; (· exact .tmp _); (· exact GvP.c (.lit _))); exact GvA.nil); (· rfl); (· (decide))))
    all_goals simp [whenN, whenL]
theorem l2Mix_p (x y : Nat) (n m : Int) (la lb : List (List Int)) (ha : boxB x y n la = true) (hb : boxB x y m lb = true) : PC Tryz.prog 206 [.g [dI x, dI y, dI n, eII la], .g [dI x, dI y, dI m, eII lb]] (.p (.g [dI x, dI y, dI (n + m), eII (bmixL la lb x y)])) := by
  have a := boxB_spec ha; have b := boxB_spec hb
  have a1 := a.x1; have a2 := a.x3; have a3 := a.y1; have a4 := a.y3; have a5 := a.n1; have a6 := a.n2; have b5 := b.n1; have b6 := b.n2; have al := a.len; have bl := b.len
  have hxy : y * x ≤ 3 * 3 := Nat.mul_le_mul (by omega) (by omega)
  have hxe : ((y * x : Nat) : Int) = (x : Int) * y := by rw [Int.natCast_mul, Int.mul_comm]
  rw [bmixL_rows]
  refine pc_intro Tryz.func206 rfl rfl rfl (by kernel_rfl) rfl rfl ?_; intro _
  repeat' (first | (refine so_is (.box 26 _) ?_; refine so_box rfl rfl ?_) | (refine so_is (.alloc 26) ?_; refine so_alloc (zs := [.int .i64 0, .int .i64 0, .int .i64 0, .slice none 0 0]) (by kernel_rfl) rfl ?_) | (refine so_is (.fieldAddr 26 _ 0) ?_; (refine so_q (qt_fld_lp (off := 0) rfl (by kernel_rfl)) rfl ?_)) | (refine so_is (.load 3 _) ?_; (refine so_q (qt_load_box rfl rfl (by kernel_rfl) rfl) rfl ?_)) | (refine so_is (.fieldAddr 26 _ 1) ?_; (refine so_q (qt_fld_lp (off := 1) rfl (by kernel_rfl)) rfl ?_)) | (refine so_is (.fieldAddr 26 _ 2) ?_; (refine so_q (qt_fld_lp (off := 2) rfl (by kernel_rfl)) rfl ?_)) | (refine so_is (.binOp .add 3 _ _ _) ?_; refine so_q (qt_addI rfl rfl (by (omega))) rfl ?_) | (refine so_is (.buildSlice 24 0 _) ?_; (apply so_bslice (sz := 1) (by_ := 24); (· kernel_rfl); (· decide); (· (repeat (exact GvS.nil _))); (· (decide)); (· rfl); (· rfl); (· rfl))) | (refine so_is (.build 26 _) ?_; refine so_q (qt_build (cs := [_, _, _, _]) [(0, 1), (1, 1), (2, 1), (3, 1)] [.int .i64 0, .int .i64 0, .int .i64 0, .slice none 0 0] (by kernel_rfl) (by kernel_rfl) rfl) rfl ?_) | (refine so_is (.store 26 _ _) ?_; (refine so_store_box rfl rfl rfl (by kernel_rfl) rfl rfl ?_)) | (refine so_is (.assign _) ?_; (refine so_q (qt_asC rfl) rfl ?_)) | refine so_nil ?_ | refine sk_seq ?_ | refine sk_block ?_ | refine sk_region ?_)
  apply sk_packC [2, 3, 4, 5, 6] [2, 3, 4, 5, 18, 27, 50, 51, 55, 56] rfl; (· (repeat (first | exact Pf.nil | apply Pf.cons (.c rfl (.d rfl)) | apply Pf.cons (.c rfl (.lp rfl))))); (· (repeat (first | exact Pb.nil | apply Pb.cons (.row rfl) | (apply Pb.cons; (· apply Nb.box rfl; (repeat (first | exact Ncs.nil rfl | (apply Ncs.cons rfl; (· (first | exact .d rfl | exact .ls rfl))))))) | apply Pb.skip)))
  refine sk_loopL [2, 3, 4, 5] [2, 3, 4, 27, 50, 51, 55, 56] (fun i => [(6, iN i)]) (fun i => [(5, .box [.d (dI x), .d (dI y), .d (dI (n + m)), .ls 18 1 0 i]), (18, .row 1 (cII (rowsF (mixR la lb) i)))]) (fun i => i ≤ y * x) (fun i => y * x - i) (0) ?_ (by (repeat (first | exact trivial | refine ⟨(by (rfl)), ?_⟩))) (by (repeat (first | exact trivial | refine ⟨(by (first | (refine row_eq rfl ?_; simp  [rowsF]; done) | (refine box_eq rfl ?_; simp  [rowsF]; done))), ?_⟩))) ?_
  · omega
  intro i hi
  by_cases h : i < y * x
  · obtain ⟨r1, r2⟩ := boxB_at ha (q := (i : Int)) (by omega) (by omega)
    obtain ⟨s1, s2⟩ := boxB_at hb (q := (i : Int)) (by omega) (by omega)
    repeat' (first | (refine so_is (.store 26 _ _) ?_; (refine so_store_box rfl rfl rfl (by kernel_rfl) rfl rfl ?_)) | (refine so_is (.assign _) ?_; (refine so_q (qt_asC rfl) rfl ?_)) | (refine so_is (.move _) ?_; (refine so_q (qt_mvC rfl) rfl ?_)) | (refine so_is (.fieldAddr 26 _ 3) ?_; (refine so_q (qt_fld_lp (off := 3) rfl (by kernel_rfl)) rfl ?_)) | (refine so_is (.load 24 _) ?_; (refine so_q (qt_load_box rfl rfl (by kernel_rfl) rfl) rfl ?_)) | (refine so_is (.call ⟨.builtin .len, _, #[24]⟩) ?_; (refine so_q (qt_len_d rfl (by kernel_rfl)) rfl ?_)) | (refine so_is (.binOp .lss 3 _ _ _) ?_; refine so_q (qt_lss rfl rfl) rfl ?_) | (refine so_is (.buildSlice 27 0 _) ?_; (apply so_bslice (sz := 1) (by_ := 8); (· kernel_rfl); (· decide); (· (repeat (exact GvS.nil _))); (· (decide)); (· rfl); (· rfl); (· rfl))) | (refine so_is (.load 26 _) ?_; (refine so_q (qt_load_boxs rfl rfl (by kernel_rfl : tAgg _ 26 4 = true) rfl) rfl ?_)) | refine so_nil ?_ | refine sk_seq ?_ | refine sk_block ?_ | refine sk_exit rfl ?_ | refine sk_skip ?_ | refine sk_region ?_ | refine sk_if rfl (fun hc => ?_) (fun hc => ?_))
    all_goals first | (exfalso; omega) | skip
    apply sk_packC [2, 3, 4, 5, 6, 7, 8] [2, 3, 4, 5, 18, 27, 50, 51, 55, 56] rfl; (· (repeat (first | exact Pf.nil | apply Pf.cons (.c rfl (.d rfl)) | apply Pf.cons (.c rfl (.ls rfl)) | apply Pf.cons (.c rfl (.lp rfl))))); (· (repeat (first | exact Pb.nil | apply Pb.cons (.row rfl) | (apply Pb.cons; (· apply Nb.box rfl; (repeat (first | exact Ncs.nil rfl | (apply Ncs.cons rfl; (· (first | exact .d rfl | exact .ls rfl))))))) | apply Pb.skip)))
    refine sk_loopL [2, 3, 4, 5, 6] [2, 3, 4, 18, 5, 50, 51, 55, 56] (fun k => [(8, iN k), (7, .c (.ls 27 1 0 k))]) (fun k => [(27, .row 1 (cI (rowF (mixR la lb i) k)))]) (fun k => k ≤ 4) (fun k => 4 - k) (0) ?_ (by (repeat (first | exact trivial | refine ⟨(by (rfl)), ?_⟩))) (by (repeat (first | exact trivial | refine ⟨(by (rfl)), ?_⟩))) ?_
    · omega
    intro k hk
    by_cases hk4 : k < 4
    · have v1 := r2 k (by omega) (by omega)
      have v2 := s2 k (by omega) (by omega)
      repeat' (first | (refine so_is (.load 3 _) ?_; (refine so_q (qt_load_pt rfl (by kernel_rfl) rfl) rfl ?_)) | (refine so_is (.binOp .add 3 _ _ _) ?_; refine so_q (qt_addI rfl rfl (by (omega))) rfl ?_) | (refine so_is (.assign _) ?_; (refine so_q (qt_asC rfl) rfl ?_)) | (refine so_is (.move _) ?_; (refine so_q (qt_mvC rfl) rfl ?_)) | (refine so_is (.fieldAddr 26 _ 3) ?_; (refine so_q (qt_fld_lp (off := 3) rfl (by kernel_rfl)) rfl ?_)) | (refine so_is (.load 24 _) ?_; (refine so_q (qt_load_box rfl rfl (by kernel_rfl) rfl) rfl ?_)) | (refine so_is (.binOp .lss 3 _ _ _) ?_; refine so_q (qt_lss rfl rfl) rfl ?_) | (refine so_is (.indexAddr 24 _ _) ?_; (refine so_q (qt_idxII rfl rfl (by kernel_rfl) (by (omega)) (by (omega))) rfl ?_)) | (refine so_is (.load 27 _) ?_; (refine so_q (qt_load_pt rfl (by kernel_rfl) rfl) rfl ?_)) | (refine so_is (.indexAddr 27 _ _) ?_; (refine so_q (qt_idxI rfl rfl (by kernel_rfl) (by (omega)) (by (omega))) rfl ?_)) | (refine so_is (.buildSlice 27 1 _) ?_; (apply so_bslice (sz := 1) (by_ := 8); (· kernel_rfl); (· decide); (· (repeat (first | exact GvS.nil _ | apply GvS.c rfl rfl (.lit _) rfl))); (· (decide)); (· rfl); (· rfl); (· rfl))) | (refine so_is (.call ⟨.builtin .append, _, #[27, 27]⟩) ?_; ((apply so_appR (sz := 1) (by_ := 8); (· rfl); (· rfl); (· ((simp; done))); (· exact .row _ _ _ _ rfl (by ((simp; done)))); (· (decide)); (· kernel_rfl); (· decide); (· (omega)); (· (omega)); (· rfl); (· rfl); (· rfl)))) | (refine so_is (.buildSlice 24 1 _) ?_; (apply so_bslice (sz := 1) (by_ := 24); (· kernel_rfl); (· decide); (· (repeat (first | exact GvS.nil _ | apply GvS.c rfl rfl (.row _ _ _ _ rfl (by ((simp; done)))) rfl))); (· (decide)); (· rfl); (· rfl); (· rfl))) | (refine so_is (.call ⟨.builtin .append, _, #[24, 24]⟩) ?_; ((apply so_appR (sz := 1) (by_ := 24); (· rfl); (· rfl); (· ((simp; done))); (· exact .row _ _ _ _ rfl (by ((simp; done)))); (· (decide)); (· kernel_rfl); (· decide); (· (omega)); (· (omega)); (· rfl); (· rfl); (· rfl)))) | (refine so_is (.store 24 _ _) ?_; (refine so_store_box1 rfl rfl rfl rfl (by kernel_rfl) rfl rfl ?_)) | refine so_nil ?_ | refine sk_seq ?_ | refine sk_block ?_ | refine sk_blk ?_ | refine sk_exit rfl ?_ | refine sk_skip ?_ | refine sk_region ?_ | refine sk_drawQ 9 (fun i => i == 19) (.step 0 true (.step 1 true (.step 2 true (.step 3 true (.step 4 true (.step 5 true (.step 6 true (.step 7 true (.step 8 true (.step 9 true (.step 10 true (.step 11 true (.step 12 true (.step 13 true (.step 14 true (.step 15 true (.step 16 true (.step 17 true (.step 18 false (.step 19 false (.step 20 true .nil))))))))))))))))))))) [(0, 2097151, 2097151, true), (0, 2097151, 2097151, true), (2, 2097149, 2097151, false), (0, 2097151, 2097151, true), (12, 2097139, 2097151, true), (16, 2097135, 2097151, false), (0, 2097151, 2097151, true), (96, 2097055, 2097151, true), (128, 2097023, 2097151, false), (0, 2097151, 2097151, true), (512, 2096639, 2097151, false), (0, 2097151, 2097151, true), (3072, 2094079, 2097151, true), (4096, 2093055, 2097151, false), (0, 2097151, 2097151, true), (24576, 2072575, 2097151, true), (32768, 2064383, 2097151, false), (65792, 2031359, 2097151, true), (131072, 1966079, 2097151, false), (262145, 1835006, 2097151, false), (1048575, 1572862, 1572863, true)] (by kernel_rfl) (by kernel_rfl) ?_ | refine sk_if rfl (fun hc => ?_) (fun hc => ?_))
      all_goals first | (exfalso; omega) | skip
      refine sk_back ?_; refine ⟨k + 1, ?_, ?_, le_at rfl (by (repeat (first | exact trivial | refine ⟨(by (rfl)), ?_⟩))) (by (repeat (first | exact trivial | refine ⟨rfl, ?_⟩))) (by (repeat (first | exact trivial | refine ⟨(by ((refine row_eq rfl ?_; simp  [rowF_snoc, mixR]; done))), ?_⟩))) (by (repeat (first | exact trivial | refine ⟨.inr rfl, ?_⟩)))⟩
      · omega
      · omega
    · have e : k = 4 := by omega
      subst e
      repeat' (first | (refine so_is (.binOp .add 3 _ _ _) ?_; refine so_q (qt_addI rfl rfl (by (omega))) rfl ?_) | (refine so_is (.assign _) ?_; (refine so_q (qt_asC rfl) rfl ?_)) | (refine so_is (.move _) ?_; (refine so_q (qt_mvC rfl) rfl ?_)) | (refine so_is (.fieldAddr 26 _ 3) ?_; (refine so_q (qt_fld_lp (off := 3) rfl (by kernel_rfl)) rfl ?_)) | (refine so_is (.load 24 _) ?_; (refine so_q (qt_load_box rfl rfl (by kernel_rfl) rfl) rfl ?_)) | (refine so_is (.binOp .lss 3 _ _ _) ?_; refine so_q (qt_lss rfl rfl) rfl ?_) | (refine so_is (.buildSlice 24 1 _) ?_; (apply so_bslice (sz := 1) (by_ := 24); (· kernel_rfl); (· decide); (· (repeat (first | exact GvS.nil _ | apply GvS.c rfl rfl (.row _ _ _ _ rfl (by ((simp; done)))) rfl))); (· (decide)); (· rfl); (· rfl); (· rfl))) | (refine so_is (.call ⟨.builtin .append, _, #[24, 24]⟩) ?_; ((apply so_appR (sz := 1) (by_ := 24); (· rfl); (· rfl); (· ((simp; done))); (· exact .row _ _ _ _ rfl (by ((simp; done)))); (· (decide)); (· kernel_rfl); (· decide); (· (omega)); (· (omega)); (· rfl); (· rfl); (· rfl)))) | (refine so_is (.store 24 _ _) ?_; (refine so_store_box1 rfl rfl rfl rfl (by kernel_rfl) rfl rfl ?_)) | refine so_nil ?_ | refine sk_seq ?_ | refine sk_blk ?_ | refine sk_exit rfl ?_ | refine sk_region ?_ | refine sk_false rfl ?_)
      all_goals first | (exfalso; omega) | skip
      refine sk_back ?_; refine ⟨i + 1, ?_, ?_, le_at rfl (by (repeat (first | exact trivial | refine ⟨(by (rfl)), ?_⟩))) (by (repeat (first | exact trivial | refine ⟨rfl, ?_⟩))) (by (repeat (first | exact trivial | refine ⟨(by (first | (refine row_eq rfl ?_; simp  [rowsF_snoc]; done) | rfl)), ?_⟩))) (by (repeat (first | exact trivial | refine ⟨.inr rfl, ?_⟩)))⟩
      · omega
      · omega
  · have e : i = y * x := by omega
    subst e
    repeat' (first | (refine so_is (.store 26 _ _) ?_; (refine so_store_box rfl rfl rfl (by kernel_rfl) rfl rfl ?_)) | (refine so_is (.assign _) ?_; (refine so_q (qt_asC rfl) rfl ?_)) | (refine so_is (.move _) ?_; (refine so_q (qt_mvC rfl) rfl ?_)) | (refine so_is (.fieldAddr 26 _ 3) ?_; (refine so_q (qt_fld_lp (off := 3) rfl (by kernel_rfl)) rfl ?_)) | (refine so_is (.load 24 _) ?_; (refine so_q (qt_load_box rfl rfl (by kernel_rfl) rfl) rfl ?_)) | (refine so_is (.call ⟨.builtin .len, _, #[24]⟩) ?_; (refine so_q (qt_len_d rfl (by kernel_rfl)) rfl ?_)) | (refine so_is (.binOp .lss 3 _ _ _) ?_; refine so_q (qt_lss rfl rfl) rfl ?_) | (refine so_is (.buildSlice 27 0 _) ?_; (apply so_bslice (sz := 1) (by_ := 8); (· kernel_rfl); (· decide); (· (repeat (exact GvS.nil _))); (· (decide)); (· rfl); (· rfl); (· rfl))) | (refine so_is (.load 26 _) ?_; (refine so_q (qt_load_boxs rfl rfl (by kernel_rfl : tAgg _ 26 4 = true) rfl) rfl ?_)) | refine so_nil ?_ | refine sk_seq ?_ | refine sk_block ?_ | refine sk_exit rfl ?_ | refine sk_skip ?_ | refine sk_region ?_ | refine sk_if rfl (fun hc => ?_) (fun hc => ?_))
    all_goals first | (exfalso; omega) | skip
    (apply sk_ret; apply ret_eq; (· apply RetOK.p; (· (apply GvA.cons; (· (apply RV.cellN (n := 4); (· rfl); (· rfl); (· kernel_rfl); (· rfl))); (· (apply GvP.g; (· (apply GvL.cons (.lit _)); (apply GvL.cons (.lit _)); (apply GvL.cons (.lit _)); ((apply GvL.cons (.row _ _ _ _ rfl (by ((simp; done)))))); exact GvL.nil)))); exact GvA.nil); (· (decide))))
    simp
theorem l2PlayBox_p (x y : Nat) (pl : List Int) (wh : Int) (hx : x ≤ 3) (hy : y ≤ 3) (hp : bitsB pl ((x : Int) + y) = true) : PC Tryz.prog 210 [.c (dI x), .c (dI y), .c (eI pl), .c (dI wh)] (.p (.g [dI x, dI y, dI wh, eII (playL pl x y wh)])) := by
  have hl := bitsB_len hp
  have hxy : y * x ≤ 3 * 3 := Nat.mul_le_mul (by omega) (by omega)
  have hP : playL pl x y wh = boxF (playF pl x wh) y (y * x) := by unfold playL; simp
  rw [hP]
  refine pc_intro Tryz.func210 rfl rfl rfl (by kernel_rfl) rfl rfl ?_; intro _
  repeat' (first | (refine so_is (.alloc 26) ?_; refine so_alloc (zs := [.int .i64 0, .int .i64 0, .int .i64 0, .slice none 0 0]) (by kernel_rfl) rfl ?_) | (refine so_is (.move _) ?_; (refine so_q (qt_mvC rfl) rfl ?_)) | (refine so_is (.buildSlice 24 0 _) ?_; (apply so_bslice (sz := 1) (by_ := 24); (· kernel_rfl); (· decide); (· (repeat (exact GvS.nil _))); (· (decide)); (· rfl); (· rfl); (· rfl))) | (refine so_is (.build 26 _) ?_; refine so_q (qt_build (cs := [_, _, _, _]) [(0, 1), (1, 1), (2, 1), (3, 1)] [.int .i64 0, .int .i64 0, .int .i64 0, .slice none 0 0] (by kernel_rfl) (by kernel_rfl) rfl) rfl ?_) | (refine so_is (.store 26 _ _) ?_; (refine so_store_box rfl rfl rfl (by kernel_rfl) rfl rfl ?_)) | (refine so_is (.assign _) ?_; (refine so_q (qt_asC rfl) rfl ?_)) | refine so_nil ?_ | refine sk_seq ?_ | refine sk_block ?_ | refine sk_region ?_)
  apply sk_packC [0, 1, 2, 3, 8, 9, 10] [8, 9, 16, 28, 47, 48] rfl; (· (repeat (first | exact Pf.nil | apply Pf.cons (.c rfl (.d rfl)) | apply Pf.cons (.c rfl (.lp rfl))))); (· (repeat (first | exact Pb.nil | apply Pb.cons (.row rfl) | (apply Pb.cons; (· apply Nb.box rfl; (repeat (first | exact Ncs.nil rfl | (apply Ncs.cons rfl; (· (first | exact .d rfl | exact .ls rfl))))))) | apply Pb.skip)))
  refine sk_loopL [0, 1, 2, 3, 8, 9] [8, 28, 47, 48] (fun i => [(10, iN i)]) (fun i => [(9, .box [.d (dI x), .d (dI y), .d (dI wh), .ls 16 1 0 (y * i)]), (16, .row 1 (cII (boxF (playF pl x wh) y (y * i))))]) (fun i => i ≤ x) (fun i => x - i) (0) ?_ (by (repeat (first | exact trivial | refine ⟨(by (rfl)), ?_⟩))) (by (repeat (first | exact trivial | refine ⟨(by (first | (refine box_eq rfl ?_; simp; done) | rfl)), ?_⟩))) ?_
  · omega
  intro i hi
  by_cases h : i < x
  · repeat' (first | (refine so_is (.move _) ?_; (refine so_q (qt_mvC rfl) rfl ?_)) | (refine so_is (.store 26 _ _) ?_; (refine so_store_box rfl rfl rfl (by kernel_rfl) rfl rfl ?_)) | (refine so_is (.assign _) ?_; (refine so_q (qt_asC rfl) rfl ?_)) | (refine so_is (.binOp .lss 3 _ _ _) ?_; refine so_q (qt_lss rfl rfl) rfl ?_) | (refine so_is (.load 26 _) ?_; (refine so_q (qt_load_boxs rfl rfl (by kernel_rfl : tAgg _ 26 4 = true) rfl) rfl ?_)) | refine so_nil ?_ | refine sk_seq ?_ | refine sk_block ?_ | refine sk_exit rfl ?_ | refine sk_skip ?_ | refine sk_region ?_ | refine sk_if rfl (fun hc => ?_) (fun hc => ?_))
    all_goals first | (exfalso; omega) | skip
    apply sk_packC [0, 1, 2, 3, 8, 9, 10, 11] [8, 9, 16, 28, 47, 48] rfl; (· (repeat (first | exact Pf.nil | apply Pf.cons (.c rfl (.d rfl)) | apply Pf.cons (.c rfl (.lp rfl))))); (· (repeat (first | exact Pb.nil | apply Pb.cons (.row rfl) | (apply Pb.cons; (· apply Nb.box rfl; (repeat (first | exact Ncs.nil rfl | (apply Ncs.cons rfl; (· (first | exact .d rfl | exact .ls rfl))))))) | apply Pb.skip)))
    refine sk_loopL [0, 1, 2, 3, 8, 9, 10] [8, 28, 47, 48] (fun k => [(11, iN k)]) (fun k => [(9, .box [.d (dI x), .d (dI y), .d (dI wh), .ls 16 1 0 (y * i + k)]), (16, .row 1 (cII (boxF (playF pl x wh) y (y * i + k))))]) (fun k => k ≤ y) (fun k => y - k) (0) ?_ (by (repeat (first | exact trivial | refine ⟨(by (rfl)), ?_⟩))) (by (repeat (first | exact trivial | refine ⟨(by (first | (refine row_eq rfl ?_; simp; done) | (refine box_eq rfl ?_; simp; done))), ?_⟩))) ?_
    · omega
    intro k hk
    by_cases hk2 : k < y
    · have hik := idx_ltN (i := i) (k := k) (X := x) (Y := y) (by omega) (by omega)
      have f1 := bitsB_at hp (i := (i : Int)) (by omega) (by omega)
      have f2 := bitsB_at hp (i := (x : Int) + k) (by omega) (by omega)
      have hr := play_row (wh := wh) f1 f2
      have hr2 : rowF (playF pl x wh i k) 4 = (List.replicate 4 (0 : Int)).set (2 * atZ pl i + atZ pl ((x : Int) + k)).toNat wh := hr.symm
      repeat' (first | (refine so_is (.move _) ?_; (refine so_q (qt_mvC rfl) rfl ?_)) | (refine so_is (.assign _) ?_; (refine so_q (qt_asC rfl) rfl ?_)) | (refine so_is (.binOp .lss 3 _ _ _) ?_; refine so_q (qt_lss rfl rfl) rfl ?_) | (refine so_is (.makeSlice 27 _ _) ?_; (refine so_make (by_ := 8) (z := .int .i64 0) (y := .lit (.int .i64 0)) rfl rfl (by kernel_rfl) (by kernel_rfl) rfl (fun _ => .lit _ rfl) (by (omega)) (by (omega)) (by (omega)) rfl ?_)) | (refine so_is (.indexAddr 27 _ _) ?_; (first | refine so_q (qt_idxI rfl rfl (by kernel_rfl) (by (omega)) (by (omega))) rfl ?_ | refine so_q (qt_idx_ls rfl rfl (by kernel_rfl : tSl _ 27 1 = true) (by (omega)) (by (omega))) rfl ?_)) | (refine so_is (.load 3 _) ?_; (refine so_q (qt_load_pt rfl (by kernel_rfl) rfl) rfl ?_)) | (refine so_is (.binOp .mul 3 _ _ _) ?_; refine so_q (qt_mulI rfl rfl (by (omega))) rfl ?_) | (refine so_is (.binOp .add 3 _ _ _) ?_; refine so_q (qt_addI rfl rfl (by (omega))) rfl ?_) | (refine so_is (.store 3 _ _) ?_; ((refine so_store_row rfl rfl rfl rfl (.lit _) (by simp) (by simp) (by kernel_rfl) (by ((simp only [List.length_map, List.length_append, List.length_replicate, fillL_len, rowF_len, gridF_len, mkI_len, mkII_len, partZ_min] at *; omega))) rfl ?_; simp only [St.drop]))) | (refine so_is (.fieldAddr 26 _ 3) ?_; (refine so_q (qt_fld_lp (off := 3) rfl (by kernel_rfl)) rfl ?_)) | (refine so_is (.load 24 _) ?_; (refine so_q (qt_load_box rfl rfl (by kernel_rfl) rfl) rfl ?_)) | (refine so_is (.buildSlice 24 1 _) ?_; (apply so_bslice (sz := 1) (by_ := 24); (· kernel_rfl); (· decide); (· (repeat (first | exact GvS.nil _ | apply GvS.c rfl rfl (.row _ _ _ _ rfl (by ((simp; done)))) rfl))); (· (decide)); (· rfl); (· rfl); (· rfl))) | (refine so_is (.call ⟨.builtin .append, _, #[24, 24]⟩) ?_; ((apply so_appR (sz := 1) (by_ := 24); (· rfl); (· rfl); (· ((simp; done))); (· exact .row _ _ _ _ rfl (by ((simp; done)))); (· (decide)); (· kernel_rfl); (· decide); (· (omega)); (· (omega)); (· rfl); (· rfl); (· rfl)))) | (refine so_is (.store 24 _ _) ?_; (refine so_store_box1 rfl rfl rfl rfl (by kernel_rfl) rfl rfl ?_)) | refine so_nil ?_ | refine sk_seq ?_ | refine sk_block ?_ | refine sk_blk ?_ | refine sk_exit rfl ?_ | refine sk_skip ?_ | refine sk_region ?_ | refine sk_drawQ 9 (fun i => i == 15) (.step 0 true (.step 1 true (.step 2 true (.step 3 true (.step 4 true (.step 5 true (.step 6 true (.step 7 true (.step 8 true (.step 9 true (.step 10 true (.step 11 true (.step 12 true (.step 13 true (.step 14 true (.step 15 false .nil)))))))))))))))) [(0, 65535, 65535, true), (0, 65535, 65535, true), (0, 65535, 65535, true), (6, 65529, 65535, true), (8, 65527, 65535, false), (16, 65519, 65535, true), (0, 65535, 65535, true), (0, 65535, 65535, true), (0, 65535, 65535, true), (384, 65151, 65535, true), (576, 64959, 65535, true), (1024, 64511, 65535, false), (2080, 63455, 65535, true), (0, 65535, 65535, true), (16383, 61438, 65535, true), (32767, 40959, 65535, false)] (by kernel_rfl) (by kernel_rfl) ?_ | refine sk_if rfl (fun hc => ?_) (fun hc => ?_))
      all_goals first | (exfalso; omega) | skip
      refine sk_back ?_; refine ⟨k + 1, ?_, ?_, le_at rfl (by (repeat (first | exact trivial | refine ⟨(by (rfl)), ?_⟩))) (by (repeat (first | exact trivial | refine ⟨rfl, ?_⟩))) (by (repeat (first | exact trivial | refine ⟨(by (first | (refine row_eq rfl ?_; simp  [boxF_snoc _ _ _ _ hk2, hr2, List.map_set]; done) | rfl)), ?_⟩))) (by (repeat (first | exact trivial | refine ⟨.inr rfl, ?_⟩)))⟩
      · omega
      · omega
    · have e : k = y := by omega
      subst e
      repeat' (first | (refine so_is (.move _) ?_; (refine so_q (qt_mvC rfl) rfl ?_)) | (refine so_is (.assign _) ?_; (refine so_q (qt_asC rfl) rfl ?_)) | (refine so_is (.binOp .lss 3 _ _ _) ?_; refine so_q (qt_lss rfl rfl) rfl ?_) | (refine so_is (.makeSlice 27 _ _) ?_; (refine so_make (by_ := 8) (z := .int .i64 0) (y := .lit (.int .i64 0)) rfl rfl (by kernel_rfl) (by kernel_rfl) rfl (fun _ => .lit _ rfl) (by (omega)) (by (omega)) (by (omega)) rfl ?_)) | (refine so_is (.indexAddr 27 _ _) ?_; (first | refine so_q (qt_idxI rfl rfl (by kernel_rfl) (by (omega)) (by (omega))) rfl ?_ | refine so_q (qt_idx_ls rfl rfl (by kernel_rfl : tSl _ 27 1 = true) (by (omega)) (by (omega))) rfl ?_)) | (refine so_is (.load 3 _) ?_; (refine so_q (qt_load_pt rfl (by kernel_rfl) rfl) rfl ?_)) | (refine so_is (.binOp .mul 3 _ _ _) ?_; refine so_q (qt_mulI rfl rfl (by (omega))) rfl ?_) | (refine so_is (.binOp .add 3 _ _ _) ?_; refine so_q (qt_addI rfl rfl (by (omega))) rfl ?_) | (refine so_is (.store 3 _ _) ?_; ((refine so_store_row rfl rfl rfl rfl (.lit _) (by simp) (by simp) (by kernel_rfl) (by (omega)) rfl ?_; simp only [St.drop]))) | (refine so_is (.fieldAddr 26 _ 3) ?_; (refine so_q (qt_fld_lp (off := 3) rfl (by kernel_rfl)) rfl ?_)) | (refine so_is (.load 24 _) ?_; (refine so_q (qt_load_box rfl rfl (by kernel_rfl) rfl) rfl ?_)) | (refine so_is (.buildSlice 24 1 _) ?_; (apply so_bslice (sz := 1) (by_ := 24); (· kernel_rfl); (· decide); (· (repeat (first | exact GvS.nil _ | apply GvS.c rfl rfl (.row _ _ _ _ rfl (by ((simp; done)))) rfl))); (· (decide)); (· rfl); (· rfl); (· rfl))) | (refine so_is (.call ⟨.builtin .append, _, #[24, 24]⟩) ?_; ((apply so_appR (sz := 1) (by_ := 24); (· rfl); (· rfl); (· ((simp; done))); (· exact .row _ _ _ _ rfl (by ((simp; done)))); (· (decide)); (· kernel_rfl); (· decide); (· (omega)); (· (omega)); (· rfl); (· rfl); (· rfl)))) | (refine so_is (.store 24 _ _) ?_; (refine so_store_box1 rfl rfl rfl rfl (by kernel_rfl) rfl rfl ?_)) | refine so_nil ?_ | refine sk_seq ?_ | refine sk_block ?_ | refine sk_blk ?_ | refine sk_exit rfl ?_ | refine sk_skip ?_ | refine sk_region ?_ | refine sk_drawQ 9 (fun i => i == 15) (.step 0 true (.step 1 true (.step 2 true (.step 3 true (.step 4 true (.step 5 true (.step 6 true (.step 7 true (.step 8 true (.step 9 true (.step 10 true (.step 11 true (.step 12 true (.step 13 true (.step 14 true (.step 15 false .nil)))))))))))))))) [(0, 65535, 65535, true), (0, 65535, 65535, true), (0, 65535, 65535, true), (6, 65529, 65535, true), (8, 65527, 65535, false), (16, 65519, 65535, true), (0, 65535, 65535, true), (0, 65535, 65535, true), (0, 65535, 65535, true), (384, 65151, 65535, true), (576, 64959, 65535, true), (1024, 64511, 65535, false), (2080, 63455, 65535, true), (0, 65535, 65535, true), (16383, 61438, 65535, true), (32767, 40959, 65535, false)] (by kernel_rfl) (by kernel_rfl) ?_ | refine sk_if rfl (fun hc => ?_) (fun hc => ?_))
      all_goals first | (exfalso; omega) | skip
      refine sk_back ?_; refine ⟨i + 1, ?_, ?_, le_at rfl (by (repeat (first | exact trivial | refine ⟨(by (rfl)), ?_⟩))) (by (repeat (first | exact trivial | refine ⟨rfl, ?_⟩))) (by (repeat (first | exact trivial | refine ⟨(by (first | (refine row_eq rfl ?_; simp  [Nat.mul_succ]; done) | (refine box_eq rfl ?_; simp  [Nat.mul_succ]; done))), ?_⟩))) (by (repeat (first | exact trivial | refine ⟨.inr rfl, ?_⟩)))⟩
      · omega
      · omega
  · have e : i = x := by omega
    subst e
    repeat' (first | (refine so_is (.move _) ?_; (refine so_q (qt_mvC rfl) rfl ?_)) | (refine so_is (.store 26 _ _) ?_; (refine so_store_box rfl rfl rfl (by kernel_rfl) rfl rfl ?_)) | (refine so_is (.assign _) ?_; (refine so_q (qt_asC rfl) rfl ?_)) | (refine so_is (.binOp .lss 3 _ _ _) ?_; refine so_q (qt_lss rfl rfl) rfl ?_) | (refine so_is (.load 26 _) ?_; (refine so_q (qt_load_boxs rfl rfl (by kernel_rfl : tAgg _ 26 4 = true) rfl) rfl ?_)) | refine so_nil ?_ | refine sk_seq ?_ | refine sk_block ?_ | refine sk_exit rfl ?_ | refine sk_skip ?_ | refine sk_region ?_ | refine sk_if rfl (fun hc => ?_) (fun hc => ?_))
    all_goals first | (exfalso; omega) | skip
    (apply sk_ret; apply ret_eq; (· apply RetOK.p; (· (apply GvA.cons; (· (apply RV.cellN (n := 4); (· rfl); (· rfl); (· kernel_rfl); (· rfl))); (· (apply GvP.g; (· (apply GvL.cons (.lit _)); (apply GvL.cons (.lit _)); (apply GvL.cons (.lit _)); ((apply GvL.cons (.row _ _ _ _ rfl (by ((simp; done)))))); exact GvL.nil)))); exact GvA.nil); (· (decide))))
    simp

end Go.Proofs.YtefbiejoikpkmaaGreat

namespace Go.Proofs.YtefbiejoikpkmaaGreat
open Go.RowKit
set_option linter.unusedSectionVars false
variable [Glb]
set_option maxRecDepth 10000
set_option maxHeartbeats 4000000
end Go.Proofs.YtefbiejoikpkmaaGreat

namespace Go.Proofs.YtefbiejoikpkmaaGreat
open Go.RowKit
set_option linter.unusedSectionVars false
variable [Glb]
set_option maxRecDepth 10000
set_option maxHeartbeats 4000000
theorem l2Bits_p (l : List Int) (n : Int) : PC Tryz.prog 85 [.c (eI l), .c (dI n)] (.p (.c (dB (bitsB l n)))) := by
  refine pc_intro Tryz.func85 rfl rfl rfl (by kernel_rfl) rfl rfl ?_; rintro ⟨hl, -⟩
  have hl := hl.len
  repeat' (first | (refine so_is (.assign _) ?_; (refine so_q (qt_asC rfl) rfl ?_)) | refine so_nil ?_ | refine sk_seq ?_ | refine sk_block ?_ | refine sk_region ?_)
  apply sk_packC [0, 1, 5] [] rfl; (· (repeat (first | exact Pf.nil | apply Pf.cons (.c rfl (.d rfl))))); (· (repeat (exact Pb.nil)))
  refine sk_loopL [0, 1] [] (fun k => [(5, iN k)]) (fun _ => []) (fun k => k ≤ l.length ∧ (l.take k).all (fun n => inB n 0 1) = true) (fun k => l.length - k) (0) ?_ (by (repeat (first | exact trivial | refine ⟨(by (rfl)), ?_⟩))) (by (repeat (exact trivial))) ?_
  · simp
  rintro k ⟨hk, ha⟩
  repeat' (first | (refine so_is (.assign _) ?_; (refine so_q (qt_asC rfl) rfl ?_)) | (refine so_is (.move _) ?_; (refine so_q (qt_mvC rfl) rfl ?_)) | (refine so_is (.call ⟨.builtin .len, _, #[27]⟩) ?_; (refine so_q (qt_len_d rfl (by kernel_rfl)) rfl ?_)) | (refine so_is (.binOp .lss 3 _ _ _) ?_; refine so_q (qt_lss rfl rfl) rfl ?_) | (refine so_is (.indexAddr 27 _ _) ?_; (refine so_q (qt_idxI rfl rfl (by kernel_rfl) (by (omega)) (by (omega))) rfl ?_)) | (refine so_is (.load 3 _) ?_; (refine so_q (qt_load_pt rfl (by kernel_rfl) rfl) rfl ?_)) | (refine so_is (.unOp .not 4 _) ?_; refine so_q (qt_not rfl) rfl ?_) | (refine so_is (.binOp .add 3 _ _ _) ?_; refine so_q (qt_addI rfl rfl (by (omega))) rfl ?_) | (refine so_is (.binOp .eql 3 _ _ _) ?_; refine so_q (qt_eql rfl rfl) rfl ?_) | (refine so_is (.call ⟨.value (.func 80), _, _⟩) ?_; (apply so_call0 (fid := 80); (· (repeat (first | exact SeA.nil | apply SeA.cons (.c (.d _))))); (· exact l1In_p _ _ _); (· rfl))) | refine so_nil ?_ | refine sk_seq ?_ | refine sk_block ?_ | refine sk_blk ?_ | refine sk_exit rfl ?_ | refine sk_skip ?_ | refine sk_region ?_ | refine sk_if rfl (fun hc => ?_) (fun hc => ?_) | refine sk_not rfl (fun hc => ?_) (fun hc => ?_))
  · rename_i hk'
    rw [atZ_nat (by omega)] at hc
    (apply sk_ret; apply ret_eq; (· apply RetOK.p; (· (apply GvA.cons; (· exact .tmp _); (· exact GvP.c (.lit _))); exact GvA.nil); (· (decide))))
    rw [bitsB, allB, all_f (by omega) hc]; simp
  · rename_i hk'
    rw [atZ_nat (by omega)] at hc
    refine sk_back ?_; refine ⟨k + 1, ?_, ?_, le_at rfl (by (repeat (first | exact trivial | refine ⟨(by (rfl)), ?_⟩))) (by (repeat (first | exact trivial | refine ⟨rfl, ?_⟩))) (by (repeat (exact trivial))) (by (repeat (exact trivial)))⟩
    · exact ⟨by omega, by rw [take_succ_all _ _ _ (by omega), ha, hc]; rfl⟩
    · omega
  · (apply sk_ret; apply ret_eq; (· apply RetOK.p; (· (apply GvA.cons; (· exact .tmp _); (· exact GvP.c (.lit _))); exact GvA.nil); (· (decide))))
    rw [bitsB, allB, all_t (by omega) ha]; simp

end Go.Proofs.YtefbiejoikpkmaaGreat

namespace Go.Proofs.YtefbiejoikpkmaaGreat
open Go.RowKit
set_option linter.unusedSectionVars false
variable [Glb]
set_option maxRecDepth 10000
set_option maxHeartbeats 4000000
end Go.Proofs.YtefbiejoikpkmaaGreat

namespace Go.Proofs.YtefbiejoikpkmaaGreat
open Go.RowKit
set_option linter.unusedSectionVars false
variable [Glb]
set_option maxRecDepth 10000
set_option maxHeartbeats 4000000
theorem l2Row_v (X Y n : Int) (ll : List (List Int)) (x y : Int) (h0 : 0 ≤ x * Y + y) (h1 : x * Y + y < ll.length) (h2 : 0 ≤ x * Y) (h3 : x * Y ≤ 1000) (h4 : y ≤ 1000) :
    PV Tryz.prog 164 [.g [dI X, dI Y, dI n, eII ll], .c (dI x), .c (dI y)] (.p (.c (eI (atZ ll (x * Y + y))))) := by
  refine pv_intro Tryz.func164 rfl rfl rfl (by kernel_rfl) rfl rfl ?_; intro X c0 _
  repeat' (first | (refine so_is (.box 26 _) ?_; refine so_box rfl rfl ?_) | (refine so_is (.assign _) ?_; (refine so_q (qt_asC rfl) rfl ?_)) | (refine so_is (.fieldAddr 26 _ 3) ?_; (refine so_q (qt_fld_lp (off := 3) rfl (by kernel_rfl)) rfl ?_)) | (refine so_is (.load 24 _) ?_; (refine so_q (qt_load_box rfl rfl (by kernel_rfl) rfl) rfl ?_)) | (refine so_is (.move _) ?_; (refine so_q (qt_mvC rfl) rfl ?_)) | (refine so_is (.fieldAddr 26 _ 1) ?_; (refine so_q (qt_fld_lp (off := 1) rfl (by kernel_rfl)) rfl ?_)) | (refine so_is (.load 3 _) ?_; (refine so_q (qt_load_box rfl rfl (by kernel_rfl) rfl) rfl ?_)) | (refine so_is (.binOp .mul 3 _ _ _) ?_; refine so_q (qt_mulI rfl rfl (by (omega))) rfl ?_) | (refine so_is (.binOp .add 3 _ _ _) ?_; refine so_q (qt_addI rfl rfl (by (omega))) rfl ?_) | (refine so_is (.indexAddr 24 _ _) ?_; (refine so_q (qt_idxII rfl rfl (by kernel_rfl) (by (omega)) (by (omega))) rfl ?_)) | (refine so_is (.load 27 _) ?_; (refine so_q (qt_load_pt rfl (by kernel_rfl) rfl) rfl ?_)) | refine so_nil ?_ | refine sk_seq ?_ | refine sk_region ?_)
  · (apply sk_retv; apply retv_eq; (· apply RetV.p rfl; (· (apply RvA.cons; (· exact .tmp _); (· (exact RvP.c (.d _)))); exact RvA.nil)))
    rfl

end Go.Proofs.YtefbiejoikpkmaaGreat
