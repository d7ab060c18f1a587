/- What the functions that FnHalls reaches return: part of its proof. No condition beyond those of its theorems. -/
import Derived.Test.YtefbiejoikpkmaaGreatProg
import Derived.Test.YtefbiejoikpkmaaGreatKplainB
import Derived.WalkKit
import Derived.Test.YtefbiejoikpkmaaGreatKplainA
import Derived.Laws.StructEq
import Derived.Test.YtefbiejoikpkmaaGreatKplainC
set_option linter.unusedVariables false
set_option linter.unusedSimpArgs false
--plain: PureMisc PureTake PureView PureAlt PurePack PureDag PureQ PureRen PureMany PureSlice Texts PureText Defs
namespace Go.Proofs.YtefbiejoikpkmaaGreat
open Go.RowKit
set_option linter.unusedSectionVars false
variable [Glb]

abbrev dI (n : Int) : D := .lit (.int .i64 n)
abbrev dB (b : Bool) : D := .lit (.bool b)
abbrev iN (k : Nat) : FV := .c (.d (dI k))
abbrev iZ (k : Int) : FV := .c (.d (dI k))
/-- a list of numbers, of lists of numbers, of texts -/
abbrev cI (l : List Int) : List D := l.map dI
abbrev eI (l : List Int) : D := .sl 1 l.length (cI l)
abbrev cII (l : List (List Int)) : List D := l.map fun x => eI x
abbrev eII (l : List (List Int)) : D := .sl 1 l.length (cII l)
section
variable {P : Program} {st : St} {dst : Option Tmp} {ty : TypeId} {pos : String} {af : Array Edge} {T : TypeId} {x y : Operand} {k : IntKind} {i : Int}
theorem jcl {l : List Int} (hx : st.ev x = .c (.d (eI l))) (hy : st.ev y = .c (.d (.lit (.int k i)))) (ht : tSl P T 1 = true) (h0 : 0 ≤ i) (h1 : i < l.length) : Qt P ⟨dst, .indexAddr T x y, ty, pos, af, none⟩ st (.c (.d (.pt [dI (atZ l i)]))) :=
  qt_idx hx hy ht h0 h1 (map_at (atZ_some h0 h1))
theorem jby {l : List (List Int)} (hx : st.ev x = .c (.d (eII l))) (hy : st.ev y = .c (.d (.lit (.int k i)))) (ht : tSl P T 1 = true) (h0 : 0 ≤ i) (h1 : i < l.length) : Qt P ⟨dst, .indexAddr T x y, ty, pos, af, none⟩ st (.c (.d (.pt [eI (atZ l i)]))) :=
  qt_idx hx hy ht h0 h1 (map_at (atZ_some h0 h1))
theorem jct {l : List Int} {b : Nat} {i : Int} (hx : st.ev x = .c (.lp b (0 + i.toNat * 1))) (hb : st.bl b = some (.row 1 (cI l))) (ht : tOne P T = true) (h0 : 0 ≤ i) (h1 : i < l.length) : Qt P ⟨dst, .load T x, ty, pos, af, none⟩ st (.c (.d (dI (atZ l i)))) :=
  qt_load_row hx hb ht (by rw [List.getElem?_map, Nat.zero_add, Nat.mul_one, atZ_some h0 h1]; rfl)
end
end Go.Proofs.YtefbiejoikpkmaaGreat

namespace Go.Proofs.YtefbiejoikpkmaaGreat
open Go.RowKit
set_option linter.unusedSectionVars false
variable [Glb]
open Go Go.RowKit
/-! readings of bytes -/
theorem pr_u8 {P : Program} {T : TypeId} (hT : P.underlying T = some (.int .u8)) : PR P T fun b : UInt8 => [dY b] := by
  intro H enc W fuel cs x h
  obtain ⟨n, rfl, -, wf⟩ := DataW.trod_int hT h
  have hn : 0 ≤ n ∧ n ≤ 255 := by
    simpa [Lit.wf, IntKind.min, IntKind.max, IntKind.signed, IntKind.bits] using wf
  have e : ((UInt8.ofNat n.toNat).toNat : Int) = n := by rw [UInt8.toNat_ofNat']; omega
  refine ⟨UInt8.ofNat n.toNat, ?_⟩
  have : VwD W [Value.int .u8 n] [D.lit (.int .u8 n)] := .one (.lit _ rfl)
  simpa only [dY, e] using this

end Go.Proofs.YtefbiejoikpkmaaGreat

namespace Go.Proofs.YtefbiejoikpkmaaGreat
open Go.RowKit
set_option linter.unusedSectionVars false
variable [Glb]
open Go Go.RowKit
/-! several ways through a part of the code that are told as one behind it -/
theorem sk_join {P : Program} {R : St → Prop} {k : List Itm} {st : St} {c : Code} {G : Type} (U UB : List Nat) (V : G → List (Nat × FV)) (B : G → List (Nat × Blk)) (ok : G → Prop)
    (first : SK P (.code c :: .back (fun st' => ∃ g', ok g' ∧ True ∧ st'.le (st.at U UB (V g') (B g'))) :: k) st R)
    (rest : ∀ g, ok g → SK P k (st.at U UB (V g) (B g)) R) : SK P (.code c :: k) st R := by
  refine ⟨fun w0 a w hs => Code.wp_mono ?_ (first.lv w0 a w hs)⟩
  rintro e a' w' ⟨st1, h1, h2⟩
  cases e with
  | normal =>
    obtain ⟨g, hg, _, hle⟩ := h2
    exact ⟨_, h1.le hle, (rest g hg).lv⟩
  | ret => exact ⟨st1, h1, by rw [LV.ret] at *; exact h2⟩
  | exit id => exact ⟨st1, h1, h2⟩
  | goto l => exact (LV.bad trivial h2).elim
  | panic c => exact (LV.bad trivial h2).elim
  | outgrown => exact (LV.bad trivial h2).elim
theorem sim_boxeq {st : St} (c : Nat) {cs : List C} (cs' : List C) (hb : st.bl c = some (.box cs)) (e : cs = cs') : ∀ w0 a w, Sim w0 st a w → Sim w0 (st.setB c (some (.box cs'))) a w := by
  subst e
  have : st.setB c (some (.box cs)) = st := by
    unfold St.setB
    cases st with
    | mk n fr bl =>
      simp only [St.mk.injEq, true_and]
      funext k
      split
      · rename_i h; subst h; exact hb.symm
      · rfl
  rw [this]
  exact fun _ _ _ h => h
section
variable {P : Program} {st : St} {dst : Option Tmp} {ty : TypeId} {pos : String} {af : Array Edge}
end

end Go.Proofs.YtefbiejoikpkmaaGreat

namespace Go.Proofs.YtefbiejoikpkmaaGreat
open Go.RowKit
set_option linter.unusedSectionVars false
variable [Glb]
open Go Go.RowKit
/-! parts of the orders that several ways lead to, told for all names that were bound ahead of them -/
section
variable {P : Program} {ops : Array Oper} {mu : Nat → Bool} {st : St} {K : St → Prop}
theorem so_lt0 {S : St} {ok : Prop} {os : List Oper} {T : IT} {C : IT → IT} (main : ∀ Y, (ok → SO P ops mu (OT.of os Y) S K) → SO P ops mu (OT.of os (C Y)) st K) (h : ok → SO P ops mu (OT.of os T) S K) : SO P ops mu (OT.of os (IT.lt T C)) st K := main T h
theorem so_lt3 {A1 A2 A3 : Type} {S : A1 → A2 → A3 → St} {ok : A1 → A2 → A3 → Prop} {os : List Oper} {T : IT} {C : IT → IT} (main : ∀ Y, (∀ x1 x2 x3, ok x1 x2 x3 → SO P ops mu (OT.of os Y) (S x1 x2 x3) K) → SO P ops mu (OT.of os (C Y)) st K) (h : ∀ x1 x2 x3, ok x1 x2 x3 → SO P ops mu (OT.of os T) (S x1 x2 x3) K) : SO P ops mu (OT.of os (IT.lt T C)) st K := main T h
theorem so_lt5 {A1 A2 A3 A4 A5 : Type} {S : A1 → A2 → A3 → A4 → A5 → St} {ok : A1 → A2 → A3 → A4 → A5 → Prop} {os : List Oper} {T : IT} {C : IT → IT} (main : ∀ Y, (∀ x1 x2 x3 x4 x5, ok x1 x2 x3 x4 x5 → SO P ops mu (OT.of os Y) (S x1 x2 x3 x4 x5) K) → SO P ops mu (OT.of os (C Y)) st K) (h : ∀ x1 x2 x3 x4 x5, ok x1 x2 x3 x4 x5 → SO P ops mu (OT.of os T) (S x1 x2 x3 x4 x5) K) : SO P ops mu (OT.of os (IT.lt T C)) st K := main T h
theorem so_lt6 {A1 A2 A3 A4 A5 A6 : Type} {S : A1 → A2 → A3 → A4 → A5 → A6 → St} {ok : A1 → A2 → A3 → A4 → A5 → A6 → Prop} {os : List Oper} {T : IT} {C : IT → IT} (main : ∀ Y, (∀ x1 x2 x3 x4 x5 x6, ok x1 x2 x3 x4 x5 x6 → SO P ops mu (OT.of os Y) (S x1 x2 x3 x4 x5 x6) K) → SO P ops mu (OT.of os (C Y)) st K) (h : ∀ x1 x2 x3 x4 x5 x6, ok x1 x2 x3 x4 x5 x6 → SO P ops mu (OT.of os T) (S x1 x2 x3 x4 x5 x6) K) : SO P ops mu (OT.of os (IT.lt T C)) st K := main T h
theorem so_lt16 {A1 A2 A3 A4 A5 A6 A7 A8 A9 A10 A11 A12 A13 A14 A15 A16 : Type} {S : A1 → A2 → A3 → A4 → A5 → A6 → A7 → A8 → A9 → A10 → A11 → A12 → A13 → A14 → A15 → A16 → St} {ok : A1 → A2 → A3 → A4 → A5 → A6 → A7 → A8 → A9 → A10 → A11 → A12 → A13 → A14 → A15 → A16 → Prop} {os : List Oper} {T : IT} {C : IT → IT} (main : ∀ Y, (∀ x1 x2 x3 x4 x5 x6 x7 x8 x9 x10 x11 x12 x13 x14 x15 x16, ok x1 x2 x3 x4 x5 x6 x7 x8 x9 x10 x11 x12 x13 x14 x15 x16 → SO P ops mu (OT.of os Y) (S x1 x2 x3 x4 x5 x6 x7 x8 x9 x10 x11 x12 x13 x14 x15 x16) K) → SO P ops mu (OT.of os (C Y)) st K) (h : ∀ x1 x2 x3 x4 x5 x6 x7 x8 x9 x10 x11 x12 x13 x14 x15 x16, ok x1 x2 x3 x4 x5 x6 x7 x8 x9 x10 x11 x12 x13 x14 x15 x16 → SO P ops mu (OT.of os T) (S x1 x2 x3 x4 x5 x6 x7 x8 x9 x10 x11 x12 x13 x14 x15 x16) K) : SO P ops mu (OT.of os (IT.lt T C)) st K := main T h
end

end Go.Proofs.YtefbiejoikpkmaaGreat

namespace Go.Proofs.YtefbiejoikpkmaaGreat
open Go.RowKit
set_option linter.unusedSectionVars false
variable [Glb]
open Go Go.RowKit
/-! structs of texts and numbers, compared -/
def eqA : Value → Value → Bool
  | .int _ a, .int _ b => a == b
  | .string a, .string b => a.toList == b.toList
  | _, _ => false
def eqL : List Value → List Value → Bool
  | u :: us, v :: vs => eqA u v && eqL us vs
  | _, _ => true
@[simp] theorem eqA_t (a b : Tx) : eqA (.string (bsT a)) (.string (bsT b)) = decide (a = b) := by
  show ((bsT a).toList == (bsT b).toList) = _
  rw [ByteArray.toList_eq, ByteArray.toList_eq]
  show ((bsT a).data.toList == (bsT b).data.toList) = _
  simp only [bsT]
  rw [Bool.eq_iff_iff, beq_iff_eq, decide_eq_true_iff]
@[simp] theorem eqA_i (k k' : IntKind) (a b : Int) : eqA (.int k a) (.int k' b) = decide (a = b) := rfl
@[simp] theorem eqL_cons (u v : Value) (us vs : List Value) : eqL (u :: us) (v :: vs) = (eqA u v && eqL us vs) := rfl
@[simp] theorem eqL_nil : eqL [] [] = true := rfl
section
variable {P : Program} {w : World}
end
section
variable {P : Program} {st : St} {dst : Option Tmp} {ty : TypeId} {pos : String} {af : Array Edge} {T T' : TypeId} {x y : Operand}
end

end Go.Proofs.YtefbiejoikpkmaaGreat

namespace Go.Proofs.YtefbiejoikpkmaaGreat
open Go.RowKit
open Go
/-! trios -/
def sum64 (l : List Int) : Int := l.foldl (fun s n => IntKind.i64.wrap (s + n)) 0
theorem sum64_snoc {l : List Int} {k : Nat} (h : k < l.length) : sum64 (l.take (k + 1)) = IntKind.i64.wrap (sum64 (l.take k) + l[k]) := by
  unfold sum64; rw [List.take_succ_eq_append_getElem h, List.foldl_append]; rfl
theorem rowF_atZ (f : Nat → Int) {m k : Nat} (h : k < m) : atZ (rowF f m) (k : Int) = f k := by
  rw [jbp (by simpa using h)]; simp [rowF]
end Go.Proofs.YtefbiejoikpkmaaGreat

namespace Go.Proofs.YtefbiejoikpkmaaGreat
open Go.RowKit
/-! all plays -/
def bitN (c e : Nat) : Nat := c / 2 ^ e % 2
def bitsM (n c : Nat) : List Int := rowF (fun i => (bitN c (n - 1 - i) : Int)) n
def playsF (n : Nat) : List (List Int) := (List.range (2 ^ n)).map (bitsM n)
@[simp] theorem bitsM_len (n c : Nat) : (bitsM n c).length = n := by simp [bitsM]
@[simp] theorem playsF_len (n : Nat) : (playsF n).length = 2 ^ n := by simp [playsF]
theorem bitsM_bits (n c : Nat) : bitsB (bitsM n c) n = true := by
  simp only [bitsB, bitsM_len, decide_true, Bool.true_and, allB, List.all_eq_true]
  intro x hx
  unfold bitsM rowF at hx
  obtain ⟨i, _, rfl⟩ := List.mem_map.1 hx
  exact jcd.2 ⟨by unfold bitN; omega, by unfold bitN; omega⟩
theorem plays_snoc (n c : Nat) : (List.range (c + 1)).map (bitsM n) = (List.range c).map (bitsM n) ++ [bitsM n c] := by simp [List.range_succ]
theorem bit_nat (c e : Nat) : (c : Int) / 2 ^ e % 2 = (bitN c e : Int) := by
  unfold bitN
  rw [Int.natCast_emod, Int.natCast_ediv, Int.natCast_pow]; rfl
theorem allB_at {l : List Int} {lo hi : Int} (h : allB l lo hi = true) {i : Int} (h0 : 0 ≤ i) (h1 : i < l.length) : lo ≤ atZ l i ∧ atZ l i ≤ hi := by
  unfold allB at h
  rw [List.all_eq_true] at h
  obtain ⟨k, rfl⟩ := Int.eq_ofNat_of_zero_le h0
  rw [jbp (by omega)]
  exact jcd.1 (h (l[k]'(by omega)) (List.getElem_mem _))
end Go.Proofs.YtefbiejoikpkmaaGreat

namespace Go.Proofs.YtefbiejoikpkmaaGreat
open Go.RowKit
open Go
/-! boxes -/
def row4B (n : Int) (row : List Int) : Bool := (decide (row.length = 4) && allB row 0 n) && decide (sum64 row = n)
def sizeB (x y : Int) : Bool := inB x 1 3 && inB y 1 3
def boxB (x y n : Int) (ll : List (List Int)) : Bool := ((sizeB x y && inB n 1 1000) && decide ((ll.length : Int) = x * y)) && ll.all (row4B n)
theorem jbv {x y : Int} : sizeB x y = true ↔ (1 ≤ x ∧ x ≤ 3) ∧ (1 ≤ y ∧ y ≤ 3) := by simp [sizeB, jcd]
theorem jcu {x y : Int} (h : sizeB x y = true) : 1 ≤ x * y ∧ x * y ≤ 9 := by
  obtain ⟨⟨a, b⟩, c, d⟩ := jbv.1 h
  rcases (by omega : x = 1 ∨ x = 2 ∨ x = 3) with rfl | rfl | rfl <;> rcases (by omega : y = 1 ∨ y = 2 ∨ y = 3) with rfl | rfl | rfl <;> decide
theorem wrap_mul3 {x y : Int} (h : sizeB x y = true) : IntKind.i64.wrap (x * y) = x * y := IntWalk.i64_in _ (by have := jcu h; omega)
theorem row4B_len {n : Int} {row : List Int} (h : row4B n row = true) : row.length = 4 ∧ ∀ k (hk : k < row.length), 0 ≤ row[k] ∧ row[k] ≤ n := by
  simp only [row4B, Bool.and_eq_true, decide_eq_true_eq, allB, List.all_eq_true] at h
  exact ⟨h.1.1, fun k hk => jcd.1 (h.1.2 _ (List.getElem_mem hk))⟩
theorem row4B_sum {n : Int} {row : List Int} (h : row4B n row = true) : sum64 row = n := by simp [row4B] at h; exact h.2
structure BoxOK (x y n : Int) (ll : List (List Int)) : Prop where
  x1 : 1 ≤ x
  x3 : x ≤ 3
  y1 : 1 ≤ y
  y3 : y ≤ 3
  n1 : 1 ≤ n
  n2 : n ≤ 1000
  len : (ll.length : Int) = x * y
  row : ∀ q, (hq : q < ll.length) → row4B n ll[q] = true
theorem jbf {x y n : Int} {ll : List (List Int)} (h : boxB x y n ll = true) : BoxOK x y n ll := by
  simp only [boxB, Bool.and_eq_true, decide_eq_true_eq, List.all_eq_true] at h
  obtain ⟨⟨⟨h1, h2⟩, h3⟩, h4⟩ := h
  have a := jbv.1 h1
  have b := jcd.1 h2
  exact ⟨a.1.1, a.1.2, a.2.1, a.2.2, b.1, b.2, h3, fun q hq => h4 _ (List.getElem_mem hq)⟩
theorem boxB_at {x y n : Int} {ll : List (List Int)} (h : boxB x y n ll = true) {q : Int} (h0 : 0 ≤ q) (h8 : q < x * y) : (atZ ll q).length = 4 ∧ ∀ k : Int, 0 ≤ k → k < 4 → 0 ≤ atZ (atZ ll q) k ∧ atZ (atZ ll q) k ≤ n := by
  have hb := jbf h
  obtain ⟨i, rfl⟩ := Int.eq_ofNat_of_zero_le h0
  have hi : i < ll.length := by have := hb.len; omega
  rw [jbp hi]
  obtain ⟨h5, h6⟩ := row4B_len (hb.row i hi)
  refine ⟨h5, fun k hk0 hk8 => ?_⟩
  obtain ⟨j, rfl⟩ := Int.eq_ofNat_of_zero_le hk0
  rw [jbp (by omega)]
  exact h6 j (by omega)
/-- the place of a pair of questions -/
theorem idx_lt {i k X Y : Int} (h0 : 0 ≤ i) (h1 : i < X) (h2 : 0 ≤ k) (h3 : k < Y) : 0 ≤ i * Y + k ∧ i * Y + k < X * Y ∧ 0 ≤ i * Y ∧ i * Y < X * Y := by
  have hY : 0 ≤ Y := by omega
  have a : 0 ≤ i * Y := Int.mul_nonneg h0 hY
  have b : (i + 1) * Y ≤ X * Y := Int.mul_le_mul_of_nonneg_right (by omega) hY
  rw [Int.add_mul, Int.one_mul] at b
  omega
theorem idx_ltN {i k X Y : Nat} (h1 : i < X) (h3 : k < Y) : Y * i + k < Y * X := by
  rw [Nat.mul_comm Y i, Nat.mul_comm Y X]
  have b : (i + 1) * Y ≤ X * Y := Nat.mul_le_mul_right _ (by omega)
  rw [Nat.add_mul, Nat.one_mul] at b
  omega
/-- the rows of a box told by a function of questions and place -/
def boxF (f : Nat → Nat → Nat → Int) (y n : Nat) : List (List Int) := (List.range n).map fun j => rowF (f (j / y) (j % y)) 4
@[simp] theorem boxF_len (f : Nat → Nat → Nat → Int) (y n : Nat) : (boxF f y n).length = n := by simp [boxF]
theorem boxF_snoc (f : Nat → Nat → Nat → Int) (y : Nat) (i k : Nat) (h : k < y) : boxF f y (y * i + (k + 1)) = boxF f y (y * i + k) ++ [rowF (f i k) 4] := by
  have e1 : (y * i + k) / y = i := by rw [Nat.mul_comm, Nat.add_comm, Nat.add_mul_div_right _ _ (by omega), Nat.div_eq_of_lt h, Nat.zero_add]
  have e2 : (y * i + k) % y = k := by rw [Nat.mul_comm, Nat.add_comm, Nat.add_mul_mod_self_right, Nat.mod_eq_of_lt h]
  simp [boxF, ← Nat.add_assoc, List.range_succ, e1, e2]
theorem boxF_at {f : Nat → Nat → Nat → Int} {y n : Nat} {j : Nat} (h : j < n) : atZ (boxF f y n) (j : Int) = rowF (f (j / y) (j % y)) 4 := by
  rw [jbp (by simpa using h)]; simp [boxF]
/-- a box's number -/
def atB (ll : List (List Int)) (Y i k p : Int) : Int := atZ (atZ ll (i * Y + k)) p

end Go.Proofs.YtefbiejoikpkmaaGreat

namespace Go.Proofs.YtefbiejoikpkmaaGreat
open Go.RowKit
open Go
/-! lists told by two lists of questions -/
/-- the numbers less than n -/
def cntL (n : Nat) : List Int := (List.range n).map fun i : Nat => (i : Int)
@[simp] theorem cntL_len (n : Nat) : (cntL n).length = n := by simp [cntL]
/-! games -/
theorem sum64_small {l : List Int} {m : Int} (hl : l.length ≤ 1000) (hb : allB l 0 m = true) (hm : 0 ≤ m) (hm2 : m ≤ 1000000) : sum64 l = l.sum ∧ 0 ≤ l.sum ∧ l.sum ≤ l.length * m := by
  have key : ∀ (l : List Int) (s : Int), 0 ≤ s → (∀ x ∈ l, 0 ≤ x ∧ x ≤ m) → s + l.length * m ≤ 1000000000000 → l.foldl (fun s n => IntKind.i64.wrap (s + n)) s = s + l.sum ∧ 0 ≤ l.sum ∧ l.sum ≤ l.length * m := by
    intro l
    induction l with
    | nil => intro s _ _ _; simp
    | cons x l ih =>
      intro s h0 hx hs
      have h1 := hx x (List.mem_cons_self ..)
      simp only [List.length_cons, Int.natCast_add, Int.add_mul] at hs ⊢
      have h2 : 0 ≤ (l.length : Int) * m := Int.mul_nonneg (by omega) hm
      obtain ⟨e1, e2, e3⟩ := ih (s + x) (by omega) (fun y hy => hx y (List.mem_cons_of_mem _ hy)) (by simp at hs; omega)
      rw [List.foldl_cons, IntWalk.i64_in _ (by simp at hs; omega), e1, List.sum_cons]
      simp at hs ⊢; omega
  unfold allB at hb
  rw [List.all_eq_true] at hb
  have hlm : (l.length : Int) * m ≤ 1000 * 1000000 := Int.mul_le_mul (by omega) hm2 hm (by omega)
  have := key l 0 (by omega) (fun x hx => jcd.1 (hb x hx)) (by omega)
  unfold sum64; omega

theorem mem_atZ {α : Type} [Inhabited α] {l : List α} {i : Nat} (h : i < l.length) : atZ l (i : Int) ∈ l := by rw [jbp h]; exact List.getElem_mem _
def whenA {α : Type} (b : Bool) (l : List α) : List α := if b = true then l else []
def xor4 (k : Nat) (m : Int) : Int := ((k ^^^ m.toNat : Nat) : Int)
theorem xor4_eq {k : Nat} {m : Int} (hk : k < 4) (h0 : 0 ≤ m) (h4 : m < 4) : bits .xor .i64 (k : Int) m = xor4 k m ∧ 0 ≤ xor4 k m ∧ xor4 k m < 4 := by
  rcases (by omega : k = 0 ∨ k = 1 ∨ k = 2 ∨ k = 3) with rfl | rfl | rfl | rfl <;> rcases (by omega : m = 0 ∨ m = 1 ∨ m = 2 ∨ m = 3) with rfl | rfl | rfl | rfl <;> exact ⟨rfl, by decide, by decide⟩
def flipOf (fl : List Int) (X x y : Int) : Int := 2 * atZ fl x + atZ fl (X + y)
def askR (X Y : Int) (wi : List (List Int)) (fl : List Int) (x y : Int) : List Int := rowF (fun k => atZ (atZ wi (x * Y + y)) (xor4 k (flipOf fl X x y))) 4
@[simp] theorem askR_len (X Y : Int) (wi : List (List Int)) (fl : List Int) (x y : Int) : (askR X Y wi fl x y).length = 4 := by simp [askR]
theorem whenA_len {α : Type} (b : Bool) (l : List α) : (whenA b l).length ≤ l.length := by unfold whenA; split <;> simp
end Go.Proofs.YtefbiejoikpkmaaGreat

namespace Go.Proofs.YtefbiejoikpkmaaGreat
open Go.RowKit
open Go
/-! quiet trios -/
def at2 (ll : List (List Int)) (q k : Nat) : Int := atZ (atZ ll (q : Int)) (k : Int)
theorem range_all_f {f : Nat → Bool} {n k : Nat} (h : k < n) (hf : f k = false) : (List.range n).all f = false := by
  rw [← Bool.not_eq_true, List.all_eq_true]; intro H; have := H k (List.mem_range.2 h); rw [hf] at this; cases this
theorem range_all_s {f : Nat → Bool} {k : Nat} : (List.range (k + 1)).all f = ((List.range k).all f && f k) := by simp [List.range_succ]
end Go.Proofs.YtefbiejoikpkmaaGreat

namespace Go.Proofs.YtefbiejoikpkmaaGreat
open Go.RowKit
set_option linter.unusedSectionVars false
variable [Glb]
open Go
/-! scenes, halls -/
def riseAt (l : List Int) (lo hi : Int) (i : Nat) : Bool := inB (atZ l i) lo hi && (decide (i = 0) || decide (atZ l ((i : Int) - 1) < atZ l i))
def riseB (l : List Int) (lo hi : Int) : Bool := (List.range l.length).all fun i => riseAt l lo hi i
theorem riseB_f {l : List Int} {lo hi : Int} {k : Nat} (h : k < l.length) (hf : riseAt l lo hi k = false) : riseB l lo hi = false := range_all_f h hf
def ctxB (n : Int) (l : List Int) : Bool := decide (0 < l.length) && riseB l 0 (n - 1)
def sceneB (ev : Int) (cc : List (List Int)) (ss : List Int) : Bool := inB ev 0 12 && (decide (cc.length ≤ 10) && (bitsB ss cc.length && cc.all (ctxB ev)))
structure SceneOK (ev : Int) (cc : List (List Int)) (ss : List Int) : Prop where
  e0 : 0 ≤ ev
  e12 : ev ≤ 12
  c10 : cc.length ≤ 10
  sl : ss.length = cc.length
  sb : bitsB ss cc.length = true
  ctx : ∀ q, (hq : q < cc.length) → ctxB ev cc[q] = true
theorem jbz {ev : Int} {cc : List (List Int)} {ss : List Int} (h : sceneB ev cc ss = true) : SceneOK ev cc ss := by
  simp only [sceneB, Bool.and_eq_true, decide_eq_true_eq, List.all_eq_true] at h
  obtain ⟨h1, h2, h3, h4⟩ := h
  have a := jcd.1 h1
  have := jbl h3
  exact ⟨a.1, a.2, h2, by omega, h3, fun q hq => h4 _ (List.getElem_mem hq)⟩
def hallB (bx by_ bwh : Int) (bll : List (List Int)) (pl : List Int) (ev : Int) (cc : List (List Int)) (ss nu : List Int) (co : Int) : Bool :=
  boxB bx by_ bwh bll && (bitsB pl (bx + by_) && (sceneB ev cc ss && (bitsB nu ev && inB co 0 1000)))
theorem rise_no {l : List Int} {lo hi : Int} {k : Nat} (hk : (k : Int) < l.length) (h : inB (atZ l k) lo hi = false ∨ ((k : Int) > 0 ∧ atZ l ((k : Int) - 1) ≥ atZ l k)) : riseB l lo hi = false := by
  refine riseB_f (k := k) (by omega) ?_
  unfold riseAt
  rcases h with h | ⟨h1, h2⟩
  · simp [h]
  · have : ¬ k = 0 := by omega
    have h3 : ¬ atZ l ((k : Int) - 1) < atZ l k := by omega
    simp [this, h3]
theorem rise_yes {l : List Int} {lo hi : Int} {k : Nat} (ha : (List.range k).all (riseAt l lo hi) = true) (h : inB (atZ l k) lo hi = true) (h2 : ¬ (k : Int) > 0 ∨ ¬ atZ l ((k : Int) - 1) ≥ atZ l k) : (List.range (k + 1)).all (riseAt l lo hi) = true := by
  rw [range_all_s, ha, Bool.true_and]
  unfold riseAt
  rcases h2 with h2 | h2
  · have : k = 0 := by omega
    simp [h, this]
    subst this; simpa using h
  · have h3 : atZ l ((k : Int) - 1) < atZ l k := by omega
    simp [h, h3]
structure HallOK (bx by_ bwh : Int) (bll : List (List Int)) (pl : List Int) (ev : Int) (cc : List (List Int)) (ss nu : List Int) (co : Int) : Prop where
  box : boxB bx by_ bwh bll = true
  pl : bitsB pl (bx + by_) = true
  sc : sceneB ev cc ss = true
  nu : bitsB nu ev = true
  co : inB co 0 1000 = true
theorem hallB_spec {bx by_ bwh : Int} {bll : List (List Int)} {pl : List Int} {ev : Int} {cc : List (List Int)} {ss nu : List Int} {co : Int} (h : hallB bx by_ bwh bll pl ev cc ss nu co = true) : HallOK bx by_ bwh bll pl ev cc ss nu co := by
  simp only [hallB, Bool.and_eq_true] at h
  exact ⟨h.1, h.2.1, h.2.2.1, h.2.2.2.1, h.2.2.2.2⟩
end Go.Proofs.YtefbiejoikpkmaaGreat

namespace Go.Proofs.YtefbiejoikpkmaaGreat
open Go.RowKit
set_option linter.unusedSectionVars false
variable [Glb]
open Go
/-! lists of questions that are used -/
/-! a game with some of its questions -/
def zerosL (n : Nat) : List Int := List.replicate n 0
@[simp] theorem zerosL_len (n : Nat) : (zerosL n).length = n := by simp [zerosL]
theorem zerosL_bits (n : Nat) : bitsB (zerosL n) n = true := by simp [bitsB, allB, zerosL, inB]
end Go.Proofs.YtefbiejoikpkmaaGreat

namespace Go.Proofs.YtefbiejoikpkmaaGreat
open Go.RowKit
set_option linter.unusedSectionVars false
variable [Glb]
open Go
/-! new halls -/
def newB (bx by_ bwh : Int) (bll : List (List Int)) (ev : Int) (cc : List (List Int)) (ss : List Int) : Bool := boxB bx by_ bwh bll && sceneB ev cc ss
structure NewOK (bx by_ bwh : Int) (bll : List (List Int)) (ev : Int) (cc : List (List Int)) (ss : List Int) : Prop where
  x1 : 1 ≤ bx
  x3 : bx ≤ 3
  y1 : 1 ≤ by_
  y3 : by_ ≤ 3
  e0 : 0 ≤ ev
  e12 : ev ≤ 12
  bl : bll.length ≤ 9
  br : ∀ r ∈ bll, r.length ≤ 1000000
  cl : cc.length ≤ 10
  cr : ∀ r ∈ cc, r.length ≤ 1000000
  cb : ∀ r ∈ cc, allB r 0 1000 = true
  sl : ss.length ≤ 10
theorem rise_lt {l : List Int} {lo hi : Int} (h : riseB l lo hi = true) : ∀ i : Nat, i < l.length → lo + i ≤ atZ l i ∧ atZ l i ≤ hi := by
  intro i
  induction i with
  | zero =>
    intro hi
    unfold riseB at h
    rw [List.all_eq_true] at h
    have := h 0 (List.mem_range.2 hi)
    simp only [riseAt, Bool.and_eq_true] at this
    have := jcd.1 this.1
    simp at this ⊢; omega
  | succ i ih =>
    intro hi
    have a := ih (by omega)
    unfold riseB at h
    rw [List.all_eq_true] at h
    have b := h (i + 1) (List.mem_range.2 hi)
    simp only [riseAt, Bool.and_eq_true, Bool.or_eq_true, decide_eq_true_eq] at b
    have c := jcd.1 b.1
    rcases b.2 with e | e
    · omega
    · rw [show ((i + 1 : Nat) : Int) - 1 = (i : Int) by omega] at e
      omega
theorem ctxB_len {n : Int} {l : List Int} (hn : n ≤ 1000) (h : ctxB n l = true) : l.length ≤ 1000 ∧ allB l 0 1000 = true := by
  simp only [ctxB, Bool.and_eq_true] at h
  have hr := rise_lt h.2
  constructor
  · rcases Nat.eq_zero_or_pos l.length with e | e
    · omega
    · have := hr (l.length - 1) (by omega); omega
  · unfold allB
    rw [List.all_eq_true]
    intro x hx
    obtain ⟨i, hi, rfl⟩ := List.getElem_of_mem hx
    have := hr i hi
    rw [jbp hi] at this
    exact jcd.2 (by omega)
theorem newB_spec {bx by_ bwh : Int} {bll : List (List Int)} {ev : Int} {cc : List (List Int)} {ss : List Int} (h : newB bx by_ bwh bll ev cc ss = true) : NewOK bx by_ bwh bll ev cc ss := by
  simp only [newB, Bool.and_eq_true] at h
  have b := jbf h.1
  have s := jbz h.2
  have m := jcu (jbv.2 ⟨⟨b.x1, b.x3⟩, b.y1, b.y3⟩)
  have hl := b.len
  have c : ∀ r ∈ cc, r.length ≤ 1000 ∧ allB r 0 1000 = true := fun r hr => by
    obtain ⟨i, hi, rfl⟩ := List.getElem_of_mem hr
    exact ctxB_len (by have := s.e12; omega) (s.ctx i hi)
  refine ⟨b.x1, b.x3, b.y1, b.y3, s.e0, s.e12, by omega, fun r hr => ?_, s.c10, fun r hr => by have := (c r hr).1; omega, fun r hr => (c r hr).2, by have := s.sl; have := s.c10; omega⟩
  obtain ⟨i, hi, rfl⟩ := List.getElem_of_mem hr
  have := (row4B_len (b.row i hi)).1
  omega
theorem len_le_cnt : ∀ {cc : List (List Int)} {n m : Nat}, cc.length ≤ n → (∀ r ∈ cc, r.length ≤ m) → cnt cc ≤ n * m
  | [], _, _, _, _ => by simp [cnt]
  | r :: cc, 0, _, h, _ => by simp at h
  | r :: cc, n + 1, m, h, h2 => by
    have a := len_le_cnt (n := n) (m := m) (cc := cc) (by simpa using h) fun x hx => h2 x (List.mem_cons_of_mem _ hx)
    have b := h2 r (List.mem_cons_self ..)
    simp only [cnt, Nat.succ_mul]; omega
theorem newB_cnt (bx by_ bwh : Int) (bll : List (List Int)) (ev : Int) (cc : List (List Int)) (ss : List Int) :
    (cnt (whenL (newB bx by_ bwh bll ev cc ss) bll) ≤ cnt bll ∧ (whenA (newB bx by_ bwh bll ev cc ss) (zerosL (bx + by_).toNat)).length ≤ 6) ∧ (cnt (whenL (newB bx by_ bwh bll ev cc ss) cc) ≤ cnt cc ∧ (whenA (newB bx by_ bwh bll ev cc ss) ss).length ≤ ss.length) ∧ (whenA (newB bx by_ bwh bll ev cc ss) (zerosL ev.toNat)).length ≤ 12 := by
  refine ⟨⟨cnt_whenL _ _, ?_⟩, ⟨cnt_whenL _ _, whenA_len _ _⟩, ?_⟩
  · cases h : newB bx by_ bwh bll ev cc ss with
    | false => simp [whenA]
    | true => have := newB_spec h; have a := this.x3; have b := this.y3; simp [whenA]; omega
  · cases h : newB bx by_ bwh bll ev cc ss with
    | false => simp [whenA]
    | true => have := newB_spec h; have a := this.e12; simp [whenA]; omega
structure HallBd (bll : List (List Int)) (pl : List Int) (cc : List (List Int)) (ss nu : List Int) : Prop where
  bl : bll.length ≤ 9
  br : ∀ r ∈ bll, r.length ≤ 1000000
  cl : cc.length ≤ 10
  cr : ∀ r ∈ cc, r.length ≤ 1000000
  cb : ∀ r ∈ cc, allB r 0 1000 = true
  sl : ss.length ≤ 10
  pl6 : pl.length ≤ 6
  nl : nu.length ≤ 12
theorem hallB_bd {bx by_ bwh : Int} {bll : List (List Int)} {pl : List Int} {ev : Int} {cc : List (List Int)} {ss nu : List Int} {co : Int} (h : hallB bx by_ bwh bll pl ev cc ss nu co = true) : HallBd bll pl cc ss nu := by
  have hH := hallB_spec h
  have hN := newB_spec (bx := bx) (by_ := by_) (bwh := bwh) (bll := bll) (ev := ev) (cc := cc) (ss := ss) (by simp [newB, hH.box, hH.sc])
  have a := jbl hH.pl
  have b := jbl hH.nu
  have x3 := hN.x3; have y3 := hN.y3; have e12 := hN.e12
  exact ⟨hN.bl, hN.br, hN.cl, hN.cr, hN.cb, hN.sl, by omega, by omega⟩
end Go.Proofs.YtefbiejoikpkmaaGreat

namespace Go.Proofs.YtefbiejoikpkmaaGreat
open Go.RowKit
open Go
/-! numbers added up at places -/
end Go.Proofs.YtefbiejoikpkmaaGreat

namespace Go.Proofs.YtefbiejoikpkmaaGreat
open Go.RowKit
set_option linter.unusedSectionVars false
variable [Glb]
open Go
/-! rules, wirings -/
/-- a sum, term by term -/
def accT (t : Nat → Int) : Nat → Int
  | 0 => 0
  | m + 1 => accT t m + t m
section
variable (la lb : List (List Int)) (f1 : List Int) (a1 s1 : List (List Int)) (f2 : List Int) (a2 s2 : List (List Int))
end
theorem box4 {X Y n : Int} {ll : List (List Int)} (h : boxB X Y n ll = true) {q : Int} (h0 : 0 ≤ q) (h1 : q < X * Y) : atZ (atZ ll q) 0 + atZ (atZ ll q) 1 + atZ (atZ ll q) 2 + atZ (atZ ll q) 3 = n := by
  have hb := jbf h
  obtain ⟨i, rfl⟩ := Int.eq_ofNat_of_zero_le h0
  have hi : i < ll.length := by have := hb.len; omega
  rw [jbp hi]
  have hr := hb.row i hi
  have hs := row4B_sum hr
  have hl := (row4B_len hr).1
  have hn := hb.n2
  have ha : allB ll[i] 0 n = true := by simp only [row4B, Bool.and_eq_true] at hr; exact hr.1.2
  rw [(sum64_small (l := ll[i]) (m := n) (by omega) ha (by have := hb.n1; omega) (by omega)).1] at hs
  generalize ll[i] = r at hs hl
  match r, hl with
  | [a, b, c, d], _ => simp [atZ] at hs ⊢; omega
theorem rowF4_sum (f : Nat → Int) (h : ∀ p, p < 4 → 0 ≤ f p ∧ f p ≤ 1000000) : sum64 (rowF f 4) = f 0 + f 1 + f 2 + f 3 := by
  have h0 := h 0 (by omega); have h1 := h 1 (by omega); have h2 := h 2 (by omega); have h3 := h 3 (by omega)
  have ha : allB (rowF f 4) 0 1000000 = true := by
    unfold allB; rw [List.all_eq_true]; intro x hx
    unfold rowF at hx; obtain ⟨p, hp, rfl⟩ := List.mem_map.1 hx
    exact jcd.2 (h p (List.mem_range.1 hp))
  rw [(sum64_small (l := rowF f 4) (m := 1000000) (by simp) ha (by omega) (by omega)).1]
  simp [rowF, List.range, List.range.loop]; omega
/-- rows told by a function make a box -/
theorem rows_box {x y : Nat} {n : Int} {f : Nat → Nat → Nat → Int} (hx : 1 ≤ x ∧ x ≤ 3) (hy : 1 ≤ y ∧ y ≤ 3) (h0 : 1 ≤ n) (h1 : n ≤ 1000000) (hf : ∀ i k, i < x → k < y → (∀ p, p < 4 → 0 ≤ f i k p) ∧ f i k 0 + f i k 1 + f i k 2 + f i k 3 = n) :
    boxB x y n (boxF f y (y * x)) = decide (n ≤ 1000) := by
  have hs : sizeB x y = true := jbv.2 ⟨⟨by omega, by omega⟩, by omega, by omega⟩
  have hl : ((boxF f y (y * x)).length : Int) = (x : Int) * y := by rw [boxF_len, Int.natCast_mul, Int.mul_comm]
  have hr : (boxF f y (y * x)).all (row4B n) = true := by
    rw [List.all_eq_true]; intro r hr
    unfold boxF at hr
    obtain ⟨j, hj, rfl⟩ := List.mem_map.1 hr
    have hj := List.mem_range.1 hj
    have hi : j / y < x := Nat.div_lt_of_lt_mul hj
    have hk : j % y < y := Nat.mod_lt _ (by omega)
    obtain ⟨a, b⟩ := hf _ _ hi hk
    generalize f (j / y) (j % y) = g at a b
    have a0 := a 0 (by omega); have a1 := a 1 (by omega); have a2 := a 2 (by omega); have a3 := a 3 (by omega)
    have bd : ∀ p, p < 4 → 0 ≤ g p ∧ g p ≤ n := fun p hp => by rcases (by omega : p = 0 ∨ p = 1 ∨ p = 2 ∨ p = 3) with rfl | rfl | rfl | rfl <;> omega
    have hsum := rowF4_sum g fun p hp => by have := bd p hp; omega
    simp only [row4B, rowF_len, decide_true, Bool.true_and, Bool.and_eq_true, decide_eq_true_eq, hsum, allB, List.all_eq_true]
    refine ⟨fun m hm => ?_, b⟩
    unfold rowF at hm; obtain ⟨p, hp, rfl⟩ := List.mem_map.1 hm
    exact jcd.2 (bd p (List.mem_range.1 hp))
  simp only [boxB, hs, hl, hr, decide_true, Bool.and_true, Bool.true_and, inB]
  simp; omega
section
variable {la lb : List (List Int)} {f1 : List Int} {a1 s1 : List (List Int)} {f2 : List Int} {a2 s2 : List (List Int)} {na nb : Int}
end
section
variable {la lb : List (List Int)} {f1 : List Int} {a1 s1 : List (List Int)} {f2 : List Int} {a2 s2 : List (List Int)} {na nb : Int}
end
/-- the rows of a wiring on the way -/
def wireM (W : Nat → Nat → Nat → Nat → Int) (j0 m : Nat) : List (List Int) := (List.range 4).map fun j => rowF (W (j / 2) (j % 2) (if j < j0 then 16 else if j = j0 then m else 0)) 4
@[simp] theorem wireM_len (W : Nat → Nat → Nat → Nat → Int) (j0 m : Nat) : (wireM W j0 m).length = 4 := by simp [wireM]
end Go.Proofs.YtefbiejoikpkmaaGreat

namespace Go.Proofs.YtefbiejoikpkmaaGreat
open Go.RowKit
set_option linter.unusedSectionVars false
variable [Glb]
open Go
/-! the calls of a hall -/
theorem box_at {x y : Nat} {n : Int} {ll : List (List Int)} (h : boxB x y n ll = true) {i k : Nat} (hi : i < x) (hk : k < y) : (∀ p : Nat, p < 4 → 0 ≤ atB ll y i k p ∧ atB ll y i k p ≤ n) ∧ atB ll y i k ((0 : Nat) : Int) + atB ll y i k ((1 : Nat) : Int) + atB ll y i k ((2 : Nat) : Int) + atB ll y i k ((3 : Nat) : Int) = n := by
  have ix := idx_lt (i := (i : Int)) (k := (k : Int)) (X := x) (Y := y) (by omega) (by omega) (by omega) (by omega)
  exact ⟨fun p hp => (boxB_at h ix.1 ix.2.1).2 p (by omega) (by omega), by have := box4 h ix.1 ix.2.1; unfold atB; simpa using this⟩
theorem box_nat {X Y n : Int} {ll : List (List Int)} (h : boxB X Y n ll = true) : ∃ x y : Nat, X = x ∧ Y = y ∧ (1 ≤ x ∧ x ≤ 3) ∧ (1 ≤ y ∧ y ≤ 3) := by
  have b := jbf h
  have a1 := b.x1; have a2 := b.x3; have a3 := b.y1; have a4 := b.y3
  exact ⟨X.toNat, Y.toNat, by omega, by omega, by omega, by omega⟩
/-- the sum of two boxes -/
def bmixF (la lb : List (List Int)) (Y : Nat) (i k p : Nat) : Int := atB la Y i k p + atB lb Y i k p
def bmixL (la lb : List (List Int)) (X Y : Int) : List (List Int) := boxF (bmixF la lb Y.toNat) Y.toNat (Y.toNat * X.toNat)
def sameB (x y n : Int) (la : List (List Int)) (x2 y2 m : Int) (lb : List (List Int)) : Bool := boxB x y n la && (boxB x2 y2 m lb && (decide (x = x2) && decide (y = y2)))
def bmixB (x y n : Int) (la : List (List Int)) (x2 y2 m : Int) (lb : List (List Int)) : Bool := sameB x y n la x2 y2 m lb && decide (n + m ≤ 1000)
theorem sameB_spec {x y n : Int} {la : List (List Int)} {x2 y2 m : Int} {lb : List (List Int)} (h : sameB x y n la x2 y2 m lb = true) : boxB x y n la = true ∧ boxB x y m lb = true ∧ x2 = x ∧ y2 = y := by
  simp only [sameB, Bool.and_eq_true, decide_eq_true_eq] at h
  obtain ⟨h1, h2, rfl, rfl⟩ := h
  exact ⟨h1, h2, rfl, rfl⟩
theorem mix_box {x y : Nat} {n m : Int} {la lb : List (List Int)} (ha : boxB x y n la = true) (hb : boxB x y m lb = true) : boxB x y (n + m) (bmixL la lb x y) = decide (n + m ≤ 1000) := by
  have a := jbf ha; have b := jbf hb
  have a1 := a.x1; have a2 := a.x3; have a3 := a.y1; have a4 := a.y3; have a5 := a.n1; have a6 := a.n2; have b5 := b.n1; have b6 := b.n2
  unfold bmixL
  simp only [Int.toNat_natCast]
  refine rows_box (by omega) (by omega) (by omega) (by omega) fun i k hi hk => ?_
  obtain ⟨a7, a8⟩ := box_at ha hi hk
  obtain ⟨b7, b8⟩ := box_at hb hi hk
  exact ⟨fun p hp => by have := a7 p hp; have := b7 p hp; unfold bmixF; omega, by unfold bmixF; omega⟩
/-- the box of a play -/
def playF (pl : List Int) (X : Nat) (wh : Int) (i k p : Nat) : Int := if atZ pl i = ((p / 2 : Nat) : Int) ∧ atZ pl ((X : Int) + k) = ((p % 2 : Nat) : Int) then wh else 0
def playL (pl : List Int) (X Y wh : Int) : List (List Int) := boxF (playF pl X.toNat wh) Y.toNat (Y.toNat * X.toNat)
def playB (x y : Int) (pl : List Int) (wh : Int) : Bool := sizeB x y && (bitsB pl (x + y) && inB wh 1 1000)
/-- the box with the players swapped -/
def swapF (ll : List (List Int)) (Y : Nat) (i k p : Nat) : Int := atB ll Y k i ((2 * (p % 2) + p / 2 : Nat) : Int)
def swapL (ll : List (List Int)) (X Y : Int) : List (List Int) := boxF (swapF ll Y.toNat) X.toNat (X.toNat * Y.toNat)
/-- the box with flipped answers -/
def bflF (ll : List (List Int)) (X Y : Nat) (fl : List Int) (i k p : Nat) : Int := atB ll Y i k (xor4 p (flipOf fl X i k))
def bflL (ll : List (List Int)) (X Y : Int) (fl : List Int) : List (List Int) := boxF (bflF ll X.toNat Y.toNat fl) Y.toNat (Y.toNat * X.toNat)
/-- the box with the least numbers -/
def gcdI (a b : Int) : Int := ((Nat.gcd a.toNat b.toNat : Nat) : Int)
def gcdR (d : Int) (row : List Int) : Int := row.foldl gcdI d
def gcdL (d : Int) (ll : List (List Int)) : Int := ll.foldl gcdR d
theorem gcdI_pos {a b : Int} (ha : 1 ≤ a) : 1 ≤ gcdI a b ∧ gcdI a b ≤ a := by
  have h1 : 0 < Nat.gcd a.toNat b.toNat := Nat.gcd_pos_of_pos_left _ (by omega)
  have h2 : Nat.gcd a.toNat b.toNat ≤ a.toNat := Nat.gcd_le_left _ (by omega)
  unfold gcdI; omega
theorem gcdR_pos : ∀ {row : List Int} {d : Int}, 1 ≤ d → 1 ≤ gcdR d row ∧ gcdR d row ≤ d
  | [], d, h => ⟨h, Int.le_refl _⟩
  | x :: row, d, h => by
    have a := gcdI_pos (b := x) h
    have b := gcdR_pos (row := row) a.1
    unfold gcdR at *
    rw [List.foldl_cons]; omega
theorem gcdL_pos : ∀ {ll : List (List Int)} {d : Int}, 1 ≤ d → 1 ≤ gcdL d ll ∧ gcdL d ll ≤ d
  | [], d, h => ⟨h, Int.le_refl _⟩
  | x :: ll, d, h => by
    have a := gcdR_pos (row := x) h
    have b := gcdL_pos (ll := ll) a.1
    unfold gcdL at *
    rw [List.foldl_cons]; omega
theorem gcdR_snoc {row : List Int} {d : Int} {k : Nat} (h : k < row.length) : gcdR d (row.take (k + 1)) = gcdI (gcdR d (row.take k)) (atZ row k) := by
  unfold gcdR; rw [List.take_succ_eq_append_getElem h, List.foldl_append, jbp h]; rfl
theorem gcdL_snoc {ll : List (List Int)} {d : Int} {k : Nat} (h : k < ll.length) : gcdL d (ll.take (k + 1)) = gcdR (gcdL d (ll.take k)) (atZ ll k) := by
  unfold gcdL; rw [List.take_succ_eq_append_getElem h, List.foldl_append, jbp h]; rfl
theorem gcd_step {a b : Int} (ha : 0 ≤ a) (hb : 1 ≤ b) : gcdI b (a % b) = gcdI a b := by
  have h0 := Int.emod_nonneg a (show b ≠ 0 by omega)
  have e : (a % b).toNat = a.toNat % b.toNat := by
    have h1 := Int.toNat_of_nonneg ha
    have h2 := Int.toNat_of_nonneg (show 0 ≤ b by omega)
    have : (a % b) = ((a.toNat % b.toNat : Nat) : Int) := by rw [Int.natCast_emod, h1, h2]
    omega
  unfold gcdI
  rw [e, Nat.gcd_comm a.toNat b.toNat, Nat.gcd_rec b.toNat a.toNat, Nat.gcd_comm]
theorem gcd_zero {a : Int} (ha : 0 ≤ a) : gcdI a 0 = a := by
  unfold gcdI; simp; omega
def redF (ll : List (List Int)) (Y : Nat) (d : Int) (i k p : Nat) : Int := atB ll Y i k p / d
def redL (ll : List (List Int)) (X Y : Int) (d : Int) : List (List Int) := boxF (redF ll Y.toNat d) Y.toNat (Y.toNat * X.toNat)
/-- the sums of a scene with an event flipped -/
def evF (cc : List (List Int)) (ss : List Int) (e : Int) (i : Nat) : Int := if (atZ cc (i : Int)).contains e = true then 1 - atZ ss i else atZ ss i
def evL (cc : List (List Int)) (ss : List Int) (e : Int) : List Int := rowF (evF cc ss e) ss.length
theorem xor_pair {p : Nat} {f g : Int} (hp : p < 4) (hf : 0 ≤ f ∧ f ≤ 1) (hg : 0 ≤ g ∧ g ≤ 1) : ((0 ≤ bits .xor .i64 ((p / 2 : Nat) : Int) f ∧ bits .xor .i64 ((p / 2 : Nat) : Int) f ≤ 1) ∧ 0 ≤ bits .xor .i64 ((p % 2 : Nat) : Int) g ∧ bits .xor .i64 ((p % 2 : Nat) : Int) g ≤ 1) ∧
    2 * bits .xor .i64 ((p / 2 : Nat) : Int) f + bits .xor .i64 ((p % 2 : Nat) : Int) g = xor4 p (2 * f + g) := by
  rcases (by omega : p = 0 ∨ p = 1 ∨ p = 2 ∨ p = 3) with rfl | rfl | rfl | rfl <;> rcases (by omega : f = 0 ∨ f = 1) with rfl | rfl <;> rcases (by omega : g = 0 ∨ g = 1) with rfl | rfl <;> exact ⟨by decide, rfl⟩
/-- the sums of which the first k are done -/
def evM (cc : List (List Int)) (ss : List Int) (e : Int) (k : Nat) : List Int := rowF (fun j => if j < k then evF cc ss e j else atZ ss (j : Int)) ss.length
theorem evM_zero (cc : List (List Int)) (ss : List Int) (e : Int) : evM cc ss e 0 = ss := by
  apply List.ext_getElem
  · simp [evM]
  · intro i h1 h2
    simp [evM, rowF, jbp h2]
theorem evM_all (cc : List (List Int)) (ss : List Int) (e : Int) : evM cc ss e ss.length = evL cc ss e := by
  unfold evM evL
  exact rowF_congr fun k hk => if_pos hk
@[simp] theorem evM_len (cc : List (List Int)) (ss : List Int) (e : Int) (k : Nat) : (evM cc ss e k).length = ss.length := by simp [evM]
@[simp] theorem evL_len (cc : List (List Int)) (ss : List Int) (e : Int) : (evL cc ss e).length = ss.length := by simp [evL]
theorem evM_at (cc : List (List Int)) (ss : List Int) (e : Int) {k : Nat} (h : k < ss.length) : atZ (evM cc ss e k) (k : Int) = atZ ss (k : Int) := by
  rw [jbp (by simpa using h)]; simp [evM, rowF]
theorem evM_hit {cc : List (List Int)} {ss : List Int} {e : Int} {k : Nat} (h : k < ss.length) (hc : (atZ cc (k : Int)).contains e = true) : (evM cc ss e k).set k (1 - atZ ss (k : Int)) = evM cc ss e (k + 1) := by
  apply List.ext_getElem
  · simp
  · intro i h1 h2
    rw [List.getElem_set]
    simp only [evM, rowF, List.getElem_map, List.getElem_range]
    by_cases hi : k = i
    · subst hi; rw [if_pos rfl, if_pos (by omega), evF, if_pos hc]
    · rw [if_neg hi]
      by_cases h3 : i < k
      · rw [if_pos h3, if_pos (by omega)]
      · rw [if_neg h3, if_neg (by omega)]
theorem evM_miss {cc : List (List Int)} {ss : List Int} {e : Int} {k : Nat} (hc : ¬ (atZ cc (k : Int)).contains e = true) : evM cc ss e k = evM cc ss e (k + 1) := by
  unfold evM
  refine rowF_congr fun i hi => ?_
  by_cases h3 : i < k
  · rw [if_pos h3, if_pos (by omega)]
  · rw [if_neg h3]
    by_cases h4 : i = k
    · subst h4; rw [if_pos (by omega), evF, if_neg hc]
    · rw [if_neg (by omega)]
theorem emod_bd0 {x n : Int} (hx : 0 ≤ x) (hn : 0 < n) : 0 ≤ x % n ∧ x % n < n ∧ x % n ≤ x := by
  refine ⟨Int.emod_nonneg _ (by omega), Int.emod_lt_of_pos _ (by omega), ?_⟩
  have h1 := Int.emod_add_mul_ediv x n
  have h2 : 0 ≤ n * (x / n) := Int.mul_nonneg (by omega) (Int.ediv_nonneg hx (by omega))
  omega
/-! halls as data -/
structure HD where
  bx : Int
  by_ : Int
  bwh : Int
  bll : List (List Int)
  pl : List Int
  ev : Int
  cc : List (List Int)
  ss : List Int
  nu : List Int
  co : Int
structure HV (h : HD) : Prop where
  box : boxB h.bx h.by_ h.bwh h.bll = true
  pl : bitsB h.pl (h.bx + h.by_) = true
  sc : sceneB h.ev h.cc h.ss = true
  nu : bitsB h.nu h.ev = true
/-- 1 at one place -/
def oneL (n : Nat) (a : Int) : List Int := (List.replicate n (0 : Int)).set a.toNat 1
@[simp] theorem oneL_len (n : Nat) (a : Int) : (oneL n a).length = n := by simp [oneL]
theorem oneL_bits (n : Nat) (a : Int) : bitsB (oneL n a) n = true := by
  simp only [bitsB, oneL_len, decide_true, Bool.true_and, allB, List.all_eq_true]
  intro x hx
  unfold oneL at hx
  rcases List.mem_or_eq_of_mem_set hx with h | h
  · have := List.eq_of_mem_replicate h; subst this; decide
  · subst h; decide
theorem xor_one {v : Int} (h : 0 ≤ v ∧ v ≤ 1) : bits .xor .i64 v 1 = 1 - v := by
  rcases (by omega : v = 0 ∨ v = 1) with rfl | rfl <;> rfl
def mixOK (h : HD) (a : Int) : Bool := playB h.bx h.by_ h.pl a && bmixB h.bx h.by_ h.bwh h.bll h.bx h.by_ a (playL h.pl h.bx h.by_ a)
def callT (h : HD) (k a : Int) : Option HD :=
  if k = 1 then if mixOK h a = true then some { h with bwh := h.bwh + a, bll := bmixL h.bll (playL h.pl h.bx h.by_ a) h.bx h.by_ } else none
  else if k = 2 then if inB a 0 (h.pl.length - 1) = true then some { h with pl := h.pl.set a.toNat (1 - atZ h.pl a) } else none
  else if k = 3 then if inB a 0 (h.pl.length - 1) = true then some { h with bll := bflL h.bll h.bx h.by_ (oneL h.pl.length a) } else none
  else if k = 4 then if a = 0 then some { h with bx := h.by_, by_ := h.bx, bll := swapL h.bll h.bx h.by_, pl := partZ h.pl h.bx h.pl.length ++ partZ h.pl 0 h.bx } else none
  else if k = 5 then if a = 0 then some { h with bwh := h.bwh / gcdL h.bwh h.bll, bll := redL h.bll h.bx h.by_ (gcdL h.bwh h.bll) } else none
  else if k = 6 then if inB a 0 (h.nu.length - 1) = true then some { h with nu := h.nu.set a.toNat (1 - atZ h.nu a) } else none
  else if k = 7 then if inB a 0 (h.ev - 1) = true then some { h with ss := evL h.cc h.ss a } else none
  else none
/-! rows told one by one -/
def rowsF (g : Nat → Nat → Int) (n : Nat) : List (List Int) := (List.range n).map fun j => rowF (g j) 4
@[simp] theorem rowsF_len (g : Nat → Nat → Int) (n : Nat) : (rowsF g n).length = n := by simp [rowsF]
theorem rowsF_snoc (g : Nat → Nat → Int) (n : Nat) : rowsF g (n + 1) = rowsF g n ++ [rowF (g n) 4] := by simp [rowsF, List.range_succ]
theorem boxF_rows {f : Nat → Nat → Nat → Int} {g : Nat → Nat → Int} {y n : Nat} (h : ∀ j p, j < n → p < 4 → f (j / y) (j % y) p = g j p) : boxF f y n = rowsF g n := by
  unfold boxF rowsF
  exact List.map_congr_left fun j hj => rowF_congr fun p hp => h j p (List.mem_range.1 hj) hp
theorem atB_row (ll : List (List Int)) (y j : Nat) (p : Int) : atB ll y ((j / y : Nat) : Int) ((j % y : Nat) : Int) p = atZ (atZ ll (j : Int)) p := by
  unfold atB
  have : ((j / y : Nat) : Int) * (y : Int) + ((j % y : Nat) : Int) = (j : Int) := by
    have := Nat.div_add_mod j y
    rw [← Int.natCast_mul, ← Int.natCast_add, Nat.mul_comm, this]
  rw [this]
def mixR (la lb : List (List Int)) (j p : Nat) : Int := atZ (atZ la (j : Int)) (p : Int) + atZ (atZ lb (j : Int)) (p : Int)
theorem bmixL_rows {x y : Nat} (la lb : List (List Int)) : bmixL la lb x y = rowsF (mixR la lb) (y * x) := by
  unfold bmixL
  simp only [Int.toNat_natCast]
  exact boxF_rows fun j p _ _ => by unfold bmixF mixR; rw [atB_row, atB_row]
def redR (ll : List (List Int)) (d : Int) (j p : Nat) : Int := atZ (atZ ll (j : Int)) (p : Int) / d
theorem redL_rows {x y : Nat} (ll : List (List Int)) (d : Int) : redL ll x y d = rowsF (redR ll d) (y * x) := by
  unfold redL
  simp only [Int.toNat_natCast]
  exact boxF_rows fun j p _ _ => by unfold redF redR; rw [atB_row]
/-- a row with flipped answers, on the way -/
def flM (row : List Int) (m : Int) (k : Nat) : List Int := rowF (fun j => if (xor4 j m).toNat < k then atZ row (xor4 j m) else 0) 4
@[simp] theorem flM_len (row : List Int) (m : Int) (k : Nat) : (flM row m k).length = 4 := by simp [flM]
theorem flM_zero (row : List Int) (m : Int) : flM row m 0 = List.replicate 4 0 := by simp [flM, rowF, List.range, List.range.loop]
theorem flM_set {row : List Int} {m : Int} {k : Nat} (hm : 0 ≤ m ∧ m < 4) (hk : k < 4) : (flM row m k).set (xor4 k m).toNat (atZ row k) = flM row m (k + 1) := by
  rcases (by omega : k = 0 ∨ k = 1 ∨ k = 2 ∨ k = 3) with rfl | rfl | rfl | rfl <;> rcases (by omega : m = 0 ∨ m = 1 ∨ m = 2 ∨ m = 3) with rfl | rfl | rfl | rfl <;> rfl
theorem flM_all (row : List Int) {m : Int} (hm : 0 ≤ m ∧ m < 4) : flM row m 4 = rowF (fun j => atZ row (xor4 j m)) 4 := by
  unfold flM
  refine rowF_congr fun j hj => if_pos ?_
  have := (xor4_eq hj hm.1 hm.2).2
  omega
theorem play_row {f g wh : Int} (hf : 0 ≤ f ∧ f ≤ 1) (hg : 0 ≤ g ∧ g ≤ 1) : (List.replicate 4 (0 : Int)).set (2 * f + g).toNat wh = rowF (fun p => if f = ((p / 2 : Nat) : Int) ∧ g = ((p % 2 : Nat) : Int) then wh else 0) 4 := by
  rcases (by omega : f = 0 ∨ f = 1) with rfl | rfl <;> rcases (by omega : g = 0 ∨ g = 1) with rfl | rfl <;> simp [rowF, List.range, List.range.loop]

end Go.Proofs.YtefbiejoikpkmaaGreat

namespace Go.Proofs.YtefbiejoikpkmaaGreat
open Go.RowKit
set_option linter.unusedSectionVars false
variable [Glb]
open Go
def zeroH : HD := ⟨0, 0, 0, [], [], 0, [], [], [], 0⟩
def nextT (h : HD) (k a : Int) : HD × Bool := match callT h k a with
  | some r => if hallB r.bx r.by_ r.bwh r.bll r.pl r.ev r.cc r.ss r.nu (h.co + 1) = true then ({ r with co := h.co + 1 }, true) else (zeroH, false)
  | none => (zeroH, false)
def nextH (h : HD) (k a : Int) : HD × Bool := if hallB h.bx h.by_ h.bwh h.bll h.pl h.ev h.cc h.ss h.nu h.co = true then nextT h k a else (zeroH, false)
theorem callT_co (h : HD) (c k a : Int) : callT { h with co := c } k a = (callT h k a).map fun r => { r with co := c } := by
  simp only [callT, apply_ite (Option.map _), Option.map_some, Option.map_none]
  rfl
structure NextOK (r : HD) (ok : Bool) : Prop where
  val : ok = true → hallB r.bx r.by_ r.bwh r.bll r.pl r.ev r.cc r.ss r.nu r.co = true
  zero : ok = false → r = zeroH
theorem nextT_ok (h : HD) (k a : Int) : NextOK (nextT h k a).1 (nextT h k a).2 := by
  unfold nextT
  cases callT h k a with
  | none => exact ⟨fun h => by simp at h, fun _ => rfl⟩
  | some r =>
    simp only
    by_cases hB : hallB r.bx r.by_ r.bwh r.bll r.pl r.ev r.cc r.ss r.nu (h.co + 1) = true
    · rw [if_pos hB]; exact ⟨fun _ => hB, fun h => by simp at h⟩
    · rw [if_neg hB]; exact ⟨fun h => by simp at h, fun _ => rfl⟩
theorem hallB_cnt {bx by_ bwh : Int} {bll : List (List Int)} {pl : List Int} {ev : Int} {cc : List (List Int)} {ss nu : List Int} {co : Int} (h : hallB bx by_ bwh bll pl ev cc ss nu co = true) :
    cnt bll ≤ 9000 ∧ pl.length ≤ 6 ∧ cnt cc ≤ 10000 ∧ ss.length ≤ 10 ∧ nu.length ≤ 12 ∧ bll.length ≤ 9 ∧ cc.length ≤ 10 := by
  have d := hallB_bd h
  have hH := hallB_spec h
  have s := jbz hH.sc
  have b := jbf hH.box
  refine ⟨len_le_cnt (m := 1000) d.bl fun r hr => ?_, d.pl6, len_le_cnt (m := 1000) d.cl fun r hr => ?_, d.sl, d.nl, d.bl, d.cl⟩
  · obtain ⟨i, hi, rfl⟩ := List.getElem_of_mem hr
    have := (row4B_len (b.row i hi)).1
    omega
  · obtain ⟨i, hi, rfl⟩ := List.getElem_of_mem hr
    exact (ctxB_len (by have := s.e12; omega) (s.ctx i hi)).1
theorem hallB_hv {bx by_ bwh : Int} {bll : List (List Int)} {pl : List Int} {ev : Int} {cc : List (List Int)} {ss nu : List Int} {co : Int} (h : hallB bx by_ bwh bll pl ev cc ss nu co = true) (c : Int) : HV ⟨bx, by_, bwh, bll, pl, ev, cc, ss, nu, c⟩ :=
  have hH := hallB_spec h
  ⟨hH.box, hH.pl, hH.sc, hH.nu⟩

end Go.Proofs.YtefbiejoikpkmaaGreat

namespace Go.Proofs.YtefbiejoikpkmaaGreat
open Go.RowKit
set_option linter.unusedSectionVars false
variable [Glb]
open Go Go.RowKit
/-! lists of structs -/
section
variable {α : Type} {c : α → List D} {n : Nat}
theorem flatL_len (hc : ∀ a, (c a).length = n) : ∀ l : List α, (l.flatMap c).length = l.length * n
  | [] => by simp
  | a :: l => by rw [List.flatMap_cons, List.length_append, hc, flatL_len hc l, List.length_cons, Nat.add_mul]; omega
theorem flatL_split (hc : ∀ a, (c a).length = n) {l : List α} {j : Nat} (h : j < l.length) : l.flatMap c = (l.take j).flatMap c ++ (c l[j] ++ (l.drop (j + 1)).flatMap c) ∧ ((l.take j).flatMap c).length = j * n := by
  refine ⟨?_, by rw [flatL_len hc, List.length_take]; congr 1; omega⟩
  conv => lhs; rw [← List.take_append_drop j l, List.drop_eq_getElem_cons h]
  simp only [List.flatMap_append, List.flatMap_cons]
theorem flatL_cut (hc : ∀ a, (c a).length = n) {l : List α} {j : Nat} {e : α} (h : l[j]? = some e) : ((l.flatMap c).drop (j * n)).take n = c e := by
  obtain ⟨hlt, rfl⟩ := List.getElem?_eq_some_iff.1 h
  obtain ⟨h1, h2⟩ := flatL_split hc hlt
  rw [h1, ← h2, List.drop_left, ← hc l[j], List.take_left]
end
/-! marks -/
def mkS {α : Type} (m : Int → α → α) (w : α → Nat) : Int → List α → List α
  | _, [] => []
  | k, r :: l => m k r :: mkS m w (k + w r) l
section
variable {α : Type} {m : Int → α → α} {w : α → Nat}
@[simp] theorem mkS_len : ∀ (k : Int) (l : List α), (mkS m w k l).length = l.length
  | _, [] => rfl
  | k, r :: l => by simp [mkS, mkS_len]
end
/-! calls, rules -/
abbrev CallE := Int × Int × Unit
abbrev RuleE := List Int × List (List Int) × List (List Int) × Unit
end Go.Proofs.YtefbiejoikpkmaaGreat

namespace Go.Proofs.YtefbiejoikpkmaaGreat
open Go.RowKit
set_option linter.unusedSectionVars false
variable [Glb]
open Go
/-! many calls: the hall behind the first ones that are possible, and how many these are -/
def allC : HD → List CallE → HD × Nat
  | h, [] => (h, 0)
  | h, c :: l => match nextT h c.1 c.2.1 with
    | (r, true) => ((allC r l).1, (allC r l).2 + 1)
    | (_, false) => (h, 0)
/-- the hall behind i calls -/
def stN (h : HD) (l : List CallE) : Nat → HD
  | 0 => h
  | i + 1 => (nextT (stN h l i) (l[i]?.getD (0, 0, ())).1 (l[i]?.getD (0, 0, ())).2.1).1
def okN (h : HD) (l : List CallE) (i : Nat) : Bool := (nextT (stN h l i) (l[i]?.getD (0, 0, ())).1 (l[i]?.getD (0, 0, ())).2.1).2
theorem stN_tail (h : HD) (c : CallE) (l : List CallE) : ∀ i, stN h (c :: l) (i + 1) = stN (nextT h c.1 c.2.1).1 l i
  | 0 => by simp [stN]
  | i + 1 => by
    have := stN_tail h c l i
    rw [stN, this]
    simp [stN]
theorem okN_tail (h : HD) (c : CallE) (l : List CallE) (i : Nat) : okN h (c :: l) (i + 1) = okN (nextT h c.1 c.2.1).1 l i := by
  unfold okN; rw [stN_tail]; simp
/-- all before n are possible, and the n-th is not or there is none -/
theorem allC_at : ∀ {l : List CallE} {h : HD} {n : Nat}, n ≤ l.length → (∀ i, i < n → okN h l i = true) → (n = l.length ∨ okN h l n = false) → allC h l = (stN h l n, n)
  | [], h, n, hn, _, _ => by
    have : n = 0 := by simpa using hn
    subst this; rfl
  | c :: l, h, 0, _, _, h0 => by
    have h1 : okN h (c :: l) 0 = false := by simpa using h0
    unfold okN at h1
    simp only [stN, List.getElem?_cons_zero, Option.getD_some] at h1
    rw [allC]
    generalize nextT h c.1 c.2.1 = p at h1 ⊢
    obtain ⟨r, ok⟩ := p
    simp only at h1
    subst h1; rfl
  | c :: l, h, n + 1, hn, ha, h0 => by
    have h1 := ha 0 (by omega)
    unfold okN at h1
    simp only [stN, List.getElem?_cons_zero, Option.getD_some] at h1
    have hr := allC_at (l := l) (h := (nextT h c.1 c.2.1).1) (n := n) (by simpa using hn) (fun i hi => by rw [← okN_tail]; exact ha (i + 1) (by omega)) (by
      rcases h0 with h0 | h0
      · exact .inl (by simpa using h0)
      · exact .inr (by rw [← okN_tail]; exact h0))
    rw [stN_tail, allC]
    generalize nextT h c.1 c.2.1 = p at h1 hr ⊢
    obtain ⟨r, ok⟩ := p
    simp only at h1 hr
    subst h1
    simp [hr]
/-- a hall behind calls that were possible is valid -/
theorem stN_ok {h : HD} {l : List CallE} (hB : hallB h.bx h.by_ h.bwh h.bll h.pl h.ev h.cc h.ss h.nu h.co = true) : ∀ {n : Nat}, (∀ i, i < n → okN h l i = true) →
    hallB (stN h l n).bx (stN h l n).by_ (stN h l n).bwh (stN h l n).bll (stN h l n).pl (stN h l n).ev (stN h l n).cc (stN h l n).ss (stN h l n).nu (stN h l n).co = true
  | 0, _ => hB
  | n + 1, ha => (nextT_ok (stN h l n) (l[n]?.getD (0, 0, ())).1 (l[n]?.getD (0, 0, ())).2.1).val (ha n (by omega))

theorem at_call {l : List CallE} {i : Nat} (h : i < l.length) : l[i]?.getD (0, 0, ()) = atZ l (i : Int) := by
  rw [jbp h, List.getElem?_eq_getElem h]; rfl
def hallV (h : HD) : Bool := hallB h.bx h.by_ h.bwh h.bll h.pl h.ev h.cc h.ss h.nu h.co
/-- what CallAll says -/
def allH (h : HD) (l : List CallE) : HD × Int × Bool := if hallV h = true then ((allC h l).1, ((allC h l).2 : Int), true) else (zeroH, 0, false)
theorem allH_at {l : List CallE} {h : HD} {n : Nat} (hb : hallV h = true) (hn : n ≤ l.length) (h1 : ∀ i, i < n → okN h l i = true) (h2 : n = l.length ∨ okN h l n = false) : allH h l = (stN h l n, (n : Int), true) := by
  unfold allH; rw [if_pos hb, allC_at hn h1 h2]
/-- a valid hall, its next call: possible -/
theorem call_ok {h : HD} {l : List CallE} {i : Nat} (hb : hallV h = true) (hi : i < l.length) (ha : ∀ j, j < i → okN h l j = true) (ho : okN h l i = true) :
    hallV (stN h l i) = true ∧ nextT (stN h l i) (atZ l (i : Int)).1 (atZ l (i : Int)).2.1 = (stN h l (i + 1), true) := by
  refine ⟨stN_ok hb ha, ?_⟩
  rw [← at_call hi]
  unfold okN at ho
  rw [stN, ← ho]
theorem call_no {h : HD} {l : List CallE} {i : Nat} (hb : hallV h = true) (hi : i < l.length) (ha : ∀ j, j < i → okN h l j = true) (ho : okN h l i = false) :
    hallV (stN h l i) = true ∧ nextT (stN h l i) (atZ l (i : Int)).1 (atZ l (i : Int)).2.1 = (zeroH, false) := by
  refine ⟨stN_ok hb ha, ?_⟩
  rw [← at_call hi]
  have := (nextT_ok (stN h l i) (l[i]?.getD (0, 0, ())).1 (l[i]?.getD (0, 0, ())).2.1).zero ho
  unfold okN at ho
  rw [← this, ← ho]
theorem nextH_T {h : HD} (hb : hallV h = true) (k a : Int) : nextH h k a = nextT h k a := if_pos hb
theorem allC_ok : ∀ {l : List CallE} {h : HD}, hallV h = true → hallV (allC h l).1 = true
  | [], h, hb => hb
  | c :: l, h, hb => by
    have h1 := nextT_ok h c.1 c.2.1
    rw [allC]
    generalize nextT h c.1 c.2.1 = p at h1 ⊢
    obtain ⟨r, ok⟩ := p
    cases ok with
    | true => exact allC_ok (h1.val rfl)
    | false => exact hb
theorem allH_ok (h : HD) (l : List CallE) : NextOK (allH h l).1 (allH h l).2.2 := by
  unfold allH
  by_cases hb : hallV h = true
  · rw [if_pos hb]; exact ⟨fun _ => allC_ok hb, fun h => by simp at h⟩
  · rw [if_neg hb]; exact ⟨fun h => by simp at h, fun _ => rfl⟩

end Go.Proofs.YtefbiejoikpkmaaGreat

namespace Go.Proofs.YtefbiejoikpkmaaGreat
open Go.RowKit
set_option linter.unusedSectionVars false
variable [Glb]
open Go
/-! more boxes: plays, flips, multiples, noise, the sum box of any size -/
theorem play_box {x y : Nat} {pl : List Int} {wh : Int} (hx : 1 ≤ x ∧ x ≤ 3) (hy : 1 ≤ y ∧ y ≤ 3) (hp : bitsB pl ((x : Int) + y) = true) (hw : 1 ≤ wh ∧ wh ≤ 1000) : boxB x y wh (playL pl x y wh) = true := by
  unfold playL
  simp only [Int.toNat_natCast]
  rw [rows_box hx hy hw.1 (by omega), decide_eq_true hw.2]
  intro i k hi hk
  have f1 := bitsB_at hp (i := (i : Int)) (by omega) (by omega)
  have f2 := bitsB_at hp (i := (x : Int) + k) (by omega) (by omega)
  unfold playF
  refine ⟨fun p hp => by split <;> omega, ?_⟩
  generalize atZ pl (i : Int) = f at *
  generalize atZ pl ((x : Int) + k) = g at *
  rcases (by omega : f = 0 ∨ f = 1) with rfl | rfl <;> rcases (by omega : g = 0 ∨ g = 1) with rfl | rfl <;> simp
theorem flip_box {x y : Nat} {n : Int} {ll : List (List Int)} {fl : List Int} (hb : boxB x y n ll = true) (hf : bitsB fl ((x : Int) + y) = true) : boxB x y n (bflL ll x y fl) = true := by
  have b := jbf hb
  have a1 := b.x1; have a2 := b.x3; have a3 := b.y1; have a4 := b.y3; have a5 := b.n1; have a6 := b.n2
  unfold bflL
  simp only [Int.toNat_natCast]
  rw [rows_box (by omega) (by omega) (by omega) (by omega), decide_eq_true (by omega)]
  intro i k hi hk
  obtain ⟨b7, b8⟩ := box_at hb hi hk
  have f1 := bitsB_at hf (i := (i : Int)) (by omega) (by omega)
  have f2 := bitsB_at hf (i := (x : Int) + k) (by omega) (by omega)
  have hm : 0 ≤ flipOf fl x i k ∧ flipOf fl x i k < 4 := by unfold flipOf; omega
  unfold bflF
  generalize flipOf fl (x : Int) (i : Int) (k : Int) = m at *
  refine ⟨fun p hp => ?_, ?_⟩
  · have x4 := xor4_eq hp hm.1 hm.2
    obtain ⟨t, ht⟩ := Int.eq_ofNat_of_zero_le x4.2.1
    rw [ht] at x4 ⊢
    exact (b7 t (by omega)).1
  · have e : ∀ p : Nat, xor4 p m = ((p ^^^ m.toNat : Nat) : Int) := fun p => rfl
    rw [e, e, e, e]
    rcases (by omega : m = 0 ∨ m = 1 ∨ m = 2 ∨ m = 3) with rfl | rfl | rfl | rfl
    · simpa using b8
    · have c : ((0 ^^^ (1 : Int).toNat : Nat) : Int) = ((1 : Nat) : Int) ∧ ((1 ^^^ (1 : Int).toNat : Nat) : Int) = ((0 : Nat) : Int) ∧ ((2 ^^^ (1 : Int).toNat : Nat) : Int) = ((3 : Nat) : Int) ∧ ((3 ^^^ (1 : Int).toNat : Nat) : Int) = ((2 : Nat) : Int) := by decide
      rw [c.1, c.2.1, c.2.2.1, c.2.2.2]; omega
    · have c : ((0 ^^^ (2 : Int).toNat : Nat) : Int) = ((2 : Nat) : Int) ∧ ((1 ^^^ (2 : Int).toNat : Nat) : Int) = ((3 : Nat) : Int) ∧ ((2 ^^^ (2 : Int).toNat : Nat) : Int) = ((0 : Nat) : Int) ∧ ((3 ^^^ (2 : Int).toNat : Nat) : Int) = ((1 : Nat) : Int) := by decide
      rw [c.1, c.2.1, c.2.2.1, c.2.2.2]; omega
    · have c : ((0 ^^^ (3 : Int).toNat : Nat) : Int) = ((3 : Nat) : Int) ∧ ((1 ^^^ (3 : Int).toNat : Nat) : Int) = ((2 : Nat) : Int) ∧ ((2 ^^^ (3 : Int).toNat : Nat) : Int) = ((1 : Nat) : Int) ∧ ((3 ^^^ (3 : Int).toNat : Nat) : Int) = ((0 : Nat) : Int) := by decide
      rw [c.1, c.2.1, c.2.2.1, c.2.2.2]; omega
/-- the sum box of any size -/
def oddR (n i : Nat) : List Int := if i + 1 = n then [0, 1, 1, 0] else [1, 0, 0, 1]
def oddL (n i : Nat) : List (List Int) := (List.range i).map (oddR n)
@[simp] theorem oddL_len (n i : Nat) : (oddL n i).length = i := by simp [oddL]
theorem oddL_snoc (n i : Nat) : oddL n (i + 1) = oddL n i ++ [oddR n i] := by simp [oddL, List.range_succ]
theorem odd_box {x y : Nat} (hx : 1 ≤ x ∧ x ≤ 3) (hy : 1 ≤ y ∧ y ≤ 3) : boxB x y 2 (oddL (x * y) (x * y)) = true := by
  rcases (by omega : x = 1 ∨ x = 2 ∨ x = 3) with rfl | rfl | rfl <;> rcases (by omega : y = 1 ∨ y = 2 ∨ y = 3) with rfl | rfl | rfl <;> decide
/-- noise -/
def noiL (i : Nat) : List (List Int) := List.replicate i [1, 1, 1, 1]
theorem noi_box {x y : Nat} (hx : 1 ≤ x ∧ x ≤ 3) (hy : 1 ≤ y ∧ y ≤ 3) : boxB x y 4 (noiL (x * y)) = true := by
  rcases (by omega : x = 1 ∨ x = 2 ∨ x = 3) with rfl | rfl | rfl <;> rcases (by omega : y = 1 ∨ y = 2 ∨ y = 3) with rfl | rfl | rfl <;> decide
end Go.Proofs.YtefbiejoikpkmaaGreat

namespace Go.Proofs.YtefbiejoikpkmaaGreat
open Go.RowKit
set_option linter.unusedSectionVars false
variable [Glb]
open Go
/-! quiet boxes of two questions each, boxes that are alike -/
/-- the same chances -/
def alikeB (la : List (List Int)) (na : Int) (lb : List (List Int)) (nb : Int) : Bool := (List.range la.length).all fun q => (List.range 4).all fun k => decide (at2 la q k * nb = at2 lb q k * na)
theorem mul_small {a b : Int} (a0 : 0 ≤ a) (a1 : a ≤ 1000) (b0 : 0 ≤ b) (b1 : b ≤ 1000) : 0 ≤ a * b ∧ a * b ≤ 1000000 :=
  ⟨Int.mul_nonneg a0 b0, Int.le_trans (Int.mul_le_mul a1 b1 b0 (by omega)) (by decide)⟩
theorem box_len9 {x y n : Int} {ll : List (List Int)} (h : boxB x y n ll = true) : ll.length ≤ 9 := by
  have b := jbf h
  have := jcu (jbv.2 ⟨⟨b.x1, b.x3⟩, b.y1, b.y3⟩)
  have := b.len
  omega

end Go.Proofs.YtefbiejoikpkmaaGreat

namespace Go.Proofs.YtefbiejoikpkmaaGreat
open Go.RowKit
set_option linter.unusedSectionVars false
variable [Glb]
open Go
/-! calls that undo themselves, reduced boxes -/
theorem box_self3 {x y : Nat} {n : Int} {ll : List (List Int)} (hb : boxB x y n ll = true) {f : Nat → Nat → Nat → Int} (h : ∀ i k p : Nat, i < x → k < y → p < 4 → f i k p = atB ll y i k p) : boxF f y (y * x) = ll := by
  have b := jbf hb
  have y1 := b.y1
  have hl : ll.length = y * x := by have := b.len; rw [← Int.natCast_mul] at this; rw [Nat.mul_comm]; omega
  refine List.ext_getElem (by simp [hl]) fun j h1 h2 => ?_
  have hj : j < y * x := by simpa using h1
  have hrow : ll[j].length = 4 := (row4B_len (b.row j h2)).1
  simp only [boxF, List.getElem_map, List.getElem_range]
  refine List.ext_getElem (by simp [hrow]) fun p g1 g2 => ?_
  have hp : p < 4 := by omega
  have e := h (j / y) (j % y) p (Nat.div_lt_of_lt_mul hj) (Nat.mod_lt _ (by omega)) hp
  rw [atB_row, jbp h2, jbp g2] at e
  simpa [rowF] using e
theorem boxF_val {f : Nat → Nat → Nat → Int} {x y i k p : Nat} (hi : i < x) (hk : k < y) (hp : p < 4) : atB (boxF f y (y * x)) y i k (p : Int) = f i k p := by
  unfold atB
  have e : (i : Int) * y + k = ((y * i + k : Nat) : Int) := by rw [Int.natCast_add, Int.natCast_mul, Int.mul_comm]
  have e1 : (y * i + k) / y = i := by rw [Nat.mul_comm, Nat.add_comm, Nat.add_mul_div_right _ _ (by omega), Nat.div_eq_of_lt hk, Nat.zero_add]
  have e2 : (y * i + k) % y = k := by rw [Nat.mul_comm, Nat.add_comm, Nat.add_mul_mod_self_right, Nat.mod_eq_of_lt hk]
  rw [e, boxF_at (idx_ltN hi hk), rowF_atZ _ hp, e1, e2]
theorem xor4_twice {p : Nat} {m : Int} (hp : p < 4) (hm : 0 ≤ m ∧ m < 4) : ∃ t : Nat, t < 4 ∧ xor4 p m = (t : Int) ∧ xor4 t m = (p : Int) := by
  refine ⟨p ^^^ m.toNat, ?_, rfl, ?_⟩ <;> rcases (by omega : p = 0 ∨ p = 1 ∨ p = 2 ∨ p = 3) with rfl | rfl | rfl | rfl <;> rcases (by omega : m = 0 ∨ m = 1 ∨ m = 2 ∨ m = 3) with rfl | rfl | rfl | rfl <;> decide
theorem bfl_twice {x y : Nat} {n : Int} {ll : List (List Int)} {fl : List Int} (hb : boxB x y n ll = true) (hf : bitsB fl ((x : Int) + y) = true) : bflL (bflL ll x y fl) x y fl = ll := by
  conv => lhs; unfold bflL
  simp only [Int.toNat_natCast]
  refine box_self3 hb fun i k p hi hk hp => ?_
  have f1 := bitsB_at hf (i := (i : Int)) (by omega) (by omega)
  have f2 := bitsB_at hf (i := (x : Int) + k) (by omega) (by omega)
  have hm : 0 ≤ flipOf fl x i k ∧ flipOf fl x i k < 4 := by unfold flipOf; omega
  obtain ⟨t, t4, e1, e2⟩ := xor4_twice hp hm
  unfold bflF
  rw [e1]
  rw [boxF_val hi hk t4, e2]
theorem swap_twice {x y : Nat} {n : Int} {ll : List (List Int)} (hb : boxB x y n ll = true) : swapL (swapL ll x y) y x = ll := by
  conv => lhs; unfold swapL
  simp only [Int.toNat_natCast]
  refine box_self3 hb fun i k p hi hk hp => ?_
  unfold swapF
  rw [boxF_val hk hi (by omega)]
  rw [show 2 * ((2 * (p % 2) + p / 2) % 2) + (2 * (p % 2) + p / 2) / 2 = p by omega]
theorem evL_get (cc : List (List Int)) (ss : List Int) (e : Int) {i : Nat} (h : i < (evL cc ss e).length) : (evL cc ss e)[i] = evF cc ss e i := by simp [evL, rowF]
theorem ev_twice (cc : List (List Int)) (ss : List Int) (e : Int) : evL cc (evL cc ss e) e = ss := by
  refine List.ext_getElem (by simp) fun i h1 h2 => ?_
  have a : atZ (evL cc ss e) (i : Int) = evF cc ss e i := by unfold evL; exact rowF_atZ _ h2
  rw [evL_get]
  unfold evF
  rw [a]
  unfold evF
  rw [jbp h2]
  split <;> omega
theorem set_twice {l : List Int} {a : Int} (h : inB a 0 ((l.length : Int) - 1) = true) : ((l.set a.toNat (1 - atZ l a)).set a.toNat (1 - atZ (l.set a.toNat (1 - atZ l a)) a)) = l := by
  have := jcd.1 h
  obtain ⟨i, rfl⟩ := Int.eq_ofNat_of_zero_le this.1
  have hi : i < l.length := by omega
  simp only [Int.toNat_natCast]
  rw [jbp (l := l.set i _) (by simpa using hi), List.getElem_set_self, jbp hi, List.set_set, show (1 : Int) - (1 - l[i]) = l[i] by omega, List.set_getElem_self]
theorem part_twice {l : List Int} {x y : Nat} (h : l.length = x + y) : partZ (partZ l x l.length ++ partZ l 0 x) y ((partZ l x l.length ++ partZ l 0 x).length) ++ partZ (partZ l x l.length ++ partZ l 0 x) 0 y = l := by
  have e1 : partZ l x l.length = l.drop x := by
    unfold partZ; simp only [Int.toNat_natCast]
    rw [List.take_of_length_le (by simp)]
  have e2 : partZ l 0 x = l.take x := by
    unfold partZ; simp
  rw [e1, e2]
  have hd : (l.drop x).length = y := by simp [h]
  have ht : (l.take x).length = x := by simp [h]
  have e3 : partZ (l.drop x ++ l.take x) y ((l.drop x ++ l.take x).length) = l.take x := by
    unfold partZ; simp only [Int.toNat_natCast]
    rw [List.drop_left' hd, List.take_of_length_le (by simp [h])]
  have e4 : partZ (l.drop x ++ l.take x) 0 y = l.drop x := by
    unfold partZ
    simp only [Int.toNat_zero, Int.toNat_natCast, List.drop_zero, Nat.sub_zero]
    rw [List.take_left' hd]
  rw [e3, e4, List.take_append_drop]
theorem callT_back {h r : HD} {k a : Int} (hv : HV h) (h1 : k ≠ 1) (h5 : k ≠ 5) (e : callT h k a = some r) : callT r k a = some h := by
  obtain ⟨bx, by_, bwh, bll, pl, ev, cc, ss, nu, co⟩ := h
  obtain ⟨b, p, s, n⟩ := hv
  dsimp only at b p s n
  obtain ⟨x, y, rfl, rfl, hx, hy⟩ := box_nat b
  have pl_len : (pl.length : Int) = (x : Int) + y := by have := jbl p; omega
  have nu_len : (nu.length : Int) = ev := jbl n
  unfold callT at e ⊢
  rw [if_neg h1] at e ⊢
  by_cases k2 : k = 2
  · rw [if_pos k2] at e ⊢
    dsimp only at e
    split at e
    · rename_i ha
      cases e
      dsimp only
      rw [List.length_set, if_pos ha, set_twice ha]
    · cases e
  rw [if_neg k2] at e ⊢
  by_cases k3 : k = 3
  · rw [if_pos k3] at e ⊢
    dsimp only at e
    split at e
    · rename_i ha
      cases e
      dsimp only
      rw [if_pos ha, bfl_twice b (by rw [← pl_len]; exact oneL_bits _ _)]
    · cases e
  rw [if_neg k3] at e ⊢
  by_cases k4 : k = 4
  · rw [if_pos k4] at e ⊢
    dsimp only at e
    split at e
    · rename_i ha
      cases e
      dsimp only
      rw [if_pos ha, swap_twice b, part_twice (by omega)]
    · cases e
  rw [if_neg k4, if_neg h5] at e ⊢
  by_cases k6 : k = 6
  · rw [if_pos k6] at e ⊢
    dsimp only at e
    split at e
    · rename_i ha
      cases e
      dsimp only
      rw [List.length_set, if_pos ha, set_twice ha]
    · cases e
  rw [if_neg k6] at e ⊢
  by_cases k7 : k = 7
  · rw [if_pos k7] at e ⊢
    dsimp only at e
    split at e
    · rename_i ha
      cases e
      dsimp only
      rw [if_pos ha, ev_twice]
    · cases e
  rw [if_neg k7] at e
  cases e
/-- a call that is possible: what it leaves -/
theorem next_spec {h n : HD} {k a : Int} (e : nextH h k a = (n, true)) : hallV h = true ∧ hallV n = true ∧ ∃ r, callT h k a = some r ∧ n = { r with co := h.co + 1 } := by
  unfold nextH at e
  by_cases hB : hallB h.bx h.by_ h.bwh h.bll h.pl h.ev h.cc h.ss h.nu h.co = true
  · rw [if_pos hB] at e
    have ok := nextT_ok h k a
    rw [e] at ok
    refine ⟨hB, ok.val rfl, ?_⟩
    unfold nextT at e
    cases hr : callT h k a with
    | none => rw [hr] at e; cases e
    | some r =>
      rw [hr] at e
      dsimp only at e
      split at e
      · cases e; exact ⟨r, rfl, rfl⟩
      · cases e
  · rw [if_neg hB] at e; cases e
theorem next_back {h n : HD} {k a : Int} (h1 : k ≠ 1) (h5 : k ≠ 5) (e : nextH h k a = (n, true)) : n.co = h.co + 1 ∧ hallV n = true ∧ (n.co = 1000 ∨ nextH n k a = ({ h with co := n.co + 1 }, true)) := by
  obtain ⟨hB, nB, r, hr, rfl⟩ := next_spec e
  refine ⟨rfl, nB, ?_⟩
  by_cases hc : h.co + 1 = 1000
  · exact .inl hc
  right
  have hH := hallB_spec hB
  have bk := callT_back ⟨hH.box, hH.pl, hH.sc, hH.nu⟩ h1 h5 hr
  have co := jcd.1 hH.co
  have co2 := jcd.1 (hallB_spec nB).co
  dsimp only at co2
  rw [nextH_T nB]
  unfold nextT
  rw [callT_co, bk]
  dsimp only [Option.map_some]
  have ok : hallB h.bx h.by_ h.bwh h.bll h.pl h.ev h.cc h.ss h.nu (h.co + 1 + 1) = true := by
    simp only [hallB, hH.box, hH.pl, hH.sc, hH.nu, Bool.true_and]
    exact jcd.2 (by omega)
  rw [if_pos ok]
/-! the least numbers -/
theorem gcdI_dvd {a b : Int} (ha : 0 ≤ a) (hb : 0 ≤ b) : gcdI a b ∣ a ∧ gcdI a b ∣ b := by
  unfold gcdI
  obtain ⟨m, rfl⟩ := Int.eq_ofNat_of_zero_le ha
  obtain ⟨n, rfl⟩ := Int.eq_ofNat_of_zero_le hb
  simp only [Int.toNat_natCast]
  exact ⟨Int.natCast_dvd_natCast.2 (Nat.gcd_dvd_left _ _), Int.natCast_dvd_natCast.2 (Nat.gcd_dvd_right _ _)⟩
theorem gcdI_nn (a b : Int) : 0 ≤ gcdI a b := by unfold gcdI; omega
theorem gcdR_dvd : ∀ {row : List Int} {d : Int}, 0 ≤ d → (∀ v ∈ row, 0 ≤ v) → gcdR d row ∣ d ∧ (∀ v ∈ row, gcdR d row ∣ v) ∧ 0 ≤ gcdR d row
  | [], d, h, _ => ⟨Int.dvd_refl _, by simp, h⟩
  | x :: row, d, h, hr => by
    have a := gcdI_dvd h (hr x (List.mem_cons_self ..))
    have b := gcdR_dvd (row := row) (gcdI_nn d x) fun v hv => hr v (List.mem_cons_of_mem _ hv)
    have e : gcdR d (x :: row) = gcdR (gcdI d x) row := rfl
    rw [e]
    refine ⟨Int.dvd_trans b.1 a.1, fun v hv => ?_, b.2.2⟩
    rcases List.mem_cons.1 hv with rfl | hv
    · exact Int.dvd_trans b.1 a.2
    · exact b.2.1 v hv
theorem gcdL_dvd : ∀ {ll : List (List Int)} {d : Int}, 0 ≤ d → (∀ r ∈ ll, ∀ v ∈ r, 0 ≤ v) → gcdL d ll ∣ d ∧ ∀ r ∈ ll, ∀ v ∈ r, gcdL d ll ∣ v
  | [], d, _, _ => ⟨Int.dvd_refl _, by simp⟩
  | x :: ll, d, h, hr => by
    have a := gcdR_dvd h (hr x (List.mem_cons_self ..))
    have b := gcdL_dvd (ll := ll) a.2.2 fun r hv => hr r (List.mem_cons_of_mem _ hv)
    have e : gcdL d (x :: ll) = gcdL (gcdR d x) ll := rfl
    rw [e]
    refine ⟨Int.dvd_trans b.1 a.1, fun r hv v hv2 => ?_⟩
    rcases List.mem_cons.1 hv with rfl | hv
    · exact Int.dvd_trans b.1 (a.2.1 v hv2)
    · exact b.2 r hv v hv2
theorem div_cross {v n d : Int} (hd : 1 ≤ d) (hv : d ∣ v) (hn : d ∣ n) : v / d * n = v * (n / d) := by
  obtain ⟨c, rfl⟩ := hv
  obtain ⟨e, rfl⟩ := hn
  rw [Int.mul_ediv_cancel_left _ (by omega), Int.mul_ediv_cancel_left _ (by omega)]
  rw [Int.mul_left_comm, Int.mul_assoc]
theorem red_alike {x y : Nat} {n : Int} {ll : List (List Int)} (hb : boxB x y n ll = true) : alikeB (redL ll x y (gcdL n ll)) (n / gcdL n ll) ll n = true ∧ n / gcdL n ll ≤ n := by
  have b := jbf hb
  have n1 := b.n1
  have g := gcdL_pos (ll := ll) n1
  have hl : ll.length = y * x := by have := b.len; rw [← Int.natCast_mul] at this; rw [Nat.mul_comm]; omega
  have D := gcdL_dvd (ll := ll) (d := n) (by omega) fun r hr v hv => by
    obtain ⟨i, hi, rfl⟩ := List.getElem_of_mem hr
    obtain ⟨j, hj, rfl⟩ := List.getElem_of_mem hv
    exact ((row4B_len (b.row i hi)).2 j hj).1
  refine ⟨?_, Int.ediv_le_self _ (by omega)⟩
  rw [redL_rows]
  unfold alikeB
  rw [List.all_eq_true]
  intro q hq
  rw [List.all_eq_true]
  intro k hk
  have hq := List.mem_range.1 hq
  have hk := List.mem_range.1 hk
  rw [rowsF_len] at hq
  have hq2 : q < ll.length := by omega
  have hr := (row4B_len (b.row q hq2)).1
  have e : at2 (rowsF (redR ll (gcdL n ll)) (y * x)) q k = at2 ll q k / gcdL n ll := by
    unfold at2
    rw [jbp (l := rowsF _ _) (by simpa using hq)]
    simp only [rowsF, List.getElem_map, List.getElem_range]
    rw [rowF_atZ _ hk]
    rfl
  rw [e, decide_eq_true_eq]
  refine div_cross g.1 ?_ D.1
  unfold at2
  rw [jbp hq2, jbp (k := k) (by rw [hr]; exact hk)]
  exact D.2 _ (List.getElem_mem _) _ (List.getElem_mem _)
theorem next_co {h n : HD} {k a : Int} (e : nextH h k a = (n, true)) : n.co = h.co + 1 := by
  obtain ⟨_, _, r, _, rfl⟩ := next_spec e
  rfl
theorem next_mix {h n : HD} {a : Int} (e : nextH h 1 a = (n, true)) : n.bwh = h.bwh + a := by
  obtain ⟨_, _, r, hr, rfl⟩ := next_spec e
  unfold callT at hr
  rw [if_pos rfl] at hr
  split at hr
  · cases hr; rfl
  · cases hr
theorem next_red {h n : HD} {a : Int} (e : nextH h 5 a = (n, true)) : n.bx = h.bx ∧ n.by_ = h.by_ ∧ alikeB n.bll n.bwh h.bll h.bwh = true ∧ n.bwh ≤ h.bwh := by
  obtain ⟨hB, _, r, hr, rfl⟩ := next_spec e
  have b := (hallB_spec hB).box
  unfold callT at hr
  rw [if_neg (by decide), if_neg (by decide), if_neg (by decide), if_neg (by decide), if_pos rfl] at hr
  split at hr
  · cases hr
    obtain ⟨bx, by_, bwh, bll, pl, ev, cc, ss, nu, co⟩ := h
    dsimp only at b ⊢
    obtain ⟨x, y, rfl, rfl, hx, hy⟩ := box_nat b
    exact ⟨rfl, rfl, (red_alike b).1, (red_alike b).2⟩
  · cases hr

end Go.Proofs.YtefbiejoikpkmaaGreat

namespace Go.Proofs.YtefbiejoikpkmaaGreat
open Go.RowKit
set_option linter.unusedSectionVars false
variable [Glb]
set_option maxRecDepth 10000
set_option maxHeartbeats 4000000
theorem vBig_p (code : Tx) : PC Tryz.prog 32 [.c (eB code)] (.p (.c (dB (decide ((code.length : Int) > 65536))))) := by
  refine jas Tryz.func32 rfl rfl rfl (by kernel_rfl) rfl rfl ?_; intro _
  repeat' (first | (refine jaa (.assign _) ?_; (refine jac (jam rfl) rfl ?_)) | (refine jaa (.move _) ?_; (refine jac (jal rfl) rfl ?_)) | (refine jaa (.call ⟨.builtin .len, _, #[22]⟩) ?_; (refine jac (jbb rfl (by kernel_rfl)) rfl ?_)) | (refine jaa (.binOp .gtr 3 _ _ _) ?_; refine jac (jda rfl rfl) rfl ?_) | refine jah ?_ | refine jaj ?_ | refine jab ?_)
  all_goals (apply jau; apply jav; (· apply jbc.p; (· (apply GvA.cons; (· exact .tmp _); (· exact GvP.c (.lit _))); exact GvA.nil); (· (decide))))
  all_goals rfl

end Go.Proofs.YtefbiejoikpkmaaGreat

namespace Go.Proofs.YtefbiejoikpkmaaGreat
open Go.RowKit
set_option linter.unusedSectionVars false
variable [Glb]
set_option maxRecDepth 10000
set_option maxHeartbeats 4000000
section
variable {P : Program} {st : St} {dst : Option Tmp} {ty : TypeId} {pos : String} {af : Array Edge}
theorem qt_slice_dM10 {α : Type} {f : α → D} {l : List α} {T : TypeId} {x lo : Operand} {kl : IntKind} {i : Int} (hx : st.ev x = .c (.d (.sl 1 l.length (l.map f)))) (hl : st.ev lo = .c (.d (.lit (.int kl i)))) (ht : tSl P T 1 = true) (h0 : 0 ≤ i) (h1 : i ≤ l.length) :
    Qt P ⟨dst, .slice T x (some lo) none none, ty, pos, af, none⟩ st (.c (.d (.sl 1 (partZ l i l.length).length ((partZ l i l.length).map f)))) :=
  qt_slice_d (vl := some (kl, i)) (vh := none) (i := i.toNat) (j := l.length) hx (ev_some hl) (fun _ _ _ _ _ => rfl) ht ⟨h0, rfl⟩ rfl (by omega) (Nat.le_refl _) (by rw [partZ_len (by omega)]; omega) (by rw [← map_part, partZ_len (by omega)])
end

end Go.Proofs.YtefbiejoikpkmaaGreat

namespace Go.Proofs.YtefbiejoikpkmaaGreat
open Go.RowKit
set_option linter.unusedSectionVars false
variable [Glb]
set_option maxRecDepth 10000
set_option maxHeartbeats 4000000
theorem vCut_p (code : Tx) (n : Nat) (h0 : n ≤ 3) (h1 : code.length ≤ 65536) : PC Tryz.prog 37 [.c (eB code), .c (dI n)] (.p (.c (eB (partZ code (min n code.length : Nat) code.length ++ [UInt8.ofNat (min n code.length)])))) := by
  have hp : (partZ code (min n code.length : Nat) code.length).length = code.length - min n code.length := by rw [partZ_len (by omega)]; omega
  have hp2 : (partZ code n code.length).length = code.length - n := by rw [partZ_len (by omega)]; omega
  have hp3 : (partZ code code.length code.length).length = 0 := by rw [partZ_len (by omega)]; omega
  refine jas Tryz.func37 rfl rfl rfl (by kernel_rfl) rfl rfl ?_; intro _
  repeat' (first | (refine jaa (.assign _) ?_; (refine jac (jam rfl) rfl ?_)) | (refine jaa (.move _) ?_; (refine jac (jal rfl) rfl ?_)) | (refine jaa (.call ⟨.builtin .len, _, #[22]⟩) ?_; (refine jac (jbb rfl (by kernel_rfl)) rfl ?_)) | (refine jaa (.binOp .gtr 3 _ _ _) ?_; refine jac (jda rfl rfl) rfl ?_) | (refine jaa (.buildSlice 22 0 _) ?_; (apply jao (sz := 1) (by_ := 1); (· kernel_rfl); (· decide); (· (repeat (exact GvS.nil _))); (· (decide)); (· rfl); (· rfl); (· rfl))) | (refine jaa (.slice 22 _ (some _) none none) ?_; (refine jac (qt_slice_dM10 rfl rfl (by kernel_rfl) (by (omega)) (by (omega))) rfl ?_)) | (refine jaa (.call ⟨.builtin .append, _, #[22, 22]⟩) ?_; (first | (apply jbs (sz := 1) (by_ := 1); (· rfl); (· rfl); (· ((simp; done))); (· exact .row _ _ _ _ rfl (by ((simp; done)))); (· (decide)); (· kernel_rfl); (· decide); (· (omega)); (· (omega)); (· rfl); (· rfl); (· rfl)) | (apply jbs (sz := 1) (by_ := 1); (· rfl); (· rfl); (· ((simp; done))); (· exact .see _ _ _ (by (exact Lits.map))); (· (decide)); (· kernel_rfl); (· decide); (· (omega)); (· (omega)); (· rfl); (· rfl); (· rfl)))) | (refine jaa (.convert 3 5 _) ?_; (refine jac (qt_convI (k' := .u8) rfl (by kernel_rfl) (by kernel_rfl) (by (exact wrapU8 (by (omega))))) rfl ?_)) | (refine jaa (.buildSlice 22 1 _) ?_; (apply jao (sz := 1) (by_ := 1); (· kernel_rfl); (· decide); (· (repeat (first | exact GvS.nil _ | apply GvS.c rfl rfl (.lit _) rfl))); (· (decide)); (· rfl); (· rfl); (· rfl))) | refine jah ?_ | refine jaj ?_ | refine jan ?_ | refine jab ?_ | refine jbm rfl (fun hc => ?_) (fun hc => ?_))
  all_goals first | (exfalso; omega) | skip
  · (apply jau; apply jav; (· apply jbc.p; (· (apply GvA.cons; (· exact .tmp _); (· (exact GvP.c (.row _ _ _ _ rfl (by ((simp; done))))))); exact GvA.nil); (· (decide))))
    have e : min n code.length = code.length := by omega
    have e2 : (UInt8.ofNat code.length).toNat = code.length := by rw [UInt8.toNat_ofNat']; omega
    rw [e]
    simp [e2, hp3, cY, eB, dY]
  · (apply jau; apply jav; (· apply jbc.p; (· (apply GvA.cons; (· exact .tmp _); (· (exact GvP.c (.row _ _ _ _ rfl (by ((simp; done))))))); exact GvA.nil); (· (decide))))
    have e : min n code.length = n := by omega
    have e2 : (UInt8.ofNat n).toNat = n := by rw [UInt8.toNat_ofNat']; omega
    rw [e]
    simp [e2, hp2, cY, eB, dY]

end Go.Proofs.YtefbiejoikpkmaaGreat

namespace Go.Proofs.YtefbiejoikpkmaaGreat
open Go.RowKit
set_option linter.unusedSectionVars false
variable [Glb]
set_option maxRecDepth 10000
set_option maxHeartbeats 4000000
theorem vInts_p (a b : List Int) : PC Tryz.prog 53 [.c (eI a), .c (eI b)] (.p (.c (dB (decide (a = b))))) := by
  refine jas Tryz.func53 rfl rfl rfl (by kernel_rfl) rfl rfl ?_; rintro ⟨hl, hm, -⟩
  have hl := hl.len
  have hm := hm.len
  repeat' (first | (refine jaa (.assign _) ?_; (refine jac (jam rfl) rfl ?_)) | (refine jaa (.move _) ?_; (refine jac (jal rfl) rfl ?_)) | (refine jaa (.call ⟨.builtin .len, _, #[27]⟩) ?_; (refine jac (jbb rfl (by kernel_rfl)) rfl ?_)) | (refine jaa (.binOp .neq 3 _ _ _) ?_; refine jac (qt_neq rfl rfl) rfl ?_) | refine jah ?_ | refine jaj ?_ | refine jai ?_ | refine jan ?_ | refine jab ?_ | refine jbm rfl (fun hc => ?_) (fun hc => ?_))
  · (apply jau; apply jav; (· apply jbc.p; (· (apply GvA.cons; (· exact .tmp _); (· exact GvP.c (.lit _))); exact GvA.nil); (· (decide))))
    have : a ≠ b := fun e => by subst e; simp at *
    simp [this]
  have hab : a.length = b.length := by simp at *; omega
  apply jbe [0, 1, 5] [] rfl; (· (repeat (first | exact Pf.nil | apply Pf.cons (.c rfl (.d rfl))))); (· (repeat (exact Pb.nil)))
  refine jbg [0, 1] [] (fun k => [(5, iN k)]) (fun _ => []) (fun k => k ≤ a.length ∧ a.take k = b.take k) (fun k => a.length - k) (0) ?_ (by (repeat (first | exact trivial | refine ⟨(by (rfl)), ?_⟩))) (by (repeat (exact trivial))) ?_
  · simp
  rintro k ⟨hk, hs⟩
  repeat' (first | (refine jaa (.assign _) ?_; (refine jac (jam rfl) rfl ?_)) | (refine jaa (.move _) ?_; (refine jac (jal rfl) rfl ?_)) | (refine jaa (.call ⟨.builtin .len, _, #[27]⟩) ?_; (refine jac (jbb rfl (by kernel_rfl)) rfl ?_)) | (refine jaa (.binOp .neq 3 _ _ _) ?_; refine jac (qt_neq rfl rfl) rfl ?_) | (refine jaa (.binOp .lss 3 _ _ _) ?_; refine jac (jbk rfl rfl) rfl ?_) | (refine jaa (.indexAddr 27 _ _) ?_; (refine jac (jcl rfl rfl (by kernel_rfl) (by (omega)) (by (omega))) rfl ?_)) | (refine jaa (.load 3 _) ?_; (refine jac (jar rfl (by kernel_rfl) rfl) rfl ?_)) | (refine jaa (.binOp .add 3 _ _ _) ?_; refine jac (jax rfl rfl (by (omega))) rfl ?_) | refine jah ?_ | refine jaj ?_ | refine jai ?_ | refine jbh ?_ | refine jaw rfl ?_ | refine jan ?_ | refine jab ?_ | refine jat 6 (fun _ => false) (.step 0 true (.step 1 true (.step 2 true (.step 3 true (.step 4 true (.step 5 true (.step 6 true (.step 7 true (.step 8 true .nil))))))))) [(0, 511, 511, true), (0, 511, 511, true), (3, 508, 511, true), (4, 507, 511, false), (0, 511, 511, true), (0, 511, 511, true), (48, 463, 511, true), (64, 447, 511, false), (136, 375, 511, true)] (by kernel_rfl) (by kernel_rfl) ?_ | refine jbm rfl (fun hc => ?_) (fun hc => ?_))
  · rename_i hk'
    rw [jbp (by omega), jbp (by omega)] at hc
    (apply jau; apply jav; (· apply jbc.p; (· (apply GvA.cons; (· exact .tmp _); (· exact GvP.c (.lit _))); exact GvA.nil); (· (decide))))
    have : a ≠ b := fun e => by subst e; exact hc rfl
    simp [this]
  · rename_i hk'
    rw [jbp (by omega), jbp (by omega)] at hc
    refine jbj ?_; refine ⟨k + 1, ?_, ?_, jcg rfl (by (repeat (first | exact trivial | refine ⟨(by (rfl)), ?_⟩))) (by (repeat (first | exact trivial | refine ⟨rfl, ?_⟩))) (by (repeat (exact trivial))) (by (repeat (exact trivial)))⟩
    · exact ⟨by omega, by rw [List.take_succ_eq_append_getElem (by omega), List.take_succ_eq_append_getElem (by omega), hs]; simp at hc; rw [hc]⟩
    · omega
  · have e : k = a.length := by omega
    subst e
    rw [List.take_length, hab, List.take_length] at hs
    (apply jau; apply jav; (· apply jbc.p; (· (apply GvA.cons; (· exact .tmp _); (· exact GvP.c (.lit _))); exact GvA.nil); (· (decide))))
    simp [hs]
theorem vInts_same (a : List Int) : PC Tryz.prog 53 [.c (eI a), .c (eI a)] (.p (.c (dB true))) := by
  have := vInts_p a a; rwa [decide_eq_true rfl] at this

end Go.Proofs.YtefbiejoikpkmaaGreat

namespace Go.Proofs.YtefbiejoikpkmaaGreat
open Go.RowKit
set_option linter.unusedSectionVars false
variable [Glb]
set_option maxRecDepth 10000
set_option maxHeartbeats 4000000
theorem vTable_p (a b : List (List Int)) : PC Tryz.prog 187 [.c (eII a), .c (eII b)] (.p (.c (dB (decide (a = b))))) := by
  refine jas Tryz.func187 rfl rfl rfl (by kernel_rfl) rfl rfl ?_; rintro ⟨hl, hm, -⟩
  have hl := hl.len
  have hm := hm.len
  repeat' (first | (refine jaa (.assign _) ?_; (refine jac (jam rfl) rfl ?_)) | (refine jaa (.move _) ?_; (refine jac (jal rfl) rfl ?_)) | (refine jaa (.call ⟨.builtin .len, _, #[24]⟩) ?_; (refine jac (jbb rfl (by kernel_rfl)) rfl ?_)) | (refine jaa (.binOp .neq 3 _ _ _) ?_; refine jac (qt_neq rfl rfl) rfl ?_) | refine jah ?_ | refine jaj ?_ | refine jai ?_ | refine jan ?_ | refine jab ?_ | refine jbm rfl (fun hc => ?_) (fun hc => ?_))
  · (apply jau; apply jav; (· apply jbc.p; (· (apply GvA.cons; (· exact .tmp _); (· exact GvP.c (.lit _))); exact GvA.nil); (· (decide))))
    have : a ≠ b := fun e => by subst e; simp at *
    simp [this]
  have hab : a.length = b.length := by simp at *; omega
  apply jbe [0, 1, 5] [] rfl; (· (repeat (first | exact Pf.nil | apply Pf.cons (.c rfl (.d rfl))))); (· (repeat (exact Pb.nil)))
  refine jbg [0, 1] [] (fun k => [(5, iN k)]) (fun _ => []) (fun k => k ≤ a.length ∧ a.take k = b.take k) (fun k => a.length - k) (0) ?_ (by (repeat (first | exact trivial | refine ⟨(by (rfl)), ?_⟩))) (by (repeat (exact trivial))) ?_
  · simp
  rintro k ⟨hk, hs⟩
  repeat' (first | (refine jaa (.assign _) ?_; (refine jac (jam rfl) rfl ?_)) | (refine jaa (.move _) ?_; (refine jac (jal rfl) rfl ?_)) | (refine jaa (.call ⟨.builtin .len, _, #[24]⟩) ?_; (refine jac (jbb rfl (by kernel_rfl)) rfl ?_)) | (refine jaa (.binOp .lss 3 _ _ _) ?_; refine jac (jbk rfl rfl) rfl ?_) | (refine jaa (.indexAddr 24 _ _) ?_; (refine jac (jby rfl rfl (by kernel_rfl) (by (omega)) (by (omega))) rfl ?_)) | (refine jaa (.load 27 _) ?_; (refine jac (jar rfl (by kernel_rfl) rfl) rfl ?_)) | (refine jaa (.unOp .not 4 _) ?_; refine jac (jbt rfl) rfl ?_) | (refine jaa (.binOp .add 3 _ _ _) ?_; refine jac (jax rfl rfl (by (omega))) rfl ?_) | (refine jaa (.call ⟨.value (.func 53), _, _⟩) ?_; (apply jak (fid := 53); (· (repeat (first | exact SeA.nil | apply SeA.cons (.c (.d _))))); (· exact vInts_p _ _); (· rfl))) | refine jah ?_ | refine jaj ?_ | refine jai ?_ | refine jbh ?_ | refine jaw rfl ?_ | refine jan ?_ | refine jab ?_ | refine jat 6 (fun _ => false) (.step 0 true (.step 1 true (.step 2 true (.step 3 true (.step 4 true (.step 5 true (.step 6 true (.step 7 true (.step 8 false (.step 9 true .nil)))))))))) [(0, 1023, 1023, true), (0, 1023, 1023, true), (3, 1020, 1023, true), (4, 1019, 1023, false), (0, 1023, 1023, true), (0, 1023, 1023, true), (48, 975, 1023, true), (64, 959, 1023, false), (136, 887, 1023, false), (256, 767, 1023, true)] (by kernel_rfl) (by kernel_rfl) ?_ | refine jbm rfl (fun hc => ?_) (fun hc => ?_) | refine sk_nif rfl (fun hc => ?_) (fun hc => ?_))
  · rename_i hk'
    rw [jbp (by omega), jbp (by omega)] at hc
    (apply jau; apply jav; (· apply jbc.p; (· (apply GvA.cons; (· exact .tmp _); (· exact GvP.c (.lit _))); exact GvA.nil); (· (decide))))
    have : a ≠ b := fun e => by subst e; simp at hc
    simp [this]
  · rename_i hk'
    rw [jbp (by omega), jbp (by omega)] at hc
    refine jbj ?_; refine ⟨k + 1, ?_, ?_, jcg rfl (by (repeat (first | exact trivial | refine ⟨(by (rfl)), ?_⟩))) (by (repeat (first | exact trivial | refine ⟨rfl, ?_⟩))) (by (repeat (exact trivial))) (by (repeat (exact trivial)))⟩
    · exact ⟨by omega, by rw [List.take_succ_eq_append_getElem (by omega), List.take_succ_eq_append_getElem (by omega), hs, hc]⟩
    · omega
  · have e : k = a.length := by omega
    subst e
    rw [List.take_length, hab, List.take_length] at hs
    (apply jau; apply jav; (· apply jbc.p; (· (apply GvA.cons; (· exact .tmp _); (· exact GvP.c (.lit _))); exact GvA.nil); (· (decide))))
    simp [hs]
theorem vTable_same (a : List (List Int)) : PC Tryz.prog 187 [.c (eII a), .c (eII a)] (.p (.c (dB true))) := by
  have := vTable_p a a; rwa [decide_eq_true rfl] at this

end Go.Proofs.YtefbiejoikpkmaaGreat

namespace Go.Proofs.YtefbiejoikpkmaaGreat
open Go.RowKit
set_option linter.unusedSectionVars false
variable [Glb]
set_option maxRecDepth 10000
set_option maxHeartbeats 4000000
theorem vBox_same (x y wh : Int) (ll : List (List Int)) : PC Tryz.prog 114 [.g [dI x, dI y, dI wh, eII ll], .g [dI x, dI y, dI wh, eII ll]] (.p (.c (dB true))) := by
  refine jas Tryz.func114 rfl rfl rfl (by kernel_rfl) rfl rfl ?_; intro _
  repeat' (first | (refine jaa (.box 26 _) ?_; refine jaz rfl rfl ?_) | (refine jaa (.assign _) ?_; (refine jac (jam rfl) rfl ?_)) | (refine jaa (.fieldAddr 26 _ 0) ?_; (refine jac (jad (off := 0) rfl (by kernel_rfl)) rfl ?_)) | (refine jaa (.load 3 _) ?_; (refine jac (jaf rfl rfl (by kernel_rfl) rfl) rfl ?_)) | (refine jaa (.binOp .eql 3 _ _ _) ?_; refine jac (jcb rfl rfl) rfl ?_) | (refine jaa (.move _) ?_; (refine jac (jal rfl) rfl ?_)) | (refine jaa (.fieldAddr 26 _ 1) ?_; (refine jac (jad (off := 1) rfl (by kernel_rfl)) rfl ?_)) | (refine jaa (.pick _ _ _) ?_; (refine jac (jbx rfl rfl) rfl ?_)) | (refine jaa (.fieldAddr 26 _ 2) ?_; (refine jac (jad (off := 2) rfl (by kernel_rfl)) rfl ?_)) | (refine jaa (.fieldAddr 26 _ 3) ?_; (refine jac (jad (off := 3) rfl (by kernel_rfl)) rfl ?_)) | (refine jaa (.load 24 _) ?_; (refine jac (jaf rfl rfl (by kernel_rfl) rfl) rfl ?_)) | (refine jaa (.call ⟨.value (.func 187), _, _⟩) ?_; (apply jak (fid := 187); (· (repeat (first | exact SeA.nil | apply SeA.cons (.c (.d _))))); (· exact vTable_same _); (· rfl))) | refine jah ?_ | refine jbu rfl rfl rfl rfl ?_ | refine jbd rfl rfl rfl rfl ?_ | refine jcr rfl rfl (fun hg => ?_) (fun hg => ?_) | refine jaj ?_ | refine jab ?_)
  all_goals first | (exfalso; simp_all; done) | skip
  all_goals (apply jau; apply jav; (· apply jbc.p; (· (apply GvA.cons; (· exact .tmp _); (· exact GvP.c (.lit _))); exact GvA.nil); (· (decide))))
  all_goals simp
theorem vScene_same (ev : Int) (cc : List (List Int)) (ss : List Int) : PC Tryz.prog 115 [.g [dI ev, eII cc, eI ss], .g [dI ev, eII cc, eI ss]] (.p (.c (dB true))) := by
  refine jas Tryz.func115 rfl rfl rfl (by kernel_rfl) rfl rfl ?_; intro _
  repeat' (first | (refine jaa (.box 56 _) ?_; refine jaz rfl rfl ?_) | (refine jaa (.assign _) ?_; (refine jac (jam rfl) rfl ?_)) | (refine jaa (.fieldAddr 56 _ 0) ?_; (refine jac (jad (off := 0) rfl (by kernel_rfl)) rfl ?_)) | (refine jaa (.load 3 _) ?_; (refine jac (jaf rfl rfl (by kernel_rfl) rfl) rfl ?_)) | (refine jaa (.binOp .eql 3 _ _ _) ?_; refine jac (jcb rfl rfl) rfl ?_) | (refine jaa (.move _) ?_; (refine jac (jal rfl) rfl ?_)) | (refine jaa (.fieldAddr 56 _ 1) ?_; (refine jac (jad (off := 1) rfl (by kernel_rfl)) rfl ?_)) | (refine jaa (.load 24 _) ?_; (refine jac (jaf rfl rfl (by kernel_rfl) rfl) rfl ?_)) | (refine jaa (.pick _ _ _) ?_; (refine jac (jbx rfl rfl) rfl ?_)) | (refine jaa (.fieldAddr 56 _ 2) ?_; (refine jac (jad (off := 2) rfl (by kernel_rfl)) rfl ?_)) | (refine jaa (.load 27 _) ?_; (refine jac (jaf rfl rfl (by kernel_rfl) rfl) rfl ?_)) | (refine jaa (.call ⟨.value (.func 187), _, _⟩) ?_; (apply jak (fid := 187); (· (repeat (first | exact SeA.nil | apply SeA.cons (.c (.d _))))); (· exact vTable_same _); (· rfl))) | (refine jaa (.call ⟨.value (.func 53), _, _⟩) ?_; (apply jak (fid := 53); (· (repeat (first | exact SeA.nil | apply SeA.cons (.c (.d _))))); (· exact vInts_same _); (· rfl))) | refine jah ?_ | refine jbu rfl rfl rfl rfl ?_ | refine jbd rfl rfl rfl rfl ?_ | refine jcr rfl rfl (fun hg => ?_) (fun hg => ?_) | refine jaj ?_ | refine jab ?_)
  all_goals first | (exfalso; simp_all; done) | skip
  all_goals (apply jau; apply jav; (· apply jbc.p; (· (apply GvA.cons; (· exact .tmp _); (· exact GvP.c (.lit _))); exact GvA.nil); (· (decide))))
  all_goals simp
theorem vHall_same (bx by_ bwh : Int) (bll : List (List Int)) (pl : List Int) (ev : Int) (cc : List (List Int)) (ss nu : List Int) (co : Int) : PC Tryz.prog 43 [.g [dI bx, dI by_, dI bwh, eII bll, eI pl, dI ev, eII cc, eI ss, eI nu, dI co], .g [dI bx, dI by_, dI bwh, eII bll, eI pl, dI ev, eII cc, eI ss, eI nu, dI co]] (.p (.c (dB true))) := by
  refine jas Tryz.func43 rfl rfl rfl (by kernel_rfl) rfl rfl ?_; intro _
  repeat' (first | (refine jaa (.box 60 _) ?_; refine jaz rfl rfl ?_) | (refine jaa (.assign _) ?_; (refine jac (jam rfl) rfl ?_)) | (refine jaa (.fieldAddr 60 _ 0) ?_; (refine jac (jad (off := 0) rfl (by kernel_rfl)) rfl ?_)) | (refine jaa (.load 26 _) ?_; (refine jac (jae rfl rfl (by kernel_rfl : tAgg _ 26 4 = true) rfl) rfl ?_)) | (refine jaa (.move _) ?_; (refine jac (jal rfl) rfl ?_)) | (refine jaa (.fieldAddr 60 _ 1) ?_; (refine jac (jad (off := 4) rfl (by kernel_rfl)) rfl ?_)) | (refine jaa (.load 27 _) ?_; (refine jac (jaf rfl rfl (by kernel_rfl) rfl) rfl ?_)) | (refine jaa (.pick _ _ _) ?_; (refine jac (jbx rfl rfl) rfl ?_)) | (refine jaa (.fieldAddr 60 _ 2) ?_; (refine jac (jad (off := 5) rfl (by kernel_rfl)) rfl ?_)) | (refine jaa (.load 56 _) ?_; (refine jac (jae rfl rfl (by kernel_rfl : tAgg _ 56 3 = true) rfl) rfl ?_)) | (refine jaa (.fieldAddr 60 _ 3) ?_; (refine jac (jad (off := 8) rfl (by kernel_rfl)) rfl ?_)) | (refine jaa (.fieldAddr 60 _ 4) ?_; (refine jac (jad (off := 9) rfl (by kernel_rfl)) rfl ?_)) | (refine jaa (.load 3 _) ?_; (refine jac (jaf rfl rfl (by kernel_rfl) rfl) rfl ?_)) | (refine jaa (.binOp .eql 3 _ _ _) ?_; refine jac (jcb rfl rfl) rfl ?_) | (refine jaa (.call ⟨.value (.func 114), _, _⟩) ?_; (apply jak (fid := 114); (· (repeat (first | exact SeA.nil | (apply SeA.cons; (· (apply SeP.g; (repeat (first | exact SeL.nil | apply SeL.cons (.d _))))))))); (· exact vBox_same _ _ _ _); (· rfl))) | (refine jaa (.call ⟨.value (.func 53), _, _⟩) ?_; (apply jak (fid := 53); (· (repeat (first | exact SeA.nil | apply SeA.cons (.c (.d _))))); (· exact vInts_same _); (· rfl))) | (refine jaa (.call ⟨.value (.func 115), _, _⟩) ?_; (apply jak (fid := 115); (· (repeat (first | exact SeA.nil | (apply SeA.cons; (· (apply SeP.g; (repeat (first | exact SeL.nil | apply SeL.cons (.d _))))))))); (· exact vScene_same _ _ _); (· rfl))) | refine jah ?_ | refine jbd rfl rfl rfl rfl ?_ | refine jaj ?_ | refine jab ?_)
  all_goals first | (exfalso; simp_all; done) | skip
  all_goals (apply jau; apply jav; (· apply jbc.p; (· (apply GvA.cons; (· exact .tmp _); (· exact GvP.c (.lit _))); exact GvA.nil); (· (decide))))
  all_goals simp

end Go.Proofs.YtefbiejoikpkmaaGreat

namespace Go.Proofs.YtefbiejoikpkmaaGreat
open Go.RowKit
set_option linter.unusedSectionVars false
variable [Glb]
open Go Go.RowKit
/-! a place whose row has been taken out -/
section
variable {P : Program} {ops : Array Oper} {mu : Nat → Bool} {r : OT} {st : St} {K : St → Prop} {j : Nat} {dst : Option Tmp} {ty : TypeId} {pos : String} {af : Array Edge}
/-- It is loaded once more. -/
theorem qt_load_rowX {T : TypeId} {x : Operand} {b sz i : Nat} {ds : List D} {c : C} (hx : st.ev x = .c (.lp b i)) (hb : st.bl b = some (.rowX sz ds i c)) (ht : tOne P T = true) :
    Qt P ⟨dst, .load T x, ty, pos, af, none⟩ st (.c c) := fun w0 ρ Φ a w hm => by
  have hp := hm.ev x
  rw [hx] at hp
  obtain ⟨g, hρ, hpv⟩ := lp_inv hp.c_inv
  have h0 := hm.bl b _ hb
  rw [hρ] at h0
  generalize hΦ : Φ b = Fb at h0
  cases h0 with
  | rowX _ us E _ _ _ _ vs Fs hz hg hl hi hFi hcc hr hxx =>
    refine ⟨vs i, fun w' hs0 => have hs : CellS w w' := hs0.resolve_left (by simp [memfree]); ?_, .c _ _ hxx⟩
    have h1 : w.cell? ⟨g, i, none⟩ = some (vs i) := by
      rw [cell_of_row w g i us E (0, 0) hg]
      exact hcc i hi
    have := run_load1 (P := P) (T := T) ht (cellS_some hs h1)
    simp [execOp, hpv, this]
/-- A value is put there. -/
theorem so_store_rowC {T : TypeId} {p x : Operand} {b sz i : Nat} {ds : List D} {c c' : C} (hp : st.ev p = .c (.lp b i)) (hb : st.bl b = some (.rowX sz ds i c)) (hv : st.ev x = .c c') (hok : C.ok c' = true) (ht : tSize P T 1 = true)
    (hmu : mu j = true) (h : SO P ops mu r (st.setB b (some (.rowX sz ds i c'))) K) :
    SO P ops mu (.cons (some ⟨none, .store T p x, ty, pos, af, none⟩, j, false) r) st K := by
  refine so_m hmu fun w0 a w hs next Q hn => ?_
  obtain ⟨ρ, Φ, hm⟩ := hs
  have hp' := hm.ev p
  rw [hp] at hp'
  obtain ⟨g, hρ, hpv⟩ := lp_inv hp'.c_inv
  have hx' := hm.ev x
  rw [hv] at hx'
  have hcx := hx'.c_inv
  have hone := hcx.one hok
  have h0 := hm.bl b _ hb
  rw [hρ] at h0
  generalize hΦ : Φ b = Fb at h0
  cases h0 with
  | rowX _ us E _ _ _ _ vs Fs hz hgh hl hi hFi hcc hr hxx =>
    have hrun := run_store_at (P := P) (w := w) (off := i) (vs := [a.eval x]) ht hgh (cells_one' hone) rfl (fun u hu => by simp at hu; subst hu; exact hone) (by omega)
    have hset : us.toList.take i ++ [a.eval x] ++ us.toList.drop (i + 1) = us.toList.set i (a.eval x) := by rw [List.set_eq_take_append_cons_drop, if_pos (by simp; omega)]; simp
    rw [hset] at hrun
    have hgΦ : g ∈ Φ b := by rw [hΦ]; exact List.mem_cons_self ..
    have hlow : w0.lo g := hm.low b g hgΦ
    have hsz : (us.toList.set i (a.eval x)).toArray.size = us.size := by simp
    have hndb := hm.nd b
    rw [hΦ, List.nodup_cons] at hndb
    have hshp := setRow_shp hgh hsz
    obtain ⟨Φ', hm'⟩ := hm.upd (w' := w.setRow g (us.toList.set i (a.eval x)).toArray) b [] (.rowX sz ds i c') (g :: parts ds.length Fs) g hgΦ (by simp)
      (setRow_below hlow hshp) (fun k hk => setRow_other w g k _ hk) hshp (List.nodup_cons.2 hndb) (fun g2 hg2 => .inl (by rw [hΦ]; exact hg2)) (fun Φ' hΦ' => by
        rw [hρ]
        refine BR.rowX (w := w.setRow g (us.toList.set i (a.eval x)).toArray) (ρ := ρ) (Φ := Φ') g (us.toList.set i (a.eval x)).toArray E sz ds i c' (fun k => if k = i then a.eval x else vs k) Fs hz (setRow_heap w g us _ E (0, 0) hgh) (by simp; omega) hi hFi
          (fun k hk => ?_) (fun k hk hki => ?_) ?_
        · by_cases hko : k = i
          · subst hko; simp [show k < us.size by omega]
          · simp only [List.getElem?_toArray, if_neg hko]
            rw [List.getElem?_set_ne (Ne.symm hko)]
            simpa using hcc k hk
        · simp only [if_neg hki]
          exact (hr k hk hki).keep fun g2 hg2 => setRow_other w g g2 _ fun e => by
            subst e; exact hndb.1 (jbq.2 ⟨k, hk, hg2⟩)
        · simp only [if_pos]
          exact hcx.keep (fun g2 hg2 _ => setRow_other w g g2 _ fun e => hg2 (e ▸ ⟨b, hgΦ⟩)) hshp fun g2 hin => .inl (hΦ' g2 hin))
    exact at_skip (by simp [execOp, hpv, hrun]) (hn _ _ (fun h => by cases h) ⟨_, ⟨ρ, Φ', hm'⟩, h⟩)
end

end Go.Proofs.YtefbiejoikpkmaaGreat

namespace Go.Proofs.YtefbiejoikpkmaaGreat
open Go.RowKit
set_option linter.unusedSectionVars false
variable [Glb]
open Go Go.RowKit
/-! a whole row that is looked at only -/
end Go.Proofs.YtefbiejoikpkmaaGreat

namespace Go.Proofs.YtefbiejoikpkmaaGreat
open Go.RowKit
set_option linter.unusedSectionVars false
variable [Glb]
set_option maxRecDepth 10000
set_option maxHeartbeats 4000000
abbrev dW (n : Int) : D := .lit (.int .u64 n)
abbrev CurB (code : Tx) (a s : Int) : List BC := [.k (eB code), .o (dI a), .o (dW s)]
def CurR (a N : Int) (Q : Res → Prop) (ds : List D) (res : Res) : Prop := ∃ a' s', (a ≤ a' ∧ a' ≤ a + N) ∧ ds = [dI a', dW s'] ∧ Q res
theorem emod_bd {x n : Int} (hx : 0 ≤ x) (hn : 1 < n) : 0 ≤ x % n ∧ x % n < n ∧ x % n ≤ x := by
  refine ⟨Int.emod_nonneg _ (by omega), Int.emod_lt_of_pos _ (by omega), ?_⟩
  have h1 := Int.emod_add_mul_ediv x n
  have h2 : 0 ≤ n * (x / n) := Int.mul_nonneg (by omega) (Int.ediv_nonneg hx (by omega))
  omega
theorem pick_bd {x n : Int} (h0 : 0 ≤ x) (h1 : x ≤ 65535) (hn : 1 < n) : 0 ≤ x % n ∧ x % n ≤ 65535 ∧ (n ≤ 1 → x % n = 0) ∧ (1 < n → x % n < n) := by
  have := emod_bd h0 hn
  omega
theorem curNext_p (code : Tx) (a s : Int) (h0 : 0 ≤ a) (h1 : a ≤ 4611686018427387904) : PX Tryz.prog 186 (CurB code a s) [] (CurR a 1 fun res => ∃ x : Int, (0 ≤ x ∧ x ≤ 255) ∧ res = .p (.c (dI x))) := by
  have hb := byt_lt code a
  refine jcn Tryz.func186 rfl rfl rfl (by kernel_rfl) rfl rfl rfl ?_; intro kv
  repeat' (first | (refine jaa (.assign _) ?_; (refine jac (jam rfl) rfl ?_)) | (refine jaa (.move _) ?_; (refine jac (jal rfl) rfl ?_)) | (refine jaa (.nilCheck _) ?_; (refine jac (jce rfl) rfl ?_)) | (refine jaa (.fieldAddr 106 _ 1) ?_; (refine jac (jad (off := 1) rfl (by kernel_rfl)) rfl ?_)) | (refine jaa (.load 3 _) ?_; (refine jac (jaf rfl rfl (by kernel_rfl) rfl) rfl ?_)) | (refine jaa (.fieldAddr 106 _ 0) ?_; (refine jac (jad (off := 0) rfl (by kernel_rfl)) rfl ?_)) | (refine jaa (.load 22 _) ?_; (refine jac (qt_load_same rfl rfl (by kernel_rfl) rfl) rfl ?_)) | (refine jaa (.call ⟨.builtin .len, _, #[22]⟩) ?_; (refine jac (jbb rfl (by kernel_rfl)) rfl ?_)) | (refine jaa (.binOp .lss 3 _ _ _) ?_; refine jac (jbk rfl rfl) rfl ?_) | (refine jaa (.indexAddr 22 _ _) ?_; (refine jac (qt_idxY rfl rfl (by kernel_rfl) (by (omega)) (by (omega))) rfl ?_)) | (refine jaa (.load 5 _) ?_; (refine jac (jar rfl (by kernel_rfl) rfl) rfl ?_)) | (refine jaa (.convert 5 3 _) ?_; (refine jac (qt_convI (k' := .i64) rfl (by kernel_rfl) (by kernel_rfl) (by (exact IntWalk.i64_in _ (by (omega))))) rfl ?_)) | (refine jaa (.binOp .add 3 _ _ _) ?_; refine jac (jax rfl rfl (by (omega))) rfl ?_) | (refine jaa (.store 3 _ _) ?_; (refine jaq rfl rfl rfl rfl (by kernel_rfl) rfl rfl ?_)) | (refine jaa (.fieldAddr 106 _ 2) ?_; (refine jac (jad (off := 2) rfl (by kernel_rfl)) rfl ?_)) | (refine jaa (.load 104 _) ?_; (refine jac (jaf rfl rfl (by kernel_rfl) rfl) rfl ?_)) | (refine jaa (.binOp .mul 104 _ _ _) ?_; refine jac (qt_mul rfl rfl) rfl ?_) | (refine jaa (.convert 3 104 _) ?_; (refine jac (qt_convI (k' := .u64) rfl (by kernel_rfl) (by kernel_rfl) (by (first | rfl | exact wrapU64 (by (omega))))) rfl ?_)) | (refine jaa (.binOp .add 104 _ _ _) ?_; refine jac (qt_add rfl rfl) rfl ?_) | (refine jaa (.store 104 _ _) ?_; (refine jaq rfl rfl rfl rfl (by kernel_rfl) rfl rfl ?_)) | (refine jaa (.binOp .leq 3 _ _ _) ?_; refine jac (qt_leq rfl rfl) rfl ?_) | (refine jaa (.binOp .shr 104 _ _ _) ?_; refine jac (qt_shrC (c := 1099511627776) rfl rfl (by decide)) rfl ?_) | (refine jaa (.binOp .and 104 _ _ _) ?_; refine jac (qt_andMU 8 (c := 256) rfl rfl (by decide)) rfl ?_) | (refine jaa (.convert 104 3 _) ?_; (refine jac (qt_convI (k' := .i64) rfl (by kernel_rfl) (by kernel_rfl) (by (exact IntWalk.i64_in _ (by (omega))))) rfl ?_)) | refine jah ?_ | refine jaj ?_ | refine jan ?_ | refine jab ?_ | refine jat 2 (fun _ => false) (.step 0 true (.step 1 true (.step 2 true (.step 3 true (.step 4 true (.step 5 true (.step 6 true (.step 7 true (.step 8 true (.step 9 true .nil)))))))))) [(0, 1023, 1023, true), (1, 1022, 1023, true), (2, 1021, 1023, true), (4, 1019, 1023, false), (0, 1023, 1023, true), (16, 1007, 1023, true), (32, 991, 1023, true), (64, 959, 1023, false), (128, 895, 1023, true), (264, 759, 1023, true)] (by kernel_rfl) (by kernel_rfl) ?_ | refine jat 3 (fun _ => false) (.step 0 true (.step 1 true (.step 2 true (.step 3 true (.step 4 true (.step 5 true (.step 6 true (.step 7 true (.step 8 true (.step 9 true (.step 10 true (.step 11 true .nil)))))))))))) [(0, 4095, 4095, true), (1, 4094, 4095, true), (2, 4093, 4095, true), (4, 4091, 4095, false), (0, 4095, 4095, true), (16, 4079, 4095, true), (32, 4063, 4095, true), (64, 4031, 4095, false), (136, 3959, 4095, true), (256, 3839, 4095, false), (512, 3583, 4095, true), (2047, 3071, 4095, true)] (by kernel_rfl) (by kernel_rfl) ?_ | refine jat 6 (fun _ => false) (.step 0 true (.step 1 true (.step 2 true (.step 3 true (.step 4 true (.step 5 true (.step 6 true (.step 7 true (.step 8 true (.step 9 true .nil)))))))))) [(0, 1023, 1023, true), (1, 1022, 1023, true), (2, 1021, 1023, true), (4, 1019, 1023, false), (0, 1023, 1023, true), (16, 1007, 1023, true), (32, 991, 1023, true), (64, 959, 1023, false), (128, 895, 1023, true), (264, 759, 1023, true)] (by kernel_rfl) (by kernel_rfl) ?_ | refine jbm rfl (fun hc => ?_) (fun hc => ?_))
  all_goals (apply jci; (· (apply RetX.p; (· rfl); (· (repeat (first | exact BxO.nil _ | apply BxO.k | (apply BxO.o; (· (exact .lit _)))))); (· (apply GvA.cons; (· exact .tmp _); (· exact GvP.c (.lit _))); exact GvA.nil); (· (decide)))))
  all_goals exact ⟨_, _, by omega, rfl, _, by omega, rfl⟩
theorem curPick_p (code : Tx) (a s n : Int) (h0 : 0 ≤ a) (h1 : a ≤ 4611686018427387000) : PX Tryz.prog 113 (CurB code a s) [.v (.c (dI n))] (CurR a 2 fun res => ∃ x : Int, (0 ≤ x ∧ x ≤ 65535 ∧ (n ≤ 1 → x = 0) ∧ (1 < n → x < n)) ∧ res = .p (.c (dI x))) := by
  refine jcn Tryz.func113 rfl rfl rfl (by kernel_rfl) rfl rfl rfl ?_; intro kv
  repeat' (first | (refine jaa (.assign _) ?_; (refine jac (jam rfl) rfl ?_)) | (refine jaa (.move _) ?_; (refine jac (jal rfl) rfl ?_)) | (refine jaa (.binOp .leq 3 _ _ _) ?_; refine jac (qt_leq rfl rfl) rfl ?_) | (refine jaa (.binOp .gtr 3 _ _ _) ?_; refine jac (jda rfl rfl) rfl ?_) | (refine jaa (.binOp .mul 3 _ _ _) ?_; refine jac (qt_mulI rfl rfl (by (omega))) rfl ?_) | (refine jaa (.binOp .add 3 _ _ _) ?_; refine jac (jax rfl rfl (by (omega))) rfl ?_) | (refine jaa (.binOp .rem 3 _ _ _) ?_; (refine jac (qt_remN rfl rfl (by (omega)) (by (omega)) (by (omega))) rfl ?_)) | (refine jaa (.call ⟨.value (.func 186), _, _⟩) ?_; (apply jba (fid := 186); (· rfl); (· rfl); (· (repeat (first | exact BxI.nil | apply BxI.ks | (apply BxI.o; (· (exact .lit _)))))); (· (repeat (exact ArX.nil))); (· (decide)); (· (decide)); (· exact curNext_p code _ _ (by omega) (by omega)); (· rfl); (· (intro b hb1 hb2; omega)); (· rfl); (rintro _ _ ⟨a1, s1, ha1, rfl, x1, hx1, rfl⟩; refine ⟨(by first | rfl | simp [*]), ?_⟩))) | refine jah ?_ | refine jaj ?_ | refine jan ?_ | refine jab ?_ | refine jbm rfl (fun hc => ?_) (fun hc => ?_))
  all_goals (apply jci; (· (apply RetX.p; (· rfl); (· (repeat (first | exact BxO.nil _ | apply BxO.k | (apply BxO.o; (· (exact .lit _)))))); (· (apply GvA.cons; (· exact .tmp _); (· exact GvP.c (.lit _))); exact GvA.nil); (· (decide)))))
  · exact ⟨_, _, by omega, rfl, _, by omega, rfl⟩
  · exact ⟨_, _, by omega, rfl, _, pick_bd (by omega) (by omega) (by omega), rfl⟩
  · exact ⟨_, _, by omega, rfl, _, pick_bd (by omega) (by omega) (by omega), rfl⟩
theorem curOne_p (code : Tx) (a s n : Int) (h0 : 0 ≤ a) (h1 : a ≤ 4611686018427387000) : PX Tryz.prog 143 (CurB code a s) [.v (.c (dI n))] (CurR a 2 fun res => ∃ b : Bool, res = .p (.c (dB b))) := by
  refine jcn Tryz.func143 rfl rfl rfl (by kernel_rfl) rfl rfl rfl ?_; intro kv
  repeat' (first | (refine jaa (.assign _) ?_; (refine jac (jam rfl) rfl ?_)) | (refine jaa (.move _) ?_; (refine jac (jal rfl) rfl ?_)) | (refine jaa (.binOp .eql 3 _ _ _) ?_; refine jac (jcb rfl rfl) rfl ?_) | (refine jaa (.call ⟨.value (.func 113), _, _⟩) ?_; (apply jba (fid := 113); (· rfl); (· rfl); (· (repeat (first | exact BxI.nil | apply BxI.ks | (apply BxI.o; (· (exact .lit _)))))); (· (repeat (first | exact ArX.nil | apply ArX.v (.c (.d _))))); (· (decide)); (· (decide)); (· exact curPick_p code _ _ _ (by omega) (by omega)); (· rfl); (· (intro b hb1 hb2; omega)); (· rfl); (rintro _ _ ⟨a1, s1, ha1, rfl, x1, hx1, rfl⟩; refine ⟨(by first | rfl | simp [*]), ?_⟩))) | refine jah ?_ | refine jaj ?_ | refine jab ?_)
  all_goals (apply jci; (· (apply RetX.p; (· rfl); (· (repeat (first | exact BxO.nil _ | apply BxO.k | (apply BxO.o; (· (exact .lit _)))))); (· (apply GvA.cons; (· exact .tmp _); (· exact GvP.c (.lit _))); exact GvA.nil); (· (decide)))))
  all_goals exact ⟨_, _, by omega, rfl, _, rfl⟩
theorem mem_at {α : Type} [Inhabited α] {l : List α} {x : Int} (h0 : 0 ≤ x) (h1 : x < l.length) : atZ l x ∈ l := List.mem_of_getElem? (atZ_some h0 h1)
theorem curAmong_p (code : Tx) (a s : Int) (l : List Int) (hl : 0 < l.length) (h0 : 0 ≤ a) (h1 : a ≤ 4611686018427387000) : PX Tryz.prog 77 (CurB code a s) [.v (.c (eI l))] (CurR a 2 fun res => ∃ t : Int, t ∈ l ∧ res = .p (.c (dI t))) := by
  refine jcn Tryz.func77 rfl rfl rfl (by kernel_rfl) rfl rfl rfl ?_; intro kv
  repeat' (first | (refine jaa (.assign _) ?_; (refine jac (jam rfl) rfl ?_)) | (refine jaa (.move _) ?_; (refine jac (jal rfl) rfl ?_)) | (refine jaa (.call ⟨.builtin .len, _, #[27]⟩) ?_; (refine jac (jbb rfl (by kernel_rfl)) rfl ?_)) | (refine jaa (.indexAddr 27 _ _) ?_; (refine jac (jcl rfl rfl (by kernel_rfl) (by (omega)) (by (omega))) rfl ?_)) | (refine jaa (.load 3 _) ?_; (refine jac (jar rfl (by kernel_rfl) rfl) rfl ?_)) | (refine jaa (.call ⟨.value (.func 113), _, _⟩) ?_; (apply jba (fid := 113); (· rfl); (· rfl); (· (repeat (first | exact BxI.nil | apply BxI.ks | (apply BxI.o; (· (exact .lit _)))))); (· (repeat (first | exact ArX.nil | apply ArX.v (.c (.d _))))); (· (decide)); (· (decide)); (· exact curPick_p code _ _ _ (by omega) (by omega)); (· rfl); (· (intro b hb1 hb2; omega)); (· rfl); (rintro _ _ ⟨a1, s1, ha1, rfl, x1, hx1, rfl⟩; refine ⟨(by first | rfl | simp [*]), ?_⟩))) | refine jah ?_ | refine jaj ?_ | refine jab ?_)
  all_goals (apply jci; (· (apply RetX.p; (· rfl); (· (repeat (first | exact BxO.nil _ | apply BxO.k | (apply BxO.o; (· (exact .lit _)))))); (· (apply GvA.cons; (· exact .tmp _); (· exact GvP.c (.lit _))); exact GvA.nil); (· (decide)))))
  all_goals exact ⟨_, _, by omega, rfl, _, mem_at (by omega) (by omega), rfl⟩
theorem curAmongD_p (code : Tx) (a s : Int) (n : Nat) (ds : List D) (Q : Int → Prop) (hn : n = ds.length) (h2 : 0 < n) (h : ∀ x ∈ ds, ∃ t : Int, x = dI t ∧ Q t) (h0 : 0 ≤ a) (h1 : a ≤ 4611686018427387000) : PX Tryz.prog 77 (CurB code a s) [.v (.c (.sl 1 n ds))] (CurR a 2 fun res => ∃ t : Int, Q t ∧ res = .p (.c (dI t))) := by
  have : ∃ l : List Int, ds = l.map dI ∧ ∀ t ∈ l, Q t := by
    clear hn h2
    induction ds with
    | nil => exact ⟨[], rfl, fun t ht => by cases ht⟩
    | cons x ds ih =>
      obtain ⟨t, e, ht⟩ := h x (List.mem_cons_self ..)
      obtain ⟨l, e2, hl⟩ := ih fun y hy => h y (List.mem_cons_of_mem _ hy)
      exact ⟨t :: l, by rw [List.map_cons, e, e2], fun u hu => by rcases List.mem_cons.1 hu with e3 | hu; rw [e3]; exact ht; exact hl u hu⟩
  obtain ⟨l, rfl, hl⟩ := this
  rw [List.length_map] at hn
  subst hn
  refine (curAmong_p code a s l h2 h0 h1).mono ?_
  rintro ds res ⟨a1, s1, ha, rfl, t, ht, rfl⟩
  exact ⟨_, _, ha, rfl, t, hl t ht, rfl⟩

end Go.Proofs.YtefbiejoikpkmaaGreat

namespace Go.Proofs.YtefbiejoikpkmaaGreat
open Go.RowKit
set_option linter.unusedSectionVars false
variable [Glb]
set_option maxRecDepth 10000
set_option maxHeartbeats 4000000
/-! calls -/
abbrev cC (e : CallE) : List D := [dI e.1, dI e.2.1]
abbrev eC (l : List CallE) : D := .sl 2 l.length (l.flatMap cC)
theorem cC_len (e : CallE) : (cC e).length = 2 := rfl
/-! rules -/
section
variable {P : Program} {st : St} {dst : Option Tmp} {ty : TypeId} {pos : String} {af : Array Edge} {T : TypeId} {x y : Operand}
theorem qt_idxC {l : List CallE} {k : IntKind} {i : Int} (hx : st.ev x = .c (.d (eC l))) (hy : st.ev y = .c (.d (.lit (.int k i)))) (ht : tSl P T 2 = true) (h0 : 0 ≤ i) (h1 : i < l.length) : Qt P ⟨dst, .indexAddr T x y, ty, pos, af, none⟩ st (.c (.d (.pt [dI (atZ l i).1, dI (atZ l i).2.1]))) :=
  qt_idx hx hy ht h0 h1 (flatL_cut cC_len (atZ_some h0 h1))
end

end Go.Proofs.YtefbiejoikpkmaaGreat

namespace Go.Proofs.YtefbiejoikpkmaaGreat
open Go.RowKit
set_option linter.unusedSectionVars false
variable [Glb]
set_option maxRecDepth 10000
set_option maxHeartbeats 4000000
theorem l1Most_p (a b : Int) : PC Tryz.prog 154 [.c (dI a), .c (dI b)] (.p (.c (dI (max a b)))) := by
  refine jas Tryz.func154 rfl rfl rfl (by kernel_rfl) rfl rfl ?_; intro _
  repeat' (first | (refine jaa (.assign _) ?_; (refine jac (jam rfl) rfl ?_)) | (refine jaa (.move _) ?_; (refine jac (jal rfl) rfl ?_)) | (refine jaa (.binOp .gtr 3 _ _ _) ?_; refine jac (jda rfl rfl) rfl ?_) | refine jah ?_ | refine jaj ?_ | refine jan ?_ | refine jab ?_ | refine jbm rfl (fun hc => ?_) (fun hc => ?_))
  all_goals (apply jau; apply jav; (· apply jbc.p; (· (apply GvA.cons; (· exact .tmp _); (· exact GvP.c (.lit _))); exact GvA.nil); (· (decide))))
  all_goals simp
  all_goals omega

end Go.Proofs.YtefbiejoikpkmaaGreat

namespace Go.Proofs.YtefbiejoikpkmaaGreat
open Go.RowKit
set_option linter.unusedSectionVars false
variable [Glb]
set_option maxRecDepth 10000
set_option maxHeartbeats 4000000
theorem l1Least_p (a b : Int) : PC Tryz.prog 142 [.c (dI a), .c (dI b)] (.p (.c (dI (min a b)))) := by
  refine jas Tryz.func142 rfl rfl rfl (by kernel_rfl) rfl rfl ?_; intro _
  repeat' (first | (refine jaa (.assign _) ?_; (refine jac (jam rfl) rfl ?_)) | (refine jaa (.move _) ?_; (refine jac (jal rfl) rfl ?_)) | (refine jaa (.binOp .lss 3 _ _ _) ?_; refine jac (jbk rfl rfl) rfl ?_) | refine jah ?_ | refine jaj ?_ | refine jan ?_ | refine jab ?_ | refine jbm rfl (fun hc => ?_) (fun hc => ?_))
  all_goals (apply jau; apply jav; (· apply jbc.p; (· (apply GvA.cons; (· exact .tmp _); (· exact GvP.c (.lit _))); exact GvA.nil); (· (decide))))
  all_goals simp [Int.min_def]
  all_goals omega

end Go.Proofs.YtefbiejoikpkmaaGreat

namespace Go.Proofs.YtefbiejoikpkmaaGreat
open Go.RowKit
set_option linter.unusedSectionVars false
variable [Glb]
set_option maxRecDepth 10000
set_option maxHeartbeats 4000000
theorem l2Near_p (n : Int) : PC Tryz.prog 165 [.c (dI n)] (.p (.c (dI (min (max n 0) 4)))) := by
  refine jas Tryz.func165 rfl rfl rfl (by kernel_rfl) rfl rfl ?_; intro _
  repeat' (first | (refine jaa (.assign _) ?_; (refine jac (jam rfl) rfl ?_)) | (refine jaa (.move _) ?_; (refine jac (jal rfl) rfl ?_)) | (refine jaa (.call ⟨.value (.func 154), _, _⟩) ?_; (apply jak (fid := 154); (· (repeat (first | exact SeA.nil | apply SeA.cons (.c (.d _))))); (· exact l1Most_p _ _); (· rfl))) | (refine jaa (.call ⟨.value (.func 142), _, _⟩) ?_; (apply jak (fid := 142); (· (repeat (first | exact SeA.nil | apply SeA.cons (.c (.d _))))); (· exact l1Least_p _ _); (· rfl))) | refine jah ?_ | refine jaj ?_ | refine jab ?_)
  all_goals (apply jau; apply jav; (· apply jbc.p; (· (apply GvA.cons; (· exact .tmp _); (· exact GvP.c (.lit _))); exact GvA.nil); (· (decide))))
  all_goals rfl
theorem curAmongB_p (code : Tx) (a s : Int) (n : Nat) (ds : List D) (lo hi : Int) (hn : n = ds.length) (h2 : 0 < n) (h : ∀ x ∈ ds, ∃ t : Int, x = dI t ∧ (lo ≤ t ∧ t ≤ hi)) (h0 : 0 ≤ a) (h1 : a ≤ 4611686018427387000) : PX Tryz.prog 77 (CurB code a s) [.v (.c (.sl 1 n ds))] (CurR a 2 fun res => ∃ t : Int, (lo ≤ t ∧ t ≤ hi) ∧ res = .p (.c (dI t))) :=
  curAmongD_p code a s n ds (fun t => lo ≤ t ∧ t ≤ hi) hn h2 h h0 h1
theorem curSizes_p (code : Tx) (a s : Int) (h0 : 0 ≤ a) (h1 : a ≤ 4611686018427386000) : PX Tryz.prog 120 (CurB code a s) [] (CurR a 10 fun res => ∃ x y : Int, ((-1 ≤ x ∧ x ≤ 4611686018427387904) ∧ -1 ≤ y ∧ y ≤ 4611686018427387904) ∧ res = .t [.c (dI x), .c (dI y)]) := by
  refine jcn Tryz.func120 rfl rfl rfl (by kernel_rfl) rfl rfl rfl ?_; intro kv
  repeat' (first | (refine jaa (.assign _) ?_; (refine jac (jam rfl) rfl ?_)) | (refine jaa (.move _) ?_; (refine jac (jal rfl) rfl ?_)) | (refine jaa (.buildSlice 27 4 _) ?_; (apply jao (sz := 1) (by_ := 8); (· kernel_rfl); (· decide); (· (repeat (first | exact GvS.nil _ | apply GvS.c rfl rfl (.lit _) rfl))); (· (decide)); (· rfl); (· rfl); (· rfl))) | (refine jaa (.call ⟨.value (.func 77), _, _⟩) ?_; (first | (apply jba (d := 10) (fid := 77); (· rfl); (· rfl); (· (repeat (first | exact BxI.nil | apply BxI.ks | (apply BxI.o; (· (exact .lit _)))))); (· (repeat (first | exact ArX.nil | apply ArX.v (.c (.row _ _ _ _ rfl (by ((simp; done)))))))); (· (decide)); (· (decide)); (· exact curAmongB_p code _ _ _ _ (-1) 4611686018427387904 rfl (by decide) (by repeat (first | exact fun x hx => absurd hx List.not_mem_nil | (refine List.forall_mem_cons.2 ⟨⟨_, rfl, by decide⟩, ?_⟩))) (by omega) (by omega)); (· rfl); (· (intro b hb1 hb2; omega)); (· rfl); (rintro _ _ ⟨a1, s1, ha1, rfl, t1, ht1, rfl⟩; refine ⟨(by first | rfl | simp [*]), ?_⟩)) | (apply jba (d := 13) (fid := 77); (· rfl); (· rfl); (· (repeat (first | exact BxI.nil | apply BxI.ks | (apply BxI.o; (· (exact .lit _)))))); (· (repeat (first | exact ArX.nil | apply ArX.v (.c (.row _ _ _ _ rfl (by ((simp; done)))))))); (· (decide)); (· (decide)); (· exact curAmongB_p code _ _ _ _ (-1) 4611686018427387904 rfl (by decide) (by repeat (first | exact fun x hx => absurd hx List.not_mem_nil | (refine List.forall_mem_cons.2 ⟨⟨_, rfl, by decide⟩, ?_⟩))) (by omega) (by omega)); (· rfl); (· (intro b hb1 hb2; omega)); (· rfl); (rintro _ _ ⟨a1, s1, ha1, rfl, t1, ht1, rfl⟩; refine ⟨(by first | rfl | simp [*]), ?_⟩)))) | (refine jaa (.call ⟨.value (.func 113), _, _⟩) ?_; (first | (apply jba (d := 15) (fid := 113); (· rfl); (· rfl); (· (repeat (first | exact BxI.nil | apply BxI.ks | (apply BxI.o; (· (exact .lit _)))))); (· (repeat (first | exact ArX.nil | apply ArX.v (.c (.d _))))); (· (decide)); (· (decide)); (· exact curPick_p code _ _ _ (by omega) (by omega)); (· rfl); (· (intro b hb1 hb2; omega)); (· rfl); (rintro _ _ ⟨a1, s1, ha1, rfl, x1, hx1, rfl⟩; refine ⟨(by first | rfl | simp [*]), ?_⟩)) | (apply jba (d := 18) (fid := 113); (· rfl); (· rfl); (· (repeat (first | exact BxI.nil | apply BxI.ks | (apply BxI.o; (· (exact .lit _)))))); (· (repeat (first | exact ArX.nil | apply ArX.v (.c (.d _))))); (· (decide)); (· (decide)); (· exact curPick_p code _ _ _ (by omega) (by omega)); (· rfl); (· (intro b hb1 hb2; omega)); (· rfl); (rintro _ _ ⟨a1, s1, ha1, rfl, x1, hx1, rfl⟩; refine ⟨(by first | rfl | simp [*]), ?_⟩)))) | (refine jaa (.binOp .add 3 _ _ _) ?_; refine jac (jax rfl rfl (by (omega))) rfl ?_) | (refine jaa (.call ⟨.value (.func 143), _, _⟩) ?_; (apply jba (fid := 143); (· rfl); (· rfl); (· (repeat (first | exact BxI.nil | apply BxI.ks | (apply BxI.o; (· (exact .lit _)))))); (· (repeat (first | exact ArX.nil | apply ArX.v (.c (.d _))))); (· (decide)); (· (decide)); (· exact curOne_p code _ _ _ (by omega) (by omega)); (· rfl); (· (intro b hb1 hb2; omega)); (· rfl); (rintro _ _ ⟨a1, s1, ha1, rfl, b1, rfl⟩; refine ⟨(by first | rfl | simp [*]), ?_⟩))) | refine jah ?_ | refine jaj ?_ | refine jan ?_ | refine jab ?_ | refine jcs rfl (fun hc => ?_) (fun hc => ?_))
  all_goals (apply jci; (· (apply RetX.t; (· rfl); (· (repeat (first | exact BxO.nil _ | apply BxO.k | (apply BxO.o; (· (exact .lit _)))))); (· (apply GvA.cons; (· exact .tmp _); (· exact GvP.c (.lit _))); (apply GvA.cons; (· exact .tmp _); (· exact GvP.c (.lit _))); exact GvA.nil); (· rfl); (· (decide)))))
  all_goals exact ⟨_, _, by omega, rfl, _, _, by omega, rfl⟩
/-- cells that hold numbers -/
def IsI (ds : List D) : Prop := ∃ l : List Int, ds = cI l
theorem IsI.map (l : List Int) : IsI (cI l) := ⟨l, rfl⟩
theorem IsI.nil : IsI [] := ⟨[], rfl⟩
theorem IsI.cons {k : Int} {ds : List D} (h : IsI ds) : IsI (dI k :: ds) := by obtain ⟨l, rfl⟩ := h; exact ⟨k :: l, rfl⟩
theorem IsI.app {a b : List D} (h : IsI a) (k : IsI b) : IsI (a ++ b) := by obtain ⟨l, rfl⟩ := h; obtain ⟨m, rfl⟩ := k; exact ⟨l ++ m, by simp⟩
theorem IsI.set {k : Int} {ds : List D} {i : Nat} (h : IsI ds) : IsI (ds.set i (dI k)) := by obtain ⟨l, rfl⟩ := h; exact ⟨l.set i k, by simp⟩
theorem IsI.take {ds : List D} {i : Nat} (h : IsI ds) : IsI (ds.take i) := by obtain ⟨l, rfl⟩ := h; exact ⟨l.take i, by simp⟩
theorem IsI.drop {ds : List D} {i : Nat} (h : IsI ds) : IsI (ds.drop i) := by obtain ⟨l, rfl⟩ := h; exact ⟨l.drop i, by simp⟩
theorem IsI.sl {n : Nat} {ds : List D} (h : IsI ds) (hn : ds.length = n) : ∃ l : List Int, l.length = n ∧ D.sl 1 n ds = eI l := by
  obtain ⟨l, rfl⟩ := h
  rw [List.length_map] at hn
  exact ⟨l, hn, by rw [← hn]⟩
theorem IsI.res {n m : Nat} {ds : List D} (h : IsI ds) (hn : ds.length = n) (hm : n ≤ m) : ∃ l : List Int, l.length ≤ m ∧ Res.p (.c (D.sl 1 n ds)) = .p (.c (eI l)) := by
  obtain ⟨l, h1, h2⟩ := h.sl hn
  exact ⟨l, by omega, by rw [h2]⟩
theorem near_mul (x y : Int) : ∃ N : Nat, min (max x 0) 4 * min (max y 0) 4 = (N : Int) ∧ N ≤ 16 := by
  have h1 : 0 ≤ min (max x 0) 4 * min (max y 0) 4 := Int.mul_nonneg (by omega) (by omega)
  have h2 : min (max x 0) 4 * min (max y 0) 4 ≤ 4 * 4 := Int.mul_le_mul (by omega) (by omega) (by omega) (by omega)
  exact ⟨(min (max x 0) 4 * min (max y 0) 4).toNat, by omega, by omega⟩
def IsII (ds : List D) : Prop := ∃ l : List (List Int), ds = cII l
theorem IsII.map (l : List (List Int)) : IsII (cII l) := ⟨l, rfl⟩
theorem IsII.set {n : Nat} {es ds : List D} {i : Nat} (h : IsII ds) (he : IsI es) (hn : es.length = n) : IsII (ds.set i (.sl 1 n es)) := by
  obtain ⟨l, rfl⟩ := h
  obtain ⟨m, _, e⟩ := he.sl hn
  rw [e]
  exact ⟨l.set i m, by simp⟩
theorem IsII.take {ds : List D} {i : Nat} (h : IsII ds) : IsII (ds.take i) := by obtain ⟨l, rfl⟩ := h; exact ⟨l.take i, by simp⟩
theorem IsII.drop {ds : List D} {i : Nat} (h : IsII ds) : IsII (ds.drop i) := by obtain ⟨l, rfl⟩ := h; exact ⟨l.drop i, by simp⟩
theorem IsII.sl {n : Nat} {ds : List D} (h : IsII ds) (hn : ds.length = n) : ∃ l : List (List Int), l.length = n ∧ D.sl 1 n ds = eII l := by
  obtain ⟨l, rfl⟩ := h
  rw [List.length_map] at hn
  exact ⟨l, hn, by rw [← hn]⟩
end Go.Proofs.YtefbiejoikpkmaaGreat

namespace Go.Proofs.YtefbiejoikpkmaaGreat
open Go.RowKit
set_option linter.unusedSectionVars false
variable [Glb]
open Go
/-! mixtures of wirings -/
section
variable {xa ya na : Int} {la : List (List Int)} {xb yb nb : Int} {lb : List (List Int)} {l1 l2 : List RuleE}
end
def q2 : Nat → Int
  | 0 => 0
  | _ + 1 => 2
end Go.Proofs.YtefbiejoikpkmaaGreat

namespace Go.Proofs.YtefbiejoikpkmaaGreat
open Go.RowKit
set_option linter.unusedSectionVars false
variable [Glb]
set_option maxRecDepth 10000
set_option maxHeartbeats 4000000
def SceneX (res : Res) : Prop := ∃ (ev : Int) (cc : List (List Int)) (ss : List Int), res = .p (.g [dI ev, eII cc, eI ss])
theorem SquareScene_p : PC Tryz.prog 172 [] (.p (.g [dI 9, eII [[0, 1, 2], [3, 4, 5], [6, 7, 8], [0, 3, 6], [1, 4, 7], [2, 5, 8]], eI [0, 0, 0, 0, 0, 1]])) := by
  refine jas Tryz.func172 rfl rfl rfl (by kernel_rfl) rfl rfl ?_; intro _
  repeat' (first | (refine jaa (.alloc 56) ?_; refine jap (zs := [.int .i64 0, .slice none 0 0, .slice none 0 0]) (by kernel_rfl) rfl ?_) | (refine jaa (.buildSlice 27 3 _) ?_; (apply jao (sz := 1) (by_ := 8); (· kernel_rfl); (· decide); (· (repeat (first | exact GvS.nil _ | apply GvS.c rfl rfl (.lit _) rfl))); (· (decide)); (· rfl); (· rfl); (· rfl))) | (refine jaa (.buildSlice 24 6 _) ?_; (apply jao (sz := 1) (by_ := 24); (· kernel_rfl); (· decide); (· (repeat (first | exact GvS.nil _ | apply GvS.c rfl rfl (.row _ _ _ _ rfl (by ((simp; done)))) rfl))); (· (decide)); (· rfl); (· rfl); (· rfl))) | (refine jaa (.assign _) ?_; (refine jac (jam rfl) rfl ?_)) | (refine jaa (.move _) ?_; (refine jac (jal rfl) rfl ?_)) | (refine jaa (.buildSlice 27 6 _) ?_; (apply jao (sz := 1) (by_ := 8); (· kernel_rfl); (· decide); (· (repeat (first | exact GvS.nil _ | apply GvS.c rfl rfl (.lit _) rfl))); (· (decide)); (· rfl); (· rfl); (· rfl))) | (refine jaa (.build 56 _) ?_; refine jac (jbo (cs := [_, _, _]) [(0, 1), (1, 1), (2, 1)] [.int .i64 0, .slice none 0 0, .slice none 0 0] (by kernel_rfl) (by kernel_rfl) rfl) rfl ?_) | (refine jaa (.store 56 _ _) ?_; (refine jag rfl rfl rfl (by kernel_rfl) rfl rfl ?_)) | refine jah ?_ | refine jaj ?_ | refine jab ?_)
  all_goals (apply jau; apply jav; (· apply jbc.p; (· (apply GvA.cons; (· (apply RV.cellN (n := 3); (· rfl); (· rfl); (· kernel_rfl); (· rfl))); (· (apply GvP.g; (· (apply GvL.cons (.lit _)); ((apply GvL.cons (.row _ _ _ _ rfl (by ((simp; done)))))); ((apply GvL.cons (.row _ _ _ _ rfl (by ((simp; done)))))); exact GvL.nil)))); exact GvA.nil); (· (decide))))
  all_goals rfl
theorem StarScene_p : PC Tryz.prog 173 [] (.p (.g [dI 10, eII [[0, 1, 2, 3], [0, 4, 5, 6], [1, 4, 7, 8], [2, 5, 7, 9], [3, 6, 8, 9]], eI [1, 0, 0, 0, 0]])) := by
  refine jas Tryz.func173 rfl rfl rfl (by kernel_rfl) rfl rfl ?_; intro _
  repeat' (first | (refine jaa (.alloc 56) ?_; refine jap (zs := [.int .i64 0, .slice none 0 0, .slice none 0 0]) (by kernel_rfl) rfl ?_) | (refine jaa (.buildSlice 27 4 _) ?_; (apply jao (sz := 1) (by_ := 8); (· kernel_rfl); (· decide); (· (repeat (first | exact GvS.nil _ | apply GvS.c rfl rfl (.lit _) rfl))); (· (decide)); (· rfl); (· rfl); (· rfl))) | (refine jaa (.buildSlice 24 5 _) ?_; (apply jao (sz := 1) (by_ := 24); (· kernel_rfl); (· decide); (· (repeat (first | exact GvS.nil _ | apply GvS.c rfl rfl (.row _ _ _ _ rfl (by ((simp; done)))) rfl))); (· (decide)); (· rfl); (· rfl); (· rfl))) | (refine jaa (.assign _) ?_; (refine jac (jam rfl) rfl ?_)) | (refine jaa (.move _) ?_; (refine jac (jal rfl) rfl ?_)) | (refine jaa (.buildSlice 27 5 _) ?_; (apply jao (sz := 1) (by_ := 8); (· kernel_rfl); (· decide); (· (repeat (first | exact GvS.nil _ | apply GvS.c rfl rfl (.lit _) rfl))); (· (decide)); (· rfl); (· rfl); (· rfl))) | (refine jaa (.build 56 _) ?_; refine jac (jbo (cs := [_, _, _]) [(0, 1), (1, 1), (2, 1)] [.int .i64 0, .slice none 0 0, .slice none 0 0] (by kernel_rfl) (by kernel_rfl) rfl) rfl ?_) | (refine jaa (.store 56 _ _) ?_; (refine jag rfl rfl rfl (by kernel_rfl) rfl rfl ?_)) | refine jah ?_ | refine jaj ?_ | refine jab ?_)
  all_goals (apply jau; apply jav; (· apply jbc.p; (· (apply GvA.cons; (· (apply RV.cellN (n := 3); (· rfl); (· rfl); (· kernel_rfl); (· rfl))); (· (apply GvP.g; (· (apply GvL.cons (.lit _)); ((apply GvL.cons (.row _ _ _ _ rfl (by ((simp; done)))))); ((apply GvL.cons (.row _ _ _ _ rfl (by ((simp; done)))))); exact GvL.nil)))); exact GvA.nil); (· (decide))))
  all_goals rfl
theorem square_some : ∃ (cc : List (List Int)) (ss : List Int), PC Tryz.prog 172 [] (.p (.g [dI 9, eII cc, eI ss])) := ⟨_, _, SquareScene_p⟩
theorem star_some : ∃ (cc : List (List Int)) (ss : List Int), PC Tryz.prog 173 [] (.p (.g [dI 10, eII cc, eI ss])) := ⟨_, _, StarScene_p⟩
theorem sceneX_of {ev : Int} {n m : Nat} {W R : List D} (hW : IsII W) (hn : W.length = n) (hR : IsI R) (hm : R.length = m) : SceneX (.p (.g [dI ev, .sl 1 n W, .sl 1 m R])) := by
  obtain ⟨p, hp, ep⟩ := hW.sl hn
  obtain ⟨q, hq, eq⟩ := hR.sl hm
  exact ⟨ev, p, q, by rw [ep, eq]⟩
theorem IsII.snoc {ds : List D} {n : Nat} {es : List D} (h : IsII ds) (he : IsI es) (hn : es.length = n) : IsII (ds ++ [.sl 1 n es]) := by
  obtain ⟨l, rfl⟩ := h
  obtain ⟨e, -, q⟩ := he.sl hn
  exact ⟨l ++ [e], by rw [q]; simp⟩
structure LckS (G : Prop) : Prop where
  h : G
theorem joinS {G G' : Prop} (f : LckS G → G') (g : G) : G' := f ⟨g⟩
set_option maxHeartbeats 40000000 in
theorem curScene7_p (code : Tx) (a s : Int) (h0 : 0 ≤ a) (h1 : a ≤ 4611686018427380000) : PX Tryz.prog 102 (CurB code a s) [] (CurR a 400 SceneX) := by
  obtain ⟨q1, q2, hq⟩ := square_some
  obtain ⟨r1, r2, hr⟩ := star_some
  refine jcn Tryz.func102 rfl rfl rfl (by kernel_rfl) rfl rfl rfl ?_; intro kv
  repeat' (first | (refine jaa (.alloc 56) ?_; refine jap (zs := [.int .i64 0, .slice none 0 0, .slice none 0 0]) (by kernel_rfl) rfl ?_) | (refine jaa (.move _) ?_; (refine jac (jal rfl) rfl ?_)) | (refine jaa (.binOp .eql 3 _ _ _) ?_; refine jac (jcb rfl rfl) rfl ?_) | (refine jaa (.assign _) ?_; (refine jac (jam rfl) rfl ?_)) | (refine jaa (.store 56 _ _) ?_; (refine jag rfl rfl rfl (by kernel_rfl) rfl rfl ?_)) | (refine jaa (.buildSlice 27 8 _) ?_; (apply jao (sz := 1) (by_ := 8); (· kernel_rfl); (· decide); (· (repeat (first | exact GvS.nil _ | apply GvS.c rfl rfl (.lit _) rfl))); (· (decide)); (· rfl); (· rfl); (· rfl))) | (refine jaa (.call ⟨.value (.func 77), _, _⟩) ?_; (first | (apply jba (d := 17) (fid := 77); (· rfl); (· rfl); (· (repeat (first | exact BxI.nil | apply BxI.ks | (apply BxI.o; (· (exact .lit _)))))); (· (repeat (first | exact ArX.nil | apply ArX.v (.c (.row _ _ _ _ rfl (by ((simp; done)))))))); (· (decide)); (· (decide)); (· exact curAmongB_p code _ _ _ _ 0 8 rfl (by decide) (by repeat (first | exact fun x hx => absurd hx List.not_mem_nil | (refine List.forall_mem_cons.2 ⟨⟨_, rfl, by decide⟩, ?_⟩))) (by omega) (by omega)); (· rfl); (· (intro b hb1 hb2; omega)); (· rfl); (rintro _ _ ⟨a2, s2, ha2, rfl, E, hE, rfl⟩; refine ⟨(by first | rfl | simp [*]), ?_⟩)) | (apply jba (d := 23) (fid := 77); (· rfl); (· rfl); (· (repeat (first | exact BxI.nil | apply BxI.ks | (apply BxI.o; (· (exact .lit _)))))); (· (repeat (first | exact ArX.nil | apply ArX.v (.c (.row _ _ _ _ rfl (by ((simp; done)))))))); (· (decide)); (· (decide)); (· exact curAmongB_p code _ _ _ _ 0 6 rfl (by decide) (by repeat (first | exact fun x hx => absurd hx List.not_mem_nil | (refine List.forall_mem_cons.2 ⟨⟨_, rfl, by decide⟩, ?_⟩))) (by omega) (by omega)); (· rfl); (· (intro b hb1 hb2; omega)); (· rfl); (rintro _ _ ⟨a3, s3, ha3, rfl, m0, hm0, rfl⟩; refine ⟨(by first | rfl | simp [*]), ?_⟩)))) | (refine jaa (.buildSlice 24 0 _) ?_; (apply jao (sz := 1) (by_ := 24); (· kernel_rfl); (· decide); (· (repeat (exact GvS.nil _))); (· (decide)); (· rfl); (· rfl); (· rfl))) | (refine jaa (.buildSlice 27 0 _) ?_; (apply jao (sz := 1) (by_ := 8); (· kernel_rfl); (· decide); (· (repeat (exact GvS.nil _))); (· (decide)); (· rfl); (· rfl); (· rfl))) | (refine jaa (.build 56 _) ?_; refine jac (jbo (cs := [_, _, _]) [(0, 1), (1, 1), (2, 1)] [.int .i64 0, .slice none 0 0, .slice none 0 0] (by kernel_rfl) (by kernel_rfl) rfl) rfl ?_) | (refine jaa (.buildSlice 27 7 _) ?_; (apply jao (sz := 1) (by_ := 8); (· kernel_rfl); (· decide); (· (repeat (first | exact GvS.nil _ | apply GvS.c rfl rfl (.lit _) rfl))); (· (decide)); (· rfl); (· rfl); (· rfl))) | (refine jaa (.call ⟨.value (.func 113), _, _⟩) ?_; ((apply jba (fid := 113); (· rfl); (· rfl); (· (repeat (first | exact BxI.nil | apply BxI.ks | (apply BxI.o; (· (exact .lit _)))))); (· (repeat (first | exact ArX.nil | apply ArX.v (.c (.d _))))); (· (decide)); (· (decide)); (· exact curPick_p code _ _ _ (by omega) (by omega)); (· rfl); (· (intro b hb1 hb2; omega)); (· rfl); (rintro _ _ ⟨a1, s1, ha1, rfl, x1, hx1, rfl⟩; refine ⟨(by first | rfl | simp [*]), ?_⟩)))) | (refine jaa (.call ⟨.value (.func 172), _, _⟩) ?_; ((apply jay (fid := 172); (· (repeat (exact SeA.nil))); (· exact hq); (· rfl); (· rfl)))) | (refine jaa (.call ⟨.value (.func 173), _, _⟩) ?_; ((apply jay (fid := 173); (· (repeat (exact SeA.nil))); (· exact hr); (· rfl); (· rfl)))) | refine jah ?_ | refine jaj ?_ | refine jai ?_ | refine jbh ?_ | refine jan ?_ | refine jab (id := 0) ?_ | refine jab (id := 1) ?_ | refine jab (id := 2) ?_ | refine jab (id := 3) ?_ | refine jab (id := 4) ?_ | refine jab (id := 5) ?_ | refine jab (id := 6) ?_ | refine jab (id := 7) ?_ | refine jbm rfl (fun hc => ?_) (fun hc => ?_))
  all_goals first | (exfalso; omega) | skip
  · (apply jci; (· (apply RetX.p; (· rfl); (· (repeat (first | exact BxO.nil _ | apply BxO.k | (apply BxO.o; (· (exact .lit _)))))); (· (apply GvA.cons; (· (apply RV.cellN (n := 3); (· rfl); (· rfl); (· kernel_rfl); (· rfl))); (· (apply GvP.g; (· (apply GvL.cons (.lit _)); ((apply GvL.cons (.row _ _ _ _ rfl (by ((simp; done)))))); ((apply GvL.cons (.row _ _ _ _ rfl (by ((simp; done)))))); exact GvL.nil)))); exact GvA.nil); (· (decide)))))
    exact ⟨_, _, by omega, rfl, _, _, _, rfl⟩
  · (apply jci; (· (apply RetX.p; (· rfl); (· (repeat (first | exact BxO.nil _ | apply BxO.k | (apply BxO.o; (· (exact .lit _)))))); (· (apply GvA.cons; (· (apply RV.cellN (n := 3); (· rfl); (· rfl); (· kernel_rfl); (· rfl))); (· (apply GvP.g; (· (apply GvL.cons (.lit _)); ((apply GvL.cons (.row _ _ _ _ rfl (by ((simp; done)))))); ((apply GvL.cons (.row _ _ _ _ rfl (by ((simp; done)))))); exact GvL.nil)))); exact GvA.nil); (· (decide)))))
    exact ⟨_, _, by omega, rfl, _, _, _, rfl⟩
  apply jbe [0, 2, 3, 4] [2, 3, 16, 18, 19, 22, 33, 44, 45, 54, 55, 59, 60, 66, 67, 74, 81, 82, 88, 89, 90, 94, 95, 106, 112, 1011, 1014, 2011, 2014, 800000000] rfl; (· (repeat (first | exact Pf.nil | apply Pf.cons (.c rfl (.d rfl)) | apply Pf.cons (.c rfl (.lp rfl))))); (· (repeat (first | exact Pb.nil | apply Pb.cons (.row rfl) | (apply Pb.cons; (· apply Nb.box rfl; (repeat (first | exact Ncs.nil rfl | (apply Ncs.cons rfl; (· (first | exact .d rfl | exact .ls rfl))))))) | apply Pb.skip)))
  refine jbg [0, 2, 3] [2, 1011, 2011, 1014, 2014, 16, 22, 33, 44, 45, 54, 55, 59, 60, 66, 67, 74, 81, 82, 88, 89, 90, 94, 95, 106, 112] (fun g : (Int × Nat × List (List Int) × List Int) × Int × Int => [(4, iZ g.1.1)]) (fun g => [(800000000, .box [.d (.same (kv 0) (eB code)), .d (dI g.2.1), .d (dW g.2.2)]), (3, .box [.d (dI E), .ls 18 1 0 g.1.2.1, .ls 19 1 0 g.1.2.1]), (18, .row 1 (cII g.1.2.2.1)), (19, .row 1 (cI g.1.2.2.2))]) (fun g => (0 ≤ g.1.1 ∧ g.1.1 ≤ 6) ∧ (a ≤ g.2.1 ∧ g.2.1 ≤ a + 10 + 40 * (6 - g.1.1)) ∧ (g.1.2.2.1.length = g.1.2.1 ∧ g.1.2.2.2.length = g.1.2.1) ∧ (g.1.2.1 : Int) ≤ 6 - g.1.1) (fun g => g.1.1.toNat) (((m0, 0, [], []), a3, s3)) ?_ (by (repeat (first | exact trivial | refine ⟨(by (rfl)), ?_⟩))) (by (repeat (first | exact trivial | refine ⟨(by (first | (refine jbw rfl ?_; simp; done) | (refine jcw rfl ?_; simp; done))), ?_⟩))) ?_
  · exact ⟨by dsimp only; omega, by dsimp only; omega, ⟨rfl, rfl⟩, by dsimp only; omega⟩
  rintro ⟨⟨m, n, W, S⟩, a4, s4⟩ ⟨hm, hA, ⟨hW, hS⟩, hn⟩
  dsimp only at hm hA hW hS hn ⊢
  refine joinS (G := ?G) ?f ?g
  case f =>
    intro H
    by_cases hk : 0 < m ∧ 0 < E
    · repeat' (first | (refine jaa (.move _) ?_; (refine jac (jal rfl) rfl ?_)) | (refine jaa (.assign _) ?_; (refine jac (jam rfl) rfl ?_)) | (refine jaa (.buildSlice 27 0 _) ?_; (apply jao (sz := 1) (by_ := 8); (· kernel_rfl); (· decide); (· (repeat (exact GvS.nil _))); (· (decide)); (· rfl); (· rfl); (· rfl))) | (refine jaa (.binOp .gtr 3 _ _ _) ?_; refine jac (jda rfl rfl) rfl ?_) | (refine jaa (.fieldAddr 56 _ 0) ?_; (refine jac (jad (off := 0) rfl (by kernel_rfl)) rfl ?_)) | (refine jaa (.load 3 _) ?_; (refine jac (jaf rfl rfl (by kernel_rfl) rfl) rfl ?_)) | (refine jaa (.pick _ _ _) ?_; (refine jac (jbx rfl rfl) rfl ?_)) | refine jah ?_ | refine jbu rfl rfl rfl rfl ?_ | refine jbd rfl rfl rfl rfl ?_ | refine jcr rfl rfl (fun hg => ?_) (fun hg => ?_) | refine jaj ?_ | refine jai ?_ | refine jaw rfl ?_ | refine jan ?_ | refine jab ?_ | refine jbn rfl ?_ | refine jbm rfl (fun hc => ?_) (fun hc => ?_))
      all_goals first | (exfalso; omega) | skip
      apply jbe [0, 2, 3, 4, 5, 6] [2, 3, 16, 18, 19, 22, 33, 44, 45, 54, 55, 59, 60, 66, 67, 74, 81, 82, 88, 89, 90, 94, 95, 106, 112, 1011, 1014, 2011, 2014, 800000000] rfl; (· (repeat (first | exact Pf.nil | apply Pf.cons (.c rfl (.d rfl)) | apply Pf.cons (.c rfl (.ls rfl)) | apply Pf.cons (.c rfl (.lp rfl))))); (· (repeat (first | exact Pb.nil | apply Pb.cons (.row rfl) | (apply Pb.cons; (· apply Nb.box rfl; (repeat (first | exact Ncs.nil rfl | (apply Ncs.cons rfl; (· (first | exact .d rfl | exact .ls rfl))))))) | apply Pb.skip)))
      refine jbg [0, 2, 3, 4] [2, 1011, 2011, 1014, 2014, 16, 18, 19, 3, 22, 44, 45, 54, 55, 59, 60, 66, 67, 74, 81, 82, 88, 89, 90, 94, 95, 106, 112] (fun g : List Int × Nat × Int × Int => [(6, iN g.2.1), (5, .c (.ls 33 1 0 g.1.length))]) (fun g => [(800000000, .box [.d (.same (kv 0) (eB code)), .d (dI g.2.2.1), .d (dW g.2.2.2)]), (33, .row 1 (cI g.1))]) (fun g => (g.1.length ≤ g.2.1 ∧ (g.2.1 : Int) ≤ E) ∧ a4 ≤ g.2.2.1 ∧ g.2.2.1 ≤ a4 + 2 * g.2.1) (fun g => E.toNat - g.2.1) (([], 0, a4, s4)) ?_ (by (repeat (first | exact trivial | refine ⟨(by (rfl)), ?_⟩))) (by (repeat (first | exact trivial | refine ⟨(by (first | (refine jbw rfl ?_; simp; done) | (refine jcw rfl ?_; simp; done))), ?_⟩))) ?_
      · exact ⟨by dsimp only [List.length_nil]; omega, by dsimp only; omega⟩
      rintro ⟨L, x, a5, s5⟩ ⟨hL, hB⟩
      dsimp only at hL hB ⊢
      by_cases hx : (x : Int) < E
      · repeat' (first | (refine jaa (.move _) ?_; (refine jac (jal rfl) rfl ?_)) | (refine jaa (.binOp .eql 3 _ _ _) ?_; refine jac (jcb rfl rfl) rfl ?_) | (refine jaa (.assign _) ?_; (refine jac (jam rfl) rfl ?_)) | (refine jaa (.fieldAddr 56 _ 0) ?_; (refine jac (jad (off := 0) rfl (by kernel_rfl)) rfl ?_)) | (refine jaa (.load 3 _) ?_; (refine jac (jaf rfl rfl (by kernel_rfl) rfl) rfl ?_)) | (refine jaa (.binOp .lss 3 _ _ _) ?_; refine jac (jbk rfl rfl) rfl ?_) | (refine jaa (.buildSlice 27 1 _) ?_; (apply jao (sz := 1) (by_ := 8); (· kernel_rfl); (· decide); (· (repeat (first | exact GvS.nil _ | apply GvS.c rfl rfl (.lit _) rfl))); (· (decide)); (· rfl); (· rfl); (· rfl))) | (refine jaa (.call ⟨.builtin .append, _, #[27, 27]⟩) ?_; ((apply jbs (sz := 1) (by_ := 8); (· rfl); (· rfl); (· ((simp; done))); (· exact .row _ _ _ _ rfl (by ((simp; done)))); (· (decide)); (· kernel_rfl); (· decide); (· (omega)); (· (omega)); (· rfl); (· rfl); (· rfl)))) | (refine jaa (.call ⟨.builtin .len, _, #[27]⟩) ?_; (refine jac (jca rfl (by kernel_rfl)) rfl ?_)) | (refine jaa (.fieldAddr 56 _ 1) ?_; (refine jac (jad (off := 1) rfl (by kernel_rfl)) rfl ?_)) | (refine jaa (.load 24 _) ?_; (refine jac (jaf rfl rfl (by kernel_rfl) rfl) rfl ?_)) | (refine jaa (.buildSlice 24 1 _) ?_; (apply jao (sz := 1) (by_ := 24); (· kernel_rfl); (· decide); (· (repeat (first | exact GvS.nil _ | apply GvS.c rfl rfl (.row _ _ _ _ rfl (by ((simp; done)))) rfl))); (· (decide)); (· rfl); (· rfl); (· rfl))) | (refine jaa (.call ⟨.builtin .append, _, #[24, 24]⟩) ?_; ((apply jbs (sz := 1) (by_ := 24); (· rfl); (· rfl); (· ((simp; omega))); (· exact .row _ _ _ _ rfl (by ((simp; done)))); (· (decide)); (· kernel_rfl); (· decide); (· (omega)); (· (omega)); (· rfl); (· rfl); (· rfl)))) | (refine jaa (.store 24 _ _) ?_; (refine jaq rfl rfl rfl rfl (by kernel_rfl) rfl rfl ?_)) | (refine jaa (.fieldAddr 56 _ 2) ?_; (refine jac (jad (off := 2) rfl (by kernel_rfl)) rfl ?_)) | (refine jaa (.load 27 _) ?_; (refine jac (jaf rfl rfl (by kernel_rfl) rfl) rfl ?_)) | (refine jaa (.call ⟨.value (.func 143), _, _⟩) ?_; (apply jba (fid := 143); (· rfl); (· rfl); (· (repeat (first | exact BxI.nil | apply BxI.ks | (apply BxI.o; (· (exact .lit _)))))); (· (repeat (first | exact ArX.nil | apply ArX.v (.c (.d _))))); (· (decide)); (· (decide)); (· exact curOne_p code _ _ _ (by omega) (by omega)); (· rfl); (· (intro b hb1 hb2; omega)); (· rfl); (rintro _ _ ⟨a6, s6, ha6, rfl, b6, rfl⟩; refine ⟨(by first | rfl | simp [*]), ?_⟩))) | refine jah ?_ | refine jaj ?_ | refine jai ?_ | refine jbh ?_ | refine jaw rfl ?_ | refine jan ?_ | refine jab (id := 12) ?_ | refine jab (id := 14) ?_ | refine jab (id := 15) ?_ | refine jab (id := 16) ?_ | refine jab (id := 17) ?_ | refine jab (id := 18) ?_ | refine jat 19 (fun i => i == 5 || i == 7) (.step 0 true (.step 1 true (.step 2 true (.step 3 false (.step 4 false (.step 5 false (.step 6 true (.step 7 false .nil)))))))) [(0, 255, 255, true), (1, 254, 255, false), (0, 255, 255, true), (4, 251, 255, false), (8, 247, 255, false), (26, 237, 255, false), (63, 255, 223, true), (127, 159, 223, false)] (by kernel_rfl) (by kernel_rfl) ?_ | refine jbm rfl (fun hc => ?_) (fun hc => ?_) | refine jcs rfl (fun hc => ?_) (fun hc => ?_))
        all_goals first | (exfalso; omega) | skip
        · repeat' (first | (refine jaa (.move _) ?_; (refine jac (jal rfl) rfl ?_)) | (refine jaa (.assign _) ?_; (refine jac (jam rfl) rfl ?_)) | (refine jaa (.binOp .add 3 _ _ _) ?_; refine jac (jax rfl rfl (by (omega))) rfl ?_) | refine jah ?_ | refine jab ?_)
          refine jbj ?_; refine ⟨(L ++ [(x : Int)], x + 1, a6, s6), ?_, ?_, jcg rfl (by (repeat (first | exact trivial | refine ⟨(by (first | rfl | (refine ls_eq rfl ?_; ((simp; done))))), ?_⟩))) (by (repeat (first | exact trivial | refine ⟨rfl, ?_⟩))) (by (repeat (first | exact trivial | refine ⟨(by (first | (refine jbw rfl ?_; simp; done) | rfl)), ?_⟩))) (by (repeat (first | exact trivial | refine ⟨.inr rfl, ?_⟩)))⟩
          · dsimp only; rw [List.length_append, List.length_singleton]; omega
          · dsimp only; omega
        · repeat' (first | (refine jaa (.move _) ?_; (refine jac (jal rfl) rfl ?_)) | (refine jaa (.assign _) ?_; (refine jac (jam rfl) rfl ?_)) | (refine jaa (.binOp .add 3 _ _ _) ?_; refine jac (jax rfl rfl (by (omega))) rfl ?_) | refine jah ?_ | refine jab ?_)
          refine jbj ?_; refine ⟨(L, x + 1, a6, s6), ?_, ?_, jcg rfl (by (repeat (first | exact trivial | refine ⟨(by (rfl)), ?_⟩))) (by (repeat (first | exact trivial | refine ⟨rfl, ?_⟩))) (by (repeat (first | exact trivial | refine ⟨(by (first | (refine jbw rfl ?_; simp; done) | rfl)), ?_⟩))) (by (repeat (first | exact trivial | refine ⟨.inr rfl, ?_⟩)))⟩
          · dsimp only; omega
          · dsimp only; omega
      · repeat' (first | (refine jaa (.move _) ?_; (refine jac (jal rfl) rfl ?_)) | (refine jaa (.binOp .eql 3 _ _ _) ?_; refine jac (jcb rfl rfl) rfl ?_) | (refine jaa (.assign _) ?_; (refine jac (jam rfl) rfl ?_)) | (refine jaa (.fieldAddr 56 _ 0) ?_; (refine jac (jad (off := 0) rfl (by kernel_rfl)) rfl ?_)) | (refine jaa (.load 3 _) ?_; (refine jac (jaf rfl rfl (by kernel_rfl) rfl) rfl ?_)) | (refine jaa (.binOp .lss 3 _ _ _) ?_; refine jac (jbk rfl rfl) rfl ?_) | (refine jaa (.buildSlice 27 1 _) ?_; (apply jao (sz := 1) (by_ := 8); (· kernel_rfl); (· decide); (· (repeat (first | exact GvS.nil _ | apply GvS.c rfl rfl (.lit _) rfl))); (· (decide)); (· rfl); (· rfl); (· rfl))) | (refine jaa (.call ⟨.builtin .append, _, #[27, 27]⟩) ?_; ((apply jbs (sz := 1) (by_ := 8); (· rfl); (· rfl); (· ((simp; done))); (· exact .row _ _ _ _ rfl (by ((simp; done)))); (· (decide)); (· kernel_rfl); (· decide); (· (omega)); (· (omega)); (· rfl); (· rfl); (· rfl)))) | (refine jaa (.call ⟨.builtin .len, _, #[27]⟩) ?_; (refine jac (jca rfl (by kernel_rfl)) rfl ?_)) | (refine jaa (.call ⟨.value (.func 113), _, _⟩) ?_; (apply jba (fid := 113); (· rfl); (· rfl); (· (repeat (first | exact BxI.nil | apply BxI.ks | (apply BxI.o; (· (exact .lit _)))))); (· (repeat (first | exact ArX.nil | apply ArX.v (.c (.d _))))); (· (decide)); (· (decide)); (· exact curPick_p code _ _ _ (by omega) (by omega)); (· rfl); (· (intro b hb1 hb2; omega)); (· rfl); (rintro _ _ ⟨a6, s6, ha6, rfl, x6, hx6, rfl⟩; refine ⟨(by first | rfl | simp [*]), ?_⟩))) | refine jah ?_ | refine jaj ?_ | refine jai ?_ | refine jaw rfl ?_ | refine jan ?_ | refine jab (id := 12) ?_ | refine jab (id := 14) ?_ | refine jab (id := 16) ?_ | refine jab (id := 17) ?_ | refine jbm rfl (fun hc => ?_) (fun hc => ?_))
        all_goals first | (exfalso; omega) | skip
        · repeat' (first | refine jco ?_ ?_ | (refine jaa (.move _) ?_; (refine jac (jal rfl) rfl ?_)) | (refine jaa (.assign _) ?_; (refine jac (jam rfl) rfl ?_)) | (refine jaa (.buildSlice 27 1 _) ?_; (apply jao (sz := 1) (by_ := 8); (· kernel_rfl); (· decide); (· (repeat (first | exact GvS.nil _ | apply GvS.c rfl rfl (.lit _) rfl))); (· (decide)); (· rfl); (· rfl); (· rfl))) | (refine jaa (.call ⟨.builtin .append, _, #[27, 27]⟩) ?_; ((apply jbs (sz := 1) (by_ := 8); (· rfl); (· rfl); (· ((simp; omega))); (· exact .row _ _ _ _ rfl (by ((simp; done)))); (· (decide)); (· kernel_rfl); (· decide); (· (omega)); (· (omega)); (· rfl); (· rfl); (· rfl)))) | (refine jaa (.fieldAddr 56 _ 1) ?_; (refine jac (jad (off := 1) rfl (by kernel_rfl)) rfl ?_)) | (refine jaa (.load 24 _) ?_; (refine jac (jaf rfl rfl (by kernel_rfl) rfl) rfl ?_)) | (refine jaa (.buildSlice 24 1 _) ?_; (apply jao (sz := 1) (by_ := 24); (· kernel_rfl); (· decide); (· (repeat (first | exact GvS.nil _ | apply GvS.c rfl rfl (.row _ _ _ _ rfl (by ((simp; done)))) rfl))); (· (decide)); (· rfl); (· rfl); (· rfl))) | (refine jaa (.call ⟨.builtin .append, _, #[24, 24]⟩) ?_; ((apply jbs (sz := 1) (by_ := 24); (· rfl); (· rfl); (· ((simp; omega))); (· exact .row _ _ _ _ rfl (by ((simp; done)))); (· (decide)); (· kernel_rfl); (· decide); (· (omega)); (· (omega)); (· rfl); (· rfl); (· rfl)))) | (refine jaa (.store 24 _ _) ?_; (refine jaq rfl rfl rfl rfl (by kernel_rfl) rfl rfl ?_)) | (refine jaa (.fieldAddr 56 _ 2) ?_; (refine jac (jad (off := 2) rfl (by kernel_rfl)) rfl ?_)) | (refine jaa (.load 27 _) ?_; (refine jac (jaf rfl rfl (by kernel_rfl) rfl) rfl ?_)) | (refine jaa (.store 27 _ _) ?_; (refine jaq rfl rfl rfl rfl (by kernel_rfl) rfl rfl ?_)) | (refine jaa (.binOp .sub 3 _ _ _) ?_; refine jac (jcc rfl rfl (by (omega))) rfl ?_) | (refine jaa (.call ⟨.value (.func 113), _, _⟩) ?_; (apply jba (fid := 113); (· rfl); (· rfl); (· (repeat (first | exact BxI.nil | apply BxI.ks | (apply BxI.o; (· (exact .lit _)))))); (· (repeat (first | exact ArX.nil | apply ArX.v (.c (.d _))))); (· (decide)); (· (decide)); (· exact curPick_p code _ _ _ (by omega) (by omega)); (· rfl); (· (intro b hb1 hb2; omega)); (· rfl); (rintro _ _ ⟨a7, s7, ha7, rfl, x7, hx7, rfl⟩; refine ⟨(by first | rfl | simp [*]), ?_⟩))) | refine jah ?_ | refine jbh ?_ | refine jab ?_ | refine jat 19 (fun i => i == 3 || i == 5 || i == 7) (.step 0 true (.step 2 true (.alt 19 (.step 1 false (.step 3 false (.step 4 false (.step 5 false (.step 6 true (.step 7 false .nil)))))) (.step 3 false (.step 1 true (.step 4 false (.step 5 false (.step 6 true (.step 7 false .nil))))))))) [(0, 255, 247, true), (1, 254, 247, false), (0, 255, 255, true), (4, 251, 255, false), (8, 247, 247, false), (26, 237, 247, false), (63, 255, 215, true), (127, 159, 215, false)] (by kernel_rfl) (by kernel_rfl) ?_)
          all_goals
            refine jbj ?_; refine ⟨((m - 1, n + 1, W ++ [L ++ [x6]], S ++ [x7]), a7, s7), ?_, ?_, jcg rfl (by (repeat (first | exact trivial | refine ⟨(by (rfl)), ?_⟩))) (by (repeat (first | exact trivial | refine ⟨rfl, ?_⟩))) (by (repeat (first | exact trivial | refine ⟨(by (first | (refine jbw rfl ?_; simp; done) | rfl)), ?_⟩))) (by (repeat (first | exact trivial | refine ⟨.inr rfl, ?_⟩)))⟩
            · exact ⟨by dsimp only; omega, by dsimp only; omega, ⟨by simp; omega, by simp; omega⟩, by dsimp only; omega⟩
            · dsimp only; omega
        · repeat' (first | refine jco ?_ ?_ | (refine jaa (.move _) ?_; (refine jac (jal rfl) rfl ?_)) | (refine jaa (.assign _) ?_; (refine jac (jam rfl) rfl ?_)) | (refine jaa (.buildSlice 27 1 _) ?_; (apply jao (sz := 1) (by_ := 8); (· kernel_rfl); (· decide); (· (repeat (first | exact GvS.nil _ | apply GvS.c rfl rfl (.lit _) rfl))); (· (decide)); (· rfl); (· rfl); (· rfl))) | (refine jaa (.call ⟨.builtin .append, _, #[27, 27]⟩) ?_; ((apply jbs (sz := 1) (by_ := 8); (· rfl); (· rfl); (· ((simp; omega))); (· exact .row _ _ _ _ rfl (by ((simp; done)))); (· (decide)); (· kernel_rfl); (· decide); (· (omega)); (· (omega)); (· rfl); (· rfl); (· rfl)))) | (refine jaa (.fieldAddr 56 _ 1) ?_; (refine jac (jad (off := 1) rfl (by kernel_rfl)) rfl ?_)) | (refine jaa (.load 24 _) ?_; (refine jac (jaf rfl rfl (by kernel_rfl) rfl) rfl ?_)) | (refine jaa (.buildSlice 24 1 _) ?_; (apply jao (sz := 1) (by_ := 24); (· kernel_rfl); (· decide); (· (repeat (first | exact GvS.nil _ | apply GvS.c rfl rfl (.row _ _ _ _ rfl (by ((simp; done)))) rfl))); (· (decide)); (· rfl); (· rfl); (· rfl))) | (refine jaa (.call ⟨.builtin .append, _, #[24, 24]⟩) ?_; ((apply jbs (sz := 1) (by_ := 24); (· rfl); (· rfl); (· ((simp; omega))); (· exact .row _ _ _ _ rfl (by ((simp; done)))); (· (decide)); (· kernel_rfl); (· decide); (· (omega)); (· (omega)); (· rfl); (· rfl); (· rfl)))) | (refine jaa (.store 24 _ _) ?_; (refine jaq rfl rfl rfl rfl (by kernel_rfl) rfl rfl ?_)) | (refine jaa (.fieldAddr 56 _ 2) ?_; (refine jac (jad (off := 2) rfl (by kernel_rfl)) rfl ?_)) | (refine jaa (.load 27 _) ?_; (refine jac (jaf rfl rfl (by kernel_rfl) rfl) rfl ?_)) | (refine jaa (.store 27 _ _) ?_; (refine jaq rfl rfl rfl rfl (by kernel_rfl) rfl rfl ?_)) | (refine jaa (.binOp .sub 3 _ _ _) ?_; refine jac (jcc rfl rfl (by (omega))) rfl ?_) | (refine jaa (.call ⟨.value (.func 113), _, _⟩) ?_; (apply jba (fid := 113); (· rfl); (· rfl); (· (repeat (first | exact BxI.nil | apply BxI.ks | (apply BxI.o; (· (exact .lit _)))))); (· (repeat (first | exact ArX.nil | apply ArX.v (.c (.d _))))); (· (decide)); (· (decide)); (· exact curPick_p code _ _ _ (by omega) (by omega)); (· rfl); (· (intro b hb1 hb2; omega)); (· rfl); (rintro _ _ ⟨a7, s7, ha7, rfl, x7, hx7, rfl⟩; refine ⟨(by first | rfl | simp [*]), ?_⟩))) | refine jah ?_ | refine jbh ?_ | refine jab ?_ | refine jat 19 (fun i => i == 3 || i == 5 || i == 7) (.step 0 true (.step 2 true (.alt 19 (.step 1 false (.step 3 false (.step 4 false (.step 5 false (.step 6 true (.step 7 false .nil)))))) (.step 3 false (.step 1 true (.step 4 false (.step 5 false (.step 6 true (.step 7 false .nil))))))))) [(0, 255, 247, true), (1, 254, 247, false), (0, 255, 255, true), (4, 251, 255, false), (8, 247, 247, false), (26, 237, 247, false), (63, 255, 215, true), (127, 159, 215, false)] (by kernel_rfl) (by kernel_rfl) ?_)
          all_goals
            refine jbj ?_; refine ⟨((m - 1, n + 1, W ++ [L], S ++ [x7]), a7, s7), ?_, ?_, jcg rfl (by (repeat (first | exact trivial | refine ⟨(by (rfl)), ?_⟩))) (by (repeat (first | exact trivial | refine ⟨rfl, ?_⟩))) (by (repeat (first | exact trivial | refine ⟨(by (first | (refine jbw rfl ?_; simp; done) | rfl)), ?_⟩))) (by (repeat (first | exact trivial | refine ⟨.inr rfl, ?_⟩)))⟩
            · exact ⟨by dsimp only; omega, by dsimp only; omega, ⟨by simp; omega, by simp; omega⟩, by dsimp only; omega⟩
            · dsimp only; omega
    · repeat' (first | (refine jaa (.move _) ?_; (refine jac (jal rfl) rfl ?_)) | (refine jaa (.assign _) ?_; (refine jac (jam rfl) rfl ?_)) | (refine jaa (.buildSlice 27 0 _) ?_; (apply jao (sz := 1) (by_ := 8); (· kernel_rfl); (· decide); (· (repeat (exact GvS.nil _))); (· (decide)); (· rfl); (· rfl); (· rfl))) | (refine jaa (.binOp .gtr 3 _ _ _) ?_; refine jac (jda rfl rfl) rfl ?_) | (refine jaa (.fieldAddr 56 _ 0) ?_; (refine jac (jad (off := 0) rfl (by kernel_rfl)) rfl ?_)) | (refine jaa (.load 3 _) ?_; (refine jac (jaf rfl rfl (by kernel_rfl) rfl) rfl ?_)) | (refine jaa (.pick _ _ _) ?_; (refine jac (jbx rfl rfl) rfl ?_)) | refine jah ?_ | refine jbu rfl rfl rfl rfl ?_ | refine jbd rfl rfl rfl rfl ?_ | refine jcr rfl rfl (fun hg => ?_) (fun hg => ?_) | refine jaj ?_ | refine jai ?_ | refine jaw rfl ?_ | refine jan ?_ | (apply jcf 8 [0, 2, 3, 4] [2, 1011, 2011, 1014, 2014, 16, 18, 19, 3, 22, 800000000] rfl; (· (repeat (first | exact Pf.nil | apply Pf.cons (.c rfl (.d rfl)) | apply Pf.cons (.c rfl (.lp rfl))))); (· (repeat (first | exact Pb.nil | apply Pb.cons (.row rfl) | (apply Pb.cons; (· apply Nb.box rfl; (repeat (first | exact Ncs.nil rfl | (apply Ncs.cons rfl; (· (first | exact .d rfl | exact .ls rfl))))))) | apply Pb.skip))); refine jab (id := 8) ?_) | refine jab (id := 10) ?_ | refine jab (id := 11) ?_ | refine jbn rfl ?_ | refine jbm rfl (fun hc => ?_) (fun hc => ?_))
      all_goals first | (exfalso; omega) | skip
      all_goals
        apply jbe [0, 2, 3] [2, 3, 16, 18, 19, 22, 33, 44, 45, 54, 55, 59, 60, 66, 67, 1011, 1014, 2011, 2014, 800000000] (n := Tryz.f102.ntmps) rfl; (· (repeat (first | exact Pf.nil | apply Pf.cons (.c rfl (.lp rfl))))); (· (repeat (first | exact Pb.nil | apply Pb.cons (.row rfl) | (apply Pb.cons; (· apply Nb.box rfl; (repeat (first | exact Ncs.nil rfl | (apply Ncs.cons rfl; (· (first | exact .d rfl | exact .ls rfl))))))) | apply Pb.skip)))
        exact H.h
  case g =>
    repeat' (first | refine jco ?_ ?_ | (refine jaa (.move _) ?_; (refine jac (jal rfl) rfl ?_)) | (refine jaa (.binOp .eql 3 _ _ _) ?_; refine jac (jcb rfl rfl) rfl ?_) | (refine jaa (.assign _) ?_; (refine jac (jam rfl) rfl ?_)) | (refine jaa (.buildSlice 27 0 _) ?_; (apply jao (sz := 1) (by_ := 8); (· kernel_rfl); (· decide); (· (repeat (exact GvS.nil _))); (· (decide)); (· rfl); (· rfl); (· rfl))) | (refine jaa (.binOp .gtr 3 _ _ _) ?_; refine jac (jda rfl rfl) rfl ?_) | (refine jaa (.fieldAddr 56 _ 0) ?_; (refine jac (jad (off := 0) rfl (by kernel_rfl)) rfl ?_)) | (refine jaa (.buildSlice 27 1 _) ?_; (apply jao (sz := 1) (by_ := 8); (· kernel_rfl); (· decide); (· (repeat (first | exact GvS.nil _ | apply GvS.c rfl rfl (.lit _) rfl))); (· (decide)); (· rfl); (· rfl); (· rfl))) | (refine jaa (.call ⟨.builtin .append, _, #[27, 27]⟩) ?_; ((apply jbs (sz := 1) (by_ := 8); (· rfl); (· rfl); (· ((simp; omega))); (· exact .row _ _ _ _ rfl (by ((simp; done)))); (· (decide)); (· kernel_rfl); (· decide); (· (omega)); (· (omega)); (· rfl); (· rfl); (· rfl)))) | (refine jaa (.call ⟨.builtin .len, _, #[27]⟩) ?_; (refine jac (jca rfl (by kernel_rfl)) rfl ?_)) | (refine jaa (.fieldAddr 56 _ 1) ?_; (refine jac (jad (off := 1) rfl (by kernel_rfl)) rfl ?_)) | (refine jaa (.load 24 _) ?_; (refine jac (jaf rfl rfl (by kernel_rfl) rfl) rfl ?_)) | (refine jaa (.buildSlice 24 1 _) ?_; (apply jao (sz := 1) (by_ := 24); (· kernel_rfl); (· decide); (· (repeat (first | exact GvS.nil _ | apply GvS.c rfl rfl (.row _ _ _ _ rfl (by ((simp; done)))) rfl))); (· (decide)); (· rfl); (· rfl); (· rfl))) | (refine jaa (.call ⟨.builtin .append, _, #[24, 24]⟩) ?_; ((apply jbs (sz := 1) (by_ := 24); (· rfl); (· rfl); (· ((simp; omega))); (· exact .row _ _ _ _ rfl (by ((simp; done)))); (· (decide)); (· kernel_rfl); (· decide); (· (omega)); (· (omega)); (· rfl); (· rfl); (· rfl)))) | (refine jaa (.store 24 _ _) ?_; (refine jaq rfl rfl rfl rfl (by kernel_rfl) rfl rfl ?_)) | (refine jaa (.fieldAddr 56 _ 2) ?_; (refine jac (jad (off := 2) rfl (by kernel_rfl)) rfl ?_)) | (refine jaa (.load 27 _) ?_; (refine jac (jaf rfl rfl (by kernel_rfl) rfl) rfl ?_)) | (refine jaa (.store 27 _ _) ?_; (refine jaq rfl rfl rfl rfl (by kernel_rfl) rfl rfl ?_)) | (refine jaa (.buildSlice 27 3 _) ?_; (apply jao (sz := 1) (by_ := 8); (· kernel_rfl); (· decide); (· (repeat (first | exact GvS.nil _ | apply GvS.c rfl rfl (.lit _) rfl))); (· (decide)); (· rfl); (· rfl); (· rfl))) | (refine jaa (.store 3 _ _) ?_; (first | refine jaq rfl rfl rfl rfl (by kernel_rfl) rfl rfl ?_ | (refine jch rfl rfl rfl rfl (.lit _) (by simp) (by simp) (by kernel_rfl) (by ((simp only [List.length_map, List.length_append, List.length_replicate, fillL_len, rowF_len, gridF_len, mkI_len, mkII_len, jcx] at *; omega))) rfl ?_; simp only [St.drop]))) | (refine jaa (.buildSlice 27 2 _) ?_; (apply jao (sz := 1) (by_ := 8); (· kernel_rfl); (· decide); (· (repeat (first | exact GvS.nil _ | apply GvS.c rfl rfl (.lit _) rfl))); (· (decide)); (· rfl); (· rfl); (· rfl))) | (refine jaa (.indexAddr 27 _ _) ?_; (refine jac (jck rfl rfl (by kernel_rfl : tSl _ 27 1 = true) (by (omega)) (by (omega))) rfl ?_)) | (refine jaa (.call ⟨.value (.func 113), _, _⟩) ?_; (apply jba (fid := 113); (· rfl); (· rfl); (· (repeat (first | exact BxI.nil | apply BxI.ks | (apply BxI.o; (· (exact .lit _)))))); (· (repeat (first | exact ArX.nil | apply ArX.v (.c (.d _))))); (· (decide)); (· (decide)); (· exact curPick_p code _ _ 50 (by omega) (by omega)); (· rfl); (· (intro b hb1 hb2; omega)); (· rfl); (rintro _ _ ⟨a9, s9, ha9, rfl, x9, hx9, rfl⟩; refine ⟨(by first | rfl | simp [*]), ?_⟩))) | (refine jaa (.call ⟨.value (.func 77), _, _⟩) ?_; (apply jba (fid := 77); (· rfl); (· rfl); (· (repeat (first | exact BxI.nil | apply BxI.ks | (apply BxI.o; (· (exact .lit _)))))); (· (repeat (first | exact ArX.nil | apply ArX.v (.c (.row _ _ _ _ rfl (by ((simp; done)))))))); (· (decide)); (· (decide)); (· exact curAmongD_p code _ _ _ _ (fun _ => True) rfl (by decide) (by repeat (first | exact fun x hx => absurd hx List.not_mem_nil | (refine List.forall_mem_cons.2 ⟨⟨_, rfl, trivial⟩, ?_⟩))) (by omega) (by omega)); (· rfl); (· (intro b hb1 hb2; omega)); (· rfl); (rintro _ _ ⟨a10, s10, ha10, rfl, k10, -, rfl⟩; refine ⟨(by first | rfl | simp [*]), ?_⟩))) | refine jah ?_ | refine jaj ?_ | refine jai ?_ | refine jbh ?_ | refine jan ?_ | refine jab (id := 20) ?_ | refine jab (id := 21) ?_ | refine jab (id := 22) ?_ | refine jab (id := 23) ?_ | refine jab (id := 24) ?_ | refine jab (id := 25) ?_ | refine jab (id := 26) ?_ | refine jab (id := 27) ?_ | refine jab (id := 28) ?_ | refine jab (id := 29) ?_ | refine jat 30 (fun i => i == 4 || i == 6) (.step 0 true (.step 2 true (.alt 30 (.step 1 false (.step 3 false (.step 4 false (.step 5 true (.step 6 false .nil))))) (.step 3 false (.alt 30 (.step 1 false (.step 4 false (.step 5 true (.step 6 false .nil)))) (.step 4 false (.step 1 true (.step 5 true (.step 6 false .nil))))))))) [(0, 127, 111, true), (1, 126, 111, false), (0, 127, 127, true), (0, 127, 127, false), (12, 115, 127, false), (31, 125, 111, true), (63, 79, 111, false)] (by kernel_rfl) (by kernel_rfl) ?_ | refine jab (id := 31) ?_ | refine jab (id := 32) ?_ | refine jbm rfl (fun hc => ?_) (fun hc => ?_))
    all_goals first | (exfalso; omega) | skip
    all_goals
      repeat' (first | (refine jaa (.store 56 _ _) ?_; (refine jag rfl rfl rfl (by kernel_rfl) rfl rfl ?_)) | (refine jaa (.load 56 _) ?_; (refine jac (jae rfl rfl (by kernel_rfl : tAgg _ 56 3 = true) rfl) rfl ?_)) | refine jah ?_ | refine jab ?_)
      (apply jci; (· (apply RetX.p; (· rfl); (· (repeat (first | exact BxO.nil _ | apply BxO.k | (apply BxO.o; (· (exact .lit _)))))); (· (apply GvA.cons; (· (apply RV.cellN (n := 3); (· rfl); (· rfl); (· kernel_rfl); (· rfl))); (· (apply GvP.g; (· (apply GvL.cons (.lit _)); ((apply GvL.cons (.row _ _ _ _ rfl (by ((simp; omega)))))); ((apply GvL.cons (.row _ _ _ _ rfl (by ((simp; omega)))))); exact GvL.nil)))); exact GvA.nil); (· (decide)))))
      refine ⟨_, _, by omega, rfl, sceneX_of ?_ ?_ ?_ ?_⟩
      all_goals first | exact IsII.map _ | exact IsII.snoc (IsII.map _) IsI.nil rfl | exact IsI.map _ | exact IsI.app (IsI.map _) (IsI.cons IsI.nil) | exact IsI.set (IsI.map _) | (simp; done) | (simp; omega)

end Go.Proofs.YtefbiejoikpkmaaGreat

namespace Go.Proofs.YtefbiejoikpkmaaGreat
open Go.RowKit
set_option linter.unusedSectionVars false
variable [Glb]
set_option maxRecDepth 10000
set_option maxHeartbeats 4000000
theorem l1In_p (n lo hi : Int) : PC Tryz.prog 80 [.c (dI n), .c (dI lo), .c (dI hi)] (.p (.c (dB (inB n lo hi)))) := by
  refine jas Tryz.func80 rfl rfl rfl (by kernel_rfl) rfl rfl ?_; intro _
  repeat' (first | (refine jaa (.assign _) ?_; (refine jac (jam rfl) rfl ?_)) | (refine jaa (.move _) ?_; (refine jac (jal rfl) rfl ?_)) | (refine jaa (.binOp .geq 3 _ _ _) ?_; refine jac (qt_geq rfl rfl) rfl ?_) | (refine jaa (.binOp .leq 3 _ _ _) ?_; refine jac (qt_leq rfl rfl) rfl ?_) | (refine jaa (.pick _ _ _) ?_; (refine jac (jbx rfl rfl) rfl ?_)) | refine jah ?_ | refine jbu rfl rfl rfl rfl ?_ | refine jbd rfl rfl rfl rfl ?_ | refine jcr rfl rfl (fun hg => ?_) (fun hg => ?_) | refine jaj ?_ | refine jab ?_)
  all_goals ((apply jau; apply jav; (· apply jbc.p; (· (apply GvA.cons; (· exact .tmp _); (· exact GvP.c (.lit _))); exact GvA.nil); (· (decide)))))
  all_goals (simp [dB, inB, *]; try omega)

end Go.Proofs.YtefbiejoikpkmaaGreat

namespace Go.Proofs.YtefbiejoikpkmaaGreat
open Go.RowKit
set_option linter.unusedSectionVars false
variable [Glb]
set_option maxRecDepth 10000
set_option maxHeartbeats 4000000
theorem l2Sizes_p (x y : Int) : PC Tryz.prog 176 [.c (dI x), .c (dI y)] (.p (.c (dB (sizeB x y)))) := by
  refine jas Tryz.func176 rfl rfl rfl (by kernel_rfl) rfl rfl ?_; intro _
  repeat' (first | (refine jaa (.assign _) ?_; (refine jac (jam rfl) rfl ?_)) | (refine jaa (.move _) ?_; (refine jac (jal rfl) rfl ?_)) | (refine jaa (.pick _ _ _) ?_; (refine jac (jbx rfl rfl) rfl ?_)) | (refine jaa (.call ⟨.value (.func 80), _, _⟩) ?_; (apply jak (fid := 80); (· (repeat (first | exact SeA.nil | apply SeA.cons (.c (.d _))))); (· exact l1In_p _ _ _); (· rfl))) | refine jah ?_ | refine jbu rfl rfl rfl rfl ?_ | refine jbd rfl rfl rfl rfl ?_ | refine jcz rfl rfl (fun hg => ?_) (fun hg => ?_) | refine jaj ?_ | refine jab ?_)
  all_goals (apply jau; apply jav; (· apply jbc.p; (· (apply GvA.cons; (· exact .tmp _); (· exact GvP.c (.lit _))); exact GvA.nil); (· (decide))))
  all_goals ((simp_all [sizeB]; done))

end Go.Proofs.YtefbiejoikpkmaaGreat

namespace Go.Proofs.YtefbiejoikpkmaaGreat
open Go.RowKit
set_option linter.unusedSectionVars false
variable [Glb]
set_option maxRecDepth 10000
set_option maxHeartbeats 4000000
theorem l2Four_p (l : List Int) (n : Int) : PC Tryz.prog 177 [.c (eI l), .c (dI n)] (.p (.c (dB (row4B n l)))) := by
  refine jas Tryz.func177 rfl rfl rfl (by kernel_rfl) rfl rfl ?_; rintro ⟨hl, -⟩
  have hl := hl.len
  repeat' (first | (refine jaa (.assign _) ?_; (refine jac (jam rfl) rfl ?_)) | refine jah ?_ | refine jaj ?_ | refine jai ?_ | refine jab ?_)
  apply jbe [0, 1, 5, 6] [] rfl; (· (repeat (first | exact Pf.nil | apply Pf.cons (.c rfl (.d rfl))))); (· (repeat (exact Pb.nil)))
  refine jbg [0, 1] [] (fun k => [(6, iN k), (5, iZ (sum64 (l.take k)))]) (fun _ => []) (fun k => k ≤ l.length ∧ k ≤ 5 ∧ (l.take k).all (fun m => inB m 0 n) = true) (fun k => l.length - k) (0) ?_ (by (repeat (first | exact trivial | refine ⟨(by (rfl)), ?_⟩))) (by (repeat (exact trivial))) ?_
  · simp
  rintro k ⟨hk, hk9, ha⟩
  repeat' (first | (refine jaa (.assign _) ?_; (refine jac (jam rfl) rfl ?_)) | (refine jaa (.move _) ?_; (refine jac (jal rfl) rfl ?_)) | (refine jaa (.call ⟨.builtin .len, _, #[27]⟩) ?_; (refine jac (jbb rfl (by kernel_rfl)) rfl ?_)) | (refine jaa (.binOp .lss 3 _ _ _) ?_; refine jac (jbk rfl rfl) rfl ?_) | (refine jaa (.pick _ _ _) ?_; (refine jac (jbx rfl rfl) rfl ?_)) | (refine jaa (.indexAddr 27 _ _) ?_; (refine jac (jcl rfl rfl (by kernel_rfl) (by (omega)) (by (omega))) rfl ?_)) | (refine jaa (.load 3 _) ?_; (refine jac (jar rfl (by kernel_rfl) rfl) rfl ?_)) | (refine jaa (.unOp .not 4 _) ?_; refine jac (jbt rfl) rfl ?_) | (refine jaa (.binOp .add 3 _ _ _) ?_; (first | refine jac (jax rfl rfl (by (omega))) rfl ?_ | refine jac (qt_add rfl rfl) rfl ?_)) | (refine jaa (.binOp .eql 3 _ _ _) ?_; refine jac (jcb rfl rfl) rfl ?_) | (refine jaa (.call ⟨.value (.func 80), _, _⟩) ?_; (apply jak (fid := 80); (· (repeat (first | exact SeA.nil | apply SeA.cons (.c (.d _))))); (· exact l1In_p _ _ _); (· rfl))) | refine jah ?_ | refine jbu rfl rfl rfl rfl ?_ | refine jbd rfl rfl rfl rfl ?_ | refine jcr rfl rfl (fun hg => ?_) (fun hg => ?_) | refine jaj ?_ | refine jai ?_ | refine jbh ?_ | refine jaw rfl ?_ | refine jan ?_ | refine jab ?_ | refine jbn rfl ?_ | refine jbm rfl (fun hc => ?_) (fun hc => ?_) | refine jcj rfl (fun hc => ?_) (fun hc => ?_))
  · rename_i hk'
    have hk2 : k < l.length := by omega
    rw [jbp hk2] at hc
    (apply jau; apply jav; (· apply jbc.p; (· (apply GvA.cons; (· exact .tmp _); (· exact GvP.c (.lit _))); exact GvA.nil); (· (decide))))
    rw [row4B, allB, all_f hk2 hc]; simp
  · rename_i hk'
    have hk2 : k < l.length := by omega
    rw [jbp hk2] at hc
    refine jbj ?_; refine ⟨k + 1, ?_, ?_, jcg rfl (by (repeat (first | exact trivial | refine ⟨(by (first | rfl | (refine int_eq rfl ?_; ((simp  [sum64_snoc hk2, jbp hk2]; done))))), ?_⟩))) (by (repeat (first | exact trivial | refine ⟨rfl, ?_⟩))) (by (repeat (exact trivial))) (by (repeat (exact trivial)))⟩
    · exact ⟨by omega, by omega, by rw [take_succ_all _ _ _ hk2, ha, hc]; rfl⟩
    · omega
  all_goals (apply jau; apply jav; (· apply jbc.p; (· (apply GvA.cons; (· exact .tmp _); (· exact GvP.c (.lit _))); exact GvA.nil); (· (decide))))
  all_goals simp only [row4B]
  · have h8 : l.length = 4 := by omega
    rw [List.take_of_length_le (by omega)] at *
    simp [h8, allB, ha]
  · have h8 : ¬ l.length = 4 := by omega
    simp [h8]
  · have h8 : l.length = 4 := by omega
    have hk8 : k = l.length := by omega
    rw [List.take_of_length_le (by omega)] at *
    simp [h8, allB, ha]
  · have h8 : ¬ l.length = 4 := by omega
    simp [h8]
theorem l2Box_p (x y n : Int) (ll : List (List Int)) : PC Tryz.prog 105 [.g [dI x, dI y, dI n, eII ll]] (.p (.c (dB (boxB x y n ll)))) := by
  refine jas Tryz.func105 rfl rfl rfl (by kernel_rfl) rfl rfl ?_; rintro ⟨hl, -⟩
  have hl := (hl _ (List.mem_cons_of_mem _ (List.mem_cons_of_mem _ (List.mem_cons_of_mem _ (List.mem_cons_self ..))))).len
  repeat' (first | (refine jaa (.box 26 _) ?_; refine jaz rfl rfl ?_) | (refine jaa (.assign _) ?_; (refine jac (jam rfl) rfl ?_)) | (refine jaa (.fieldAddr 26 _ 0) ?_; (refine jac (jad (off := 0) rfl (by kernel_rfl)) rfl ?_)) | (refine jaa (.load 3 _) ?_; (refine jac (jaf rfl rfl (by kernel_rfl) rfl) rfl ?_)) | (refine jaa (.fieldAddr 26 _ 1) ?_; (refine jac (jad (off := 1) rfl (by kernel_rfl)) rfl ?_)) | (refine jaa (.unOp .not 4 _) ?_; refine jac (jbt rfl) rfl ?_) | (refine jaa (.move _) ?_; (refine jac (jal rfl) rfl ?_)) | (refine jaa (.fieldAddr 26 _ 2) ?_; (refine jac (jad (off := 2) rfl (by kernel_rfl)) rfl ?_)) | (refine jaa (.pick _ _ _) ?_; (refine jac (jbx rfl rfl) rfl ?_)) | (refine jaa (.fieldAddr 26 _ 3) ?_; (refine jac (jad (off := 3) rfl (by kernel_rfl)) rfl ?_)) | (refine jaa (.load 24 _) ?_; (refine jac (jaf rfl rfl (by kernel_rfl) rfl) rfl ?_)) | (refine jaa (.call ⟨.builtin .len, _, #[24]⟩) ?_; (refine jac (jbb rfl (by kernel_rfl)) rfl ?_)) | (refine jaa (.binOp .mul 3 _ _ _) ?_; (refine jac (qt_mul rfl rfl) rfl ?_)) | (refine jaa (.binOp .neq 3 _ _ _) ?_; refine jac (qt_neq rfl rfl) rfl ?_) | (refine jaa (.call ⟨.value (.func 176), _, _⟩) ?_; (apply jak (fid := 176); (· (repeat (first | exact SeA.nil | apply SeA.cons (.c (.d _))))); (· exact l2Sizes_p _ _); (· rfl))) | (refine jaa (.call ⟨.value (.func 80), _, _⟩) ?_; (apply jak (fid := 80); (· (repeat (first | exact SeA.nil | apply SeA.cons (.c (.d _))))); (· exact l1In_p _ _ _); (· rfl))) | refine jah ?_ | refine jbu rfl rfl rfl rfl ?_ | refine jbd rfl rfl rfl rfl ?_ | refine jcz rfl rfl (fun hg => ?_) (fun hg => ?_) | refine jaj ?_ | refine jai ?_ | refine jan ?_ | refine jab ?_ | refine jbr rfl ?_ | refine jbm rfl (fun hc => ?_) (fun hc => ?_))
  · (apply jau; apply jav; (· apply jbc.p; (· (apply GvA.cons; (· exact .tmp _); (· exact GvP.c (.lit _))); exact GvA.nil); (· (decide))))
    have h9 : sizeB x y = false := by simpa using hg
    simp [boxB, h9]
  · (apply jau; apply jav; (· apply jbc.p; (· (apply GvA.cons; (· exact .tmp _); (· exact GvP.c (.lit _))); exact GvA.nil); (· (decide))))
    have h9 : inB n 1 1000 = false := by simpa using hg
    simp [boxB, h9]
  · (apply jau; apply jav; (· apply jbc.p; (· (apply GvA.cons; (· exact .tmp _); (· exact GvP.c (.lit _))); exact GvA.nil); (· (decide))))
    have hs : sizeB x y = true := by simp_all
    rw [wrap_mul3 hs] at hc
    have h3 : ¬ (ll.length : Int) = x * y := by omega
    simp [boxB, h3]
  have hs : sizeB x y = true := by simp_all
  have hn : inB n 1 1000 = true := by simp_all
  have hlen : (ll.length : Int) = x * y := by rw [← wrap_mul3 hs]; omega
  apply jbe [1, 3] [1] rfl; (· (repeat (first | exact Pf.nil | apply Pf.cons (.c rfl (.d rfl)) | apply Pf.cons (.c rfl (.lp rfl))))); (· (repeat (first | exact Pb.nil | (apply Pb.cons; (· apply Nb.box rfl; (repeat (first | exact Ncs.nil rfl | (apply Ncs.cons rfl; (· (exact .d rfl))))))))))
  refine jbg [1] [1] (fun k => [(3, iN k)]) (fun _ => []) (fun k => k ≤ ll.length ∧ (ll.take k).all (row4B n) = true) (fun k => ll.length - k) (0) ?_ (by (repeat (first | exact trivial | refine ⟨(by (rfl)), ?_⟩))) (by (repeat (exact trivial))) ?_
  · simp
  rintro k ⟨hk, ha⟩
  repeat' (first | (refine jaa (.assign _) ?_; (refine jac (jam rfl) rfl ?_)) | (refine jaa (.load 3 _) ?_; (refine jac (jaf rfl rfl (by kernel_rfl) rfl) rfl ?_)) | (refine jaa (.unOp .not 4 _) ?_; refine jac (jbt rfl) rfl ?_) | (refine jaa (.move _) ?_; (refine jac (jal rfl) rfl ?_)) | (refine jaa (.fieldAddr 26 _ 2) ?_; (refine jac (jad (off := 2) rfl (by kernel_rfl)) rfl ?_)) | (refine jaa (.fieldAddr 26 _ 3) ?_; (refine jac (jad (off := 3) rfl (by kernel_rfl)) rfl ?_)) | (refine jaa (.load 24 _) ?_; (refine jac (jaf rfl rfl (by kernel_rfl) rfl) rfl ?_)) | (refine jaa (.call ⟨.builtin .len, _, #[24]⟩) ?_; (refine jac (jbb rfl (by kernel_rfl)) rfl ?_)) | (refine jaa (.binOp .lss 3 _ _ _) ?_; refine jac (jbk rfl rfl) rfl ?_) | (refine jaa (.indexAddr 24 _ _) ?_; (refine jac (jby rfl rfl (by kernel_rfl) (by (omega)) (by (omega))) rfl ?_)) | (refine jaa (.load 27 _) ?_; (refine jac (jar rfl (by kernel_rfl) rfl) rfl ?_)) | (refine jaa (.binOp .add 3 _ _ _) ?_; refine jac (jax rfl rfl (by (omega))) rfl ?_) | (refine jaa (.call ⟨.value (.func 177), _, _⟩) ?_; (apply jak (fid := 177); (· (repeat (first | exact SeA.nil | apply SeA.cons (.c (.d _))))); (· exact l2Four_p _ _); (· rfl))) | refine jah ?_ | refine jaj ?_ | refine jai ?_ | refine jbh ?_ | refine jaw rfl ?_ | refine jan ?_ | refine jab ?_ | refine jat 6 (fun _ => false) (.step 0 true (.step 1 true (.step 2 true (.step 3 true (.step 4 true (.step 5 true (.step 6 true (.step 7 false (.step 8 true .nil))))))))) [(0, 511, 511, true), (1, 510, 511, false), (0, 511, 511, true), (6, 505, 511, true), (8, 503, 511, false), (0, 511, 511, true), (32, 479, 511, false), (80, 431, 511, false), (128, 383, 511, true)] (by kernel_rfl) (by kernel_rfl) ?_ | refine jbm rfl (fun hc => ?_) (fun hc => ?_) | refine jcj rfl (fun hc => ?_) (fun hc => ?_))
  · have hk2 : k < ll.length := by omega
    rw [jbp hk2] at hc
    (apply jau; apply jav; (· apply jbc.p; (· (apply GvA.cons; (· exact .tmp _); (· exact GvP.c (.lit _))); exact GvA.nil); (· (decide))))
    rw [boxB, all_f hk2 hc]; simp
  · have hk2 : k < ll.length := by omega
    rw [jbp hk2] at hc
    refine jbj ?_; refine ⟨k + 1, ?_, ?_, jcg rfl (by (repeat (first | exact trivial | refine ⟨(by (rfl)), ?_⟩))) (by (repeat (first | exact trivial | refine ⟨rfl, ?_⟩))) (by (repeat (exact trivial))) (by (repeat (first | exact trivial | refine ⟨.inr rfl, ?_⟩)))⟩
    · exact ⟨by omega, by rw [take_succ_all _ _ _ hk2, ha, hc]; rfl⟩
    · omega
  · have : k = ll.length := by omega
    subst this
    rw [List.take_length] at ha
    (apply jau; apply jav; (· apply jbc.p; (· (apply GvA.cons; (· exact .tmp _); (· exact GvP.c (.lit _))); exact GvA.nil); (· (decide))))
    simp [boxB, hs, hn, hlen, ha]

end Go.Proofs.YtefbiejoikpkmaaGreat
