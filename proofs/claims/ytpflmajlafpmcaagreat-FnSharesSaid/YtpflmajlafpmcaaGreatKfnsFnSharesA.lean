/- What the functions that FnShares reaches return: part of its proof. No condition beyond those of its theorems. -/
import Derived.Test.YtpflmajlafpmcaaGreatProg
import Derived.Test.YtpflmajlafpmcaaGreatKplainB
import Derived.WalkKit
import Derived.Test.YtpflmajlafpmcaaGreatKplainA
import Derived.Laws.StructEq
import Derived.Test.YtpflmajlafpmcaaGreatKplainC
set_option linter.unusedVariables false
set_option linter.unusedSimpArgs false
--plain: PureMisc PureTake PureView PureAlt PurePack PureDag PureQ PureRen PureMany PureSlice Texts PureText Defs
namespace Go.Proofs.YtpflmajlafpmcaaGreat
open Go.RowKit
set_option linter.unusedSectionVars false
variable [Glb]

abbrev dI (n : Int) : D := .lit (.int .i64 n)
abbrev dB (b : Bool) : D := .lit (.bool b)
abbrev iN (k : Nat) : FV := .c (.d (dI k))
abbrev iZ (k : Int) : FV := .c (.d (dI k))
/-- a list of numbers, of lists of numbers, of texts -/
abbrev cI (l : List Int) : List D := l.map dI
abbrev eI (l : List Int) : D := .sl 1 l.length (cI l)
abbrev cII (l : List (List Int)) : List D := l.map fun x => eI x
abbrev eII (l : List (List Int)) : D := .sl 1 l.length (cII l)
section
variable {P : Program} {st : St} {dst : Option Tmp} {ty : TypeId} {pos : String} {af : Array Edge} {T : TypeId} {x y : Operand} {k : IntKind} {i : Int}
theorem jcc {l : List Int} (hx : st.ev x = .c (.d (eI l))) (hy : st.ev y = .c (.d (.lit (.int k i)))) (ht : tSl P T 1 = true) (h0 : 0 ≤ i) (h1 : i < l.length) : Qt P ⟨dst, .indexAddr T x y, ty, pos, af, none⟩ st (.c (.d (.pt [dI (atZ l i)]))) :=
  qt_idx hx hy ht h0 h1 (map_at (atZ_some h0 h1))
theorem jbx {l : List (List Int)} (hx : st.ev x = .c (.d (eII l))) (hy : st.ev y = .c (.d (.lit (.int k i)))) (ht : tSl P T 1 = true) (h0 : 0 ≤ i) (h1 : i < l.length) : Qt P ⟨dst, .indexAddr T x y, ty, pos, af, none⟩ st (.c (.d (.pt [eI (atZ l i)]))) :=
  qt_idx hx hy ht h0 h1 (map_at (atZ_some h0 h1))
theorem jcp {l : List Int} {b : Nat} {i : Int} (hx : st.ev x = .c (.lp b (0 + i.toNat * 1))) (hb : st.bl b = some (.row 1 (cI l))) (ht : tOne P T = true) (h0 : 0 ≤ i) (h1 : i < l.length) : Qt P ⟨dst, .load T x, ty, pos, af, none⟩ st (.c (.d (dI (atZ l i)))) :=
  qt_load_row hx hb ht (by rw [List.getElem?_map, Nat.zero_add, Nat.mul_one, atZ_some h0 h1]; rfl)
end
end Go.Proofs.YtpflmajlafpmcaaGreat

namespace Go.Proofs.YtpflmajlafpmcaaGreat
open Go.RowKit
set_option linter.unusedSectionVars false
variable [Glb]
open Go Go.RowKit
/-! readings of bytes -/
theorem pr_u8 {P : Program} {T : TypeId} (hT : P.underlying T = some (.int .u8)) : PR P T fun b : UInt8 => [dY b] := by
  intro H enc W fuel cs x h
  obtain ⟨n, rfl, -, wf⟩ := DataW.trod_int hT h
  have hn : 0 ≤ n ∧ n ≤ 255 := by
    simpa [Lit.wf, IntKind.min, IntKind.max, IntKind.signed, IntKind.bits] using wf
  have e : ((UInt8.ofNat n.toNat).toNat : Int) = n := by rw [UInt8.toNat_ofNat']; omega
  refine ⟨UInt8.ofNat n.toNat, ?_⟩
  have : VwD W [Value.int .u8 n] [D.lit (.int .u8 n)] := .one (.lit _ rfl)
  simpa only [dY, e] using this

end Go.Proofs.YtpflmajlafpmcaaGreat

namespace Go.Proofs.YtpflmajlafpmcaaGreat
open Go.RowKit
set_option linter.unusedSectionVars false
variable [Glb]
open Go Go.RowKit
/-! several ways through a part of the code that are told as one behind it -/
theorem sk_join {P : Program} {R : St → Prop} {k : List Itm} {st : St} {c : Code} {G : Type} (U UB : List Nat) (V : G → List (Nat × FV)) (B : G → List (Nat × Blk)) (ok : G → Prop)
    (first : SK P (.code c :: .back (fun st' => ∃ g', ok g' ∧ True ∧ st'.le (st.at U UB (V g') (B g'))) :: k) st R)
    (rest : ∀ g, ok g → SK P k (st.at U UB (V g) (B g)) R) : SK P (.code c :: k) st R := by
  refine ⟨fun w0 a w hs => Code.wp_mono ?_ (first.lv w0 a w hs)⟩
  rintro e a' w' ⟨st1, h1, h2⟩
  cases e with
  | normal =>
    obtain ⟨g, hg, _, hle⟩ := h2
    exact ⟨_, h1.le hle, (rest g hg).lv⟩
  | ret => exact ⟨st1, h1, by rw [LV.ret] at *; exact h2⟩
  | exit id => exact ⟨st1, h1, h2⟩
  | goto l => exact (LV.bad trivial h2).elim
  | panic c => exact (LV.bad trivial h2).elim
  | outgrown => exact (LV.bad trivial h2).elim
theorem sim_boxeq {st : St} (c : Nat) {cs : List C} (cs' : List C) (hb : st.bl c = some (.box cs)) (e : cs = cs') : ∀ w0 a w, Sim w0 st a w → Sim w0 (st.setB c (some (.box cs'))) a w := by
  subst e
  have : st.setB c (some (.box cs)) = st := by
    unfold St.setB
    cases st with
    | mk n fr bl =>
      simp only [St.mk.injEq, true_and]
      funext k
      split
      · rename_i h; subst h; exact hb.symm
      · rfl
  rw [this]
  exact fun _ _ _ h => h
section
variable {P : Program} {st : St} {dst : Option Tmp} {ty : TypeId} {pos : String} {af : Array Edge}
end

end Go.Proofs.YtpflmajlafpmcaaGreat

namespace Go.Proofs.YtpflmajlafpmcaaGreat
open Go.RowKit
set_option linter.unusedSectionVars false
variable [Glb]
open Go Go.RowKit
/-! parts of the orders that several ways lead to, told for all names that were bound ahead of them -/
section
variable {P : Program} {ops : Array Oper} {mu : Nat → Bool} {st : St} {K : St → Prop}
theorem so_lt0 {S : St} {ok : Prop} {os : List Oper} {T : IT} {C : IT → IT} (main : ∀ Y, (ok → SO P ops mu (OT.of os Y) S K) → SO P ops mu (OT.of os (C Y)) st K) (h : ok → SO P ops mu (OT.of os T) S K) : SO P ops mu (OT.of os (IT.lt T C)) st K := main T h
theorem so_lt3 {A1 A2 A3 : Type} {S : A1 → A2 → A3 → St} {ok : A1 → A2 → A3 → Prop} {os : List Oper} {T : IT} {C : IT → IT} (main : ∀ Y, (∀ x1 x2 x3, ok x1 x2 x3 → SO P ops mu (OT.of os Y) (S x1 x2 x3) K) → SO P ops mu (OT.of os (C Y)) st K) (h : ∀ x1 x2 x3, ok x1 x2 x3 → SO P ops mu (OT.of os T) (S x1 x2 x3) K) : SO P ops mu (OT.of os (IT.lt T C)) st K := main T h
theorem so_lt5 {A1 A2 A3 A4 A5 : Type} {S : A1 → A2 → A3 → A4 → A5 → St} {ok : A1 → A2 → A3 → A4 → A5 → Prop} {os : List Oper} {T : IT} {C : IT → IT} (main : ∀ Y, (∀ x1 x2 x3 x4 x5, ok x1 x2 x3 x4 x5 → SO P ops mu (OT.of os Y) (S x1 x2 x3 x4 x5) K) → SO P ops mu (OT.of os (C Y)) st K) (h : ∀ x1 x2 x3 x4 x5, ok x1 x2 x3 x4 x5 → SO P ops mu (OT.of os T) (S x1 x2 x3 x4 x5) K) : SO P ops mu (OT.of os (IT.lt T C)) st K := main T h
theorem so_lt6 {A1 A2 A3 A4 A5 A6 : Type} {S : A1 → A2 → A3 → A4 → A5 → A6 → St} {ok : A1 → A2 → A3 → A4 → A5 → A6 → Prop} {os : List Oper} {T : IT} {C : IT → IT} (main : ∀ Y, (∀ x1 x2 x3 x4 x5 x6, ok x1 x2 x3 x4 x5 x6 → SO P ops mu (OT.of os Y) (S x1 x2 x3 x4 x5 x6) K) → SO P ops mu (OT.of os (C Y)) st K) (h : ∀ x1 x2 x3 x4 x5 x6, ok x1 x2 x3 x4 x5 x6 → SO P ops mu (OT.of os T) (S x1 x2 x3 x4 x5 x6) K) : SO P ops mu (OT.of os (IT.lt T C)) st K := main T h
theorem so_lt16 {A1 A2 A3 A4 A5 A6 A7 A8 A9 A10 A11 A12 A13 A14 A15 A16 : Type} {S : A1 → A2 → A3 → A4 → A5 → A6 → A7 → A8 → A9 → A10 → A11 → A12 → A13 → A14 → A15 → A16 → St} {ok : A1 → A2 → A3 → A4 → A5 → A6 → A7 → A8 → A9 → A10 → A11 → A12 → A13 → A14 → A15 → A16 → Prop} {os : List Oper} {T : IT} {C : IT → IT} (main : ∀ Y, (∀ x1 x2 x3 x4 x5 x6 x7 x8 x9 x10 x11 x12 x13 x14 x15 x16, ok x1 x2 x3 x4 x5 x6 x7 x8 x9 x10 x11 x12 x13 x14 x15 x16 → SO P ops mu (OT.of os Y) (S x1 x2 x3 x4 x5 x6 x7 x8 x9 x10 x11 x12 x13 x14 x15 x16) K) → SO P ops mu (OT.of os (C Y)) st K) (h : ∀ x1 x2 x3 x4 x5 x6 x7 x8 x9 x10 x11 x12 x13 x14 x15 x16, ok x1 x2 x3 x4 x5 x6 x7 x8 x9 x10 x11 x12 x13 x14 x15 x16 → SO P ops mu (OT.of os T) (S x1 x2 x3 x4 x5 x6 x7 x8 x9 x10 x11 x12 x13 x14 x15 x16) K) : SO P ops mu (OT.of os (IT.lt T C)) st K := main T h
end

end Go.Proofs.YtpflmajlafpmcaaGreat

namespace Go.Proofs.YtpflmajlafpmcaaGreat
open Go.RowKit
set_option linter.unusedSectionVars false
variable [Glb]
open Go Go.RowKit
/-! structs of texts and numbers, compared -/
def eqA : Value → Value → Bool
  | .int _ a, .int _ b => a == b
  | .string a, .string b => a.toList == b.toList
  | _, _ => false
def eqL : List Value → List Value → Bool
  | u :: us, v :: vs => eqA u v && eqL us vs
  | _, _ => true
@[simp] theorem eqA_t (a b : Tx) : eqA (.string (bsT a)) (.string (bsT b)) = decide (a = b) := by
  show ((bsT a).toList == (bsT b).toList) = _
  rw [ByteArray.toList_eq, ByteArray.toList_eq]
  show ((bsT a).data.toList == (bsT b).data.toList) = _
  simp only [bsT]
  rw [Bool.eq_iff_iff, beq_iff_eq, decide_eq_true_iff]
@[simp] theorem eqA_i (k k' : IntKind) (a b : Int) : eqA (.int k a) (.int k' b) = decide (a = b) := rfl
@[simp] theorem eqL_cons (u v : Value) (us vs : List Value) : eqL (u :: us) (v :: vs) = (eqA u v && eqL us vs) := rfl
@[simp] theorem eqL_nil : eqL [] [] = true := rfl
section
variable {P : Program} {w : World}
end
section
variable {P : Program} {st : St} {dst : Option Tmp} {ty : TypeId} {pos : String} {af : Array Edge} {T T' : TypeId} {x y : Operand}
end

end Go.Proofs.YtpflmajlafpmcaaGreat

namespace Go.Proofs.YtpflmajlafpmcaaGreat
open Go.RowKit
open Go
/-! trios -/
def sum64 (l : List Int) : Int := l.foldl (fun s n => IntKind.i64.wrap (s + n)) 0
theorem sum64_snoc {l : List Int} {k : Nat} (h : k < l.length) : sum64 (l.take (k + 1)) = IntKind.i64.wrap (sum64 (l.take k) + l[k]) := by
  unfold sum64; rw [List.take_succ_eq_append_getElem h, List.foldl_append]; rfl
theorem rowF_atZ (f : Nat → Int) {m k : Nat} (h : k < m) : atZ (rowF f m) (k : Int) = f k := by
  rw [jbv (by simpa using h)]; simp [rowF]
end Go.Proofs.YtpflmajlafpmcaaGreat

namespace Go.Proofs.YtpflmajlafpmcaaGreat
open Go.RowKit
/-! all plays -/
def bitN (c e : Nat) : Nat := c / 2 ^ e % 2
def bitsM (n c : Nat) : List Int := rowF (fun i => (bitN c (n - 1 - i) : Int)) n
def playsF (n : Nat) : List (List Int) := (List.range (2 ^ n)).map (bitsM n)
@[simp] theorem bitsM_len (n c : Nat) : (bitsM n c).length = n := by simp [bitsM]
@[simp] theorem playsF_len (n : Nat) : (playsF n).length = 2 ^ n := by simp [playsF]
theorem bitsM_bits (n c : Nat) : bitsB (bitsM n c) n = true := by
  simp only [bitsB, bitsM_len, decide_true, Bool.true_and, allB, List.all_eq_true]
  intro x hx
  unfold bitsM rowF at hx
  obtain ⟨i, _, rfl⟩ := List.mem_map.1 hx
  exact jcd.2 ⟨by unfold bitN; omega, by unfold bitN; omega⟩
theorem playsF_at {n k : Nat} (h : k < 2 ^ n) : atZ (playsF n) (k : Int) = bitsM n k := by rw [jbv (by simpa using h)]; simp [playsF]
theorem plays_snoc (n c : Nat) : (List.range (c + 1)).map (bitsM n) = (List.range c).map (bitsM n) ++ [bitsM n c] := by simp [List.range_succ]
theorem bit_nat (c e : Nat) : (c : Int) / 2 ^ e % 2 = (bitN c e : Int) := by
  unfold bitN
  rw [Int.natCast_emod, Int.natCast_ediv, Int.natCast_pow]; rfl
theorem allB_at {l : List Int} {lo hi : Int} (h : allB l lo hi = true) {i : Int} (h0 : 0 ≤ i) (h1 : i < l.length) : lo ≤ atZ l i ∧ atZ l i ≤ hi := by
  unfold allB at h
  rw [List.all_eq_true] at h
  obtain ⟨k, rfl⟩ := Int.eq_ofNat_of_zero_le h0
  rw [jbv (by omega)]
  exact jcd.1 (h (l[k]'(by omega)) (List.getElem_mem _))
end Go.Proofs.YtpflmajlafpmcaaGreat

namespace Go.Proofs.YtpflmajlafpmcaaGreat
open Go.RowKit
open Go
/-! boxes -/
def row4B (n : Int) (row : List Int) : Bool := (decide (row.length = 4) && allB row 0 n) && decide (sum64 row = n)
def sizeB (x y : Int) : Bool := inB x 1 3 && inB y 1 3
def boxB (x y n : Int) (ll : List (List Int)) : Bool := ((sizeB x y && inB n 1 1000) && decide ((ll.length : Int) = x * y)) && ll.all (row4B n)
theorem jbn {x y : Int} : sizeB x y = true ↔ (1 ≤ x ∧ x ≤ 3) ∧ (1 ≤ y ∧ y ≤ 3) := by simp [sizeB, jcd]
theorem jcq {x y : Int} (h : sizeB x y = true) : 1 ≤ x * y ∧ x * y ≤ 9 := by
  obtain ⟨⟨a, b⟩, c, d⟩ := jbn.1 h
  rcases (by omega : x = 1 ∨ x = 2 ∨ x = 3) with rfl | rfl | rfl <;> rcases (by omega : y = 1 ∨ y = 2 ∨ y = 3) with rfl | rfl | rfl <;> decide
theorem wrap_mul3 {x y : Int} (h : sizeB x y = true) : IntKind.i64.wrap (x * y) = x * y := IntWalk.i64_in _ (by have := jcq h; omega)
theorem row4B_len {n : Int} {row : List Int} (h : row4B n row = true) : row.length = 4 ∧ ∀ k (hk : k < row.length), 0 ≤ row[k] ∧ row[k] ≤ n := by
  simp only [row4B, Bool.and_eq_true, decide_eq_true_eq, allB, List.all_eq_true] at h
  exact ⟨h.1.1, fun k hk => jcd.1 (h.1.2 _ (List.getElem_mem hk))⟩
theorem row4B_sum {n : Int} {row : List Int} (h : row4B n row = true) : sum64 row = n := by simp [row4B] at h; exact h.2
structure BoxOK (x y n : Int) (ll : List (List Int)) : Prop where
  x1 : 1 ≤ x
  x3 : x ≤ 3
  y1 : 1 ≤ y
  y3 : y ≤ 3
  n1 : 1 ≤ n
  n2 : n ≤ 1000
  len : (ll.length : Int) = x * y
  row : ∀ q, (hq : q < ll.length) → row4B n ll[q] = true
theorem jbj {x y n : Int} {ll : List (List Int)} (h : boxB x y n ll = true) : BoxOK x y n ll := by
  simp only [boxB, Bool.and_eq_true, decide_eq_true_eq, List.all_eq_true] at h
  obtain ⟨⟨⟨h1, h2⟩, h3⟩, h4⟩ := h
  have a := jbn.1 h1
  have b := jcd.1 h2
  exact ⟨a.1.1, a.1.2, a.2.1, a.2.2, b.1, b.2, h3, fun q hq => h4 _ (List.getElem_mem hq)⟩
theorem boxB_at {x y n : Int} {ll : List (List Int)} (h : boxB x y n ll = true) {q : Int} (h0 : 0 ≤ q) (h8 : q < x * y) : (atZ ll q).length = 4 ∧ ∀ k : Int, 0 ≤ k → k < 4 → 0 ≤ atZ (atZ ll q) k ∧ atZ (atZ ll q) k ≤ n := by
  have hb := jbj h
  obtain ⟨i, rfl⟩ := Int.eq_ofNat_of_zero_le h0
  have hi : i < ll.length := by have := hb.len; omega
  rw [jbv hi]
  obtain ⟨h5, h6⟩ := row4B_len (hb.row i hi)
  refine ⟨h5, fun k hk0 hk8 => ?_⟩
  obtain ⟨j, rfl⟩ := Int.eq_ofNat_of_zero_le hk0
  rw [jbv (by omega)]
  exact h6 j (by omega)
/-- the place of a pair of questions -/
theorem idx_lt {i k X Y : Int} (h0 : 0 ≤ i) (h1 : i < X) (h2 : 0 ≤ k) (h3 : k < Y) : 0 ≤ i * Y + k ∧ i * Y + k < X * Y ∧ 0 ≤ i * Y ∧ i * Y < X * Y := by
  have hY : 0 ≤ Y := by omega
  have a : 0 ≤ i * Y := Int.mul_nonneg h0 hY
  have b : (i + 1) * Y ≤ X * Y := Int.mul_le_mul_of_nonneg_right (by omega) hY
  rw [Int.add_mul, Int.one_mul] at b
  omega
theorem idx_ltN {i k X Y : Nat} (h1 : i < X) (h3 : k < Y) : Y * i + k < Y * X := by
  rw [Nat.mul_comm Y i, Nat.mul_comm Y X]
  have b : (i + 1) * Y ≤ X * Y := Nat.mul_le_mul_right _ (by omega)
  rw [Nat.add_mul, Nat.one_mul] at b
  omega
/-- the rows of a box told by a function of questions and place -/
def boxF (f : Nat → Nat → Nat → Int) (y n : Nat) : List (List Int) := (List.range n).map fun j => rowF (f (j / y) (j % y)) 4
@[simp] theorem boxF_len (f : Nat → Nat → Nat → Int) (y n : Nat) : (boxF f y n).length = n := by simp [boxF]
theorem boxF_snoc (f : Nat → Nat → Nat → Int) (y : Nat) (i k : Nat) (h : k < y) : boxF f y (y * i + (k + 1)) = boxF f y (y * i + k) ++ [rowF (f i k) 4] := by
  have e1 : (y * i + k) / y = i := by rw [Nat.mul_comm, Nat.add_comm, Nat.add_mul_div_right _ _ (by omega), Nat.div_eq_of_lt h, Nat.zero_add]
  have e2 : (y * i + k) % y = k := by rw [Nat.mul_comm, Nat.add_comm, Nat.add_mul_mod_self_right, Nat.mod_eq_of_lt h]
  simp [boxF, ← Nat.add_assoc, List.range_succ, e1, e2]
theorem boxF_at {f : Nat → Nat → Nat → Int} {y n : Nat} {j : Nat} (h : j < n) : atZ (boxF f y n) (j : Int) = rowF (f (j / y) (j % y)) 4 := by
  rw [jbv (by simpa using h)]; simp [boxF]
/-- a box's number -/
def atB (ll : List (List Int)) (Y i k p : Int) : Int := atZ (atZ ll (i * Y + k)) p

end Go.Proofs.YtpflmajlafpmcaaGreat

namespace Go.Proofs.YtpflmajlafpmcaaGreat
open Go.RowKit
open Go
/-! numbers added up at places -/
def accN (s : Nat → Nat) (v : Nat → Int) : Nat → Nat → Int
  | 0, _ => 0
  | m + 1, p => accN s v m p + if s m = p then v m else 0
theorem accN_set (s : Nat → Nat) (v : Nat → Int) (m : Nat) (h : s m < 4) : (rowF (accN s v m) 4).set (s m) (accN s v m (s m) + v m) = rowF (accN s v (m + 1)) 4 := by
  rcases (by omega : s m = 0 ∨ s m = 1 ∨ s m = 2 ∨ s m = 3) with e | e | e | e <;> simp [rowF, accN, e, List.range, List.range.loop, List.set]
theorem accN_nn (s : Nat → Nat) (v : Nat → Int) : ∀ m p, (∀ t, t < m → 0 ≤ v t) → 0 ≤ accN s v m p
  | 0, _, _ => by simp [accN]
  | m + 1, p, h => by
    have := accN_nn s v m p fun t ht => h t (by omega)
    have := h m (by omega)
    simp only [accN]; split <;> omega
end Go.Proofs.YtpflmajlafpmcaaGreat

namespace Go.Proofs.YtpflmajlafpmcaaGreat
open Go.RowKit
open Go
/-! lists told by two lists of questions -/
/-- the numbers less than n -/
def cntL (n : Nat) : List Int := (List.range n).map fun i : Nat => (i : Int)
@[simp] theorem cntL_len (n : Nat) : (cntL n).length = n := by simp [cntL]
/-! games -/
theorem sum64_small {l : List Int} {m : Int} (hl : l.length ≤ 1000) (hb : allB l 0 m = true) (hm : 0 ≤ m) (hm2 : m ≤ 1000000) : sum64 l = l.sum ∧ 0 ≤ l.sum ∧ l.sum ≤ l.length * m := by
  have key : ∀ (l : List Int) (s : Int), 0 ≤ s → (∀ x ∈ l, 0 ≤ x ∧ x ≤ m) → s + l.length * m ≤ 1000000000000 → l.foldl (fun s n => IntKind.i64.wrap (s + n)) s = s + l.sum ∧ 0 ≤ l.sum ∧ l.sum ≤ l.length * m := by
    intro l
    induction l with
    | nil => intro s _ _ _; simp
    | cons x l ih =>
      intro s h0 hx hs
      have h1 := hx x (List.mem_cons_self ..)
      simp only [List.length_cons, Int.natCast_add, Int.add_mul] at hs ⊢
      have h2 : 0 ≤ (l.length : Int) * m := Int.mul_nonneg (by omega) hm
      obtain ⟨e1, e2, e3⟩ := ih (s + x) (by omega) (fun y hy => hx y (List.mem_cons_of_mem _ hy)) (by simp at hs; omega)
      rw [List.foldl_cons, IntWalk.i64_in _ (by simp at hs; omega), e1, List.sum_cons]
      simp at hs ⊢; omega
  unfold allB at hb
  rw [List.all_eq_true] at hb
  have hlm : (l.length : Int) * m ≤ 1000 * 1000000 := Int.mul_le_mul (by omega) hm2 hm (by omega)
  have := key l 0 (by omega) (fun x hx => jcd.1 (hb x hx)) (by omega)
  unfold sum64; omega

theorem mem_atZ {α : Type} [Inhabited α] {l : List α} {i : Nat} (h : i < l.length) : atZ l (i : Int) ∈ l := by rw [jbv h]; exact List.getElem_mem _
def whenA {α : Type} (b : Bool) (l : List α) : List α := if b = true then l else []
def xor4 (k : Nat) (m : Int) : Int := ((k ^^^ m.toNat : Nat) : Int)
theorem xor4_eq {k : Nat} {m : Int} (hk : k < 4) (h0 : 0 ≤ m) (h4 : m < 4) : bits .xor .i64 (k : Int) m = xor4 k m ∧ 0 ≤ xor4 k m ∧ xor4 k m < 4 := by
  rcases (by omega : k = 0 ∨ k = 1 ∨ k = 2 ∨ k = 3) with rfl | rfl | rfl | rfl <;> rcases (by omega : m = 0 ∨ m = 1 ∨ m = 2 ∨ m = 3) with rfl | rfl | rfl | rfl <;> exact ⟨rfl, by decide, by decide⟩
def flipOf (fl : List Int) (X x y : Int) : Int := 2 * atZ fl x + atZ fl (X + y)
def askR (X Y : Int) (wi : List (List Int)) (fl : List Int) (x y : Int) : List Int := rowF (fun k => atZ (atZ wi (x * Y + y)) (xor4 k (flipOf fl X x y))) 4
@[simp] theorem askR_len (X Y : Int) (wi : List (List Int)) (fl : List Int) (x y : Int) : (askR X Y wi fl x y).length = 4 := by simp [askR]
theorem whenA_len {α : Type} (b : Bool) (l : List α) : (whenA b l).length ≤ l.length := by unfold whenA; split <;> simp
end Go.Proofs.YtpflmajlafpmcaaGreat

namespace Go.Proofs.YtpflmajlafpmcaaGreat
open Go.RowKit
set_option linter.unusedSectionVars false
variable [Glb]
open Go
/-! rules, wirings -/
/-- a sum, term by term -/
def accT (t : Nat → Int) : Nat → Int
  | 0 => 0
  | m + 1 => accT t m + t m
theorem accN_T (s : Nat → Nat) (v : Nat → Int) (p : Nat) : ∀ m, accN s v m p = accT (fun c => if s c = p then v c else 0) m
  | 0 => rfl
  | m + 1 => by simp only [accN, accT, accN_T s v p m]
theorem accT_nn {t : Nat → Int} : ∀ {m : Nat}, (∀ c, c < m → 0 ≤ t c) → 0 ≤ accT t m
  | 0, _ => by simp [accT]
  | m + 1, h => by
    have := accT_nn fun c hc => h c (Nat.lt_succ_of_lt hc)
    have := h m (by omega)
    simp only [accT]; omega
section
variable (la lb : List (List Int)) (f1 : List Int) (a1 s1 : List (List Int)) (f2 : List Int) (a2 s2 : List (List Int))
end
theorem box4 {X Y n : Int} {ll : List (List Int)} (h : boxB X Y n ll = true) {q : Int} (h0 : 0 ≤ q) (h1 : q < X * Y) : atZ (atZ ll q) 0 + atZ (atZ ll q) 1 + atZ (atZ ll q) 2 + atZ (atZ ll q) 3 = n := by
  have hb := jbj h
  obtain ⟨i, rfl⟩ := Int.eq_ofNat_of_zero_le h0
  have hi : i < ll.length := by have := hb.len; omega
  rw [jbv hi]
  have hr := hb.row i hi
  have hs := row4B_sum hr
  have hl := (row4B_len hr).1
  have hn := hb.n2
  have ha : allB ll[i] 0 n = true := by simp only [row4B, Bool.and_eq_true] at hr; exact hr.1.2
  rw [(sum64_small (l := ll[i]) (m := n) (by omega) ha (by have := hb.n1; omega) (by omega)).1] at hs
  generalize ll[i] = r at hs hl
  match r, hl with
  | [a, b, c, d], _ => simp [atZ] at hs ⊢; omega
theorem rowF4_sum (f : Nat → Int) (h : ∀ p, p < 4 → 0 ≤ f p ∧ f p ≤ 1000000) : sum64 (rowF f 4) = f 0 + f 1 + f 2 + f 3 := by
  have h0 := h 0 (by omega); have h1 := h 1 (by omega); have h2 := h 2 (by omega); have h3 := h 3 (by omega)
  have ha : allB (rowF f 4) 0 1000000 = true := by
    unfold allB; rw [List.all_eq_true]; intro x hx
    unfold rowF at hx; obtain ⟨p, hp, rfl⟩ := List.mem_map.1 hx
    exact jcd.2 (h p (List.mem_range.1 hp))
  rw [(sum64_small (l := rowF f 4) (m := 1000000) (by simp) ha (by omega) (by omega)).1]
  simp [rowF, List.range, List.range.loop]; omega
/-- rows told by a function make a box -/
theorem rows_box {x y : Nat} {n : Int} {f : Nat → Nat → Nat → Int} (hx : 1 ≤ x ∧ x ≤ 3) (hy : 1 ≤ y ∧ y ≤ 3) (h0 : 1 ≤ n) (h1 : n ≤ 1000000) (hf : ∀ i k, i < x → k < y → (∀ p, p < 4 → 0 ≤ f i k p) ∧ f i k 0 + f i k 1 + f i k 2 + f i k 3 = n) :
    boxB x y n (boxF f y (y * x)) = decide (n ≤ 1000) := by
  have hs : sizeB x y = true := jbn.2 ⟨⟨by omega, by omega⟩, by omega, by omega⟩
  have hl : ((boxF f y (y * x)).length : Int) = (x : Int) * y := by rw [boxF_len, Int.natCast_mul, Int.mul_comm]
  have hr : (boxF f y (y * x)).all (row4B n) = true := by
    rw [List.all_eq_true]; intro r hr
    unfold boxF at hr
    obtain ⟨j, hj, rfl⟩ := List.mem_map.1 hr
    have hj := List.mem_range.1 hj
    have hi : j / y < x := Nat.div_lt_of_lt_mul hj
    have hk : j % y < y := Nat.mod_lt _ (by omega)
    obtain ⟨a, b⟩ := hf _ _ hi hk
    generalize f (j / y) (j % y) = g at a b
    have a0 := a 0 (by omega); have a1 := a 1 (by omega); have a2 := a 2 (by omega); have a3 := a 3 (by omega)
    have bd : ∀ p, p < 4 → 0 ≤ g p ∧ g p ≤ n := fun p hp => by rcases (by omega : p = 0 ∨ p = 1 ∨ p = 2 ∨ p = 3) with rfl | rfl | rfl | rfl <;> omega
    have hsum := rowF4_sum g fun p hp => by have := bd p hp; omega
    simp only [row4B, rowF_len, decide_true, Bool.true_and, Bool.and_eq_true, decide_eq_true_eq, hsum, allB, List.all_eq_true]
    refine ⟨fun m hm => ?_, b⟩
    unfold rowF at hm; obtain ⟨p, hp, rfl⟩ := List.mem_map.1 hm
    exact jcd.2 (bd p (List.mem_range.1 hp))
  simp only [boxB, hs, hl, hr, decide_true, Bool.and_true, Bool.true_and, inB]
  simp; omega
section
variable {la lb : List (List Int)} {f1 : List Int} {a1 s1 : List (List Int)} {f2 : List Int} {a2 s2 : List (List Int)} {na nb : Int}
end
section
variable {la lb : List (List Int)} {f1 : List Int} {a1 s1 : List (List Int)} {f2 : List Int} {a2 s2 : List (List Int)} {na nb : Int}
end
/-- the rows of a wiring on the way -/
def wireM (W : Nat → Nat → Nat → Nat → Int) (j0 m : Nat) : List (List Int) := (List.range 4).map fun j => rowF (W (j / 2) (j % 2) (if j < j0 then 16 else if j = j0 then m else 0)) 4
@[simp] theorem wireM_len (W : Nat → Nat → Nat → Nat → Int) (j0 m : Nat) : (wireM W j0 m).length = 4 := by simp [wireM]
end Go.Proofs.YtpflmajlafpmcaaGreat

namespace Go.Proofs.YtpflmajlafpmcaaGreat
open Go.RowKit
open Go
/-! quiet trios -/
def at2 (ll : List (List Int)) (q k : Nat) : Int := atZ (atZ ll (q : Int)) (k : Int)
theorem range_all_f {f : Nat → Bool} {n k : Nat} (h : k < n) (hf : f k = false) : (List.range n).all f = false := by
  rw [← Bool.not_eq_true, List.all_eq_true]; intro H; have := H k (List.mem_range.2 h); rw [hf] at this; cases this
theorem range_all_s {f : Nat → Bool} {k : Nat} : (List.range (k + 1)).all f = ((List.range k).all f && f k) := by simp [List.range_succ]
end Go.Proofs.YtpflmajlafpmcaaGreat

namespace Go.Proofs.YtpflmajlafpmcaaGreat
open Go.RowKit
set_option linter.unusedSectionVars false
variable [Glb]
open Go
/-! scenes, halls -/
def riseAt (l : List Int) (lo hi : Int) (i : Nat) : Bool := inB (atZ l i) lo hi && (decide (i = 0) || decide (atZ l ((i : Int) - 1) < atZ l i))
def riseB (l : List Int) (lo hi : Int) : Bool := (List.range l.length).all fun i => riseAt l lo hi i
theorem riseB_f {l : List Int} {lo hi : Int} {k : Nat} (h : k < l.length) (hf : riseAt l lo hi k = false) : riseB l lo hi = false := range_all_f h hf
def ctxB (n : Int) (l : List Int) : Bool := decide (0 < l.length) && riseB l 0 (n - 1)
def sceneB (ev : Int) (cc : List (List Int)) (ss : List Int) : Bool := inB ev 0 12 && (decide (cc.length ≤ 10) && (bitsB ss cc.length && cc.all (ctxB ev)))
structure SceneOK (ev : Int) (cc : List (List Int)) (ss : List Int) : Prop where
  e0 : 0 ≤ ev
  e12 : ev ≤ 12
  c10 : cc.length ≤ 10
  sl : ss.length = cc.length
  sb : bitsB ss cc.length = true
  ctx : ∀ q, (hq : q < cc.length) → ctxB ev cc[q] = true
theorem jbo {ev : Int} {cc : List (List Int)} {ss : List Int} (h : sceneB ev cc ss = true) : SceneOK ev cc ss := by
  simp only [sceneB, Bool.and_eq_true, decide_eq_true_eq, List.all_eq_true] at h
  obtain ⟨h1, h2, h3, h4⟩ := h
  have a := jcd.1 h1
  have := jbk h3
  exact ⟨a.1, a.2, h2, by omega, h3, fun q hq => h4 _ (List.getElem_mem hq)⟩
def hallB (bx by_ bwh : Int) (bll : List (List Int)) (pl : List Int) (ev : Int) (cc : List (List Int)) (ss nu : List Int) (co : Int) : Bool :=
  boxB bx by_ bwh bll && (bitsB pl (bx + by_) && (sceneB ev cc ss && (bitsB nu ev && inB co 0 1000)))
/-- the least of numbers -/
def leastN (m : Int) (f : Nat → Int) : Nat → Int
  | 0 => m
  | k + 1 => min (leastN m f k) (f k)
def chanceF (Y X : Nat) (ll : List (List Int)) (pl : List Int) (j : Nat) : Int := atZ (atZ ll j) (2 * atZ pl ((j / Y : Nat) : Int) + atZ pl ((X : Int) + (j % Y : Nat)))
theorem rise_no {l : List Int} {lo hi : Int} {k : Nat} (hk : (k : Int) < l.length) (h : inB (atZ l k) lo hi = false ∨ ((k : Int) > 0 ∧ atZ l ((k : Int) - 1) ≥ atZ l k)) : riseB l lo hi = false := by
  refine riseB_f (k := k) (by omega) ?_
  unfold riseAt
  rcases h with h | ⟨h1, h2⟩
  · simp [h]
  · have : ¬ k = 0 := by omega
    have h3 : ¬ atZ l ((k : Int) - 1) < atZ l k := by omega
    simp [this, h3]
theorem rise_yes {l : List Int} {lo hi : Int} {k : Nat} (ha : (List.range k).all (riseAt l lo hi) = true) (h : inB (atZ l k) lo hi = true) (h2 : ¬ (k : Int) > 0 ∨ ¬ atZ l ((k : Int) - 1) ≥ atZ l k) : (List.range (k + 1)).all (riseAt l lo hi) = true := by
  rw [range_all_s, ha, Bool.true_and]
  unfold riseAt
  rcases h2 with h2 | h2
  · have : k = 0 := by omega
    simp [h, this]
    subst this; simpa using h
  · have h3 : atZ l ((k : Int) - 1) < atZ l k := by omega
    simp [h, h3]
structure HallOK (bx by_ bwh : Int) (bll : List (List Int)) (pl : List Int) (ev : Int) (cc : List (List Int)) (ss nu : List Int) (co : Int) : Prop where
  box : boxB bx by_ bwh bll = true
  pl : bitsB pl (bx + by_) = true
  sc : sceneB ev cc ss = true
  nu : bitsB nu ev = true
  co : inB co 0 1000 = true
theorem jcz {bx by_ bwh : Int} {bll : List (List Int)} {pl : List Int} {ev : Int} {cc : List (List Int)} {ss nu : List Int} {co : Int} (h : hallB bx by_ bwh bll pl ev cc ss nu co = true) : HallOK bx by_ bwh bll pl ev cc ss nu co := by
  simp only [hallB, Bool.and_eq_true] at h
  exact ⟨h.1, h.2.1, h.2.2.1, h.2.2.2.1, h.2.2.2.2⟩
theorem chance_at {X Y : Nat} {ll : List (List Int)} {pl : List Int} {i k : Nat} (hk : k < Y) : chanceF Y X ll pl (Y * i + k) = atB ll Y i k (2 * atZ pl i + atZ pl ((X : Int) + k)) := by
  have e1 : (Y * i + k) / Y = i := by rw [Nat.mul_comm, Nat.add_comm, Nat.add_mul_div_right _ _ (by omega), Nat.div_eq_of_lt hk, Nat.zero_add]
  have e2 : (Y * i + k) % Y = k := by rw [Nat.mul_comm, Nat.add_comm, Nat.add_mul_mod_self_right, Nat.mod_eq_of_lt hk]
  unfold chanceF atB
  rw [e1, e2, Int.natCast_add, Int.natCast_mul, Int.mul_comm]
theorem chance_split {X Y : Nat} (ll : List (List Int)) (pl : List Int) {i : Nat} (hY : 1 ≤ Y) (hi : i < Y * X) :
    ∃ a m : Nat, (i : Int) / Y = a ∧ (i : Int) % Y = m ∧ a < X ∧ m < Y ∧ chanceF Y X ll pl i = atZ (atZ ll i) (2 * atZ pl a + atZ pl ((X : Int) + m)) :=
  ⟨i / Y, i % Y, by simp, by simp, Nat.div_lt_of_lt_mul hi, Nat.mod_lt _ hY, rfl⟩

end Go.Proofs.YtpflmajlafpmcaaGreat

namespace Go.Proofs.YtpflmajlafpmcaaGreat
open Go.RowKit
set_option linter.unusedSectionVars false
variable [Glb]
open Go
/-! lists of questions that are used -/
/-! a game with some of its questions -/
def zerosL (n : Nat) : List Int := List.replicate n 0
@[simp] theorem zerosL_len (n : Nat) : (zerosL n).length = n := by simp [zerosL]
theorem zerosL_bits (n : Nat) : bitsB (zerosL n) n = true := by simp [bitsB, allB, zerosL, inB]
end Go.Proofs.YtpflmajlafpmcaaGreat

namespace Go.Proofs.YtpflmajlafpmcaaGreat
open Go.RowKit
set_option linter.unusedSectionVars false
variable [Glb]
open Go
/-! new halls -/
def newB (bx by_ bwh : Int) (bll : List (List Int)) (ev : Int) (cc : List (List Int)) (ss : List Int) : Bool := boxB bx by_ bwh bll && sceneB ev cc ss
structure NewOK (bx by_ bwh : Int) (bll : List (List Int)) (ev : Int) (cc : List (List Int)) (ss : List Int) : Prop where
  x1 : 1 ≤ bx
  x3 : bx ≤ 3
  y1 : 1 ≤ by_
  y3 : by_ ≤ 3
  e0 : 0 ≤ ev
  e12 : ev ≤ 12
  bl : bll.length ≤ 9
  br : ∀ r ∈ bll, r.length ≤ 1000000
  cl : cc.length ≤ 10
  cr : ∀ r ∈ cc, r.length ≤ 1000000
  cb : ∀ r ∈ cc, allB r 0 1000 = true
  sl : ss.length ≤ 10
theorem rise_lt {l : List Int} {lo hi : Int} (h : riseB l lo hi = true) : ∀ i : Nat, i < l.length → lo + i ≤ atZ l i ∧ atZ l i ≤ hi := by
  intro i
  induction i with
  | zero =>
    intro hi
    unfold riseB at h
    rw [List.all_eq_true] at h
    have := h 0 (List.mem_range.2 hi)
    simp only [riseAt, Bool.and_eq_true] at this
    have := jcd.1 this.1
    simp at this ⊢; omega
  | succ i ih =>
    intro hi
    have a := ih (by omega)
    unfold riseB at h
    rw [List.all_eq_true] at h
    have b := h (i + 1) (List.mem_range.2 hi)
    simp only [riseAt, Bool.and_eq_true, Bool.or_eq_true, decide_eq_true_eq] at b
    have c := jcd.1 b.1
    rcases b.2 with e | e
    · omega
    · rw [show ((i + 1 : Nat) : Int) - 1 = (i : Int) by omega] at e
      omega
theorem ctxB_len {n : Int} {l : List Int} (hn : n ≤ 1000) (h : ctxB n l = true) : l.length ≤ 1000 ∧ allB l 0 1000 = true := by
  simp only [ctxB, Bool.and_eq_true] at h
  have hr := rise_lt h.2
  constructor
  · rcases Nat.eq_zero_or_pos l.length with e | e
    · omega
    · have := hr (l.length - 1) (by omega); omega
  · unfold allB
    rw [List.all_eq_true]
    intro x hx
    obtain ⟨i, hi, rfl⟩ := List.getElem_of_mem hx
    have := hr i hi
    rw [jbv hi] at this
    exact jcd.2 (by omega)
theorem newB_spec {bx by_ bwh : Int} {bll : List (List Int)} {ev : Int} {cc : List (List Int)} {ss : List Int} (h : newB bx by_ bwh bll ev cc ss = true) : NewOK bx by_ bwh bll ev cc ss := by
  simp only [newB, Bool.and_eq_true] at h
  have b := jbj h.1
  have s := jbo h.2
  have m := jcq (jbn.2 ⟨⟨b.x1, b.x3⟩, b.y1, b.y3⟩)
  have hl := b.len
  have c : ∀ r ∈ cc, r.length ≤ 1000 ∧ allB r 0 1000 = true := fun r hr => by
    obtain ⟨i, hi, rfl⟩ := List.getElem_of_mem hr
    exact ctxB_len (by have := s.e12; omega) (s.ctx i hi)
  refine ⟨b.x1, b.x3, b.y1, b.y3, s.e0, s.e12, by omega, fun r hr => ?_, s.c10, fun r hr => by have := (c r hr).1; omega, fun r hr => (c r hr).2, by have := s.sl; have := s.c10; omega⟩
  obtain ⟨i, hi, rfl⟩ := List.getElem_of_mem hr
  have := (row4B_len (b.row i hi)).1
  omega
theorem len_le_cnt : ∀ {cc : List (List Int)} {n m : Nat}, cc.length ≤ n → (∀ r ∈ cc, r.length ≤ m) → cnt cc ≤ n * m
  | [], _, _, _, _ => by simp [cnt]
  | r :: cc, 0, _, h, _ => by simp at h
  | r :: cc, n + 1, m, h, h2 => by
    have a := len_le_cnt (n := n) (m := m) (cc := cc) (by simpa using h) fun x hx => h2 x (List.mem_cons_of_mem _ hx)
    have b := h2 r (List.mem_cons_self ..)
    simp only [cnt, Nat.succ_mul]; omega
theorem newB_cnt (bx by_ bwh : Int) (bll : List (List Int)) (ev : Int) (cc : List (List Int)) (ss : List Int) :
    (cnt (whenL (newB bx by_ bwh bll ev cc ss) bll) ≤ cnt bll ∧ (whenA (newB bx by_ bwh bll ev cc ss) (zerosL (bx + by_).toNat)).length ≤ 6) ∧ (cnt (whenL (newB bx by_ bwh bll ev cc ss) cc) ≤ cnt cc ∧ (whenA (newB bx by_ bwh bll ev cc ss) ss).length ≤ ss.length) ∧ (whenA (newB bx by_ bwh bll ev cc ss) (zerosL ev.toNat)).length ≤ 12 := by
  refine ⟨⟨cnt_whenL _ _, ?_⟩, ⟨cnt_whenL _ _, whenA_len _ _⟩, ?_⟩
  · cases h : newB bx by_ bwh bll ev cc ss with
    | false => simp [whenA]
    | true => have := newB_spec h; have a := this.x3; have b := this.y3; simp [whenA]; omega
  · cases h : newB bx by_ bwh bll ev cc ss with
    | false => simp [whenA]
    | true => have := newB_spec h; have a := this.e12; simp [whenA]; omega
structure HallBd (bll : List (List Int)) (pl : List Int) (cc : List (List Int)) (ss nu : List Int) : Prop where
  bl : bll.length ≤ 9
  br : ∀ r ∈ bll, r.length ≤ 1000000
  cl : cc.length ≤ 10
  cr : ∀ r ∈ cc, r.length ≤ 1000000
  cb : ∀ r ∈ cc, allB r 0 1000 = true
  sl : ss.length ≤ 10
  pl6 : pl.length ≤ 6
  nl : nu.length ≤ 12
theorem hallB_bd {bx by_ bwh : Int} {bll : List (List Int)} {pl : List Int} {ev : Int} {cc : List (List Int)} {ss nu : List Int} {co : Int} (h : hallB bx by_ bwh bll pl ev cc ss nu co = true) : HallBd bll pl cc ss nu := by
  have hH := jcz h
  have hN := newB_spec (bx := bx) (by_ := by_) (bwh := bwh) (bll := bll) (ev := ev) (cc := cc) (ss := ss) (by simp [newB, hH.box, hH.sc])
  have a := jbk hH.pl
  have b := jbk hH.nu
  have x3 := hN.x3; have y3 := hN.y3; have e12 := hN.e12
  exact ⟨hN.bl, hN.br, hN.cl, hN.cr, hN.cb, hN.sl, by omega, by omega⟩
end Go.Proofs.YtpflmajlafpmcaaGreat

namespace Go.Proofs.YtpflmajlafpmcaaGreat
open Go.RowKit
set_option linter.unusedSectionVars false
variable [Glb]
open Go
/-! the calls of a hall -/
theorem box_at {x y : Nat} {n : Int} {ll : List (List Int)} (h : boxB x y n ll = true) {i k : Nat} (hi : i < x) (hk : k < y) : (∀ p : Nat, p < 4 → 0 ≤ atB ll y i k p ∧ atB ll y i k p ≤ n) ∧ atB ll y i k ((0 : Nat) : Int) + atB ll y i k ((1 : Nat) : Int) + atB ll y i k ((2 : Nat) : Int) + atB ll y i k ((3 : Nat) : Int) = n := by
  have ix := idx_lt (i := (i : Int)) (k := (k : Int)) (X := x) (Y := y) (by omega) (by omega) (by omega) (by omega)
  exact ⟨fun p hp => (boxB_at h ix.1 ix.2.1).2 p (by omega) (by omega), by have := box4 h ix.1 ix.2.1; unfold atB; simpa using this⟩
theorem box_nat {X Y n : Int} {ll : List (List Int)} (h : boxB X Y n ll = true) : ∃ x y : Nat, X = x ∧ Y = y ∧ (1 ≤ x ∧ x ≤ 3) ∧ (1 ≤ y ∧ y ≤ 3) := by
  have b := jbj h
  have a1 := b.x1; have a2 := b.x3; have a3 := b.y1; have a4 := b.y3
  exact ⟨X.toNat, Y.toNat, by omega, by omega, by omega, by omega⟩
/-- the sum of two boxes -/
def bmixF (la lb : List (List Int)) (Y : Nat) (i k p : Nat) : Int := atB la Y i k p + atB lb Y i k p
def bmixL (la lb : List (List Int)) (X Y : Int) : List (List Int) := boxF (bmixF la lb Y.toNat) Y.toNat (Y.toNat * X.toNat)
def sameB (x y n : Int) (la : List (List Int)) (x2 y2 m : Int) (lb : List (List Int)) : Bool := boxB x y n la && (boxB x2 y2 m lb && (decide (x = x2) && decide (y = y2)))
def bmixB (x y n : Int) (la : List (List Int)) (x2 y2 m : Int) (lb : List (List Int)) : Bool := sameB x y n la x2 y2 m lb && decide (n + m ≤ 1000)
theorem sameB_spec {x y n : Int} {la : List (List Int)} {x2 y2 m : Int} {lb : List (List Int)} (h : sameB x y n la x2 y2 m lb = true) : boxB x y n la = true ∧ boxB x y m lb = true ∧ x2 = x ∧ y2 = y := by
  simp only [sameB, Bool.and_eq_true, decide_eq_true_eq] at h
  obtain ⟨h1, h2, rfl, rfl⟩ := h
  exact ⟨h1, h2, rfl, rfl⟩
theorem mix_box {x y : Nat} {n m : Int} {la lb : List (List Int)} (ha : boxB x y n la = true) (hb : boxB x y m lb = true) : boxB x y (n + m) (bmixL la lb x y) = decide (n + m ≤ 1000) := by
  have a := jbj ha; have b := jbj hb
  have a1 := a.x1; have a2 := a.x3; have a3 := a.y1; have a4 := a.y3; have a5 := a.n1; have a6 := a.n2; have b5 := b.n1; have b6 := b.n2
  unfold bmixL
  simp only [Int.toNat_natCast]
  refine rows_box (by omega) (by omega) (by omega) (by omega) fun i k hi hk => ?_
  obtain ⟨a7, a8⟩ := box_at ha hi hk
  obtain ⟨b7, b8⟩ := box_at hb hi hk
  exact ⟨fun p hp => by have := a7 p hp; have := b7 p hp; unfold bmixF; omega, by unfold bmixF; omega⟩
/-- the box of a play -/
def playF (pl : List Int) (X : Nat) (wh : Int) (i k p : Nat) : Int := if atZ pl i = ((p / 2 : Nat) : Int) ∧ atZ pl ((X : Int) + k) = ((p % 2 : Nat) : Int) then wh else 0
def playL (pl : List Int) (X Y wh : Int) : List (List Int) := boxF (playF pl X.toNat wh) Y.toNat (Y.toNat * X.toNat)
def playB (x y : Int) (pl : List Int) (wh : Int) : Bool := sizeB x y && (bitsB pl (x + y) && inB wh 1 1000)
/-- the box with the players swapped -/
def swapF (ll : List (List Int)) (Y : Nat) (i k p : Nat) : Int := atB ll Y k i ((2 * (p % 2) + p / 2 : Nat) : Int)
def swapL (ll : List (List Int)) (X Y : Int) : List (List Int) := boxF (swapF ll Y.toNat) X.toNat (X.toNat * Y.toNat)
/-- the box with flipped answers -/
def bflF (ll : List (List Int)) (X Y : Nat) (fl : List Int) (i k p : Nat) : Int := atB ll Y i k (xor4 p (flipOf fl X i k))
def bflL (ll : List (List Int)) (X Y : Int) (fl : List Int) : List (List Int) := boxF (bflF ll X.toNat Y.toNat fl) Y.toNat (Y.toNat * X.toNat)
/-- the box with the least numbers -/
def gcdI (a b : Int) : Int := ((Nat.gcd a.toNat b.toNat : Nat) : Int)
def gcdR (d : Int) (row : List Int) : Int := row.foldl gcdI d
def gcdL (d : Int) (ll : List (List Int)) : Int := ll.foldl gcdR d
theorem gcdI_pos {a b : Int} (ha : 1 ≤ a) : 1 ≤ gcdI a b ∧ gcdI a b ≤ a := by
  have h1 : 0 < Nat.gcd a.toNat b.toNat := Nat.gcd_pos_of_pos_left _ (by omega)
  have h2 : Nat.gcd a.toNat b.toNat ≤ a.toNat := Nat.gcd_le_left _ (by omega)
  unfold gcdI; omega
theorem gcdR_pos : ∀ {row : List Int} {d : Int}, 1 ≤ d → 1 ≤ gcdR d row ∧ gcdR d row ≤ d
  | [], d, h => ⟨h, Int.le_refl _⟩
  | x :: row, d, h => by
    have a := gcdI_pos (b := x) h
    have b := gcdR_pos (row := row) a.1
    unfold gcdR at *
    rw [List.foldl_cons]; omega
theorem gcdL_pos : ∀ {ll : List (List Int)} {d : Int}, 1 ≤ d → 1 ≤ gcdL d ll ∧ gcdL d ll ≤ d
  | [], d, h => ⟨h, Int.le_refl _⟩
  | x :: ll, d, h => by
    have a := gcdR_pos (row := x) h
    have b := gcdL_pos (ll := ll) a.1
    unfold gcdL at *
    rw [List.foldl_cons]; omega
theorem gcdR_snoc {row : List Int} {d : Int} {k : Nat} (h : k < row.length) : gcdR d (row.take (k + 1)) = gcdI (gcdR d (row.take k)) (atZ row k) := by
  unfold gcdR; rw [List.take_succ_eq_append_getElem h, List.foldl_append, jbv h]; rfl
theorem gcdL_snoc {ll : List (List Int)} {d : Int} {k : Nat} (h : k < ll.length) : gcdL d (ll.take (k + 1)) = gcdR (gcdL d (ll.take k)) (atZ ll k) := by
  unfold gcdL; rw [List.take_succ_eq_append_getElem h, List.foldl_append, jbv h]; rfl
theorem gcd_step {a b : Int} (ha : 0 ≤ a) (hb : 1 ≤ b) : gcdI b (a % b) = gcdI a b := by
  have h0 := Int.emod_nonneg a (show b ≠ 0 by omega)
  have e : (a % b).toNat = a.toNat % b.toNat := by
    have h1 := Int.toNat_of_nonneg ha
    have h2 := Int.toNat_of_nonneg (show 0 ≤ b by omega)
    have : (a % b) = ((a.toNat % b.toNat : Nat) : Int) := by rw [Int.natCast_emod, h1, h2]
    omega
  unfold gcdI
  rw [e, Nat.gcd_comm a.toNat b.toNat, Nat.gcd_rec b.toNat a.toNat, Nat.gcd_comm]
theorem gcd_zero {a : Int} (ha : 0 ≤ a) : gcdI a 0 = a := by
  unfold gcdI; simp; omega
def redF (ll : List (List Int)) (Y : Nat) (d : Int) (i k p : Nat) : Int := atB ll Y i k p / d
def redL (ll : List (List Int)) (X Y : Int) (d : Int) : List (List Int) := boxF (redF ll Y.toNat d) Y.toNat (Y.toNat * X.toNat)
/-- the sums of a scene with an event flipped -/
def evF (cc : List (List Int)) (ss : List Int) (e : Int) (i : Nat) : Int := if (atZ cc (i : Int)).contains e = true then 1 - atZ ss i else atZ ss i
def evL (cc : List (List Int)) (ss : List Int) (e : Int) : List Int := rowF (evF cc ss e) ss.length
theorem xor_pair {p : Nat} {f g : Int} (hp : p < 4) (hf : 0 ≤ f ∧ f ≤ 1) (hg : 0 ≤ g ∧ g ≤ 1) : ((0 ≤ bits .xor .i64 ((p / 2 : Nat) : Int) f ∧ bits .xor .i64 ((p / 2 : Nat) : Int) f ≤ 1) ∧ 0 ≤ bits .xor .i64 ((p % 2 : Nat) : Int) g ∧ bits .xor .i64 ((p % 2 : Nat) : Int) g ≤ 1) ∧
    2 * bits .xor .i64 ((p / 2 : Nat) : Int) f + bits .xor .i64 ((p % 2 : Nat) : Int) g = xor4 p (2 * f + g) := by
  rcases (by omega : p = 0 ∨ p = 1 ∨ p = 2 ∨ p = 3) with rfl | rfl | rfl | rfl <;> rcases (by omega : f = 0 ∨ f = 1) with rfl | rfl <;> rcases (by omega : g = 0 ∨ g = 1) with rfl | rfl <;> exact ⟨by decide, rfl⟩
/-- the sums of which the first k are done -/
def evM (cc : List (List Int)) (ss : List Int) (e : Int) (k : Nat) : List Int := rowF (fun j => if j < k then evF cc ss e j else atZ ss (j : Int)) ss.length
theorem evM_zero (cc : List (List Int)) (ss : List Int) (e : Int) : evM cc ss e 0 = ss := by
  apply List.ext_getElem
  · simp [evM]
  · intro i h1 h2
    simp [evM, rowF, jbv h2]
theorem evM_all (cc : List (List Int)) (ss : List Int) (e : Int) : evM cc ss e ss.length = evL cc ss e := by
  unfold evM evL
  exact rowF_congr fun k hk => if_pos hk
@[simp] theorem evM_len (cc : List (List Int)) (ss : List Int) (e : Int) (k : Nat) : (evM cc ss e k).length = ss.length := by simp [evM]
@[simp] theorem evL_len (cc : List (List Int)) (ss : List Int) (e : Int) : (evL cc ss e).length = ss.length := by simp [evL]
theorem evM_at (cc : List (List Int)) (ss : List Int) (e : Int) {k : Nat} (h : k < ss.length) : atZ (evM cc ss e k) (k : Int) = atZ ss (k : Int) := by
  rw [jbv (by simpa using h)]; simp [evM, rowF]
theorem evM_hit {cc : List (List Int)} {ss : List Int} {e : Int} {k : Nat} (h : k < ss.length) (hc : (atZ cc (k : Int)).contains e = true) : (evM cc ss e k).set k (1 - atZ ss (k : Int)) = evM cc ss e (k + 1) := by
  apply List.ext_getElem
  · simp
  · intro i h1 h2
    rw [List.getElem_set]
    simp only [evM, rowF, List.getElem_map, List.getElem_range]
    by_cases hi : k = i
    · subst hi; rw [if_pos rfl, if_pos (by omega), evF, if_pos hc]
    · rw [if_neg hi]
      by_cases h3 : i < k
      · rw [if_pos h3, if_pos (by omega)]
      · rw [if_neg h3, if_neg (by omega)]
theorem evM_miss {cc : List (List Int)} {ss : List Int} {e : Int} {k : Nat} (hc : ¬ (atZ cc (k : Int)).contains e = true) : evM cc ss e k = evM cc ss e (k + 1) := by
  unfold evM
  refine rowF_congr fun i hi => ?_
  by_cases h3 : i < k
  · rw [if_pos h3, if_pos (by omega)]
  · rw [if_neg h3]
    by_cases h4 : i = k
    · subst h4; rw [if_pos (by omega), evF, if_neg hc]
    · rw [if_neg (by omega)]
theorem emod_bd0 {x n : Int} (hx : 0 ≤ x) (hn : 0 < n) : 0 ≤ x % n ∧ x % n < n ∧ x % n ≤ x := by
  refine ⟨Int.emod_nonneg _ (by omega), Int.emod_lt_of_pos _ (by omega), ?_⟩
  have h1 := Int.emod_add_mul_ediv x n
  have h2 : 0 ≤ n * (x / n) := Int.mul_nonneg (by omega) (Int.ediv_nonneg hx (by omega))
  omega
/-! halls as data -/
structure HD where
  bx : Int
  by_ : Int
  bwh : Int
  bll : List (List Int)
  pl : List Int
  ev : Int
  cc : List (List Int)
  ss : List Int
  nu : List Int
  co : Int
structure HV (h : HD) : Prop where
  box : boxB h.bx h.by_ h.bwh h.bll = true
  pl : bitsB h.pl (h.bx + h.by_) = true
  sc : sceneB h.ev h.cc h.ss = true
  nu : bitsB h.nu h.ev = true
/-- 1 at one place -/
def oneL (n : Nat) (a : Int) : List Int := (List.replicate n (0 : Int)).set a.toNat 1
@[simp] theorem oneL_len (n : Nat) (a : Int) : (oneL n a).length = n := by simp [oneL]
theorem oneL_bits (n : Nat) (a : Int) : bitsB (oneL n a) n = true := by
  simp only [bitsB, oneL_len, decide_true, Bool.true_and, allB, List.all_eq_true]
  intro x hx
  unfold oneL at hx
  rcases List.mem_or_eq_of_mem_set hx with h | h
  · have := List.eq_of_mem_replicate h; subst this; decide
  · subst h; decide
theorem xor_one {v : Int} (h : 0 ≤ v ∧ v ≤ 1) : bits .xor .i64 v 1 = 1 - v := by
  rcases (by omega : v = 0 ∨ v = 1) with rfl | rfl <;> rfl
def mixOK (h : HD) (a : Int) : Bool := playB h.bx h.by_ h.pl a && bmixB h.bx h.by_ h.bwh h.bll h.bx h.by_ a (playL h.pl h.bx h.by_ a)
def callT (h : HD) (k a : Int) : Option HD :=
  if k = 1 then if mixOK h a = true then some { h with bwh := h.bwh + a, bll := bmixL h.bll (playL h.pl h.bx h.by_ a) h.bx h.by_ } else none
  else if k = 2 then if inB a 0 (h.pl.length - 1) = true then some { h with pl := h.pl.set a.toNat (1 - atZ h.pl a) } else none
  else if k = 3 then if inB a 0 (h.pl.length - 1) = true then some { h with bll := bflL h.bll h.bx h.by_ (oneL h.pl.length a) } else none
  else if k = 4 then if a = 0 then some { h with bx := h.by_, by_ := h.bx, bll := swapL h.bll h.bx h.by_, pl := partZ h.pl h.bx h.pl.length ++ partZ h.pl 0 h.bx } else none
  else if k = 5 then if a = 0 then some { h with bwh := h.bwh / gcdL h.bwh h.bll, bll := redL h.bll h.bx h.by_ (gcdL h.bwh h.bll) } else none
  else if k = 6 then if inB a 0 (h.nu.length - 1) = true then some { h with nu := h.nu.set a.toNat (1 - atZ h.nu a) } else none
  else if k = 7 then if inB a 0 (h.ev - 1) = true then some { h with ss := evL h.cc h.ss a } else none
  else none
/-! rows told one by one -/
def rowsF (g : Nat → Nat → Int) (n : Nat) : List (List Int) := (List.range n).map fun j => rowF (g j) 4
@[simp] theorem rowsF_len (g : Nat → Nat → Int) (n : Nat) : (rowsF g n).length = n := by simp [rowsF]
theorem rowsF_snoc (g : Nat → Nat → Int) (n : Nat) : rowsF g (n + 1) = rowsF g n ++ [rowF (g n) 4] := by simp [rowsF, List.range_succ]
theorem boxF_rows {f : Nat → Nat → Nat → Int} {g : Nat → Nat → Int} {y n : Nat} (h : ∀ j p, j < n → p < 4 → f (j / y) (j % y) p = g j p) : boxF f y n = rowsF g n := by
  unfold boxF rowsF
  exact List.map_congr_left fun j hj => rowF_congr fun p hp => h j p (List.mem_range.1 hj) hp
theorem atB_row (ll : List (List Int)) (y j : Nat) (p : Int) : atB ll y ((j / y : Nat) : Int) ((j % y : Nat) : Int) p = atZ (atZ ll (j : Int)) p := by
  unfold atB
  have : ((j / y : Nat) : Int) * (y : Int) + ((j % y : Nat) : Int) = (j : Int) := by
    have := Nat.div_add_mod j y
    rw [← Int.natCast_mul, ← Int.natCast_add, Nat.mul_comm, this]
  rw [this]
def mixR (la lb : List (List Int)) (j p : Nat) : Int := atZ (atZ la (j : Int)) (p : Int) + atZ (atZ lb (j : Int)) (p : Int)
theorem bmixL_rows {x y : Nat} (la lb : List (List Int)) : bmixL la lb x y = rowsF (mixR la lb) (y * x) := by
  unfold bmixL
  simp only [Int.toNat_natCast]
  exact boxF_rows fun j p _ _ => by unfold bmixF mixR; rw [atB_row, atB_row]
def redR (ll : List (List Int)) (d : Int) (j p : Nat) : Int := atZ (atZ ll (j : Int)) (p : Int) / d
theorem redL_rows {x y : Nat} (ll : List (List Int)) (d : Int) : redL ll x y d = rowsF (redR ll d) (y * x) := by
  unfold redL
  simp only [Int.toNat_natCast]
  exact boxF_rows fun j p _ _ => by unfold redF redR; rw [atB_row]
/-- a row with flipped answers, on the way -/
def flM (row : List Int) (m : Int) (k : Nat) : List Int := rowF (fun j => if (xor4 j m).toNat < k then atZ row (xor4 j m) else 0) 4
@[simp] theorem flM_len (row : List Int) (m : Int) (k : Nat) : (flM row m k).length = 4 := by simp [flM]
theorem flM_zero (row : List Int) (m : Int) : flM row m 0 = List.replicate 4 0 := by simp [flM, rowF, List.range, List.range.loop]
theorem flM_set {row : List Int} {m : Int} {k : Nat} (hm : 0 ≤ m ∧ m < 4) (hk : k < 4) : (flM row m k).set (xor4 k m).toNat (atZ row k) = flM row m (k + 1) := by
  rcases (by omega : k = 0 ∨ k = 1 ∨ k = 2 ∨ k = 3) with rfl | rfl | rfl | rfl <;> rcases (by omega : m = 0 ∨ m = 1 ∨ m = 2 ∨ m = 3) with rfl | rfl | rfl | rfl <;> rfl
theorem flM_all (row : List Int) {m : Int} (hm : 0 ≤ m ∧ m < 4) : flM row m 4 = rowF (fun j => atZ row (xor4 j m)) 4 := by
  unfold flM
  refine rowF_congr fun j hj => if_pos ?_
  have := (xor4_eq hj hm.1 hm.2).2
  omega
theorem play_row {f g wh : Int} (hf : 0 ≤ f ∧ f ≤ 1) (hg : 0 ≤ g ∧ g ≤ 1) : (List.replicate 4 (0 : Int)).set (2 * f + g).toNat wh = rowF (fun p => if f = ((p / 2 : Nat) : Int) ∧ g = ((p % 2 : Nat) : Int) then wh else 0) 4 := by
  rcases (by omega : f = 0 ∨ f = 1) with rfl | rfl <;> rcases (by omega : g = 0 ∨ g = 1) with rfl | rfl <;> simp [rowF, List.range, List.range.loop]

end Go.Proofs.YtpflmajlafpmcaaGreat

namespace Go.Proofs.YtpflmajlafpmcaaGreat
open Go.RowKit
set_option linter.unusedSectionVars false
variable [Glb]
open Go
def zeroH : HD := ⟨0, 0, 0, [], [], 0, [], [], [], 0⟩
def nextT (h : HD) (k a : Int) : HD × Bool := match callT h k a with
  | some r => if hallB r.bx r.by_ r.bwh r.bll r.pl r.ev r.cc r.ss r.nu (h.co + 1) = true then ({ r with co := h.co + 1 }, true) else (zeroH, false)
  | none => (zeroH, false)
def nextH (h : HD) (k a : Int) : HD × Bool := if hallB h.bx h.by_ h.bwh h.bll h.pl h.ev h.cc h.ss h.nu h.co = true then nextT h k a else (zeroH, false)
theorem callT_co (h : HD) (c k a : Int) : callT { h with co := c } k a = (callT h k a).map fun r => { r with co := c } := by
  simp only [callT, apply_ite (Option.map _), Option.map_some, Option.map_none]
  rfl
structure NextOK (r : HD) (ok : Bool) : Prop where
  val : ok = true → hallB r.bx r.by_ r.bwh r.bll r.pl r.ev r.cc r.ss r.nu r.co = true
  zero : ok = false → r = zeroH
theorem nextT_ok (h : HD) (k a : Int) : NextOK (nextT h k a).1 (nextT h k a).2 := by
  unfold nextT
  cases callT h k a with
  | none => exact ⟨fun h => by simp at h, fun _ => rfl⟩
  | some r =>
    simp only
    by_cases hB : hallB r.bx r.by_ r.bwh r.bll r.pl r.ev r.cc r.ss r.nu (h.co + 1) = true
    · rw [if_pos hB]; exact ⟨fun _ => hB, fun h => by simp at h⟩
    · rw [if_neg hB]; exact ⟨fun h => by simp at h, fun _ => rfl⟩
theorem hallB_cnt {bx by_ bwh : Int} {bll : List (List Int)} {pl : List Int} {ev : Int} {cc : List (List Int)} {ss nu : List Int} {co : Int} (h : hallB bx by_ bwh bll pl ev cc ss nu co = true) :
    cnt bll ≤ 9000 ∧ pl.length ≤ 6 ∧ cnt cc ≤ 10000 ∧ ss.length ≤ 10 ∧ nu.length ≤ 12 ∧ bll.length ≤ 9 ∧ cc.length ≤ 10 := by
  have d := hallB_bd h
  have hH := jcz h
  have s := jbo hH.sc
  have b := jbj hH.box
  refine ⟨len_le_cnt (m := 1000) d.bl fun r hr => ?_, d.pl6, len_le_cnt (m := 1000) d.cl fun r hr => ?_, d.sl, d.nl, d.bl, d.cl⟩
  · obtain ⟨i, hi, rfl⟩ := List.getElem_of_mem hr
    have := (row4B_len (b.row i hi)).1
    omega
  · obtain ⟨i, hi, rfl⟩ := List.getElem_of_mem hr
    exact (ctxB_len (by have := s.e12; omega) (s.ctx i hi)).1
theorem hallB_hv {bx by_ bwh : Int} {bll : List (List Int)} {pl : List Int} {ev : Int} {cc : List (List Int)} {ss nu : List Int} {co : Int} (h : hallB bx by_ bwh bll pl ev cc ss nu co = true) (c : Int) : HV ⟨bx, by_, bwh, bll, pl, ev, cc, ss, nu, c⟩ :=
  have hH := jcz h
  ⟨hH.box, hH.pl, hH.sc, hH.nu⟩

end Go.Proofs.YtpflmajlafpmcaaGreat

namespace Go.Proofs.YtpflmajlafpmcaaGreat
open Go.RowKit
set_option linter.unusedSectionVars false
variable [Glb]
open Go Go.RowKit
/-! lists of structs -/
section
variable {α : Type} {c : α → List D} {n : Nat}
end
/-! marks -/
def mkS {α : Type} (m : Int → α → α) (w : α → Nat) : Int → List α → List α
  | _, [] => []
  | k, r :: l => m k r :: mkS m w (k + w r) l
section
variable {α : Type} {m : Int → α → α} {w : α → Nat}
@[simp] theorem mkS_len : ∀ (k : Int) (l : List α), (mkS m w k l).length = l.length
  | _, [] => rfl
  | k, r :: l => by simp [mkS, mkS_len]
end
/-! calls, rules -/
abbrev RuleE := List Int × List (List Int) × List (List Int) × Unit
end Go.Proofs.YtpflmajlafpmcaaGreat

namespace Go.Proofs.YtpflmajlafpmcaaGreat
open Go.RowKit
set_option linter.unusedSectionVars false
variable [Glb]
open Go
/-! many calls: the hall behind the first ones that are possible, and how many these are -/
end Go.Proofs.YtpflmajlafpmcaaGreat

namespace Go.Proofs.YtpflmajlafpmcaaGreat
open Go.RowKit
set_option linter.unusedSectionVars false
variable [Glb]
open Go
/-! more boxes: plays, flips, multiples, noise, the sum box of any size -/
theorem play_box {x y : Nat} {pl : List Int} {wh : Int} (hx : 1 ≤ x ∧ x ≤ 3) (hy : 1 ≤ y ∧ y ≤ 3) (hp : bitsB pl ((x : Int) + y) = true) (hw : 1 ≤ wh ∧ wh ≤ 1000) : boxB x y wh (playL pl x y wh) = true := by
  unfold playL
  simp only [Int.toNat_natCast]
  rw [rows_box hx hy hw.1 (by omega), decide_eq_true hw.2]
  intro i k hi hk
  have f1 := jck hp (i := (i : Int)) (by omega) (by omega)
  have f2 := jck hp (i := (x : Int) + k) (by omega) (by omega)
  unfold playF
  refine ⟨fun p hp => by split <;> omega, ?_⟩
  generalize atZ pl (i : Int) = f at *
  generalize atZ pl ((x : Int) + k) = g at *
  rcases (by omega : f = 0 ∨ f = 1) with rfl | rfl <;> rcases (by omega : g = 0 ∨ g = 1) with rfl | rfl <;> simp
theorem flip_box {x y : Nat} {n : Int} {ll : List (List Int)} {fl : List Int} (hb : boxB x y n ll = true) (hf : bitsB fl ((x : Int) + y) = true) : boxB x y n (bflL ll x y fl) = true := by
  have b := jbj hb
  have a1 := b.x1; have a2 := b.x3; have a3 := b.y1; have a4 := b.y3; have a5 := b.n1; have a6 := b.n2
  unfold bflL
  simp only [Int.toNat_natCast]
  rw [rows_box (by omega) (by omega) (by omega) (by omega), decide_eq_true (by omega)]
  intro i k hi hk
  obtain ⟨b7, b8⟩ := box_at hb hi hk
  have f1 := jck hf (i := (i : Int)) (by omega) (by omega)
  have f2 := jck hf (i := (x : Int) + k) (by omega) (by omega)
  have hm : 0 ≤ flipOf fl x i k ∧ flipOf fl x i k < 4 := by unfold flipOf; omega
  unfold bflF
  generalize flipOf fl (x : Int) (i : Int) (k : Int) = m at *
  refine ⟨fun p hp => ?_, ?_⟩
  · have x4 := xor4_eq hp hm.1 hm.2
    obtain ⟨t, ht⟩ := Int.eq_ofNat_of_zero_le x4.2.1
    rw [ht] at x4 ⊢
    exact (b7 t (by omega)).1
  · have e : ∀ p : Nat, xor4 p m = ((p ^^^ m.toNat : Nat) : Int) := fun p => rfl
    rw [e, e, e, e]
    rcases (by omega : m = 0 ∨ m = 1 ∨ m = 2 ∨ m = 3) with rfl | rfl | rfl | rfl
    · simpa using b8
    · have c : ((0 ^^^ (1 : Int).toNat : Nat) : Int) = ((1 : Nat) : Int) ∧ ((1 ^^^ (1 : Int).toNat : Nat) : Int) = ((0 : Nat) : Int) ∧ ((2 ^^^ (1 : Int).toNat : Nat) : Int) = ((3 : Nat) : Int) ∧ ((3 ^^^ (1 : Int).toNat : Nat) : Int) = ((2 : Nat) : Int) := by decide
      rw [c.1, c.2.1, c.2.2.1, c.2.2.2]; omega
    · have c : ((0 ^^^ (2 : Int).toNat : Nat) : Int) = ((2 : Nat) : Int) ∧ ((1 ^^^ (2 : Int).toNat : Nat) : Int) = ((3 : Nat) : Int) ∧ ((2 ^^^ (2 : Int).toNat : Nat) : Int) = ((0 : Nat) : Int) ∧ ((3 ^^^ (2 : Int).toNat : Nat) : Int) = ((1 : Nat) : Int) := by decide
      rw [c.1, c.2.1, c.2.2.1, c.2.2.2]; omega
    · have c : ((0 ^^^ (3 : Int).toNat : Nat) : Int) = ((3 : Nat) : Int) ∧ ((1 ^^^ (3 : Int).toNat : Nat) : Int) = ((2 : Nat) : Int) ∧ ((2 ^^^ (3 : Int).toNat : Nat) : Int) = ((1 : Nat) : Int) ∧ ((3 ^^^ (3 : Int).toNat : Nat) : Int) = ((0 : Nat) : Int) := by decide
      rw [c.1, c.2.1, c.2.2.1, c.2.2.2]; omega
/-- the sum box of any size -/
def oddR (n i : Nat) : List Int := if i + 1 = n then [0, 1, 1, 0] else [1, 0, 0, 1]
def oddL (n i : Nat) : List (List Int) := (List.range i).map (oddR n)
@[simp] theorem oddL_len (n i : Nat) : (oddL n i).length = i := by simp [oddL]
theorem oddL_snoc (n i : Nat) : oddL n (i + 1) = oddL n i ++ [oddR n i] := by simp [oddL, List.range_succ]
theorem odd_box {x y : Nat} (hx : 1 ≤ x ∧ x ≤ 3) (hy : 1 ≤ y ∧ y ≤ 3) : boxB x y 2 (oddL (x * y) (x * y)) = true := by
  rcases (by omega : x = 1 ∨ x = 2 ∨ x = 3) with rfl | rfl | rfl <;> rcases (by omega : y = 1 ∨ y = 2 ∨ y = 3) with rfl | rfl | rfl <;> decide
/-- noise -/
def noiL (i : Nat) : List (List Int) := List.replicate i [1, 1, 1, 1]
theorem noi_box {x y : Nat} (hx : 1 ≤ x ∧ x ≤ 3) (hy : 1 ≤ y ∧ y ≤ 3) : boxB x y 4 (noiL (x * y)) = true := by
  rcases (by omega : x = 1 ∨ x = 2 ∨ x = 3) with rfl | rfl | rfl <;> rcases (by omega : y = 1 ∨ y = 2 ∨ y = 3) with rfl | rfl | rfl <;> decide
end Go.Proofs.YtpflmajlafpmcaaGreat

namespace Go.Proofs.YtpflmajlafpmcaaGreat
open Go.RowKit
set_option linter.unusedSectionVars false
variable [Glb]
open Go
/-! quiet boxes of two questions each, boxes that are alike -/
end Go.Proofs.YtpflmajlafpmcaaGreat

namespace Go.Proofs.YtpflmajlafpmcaaGreat
open Go.RowKit
set_option linter.unusedSectionVars false
variable [Glb]
open Go
/-! calls that undo themselves, reduced boxes -/
/-! the least numbers -/
end Go.Proofs.YtpflmajlafpmcaaGreat

namespace Go.Proofs.YtpflmajlafpmcaaGreat
open Go.RowKit
set_option linter.unusedSectionVars false
variable [Glb]
open Go
/-! contexts that are kept -/
def pop11 (m : Nat) : Nat := m % 2 + m / 2 % 2 + m / 4 % 2 + m / 8 % 2 + m / 16 % 2 + m / 32 % 2 + m / 64 % 2 + m / 128 % 2 + m / 256 % 2 + m / 512 % 2 + m / 1024 % 2
def pop (n : Nat) : Nat := n % 2 + pop11 (n / 2)
def maskK (l : List Int) : Nat → Nat
  | 0 => 0
  | k + 1 => maskK l k ||| 2 ^ (atZ l (k : Int)).toNat
def setK (nu : List Int) : Nat → Nat
  | 0 => 0
  | k + 1 => setK nu k ||| (atZ nu (k : Int)).toNat * 2 ^ k
theorem or12 {a b : Nat} (ha : a < 4096) (hb : b < 4096) : a ||| b < 4096 := Nat.or_lt_two_pow (n := 12) ha hb
theorem pow12 {e : Nat} (h : e < 12) : 2 ^ e < 4096 := Nat.pow_lt_pow_right (by omega) h
theorem maskK_lt {l : List Int} : ∀ {k : Nat}, (∀ j : Nat, j < k → 0 ≤ atZ l (j : Int) ∧ atZ l (j : Int) < 12) → maskK l k < 4096
  | 0, _ => by simp [maskK]
  | k + 1, h => by
    have := h k (by omega)
    exact or12 (maskK_lt fun j hj => h j (by omega)) (pow12 (by omega))
theorem setK_lt {nu : List Int} : ∀ {k : Nat}, k ≤ 12 → (∀ j : Nat, j < k → 0 ≤ atZ nu (j : Int) ∧ atZ nu (j : Int) ≤ 1) → setK nu k < 4096
  | 0, _, _ => by simp [setK]
  | k + 1, hk, h => by
    have hb := h k (by omega)
    refine or12 (setK_lt (by omega) fun j hj => h j (by omega)) ?_
    rcases (by omega : atZ nu (k : Int) = 0 ∨ atZ nu (k : Int) = 1) with e | e <;> rw [e]
    · simp
    · have := pow12 (e := k) (by omega); simpa using this
theorem or_mod2 (a b : Nat) : (a ||| b) % 2 = a % 2 ||| b % 2 := by have := Nat.or_mod_two_pow (a := a) (b := b) (n := 1); simpa using this
theorem and_mod2 (a b : Nat) : (a &&& b) % 2 = a % 2 &&& b % 2 := by have := Nat.and_mod_two_pow (a := a) (b := b) (n := 1); simpa using this
theorem setK_flip {nu : List Int} (h : 0 ≤ atZ nu 0 ∧ atZ nu 0 ≤ 1) (hl : 0 < nu.length) : ∀ {k : Nat}, 0 < k → setK (nu.set 0 (1 - atZ nu 0)) k / 2 = setK nu k / 2 ∧ setK (nu.set 0 (1 - atZ nu 0)) k % 2 + setK nu k % 2 = 1
  | 1, _ => by
    have e0 : atZ (nu.set 0 (1 - atZ nu 0)) ((0 : Nat) : Int) = 1 - atZ nu 0 := by
      rw [jbv (by simpa using hl)]; simp
    simp only [setK, e0, Nat.zero_or, Nat.pow_zero, Nat.mul_one]
    simp only [Int.natCast_zero]
    rcases (by omega : atZ nu 0 = 0 ∨ atZ nu 0 = 1) with e | e <;> rw [e] <;> decide
  | k + 2, _ => by
    have ih := setK_flip h hl (k := k + 1) (by omega)
    have e1 : atZ (nu.set 0 (1 - atZ nu 0)) ((k + 1 : Nat) : Int) = atZ nu ((k + 1 : Nat) : Int) := by
      unfold atZ
      simp only [Int.toNat_natCast]
      rw [List.getD_eq_getElem?_getD, List.getElem?_set_ne (by omega)]
      rfl
    have ev : ((atZ nu ((k + 1 : Nat) : Int)).toNat * 2 ^ (k + 1)) % 2 = 0 := by rw [Nat.pow_succ, ← Nat.mul_assoc]; exact Nat.mul_mod_left _ _
    show (setK (nu.set 0 (1 - atZ nu 0)) (k + 1) ||| (atZ (nu.set 0 (1 - atZ nu 0)) ((k + 1 : Nat) : Int)).toNat * 2 ^ (k + 1)) / 2 = (setK nu (k + 1) ||| (atZ nu ((k + 1 : Nat) : Int)).toNat * 2 ^ (k + 1)) / 2 ∧ (setK (nu.set 0 (1 - atZ nu 0)) (k + 1) ||| (atZ (nu.set 0 (1 - atZ nu 0)) ((k + 1 : Nat) : Int)).toNat * 2 ^ (k + 1)) % 2 + (setK nu (k + 1) ||| (atZ nu ((k + 1 : Nat) : Int)).toNat * 2 ^ (k + 1)) % 2 = 1
    rw [e1, Nat.or_div_two, Nat.or_div_two, or_mod2, or_mod2, ev, ih.1, Nat.or_zero, Nat.or_zero]
    exact ⟨rfl, ih.2⟩
theorem maskK_bit {l : List Int} : ∀ {k : Nat}, k ≤ l.length → (∀ j : Nat, j < k → 0 ≤ atZ l (j : Int)) → (maskK l k % 2 = 1 ↔ (0 : Int) ∈ l.take k)
  | 0, _, _ => by simp [maskK]
  | k + 1, hk, h => by
    have ih := maskK_bit (l := l) (k := k) (by omega) fun j hj => h j (by omega)
    have hb := h k (by omega)
    have e : l.take (k + 1) = l.take k ++ [l[k]] := List.take_succ_eq_append_getElem (by omega)
    have e2 : atZ l (k : Int) = l[k] := jbv (by omega)
    show ((maskK l k ||| 2 ^ (atZ l (k : Int)).toNat) % 2 = 1 ↔ _)
    rw [or_mod2, e, List.mem_append, List.mem_singleton, ← ih, ← e2]
    have ha : maskK l k % 2 < 2 := Nat.mod_lt _ (by omega)
    generalize maskK l k % 2 = a at ha ⊢
    by_cases z : atZ l (k : Int) = 0
    · rw [z]
      rcases (by omega : a = 0 ∨ a = 1) with rfl | rfl <;> decide
    · obtain ⟨m, hm⟩ : ∃ m, (atZ l (k : Int)).toNat = m + 1 := ⟨(atZ l (k : Int)).toNat - 1, by omega⟩
      rw [hm, Nat.pow_succ, Nat.mul_mod_left, Nat.or_zero]
      constructor
      · exact .inl
      · rintro (h | h)
        · exact h
        · exact absurd h.symm z
theorem pop_flip {m s s' : Nat} (h1 : s' / 2 = s / 2) (h2 : s' % 2 + s % 2 = 1) : (m % 2 = 1 → pop (m &&& s') % 2 + pop (m &&& s) % 2 = 1) ∧ (m % 2 = 0 → pop (m &&& s') % 2 = pop (m &&& s) % 2) := by
  unfold pop
  rw [Nat.and_div_two, Nat.and_div_two, h1, and_mod2, and_mod2]
  generalize pop11 (m / 2 &&& s / 2) = r
  constructor
  · intro hm
    rw [hm]
    rcases (by omega : s % 2 = 0 ∨ s % 2 = 1) with e | e
    · rw [e, show s' % 2 = 1 by omega]; simp; omega
    · rw [e, show s' % 2 = 0 by omega]; simp; omega
  · intro hm
    rw [hm]
    simp
def keepB (cc : List (List Int)) (ss nu : List Int) (i : Nat) : Bool := decide (((pop (maskK (atZ cc (i : Int)) (atZ cc (i : Int)).length &&& setK nu nu.length) : Nat) : Int) % 2 = atZ ss (i : Int))
def keptK (cc : List (List Int)) (ss nu : List Int) (k : Nat) : List Int := ((List.range k).filter (keepB cc ss nu)).map fun i : Nat => (i : Int)
theorem keptK_succ (cc : List (List Int)) (ss nu : List Int) (k : Nat) : keptK cc ss nu (k + 1) = if keepB cc ss nu k = true then keptK cc ss nu k ++ [(k : Int)] else keptK cc ss nu k := by
  unfold keptK
  rw [List.range_succ, List.filter_append, List.map_append]
  by_cases h : keepB cc ss nu k = true
  · simp [List.filter, h]
  · simp [List.filter, h]
theorem kept_len (cc : List (List Int)) (ss nu : List Int) (k : Nat) : (keptK cc ss nu k).length ≤ k := by
  unfold keptK
  rw [List.length_map]
  exact Nat.le_trans (List.length_filter_le _ _) (by simp)
theorem kept_flip {ev : Int} {cc : List (List Int)} {ss nu : List Int} (hs : sceneB ev cc ss = true) (hn : bitsB nu ev = true) (hl : 0 < nu.length) : keptK cc (evL cc ss 0) (nu.set 0 (1 - atZ nu 0)) cc.length = keptK cc ss nu cc.length := by
  have s := jbo hs
  unfold keptK
  congr 1
  refine List.filter_congr fun i hi => ?_
  have hi := List.mem_range.1 hi
  have n0 := jck hn (i := 0) (by omega) (by have := jbk hn; omega)
  have F := setK_flip n0 hl (k := nu.length) hl
  have ctx := s.ctx i hi
  have ctx' : ctxB ev (atZ cc (i : Int)) = true := by rw [jbv hi]; exact ctx
  simp only [ctxB, Bool.and_eq_true] at ctx'
  have rl := rise_lt ctx'.2
  have M := maskK_bit (l := atZ cc (i : Int)) (k := (atZ cc (i : Int)).length) (Nat.le_refl _) fun j hj => by have := rl j hj; omega
  have P := pop_flip (m := maskK (atZ cc (i : Int)) (atZ cc (i : Int)).length) F.1 F.2
  rw [List.take_length] at M
  have e : atZ (evL cc ss 0) (i : Int) = evF cc ss 0 i := by unfold evL; exact rowF_atZ _ (by have := s.sl; omega)
  unfold keepB
  rw [e, List.length_set]
  have b := jck s.sb (i := (i : Int)) (by omega) (by omega)
  unfold evF
  by_cases hc : (0 : Int) ∈ atZ cc (i : Int)
  · rw [if_pos (by simpa using hc)]
    have := P.1 (M.2 hc)
    rw [decide_eq_decide]
    omega
  · rw [if_neg (by simpa using hc)]
    have hm : maskK (atZ cc (i : Int)) (atZ cc (i : Int)).length % 2 = 0 := by
      have : ¬ maskK (atZ cc (i : Int)) (atZ cc (i : Int)).length % 2 = 1 := fun h => hc (M.1 h)
      omega
    have := P.2 hm
    rw [decide_eq_decide]
    omega
theorem ev_scene {ev : Int} {cc : List (List Int)} {ss : List Int} (e : Int) (hs : sceneB ev cc ss = true) : sceneB ev cc (evL cc ss e) = true := by
  have s := jbo hs
  simp only [sceneB, Bool.and_eq_true, decide_eq_true_eq] at hs ⊢
  refine ⟨hs.1, hs.2.1, ?_, hs.2.2.2⟩
  unfold bitsB allB
  simp only [Bool.and_eq_true, decide_eq_true_eq, List.all_eq_true, evL_len]
  refine ⟨by have := s.sl; omega, fun x hx => ?_⟩
  unfold evL rowF at hx
  obtain ⟨i, hi, rfl⟩ := List.mem_map.1 hx
  have hi := List.mem_range.1 hi
  have b := jck s.sb (i := (i : Int)) (by omega) (by have := s.sl; omega)
  unfold evF
  refine jcd.2 ?_
  split <;> omega

end Go.Proofs.YtpflmajlafpmcaaGreat

namespace Go.Proofs.YtpflmajlafpmcaaGreat
open Go.RowKit
open Go
/-! the box of two players of a trio -/
theorem accN_le2 (s : Nat → Nat) (v : Nat → Int) (M : Int) (hM : 0 ≤ M) : ∀ m p, (∀ t, t < m → v t ≤ M) → accN s v m p ≤ m * M
  | 0, _, _ => by simp [accN]
  | m + 1, p, h => by
    have := accN_le2 s v M hM m p fun t ht => h t (by omega)
    have := h m (by omega)
    simp only [accN, Int.natCast_add, Int.add_mul]; split <;> omega
end Go.Proofs.YtpflmajlafpmcaaGreat

namespace Go.Proofs.YtpflmajlafpmcaaGreat
open Go.RowKit
set_option linter.unusedSectionVars false
variable [Glb]
open Go
/-! mixtures of plays, and their chances -/
def mixPl (X Y j k i : Nat) : Nat := 2 * bitN i (X + Y - 1 - j) + bitN i (Y - 1 - k)
theorem mixPl_lt (X Y j k i : Nat) : mixPl X Y j k i < 4 := by unfold mixPl bitN; omega
def mixV (sh : List Int) (X Y j k i p : Nat) : Int := accN (mixPl X Y j k) (fun t => atZ sh (t : Int)) i p
theorem mixV_step (sh : List Int) (X Y j k i : Nat) : (rowF (mixV sh X Y j k i) 4).set (mixPl X Y j k i) (mixV sh X Y j k i (mixPl X Y j k i) + atZ sh (i : Int)) = rowF (mixV sh X Y j k (i + 1)) 4 :=
  accN_set (mixPl X Y j k) (fun t => atZ sh (t : Int)) i (mixPl_lt X Y j k i)
theorem mixV_bd {sh : List Int} {X Y j k i p : Nat} (h : ∀ t : Nat, t < i → 0 ≤ atZ sh (t : Int) ∧ atZ sh (t : Int) ≤ 1000) (hi : i ≤ 64) : 0 ≤ mixV sh X Y j k i p ∧ mixV sh X Y j k i p ≤ 64000 := by
  refine ⟨accN_nn _ _ _ _ fun t ht => (h t ht).1, ?_⟩
  have := accN_le2 (mixPl X Y j k) (fun t => atZ sh (t : Int)) 1000 (by omega) i p fun t ht => (h t ht).2
  unfold mixV; omega
def mixM (sh : List Int) (X Y i q : Nat) : List (List Int) := (List.range (Y * X)).map fun t => rowF (mixV sh X Y (t / Y) (t % Y) (if t < q then i + 1 else i)) 4
@[simp] theorem mixM_len (sh : List Int) (X Y i q : Nat) : (mixM sh X Y i q).length = Y * X := by simp [mixM]
theorem mixM_get (sh : List Int) (X Y i : Nat) {q : Nat} (h : q < Y * X) : (mixM sh X Y i q)[q]? = some (rowF (mixV sh X Y (q / Y) (q % Y) i) 4) := by
  rw [List.getElem?_eq_getElem (by simpa using h)]
  simp [mixM]
theorem mixM_set (sh : List Int) (X Y i : Nat) {q : Nat} (h : q < Y * X) : (mixM sh X Y i q).set q (rowF (mixV sh X Y (q / Y) (q % Y) (i + 1)) 4) = mixM sh X Y i (q + 1) := by
  refine List.ext_getElem (by simp) fun t h1 h2 => ?_
  rw [List.getElem_set]
  simp only [mixM, List.getElem_map, List.getElem_range]
  by_cases e : q = t
  · subst e; rw [if_pos rfl, if_pos (by omega)]
  · rw [if_neg e]
    by_cases e2 : t < q
    · rw [if_pos e2, if_pos (by omega)]
    · rw [if_neg e2, if_neg (by omega)]
theorem mixM_next (sh : List Int) (X Y i : Nat) : mixM sh X Y i (Y * X) = mixM sh X Y (i + 1) 0 := by
  unfold mixM
  refine List.map_congr_left fun t ht => ?_
  have := List.mem_range.1 ht
  rw [if_pos this, if_neg (by omega)]
theorem mixM_zero (sh : List Int) (X Y : Nat) : boxF (fun _ _ _ => 0) Y (Y * X) = mixM sh X Y 0 0 := by
  unfold mixM boxF
  refine List.map_congr_left fun t _ => ?_
  rw [if_neg (by omega)]
  rfl
def mixtL (sh : List Int) (X Y : Nat) : List (List Int) := boxF (fun j k p => mixV sh X Y j k (2 ^ (X + Y)) p) Y (Y * X)
theorem mixM_end (sh : List Int) (X Y : Nat) : mixM sh X Y (2 ^ (X + Y)) 0 = mixtL sh X Y := by
  unfold mixM mixtL boxF
  refine List.map_congr_left fun t _ => ?_
  rw [if_neg (by omega)]
theorem bitsM_at (n c : Nat) {j : Nat} (h : j < n) : atZ (bitsM n c) (j : Int) = ((bitN c (n - 1 - j) : Nat) : Int) := by unfold bitsM; exact rowF_atZ _ h
theorem mixPl_at {X Y j k : Nat} (i : Nat) (hj : j < X) (hk : k < Y) : 2 * atZ (bitsM (X + Y) i) (j : Int) + atZ (bitsM (X + Y) i) ((X : Int) + k) = ((mixPl X Y j k i : Nat) : Int) := by
  rw [show (X : Int) + k = ((X + k : Nat) : Int) by omega, bitsM_at _ _ (by omega), bitsM_at _ _ (by omega)]
  unfold mixPl
  rw [show X + Y - 1 - (X + k) = Y - 1 - k by omega]
  omega
def sharesB (x y : Int) (sh : List Int) : Bool := sizeB x y && (decide ((sh.length : Int) = 2 ^ (x + y).toNat) && (allB sh 0 1000 && inB (sum64 sh) 1 1000))
structure SharesOK (X Y : Nat) (sh : List Int) : Prop where
  x : 1 ≤ X ∧ X ≤ 3
  y : 1 ≤ Y ∧ Y ≤ 3
  len : sh.length = 2 ^ (X + Y)
  le : 2 ^ (X + Y) ≤ 64
  bd : ∀ t : Nat, t < 2 ^ (X + Y) → 0 ≤ atZ sh (t : Int) ∧ atZ sh (t : Int) ≤ 1000
  tot : 1 ≤ sum64 sh ∧ sum64 sh ≤ 1000
  sum : ∀ t : Nat, t < 2 ^ (X + Y) → atZ sh (t : Int) ≤ sum64 sh
theorem accT_ge {t : Nat → Int} {i : Nat} : ∀ {m : Nat}, (∀ c, c < m → 0 ≤ t c) → i < m → t i ≤ accT t m
  | 0, _, h => by omega
  | m + 1, h0, h => by
    have nn := accT_nn (t := t) (m := m) fun c hc => h0 c (by omega)
    have hm := h0 m (by omega)
    unfold accT
    by_cases e : i = m
    · subst e; omega
    · have := accT_ge (t := t) (i := i) (m := m) (fun c hc => h0 c (by omega)) (by omega)
      omega
theorem le_sum {l : List Int} (h : ∀ x ∈ l, 0 ≤ x) : ∀ x ∈ l, x ≤ l.sum := by
  induction l with
  | nil => simp
  | cons a l ih =>
    intro x hx
    have nn : 0 ≤ l.sum := by
      clear ih hx
      induction l with
      | nil => simp
      | cons b l ih2 =>
        have := ih2 fun x hx => h x (by rcases List.mem_cons.1 hx with rfl | hx <;> simp_all)
        have := h b (by simp)
        rw [List.sum_cons]; omega
    have ha := h a (List.mem_cons_self ..)
    rw [List.sum_cons]
    rcases List.mem_cons.1 hx with rfl | hx
    · omega
    · have := ih (fun x hx => h x (List.mem_cons_of_mem _ hx)) x hx; omega
theorem sharesB_spec {x y : Int} {sh : List Int} (h : sharesB x y sh = true) : ∃ X Y : Nat, x = X ∧ y = Y ∧ SharesOK X Y sh := by
  simp only [sharesB, Bool.and_eq_true, decide_eq_true_eq] at h
  obtain ⟨h1, h2, h3, h4⟩ := h
  have s := jbn.1 h1
  have t := jcd.1 h4
  obtain ⟨X, rfl⟩ := Int.eq_ofNat_of_zero_le (show 0 ≤ x by omega)
  obtain ⟨Y, rfl⟩ := Int.eq_ofNat_of_zero_le (show 0 ≤ y by omega)
  have e : ((X : Int) + Y).toNat = X + Y := by omega
  rw [e] at h2
  have len : sh.length = 2 ^ (X + Y) := by have : ((2 ^ (X + Y) : Nat) : Int) = (2 : Int) ^ (X + Y) := by simp
                                           omega
  have le : 2 ^ (X + Y) ≤ 64 := Nat.le_trans (Nat.pow_le_pow_right (by omega) (show X + Y ≤ 6 by omega)) (by decide)
  have bd : ∀ t : Nat, t < 2 ^ (X + Y) → 0 ≤ atZ sh (t : Int) ∧ atZ sh (t : Int) ≤ 1000 := fun t ht => allB_at h3 (by omega) (by omega)
  refine ⟨X, Y, rfl, rfl, ⟨by omega, by omega, len, le, bd, t, fun t ht => ?_⟩⟩
  have ss := (sum64_small (m := 1000) (by omega) h3 (by omega) (by omega)).1
  rw [ss]
  refine le_sum (fun x hx => ?_) _ (mem_atZ (by omega))
  unfold allB at h3
  rw [List.all_eq_true] at h3
  exact (jcd.1 (h3 x hx)).1
theorem least_ge {v m : Int} {f : Nat → Int} (h : v ≤ m) : ∀ {n : Nat}, (∀ j, j < n → v ≤ f j) → v ≤ leastN m f n
  | 0, _ => h
  | n + 1, hf => by
    have := least_ge (f := f) h (n := n) fun j hj => hf j (by omega)
    have := hf n (by omega)
    unfold leastN; omega
theorem least_le (m : Int) (f : Nat → Int) : ∀ {n j : Nat}, j < n → leastN m f n ≤ f j
  | n + 1, j, h => by
    unfold leastN
    by_cases e : j = n
    · subst e; omega
    · have := least_le m f (n := n) (j := j) (by omega); omega
theorem share_least {X Y : Nat} {sh : List Int} (h : SharesOK X Y sh) {i : Nat} (hi : i < 2 ^ (X + Y)) : atZ sh (i : Int) ≤ leastN (sum64 sh) (chanceF Y X (mixtL sh X Y) (bitsM (X + Y) i)) (Y * X) := by
  refine least_ge (h.sum i hi) fun t ht => ?_
  have hY := h.y
  have d1 : t / Y < X := Nat.div_lt_of_lt_mul ht
  have d2 : t % Y < Y := Nat.mod_lt _ (by omega)
  unfold chanceF mixtL
  rw [boxF_at ht, mixPl_at i d1 d2, rowF_atZ _ (mixPl_lt _ _ _ _ _)]
  unfold mixV
  rw [accN_T]
  have := accT_ge (t := fun c => if mixPl X Y (t / Y) (t % Y) c = mixPl X Y (t / Y) (t % Y) i then atZ sh (c : Int) else 0) (i := i) (m := 2 ^ (X + Y)) (fun c hc => by
    split
    · exact (h.bd c hc).1
    · omega) hi
  simpa using this

end Go.Proofs.YtpflmajlafpmcaaGreat

namespace Go.Proofs.YtpflmajlafpmcaaGreat
open Go.RowKit
set_option linter.unusedSectionVars false
variable [Glb]
open Go
/-! an event changed with its number -/
theorem set_bits {nu : List Int} {ev : Int} (h : bitsB nu ev = true) (hl : 0 < nu.length) : bitsB (nu.set 0 (1 - atZ nu 0)) ev = true := by
  have b := jck h (i := 0) (by omega) (by have := jbk h; omega)
  simp only [bitsB, allB, Bool.and_eq_true, decide_eq_true_eq, List.all_eq_true, List.length_set] at h ⊢
  refine ⟨h.1, fun x hx => ?_⟩
  rcases List.mem_or_eq_of_mem_set hx with hx | rfl
  · exact h.2 x hx
  · exact jcd.2 (by omega)
theorem next_event {bx by_ bwh : Int} {bll : List (List Int)} {pl : List Int} {ev : Int} {cc : List (List Int)} {ss nu : List Int} {co : Int} (hv : hallB bx by_ bwh bll pl ev cc ss nu co = true) (hl : 0 < nu.length) (hc : co + 1 ≤ 1000) :
    nextH ⟨bx, by_, bwh, bll, pl, ev, cc, ss, nu, co⟩ 7 0 = (⟨bx, by_, bwh, bll, pl, ev, cc, evL cc ss 0, nu, co + 1⟩, true) ∧ hallB bx by_ bwh bll pl ev cc (evL cc ss 0) nu (co + 1) = true := by
  have hH := jcz hv
  have n1 := jbk hH.nu
  have c := jcd.1 hH.co
  have ok : hallB bx by_ bwh bll pl ev cc (evL cc ss 0) nu (co + 1) = true := by
    simp only [hallB, hH.box, hH.pl, hH.nu, ev_scene 0 hH.sc, Bool.true_and]
    exact jcd.2 (by omega)
  refine ⟨?_, ok⟩
  unfold nextH
  rw [if_pos hv]
  unfold nextT callT
  rw [if_neg (by decide), if_neg (by decide), if_neg (by decide), if_neg (by decide), if_neg (by decide), if_neg (by decide), if_pos rfl, if_pos (jcd.2 (by dsimp only; omega))]
  dsimp only
  rw [if_pos ok]
theorem next_number {bx by_ bwh : Int} {bll : List (List Int)} {pl : List Int} {ev : Int} {cc : List (List Int)} {ss nu : List Int} {co : Int} (hv : hallB bx by_ bwh bll pl ev cc ss nu co = true) (hl : 0 < nu.length) (hc : co + 1 ≤ 1000) :
    nextH ⟨bx, by_, bwh, bll, pl, ev, cc, ss, nu, co⟩ 6 0 = (⟨bx, by_, bwh, bll, pl, ev, cc, ss, nu.set 0 (1 - atZ nu 0), co + 1⟩, true) ∧ hallB bx by_ bwh bll pl ev cc ss (nu.set 0 (1 - atZ nu 0)) (co + 1) = true := by
  have hH := jcz hv
  have n1 := jbk hH.nu
  have c := jcd.1 hH.co
  have ok : hallB bx by_ bwh bll pl ev cc ss (nu.set 0 (1 - atZ nu 0)) (co + 1) = true := by
    simp only [hallB, hH.box, hH.pl, hH.sc, set_bits hH.nu hl, Bool.true_and]
    exact jcd.2 (by omega)
  refine ⟨?_, ok⟩
  unfold nextH
  rw [if_pos hv]
  unfold nextT callT
  rw [if_neg (by decide), if_neg (by decide), if_neg (by decide), if_neg (by decide), if_neg (by decide), if_pos rfl, if_pos (jcd.2 (by dsimp only; omega))]
  dsimp only
  rw [show (0 : Int).toNat = 0 from rfl, if_pos ok]
/-- the hall of a mixture, played by one of its plays -/
theorem mix_hall {X Y : Nat} {n : Int} {ll : List (List Int)} (h : newB X Y n ll 0 [] [] = true) (i : Nat) : hallB X Y n ll (bitsM (X + Y) i) 0 [] [] [] 0 = true := by
  simp only [newB, Bool.and_eq_true] at h
  have p := bitsM_bits (X + Y) i
  rw [Int.natCast_add] at p
  simp only [hallB, h.1, h.2, p, Bool.true_and]
  decide
theorem chance_le {X Y : Nat} {n : Int} {ll : List (List Int)} {pl : List Int} {k : Nat} (hk : k < Y * X) : leastN n (chanceF Y X ll pl) (Y * X) ≤ atZ (atZ ll (k : Int)) (2 * atZ pl ((k : Int) / (Y : Int)) + atZ pl ((X : Int) + (k : Int) % (Y : Int))) := by
  have := least_le n (chanceF Y X ll pl) hk
  unfold chanceF at this
  rw [Int.natCast_ediv, Int.natCast_emod] at this
  exact this

end Go.Proofs.YtpflmajlafpmcaaGreat

namespace Go.Proofs.YtpflmajlafpmcaaGreat
open Go.RowKit
set_option linter.unusedSectionVars false
variable [Glb]
set_option maxRecDepth 10000
set_option maxHeartbeats 4000000
theorem vBig_p (code : Tx) : PC Tryz.prog 4 [.c (eB code)] (.p (.c (dB (decide ((code.length : Int) > 65536))))) := by
  refine jar Tryz.func4 rfl rfl rfl (by kernel_rfl) rfl rfl ?_; intro _
  repeat' (first | (refine jaa (.assign _) ?_; (refine jac (jal rfl) rfl ?_)) | (refine jaa (.move _) ?_; (refine jac (jak rfl) rfl ?_)) | (refine jaa (.call ⟨.builtin .len, _, #[22]⟩) ?_; (refine jac (jba rfl (by kernel_rfl)) rfl ?_)) | (refine jaa (.binOp .gtr 3 _ _ _) ?_; refine jac (jdb rfl rfl) rfl ?_) | refine jah ?_ | refine jaj ?_ | refine jab ?_)
  all_goals (apply jau; apply jaw; (· apply jbe.p; (· (apply GvA.cons; (· exact .tmp _); (· exact GvP.c (.lit _))); exact GvA.nil); (· (decide))))
  all_goals rfl

end Go.Proofs.YtpflmajlafpmcaaGreat

namespace Go.Proofs.YtpflmajlafpmcaaGreat
open Go.RowKit
set_option linter.unusedSectionVars false
variable [Glb]
set_option maxRecDepth 10000
set_option maxHeartbeats 4000000
section
variable {P : Program} {st : St} {dst : Option Tmp} {ty : TypeId} {pos : String} {af : Array Edge}
theorem qt_slice_dM10 {α : Type} {f : α → D} {l : List α} {T : TypeId} {x lo : Operand} {kl : IntKind} {i : Int} (hx : st.ev x = .c (.d (.sl 1 l.length (l.map f)))) (hl : st.ev lo = .c (.d (.lit (.int kl i)))) (ht : tSl P T 1 = true) (h0 : 0 ≤ i) (h1 : i ≤ l.length) :
    Qt P ⟨dst, .slice T x (some lo) none none, ty, pos, af, none⟩ st (.c (.d (.sl 1 (partZ l i l.length).length ((partZ l i l.length).map f)))) :=
  qt_slice_d (vl := some (kl, i)) (vh := none) (i := i.toNat) (j := l.length) hx (ev_some hl) (fun _ _ _ _ _ => rfl) ht ⟨h0, rfl⟩ rfl (by omega) (Nat.le_refl _) (by rw [partZ_len (by omega)]; omega) (by rw [← map_part, partZ_len (by omega)])
end

end Go.Proofs.YtpflmajlafpmcaaGreat

namespace Go.Proofs.YtpflmajlafpmcaaGreat
open Go.RowKit
set_option linter.unusedSectionVars false
variable [Glb]
set_option maxRecDepth 10000
set_option maxHeartbeats 4000000
theorem vCut_p (code : Tx) (n : Nat) (h0 : n ≤ 3) (h1 : code.length ≤ 65536) : PC Tryz.prog 9 [.c (eB code), .c (dI n)] (.p (.c (eB (partZ code (min n code.length : Nat) code.length ++ [UInt8.ofNat (min n code.length)])))) := by
  have hp : (partZ code (min n code.length : Nat) code.length).length = code.length - min n code.length := by rw [partZ_len (by omega)]; omega
  have hp2 : (partZ code n code.length).length = code.length - n := by rw [partZ_len (by omega)]; omega
  have hp3 : (partZ code code.length code.length).length = 0 := by rw [partZ_len (by omega)]; omega
  refine jar Tryz.func9 rfl rfl rfl (by kernel_rfl) rfl rfl ?_; intro _
  repeat' (first | (refine jaa (.assign _) ?_; (refine jac (jal rfl) rfl ?_)) | (refine jaa (.move _) ?_; (refine jac (jak rfl) rfl ?_)) | (refine jaa (.call ⟨.builtin .len, _, #[22]⟩) ?_; (refine jac (jba rfl (by kernel_rfl)) rfl ?_)) | (refine jaa (.binOp .gtr 3 _ _ _) ?_; refine jac (jdb rfl rfl) rfl ?_) | (refine jaa (.buildSlice 22 0 _) ?_; (apply jao (sz := 1) (by_ := 1); (· kernel_rfl); (· decide); (· (repeat (exact GvS.nil _))); (· (decide)); (· rfl); (· rfl); (· rfl))) | (refine jaa (.slice 22 _ (some _) none none) ?_; (refine jac (qt_slice_dM10 rfl rfl (by kernel_rfl) (by (omega)) (by (omega))) rfl ?_)) | (refine jaa (.call ⟨.builtin .append, _, #[22, 22]⟩) ?_; (first | (apply jbt (sz := 1) (by_ := 1); (· rfl); (· rfl); (· ((simp; done))); (· exact .row _ _ _ _ rfl (by ((simp; done)))); (· (decide)); (· kernel_rfl); (· decide); (· (omega)); (· (omega)); (· rfl); (· rfl); (· rfl)) | (apply jbt (sz := 1) (by_ := 1); (· rfl); (· rfl); (· ((simp; done))); (· exact .see _ _ _ (by (exact Lits.map))); (· (decide)); (· kernel_rfl); (· decide); (· (omega)); (· (omega)); (· rfl); (· rfl); (· rfl)))) | (refine jaa (.convert 3 5 _) ?_; (refine jac (qt_convI (k' := .u8) rfl (by kernel_rfl) (by kernel_rfl) (by (exact wrapU8 (by (omega))))) rfl ?_)) | (refine jaa (.buildSlice 22 1 _) ?_; (apply jao (sz := 1) (by_ := 1); (· kernel_rfl); (· decide); (· (repeat (first | exact GvS.nil _ | apply GvS.c rfl rfl (.lit _) rfl))); (· (decide)); (· rfl); (· rfl); (· rfl))) | refine jah ?_ | refine jaj ?_ | refine jan ?_ | refine jab ?_ | refine jbl rfl (fun hc => ?_) (fun hc => ?_))
  all_goals first | (exfalso; omega) | skip
  · (apply jau; apply jaw; (· apply jbe.p; (· (apply GvA.cons; (· exact .tmp _); (· (exact GvP.c (.row _ _ _ _ rfl (by ((simp; done))))))); exact GvA.nil); (· (decide))))
    have e : min n code.length = code.length := by omega
    have e2 : (UInt8.ofNat code.length).toNat = code.length := by rw [UInt8.toNat_ofNat']; omega
    rw [e]
    simp [e2, hp3, cY, eB, dY]
  · (apply jau; apply jaw; (· apply jbe.p; (· (apply GvA.cons; (· exact .tmp _); (· (exact GvP.c (.row _ _ _ _ rfl (by ((simp; done))))))); exact GvA.nil); (· (decide))))
    have e : min n code.length = n := by omega
    have e2 : (UInt8.ofNat n).toNat = n := by rw [UInt8.toNat_ofNat']; omega
    rw [e]
    simp [e2, hp2, cY, eB, dY]

end Go.Proofs.YtpflmajlafpmcaaGreat

namespace Go.Proofs.YtpflmajlafpmcaaGreat
open Go.RowKit
set_option linter.unusedSectionVars false
variable [Glb]
set_option maxRecDepth 10000
set_option maxHeartbeats 4000000
theorem vInts_p (a b : List Int) : PC Tryz.prog 16 [.c (eI a), .c (eI b)] (.p (.c (dB (decide (a = b))))) := by
  refine jar Tryz.func16 rfl rfl rfl (by kernel_rfl) rfl rfl ?_; rintro ⟨hl, hm, -⟩
  have hl := hl.len
  have hm := hm.len
  repeat' (first | (refine jaa (.assign _) ?_; (refine jac (jal rfl) rfl ?_)) | (refine jaa (.move _) ?_; (refine jac (jak rfl) rfl ?_)) | (refine jaa (.call ⟨.builtin .len, _, #[27]⟩) ?_; (refine jac (jba rfl (by kernel_rfl)) rfl ?_)) | (refine jaa (.binOp .neq 3 _ _ _) ?_; refine jac (qt_neq rfl rfl) rfl ?_) | refine jah ?_ | refine jaj ?_ | refine jai ?_ | refine jan ?_ | refine jab ?_ | refine jbl rfl (fun hc => ?_) (fun hc => ?_))
  · (apply jau; apply jaw; (· apply jbe.p; (· (apply GvA.cons; (· exact .tmp _); (· exact GvP.c (.lit _))); exact GvA.nil); (· (decide))))
    have : a ≠ b := fun e => by subst e; simp at *
    simp [this]
  have hab : a.length = b.length := by simp at *; omega
  apply jay [0, 1, 5] [] rfl; (· (repeat (first | exact Pf.nil | apply Pf.cons (.c rfl (.d rfl))))); (· (repeat (exact Pb.nil)))
  refine jbd [0, 1] [] (fun k => [(5, iN k)]) (fun _ => []) (fun k => k ≤ a.length ∧ a.take k = b.take k) (fun k => a.length - k) (0) ?_ (by (repeat (first | exact trivial | refine ⟨(by (rfl)), ?_⟩))) (by (repeat (exact trivial))) ?_
  · simp
  rintro k ⟨hk, hs⟩
  repeat' (first | (refine jaa (.assign _) ?_; (refine jac (jal rfl) rfl ?_)) | (refine jaa (.move _) ?_; (refine jac (jak rfl) rfl ?_)) | (refine jaa (.call ⟨.builtin .len, _, #[27]⟩) ?_; (refine jac (jba rfl (by kernel_rfl)) rfl ?_)) | (refine jaa (.binOp .neq 3 _ _ _) ?_; refine jac (qt_neq rfl rfl) rfl ?_) | (refine jaa (.binOp .lss 3 _ _ _) ?_; refine jac (jbi rfl rfl) rfl ?_) | (refine jaa (.indexAddr 27 _ _) ?_; (refine jac (jcc rfl rfl (by kernel_rfl) (by (omega)) (by (omega))) rfl ?_)) | (refine jaa (.load 3 _) ?_; (refine jac (jap rfl (by kernel_rfl) rfl) rfl ?_)) | (refine jaa (.binOp .add 3 _ _ _) ?_; refine jac (jax rfl rfl (by (omega))) rfl ?_) | refine jah ?_ | refine jaj ?_ | refine jai ?_ | refine jbh ?_ | refine jav rfl ?_ | refine jan ?_ | refine jab ?_ | refine jat 6 (fun _ => false) (.step 0 true (.step 1 true (.step 2 true (.step 3 true (.step 4 true (.step 5 true (.step 6 true (.step 7 true (.step 8 true .nil))))))))) [(0, 511, 511, true), (0, 511, 511, true), (3, 508, 511, true), (4, 507, 511, false), (0, 511, 511, true), (0, 511, 511, true), (48, 463, 511, true), (64, 447, 511, false), (136, 375, 511, true)] (by kernel_rfl) (by kernel_rfl) ?_ | refine jbl rfl (fun hc => ?_) (fun hc => ?_))
  · rename_i hk'
    rw [jbv (by omega), jbv (by omega)] at hc
    (apply jau; apply jaw; (· apply jbe.p; (· (apply GvA.cons; (· exact .tmp _); (· exact GvP.c (.lit _))); exact GvA.nil); (· (decide))))
    have : a ≠ b := fun e => by subst e; exact hc rfl
    simp [this]
  · rename_i hk'
    rw [jbv (by omega), jbv (by omega)] at hc
    refine jbf ?_; refine ⟨k + 1, ?_, ?_, jcf rfl (by (repeat (first | exact trivial | refine ⟨(by (rfl)), ?_⟩))) (by (repeat (first | exact trivial | refine ⟨rfl, ?_⟩))) (by (repeat (exact trivial))) (by (repeat (exact trivial)))⟩
    · exact ⟨by omega, by rw [List.take_succ_eq_append_getElem (by omega), List.take_succ_eq_append_getElem (by omega), hs]; simp at hc; rw [hc]⟩
    · omega
  · have e : k = a.length := by omega
    subst e
    rw [List.take_length, hab, List.take_length] at hs
    (apply jau; apply jaw; (· apply jbe.p; (· (apply GvA.cons; (· exact .tmp _); (· exact GvP.c (.lit _))); exact GvA.nil); (· (decide))))
    simp [hs]
theorem vInts_same (a : List Int) : PC Tryz.prog 16 [.c (eI a), .c (eI a)] (.p (.c (dB true))) := by
  have := vInts_p a a; rwa [decide_eq_true rfl] at this

end Go.Proofs.YtpflmajlafpmcaaGreat

namespace Go.Proofs.YtpflmajlafpmcaaGreat
open Go.RowKit
set_option linter.unusedSectionVars false
variable [Glb]
open Go Go.RowKit
/-! a place whose row has been taken out -/
section
variable {P : Program} {ops : Array Oper} {mu : Nat → Bool} {r : OT} {st : St} {K : St → Prop} {j : Nat} {dst : Option Tmp} {ty : TypeId} {pos : String} {af : Array Edge}
/-- It is loaded once more. -/
theorem qt_load_rowX {T : TypeId} {x : Operand} {b sz i : Nat} {ds : List D} {c : C} (hx : st.ev x = .c (.lp b i)) (hb : st.bl b = some (.rowX sz ds i c)) (ht : tOne P T = true) :
    Qt P ⟨dst, .load T x, ty, pos, af, none⟩ st (.c c) := fun w0 ρ Φ a w hm => by
  have hp := hm.ev x
  rw [hx] at hp
  obtain ⟨g, hρ, hpv⟩ := lp_inv hp.c_inv
  have h0 := hm.bl b _ hb
  rw [hρ] at h0
  generalize hΦ : Φ b = Fb at h0
  cases h0 with
  | rowX _ us E _ _ _ _ vs Fs hz hg hl hi hFi hcc hr hxx =>
    refine ⟨vs i, fun w' hs0 => have hs : CellS w w' := hs0.resolve_left (by simp [memfree]); ?_, .c _ _ hxx⟩
    have h1 : w.cell? ⟨g, i, none⟩ = some (vs i) := by
      rw [cell_of_row w g i us E (0, 0) hg]
      exact hcc i hi
    have := run_load1 (P := P) (T := T) ht (cellS_some hs h1)
    simp [execOp, hpv, this]
/-- A value is put there. -/
theorem so_store_rowC {T : TypeId} {p x : Operand} {b sz i : Nat} {ds : List D} {c c' : C} (hp : st.ev p = .c (.lp b i)) (hb : st.bl b = some (.rowX sz ds i c)) (hv : st.ev x = .c c') (hok : C.ok c' = true) (ht : tSize P T 1 = true)
    (hmu : mu j = true) (h : SO P ops mu r (st.setB b (some (.rowX sz ds i c'))) K) :
    SO P ops mu (.cons (some ⟨none, .store T p x, ty, pos, af, none⟩, j, false) r) st K := by
  refine so_m hmu fun w0 a w hs next Q hn => ?_
  obtain ⟨ρ, Φ, hm⟩ := hs
  have hp' := hm.ev p
  rw [hp] at hp'
  obtain ⟨g, hρ, hpv⟩ := lp_inv hp'.c_inv
  have hx' := hm.ev x
  rw [hv] at hx'
  have hcx := hx'.c_inv
  have hone := hcx.one hok
  have h0 := hm.bl b _ hb
  rw [hρ] at h0
  generalize hΦ : Φ b = Fb at h0
  cases h0 with
  | rowX _ us E _ _ _ _ vs Fs hz hgh hl hi hFi hcc hr hxx =>
    have hrun := run_store_at (P := P) (w := w) (off := i) (vs := [a.eval x]) ht hgh (cells_one' hone) rfl (fun u hu => by simp at hu; subst hu; exact hone) (by omega)
    have hset : us.toList.take i ++ [a.eval x] ++ us.toList.drop (i + 1) = us.toList.set i (a.eval x) := by rw [List.set_eq_take_append_cons_drop, if_pos (by simp; omega)]; simp
    rw [hset] at hrun
    have hgΦ : g ∈ Φ b := by rw [hΦ]; exact List.mem_cons_self ..
    have hlow : w0.lo g := hm.low b g hgΦ
    have hsz : (us.toList.set i (a.eval x)).toArray.size = us.size := by simp
    have hndb := hm.nd b
    rw [hΦ, List.nodup_cons] at hndb
    have hshp := setRow_shp hgh hsz
    obtain ⟨Φ', hm'⟩ := hm.upd (w' := w.setRow g (us.toList.set i (a.eval x)).toArray) b [] (.rowX sz ds i c') (g :: parts ds.length Fs) g hgΦ (by simp)
      (setRow_below hlow hshp) (fun k hk => setRow_other w g k _ hk) hshp (List.nodup_cons.2 hndb) (fun g2 hg2 => .inl (by rw [hΦ]; exact hg2)) (fun Φ' hΦ' => by
        rw [hρ]
        refine BR.rowX (w := w.setRow g (us.toList.set i (a.eval x)).toArray) (ρ := ρ) (Φ := Φ') g (us.toList.set i (a.eval x)).toArray E sz ds i c' (fun k => if k = i then a.eval x else vs k) Fs hz (setRow_heap w g us _ E (0, 0) hgh) (by simp; omega) hi hFi
          (fun k hk => ?_) (fun k hk hki => ?_) ?_
        · by_cases hko : k = i
          · subst hko; simp [show k < us.size by omega]
          · simp only [List.getElem?_toArray, if_neg hko]
            rw [List.getElem?_set_ne (Ne.symm hko)]
            simpa using hcc k hk
        · simp only [if_neg hki]
          exact (hr k hk hki).keep fun g2 hg2 => setRow_other w g g2 _ fun e => by
            subst e; exact hndb.1 (jbr.2 ⟨k, hk, hg2⟩)
        · simp only [if_pos]
          exact hcx.keep (fun g2 hg2 _ => setRow_other w g g2 _ fun e => hg2 (e ▸ ⟨b, hgΦ⟩)) hshp fun g2 hin => .inl (hΦ' g2 hin))
    exact at_skip (by simp [execOp, hpv, hrun]) (hn _ _ (fun h => by cases h) ⟨_, ⟨ρ, Φ', hm'⟩, h⟩)
end

end Go.Proofs.YtpflmajlafpmcaaGreat

namespace Go.Proofs.YtpflmajlafpmcaaGreat
open Go.RowKit
set_option linter.unusedSectionVars false
variable [Glb]
open Go Go.RowKit
/-! a whole row that is looked at only -/
end Go.Proofs.YtpflmajlafpmcaaGreat

namespace Go.Proofs.YtpflmajlafpmcaaGreat
open Go.RowKit
set_option linter.unusedSectionVars false
variable [Glb]
set_option maxRecDepth 10000
set_option maxHeartbeats 4000000
abbrev dW (n : Int) : D := .lit (.int .u64 n)
abbrev CurB (code : Tx) (a s : Int) : List BC := [.k (eB code), .o (dI a), .o (dW s)]
def CurR (a N : Int) (Q : Res → Prop) (ds : List D) (res : Res) : Prop := ∃ a' s', (a ≤ a' ∧ a' ≤ a + N) ∧ ds = [dI a', dW s'] ∧ Q res
theorem emod_bd {x n : Int} (hx : 0 ≤ x) (hn : 1 < n) : 0 ≤ x % n ∧ x % n < n ∧ x % n ≤ x := by
  refine ⟨Int.emod_nonneg _ (by omega), Int.emod_lt_of_pos _ (by omega), ?_⟩
  have h1 := Int.emod_add_mul_ediv x n
  have h2 : 0 ≤ n * (x / n) := Int.mul_nonneg (by omega) (Int.ediv_nonneg hx (by omega))
  omega
theorem pick_bd {x n : Int} (h0 : 0 ≤ x) (h1 : x ≤ 65535) (hn : 1 < n) : 0 ≤ x % n ∧ x % n ≤ 65535 ∧ (n ≤ 1 → x % n = 0) ∧ (1 < n → x % n < n) := by
  have := emod_bd h0 hn
  omega
theorem curNext_p (code : Tx) (a s : Int) (h0 : 0 ≤ a) (h1 : a ≤ 4611686018427387904) : PX Tryz.prog 72 (CurB code a s) [] (CurR a 1 fun res => ∃ x : Int, (0 ≤ x ∧ x ≤ 255) ∧ res = .p (.c (dI x))) := by
  have hb := byt_lt code a
  refine jcl Tryz.func72 rfl rfl rfl (by kernel_rfl) rfl rfl rfl ?_; intro kv
  repeat' (first | (refine jaa (.assign _) ?_; (refine jac (jal rfl) rfl ?_)) | (refine jaa (.move _) ?_; (refine jac (jak rfl) rfl ?_)) | (refine jaa (.nilCheck _) ?_; (refine jac (jci rfl) rfl ?_)) | (refine jaa (.fieldAddr 56 _ 1) ?_; (refine jac (jad (off := 1) rfl (by kernel_rfl)) rfl ?_)) | (refine jaa (.load 3 _) ?_; (refine jac (jae rfl rfl (by kernel_rfl) rfl) rfl ?_)) | (refine jaa (.fieldAddr 56 _ 0) ?_; (refine jac (jad (off := 0) rfl (by kernel_rfl)) rfl ?_)) | (refine jaa (.load 22 _) ?_; (refine jac (qt_load_same rfl rfl (by kernel_rfl) rfl) rfl ?_)) | (refine jaa (.call ⟨.builtin .len, _, #[22]⟩) ?_; (refine jac (jba rfl (by kernel_rfl)) rfl ?_)) | (refine jaa (.binOp .lss 3 _ _ _) ?_; refine jac (jbi rfl rfl) rfl ?_) | (refine jaa (.indexAddr 22 _ _) ?_; (refine jac (qt_idxY rfl rfl (by kernel_rfl) (by (omega)) (by (omega))) rfl ?_)) | (refine jaa (.load 5 _) ?_; (refine jac (jap rfl (by kernel_rfl) rfl) rfl ?_)) | (refine jaa (.convert 5 3 _) ?_; (refine jac (qt_convI (k' := .i64) rfl (by kernel_rfl) (by kernel_rfl) (by (exact IntWalk.i64_in _ (by (omega))))) rfl ?_)) | (refine jaa (.binOp .add 3 _ _ _) ?_; refine jac (jax rfl rfl (by (omega))) rfl ?_) | (refine jaa (.store 3 _ _) ?_; (refine jaq rfl rfl rfl rfl (by kernel_rfl) rfl rfl ?_)) | (refine jaa (.fieldAddr 56 _ 2) ?_; (refine jac (jad (off := 2) rfl (by kernel_rfl)) rfl ?_)) | (refine jaa (.load 54 _) ?_; (refine jac (jae rfl rfl (by kernel_rfl) rfl) rfl ?_)) | (refine jaa (.binOp .mul 54 _ _ _) ?_; refine jac (qt_mul rfl rfl) rfl ?_) | (refine jaa (.convert 3 54 _) ?_; (refine jac (qt_convI (k' := .u64) rfl (by kernel_rfl) (by kernel_rfl) (by (first | rfl | exact wrapU64 (by (omega))))) rfl ?_)) | (refine jaa (.binOp .add 54 _ _ _) ?_; refine jac (qt_add rfl rfl) rfl ?_) | (refine jaa (.store 54 _ _) ?_; (refine jaq rfl rfl rfl rfl (by kernel_rfl) rfl rfl ?_)) | (refine jaa (.binOp .leq 3 _ _ _) ?_; refine jac (qt_leq rfl rfl) rfl ?_) | (refine jaa (.binOp .shr 54 _ _ _) ?_; refine jac (qt_shrC (c := 1099511627776) rfl rfl (by decide)) rfl ?_) | (refine jaa (.binOp .and 54 _ _ _) ?_; refine jac (qt_andMU 8 (c := 256) rfl rfl (by decide)) rfl ?_) | (refine jaa (.convert 54 3 _) ?_; (refine jac (qt_convI (k' := .i64) rfl (by kernel_rfl) (by kernel_rfl) (by (exact IntWalk.i64_in _ (by (omega))))) rfl ?_)) | refine jah ?_ | refine jaj ?_ | refine jan ?_ | refine jab ?_ | refine jat 2 (fun _ => false) (.step 0 true (.step 1 true (.step 2 true (.step 3 true (.step 4 true (.step 5 true (.step 6 true (.step 7 true (.step 8 true (.step 9 true .nil)))))))))) [(0, 1023, 1023, true), (1, 1022, 1023, true), (2, 1021, 1023, true), (4, 1019, 1023, false), (0, 1023, 1023, true), (16, 1007, 1023, true), (32, 991, 1023, true), (64, 959, 1023, false), (128, 895, 1023, true), (264, 759, 1023, true)] (by kernel_rfl) (by kernel_rfl) ?_ | refine jat 3 (fun _ => false) (.step 0 true (.step 1 true (.step 2 true (.step 3 true (.step 4 true (.step 5 true (.step 6 true (.step 7 true (.step 8 true (.step 9 true (.step 10 true (.step 11 true .nil)))))))))))) [(0, 4095, 4095, true), (1, 4094, 4095, true), (2, 4093, 4095, true), (4, 4091, 4095, false), (0, 4095, 4095, true), (16, 4079, 4095, true), (32, 4063, 4095, true), (64, 4031, 4095, false), (136, 3959, 4095, true), (256, 3839, 4095, false), (512, 3583, 4095, true), (2047, 3071, 4095, true)] (by kernel_rfl) (by kernel_rfl) ?_ | refine jat 6 (fun _ => false) (.step 0 true (.step 1 true (.step 2 true (.step 3 true (.step 4 true (.step 5 true (.step 6 true (.step 7 true (.step 8 true (.step 9 true .nil)))))))))) [(0, 1023, 1023, true), (1, 1022, 1023, true), (2, 1021, 1023, true), (4, 1019, 1023, false), (0, 1023, 1023, true), (16, 1007, 1023, true), (32, 991, 1023, true), (64, 959, 1023, false), (128, 895, 1023, true), (264, 759, 1023, true)] (by kernel_rfl) (by kernel_rfl) ?_ | refine jbl rfl (fun hc => ?_) (fun hc => ?_))
  all_goals (apply jcj; (· (apply RetX.p; (· rfl); (· (repeat (first | exact BxO.nil _ | apply BxO.k | (apply BxO.o; (· (exact .lit _)))))); (· (apply GvA.cons; (· exact .tmp _); (· exact GvP.c (.lit _))); exact GvA.nil); (· (decide)))))
  all_goals exact ⟨_, _, by omega, rfl, _, by omega, rfl⟩
theorem curPick_p (code : Tx) (a s n : Int) (h0 : 0 ≤ a) (h1 : a ≤ 4611686018427387000) : PX Tryz.prog 46 (CurB code a s) [.v (.c (dI n))] (CurR a 2 fun res => ∃ x : Int, (0 ≤ x ∧ x ≤ 65535 ∧ (n ≤ 1 → x = 0) ∧ (1 < n → x < n)) ∧ res = .p (.c (dI x))) := by
  refine jcl Tryz.func46 rfl rfl rfl (by kernel_rfl) rfl rfl rfl ?_; intro kv
  repeat' (first | (refine jaa (.assign _) ?_; (refine jac (jal rfl) rfl ?_)) | (refine jaa (.move _) ?_; (refine jac (jak rfl) rfl ?_)) | (refine jaa (.binOp .leq 3 _ _ _) ?_; refine jac (qt_leq rfl rfl) rfl ?_) | (refine jaa (.binOp .gtr 3 _ _ _) ?_; refine jac (jdb rfl rfl) rfl ?_) | (refine jaa (.binOp .mul 3 _ _ _) ?_; refine jac (jcw rfl rfl (by (omega))) rfl ?_) | (refine jaa (.binOp .add 3 _ _ _) ?_; refine jac (jax rfl rfl (by (omega))) rfl ?_) | (refine jaa (.binOp .rem 3 _ _ _) ?_; (refine jac (qt_remN rfl rfl (by (omega)) (by (omega)) (by (omega))) rfl ?_)) | (refine jaa (.call ⟨.value (.func 72), _, _⟩) ?_; (apply jbb (fid := 72); (· rfl); (· rfl); (· (repeat (first | exact BxI.nil | apply BxI.ks | (apply BxI.o; (· (exact .lit _)))))); (· (repeat (exact ArX.nil))); (· (decide)); (· (decide)); (· exact curNext_p code _ _ (by omega) (by omega)); (· rfl); (· (intro b hb1 hb2; omega)); (· rfl); (rintro _ _ ⟨a1, s1, ha1, rfl, x1, hx1, rfl⟩; refine ⟨(by first | rfl | simp [*]), ?_⟩))) | refine jah ?_ | refine jaj ?_ | refine jan ?_ | refine jab ?_ | refine jbl rfl (fun hc => ?_) (fun hc => ?_))
  all_goals (apply jcj; (· (apply RetX.p; (· rfl); (· (repeat (first | exact BxO.nil _ | apply BxO.k | (apply BxO.o; (· (exact .lit _)))))); (· (apply GvA.cons; (· exact .tmp _); (· exact GvP.c (.lit _))); exact GvA.nil); (· (decide)))))
  · exact ⟨_, _, by omega, rfl, _, by omega, rfl⟩
  · exact ⟨_, _, by omega, rfl, _, pick_bd (by omega) (by omega) (by omega), rfl⟩
  · exact ⟨_, _, by omega, rfl, _, pick_bd (by omega) (by omega) (by omega), rfl⟩
theorem curOne_p (code : Tx) (a s n : Int) (h0 : 0 ≤ a) (h1 : a ≤ 4611686018427387000) : PX Tryz.prog 44 (CurB code a s) [.v (.c (dI n))] (CurR a 2 fun res => ∃ b : Bool, res = .p (.c (dB b))) := by
  refine jcl Tryz.func44 rfl rfl rfl (by kernel_rfl) rfl rfl rfl ?_; intro kv
  repeat' (first | (refine jaa (.assign _) ?_; (refine jac (jal rfl) rfl ?_)) | (refine jaa (.move _) ?_; (refine jac (jak rfl) rfl ?_)) | (refine jaa (.binOp .eql 3 _ _ _) ?_; refine jac (jcb rfl rfl) rfl ?_) | (refine jaa (.call ⟨.value (.func 46), _, _⟩) ?_; (apply jbb (fid := 46); (· rfl); (· rfl); (· (repeat (first | exact BxI.nil | apply BxI.ks | (apply BxI.o; (· (exact .lit _)))))); (· (repeat (first | exact ArX.nil | apply ArX.v (.c (.d _))))); (· (decide)); (· (decide)); (· exact curPick_p code _ _ _ (by omega) (by omega)); (· rfl); (· (intro b hb1 hb2; omega)); (· rfl); (rintro _ _ ⟨a1, s1, ha1, rfl, x1, hx1, rfl⟩; refine ⟨(by first | rfl | simp [*]), ?_⟩))) | refine jah ?_ | refine jaj ?_ | refine jab ?_)
  all_goals (apply jcj; (· (apply RetX.p; (· rfl); (· (repeat (first | exact BxO.nil _ | apply BxO.k | (apply BxO.o; (· (exact .lit _)))))); (· (apply GvA.cons; (· exact .tmp _); (· exact GvP.c (.lit _))); exact GvA.nil); (· (decide)))))
  all_goals exact ⟨_, _, by omega, rfl, _, rfl⟩
theorem mem_at {α : Type} [Inhabited α] {l : List α} {x : Int} (h0 : 0 ≤ x) (h1 : x < l.length) : atZ l x ∈ l := List.mem_of_getElem? (atZ_some h0 h1)
theorem curAmong_p (code : Tx) (a s : Int) (l : List Int) (hl : 0 < l.length) (h0 : 0 ≤ a) (h1 : a ≤ 4611686018427387000) : PX Tryz.prog 45 (CurB code a s) [.v (.c (eI l))] (CurR a 2 fun res => ∃ t : Int, t ∈ l ∧ res = .p (.c (dI t))) := by
  refine jcl Tryz.func45 rfl rfl rfl (by kernel_rfl) rfl rfl rfl ?_; intro kv
  repeat' (first | (refine jaa (.assign _) ?_; (refine jac (jal rfl) rfl ?_)) | (refine jaa (.move _) ?_; (refine jac (jak rfl) rfl ?_)) | (refine jaa (.call ⟨.builtin .len, _, #[27]⟩) ?_; (refine jac (jba rfl (by kernel_rfl)) rfl ?_)) | (refine jaa (.indexAddr 27 _ _) ?_; (refine jac (jcc rfl rfl (by kernel_rfl) (by (omega)) (by (omega))) rfl ?_)) | (refine jaa (.load 3 _) ?_; (refine jac (jap rfl (by kernel_rfl) rfl) rfl ?_)) | (refine jaa (.call ⟨.value (.func 46), _, _⟩) ?_; (apply jbb (fid := 46); (· rfl); (· rfl); (· (repeat (first | exact BxI.nil | apply BxI.ks | (apply BxI.o; (· (exact .lit _)))))); (· (repeat (first | exact ArX.nil | apply ArX.v (.c (.d _))))); (· (decide)); (· (decide)); (· exact curPick_p code _ _ _ (by omega) (by omega)); (· rfl); (· (intro b hb1 hb2; omega)); (· rfl); (rintro _ _ ⟨a1, s1, ha1, rfl, x1, hx1, rfl⟩; refine ⟨(by first | rfl | simp [*]), ?_⟩))) | refine jah ?_ | refine jaj ?_ | refine jab ?_)
  all_goals (apply jcj; (· (apply RetX.p; (· rfl); (· (repeat (first | exact BxO.nil _ | apply BxO.k | (apply BxO.o; (· (exact .lit _)))))); (· (apply GvA.cons; (· exact .tmp _); (· exact GvP.c (.lit _))); exact GvA.nil); (· (decide)))))
  all_goals exact ⟨_, _, by omega, rfl, _, mem_at (by omega) (by omega), rfl⟩
theorem curAmongD_p (code : Tx) (a s : Int) (n : Nat) (ds : List D) (Q : Int → Prop) (hn : n = ds.length) (h2 : 0 < n) (h : ∀ x ∈ ds, ∃ t : Int, x = dI t ∧ Q t) (h0 : 0 ≤ a) (h1 : a ≤ 4611686018427387000) : PX Tryz.prog 45 (CurB code a s) [.v (.c (.sl 1 n ds))] (CurR a 2 fun res => ∃ t : Int, Q t ∧ res = .p (.c (dI t))) := by
  have : ∃ l : List Int, ds = l.map dI ∧ ∀ t ∈ l, Q t := by
    clear hn h2
    induction ds with
    | nil => exact ⟨[], rfl, fun t ht => by cases ht⟩
    | cons x ds ih =>
      obtain ⟨t, e, ht⟩ := h x (List.mem_cons_self ..)
      obtain ⟨l, e2, hl⟩ := ih fun y hy => h y (List.mem_cons_of_mem _ hy)
      exact ⟨t :: l, by rw [List.map_cons, e, e2], fun u hu => by rcases List.mem_cons.1 hu with e3 | hu; rw [e3]; exact ht; exact hl u hu⟩
  obtain ⟨l, rfl, hl⟩ := this
  rw [List.length_map] at hn
  subst hn
  refine (curAmong_p code a s l h2 h0 h1).mono ?_
  rintro ds res ⟨a1, s1, ha, rfl, t, ht, rfl⟩
  exact ⟨_, _, ha, rfl, t, hl t ht, rfl⟩

end Go.Proofs.YtpflmajlafpmcaaGreat

namespace Go.Proofs.YtpflmajlafpmcaaGreat
open Go.RowKit
set_option linter.unusedSectionVars false
variable [Glb]
set_option maxRecDepth 10000
set_option maxHeartbeats 4000000
/-! calls -/
/-! rules -/
section
variable {P : Program} {st : St} {dst : Option Tmp} {ty : TypeId} {pos : String} {af : Array Edge} {T : TypeId} {x y : Operand}
end

end Go.Proofs.YtpflmajlafpmcaaGreat

namespace Go.Proofs.YtpflmajlafpmcaaGreat
open Go.RowKit
set_option linter.unusedSectionVars false
variable [Glb]
set_option maxRecDepth 10000
set_option maxHeartbeats 4000000
theorem l1Most_p (a b : Int) : PC Tryz.prog 90 [.c (dI a), .c (dI b)] (.p (.c (dI (max a b)))) := by
  refine jar Tryz.func90 rfl rfl rfl (by kernel_rfl) rfl rfl ?_; intro _
  repeat' (first | (refine jaa (.assign _) ?_; (refine jac (jal rfl) rfl ?_)) | (refine jaa (.move _) ?_; (refine jac (jak rfl) rfl ?_)) | (refine jaa (.binOp .gtr 3 _ _ _) ?_; refine jac (jdb rfl rfl) rfl ?_) | refine jah ?_ | refine jaj ?_ | refine jan ?_ | refine jab ?_ | refine jbl rfl (fun hc => ?_) (fun hc => ?_))
  all_goals (apply jau; apply jaw; (· apply jbe.p; (· (apply GvA.cons; (· exact .tmp _); (· exact GvP.c (.lit _))); exact GvA.nil); (· (decide))))
  all_goals simp
  all_goals omega

end Go.Proofs.YtpflmajlafpmcaaGreat

namespace Go.Proofs.YtpflmajlafpmcaaGreat
open Go.RowKit
set_option linter.unusedSectionVars false
variable [Glb]
set_option maxRecDepth 10000
set_option maxHeartbeats 4000000
theorem l1Least_p (a b : Int) : PC Tryz.prog 43 [.c (dI a), .c (dI b)] (.p (.c (dI (min a b)))) := by
  refine jar Tryz.func43 rfl rfl rfl (by kernel_rfl) rfl rfl ?_; intro _
  repeat' (first | (refine jaa (.assign _) ?_; (refine jac (jal rfl) rfl ?_)) | (refine jaa (.move _) ?_; (refine jac (jak rfl) rfl ?_)) | (refine jaa (.binOp .lss 3 _ _ _) ?_; refine jac (jbi rfl rfl) rfl ?_) | refine jah ?_ | refine jaj ?_ | refine jan ?_ | refine jab ?_ | refine jbl rfl (fun hc => ?_) (fun hc => ?_))
  all_goals (apply jau; apply jaw; (· apply jbe.p; (· (apply GvA.cons; (· exact .tmp _); (· exact GvP.c (.lit _))); exact GvA.nil); (· (decide))))
  all_goals simp [Int.min_def]
  all_goals omega

end Go.Proofs.YtpflmajlafpmcaaGreat

namespace Go.Proofs.YtpflmajlafpmcaaGreat
open Go.RowKit
set_option linter.unusedSectionVars false
variable [Glb]
set_option maxRecDepth 10000
set_option maxHeartbeats 4000000
theorem l2Near_p (n : Int) : PC Tryz.prog 94 [.c (dI n)] (.p (.c (dI (min (max n 0) 4)))) := by
  refine jar Tryz.func94 rfl rfl rfl (by kernel_rfl) rfl rfl ?_; intro _
  repeat' (first | (refine jaa (.assign _) ?_; (refine jac (jal rfl) rfl ?_)) | (refine jaa (.move _) ?_; (refine jac (jak rfl) rfl ?_)) | (refine jaa (.call ⟨.value (.func 90), _, _⟩) ?_; (apply jam (fid := 90); (· (repeat (first | exact SeA.nil | apply SeA.cons (.c (.d _))))); (· exact l1Most_p _ _); (· rfl))) | (refine jaa (.call ⟨.value (.func 43), _, _⟩) ?_; (apply jam (fid := 43); (· (repeat (first | exact SeA.nil | apply SeA.cons (.c (.d _))))); (· exact l1Least_p _ _); (· rfl))) | refine jah ?_ | refine jaj ?_ | refine jab ?_)
  all_goals (apply jau; apply jaw; (· apply jbe.p; (· (apply GvA.cons; (· exact .tmp _); (· exact GvP.c (.lit _))); exact GvA.nil); (· (decide))))
  all_goals rfl
theorem curAmongB_p (code : Tx) (a s : Int) (n : Nat) (ds : List D) (lo hi : Int) (hn : n = ds.length) (h2 : 0 < n) (h : ∀ x ∈ ds, ∃ t : Int, x = dI t ∧ (lo ≤ t ∧ t ≤ hi)) (h0 : 0 ≤ a) (h1 : a ≤ 4611686018427387000) : PX Tryz.prog 45 (CurB code a s) [.v (.c (.sl 1 n ds))] (CurR a 2 fun res => ∃ t : Int, (lo ≤ t ∧ t ≤ hi) ∧ res = .p (.c (dI t))) :=
  curAmongD_p code a s n ds (fun t => lo ≤ t ∧ t ≤ hi) hn h2 h h0 h1
theorem curSizes_p (code : Tx) (a s : Int) (h0 : 0 ≤ a) (h1 : a ≤ 4611686018427386000) : PX Tryz.prog 22 (CurB code a s) [] (CurR a 10 fun res => ∃ x y : Int, ((-1 ≤ x ∧ x ≤ 4611686018427387904) ∧ -1 ≤ y ∧ y ≤ 4611686018427387904) ∧ res = .t [.c (dI x), .c (dI y)]) := by
  refine jcl Tryz.func22 rfl rfl rfl (by kernel_rfl) rfl rfl rfl ?_; intro kv
  repeat' (first | (refine jaa (.assign _) ?_; (refine jac (jal rfl) rfl ?_)) | (refine jaa (.move _) ?_; (refine jac (jak rfl) rfl ?_)) | (refine jaa (.buildSlice 27 4 _) ?_; (apply jao (sz := 1) (by_ := 8); (· kernel_rfl); (· decide); (· (repeat (first | exact GvS.nil _ | apply GvS.c rfl rfl (.lit _) rfl))); (· (decide)); (· rfl); (· rfl); (· rfl))) | (refine jaa (.call ⟨.value (.func 45), _, _⟩) ?_; (first | (apply jbb (d := 10) (fid := 45); (· rfl); (· rfl); (· (repeat (first | exact BxI.nil | apply BxI.ks | (apply BxI.o; (· (exact .lit _)))))); (· (repeat (first | exact ArX.nil | apply ArX.v (.c (.row _ _ _ _ rfl (by ((simp; done)))))))); (· (decide)); (· (decide)); (· exact curAmongB_p code _ _ _ _ (-1) 4611686018427387904 rfl (by decide) (by repeat (first | exact fun x hx => absurd hx List.not_mem_nil | (refine List.forall_mem_cons.2 ⟨⟨_, rfl, by decide⟩, ?_⟩))) (by omega) (by omega)); (· rfl); (· (intro b hb1 hb2; omega)); (· rfl); (rintro _ _ ⟨a1, s1, ha1, rfl, t1, ht1, rfl⟩; refine ⟨(by first | rfl | simp [*]), ?_⟩)) | (apply jbb (d := 13) (fid := 45); (· rfl); (· rfl); (· (repeat (first | exact BxI.nil | apply BxI.ks | (apply BxI.o; (· (exact .lit _)))))); (· (repeat (first | exact ArX.nil | apply ArX.v (.c (.row _ _ _ _ rfl (by ((simp; done)))))))); (· (decide)); (· (decide)); (· exact curAmongB_p code _ _ _ _ (-1) 4611686018427387904 rfl (by decide) (by repeat (first | exact fun x hx => absurd hx List.not_mem_nil | (refine List.forall_mem_cons.2 ⟨⟨_, rfl, by decide⟩, ?_⟩))) (by omega) (by omega)); (· rfl); (· (intro b hb1 hb2; omega)); (· rfl); (rintro _ _ ⟨a1, s1, ha1, rfl, t1, ht1, rfl⟩; refine ⟨(by first | rfl | simp [*]), ?_⟩)))) | (refine jaa (.call ⟨.value (.func 46), _, _⟩) ?_; (first | (apply jbb (d := 15) (fid := 46); (· rfl); (· rfl); (· (repeat (first | exact BxI.nil | apply BxI.ks | (apply BxI.o; (· (exact .lit _)))))); (· (repeat (first | exact ArX.nil | apply ArX.v (.c (.d _))))); (· (decide)); (· (decide)); (· exact curPick_p code _ _ _ (by omega) (by omega)); (· rfl); (· (intro b hb1 hb2; omega)); (· rfl); (rintro _ _ ⟨a1, s1, ha1, rfl, x1, hx1, rfl⟩; refine ⟨(by first | rfl | simp [*]), ?_⟩)) | (apply jbb (d := 18) (fid := 46); (· rfl); (· rfl); (· (repeat (first | exact BxI.nil | apply BxI.ks | (apply BxI.o; (· (exact .lit _)))))); (· (repeat (first | exact ArX.nil | apply ArX.v (.c (.d _))))); (· (decide)); (· (decide)); (· exact curPick_p code _ _ _ (by omega) (by omega)); (· rfl); (· (intro b hb1 hb2; omega)); (· rfl); (rintro _ _ ⟨a1, s1, ha1, rfl, x1, hx1, rfl⟩; refine ⟨(by first | rfl | simp [*]), ?_⟩)))) | (refine jaa (.binOp .add 3 _ _ _) ?_; refine jac (jax rfl rfl (by (omega))) rfl ?_) | (refine jaa (.call ⟨.value (.func 44), _, _⟩) ?_; (apply jbb (fid := 44); (· rfl); (· rfl); (· (repeat (first | exact BxI.nil | apply BxI.ks | (apply BxI.o; (· (exact .lit _)))))); (· (repeat (first | exact ArX.nil | apply ArX.v (.c (.d _))))); (· (decide)); (· (decide)); (· exact curOne_p code _ _ _ (by omega) (by omega)); (· rfl); (· (intro b hb1 hb2; omega)); (· rfl); (rintro _ _ ⟨a1, s1, ha1, rfl, b1, rfl⟩; refine ⟨(by first | rfl | simp [*]), ?_⟩))) | refine jah ?_ | refine jaj ?_ | refine jan ?_ | refine jab ?_ | refine jcu rfl (fun hc => ?_) (fun hc => ?_))
  all_goals (apply jcj; (· (apply RetX.t; (· rfl); (· (repeat (first | exact BxO.nil _ | apply BxO.k | (apply BxO.o; (· (exact .lit _)))))); (· (apply GvA.cons; (· exact .tmp _); (· exact GvP.c (.lit _))); (apply GvA.cons; (· exact .tmp _); (· exact GvP.c (.lit _))); exact GvA.nil); (· rfl); (· (decide)))))
  all_goals exact ⟨_, _, by omega, rfl, _, _, by omega, rfl⟩
/-- cells that hold numbers -/
def IsI (ds : List D) : Prop := ∃ l : List Int, ds = cI l
theorem IsI.map (l : List Int) : IsI (cI l) := ⟨l, rfl⟩
theorem IsI.nil : IsI [] := ⟨[], rfl⟩
theorem IsI.cons {k : Int} {ds : List D} (h : IsI ds) : IsI (dI k :: ds) := by obtain ⟨l, rfl⟩ := h; exact ⟨k :: l, rfl⟩
theorem IsI.app {a b : List D} (h : IsI a) (k : IsI b) : IsI (a ++ b) := by obtain ⟨l, rfl⟩ := h; obtain ⟨m, rfl⟩ := k; exact ⟨l ++ m, by simp⟩
theorem IsI.set {k : Int} {ds : List D} {i : Nat} (h : IsI ds) : IsI (ds.set i (dI k)) := by obtain ⟨l, rfl⟩ := h; exact ⟨l.set i k, by simp⟩
theorem IsI.take {ds : List D} {i : Nat} (h : IsI ds) : IsI (ds.take i) := by obtain ⟨l, rfl⟩ := h; exact ⟨l.take i, by simp⟩
theorem IsI.drop {ds : List D} {i : Nat} (h : IsI ds) : IsI (ds.drop i) := by obtain ⟨l, rfl⟩ := h; exact ⟨l.drop i, by simp⟩
theorem IsI.sl {n : Nat} {ds : List D} (h : IsI ds) (hn : ds.length = n) : ∃ l : List Int, l.length = n ∧ D.sl 1 n ds = eI l := by
  obtain ⟨l, rfl⟩ := h
  rw [List.length_map] at hn
  exact ⟨l, hn, by rw [← hn]⟩
theorem IsI.res {n m : Nat} {ds : List D} (h : IsI ds) (hn : ds.length = n) (hm : n ≤ m) : ∃ l : List Int, l.length ≤ m ∧ Res.p (.c (D.sl 1 n ds)) = .p (.c (eI l)) := by
  obtain ⟨l, h1, h2⟩ := h.sl hn
  exact ⟨l, by omega, by rw [h2]⟩
theorem near_mul (x y : Int) : ∃ N : Nat, min (max x 0) 4 * min (max y 0) 4 = (N : Int) ∧ N ≤ 16 := by
  have h1 : 0 ≤ min (max x 0) 4 * min (max y 0) 4 := Int.mul_nonneg (by omega) (by omega)
  have h2 : min (max x 0) 4 * min (max y 0) 4 ≤ 4 * 4 := Int.mul_le_mul (by omega) (by omega) (by omega) (by omega)
  exact ⟨(min (max x 0) 4 * min (max y 0) 4).toNat, by omega, by omega⟩
def IsII (ds : List D) : Prop := ∃ l : List (List Int), ds = cII l
theorem IsII.map (l : List (List Int)) : IsII (cII l) := ⟨l, rfl⟩
theorem IsII.set {n : Nat} {es ds : List D} {i : Nat} (h : IsII ds) (he : IsI es) (hn : es.length = n) : IsII (ds.set i (.sl 1 n es)) := by
  obtain ⟨l, rfl⟩ := h
  obtain ⟨m, _, e⟩ := he.sl hn
  rw [e]
  exact ⟨l.set i m, by simp⟩
theorem IsII.take {ds : List D} {i : Nat} (h : IsII ds) : IsII (ds.take i) := by obtain ⟨l, rfl⟩ := h; exact ⟨l.take i, by simp⟩
theorem IsII.drop {ds : List D} {i : Nat} (h : IsII ds) : IsII (ds.drop i) := by obtain ⟨l, rfl⟩ := h; exact ⟨l.drop i, by simp⟩
theorem IsII.sl {n : Nat} {ds : List D} (h : IsII ds) (hn : ds.length = n) : ∃ l : List (List Int), l.length = n ∧ D.sl 1 n ds = eII l := by
  obtain ⟨l, rfl⟩ := h
  rw [List.length_map] at hn
  exact ⟨l, hn, by rw [← hn]⟩
end Go.Proofs.YtpflmajlafpmcaaGreat

namespace Go.Proofs.YtpflmajlafpmcaaGreat
open Go.RowKit
set_option linter.unusedSectionVars false
variable [Glb]
open Go
/-! mixtures of wirings -/
section
variable {xa ya na : Int} {la : List (List Int)} {xb yb nb : Int} {lb : List (List Int)} {l1 l2 : List RuleE}
end
def q2 : Nat → Int
  | 0 => 0
  | _ + 1 => 2
end Go.Proofs.YtpflmajlafpmcaaGreat

namespace Go.Proofs.YtpflmajlafpmcaaGreat
open Go.RowKit
set_option linter.unusedSectionVars false
variable [Glb]
set_option maxRecDepth 10000
set_option maxHeartbeats 4000000
def SceneX (res : Res) : Prop := ∃ (ev : Int) (cc : List (List Int)) (ss : List Int), res = .p (.g [dI ev, eII cc, eI ss])
theorem SquareScene_p : PC Tryz.prog 87 [] (.p (.g [dI 9, eII [[0, 1, 2], [3, 4, 5], [6, 7, 8], [0, 3, 6], [1, 4, 7], [2, 5, 8]], eI [0, 0, 0, 0, 0, 1]])) := by
  refine jar Tryz.func87 rfl rfl rfl (by kernel_rfl) rfl rfl ?_; intro _
  repeat' (first | (refine jaa (.alloc 29) ?_; refine jas (zs := [.int .i64 0, .slice none 0 0, .slice none 0 0]) (by kernel_rfl) rfl ?_) | (refine jaa (.buildSlice 27 3 _) ?_; (apply jao (sz := 1) (by_ := 8); (· kernel_rfl); (· decide); (· (repeat (first | exact GvS.nil _ | apply GvS.c rfl rfl (.lit _) rfl))); (· (decide)); (· rfl); (· rfl); (· rfl))) | (refine jaa (.buildSlice 24 6 _) ?_; (apply jao (sz := 1) (by_ := 24); (· kernel_rfl); (· decide); (· (repeat (first | exact GvS.nil _ | apply GvS.c rfl rfl (.row _ _ _ _ rfl (by ((simp; done)))) rfl))); (· (decide)); (· rfl); (· rfl); (· rfl))) | (refine jaa (.assign _) ?_; (refine jac (jal rfl) rfl ?_)) | (refine jaa (.move _) ?_; (refine jac (jak rfl) rfl ?_)) | (refine jaa (.buildSlice 27 6 _) ?_; (apply jao (sz := 1) (by_ := 8); (· kernel_rfl); (· decide); (· (repeat (first | exact GvS.nil _ | apply GvS.c rfl rfl (.lit _) rfl))); (· (decide)); (· rfl); (· rfl); (· rfl))) | (refine jaa (.build 29 _) ?_; refine jac (jbs (cs := [_, _, _]) [(0, 1), (1, 1), (2, 1)] [.int .i64 0, .slice none 0 0, .slice none 0 0] (by kernel_rfl) (by kernel_rfl) rfl) rfl ?_) | (refine jaa (.store 29 _ _) ?_; (refine jag rfl rfl rfl (by kernel_rfl) rfl rfl ?_)) | refine jah ?_ | refine jaj ?_ | refine jab ?_)
  all_goals (apply jau; apply jaw; (· apply jbe.p; (· (apply GvA.cons; (· (apply RV.cellN (n := 3); (· rfl); (· rfl); (· kernel_rfl); (· rfl))); (· (apply GvP.g; (· (apply GvL.cons (.lit _)); ((apply GvL.cons (.row _ _ _ _ rfl (by ((simp; done)))))); ((apply GvL.cons (.row _ _ _ _ rfl (by ((simp; done)))))); exact GvL.nil)))); exact GvA.nil); (· (decide))))
  all_goals rfl
theorem StarScene_p : PC Tryz.prog 88 [] (.p (.g [dI 10, eII [[0, 1, 2, 3], [0, 4, 5, 6], [1, 4, 7, 8], [2, 5, 7, 9], [3, 6, 8, 9]], eI [1, 0, 0, 0, 0]])) := by
  refine jar Tryz.func88 rfl rfl rfl (by kernel_rfl) rfl rfl ?_; intro _
  repeat' (first | (refine jaa (.alloc 29) ?_; refine jas (zs := [.int .i64 0, .slice none 0 0, .slice none 0 0]) (by kernel_rfl) rfl ?_) | (refine jaa (.buildSlice 27 4 _) ?_; (apply jao (sz := 1) (by_ := 8); (· kernel_rfl); (· decide); (· (repeat (first | exact GvS.nil _ | apply GvS.c rfl rfl (.lit _) rfl))); (· (decide)); (· rfl); (· rfl); (· rfl))) | (refine jaa (.buildSlice 24 5 _) ?_; (apply jao (sz := 1) (by_ := 24); (· kernel_rfl); (· decide); (· (repeat (first | exact GvS.nil _ | apply GvS.c rfl rfl (.row _ _ _ _ rfl (by ((simp; done)))) rfl))); (· (decide)); (· rfl); (· rfl); (· rfl))) | (refine jaa (.assign _) ?_; (refine jac (jal rfl) rfl ?_)) | (refine jaa (.move _) ?_; (refine jac (jak rfl) rfl ?_)) | (refine jaa (.buildSlice 27 5 _) ?_; (apply jao (sz := 1) (by_ := 8); (· kernel_rfl); (· decide); (· (repeat (first | exact GvS.nil _ | apply GvS.c rfl rfl (.lit _) rfl))); (· (decide)); (· rfl); (· rfl); (· rfl))) | (refine jaa (.build 29 _) ?_; refine jac (jbs (cs := [_, _, _]) [(0, 1), (1, 1), (2, 1)] [.int .i64 0, .slice none 0 0, .slice none 0 0] (by kernel_rfl) (by kernel_rfl) rfl) rfl ?_) | (refine jaa (.store 29 _ _) ?_; (refine jag rfl rfl rfl (by kernel_rfl) rfl rfl ?_)) | refine jah ?_ | refine jaj ?_ | refine jab ?_)
  all_goals (apply jau; apply jaw; (· apply jbe.p; (· (apply GvA.cons; (· (apply RV.cellN (n := 3); (· rfl); (· rfl); (· kernel_rfl); (· rfl))); (· (apply GvP.g; (· (apply GvL.cons (.lit _)); ((apply GvL.cons (.row _ _ _ _ rfl (by ((simp; done)))))); ((apply GvL.cons (.row _ _ _ _ rfl (by ((simp; done)))))); exact GvL.nil)))); exact GvA.nil); (· (decide))))
  all_goals rfl
theorem square_some : ∃ (cc : List (List Int)) (ss : List Int), PC Tryz.prog 87 [] (.p (.g [dI 9, eII cc, eI ss])) := ⟨_, _, SquareScene_p⟩
theorem star_some : ∃ (cc : List (List Int)) (ss : List Int), PC Tryz.prog 88 [] (.p (.g [dI 10, eII cc, eI ss])) := ⟨_, _, StarScene_p⟩
theorem sceneX_of {ev : Int} {n m : Nat} {W R : List D} (hW : IsII W) (hn : W.length = n) (hR : IsI R) (hm : R.length = m) : SceneX (.p (.g [dI ev, .sl 1 n W, .sl 1 m R])) := by
  obtain ⟨p, hp, ep⟩ := hW.sl hn
  obtain ⟨q, hq, eq⟩ := hR.sl hm
  exact ⟨ev, p, q, by rw [ep, eq]⟩
theorem IsII.snoc {ds : List D} {n : Nat} {es : List D} (h : IsII ds) (he : IsI es) (hn : es.length = n) : IsII (ds ++ [.sl 1 n es]) := by
  obtain ⟨l, rfl⟩ := h
  obtain ⟨e, -, q⟩ := he.sl hn
  exact ⟨l ++ [e], by rw [q]; simp⟩
structure LckS (G : Prop) : Prop where
  h : G
theorem joinS {G G' : Prop} (f : LckS G → G') (g : G) : G' := f ⟨g⟩
set_option maxHeartbeats 40000000 in
theorem curScene7_p (code : Tx) (a s : Int) (h0 : 0 ≤ a) (h1 : a ≤ 4611686018427380000) : PX Tryz.prog 66 (CurB code a s) [] (CurR a 400 SceneX) := by
  obtain ⟨q1, q2, hq⟩ := square_some
  obtain ⟨r1, r2, hr⟩ := star_some
  refine jcl Tryz.func66 rfl rfl rfl (by kernel_rfl) rfl rfl rfl ?_; intro kv
  repeat' (first | (refine jaa (.alloc 29) ?_; refine jas (zs := [.int .i64 0, .slice none 0 0, .slice none 0 0]) (by kernel_rfl) rfl ?_) | (refine jaa (.move _) ?_; (refine jac (jak rfl) rfl ?_)) | (refine jaa (.binOp .eql 3 _ _ _) ?_; refine jac (jcb rfl rfl) rfl ?_) | (refine jaa (.assign _) ?_; (refine jac (jal rfl) rfl ?_)) | (refine jaa (.store 29 _ _) ?_; (refine jag rfl rfl rfl (by kernel_rfl) rfl rfl ?_)) | (refine jaa (.buildSlice 27 8 _) ?_; (apply jao (sz := 1) (by_ := 8); (· kernel_rfl); (· decide); (· (repeat (first | exact GvS.nil _ | apply GvS.c rfl rfl (.lit _) rfl))); (· (decide)); (· rfl); (· rfl); (· rfl))) | (refine jaa (.call ⟨.value (.func 45), _, _⟩) ?_; (first | (apply jbb (d := 17) (fid := 45); (· rfl); (· rfl); (· (repeat (first | exact BxI.nil | apply BxI.ks | (apply BxI.o; (· (exact .lit _)))))); (· (repeat (first | exact ArX.nil | apply ArX.v (.c (.row _ _ _ _ rfl (by ((simp; done)))))))); (· (decide)); (· (decide)); (· exact curAmongB_p code _ _ _ _ 0 8 rfl (by decide) (by repeat (first | exact fun x hx => absurd hx List.not_mem_nil | (refine List.forall_mem_cons.2 ⟨⟨_, rfl, by decide⟩, ?_⟩))) (by omega) (by omega)); (· rfl); (· (intro b hb1 hb2; omega)); (· rfl); (rintro _ _ ⟨a2, s2, ha2, rfl, E, hE, rfl⟩; refine ⟨(by first | rfl | simp [*]), ?_⟩)) | (apply jbb (d := 23) (fid := 45); (· rfl); (· rfl); (· (repeat (first | exact BxI.nil | apply BxI.ks | (apply BxI.o; (· (exact .lit _)))))); (· (repeat (first | exact ArX.nil | apply ArX.v (.c (.row _ _ _ _ rfl (by ((simp; done)))))))); (· (decide)); (· (decide)); (· exact curAmongB_p code _ _ _ _ 0 6 rfl (by decide) (by repeat (first | exact fun x hx => absurd hx List.not_mem_nil | (refine List.forall_mem_cons.2 ⟨⟨_, rfl, by decide⟩, ?_⟩))) (by omega) (by omega)); (· rfl); (· (intro b hb1 hb2; omega)); (· rfl); (rintro _ _ ⟨a3, s3, ha3, rfl, m0, hm0, rfl⟩; refine ⟨(by first | rfl | simp [*]), ?_⟩)))) | (refine jaa (.buildSlice 24 0 _) ?_; (apply jao (sz := 1) (by_ := 24); (· kernel_rfl); (· decide); (· (repeat (exact GvS.nil _))); (· (decide)); (· rfl); (· rfl); (· rfl))) | (refine jaa (.buildSlice 27 0 _) ?_; (apply jao (sz := 1) (by_ := 8); (· kernel_rfl); (· decide); (· (repeat (exact GvS.nil _))); (· (decide)); (· rfl); (· rfl); (· rfl))) | (refine jaa (.build 29 _) ?_; refine jac (jbs (cs := [_, _, _]) [(0, 1), (1, 1), (2, 1)] [.int .i64 0, .slice none 0 0, .slice none 0 0] (by kernel_rfl) (by kernel_rfl) rfl) rfl ?_) | (refine jaa (.buildSlice 27 7 _) ?_; (apply jao (sz := 1) (by_ := 8); (· kernel_rfl); (· decide); (· (repeat (first | exact GvS.nil _ | apply GvS.c rfl rfl (.lit _) rfl))); (· (decide)); (· rfl); (· rfl); (· rfl))) | (refine jaa (.call ⟨.value (.func 46), _, _⟩) ?_; ((apply jbb (fid := 46); (· rfl); (· rfl); (· (repeat (first | exact BxI.nil | apply BxI.ks | (apply BxI.o; (· (exact .lit _)))))); (· (repeat (first | exact ArX.nil | apply ArX.v (.c (.d _))))); (· (decide)); (· (decide)); (· exact curPick_p code _ _ _ (by omega) (by omega)); (· rfl); (· (intro b hb1 hb2; omega)); (· rfl); (rintro _ _ ⟨a1, s1, ha1, rfl, x1, hx1, rfl⟩; refine ⟨(by first | rfl | simp [*]), ?_⟩)))) | (refine jaa (.call ⟨.value (.func 87), _, _⟩) ?_; ((apply jaz (fid := 87); (· (repeat (exact SeA.nil))); (· exact hq); (· rfl); (· rfl)))) | (refine jaa (.call ⟨.value (.func 88), _, _⟩) ?_; ((apply jaz (fid := 88); (· (repeat (exact SeA.nil))); (· exact hr); (· rfl); (· rfl)))) | refine jah ?_ | refine jaj ?_ | refine jai ?_ | refine jbh ?_ | refine jan ?_ | refine jab (id := 0) ?_ | refine jab (id := 1) ?_ | refine jab (id := 2) ?_ | refine jab (id := 3) ?_ | refine jab (id := 4) ?_ | refine jab (id := 5) ?_ | refine jab (id := 6) ?_ | refine jab (id := 7) ?_ | refine jbl rfl (fun hc => ?_) (fun hc => ?_))
  all_goals first | (exfalso; omega) | skip
  · (apply jcj; (· (apply RetX.p; (· rfl); (· (repeat (first | exact BxO.nil _ | apply BxO.k | (apply BxO.o; (· (exact .lit _)))))); (· (apply GvA.cons; (· (apply RV.cellN (n := 3); (· rfl); (· rfl); (· kernel_rfl); (· rfl))); (· (apply GvP.g; (· (apply GvL.cons (.lit _)); ((apply GvL.cons (.row _ _ _ _ rfl (by ((simp; done)))))); ((apply GvL.cons (.row _ _ _ _ rfl (by ((simp; done)))))); exact GvL.nil)))); exact GvA.nil); (· (decide)))))
    exact ⟨_, _, by omega, rfl, _, _, _, rfl⟩
  · (apply jcj; (· (apply RetX.p; (· rfl); (· (repeat (first | exact BxO.nil _ | apply BxO.k | (apply BxO.o; (· (exact .lit _)))))); (· (apply GvA.cons; (· (apply RV.cellN (n := 3); (· rfl); (· rfl); (· kernel_rfl); (· rfl))); (· (apply GvP.g; (· (apply GvL.cons (.lit _)); ((apply GvL.cons (.row _ _ _ _ rfl (by ((simp; done)))))); ((apply GvL.cons (.row _ _ _ _ rfl (by ((simp; done)))))); exact GvL.nil)))); exact GvA.nil); (· (decide)))))
    exact ⟨_, _, by omega, rfl, _, _, _, rfl⟩
  apply jay [0, 2, 3, 4] [2, 3, 16, 18, 19, 22, 33, 44, 45, 54, 55, 59, 60, 66, 67, 74, 81, 82, 88, 89, 90, 94, 95, 106, 112, 1011, 1014, 2011, 2014, 800000000] rfl; (· (repeat (first | exact Pf.nil | apply Pf.cons (.c rfl (.d rfl)) | apply Pf.cons (.c rfl (.lp rfl))))); (· (repeat (first | exact Pb.nil | apply Pb.cons (.row rfl) | (apply Pb.cons; (· apply Nb.box rfl; (repeat (first | exact Ncs.nil rfl | (apply Ncs.cons rfl; (· (first | exact .d rfl | exact .ls rfl))))))) | apply Pb.skip)))
  refine jbd [0, 2, 3] [2, 1011, 2011, 1014, 2014, 16, 22, 33, 44, 45, 54, 55, 59, 60, 66, 67, 74, 81, 82, 88, 89, 90, 94, 95, 106, 112] (fun g : (Int × Nat × List (List Int) × List Int) × Int × Int => [(4, iZ g.1.1)]) (fun g => [(800000000, .box [.d (.same (kv 0) (eB code)), .d (dI g.2.1), .d (dW g.2.2)]), (3, .box [.d (dI E), .ls 18 1 0 g.1.2.1, .ls 19 1 0 g.1.2.1]), (18, .row 1 (cII g.1.2.2.1)), (19, .row 1 (cI g.1.2.2.2))]) (fun g => (0 ≤ g.1.1 ∧ g.1.1 ≤ 6) ∧ (a ≤ g.2.1 ∧ g.2.1 ≤ a + 10 + 40 * (6 - g.1.1)) ∧ (g.1.2.2.1.length = g.1.2.1 ∧ g.1.2.2.2.length = g.1.2.1) ∧ (g.1.2.1 : Int) ≤ 6 - g.1.1) (fun g => g.1.1.toNat) (((m0, 0, [], []), a3, s3)) ?_ (by (repeat (first | exact trivial | refine ⟨(by (rfl)), ?_⟩))) (by (repeat (first | exact trivial | refine ⟨(by (first | (refine jbq rfl ?_; simp; done) | (refine jcv rfl ?_; simp; done))), ?_⟩))) ?_
  · exact ⟨by dsimp only; omega, by dsimp only; omega, ⟨rfl, rfl⟩, by dsimp only; omega⟩
  rintro ⟨⟨m, n, W, S⟩, a4, s4⟩ ⟨hm, hA, ⟨hW, hS⟩, hn⟩
  dsimp only at hm hA hW hS hn ⊢
  refine joinS (G := ?G) ?f ?g
  case f =>
    intro H
    by_cases hk : 0 < m ∧ 0 < E
    · repeat' (first | (refine jaa (.move _) ?_; (refine jac (jak rfl) rfl ?_)) | (refine jaa (.assign _) ?_; (refine jac (jal rfl) rfl ?_)) | (refine jaa (.buildSlice 27 0 _) ?_; (apply jao (sz := 1) (by_ := 8); (· kernel_rfl); (· decide); (· (repeat (exact GvS.nil _))); (· (decide)); (· rfl); (· rfl); (· rfl))) | (refine jaa (.binOp .gtr 3 _ _ _) ?_; refine jac (jdb rfl rfl) rfl ?_) | (refine jaa (.fieldAddr 29 _ 0) ?_; (refine jac (jad (off := 0) rfl (by kernel_rfl)) rfl ?_)) | (refine jaa (.load 3 _) ?_; (refine jac (jae rfl rfl (by kernel_rfl) rfl) rfl ?_)) | (refine jaa (.pick _ _ _) ?_; (refine jac (jby rfl rfl) rfl ?_)) | refine jah ?_ | refine jbw rfl rfl rfl rfl ?_ | refine jbg rfl rfl rfl rfl ?_ | refine jct rfl rfl (fun hg => ?_) (fun hg => ?_) | refine jaj ?_ | refine jai ?_ | refine jav rfl ?_ | refine jan ?_ | refine jab ?_ | refine jbp rfl ?_ | refine jbl rfl (fun hc => ?_) (fun hc => ?_))
      all_goals first | (exfalso; omega) | skip
      apply jay [0, 2, 3, 4, 5, 6] [2, 3, 16, 18, 19, 22, 33, 44, 45, 54, 55, 59, 60, 66, 67, 74, 81, 82, 88, 89, 90, 94, 95, 106, 112, 1011, 1014, 2011, 2014, 800000000] rfl; (· (repeat (first | exact Pf.nil | apply Pf.cons (.c rfl (.d rfl)) | apply Pf.cons (.c rfl (.ls rfl)) | apply Pf.cons (.c rfl (.lp rfl))))); (· (repeat (first | exact Pb.nil | apply Pb.cons (.row rfl) | (apply Pb.cons; (· apply Nb.box rfl; (repeat (first | exact Ncs.nil rfl | (apply Ncs.cons rfl; (· (first | exact .d rfl | exact .ls rfl))))))) | apply Pb.skip)))
      refine jbd [0, 2, 3, 4] [2, 1011, 2011, 1014, 2014, 16, 18, 19, 3, 22, 44, 45, 54, 55, 59, 60, 66, 67, 74, 81, 82, 88, 89, 90, 94, 95, 106, 112] (fun g : List Int × Nat × Int × Int => [(6, iN g.2.1), (5, .c (.ls 33 1 0 g.1.length))]) (fun g => [(800000000, .box [.d (.same (kv 0) (eB code)), .d (dI g.2.2.1), .d (dW g.2.2.2)]), (33, .row 1 (cI g.1))]) (fun g => (g.1.length ≤ g.2.1 ∧ (g.2.1 : Int) ≤ E) ∧ a4 ≤ g.2.2.1 ∧ g.2.2.1 ≤ a4 + 2 * g.2.1) (fun g => E.toNat - g.2.1) (([], 0, a4, s4)) ?_ (by (repeat (first | exact trivial | refine ⟨(by (rfl)), ?_⟩))) (by (repeat (first | exact trivial | refine ⟨(by (first | (refine jbq rfl ?_; simp; done) | (refine jcv rfl ?_; simp; done))), ?_⟩))) ?_
      · exact ⟨by dsimp only [List.length_nil]; omega, by dsimp only; omega⟩
      rintro ⟨L, x, a5, s5⟩ ⟨hL, hB⟩
      dsimp only at hL hB ⊢
      by_cases hx : (x : Int) < E
      · repeat' (first | (refine jaa (.move _) ?_; (refine jac (jak rfl) rfl ?_)) | (refine jaa (.binOp .eql 3 _ _ _) ?_; refine jac (jcb rfl rfl) rfl ?_) | (refine jaa (.assign _) ?_; (refine jac (jal rfl) rfl ?_)) | (refine jaa (.fieldAddr 29 _ 0) ?_; (refine jac (jad (off := 0) rfl (by kernel_rfl)) rfl ?_)) | (refine jaa (.load 3 _) ?_; (refine jac (jae rfl rfl (by kernel_rfl) rfl) rfl ?_)) | (refine jaa (.binOp .lss 3 _ _ _) ?_; refine jac (jbi rfl rfl) rfl ?_) | (refine jaa (.buildSlice 27 1 _) ?_; (apply jao (sz := 1) (by_ := 8); (· kernel_rfl); (· decide); (· (repeat (first | exact GvS.nil _ | apply GvS.c rfl rfl (.lit _) rfl))); (· (decide)); (· rfl); (· rfl); (· rfl))) | (refine jaa (.call ⟨.builtin .append, _, #[27, 27]⟩) ?_; ((apply jbt (sz := 1) (by_ := 8); (· rfl); (· rfl); (· ((simp; done))); (· exact .row _ _ _ _ rfl (by ((simp; done)))); (· (decide)); (· kernel_rfl); (· decide); (· (omega)); (· (omega)); (· rfl); (· rfl); (· rfl)))) | (refine jaa (.call ⟨.builtin .len, _, #[27]⟩) ?_; (refine jac (jca rfl (by kernel_rfl)) rfl ?_)) | (refine jaa (.fieldAddr 29 _ 1) ?_; (refine jac (jad (off := 1) rfl (by kernel_rfl)) rfl ?_)) | (refine jaa (.load 24 _) ?_; (refine jac (jae rfl rfl (by kernel_rfl) rfl) rfl ?_)) | (refine jaa (.buildSlice 24 1 _) ?_; (apply jao (sz := 1) (by_ := 24); (· kernel_rfl); (· decide); (· (repeat (first | exact GvS.nil _ | apply GvS.c rfl rfl (.row _ _ _ _ rfl (by ((simp; done)))) rfl))); (· (decide)); (· rfl); (· rfl); (· rfl))) | (refine jaa (.call ⟨.builtin .append, _, #[24, 24]⟩) ?_; ((apply jbt (sz := 1) (by_ := 24); (· rfl); (· rfl); (· ((simp; omega))); (· exact .row _ _ _ _ rfl (by ((simp; done)))); (· (decide)); (· kernel_rfl); (· decide); (· (omega)); (· (omega)); (· rfl); (· rfl); (· rfl)))) | (refine jaa (.store 24 _ _) ?_; (refine jaq rfl rfl rfl rfl (by kernel_rfl) rfl rfl ?_)) | (refine jaa (.fieldAddr 29 _ 2) ?_; (refine jac (jad (off := 2) rfl (by kernel_rfl)) rfl ?_)) | (refine jaa (.load 27 _) ?_; (refine jac (jae rfl rfl (by kernel_rfl) rfl) rfl ?_)) | (refine jaa (.call ⟨.value (.func 44), _, _⟩) ?_; (apply jbb (fid := 44); (· rfl); (· rfl); (· (repeat (first | exact BxI.nil | apply BxI.ks | (apply BxI.o; (· (exact .lit _)))))); (· (repeat (first | exact ArX.nil | apply ArX.v (.c (.d _))))); (· (decide)); (· (decide)); (· exact curOne_p code _ _ _ (by omega) (by omega)); (· rfl); (· (intro b hb1 hb2; omega)); (· rfl); (rintro _ _ ⟨a6, s6, ha6, rfl, b6, rfl⟩; refine ⟨(by first | rfl | simp [*]), ?_⟩))) | refine jah ?_ | refine jaj ?_ | refine jai ?_ | refine jbh ?_ | refine jav rfl ?_ | refine jan ?_ | refine jab (id := 12) ?_ | refine jab (id := 14) ?_ | refine jab (id := 15) ?_ | refine jab (id := 16) ?_ | refine jab (id := 17) ?_ | refine jab (id := 18) ?_ | refine jat 19 (fun i => i == 5 || i == 7) (.step 0 true (.step 1 true (.step 2 true (.step 3 false (.step 4 false (.step 5 false (.step 6 true (.step 7 false .nil)))))))) [(0, 255, 255, true), (1, 254, 255, false), (0, 255, 255, true), (4, 251, 255, false), (8, 247, 255, false), (26, 237, 255, false), (63, 255, 223, true), (127, 159, 223, false)] (by kernel_rfl) (by kernel_rfl) ?_ | refine jbl rfl (fun hc => ?_) (fun hc => ?_) | refine jcu rfl (fun hc => ?_) (fun hc => ?_))
        all_goals first | (exfalso; omega) | skip
        · repeat' (first | (refine jaa (.move _) ?_; (refine jac (jak rfl) rfl ?_)) | (refine jaa (.assign _) ?_; (refine jac (jal rfl) rfl ?_)) | (refine jaa (.binOp .add 3 _ _ _) ?_; refine jac (jax rfl rfl (by (omega))) rfl ?_) | refine jah ?_ | refine jab ?_)
          refine jbf ?_; refine ⟨(L ++ [(x : Int)], x + 1, a6, s6), ?_, ?_, jcf rfl (by (repeat (first | exact trivial | refine ⟨(by (first | rfl | (refine ls_eq rfl ?_; ((simp; done))))), ?_⟩))) (by (repeat (first | exact trivial | refine ⟨rfl, ?_⟩))) (by (repeat (first | exact trivial | refine ⟨(by (first | (refine jbq rfl ?_; simp; done) | rfl)), ?_⟩))) (by (repeat (first | exact trivial | refine ⟨.inr rfl, ?_⟩)))⟩
          · dsimp only; rw [List.length_append, List.length_singleton]; omega
          · dsimp only; omega
        · repeat' (first | (refine jaa (.move _) ?_; (refine jac (jak rfl) rfl ?_)) | (refine jaa (.assign _) ?_; (refine jac (jal rfl) rfl ?_)) | (refine jaa (.binOp .add 3 _ _ _) ?_; refine jac (jax rfl rfl (by (omega))) rfl ?_) | refine jah ?_ | refine jab ?_)
          refine jbf ?_; refine ⟨(L, x + 1, a6, s6), ?_, ?_, jcf rfl (by (repeat (first | exact trivial | refine ⟨(by (rfl)), ?_⟩))) (by (repeat (first | exact trivial | refine ⟨rfl, ?_⟩))) (by (repeat (first | exact trivial | refine ⟨(by (first | (refine jbq rfl ?_; simp; done) | rfl)), ?_⟩))) (by (repeat (first | exact trivial | refine ⟨.inr rfl, ?_⟩)))⟩
          · dsimp only; omega
          · dsimp only; omega
      · repeat' (first | (refine jaa (.move _) ?_; (refine jac (jak rfl) rfl ?_)) | (refine jaa (.binOp .eql 3 _ _ _) ?_; refine jac (jcb rfl rfl) rfl ?_) | (refine jaa (.assign _) ?_; (refine jac (jal rfl) rfl ?_)) | (refine jaa (.fieldAddr 29 _ 0) ?_; (refine jac (jad (off := 0) rfl (by kernel_rfl)) rfl ?_)) | (refine jaa (.load 3 _) ?_; (refine jac (jae rfl rfl (by kernel_rfl) rfl) rfl ?_)) | (refine jaa (.binOp .lss 3 _ _ _) ?_; refine jac (jbi rfl rfl) rfl ?_) | (refine jaa (.buildSlice 27 1 _) ?_; (apply jao (sz := 1) (by_ := 8); (· kernel_rfl); (· decide); (· (repeat (first | exact GvS.nil _ | apply GvS.c rfl rfl (.lit _) rfl))); (· (decide)); (· rfl); (· rfl); (· rfl))) | (refine jaa (.call ⟨.builtin .append, _, #[27, 27]⟩) ?_; ((apply jbt (sz := 1) (by_ := 8); (· rfl); (· rfl); (· ((simp; done))); (· exact .row _ _ _ _ rfl (by ((simp; done)))); (· (decide)); (· kernel_rfl); (· decide); (· (omega)); (· (omega)); (· rfl); (· rfl); (· rfl)))) | (refine jaa (.call ⟨.builtin .len, _, #[27]⟩) ?_; (refine jac (jca rfl (by kernel_rfl)) rfl ?_)) | (refine jaa (.call ⟨.value (.func 46), _, _⟩) ?_; (apply jbb (fid := 46); (· rfl); (· rfl); (· (repeat (first | exact BxI.nil | apply BxI.ks | (apply BxI.o; (· (exact .lit _)))))); (· (repeat (first | exact ArX.nil | apply ArX.v (.c (.d _))))); (· (decide)); (· (decide)); (· exact curPick_p code _ _ _ (by omega) (by omega)); (· rfl); (· (intro b hb1 hb2; omega)); (· rfl); (rintro _ _ ⟨a6, s6, ha6, rfl, x6, hx6, rfl⟩; refine ⟨(by first | rfl | simp [*]), ?_⟩))) | refine jah ?_ | refine jaj ?_ | refine jai ?_ | refine jav rfl ?_ | refine jan ?_ | refine jab (id := 12) ?_ | refine jab (id := 14) ?_ | refine jab (id := 16) ?_ | refine jab (id := 17) ?_ | refine jbl rfl (fun hc => ?_) (fun hc => ?_))
        all_goals first | (exfalso; omega) | skip
        · repeat' (first | refine jcs ?_ ?_ | (refine jaa (.move _) ?_; (refine jac (jak rfl) rfl ?_)) | (refine jaa (.assign _) ?_; (refine jac (jal rfl) rfl ?_)) | (refine jaa (.buildSlice 27 1 _) ?_; (apply jao (sz := 1) (by_ := 8); (· kernel_rfl); (· decide); (· (repeat (first | exact GvS.nil _ | apply GvS.c rfl rfl (.lit _) rfl))); (· (decide)); (· rfl); (· rfl); (· rfl))) | (refine jaa (.call ⟨.builtin .append, _, #[27, 27]⟩) ?_; ((apply jbt (sz := 1) (by_ := 8); (· rfl); (· rfl); (· ((simp; omega))); (· exact .row _ _ _ _ rfl (by ((simp; done)))); (· (decide)); (· kernel_rfl); (· decide); (· (omega)); (· (omega)); (· rfl); (· rfl); (· rfl)))) | (refine jaa (.fieldAddr 29 _ 1) ?_; (refine jac (jad (off := 1) rfl (by kernel_rfl)) rfl ?_)) | (refine jaa (.load 24 _) ?_; (refine jac (jae rfl rfl (by kernel_rfl) rfl) rfl ?_)) | (refine jaa (.buildSlice 24 1 _) ?_; (apply jao (sz := 1) (by_ := 24); (· kernel_rfl); (· decide); (· (repeat (first | exact GvS.nil _ | apply GvS.c rfl rfl (.row _ _ _ _ rfl (by ((simp; done)))) rfl))); (· (decide)); (· rfl); (· rfl); (· rfl))) | (refine jaa (.call ⟨.builtin .append, _, #[24, 24]⟩) ?_; ((apply jbt (sz := 1) (by_ := 24); (· rfl); (· rfl); (· ((simp; omega))); (· exact .row _ _ _ _ rfl (by ((simp; done)))); (· (decide)); (· kernel_rfl); (· decide); (· (omega)); (· (omega)); (· rfl); (· rfl); (· rfl)))) | (refine jaa (.store 24 _ _) ?_; (refine jaq rfl rfl rfl rfl (by kernel_rfl) rfl rfl ?_)) | (refine jaa (.fieldAddr 29 _ 2) ?_; (refine jac (jad (off := 2) rfl (by kernel_rfl)) rfl ?_)) | (refine jaa (.load 27 _) ?_; (refine jac (jae rfl rfl (by kernel_rfl) rfl) rfl ?_)) | (refine jaa (.store 27 _ _) ?_; (refine jaq rfl rfl rfl rfl (by kernel_rfl) rfl rfl ?_)) | (refine jaa (.binOp .sub 3 _ _ _) ?_; refine jac (jch rfl rfl (by (omega))) rfl ?_) | (refine jaa (.call ⟨.value (.func 46), _, _⟩) ?_; (apply jbb (fid := 46); (· rfl); (· rfl); (· (repeat (first | exact BxI.nil | apply BxI.ks | (apply BxI.o; (· (exact .lit _)))))); (· (repeat (first | exact ArX.nil | apply ArX.v (.c (.d _))))); (· (decide)); (· (decide)); (· exact curPick_p code _ _ _ (by omega) (by omega)); (· rfl); (· (intro b hb1 hb2; omega)); (· rfl); (rintro _ _ ⟨a7, s7, ha7, rfl, x7, hx7, rfl⟩; refine ⟨(by first | rfl | simp [*]), ?_⟩))) | refine jah ?_ | refine jbh ?_ | refine jab ?_ | refine jat 19 (fun i => i == 3 || i == 5 || i == 7) (.step 0 true (.step 2 true (.alt 19 (.step 1 false (.step 3 false (.step 4 false (.step 5 false (.step 6 true (.step 7 false .nil)))))) (.step 3 false (.step 1 true (.step 4 false (.step 5 false (.step 6 true (.step 7 false .nil))))))))) [(0, 255, 247, true), (1, 254, 247, false), (0, 255, 255, true), (4, 251, 255, false), (8, 247, 247, false), (26, 237, 247, false), (63, 255, 215, true), (127, 159, 215, false)] (by kernel_rfl) (by kernel_rfl) ?_)
          all_goals
            refine jbf ?_; refine ⟨((m - 1, n + 1, W ++ [L ++ [x6]], S ++ [x7]), a7, s7), ?_, ?_, jcf rfl (by (repeat (first | exact trivial | refine ⟨(by (rfl)), ?_⟩))) (by (repeat (first | exact trivial | refine ⟨rfl, ?_⟩))) (by (repeat (first | exact trivial | refine ⟨(by (first | (refine jbq rfl ?_; simp; done) | rfl)), ?_⟩))) (by (repeat (first | exact trivial | refine ⟨.inr rfl, ?_⟩)))⟩
            · exact ⟨by dsimp only; omega, by dsimp only; omega, ⟨by simp; omega, by simp; omega⟩, by dsimp only; omega⟩
            · dsimp only; omega
        · repeat' (first | refine jcs ?_ ?_ | (refine jaa (.move _) ?_; (refine jac (jak rfl) rfl ?_)) | (refine jaa (.assign _) ?_; (refine jac (jal rfl) rfl ?_)) | (refine jaa (.buildSlice 27 1 _) ?_; (apply jao (sz := 1) (by_ := 8); (· kernel_rfl); (· decide); (· (repeat (first | exact GvS.nil _ | apply GvS.c rfl rfl (.lit _) rfl))); (· (decide)); (· rfl); (· rfl); (· rfl))) | (refine jaa (.call ⟨.builtin .append, _, #[27, 27]⟩) ?_; ((apply jbt (sz := 1) (by_ := 8); (· rfl); (· rfl); (· ((simp; omega))); (· exact .row _ _ _ _ rfl (by ((simp; done)))); (· (decide)); (· kernel_rfl); (· decide); (· (omega)); (· (omega)); (· rfl); (· rfl); (· rfl)))) | (refine jaa (.fieldAddr 29 _ 1) ?_; (refine jac (jad (off := 1) rfl (by kernel_rfl)) rfl ?_)) | (refine jaa (.load 24 _) ?_; (refine jac (jae rfl rfl (by kernel_rfl) rfl) rfl ?_)) | (refine jaa (.buildSlice 24 1 _) ?_; (apply jao (sz := 1) (by_ := 24); (· kernel_rfl); (· decide); (· (repeat (first | exact GvS.nil _ | apply GvS.c rfl rfl (.row _ _ _ _ rfl (by ((simp; done)))) rfl))); (· (decide)); (· rfl); (· rfl); (· rfl))) | (refine jaa (.call ⟨.builtin .append, _, #[24, 24]⟩) ?_; ((apply jbt (sz := 1) (by_ := 24); (· rfl); (· rfl); (· ((simp; omega))); (· exact .row _ _ _ _ rfl (by ((simp; done)))); (· (decide)); (· kernel_rfl); (· decide); (· (omega)); (· (omega)); (· rfl); (· rfl); (· rfl)))) | (refine jaa (.store 24 _ _) ?_; (refine jaq rfl rfl rfl rfl (by kernel_rfl) rfl rfl ?_)) | (refine jaa (.fieldAddr 29 _ 2) ?_; (refine jac (jad (off := 2) rfl (by kernel_rfl)) rfl ?_)) | (refine jaa (.load 27 _) ?_; (refine jac (jae rfl rfl (by kernel_rfl) rfl) rfl ?_)) | (refine jaa (.store 27 _ _) ?_; (refine jaq rfl rfl rfl rfl (by kernel_rfl) rfl rfl ?_)) | (refine jaa (.binOp .sub 3 _ _ _) ?_; refine jac (jch rfl rfl (by (omega))) rfl ?_) | (refine jaa (.call ⟨.value (.func 46), _, _⟩) ?_; (apply jbb (fid := 46); (· rfl); (· rfl); (· (repeat (first | exact BxI.nil | apply BxI.ks | (apply BxI.o; (· (exact .lit _)))))); (· (repeat (first | exact ArX.nil | apply ArX.v (.c (.d _))))); (· (decide)); (· (decide)); (· exact curPick_p code _ _ _ (by omega) (by omega)); (· rfl); (· (intro b hb1 hb2; omega)); (· rfl); (rintro _ _ ⟨a7, s7, ha7, rfl, x7, hx7, rfl⟩; refine ⟨(by first | rfl | simp [*]), ?_⟩))) | refine jah ?_ | refine jbh ?_ | refine jab ?_ | refine jat 19 (fun i => i == 3 || i == 5 || i == 7) (.step 0 true (.step 2 true (.alt 19 (.step 1 false (.step 3 false (.step 4 false (.step 5 false (.step 6 true (.step 7 false .nil)))))) (.step 3 false (.step 1 true (.step 4 false (.step 5 false (.step 6 true (.step 7 false .nil))))))))) [(0, 255, 247, true), (1, 254, 247, false), (0, 255, 255, true), (4, 251, 255, false), (8, 247, 247, false), (26, 237, 247, false), (63, 255, 215, true), (127, 159, 215, false)] (by kernel_rfl) (by kernel_rfl) ?_)
          all_goals
            refine jbf ?_; refine ⟨((m - 1, n + 1, W ++ [L], S ++ [x7]), a7, s7), ?_, ?_, jcf rfl (by (repeat (first | exact trivial | refine ⟨(by (rfl)), ?_⟩))) (by (repeat (first | exact trivial | refine ⟨rfl, ?_⟩))) (by (repeat (first | exact trivial | refine ⟨(by (first | (refine jbq rfl ?_; simp; done) | rfl)), ?_⟩))) (by (repeat (first | exact trivial | refine ⟨.inr rfl, ?_⟩)))⟩
            · exact ⟨by dsimp only; omega, by dsimp only; omega, ⟨by simp; omega, by simp; omega⟩, by dsimp only; omega⟩
            · dsimp only; omega
    · repeat' (first | (refine jaa (.move _) ?_; (refine jac (jak rfl) rfl ?_)) | (refine jaa (.assign _) ?_; (refine jac (jal rfl) rfl ?_)) | (refine jaa (.buildSlice 27 0 _) ?_; (apply jao (sz := 1) (by_ := 8); (· kernel_rfl); (· decide); (· (repeat (exact GvS.nil _))); (· (decide)); (· rfl); (· rfl); (· rfl))) | (refine jaa (.binOp .gtr 3 _ _ _) ?_; refine jac (jdb rfl rfl) rfl ?_) | (refine jaa (.fieldAddr 29 _ 0) ?_; (refine jac (jad (off := 0) rfl (by kernel_rfl)) rfl ?_)) | (refine jaa (.load 3 _) ?_; (refine jac (jae rfl rfl (by kernel_rfl) rfl) rfl ?_)) | (refine jaa (.pick _ _ _) ?_; (refine jac (jby rfl rfl) rfl ?_)) | refine jah ?_ | refine jbw rfl rfl rfl rfl ?_ | refine jbg rfl rfl rfl rfl ?_ | refine jct rfl rfl (fun hg => ?_) (fun hg => ?_) | refine jaj ?_ | refine jai ?_ | refine jav rfl ?_ | refine jan ?_ | (apply jda 8 [0, 2, 3, 4] [2, 1011, 2011, 1014, 2014, 16, 18, 19, 3, 22, 800000000] rfl; (· (repeat (first | exact Pf.nil | apply Pf.cons (.c rfl (.d rfl)) | apply Pf.cons (.c rfl (.lp rfl))))); (· (repeat (first | exact Pb.nil | apply Pb.cons (.row rfl) | (apply Pb.cons; (· apply Nb.box rfl; (repeat (first | exact Ncs.nil rfl | (apply Ncs.cons rfl; (· (first | exact .d rfl | exact .ls rfl))))))) | apply Pb.skip))); refine jab (id := 8) ?_) | refine jab (id := 10) ?_ | refine jab (id := 11) ?_ | refine jbp rfl ?_ | refine jbl rfl (fun hc => ?_) (fun hc => ?_))
      all_goals first | (exfalso; omega) | skip
      all_goals
        apply jay [0, 2, 3] [2, 3, 16, 18, 19, 22, 33, 44, 45, 54, 55, 59, 60, 66, 67, 1011, 1014, 2011, 2014, 800000000] (n := Tryz.f66.ntmps) rfl; (· (repeat (first | exact Pf.nil | apply Pf.cons (.c rfl (.lp rfl))))); (· (repeat (first | exact Pb.nil | apply Pb.cons (.row rfl) | (apply Pb.cons; (· apply Nb.box rfl; (repeat (first | exact Ncs.nil rfl | (apply Ncs.cons rfl; (· (first | exact .d rfl | exact .ls rfl))))))) | apply Pb.skip)))
        exact H.h
  case g =>
    repeat' (first | refine jcs ?_ ?_ | (refine jaa (.move _) ?_; (refine jac (jak rfl) rfl ?_)) | (refine jaa (.binOp .eql 3 _ _ _) ?_; refine jac (jcb rfl rfl) rfl ?_) | (refine jaa (.assign _) ?_; (refine jac (jal rfl) rfl ?_)) | (refine jaa (.buildSlice 27 0 _) ?_; (apply jao (sz := 1) (by_ := 8); (· kernel_rfl); (· decide); (· (repeat (exact GvS.nil _))); (· (decide)); (· rfl); (· rfl); (· rfl))) | (refine jaa (.binOp .gtr 3 _ _ _) ?_; refine jac (jdb rfl rfl) rfl ?_) | (refine jaa (.fieldAddr 29 _ 0) ?_; (refine jac (jad (off := 0) rfl (by kernel_rfl)) rfl ?_)) | (refine jaa (.buildSlice 27 1 _) ?_; (apply jao (sz := 1) (by_ := 8); (· kernel_rfl); (· decide); (· (repeat (first | exact GvS.nil _ | apply GvS.c rfl rfl (.lit _) rfl))); (· (decide)); (· rfl); (· rfl); (· rfl))) | (refine jaa (.call ⟨.builtin .append, _, #[27, 27]⟩) ?_; ((apply jbt (sz := 1) (by_ := 8); (· rfl); (· rfl); (· ((simp; omega))); (· exact .row _ _ _ _ rfl (by ((simp; done)))); (· (decide)); (· kernel_rfl); (· decide); (· (omega)); (· (omega)); (· rfl); (· rfl); (· rfl)))) | (refine jaa (.call ⟨.builtin .len, _, #[27]⟩) ?_; (refine jac (jca rfl (by kernel_rfl)) rfl ?_)) | (refine jaa (.fieldAddr 29 _ 1) ?_; (refine jac (jad (off := 1) rfl (by kernel_rfl)) rfl ?_)) | (refine jaa (.load 24 _) ?_; (refine jac (jae rfl rfl (by kernel_rfl) rfl) rfl ?_)) | (refine jaa (.buildSlice 24 1 _) ?_; (apply jao (sz := 1) (by_ := 24); (· kernel_rfl); (· decide); (· (repeat (first | exact GvS.nil _ | apply GvS.c rfl rfl (.row _ _ _ _ rfl (by ((simp; done)))) rfl))); (· (decide)); (· rfl); (· rfl); (· rfl))) | (refine jaa (.call ⟨.builtin .append, _, #[24, 24]⟩) ?_; ((apply jbt (sz := 1) (by_ := 24); (· rfl); (· rfl); (· ((simp; omega))); (· exact .row _ _ _ _ rfl (by ((simp; done)))); (· (decide)); (· kernel_rfl); (· decide); (· (omega)); (· (omega)); (· rfl); (· rfl); (· rfl)))) | (refine jaa (.store 24 _ _) ?_; (refine jaq rfl rfl rfl rfl (by kernel_rfl) rfl rfl ?_)) | (refine jaa (.fieldAddr 29 _ 2) ?_; (refine jac (jad (off := 2) rfl (by kernel_rfl)) rfl ?_)) | (refine jaa (.load 27 _) ?_; (refine jac (jae rfl rfl (by kernel_rfl) rfl) rfl ?_)) | (refine jaa (.store 27 _ _) ?_; (refine jaq rfl rfl rfl rfl (by kernel_rfl) rfl rfl ?_)) | (refine jaa (.buildSlice 27 3 _) ?_; (apply jao (sz := 1) (by_ := 8); (· kernel_rfl); (· decide); (· (repeat (first | exact GvS.nil _ | apply GvS.c rfl rfl (.lit _) rfl))); (· (decide)); (· rfl); (· rfl); (· rfl))) | (refine jaa (.store 3 _ _) ?_; (first | refine jaq rfl rfl rfl rfl (by kernel_rfl) rfl rfl ?_ | (refine jcg rfl rfl rfl rfl (.lit _) (by simp) (by simp) (by kernel_rfl) (by ((simp only [List.length_map, List.length_append, List.length_replicate, fillL_len, rowF_len, gridF_len, mkI_len, mkII_len, jcn] at *; omega))) rfl ?_; simp only [St.drop]))) | (refine jaa (.buildSlice 27 2 _) ?_; (apply jao (sz := 1) (by_ := 8); (· kernel_rfl); (· decide); (· (repeat (first | exact GvS.nil _ | apply GvS.c rfl rfl (.lit _) rfl))); (· (decide)); (· rfl); (· rfl); (· rfl))) | (refine jaa (.indexAddr 27 _ _) ?_; (refine jac (jce rfl rfl (by kernel_rfl : tSl _ 27 1 = true) (by (omega)) (by (omega))) rfl ?_)) | (refine jaa (.call ⟨.value (.func 46), _, _⟩) ?_; (apply jbb (fid := 46); (· rfl); (· rfl); (· (repeat (first | exact BxI.nil | apply BxI.ks | (apply BxI.o; (· (exact .lit _)))))); (· (repeat (first | exact ArX.nil | apply ArX.v (.c (.d _))))); (· (decide)); (· (decide)); (· exact curPick_p code _ _ 50 (by omega) (by omega)); (· rfl); (· (intro b hb1 hb2; omega)); (· rfl); (rintro _ _ ⟨a9, s9, ha9, rfl, x9, hx9, rfl⟩; refine ⟨(by first | rfl | simp [*]), ?_⟩))) | (refine jaa (.call ⟨.value (.func 45), _, _⟩) ?_; (apply jbb (fid := 45); (· rfl); (· rfl); (· (repeat (first | exact BxI.nil | apply BxI.ks | (apply BxI.o; (· (exact .lit _)))))); (· (repeat (first | exact ArX.nil | apply ArX.v (.c (.row _ _ _ _ rfl (by ((simp; done)))))))); (· (decide)); (· (decide)); (· exact curAmongD_p code _ _ _ _ (fun _ => True) rfl (by decide) (by repeat (first | exact fun x hx => absurd hx List.not_mem_nil | (refine List.forall_mem_cons.2 ⟨⟨_, rfl, trivial⟩, ?_⟩))) (by omega) (by omega)); (· rfl); (· (intro b hb1 hb2; omega)); (· rfl); (rintro _ _ ⟨a10, s10, ha10, rfl, k10, -, rfl⟩; refine ⟨(by first | rfl | simp [*]), ?_⟩))) | refine jah ?_ | refine jaj ?_ | refine jai ?_ | refine jbh ?_ | refine jan ?_ | refine jab (id := 20) ?_ | refine jab (id := 21) ?_ | refine jab (id := 22) ?_ | refine jab (id := 23) ?_ | refine jab (id := 24) ?_ | refine jab (id := 25) ?_ | refine jab (id := 26) ?_ | refine jab (id := 27) ?_ | refine jab (id := 28) ?_ | refine jab (id := 29) ?_ | refine jat 30 (fun i => i == 4 || i == 6) (.step 0 true (.step 2 true (.alt 30 (.step 1 false (.step 3 false (.step 4 false (.step 5 true (.step 6 false .nil))))) (.step 3 false (.alt 30 (.step 1 false (.step 4 false (.step 5 true (.step 6 false .nil)))) (.step 4 false (.step 1 true (.step 5 true (.step 6 false .nil))))))))) [(0, 127, 111, true), (1, 126, 111, false), (0, 127, 127, true), (0, 127, 127, false), (12, 115, 127, false), (31, 125, 111, true), (63, 79, 111, false)] (by kernel_rfl) (by kernel_rfl) ?_ | refine jab (id := 31) ?_ | refine jab (id := 32) ?_ | refine jbl rfl (fun hc => ?_) (fun hc => ?_))
    all_goals first | (exfalso; omega) | skip
    all_goals
      repeat' (first | (refine jaa (.store 29 _ _) ?_; (refine jag rfl rfl rfl (by kernel_rfl) rfl rfl ?_)) | (refine jaa (.load 29 _) ?_; (refine jac (jaf rfl rfl (by kernel_rfl : tAgg _ 29 3 = true) rfl) rfl ?_)) | refine jah ?_ | refine jab ?_)
      (apply jcj; (· (apply RetX.p; (· rfl); (· (repeat (first | exact BxO.nil _ | apply BxO.k | (apply BxO.o; (· (exact .lit _)))))); (· (apply GvA.cons; (· (apply RV.cellN (n := 3); (· rfl); (· rfl); (· kernel_rfl); (· rfl))); (· (apply GvP.g; (· (apply GvL.cons (.lit _)); ((apply GvL.cons (.row _ _ _ _ rfl (by ((simp; omega)))))); ((apply GvL.cons (.row _ _ _ _ rfl (by ((simp; omega)))))); exact GvL.nil)))); exact GvA.nil); (· (decide)))))
      refine ⟨_, _, by omega, rfl, sceneX_of ?_ ?_ ?_ ?_⟩
      all_goals first | exact IsII.map _ | exact IsII.snoc (IsII.map _) IsI.nil rfl | exact IsI.map _ | exact IsI.app (IsI.map _) (IsI.cons IsI.nil) | exact IsI.set (IsI.map _) | (simp; done) | (simp; omega)

end Go.Proofs.YtpflmajlafpmcaaGreat

namespace Go.Proofs.YtpflmajlafpmcaaGreat
open Go.RowKit
set_option linter.unusedSectionVars false
variable [Glb]
set_option maxRecDepth 10000
set_option maxHeartbeats 4000000
theorem l1In_p (n lo hi : Int) : PC Tryz.prog 40 [.c (dI n), .c (dI lo), .c (dI hi)] (.p (.c (dB (inB n lo hi)))) := by
  refine jar Tryz.func40 rfl rfl rfl (by kernel_rfl) rfl rfl ?_; intro _
  repeat' (first | (refine jaa (.assign _) ?_; (refine jac (jal rfl) rfl ?_)) | (refine jaa (.move _) ?_; (refine jac (jak rfl) rfl ?_)) | (refine jaa (.binOp .geq 3 _ _ _) ?_; refine jac (qt_geq rfl rfl) rfl ?_) | (refine jaa (.binOp .leq 3 _ _ _) ?_; refine jac (qt_leq rfl rfl) rfl ?_) | (refine jaa (.pick _ _ _) ?_; (refine jac (jby rfl rfl) rfl ?_)) | refine jah ?_ | refine jbw rfl rfl rfl rfl ?_ | refine jbg rfl rfl rfl rfl ?_ | refine jct rfl rfl (fun hg => ?_) (fun hg => ?_) | refine jaj ?_ | refine jab ?_)
  all_goals ((apply jau; apply jaw; (· apply jbe.p; (· (apply GvA.cons; (· exact .tmp _); (· exact GvP.c (.lit _))); exact GvA.nil); (· (decide)))))
  all_goals (simp [dB, inB, *]; try omega)

end Go.Proofs.YtpflmajlafpmcaaGreat

namespace Go.Proofs.YtpflmajlafpmcaaGreat
open Go.RowKit
set_option linter.unusedSectionVars false
variable [Glb]
set_option maxRecDepth 10000
set_option maxHeartbeats 4000000
theorem l2Sizes_p (x y : Int) : PC Tryz.prog 47 [.c (dI x), .c (dI y)] (.p (.c (dB (sizeB x y)))) := by
  refine jar Tryz.func47 rfl rfl rfl (by kernel_rfl) rfl rfl ?_; intro _
  repeat' (first | (refine jaa (.assign _) ?_; (refine jac (jal rfl) rfl ?_)) | (refine jaa (.move _) ?_; (refine jac (jak rfl) rfl ?_)) | (refine jaa (.pick _ _ _) ?_; (refine jac (jby rfl rfl) rfl ?_)) | (refine jaa (.call ⟨.value (.func 40), _, _⟩) ?_; (apply jam (fid := 40); (· (repeat (first | exact SeA.nil | apply SeA.cons (.c (.d _))))); (· exact l1In_p _ _ _); (· rfl))) | refine jah ?_ | refine jbw rfl rfl rfl rfl ?_ | refine jbg rfl rfl rfl rfl ?_ | refine jcy rfl rfl (fun hg => ?_) (fun hg => ?_) | refine jaj ?_ | refine jab ?_)
  all_goals (apply jau; apply jaw; (· apply jbe.p; (· (apply GvA.cons; (· exact .tmp _); (· exact GvP.c (.lit _))); exact GvA.nil); (· (decide))))
  all_goals ((simp_all [sizeB]; done))

end Go.Proofs.YtpflmajlafpmcaaGreat

namespace Go.Proofs.YtpflmajlafpmcaaGreat
open Go.RowKit
set_option linter.unusedSectionVars false
variable [Glb]
set_option maxRecDepth 10000
set_option maxHeartbeats 4000000
theorem l2Four_p (l : List Int) (n : Int) : PC Tryz.prog 70 [.c (eI l), .c (dI n)] (.p (.c (dB (row4B n l)))) := by
  refine jar Tryz.func70 rfl rfl rfl (by kernel_rfl) rfl rfl ?_; rintro ⟨hl, -⟩
  have hl := hl.len
  repeat' (first | (refine jaa (.assign _) ?_; (refine jac (jal rfl) rfl ?_)) | refine jah ?_ | refine jaj ?_ | refine jai ?_ | refine jab ?_)
  apply jay [0, 1, 5, 6] [] rfl; (· (repeat (first | exact Pf.nil | apply Pf.cons (.c rfl (.d rfl))))); (· (repeat (exact Pb.nil)))
  refine jbd [0, 1] [] (fun k => [(6, iN k), (5, iZ (sum64 (l.take k)))]) (fun _ => []) (fun k => k ≤ l.length ∧ k ≤ 5 ∧ (l.take k).all (fun m => inB m 0 n) = true) (fun k => l.length - k) (0) ?_ (by (repeat (first | exact trivial | refine ⟨(by (rfl)), ?_⟩))) (by (repeat (exact trivial))) ?_
  · simp
  rintro k ⟨hk, hk9, ha⟩
  repeat' (first | (refine jaa (.assign _) ?_; (refine jac (jal rfl) rfl ?_)) | (refine jaa (.move _) ?_; (refine jac (jak rfl) rfl ?_)) | (refine jaa (.call ⟨.builtin .len, _, #[27]⟩) ?_; (refine jac (jba rfl (by kernel_rfl)) rfl ?_)) | (refine jaa (.binOp .lss 3 _ _ _) ?_; refine jac (jbi rfl rfl) rfl ?_) | (refine jaa (.pick _ _ _) ?_; (refine jac (jby rfl rfl) rfl ?_)) | (refine jaa (.indexAddr 27 _ _) ?_; (refine jac (jcc rfl rfl (by kernel_rfl) (by (omega)) (by (omega))) rfl ?_)) | (refine jaa (.load 3 _) ?_; (refine jac (jap rfl (by kernel_rfl) rfl) rfl ?_)) | (refine jaa (.unOp .not 4 _) ?_; refine jac (jbz rfl) rfl ?_) | (refine jaa (.binOp .add 3 _ _ _) ?_; (first | refine jac (jax rfl rfl (by (omega))) rfl ?_ | refine jac (qt_add rfl rfl) rfl ?_)) | (refine jaa (.binOp .eql 3 _ _ _) ?_; refine jac (jcb rfl rfl) rfl ?_) | (refine jaa (.call ⟨.value (.func 40), _, _⟩) ?_; (apply jam (fid := 40); (· (repeat (first | exact SeA.nil | apply SeA.cons (.c (.d _))))); (· exact l1In_p _ _ _); (· rfl))) | refine jah ?_ | refine jbw rfl rfl rfl rfl ?_ | refine jbg rfl rfl rfl rfl ?_ | refine jct rfl rfl (fun hg => ?_) (fun hg => ?_) | refine jaj ?_ | refine jai ?_ | refine jbh ?_ | refine jav rfl ?_ | refine jan ?_ | refine jab ?_ | refine jbp rfl ?_ | refine jbl rfl (fun hc => ?_) (fun hc => ?_) | refine jcm rfl (fun hc => ?_) (fun hc => ?_))
  · rename_i hk'
    have hk2 : k < l.length := by omega
    rw [jbv hk2] at hc
    (apply jau; apply jaw; (· apply jbe.p; (· (apply GvA.cons; (· exact .tmp _); (· exact GvP.c (.lit _))); exact GvA.nil); (· (decide))))
    rw [row4B, allB, all_f hk2 hc]; simp
  · rename_i hk'
    have hk2 : k < l.length := by omega
    rw [jbv hk2] at hc
    refine jbf ?_; refine ⟨k + 1, ?_, ?_, jcf rfl (by (repeat (first | exact trivial | refine ⟨(by (first | rfl | (refine int_eq rfl ?_; ((simp  [sum64_snoc hk2, jbv hk2]; done))))), ?_⟩))) (by (repeat (first | exact trivial | refine ⟨rfl, ?_⟩))) (by (repeat (exact trivial))) (by (repeat (exact trivial)))⟩
    · exact ⟨by omega, by omega, by rw [take_succ_all _ _ _ hk2, ha, hc]; rfl⟩
    · omega
  all_goals (apply jau; apply jaw; (· apply jbe.p; (· (apply GvA.cons; (· exact .tmp _); (· exact GvP.c (.lit _))); exact GvA.nil); (· (decide))))
  all_goals simp only [row4B]
  · have h8 : l.length = 4 := by omega
    rw [List.take_of_length_le (by omega)] at *
    simp [h8, allB, ha]
  · have h8 : ¬ l.length = 4 := by omega
    simp [h8]
  · have h8 : l.length = 4 := by omega
    have hk8 : k = l.length := by omega
    rw [List.take_of_length_le (by omega)] at *
    simp [h8, allB, ha]
  · have h8 : ¬ l.length = 4 := by omega
    simp [h8]
theorem l2Box_p (x y n : Int) (ll : List (List Int)) : PC Tryz.prog 38 [.g [dI x, dI y, dI n, eII ll]] (.p (.c (dB (boxB x y n ll)))) := by
  refine jar Tryz.func38 rfl rfl rfl (by kernel_rfl) rfl rfl ?_; rintro ⟨hl, -⟩
  have hl := (hl _ (List.mem_cons_of_mem _ (List.mem_cons_of_mem _ (List.mem_cons_of_mem _ (List.mem_cons_self ..))))).len
  repeat' (first | (refine jaa (.box 26 _) ?_; refine jbc rfl rfl ?_) | (refine jaa (.assign _) ?_; (refine jac (jal rfl) rfl ?_)) | (refine jaa (.fieldAddr 26 _ 0) ?_; (refine jac (jad (off := 0) rfl (by kernel_rfl)) rfl ?_)) | (refine jaa (.load 3 _) ?_; (refine jac (jae rfl rfl (by kernel_rfl) rfl) rfl ?_)) | (refine jaa (.fieldAddr 26 _ 1) ?_; (refine jac (jad (off := 1) rfl (by kernel_rfl)) rfl ?_)) | (refine jaa (.unOp .not 4 _) ?_; refine jac (jbz rfl) rfl ?_) | (refine jaa (.move _) ?_; (refine jac (jak rfl) rfl ?_)) | (refine jaa (.fieldAddr 26 _ 2) ?_; (refine jac (jad (off := 2) rfl (by kernel_rfl)) rfl ?_)) | (refine jaa (.pick _ _ _) ?_; (refine jac (jby rfl rfl) rfl ?_)) | (refine jaa (.fieldAddr 26 _ 3) ?_; (refine jac (jad (off := 3) rfl (by kernel_rfl)) rfl ?_)) | (refine jaa (.load 24 _) ?_; (refine jac (jae rfl rfl (by kernel_rfl) rfl) rfl ?_)) | (refine jaa (.call ⟨.builtin .len, _, #[24]⟩) ?_; (refine jac (jba rfl (by kernel_rfl)) rfl ?_)) | (refine jaa (.binOp .mul 3 _ _ _) ?_; (refine jac (qt_mul rfl rfl) rfl ?_)) | (refine jaa (.binOp .neq 3 _ _ _) ?_; refine jac (qt_neq rfl rfl) rfl ?_) | (refine jaa (.call ⟨.value (.func 47), _, _⟩) ?_; (apply jam (fid := 47); (· (repeat (first | exact SeA.nil | apply SeA.cons (.c (.d _))))); (· exact l2Sizes_p _ _); (· rfl))) | (refine jaa (.call ⟨.value (.func 40), _, _⟩) ?_; (apply jam (fid := 40); (· (repeat (first | exact SeA.nil | apply SeA.cons (.c (.d _))))); (· exact l1In_p _ _ _); (· rfl))) | refine jah ?_ | refine jbw rfl rfl rfl rfl ?_ | refine jbg rfl rfl rfl rfl ?_ | refine jcy rfl rfl (fun hg => ?_) (fun hg => ?_) | refine jaj ?_ | refine jai ?_ | refine jan ?_ | refine jab ?_ | refine jbu rfl ?_ | refine jbl rfl (fun hc => ?_) (fun hc => ?_))
  · (apply jau; apply jaw; (· apply jbe.p; (· (apply GvA.cons; (· exact .tmp _); (· exact GvP.c (.lit _))); exact GvA.nil); (· (decide))))
    have h9 : sizeB x y = false := by simpa using hg
    simp [boxB, h9]
  · (apply jau; apply jaw; (· apply jbe.p; (· (apply GvA.cons; (· exact .tmp _); (· exact GvP.c (.lit _))); exact GvA.nil); (· (decide))))
    have h9 : inB n 1 1000 = false := by simpa using hg
    simp [boxB, h9]
  · (apply jau; apply jaw; (· apply jbe.p; (· (apply GvA.cons; (· exact .tmp _); (· exact GvP.c (.lit _))); exact GvA.nil); (· (decide))))
    have hs : sizeB x y = true := by simp_all
    rw [wrap_mul3 hs] at hc
    have h3 : ¬ (ll.length : Int) = x * y := by omega
    simp [boxB, h3]
  have hs : sizeB x y = true := by simp_all
  have hn : inB n 1 1000 = true := by simp_all
  have hlen : (ll.length : Int) = x * y := by rw [← wrap_mul3 hs]; omega
  apply jay [1, 3] [1] rfl; (· (repeat (first | exact Pf.nil | apply Pf.cons (.c rfl (.d rfl)) | apply Pf.cons (.c rfl (.lp rfl))))); (· (repeat (first | exact Pb.nil | (apply Pb.cons; (· apply Nb.box rfl; (repeat (first | exact Ncs.nil rfl | (apply Ncs.cons rfl; (· (exact .d rfl))))))))))
  refine jbd [1] [1] (fun k => [(3, iN k)]) (fun _ => []) (fun k => k ≤ ll.length ∧ (ll.take k).all (row4B n) = true) (fun k => ll.length - k) (0) ?_ (by (repeat (first | exact trivial | refine ⟨(by (rfl)), ?_⟩))) (by (repeat (exact trivial))) ?_
  · simp
  rintro k ⟨hk, ha⟩
  repeat' (first | (refine jaa (.assign _) ?_; (refine jac (jal rfl) rfl ?_)) | (refine jaa (.load 3 _) ?_; (refine jac (jae rfl rfl (by kernel_rfl) rfl) rfl ?_)) | (refine jaa (.unOp .not 4 _) ?_; refine jac (jbz rfl) rfl ?_) | (refine jaa (.move _) ?_; (refine jac (jak rfl) rfl ?_)) | (refine jaa (.fieldAddr 26 _ 2) ?_; (refine jac (jad (off := 2) rfl (by kernel_rfl)) rfl ?_)) | (refine jaa (.fieldAddr 26 _ 3) ?_; (refine jac (jad (off := 3) rfl (by kernel_rfl)) rfl ?_)) | (refine jaa (.load 24 _) ?_; (refine jac (jae rfl rfl (by kernel_rfl) rfl) rfl ?_)) | (refine jaa (.call ⟨.builtin .len, _, #[24]⟩) ?_; (refine jac (jba rfl (by kernel_rfl)) rfl ?_)) | (refine jaa (.binOp .lss 3 _ _ _) ?_; refine jac (jbi rfl rfl) rfl ?_) | (refine jaa (.indexAddr 24 _ _) ?_; (refine jac (jbx rfl rfl (by kernel_rfl) (by (omega)) (by (omega))) rfl ?_)) | (refine jaa (.load 27 _) ?_; (refine jac (jap rfl (by kernel_rfl) rfl) rfl ?_)) | (refine jaa (.binOp .add 3 _ _ _) ?_; refine jac (jax rfl rfl (by (omega))) rfl ?_) | (refine jaa (.call ⟨.value (.func 70), _, _⟩) ?_; (apply jam (fid := 70); (· (repeat (first | exact SeA.nil | apply SeA.cons (.c (.d _))))); (· exact l2Four_p _ _); (· rfl))) | refine jah ?_ | refine jaj ?_ | refine jai ?_ | refine jbh ?_ | refine jav rfl ?_ | refine jan ?_ | refine jab ?_ | refine jat 6 (fun _ => false) (.step 0 true (.step 1 true (.step 2 true (.step 3 true (.step 4 true (.step 5 true (.step 6 true (.step 7 false (.step 8 true .nil))))))))) [(0, 511, 511, true), (1, 510, 511, false), (0, 511, 511, true), (6, 505, 511, true), (8, 503, 511, false), (0, 511, 511, true), (32, 479, 511, false), (80, 431, 511, false), (128, 383, 511, true)] (by kernel_rfl) (by kernel_rfl) ?_ | refine jbl rfl (fun hc => ?_) (fun hc => ?_) | refine jcm rfl (fun hc => ?_) (fun hc => ?_))
  · have hk2 : k < ll.length := by omega
    rw [jbv hk2] at hc
    (apply jau; apply jaw; (· apply jbe.p; (· (apply GvA.cons; (· exact .tmp _); (· exact GvP.c (.lit _))); exact GvA.nil); (· (decide))))
    rw [boxB, all_f hk2 hc]; simp
  · have hk2 : k < ll.length := by omega
    rw [jbv hk2] at hc
    refine jbf ?_; refine ⟨k + 1, ?_, ?_, jcf rfl (by (repeat (first | exact trivial | refine ⟨(by (rfl)), ?_⟩))) (by (repeat (first | exact trivial | refine ⟨rfl, ?_⟩))) (by (repeat (exact trivial))) (by (repeat (first | exact trivial | refine ⟨.inr rfl, ?_⟩)))⟩
    · exact ⟨by omega, by rw [take_succ_all _ _ _ hk2, ha, hc]; rfl⟩
    · omega
  · have : k = ll.length := by omega
    subst this
    rw [List.take_length] at ha
    (apply jau; apply jaw; (· apply jbe.p; (· (apply GvA.cons; (· exact .tmp _); (· exact GvP.c (.lit _))); exact GvA.nil); (· (decide))))
    simp [boxB, hs, hn, hlen, ha]

end Go.Proofs.YtpflmajlafpmcaaGreat

namespace Go.Proofs.YtpflmajlafpmcaaGreat
open Go.RowKit
set_option linter.unusedSectionVars false
variable [Glb]
set_option maxRecDepth 10000
set_option maxHeartbeats 4000000
theorem l2Same_p (x y n : Int) (la : List (List Int)) (x2 y2 m : Int) (lb : List (List Int)) : PC Tryz.prog 113 [.g [dI x, dI y, dI n, eII la], .g [dI x2, dI y2, dI m, eII lb]] (.p (.c (dB (sameB x y n la x2 y2 m lb)))) := by
  refine jar Tryz.func113 rfl rfl rfl (by kernel_rfl) rfl rfl ?_; intro _
  repeat' (first | (refine jaa (.box 26 _) ?_; refine jbc rfl rfl ?_) | (refine jaa (.assign _) ?_; (refine jac (jal rfl) rfl ?_)) | (refine jaa (.load 26 _) ?_; (refine jac (jaf rfl rfl (by kernel_rfl : tAgg _ 26 4 = true) rfl) rfl ?_)) | (refine jaa (.move _) ?_; (refine jac (jak rfl) rfl ?_)) | (refine jaa (.pick _ _ _) ?_; (refine jac (jby rfl rfl) rfl ?_)) | (refine jaa (.fieldAddr 26 _ 0) ?_; (refine jac (jad (off := 0) rfl (by kernel_rfl)) rfl ?_)) | (refine jaa (.load 3 _) ?_; (refine jac (jae rfl rfl (by kernel_rfl) rfl) rfl ?_)) | (refine jaa (.binOp .eql 3 _ _ _) ?_; refine jac (jcb rfl rfl) rfl ?_) | (refine jaa (.fieldAddr 26 _ 1) ?_; (refine jac (jad (off := 1) rfl (by kernel_rfl)) rfl ?_)) | (refine jaa (.call ⟨.value (.func 38), _, _⟩) ?_; (apply jam (fid := 38); (· (repeat (first | exact SeA.nil | (apply SeA.cons; (· (apply SeP.g; (repeat (first | exact SeL.nil | apply SeL.cons (.d _))))))))); (· exact l2Box_p _ _ _ _); (· rfl))) | refine jah ?_ | refine jbw rfl rfl rfl rfl ?_ | refine jbg rfl rfl rfl rfl ?_ | refine jct rfl rfl (fun hg => ?_) (fun hg => ?_) | refine jcy rfl rfl (fun hg => ?_) (fun hg => ?_) | refine jaj ?_ | refine jab ?_)
  all_goals (apply jau; apply jaw; (· apply jbe.p; (· (apply GvA.cons; (· exact .tmp _); (· exact GvP.c (.lit _))); exact GvA.nil); (· (decide))))
  all_goals simp_all [sameB]
theorem l2Kept_t (x y n : Int) (ll : List (List Int)) : PT Tryz.prog 104 [.g [dI x, dI y, dI n, eII ll]] (.t [.g [dI (whenN (boxB x y n ll) x), dI (whenN (boxB x y n ll) y), dI (whenN (boxB x y n ll) n), eII (whenL (boxB x y n ll) ll)], .c (dB (boxB x y n ll))]) := by
  cases h : boxB x y n ll
  all_goals
    refine jcx Tryz.func104 rfl rfl rfl (by kernel_rfl) rfl rfl ?_; intro _
    repeat' (first | (refine jaa (.box 26 _) ?_; refine jbc rfl rfl ?_) | (refine jaa (.alloc 26) ?_; refine jas (zs := [.int .i64 0, .int .i64 0, .int .i64 0, .slice none 0 0]) (by kernel_rfl) rfl ?_) | (refine jaa (.assign _) ?_; (refine jac (jal rfl) rfl ?_)) | (refine jaa (.load 26 _) ?_; (refine jac (jaf rfl rfl (by kernel_rfl : tAgg _ 26 4 = true) rfl) rfl ?_)) | (refine jaa (.unOp .not 4 _) ?_; refine jac (jbz rfl) rfl ?_) | (refine jaa (.build 26 _) ?_; refine jac (jbs (cs := [_, _, _, _]) [(0, 1), (1, 1), (2, 1), (3, 1)] [.int .i64 0, .int .i64 0, .int .i64 0, .slice none 0 0] (by kernel_rfl) (by kernel_rfl) rfl) rfl ?_) | (refine jaa (.store 26 _ _) ?_; (refine jag rfl rfl rfl (by kernel_rfl) rfl rfl ?_)) | (refine jaa (.call ⟨.value (.func 38), _, _⟩) ?_; (apply jam (fid := 38); (· (repeat (first | exact SeA.nil | (apply SeA.cons; (· (apply SeP.g; (repeat (first | exact SeL.nil | apply SeL.cons (.d _) | apply SeL.cons (.all _ _ _ _ rfl (by ((simp; done)))))))))))); (· exact l2Box_p _ _ _ _); (· rfl))) | refine jah ?_ | refine jaj ?_ | refine jan ?_ | refine jab ?_ | refine jcm rfl (fun hc => ?_) (fun hc => ?_))
    all_goals first | (exfalso; simp_all; done) | skip
    all_goals (apply jau; apply jaw; (· apply jbe.t; (· (apply GvA.cons; (· (apply RV.cellN (n := 4); (· rfl); (· rfl); (· kernel_rfl); (· rfl))); (· (apply GvP.g; (· (apply GvL.cons (.lit _)); (apply GvL.cons (.lit _)); (apply GvL.cons (.lit _)); ((first | apply GvL.cons (.nil 1 (by decide)) | apply GvL.cons (.row _ _ _ _ rfl (by ((simp; done)))))); exact GvL.nil)))); (apply GvA.cons; (· exact .tmp _); (· exact GvP.c (.lit _))); exact GvA.nil); (· rfl); (· (decide))))
    all_goals simp [whenN, whenL]
theorem l2Mix_p (x y : Nat) (n m : Int) (la lb : List (List Int)) (ha : boxB x y n la = true) (hb : boxB x y m lb = true) : PC Tryz.prog 97 [.g [dI x, dI y, dI n, eII la], .g [dI x, dI y, dI m, eII lb]] (.p (.g [dI x, dI y, dI (n + m), eII (bmixL la lb x y)])) := by
  have a := jbj ha; have b := jbj hb
  have a1 := a.x1; have a2 := a.x3; have a3 := a.y1; have a4 := a.y3; have a5 := a.n1; have a6 := a.n2; have b5 := b.n1; have b6 := b.n2; have al := a.len; have bl := b.len
  have hxy : y * x ≤ 3 * 3 := Nat.mul_le_mul (by omega) (by omega)
  have hxe : ((y * x : Nat) : Int) = (x : Int) * y := by rw [Int.natCast_mul, Int.mul_comm]
  rw [bmixL_rows]
  refine jar Tryz.func97 rfl rfl rfl (by kernel_rfl) rfl rfl ?_; intro _
  repeat' (first | (refine jaa (.box 26 _) ?_; refine jbc rfl rfl ?_) | (refine jaa (.alloc 26) ?_; refine jas (zs := [.int .i64 0, .int .i64 0, .int .i64 0, .slice none 0 0]) (by kernel_rfl) rfl ?_) | (refine jaa (.fieldAddr 26 _ 0) ?_; (refine jac (jad (off := 0) rfl (by kernel_rfl)) rfl ?_)) | (refine jaa (.load 3 _) ?_; (refine jac (jae rfl rfl (by kernel_rfl) rfl) rfl ?_)) | (refine jaa (.fieldAddr 26 _ 1) ?_; (refine jac (jad (off := 1) rfl (by kernel_rfl)) rfl ?_)) | (refine jaa (.fieldAddr 26 _ 2) ?_; (refine jac (jad (off := 2) rfl (by kernel_rfl)) rfl ?_)) | (refine jaa (.binOp .add 3 _ _ _) ?_; refine jac (jax rfl rfl (by (omega))) rfl ?_) | (refine jaa (.buildSlice 24 0 _) ?_; (apply jao (sz := 1) (by_ := 24); (· kernel_rfl); (· decide); (· (repeat (exact GvS.nil _))); (· (decide)); (· rfl); (· rfl); (· rfl))) | (refine jaa (.build 26 _) ?_; refine jac (jbs (cs := [_, _, _, _]) [(0, 1), (1, 1), (2, 1), (3, 1)] [.int .i64 0, .int .i64 0, .int .i64 0, .slice none 0 0] (by kernel_rfl) (by kernel_rfl) rfl) rfl ?_) | (refine jaa (.store 26 _ _) ?_; (refine jag rfl rfl rfl (by kernel_rfl) rfl rfl ?_)) | (refine jaa (.assign _) ?_; (refine jac (jal rfl) rfl ?_)) | refine jah ?_ | refine jaj ?_ | refine jai ?_ | refine jab ?_)
  apply jay [2, 3, 4, 5, 6] [2, 3, 4, 5, 18, 27, 50, 51, 55, 56] rfl; (· (repeat (first | exact Pf.nil | apply Pf.cons (.c rfl (.d rfl)) | apply Pf.cons (.c rfl (.lp rfl))))); (· (repeat (first | exact Pb.nil | apply Pb.cons (.row rfl) | (apply Pb.cons; (· apply Nb.box rfl; (repeat (first | exact Ncs.nil rfl | (apply Ncs.cons rfl; (· (first | exact .d rfl | exact .ls rfl))))))) | apply Pb.skip)))
  refine jbd [2, 3, 4, 5] [2, 3, 4, 27, 50, 51, 55, 56] (fun i => [(6, iN i)]) (fun i => [(5, .box [.d (dI x), .d (dI y), .d (dI (n + m)), .ls 18 1 0 i]), (18, .row 1 (cII (rowsF (mixR la lb) i)))]) (fun i => i ≤ y * x) (fun i => y * x - i) (0) ?_ (by (repeat (first | exact trivial | refine ⟨(by (rfl)), ?_⟩))) (by (repeat (first | exact trivial | refine ⟨(by (first | (refine jbq rfl ?_; simp  [rowsF]; done) | (refine jcv rfl ?_; simp  [rowsF]; done))), ?_⟩))) ?_
  · omega
  intro i hi
  by_cases h : i < y * x
  · obtain ⟨r1, r2⟩ := boxB_at ha (q := (i : Int)) (by omega) (by omega)
    obtain ⟨s1, s2⟩ := boxB_at hb (q := (i : Int)) (by omega) (by omega)
    repeat' (first | (refine jaa (.store 26 _ _) ?_; (refine jag rfl rfl rfl (by kernel_rfl) rfl rfl ?_)) | (refine jaa (.assign _) ?_; (refine jac (jal rfl) rfl ?_)) | (refine jaa (.move _) ?_; (refine jac (jak rfl) rfl ?_)) | (refine jaa (.fieldAddr 26 _ 3) ?_; (refine jac (jad (off := 3) rfl (by kernel_rfl)) rfl ?_)) | (refine jaa (.load 24 _) ?_; (refine jac (jae rfl rfl (by kernel_rfl) rfl) rfl ?_)) | (refine jaa (.call ⟨.builtin .len, _, #[24]⟩) ?_; (refine jac (jba rfl (by kernel_rfl)) rfl ?_)) | (refine jaa (.binOp .lss 3 _ _ _) ?_; refine jac (jbi rfl rfl) rfl ?_) | (refine jaa (.buildSlice 27 0 _) ?_; (apply jao (sz := 1) (by_ := 8); (· kernel_rfl); (· decide); (· (repeat (exact GvS.nil _))); (· (decide)); (· rfl); (· rfl); (· rfl))) | (refine jaa (.load 26 _) ?_; (refine jac (jaf rfl rfl (by kernel_rfl : tAgg _ 26 4 = true) rfl) rfl ?_)) | refine jah ?_ | refine jaj ?_ | refine jai ?_ | refine jav rfl ?_ | refine jan ?_ | refine jab ?_ | refine jbl rfl (fun hc => ?_) (fun hc => ?_))
    all_goals first | (exfalso; omega) | skip
    apply jay [2, 3, 4, 5, 6, 7, 8] [2, 3, 4, 5, 18, 27, 50, 51, 55, 56] rfl; (· (repeat (first | exact Pf.nil | apply Pf.cons (.c rfl (.d rfl)) | apply Pf.cons (.c rfl (.ls rfl)) | apply Pf.cons (.c rfl (.lp rfl))))); (· (repeat (first | exact Pb.nil | apply Pb.cons (.row rfl) | (apply Pb.cons; (· apply Nb.box rfl; (repeat (first | exact Ncs.nil rfl | (apply Ncs.cons rfl; (· (first | exact .d rfl | exact .ls rfl))))))) | apply Pb.skip)))
    refine jbd [2, 3, 4, 5, 6] [2, 3, 4, 18, 5, 50, 51, 55, 56] (fun k => [(8, iN k), (7, .c (.ls 27 1 0 k))]) (fun k => [(27, .row 1 (cI (rowF (mixR la lb i) k)))]) (fun k => k ≤ 4) (fun k => 4 - k) (0) ?_ (by (repeat (first | exact trivial | refine ⟨(by (rfl)), ?_⟩))) (by (repeat (first | exact trivial | refine ⟨(by (rfl)), ?_⟩))) ?_
    · omega
    intro k hk
    by_cases hk4 : k < 4
    · have v1 := r2 k (by omega) (by omega)
      have v2 := s2 k (by omega) (by omega)
      repeat' (first | (refine jaa (.load 3 _) ?_; (refine jac (jap rfl (by kernel_rfl) rfl) rfl ?_)) | (refine jaa (.binOp .add 3 _ _ _) ?_; refine jac (jax rfl rfl (by (omega))) rfl ?_) | (refine jaa (.assign _) ?_; (refine jac (jal rfl) rfl ?_)) | (refine jaa (.move _) ?_; (refine jac (jak rfl) rfl ?_)) | (refine jaa (.fieldAddr 26 _ 3) ?_; (refine jac (jad (off := 3) rfl (by kernel_rfl)) rfl ?_)) | (refine jaa (.load 24 _) ?_; (refine jac (jae rfl rfl (by kernel_rfl) rfl) rfl ?_)) | (refine jaa (.binOp .lss 3 _ _ _) ?_; refine jac (jbi rfl rfl) rfl ?_) | (refine jaa (.indexAddr 24 _ _) ?_; (refine jac (jbx rfl rfl (by kernel_rfl) (by (omega)) (by (omega))) rfl ?_)) | (refine jaa (.load 27 _) ?_; (refine jac (jap rfl (by kernel_rfl) rfl) rfl ?_)) | (refine jaa (.indexAddr 27 _ _) ?_; (refine jac (jcc rfl rfl (by kernel_rfl) (by (omega)) (by (omega))) rfl ?_)) | (refine jaa (.buildSlice 27 1 _) ?_; (apply jao (sz := 1) (by_ := 8); (· kernel_rfl); (· decide); (· (repeat (first | exact GvS.nil _ | apply GvS.c rfl rfl (.lit _) rfl))); (· (decide)); (· rfl); (· rfl); (· rfl))) | (refine jaa (.call ⟨.builtin .append, _, #[27, 27]⟩) ?_; ((apply jbt (sz := 1) (by_ := 8); (· rfl); (· rfl); (· ((simp; done))); (· exact .row _ _ _ _ rfl (by ((simp; done)))); (· (decide)); (· kernel_rfl); (· decide); (· (omega)); (· (omega)); (· rfl); (· rfl); (· rfl)))) | (refine jaa (.buildSlice 24 1 _) ?_; (apply jao (sz := 1) (by_ := 24); (· kernel_rfl); (· decide); (· (repeat (first | exact GvS.nil _ | apply GvS.c rfl rfl (.row _ _ _ _ rfl (by ((simp; done)))) rfl))); (· (decide)); (· rfl); (· rfl); (· rfl))) | (refine jaa (.call ⟨.builtin .append, _, #[24, 24]⟩) ?_; ((apply jbt (sz := 1) (by_ := 24); (· rfl); (· rfl); (· ((simp; done))); (· exact .row _ _ _ _ rfl (by ((simp; done)))); (· (decide)); (· kernel_rfl); (· decide); (· (omega)); (· (omega)); (· rfl); (· rfl); (· rfl)))) | (refine jaa (.store 24 _ _) ?_; (refine jaq rfl rfl rfl rfl (by kernel_rfl) rfl rfl ?_)) | refine jah ?_ | refine jaj ?_ | refine jai ?_ | refine jbh ?_ | refine jav rfl ?_ | refine jan ?_ | refine jab ?_ | refine jat 9 (fun i => i == 19) (.step 0 true (.step 1 true (.step 2 true (.step 3 true (.step 4 true (.step 5 true (.step 6 true (.step 7 true (.step 8 true (.step 9 true (.step 10 true (.step 11 true (.step 12 true (.step 13 true (.step 14 true (.step 15 true (.step 16 true (.step 17 true (.step 18 false (.step 19 false (.step 20 true .nil))))))))))))))))))))) [(0, 2097151, 2097151, true), (0, 2097151, 2097151, true), (2, 2097149, 2097151, false), (0, 2097151, 2097151, true), (12, 2097139, 2097151, true), (16, 2097135, 2097151, false), (0, 2097151, 2097151, true), (96, 2097055, 2097151, true), (128, 2097023, 2097151, false), (0, 2097151, 2097151, true), (512, 2096639, 2097151, false), (0, 2097151, 2097151, true), (3072, 2094079, 2097151, true), (4096, 2093055, 2097151, false), (0, 2097151, 2097151, true), (24576, 2072575, 2097151, true), (32768, 2064383, 2097151, false), (65792, 2031359, 2097151, true), (131072, 1966079, 2097151, false), (262145, 1835006, 2097151, false), (1048575, 1572862, 1572863, true)] (by kernel_rfl) (by kernel_rfl) ?_ | refine jbl rfl (fun hc => ?_) (fun hc => ?_))
      all_goals first | (exfalso; omega) | skip
      refine jbf ?_; refine ⟨k + 1, ?_, ?_, jcf rfl (by (repeat (first | exact trivial | refine ⟨(by (rfl)), ?_⟩))) (by (repeat (first | exact trivial | refine ⟨rfl, ?_⟩))) (by (repeat (first | exact trivial | refine ⟨(by ((refine jbq rfl ?_; simp  [rowF_snoc, mixR]; done))), ?_⟩))) (by (repeat (first | exact trivial | refine ⟨.inr rfl, ?_⟩)))⟩
      · omega
      · omega
    · have e : k = 4 := by omega
      subst e
      repeat' (first | (refine jaa (.binOp .add 3 _ _ _) ?_; refine jac (jax rfl rfl (by (omega))) rfl ?_) | (refine jaa (.assign _) ?_; (refine jac (jal rfl) rfl ?_)) | (refine jaa (.move _) ?_; (refine jac (jak rfl) rfl ?_)) | (refine jaa (.fieldAddr 26 _ 3) ?_; (refine jac (jad (off := 3) rfl (by kernel_rfl)) rfl ?_)) | (refine jaa (.load 24 _) ?_; (refine jac (jae rfl rfl (by kernel_rfl) rfl) rfl ?_)) | (refine jaa (.binOp .lss 3 _ _ _) ?_; refine jac (jbi rfl rfl) rfl ?_) | (refine jaa (.buildSlice 24 1 _) ?_; (apply jao (sz := 1) (by_ := 24); (· kernel_rfl); (· decide); (· (repeat (first | exact GvS.nil _ | apply GvS.c rfl rfl (.row _ _ _ _ rfl (by ((simp; done)))) rfl))); (· (decide)); (· rfl); (· rfl); (· rfl))) | (refine jaa (.call ⟨.builtin .append, _, #[24, 24]⟩) ?_; ((apply jbt (sz := 1) (by_ := 24); (· rfl); (· rfl); (· ((simp; done))); (· exact .row _ _ _ _ rfl (by ((simp; done)))); (· (decide)); (· kernel_rfl); (· decide); (· (omega)); (· (omega)); (· rfl); (· rfl); (· rfl)))) | (refine jaa (.store 24 _ _) ?_; (refine jaq rfl rfl rfl rfl (by kernel_rfl) rfl rfl ?_)) | refine jah ?_ | refine jaj ?_ | refine jbh ?_ | refine jav rfl ?_ | refine jab ?_ | refine jbp rfl ?_)
      all_goals first | (exfalso; omega) | skip
      refine jbf ?_; refine ⟨i + 1, ?_, ?_, jcf rfl (by (repeat (first | exact trivial | refine ⟨(by (rfl)), ?_⟩))) (by (repeat (first | exact trivial | refine ⟨rfl, ?_⟩))) (by (repeat (first | exact trivial | refine ⟨(by (first | (refine jbq rfl ?_; simp  [rowsF_snoc]; done) | rfl)), ?_⟩))) (by (repeat (first | exact trivial | refine ⟨.inr rfl, ?_⟩)))⟩
      · omega
      · omega
  · have e : i = y * x := by omega
    subst e
    repeat' (first | (refine jaa (.store 26 _ _) ?_; (refine jag rfl rfl rfl (by kernel_rfl) rfl rfl ?_)) | (refine jaa (.assign _) ?_; (refine jac (jal rfl) rfl ?_)) | (refine jaa (.move _) ?_; (refine jac (jak rfl) rfl ?_)) | (refine jaa (.fieldAddr 26 _ 3) ?_; (refine jac (jad (off := 3) rfl (by kernel_rfl)) rfl ?_)) | (refine jaa (.load 24 _) ?_; (refine jac (jae rfl rfl (by kernel_rfl) rfl) rfl ?_)) | (refine jaa (.call ⟨.builtin .len, _, #[24]⟩) ?_; (refine jac (jba rfl (by kernel_rfl)) rfl ?_)) | (refine jaa (.binOp .lss 3 _ _ _) ?_; refine jac (jbi rfl rfl) rfl ?_) | (refine jaa (.buildSlice 27 0 _) ?_; (apply jao (sz := 1) (by_ := 8); (· kernel_rfl); (· decide); (· (repeat (exact GvS.nil _))); (· (decide)); (· rfl); (· rfl); (· rfl))) | (refine jaa (.load 26 _) ?_; (refine jac (jaf rfl rfl (by kernel_rfl : tAgg _ 26 4 = true) rfl) rfl ?_)) | refine jah ?_ | refine jaj ?_ | refine jai ?_ | refine jav rfl ?_ | refine jan ?_ | refine jab ?_ | refine jbl rfl (fun hc => ?_) (fun hc => ?_))
    all_goals first | (exfalso; omega) | skip
    (apply jau; apply jaw; (· apply jbe.p; (· (apply GvA.cons; (· (apply RV.cellN (n := 4); (· rfl); (· rfl); (· kernel_rfl); (· rfl))); (· (apply GvP.g; (· (apply GvL.cons (.lit _)); (apply GvL.cons (.lit _)); (apply GvL.cons (.lit _)); ((apply GvL.cons (.row _ _ _ _ rfl (by ((simp; done)))))); exact GvL.nil)))); exact GvA.nil); (· (decide))))
    simp
theorem spMixBoxes_p (x y n : Int) (la : List (List Int)) (x2 y2 m : Int) (lb : List (List Int)) : PC Tryz.prog 108 [.g [dI x, dI y, dI n, eII la], .g [dI x2, dI y2, dI m, eII lb]]
    (.t [.g [dI (whenN (bmixB x y n la x2 y2 m lb) x), dI (whenN (bmixB x y n la x2 y2 m lb) y), dI (whenN (bmixB x y n la x2 y2 m lb) (n + m)), eII (whenL (bmixB x y n la x2 y2 m lb) (bmixL la lb x y))], .c (dB (bmixB x y n la x2 y2 m lb))]) := by
  cases hs : sameB x y n la x2 y2 m lb with
  | false =>
    have hB : bmixB x y n la x2 y2 m lb = false := by simp [bmixB, hs]
    rw [hB]
    refine jar Tryz.func108 rfl rfl rfl (by kernel_rfl) rfl rfl ?_; intro _
    repeat' (first | (refine jaa (.box 26 _) ?_; refine jbc rfl rfl ?_) | (refine jaa (.alloc 26) ?_; refine jas (zs := [.int .i64 0, .int .i64 0, .int .i64 0, .slice none 0 0]) (by kernel_rfl) rfl ?_) | (refine jaa (.assign _) ?_; (refine jac (jal rfl) rfl ?_)) | (refine jaa (.load 26 _) ?_; (refine jac (jaf rfl rfl (by kernel_rfl : tAgg _ 26 4 = true) rfl) rfl ?_)) | (refine jaa (.unOp .not 4 _) ?_; refine jac (jbz rfl) rfl ?_) | (refine jaa (.build 26 _) ?_; refine jac (jbs (cs := [_, _, _, _]) [(0, 1), (1, 1), (2, 1), (3, 1)] [.int .i64 0, .int .i64 0, .int .i64 0, .slice none 0 0] (by kernel_rfl) (by kernel_rfl) rfl) rfl ?_) | (refine jaa (.store 26 _ _) ?_; (refine jag rfl rfl rfl (by kernel_rfl) rfl rfl ?_)) | (refine jaa (.call ⟨.value (.func 113), _, _⟩) ?_; (apply jam (fid := 113); (· (repeat (first | exact SeA.nil | (apply SeA.cons; (· (apply SeP.g; (repeat (first | exact SeL.nil | apply SeL.cons (.d _))))))))); (· exact l2Same_p _ _ _ _ _ _ _ _); (· rfl))) | refine jah ?_ | refine jaj ?_ | refine jan ?_ | refine jab ?_ | refine jcm rfl (fun hc => ?_) (fun hc => ?_))
    all_goals first | (exfalso; simp_all; done) | skip
    all_goals (apply jau; apply jaw; (· apply jbe.t; (· (apply GvA.cons; (· (apply RV.cellN (n := 4); (· rfl); (· rfl); (· kernel_rfl); (· rfl))); (· (apply GvP.g; (· (apply GvL.cons (.lit _)); (apply GvL.cons (.lit _)); (apply GvL.cons (.lit _)); ((apply GvL.cons (.nil 1 (by decide)))); exact GvL.nil)))); (apply GvA.cons; (· exact .tmp _); (· exact GvP.c (.lit _))); exact GvA.nil); (· rfl); (· (decide))))
    all_goals simp [whenN, whenL]
  | true =>
    obtain ⟨ha, hb, rfl, rfl⟩ := sameB_spec hs
    have hB : bmixB x2 y2 n la x2 y2 m lb = decide (n + m ≤ 1000) := by simp [bmixB, hs]
    rw [hB]
    obtain ⟨x, y, rfl, rfl, hx, hy⟩ := box_nat ha
    have hM := mix_box ha hb
    have hK := l2Kept_t x y (n + m) (bmixL la lb x y)
    rw [hM] at hK
    refine jar Tryz.func108 rfl rfl rfl (by kernel_rfl) rfl rfl ?_; intro _
    repeat' (first | (refine jaa (.box 26 _) ?_; refine jbc rfl rfl ?_) | (refine jaa (.alloc 26) ?_; refine jas (zs := [.int .i64 0, .int .i64 0, .int .i64 0, .slice none 0 0]) (by kernel_rfl) rfl ?_) | (refine jaa (.assign _) ?_; (refine jac (jal rfl) rfl ?_)) | (refine jaa (.load 26 _) ?_; (refine jac (jaf rfl rfl (by kernel_rfl : tAgg _ 26 4 = true) rfl) rfl ?_)) | (refine jaa (.unOp .not 4 _) ?_; refine jac (jbz rfl) rfl ?_) | (refine jaa (.build 26 _) ?_; refine jac (jbs (cs := [_, _, _, _]) [(0, 1), (1, 1), (2, 1), (3, 1)] [.int .i64 0, .int .i64 0, .int .i64 0, .slice none 0 0] (by kernel_rfl) (by kernel_rfl) rfl) rfl ?_) | (refine jaa (.store 26 _ _) ?_; (refine jag rfl rfl rfl (by kernel_rfl) rfl rfl ?_)) | (refine jaa (.extract _ _) ?_; refine jac (jbm rfl rfl) rfl ?_) | (refine jaa (.call ⟨.value (.func 113), _, _⟩) ?_; ((apply jam (fid := 113); (· (repeat (first | exact SeA.nil | (apply SeA.cons; (· (apply SeP.g; (repeat (first | exact SeL.nil | apply SeL.cons (.d _))))))))); (· exact l2Same_p _ _ _ _ _ _ _ _); (· rfl)))) | (refine jaa (.call ⟨.value (.func 97), _, _⟩) ?_; ((apply jaz (fid := 97); (· (repeat (first | exact SeA.nil | (apply SeA.cons; (· (apply SeP.g; (repeat (first | exact SeL.nil | apply SeL.cons (.d _))))))))); (· exact l2Mix_p _ _ _ _ _ _ ha hb); (· rfl); (· rfl)))) | (refine jaa (.call ⟨.value (.func 104), _, _⟩) ?_; (apply so_callT (fid := 104); (· (repeat (first | exact ArgM.nil | (apply ArgM.g rfl; (· (repeat (first | exact GvM.nil | apply GvM.cons (.lit _) | apply GvM.cons (.row _ _ _ _ rfl (by ((simp; done))))))))))); (· (decide)); (· exact hK); (· rfl); (· rfl); (· rfl))) | refine jah ?_ | refine jaj ?_ | refine jan ?_ | refine jab ?_ | refine jcm rfl (fun hc => ?_) (fun hc => ?_))
    all_goals first | (exfalso; simp_all; done) | skip
    all_goals (apply jau; apply jaw; (· apply jbe.t; (· (apply GvA.cons; (· (apply RV.cellN (n := 4); (· rfl); (· rfl); (· kernel_rfl); (· rfl))); (· (apply GvP.g; (· (apply GvL.cons (.lit _)); (apply GvL.cons (.lit _)); (apply GvL.cons (.lit _)); ((apply GvL.cons (.row _ _ _ _ rfl (by ((simp; done)))))); exact GvL.nil)))); (apply GvA.cons; (· exact .tmp _); (· exact GvP.c (.lit _))); exact GvA.nil); (· rfl); (· (decide))))
    all_goals rfl
theorem l2PlayBox_p (x y : Nat) (pl : List Int) (wh : Int) (hx : x ≤ 3) (hy : y ≤ 3) (hp : bitsB pl ((x : Int) + y) = true) : PC Tryz.prog 96 [.c (dI x), .c (dI y), .c (eI pl), .c (dI wh)] (.p (.g [dI x, dI y, dI wh, eII (playL pl x y wh)])) := by
  have hl := jbk hp
  have hxy : y * x ≤ 3 * 3 := Nat.mul_le_mul (by omega) (by omega)
  have hP : playL pl x y wh = boxF (playF pl x wh) y (y * x) := by unfold playL; simp
  rw [hP]
  refine jar Tryz.func96 rfl rfl rfl (by kernel_rfl) rfl rfl ?_; intro _
  repeat' (first | (refine jaa (.alloc 26) ?_; refine jas (zs := [.int .i64 0, .int .i64 0, .int .i64 0, .slice none 0 0]) (by kernel_rfl) rfl ?_) | (refine jaa (.move _) ?_; (refine jac (jak rfl) rfl ?_)) | (refine jaa (.buildSlice 24 0 _) ?_; (apply jao (sz := 1) (by_ := 24); (· kernel_rfl); (· decide); (· (repeat (exact GvS.nil _))); (· (decide)); (· rfl); (· rfl); (· rfl))) | (refine jaa (.build 26 _) ?_; refine jac (jbs (cs := [_, _, _, _]) [(0, 1), (1, 1), (2, 1), (3, 1)] [.int .i64 0, .int .i64 0, .int .i64 0, .slice none 0 0] (by kernel_rfl) (by kernel_rfl) rfl) rfl ?_) | (refine jaa (.store 26 _ _) ?_; (refine jag rfl rfl rfl (by kernel_rfl) rfl rfl ?_)) | (refine jaa (.assign _) ?_; (refine jac (jal rfl) rfl ?_)) | refine jah ?_ | refine jaj ?_ | refine jai ?_ | refine jab ?_)
  apply jay [0, 1, 2, 3, 8, 9, 10] [8, 9, 16, 28, 47, 48] rfl; (· (repeat (first | exact Pf.nil | apply Pf.cons (.c rfl (.d rfl)) | apply Pf.cons (.c rfl (.lp rfl))))); (· (repeat (first | exact Pb.nil | apply Pb.cons (.row rfl) | (apply Pb.cons; (· apply Nb.box rfl; (repeat (first | exact Ncs.nil rfl | (apply Ncs.cons rfl; (· (first | exact .d rfl | exact .ls rfl))))))) | apply Pb.skip)))
  refine jbd [0, 1, 2, 3, 8, 9] [8, 28, 47, 48] (fun i => [(10, iN i)]) (fun i => [(9, .box [.d (dI x), .d (dI y), .d (dI wh), .ls 16 1 0 (y * i)]), (16, .row 1 (cII (boxF (playF pl x wh) y (y * i))))]) (fun i => i ≤ x) (fun i => x - i) (0) ?_ (by (repeat (first | exact trivial | refine ⟨(by (rfl)), ?_⟩))) (by (repeat (first | exact trivial | refine ⟨(by (first | (refine jcv rfl ?_; simp; done) | rfl)), ?_⟩))) ?_
  · omega
  intro i hi
  by_cases h : i < x
  · repeat' (first | (refine jaa (.move _) ?_; (refine jac (jak rfl) rfl ?_)) | (refine jaa (.store 26 _ _) ?_; (refine jag rfl rfl rfl (by kernel_rfl) rfl rfl ?_)) | (refine jaa (.assign _) ?_; (refine jac (jal rfl) rfl ?_)) | (refine jaa (.binOp .lss 3 _ _ _) ?_; refine jac (jbi rfl rfl) rfl ?_) | (refine jaa (.load 26 _) ?_; (refine jac (jaf rfl rfl (by kernel_rfl : tAgg _ 26 4 = true) rfl) rfl ?_)) | refine jah ?_ | refine jaj ?_ | refine jai ?_ | refine jav rfl ?_ | refine jan ?_ | refine jab ?_ | refine jbl rfl (fun hc => ?_) (fun hc => ?_))
    all_goals first | (exfalso; omega) | skip
    apply jay [0, 1, 2, 3, 8, 9, 10, 11] [8, 9, 16, 28, 47, 48] rfl; (· (repeat (first | exact Pf.nil | apply Pf.cons (.c rfl (.d rfl)) | apply Pf.cons (.c rfl (.lp rfl))))); (· (repeat (first | exact Pb.nil | apply Pb.cons (.row rfl) | (apply Pb.cons; (· apply Nb.box rfl; (repeat (first | exact Ncs.nil rfl | (apply Ncs.cons rfl; (· (first | exact .d rfl | exact .ls rfl))))))) | apply Pb.skip)))
    refine jbd [0, 1, 2, 3, 8, 9, 10] [8, 28, 47, 48] (fun k => [(11, iN k)]) (fun k => [(9, .box [.d (dI x), .d (dI y), .d (dI wh), .ls 16 1 0 (y * i + k)]), (16, .row 1 (cII (boxF (playF pl x wh) y (y * i + k))))]) (fun k => k ≤ y) (fun k => y - k) (0) ?_ (by (repeat (first | exact trivial | refine ⟨(by (rfl)), ?_⟩))) (by (repeat (first | exact trivial | refine ⟨(by (first | (refine jbq rfl ?_; simp; done) | (refine jcv rfl ?_; simp; done))), ?_⟩))) ?_
    · omega
    intro k hk
    by_cases hk2 : k < y
    · have hik := idx_ltN (i := i) (k := k) (X := x) (Y := y) (by omega) (by omega)
      have f1 := jck hp (i := (i : Int)) (by omega) (by omega)
      have f2 := jck hp (i := (x : Int) + k) (by omega) (by omega)
      have hr := play_row (wh := wh) f1 f2
      have hr2 : rowF (playF pl x wh i k) 4 = (List.replicate 4 (0 : Int)).set (2 * atZ pl i + atZ pl ((x : Int) + k)).toNat wh := hr.symm
      repeat' (first | (refine jaa (.move _) ?_; (refine jac (jak rfl) rfl ?_)) | (refine jaa (.assign _) ?_; (refine jac (jal rfl) rfl ?_)) | (refine jaa (.binOp .lss 3 _ _ _) ?_; refine jac (jbi rfl rfl) rfl ?_) | (refine jaa (.makeSlice 27 _ _) ?_; (refine so_make (by_ := 8) (z := .int .i64 0) (y := .lit (.int .i64 0)) rfl rfl (by kernel_rfl) (by kernel_rfl) rfl (fun _ => .lit _ rfl) (by (omega)) (by (omega)) (by (omega)) rfl ?_)) | (refine jaa (.indexAddr 27 _ _) ?_; (first | refine jac (jcc rfl rfl (by kernel_rfl) (by (omega)) (by (omega))) rfl ?_ | refine jac (jce rfl rfl (by kernel_rfl : tSl _ 27 1 = true) (by (omega)) (by (omega))) rfl ?_)) | (refine jaa (.load 3 _) ?_; (refine jac (jap rfl (by kernel_rfl) rfl) rfl ?_)) | (refine jaa (.binOp .mul 3 _ _ _) ?_; refine jac (jcw rfl rfl (by (omega))) rfl ?_) | (refine jaa (.binOp .add 3 _ _ _) ?_; refine jac (jax rfl rfl (by (omega))) rfl ?_) | (refine jaa (.store 3 _ _) ?_; ((refine jcg rfl rfl rfl rfl (.lit _) (by simp) (by simp) (by kernel_rfl) (by ((simp only [List.length_map, List.length_append, List.length_replicate, fillL_len, rowF_len, gridF_len, mkI_len, mkII_len, jcn] at *; omega))) rfl ?_; simp only [St.drop]))) | (refine jaa (.fieldAddr 26 _ 3) ?_; (refine jac (jad (off := 3) rfl (by kernel_rfl)) rfl ?_)) | (refine jaa (.load 24 _) ?_; (refine jac (jae rfl rfl (by kernel_rfl) rfl) rfl ?_)) | (refine jaa (.buildSlice 24 1 _) ?_; (apply jao (sz := 1) (by_ := 24); (· kernel_rfl); (· decide); (· (repeat (first | exact GvS.nil _ | apply GvS.c rfl rfl (.row _ _ _ _ rfl (by ((simp; done)))) rfl))); (· (decide)); (· rfl); (· rfl); (· rfl))) | (refine jaa (.call ⟨.builtin .append, _, #[24, 24]⟩) ?_; ((apply jbt (sz := 1) (by_ := 24); (· rfl); (· rfl); (· ((simp; done))); (· exact .row _ _ _ _ rfl (by ((simp; done)))); (· (decide)); (· kernel_rfl); (· decide); (· (omega)); (· (omega)); (· rfl); (· rfl); (· rfl)))) | (refine jaa (.store 24 _ _) ?_; (refine jaq rfl rfl rfl rfl (by kernel_rfl) rfl rfl ?_)) | refine jah ?_ | refine jaj ?_ | refine jai ?_ | refine jbh ?_ | refine jav rfl ?_ | refine jan ?_ | refine jab ?_ | refine jat 9 (fun i => i == 15) (.step 0 true (.step 1 true (.step 2 true (.step 3 true (.step 4 true (.step 5 true (.step 6 true (.step 7 true (.step 8 true (.step 9 true (.step 10 true (.step 11 true (.step 12 true (.step 13 true (.step 14 true (.step 15 false .nil)))))))))))))))) [(0, 65535, 65535, true), (0, 65535, 65535, true), (0, 65535, 65535, true), (6, 65529, 65535, true), (8, 65527, 65535, false), (16, 65519, 65535, true), (0, 65535, 65535, true), (0, 65535, 65535, true), (0, 65535, 65535, true), (384, 65151, 65535, true), (576, 64959, 65535, true), (1024, 64511, 65535, false), (2080, 63455, 65535, true), (0, 65535, 65535, true), (16383, 61438, 65535, true), (32767, 40959, 65535, false)] (by kernel_rfl) (by kernel_rfl) ?_ | refine jbl rfl (fun hc => ?_) (fun hc => ?_))
      all_goals first | (exfalso; omega) | skip
      refine jbf ?_; refine ⟨k + 1, ?_, ?_, jcf rfl (by (repeat (first | exact trivial | refine ⟨(by (rfl)), ?_⟩))) (by (repeat (first | exact trivial | refine ⟨rfl, ?_⟩))) (by (repeat (first | exact trivial | refine ⟨(by (first | (refine jbq rfl ?_; simp  [boxF_snoc _ _ _ _ hk2, hr2, List.map_set]; done) | rfl)), ?_⟩))) (by (repeat (first | exact trivial | refine ⟨.inr rfl, ?_⟩)))⟩
      · omega
      · omega
    · have e : k = y := by omega
      subst e
      repeat' (first | (refine jaa (.move _) ?_; (refine jac (jak rfl) rfl ?_)) | (refine jaa (.assign _) ?_; (refine jac (jal rfl) rfl ?_)) | (refine jaa (.binOp .lss 3 _ _ _) ?_; refine jac (jbi rfl rfl) rfl ?_) | (refine jaa (.makeSlice 27 _ _) ?_; (refine so_make (by_ := 8) (z := .int .i64 0) (y := .lit (.int .i64 0)) rfl rfl (by kernel_rfl) (by kernel_rfl) rfl (fun _ => .lit _ rfl) (by (omega)) (by (omega)) (by (omega)) rfl ?_)) | (refine jaa (.indexAddr 27 _ _) ?_; (first | refine jac (jcc rfl rfl (by kernel_rfl) (by (omega)) (by (omega))) rfl ?_ | refine jac (jce rfl rfl (by kernel_rfl : tSl _ 27 1 = true) (by (omega)) (by (omega))) rfl ?_)) | (refine jaa (.load 3 _) ?_; (refine jac (jap rfl (by kernel_rfl) rfl) rfl ?_)) | (refine jaa (.binOp .mul 3 _ _ _) ?_; refine jac (jcw rfl rfl (by (omega))) rfl ?_) | (refine jaa (.binOp .add 3 _ _ _) ?_; refine jac (jax rfl rfl (by (omega))) rfl ?_) | (refine jaa (.store 3 _ _) ?_; ((refine jcg rfl rfl rfl rfl (.lit _) (by simp) (by simp) (by kernel_rfl) (by (omega)) rfl ?_; simp only [St.drop]))) | (refine jaa (.fieldAddr 26 _ 3) ?_; (refine jac (jad (off := 3) rfl (by kernel_rfl)) rfl ?_)) | (refine jaa (.load 24 _) ?_; (refine jac (jae rfl rfl (by kernel_rfl) rfl) rfl ?_)) | (refine jaa (.buildSlice 24 1 _) ?_; (apply jao (sz := 1) (by_ := 24); (· kernel_rfl); (· decide); (· (repeat (first | exact GvS.nil _ | apply GvS.c rfl rfl (.row _ _ _ _ rfl (by ((simp; done)))) rfl))); (· (decide)); (· rfl); (· rfl); (· rfl))) | (refine jaa (.call ⟨.builtin .append, _, #[24, 24]⟩) ?_; ((apply jbt (sz := 1) (by_ := 24); (· rfl); (· rfl); (· ((simp; done))); (· exact .row _ _ _ _ rfl (by ((simp; done)))); (· (decide)); (· kernel_rfl); (· decide); (· (omega)); (· (omega)); (· rfl); (· rfl); (· rfl)))) | (refine jaa (.store 24 _ _) ?_; (refine jaq rfl rfl rfl rfl (by kernel_rfl) rfl rfl ?_)) | refine jah ?_ | refine jaj ?_ | refine jai ?_ | refine jbh ?_ | refine jav rfl ?_ | refine jan ?_ | refine jab ?_ | refine jat 9 (fun i => i == 15) (.step 0 true (.step 1 true (.step 2 true (.step 3 true (.step 4 true (.step 5 true (.step 6 true (.step 7 true (.step 8 true (.step 9 true (.step 10 true (.step 11 true (.step 12 true (.step 13 true (.step 14 true (.step 15 false .nil)))))))))))))))) [(0, 65535, 65535, true), (0, 65535, 65535, true), (0, 65535, 65535, true), (6, 65529, 65535, true), (8, 65527, 65535, false), (16, 65519, 65535, true), (0, 65535, 65535, true), (0, 65535, 65535, true), (0, 65535, 65535, true), (384, 65151, 65535, true), (576, 64959, 65535, true), (1024, 64511, 65535, false), (2080, 63455, 65535, true), (0, 65535, 65535, true), (16383, 61438, 65535, true), (32767, 40959, 65535, false)] (by kernel_rfl) (by kernel_rfl) ?_ | refine jbl rfl (fun hc => ?_) (fun hc => ?_))
      all_goals first | (exfalso; omega) | skip
      refine jbf ?_; refine ⟨i + 1, ?_, ?_, jcf rfl (by (repeat (first | exact trivial | refine ⟨(by (rfl)), ?_⟩))) (by (repeat (first | exact trivial | refine ⟨rfl, ?_⟩))) (by (repeat (first | exact trivial | refine ⟨(by (first | (refine jbq rfl ?_; simp  [Nat.mul_succ]; done) | (refine jcv rfl ?_; simp  [Nat.mul_succ]; done))), ?_⟩))) (by (repeat (first | exact trivial | refine ⟨.inr rfl, ?_⟩)))⟩
      · omega
      · omega
  · have e : i = x := by omega
    subst e
    repeat' (first | (refine jaa (.move _) ?_; (refine jac (jak rfl) rfl ?_)) | (refine jaa (.store 26 _ _) ?_; (refine jag rfl rfl rfl (by kernel_rfl) rfl rfl ?_)) | (refine jaa (.assign _) ?_; (refine jac (jal rfl) rfl ?_)) | (refine jaa (.binOp .lss 3 _ _ _) ?_; refine jac (jbi rfl rfl) rfl ?_) | (refine jaa (.load 26 _) ?_; (refine jac (jaf rfl rfl (by kernel_rfl : tAgg _ 26 4 = true) rfl) rfl ?_)) | refine jah ?_ | refine jaj ?_ | refine jai ?_ | refine jav rfl ?_ | refine jan ?_ | refine jab ?_ | refine jbl rfl (fun hc => ?_) (fun hc => ?_))
    all_goals first | (exfalso; omega) | skip
    (apply jau; apply jaw; (· apply jbe.p; (· (apply GvA.cons; (· (apply RV.cellN (n := 4); (· rfl); (· rfl); (· kernel_rfl); (· rfl))); (· (apply GvP.g; (· (apply GvL.cons (.lit _)); (apply GvL.cons (.lit _)); (apply GvL.cons (.lit _)); ((apply GvL.cons (.row _ _ _ _ rfl (by ((simp; done)))))); exact GvL.nil)))); exact GvA.nil); (· (decide))))
    simp

end Go.Proofs.YtpflmajlafpmcaaGreat
