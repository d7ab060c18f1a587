/- What the functions that FnConsoleWords reaches return: part of its proof. No condition beyond those of its theorems. -/
import Derived.Test.YteaeoaeogehaaaaGreatDoorProg
import Derived.Test.YteaeoaeogehaaaaGreatDoorKplainB
import Derived.Test.YteaeoaeogehaaaaGreatDoorKplainC
import Derived.WalkKit
import Derived.Test.YteaeoaeogehaaaaGreatDoorKplainA
import Derived.Lib.LaidTab
import Derived.Lib.LaidIn
import Derived.Handed
import Derived.Laws.StructEq
set_option linter.unusedSectionVars false
set_option maxRecDepth 10000
set_option maxHeartbeats 4000000
set_option linter.unusedVariables false
set_option linter.unusedSimpArgs false
namespace Go.Proofs.YteaeoaeogehaaaaGreatDoor
open Go.RowKit
variable [Glb]
abbrev dI (n : Int) : D := .lit (.int .i64 n)
abbrev dB (b : Bool) : D := .lit (.bool b)
abbrev dS (s : ByteArray) : D := .lit (.string s)
abbrev iN (k : Nat) : FV := .c (.d (dI k))
abbrev iZ (k : Int) : FV := .c (.d (dI k))
abbrev cI (l : List Int) : List D := l.map dI
abbrev eI (l : List Int) : D := .sl 1 l.length (cI l)
abbrev cII (l : List (List Int)) : List D := l.map fun x => eI x
abbrev eII (l : List (List Int)) : D := .sl 1 l.length (cII l)
section
variable {P : Program} {st : St} {dst : Option Tmp} {ty : TypeId} {pos : String} {af : Array Edge} {T : TypeId} {x y : Operand} {k : IntKind} {i : Int}
theorem jcb {l : List Int} (hx : st.ev x = .c (.d (eI l))) (hy : st.ev y = .c (.d (.lit (.int k i)))) (ht : tSl P T 1 = true) (h0 : 0 ≤ i) (h1 : i < l.length) : Qt P ⟨dst, .indexAddr T x y, ty, pos, af, none⟩ st (.c (.d (.pt [dI (atZ l i)]))) :=
 jic hx hy ht h0 h1 (jlb (jez h0 h1))
theorem jbs {l : List (List Int)} (hx : st.ev x = .c (.d (eII l))) (hy : st.ev y = .c (.d (.lit (.int k i)))) (ht : tSl P T 1 = true) (h0 : 0 ≤ i) (h1 : i < l.length) : Qt P ⟨dst, .indexAddr T x y, ty, pos, af, none⟩ st (.c (.d (.pt [eI (atZ l i)]))) :=
 jic hx hy ht h0 h1 (jlb (jez h0 h1))
theorem jdn {l : List Int} {b : Nat} {i : Int} (hx : st.ev x = .c (.lp b (0 + i.toNat * 1))) (hb : st.bl b = some (.row 1 (cI l))) (ht : tOne P T = true) (h0 : 0 ≤ i) (h1 : i < l.length) : Qt P ⟨dst, .load T x, ty, pos, af, none⟩ st (.c (.d (dI (atZ l i)))) :=
 jia hx hb ht (by rw [List.getElem?_map, Nat.zero_add, Nat.mul_one, jez h0 h1];rfl)
end
end Go.Proofs.YteaeoaeogehaaaaGreatDoor
namespace Go.Proofs.YteaeoaeogehaaaaGreatDoor
open Go.RowKit
variable [Glb]
open Go Go.RowKit
theorem pr_u8 {P : Program} {T : TypeId} (hT : P.underlying T = some (.int .u8)) : PR P T fun b : UInt8 => [dY b] := by
 intro H enc W fuel cs x h
 obtain ⟨n, rfl, -, wf⟩ := DataW.trod_int hT h
 have hn : 0 ≤ n ∧ n ≤ 255 := by
  simpa [Lit.wf, IntKind.min, IntKind.max, IntKind.signed, IntKind.bits] using wf
 have e : ((UInt8.ofNat n.toNat).toNat : Int) = n := by rw [UInt8.toNat_ofNat']; omega
 refine ⟨UInt8.ofNat n.toNat, ?_⟩
 have : VwD W [Value.int .u8 n] [D.lit (.int .u8 n)] := .one (.lit _ rfl)
 simpa only [dY, e] using this
end Go.Proofs.YteaeoaeogehaaaaGreatDoor
namespace Go.Proofs.YteaeoaeogehaaaaGreatDoor
open Go.RowKit
open Go Go.RowKit
theorem tab_in {P : Program} {W : World} {name : String} {k : IntKind} {zs : List Int} {g : Nat} {t e : TypeId} {n : Nat}
  (hg : P.globalNamed name = some g) (hty : (P.globals[g]?).map (·.type) = some t) (ht : P.underlying t = some (.array n e)) (he : P.underlying e = some (.int k)) (hce : P.cellsOf e = 1) (hct : P.cellsOf t = n) :
  ∀ (l : List (String × DataW Unit)) (ps : List MemPlace), DataW.LaidVars P W l ps → (name, Go.Lib.tabData k zs) ∈ l → Go.Lib.TabIs P W name k zs
 | [], _, _, h => by cases h
 | (n', d) :: r, ps, h, hm => by
  obtain ⟨g', t', cs, fuel, p, q, hg', ht', hvar, hd, hr, _⟩ := h
  rcases List.mem_cons.1 hm with e1|hm
  ·simp only [Prod.mk.injEq] at e1
   obtain ⟨rfl, rfl⟩ := e1
   obtain rfl := Option.some.inj (hg.symm.trans hg')
   obtain rfl := Option.some.inj (hty.symm.trans ht')
   unfold Go.Lib.TabIs
   rw [hvar, ← Go.Lib.cells_of_tab ht he hce hct hd]
  ·exact tab_in hg hty ht he hce hct r q hr hm
theorem tab_keep {P : Program} {w w' : World} {name : String} {k : IntKind} {zs : List Int} {g : Nat} (hg : P.globalNamed name = some g) (h : Go.Lib.TabIs P w name k zs) (hk : w'.heap[g]? = w.heap[g]?) : Go.Lib.TabIs P w' name k zs := by
 unfold Go.Lib.TabIs World.var? at h ⊢
 rw [hg] at h ⊢
 simpa [hk] using h
theorem tab_lt {P : Program} {w : World} {name : String} {k : IntKind} {zs : List Int} {g : Nat} (hg : P.globalNamed name = some g) (h : Go.Lib.TabIs P w name k zs) : g < w.heap.size := by
 unfold Go.Lib.TabIs World.var? at h
 rw [hg] at h
 refine Classical.byContradiction fun hn => ?_
 rw [Option.bind_some, Array.getElem?_eq_none (by omega)] at h
 cases h
end Go.Proofs.YteaeoaeogehaaaaGreatDoor
namespace Go.Proofs.YteaeoaeogehaaaaGreatDoor
open Go.RowKit
variable [Glb]
open Go Go.RowKit
theorem sk_join {P : Program} {R : St → Prop} {k : List Itm} {st : St} {c : Code} {G : Type} (U UB : List Nat) (V : G → List (Nat × FV)) (B : G → List (Nat × Blk)) (ok : G → Prop)
  (first : SK P (.code c :: .back (fun st' => ∃ g', ok g' ∧ True ∧ st'.le (st.at U UB (V g') (B g'))) :: k) st R)
  (rest : ∀ g, ok g → SK P k (st.at U UB (V g) (B g)) R) : SK P (.code c :: k) st R := by
 refine ⟨fun w0 a w hs => Code.wp_mono ?_ (first.lv w0 a w hs)⟩
 rintro e a' w' ⟨st1, h1, h2⟩
 cases e with
 | normal =>
  obtain ⟨g, hg, _, hle⟩ := h2
  exact ⟨_, h1.le hle, (rest g hg).lv⟩
 | ret => exact ⟨st1, h1, by rw [LV.ret] at *;exact h2⟩
 | exit id => exact ⟨st1, h1, h2⟩
 | goto l => exact (LV.bad trivial h2).elim
 | panic c => exact (LV.bad trivial h2).elim
 | outgrown => exact (LV.bad trivial h2).elim
theorem jkt {st : St} (c : Nat) {cs : List C} (cs' : List C) (hb : st.bl c = some (.box cs)) (e : cs = cs') : ∀ w0 a w, Sim w0 st a w → Sim w0 (st.setB c (some (.box cs'))) a w := by
 subst e
 have : st.setB c (some (.box cs)) = st := by
  unfold St.setB
  cases st with
  | mk n fr bl =>
   simp only [St.mk.injEq, true_and]
   funext k
   split
   ·rename_i h;subst h;exact hb.symm
   ·rfl
 rw [this]
 exact fun _ _ _ h => h
theorem jog {st : St} (t : Nat) {x : FV} (x' : FV) (hb : st.fr t = x) (e : x = x') : ∀ w0 a w, Sim w0 st a w → Sim w0 (st.put t x') a w := by
 subst e
 have : st.put t x = st := by
  unfold St.put
  cases st with
  | mk n fr bl =>
   simp only [St.mk.injEq, and_true, true_and]
   funext k
   split
   ·rename_i h;subst h;exact hb.symm
   ·rfl
 rw [this]
 exact fun _ _ _ h => h
section
variable {P : Program} {st : St} {dst : Option Tmp} {ty : TypeId} {pos : String} {af : Array Edge}
end
section
variable {P : Program} {ops : Array Oper} {mu : Nat → Bool} {st : St} {K : St → Prop}
theorem so_lt0 {S : St} {ok : Prop} {os : List Oper} {T : IT} {C : IT → IT} (main : ∀ Y, (ok → SO P ops mu (OT.of os Y) S K) → SO P ops mu (OT.of os (C Y)) st K) (h : ok → SO P ops mu (OT.of os T) S K) : SO P ops mu (OT.of os (IT.lt T C)) st K := main T h
theorem jmx {A1 A2 A3 : Type} {S : A1 → A2 → A3 → St} {ok : A1 → A2 → A3 → Prop} {os : List Oper} {T : IT} {C : IT → IT} (main : ∀ Y, (∀ x1 x2 x3, ok x1 x2 x3 → SO P ops mu (OT.of os Y) (S x1 x2 x3) K) → SO P ops mu (OT.of os (C Y)) st K) (h : ∀ x1 x2 x3, ok x1 x2 x3 → SO P ops mu (OT.of os T) (S x1 x2 x3) K) : SO P ops mu (OT.of os (IT.lt T C)) st K := main T h
theorem so_lt5 {A1 A2 A3 A4 A5 : Type} {S : A1 → A2 → A3 → A4 → A5 → St} {ok : A1 → A2 → A3 → A4 → A5 → Prop} {os : List Oper} {T : IT} {C : IT → IT} (main : ∀ Y, (∀ x1 x2 x3 x4 x5, ok x1 x2 x3 x4 x5 → SO P ops mu (OT.of os Y) (S x1 x2 x3 x4 x5) K) → SO P ops mu (OT.of os (C Y)) st K) (h : ∀ x1 x2 x3 x4 x5, ok x1 x2 x3 x4 x5 → SO P ops mu (OT.of os T) (S x1 x2 x3 x4 x5) K) : SO P ops mu (OT.of os (IT.lt T C)) st K := main T h
theorem jmw {A1 A2 A3 A4 A5 A6 : Type} {S : A1 → A2 → A3 → A4 → A5 → A6 → St} {ok : A1 → A2 → A3 → A4 → A5 → A6 → Prop} {os : List Oper} {T : IT} {C : IT → IT} (main : ∀ Y, (∀ x1 x2 x3 x4 x5 x6, ok x1 x2 x3 x4 x5 x6 → SO P ops mu (OT.of os Y) (S x1 x2 x3 x4 x5 x6) K) → SO P ops mu (OT.of os (C Y)) st K) (h : ∀ x1 x2 x3 x4 x5 x6, ok x1 x2 x3 x4 x5 x6 → SO P ops mu (OT.of os T) (S x1 x2 x3 x4 x5 x6) K) : SO P ops mu (OT.of os (IT.lt T C)) st K := main T h
theorem so_lt16 {A1 A2 A3 A4 A5 A6 A7 A8 A9 A10 A11 A12 A13 A14 A15 A16 : Type} {S : A1 → A2 → A3 → A4 → A5 → A6 → A7 → A8 → A9 → A10 → A11 → A12 → A13 → A14 → A15 → A16 → St} {ok : A1 → A2 → A3 → A4 → A5 → A6 → A7 → A8 → A9 → A10 → A11 → A12 → A13 → A14 → A15 → A16 → Prop} {os : List Oper} {T : IT} {C : IT → IT} (main : ∀ Y, (∀ x1 x2 x3 x4 x5 x6 x7 x8 x9 x10 x11 x12 x13 x14 x15 x16, ok x1 x2 x3 x4 x5 x6 x7 x8 x9 x10 x11 x12 x13 x14 x15 x16 → SO P ops mu (OT.of os Y) (S x1 x2 x3 x4 x5 x6 x7 x8 x9 x10 x11 x12 x13 x14 x15 x16) K) → SO P ops mu (OT.of os (C Y)) st K) (h : ∀ x1 x2 x3 x4 x5 x6 x7 x8 x9 x10 x11 x12 x13 x14 x15 x16, ok x1 x2 x3 x4 x5 x6 x7 x8 x9 x10 x11 x12 x13 x14 x15 x16 → SO P ops mu (OT.of os T) (S x1 x2 x3 x4 x5 x6 x7 x8 x9 x10 x11 x12 x13 x14 x15 x16) K) : SO P ops mu (OT.of os (IT.lt T C)) st K := main T h
end
def eqA : Value → Value → Bool
 | .int _ a, .int _ b => a == b
 | .string a, .string b => a.toList == b.toList
 | _, _ => false
def eqL : List Value → List Value → Bool
 | u :: us, v :: vs => eqA u v && eqL us vs
 | _, _ => true
@[simp] theorem eqA_t (a b : Tx) : eqA (.string (bsT a)) (.string (bsT b)) = decide (a = b) := by
 show ((bsT a).toList == (bsT b).toList) = _
 rw [ByteArray.toList_eq, ByteArray.toList_eq]
 show ((bsT a).data.toList == (bsT b).data.toList) = _
 simp only [bsT]
 rw [Bool.eq_iff_iff, beq_iff_eq, decide_eq_true_iff]
@[simp] theorem eqA_i (k k' : IntKind) (a b : Int) : eqA (.int k a) (.int k' b) = decide (a = b) := rfl
@[simp] theorem eqL_cons (u v : Value) (us vs : List Value) : eqL (u :: us) (v :: vs) = (eqA u v && eqL us vs) := rfl
@[simp] theorem eqL_nil : eqL [] [] = true := rfl
section
variable {P : Program} {w : World}
end
section
variable {P : Program} {st : St} {dst : Option Tmp} {ty : TypeId} {pos : String} {af : Array Edge} {T T' : TypeId} {x y : Operand}
end
end Go.Proofs.YteaeoaeogehaaaaGreatDoor
namespace Go.Proofs.YteaeoaeogehaaaaGreatDoor
open Go.RowKit
open Go
def sum64 (l : List Int) : Int := l.foldl (fun s n => IntKind.i64.wrap (s + n)) 0
theorem jix {l : List Int} {k : Nat} (h : k < l.length) : sum64 (l.take (k + 1)) = IntKind.i64.wrap (sum64 (l.take k) + l[k]) := by
 unfold sum64;rw [List.take_succ_eq_append_getElem h, List.foldl_append];rfl
end Go.Proofs.YteaeoaeogehaaaaGreatDoor
namespace Go.Proofs.YteaeoaeogehaaaaGreatDoor
open Go.RowKit
def bitN (c e : Nat) : Nat := c / 2 ^ e % 2
def bitsM (n c : Nat) : List Int := rowF (fun i => (bitN c (n - 1 - i) : Int)) n
def playsF (n : Nat) : List (List Int) := (List.range (2 ^ n)).map (bitsM n)
@[simp] theorem bitsM_len (n c : Nat) : (bitsM n c).length = n := by simp [bitsM]
@[simp] theorem playsF_len (n : Nat) : (playsF n).length = 2 ^ n := by simp [playsF]
theorem jee (n c : Nat) : bitsB (bitsM n c) n = true := by
 simp only [bitsB, bitsM_len, decide_true, Bool.true_and, allB, List.all_eq_true]
 intro x hx
 unfold bitsM rowF at hx
 obtain ⟨i, _, rfl⟩ := List.mem_map.1 hx
 exact jcp.2 ⟨by unfold bitN;omega, by unfold bitN;omega⟩
theorem jjc (n c : Nat) : (List.range (c + 1)).map (bitsM n) = (List.range c).map (bitsM n) ++ [bitsM n c] := by simp [List.range_succ]
theorem jmj (c e : Nat) : (c : Int) / 2 ^ e % 2 = (bitN c e : Int) := by
 unfold bitN
 rw [Int.natCast_emod, Int.natCast_ediv, Int.natCast_pow];rfl
theorem allB_at {l : List Int} {lo hi : Int} (h : allB l lo hi = true) {i : Int} (h0 : 0 ≤ i) (h1 : i < l.length) : lo ≤ atZ l i ∧ atZ l i ≤ hi := by
 unfold allB at h
 rw [List.all_eq_true] at h
 obtain ⟨k, rfl⟩ := Int.eq_ofNat_of_zero_le h0
 rw [jbw (by omega)]
 exact jcp.1 (h (l[k]'(by omega)) (List.getElem_mem _))
end Go.Proofs.YteaeoaeogehaaaaGreatDoor
namespace Go.Proofs.YteaeoaeogehaaaaGreatDoor
open Go.RowKit
open Go
def row4B (n : Int) (row : List Int) : Bool := (decide (row.length = 4) && allB row 0 n) && decide (sum64 row = n)
def sizeB (x y : Int) : Bool := inB x 1 3 && inB y 1 3
def boxB (x y n : Int) (ll : List (List Int)) : Bool := ((sizeB x y && inB n 1 1000) && decide ((ll.length : Int) = x * y)) && ll.all (row4B n)
theorem jcf {x y : Int} : sizeB x y = true ↔ (1 ≤ x ∧ x ≤ 3) ∧ (1 ≤ y ∧ y ≤ 3) := by simp [sizeB, jcp]
theorem jdi {x y : Int} (h : sizeB x y = true) : 1 ≤ x * y ∧ x * y ≤ 9 := by
 obtain ⟨⟨a, b⟩, c, d⟩ := jcf.1 h
 rcases (by omega : x = 1 ∨ x = 2 ∨ x = 3) with rfl|rfl|rfl <;> rcases (by omega : y = 1 ∨ y = 2 ∨ y = 3) with rfl|rfl|rfl <;> decide
theorem jgf {x y : Int} (h : sizeB x y = true) : IntKind.i64.wrap (x * y) = x * y := IntWalk.i64_in _ (by have := jdi h; omega)
theorem jef {n : Int} {row : List Int} (h : row4B n row = true) : row.length = 4 ∧ ∀ k (hk : k < row.length), 0 ≤ row[k] ∧ row[k] ≤ n := by
 simp only [row4B, Bool.and_eq_true, decide_eq_true_eq, allB, List.all_eq_true] at h
 exact ⟨h.1.1, fun k hk => jcp.1 (h.1.2 _ (List.getElem_mem hk))⟩
theorem row4B_sum {n : Int} {row : List Int} (h : row4B n row = true) : sum64 row = n := by simp [row4B] at h; exact h.2
structure BoxOK (x y n : Int) (ll : List (List Int)) : Prop where
 x1 : 1 ≤ x
 x3 : x ≤ 3
 y1 : 1 ≤ y
 y3 : y ≤ 3
 n1 : 1 ≤ n
 n2 : n ≤ 1000
 len : (ll.length : Int) = x * y
 row : ∀ q, (hq : q < ll.length) → row4B n ll[q] = true
theorem jbp {x y n : Int} {ll : List (List Int)} (h : boxB x y n ll = true) : BoxOK x y n ll := by
 simp only [boxB, Bool.and_eq_true, decide_eq_true_eq, List.all_eq_true] at h
 obtain ⟨⟨⟨h1, h2⟩, h3⟩, h4⟩ := h
 have a := jcf.1 h1
 have b := jcp.1 h2
 exact ⟨a.1.1, a.1.2, a.2.1, a.2.2, b.1, b.2, h3, fun q hq => h4 _ (List.getElem_mem hq)⟩
theorem jgd {x y n : Int} {ll : List (List Int)} (h : boxB x y n ll = true) {q : Int} (h0 : 0 ≤ q) (h8 : q < x * y) : (atZ ll q).length = 4 ∧ ∀ k : Int, 0 ≤ k → k < 4 → 0 ≤ atZ (atZ ll q) k ∧ atZ (atZ ll q) k ≤ n := by
 have hb := jbp h
 obtain ⟨i, rfl⟩ := Int.eq_ofNat_of_zero_le h0
 have hi : i < ll.length := by have := hb.len;omega
 rw [jbw hi]
 obtain ⟨h5, h6⟩ := jef (hb.row i hi)
 refine ⟨h5, fun k hk0 hk8 => ?_⟩
 obtain ⟨j, rfl⟩ := Int.eq_ofNat_of_zero_le hk0
 rw [jbw (by omega)]
 exact h6 j (by omega)
theorem jnu {i k X Y : Int} (h0 : 0 ≤ i) (h1 : i < X) (h2 : 0 ≤ k) (h3 : k < Y) : 0 ≤ i * Y + k ∧ i * Y + k < X * Y ∧ 0 ≤ i * Y ∧ i * Y < X * Y := by
 have hY : 0 ≤ Y := by omega
 have a : 0 ≤ i * Y := Int.mul_nonneg h0 hY
 have b : (i + 1) * Y ≤ X * Y := Int.mul_le_mul_of_nonneg_right (by omega) hY
 rw [Int.add_mul, Int.one_mul] at b
 omega
theorem jkg {i k X Y : Nat} (h1 : i < X) (h3 : k < Y) : Y * i + k < Y * X := by
 rw [Nat.mul_comm Y i, Nat.mul_comm Y X]
 have b : (i + 1) * Y ≤ X * Y := Nat.mul_le_mul_right _ (by omega)
 rw [Nat.add_mul, Nat.one_mul] at b
 omega
def boxF (f : Nat → Nat → Nat → Int) (y n : Nat) : List (List Int) := (List.range n).map fun j => rowF (f (j / y) (j % y)) 4
@[simp] theorem boxF_len (f : Nat → Nat → Nat → Int) (y n : Nat) : (boxF f y n).length = n := by simp [boxF]
theorem jgn (f : Nat → Nat → Nat → Int) (y : Nat) (i k : Nat) (h : k < y) : boxF f y (y * i + (k + 1)) = boxF f y (y * i + k) ++ [rowF (f i k) 4] := by
 have e1 : (y * i + k) / y = i := by rw [Nat.mul_comm, Nat.add_comm, Nat.add_mul_div_right _ _ (by omega), Nat.div_eq_of_lt h, Nat.zero_add]
 have e2 : (y * i + k) % y = k := by rw [Nat.mul_comm, Nat.add_comm, Nat.add_mul_mod_self_right, Nat.mod_eq_of_lt h]
 simp [boxF, ← Nat.add_assoc, List.range_succ, e1, e2]
def atB (ll : List (List Int)) (Y i k p : Int) : Int := atZ (atZ ll (i * Y + k)) p
def cntL (n : Nat) : List Int := (List.range n).map fun i : Nat => (i : Int)
@[simp] theorem cntL_len (n : Nat) : (cntL n).length = n := by simp [cntL]
theorem jhr {l : List Int} {m : Int} (hl : l.length ≤ 1000) (hb : allB l 0 m = true) (hm : 0 ≤ m) (hm2 : m ≤ 1000000) : sum64 l = l.sum ∧ 0 ≤ l.sum ∧ l.sum ≤ l.length * m := by
 have key : ∀ (l : List Int) (s : Int), 0 ≤ s → (∀ x ∈ l, 0 ≤ x ∧ x ≤ m) → s + l.length * m ≤ 1000000000000 → l.foldl (fun s n => IntKind.i64.wrap (s + n)) s = s + l.sum ∧ 0 ≤ l.sum ∧ l.sum ≤ l.length * m := by
  intro l
  induction l with
  | nil => intro s _ _ _;simp
  | cons x l ih =>
   intro s h0 hx hs
   have h1 := hx x (List.mem_cons_self ..)
   simp only [List.length_cons, Int.natCast_add, Int.add_mul] at hs ⊢
   have h2 : 0 ≤ (l.length : Int) * m := Int.mul_nonneg (by omega) hm
   obtain ⟨e1, e2, e3⟩ := ih (s + x) (by omega) (fun y hy => hx y (List.mem_cons_of_mem _ hy)) (by simp at hs;omega)
   rw [List.foldl_cons, IntWalk.i64_in _ (by simp at hs;omega), e1, List.sum_cons]
   simp at hs ⊢; omega
 unfold allB at hb
 rw [List.all_eq_true] at hb
 have hlm : (l.length : Int) * m ≤ 1000 * 1000000 := Int.mul_le_mul (by omega) hm2 hm (by omega)
 have := key l 0 (by omega) (fun x hx => jcp.1 (hb x hx)) (by omega)
 unfold sum64; omega
theorem jdz {α : Type} [Inhabited α] {l : List α} {i : Nat} (h : i < l.length) : atZ l (i : Int) ∈ l := by rw [jbw h]; exact List.getElem_mem _
def whenA {α : Type} (b : Bool) (l : List α) : List α := if b = true then l else []
def xor4 (k : Nat) (m : Int) : Int := ((k ^^^ m.toNat : Nat) : Int)
theorem jlq {k : Nat} {m : Int} (hk : k < 4) (h0 : 0 ≤ m) (h4 : m < 4) : bits .xor .i64 (k : Int) m = xor4 k m ∧ 0 ≤ xor4 k m ∧ xor4 k m < 4 := by
 rcases (by omega : k = 0 ∨ k = 1 ∨ k = 2 ∨ k = 3) with rfl|rfl|rfl|rfl <;> rcases (by omega : m = 0 ∨ m = 1 ∨ m = 2 ∨ m = 3) with rfl|rfl|rfl|rfl <;> exact ⟨rfl, by decide, by decide⟩
def flipOf (fl : List Int) (X x y : Int) : Int := 2 * atZ fl x + atZ fl (X + y)
def askR (X Y : Int) (wi : List (List Int)) (fl : List Int) (x y : Int) : List Int := rowF (fun k => atZ (atZ wi (x * Y + y)) (xor4 k (flipOf fl X x y))) 4
@[simp] theorem askR_len (X Y : Int) (wi : List (List Int)) (fl : List Int) (x y : Int) : (askR X Y wi fl x y).length = 4 := by simp [askR]
theorem jpe {α : Type} (b : Bool) (l : List α) : (whenA b l).length ≤ l.length := by unfold whenA; split <;> simp
def at2 (ll : List (List Int)) (q k : Nat) : Int := atZ (atZ ll (q : Int)) (k : Int)
theorem jet {f : Nat → Bool} {n k : Nat} (h : k < n) (hf : f k = false) : (List.range n).all f = false := by
 rw [← Bool.not_eq_true, List.all_eq_true];intro H;have := H k (List.mem_range.2 h);rw [hf] at this;cases this
theorem jlw {f : Nat → Bool} {k : Nat} : (List.range (k + 1)).all f = ((List.range k).all f && f k) := by simp [List.range_succ]
end Go.Proofs.YteaeoaeogehaaaaGreatDoor
namespace Go.Proofs.YteaeoaeogehaaaaGreatDoor
open Go.RowKit
variable [Glb]
open Go
def riseAt (l : List Int) (lo hi : Int) (i : Nat) : Bool := inB (atZ l i) lo hi && (decide (i = 0) || decide (atZ l ((i : Int) - 1) < atZ l i))
def riseB (l : List Int) (lo hi : Int) : Bool := (List.range l.length).all fun i => riseAt l lo hi i
theorem riseB_f {l : List Int} {lo hi : Int} {k : Nat} (h : k < l.length) (hf : riseAt l lo hi k = false) : riseB l lo hi = false := jet h hf
def ctxB (n : Int) (l : List Int) : Bool := decide (0 < l.length) && riseB l 0 (n - 1)
def sceneB (ev : Int) (cc : List (List Int)) (ss : List Int) : Bool := inB ev 0 12 && (decide (cc.length ≤ 10) && (bitsB ss cc.length && cc.all (ctxB ev)))
structure SceneOK (ev : Int) (cc : List (List Int)) (ss : List Int) : Prop where
 e0 : 0 ≤ ev
 e12 : ev ≤ 12
 c10 : cc.length ≤ 10
 sl : ss.length = cc.length
 sb : bitsB ss cc.length = true
 ctx : ∀ q, (hq : q < cc.length) → ctxB ev cc[q] = true
theorem jcc {ev : Int} {cc : List (List Int)} {ss : List Int} (h : sceneB ev cc ss = true) : SceneOK ev cc ss := by
 simp only [sceneB, Bool.and_eq_true, decide_eq_true_eq, List.all_eq_true] at h
 obtain ⟨h1, h2, h3, h4⟩ := h
 have a := jcp.1 h1
 have := jce h3
 exact ⟨a.1, a.2, h2, by omega, h3, fun q hq => h4 _ (List.getElem_mem hq)⟩
def hallB (bx by_ bwh : Int) (bll : List (List Int)) (pl : List Int) (ev : Int) (cc : List (List Int)) (ss nu : List Int) (co : Int) : Bool :=
 boxB bx by_ bwh bll && (bitsB pl (bx + by_) && (sceneB ev cc ss && (bitsB nu ev && inB co 0 1000)))
theorem jjo {l : List Int} {lo hi : Int} {k : Nat} (hk : (k : Int) < l.length) (h : inB (atZ l k) lo hi = false ∨ ((k : Int) > 0 ∧ atZ l ((k : Int) - 1) ≥ atZ l k)) : riseB l lo hi = false := by
 refine riseB_f (k := k) (by omega) ?_
 unfold riseAt
 rcases h with h | ⟨h1, h2⟩
 ·simp [h]
 ·have : ¬ k = 0 := by omega
  have h3 : ¬ atZ l ((k : Int) - 1) < atZ l k := by omega
  simp [this, h3]
theorem jhg {l : List Int} {lo hi : Int} {k : Nat} (ha : (List.range k).all (riseAt l lo hi) = true) (h : inB (atZ l k) lo hi = true) (h2 : ¬ (k : Int) > 0 ∨ ¬ atZ l ((k : Int) - 1) ≥ atZ l k) : (List.range (k + 1)).all (riseAt l lo hi) = true := by
 rw [jlw, ha, Bool.true_and]
 unfold riseAt
 rcases h2 with h2 | h2
 ·have : k = 0 := by omega
  simp [h, this]
  subst this; simpa using h
 ·have h3 : atZ l ((k : Int) - 1) < atZ l k := by omega
  simp [h, h3]
structure HallOK (bx by_ bwh : Int) (bll : List (List Int)) (pl : List Int) (ev : Int) (cc : List (List Int)) (ss nu : List Int) (co : Int) : Prop where
 box : boxB bx by_ bwh bll = true
 pl : bitsB pl (bx + by_) = true
 sc : sceneB ev cc ss = true
 nu : bitsB nu ev = true
 co : inB co 0 1000 = true
theorem jed {bx by_ bwh : Int} {bll : List (List Int)} {pl : List Int} {ev : Int} {cc : List (List Int)} {ss nu : List Int} {co : Int} (h : hallB bx by_ bwh bll pl ev cc ss nu co = true) : HallOK bx by_ bwh bll pl ev cc ss nu co := by
 simp only [hallB, Bool.and_eq_true] at h
 exact ⟨h.1, h.2.1, h.2.2.1, h.2.2.2.1, h.2.2.2.2⟩
def zerosL (n : Nat) : List Int := List.replicate n 0
@[simp] theorem zerosL_len (n : Nat) : (zerosL n).length = n := by simp [zerosL]
theorem jhm (n : Nat) : bitsB (zerosL n) n = true := by simp [bitsB, allB, zerosL, inB]
def newB (bx by_ bwh : Int) (bll : List (List Int)) (ev : Int) (cc : List (List Int)) (ss : List Int) : Bool := boxB bx by_ bwh bll && sceneB ev cc ss
structure NewOK (bx by_ bwh : Int) (bll : List (List Int)) (ev : Int) (cc : List (List Int)) (ss : List Int) : Prop where
 x1 : 1 ≤ bx
 x3 : bx ≤ 3
 y1 : 1 ≤ by_
 y3 : by_ ≤ 3
 e0 : 0 ≤ ev
 e12 : ev ≤ 12
 bl : bll.length ≤ 9
 br : ∀ r ∈ bll, r.length ≤ 1000000
 cl : cc.length ≤ 10
 cr : ∀ r ∈ cc, r.length ≤ 1000000
 cb : ∀ r ∈ cc, allB r 0 1000 = true
 sl : ss.length ≤ 10
theorem rise_lt {l : List Int} {lo hi : Int} (h : riseB l lo hi = true) : ∀ i : Nat, i < l.length → lo + i ≤ atZ l i ∧ atZ l i ≤ hi := by
 intro i
 induction i with
 | zero =>
  intro hi
  unfold riseB at h
  rw [List.all_eq_true] at h
  have := h 0 (List.mem_range.2 hi)
  simp only [riseAt, Bool.and_eq_true] at this
  have := jcp.1 this.1
  simp at this ⊢; omega
 | succ i ih =>
  intro hi
  have a := ih (by omega)
  unfold riseB at h
  rw [List.all_eq_true] at h
  have b := h (i + 1) (List.mem_range.2 hi)
  simp only [riseAt, Bool.and_eq_true, Bool.or_eq_true, decide_eq_true_eq] at b
  have c := jcp.1 b.1
  rcases b.2 with e | e
  ·omega
  ·rw [show ((i + 1 : Nat) : Int) - 1 = (i : Int) by omega] at e
   omega
theorem jhk {n : Int} {l : List Int} (hn : n ≤ 1000) (h : ctxB n l = true) : l.length ≤ 1000 ∧ allB l 0 1000 = true := by
 simp only [ctxB, Bool.and_eq_true] at h
 have hr := rise_lt h.2
 constructor
 ·rcases Nat.eq_zero_or_pos l.length with e|e
  ·omega
  ·have := hr (l.length - 1) (by omega);omega
 ·unfold allB
  rw [List.all_eq_true]
  intro x hx
  obtain ⟨i, hi, rfl⟩ := List.getElem_of_mem hx
  have := hr i hi
  rw [jbw hi] at this
  exact jcp.2 (by omega)
theorem jfi {bx by_ bwh : Int} {bll : List (List Int)} {ev : Int} {cc : List (List Int)} {ss : List Int} (h : newB bx by_ bwh bll ev cc ss = true) : NewOK bx by_ bwh bll ev cc ss := by
 simp only [newB, Bool.and_eq_true] at h
 have b := jbp h.1
 have s := jcc h.2
 have m := jdi (jcf.2 ⟨⟨b.x1, b.x3⟩, b.y1, b.y3⟩)
 have hl := b.len
 have c : ∀ r ∈ cc, r.length ≤ 1000 ∧ allB r 0 1000 = true := fun r hr => by
  obtain ⟨i, hi, rfl⟩ := List.getElem_of_mem hr
  exact jhk (by have := s.e12;omega) (s.ctx i hi)
 refine ⟨b.x1, b.x3, b.y1, b.y3, s.e0, s.e12, by omega, fun r hr => ?_, s.c10, fun r hr => by have := (c r hr).1;omega, fun r hr => (c r hr).2, by have := s.sl;have := s.c10;omega⟩
 obtain ⟨i, hi, rfl⟩ := List.getElem_of_mem hr
 have := (jef (b.row i hi)).1
 omega
theorem jgw : ∀ {cc : List (List Int)} {n m : Nat}, cc.length ≤ n → (∀ r ∈ cc, r.length ≤ m) → cnt cc ≤ n * m
 | [], _, _, _, _ => by simp [cnt]
 | r :: cc, 0, _, h, _ => by simp at h
 | r :: cc, n + 1, m, h, h2 => by
  have a := jgw (n := n) (m := m) (cc := cc) (by simpa using h) fun x hx => h2 x (List.mem_cons_of_mem _ hx)
  have b := h2 r (List.mem_cons_self ..)
  simp only [cnt, Nat.succ_mul];omega
theorem jnn (bx by_ bwh : Int) (bll : List (List Int)) (ev : Int) (cc : List (List Int)) (ss : List Int) :
  (cnt (whenL (newB bx by_ bwh bll ev cc ss) bll) ≤ cnt bll ∧ (whenA (newB bx by_ bwh bll ev cc ss) (zerosL (bx + by_).toNat)).length ≤ 6) ∧ (cnt (whenL (newB bx by_ bwh bll ev cc ss) cc) ≤ cnt cc ∧ (whenA (newB bx by_ bwh bll ev cc ss) ss).length ≤ ss.length) ∧ (whenA (newB bx by_ bwh bll ev cc ss) (zerosL ev.toNat)).length ≤ 12 := by
 refine ⟨⟨jlm _ _, ?_⟩, ⟨jlm _ _, jpe _ _⟩, ?_⟩
 ·cases h : newB bx by_ bwh bll ev cc ss with
  | false => simp [whenA]
  | true => have := jfi h;have a := this.x3;have b := this.y3;simp [whenA];omega
 ·cases h : newB bx by_ bwh bll ev cc ss with
  | false => simp [whenA]
  | true => have := jfi h;have a := this.e12;simp [whenA];omega
structure HallBd (bll : List (List Int)) (pl : List Int) (cc : List (List Int)) (ss nu : List Int) : Prop where
 bl : bll.length ≤ 9
 br : ∀ r ∈ bll, r.length ≤ 1000000
 cl : cc.length ≤ 10
 cr : ∀ r ∈ cc, r.length ≤ 1000000
 cb : ∀ r ∈ cc, allB r 0 1000 = true
 sl : ss.length ≤ 10
 pl6 : pl.length ≤ 6
 nl : nu.length ≤ 12
theorem jgm {bx by_ bwh : Int} {bll : List (List Int)} {pl : List Int} {ev : Int} {cc : List (List Int)} {ss nu : List Int} {co : Int} (h : hallB bx by_ bwh bll pl ev cc ss nu co = true) : HallBd bll pl cc ss nu := by
 have hH := jed h
 have hN := jfi (bx := bx) (by_ := by_) (bwh := bwh) (bll := bll) (ev := ev) (cc := cc) (ss := ss) (by simp [newB, hH.box, hH.sc])
 have a := jce hH.pl
 have b := jce hH.nu
 have x3 := hN.x3;have y3 := hN.y3;have e12 := hN.e12
 exact ⟨hN.bl, hN.br, hN.cl, hN.cr, hN.cb, hN.sl, by omega, by omega⟩
end Go.Proofs.YteaeoaeogehaaaaGreatDoor
namespace Go.Proofs.YteaeoaeogehaaaaGreatDoor
open Go.RowKit
open Go
def accN (s : Nat → Nat) (v : Nat → Int) : Nat → Nat → Int
 | 0, _ => 0
 | m + 1, p => accN s v m p + if s m = p then v m else 0
def pairB (x y n : Int) (ll : List (List Int)) : Bool := boxB x y n ll && (decide (x = 2) && decide (y = 2))
def agrZ (row : List Int) : Int := atZ row 0 - atZ row 1 - atZ row 2 + atZ row 3
end Go.Proofs.YteaeoaeogehaaaaGreatDoor
namespace Go.Proofs.YteaeoaeogehaaaaGreatDoor
open Go.RowKit
variable [Glb]
open Go
def accT (t : Nat → Int) : Nat → Int
 | 0 => 0
 | m + 1 => accT t m + t m
section
variable (la lb : List (List Int)) (f1 : List Int) (a1 s1 : List (List Int)) (f2 : List Int) (a2 s2 : List (List Int))
end
theorem box4 {X Y n : Int} {ll : List (List Int)} (h : boxB X Y n ll = true) {q : Int} (h0 : 0 ≤ q) (h1 : q < X * Y) : atZ (atZ ll q) 0 + atZ (atZ ll q) 1 + atZ (atZ ll q) 2 + atZ (atZ ll q) 3 = n := by
 have hb := jbp h
 obtain ⟨i, rfl⟩ := Int.eq_ofNat_of_zero_le h0
 have hi : i < ll.length := by have := hb.len;omega
 rw [jbw hi]
 have hr := hb.row i hi
 have hs := row4B_sum hr
 have hl := (jef hr).1
 have hn := hb.n2
 have ha : allB ll[i] 0 n = true := by simp only [row4B, Bool.and_eq_true] at hr;exact hr.1.2
 rw [(jhr (l := ll[i]) (m := n) (by omega) ha (by have := hb.n1;omega) (by omega)).1] at hs
 generalize ll[i] = r at hs hl
 match r, hl with
 | [a, b, c, d], _ => simp [atZ] at hs ⊢;omega
theorem rowF4_sum (f : Nat → Int) (h : ∀ p, p < 4 → 0 ≤ f p ∧ f p ≤ 1000000) : sum64 (rowF f 4) = f 0 + f 1 + f 2 + f 3 := by
 have h0 := h 0 (by omega);have h1 := h 1 (by omega);have h2 := h 2 (by omega);have h3 := h 3 (by omega)
 have ha : allB (rowF f 4) 0 1000000 = true := by
  unfold allB;rw [List.all_eq_true];intro x hx
  unfold rowF at hx;obtain ⟨p, hp, rfl⟩ := List.mem_map.1 hx
  exact jcp.2 (h p (List.mem_range.1 hp))
 rw [(jhr (l := rowF f 4) (m := 1000000) (by simp) ha (by omega) (by omega)).1]
 simp [rowF, List.range, List.range.loop];omega
theorem jgj {x y : Nat} {n : Int} {f : Nat → Nat → Nat → Int} (hx : 1 ≤ x ∧ x ≤ 3) (hy : 1 ≤ y ∧ y ≤ 3) (h0 : 1 ≤ n) (h1 : n ≤ 1000000) (hf : ∀ i k, i < x → k < y → (∀ p, p < 4 → 0 ≤ f i k p) ∧ f i k 0 + f i k 1 + f i k 2 + f i k 3 = n) :
  boxB x y n (boxF f y (y * x)) = decide (n ≤ 1000) := by
 have hs : sizeB x y = true := jcf.2 ⟨⟨by omega, by omega⟩, by omega, by omega⟩
 have hl : ((boxF f y (y * x)).length : Int) = (x : Int) * y := by rw [boxF_len, Int.natCast_mul, Int.mul_comm]
 have hr : (boxF f y (y * x)).all (row4B n) = true := by
  rw [List.all_eq_true];intro r hr
  unfold boxF at hr
  obtain ⟨j, hj, rfl⟩ := List.mem_map.1 hr
  have hj := List.mem_range.1 hj
  have hi : j / y < x := Nat.div_lt_of_lt_mul hj
  have hk : j % y < y := Nat.mod_lt _ (by omega)
  obtain ⟨a, b⟩ := hf _ _ hi hk
  generalize f (j / y) (j % y) = g at a b
  have a0 := a 0 (by omega);have a1 := a 1 (by omega);have a2 := a 2 (by omega);have a3 := a 3 (by omega)
  have bd : ∀ p, p < 4 → 0 ≤ g p ∧ g p ≤ n := fun p hp => by rcases (by omega : p = 0 ∨ p = 1 ∨ p = 2 ∨ p = 3) with rfl|rfl|rfl|rfl <;> omega
  have hsum := rowF4_sum g fun p hp => by have := bd p hp;omega
  simp only [row4B, rowF_len, decide_true, Bool.true_and, Bool.and_eq_true, decide_eq_true_eq, hsum, allB, List.all_eq_true]
  refine ⟨fun m hm => ?_, b⟩
  unfold rowF at hm;obtain ⟨p, hp, rfl⟩ := List.mem_map.1 hm
  exact jcp.2 (bd p (List.mem_range.1 hp))
 simp only [boxB, hs, hl, hr, decide_true, Bool.and_true, Bool.true_and, inB]
 simp; omega
section
variable {la lb : List (List Int)} {f1 : List Int} {a1 s1 : List (List Int)} {f2 : List Int} {a2 s2 : List (List Int)} {na nb : Int}
end
section
variable {la lb : List (List Int)} {f1 : List Int} {a1 s1 : List (List Int)} {f2 : List Int} {a2 s2 : List (List Int)} {na nb : Int}
end
def wireM (W : Nat → Nat → Nat → Nat → Int) (j0 m : Nat) : List (List Int) := (List.range 4).map fun j => rowF (W (j / 2) (j % 2) (if j < j0 then 16 else if j = j0 then m else 0)) 4
@[simp] theorem wireM_len (W : Nat → Nat → Nat → Nat → Int) (j0 m : Nat) : (wireM W j0 m).length = 4 := by simp [wireM]
theorem jer {x y : Nat} {n : Int} {ll : List (List Int)} (h : boxB x y n ll = true) {i k : Nat} (hi : i < x) (hk : k < y) : (∀ p : Nat, p < 4 → 0 ≤ atB ll y i k p ∧ atB ll y i k p ≤ n) ∧ atB ll y i k ((0 : Nat) : Int) + atB ll y i k ((1 : Nat) : Int) + atB ll y i k ((2 : Nat) : Int) + atB ll y i k ((3 : Nat) : Int) = n := by
 have ix := jnu (i := (i : Int)) (k := (k : Int)) (X := x) (Y := y) (by omega) (by omega) (by omega) (by omega)
 exact ⟨fun p hp => (jgd h ix.1 ix.2.1).2 p (by omega) (by omega), by have := box4 h ix.1 ix.2.1;unfold atB;simpa using this⟩
theorem jgc {X Y n : Int} {ll : List (List Int)} (h : boxB X Y n ll = true) : ∃ x y : Nat, X = x ∧ Y = y ∧ (1 ≤ x ∧ x ≤ 3) ∧ (1 ≤ y ∧ y ≤ 3) := by
 have b := jbp h
 have a1 := b.x1;have a2 := b.x3;have a3 := b.y1;have a4 := b.y3
 exact ⟨X.toNat, Y.toNat, by omega, by omega, by omega, by omega⟩
def bmixF (la lb : List (List Int)) (Y : Nat) (i k p : Nat) : Int := atB la Y i k p + atB lb Y i k p
def bmixL (la lb : List (List Int)) (X Y : Int) : List (List Int) := boxF (bmixF la lb Y.toNat) Y.toNat (Y.toNat * X.toNat)
def sameB (x y n : Int) (la : List (List Int)) (x2 y2 m : Int) (lb : List (List Int)) : Bool := boxB x y n la && (boxB x2 y2 m lb && (decide (x = x2) && decide (y = y2)))
def bmixB (x y n : Int) (la : List (List Int)) (x2 y2 m : Int) (lb : List (List Int)) : Bool := sameB x y n la x2 y2 m lb && decide (n + m ≤ 1000)
theorem joh {x y n : Int} {la : List (List Int)} {x2 y2 m : Int} {lb : List (List Int)} (h : sameB x y n la x2 y2 m lb = true) : boxB x y n la = true ∧ boxB x y m lb = true ∧ x2 = x ∧ y2 = y := by
 simp only [sameB, Bool.and_eq_true, decide_eq_true_eq] at h
 obtain ⟨h1, h2, rfl, rfl⟩ := h
 exact ⟨h1, h2, rfl, rfl⟩
theorem jjz {x y : Nat} {n m : Int} {la lb : List (List Int)} (ha : boxB x y n la = true) (hb : boxB x y m lb = true) : boxB x y (n + m) (bmixL la lb x y) = decide (n + m ≤ 1000) := by
 have a := jbp ha;have b := jbp hb
 have a1 := a.x1;have a2 := a.x3;have a3 := a.y1;have a4 := a.y3;have a5 := a.n1;have a6 := a.n2;have b5 := b.n1;have b6 := b.n2
 unfold bmixL
 simp only [Int.toNat_natCast]
 refine jgj (by omega) (by omega) (by omega) (by omega) fun i k hi hk => ?_
 obtain ⟨a7, a8⟩ := jer ha hi hk
 obtain ⟨b7, b8⟩ := jer hb hi hk
 exact ⟨fun p hp => by have := a7 p hp;have := b7 p hp;unfold bmixF;omega, by unfold bmixF;omega⟩
def playF (pl : List Int) (X : Nat) (wh : Int) (i k p : Nat) : Int := if atZ pl i = ((p / 2 : Nat) : Int) ∧ atZ pl ((X : Int) + k) = ((p % 2 : Nat) : Int) then wh else 0
def playL (pl : List Int) (X Y wh : Int) : List (List Int) := boxF (playF pl X.toNat wh) Y.toNat (Y.toNat * X.toNat)
def playB (x y : Int) (pl : List Int) (wh : Int) : Bool := sizeB x y && (bitsB pl (x + y) && inB wh 1 1000)
def swapF (ll : List (List Int)) (Y : Nat) (i k p : Nat) : Int := atB ll Y k i ((2 * (p % 2) + p / 2 : Nat) : Int)
def swapL (ll : List (List Int)) (X Y : Int) : List (List Int) := boxF (swapF ll Y.toNat) X.toNat (X.toNat * Y.toNat)
def bflF (ll : List (List Int)) (X Y : Nat) (fl : List Int) (i k p : Nat) : Int := atB ll Y i k (xor4 p (flipOf fl X i k))
def bflL (ll : List (List Int)) (X Y : Int) (fl : List Int) : List (List Int) := boxF (bflF ll X.toNat Y.toNat fl) Y.toNat (Y.toNat * X.toNat)
def gcdI (a b : Int) : Int := ((Nat.gcd a.toNat b.toNat : Nat) : Int)
def gcdR (d : Int) (row : List Int) : Int := row.foldl gcdI d
def gcdL (d : Int) (ll : List (List Int)) : Int := ll.foldl gcdR d
theorem gcdI_pos {a b : Int} (ha : 1 ≤ a) : 1 ≤ gcdI a b ∧ gcdI a b ≤ a := by
 have h1 : 0 < Nat.gcd a.toNat b.toNat := Nat.gcd_pos_of_pos_left _ (by omega)
 have h2 : Nat.gcd a.toNat b.toNat ≤ a.toNat := Nat.gcd_le_left _ (by omega)
 unfold gcdI; omega
theorem jkh : ∀ {row : List Int} {d : Int}, 1 ≤ d → 1 ≤ gcdR d row ∧ gcdR d row ≤ d
 | [], d, h => ⟨h, Int.le_refl _⟩
 | x :: row, d, h => by
  have a := gcdI_pos (b := x) h
  have b := jkh (row := row) a.1
  unfold gcdR at *
  rw [List.foldl_cons];omega
theorem jki : ∀ {ll : List (List Int)} {d : Int}, 1 ≤ d → 1 ≤ gcdL d ll ∧ gcdL d ll ≤ d
 | [], d, h => ⟨h, Int.le_refl _⟩
 | x :: ll, d, h => by
  have a := jkh (row := x) h
  have b := jki (ll := ll) a.1
  unfold gcdL at *
  rw [List.foldl_cons];omega
theorem gcdR_snoc {row : List Int} {d : Int} {k : Nat} (h : k < row.length) : gcdR d (row.take (k + 1)) = gcdI (gcdR d (row.take k)) (atZ row k) := by
 unfold gcdR;rw [List.take_succ_eq_append_getElem h, List.foldl_append, jbw h];rfl
theorem gcdL_snoc {ll : List (List Int)} {d : Int} {k : Nat} (h : k < ll.length) : gcdL d (ll.take (k + 1)) = gcdR (gcdL d (ll.take k)) (atZ ll k) := by
 unfold gcdL;rw [List.take_succ_eq_append_getElem h, List.foldl_append, jbw h];rfl
theorem gcd_step {a b : Int} (ha : 0 ≤ a) (hb : 1 ≤ b) : gcdI b (a % b) = gcdI a b := by
 have h0 := Int.emod_nonneg a (show b ≠ 0 by omega)
 have e : (a % b).toNat = a.toNat % b.toNat := by
  have h1 := Int.toNat_of_nonneg ha
  have h2 := Int.toNat_of_nonneg (show 0 ≤ b by omega)
  have : (a % b) = ((a.toNat % b.toNat : Nat) : Int) := by rw [Int.natCast_emod, h1, h2]
  omega
 unfold gcdI
 rw [e, Nat.gcd_comm a.toNat b.toNat, Nat.gcd_rec b.toNat a.toNat, Nat.gcd_comm]
theorem gcd_zero {a : Int} (ha : 0 ≤ a) : gcdI a 0 = a := by
 unfold gcdI; simp; omega
def redF (ll : List (List Int)) (Y : Nat) (d : Int) (i k p : Nat) : Int := atB ll Y i k p / d
def redL (ll : List (List Int)) (X Y : Int) (d : Int) : List (List Int) := boxF (redF ll Y.toNat d) Y.toNat (Y.toNat * X.toNat)
def evF (cc : List (List Int)) (ss : List Int) (e : Int) (i : Nat) : Int := if (atZ cc (i : Int)).contains e = true then 1 - atZ ss i else atZ ss i
def evL (cc : List (List Int)) (ss : List Int) (e : Int) : List Int := rowF (evF cc ss e) ss.length
theorem xor_pair {p : Nat} {f g : Int} (hp : p < 4) (hf : 0 ≤ f ∧ f ≤ 1) (hg : 0 ≤ g ∧ g ≤ 1) : ((0 ≤ bits .xor .i64 ((p / 2 : Nat) : Int) f ∧ bits .xor .i64 ((p / 2 : Nat) : Int) f ≤ 1) ∧ 0 ≤ bits .xor .i64 ((p % 2 : Nat) : Int) g ∧ bits .xor .i64 ((p % 2 : Nat) : Int) g ≤ 1) ∧
  2 * bits .xor .i64 ((p / 2 : Nat) : Int) f + bits .xor .i64 ((p % 2 : Nat) : Int) g = xor4 p (2 * f + g) := by
 rcases (by omega : p = 0 ∨ p = 1 ∨ p = 2 ∨ p = 3) with rfl|rfl|rfl|rfl <;> rcases (by omega : f = 0 ∨ f = 1) with rfl|rfl <;> rcases (by omega : g = 0 ∨ g = 1) with rfl|rfl <;> exact ⟨by decide, rfl⟩
def evM (cc : List (List Int)) (ss : List Int) (e : Int) (k : Nat) : List Int := rowF (fun j => if j < k then evF cc ss e j else atZ ss (j : Int)) ss.length
theorem evM_zero (cc : List (List Int)) (ss : List Int) (e : Int) : evM cc ss e 0 = ss := by
 apply List.ext_getElem
 ·simp [evM]
 ·intro i h1 h2
  simp [evM, rowF, jbw h2]
theorem evM_all (cc : List (List Int)) (ss : List Int) (e : Int) : evM cc ss e ss.length = evL cc ss e := by
 unfold evM evL
 exact jfq fun k hk => if_pos hk
@[simp] theorem evM_len (cc : List (List Int)) (ss : List Int) (e : Int) (k : Nat) : (evM cc ss e k).length = ss.length := by simp [evM]
@[simp] theorem evL_len (cc : List (List Int)) (ss : List Int) (e : Int) : (evL cc ss e).length = ss.length := by simp [evL]
theorem evM_at (cc : List (List Int)) (ss : List Int) (e : Int) {k : Nat} (h : k < ss.length) : atZ (evM cc ss e k) (k : Int) = atZ ss (k : Int) := by
 rw [jbw (by simpa using h)];simp [evM, rowF]
theorem evM_hit {cc : List (List Int)} {ss : List Int} {e : Int} {k : Nat} (h : k < ss.length) (hc : (atZ cc (k : Int)).contains e = true) : (evM cc ss e k).set k (1 - atZ ss (k : Int)) = evM cc ss e (k + 1) := by
 apply List.ext_getElem
 ·simp
 ·intro i h1 h2
  rw [List.getElem_set]
  simp only [evM, rowF, List.getElem_map, List.getElem_range]
  by_cases hi : k = i
  ·subst hi;rw [if_pos rfl, if_pos (by omega), evF, if_pos hc]
  ·rw [if_neg hi]
   by_cases h3 : i < k
   ·rw [if_pos h3, if_pos (by omega)]
   ·rw [if_neg h3, if_neg (by omega)]
theorem evM_miss {cc : List (List Int)} {ss : List Int} {e : Int} {k : Nat} (hc : ¬ (atZ cc (k : Int)).contains e = true) : evM cc ss e k = evM cc ss e (k + 1) := by
 unfold evM
 refine jfq fun i hi => ?_
 by_cases h3 : i < k
 ·rw [if_pos h3, if_pos (by omega)]
 ·rw [if_neg h3]
  by_cases h4 : i = k
  ·subst h4;rw [if_pos (by omega), evF, if_neg hc]
  ·rw [if_neg (by omega)]
theorem emod_bd0 {x n : Int} (hx : 0 ≤ x) (hn : 0 < n) : 0 ≤ x % n ∧ x % n < n ∧ x % n ≤ x := by
 refine ⟨Int.emod_nonneg _ (by omega), Int.emod_lt_of_pos _ (by omega), ?_⟩
 have h1 := Int.emod_add_mul_ediv x n
 have h2 : 0 ≤ n * (x / n) := Int.mul_nonneg (by omega) (Int.ediv_nonneg hx (by omega))
 omega
structure HD where
 bx : Int
 by_ : Int
 bwh : Int
 bll : List (List Int)
 pl : List Int
 ev : Int
 cc : List (List Int)
 ss : List Int
 nu : List Int
 co : Int
structure HV (h : HD) : Prop where
 box : boxB h.bx h.by_ h.bwh h.bll = true
 pl : bitsB h.pl (h.bx + h.by_) = true
 sc : sceneB h.ev h.cc h.ss = true
 nu : bitsB h.nu h.ev = true
def oneL (n : Nat) (a : Int) : List Int := (List.replicate n (0 : Int)).set a.toNat 1
@[simp] theorem oneL_len (n : Nat) (a : Int) : (oneL n a).length = n := by simp [oneL]
theorem oneL_bits (n : Nat) (a : Int) : bitsB (oneL n a) n = true := by
 simp only [bitsB, oneL_len, decide_true, Bool.true_and, allB, List.all_eq_true]
 intro x hx
 unfold oneL at hx
 rcases List.mem_or_eq_of_mem_set hx with h|h
 ·have := List.eq_of_mem_replicate h;subst this;decide
 ·subst h; decide
def mixOK (h : HD) (a : Int) : Bool := playB h.bx h.by_ h.pl a && bmixB h.bx h.by_ h.bwh h.bll h.bx h.by_ a (playL h.pl h.bx h.by_ a)
def callT (h : HD) (k a : Int) : Option HD :=
 if k = 1 then if mixOK h a = true then some { h with bwh := h.bwh + a, bll := bmixL h.bll (playL h.pl h.bx h.by_ a) h.bx h.by_ } else none
 else if k = 2 then if inB a 0 (h.pl.length - 1) = true then some { h with pl := h.pl.set a.toNat (1 - atZ h.pl a) } else none
 else if k = 3 then if inB a 0 (h.pl.length - 1) = true then some { h with bll := bflL h.bll h.bx h.by_ (oneL h.pl.length a) } else none
 else if k = 4 then if a = 0 then some { h with bx := h.by_, by_ := h.bx, bll := swapL h.bll h.bx h.by_, pl := partZ h.pl h.bx h.pl.length ++ partZ h.pl 0 h.bx } else none
 else if k = 5 then if a = 0 then some { h with bwh := h.bwh / gcdL h.bwh h.bll, bll := redL h.bll h.bx h.by_ (gcdL h.bwh h.bll) } else none
 else if k = 6 then if inB a 0 (h.nu.length - 1) = true then some { h with nu := h.nu.set a.toNat (1 - atZ h.nu a) } else none
 else if k = 7 then if inB a 0 (h.ev - 1) = true then some { h with ss := evL h.cc h.ss a } else none
 else none
def rowsF (g : Nat → Nat → Int) (n : Nat) : List (List Int) := (List.range n).map fun j => rowF (g j) 4
@[simp] theorem rowsF_len (g : Nat → Nat → Int) (n : Nat) : (rowsF g n).length = n := by simp [rowsF]
theorem jja (g : Nat → Nat → Int) (n : Nat) : rowsF g (n + 1) = rowsF g n ++ [rowF (g n) 4] := by simp [rowsF, List.range_succ]
theorem jlo {f : Nat → Nat → Nat → Int} {g : Nat → Nat → Int} {y n : Nat} (h : ∀ j p, j < n → p < 4 → f (j / y) (j % y) p = g j p) : boxF f y n = rowsF g n := by
 unfold boxF rowsF
 exact List.map_congr_left fun j hj => jfq fun p hp => h j p (List.mem_range.1 hj) hp
theorem jmm (ll : List (List Int)) (y j : Nat) (p : Int) : atB ll y ((j / y : Nat) : Int) ((j % y : Nat) : Int) p = atZ (atZ ll (j : Int)) p := by
 unfold atB
 have : ((j / y : Nat) : Int) * (y : Int) + ((j % y : Nat) : Int) = (j : Int) := by
  have := Nat.div_add_mod j y
  rw [← Int.natCast_mul, ← Int.natCast_add, Nat.mul_comm, this]
 rw [this]
def mixR (la lb : List (List Int)) (j p : Nat) : Int := atZ (atZ la (j : Int)) (p : Int) + atZ (atZ lb (j : Int)) (p : Int)
theorem joy {x y : Nat} (la lb : List (List Int)) : bmixL la lb x y = rowsF (mixR la lb) (y * x) := by
 unfold bmixL
 simp only [Int.toNat_natCast]
 exact jlo fun j p _ _ => by unfold bmixF mixR;rw [jmm, jmm]
def redR (ll : List (List Int)) (d : Int) (j p : Nat) : Int := atZ (atZ ll (j : Int)) (p : Int) / d
theorem redL_rows {x y : Nat} (ll : List (List Int)) (d : Int) : redL ll x y d = rowsF (redR ll d) (y * x) := by
 unfold redL
 simp only [Int.toNat_natCast]
 exact jlo fun j p _ _ => by unfold redF redR;rw [jmm]
def flM (row : List Int) (m : Int) (k : Nat) : List Int := rowF (fun j => if (xor4 j m).toNat < k then atZ row (xor4 j m) else 0) 4
@[simp] theorem flM_len (row : List Int) (m : Int) (k : Nat) : (flM row m k).length = 4 := by simp [flM]
theorem flM_zero (row : List Int) (m : Int) : flM row m 0 = List.replicate 4 0 := by simp [flM, rowF, List.range, List.range.loop]
theorem flM_set {row : List Int} {m : Int} {k : Nat} (hm : 0 ≤ m ∧ m < 4) (hk : k < 4) : (flM row m k).set (xor4 k m).toNat (atZ row k) = flM row m (k + 1) := by
 rcases (by omega : k = 0 ∨ k = 1 ∨ k = 2 ∨ k = 3) with rfl|rfl|rfl|rfl <;> rcases (by omega : m = 0 ∨ m = 1 ∨ m = 2 ∨ m = 3) with rfl|rfl|rfl|rfl <;> rfl
theorem flM_all (row : List Int) {m : Int} (hm : 0 ≤ m ∧ m < 4) : flM row m 4 = rowF (fun j => atZ row (xor4 j m)) 4 := by
 unfold flM
 refine jfq fun j hj => if_pos ?_
 have := (jlq hj hm.1 hm.2).2
 omega
theorem play_row {f g wh : Int} (hf : 0 ≤ f ∧ f ≤ 1) (hg : 0 ≤ g ∧ g ≤ 1) : (List.replicate 4 (0 : Int)).set (2 * f + g).toNat wh = rowF (fun p => if f = ((p / 2 : Nat) : Int) ∧ g = ((p % 2 : Nat) : Int) then wh else 0) 4 := by
 rcases (by omega : f = 0 ∨ f = 1) with rfl|rfl <;> rcases (by omega : g = 0 ∨ g = 1) with rfl|rfl <;> simp [rowF, List.range, List.range.loop]
def zeroH : HD := ⟨0, 0, 0, [], [], 0, [], [], [], 0⟩
def nextT (h : HD) (k a : Int) : HD × Bool := match callT h k a with
 | some r => if hallB r.bx r.by_ r.bwh r.bll r.pl r.ev r.cc r.ss r.nu (h.co + 1) = true then ({ r with co := h.co + 1 }, true) else (zeroH, false)
 | none => (zeroH, false)
structure NextOK (r : HD) (ok : Bool) : Prop where
 val : ok = true → hallB r.bx r.by_ r.bwh r.bll r.pl r.ev r.cc r.ss r.nu r.co = true
 zero : ok = false → r = zeroH
theorem nextT_ok (h : HD) (k a : Int) : NextOK (nextT h k a).1 (nextT h k a).2 := by
 unfold nextT
 cases callT h k a with
 | none => exact ⟨fun h => by simp at h, fun _ => rfl⟩
 | some r =>
  simp only
  by_cases hB : hallB r.bx r.by_ r.bwh r.bll r.pl r.ev r.cc r.ss r.nu (h.co + 1) = true
  ·rw [if_pos hB];exact ⟨fun _ => hB, fun h => by simp at h⟩
  ·rw [if_neg hB];exact ⟨fun h => by simp at h, fun _ => rfl⟩
theorem hallB_cnt {bx by_ bwh : Int} {bll : List (List Int)} {pl : List Int} {ev : Int} {cc : List (List Int)} {ss nu : List Int} {co : Int} (h : hallB bx by_ bwh bll pl ev cc ss nu co = true) :
  cnt bll ≤ 9000 ∧ pl.length ≤ 6 ∧ cnt cc ≤ 10000 ∧ ss.length ≤ 10 ∧ nu.length ≤ 12 ∧ bll.length ≤ 9 ∧ cc.length ≤ 10 := by
 have d := jgm h
 have hH := jed h
 have s := jcc hH.sc
 have b := jbp hH.box
 refine ⟨jgw (m := 1000) d.bl fun r hr => ?_, d.pl6, jgw (m := 1000) d.cl fun r hr => ?_, d.sl, d.nl, d.bl, d.cl⟩
 ·obtain ⟨i, hi, rfl⟩ := List.getElem_of_mem hr
  have := (jef (b.row i hi)).1
  omega
 ·obtain ⟨i, hi, rfl⟩ := List.getElem_of_mem hr
  exact (jhk (by have := s.e12;omega) (s.ctx i hi)).1
theorem hallB_hv {bx by_ bwh : Int} {bll : List (List Int)} {pl : List Int} {ev : Int} {cc : List (List Int)} {ss nu : List Int} {co : Int} (h : hallB bx by_ bwh bll pl ev cc ss nu co = true) (c : Int) : HV ⟨bx, by_, bwh, bll, pl, ev, cc, ss, nu, c⟩ :=
 have hH := jed h
 ⟨hH.box, hH.pl, hH.sc, hH.nu⟩
end Go.Proofs.YteaeoaeogehaaaaGreatDoor
namespace Go.Proofs.YteaeoaeogehaaaaGreatDoor
open Go.RowKit
variable [Glb]
open Go Go.RowKit
section
variable {α : Type} {c : α → List D} {n : Nat}
theorem jlj (hc : ∀ a, (c a).length = n) : ∀ l : List α, (l.flatMap c).length = l.length * n
 | [] => by simp
 | a :: l => by rw [List.flatMap_cons, List.length_append, hc, jlj hc l, List.length_cons, Nat.add_mul];omega
theorem jme (hc : ∀ a, (c a).length = n) {l : List α} {j : Nat} (h : j < l.length) : l.flatMap c = (l.take j).flatMap c ++ (c l[j] ++ (l.drop (j + 1)).flatMap c) ∧ ((l.take j).flatMap c).length = j * n := by
 refine ⟨?_, by rw [jlj hc, List.length_take];congr 1;omega⟩
 conv => lhs;rw [← List.take_append_drop j l, List.drop_eq_getElem_cons h]
 simp only [List.flatMap_append, List.flatMap_cons]
theorem flatL_cut (hc : ∀ a, (c a).length = n) {l : List α} {j : Nat} {e : α} (h : l[j]? = some e) : ((l.flatMap c).drop (j * n)).take n = c e := by
 obtain ⟨hlt, rfl⟩ := List.getElem?_eq_some_iff.1 h
 obtain ⟨h1, h2⟩ := jme hc hlt
 rw [h1, ← h2, List.drop_left, ← hc l[j], List.take_left]
end
def mkS {α : Type} (m : Int → α → α) (w : α → Nat) : Int → List α → List α
 | _, [] => []
 | k, r :: l => m k r :: mkS m w (k + w r) l
section
variable {α : Type} {m : Int → α → α} {w : α → Nat}
@[simp] theorem mkS_len : ∀ (k : Int) (l : List α), (mkS m w k l).length = l.length
 | _, [] => rfl
 | k, r :: l => by simp [mkS, mkS_len]
end
abbrev RuleE := List Int × List (List Int) × List (List Int) × Unit
end Go.Proofs.YteaeoaeogehaaaaGreatDoor
namespace Go.Proofs.YteaeoaeogehaaaaGreatDoor
open Go.RowKit
variable [Glb]
open Go
theorem jju {x y : Nat} {pl : List Int} {wh : Int} (hx : 1 ≤ x ∧ x ≤ 3) (hy : 1 ≤ y ∧ y ≤ 3) (hp : bitsB pl ((x : Int) + y) = true) (hw : 1 ≤ wh ∧ wh ≤ 1000) : boxB x y wh (playL pl x y wh) = true := by
 unfold playL
 simp only [Int.toNat_natCast]
 rw [jgj hx hy hw.1 (by omega), decide_eq_true hw.2]
 intro i k hi hk
 have f1 := jda hp (i := (i : Int)) (by omega) (by omega)
 have f2 := jda hp (i := (x : Int) + k) (by omega) (by omega)
 unfold playF
 refine ⟨fun p hp => by split <;> omega, ?_⟩
 generalize atZ pl (i : Int) = f at *
 generalize atZ pl ((x : Int) + k) = g at *
 rcases (by omega : f = 0 ∨ f = 1) with rfl|rfl <;> rcases (by omega : g = 0 ∨ g = 1) with rfl|rfl <;> simp
theorem jkj {x y : Nat} {n : Int} {ll : List (List Int)} {fl : List Int} (hb : boxB x y n ll = true) (hf : bitsB fl ((x : Int) + y) = true) : boxB x y n (bflL ll x y fl) = true := by
 have b := jbp hb
 have a1 := b.x1;have a2 := b.x3;have a3 := b.y1;have a4 := b.y3;have a5 := b.n1;have a6 := b.n2
 unfold bflL
 simp only [Int.toNat_natCast]
 rw [jgj (by omega) (by omega) (by omega) (by omega), decide_eq_true (by omega)]
 intro i k hi hk
 obtain ⟨b7, b8⟩ := jer hb hi hk
 have f1 := jda hf (i := (i : Int)) (by omega) (by omega)
 have f2 := jda hf (i := (x : Int) + k) (by omega) (by omega)
 have hm : 0 ≤ flipOf fl x i k ∧ flipOf fl x i k < 4 := by unfold flipOf;omega
 unfold bflF
 generalize flipOf fl (x : Int) (i : Int) (k : Int) = m at *
 refine ⟨fun p hp => ?_, ?_⟩
 ·have x4 := jlq hp hm.1 hm.2
  obtain ⟨t, ht⟩ := Int.eq_ofNat_of_zero_le x4.2.1
  rw [ht] at x4 ⊢
  exact (b7 t (by omega)).1
 ·have e : ∀ p : Nat, xor4 p m = ((p ^^^ m.toNat : Nat) : Int) := fun p => rfl
  rw [e, e, e, e]
  rcases (by omega : m = 0 ∨ m = 1 ∨ m = 2 ∨ m = 3) with rfl|rfl|rfl|rfl
  ·simpa using b8
  ·have c : ((0 ^^^ (1 : Int).toNat : Nat) : Int) = ((1 : Nat) : Int) ∧ ((1 ^^^ (1 : Int).toNat : Nat) : Int) = ((0 : Nat) : Int) ∧ ((2 ^^^ (1 : Int).toNat : Nat) : Int) = ((3 : Nat) : Int) ∧ ((3 ^^^ (1 : Int).toNat : Nat) : Int) = ((2 : Nat) : Int) := by decide
   rw [c.1, c.2.1, c.2.2.1, c.2.2.2];omega
  ·have c : ((0 ^^^ (2 : Int).toNat : Nat) : Int) = ((2 : Nat) : Int) ∧ ((1 ^^^ (2 : Int).toNat : Nat) : Int) = ((3 : Nat) : Int) ∧ ((2 ^^^ (2 : Int).toNat : Nat) : Int) = ((0 : Nat) : Int) ∧ ((3 ^^^ (2 : Int).toNat : Nat) : Int) = ((1 : Nat) : Int) := by decide
   rw [c.1, c.2.1, c.2.2.1, c.2.2.2];omega
  ·have c : ((0 ^^^ (3 : Int).toNat : Nat) : Int) = ((3 : Nat) : Int) ∧ ((1 ^^^ (3 : Int).toNat : Nat) : Int) = ((2 : Nat) : Int) ∧ ((2 ^^^ (3 : Int).toNat : Nat) : Int) = ((1 : Nat) : Int) ∧ ((3 ^^^ (3 : Int).toNat : Nat) : Int) = ((0 : Nat) : Int) := by decide
   rw [c.1, c.2.1, c.2.2.1, c.2.2.2];omega
def oddR (n i : Nat) : List Int := if i + 1 = n then [0, 1, 1, 0] else [1, 0, 0, 1]
def oddL (n i : Nat) : List (List Int) := (List.range i).map (oddR n)
@[simp] theorem oddL_len (n i : Nat) : (oddL n i).length = i := by simp [oddL]
theorem oddL_snoc (n i : Nat) : oddL n (i + 1) = oddL n i ++ [oddR n i] := by simp [oddL, List.range_succ]
theorem odd_box {x y : Nat} (hx : 1 ≤ x ∧ x ≤ 3) (hy : 1 ≤ y ∧ y ≤ 3) : boxB x y 2 (oddL (x * y) (x * y)) = true := by
 rcases (by omega : x = 1 ∨ x = 2 ∨ x = 3) with rfl|rfl|rfl <;> rcases (by omega : y = 1 ∨ y = 2 ∨ y = 3) with rfl|rfl|rfl <;> decide
def noiL (i : Nat) : List (List Int) := List.replicate i [1, 1, 1, 1]
theorem noi_box {x y : Nat} (hx : 1 ≤ x ∧ x ≤ 3) (hy : 1 ≤ y ∧ y ≤ 3) : boxB x y 4 (noiL (x * y)) = true := by
 rcases (by omega : x = 1 ∨ x = 2 ∨ x = 3) with rfl|rfl|rfl <;> rcases (by omega : y = 1 ∨ y = 2 ∨ y = 3) with rfl|rfl|rfl <;> decide
def valD (t : Tx) : Nat := t.foldl (fun n c => 10 * n + (c.toNat - 48)) 0
def txtZ (n : Int) : Tx := if n < 0 then 45 :: numT (-n).toNat else numT n.toNat
def magT (s : Tx) : Tx := if 1 < s.length ∧ s.head? = some 45 then s.drop 1 else s
def candZ (s : Tx) : Int := if 1 < s.length ∧ s.head? = some 45 then -(valD (magT s) : Int) else (valD (magT s) : Int)
def joinT (b : UInt8) : List Tx → Tx
 | [] => []
 | [x] => x
 | x :: y :: r => x ++ b :: joinT b (y :: r)
theorem jjg (b : UInt8) (x : Tx) {r : List Tx} (h : r ≠ []) : joinT b (x :: r) = x ++ b :: joinT b r := by
 cases r with
 | nil => exact absurd rfl h
 | cons y r => rfl
theorem jfk (b : UInt8) {m : Nat} : ∀ {l : List Tx}, (∀ x ∈ l, x.length ≤ m) → (joinT b l).length ≤ (m + 1) * l.length
 | [], _ => by simp [joinT]
 | x :: r, h => by
  have hx := h x (List.mem_cons_self ..)
  have ih := jfk b (m := m) (l := r) fun y hy => h y (List.mem_cons_of_mem _ hy)
  rw [List.length_cons, Nat.mul_add, Nat.mul_one]
  by_cases hr : r = []
  ·subst hr;simp [joinT];omega
  ·rw [jjg b x hr, List.length_append, List.length_cons];omega
theorem jfo {n : Int} (h : -999999 ≤ n ∧ n ≤ 999999) : 1 ≤ (txtZ n).length ∧ (txtZ n).length ≤ 7 := by
 have lenN : ∀ m : Nat, m ≤ 999999 → 1 ≤ (numT m).length ∧ (numT m).length ≤ 6 := fun m hm => jhh 5 m (by omega)
 unfold txtZ
 split
 ·have := lenN (-n).toNat (by omega);simp;omega
 ·have := lenN n.toNat (by omega);omega
def noneT : Tx := [110, 111, 110, 101]
def yesT : Tx := [121, 101, 115]
def noT : Tx := [110, 111]
def qT : Tx := [63]
def joinN (l : List Int) : Tx := joinT 32 (l.map txtZ)
def sayL (l : List Int) : Tx := if l = [] then noneT else joinN l
def sayB (b : Bool) : Tx := if b = true then yesT else noT
def jfu (l : List Int) : Prop := ∀ n ∈ l, -999999 ≤ n ∧ n ≤ 999999
theorem jfu.at {l : List Int} (h : jfu l) {k : Nat} (hk : k < l.length) : -999999 ≤ atZ l (k : Int) ∧ atZ l (k : Int) ≤ 999999 := by
 rw [jbw hk];exact h _ (List.getElem_mem hk)
def rowT (r : List Int) : Tx := joinT 44 (r.map txtZ)
def boxT (x y : Int) (ll : List (List Int)) : Tx := joinT 32 (txtZ x :: txtZ y :: ll.map rowT)
theorem rowT_len {r : List Int} (h : r.length = 4) (hs : jfu r) : (rowT r).length ≤ 32 := by
 have := jfk 44 (m := 7) (l := r.map txtZ) fun x hx => by
  obtain ⟨n, hn, rfl⟩ := List.mem_map.1 hx
  exact (jfo (hs n hn)).2
 rw [List.length_map, h] at this
 exact this
def candL (ws : List Tx) (k : Nat) : List Int := (List.range k).map fun j : Nat => candZ (atZ ws (j : Int))
@[simp] theorem candL_len (ws : List Tx) (k : Nat) : (candL ws k).length = k := by simp [candL]
def pop11 (m : Nat) : Nat := m % 2 + m / 2 % 2 + m / 4 % 2 + m / 8 % 2 + m / 16 % 2 + m / 32 % 2 + m / 64 % 2 + m / 128 % 2 + m / 256 % 2 + m / 512 % 2 + m / 1024 % 2
def pop (n : Nat) : Nat := n % 2 + pop11 (n / 2)
def maskK (l : List Int) : Nat → Nat
 | 0 => 0
 | k + 1 => maskK l k ||| 2 ^ (atZ l (k : Int)).toNat
def setK (nu : List Int) : Nat → Nat
 | 0 => 0
 | k + 1 => setK nu k ||| (atZ nu (k : Int)).toNat * 2 ^ k
theorem or12 {a b : Nat} (ha : a < 4096) (hb : b < 4096) : a ||| b < 4096 := Nat.or_lt_two_pow (n := 12) ha hb
theorem pow12 {e : Nat} (h : e < 12) : 2 ^ e < 4096 := Nat.pow_lt_pow_right (by omega) h
theorem jhi {l : List Int} : ∀ {k : Nat}, (∀ j : Nat, j < k → 0 ≤ atZ l (j : Int) ∧ atZ l (j : Int) < 12) → maskK l k < 4096
 | 0, _ => by simp [maskK]
 | k + 1, h => by
  have := h k (by omega)
  exact or12 (jhi fun j hj => h j (by omega)) (pow12 (by omega))
theorem jlv {nu : List Int} : ∀ {k : Nat}, k ≤ 12 → (∀ j : Nat, j < k → 0 ≤ atZ nu (j : Int) ∧ atZ nu (j : Int) ≤ 1) → setK nu k < 4096
 | 0, _, _ => by simp [setK]
 | k + 1, hk, h => by
  have hb := h k (by omega)
  refine or12 (jlv (by omega) fun j hj => h j (by omega)) ?_
  rcases (by omega : atZ nu (k : Int) = 0 ∨ atZ nu (k : Int) = 1) with e|e <;> rw [e]
  ·simp
  ·have := pow12 (e := k) (by omega);simpa using this
def keepB (cc : List (List Int)) (ss nu : List Int) (i : Nat) : Bool := decide (((pop (maskK (atZ cc (i : Int)) (atZ cc (i : Int)).length &&& setK nu nu.length) : Nat) : Int) % 2 = atZ ss (i : Int))
def keptK (cc : List (List Int)) (ss nu : List Int) (k : Nat) : List Int := ((List.range k).filter (keepB cc ss nu)).map fun i : Nat => (i : Int)
theorem jjf (cc : List (List Int)) (ss nu : List Int) (k : Nat) : keptK cc ss nu (k + 1) = if keepB cc ss nu k = true then keptK cc ss nu k ++ [(k : Int)] else keptK cc ss nu k := by
 unfold keptK
 rw [List.range_succ, List.filter_append, List.map_append]
 by_cases h : keepB cc ss nu k = true
 ·simp [List.filter, h]
 ·simp [List.filter, h]
theorem jkc (cc : List (List Int)) (ss nu : List Int) (k : Nat) : (keptK cc ss nu k).length ≤ k := by
 unfold keptK
 rw [List.length_map]
 exact Nat.le_trans (List.length_filter_le _ _) (by simp)
end Go.Proofs.YteaeoaeogehaaaaGreatDoor
namespace Go.Proofs.YteaeoaeogehaaaaGreatDoor
open Go.RowKit
open Go
def redM (rows : List Nat) (m : Nat) : Nat := rows.foldl (fun m r => min m (m ^^^ r)) m
def addM (rows : List Nat) (m : Nat) : List Nat := if redM rows m = 0 then rows else rows ++ [redM rows m]
def basM (ms : List Nat) : List Nat := ms.foldl addM []
end Go.Proofs.YteaeoaeogehaaaaGreatDoor
namespace Go.Proofs.YteaeoaeogehaaaaGreatDoor
open Go.RowKit
variable [Glb]
open Go
def keptN (cc : List (List Int)) (ss : List Int) (ev c : Nat) : Nat := (keptK cc ss (bitsM ev c) cc.length).length
def mostF (cc : List (List Int)) (ss : List Int) (ev : Nat) : Nat → Int × List Int
 | 0 => (-1, [])
 | c + 1 => if (mostF cc ss ev c).1 < (keptN cc ss ev c : Int) then ((keptN cc ss ev c : Int), bitsM ev c) else mostF cc ss ev c
theorem keptN_le (cc : List (List Int)) (ss : List Int) (ev c : Nat) : keptN cc ss ev c ≤ cc.length := jkc ..
theorem jno (cc : List (List Int)) (ss : List Int) (ev : Nat) : ∀ c, -1 ≤ (mostF cc ss ev c).1 ∧ (mostF cc ss ev c).1 ≤ cc.length
 | 0 => by show -1 ≤ (-1 : Int) ∧ (-1 : Int) ≤ _;omega
 | c + 1 => by
  have ih := jno cc ss ev c
  have k := keptN_le cc ss ev c
  unfold mostF
  split
  ·dsimp only; omega
  ·exact ih
end Go.Proofs.YteaeoaeogehaaaaGreatDoor
namespace Go.Proofs.YteaeoaeogehaaaaGreatDoor
open Go.RowKit
open Go
def maxF (f : Nat → Int) (m : Int) : Nat → Int
 | 0 => m
 | k + 1 => max (maxF f m k) (f k)
theorem maxF_ge (f : Nat → Int) (m : Int) : ∀ n, m ≤ maxF f m n
 | 0 => Int.le_refl _
 | n + 1 => by have := maxF_ge f m n;unfold maxF;omega
end Go.Proofs.YteaeoaeogehaaaaGreatDoor
namespace Go.Proofs.YteaeoaeogehaaaaGreatDoor
open Go.RowKit
variable [Glb]
open Go
def codeV (ll : List (List Int)) (k i : Nat) : Int :=
 let s := k % 2;let t := k / 2
 let w := s ^^^ (if i = 0 then s else t)
 atZ (atZ ll ((2 * (s ^^^ t) + i : Nat) : Int)) (w : Int) + atZ (atZ ll ((2 * (s ^^^ t) + i : Nat) : Int)) ((2 + (1 - w) : Nat) : Int)
def onG (ll : List (List Int)) (Y w q j : Nat) : Int := if w = 0 then atB ll Y q j 2 + atB ll Y q j 3 else atB ll Y j q 1 + atB ll Y j q 3
def szG (X Y w : Nat) : Nat := if w = 0 then X else Y
def stillG (ll : List (List Int)) (X Y w q : Nat) : Bool := (List.range (szG X Y (1 - w))).all fun j => decide (onG ll Y w q j = onG ll Y w q 0)
def quietG (ll : List (List Int)) (X Y : Nat) : Bool := (List.range 2).all fun w => (List.range (szG X Y w)).all fun q => stillG ll X Y w q
theorem stillG_no {ll : List (List Int)} {X Y w q j : Nat} (hj : j < szG X Y (1 - w)) (h : onG ll Y w q j ≠ onG ll Y w q 0) : stillG ll X Y w q = false := jet hj (decide_eq_false h)
theorem jkv {ll : List (List Int)} {X Y w q j : Nat} (hw : w < 2) (hq : q < szG X Y w) (hj : j < szG X Y (1 - w)) (h : onG ll Y w q j ≠ onG ll Y w q 0) : quietG ll X Y = false := by
 have s := stillG_no hj h
 exact jet hw (jet hq s)
theorem joi {ll : List (List Int)} {X Y : Nat} (h : ∀ w q j, w < 2 → q < szG X Y w → j < szG X Y (1 - w) → onG ll Y w q j = onG ll Y w q 0) : quietG ll X Y = true := by
 unfold quietG stillG
 simp only [List.all_eq_true, List.mem_range, decide_eq_true_eq]
 exact fun w hw q hq j hj => h w q j hw hq hj
theorem onG_bd {X Y : Nat} {n : Int} {ll : List (List Int)} (h : boxB X Y n ll = true) {w q j : Nat} (hw : w < 2) (hq : q < szG X Y w) (hj : j < szG X Y (1 - w)) : 0 ≤ onG ll Y w q j ∧ onG ll Y w q j ≤ n := by
 unfold onG szG at *
 rcases (by omega : w = 0 ∨ w = 1) with rfl|rfl
 ·simp only [if_true, Nat.sub_zero] at hq hj ⊢
  rw [if_neg (by omega)] at hj
  obtain ⟨a, b⟩ := jer h hq hj
  have b0 := a 0 (by omega);have b1 := a 1 (by omega);have b2 := a 2 (by omega);have b3 := a 3 (by omega)
  simp only [Int.natCast_zero, Int.natCast_one, Int.cast_ofNat_Int] at b b0 b1 b2 b3
  omega
 ·rw [if_neg (by omega)] at hq ⊢
  rw [if_pos rfl] at hj
  obtain ⟨a, b⟩ := jer h hj hq
  have b0 := a 0 (by omega);have b1 := a 1 (by omega);have b2 := a 2 (by omega);have b3 := a 3 (by omega)
  simp only [Int.natCast_zero, Int.natCast_one, Int.cast_ofNat_Int] at b b0 b1 b2 b3
  omega
def prL (n : Nat) : List (Nat × Nat) := if n = 2 then [(0, 1)] else if n = 3 then [(0, 1), (0, 2), (1, 2)] else []
def prA (n j : Nat) : Nat × Nat := (prL n).getD j (0, 0)
theorem jnk {n j : Nat} (h : j < (prL n).length) : (prA n j).1 < (prA n j).2 ∧ (prA n j).2 < n := by
 unfold prL at h
 split at h
 ·rename_i e; subst e
  have : j = 0 := by simpa using h
  subst this; decide
 ·split at h
  ·rename_i e; subst e
   have : j = 0 ∨ j = 1 ∨ j = 2 := by simp at h;omega
   rcases this with rfl|rfl|rfl <;> decide
  ·simp at h
theorem prL_len (n : Nat) : (prL n).length ≤ 3 := by
 unfold prL; split
 ·decide
 ·split <;> decide
def agQ (ll : List (List Int)) (Y i k : Nat) : Int := agrZ (atZ ll ((i : Int) * (Y : Int) + (k : Int)))
def sgnM (m t : Nat) (x : Int) : Int := if t = m then -x else x
def sumQ (ll : List (List Int)) (Y : Nat) (p q : Nat × Nat) (m : Nat) : Int :=
 sgnM m 0 (agQ ll Y p.1 q.1) + sgnM m 1 (agQ ll Y p.1 q.2) + sgnM m 2 (agQ ll Y p.2 q.1) + sgnM m 3 (agQ ll Y p.2 q.2)
def absI (n : Int) : Int := max n (-n)
def sumV (ll : List (List Int)) (X Y t : Nat) : Int := absI (sumQ ll Y (prA X (t / 4 / (prL Y).length)) (prA Y (t / 4 % (prL Y).length)) (t % 4))
def sumsN (X Y : Nat) : Nat := (prL X).length * (prL Y).length * 4
def greatK (ll : List (List Int)) (X Y n : Nat) : Int := maxF (sumV ll X Y) 0 n
def greatI (ll : List (List Int)) (X Y : Nat) : Int := greatK ll X Y (sumsN X Y)
theorem sumV_at (ll : List (List Int)) {X Y i k m : Nat} (hk : k < (prL Y).length) (hm : m < 4) : sumV ll X Y ((i * (prL Y).length + k) * 4 + m) = absI (sumQ ll Y (prA X i) (prA Y k) m) := by
 unfold sumV
 rw [show ((i * (prL Y).length + k) * 4 + m) / 4 = i * (prL Y).length + k by omega, show ((i * (prL Y).length + k) * 4 + m) % 4 = m by omega]
 rw [Nat.add_comm (i * _), Nat.add_mul_div_right _ _ (by omega), Nat.div_eq_of_lt hk, Nat.add_mul_mod_self_right, Nat.mod_eq_of_lt hk, Nat.zero_add]
theorem jig (ll : List (List Int)) (X Y n : Nat) : greatK ll X Y (n + 1) = max (greatK ll X Y n) (sumV ll X Y n) := rfl
theorem jlf (ll : List (List Int)) (X Y n : Nat) : 0 ≤ greatK ll X Y n := maxF_ge _ _ _
theorem jlp {X Y : Nat} {n : Int} {ll : List (List Int)} (h : boxB X Y n ll = true) {i k : Nat} (hi : i < X) (hk : k < Y) : -n ≤ agQ ll Y i k ∧ agQ ll Y i k ≤ n := by
 obtain ⟨b, e⟩ := jer h hi hk
 have b0 := b 0 (by omega);have b1 := b 1 (by omega);have b2 := b 2 (by omega);have b3 := b 3 (by omega)
 unfold agQ agrZ
 unfold atB at b0 b1 b2 b3 e
 simp only [Int.natCast_zero, Int.natCast_one, Int.cast_ofNat_Int] at b0 b1 b2 b3 e
 omega
theorem jfc {m t : Nat} {x n : Int} (h : -n ≤ x ∧ x ≤ n) : -n ≤ sgnM m t x ∧ sgnM m t x ≤ n := by unfold sgnM; split <;> omega
theorem sumQ_bd {X Y : Nat} {n : Int} {ll : List (List Int)} (h : boxB X Y n ll = true) {p q : Nat × Nat} (hp : p.1 < X ∧ p.2 < X) (hq : q.1 < Y ∧ q.2 < Y) (m : Nat) : -(4 * n) ≤ sumQ ll Y p q m ∧ sumQ ll Y p q m ≤ 4 * n := by
 have a := jfc (m := m) (t := 0) (jlp h hp.1 hq.1)
 have b := jfc (m := m) (t := 1) (jlp h hp.1 hq.2)
 have c := jfc (m := m) (t := 2) (jlp h hp.2 hq.1)
 have d := jfc (m := m) (t := 3) (jlp h hp.2 hq.2)
 unfold sumQ
 omega
theorem jlg {X Y : Nat} {n : Int} {ll : List (List Int)} (h : boxB X Y n ll = true) : greatI ll X Y ≤ 4 * n := by
 have n1 := (jbp h).n1
 have key : ∀ t, t ≤ sumsN X Y → greatK ll X Y t ≤ 4 * n := fun t => by
  induction t with
  | zero => intro _;show (0 : Int) ≤ _;omega
  | succ t ih =>
   intro ht
   rw [jig]
   have i := ih (by omega)
   have hy : 0 < (prL Y).length := by
    rcases Nat.eq_zero_or_pos (prL Y).length with e|e
    ·unfold sumsN at ht;rw [e] at ht;simp at ht
    ·exact e
   have hq : t / 4 % (prL Y).length < (prL Y).length := Nat.mod_lt _ hy
   have hp : t / 4 / (prL Y).length < (prL X).length := by
    rw [Nat.div_lt_iff_lt_mul hy]
    unfold sumsN at ht;omega
   have a := jnk hp
   have b := jnk hq
   have s := sumQ_bd h (p := prA X (t / 4 / (prL Y).length)) (q := prA Y (t / 4 % (prL Y).length)) ⟨by omega, a.2⟩ ⟨by omega, b.2⟩ (t % 4)
   unfold sumV absI
   omega
 exact key _ (Nat.le_refl _)
def tripI (ll : List (List Int)) : Int :=
 atB ll 3 0 0 3 + atB ll 3 0 1 3 + atB ll 3 0 2 3 + atB ll 3 1 0 3 + atB ll 3 1 1 3 - atB ll 3 1 2 3 + atB ll 3 2 0 3 - atB ll 3 2 1 3
  - (atB ll 3 0 0 2 + atB ll 3 0 0 3) - 2 * (atB ll 3 0 0 1 + atB ll 3 0 0 3) - (atB ll 3 0 1 1 + atB ll 3 0 1 3)
def orderL : List (List Int) := [[0, 1, 2], [0, 2, 1], [1, 0, 2], [1, 2, 0], [2, 0, 1], [2, 1, 0]]
def askdF (ll : List (List Int)) (f s : List Int) (i k p : Nat) : Int := atB ll 3 (atZ f (i : Int)) (atZ s (k : Int)) p
def askdL (ll : List (List Int)) (f s : List Int) : List (List Int) := boxF (askdF ll f s) 3 9
def startL (ll : List (List Int)) (i : Nat) : List (List Int) := if i = 0 then ll else swapL ll 3 3
def becL (ll : List (List Int)) (i a b : Nat) : List (List Int) := askdL (startL ll i) (atZ orderL (a : Int)) (atZ orderL (b : Int))
def becV (ll : List (List Int)) (i a b c : Nat) : Int := tripI (bflL (becL ll i a b) 3 3 (bitsM 6 c))
def tripK (ll : List (List Int)) (n : Nat) : Int := maxF (fun t => becV ll (t / 2304) (t / 384 % 6) (t / 64 % 6) (t % 64)) (tripI ll) n
def tripM (ll : List (List Int)) : Int := tripK ll 4608
theorem joc (ll : List (List Int)) {i a b c : Nat} (ha : a < 6) (hb : b < 6) (hc : c < 64) : tripK ll (((i * 6 + a) * 6 + b) * 64 + c + 1) = max (tripK ll (((i * 6 + a) * 6 + b) * 64 + c)) (becV ll i a b c) := by
 show max (tripK ll (((i * 6 + a) * 6 + b) * 64 + c)) (becV ll ((((i * 6 + a) * 6 + b) * 64 + c) / 2304) ((((i * 6 + a) * 6 + b) * 64 + c) / 384 % 6) ((((i * 6 + a) * 6 + b) * 64 + c) / 64 % 6) ((((i * 6 + a) * 6 + b) * 64 + c) % 64)) = _
 rw [show (((i * 6 + a) * 6 + b) * 64 + c) / 2304 = i by omega, show (((i * 6 + a) * 6 + b) * 64 + c) / 384 % 6 = a by omega, show (((i * 6 + a) * 6 + b) * 64 + c) / 64 % 6 = b by omega, show (((i * 6 + a) * 6 + b) * 64 + c) % 64 = c by omega]
def localB (ll : List (List Int)) (X Y : Nat) (n : Int) : Bool := quietG ll X Y && (decide (greatI ll X Y ≤ 2 * n) && (!decide (X = 3 ∧ Y = 3) || decide (tripM ll ≤ 0)))
def difK (k x y : Nat) : Int := ((x * y + k / 4 % 2 * x + k / 2 % 2 * y + k % 2) % 2 : Nat)
end Go.Proofs.YteaeoaeogehaaaaGreatDoor
namespace Go.Proofs.YteaeoaeogehaaaaGreatDoor
open Go.RowKit
variable [Glb]
def funL (ws : List Int) (wi : List (List Int)) : List (List Int) := gridF (fun i k => atZ (atZ wi (i : Int)) (k : Int) * atZ ws (i : Int)) wi.length 4
@[simp] theorem funL_len (ws : List Int) (wi : List (List Int)) : (funL ws wi).length = wi.length := by simp [funL]
theorem jol {n : Nat} {p : List Int} (h : p ∈ playsF n) : ∃ c, c < 2 ^ n ∧ p = bitsM n c := by
 unfold playsF at h
 obtain ⟨c, hc, rfl⟩ := List.mem_map.1 h
 exact ⟨c, List.mem_range.1 hc, rfl⟩
end Go.Proofs.YteaeoaeogehaaaaGreatDoor
namespace Go.Proofs.YteaeoaeogehaaaaGreatDoor
open Go.RowKit
variable [Glb]
open Go
end Go.Proofs.YteaeoaeogehaaaaGreatDoor
namespace Go.Proofs.YteaeoaeogehaaaaGreatDoor
open Go.RowKit
variable [Glb]
end Go.Proofs.YteaeoaeogehaaaaGreatDoor
namespace Go.Proofs.YteaeoaeogehaaaaGreatDoor
open Go.RowKit
variable [Glb]
open Go
def masksM (cc : List (List Int)) : List Nat := (List.range cc.length).map fun i : Nat => maskK (atZ cc (i : Int)) (atZ cc (i : Int)).length
def codeM (ll : List (List Int)) : List Int := rowF (fun j => codeV ll (j / 2) (j % 2)) 8
def quesW : List Tx := [[98, 111, 120], [112, 108, 97, 121], [115, 104, 97, 114, 101], [113, 117, 105, 101, 116], [97, 103, 114, 101, 101], [103, 114, 101, 97, 116], [108, 111, 99, 97, 108], [107, 101, 112, 116], [115, 111, 108, 118, 101, 100], [112, 114, 111, 111, 102], [109, 111, 115, 116], [114, 97, 110, 107], [112, 105, 99, 107, 115], [99, 111, 100, 101], [99, 104, 97, 105, 110]]
def wordJ (w : Tx) : List Tx → Nat
 | [] => 0
 | x :: r => if w = x then 0 else wordJ w r + 1
theorem jmq {w : Tx} : ∀ {l : List Tx}, w ∉ l → wordJ w l = l.length
 | [], _ => rfl
 | x :: r, h => by
  rw [List.mem_cons, not_or] at h
  unfold wordJ
  rw [if_neg h.1, jmq h.2];rfl
def callW : List Tx := [[109, 105, 120], [97, 110, 115, 119, 101, 114], [102, 108, 105, 112], [115, 119, 97, 112], [114, 101, 100, 117, 99, 101], [110, 117, 109, 98, 101, 114], [101, 118, 101, 110, 116]]
def kindN (w : Tx) : Nat := if wordJ w callW < 7 then wordJ w callW + 1 else 0
def callO (w : Tx) (ns : List Int) : Option (Int × Int) :=
 if kindN w = 0 then none
 else if kindN w = 4 ∨ kindN w = 5 then (if ns.length = 0 then some ((kindN w : Int), 0) else none)
 else if ns.length = 1 then some ((kindN w : Int), atZ ns 0) else none
def cmdB (s : Tx) : Bool := decide (s ≠ []) && plainB s 160 [35, 64]
end Go.Proofs.YteaeoaeogehaaaaGreatDoor
namespace Go.Proofs.YteaeoaeogehaaaaGreatDoor
open Go.RowKit
open Go
end Go.Proofs.YteaeoaeogehaaaaGreatDoor
namespace Go.Proofs.YteaeoaeogehaaaaGreatDoor
open Go.RowKit
variable [Glb]
open Go
def mixPl (X Y j k i : Nat) : Nat := 2 * bitN i (X + Y - 1 - j) + bitN i (Y - 1 - k)
def mixV (sh : List Int) (X Y j k i p : Nat) : Int := accN (mixPl X Y j k) (fun t => atZ sh (t : Int)) i p
def mixM (sh : List Int) (X Y i q : Nat) : List (List Int) := (List.range (Y * X)).map fun t => rowF (mixV sh X Y (t / Y) (t % Y) (if t < q then i + 1 else i)) 4
@[simp] theorem mixM_len (sh : List Int) (X Y i q : Nat) : (mixM sh X Y i q).length = Y * X := by simp [mixM]
theorem codeV_bd {n : Int} {ll : List (List Int)} (h : boxB 2 2 n ll = true) {k i : Nat} (hk : k < 4) (hi : i < 2) : 0 ≤ codeV ll k i ∧ codeV ll k i ≤ 2 * n := by
 have bd : ∀ x y p : Nat, x < 2 → y < 2 → p < 4 → 0 ≤ atZ (atZ ll ((2 * x + y : Nat) : Int)) (p : Int) ∧ atZ (atZ ll ((2 * x + y : Nat) : Int)) (p : Int) ≤ n := fun x y p hx hy hp => by
  have b := (jer (x := 2) (y := 2) h (i := x) (k := y) hx hy).1 p hp
  unfold atB at b
  have e3 : (x : Int) * ((2 : Nat) : Int) + (y : Int) = ((2 * x + y : Nat) : Int) := by omega
  rwa [e3] at b
 have x2 : ∀ {a b : Nat}, a < 2 → b < 2 → a ^^^ b < 2 := fun ha hb => Nat.xor_lt_two_pow (n := 1) ha hb
 have hs : k % 2 < 2 := by omega
 have ht : k / 2 < 2 := by omega
 have hw : (k % 2) ^^^ (if i = 0 then k % 2 else k / 2) < 2 := x2 hs (by split <;> omega)
 have b1 := bd ((k % 2) ^^^ (k / 2)) i ((k % 2) ^^^ (if i = 0 then k % 2 else k / 2)) (x2 hs ht) hi (by omega)
 have b2 := bd ((k % 2) ^^^ (k / 2)) i (2 + (1 - ((k % 2) ^^^ (if i = 0 then k % 2 else k / 2)))) (x2 hs ht) hi (by omega)
 show 0 ≤ atZ (atZ ll ((2 * ((k % 2) ^^^ (k / 2)) + i : Nat) : Int)) (((k % 2) ^^^ (if i = 0 then k % 2 else k / 2) : Nat) : Int) + atZ (atZ ll ((2 * ((k % 2) ^^^ (k / 2)) + i : Nat) : Int)) ((2 + (1 - ((k % 2) ^^^ (if i = 0 then k % 2 else k / 2))) : Nat) : Int) ∧ atZ (atZ ll ((2 * ((k % 2) ^^^ (k / 2)) + i : Nat) : Int)) (((k % 2) ^^^ (if i = 0 then k % 2 else k / 2) : Nat) : Int) + atZ (atZ ll ((2 * ((k % 2) ^^^ (k / 2)) + i : Nat) : Int)) ((2 + (1 - ((k % 2) ^^^ (if i = 0 then k % 2 else k / 2))) : Nat) : Int) ≤ 2 * n
 omega
theorem jji {n : Int} {ll : List (List Int)} (h : boxB 2 2 n ll = true) : jfu (codeM ll) := fun v hv => by
 have n2 := (jbp h).n2
 unfold codeM rowF at hv
 obtain ⟨j, hj, rfl⟩ := List.mem_map.1 hv
 have hj := List.mem_range.1 hj
 have := codeV_bd h (k := j / 2) (i := j % 2) (by omega) (by omega)
 omega
theorem jif {X Y : Nat} {n : Int} {ll : List (List Int)} (h : boxB X Y n ll = true) : -999999 ≤ greatI ll X Y ∧ greatI ll X Y ≤ 999999 := by
 have := jlg h
 have := jlf ll X Y (sumsN X Y)
 have n2 := (jbp h).n2
 unfold greatI at *
 omega
theorem jje {cc : List (List Int)} {ss : List Int} (hk : cc.length ≤ 10) (ev c : Nat) : -999999 ≤ (mostF cc ss ev c).1 ∧ (mostF cc ss ev c).1 ≤ 999999 := by
 have := jno cc ss ev c
 omega
theorem bas_len (ms : List Nat) : (basM ms).length ≤ ms.length := by
 have gen : ∀ (ms rows : List Nat), (ms.foldl addM rows).length ≤ rows.length + ms.length := fun ms => by
  induction ms with
  | nil => intro rows; simp
  | cons m ms ih =>
   intro rows
   have a : (addM rows m).length ≤ rows.length + 1 := by unfold addM;split <;> simp
   have := ih (addM rows m)
   simp only [List.foldl_cons, List.length_cons]
   omega
 have := gen ms []
 simpa [basM] using this
theorem jjb {cc : List (List Int)} (hk : cc.length ≤ 10) : -999999 ≤ ((basM (masksM cc)).length : Int) ∧ ((basM (masksM cc)).length : Int) ≤ 999999 := by
 have := bas_len (masksM cc)
 have e : (masksM cc).length = cc.length := by simp [masksM]
 omega
end Go.Proofs.YteaeoaeogehaaaaGreatDoor
namespace Go.Proofs.YteaeoaeogehaaaaGreatDoor
open Go.RowKit
variable [Glb]
theorem vBig_p (code : Tx) : PC Tryz.prog 4 [.c (eB code)] (.p (.c (dB (decide ((code.length : Int) > 65536))))) := by
 refine jaq Tryz.func4 rfl rfl rfl (by kernel_rfl) rfl rfl ?_;intro _
 repeat' (first|refine zaa ?_|refine zab ?_|(refine jaa (.call ⟨.builtin .len, _, #[22]⟩) ?_;(refine jac (jbe rfl (by kernel_rfl)) rfl ?_))|refine zat ?_|refine jaj ?_|refine jak ?_|refine jab ?_)
 all_goals (apply jat;apply jau;(·apply jbc.p;(·(apply GvA.cons;(·exact .tmp _);(·exact GvP.c (.lit _)));exact GvA.nil);(·decide)))
 all_goals rfl
end Go.Proofs.YteaeoaeogehaaaaGreatDoor
namespace Go.Proofs.YteaeoaeogehaaaaGreatDoor
open Go.RowKit
variable [Glb]
open Go Go.RowKit
section
variable {P : Program} {ops : Array Oper} {mu : Nat → Bool} {r : OT} {st : St} {K : St → Prop} {j : Nat} {dst : Option Tmp} {ty : TypeId} {pos : String} {af : Array Edge}
theorem jky {T : TypeId} {x : Operand} {b sz i : Nat} {ds : List D} {c : C} (hx : st.ev x = .c (.lp b i)) (hb : st.bl b = some (.rowX sz ds i c)) (ht : tOne P T = true) :
  Qt P ⟨dst, .load T x, ty, pos, af, none⟩ st (.c c) := fun w0 ρ Φ a w hm => by
 have hp := hm.ev x
 rw [hx] at hp
 obtain ⟨g, hρ, hpv⟩ := jeg hp.c_inv
 have h0 := hm.bl b _ hb
 rw [hρ] at h0
 generalize hΦ : Φ b = Fb at h0
 cases h0 with
 | rowX _ us E _ _ _ _ vs Fs hz hg hl hi hFi hcc hr hxx =>
  refine ⟨vs i, fun w' hs0 => have hs : jdd w w' := hs0.resolve_left (by simp [memfree]);?_, .c _ _ hxx⟩
  have h1 : w.cell? ⟨g, i, none⟩ = some (vs i) := by
   rw [cell_of_row w g i us E (0, 0) hg]
   exact hcc i hi
  have := jfe (P := P) (T := T) ht (jdx hs h1)
  simp [execOp, hpv, this]
theorem jjm {T : TypeId} {p x : Operand} {b sz i : Nat} {ds : List D} {c c' : C} (hp : st.ev p = .c (.lp b i)) (hb : st.bl b = some (.rowX sz ds i c)) (hv : st.ev x = .c c') (hok : C.ok c' = true) (ht : tSize P T 1 = true)
  (hmu : mu j = true) (h : SO P ops mu r (st.setB b (some (.rowX sz ds i c'))) K) :
  SO P ops mu (.cons (some ⟨none, .store T p x, ty, pos, af, none⟩, j, false) r) st K := by
 refine so_m hmu fun w0 a w hs next Q hn => ?_
 obtain ⟨ρ, Φ, hm⟩ := hs
 have hp' := hm.ev p
 rw [hp] at hp'
 obtain ⟨g, hρ, hpv⟩ := jeg hp'.c_inv
 have hx' := hm.ev x
 rw [hv] at hx'
 have hcx := hx'.c_inv
 have hone := hcx.one hok
 have h0 := hm.bl b _ hb
 rw [hρ] at h0
 generalize hΦ : Φ b = Fb at h0
 cases h0 with
 | rowX _ us E _ _ _ _ vs Fs hz hgh hl hi hFi hcc hr hxx =>
  have hrun := jfd (P := P) (w := w) (off := i) (vs := [a.eval x]) ht hgh (jft hone) rfl (fun u hu => by simp at hu;subst hu;exact hone) (by omega)
  have hset : us.toList.take i ++ [a.eval x] ++ us.toList.drop (i + 1) = us.toList.set i (a.eval x) := by rw [List.set_eq_take_append_cons_drop, if_pos (by simp;omega)];simp
  rw [hset] at hrun
  have hgΦ : g ∈ Φ b := by rw [hΦ];exact List.mem_cons_self ..
  have hlow : w0.lo g := hm.low b g hgΦ
  have hsz : (us.toList.set i (a.eval x)).toArray.size = us.size := by simp
  have hndb := hm.nd b
  rw [hΦ, List.nodup_cons] at hndb
  have hshp := jdm hgh hsz
  obtain ⟨Φ', hm'⟩ := hm.upd (w' := w.setRow g (us.toList.set i (a.eval x)).toArray) b [] (.rowX sz ds i c') (g :: parts ds.length Fs) g hgΦ (by simp)
   (jek hlow hshp) (fun k hk => setRow_other w g k _ hk) hshp (List.nodup_cons.2 hndb) (fun g2 hg2 => .inl (by rw [hΦ];exact hg2)) (fun Φ' hΦ' => by
    rw [hρ]
    refine BR.rowX (w := w.setRow g (us.toList.set i (a.eval x)).toArray) (ρ := ρ) (Φ := Φ') g (us.toList.set i (a.eval x)).toArray E sz ds i c' (fun k => if k = i then a.eval x else vs k) Fs hz (setRow_heap w g us _ E (0, 0) hgh) (by simp; omega) hi hFi
     (fun k hk => ?_) (fun k hk hki => ?_) ?_
    ·by_cases hko : k = i
     ·subst hko;simp [show k < us.size by omega]
     ·simp only [List.getElem?_toArray, if_neg hko]
      rw [List.getElem?_set_ne (Ne.symm hko)]
      simpa using hcc k hk
    ·simp only [if_neg hki]
     exact (hr k hk hki).keep fun g2 hg2 => setRow_other w g g2 _ fun e => by
      subst e;exact hndb.1 (jbt.2 ⟨k, hk, hg2⟩)
    ·simp only [if_pos]
     exact hcx.keep (fun g2 hg2 _ => setRow_other w g g2 _ fun e => hg2 (e ▸ ⟨b, hgΦ⟩)) hshp fun g2 hin => .inl (hΦ' g2 hin))
  exact jml (by simp [execOp, hpv, hrun]) (hn _ _ (fun h => by cases h) ⟨_, ⟨ρ, Φ', hm'⟩, h⟩)
end
end Go.Proofs.YteaeoaeogehaaaaGreatDoor
namespace Go.Proofs.YteaeoaeogehaaaaGreatDoor
open Go.RowKit
variable [Glb]
abbrev dW (n : Int) : D := .lit (.int .u64 n)
abbrev CurB (code : Tx) (a s : Int) : List BC := [.k (eB code), .o (dI a), .o (dW s)]
def CurR (a N : Int) (Q : Res → Prop) (ds : List D) (res : Res) : Prop := ∃ a' s', (a ≤ a' ∧ a' ≤ a + N) ∧ ds = [dI a', dW s'] ∧ Q res
theorem emod_bd {x n : Int} (hx : 0 ≤ x) (hn : 1 < n) : 0 ≤ x % n ∧ x % n < n ∧ x % n ≤ x := by
 refine ⟨Int.emod_nonneg _ (by omega), Int.emod_lt_of_pos _ (by omega), ?_⟩
 have h1 := Int.emod_add_mul_ediv x n
 have h2 : 0 ≤ n * (x / n) := Int.mul_nonneg (by omega) (Int.ediv_nonneg hx (by omega))
 omega
theorem pick_bd {x n : Int} (h0 : 0 ≤ x) (h1 : x ≤ 65535) (hn : 1 < n) : 0 ≤ x % n ∧ x % n ≤ 65535 ∧ (n ≤ 1 → x % n = 0) ∧ (1 < n → x % n < n) := by
 have := emod_bd h0 hn
 omega
theorem curNext_p (code : Tx) (a s : Int) (h0 : 0 ≤ a) (h1 : a ≤ 4611686018427387904) : PX Tryz.prog 90 (CurB code a s) [] (CurR a 1 fun res => ∃ x : Int, (0 ≤ x ∧ x ≤ 255) ∧ res = .p (.c (dI x))) := by
 have hb := byt_lt code a
 refine jdg Tryz.func90 rfl rfl rfl (by kernel_rfl) rfl rfl rfl ?_;intro kv
 repeat' (first|refine zaa ?_|refine zab ?_|(refine jaa (.nilCheck _) ?_;(refine jac (jiu rfl) rfl ?_))|(refine jaa (.fieldAddr 58 _ 1) ?_;(refine jac (jad (off := 1) rfl (by kernel_rfl)) rfl ?_))|refine zaf ?_|(refine jaa (.fieldAddr 58 _ 0) ?_;(refine jac (jad (off := 0) rfl (by kernel_rfl)) rfl ?_))|(refine jaa (.load 22 _) ?_;(refine jac (jkx rfl rfl (by kernel_rfl) rfl) rfl ?_))|(refine jaa (.call ⟨.builtin .len, _, #[22]⟩) ?_;(refine jac (jbe rfl (by kernel_rfl)) rfl ?_))|refine zac ?_|(refine jaa (.indexAddr 22 _ _) ?_;(refine jac (qt_idxY rfl rfl (by kernel_rfl) (by omega) (by omega)) rfl ?_))|(refine jaa (.load 5 _) ?_;(refine jac (jap rfl (by kernel_rfl) rfl) rfl ?_))|(refine jaa (.convert 5 3 _) ?_;(refine jac (jew (k' := .i64) rfl (by kernel_rfl) (by kernel_rfl) (by (exact IntWalk.i64_in _ (by omega)))) rfl ?_))|refine zad ?_|(refine jaa (.store 3 _ _) ?_;(refine jax rfl rfl rfl rfl (by kernel_rfl) rfl rfl ?_))|(refine jaa (.fieldAddr 58 _ 2) ?_;(refine jac (jad (off := 2) rfl (by kernel_rfl)) rfl ?_))|(refine jaa (.load 56 _) ?_;(refine jac (jaf rfl rfl (by kernel_rfl) rfl) rfl ?_))|(refine jaa (.binOp .mul 56 _ _ _) ?_;refine jac (jng rfl rfl) rfl ?_)|(refine jaa (.convert 3 56 _) ?_;(refine jac (jew (k' := .u64) rfl (by kernel_rfl) (by kernel_rfl) (by (first|rfl|exact jhn (by omega)))) rfl ?_))|(refine jaa (.binOp .add 56 _ _ _) ?_;refine jac (jhb rfl rfl) rfl ?_)|(refine jaa (.store 56 _ _) ?_;(refine jax rfl rfl rfl rfl (by kernel_rfl) rfl rfl ?_))|refine zbn ?_|(refine jaa (.binOp .shr 56 _ _ _) ?_;refine jac (jff (c := 1099511627776) rfl rfl (by decide)) rfl ?_)|(refine jaa (.binOp .and 56 _ _ _) ?_;refine jac (qt_andMU 8 (c := 256) rfl rfl (by decide)) rfl ?_)|(refine jaa (.convert 56 3 _) ?_;(refine jac (jew (k' := .i64) rfl (by kernel_rfl) (by kernel_rfl) (by (exact IntWalk.i64_in _ (by omega)))) rfl ?_))|refine jaj ?_|refine jak ?_|refine jan ?_|refine jab ?_|refine jbd 2 (fun _ => false) (.step 0 true (.step 1 true (.step 2 true (.step 3 true (.step 4 true (.step 5 true (.step 6 true (.step 7 true (.step 8 true (.step 9 true .nil)))))))))) [(0, 1023, 1023, true), (1, 1022, 1023, true), (2, 1021, 1023, true), (4, 1019, 1023, false), (0, 1023, 1023, true), (16, 1007, 1023, true), (32, 991, 1023, true), (64, 959, 1023, false), (128, 895, 1023, true), (264, 759, 1023, true)] (by kernel_rfl) (by kernel_rfl) ?_|refine jbd 3 (fun _ => false) (.step 0 true (.step 1 true (.step 2 true (.step 3 true (.step 4 true (.step 5 true (.step 6 true (.step 7 true (.step 8 true (.step 9 true (.step 10 true (.step 11 true .nil)))))))))))) [(0, 4095, 4095, true), (1, 4094, 4095, true), (2, 4093, 4095, true), (4, 4091, 4095, false), (0, 4095, 4095, true), (16, 4079, 4095, true), (32, 4063, 4095, true), (64, 4031, 4095, false), (136, 3959, 4095, true), (256, 3839, 4095, false), (512, 3583, 4095, true), (2047, 3071, 4095, true)] (by kernel_rfl) (by kernel_rfl) ?_|refine jbd 6 (fun _ => false) (.step 0 true (.step 1 true (.step 2 true (.step 3 true (.step 4 true (.step 5 true (.step 6 true (.step 7 true (.step 8 true (.step 9 true .nil)))))))))) [(0, 1023, 1023, true), (1, 1022, 1023, true), (2, 1021, 1023, true), (4, 1019, 1023, false), (0, 1023, 1023, true), (16, 1007, 1023, true), (32, 991, 1023, true), (64, 959, 1023, false), (128, 895, 1023, true), (264, 759, 1023, true)] (by kernel_rfl) (by kernel_rfl) ?_|refine jbi rfl (fun hc => ?_) (fun hc => ?_))
 all_goals (apply jct;(·(apply jge.p;(·rfl);(·(repeat(first|exact BxO.nil _|apply BxO.k|(apply BxO.o;(·(exact .lit _))))));(·(apply GvA.cons;(·exact .tmp _);(·exact GvP.c (.lit _)));exact GvA.nil);(·decide))))
 all_goals exact ⟨_, _, by omega, rfl, _, by omega, rfl⟩
theorem curPick_p (code : Tx) (a s n : Int) (h0 : 0 ≤ a) (h1 : a ≤ 4611686018427387000) : PX Tryz.prog 43 (CurB code a s) [.v (.c (dI n))] (CurR a 2 fun res => ∃ x : Int, (0 ≤ x ∧ x ≤ 65535 ∧ (n ≤ 1 → x = 0) ∧ (1 < n → x < n)) ∧ res = .p (.c (dI x))) := by
 refine jdg Tryz.func43 rfl rfl rfl (by kernel_rfl) rfl rfl rfl ?_;intro kv
 repeat' (first|refine zaa ?_|refine zab ?_|refine zbn ?_|refine zat ?_|refine zba ?_|refine zad ?_|refine zcg ?_|(refine jaa (.call ⟨.value (.func 90), _, _⟩) ?_;(apply jbl (fid := 90);(·rfl);(·rfl);(·(repeat(first|exact BxI.nil|apply BxI.ks|(apply BxI.o;(·(exact .lit _))))));(·(repeat(exact ArX.nil)));(·decide);(·decide);(·exact curNext_p code _ _ (by omega) (by omega));(·rfl);(·(intro b hb1 hb2;omega));(·rfl);(rintro _ _ ⟨a1, s1, ha1, rfl, x1, hx1, rfl⟩;refine ⟨(by first|rfl|simp [*]), ?_⟩)))|refine jaj ?_|refine jak ?_|refine jan ?_|refine jab ?_|refine jbi rfl (fun hc => ?_) (fun hc => ?_))
 all_goals (apply jct;(·(apply jge.p;(·rfl);(·(repeat(first|exact BxO.nil _|apply BxO.k|(apply BxO.o;(·(exact .lit _))))));(·(apply GvA.cons;(·exact .tmp _);(·exact GvP.c (.lit _)));exact GvA.nil);(·decide))))
 ·exact ⟨_, _, by omega, rfl, _, by omega, rfl⟩
 ·exact ⟨_, _, by omega, rfl, _, pick_bd (by omega) (by omega) (by omega), rfl⟩
 ·exact ⟨_, _, by omega, rfl, _, pick_bd (by omega) (by omega) (by omega), rfl⟩
theorem curOne_p (code : Tx) (a s n : Int) (h0 : 0 ≤ a) (h1 : a ≤ 4611686018427387000) : PX Tryz.prog 39 (CurB code a s) [.v (.c (dI n))] (CurR a 2 fun res => ∃ b : Bool, res = .p (.c (dB b))) := by
 refine jdg Tryz.func39 rfl rfl rfl (by kernel_rfl) rfl rfl rfl ?_;intro kv
 repeat' (first|refine zaa ?_|refine zab ?_|refine zai ?_|(refine jaa (.call ⟨.value (.func 43), _, _⟩) ?_;(apply jbl (fid := 43);(·rfl);(·rfl);(·(repeat(first|exact BxI.nil|apply BxI.ks|(apply BxI.o;(·(exact .lit _))))));(·(repeat(first|exact ArX.nil|apply ArX.v (.c (.d _)))));(·decide);(·decide);(·exact curPick_p code _ _ _ (by omega) (by omega));(·rfl);(·(intro b hb1 hb2;omega));(·rfl);(rintro _ _ ⟨a1, s1, ha1, rfl, x1, hx1, rfl⟩;refine ⟨(by first|rfl|simp [*]), ?_⟩)))|refine jaj ?_|refine jak ?_|refine jab ?_)
 all_goals (apply jct;(·(apply jge.p;(·rfl);(·(repeat(first|exact BxO.nil _|apply BxO.k|(apply BxO.o;(·(exact .lit _))))));(·(apply GvA.cons;(·exact .tmp _);(·exact GvP.c (.lit _)));exact GvA.nil);(·decide))))
 all_goals exact ⟨_, _, by omega, rfl, _, rfl⟩
theorem mem_at {α : Type} [Inhabited α] {l : List α} {x : Int} (h0 : 0 ≤ x) (h1 : x < l.length) : atZ l x ∈ l := List.mem_of_getElem? (jez h0 h1)
theorem curAmong_p (code : Tx) (a s : Int) (l : List Int) (hl : 0 < l.length) (h0 : 0 ≤ a) (h1 : a ≤ 4611686018427387000) : PX Tryz.prog 46 (CurB code a s) [.v (.c (eI l))] (CurR a 2 fun res => ∃ t : Int, t ∈ l ∧ res = .p (.c (dI t))) := by
 refine jdg Tryz.func46 rfl rfl rfl (by kernel_rfl) rfl rfl rfl ?_;intro kv
 repeat' (first|refine zaa ?_|refine zab ?_|refine zas ?_|refine zao ?_|refine zap ?_|(refine jaa (.call ⟨.value (.func 43), _, _⟩) ?_;(apply jbl (fid := 43);(·rfl);(·rfl);(·(repeat(first|exact BxI.nil|apply BxI.ks|(apply BxI.o;(·(exact .lit _))))));(·(repeat(first|exact ArX.nil|apply ArX.v (.c (.d _)))));(·decide);(·decide);(·exact curPick_p code _ _ _ (by omega) (by omega));(·rfl);(·(intro b hb1 hb2;omega));(·rfl);(rintro _ _ ⟨a1, s1, ha1, rfl, x1, hx1, rfl⟩;refine ⟨(by first|rfl|simp [*]), ?_⟩)))|refine jaj ?_|refine jak ?_|refine jab ?_)
 all_goals (apply jct;(·(apply jge.p;(·rfl);(·(repeat(first|exact BxO.nil _|apply BxO.k|(apply BxO.o;(·(exact .lit _))))));(·(apply GvA.cons;(·exact .tmp _);(·exact GvP.c (.lit _)));exact GvA.nil);(·decide))))
 all_goals exact ⟨_, _, by omega, rfl, _, mem_at (by omega) (by omega), rfl⟩
theorem curAmongD_p (code : Tx) (a s : Int) (n : Nat) (ds : List D) (Q : Int → Prop) (hn : n = ds.length) (h2 : 0 < n) (h : ∀ x ∈ ds, ∃ t : Int, x = dI t ∧ Q t) (h0 : 0 ≤ a) (h1 : a ≤ 4611686018427387000) : PX Tryz.prog 46 (CurB code a s) [.v (.c (.sl 1 n ds))] (CurR a 2 fun res => ∃ t : Int, Q t ∧ res = .p (.c (dI t))) := by
 have : ∃ l : List Int, ds = l.map dI ∧ ∀ t ∈ l, Q t := by
  clear hn h2
  induction ds with
  | nil => exact ⟨[], rfl, fun t ht => by cases ht⟩
  | cons x ds ih =>
   obtain ⟨t, e, ht⟩ := h x (List.mem_cons_self ..)
   obtain ⟨l, e2, hl⟩ := ih fun y hy => h y (List.mem_cons_of_mem _ hy)
   exact ⟨t :: l, by rw [List.map_cons, e, e2], fun u hu => by rcases List.mem_cons.1 hu with e3|hu;rw [e3];exact ht;exact hl u hu⟩
 obtain ⟨l, rfl, hl⟩ := this
 rw [List.length_map] at hn
 subst hn
 refine (curAmong_p code a s l h2 h0 h1).mono ?_
 rintro ds res ⟨a1, s1, ha, rfl, t, ht, rfl⟩
 exact ⟨_, _, ha, rfl, t, hl t ht, rfl⟩
section
variable {P : Program} {st : St} {dst : Option Tmp} {ty : TypeId} {pos : String} {af : Array Edge} {T : TypeId} {x y : Operand}
end
theorem l1Most_p (a b : Int) : PC Tryz.prog 92 [.c (dI a), .c (dI b)] (.p (.c (dI (max a b)))) := by
 refine jaq Tryz.func92 rfl rfl rfl (by kernel_rfl) rfl rfl ?_;intro _
 repeat' (first|refine zaa ?_|refine zab ?_|refine zat ?_|refine jaj ?_|refine jak ?_|refine jan ?_|refine jab ?_|refine jbi rfl (fun hc => ?_) (fun hc => ?_))
 all_goals (apply jat;apply jau;(·apply jbc.p;(·(apply GvA.cons;(·exact .tmp _);(·exact GvP.c (.lit _)));exact GvA.nil);(·decide)))
 all_goals simp
 all_goals omega
theorem l1Least_p (a b : Int) : PC Tryz.prog 93 [.c (dI a), .c (dI b)] (.p (.c (dI (min a b)))) := by
 refine jaq Tryz.func93 rfl rfl rfl (by kernel_rfl) rfl rfl ?_;intro _
 repeat' (first|refine zaa ?_|refine zab ?_|refine zac ?_|refine jaj ?_|refine jak ?_|refine jan ?_|refine jab ?_|refine jbi rfl (fun hc => ?_) (fun hc => ?_))
 all_goals (apply jat;apply jau;(·apply jbc.p;(·(apply GvA.cons;(·exact .tmp _);(·exact GvP.c (.lit _)));exact GvA.nil);(·decide)))
 all_goals simp [Int.min_def]
 all_goals omega
theorem l2Near_p (n : Int) : PC Tryz.prog 131 [.c (dI n)] (.p (.c (dI (min (max n 0) 4)))) := by
 refine jaq Tryz.func131 rfl rfl rfl (by kernel_rfl) rfl rfl ?_;intro _
 repeat' (first|refine zaa ?_|refine zab ?_|(refine jaa (.call ⟨.value (.func 92), _, _⟩) ?_;(apply jag (fid := 92);(·(repeat(first|exact SeA.nil|apply SeA.cons (.c (.d _)))));(·exact l1Most_p _ _);(·rfl)))|(refine jaa (.call ⟨.value (.func 93), _, _⟩) ?_;(apply jag (fid := 93);(·(repeat(first|exact SeA.nil|apply SeA.cons (.c (.d _)))));(·exact l1Least_p _ _);(·rfl)))|refine jaj ?_|refine jak ?_|refine jab ?_)
 all_goals (apply jat;apply jau;(·apply jbc.p;(·(apply GvA.cons;(·exact .tmp _);(·exact GvP.c (.lit _)));exact GvA.nil);(·decide)))
 all_goals rfl
theorem curAmongB_p (code : Tx) (a s : Int) (n : Nat) (ds : List D) (lo hi : Int) (hn : n = ds.length) (h2 : 0 < n) (h : ∀ x ∈ ds, ∃ t : Int, x = dI t ∧ (lo ≤ t ∧ t ≤ hi)) (h0 : 0 ≤ a) (h1 : a ≤ 4611686018427387000) : PX Tryz.prog 46 (CurB code a s) [.v (.c (.sl 1 n ds))] (CurR a 2 fun res => ∃ t : Int, (lo ≤ t ∧ t ≤ hi) ∧ res = .p (.c (dI t))) :=
 curAmongD_p code a s n ds (fun t => lo ≤ t ∧ t ≤ hi) hn h2 h h0 h1
theorem curSizes_p (code : Tx) (a s : Int) (h0 : 0 ≤ a) (h1 : a ≤ 4611686018427386000) : PX Tryz.prog 83 (CurB code a s) [] (CurR a 10 fun res => ∃ x y : Int, ((-1 ≤ x ∧ x ≤ 4611686018427387904) ∧ -1 ≤ y ∧ y ≤ 4611686018427387904) ∧ res = .t [.c (dI x), .c (dI y)]) := by
 refine jdg Tryz.func83 rfl rfl rfl (by kernel_rfl) rfl rfl rfl ?_;intro kv
 repeat' (first|refine zaa ?_|refine zab ?_|(refine jaa (.buildSlice 27 4 _) ?_;(apply jao (sz := 1) (by_ := 8);(·kernel_rfl);(·decide);(·(repeat(first|exact GvS.nil _|apply GvS.c rfl rfl (.lit _) rfl)));(·decide);(·rfl);(·rfl);(·rfl)))|(refine jaa (.call ⟨.value (.func 46), _, _⟩) ?_;(first|(apply jbl (d := 10) (fid := 46);(·rfl);(·rfl);(·(repeat(first|exact BxI.nil|apply BxI.ks|(apply BxI.o;(·(exact .lit _))))));(·(repeat(first|exact ArX.nil|apply ArX.v (.c (.row _ _ _ _ rfl (by ((simp;done))))))));(·decide);(·decide);(·exact curAmongB_p code _ _ _ _ (-1) 4611686018427387904 rfl (by decide) (by repeat (first|exact fun x hx => absurd hx List.not_mem_nil|(refine List.forall_mem_cons.2 ⟨⟨_, rfl, by decide⟩, ?_⟩))) (by omega) (by omega));(·rfl);(·(intro b hb1 hb2;omega));(·rfl);(rintro _ _ ⟨a1, s1, ha1, rfl, t1, ht1, rfl⟩;refine ⟨(by first|rfl|simp [*]), ?_⟩))|(apply jbl (d := 13) (fid := 46);(·rfl);(·rfl);(·(repeat(first|exact BxI.nil|apply BxI.ks|(apply BxI.o;(·(exact .lit _))))));(·(repeat(first|exact ArX.nil|apply ArX.v (.c (.row _ _ _ _ rfl (by ((simp;done))))))));(·decide);(·decide);(·exact curAmongB_p code _ _ _ _ (-1) 4611686018427387904 rfl (by decide) (by repeat (first|exact fun x hx => absurd hx List.not_mem_nil|(refine List.forall_mem_cons.2 ⟨⟨_, rfl, by decide⟩, ?_⟩))) (by omega) (by omega));(·rfl);(·(intro b hb1 hb2;omega));(·rfl);(rintro _ _ ⟨a1, s1, ha1, rfl, t1, ht1, rfl⟩;refine ⟨(by first|rfl|simp [*]), ?_⟩))))|(refine jaa (.call ⟨.value (.func 43), _, _⟩) ?_;(first|(apply jbl (d := 15) (fid := 43);(·rfl);(·rfl);(·(repeat(first|exact BxI.nil|apply BxI.ks|(apply BxI.o;(·(exact .lit _))))));(·(repeat(first|exact ArX.nil|apply ArX.v (.c (.d _)))));(·decide);(·decide);(·exact curPick_p code _ _ _ (by omega) (by omega));(·rfl);(·(intro b hb1 hb2;omega));(·rfl);(rintro _ _ ⟨a1, s1, ha1, rfl, x1, hx1, rfl⟩;refine ⟨(by first|rfl|simp [*]), ?_⟩))|(apply jbl (d := 18) (fid := 43);(·rfl);(·rfl);(·(repeat(first|exact BxI.nil|apply BxI.ks|(apply BxI.o;(·(exact .lit _))))));(·(repeat(first|exact ArX.nil|apply ArX.v (.c (.d _)))));(·decide);(·decide);(·exact curPick_p code _ _ _ (by omega) (by omega));(·rfl);(·(intro b hb1 hb2;omega));(·rfl);(rintro _ _ ⟨a1, s1, ha1, rfl, x1, hx1, rfl⟩;refine ⟨(by first|rfl|simp [*]), ?_⟩))))|refine zad ?_|(refine jaa (.call ⟨.value (.func 39), _, _⟩) ?_;(apply jbl (fid := 39);(·rfl);(·rfl);(·(repeat(first|exact BxI.nil|apply BxI.ks|(apply BxI.o;(·(exact .lit _))))));(·(repeat(first|exact ArX.nil|apply ArX.v (.c (.d _)))));(·decide);(·decide);(·exact curOne_p code _ _ _ (by omega) (by omega));(·rfl);(·(intro b hb1 hb2;omega));(·rfl);(rintro _ _ ⟨a1, s1, ha1, rfl, b1, rfl⟩;refine ⟨(by first|rfl|simp [*]), ?_⟩)))|refine jaj ?_|refine jak ?_|refine jan ?_|refine jab ?_|refine jcz rfl (fun hc => ?_) (fun hc => ?_))
 all_goals (apply jct;(·(apply jge.t;(·rfl);(·(repeat(first|exact BxO.nil _|apply BxO.k|(apply BxO.o;(·(exact .lit _))))));(·(apply GvA.cons;(·exact .tmp _);(·exact GvP.c (.lit _)));(apply GvA.cons;(·exact .tmp _);(·exact GvP.c (.lit _)));exact GvA.nil);(·rfl);(·decide))))
 all_goals exact ⟨_, _, by omega, rfl, _, _, by omega, rfl⟩
def IsI (ds : List D) : Prop := ∃ l : List Int, ds = cI l
theorem IsI.map (l : List Int) : IsI (cI l) := ⟨l, rfl⟩
theorem IsI.nil : IsI [] := ⟨[], rfl⟩
theorem IsI.cons {k : Int} {ds : List D} (h : IsI ds) : IsI (dI k :: ds) := by obtain ⟨l, rfl⟩ := h; exact ⟨k :: l, rfl⟩
theorem IsI.app {a b : List D} (h : IsI a) (k : IsI b) : IsI (a ++ b) := by obtain ⟨l, rfl⟩ := h; obtain ⟨m, rfl⟩ := k; exact ⟨l ++ m, by simp⟩
theorem IsI.set {k : Int} {ds : List D} {i : Nat} (h : IsI ds) : IsI (ds.set i (dI k)) := by obtain ⟨l, rfl⟩ := h; exact ⟨l.set i k, by simp⟩
theorem IsI.take {ds : List D} {i : Nat} (h : IsI ds) : IsI (ds.take i) := by obtain ⟨l, rfl⟩ := h; exact ⟨l.take i, by simp⟩
theorem IsI.drop {ds : List D} {i : Nat} (h : IsI ds) : IsI (ds.drop i) := by obtain ⟨l, rfl⟩ := h; exact ⟨l.drop i, by simp⟩
theorem IsI.rep {k : Int} {n : Nat} : IsI (List.replicate n (dI k)) := ⟨List.replicate n k, by simp⟩
theorem IsI.sl {n : Nat} {ds : List D} (h : IsI ds) (hn : ds.length = n) : ∃ l : List Int, l.length = n ∧ D.sl 1 n ds = eI l := by
 obtain ⟨l, rfl⟩ := h
 rw [List.length_map] at hn
 exact ⟨l, hn, by rw [← hn]⟩
theorem IsI.res {n m : Nat} {ds : List D} (h : IsI ds) (hn : ds.length = n) (hm : n ≤ m) : ∃ l : List Int, l.length ≤ m ∧ Res.p (.c (D.sl 1 n ds)) = .p (.c (eI l)) := by
 obtain ⟨l, h1, h2⟩ := h.sl hn
 exact ⟨l, by omega, by rw [h2]⟩
theorem near_mul (x y : Int) : ∃ N : Nat, min (max x 0) 4 * min (max y 0) 4 = (N : Int) ∧ N ≤ 16 := by
 have h1 : 0 ≤ min (max x 0) 4 * min (max y 0) 4 := Int.mul_nonneg (by omega) (by omega)
 have h2 : min (max x 0) 4 * min (max y 0) 4 ≤ 4 * 4 := Int.mul_le_mul (by omega) (by omega) (by omega) (by omega)
 exact ⟨(min (max x 0) 4 * min (max y 0) 4).toNat, by omega, by omega⟩
def jjj (ds : List D) : Prop := ∃ l : List (List Int), ds = cII l
theorem jjj.map (l : List (List Int)) : jjj (cII l) := ⟨l, rfl⟩
theorem jjj.set {n : Nat} {es ds : List D} {i : Nat} (h : jjj ds) (he : IsI es) (hn : es.length = n) : jjj (ds.set i (.sl 1 n es)) := by
 obtain ⟨l, rfl⟩ := h
 obtain ⟨m, _, e⟩ := he.sl hn
 rw [e]
 exact ⟨l.set i m, by simp⟩
theorem jjj.take {ds : List D} {i : Nat} (h : jjj ds) : jjj (ds.take i) := by obtain ⟨l, rfl⟩ := h; exact ⟨l.take i, by simp⟩
theorem jjj.drop {ds : List D} {i : Nat} (h : jjj ds) : jjj (ds.drop i) := by obtain ⟨l, rfl⟩ := h; exact ⟨l.drop i, by simp⟩
theorem jjj.sl {n : Nat} {ds : List D} (h : jjj ds) (hn : ds.length = n) : ∃ l : List (List Int), l.length = n ∧ D.sl 1 n ds = eII l := by
 obtain ⟨l, rfl⟩ := h
 rw [List.length_map] at hn
 exact ⟨l, hn, by rw [← hn]⟩
end Go.Proofs.YteaeoaeogehaaaaGreatDoor
namespace Go.Proofs.YteaeoaeogehaaaaGreatDoor
open Go.RowKit
variable [Glb]
open Go
section
variable {xa ya na : Int} {la : List (List Int)} {xb yb nb : Int} {lb : List (List Int)} {l1 l2 : List RuleE}
end
def q2 : Nat → Int
 | 0 => 0
 | _ + 1 => 2
end Go.Proofs.YteaeoaeogehaaaaGreatDoor
namespace Go.Proofs.YteaeoaeogehaaaaGreatDoor
open Go.RowKit
variable [Glb]
def SceneX (res : Res) : Prop := ∃ (ev : Int) (cc : List (List Int)) (ss : List Int), res = .p (.g [dI ev, eII cc, eI ss])
theorem SquareScene_p : PC Tryz.prog 88 [] (.p (.g [dI 9, eII [[0, 1, 2], [3, 4, 5], [6, 7, 8], [0, 3, 6], [1, 4, 7], [2, 5, 8]], eI [0, 0, 0, 0, 0, 1]])) := by
 refine jaq Tryz.func88 rfl rfl rfl (by kernel_rfl) rfl rfl ?_;intro _
 repeat' (first|(refine jaa (.alloc 29) ?_;refine jav (zs := [.int .i64 0, .slice none 0 0, .slice none 0 0]) (by kernel_rfl) rfl ?_)|(refine jaa (.buildSlice 27 3 _) ?_;(apply jao (sz := 1) (by_ := 8);(·kernel_rfl);(·decide);(·(repeat(first|exact GvS.nil _|apply GvS.c rfl rfl (.lit _) rfl)));(·decide);(·rfl);(·rfl);(·rfl)))|(refine jaa (.buildSlice 24 6 _) ?_;(apply jao (sz := 1) (by_ := 24);(·kernel_rfl);(·decide);(·(repeat(first|exact GvS.nil _|apply GvS.c rfl rfl (.row _ _ _ _ rfl (by ((simp;done)))) rfl)));(·decide);(·rfl);(·rfl);(·rfl)))|refine zaa ?_|refine zab ?_|(refine jaa (.buildSlice 27 6 _) ?_;(apply jao (sz := 1) (by_ := 8);(·kernel_rfl);(·decide);(·(repeat(first|exact GvS.nil _|apply GvS.c rfl rfl (.lit _) rfl)));(·decide);(·rfl);(·rfl);(·rfl)))|refine zch ?_|(refine jaa (.store 29 _ _) ?_;(refine jah rfl rfl rfl (by kernel_rfl) rfl rfl ?_))|refine jaj ?_|refine jak ?_|refine jab ?_)
 all_goals (apply jat;apply jau;(·apply jbc.p;(·(apply GvA.cons;(·(apply RV.cellN (n := 3);(·rfl);(·rfl);(·kernel_rfl);(·rfl)));(·(apply GvP.g;(·(apply GvL.cons (.lit _));((apply GvL.cons (.row _ _ _ _ rfl (by ((simp;done))))));((apply GvL.cons (.row _ _ _ _ rfl (by ((simp;done))))));exact GvL.nil))));exact GvA.nil);(·decide)))
 all_goals rfl
theorem StarScene_p : PC Tryz.prog 89 [] (.p (.g [dI 10, eII [[0, 1, 2, 3], [0, 4, 5, 6], [1, 4, 7, 8], [2, 5, 7, 9], [3, 6, 8, 9]], eI [1, 0, 0, 0, 0]])) := by
 refine jaq Tryz.func89 rfl rfl rfl (by kernel_rfl) rfl rfl ?_;intro _
 repeat' (first|(refine jaa (.alloc 29) ?_;refine jav (zs := [.int .i64 0, .slice none 0 0, .slice none 0 0]) (by kernel_rfl) rfl ?_)|(refine jaa (.buildSlice 27 4 _) ?_;(apply jao (sz := 1) (by_ := 8);(·kernel_rfl);(·decide);(·(repeat(first|exact GvS.nil _|apply GvS.c rfl rfl (.lit _) rfl)));(·decide);(·rfl);(·rfl);(·rfl)))|(refine jaa (.buildSlice 24 5 _) ?_;(apply jao (sz := 1) (by_ := 24);(·kernel_rfl);(·decide);(·(repeat(first|exact GvS.nil _|apply GvS.c rfl rfl (.row _ _ _ _ rfl (by ((simp;done)))) rfl)));(·decide);(·rfl);(·rfl);(·rfl)))|refine zaa ?_|refine zab ?_|(refine jaa (.buildSlice 27 5 _) ?_;(apply jao (sz := 1) (by_ := 8);(·kernel_rfl);(·decide);(·(repeat(first|exact GvS.nil _|apply GvS.c rfl rfl (.lit _) rfl)));(·decide);(·rfl);(·rfl);(·rfl)))|refine zch ?_|(refine jaa (.store 29 _ _) ?_;(refine jah rfl rfl rfl (by kernel_rfl) rfl rfl ?_))|refine jaj ?_|refine jak ?_|refine jab ?_)
 all_goals (apply jat;apply jau;(·apply jbc.p;(·(apply GvA.cons;(·(apply RV.cellN (n := 3);(·rfl);(·rfl);(·kernel_rfl);(·rfl)));(·(apply GvP.g;(·(apply GvL.cons (.lit _));((apply GvL.cons (.row _ _ _ _ rfl (by ((simp;done))))));((apply GvL.cons (.row _ _ _ _ rfl (by ((simp;done))))));exact GvL.nil))));exact GvA.nil);(·decide)))
 all_goals rfl
theorem jlt : ∃ (cc : List (List Int)) (ss : List Int), PC Tryz.prog 88 [] (.p (.g [dI 9, eII cc, eI ss])) := ⟨_, _, SquareScene_p⟩
theorem star_some : ∃ (cc : List (List Int)) (ss : List Int), PC Tryz.prog 89 [] (.p (.g [dI 10, eII cc, eI ss])) := ⟨_, _, StarScene_p⟩
theorem sceneX_of {ev : Int} {n m : Nat} {W R : List D} (hW : jjj W) (hn : W.length = n) (hR : IsI R) (hm : R.length = m) : SceneX (.p (.g [dI ev, .sl 1 n W, .sl 1 m R])) := by
 obtain ⟨p, hp, ep⟩ := hW.sl hn
 obtain ⟨q, hq, eq⟩ := hR.sl hm
 exact ⟨ev, p, q, by rw [ep, eq]⟩
theorem jjj.snoc {ds : List D} {n : Nat} {es : List D} (h : jjj ds) (he : IsI es) (hn : es.length = n) : jjj (ds ++ [.sl 1 n es]) := by
 obtain ⟨l, rfl⟩ := h
 obtain ⟨e, -, q⟩ := he.sl hn
 exact ⟨l ++ [e], by rw [q];simp⟩
structure LckS (G : Prop) : Prop where
 h : G
theorem joinS {G G' : Prop} (f : LckS G → G') (g : G) : G' := f ⟨g⟩
set_option maxHeartbeats 40000000 in
theorem curScene7_p (code : Tx) (a s : Int) (h0 : 0 ≤ a) (h1 : a ≤ 4611686018427380000) : PX Tryz.prog 42 (CurB code a s) [] (CurR a 400 SceneX) := by
 obtain ⟨q1, q2, hq⟩ := jlt
 obtain ⟨r1, r2, hr⟩ := star_some
 refine jdg Tryz.func42 rfl rfl rfl (by kernel_rfl) rfl rfl rfl ?_;intro kv
 repeat' (first|(refine jaa (.alloc 29) ?_;refine jav (zs := [.int .i64 0, .slice none 0 0, .slice none 0 0]) (by kernel_rfl) rfl ?_)|refine zab ?_|refine zai ?_|refine zaa ?_|(refine jaa (.store 29 _ _) ?_;(refine jah rfl rfl rfl (by kernel_rfl) rfl rfl ?_))|(refine jaa (.buildSlice 27 8 _) ?_;(apply jao (sz := 1) (by_ := 8);(·kernel_rfl);(·decide);(·(repeat(first|exact GvS.nil _|apply GvS.c rfl rfl (.lit _) rfl)));(·decide);(·rfl);(·rfl);(·rfl)))|(refine jaa (.call ⟨.value (.func 46), _, _⟩) ?_;(first|(apply jbl (d := 17) (fid := 46);(·rfl);(·rfl);(·(repeat(first|exact BxI.nil|apply BxI.ks|(apply BxI.o;(·(exact .lit _))))));(·(repeat(first|exact ArX.nil|apply ArX.v (.c (.row _ _ _ _ rfl (by ((simp;done))))))));(·decide);(·decide);(·exact curAmongB_p code _ _ _ _ 0 8 rfl (by decide) (by repeat (first|exact fun x hx => absurd hx List.not_mem_nil|(refine List.forall_mem_cons.2 ⟨⟨_, rfl, by decide⟩, ?_⟩))) (by omega) (by omega));(·rfl);(·(intro b hb1 hb2;omega));(·rfl);(rintro _ _ ⟨a2, s2, ha2, rfl, E, hE, rfl⟩;refine ⟨(by first|rfl|simp [*]), ?_⟩))|(apply jbl (d := 23) (fid := 46);(·rfl);(·rfl);(·(repeat(first|exact BxI.nil|apply BxI.ks|(apply BxI.o;(·(exact .lit _))))));(·(repeat(first|exact ArX.nil|apply ArX.v (.c (.row _ _ _ _ rfl (by ((simp;done))))))));(·decide);(·decide);(·exact curAmongB_p code _ _ _ _ 0 6 rfl (by decide) (by repeat (first|exact fun x hx => absurd hx List.not_mem_nil|(refine List.forall_mem_cons.2 ⟨⟨_, rfl, by decide⟩, ?_⟩))) (by omega) (by omega));(·rfl);(·(intro b hb1 hb2;omega));(·rfl);(rintro _ _ ⟨a3, s3, ha3, rfl, m0, hm0, rfl⟩;refine ⟨(by first|rfl|simp [*]), ?_⟩))))|(refine jaa (.buildSlice 24 0 _) ?_;(apply jao (sz := 1) (by_ := 24);(·kernel_rfl);(·decide);(·(repeat(exact GvS.nil _)));(·decide);(·rfl);(·rfl);(·rfl)))|(refine jaa (.buildSlice 27 0 _) ?_;(apply jao (sz := 1) (by_ := 8);(·kernel_rfl);(·decide);(·(repeat(exact GvS.nil _)));(·decide);(·rfl);(·rfl);(·rfl)))|refine zch ?_|(refine jaa (.buildSlice 27 7 _) ?_;(apply jao (sz := 1) (by_ := 8);(·kernel_rfl);(·decide);(·(repeat(first|exact GvS.nil _|apply GvS.c rfl rfl (.lit _) rfl)));(·decide);(·rfl);(·rfl);(·rfl)))|(refine jaa (.call ⟨.value (.func 43), _, _⟩) ?_;((apply jbl (fid := 43);(·rfl);(·rfl);(·(repeat(first|exact BxI.nil|apply BxI.ks|(apply BxI.o;(·(exact .lit _))))));(·(repeat(first|exact ArX.nil|apply ArX.v (.c (.d _)))));(·decide);(·decide);(·exact curPick_p code _ _ _ (by omega) (by omega));(·rfl);(·(intro b hb1 hb2;omega));(·rfl);(rintro _ _ ⟨a1, s1, ha1, rfl, x1, hx1, rfl⟩;refine ⟨(by first|rfl|simp [*]), ?_⟩))))|(refine jaa (.call ⟨.value (.func 88), _, _⟩) ?_;((apply jbq (fid := 88);(·(repeat(exact SeA.nil)));(·exact hq);(·rfl);(·rfl))))|(refine jaa (.call ⟨.value (.func 89), _, _⟩) ?_;((apply jbq (fid := 89);(·(repeat(exact SeA.nil)));(·exact hr);(·rfl);(·rfl))))|refine jaj ?_|refine jak ?_|refine jai ?_|refine jaz ?_|refine jan ?_|refine jab (id := 0) ?_|refine jab (id := 1) ?_|refine jab (id := 2) ?_|refine jab (id := 3) ?_|refine jab (id := 4) ?_|refine jab (id := 5) ?_|refine jab (id := 6) ?_|refine jab (id := 7) ?_|refine jbi rfl (fun hc => ?_) (fun hc => ?_))
 all_goals first|(exfalso;omega)|skip
 ·(apply jct;(·(apply jge.p;(·rfl);(·(repeat(first|exact BxO.nil _|apply BxO.k|(apply BxO.o;(·(exact .lit _))))));(·(apply GvA.cons;(·(apply RV.cellN (n := 3);(·rfl);(·rfl);(·kernel_rfl);(·rfl)));(·(apply GvP.g;(·(apply GvL.cons (.lit _));((apply GvL.cons (.row _ _ _ _ rfl (by ((simp;done))))));((apply GvL.cons (.row _ _ _ _ rfl (by ((simp;done))))));exact GvL.nil))));exact GvA.nil);(·decide))))
  exact ⟨_, _, by omega, rfl, _, _, _, rfl⟩
 ·(apply jct;(·(apply jge.p;(·rfl);(·(repeat(first|exact BxO.nil _|apply BxO.k|(apply BxO.o;(·(exact .lit _))))));(·(apply GvA.cons;(·(apply RV.cellN (n := 3);(·rfl);(·rfl);(·kernel_rfl);(·rfl)));(·(apply GvP.g;(·(apply GvL.cons (.lit _));((apply GvL.cons (.row _ _ _ _ rfl (by ((simp;done))))));((apply GvL.cons (.row _ _ _ _ rfl (by ((simp;done))))));exact GvL.nil))));exact GvA.nil);(·decide))))
  exact ⟨_, _, by omega, rfl, _, _, _, rfl⟩
 apply jay [0, 2, 3, 4] [2, 3, 16, 18, 19, 22, 33, 44, 45, 54, 55, 59, 60, 66, 67, 74, 81, 82, 88, 89, 90, 94, 95, 106, 112, 1011, 1014, 2011, 2014, 800000000] rfl;(·(repeat(first|exact Pf.nil|apply Pf.cons (.c rfl (.d rfl))|apply Pf.cons (.c rfl (.lp rfl)))));(·(repeat(first|exact Pb.nil|apply Pb.cons (.row rfl)|(apply Pb.cons;(·apply Nb.box rfl;(repeat(first|exact Ncs.nil rfl|(apply Ncs.cons rfl;(·(first|exact .d rfl|exact .ls rfl)))))))|apply Pb.skip)))
 refine jbb [0, 2, 3] [2, 1011, 2011, 1014, 2014, 16, 22, 33, 44, 45, 54, 55, 59, 60, 66, 67, 74, 81, 82, 88, 89, 90, 94, 95, 106, 112] (fun g : (Int × Nat × List (List Int) × List Int) × Int × Int => [(4, iZ g.1.1)]) (fun g => [(800000000, .box [.d (.same (kv 0) (eB code)), .d (dI g.2.1), .d (dW g.2.2)]), (3, .box [.d (dI E), .ls 18 1 0 g.1.2.1, .ls 19 1 0 g.1.2.1]), (18, .row 1 (cII g.1.2.2.1)), (19, .row 1 (cI g.1.2.2.2))]) (fun g => (0 ≤ g.1.1 ∧ g.1.1 ≤ 6) ∧ (a ≤ g.2.1 ∧ g.2.1 ≤ a + 10 + 40 * (6 - g.1.1)) ∧ (g.1.2.2.1.length = g.1.2.1 ∧ g.1.2.2.2.length = g.1.2.1) ∧ (g.1.2.1 : Int) ≤ 6 - g.1.1) (fun g => g.1.1.toNat) (((m0, 0, [], []), a3, s3)) ?_ (by (repeat(first|exact trivial|refine ⟨(by rfl), ?_⟩))) (by (repeat(first|exact trivial|refine ⟨(by (first|(refine jbm rfl ?_;simp;done)|(refine jcs rfl ?_;simp;done))), ?_⟩))) ?_
 ·exact ⟨by dsimp only;omega, by dsimp only;omega, ⟨rfl, rfl⟩, by dsimp only;omega⟩
 rintro ⟨⟨m, n, W, S⟩, a4, s4⟩ ⟨hm, hA, ⟨hW, hS⟩, hn⟩
 dsimp only at hm hA hW hS hn ⊢
 refine joinS (G := ?G) ?f ?g
 case f =>
  intro H
  by_cases hk : 0 < m ∧ 0 < E
  ·repeat' (first|refine zab ?_|refine zaa ?_|(refine jaa (.buildSlice 27 0 _) ?_;(apply jao (sz := 1) (by_ := 8);(·kernel_rfl);(·decide);(·(repeat(exact GvS.nil _)));(·decide);(·rfl);(·rfl);(·rfl)))|refine zat ?_|refine zbh ?_|refine zaf ?_|refine zag ?_|refine jaj ?_|refine jbn rfl rfl rfl rfl ?_|refine jbg rfl rfl rfl rfl ?_|refine jca rfl rfl (fun hg => ?_) (fun hg => ?_)|refine jak ?_|refine jai ?_|refine jar rfl ?_|refine jan ?_|refine jab ?_|refine jbj rfl ?_|refine jbi rfl (fun hc => ?_) (fun hc => ?_))
   all_goals first|(exfalso;omega)|skip
   apply jay [0, 2, 3, 4, 5, 6] [2, 3, 16, 18, 19, 22, 33, 44, 45, 54, 55, 59, 60, 66, 67, 74, 81, 82, 88, 89, 90, 94, 95, 106, 112, 1011, 1014, 2011, 2014, 800000000] rfl;(·(repeat(first|exact Pf.nil|apply Pf.cons (.c rfl (.d rfl))|apply Pf.cons (.c rfl (.ls rfl))|apply Pf.cons (.c rfl (.lp rfl)))));(·(repeat(first|exact Pb.nil|apply Pb.cons (.row rfl)|(apply Pb.cons;(·apply Nb.box rfl;(repeat(first|exact Ncs.nil rfl|(apply Ncs.cons rfl;(·(first|exact .d rfl|exact .ls rfl)))))))|apply Pb.skip)))
   refine jbb [0, 2, 3, 4] [2, 1011, 2011, 1014, 2014, 16, 18, 19, 3, 22, 44, 45, 54, 55, 59, 60, 66, 67, 74, 81, 82, 88, 89, 90, 94, 95, 106, 112] (fun g : List Int × Nat × Int × Int => [(6, iN g.2.1), (5, .c (.ls 33 1 0 g.1.length))]) (fun g => [(800000000, .box [.d (.same (kv 0) (eB code)), .d (dI g.2.2.1), .d (dW g.2.2.2)]), (33, .row 1 (cI g.1))]) (fun g => (g.1.length ≤ g.2.1 ∧ (g.2.1 : Int) ≤ E) ∧ a4 ≤ g.2.2.1 ∧ g.2.2.1 ≤ a4 + 2 * g.2.1) (fun g => E.toNat - g.2.1) (([], 0, a4, s4)) ?_ (by (repeat(first|exact trivial|refine ⟨(by rfl), ?_⟩))) (by (repeat(first|exact trivial|refine ⟨(by (first|(refine jbm rfl ?_;simp;done)|(refine jcs rfl ?_;simp;done))), ?_⟩))) ?_
   ·exact ⟨by dsimp only [List.length_nil];omega, by dsimp only;omega⟩
   rintro ⟨L, x, a5, s5⟩ ⟨hL, hB⟩
   dsimp only at hL hB ⊢
   by_cases hx : (x : Int) < E
   ·repeat' (first|refine zab ?_|refine zai ?_|refine zaa ?_|refine zbh ?_|refine zaf ?_|refine zac ?_|(refine jaa (.buildSlice 27 1 _) ?_;(apply jao (sz := 1) (by_ := 8);(·kernel_rfl);(·decide);(·(repeat(first|exact GvS.nil _|apply GvS.c rfl rfl (.lit _) rfl)));(·decide);(·rfl);(·rfl);(·rfl)))|(refine jaa (.call ⟨.builtin .append, _, #[27, 27]⟩) ?_;((apply jbo (sz := 1) (by_ := 8);(·rfl);(·rfl);(·((simp;done)));(·exact .row _ _ _ _ rfl (by ((simp;done))));(·decide);(·kernel_rfl);(·decide);(·omega);(·omega);(·rfl);(·rfl);(·rfl))))|refine zbj ?_|refine zbg ?_|refine zaj ?_|(refine jaa (.buildSlice 24 1 _) ?_;(apply jao (sz := 1) (by_ := 24);(·kernel_rfl);(·decide);(·(repeat(first|exact GvS.nil _|apply GvS.c rfl rfl (.row _ _ _ _ rfl (by ((simp;done)))) rfl)));(·decide);(·rfl);(·rfl);(·rfl)))|(refine jaa (.call ⟨.builtin .append, _, #[24, 24]⟩) ?_;((apply jbo (sz := 1) (by_ := 24);(·rfl);(·rfl);(·((simp;omega)));(·exact .row _ _ _ _ rfl (by ((simp;done))));(·decide);(·kernel_rfl);(·decide);(·omega);(·omega);(·rfl);(·rfl);(·rfl))))|(refine jaa (.store 24 _ _) ?_;(refine jax rfl rfl rfl rfl (by kernel_rfl) rfl rfl ?_))|refine zbk ?_|refine zax ?_|(refine jaa (.call ⟨.value (.func 39), _, _⟩) ?_;(apply jbl (fid := 39);(·rfl);(·rfl);(·(repeat(first|exact BxI.nil|apply BxI.ks|(apply BxI.o;(·(exact .lit _))))));(·(repeat(first|exact ArX.nil|apply ArX.v (.c (.d _)))));(·decide);(·decide);(·exact curOne_p code _ _ _ (by omega) (by omega));(·rfl);(·(intro b hb1 hb2;omega));(·rfl);(rintro _ _ ⟨a6, s6, ha6, rfl, b6, rfl⟩;refine ⟨(by first|rfl|simp [*]), ?_⟩)))|refine jaj ?_|refine jak ?_|refine jai ?_|refine jaz ?_|refine jar rfl ?_|refine jan ?_|refine jab (id := 12) ?_|refine jab (id := 14) ?_|refine jab (id := 15) ?_|refine jab (id := 16) ?_|refine jab (id := 17) ?_|refine jab (id := 18) ?_|refine jbd 19 (fun i => i == 5 || i == 7) (.step 0 true (.step 1 true (.step 2 true (.step 3 false (.step 4 false (.step 5 false (.step 6 true (.step 7 false .nil)))))))) [(0, 255, 255, true), (1, 254, 255, false), (0, 255, 255, true), (4, 251, 255, false), (8, 247, 255, false), (26, 237, 255, false), (63, 255, 223, true), (127, 159, 223, false)] (by kernel_rfl) (by kernel_rfl) ?_|refine jbi rfl (fun hc => ?_) (fun hc => ?_)|refine jcz rfl (fun hc => ?_) (fun hc => ?_))
    all_goals first|(exfalso;omega)|skip
    ·repeat' (first|refine zab ?_|refine zaa ?_|refine zad ?_|refine jaj ?_|refine jab ?_)
     refine jba ?_;refine ⟨(L ++ [(x : Int)], x + 1, a6, s6), ?_, ?_, jbx rfl (by (repeat(first|exact trivial|refine ⟨(by (first|rfl|(refine joq rfl ?_;((simp;done))))), ?_⟩))) (by (repeat(first|exact trivial|refine ⟨rfl, ?_⟩))) (by (repeat(first|exact trivial|refine ⟨(by (first|(refine jbm rfl ?_;simp;done)|rfl)), ?_⟩))) (by (repeat(first|exact trivial|refine ⟨.inr rfl, ?_⟩)))⟩
     ·dsimp only;rw [List.length_append, List.length_singleton];omega
     ·dsimp only; omega
    ·repeat' (first|refine zab ?_|refine zaa ?_|refine zad ?_|refine jaj ?_|refine jab ?_)
     refine jba ?_;refine ⟨(L, x + 1, a6, s6), ?_, ?_, jbx rfl (by (repeat(first|exact trivial|refine ⟨(by rfl), ?_⟩))) (by (repeat(first|exact trivial|refine ⟨rfl, ?_⟩))) (by (repeat(first|exact trivial|refine ⟨(by (first|(refine jbm rfl ?_;simp;done)|rfl)), ?_⟩))) (by (repeat(first|exact trivial|refine ⟨.inr rfl, ?_⟩)))⟩
     ·dsimp only; omega
     ·dsimp only; omega
   ·repeat' (first|refine zab ?_|refine zai ?_|refine zaa ?_|refine zbh ?_|refine zaf ?_|refine zac ?_|(refine jaa (.buildSlice 27 1 _) ?_;(apply jao (sz := 1) (by_ := 8);(·kernel_rfl);(·decide);(·(repeat(first|exact GvS.nil _|apply GvS.c rfl rfl (.lit _) rfl)));(·decide);(·rfl);(·rfl);(·rfl)))|(refine jaa (.call ⟨.builtin .append, _, #[27, 27]⟩) ?_;((apply jbo (sz := 1) (by_ := 8);(·rfl);(·rfl);(·((simp;done)));(·exact .row _ _ _ _ rfl (by ((simp;done))));(·decide);(·kernel_rfl);(·decide);(·omega);(·omega);(·rfl);(·rfl);(·rfl))))|refine zbj ?_|(refine jaa (.call ⟨.value (.func 43), _, _⟩) ?_;(apply jbl (fid := 43);(·rfl);(·rfl);(·(repeat(first|exact BxI.nil|apply BxI.ks|(apply BxI.o;(·(exact .lit _))))));(·(repeat(first|exact ArX.nil|apply ArX.v (.c (.d _)))));(·decide);(·decide);(·exact curPick_p code _ _ _ (by omega) (by omega));(·rfl);(·(intro b hb1 hb2;omega));(·rfl);(rintro _ _ ⟨a6, s6, ha6, rfl, x6, hx6, rfl⟩;refine ⟨(by first|rfl|simp [*]), ?_⟩)))|refine jaj ?_|refine jak ?_|refine jai ?_|refine jar rfl ?_|refine jan ?_|refine jab (id := 12) ?_|refine jab (id := 14) ?_|refine jab (id := 16) ?_|refine jab (id := 17) ?_|refine jbi rfl (fun hc => ?_) (fun hc => ?_))
    all_goals first|(exfalso;omega)|skip
    ·repeat' (first|refine jcm ?_ ?_|refine zab ?_|refine zaa ?_|(refine jaa (.buildSlice 27 1 _) ?_;(apply jao (sz := 1) (by_ := 8);(·kernel_rfl);(·decide);(·(repeat(first|exact GvS.nil _|apply GvS.c rfl rfl (.lit _) rfl)));(·decide);(·rfl);(·rfl);(·rfl)))|(refine jaa (.call ⟨.builtin .append, _, #[27, 27]⟩) ?_;((apply jbo (sz := 1) (by_ := 8);(·rfl);(·rfl);(·((simp;omega)));(·exact .row _ _ _ _ rfl (by ((simp;done))));(·decide);(·kernel_rfl);(·decide);(·omega);(·omega);(·rfl);(·rfl);(·rfl))))|refine zbg ?_|refine zaj ?_|(refine jaa (.buildSlice 24 1 _) ?_;(apply jao (sz := 1) (by_ := 24);(·kernel_rfl);(·decide);(·(repeat(first|exact GvS.nil _|apply GvS.c rfl rfl (.row _ _ _ _ rfl (by ((simp;done)))) rfl)));(·decide);(·rfl);(·rfl);(·rfl)))|(refine jaa (.call ⟨.builtin .append, _, #[24, 24]⟩) ?_;((apply jbo (sz := 1) (by_ := 24);(·rfl);(·rfl);(·((simp;omega)));(·exact .row _ _ _ _ rfl (by ((simp;done))));(·decide);(·kernel_rfl);(·decide);(·omega);(·omega);(·rfl);(·rfl);(·rfl))))|(refine jaa (.store 24 _ _) ?_;(refine jax rfl rfl rfl rfl (by kernel_rfl) rfl rfl ?_))|refine zbk ?_|refine zax ?_|(refine jaa (.store 27 _ _) ?_;(refine jax rfl rfl rfl rfl (by kernel_rfl) rfl rfl ?_))|refine zan ?_|(refine jaa (.call ⟨.value (.func 43), _, _⟩) ?_;(apply jbl (fid := 43);(·rfl);(·rfl);(·(repeat(first|exact BxI.nil|apply BxI.ks|(apply BxI.o;(·(exact .lit _))))));(·(repeat(first|exact ArX.nil|apply ArX.v (.c (.d _)))));(·decide);(·decide);(·exact curPick_p code _ _ _ (by omega) (by omega));(·rfl);(·(intro b hb1 hb2;omega));(·rfl);(rintro _ _ ⟨a7, s7, ha7, rfl, x7, hx7, rfl⟩;refine ⟨(by first|rfl|simp [*]), ?_⟩)))|refine jaj ?_|refine jaz ?_|refine jab ?_|refine jbd 19 (fun i => i == 3 || i == 5 || i == 7) (.step 0 true (.step 2 true (.alt 19 (.step 1 false (.step 3 false (.step 4 false (.step 5 false (.step 6 true (.step 7 false .nil)))))) (.step 3 false (.step 1 true (.step 4 false (.step 5 false (.step 6 true (.step 7 false .nil))))))))) [(0, 255, 247, true), (1, 254, 247, false), (0, 255, 255, true), (4, 251, 255, false), (8, 247, 247, false), (26, 237, 247, false), (63, 255, 215, true), (127, 159, 215, false)] (by kernel_rfl) (by kernel_rfl) ?_)
     all_goals
      refine jba ?_;refine ⟨((m - 1, n + 1, W ++ [L ++ [x6]], S ++ [x7]), a7, s7), ?_, ?_, jbx rfl (by (repeat(first|exact trivial|refine ⟨(by rfl), ?_⟩))) (by (repeat(first|exact trivial|refine ⟨rfl, ?_⟩))) (by (repeat(first|exact trivial|refine ⟨(by (first|(refine jbm rfl ?_;simp;done)|rfl)), ?_⟩))) (by (repeat(first|exact trivial|refine ⟨.inr rfl, ?_⟩)))⟩
      ·exact ⟨by dsimp only;omega, by dsimp only;omega, ⟨by simp;omega, by simp;omega⟩, by dsimp only;omega⟩
      ·dsimp only;omega
    ·repeat' (first|refine jcm ?_ ?_|refine zab ?_|refine zaa ?_|(refine jaa (.buildSlice 27 1 _) ?_;(apply jao (sz := 1) (by_ := 8);(·kernel_rfl);(·decide);(·(repeat(first|exact GvS.nil _|apply GvS.c rfl rfl (.lit _) rfl)));(·decide);(·rfl);(·rfl);(·rfl)))|(refine jaa (.call ⟨.builtin .append, _, #[27, 27]⟩) ?_;((apply jbo (sz := 1) (by_ := 8);(·rfl);(·rfl);(·((simp;omega)));(·exact .row _ _ _ _ rfl (by ((simp;done))));(·decide);(·kernel_rfl);(·decide);(·omega);(·omega);(·rfl);(·rfl);(·rfl))))|refine zbg ?_|refine zaj ?_|(refine jaa (.buildSlice 24 1 _) ?_;(apply jao (sz := 1) (by_ := 24);(·kernel_rfl);(·decide);(·(repeat(first|exact GvS.nil _|apply GvS.c rfl rfl (.row _ _ _ _ rfl (by ((simp;done)))) rfl)));(·decide);(·rfl);(·rfl);(·rfl)))|(refine jaa (.call ⟨.builtin .append, _, #[24, 24]⟩) ?_;((apply jbo (sz := 1) (by_ := 24);(·rfl);(·rfl);(·((simp;omega)));(·exact .row _ _ _ _ rfl (by ((simp;done))));(·decide);(·kernel_rfl);(·decide);(·omega);(·omega);(·rfl);(·rfl);(·rfl))))|(refine jaa (.store 24 _ _) ?_;(refine jax rfl rfl rfl rfl (by kernel_rfl) rfl rfl ?_))|refine zbk ?_|refine zax ?_|(refine jaa (.store 27 _ _) ?_;(refine jax rfl rfl rfl rfl (by kernel_rfl) rfl rfl ?_))|refine zan ?_|(refine jaa (.call ⟨.value (.func 43), _, _⟩) ?_;(apply jbl (fid := 43);(·rfl);(·rfl);(·(repeat(first|exact BxI.nil|apply BxI.ks|(apply BxI.o;(·(exact .lit _))))));(·(repeat(first|exact ArX.nil|apply ArX.v (.c (.d _)))));(·decide);(·decide);(·exact curPick_p code _ _ _ (by omega) (by omega));(·rfl);(·(intro b hb1 hb2;omega));(·rfl);(rintro _ _ ⟨a7, s7, ha7, rfl, x7, hx7, rfl⟩;refine ⟨(by first|rfl|simp [*]), ?_⟩)))|refine jaj ?_|refine jaz ?_|refine jab ?_|refine jbd 19 (fun i => i == 3 || i == 5 || i == 7) (.step 0 true (.step 2 true (.alt 19 (.step 1 false (.step 3 false (.step 4 false (.step 5 false (.step 6 true (.step 7 false .nil)))))) (.step 3 false (.step 1 true (.step 4 false (.step 5 false (.step 6 true (.step 7 false .nil))))))))) [(0, 255, 247, true), (1, 254, 247, false), (0, 255, 255, true), (4, 251, 255, false), (8, 247, 247, false), (26, 237, 247, false), (63, 255, 215, true), (127, 159, 215, false)] (by kernel_rfl) (by kernel_rfl) ?_)
     all_goals
      refine jba ?_;refine ⟨((m - 1, n + 1, W ++ [L], S ++ [x7]), a7, s7), ?_, ?_, jbx rfl (by (repeat(first|exact trivial|refine ⟨(by rfl), ?_⟩))) (by (repeat(first|exact trivial|refine ⟨rfl, ?_⟩))) (by (repeat(first|exact trivial|refine ⟨(by (first|(refine jbm rfl ?_;simp;done)|rfl)), ?_⟩))) (by (repeat(first|exact trivial|refine ⟨.inr rfl, ?_⟩)))⟩
      ·exact ⟨by dsimp only;omega, by dsimp only;omega, ⟨by simp;omega, by simp;omega⟩, by dsimp only;omega⟩
      ·dsimp only;omega
  ·repeat' (first|refine zab ?_|refine zaa ?_|(refine jaa (.buildSlice 27 0 _) ?_;(apply jao (sz := 1) (by_ := 8);(·kernel_rfl);(·decide);(·(repeat(exact GvS.nil _)));(·decide);(·rfl);(·rfl);(·rfl)))|refine zat ?_|refine zbh ?_|refine zaf ?_|refine zag ?_|refine jaj ?_|refine jbn rfl rfl rfl rfl ?_|refine jbg rfl rfl rfl rfl ?_|refine jca rfl rfl (fun hg => ?_) (fun hg => ?_)|refine jak ?_|refine jai ?_|refine jar rfl ?_|refine jan ?_|(apply jcw 8 [0, 2, 3, 4] [2, 1011, 2011, 1014, 2014, 16, 18, 19, 3, 22, 800000000] rfl;(·(repeat(first|exact Pf.nil|apply Pf.cons (.c rfl (.d rfl))|apply Pf.cons (.c rfl (.lp rfl)))));(·(repeat(first|exact Pb.nil|apply Pb.cons (.row rfl)|(apply Pb.cons;(·apply Nb.box rfl;(repeat(first|exact Ncs.nil rfl|(apply Ncs.cons rfl;(·(first|exact .d rfl|exact .ls rfl)))))))|apply Pb.skip)));refine jab (id := 8) ?_)|refine jab (id := 10) ?_|refine jab (id := 11) ?_|refine jbj rfl ?_|refine jbi rfl (fun hc => ?_) (fun hc => ?_))
   all_goals first|(exfalso;omega)|skip
   all_goals
    apply jay [0, 2, 3] [2, 3, 16, 18, 19, 22, 33, 44, 45, 54, 55, 59, 60, 66, 67, 1011, 1014, 2011, 2014, 800000000] (n := Tryz.f42.ntmps) rfl;(·(repeat(first|exact Pf.nil|apply Pf.cons (.c rfl (.lp rfl)))));(·(repeat(first|exact Pb.nil|apply Pb.cons (.row rfl)|(apply Pb.cons;(·apply Nb.box rfl;(repeat(first|exact Ncs.nil rfl|(apply Ncs.cons rfl;(·(first|exact .d rfl|exact .ls rfl)))))))|apply Pb.skip)))
    exact H.h
 case g =>
  repeat' (first|refine jcm ?_ ?_|refine zab ?_|refine zai ?_|refine zaa ?_|(refine jaa (.buildSlice 27 0 _) ?_;(apply jao (sz := 1) (by_ := 8);(·kernel_rfl);(·decide);(·(repeat(exact GvS.nil _)));(·decide);(·rfl);(·rfl);(·rfl)))|refine zat ?_|refine zbh ?_|(refine jaa (.buildSlice 27 1 _) ?_;(apply jao (sz := 1) (by_ := 8);(·kernel_rfl);(·decide);(·(repeat(first|exact GvS.nil _|apply GvS.c rfl rfl (.lit _) rfl)));(·decide);(·rfl);(·rfl);(·rfl)))|(refine jaa (.call ⟨.builtin .append, _, #[27, 27]⟩) ?_;((apply jbo (sz := 1) (by_ := 8);(·rfl);(·rfl);(·((simp;omega)));(·exact .row _ _ _ _ rfl (by ((simp;done))));(·decide);(·kernel_rfl);(·decide);(·omega);(·omega);(·rfl);(·rfl);(·rfl))))|refine zbj ?_|refine zbg ?_|refine zaj ?_|(refine jaa (.buildSlice 24 1 _) ?_;(apply jao (sz := 1) (by_ := 24);(·kernel_rfl);(·decide);(·(repeat(first|exact GvS.nil _|apply GvS.c rfl rfl (.row _ _ _ _ rfl (by ((simp;done)))) rfl)));(·decide);(·rfl);(·rfl);(·rfl)))|(refine jaa (.call ⟨.builtin .append, _, #[24, 24]⟩) ?_;((apply jbo (sz := 1) (by_ := 24);(·rfl);(·rfl);(·((simp;omega)));(·exact .row _ _ _ _ rfl (by ((simp;done))));(·decide);(·kernel_rfl);(·decide);(·omega);(·omega);(·rfl);(·rfl);(·rfl))))|(refine jaa (.store 24 _ _) ?_;(refine jax rfl rfl rfl rfl (by kernel_rfl) rfl rfl ?_))|refine zbk ?_|refine zax ?_|(refine jaa (.store 27 _ _) ?_;(refine jax rfl rfl rfl rfl (by kernel_rfl) rfl rfl ?_))|(refine jaa (.buildSlice 27 3 _) ?_;(apply jao (sz := 1) (by_ := 8);(·kernel_rfl);(·decide);(·(repeat(first|exact GvS.nil _|apply GvS.c rfl rfl (.lit _) rfl)));(·decide);(·rfl);(·rfl);(·rfl)))|(refine jaa (.store 3 _ _) ?_;(first|refine jax rfl rfl rfl rfl (by kernel_rfl) rfl rfl ?_|(refine jcl rfl rfl rfl rfl (.lit _) (by simp) (by simp) (by kernel_rfl) (by ((simp only [List.length_map, List.length_append, List.length_replicate, fillL_len, rowF_len, gridF_len, mkI_len, mkII_len, jdb] at *;omega))) rfl ?_;simp only [St.drop])))|(refine jaa (.buildSlice 27 2 _) ?_;(apply jao (sz := 1) (by_ := 8);(·kernel_rfl);(·decide);(·(repeat(first|exact GvS.nil _|apply GvS.c rfl rfl (.lit _) rfl)));(·decide);(·rfl);(·rfl);(·rfl)))|refine zbr ?_|(refine jaa (.call ⟨.value (.func 43), _, _⟩) ?_;(apply jbl (fid := 43);(·rfl);(·rfl);(·(repeat(first|exact BxI.nil|apply BxI.ks|(apply BxI.o;(·(exact .lit _))))));(·(repeat(first|exact ArX.nil|apply ArX.v (.c (.d _)))));(·decide);(·decide);(·exact curPick_p code _ _ 50 (by omega) (by omega));(·rfl);(·(intro b hb1 hb2;omega));(·rfl);(rintro _ _ ⟨a9, s9, ha9, rfl, x9, hx9, rfl⟩;refine ⟨(by first|rfl|simp [*]), ?_⟩)))|(refine jaa (.call ⟨.value (.func 46), _, _⟩) ?_;(apply jbl (fid := 46);(·rfl);(·rfl);(·(repeat(first|exact BxI.nil|apply BxI.ks|(apply BxI.o;(·(exact .lit _))))));(·(repeat(first|exact ArX.nil|apply ArX.v (.c (.row _ _ _ _ rfl (by ((simp;done))))))));(·decide);(·decide);(·exact curAmongD_p code _ _ _ _ (fun _ => True) rfl (by decide) (by repeat (first|exact fun x hx => absurd hx List.not_mem_nil|(refine List.forall_mem_cons.2 ⟨⟨_, rfl, trivial⟩, ?_⟩))) (by omega) (by omega));(·rfl);(·(intro b hb1 hb2;omega));(·rfl);(rintro _ _ ⟨a10, s10, ha10, rfl, k10, -, rfl⟩;refine ⟨(by first|rfl|simp [*]), ?_⟩)))|refine jaj ?_|refine jak ?_|refine jai ?_|refine jaz ?_|refine jan ?_|refine jab (id := 20) ?_|refine jab (id := 21) ?_|refine jab (id := 22) ?_|refine jab (id := 23) ?_|refine jab (id := 24) ?_|refine jab (id := 25) ?_|refine jab (id := 26) ?_|refine jab (id := 27) ?_|refine jab (id := 28) ?_|refine jab (id := 29) ?_|refine jbd 30 (fun i => i == 4 || i == 6) (.step 0 true (.step 2 true (.alt 30 (.step 1 false (.step 3 false (.step 4 false (.step 5 true (.step 6 false .nil))))) (.step 3 false (.alt 30 (.step 1 false (.step 4 false (.step 5 true (.step 6 false .nil)))) (.step 4 false (.step 1 true (.step 5 true (.step 6 false .nil))))))))) [(0, 127, 111, true), (1, 126, 111, false), (0, 127, 127, true), (0, 127, 127, false), (12, 115, 127, false), (31, 125, 111, true), (63, 79, 111, false)] (by kernel_rfl) (by kernel_rfl) ?_|refine jab (id := 31) ?_|refine jab (id := 32) ?_|refine jbi rfl (fun hc => ?_) (fun hc => ?_))
  all_goals first|(exfalso;omega)|skip
  all_goals
   repeat' (first|(refine jaa (.store 29 _ _) ?_;(refine jah rfl rfl rfl (by kernel_rfl) rfl rfl ?_))|refine zay ?_|refine jaj ?_|refine jab ?_)
   (apply jct;(·(apply jge.p;(·rfl);(·(repeat(first|exact BxO.nil _|apply BxO.k|(apply BxO.o;(·(exact .lit _))))));(·(apply GvA.cons;(·(apply RV.cellN (n := 3);(·rfl);(·rfl);(·kernel_rfl);(·rfl)));(·(apply GvP.g;(·(apply GvL.cons (.lit _));((apply GvL.cons (.row _ _ _ _ rfl (by ((simp;omega))))));((apply GvL.cons (.row _ _ _ _ rfl (by ((simp;omega))))));exact GvL.nil))));exact GvA.nil);(·decide))))
   refine ⟨_, _, by omega, rfl, sceneX_of ?_ ?_ ?_ ?_⟩
   all_goals first|exact jjj.map _|exact jjj.snoc (jjj.map _) IsI.nil rfl|exact IsI.map _|exact IsI.app (IsI.map _) (IsI.cons IsI.nil)|exact IsI.set (IsI.map _)|(simp;done)|(simp;omega)
theorem l1In_p (n lo hi : Int) : PC Tryz.prog 55 [.c (dI n), .c (dI lo), .c (dI hi)] (.p (.c (dB (inB n lo hi)))) := by
 refine jaq Tryz.func55 rfl rfl rfl (by kernel_rfl) rfl rfl ?_;intro _
 repeat' (first|refine zaa ?_|refine zab ?_|refine zbt ?_|refine zbn ?_|refine zag ?_|refine jaj ?_|refine jbn rfl rfl rfl rfl ?_|refine jbg rfl rfl rfl rfl ?_|refine jca rfl rfl (fun hg => ?_) (fun hg => ?_)|refine jak ?_|refine jab ?_)
 all_goals ((apply jat;apply jau;(·apply jbc.p;(·(apply GvA.cons;(·exact .tmp _);(·exact GvP.c (.lit _)));exact GvA.nil);(·decide))))
 all_goals (simp [dB, inB, *];try omega)
theorem l2Sizes_p (x y : Int) : PC Tryz.prog 94 [.c (dI x), .c (dI y)] (.p (.c (dB (sizeB x y)))) := by
 refine jaq Tryz.func94 rfl rfl rfl (by kernel_rfl) rfl rfl ?_;intro _
 repeat' (first|refine zaa ?_|refine zab ?_|refine zag ?_|(refine jaa (.call ⟨.value (.func 55), _, _⟩) ?_;(apply jag (fid := 55);(·(repeat(first|exact SeA.nil|apply SeA.cons (.c (.d _)))));(·exact l1In_p _ _ _);(·rfl)))|refine jaj ?_|refine jbn rfl rfl rfl rfl ?_|refine jbg rfl rfl rfl rfl ?_|refine jcq rfl rfl (fun hg => ?_) (fun hg => ?_)|refine jak ?_|refine jab ?_)
 all_goals (apply jat;apply jau;(·apply jbc.p;(·(apply GvA.cons;(·exact .tmp _);(·exact GvP.c (.lit _)));exact GvA.nil);(·decide)))
 all_goals ((simp_all [sizeB];done))
theorem l2Four_p (l : List Int) (n : Int) : PC Tryz.prog 95 [.c (eI l), .c (dI n)] (.p (.c (dB (row4B n l)))) := by
 refine jaq Tryz.func95 rfl rfl rfl (by kernel_rfl) rfl rfl ?_;rintro ⟨hl, -⟩
 have hl := hl.len
 repeat' (first|refine zaa ?_|refine jaj ?_|refine jak ?_|refine jai ?_|refine jab ?_)
 apply jay [0, 1, 5, 6] [] rfl;(·(repeat(first|exact Pf.nil|apply Pf.cons (.c rfl (.d rfl)))));(·(repeat(exact Pb.nil)))
 refine jbb [0, 1] [] (fun k => [(6, iN k), (5, iZ (sum64 (l.take k)))]) (fun _ => []) (fun k => k ≤ l.length ∧ k ≤ 5 ∧ (l.take k).all (fun m => inB m 0 n) = true) (fun k => l.length - k) (0) ?_ (by (repeat(first|exact trivial|refine ⟨(by rfl), ?_⟩))) (by (repeat(exact trivial))) ?_
 ·simp
 rintro k ⟨hk, hk9, ha⟩
 repeat' (first|refine zaa ?_|refine zab ?_|refine zas ?_|refine zac ?_|refine zag ?_|refine zao ?_|refine zap ?_|refine zah ?_|(refine jaa (.binOp .add 3 _ _ _) ?_;(first|refine jac (jas rfl rfl (by omega)) rfl ?_|refine jac (jhb rfl rfl) rfl ?_))|refine zai ?_|(refine jaa (.call ⟨.value (.func 55), _, _⟩) ?_;(apply jag (fid := 55);(·(repeat(first|exact SeA.nil|apply SeA.cons (.c (.d _)))));(·exact l1In_p _ _ _);(·rfl)))|refine jaj ?_|refine jbn rfl rfl rfl rfl ?_|refine jbg rfl rfl rfl rfl ?_|refine jca rfl rfl (fun hg => ?_) (fun hg => ?_)|refine jak ?_|refine jai ?_|refine jaz ?_|refine jar rfl ?_|refine jan ?_|refine jab ?_|refine jbj rfl ?_|refine jbi rfl (fun hc => ?_) (fun hc => ?_)|refine jcj rfl (fun hc => ?_) (fun hc => ?_))
 ·rename_i hk'
  have hk2 : k < l.length := by omega
  rw [jbw hk2] at hc
  (apply jat;apply jau;(·apply jbc.p;(·(apply GvA.cons;(·exact .tmp _);(·exact GvP.c (.lit _)));exact GvA.nil);(·decide)))
  rw [row4B, allB, jin hk2 hc];simp
 ·rename_i hk'
  have hk2 : k < l.length := by omega
  rw [jbw hk2] at hc
  refine jba ?_;refine ⟨k + 1, ?_, ?_, jbx rfl (by (repeat(first|exact trivial|refine ⟨(by (first|rfl|(refine jdr rfl ?_;((simp  [jix hk2, jbw hk2];done))))), ?_⟩))) (by (repeat(first|exact trivial|refine ⟨rfl, ?_⟩))) (by (repeat(exact trivial))) (by (repeat(exact trivial)))⟩
  ·exact ⟨by omega, by omega, by rw [jcv _ _ _ hk2, ha, hc];rfl⟩
  ·omega
 all_goals (apply jat;apply jau;(·apply jbc.p;(·(apply GvA.cons;(·exact .tmp _);(·exact GvP.c (.lit _)));exact GvA.nil);(·decide)))
 all_goals simp only [row4B]
 ·have h8 : l.length = 4 := by omega
  rw [List.take_of_length_le (by omega)] at *
  simp [h8, allB, ha]
 ·have h8 : ¬ l.length = 4 := by omega
  simp [h8]
 ·have h8 : l.length = 4 := by omega
  have hk8 : k = l.length := by omega
  rw [List.take_of_length_le (by omega)] at *
  simp [h8, allB, ha]
 ·have h8 : ¬ l.length = 4 := by omega
  simp [h8]
theorem l2Box_p (x y n : Int) (ll : List (List Int)) : PC Tryz.prog 53 [.g [dI x, dI y, dI n, eII ll]] (.p (.c (dB (boxB x y n ll)))) := by
 refine jaq Tryz.func53 rfl rfl rfl (by kernel_rfl) rfl rfl ?_;rintro ⟨hl, -⟩
 have hl := (hl _ (List.mem_cons_of_mem _ (List.mem_cons_of_mem _ (List.mem_cons_of_mem _ (List.mem_cons_self ..))))).len
 repeat' (first|(refine jaa (.box 26 _) ?_;refine jbh rfl rfl ?_)|refine zaa ?_|refine zav ?_|refine zaf ?_|refine zaw ?_|refine zah ?_|refine zab ?_|refine zbb ?_|refine zag ?_|refine zal ?_|refine zaj ?_|refine zau ?_|(refine jaa (.binOp .mul 3 _ _ _) ?_;(refine jac (jng rfl rfl) rfl ?_))|refine zbp ?_|(refine jaa (.call ⟨.value (.func 94), _, _⟩) ?_;(apply jag (fid := 94);(·(repeat(first|exact SeA.nil|apply SeA.cons (.c (.d _)))));(·exact l2Sizes_p _ _);(·rfl)))|(refine jaa (.call ⟨.value (.func 55), _, _⟩) ?_;(apply jag (fid := 55);(·(repeat(first|exact SeA.nil|apply SeA.cons (.c (.d _)))));(·exact l1In_p _ _ _);(·rfl)))|refine jaj ?_|refine jbn rfl rfl rfl rfl ?_|refine jbg rfl rfl rfl rfl ?_|refine jcq rfl rfl (fun hg => ?_) (fun hg => ?_)|refine jak ?_|refine jai ?_|refine jan ?_|refine jab ?_|refine jbk rfl ?_|refine jbi rfl (fun hc => ?_) (fun hc => ?_))
 ·(apply jat;apply jau;(·apply jbc.p;(·(apply GvA.cons;(·exact .tmp _);(·exact GvP.c (.lit _)));exact GvA.nil);(·decide)))
  have h9 : sizeB x y = false := by simpa using hg
  simp [boxB, h9]
 ·(apply jat;apply jau;(·apply jbc.p;(·(apply GvA.cons;(·exact .tmp _);(·exact GvP.c (.lit _)));exact GvA.nil);(·decide)))
  have h9 : inB n 1 1000 = false := by simpa using hg
  simp [boxB, h9]
 ·(apply jat;apply jau;(·apply jbc.p;(·(apply GvA.cons;(·exact .tmp _);(·exact GvP.c (.lit _)));exact GvA.nil);(·decide)))
  have hs : sizeB x y = true := by simp_all
  rw [jgf hs] at hc
  have h3 : ¬ (ll.length : Int) = x * y := by omega
  simp [boxB, h3]
 have hs : sizeB x y = true := by simp_all
 have hn : inB n 1 1000 = true := by simp_all
 have hlen : (ll.length : Int) = x * y := by rw [← jgf hs];omega
 apply jay [1, 3] [1] rfl;(·(repeat(first|exact Pf.nil|apply Pf.cons (.c rfl (.d rfl))|apply Pf.cons (.c rfl (.lp rfl)))));(·(repeat(first|exact Pb.nil|(apply Pb.cons;(·apply Nb.box rfl;(repeat(first|exact Ncs.nil rfl|(apply Ncs.cons rfl;(·(exact .d rfl))))))))))
 refine jbb [1] [1] (fun k => [(3, iN k)]) (fun _ => []) (fun k => k ≤ ll.length ∧ (ll.take k).all (row4B n) = true) (fun k => ll.length - k) (0) ?_ (by (repeat(first|exact trivial|refine ⟨(by rfl), ?_⟩))) (by (repeat(exact trivial))) ?_
 ·simp
 rintro k ⟨hk, ha⟩
 repeat' (first|refine zaa ?_|refine zaf ?_|refine zah ?_|refine zab ?_|refine zbb ?_|refine zal ?_|refine zaj ?_|refine zau ?_|refine zac ?_|refine zam ?_|refine zaq ?_|refine zad ?_|(refine jaa (.call ⟨.value (.func 95), _, _⟩) ?_;(apply jag (fid := 95);(·(repeat(first|exact SeA.nil|apply SeA.cons (.c (.d _)))));(·exact l2Four_p _ _);(·rfl)))|refine jaj ?_|refine jak ?_|refine jai ?_|refine jaz ?_|refine jar rfl ?_|refine jan ?_|refine jab ?_|refine jbd 6 (fun _ => false) (.step 0 true (.step 1 true (.step 2 true (.step 3 true (.step 4 true (.step 5 true (.step 6 true (.step 7 false (.step 8 true .nil))))))))) [(0, 511, 511, true), (1, 510, 511, false), (0, 511, 511, true), (6, 505, 511, true), (8, 503, 511, false), (0, 511, 511, true), (32, 479, 511, false), (80, 431, 511, false), (128, 383, 511, true)] (by kernel_rfl) (by kernel_rfl) ?_|refine jbi rfl (fun hc => ?_) (fun hc => ?_)|refine jcj rfl (fun hc => ?_) (fun hc => ?_))
 ·have hk2 : k < ll.length := by omega
  rw [jbw hk2] at hc
  (apply jat;apply jau;(·apply jbc.p;(·(apply GvA.cons;(·exact .tmp _);(·exact GvP.c (.lit _)));exact GvA.nil);(·decide)))
  rw [boxB, jin hk2 hc];simp
 ·have hk2 : k < ll.length := by omega
  rw [jbw hk2] at hc
  refine jba ?_;refine ⟨k + 1, ?_, ?_, jbx rfl (by (repeat(first|exact trivial|refine ⟨(by rfl), ?_⟩))) (by (repeat(first|exact trivial|refine ⟨rfl, ?_⟩))) (by (repeat(exact trivial))) (by (repeat(first|exact trivial|refine ⟨.inr rfl, ?_⟩)))⟩
  ·exact ⟨by omega, by rw [jcv _ _ _ hk2, ha, hc];rfl⟩
  ·omega
 ·have : k = ll.length := by omega
  subst this
  rw [List.take_length] at ha
  (apply jat;apply jau;(·apply jbc.p;(·(apply GvA.cons;(·exact .tmp _);(·exact GvP.c (.lit _)));exact GvA.nil);(·decide)))
  simp [boxB, hs, hn, hlen, ha]
theorem l2Same_p (x y n : Int) (la : List (List Int)) (x2 y2 m : Int) (lb : List (List Int)) : PC Tryz.prog 214 [.g [dI x, dI y, dI n, eII la], .g [dI x2, dI y2, dI m, eII lb]] (.p (.c (dB (sameB x y n la x2 y2 m lb)))) := by
 refine jaq Tryz.func214 rfl rfl rfl (by kernel_rfl) rfl rfl ?_;intro _
 repeat' (first|(refine jaa (.box 26 _) ?_;refine jbh rfl rfl ?_)|refine zaa ?_|refine zae ?_|refine zab ?_|refine zag ?_|refine zav ?_|refine zaf ?_|refine zai ?_|refine zaw ?_|(refine jaa (.call ⟨.value (.func 53), _, _⟩) ?_;(apply jag (fid := 53);(·(repeat(first|exact SeA.nil|(apply SeA.cons;(·(apply SeP.g;(repeat(first|exact SeL.nil|apply SeL.cons (.d _)))))))));(·exact l2Box_p _ _ _ _);(·rfl)))|refine jaj ?_|refine jbn rfl rfl rfl rfl ?_|refine jbg rfl rfl rfl rfl ?_|refine jca rfl rfl (fun hg => ?_) (fun hg => ?_)|refine jcq rfl rfl (fun hg => ?_) (fun hg => ?_)|refine jak ?_|refine jab ?_)
 all_goals (apply jat;apply jau;(·apply jbc.p;(·(apply GvA.cons;(·exact .tmp _);(·exact GvP.c (.lit _)));exact GvA.nil);(·decide)))
 all_goals simp_all [sameB]
theorem jns (x y n : Int) (ll : List (List Int)) : PT Tryz.prog 175 [.g [dI x, dI y, dI n, eII ll]] (.t [.g [dI (whenN (boxB x y n ll) x), dI (whenN (boxB x y n ll) y), dI (whenN (boxB x y n ll) n), eII (whenL (boxB x y n ll) ll)], .c (dB (boxB x y n ll))]) := by
 cases h : boxB x y n ll
 all_goals
  refine jco Tryz.func175 rfl rfl rfl (by kernel_rfl) rfl rfl ?_;intro _
  repeat' (first|(refine jaa (.box 26 _) ?_;refine jbh rfl rfl ?_)|(refine jaa (.alloc 26) ?_;refine jav (zs := [.int .i64 0, .int .i64 0, .int .i64 0, .slice none 0 0]) (by kernel_rfl) rfl ?_)|refine zaa ?_|refine zae ?_|refine zah ?_|refine zbi ?_|(refine jaa (.store 26 _ _) ?_;(refine jah rfl rfl rfl (by kernel_rfl) rfl rfl ?_))|(refine jaa (.call ⟨.value (.func 53), _, _⟩) ?_;(apply jag (fid := 53);(·(repeat(first|exact SeA.nil|(apply SeA.cons;(·(apply SeP.g;(repeat(first|exact SeL.nil|apply SeL.cons (.d _)|apply SeL.cons (.all _ _ _ _ rfl (by ((simp;done))))))))))));(·exact l2Box_p _ _ _ _);(·rfl)))|refine jaj ?_|refine jak ?_|refine jan ?_|refine jab ?_|refine jcj rfl (fun hc => ?_) (fun hc => ?_))
  all_goals first|(exfalso;simp_all;done)|skip
  all_goals (apply jat;apply jau;(·apply jbc.t;(·(apply GvA.cons;(·(apply RV.cellN (n := 4);(·rfl);(·rfl);(·kernel_rfl);(·rfl)));(·(apply GvP.g;(·(apply GvL.cons (.lit _));(apply GvL.cons (.lit _));(apply GvL.cons (.lit _));((first|apply GvL.cons (.nil 1 (by decide))|apply GvL.cons (.row _ _ _ _ rfl (by ((simp;done))))));exact GvL.nil))));(apply GvA.cons;(·exact .tmp _);(·exact GvP.c (.lit _)));exact GvA.nil);(·rfl);(·decide)))
  all_goals simp [whenN, whenL]
theorem l2Mix_p (x y : Nat) (n m : Int) (la lb : List (List Int)) (ha : boxB x y n la = true) (hb : boxB x y m lb = true) : PC Tryz.prog 134 [.g [dI x, dI y, dI n, eII la], .g [dI x, dI y, dI m, eII lb]] (.p (.g [dI x, dI y, dI (n + m), eII (bmixL la lb x y)])) := by
 have a := jbp ha;have b := jbp hb
 have a1 := a.x1;have a2 := a.x3;have a3 := a.y1;have a4 := a.y3;have a5 := a.n1;have a6 := a.n2;have b5 := b.n1;have b6 := b.n2;have al := a.len;have bl := b.len
 have hxy : y * x ≤ 3 * 3 := Nat.mul_le_mul (by omega) (by omega)
 have hxe : ((y * x : Nat) : Int) = (x : Int) * y := by rw [Int.natCast_mul, Int.mul_comm]
 rw [joy]
 refine jaq Tryz.func134 rfl rfl rfl (by kernel_rfl) rfl rfl ?_;intro _
 repeat' (first|(refine jaa (.box 26 _) ?_;refine jbh rfl rfl ?_)|(refine jaa (.alloc 26) ?_;refine jav (zs := [.int .i64 0, .int .i64 0, .int .i64 0, .slice none 0 0]) (by kernel_rfl) rfl ?_)|refine zav ?_|refine zaf ?_|refine zaw ?_|refine zbb ?_|refine zad ?_|(refine jaa (.buildSlice 24 0 _) ?_;(apply jao (sz := 1) (by_ := 24);(·kernel_rfl);(·decide);(·(repeat(exact GvS.nil _)));(·decide);(·rfl);(·rfl);(·rfl)))|refine zbi ?_|(refine jaa (.store 26 _ _) ?_;(refine jah rfl rfl rfl (by kernel_rfl) rfl rfl ?_))|refine zaa ?_|refine jaj ?_|refine jak ?_|refine jai ?_|refine jab ?_)
 apply jay [2, 3, 4, 5, 6] [2, 3, 4, 5, 18, 27, 50, 51, 55, 56] rfl;(·(repeat(first|exact Pf.nil|apply Pf.cons (.c rfl (.d rfl))|apply Pf.cons (.c rfl (.lp rfl)))));(·(repeat(first|exact Pb.nil|apply Pb.cons (.row rfl)|(apply Pb.cons;(·apply Nb.box rfl;(repeat(first|exact Ncs.nil rfl|(apply Ncs.cons rfl;(·(first|exact .d rfl|exact .ls rfl)))))))|apply Pb.skip)))
 refine jbb [2, 3, 4, 5] [2, 3, 4, 27, 50, 51, 55, 56] (fun i => [(6, iN i)]) (fun i => [(5, .box [.d (dI x), .d (dI y), .d (dI (n + m)), .ls 18 1 0 i]), (18, .row 1 (cII (rowsF (mixR la lb) i)))]) (fun i => i ≤ y * x) (fun i => y * x - i) (0) ?_ (by (repeat(first|exact trivial|refine ⟨(by rfl), ?_⟩))) (by (repeat(first|exact trivial|refine ⟨(by (first|(refine jbm rfl ?_;simp  [rowsF];done)|(refine jcs rfl ?_;simp  [rowsF];done))), ?_⟩))) ?_
 ·omega
 intro i hi
 by_cases h : i < y * x
 ·obtain ⟨r1, r2⟩ := jgd ha (q := (i : Int)) (by omega) (by omega)
  obtain ⟨s1, s2⟩ := jgd hb (q := (i : Int)) (by omega) (by omega)
  repeat' (first|(refine jaa (.store 26 _ _) ?_;(refine jah rfl rfl rfl (by kernel_rfl) rfl rfl ?_))|refine zaa ?_|refine zab ?_|refine zal ?_|refine zaj ?_|refine zau ?_|refine zac ?_|(refine jaa (.buildSlice 27 0 _) ?_;(apply jao (sz := 1) (by_ := 8);(·kernel_rfl);(·decide);(·(repeat(exact GvS.nil _)));(·decide);(·rfl);(·rfl);(·rfl)))|refine zae ?_|refine jaj ?_|refine jak ?_|refine jai ?_|refine jar rfl ?_|refine jan ?_|refine jab ?_|refine jbi rfl (fun hc => ?_) (fun hc => ?_))
  all_goals first|(exfalso;omega)|skip
  apply jay [2, 3, 4, 5, 6, 7, 8] [2, 3, 4, 5, 18, 27, 50, 51, 55, 56] rfl;(·(repeat(first|exact Pf.nil|apply Pf.cons (.c rfl (.d rfl))|apply Pf.cons (.c rfl (.ls rfl))|apply Pf.cons (.c rfl (.lp rfl)))));(·(repeat(first|exact Pb.nil|apply Pb.cons (.row rfl)|(apply Pb.cons;(·apply Nb.box rfl;(repeat(first|exact Ncs.nil rfl|(apply Ncs.cons rfl;(·(first|exact .d rfl|exact .ls rfl)))))))|apply Pb.skip)))
  refine jbb [2, 3, 4, 5, 6] [2, 3, 4, 18, 5, 50, 51, 55, 56] (fun k => [(8, iN k), (7, .c (.ls 27 1 0 k))]) (fun k => [(27, .row 1 (cI (rowF (mixR la lb i) k)))]) (fun k => k ≤ 4) (fun k => 4 - k) (0) ?_ (by (repeat(first|exact trivial|refine ⟨(by rfl), ?_⟩))) (by (repeat(first|exact trivial|refine ⟨(by rfl), ?_⟩))) ?_
  ·omega
  intro k hk
  by_cases hk4 : k < 4
  ·have v1 := r2 k (by omega) (by omega)
   have v2 := s2 k (by omega) (by omega)
   repeat' (first|refine zap ?_|refine zad ?_|refine zaa ?_|refine zab ?_|refine zal ?_|refine zaj ?_|refine zac ?_|refine zam ?_|refine zaq ?_|refine zao ?_|(refine jaa (.buildSlice 27 1 _) ?_;(apply jao (sz := 1) (by_ := 8);(·kernel_rfl);(·decide);(·(repeat(first|exact GvS.nil _|apply GvS.c rfl rfl (.lit _) rfl)));(·decide);(·rfl);(·rfl);(·rfl)))|(refine jaa (.call ⟨.builtin .append, _, #[27, 27]⟩) ?_;((apply jbo (sz := 1) (by_ := 8);(·rfl);(·rfl);(·((simp;done)));(·exact .row _ _ _ _ rfl (by ((simp;done))));(·decide);(·kernel_rfl);(·decide);(·omega);(·omega);(·rfl);(·rfl);(·rfl))))|(refine jaa (.buildSlice 24 1 _) ?_;(apply jao (sz := 1) (by_ := 24);(·kernel_rfl);(·decide);(·(repeat(first|exact GvS.nil _|apply GvS.c rfl rfl (.row _ _ _ _ rfl (by ((simp;done)))) rfl)));(·decide);(·rfl);(·rfl);(·rfl)))|(refine jaa (.call ⟨.builtin .append, _, #[24, 24]⟩) ?_;((apply jbo (sz := 1) (by_ := 24);(·rfl);(·rfl);(·((simp;done)));(·exact .row _ _ _ _ rfl (by ((simp;done))));(·decide);(·kernel_rfl);(·decide);(·omega);(·omega);(·rfl);(·rfl);(·rfl))))|(refine jaa (.store 24 _ _) ?_;(refine jax rfl rfl rfl rfl (by kernel_rfl) rfl rfl ?_))|refine jaj ?_|refine jak ?_|refine jai ?_|refine jaz ?_|refine jar rfl ?_|refine jan ?_|refine jab ?_|refine jbd 9 (fun i => i == 19) (.step 0 true (.step 1 true (.step 2 true (.step 3 true (.step 4 true (.step 5 true (.step 6 true (.step 7 true (.step 8 true (.step 9 true (.step 10 true (.step 11 true (.step 12 true (.step 13 true (.step 14 true (.step 15 true (.step 16 true (.step 17 true (.step 18 false (.step 19 false (.step 20 true .nil))))))))))))))))))))) [(0, 2097151, 2097151, true), (0, 2097151, 2097151, true), (2, 2097149, 2097151, false), (0, 2097151, 2097151, true), (12, 2097139, 2097151, true), (16, 2097135, 2097151, false), (0, 2097151, 2097151, true), (96, 2097055, 2097151, true), (128, 2097023, 2097151, false), (0, 2097151, 2097151, true), (512, 2096639, 2097151, false), (0, 2097151, 2097151, true), (3072, 2094079, 2097151, true), (4096, 2093055, 2097151, false), (0, 2097151, 2097151, true), (24576, 2072575, 2097151, true), (32768, 2064383, 2097151, false), (65792, 2031359, 2097151, true), (131072, 1966079, 2097151, false), (262145, 1835006, 2097151, false), (1048575, 1572862, 1572863, true)] (by kernel_rfl) (by kernel_rfl) ?_|refine jbi rfl (fun hc => ?_) (fun hc => ?_))
   all_goals first|(exfalso;omega)|skip
   refine jba ?_;refine ⟨k + 1, ?_, ?_, jbx rfl (by (repeat(first|exact trivial|refine ⟨(by rfl), ?_⟩))) (by (repeat(first|exact trivial|refine ⟨rfl, ?_⟩))) (by (repeat(first|exact trivial|refine ⟨(by ((refine jbm rfl ?_;simp  [jdj, mixR];done))), ?_⟩))) (by (repeat(first|exact trivial|refine ⟨.inr rfl, ?_⟩)))⟩
   ·omega
   ·omega
  ·have e : k = 4 := by omega
   subst e
   repeat' (first|refine zad ?_|refine zaa ?_|refine zab ?_|refine zal ?_|refine zaj ?_|refine zac ?_|(refine jaa (.buildSlice 24 1 _) ?_;(apply jao (sz := 1) (by_ := 24);(·kernel_rfl);(·decide);(·(repeat(first|exact GvS.nil _|apply GvS.c rfl rfl (.row _ _ _ _ rfl (by ((simp;done)))) rfl)));(·decide);(·rfl);(·rfl);(·rfl)))|(refine jaa (.call ⟨.builtin .append, _, #[24, 24]⟩) ?_;((apply jbo (sz := 1) (by_ := 24);(·rfl);(·rfl);(·((simp;done)));(·exact .row _ _ _ _ rfl (by ((simp;done))));(·decide);(·kernel_rfl);(·decide);(·omega);(·omega);(·rfl);(·rfl);(·rfl))))|(refine jaa (.store 24 _ _) ?_;(refine jax rfl rfl rfl rfl (by kernel_rfl) rfl rfl ?_))|refine jaj ?_|refine jak ?_|refine jaz ?_|refine jar rfl ?_|refine jab ?_|refine jbj rfl ?_)
   all_goals first|(exfalso;omega)|skip
   refine jba ?_;refine ⟨i + 1, ?_, ?_, jbx rfl (by (repeat(first|exact trivial|refine ⟨(by rfl), ?_⟩))) (by (repeat(first|exact trivial|refine ⟨rfl, ?_⟩))) (by (repeat(first|exact trivial|refine ⟨(by (first|(refine jbm rfl ?_;simp  [jja];done)|rfl)), ?_⟩))) (by (repeat(first|exact trivial|refine ⟨.inr rfl, ?_⟩)))⟩
   ·omega
   ·omega
 ·have e : i = y * x := by omega
  subst e
  repeat' (first|(refine jaa (.store 26 _ _) ?_;(refine jah rfl rfl rfl (by kernel_rfl) rfl rfl ?_))|refine zaa ?_|refine zab ?_|refine zal ?_|refine zaj ?_|refine zau ?_|refine zac ?_|(refine jaa (.buildSlice 27 0 _) ?_;(apply jao (sz := 1) (by_ := 8);(·kernel_rfl);(·decide);(·(repeat(exact GvS.nil _)));(·decide);(·rfl);(·rfl);(·rfl)))|refine zae ?_|refine jaj ?_|refine jak ?_|refine jai ?_|refine jar rfl ?_|refine jan ?_|refine jab ?_|refine jbi rfl (fun hc => ?_) (fun hc => ?_))
  all_goals first|(exfalso;omega)|skip
  (apply jat;apply jau;(·apply jbc.p;(·(apply GvA.cons;(·(apply RV.cellN (n := 4);(·rfl);(·rfl);(·kernel_rfl);(·rfl)));(·(apply GvP.g;(·(apply GvL.cons (.lit _));(apply GvL.cons (.lit _));(apply GvL.cons (.lit _));((apply GvL.cons (.row _ _ _ _ rfl (by ((simp;done))))));exact GvL.nil))));exact GvA.nil);(·decide)))
  simp
theorem spMixBoxes_p (x y n : Int) (la : List (List Int)) (x2 y2 m : Int) (lb : List (List Int)) : PC Tryz.prog 179 [.g [dI x, dI y, dI n, eII la], .g [dI x2, dI y2, dI m, eII lb]]
  (.t [.g [dI (whenN (bmixB x y n la x2 y2 m lb) x), dI (whenN (bmixB x y n la x2 y2 m lb) y), dI (whenN (bmixB x y n la x2 y2 m lb) (n + m)), eII (whenL (bmixB x y n la x2 y2 m lb) (bmixL la lb x y))], .c (dB (bmixB x y n la x2 y2 m lb))]) := by
 cases hs : sameB x y n la x2 y2 m lb with
 | false =>
  have hB : bmixB x y n la x2 y2 m lb = false := by simp [bmixB, hs]
  rw [hB]
  refine jaq Tryz.func179 rfl rfl rfl (by kernel_rfl) rfl rfl ?_;intro _
  repeat' (first|(refine jaa (.box 26 _) ?_;refine jbh rfl rfl ?_)|(refine jaa (.alloc 26) ?_;refine jav (zs := [.int .i64 0, .int .i64 0, .int .i64 0, .slice none 0 0]) (by kernel_rfl) rfl ?_)|refine zaa ?_|refine zae ?_|refine zah ?_|refine zbi ?_|(refine jaa (.store 26 _ _) ?_;(refine jah rfl rfl rfl (by kernel_rfl) rfl rfl ?_))|(refine jaa (.call ⟨.value (.func 214), _, _⟩) ?_;(apply jag (fid := 214);(·(repeat(first|exact SeA.nil|(apply SeA.cons;(·(apply SeP.g;(repeat(first|exact SeL.nil|apply SeL.cons (.d _)))))))));(·exact l2Same_p _ _ _ _ _ _ _ _);(·rfl)))|refine jaj ?_|refine jak ?_|refine jan ?_|refine jab ?_|refine jcj rfl (fun hc => ?_) (fun hc => ?_))
  all_goals first|(exfalso;simp_all;done)|skip
  all_goals (apply jat;apply jau;(·apply jbc.t;(·(apply GvA.cons;(·(apply RV.cellN (n := 4);(·rfl);(·rfl);(·kernel_rfl);(·rfl)));(·(apply GvP.g;(·(apply GvL.cons (.lit _));(apply GvL.cons (.lit _));(apply GvL.cons (.lit _));((apply GvL.cons (.nil 1 (by decide))));exact GvL.nil))));(apply GvA.cons;(·exact .tmp _);(·exact GvP.c (.lit _)));exact GvA.nil);(·rfl);(·decide)))
  all_goals simp [whenN, whenL]
 | true =>
  obtain ⟨ha, hb, rfl, rfl⟩ := joh hs
  have hB : bmixB x2 y2 n la x2 y2 m lb = decide (n + m ≤ 1000) := by simp [bmixB, hs]
  rw [hB]
  obtain ⟨x, y, rfl, rfl, hx, hy⟩ := jgc ha
  have hM := jjz ha hb
  have hK := jns x y (n + m) (bmixL la lb x y)
  rw [hM] at hK
  refine jaq Tryz.func179 rfl rfl rfl (by kernel_rfl) rfl rfl ?_;intro _
  repeat' (first|(refine jaa (.box 26 _) ?_;refine jbh rfl rfl ?_)|(refine jaa (.alloc 26) ?_;refine jav (zs := [.int .i64 0, .int .i64 0, .int .i64 0, .slice none 0 0]) (by kernel_rfl) rfl ?_)|refine zaa ?_|refine zae ?_|refine zah ?_|refine zbi ?_|(refine jaa (.store 26 _ _) ?_;(refine jah rfl rfl rfl (by kernel_rfl) rfl rfl ?_))|refine zak ?_|(refine jaa (.call ⟨.value (.func 214), _, _⟩) ?_;((apply jag (fid := 214);(·(repeat(first|exact SeA.nil|(apply SeA.cons;(·(apply SeP.g;(repeat(first|exact SeL.nil|apply SeL.cons (.d _)))))))));(·exact l2Same_p _ _ _ _ _ _ _ _);(·rfl))))|(refine jaa (.call ⟨.value (.func 134), _, _⟩) ?_;((apply jbq (fid := 134);(·(repeat(first|exact SeA.nil|(apply SeA.cons;(·(apply SeP.g;(repeat(first|exact SeL.nil|apply SeL.cons (.d _)))))))));(·exact l2Mix_p _ _ _ _ _ _ ha hb);(·rfl);(·rfl))))|(refine jaa (.call ⟨.value (.func 175), _, _⟩) ?_;(apply jej (fid := 175);(·(repeat(first|exact jhd.nil|(apply jhd.g rfl;(·(repeat(first|exact GvM.nil|apply GvM.cons (.lit _)|apply GvM.cons (.row _ _ _ _ rfl (by ((simp;done)))))))))));(·decide);(·exact hK);(·rfl);(·rfl);(·rfl)))|refine jaj ?_|refine jak ?_|refine jan ?_|refine jab ?_|refine jcj rfl (fun hc => ?_) (fun hc => ?_))
  all_goals first|(exfalso;simp_all;done)|skip
  all_goals (apply jat;apply jau;(·apply jbc.t;(·(apply GvA.cons;(·(apply RV.cellN (n := 4);(·rfl);(·rfl);(·kernel_rfl);(·rfl)));(·(apply GvP.g;(·(apply GvL.cons (.lit _));(apply GvL.cons (.lit _));(apply GvL.cons (.lit _));((apply GvL.cons (.row _ _ _ _ rfl (by ((simp;done))))));exact GvL.nil))));(apply GvA.cons;(·exact .tmp _);(·exact GvP.c (.lit _)));exact GvA.nil);(·rfl);(·decide)))
  all_goals rfl
theorem l2PlayBox_p (x y : Nat) (pl : List Int) (wh : Int) (hx : x ≤ 3) (hy : y ≤ 3) (hp : bitsB pl ((x : Int) + y) = true) : PC Tryz.prog 133 [.c (dI x), .c (dI y), .c (eI pl), .c (dI wh)] (.p (.g [dI x, dI y, dI wh, eII (playL pl x y wh)])) := by
 have hl := jce hp
 have hxy : y * x ≤ 3 * 3 := Nat.mul_le_mul (by omega) (by omega)
 have hP : playL pl x y wh = boxF (playF pl x wh) y (y * x) := by unfold playL;simp
 rw [hP]
 refine jaq Tryz.func133 rfl rfl rfl (by kernel_rfl) rfl rfl ?_;intro _
 repeat' (first|(refine jaa (.alloc 26) ?_;refine jav (zs := [.int .i64 0, .int .i64 0, .int .i64 0, .slice none 0 0]) (by kernel_rfl) rfl ?_)|refine zab ?_|(refine jaa (.buildSlice 24 0 _) ?_;(apply jao (sz := 1) (by_ := 24);(·kernel_rfl);(·decide);(·(repeat(exact GvS.nil _)));(·decide);(·rfl);(·rfl);(·rfl)))|refine zbi ?_|(refine jaa (.store 26 _ _) ?_;(refine jah rfl rfl rfl (by kernel_rfl) rfl rfl ?_))|refine zaa ?_|refine jaj ?_|refine jak ?_|refine jai ?_|refine jab ?_)
 apply jay [0, 1, 2, 3, 8, 9, 10] [8, 9, 16, 28, 47, 48] rfl;(·(repeat(first|exact Pf.nil|apply Pf.cons (.c rfl (.d rfl))|apply Pf.cons (.c rfl (.lp rfl)))));(·(repeat(first|exact Pb.nil|apply Pb.cons (.row rfl)|(apply Pb.cons;(·apply Nb.box rfl;(repeat(first|exact Ncs.nil rfl|(apply Ncs.cons rfl;(·(first|exact .d rfl|exact .ls rfl)))))))|apply Pb.skip)))
 refine jbb [0, 1, 2, 3, 8, 9] [8, 28, 47, 48] (fun i => [(10, iN i)]) (fun i => [(9, .box [.d (dI x), .d (dI y), .d (dI wh), .ls 16 1 0 (y * i)]), (16, .row 1 (cII (boxF (playF pl x wh) y (y * i))))]) (fun i => i ≤ x) (fun i => x - i) (0) ?_ (by (repeat(first|exact trivial|refine ⟨(by rfl), ?_⟩))) (by (repeat(first|exact trivial|refine ⟨(by (first|(refine jcs rfl ?_;simp;done)|rfl)), ?_⟩))) ?_
 ·omega
 intro i hi
 by_cases h : i < x
 ·repeat' (first|refine zab ?_|(refine jaa (.store 26 _ _) ?_;(refine jah rfl rfl rfl (by kernel_rfl) rfl rfl ?_))|refine zaa ?_|refine zac ?_|refine zae ?_|refine jaj ?_|refine jak ?_|refine jai ?_|refine jar rfl ?_|refine jan ?_|refine jab ?_|refine jbi rfl (fun hc => ?_) (fun hc => ?_))
  all_goals first|(exfalso;omega)|skip
  apply jay [0, 1, 2, 3, 8, 9, 10, 11] [8, 9, 16, 28, 47, 48] rfl;(·(repeat(first|exact Pf.nil|apply Pf.cons (.c rfl (.d rfl))|apply Pf.cons (.c rfl (.lp rfl)))));(·(repeat(first|exact Pb.nil|apply Pb.cons (.row rfl)|(apply Pb.cons;(·apply Nb.box rfl;(repeat(first|exact Ncs.nil rfl|(apply Ncs.cons rfl;(·(first|exact .d rfl|exact .ls rfl)))))))|apply Pb.skip)))
  refine jbb [0, 1, 2, 3, 8, 9, 10] [8, 28, 47, 48] (fun k => [(11, iN k)]) (fun k => [(9, .box [.d (dI x), .d (dI y), .d (dI wh), .ls 16 1 0 (y * i + k)]), (16, .row 1 (cII (boxF (playF pl x wh) y (y * i + k))))]) (fun k => k ≤ y) (fun k => y - k) (0) ?_ (by (repeat(first|exact trivial|refine ⟨(by rfl), ?_⟩))) (by (repeat(first|exact trivial|refine ⟨(by (first|(refine jbm rfl ?_;simp;done)|(refine jcs rfl ?_;simp;done))), ?_⟩))) ?_
  ·omega
  intro k hk
  by_cases hk2 : k < y
  ·have hik := jkg (i := i) (k := k) (X := x) (Y := y) (by omega) (by omega)
   have f1 := jda hp (i := (i : Int)) (by omega) (by omega)
   have f2 := jda hp (i := (x : Int) + k) (by omega) (by omega)
   have hr := play_row (wh := wh) f1 f2
   have hr2 : rowF (playF pl x wh i k) 4 = (List.replicate 4 (0 : Int)).set (2 * atZ pl i + atZ pl ((x : Int) + k)).toNat wh := hr.symm
   repeat' (first|refine zab ?_|refine zaa ?_|refine zac ?_|(refine jaa (.makeSlice 27 _ _) ?_;(refine jes (by_ := 8) (z := .int .i64 0) (y := .lit (.int .i64 0)) rfl rfl (by kernel_rfl) (by kernel_rfl) rfl (fun _ => .lit _ rfl) (by omega) (by omega) (by omega) rfl ?_))|(refine jaa (.indexAddr 27 _ _) ?_;(first|refine jac (jcb rfl rfl (by kernel_rfl) (by omega) (by omega)) rfl ?_|refine jac (jch rfl rfl (by kernel_rfl : tSl _ 27 1 = true) (by omega) (by omega)) rfl ?_))|refine zap ?_|refine zba ?_|refine zad ?_|(refine jaa (.store 3 _ _) ?_;((refine jcl rfl rfl rfl rfl (.lit _) (by simp) (by simp) (by kernel_rfl) (by ((simp only [List.length_map, List.length_append, List.length_replicate, fillL_len, rowF_len, gridF_len, mkI_len, mkII_len, jdb] at *;omega))) rfl ?_;simp only [St.drop])))|refine zal ?_|refine zaj ?_|(refine jaa (.buildSlice 24 1 _) ?_;(apply jao (sz := 1) (by_ := 24);(·kernel_rfl);(·decide);(·(repeat(first|exact GvS.nil _|apply GvS.c rfl rfl (.row _ _ _ _ rfl (by ((simp;done)))) rfl)));(·decide);(·rfl);(·rfl);(·rfl)))|(refine jaa (.call ⟨.builtin .append, _, #[24, 24]⟩) ?_;((apply jbo (sz := 1) (by_ := 24);(·rfl);(·rfl);(·((simp;done)));(·exact .row _ _ _ _ rfl (by ((simp;done))));(·decide);(·kernel_rfl);(·decide);(·omega);(·omega);(·rfl);(·rfl);(·rfl))))|(refine jaa (.store 24 _ _) ?_;(refine jax rfl rfl rfl rfl (by kernel_rfl) rfl rfl ?_))|refine jaj ?_|refine jak ?_|refine jai ?_|refine jaz ?_|refine jar rfl ?_|refine jan ?_|refine jab ?_|refine jbd 9 (fun i => i == 15) (.step 0 true (.step 1 true (.step 2 true (.step 3 true (.step 4 true (.step 5 true (.step 6 true (.step 7 true (.step 8 true (.step 9 true (.step 10 true (.step 11 true (.step 12 true (.step 13 true (.step 14 true (.step 15 false .nil)))))))))))))))) [(0, 65535, 65535, true), (0, 65535, 65535, true), (0, 65535, 65535, true), (6, 65529, 65535, true), (8, 65527, 65535, false), (16, 65519, 65535, true), (0, 65535, 65535, true), (0, 65535, 65535, true), (0, 65535, 65535, true), (384, 65151, 65535, true), (576, 64959, 65535, true), (1024, 64511, 65535, false), (2080, 63455, 65535, true), (0, 65535, 65535, true), (16383, 61438, 65535, true), (32767, 40959, 65535, false)] (by kernel_rfl) (by kernel_rfl) ?_|refine jbi rfl (fun hc => ?_) (fun hc => ?_))
   all_goals first|(exfalso;omega)|skip
   refine jba ?_;refine ⟨k + 1, ?_, ?_, jbx rfl (by (repeat(first|exact trivial|refine ⟨(by rfl), ?_⟩))) (by (repeat(first|exact trivial|refine ⟨rfl, ?_⟩))) (by (repeat(first|exact trivial|refine ⟨(by (first|(refine jbm rfl ?_;simp  [jgn _ _ _ _ hk2, hr2, List.map_set];done)|rfl)), ?_⟩))) (by (repeat(first|exact trivial|refine ⟨.inr rfl, ?_⟩)))⟩
   ·omega
   ·omega
  ·have e : k = y := by omega
   subst e
   repeat' (first|refine zab ?_|refine zaa ?_|refine zac ?_|(refine jaa (.makeSlice 27 _ _) ?_;(refine jes (by_ := 8) (z := .int .i64 0) (y := .lit (.int .i64 0)) rfl rfl (by kernel_rfl) (by kernel_rfl) rfl (fun _ => .lit _ rfl) (by omega) (by omega) (by omega) rfl ?_))|(refine jaa (.indexAddr 27 _ _) ?_;(first|refine jac (jcb rfl rfl (by kernel_rfl) (by omega) (by omega)) rfl ?_|refine jac (jch rfl rfl (by kernel_rfl : tSl _ 27 1 = true) (by omega) (by omega)) rfl ?_))|refine zap ?_|refine zba ?_|refine zad ?_|(refine jaa (.store 3 _ _) ?_;((refine jcl rfl rfl rfl rfl (.lit _) (by simp) (by simp) (by kernel_rfl) (by omega) rfl ?_;simp only [St.drop])))|refine zal ?_|refine zaj ?_|(refine jaa (.buildSlice 24 1 _) ?_;(apply jao (sz := 1) (by_ := 24);(·kernel_rfl);(·decide);(·(repeat(first|exact GvS.nil _|apply GvS.c rfl rfl (.row _ _ _ _ rfl (by ((simp;done)))) rfl)));(·decide);(·rfl);(·rfl);(·rfl)))|(refine jaa (.call ⟨.builtin .append, _, #[24, 24]⟩) ?_;((apply jbo (sz := 1) (by_ := 24);(·rfl);(·rfl);(·((simp;done)));(·exact .row _ _ _ _ rfl (by ((simp;done))));(·decide);(·kernel_rfl);(·decide);(·omega);(·omega);(·rfl);(·rfl);(·rfl))))|(refine jaa (.store 24 _ _) ?_;(refine jax rfl rfl rfl rfl (by kernel_rfl) rfl rfl ?_))|refine jaj ?_|refine jak ?_|refine jai ?_|refine jaz ?_|refine jar rfl ?_|refine jan ?_|refine jab ?_|refine jbd 9 (fun i => i == 15) (.step 0 true (.step 1 true (.step 2 true (.step 3 true (.step 4 true (.step 5 true (.step 6 true (.step 7 true (.step 8 true (.step 9 true (.step 10 true (.step 11 true (.step 12 true (.step 13 true (.step 14 true (.step 15 false .nil)))))))))))))))) [(0, 65535, 65535, true), (0, 65535, 65535, true), (0, 65535, 65535, true), (6, 65529, 65535, true), (8, 65527, 65535, false), (16, 65519, 65535, true), (0, 65535, 65535, true), (0, 65535, 65535, true), (0, 65535, 65535, true), (384, 65151, 65535, true), (576, 64959, 65535, true), (1024, 64511, 65535, false), (2080, 63455, 65535, true), (0, 65535, 65535, true), (16383, 61438, 65535, true), (32767, 40959, 65535, false)] (by kernel_rfl) (by kernel_rfl) ?_|refine jbi rfl (fun hc => ?_) (fun hc => ?_))
   all_goals first|(exfalso;omega)|skip
   refine jba ?_;refine ⟨i + 1, ?_, ?_, jbx rfl (by (repeat(first|exact trivial|refine ⟨(by rfl), ?_⟩))) (by (repeat(first|exact trivial|refine ⟨rfl, ?_⟩))) (by (repeat(first|exact trivial|refine ⟨(by (first|(refine jbm rfl ?_;simp  [Nat.mul_succ];done)|(refine jcs rfl ?_;simp  [Nat.mul_succ];done))), ?_⟩))) (by (repeat(first|exact trivial|refine ⟨.inr rfl, ?_⟩)))⟩
   ·omega
   ·omega
 ·have e : i = x := by omega
  subst e
  repeat' (first|refine zab ?_|(refine jaa (.store 26 _ _) ?_;(refine jah rfl rfl rfl (by kernel_rfl) rfl rfl ?_))|refine zaa ?_|refine zac ?_|refine zae ?_|refine jaj ?_|refine jak ?_|refine jai ?_|refine jar rfl ?_|refine jan ?_|refine jab ?_|refine jbi rfl (fun hc => ?_) (fun hc => ?_))
  all_goals first|(exfalso;omega)|skip
  (apply jat;apply jau;(·apply jbc.p;(·(apply GvA.cons;(·(apply RV.cellN (n := 4);(·rfl);(·rfl);(·kernel_rfl);(·rfl)));(·(apply GvP.g;(·(apply GvL.cons (.lit _));(apply GvL.cons (.lit _));(apply GvL.cons (.lit _));((apply GvL.cons (.row _ _ _ _ rfl (by ((simp;done))))));exact GvL.nil))));exact GvA.nil);(·decide)))
  simp
def BoxX (x y : Int) (res : Res) : Prop := ∃ (n : Int) (ll : List (List Int)), ((1 ≤ n ∧ n ≤ 1000) ∧ ll.length ≤ 20) ∧ res = .p (.g [dI x, dI y, dI n, eII ll])
def BoxA (res : Res) : Prop := ∃ (x y n : Int) (ll : List (List Int)), (((-1 ≤ x ∧ x ≤ 4611686018427387904) ∧ -1 ≤ y ∧ y ≤ 4611686018427387904) ∧ (-1000000 ≤ n ∧ n ≤ 1000000) ∧ ll.length ≤ 21) ∧ res = .p (.g [dI x, dI y, dI n, eII ll])
def tossR (left : Int) (R : List Int) : Prop := R.length = 4 ∧ ∀ v ∈ R, 0 ≤ v ∧ v ≤ 12 - left
theorem toss_set {left p : Int} {k : Nat} {R : List Int} (h : tossR left R) (hk : k < 4) (hp : 1 ≤ p ∧ p ≤ left) (h12 : left ≤ 12) : tossR (left - p) (R.set k (atZ R (k : Int) + p)) := by
 refine ⟨by simp [h.1], fun v hv => ?_⟩
 rcases List.mem_or_eq_of_mem_set hv with hv|rfl
 ·have := h.2 v hv; omega
 ·have := h.2 _ (jdz (show k < R.length by rw [h.1];exact hk));omega
theorem curSomeBox_p (code : Tx) (a s x y : Int) (h0 : 0 ≤ a) (h1 : a ≤ 4611686018427380000) : PX Tryz.prog 85 (CurB code a s) [.v (.c (dI x)), .v (.c (dI y))] (CurR a 2000 (BoxX x y)) := by
 obtain ⟨N, hN, hN16⟩ := near_mul x y
 refine jdg Tryz.func85 rfl rfl rfl (by kernel_rfl) rfl rfl rfl ?_;intro kv
 repeat' (first|(refine jaa (.alloc 26) ?_;refine jav (zs := [.int .i64 0, .int .i64 0, .int .i64 0, .slice none 0 0]) (by kernel_rfl) rfl ?_)|refine zab ?_|(refine jaa (.buildSlice 27 6 _) ?_;(apply jao (sz := 1) (by_ := 8);(·kernel_rfl);(·decide);(·(repeat(first|exact GvS.nil _|apply GvS.c rfl rfl (.lit _) rfl)));(·decide);(·rfl);(·rfl);(·rfl)))|refine zbi ?_|(refine jaa (.store 26 _ _) ?_;(refine jah rfl rfl rfl (by kernel_rfl) rfl rfl ?_))|refine zaa ?_|(refine jaa (.call ⟨.value (.func 46), _, _⟩) ?_;(apply jbl (fid := 46);(·rfl);(·rfl);(·(repeat(first|exact BxI.nil|apply BxI.ks|(apply BxI.o;(·(exact .lit _))))));(·(repeat(first|exact ArX.nil|apply ArX.v (.c (.row _ _ _ _ rfl (by ((simp;done))))))));(·decide);(·decide);(·exact curAmongB_p code _ _ _ _ 1 12 rfl (by decide) (by repeat (first|exact fun x hx => absurd hx List.not_mem_nil|(refine List.forall_mem_cons.2 ⟨⟨_, rfl, by decide⟩, ?_⟩))) (by omega) (by omega));(·rfl);(·(intro b hb1 hb2;omega));(·rfl);(rintro _ _ ⟨a1, s1, ha1, rfl, n, hn, rfl⟩;refine ⟨(by first|rfl|simp [*]), ?_⟩)))|refine jaj ?_|refine jak ?_|refine jai ?_|refine jab ?_)
 refine jcn (jhv 7 3 55 1 rfl (by decide) rfl rfl rfl) ?_
 apply jay [0, 1, 2, 6, 7, 8] [6, 7, 16, 28, 54, 55, 800000000] rfl;(·(repeat(first|exact Pf.nil|apply Pf.cons (.c rfl (.d rfl))|apply Pf.cons (.c rfl (.lp rfl)))));(·(repeat(first|exact Pb.nil|apply Pb.cons (.row rfl)|(apply Pb.cons;(·apply Nb.box rfl;(repeat(first|exact Ncs.nil rfl|(apply Ncs.cons rfl;(·(first|exact .d rfl|exact .ls rfl)))))))|apply Pb.skip)))
 refine jbb [0, 1, 2, 6, 7] [6, 16, 28, 54] (fun g : Nat × List (List Int) × Int × Int => [(8, iN g.1)]) (fun g => [(800000000, .box [.d (.same (kv 0) (eB code)), .d (dI g.2.2.1), .d (dW g.2.2.2)]), (7, .box [.d (dI x), .d (dI y), .d (dI n), .ls 55 1 0 g.1]), (55, .row 1 (cII g.2.1))]) (fun g => (g.1 ≤ N ∧ g.2.1.length = g.1) ∧ a ≤ g.2.2.1 ∧ g.2.2.1 ≤ a + 2 + 100 * g.1) (fun g => N - g.1) ((0, [], a1, s1)) ?_ (by (repeat(first|exact trivial|refine ⟨(by rfl), ?_⟩))) (by (repeat(first|exact trivial|refine ⟨(by (first|(refine jbm rfl ?_;simp;done)|(refine jcs rfl ?_;simp;done))), ?_⟩))) ?_
 ·dsimp only; simp; omega
 rintro ⟨i, L, a2, s2⟩ ⟨hL, hA⟩
 dsimp only at hL hA ⊢
 by_cases hi : i < N
 ·repeat' (first|refine zab ?_|(refine jaa (.store 26 _ _) ?_;(refine jah rfl rfl rfl (by kernel_rfl) rfl rfl ?_))|refine zaa ?_|refine zba ?_|refine zac ?_|(refine jaa (.makeSlice 27 _ _) ?_;(refine jes (by_ := 8) (z := .int .i64 0) (y := .lit (.int .i64 0)) rfl rfl (by kernel_rfl) (by kernel_rfl) rfl (fun _ => .lit _ rfl) (by omega) (by omega) (by omega) rfl ?_))|refine zbb ?_|refine zaf ?_|refine zae ?_|(refine jaa (.call ⟨.value (.func 131), _, _⟩) ?_;(apply jag (fid := 131);(·(repeat(first|exact SeA.nil|apply SeA.cons (.c (.d _)))));(·exact l2Near_p _);(·rfl)))|refine jaj ?_|refine jak ?_|refine jai ?_|refine jar rfl ?_|refine jan ?_|refine jab ?_|refine jbd 5 (fun _ => false) (.step 1 true (.step 2 true (.step 0 false (.step 3 true (.step 4 true .nil))))) [(0, 31, 31, false), (0, 31, 31, true), (2, 29, 31, false), (1, 30, 31, true), (15, 27, 31, true)] (by kernel_rfl) (by kernel_rfl) ?_|refine jbi rfl (fun hc => ?_) (fun hc => ?_))
  all_goals first|(exfalso;omega)|skip
  apply jay [0, 1, 2, 6, 7, 8, 9, 10] [6, 7, 16, 28, 54, 55, 800000000] rfl;(·(repeat(first|exact Pf.nil|apply Pf.cons (.c rfl (.d rfl))|apply Pf.cons (.c rfl (.ls rfl))|apply Pf.cons (.c rfl (.lp rfl)))));(·(repeat(first|exact Pb.nil|apply Pb.cons (.row rfl)|(apply Pb.cons;(·apply Nb.box rfl;(repeat(first|exact Ncs.nil rfl|(apply Ncs.cons rfl;(·(first|exact .d rfl|exact .ls rfl)))))))|apply Pb.skip)))
  refine jbb [0, 1, 2, 6, 7, 8, 9] [6, 16, 7, 54, 55] (fun g : Int × List Int × Int × Int => [(10, iZ g.1)]) (fun g => [(800000000, .box [.d (.same (kv 0) (eB code)), .d (dI g.2.2.1), .d (dW g.2.2.2)]), (28, .row 1 (cI g.2.1))]) (fun g => (0 ≤ g.1 ∧ g.1 ≤ 12) ∧ (a2 ≤ g.2.2.1 ∧ g.2.2.1 ≤ a2 + 4 * (12 - g.1)) ∧ tossR g.1 g.2.1) (fun g => g.1.toNat) ((n, [0, 0, 0, 0], a2, s2)) ?_ (by (repeat(first|exact trivial|refine ⟨(by rfl), ?_⟩))) (by (repeat(first|exact trivial|refine ⟨(by (first|(refine jbm rfl ?_;simp;done)|(refine jcs rfl ?_;simp;done))), ?_⟩))) ?_
  ·dsimp only
   exact ⟨by omega, by omega, rfl, fun v hv => by simp at hv;omega⟩
  rintro ⟨l, R, a3, s3⟩ ⟨hl, hA3, hR⟩
  dsimp only at hl hA3 hR ⊢
  have hRl := hR.1
  have hRb := fun k : Nat => fun hk : k < 4 => hR.2 _ (jdz (show k < R.length by rw [hR.1];exact hk))
  by_cases hl0 : 0 < l
  ·repeat' (first|refine zab ?_|refine zaa ?_|refine zat ?_|refine zad ?_|refine zal ?_|refine zaj ?_|(refine jaa (.buildSlice 24 1 _) ?_;(apply jao (sz := 1) (by_ := 24);(·kernel_rfl);(·decide);(·(repeat(first|exact GvS.nil _|apply GvS.c rfl rfl (.row _ _ _ _ rfl (by ((simp;omega)))) rfl)));(·decide);(·rfl);(·rfl);(·rfl)))|(refine jaa (.call ⟨.builtin .append, _, #[24, 24]⟩) ?_;((apply jbo (sz := 1) (by_ := 24);(·rfl);(·rfl);(·((simp;omega)));(·exact .row _ _ _ _ rfl (by ((simp;done))));(·decide);(·kernel_rfl);(·decide);(·omega);(·omega);(·rfl);(·rfl);(·rfl))))|(refine jaa (.store 24 _ _) ?_;(refine jax rfl rfl rfl rfl (by kernel_rfl) rfl rfl ?_))|(refine jaa (.call ⟨.value (.func 43), _, _⟩) ?_;(apply jbl (fid := 43);(·rfl);(·rfl);(·(repeat(first|exact BxI.nil|apply BxI.ks|(apply BxI.o;(·(exact .lit _))))));(·(repeat(first|exact ArX.nil|apply ArX.v (.c (.d _)))));(·decide);(·decide);(·exact curPick_p code _ _ _ (by omega) (by omega));(·rfl);(·(intro b hb1 hb2;omega));(·rfl);(rintro _ _ ⟨a4, s4, ha4, rfl, x4, hx4, rfl⟩;refine ⟨(by first|rfl|simp [*]), ?_⟩)))|refine jaj ?_|refine jak ?_|refine jai ?_|refine jaz ?_|refine jar rfl ?_|refine jan ?_|refine jab (id := 6) ?_|refine jab (id := 7) ?_|refine jab (id := 8) ?_|refine jab (id := 11) ?_|refine jab (id := 4) ?_|refine jbi rfl (fun hc => ?_) (fun hc => ?_))
   all_goals first|(exfalso;omega)|skip
   rename_i _ _ _ hA4 q hq
   obtain ⟨k, rfl⟩ := Int.eq_ofNat_of_zero_le hx4.1
   have hk4 : k < 4 := by omega
   have hRk := hRb k hk4
   have hs := toss_set (p := 1 + q) hR hk4 (by omega) hl.2
   repeat' (first|refine zab ?_|refine zaa ?_|(refine jaa (.load 3 _) ?_;(refine jac (jdn rfl rfl (by kernel_rfl) (by omega) (by omega)) rfl ?_))|refine zad ?_|refine zbr ?_|(refine jaa (.store 3 _ _) ?_;((refine jcl rfl rfl rfl rfl (.lit _) (by simp) (by simp) (by kernel_rfl) (by ((simp only [List.length_map, List.length_append, List.length_replicate, fillL_len, rowF_len, gridF_len, mkI_len, mkII_len, jdb] at *;omega))) rfl ?_;simp only [St.drop])))|refine zan ?_|refine jaj ?_|refine jaz ?_|refine jab ?_)
   all_goals first|(exfalso;omega)|skip
   refine jba ?_;refine ⟨(l - (1 + q), R.set k (atZ R (k : Int) + (1 + q)), a4, s4), ?_, ?_, jbx rfl (by (repeat(first|exact trivial|refine ⟨(by rfl), ?_⟩))) (by (repeat(first|exact trivial|refine ⟨rfl, ?_⟩))) (by (repeat(first|exact trivial|refine ⟨(by (first|(refine jbm rfl ?_;simp;done)|rfl)), ?_⟩))) (by (repeat(first|exact trivial|refine ⟨.inr rfl, ?_⟩)))⟩
   ·dsimp only
    exact ⟨by omega, by omega, hs⟩
   ·dsimp only; omega
  ·repeat' (first|refine zab ?_|refine zaa ?_|refine zat ?_|refine zad ?_|refine zal ?_|refine zaj ?_|(refine jaa (.buildSlice 24 1 _) ?_;(apply jao (sz := 1) (by_ := 24);(·kernel_rfl);(·decide);(·(repeat(first|exact GvS.nil _|apply GvS.c rfl rfl (.row _ _ _ _ rfl (by ((simp;omega)))) rfl)));(·decide);(·rfl);(·rfl);(·rfl)))|(refine jaa (.call ⟨.builtin .append, _, #[24, 24]⟩) ?_;((apply jbo (sz := 1) (by_ := 24);(·rfl);(·rfl);(·((simp;omega)));(·exact .row _ _ _ _ rfl (by ((simp;done))));(·decide);(·kernel_rfl);(·decide);(·omega);(·omega);(·rfl);(·rfl);(·rfl))))|(refine jaa (.store 24 _ _) ?_;(refine jax rfl rfl rfl rfl (by kernel_rfl) rfl rfl ?_))|refine jaj ?_|refine jak ?_|refine jai ?_|refine jaz ?_|refine jar rfl ?_|refine jan ?_|refine jab ?_|refine jbi rfl (fun hc => ?_) (fun hc => ?_))
   all_goals first|(exfalso;omega)|skip
   refine jba ?_;refine ⟨(i + 1, L ++ [R], a3, s3), ?_, ?_, jbx rfl (by (repeat(first|exact trivial|refine ⟨(by rfl), ?_⟩))) (by (repeat(first|exact trivial|refine ⟨rfl, ?_⟩))) (by (repeat(first|exact trivial|refine ⟨(by (first|(refine jbm rfl ?_;simp;omega)|rfl)), ?_⟩))) (by (repeat(first|exact trivial|refine ⟨.inr rfl, ?_⟩)))⟩
   ·dsimp only
    simp only [List.length_append, List.length_singleton]
    omega
   ·dsimp only; omega
 ·repeat' (first|refine zab ?_|(refine jaa (.store 26 _ _) ?_;(refine jah rfl rfl rfl (by kernel_rfl) rfl rfl ?_))|refine zaa ?_|refine zba ?_|refine zac ?_|(refine jaa (.makeSlice 27 _ _) ?_;(refine jes (by_ := 8) (z := .int .i64 0) (y := .lit (.int .i64 0)) rfl rfl (by kernel_rfl) (by kernel_rfl) rfl (fun _ => .lit _ rfl) (by omega) (by omega) (by omega) rfl ?_))|refine zbb ?_|refine zaf ?_|refine zae ?_|(refine jaa (.call ⟨.value (.func 131), _, _⟩) ?_;(apply jag (fid := 131);(·(repeat(first|exact SeA.nil|apply SeA.cons (.c (.d _)))));(·exact l2Near_p _);(·rfl)))|refine jaj ?_|refine jak ?_|refine jai ?_|refine jar rfl ?_|refine jan ?_|refine jab ?_|refine jbd 5 (fun _ => false) (.step 1 true (.step 2 true (.step 0 false (.step 3 true (.step 4 true .nil))))) [(0, 31, 31, false), (0, 31, 31, true), (2, 29, 31, false), (1, 30, 31, true), (15, 27, 31, true)] (by kernel_rfl) (by kernel_rfl) ?_|refine jbi rfl (fun hc => ?_) (fun hc => ?_))
  all_goals first|(exfalso;omega)|skip
  (apply jct;(·(apply jge.p;(·rfl);(·(repeat(first|exact BxO.nil _|apply BxO.k|(apply BxO.o;(·(exact .lit _))))));(·(apply GvA.cons;(·(apply RV.cellN (n := 4);(·rfl);(·rfl);(·kernel_rfl);(·rfl)));(·(apply GvP.g;(·(apply GvL.cons (.lit _));(apply GvL.cons (.lit _));(apply GvL.cons (.lit _));((apply GvL.cons (.row _ _ _ _ rfl (by ((simp;omega))))));exact GvL.nil))));exact GvA.nil);(·decide))))
  exact ⟨_, _, by omega, rfl, n, L, ⟨by omega, by omega⟩, by simp;omega⟩
end Go.Proofs.YteaeoaeogehaaaaGreatDoor
namespace Go.Proofs.YteaeoaeogehaaaaGreatDoor
open Go.RowKit
variable [Glb]
open Go
def parN (k : Nat) : Nat := (k / 4 + k / 2 + k) % 2
def agrT (ll : List (List Int)) (q : Nat) : Int := accT (fun k => at2 ll q k * (1 - 2 * (parN k : Int))) 8
def agrL (ll : List (List Int)) : List Int := rowF (agrT ll) 8
def sumF3 (odd : List Int) (q k : Nat) : Int := if (parN k : Int) = atZ odd (q : Int) then 1 else 0
@[simp] theorem agrL_len (ll : List (List Int)) : (agrL ll).length = 8 := by simp [agrL]
def sumRow (odd : List Int) (q k : Nat) : List Int := rowF (fun j => if j < k then sumF3 odd q j else 0) 8
@[simp] theorem sumRow_len (odd : List Int) (q k : Nat) : (sumRow odd q k).length = 8 := by simp [sumRow]
end Go.Proofs.YteaeoaeogehaaaaGreatDoor
namespace Go.Proofs.YteaeoaeogehaaaaGreatDoor
open Go.RowKit
open Go
end Go.Proofs.YteaeoaeogehaaaaGreatDoor
namespace Go.Proofs.YteaeoaeogehaaaaGreatDoor
open Go.RowKit
variable [Glb]
open Go
structure GridP (N : Int) (ll : List (List Int)) : Prop where
 len : ll.length = 8
 row : ∀ q : Int, 0 ≤ q → q < 8 → (atZ ll q).length = 8 ∧ ∀ k : Int, 0 ≤ k → k < 8 → 0 ≤ atZ (atZ ll q) k ∧ atZ (atZ ll q) k ≤ N
theorem GridP.mono {N M : Int} {ll : List (List Int)} (h : GridP N ll) (hNM : N ≤ M) : GridP M ll := ⟨h.len, fun q h0 h8 => ⟨(h.row q h0 h8).1, fun k k0 k8 => by have := (h.row q h0 h8).2 k k0 k8; omega⟩⟩
def sum6F (k q j : Nat) : Int := if j = 0 ∨ j = 3 then 1 - difK k (q / 2) (q % 2) else difK k (q / 2) (q % 2)
end Go.Proofs.YteaeoaeogehaaaaGreatDoor
namespace Go.Proofs.YteaeoaeogehaaaaGreatDoor
open Go.RowKit
variable [Glb]
theorem l1Rising_p (l : List Int) (lo hi : Int) : PC Tryz.prog 140 [.c (eI l), .c (dI lo), .c (dI hi)] (.p (.c (dB (riseB l lo hi)))) := by
 refine jaq Tryz.func140 rfl rfl rfl (by kernel_rfl) rfl rfl ?_;rintro ⟨hl, -⟩
 have hl := hl.len
 repeat' (first|refine zaa ?_|refine jaj ?_|refine jak ?_|refine jai ?_|refine jab ?_)
 apply jay [0, 1, 2, 7] [] rfl;(·(repeat(first|exact Pf.nil|apply Pf.cons (.c rfl (.d rfl)))));(·(repeat(exact Pb.nil)))
 refine jbb [0, 1, 2] [] (fun k => [(7, iN k)]) (fun _ => []) (fun k => k ≤ l.length ∧ (List.range k).all (riseAt l lo hi) = true) (fun k => l.length - k) (0) ?_ (by (repeat(first|exact trivial|refine ⟨(by rfl), ?_⟩))) (by (repeat(exact trivial))) ?_
 ·simp
 rintro k ⟨hk, ha⟩
 repeat' (first|refine zaa ?_|refine zab ?_|refine zas ?_|refine zac ?_|refine zao ?_|refine zap ?_|refine zah ?_|refine zat ?_|refine zan ?_|refine zbt ?_|refine zag ?_|refine zad ?_|(refine jaa (.call ⟨.value (.func 55), _, _⟩) ?_;(apply jag (fid := 55);(·(repeat(first|exact SeA.nil|apply SeA.cons (.c (.d _)))));(·exact l1In_p _ _ _);(·rfl)))|refine jaj ?_|refine jgs rfl rfl rfl rfl rfl ?_|refine jbn rfl rfl rfl rfl ?_|refine jbg rfl rfl rfl rfl ?_|refine jca rfl rfl (fun hg => ?_) (fun hg => ?_)|refine jcq rfl rfl (fun hg => ?_) (fun hg => ?_)|refine jak ?_|refine jai ?_|refine jaz ?_|refine jar rfl ?_|refine jan ?_|refine jab ?_|refine jbd 4 (fun _ => false) (.step 0 true (.step 1 true (.step 2 true (.step 3 true (.step 4 true (.step 5 true (.step 6 false (.step 7 true (.step 8 true (.step 9 true (.step 10 true (.step 11 true (.step 12 true (.step 13 true (.step 14 true (.step 15 true (.step 16 true (.step 17 true (.step 18 true (.step 19 true (.step 20 true (.step 21 true (.step 22 true (.step 23 true .nil)))))))))))))))))))))))) [(0, 16777215, 16777215, true), (0, 16777215, 16777215, true), (3, 16777212, 16777215, true), (4, 16777211, 16777215, false), (0, 16777215, 16777215, true), (0, 16777215, 16777215, true), (56, 16777159, 16777215, false), (64, 16777151, 16777215, true), (192, 16777087, 16777215, true), (256, 16776959, 16777215, true), (768, 16776447, 16777215, true), (1280, 16775935, 16777215, true), (2048, 16775167, 16777215, true), (2048, 16775167, 16777215, true), (10240, 16766975, 16777215, true), (22528, 16754687, 16777215, true), (34816, 16742399, 16777215, false), (2048, 16775167, 16777215, true), (2048, 16775167, 16777215, true), (395264, 16381951, 16777215, true), (526336, 16250879, 16777215, false), (1116160, 15661055, 16777215, true), (2099456, 14677759, 16777215, true), (4194560, 12582655, 16777215, true)] (by kernel_rfl) (by kernel_rfl) ?_|refine jbk rfl ?_|refine jbj rfl ?_|refine jbi rfl (fun hc => ?_) (fun hc => ?_))
 all_goals first|(exfalso;omega)|skip
 ·(apply jat;apply jau;(·apply jbc.p;(·(apply GvA.cons;(·exact .tmp _);(·exact GvP.c (.lit _)));exact GvA.nil);(·decide)))
  rw [jjo (k := k) (by assumption) (.inl (by simp_all))]
 ·(apply jat;apply jau;(·apply jbc.p;(·(apply GvA.cons;(·exact .tmp _);(·exact GvP.c (.lit _)));exact GvA.nil);(·decide)))
  rw [jjo (k := k) (by omega) (.inr ⟨by assumption, by assumption⟩)]
 ·refine jba ?_;refine ⟨k + 1, ?_, ?_, jbx rfl (by (repeat(first|exact trivial|refine ⟨(by rfl), ?_⟩))) (by (repeat(first|exact trivial|refine ⟨rfl, ?_⟩))) (by (repeat(exact trivial))) (by (repeat(exact trivial)))⟩
  ·exact ⟨by omega, jhg ha (by simp_all) (.inr (by assumption))⟩
  ·omega
 ·refine jba ?_;refine ⟨k + 1, ?_, ?_, jbx rfl (by (repeat(first|exact trivial|refine ⟨(by rfl), ?_⟩))) (by (repeat(first|exact trivial|refine ⟨rfl, ?_⟩))) (by (repeat(exact trivial))) (by (repeat(exact trivial)))⟩
  ·exact ⟨by omega, jhg ha (by simp_all) (.inl (by assumption))⟩
  ·omega
 ·have : k = l.length := by omega
  subst this
  (apply jat;apply jau;(·apply jbc.p;(·(apply GvA.cons;(·exact .tmp _);(·exact GvP.c (.lit _)));exact GvA.nil);(·decide)))
  unfold riseB; rw [ha]
theorem l2Bits_p (l : List Int) (n : Int) : PC Tryz.prog 57 [.c (eI l), .c (dI n)] (.p (.c (dB (bitsB l n)))) := by
 refine jaq Tryz.func57 rfl rfl rfl (by kernel_rfl) rfl rfl ?_;rintro ⟨hl, -⟩
 have hl := hl.len
 repeat' (first|refine zaa ?_|refine jaj ?_|refine jak ?_|refine jai ?_|refine jab ?_)
 apply jay [0, 1, 5] [] rfl;(·(repeat(first|exact Pf.nil|apply Pf.cons (.c rfl (.d rfl)))));(·(repeat(exact Pb.nil)))
 refine jbb [0, 1] [] (fun k => [(5, iN k)]) (fun _ => []) (fun k => k ≤ l.length ∧ (l.take k).all (fun n => inB n 0 1) = true) (fun k => l.length - k) (0) ?_ (by (repeat(first|exact trivial|refine ⟨(by rfl), ?_⟩))) (by (repeat(exact trivial))) ?_
 ·simp
 rintro k ⟨hk, ha⟩
 repeat' (first|refine zaa ?_|refine zab ?_|refine zas ?_|refine zac ?_|refine zao ?_|refine zap ?_|refine zah ?_|refine zad ?_|refine zai ?_|(refine jaa (.call ⟨.value (.func 55), _, _⟩) ?_;(apply jag (fid := 55);(·(repeat(first|exact SeA.nil|apply SeA.cons (.c (.d _)))));(·exact l1In_p _ _ _);(·rfl)))|refine jaj ?_|refine jak ?_|refine jai ?_|refine jaz ?_|refine jar rfl ?_|refine jan ?_|refine jab ?_|refine jbi rfl (fun hc => ?_) (fun hc => ?_)|refine jcj rfl (fun hc => ?_) (fun hc => ?_))
 ·rename_i hk'
  rw [jbw (by omega)] at hc
  (apply jat;apply jau;(·apply jbc.p;(·(apply GvA.cons;(·exact .tmp _);(·exact GvP.c (.lit _)));exact GvA.nil);(·decide)))
  rw [bitsB, allB, jin (by omega) hc];simp
 ·rename_i hk'
  rw [jbw (by omega)] at hc
  refine jba ?_;refine ⟨k + 1, ?_, ?_, jbx rfl (by (repeat(first|exact trivial|refine ⟨(by rfl), ?_⟩))) (by (repeat(first|exact trivial|refine ⟨rfl, ?_⟩))) (by (repeat(exact trivial))) (by (repeat(exact trivial)))⟩
  ·exact ⟨by omega, by rw [jcv _ _ _ (by omega), ha, hc];rfl⟩
  ·omega
 ·(apply jat;apply jau;(·apply jbc.p;(·(apply GvA.cons;(·exact .tmp _);(·exact GvP.c (.lit _)));exact GvA.nil);(·decide)))
  rw [bitsB, allB, all_t (by omega) ha];simp
theorem l7Context_p (n : Int) (l : List Int) : PC Tryz.prog 96 [.c (dI n), .c (eI l)] (.p (.c (dB (ctxB (IntKind.i64.wrap (n - 1) + 1) l)))) := by
 refine jaq Tryz.func96 rfl rfl rfl (by kernel_rfl) rfl rfl ?_;intro _
 repeat' (first|refine zaa ?_|refine zab ?_|refine zas ?_|refine zat ?_|(refine jaa (.binOp .sub 3 _ _ _) ?_;(refine jac (jnd rfl rfl) rfl ?_))|refine zag ?_|(refine jaa (.call ⟨.value (.func 140), _, _⟩) ?_;(apply jag (fid := 140);(·(repeat(first|exact SeA.nil|apply SeA.cons (.c (.d _)))));(·exact l1Rising_p _ _ _);(·rfl)))|refine jaj ?_|refine jbn rfl rfl rfl rfl ?_|refine jbg rfl rfl rfl rfl ?_|refine jca rfl rfl (fun hg => ?_) (fun hg => ?_)|refine jak ?_|refine jab ?_)
 ·(apply jat;apply jau;(·apply jbc.p;(·(apply GvA.cons;(·exact .tmp _);(·exact GvP.c (.lit _)));exact GvA.nil);(·decide)))
  simp [ctxB]; omega
 ·(apply jat;apply jau;(·apply jbc.p;(·(apply GvA.cons;(·exact .tmp _);(·exact GvP.c (.lit _)));exact GvA.nil);(·decide)))
  simp [ctxB]; omega
theorem l7Good_p (ev : Int) (cc : List (List Int)) (ss : List Int) : PC Tryz.prog 56 [.g [dI ev, eII cc, eI ss]] (.p (.c (dB (sceneB ev cc ss)))) := by
 have hev : inB ev 0 12 = true → IntKind.i64.wrap (ev - 1) + 1 = ev := fun h => by have := jcp.1 h;rw [IntWalk.i64_in _ (by omega)];omega
 refine jaq Tryz.func56 rfl rfl rfl (by kernel_rfl) rfl rfl ?_;rintro ⟨hl, -⟩
 have hl := (hl _ (List.mem_cons_of_mem _ (List.mem_cons_self ..))).len
 repeat' (first|(refine jaa (.box 29 _) ?_;refine jbh rfl rfl ?_)|refine zaa ?_|refine jaj ?_|refine jak ?_|refine jai ?_|refine jab ?_)
 apply jay [1, 3] [1] rfl;(·(repeat(first|exact Pf.nil|apply Pf.cons (.c rfl (.d rfl))|apply Pf.cons (.c rfl (.lp rfl)))));(·(repeat(first|exact Pb.nil|(apply Pb.cons;(·apply Nb.box rfl;(repeat(first|exact Ncs.nil rfl|(apply Ncs.cons rfl;(·(exact .d rfl))))))))))
 refine jbb [1] [1] (fun k => [(3, iN k)]) (fun _ => []) (fun k => k ≤ cc.length ∧ (cc.take k).all (ctxB (IntKind.i64.wrap (ev - 1) + 1)) = true) (fun k => cc.length - k) (0) ?_ (by (repeat(first|exact trivial|refine ⟨(by rfl), ?_⟩))) (by (repeat(exact trivial))) ?_
 ·simp
 rintro k ⟨hk, ha⟩
 repeat' (first|refine zaa ?_|refine zab ?_|refine zbg ?_|refine zaj ?_|refine zau ?_|refine zac ?_|refine zbh ?_|refine zaf ?_|refine zam ?_|(refine jaa (.load 27 _) ?_;(first|refine jac (jaf rfl rfl (by kernel_rfl) rfl) rfl ?_|refine jac (jap rfl (by kernel_rfl) rfl) rfl ?_))|refine zah ?_|refine zad ?_|refine zbn ?_|refine zag ?_|refine zbk ?_|(refine jaa (.call ⟨.value (.func 96), _, _⟩) ?_;(apply jag (fid := 96);(·(repeat(first|exact SeA.nil|apply SeA.cons (.c (.d _)))));(·exact l7Context_p _ _);(·rfl)))|(refine jaa (.call ⟨.value (.func 55), _, _⟩) ?_;(apply jag (fid := 55);(·(repeat(first|exact SeA.nil|apply SeA.cons (.c (.d _)))));(·exact l1In_p _ _ _);(·rfl)))|(refine jaa (.call ⟨.value (.func 57), _, _⟩) ?_;(apply jag (fid := 57);(·(repeat(first|exact SeA.nil|apply SeA.cons (.c (.d _)))));(·exact l2Bits_p _ _);(·rfl)))|refine jaj ?_|refine jbn rfl rfl rfl rfl ?_|refine jbg rfl rfl rfl rfl ?_|refine jca rfl rfl (fun hg => ?_) (fun hg => ?_)|refine jcq rfl rfl (fun hg => ?_) (fun hg => ?_)|refine jak ?_|refine jai ?_|refine jaz ?_|refine jar rfl ?_|refine jan ?_|refine jab ?_|refine jbd 4 (fun _ => false) (.step 0 true (.step 1 true (.step 2 true (.step 3 true (.step 4 true (.step 5 true (.step 6 true (.step 7 false (.step 8 true .nil))))))))) [(0, 511, 511, true), (1, 510, 511, false), (0, 511, 511, true), (4, 507, 511, false), (0, 511, 511, true), (24, 487, 511, true), (32, 479, 511, false), (66, 445, 511, false), (128, 383, 511, true)] (by kernel_rfl) (by kernel_rfl) ?_|refine jbi rfl (fun hc => ?_) (fun hc => ?_)|refine jcj rfl (fun hc => ?_) (fun hc => ?_))
 ·have hk2 : k < cc.length := by omega
  rw [jbw hk2] at hc
  (apply jat;apply jau;(·apply jbc.p;(·(apply GvA.cons;(·exact .tmp _);(·exact GvP.c (.lit _)));exact GvA.nil);(·decide)))
  cases h0 : inB ev 0 12 with
  | false => simp [sceneB, h0]
  | true => rw [hev h0] at hc;simp only [sceneB, jin (p := ctxB ev) hk2 hc];simp
 ·have hk2 : k < cc.length := by omega
  rw [jbw hk2] at hc
  refine jba ?_;refine ⟨k + 1, ?_, ?_, jbx rfl (by (repeat(first|exact trivial|refine ⟨(by rfl), ?_⟩))) (by (repeat(first|exact trivial|refine ⟨rfl, ?_⟩))) (by (repeat(exact trivial))) (by (repeat(first|exact trivial|refine ⟨.inr rfl, ?_⟩)))⟩
  ·exact ⟨by omega, by rw [jcv _ _ _ hk2, ha, hc];rfl⟩
  ·omega
 all_goals
  have : k = cc.length := by omega
  subst this
  rw [List.take_length] at ha
  (apply jat;apply jau;(·apply jbc.p;(·(apply GvA.cons;(·exact .tmp _);(·exact GvP.c (.lit _)));exact GvA.nil);(·decide)))
 ·cases h0 : inB ev 0 12 with
  | false => simp_all
  | true =>
   rw [hev h0] at ha
   have h10 : cc.length ≤ 10 := by omega
   simp [sceneB, h0, h10, ha]
 ·have h10 : ¬ cc.length ≤ 10 := by omega
  simp [sceneB, h10]
 ·simp [sceneB, hg]
theorem l2Play_p (x y : Int) (l : List Int) : PC Tryz.prog 54 [.c (dI x), .c (dI y), .c (eI l)] (.p (.c (dB (sizeB x y && bitsB l (IntKind.i64.wrap (x + y)))))) := by
 refine jaq Tryz.func54 rfl rfl rfl (by kernel_rfl) rfl rfl ?_;intro _
 repeat' (first|refine zaa ?_|refine zab ?_|(refine jaa (.binOp .add 3 _ _ _) ?_;(refine jac (jhb rfl rfl) rfl ?_))|refine zag ?_|(refine jaa (.call ⟨.value (.func 94), _, _⟩) ?_;(apply jag (fid := 94);(·(repeat(first|exact SeA.nil|apply SeA.cons (.c (.d _)))));(·exact l2Sizes_p _ _);(·rfl)))|(refine jaa (.call ⟨.value (.func 57), _, _⟩) ?_;(apply jag (fid := 57);(·(repeat(first|exact SeA.nil|apply SeA.cons (.c (.d _)))));(·exact l2Bits_p _ _);(·rfl)))|refine jaj ?_|refine jbn rfl rfl rfl rfl ?_|refine jbg rfl rfl rfl rfl ?_|refine jcq rfl rfl (fun hg => ?_) (fun hg => ?_)|refine jak ?_|refine jab ?_)
 all_goals (apply jat;apply jau;(·apply jbc.p;(·(apply GvA.cons;(·exact .tmp _);(·exact GvP.c (.lit _)));exact GvA.nil);(·decide)))
 all_goals simp_all
theorem l12Good_p (bx by_ bwh : Int) (bll : List (List Int)) (pl : List Int) (ev : Int) (cc : List (List Int)) (ss nu : List Int) (co : Int) :
  PC Tryz.prog 20 [.g [dI bx, dI by_, dI bwh, eII bll, eI pl, dI ev, eII cc, eI ss, eI nu, dI co]] (.p (.c (dB (hallB bx by_ bwh bll pl ev cc ss nu co)))) := by
 have hw : boxB bx by_ bwh bll = true → IntKind.i64.wrap (bx + by_) = bx + by_ ∧ sizeB bx by_ = true := fun h => by have := jbp h;have a := this.x1;have b := this.x3;have c := this.y1;have d := this.y3;exact ⟨IntWalk.i64_in _ (by omega), jcf.2 ⟨⟨a, b⟩, c, d⟩⟩
 refine jaq Tryz.func20 rfl rfl rfl (by kernel_rfl) rfl rfl ?_;intro _
 repeat' (first|(refine jaa (.box 31 _) ?_;refine jbh rfl rfl ?_)|refine zaa ?_|refine zaz ?_|refine zae ?_|refine zah ?_|refine zab ?_|refine zav ?_|refine zaf ?_|refine zaw ?_|refine zbd ?_|refine zax ?_|refine zag ?_|refine zby ?_|refine zbl ?_|refine zay ?_|refine zbo ?_|refine zbh ?_|(refine jaa (.call ⟨.value (.func 53), _, _⟩) ?_;(apply jag (fid := 53);(·(repeat(first|exact SeA.nil|(apply SeA.cons;(·(apply SeP.g;(repeat(first|exact SeL.nil|apply SeL.cons (.d _)))))))));(·exact l2Box_p _ _ _ _);(·rfl)))|(refine jaa (.call ⟨.value (.func 54), _, _⟩) ?_;(apply jag (fid := 54);(·(repeat(first|exact SeA.nil|apply SeA.cons (.c (.d _)))));(·exact l2Play_p _ _ _);(·rfl)))|(refine jaa (.call ⟨.value (.func 55), _, _⟩) ?_;(apply jag (fid := 55);(·(repeat(first|exact SeA.nil|apply SeA.cons (.c (.d _)))));(·exact l1In_p _ _ _);(·rfl)))|(refine jaa (.call ⟨.value (.func 56), _, _⟩) ?_;(apply jag (fid := 56);(·(repeat(first|exact SeA.nil|(apply SeA.cons;(·(apply SeP.g;(repeat(first|exact SeL.nil|apply SeL.cons (.d _)))))))));(·exact l7Good_p _ _ _);(·rfl)))|(refine jaa (.call ⟨.value (.func 57), _, _⟩) ?_;(apply jag (fid := 57);(·(repeat(first|exact SeA.nil|apply SeA.cons (.c (.d _)))));(·exact l2Bits_p _ _);(·rfl)))|refine jaj ?_|refine jbn rfl rfl rfl rfl ?_|refine jbg rfl rfl rfl rfl ?_|refine jcq rfl rfl (fun hg => ?_) (fun hg => ?_)|refine jak ?_|refine jan ?_|refine jab ?_|refine jbk rfl ?_|refine jcj rfl (fun hc => ?_) (fun hc => ?_))
 all_goals (apply jat;apply jau;(·apply jbc.p;(·(apply GvA.cons;(·exact .tmp _);(·exact GvP.c (.lit _)));exact GvA.nil);(·decide)))
 all_goals cases hb : boxB bx by_ bwh bll <;> simp_all [hallB]
theorem l2Row_v (X Y n : Int) (ll : List (List Int)) (x y : Int) (h0 : 0 ≤ x * Y + y) (h1 : x * Y + y < ll.length) (h2 : 0 ≤ x * Y) (h3 : x * Y ≤ 1000) (h4 : y ≤ 1000) :
  PV Tryz.prog 174 [.g [dI X, dI Y, dI n, eII ll], .c (dI x), .c (dI y)] (.p (.c (eI (atZ ll (x * Y + y))))) := by
 refine pv_intro Tryz.func174 rfl rfl rfl (by kernel_rfl) rfl rfl ?_;intro X c0 _
 repeat' (first|(refine jaa (.box 26 _) ?_;refine jbh rfl rfl ?_)|refine zaa ?_|refine zal ?_|refine zaj ?_|refine zab ?_|refine zaw ?_|refine zaf ?_|refine zba ?_|refine zad ?_|refine zam ?_|refine zaq ?_|refine jaj ?_|refine jak ?_|refine jab ?_)
 ·(apply sk_retv;apply retv_eq;(·apply joa.p rfl;(·(apply RvA.cons;(·exact .tmp _);(·(exact RvP.c (.d _))));exact RvA.nil)))
  rfl
end Go.Proofs.YteaeoaeogehaaaaGreatDoor
