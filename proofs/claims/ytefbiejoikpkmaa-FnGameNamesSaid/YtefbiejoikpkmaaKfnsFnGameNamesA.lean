/- What the functions that FnGameNames reaches return: part of its proof. No condition beyond those of its theorems. -/
import Derived.Test.YtefbiejoikpkmaaProg
import Derived.Test.YtefbiejoikpkmaaKplainB
import Derived.WalkKit
import Derived.Test.YtefbiejoikpkmaaKplainA
import Derived.Laws.StructEq
import Derived.Test.YtefbiejoikpkmaaKplainC
set_option linter.unusedVariables false
set_option linter.unusedSimpArgs false
--plain: PureMisc PureTake PureView PureAlt PurePack PureDag PureQ PureRen PureMany PureSlice Texts PureText Defs
namespace Go.Proofs.Ytefbiejoikpkmaa
open Go.RowKit
set_option linter.unusedSectionVars false
variable [Glb]

abbrev dI (n : Int) : D := .lit (.int .i64 n)
abbrev dB (b : Bool) : D := .lit (.bool b)
abbrev dS (s : ByteArray) : D := .lit (.string s)
abbrev iN (k : Nat) : FV := .c (.d (dI k))
abbrev iZ (k : Int) : FV := .c (.d (dI k))
/-- a list of numbers, of lists of numbers, of texts -/
abbrev cI (l : List Int) : List D := l.map dI
abbrev eI (l : List Int) : D := .sl 1 l.length (cI l)
abbrev cII (l : List (List Int)) : List D := l.map fun x => eI x
abbrev eII (l : List (List Int)) : D := .sl 1 l.length (cII l)
section
variable {P : Program} {st : St} {dst : Option Tmp} {ty : TypeId} {pos : String} {af : Array Edge} {T : TypeId} {x y : Operand} {k : IntKind} {i : Int}
theorem qt_idxI {l : List Int} (hx : st.ev x = .c (.d (eI l))) (hy : st.ev y = .c (.d (.lit (.int k i)))) (ht : tSl P T 1 = true) (h0 : 0 ≤ i) (h1 : i < l.length) : Qt P ⟨dst, .indexAddr T x y, ty, pos, af, none⟩ st (.c (.d (.pt [dI (atZ l i)]))) :=
  qt_idx hx hy ht h0 h1 (map_at (atZ_some h0 h1))
theorem qt_idxII {l : List (List Int)} (hx : st.ev x = .c (.d (eII l))) (hy : st.ev y = .c (.d (.lit (.int k i)))) (ht : tSl P T 1 = true) (h0 : 0 ≤ i) (h1 : i < l.length) : Qt P ⟨dst, .indexAddr T x y, ty, pos, af, none⟩ st (.c (.d (.pt [eI (atZ l i)]))) :=
  qt_idx hx hy ht h0 h1 (map_at (atZ_some h0 h1))
theorem qt_load_rowI {l : List Int} {b : Nat} {i : Int} (hx : st.ev x = .c (.lp b (0 + i.toNat * 1))) (hb : st.bl b = some (.row 1 (cI l))) (ht : tOne P T = true) (h0 : 0 ≤ i) (h1 : i < l.length) : Qt P ⟨dst, .load T x, ty, pos, af, none⟩ st (.c (.d (dI (atZ l i)))) :=
  qt_load_row hx hb ht (by rw [List.getElem?_map, Nat.zero_add, Nat.mul_one, atZ_some h0 h1]; rfl)
end
end Go.Proofs.Ytefbiejoikpkmaa

namespace Go.Proofs.Ytefbiejoikpkmaa
open Go.RowKit
set_option linter.unusedSectionVars false
variable [Glb]
open Go Go.RowKit
/-! readings of bytes -/
theorem pr_u8 {P : Program} {T : TypeId} (hT : P.underlying T = some (.int .u8)) : PR P T fun b : UInt8 => [dY b] := by
  intro H enc W fuel cs x h
  obtain ⟨n, rfl, -, wf⟩ := DataW.trod_int hT h
  have hn : 0 ≤ n ∧ n ≤ 255 := by
    simpa [Lit.wf, IntKind.min, IntKind.max, IntKind.signed, IntKind.bits] using wf
  have e : ((UInt8.ofNat n.toNat).toNat : Int) = n := by rw [UInt8.toNat_ofNat']; omega
  refine ⟨UInt8.ofNat n.toNat, ?_⟩
  have : VwD W [Value.int .u8 n] [D.lit (.int .u8 n)] := .one (.lit _ rfl)
  simpa only [dY, e] using this

end Go.Proofs.Ytefbiejoikpkmaa

namespace Go.Proofs.Ytefbiejoikpkmaa
open Go.RowKit
set_option linter.unusedSectionVars false
variable [Glb]
open Go Go.RowKit
/-! several ways through a part of the code that are told as one behind it -/
theorem sk_join {P : Program} {R : St → Prop} {k : List Itm} {st : St} {c : Code} {G : Type} (U UB : List Nat) (V : G → List (Nat × FV)) (B : G → List (Nat × Blk)) (ok : G → Prop)
    (first : SK P (.code c :: .back (fun st' => ∃ g', ok g' ∧ True ∧ st'.le (st.at U UB (V g') (B g'))) :: k) st R)
    (rest : ∀ g, ok g → SK P k (st.at U UB (V g) (B g)) R) : SK P (.code c :: k) st R := by
  refine ⟨fun w0 a w hs => Code.wp_mono ?_ (first.lv w0 a w hs)⟩
  rintro e a' w' ⟨st1, h1, h2⟩
  cases e with
  | normal =>
    obtain ⟨g, hg, _, hle⟩ := h2
    exact ⟨_, h1.le hle, (rest g hg).lv⟩
  | ret => exact ⟨st1, h1, by rw [LV.ret] at *; exact h2⟩
  | exit id => exact ⟨st1, h1, h2⟩
  | goto l => exact (LV.bad trivial h2).elim
  | panic c => exact (LV.bad trivial h2).elim
  | outgrown => exact (LV.bad trivial h2).elim
theorem sim_boxeq {st : St} (c : Nat) {cs : List C} (cs' : List C) (hb : st.bl c = some (.box cs)) (e : cs = cs') : ∀ w0 a w, Sim w0 st a w → Sim w0 (st.setB c (some (.box cs'))) a w := by
  subst e
  have : st.setB c (some (.box cs)) = st := by
    unfold St.setB
    cases st with
    | mk n fr bl =>
      simp only [St.mk.injEq, true_and]
      funext k
      split
      · rename_i h; subst h; exact hb.symm
      · rfl
  rw [this]
  exact fun _ _ _ h => h
theorem sim_sloteq {st : St} (t : Nat) {x : FV} (x' : FV) (hb : st.fr t = x) (e : x = x') : ∀ w0 a w, Sim w0 st a w → Sim w0 (st.put t x') a w := by
  subst e
  have : st.put t x = st := by
    unfold St.put
    cases st with
    | mk n fr bl =>
      simp only [St.mk.injEq, and_true, true_and]
      funext k
      split
      · rename_i h; subst h; exact hb.symm
      · rfl
  rw [this]
  exact fun _ _ _ h => h
theorem sim_shrink {st : St} (b sz k : Nat) {ds : List D} (hb : st.bl b = some (.row sz ds)) (hl : Lits ds) : ∀ w0 a w, Sim w0 st a w → Sim w0 (st.setB b (some (.row sz (ds.take k)))) a w := by
  rintro w0 a w ⟨ρ, Φ, hm⟩
  have h0 := hm.bl b _ hb
  have key : BR w ρ (InΦ Φ) (ρ b) (.row sz (ds.take k)) (Φ b) := by
    generalize ρ b = rb at h0
    generalize Φ b = Fb at h0
    cases h0 with
    | nil sz hz => rw [List.take_nil]; exact .nil sz hz
    | row g us E _ _ vs Fs hz hg hle hcc hr =>
      have e0 : ∀ j, j < ds.length → Fs j = [] := fun j hj => by
        have h1 := hr j hj
        obtain ⟨v, hv⟩ := hl _ (List.getElem_mem hj)
        rw [hv] at h1
        generalize Fs j = F at h1
        generalize vs j = u at h1
        cases h1 with
        | lit => rfl
      have e1 : ∀ m, m ≤ ds.length → parts m Fs = [] := fun m hm => by
        unfold parts
        rw [List.flatMap_eq_nil_iff]
        intro j hj
        exact e0 j (by have := List.mem_range.1 hj; omega)
      have e : parts ds.length Fs = parts (ds.take k).length Fs := by rw [e1 _ (Nat.le_refl _), e1 _ (by simp; omega)]
      rw [e]
      refine .row g us E sz _ vs Fs hz hg (by simp; omega) (fun j hj => hcc j (by simp at hj; omega)) fun j hj => ?_
      rw [List.getElem_take]
      exact hr j (by simp at hj; omega)
  refine ⟨ρ, Φ, { hm with size := by simpa [St.setB] using hm.size, nb := by simpa [St.setB] using hm.nb, fr := hm.fr, bl := fun k y hy => ?_, emp := fun k hk => ?_ }⟩
  · simp only [St.setB] at hy
    by_cases hkb : k = b
    · subst hkb; rw [if_pos rfl] at hy; cases hy; exact key
    · rw [if_neg hkb] at hy; exact hm.bl k y hy
  · simp only [St.setB] at hk
    by_cases hkb : k = b
    · rw [if_pos hkb] at hk; cases hk
    · rw [if_neg hkb] at hk; exact hm.emp k hk
section
variable {P : Program} {st : St} {dst : Option Tmp} {ty : TypeId} {pos : String} {af : Array Edge}
/-- an empty part of a list -/
theorem qt_slice_endG {T : TypeId} {x : Operand} {lo hi : Option Operand} {b sz off n : Nat} {vl vh : Option (IntKind × Int)} {i : Nat} (hx : st.ev x = .c (.ls b sz off n))
    (hl : ∀ a w ρ (Ψ : Nat → Prop), (∀ y, FR w ρ Ψ (Act.eval a y) (st.ev y)) → lo.map a.eval = vl.map fun x => .int x.1 x.2) (hh : ∀ a w ρ (Ψ : Nat → Prop), (∀ y, FR w ρ Ψ (Act.eval a y) (st.ev y)) → hi.map a.eval = vh.map fun x => .int x.1 x.2) (ht : tSl P T sz = true)
    (hlo : bndOK vl i 0) (hhi : bndOK vh i n) (hj : i ≤ n) (hz : 0 < sz) :
    Qt P ⟨dst, .slice T x lo hi none, ty, pos, af, none⟩ st (.c (.d (.sl sz 0 []))) := fun w0 ρ Φ a w hm => by
  have h := hm.ev x
  rw [hx] at h
  have e1 := hl a w ρ _ fun y => hm.ev y
  have e2 := hh a w ρ _ fun y => hm.ev y
  generalize hv : a.eval x = v at *
  rcases ls_inv h.c_inv with ⟨h0, rfl, rfl, rfl⟩ | ⟨g, cap, cs, E', hρ, rfl, hnc, hle, hg', hcap⟩
  · have hi0 : i = 0 := by omega
    subst hi0
    refine ⟨.slice none 0 0, fun w' _ => by simp only [execOp, hv, Option.map_none, e1, e2, Sem.run_bind, run_sliced ht none 0 0 vl vh 0 0 hlo hhi (Nat.le_refl _) hj (Nat.le_refl _), Result.andThen_ok, Sem.run_pure]; rfl, .c _ _ ?_⟩
    exact .d _ _ _ (.sl none 0 0 sz [] (fun _ => undef) (fun _ => []) (by simp) hz (by omega) (fun h => absurd h (by omega)) (fun k hk => by simp at hk) (fun k hk => by simp at hk)) fun b hb => by simp at hb
  · refine ⟨.slice (if cap = i then some ⟨g, off, none⟩ else (some (⟨g, off, none⟩ : Addr)).map (·.add (i * sz))) (i - i) (cap - i), fun w' _ => by simp only [execOp, hv, Option.map_none, e1, e2, Sem.run_bind, run_sliced ht (some ⟨g, off, none⟩) n cap vl vh i i hlo hhi (Nat.le_refl _) hj hnc, Result.andThen_ok, Sem.run_pure], .c _ _ ?_⟩
    rw [Nat.sub_self]
    exact .d _ _ _ (.sl _ 0 _ sz [] (fun _ => undef) (fun _ => []) (by simp) hz (by omega) (fun h => absurd h (by omega)) (fun k hk => by simp at hk) (fun k hk => by simp at hk)) fun b hb => by simp at hb
theorem qt_slice_end {T : TypeId} {x lo : Operand} {b sz off n : Nat} {kl : IntKind} {i : Int} (hx : st.ev x = .c (.ls b sz off n)) (hl : st.ev lo = .c (.d (.lit (.int kl i)))) (ht : tSl P T sz = true) (hz : 0 < sz) (h1 : i = n) :
    Qt P ⟨dst, .slice T x (some lo) none none, ty, pos, af, none⟩ st (.c (.d (.sl sz 0 []))) :=
  qt_slice_endG (vl := some (kl, i)) (vh := none) (i := n) hx (ev_some hl) (fun _ _ _ _ _ => rfl) ht ⟨by omega, by omega⟩ rfl (Nat.le_refl _) hz
end

end Go.Proofs.Ytefbiejoikpkmaa

namespace Go.Proofs.Ytefbiejoikpkmaa
open Go.RowKit
set_option linter.unusedSectionVars false
variable [Glb]
open Go Go.RowKit
/-! parts of the orders that several ways lead to, told for all names that were bound ahead of them -/
section
variable {P : Program} {ops : Array Oper} {mu : Nat → Bool} {st : St} {K : St → Prop}
theorem so_lt0 {S : St} {ok : Prop} {os : List Oper} {T : IT} {C : IT → IT} (main : ∀ Y, (ok → SO P ops mu (OT.of os Y) S K) → SO P ops mu (OT.of os (C Y)) st K) (h : ok → SO P ops mu (OT.of os T) S K) : SO P ops mu (OT.of os (IT.lt T C)) st K := main T h
theorem so_lt3 {A1 A2 A3 : Type} {S : A1 → A2 → A3 → St} {ok : A1 → A2 → A3 → Prop} {os : List Oper} {T : IT} {C : IT → IT} (main : ∀ Y, (∀ x1 x2 x3, ok x1 x2 x3 → SO P ops mu (OT.of os Y) (S x1 x2 x3) K) → SO P ops mu (OT.of os (C Y)) st K) (h : ∀ x1 x2 x3, ok x1 x2 x3 → SO P ops mu (OT.of os T) (S x1 x2 x3) K) : SO P ops mu (OT.of os (IT.lt T C)) st K := main T h
theorem so_lt6 {A1 A2 A3 A4 A5 A6 : Type} {S : A1 → A2 → A3 → A4 → A5 → A6 → St} {ok : A1 → A2 → A3 → A4 → A5 → A6 → Prop} {os : List Oper} {T : IT} {C : IT → IT} (main : ∀ Y, (∀ x1 x2 x3 x4 x5 x6, ok x1 x2 x3 x4 x5 x6 → SO P ops mu (OT.of os Y) (S x1 x2 x3 x4 x5 x6) K) → SO P ops mu (OT.of os (C Y)) st K) (h : ∀ x1 x2 x3 x4 x5 x6, ok x1 x2 x3 x4 x5 x6 → SO P ops mu (OT.of os T) (S x1 x2 x3 x4 x5 x6) K) : SO P ops mu (OT.of os (IT.lt T C)) st K := main T h
theorem so_lt9 {A1 A2 A3 A4 A5 A6 A7 A8 A9 : Type} {S : A1 → A2 → A3 → A4 → A5 → A6 → A7 → A8 → A9 → St} {ok : A1 → A2 → A3 → A4 → A5 → A6 → A7 → A8 → A9 → Prop} {os : List Oper} {T : IT} {C : IT → IT} (main : ∀ Y, (∀ x1 x2 x3 x4 x5 x6 x7 x8 x9, ok x1 x2 x3 x4 x5 x6 x7 x8 x9 → SO P ops mu (OT.of os Y) (S x1 x2 x3 x4 x5 x6 x7 x8 x9) K) → SO P ops mu (OT.of os (C Y)) st K) (h : ∀ x1 x2 x3 x4 x5 x6 x7 x8 x9, ok x1 x2 x3 x4 x5 x6 x7 x8 x9 → SO P ops mu (OT.of os T) (S x1 x2 x3 x4 x5 x6 x7 x8 x9) K) : SO P ops mu (OT.of os (IT.lt T C)) st K := main T h
theorem so_lt12 {A1 A2 A3 A4 A5 A6 A7 A8 A9 A10 A11 A12 : Type} {S : A1 → A2 → A3 → A4 → A5 → A6 → A7 → A8 → A9 → A10 → A11 → A12 → St} {ok : A1 → A2 → A3 → A4 → A5 → A6 → A7 → A8 → A9 → A10 → A11 → A12 → Prop} {os : List Oper} {T : IT} {C : IT → IT} (main : ∀ Y, (∀ x1 x2 x3 x4 x5 x6 x7 x8 x9 x10 x11 x12, ok x1 x2 x3 x4 x5 x6 x7 x8 x9 x10 x11 x12 → SO P ops mu (OT.of os Y) (S x1 x2 x3 x4 x5 x6 x7 x8 x9 x10 x11 x12) K) → SO P ops mu (OT.of os (C Y)) st K) (h : ∀ x1 x2 x3 x4 x5 x6 x7 x8 x9 x10 x11 x12, ok x1 x2 x3 x4 x5 x6 x7 x8 x9 x10 x11 x12 → SO P ops mu (OT.of os T) (S x1 x2 x3 x4 x5 x6 x7 x8 x9 x10 x11 x12) K) : SO P ops mu (OT.of os (IT.lt T C)) st K := main T h
end

end Go.Proofs.Ytefbiejoikpkmaa

namespace Go.Proofs.Ytefbiejoikpkmaa
open Go.RowKit
open Go
/-! trios -/
def sum64 (l : List Int) : Int := l.foldl (fun s n => IntKind.i64.wrap (s + n)) 0
theorem sum64_snoc {l : List Int} {k : Nat} (h : k < l.length) : sum64 (l.take (k + 1)) = IntKind.i64.wrap (sum64 (l.take k) + l[k]) := by
  unfold sum64; rw [List.take_succ_eq_append_getElem h, List.foldl_append]; rfl
def rowB (n : Int) (row : List Int) : Bool := (decide (row.length = 8) && allB row 0 n) && decide (sum64 row = n)
def trioB (n : Int) (ll : List (List Int)) : Bool := (inB n 1 1000 && decide (ll.length = 8)) && ll.all (rowB n)
/-- the bit of a player in a place -/
def bitZ (q : Int) (m : Nat) : Int := q / 2 ^ (2 - m) % 2
/-- the answers of a play -/
def playP (l : List Int) (q : Int) : Nat → Int
  | 0 => 0
  | m + 1 => 2 * playP l q m + atZ l (2 * m + bitZ q m)
def playV (l : List Int) (q : Int) : Int := playP l q 3
def ansF (n : Int) (g : Nat → Int) (q k : Nat) : Int := if (k : Int) = g q then n else 0
def trioOfB (l : List Int) (n : Int) : Bool := bitsB l 6 && inB n 1 1000
theorem rowF_atZ (f : Nat → Int) {m k : Nat} (h : k < m) : atZ (rowF f m) (k : Int) = f k := by
  rw [atZ_nat (by simpa using h)]; simp [rowF]
/-- the two players other than one -/
def oth1 (a : Int) : Nat := if a = 0 then 1 else 0
def oth2 (a : Int) : Nat := if a = 0 then 2 else if a = 1 then 2 else 1
def othL (a : Int) (k : Nat) : List Int := (([0, 1, 2] : List Int).take k).filter fun x => decide (x ≠ a)
/-- the answers of a group play -/
def grpAt (a q : Int) : Int := 2 * (2 * bitZ q (oth1 a) + bitZ q (oth2 a))
def grpV (a : Int) (own joint : List Int) (q : Int) : Int :=
  atZ own (bitZ q a.toNat) * 2 ^ (2 - a.toNat) + atZ joint (grpAt a q) * 2 ^ (2 - oth1 a) + atZ joint (grpAt a q + 1) * 2 ^ (2 - oth2 a)
def groupB (a : Int) (own joint : List Int) (n : Int) : Bool := inB a 0 2 && bitsB own 2 && bitsB joint 8 && inB n 1 1000
/-- a place whose digits are turned -/
def turnP (p : Int) : Int := p * 2 % 8 + p / 4
def turnI (k : Nat) : Nat := k / 2 + k % 2 * 4
def turnN (p : Nat) : Nat := p * 2 % 8 + p / 4
/-- a list of eight that is filled at the turned places, k of them so far -/
def turnL {α : Type} (z : α) (f : Nat → α) (k : Nat) : List α := (List.range 8).map fun j => if turnN j < k then f j else z
def turnF (ll : List (List Int)) (q k : Nat) : Int := atZ (atZ ll (turnP q)) (turnP k)
def mixF (a b : List (List Int)) (q k : Nat) : Int := atZ (atZ a q) k + atZ (atZ b q) k
def mixB (m : Int) (a : List (List Int)) (n : Int) (b : List (List Int)) : Bool := trioB m a && trioB n b && decide (m + n ≤ 1000)

end Go.Proofs.Ytefbiejoikpkmaa

namespace Go.Proofs.Ytefbiejoikpkmaa
open Go.RowKit
/-! all plays -/
def bitN (c e : Nat) : Nat := c / 2 ^ e % 2
def bitsM (n c : Nat) : List Int := rowF (fun i => (bitN c (n - 1 - i) : Int)) n
def playsF (n : Nat) : List (List Int) := (List.range (2 ^ n)).map (bitsM n)
@[simp] theorem bitsM_len (n c : Nat) : (bitsM n c).length = n := by simp [bitsM]
@[simp] theorem playsF_len (n : Nat) : (playsF n).length = 2 ^ n := by simp [playsF]
theorem bitsM_bits (n c : Nat) : bitsB (bitsM n c) n = true := by
  simp only [bitsB, bitsM_len, decide_true, Bool.true_and, allB, List.all_eq_true]
  intro x hx
  unfold bitsM rowF at hx
  obtain ⟨i, _, rfl⟩ := List.mem_map.1 hx
  exact inB_iff.2 ⟨by unfold bitN; omega, by unfold bitN; omega⟩
theorem playsF_at {n k : Nat} (h : k < 2 ^ n) : atZ (playsF n) (k : Int) = bitsM n k := by rw [atZ_nat (by simpa using h)]; simp [playsF]
theorem plays_snoc (n c : Nat) : (List.range (c + 1)).map (bitsM n) = (List.range c).map (bitsM n) ++ [bitsM n c] := by simp [List.range_succ]
theorem bit_nat (c e : Nat) : (c : Int) / 2 ^ e % 2 = (bitN c e : Int) := by
  unfold bitN
  rw [Int.natCast_emod, Int.natCast_ediv, Int.natCast_pow]; rfl
/-- the greatest of numbers, at least 0 -/
def bestN (f : Nat → Int) : Nat → Int
  | 0 => 0
  | k + 1 => max (bestN f k) (f k)
/-- the score of answers -/
def parZ (p : Int) : Int := (p / 4 + p / 2 + p) % 2
def scoreN (w odd : List Int) (f : Int → Int) : Nat → Int
  | 0 => 0
  | k + 1 => scoreN w odd f k + if parZ (f k) = atZ odd k then atZ w k else 0
def valB (w odd : List Int) : Bool := decide (w.length = 8) && allB w 0 99 && bitsB odd 8
theorem allB_at {l : List Int} {lo hi : Int} (h : allB l lo hi = true) {i : Int} (h0 : 0 ≤ i) (h1 : i < l.length) : lo ≤ atZ l i ∧ atZ l i ≤ hi := by
  unfold allB at h
  rw [List.all_eq_true] at h
  obtain ⟨k, rfl⟩ := Int.eq_ofNat_of_zero_le h0
  rw [atZ_nat (by omega)]
  exact inB_iff.1 (h (l[k]'(by omega)) (List.getElem_mem _))
def trioVal (w odd : List Int) : Int := bestN (fun c => scoreN w odd (fun q => playV (bitsM 6 c) q) 8) 64
def bitsL (c : Nat) : List Int := rowF (fun i => (bitN c i : Int)) 6
def rev6 (c : Nat) : Nat := c % 2 * 32 + c / 2 % 2 * 16 + c / 4 % 2 * 8 + c / 8 % 2 * 4 + c / 16 % 2 * 2 + c / 32
end Go.Proofs.Ytefbiejoikpkmaa

namespace Go.Proofs.Ytefbiejoikpkmaa
open Go.RowKit
open Go
/-! boxes -/
def row4B (n : Int) (row : List Int) : Bool := (decide (row.length = 4) && allB row 0 n) && decide (sum64 row = n)
def sizeB (x y : Int) : Bool := inB x 1 3 && inB y 1 3
def boxB (x y n : Int) (ll : List (List Int)) : Bool := ((sizeB x y && inB n 1 1000) && decide ((ll.length : Int) = x * y)) && ll.all (row4B n)
theorem sizeB_iff {x y : Int} : sizeB x y = true ↔ (1 ≤ x ∧ x ≤ 3) ∧ (1 ≤ y ∧ y ≤ 3) := by simp [sizeB, inB_iff]
theorem mul_bd3 {x y : Int} (h : sizeB x y = true) : 1 ≤ x * y ∧ x * y ≤ 9 := by
  obtain ⟨⟨a, b⟩, c, d⟩ := sizeB_iff.1 h
  rcases (by omega : x = 1 ∨ x = 2 ∨ x = 3) with rfl | rfl | rfl <;> rcases (by omega : y = 1 ∨ y = 2 ∨ y = 3) with rfl | rfl | rfl <;> decide
theorem wrap_mul3 {x y : Int} (h : sizeB x y = true) : IntKind.i64.wrap (x * y) = x * y := IntWalk.i64_in _ (by have := mul_bd3 h; omega)
structure BoxOK (x y n : Int) (ll : List (List Int)) : Prop where
  x1 : 1 ≤ x
  x3 : x ≤ 3
  y1 : 1 ≤ y
  y3 : y ≤ 3
  n1 : 1 ≤ n
  n2 : n ≤ 1000
  len : (ll.length : Int) = x * y
  row : ∀ q, (hq : q < ll.length) → row4B n ll[q] = true
/-- the place of a pair of questions -/
theorem idx_lt {i k X Y : Int} (h0 : 0 ≤ i) (h1 : i < X) (h2 : 0 ≤ k) (h3 : k < Y) : 0 ≤ i * Y + k ∧ i * Y + k < X * Y ∧ 0 ≤ i * Y ∧ i * Y < X * Y := by
  have hY : 0 ≤ Y := by omega
  have a : 0 ≤ i * Y := Int.mul_nonneg h0 hY
  have b : (i + 1) * Y ≤ X * Y := Int.mul_le_mul_of_nonneg_right (by omega) hY
  rw [Int.add_mul, Int.one_mul] at b
  omega
theorem idx_ltN {i k X Y : Nat} (h1 : i < X) (h3 : k < Y) : Y * i + k < Y * X := by
  rw [Nat.mul_comm Y i, Nat.mul_comm Y X]
  have b : (i + 1) * Y ≤ X * Y := Nat.mul_le_mul_right _ (by omega)
  rw [Nat.add_mul, Nat.one_mul] at b
  omega
/-- the rows of a box told by a function of questions and place -/
def boxF (f : Nat → Nat → Nat → Int) (y n : Nat) : List (List Int) := (List.range n).map fun j => rowF (f (j / y) (j % y)) 4
@[simp] theorem boxF_len (f : Nat → Nat → Nat → Int) (y n : Nat) : (boxF f y n).length = n := by simp [boxF]
/-- a box's number -/
def atB (ll : List (List Int)) (Y i k p : Int) : Int := atZ (atZ ll (i * Y + k)) p

end Go.Proofs.Ytefbiejoikpkmaa

namespace Go.Proofs.Ytefbiejoikpkmaa
open Go.RowKit
open Go
/-! lists told by two lists of questions -/
def pairsF {α : Type} (h : Int → Int → α) (l m : List Int) : List α := l.flatMap fun x => m.map fun y => h x y
def pairsP {α : Type} (h : Int → Int → α) (l m : List Int) (i k : Nat) : List α := (pairsF h (l.take i) m) ++ ((m.take k).map fun y => h (atZ l i) y)
theorem pairsP_zero {α : Type} (h : Int → Int → α) (l m : List Int) : pairsP h l m 0 0 = [] := by simp [pairsP, pairsF]
theorem pairsP_snoc {α : Type} (h : Int → Int → α) (l m : List Int) (i : Nat) {k : Nat} (hk : k < m.length) : pairsP h l m i (k + 1) = pairsP h l m i k ++ [h (atZ l i) (atZ m k)] := by
  have e : m.take (k + 1) = m.take k ++ [m[k]] := List.take_succ_eq_append_getElem hk
  have e2 := atZ_nat hk
  unfold pairsP
  rw [e, e2, List.map_append, ← List.append_assoc]; rfl
theorem pairsP_row {α : Type} (h : Int → Int → α) (l m : List Int) {i : Nat} (hi : i < l.length) : pairsP h l m i m.length = pairsP h l m (i + 1) 0 := by
  have e : l.take (i + 1) = l.take i ++ [l[i]] := List.take_succ_eq_append_getElem hi
  have e2 := atZ_nat hi
  unfold pairsP pairsF
  rw [e, e2, List.flatMap_append, List.take_length]
  simp only [List.flatMap_cons, List.flatMap_nil, List.take_zero, List.map_nil, List.append_nil]
theorem pairsP_all {α : Type} (h : Int → Int → α) (l m : List Int) : pairsP h l m l.length 0 = pairsF h l m := by simp [pairsP]
theorem pairsF_len {α : Type} (h : Int → Int → α) : ∀ (l m : List Int), (pairsF h l m).length = l.length * m.length
  | [], m => by simp [pairsF]
  | x :: l, m => by
    have := pairsF_len h l m
    unfold pairsF at *
    rw [List.flatMap_cons, List.length_append, this, List.length_map, List.length_cons, Nat.add_mul]; omega
theorem pairsP_len {α : Type} (h : Int → Int → α) (l m : List Int) {i k : Nat} (hi : i ≤ l.length) (hk : k ≤ m.length) : (pairsP h l m i k).length = m.length * i + k := by
  unfold pairsP
  rw [Nat.mul_comm, List.length_append, pairsF_len, List.length_map, List.length_take, List.length_take, Nat.min_eq_left hi, Nat.min_eq_left hk]
theorem pairsF_congr {α : Type} {h g : Int → Int → α} {l m : List Int} (e : ∀ x ∈ l, ∀ y ∈ m, h x y = g x y) : pairsF h l m = pairsF g l m := by
  unfold pairsF
  induction l with
  | nil => rfl
  | cons x l ih =>
    rw [List.flatMap_cons, List.flatMap_cons, ih fun x hx y hy => e x (List.mem_cons_of_mem _ hx) y hy]
    congr 1
    exact List.map_congr_left fun y hy => e x (List.mem_cons_self ..) y hy
/-- the numbers less than n -/
def cntL (n : Nat) : List Int := (List.range n).map fun i : Nat => (i : Int)
@[simp] theorem cntL_len (n : Nat) : (cntL n).length = n := by simp [cntL]
theorem cntL_snoc (n : Nat) : cntL (n + 1) = cntL n ++ [(n : Int)] := by simp [cntL, List.range_succ]
theorem cntL_at {n i : Nat} (h : i < n) : atZ (cntL n) (i : Int) = i := by rw [atZ_nat (by simpa using h)]; simp [cntL]
theorem cntL_mem {n : Nat} {x : Int} (h : x ∈ cntL n) : 0 ≤ x ∧ x < n := by
  unfold cntL at h
  obtain ⟨i, hi, rfl⟩ := List.mem_map.1 h
  have := List.mem_range.1 hi; omega
/-! games -/
def totB (l : List Int) : Int := sum64 l
def gameB (x y : Int) (ws : List Int) (wi : List (List Int)) : Bool := sizeB x y && (decide ((ws.length : Int) = x * y) && (allB ws 0 99 && (decide (sum64 ws ≠ 0) && (decide ((wi.length : Int) = x * y) && wi.all (fun l => bitsB l 4)))))
structure GameOK (x y : Int) (ws : List Int) (wi : List (List Int)) : Prop where
  x1 : 1 ≤ x
  x3 : x ≤ 3
  y1 : 1 ≤ y
  y3 : y ≤ 3
  wl : (ws.length : Int) = x * y
  il : (wi.length : Int) = x * y
  wb : allB ws 0 99 = true
  s0 : sum64 ws ≠ 0
  row : ∀ q, (hq : q < wi.length) → bitsB wi[q] 4 = true
theorem gameB_spec {x y : Int} {ws : List Int} {wi : List (List Int)} (h : gameB x y ws wi = true) : GameOK x y ws wi := by
  simp only [gameB, Bool.and_eq_true, decide_eq_true_eq, List.all_eq_true] at h
  obtain ⟨h1, h2, h3, h4, h5, h6⟩ := h
  have a := sizeB_iff.1 h1
  exact ⟨a.1.1, a.1.2, a.2.1, a.2.2, h2, h5, h3, h4, fun q hq => h6 _ (List.getElem_mem hq)⟩
theorem sum64_small {l : List Int} {m : Int} (hl : l.length ≤ 1000) (hb : allB l 0 m = true) (hm : 0 ≤ m) (hm2 : m ≤ 1000000) : sum64 l = l.sum ∧ 0 ≤ l.sum ∧ l.sum ≤ l.length * m := by
  have key : ∀ (l : List Int) (s : Int), 0 ≤ s → (∀ x ∈ l, 0 ≤ x ∧ x ≤ m) → s + l.length * m ≤ 1000000000000 → l.foldl (fun s n => IntKind.i64.wrap (s + n)) s = s + l.sum ∧ 0 ≤ l.sum ∧ l.sum ≤ l.length * m := by
    intro l
    induction l with
    | nil => intro s _ _ _; simp
    | cons x l ih =>
      intro s h0 hx hs
      have h1 := hx x (List.mem_cons_self ..)
      simp only [List.length_cons, Int.natCast_add, Int.add_mul] at hs ⊢
      have h2 : 0 ≤ (l.length : Int) * m := Int.mul_nonneg (by omega) hm
      obtain ⟨e1, e2, e3⟩ := ih (s + x) (by omega) (fun y hy => hx y (List.mem_cons_of_mem _ hy)) (by simp at hs; omega)
      rw [List.foldl_cons, IntWalk.i64_in _ (by simp at hs; omega), e1, List.sum_cons]
      simp at hs ⊢; omega
  unfold allB at hb
  rw [List.all_eq_true] at hb
  have hlm : (l.length : Int) * m ≤ 1000 * 1000000 := Int.mul_le_mul (by omega) hm2 hm (by omega)
  have := key l 0 (by omega) (fun x hx => inB_iff.1 (hb x hx)) (by omega)
  unfold sum64; omega

theorem mem_atZ {α : Type} [Inhabited α] {l : List α} {i : Nat} (h : i < l.length) : atZ l (i : Int) ∈ l := by rw [atZ_nat h]; exact List.getElem_mem _
def whenA {α : Type} (b : Bool) (l : List α) : List α := if b = true then l else []
def xor4 (k : Nat) (m : Int) : Int := ((k ^^^ m.toNat : Nat) : Int)
theorem xor4_eq {k : Nat} {m : Int} (hk : k < 4) (h0 : 0 ≤ m) (h4 : m < 4) : bits .xor .i64 (k : Int) m = xor4 k m ∧ 0 ≤ xor4 k m ∧ xor4 k m < 4 := by
  rcases (by omega : k = 0 ∨ k = 1 ∨ k = 2 ∨ k = 3) with rfl | rfl | rfl | rfl <;> rcases (by omega : m = 0 ∨ m = 1 ∨ m = 2 ∨ m = 3) with rfl | rfl | rfl | rfl <;> exact ⟨rfl, by decide, by decide⟩
def flipOf (fl : List Int) (X x y : Int) : Int := 2 * atZ fl x + atZ fl (X + y)
/-- the weights and the wins that are asked for -/
def askW (Y : Int) (ws : List Int) (x y : Int) : Int := atZ ws (x * Y + y)
def askR (X Y : Int) (wi : List (List Int)) (fl : List Int) (x y : Int) : List Int := rowF (fun k => atZ (atZ wi (x * Y + y)) (xor4 k (flipOf fl X x y))) 4
@[simp] theorem askR_len (X Y : Int) (wi : List (List Int)) (fl : List Int) (x y : Int) : (askR X Y wi fl x y).length = 4 := by simp [askR]
theorem askR_get (X Y : Int) (wi : List (List Int)) (fl : List Int) (x y : Int) {p : Nat} (hp : p < (askR X Y wi fl x y).length) : (askR X Y wi fl x y)[p] = atZ (atZ wi (x * Y + y)) (xor4 p (flipOf fl X x y)) := by simp [askR, rowF]
theorem gameB_at {x y : Int} {ws : List Int} {wi : List (List Int)} (h : gameB x y ws wi = true) {q : Int} (h0 : 0 ≤ q) (h1 : q < x * y) : (0 ≤ atZ ws q ∧ atZ ws q ≤ 99) ∧ bitsB (atZ wi q) 4 = true := by
  have hg := gameB_spec h
  refine ⟨allB_at hg.wb h0 (by rw [hg.wl]; exact h1), ?_⟩
  obtain ⟨i, rfl⟩ := Int.eq_ofNat_of_zero_le h0
  have hi : i < wi.length := by have := hg.il; omega
  rw [atZ_nat hi]; exact hg.row i hi
theorem pairs_all {ws : List Int} {X Y : Nat} (h : ws.length = Y * X) : pairsF (askW Y ws) (cntL X) (cntL Y) = ws := by
  have e : pairsF (askW Y ws) (cntL X) (cntL Y) = (List.range (Y * X)).map fun j : Nat => atZ ws (j : Int) := by
    clear h
    induction X with
    | zero => simp [pairsF, cntL]
    | succ n ih =>
      unfold pairsF at ih ⊢
      rw [cntL_snoc, List.flatMap_append, ih, Nat.mul_succ, List.range_add, List.map_append, List.map_map]
      congr 1
      simp only [List.flatMap_cons, List.flatMap_nil, List.append_nil, cntL, List.map_map]
      refine List.map_congr_left fun k _ => ?_
      simp only [Function.comp, askW]
      congr 1
      rw [Int.natCast_add, Int.natCast_mul, Int.mul_comm]
  rw [e, ← h]
  refine List.ext_getElem (by simp) fun i h1 h2 => ?_
  simp [atZ_nat h2]
def flipB (X Y : Int) (ws : List Int) (wi : List (List Int)) (fl : List Int) : Bool := gameB X Y ws wi && bitsB fl (X + Y)
theorem flipB_spec {X Y : Int} {ws : List Int} {wi : List (List Int)} {fl : List Int} (h : flipB X Y ws wi fl = true) : 1 ≤ X ∧ X ≤ 3 ∧ 1 ≤ Y ∧ Y ≤ 3 := by
  simp only [flipB, Bool.and_eq_true] at h
  have := gameB_spec h.1
  exact ⟨this.x1, this.x3, this.y1, this.y3⟩
def flipR (X Y : Int) (wi : List (List Int)) (fl : List Int) : List (List Int) := pairsF (askR X Y wi fl) (cntL X.toNat) (cntL Y.toNat)
theorem pairs_allZ {ws : List Int} {X Y : Int} (h0 : 0 ≤ X) (h1 : 0 ≤ Y) (h : (ws.length : Int) = X * Y) : pairsF (askW Y ws) (cntL X.toNat) (cntL Y.toNat) = ws := by
  obtain ⟨x, rfl⟩ := Int.eq_ofNat_of_zero_le h0
  obtain ⟨y, rfl⟩ := Int.eq_ofNat_of_zero_le h1
  have e : ws.length = y * x := by rw [← Int.natCast_mul] at h; rw [Nat.mul_comm]; omega
  simpa using pairs_all e
end Go.Proofs.Ytefbiejoikpkmaa

namespace Go.Proofs.Ytefbiejoikpkmaa
open Go.RowKit
set_option linter.unusedSectionVars false
variable [Glb]
open Go
/-! lists of questions that are used -/
def putZ : List Int → Int → List Int
  | [], n => [n]
  | a :: l, n => if a < n then a :: putZ l n else if a = n then a :: l else n :: a :: l
def usedL (n : Nat) (p : Nat → Bool) : List Int := ((List.range n).filter p).map fun i : Nat => (i : Int)
/-- a row, or a column, that has a weight -/
def rowU (ws : List Int) (Y : Nat) (x : Nat) : Bool := (List.range Y).any fun y => decide (atZ ws ((x : Int) * Y + y) ≠ 0)
def colU (ws : List Int) (X Y : Nat) (y : Nat) : Bool := (List.range X).any fun x => decide (atZ ws ((x : Int) * Y + y) ≠ 0)
def colS (ws : List Int) (Y : Nat) (y : Nat) : Nat → Int
  | 0 => 0
  | x + 1 => colS ws Y y x + atZ ws ((x : Int) * Y + y)
theorem sum_pos : ∀ {l : List Int}, (∀ x ∈ l, 0 ≤ x) → 0 ≤ l.sum ∧ decide (0 < l.sum) = l.any fun x => decide (x ≠ 0)
  | [], _ => by simp
  | a :: l, h => by
    obtain ⟨h1, h2⟩ := sum_pos (l := l) fun x hx => h x (by simp [hx])
    have h3 := h a (by simp)
    refine ⟨by simp; omega, ?_⟩
    rw [List.any_cons, ← h2]
    by_cases hz : a = 0
    · simp [hz]
    · have : 0 < a + l.sum := by omega
      simp [hz, this]
/-- what has been seen of the weights -/
def seenU (ws : List Int) (key : Nat → Nat) (i : Nat) (v : Nat) : Bool := (List.range i).any fun j => decide (atZ ws (j : Int) ≠ 0) && decide (key j = v)
/-! a game with some of its questions -/
def askO (Y : Int) (wi : List (List Int)) (x y : Int) : List Int := atZ wi (x * Y + y)
def zerosL (n : Nat) : List Int := List.replicate n 0
@[simp] theorem zerosL_len (n : Nat) : (zerosL n).length = n := by simp [zerosL]
theorem zerosL_bits (n : Nat) : bitsB (zerosL n) n = true := by simp [bitsB, allB, zerosL, inB]
theorem zerosL_at (n : Nat) (i : Int) : atZ (zerosL n) i = 0 := by
  unfold atZ zerosL
  rw [List.getD_eq_getElem?_getD, List.getElem?_replicate]
  split <;> rfl
theorem rowF_self {l : List Int} (h : l.length = 4) : rowF (fun k : Nat => atZ l (k : Int)) 4 = l := by
  refine List.ext_getElem (by simp [h]) fun i h1 h2 => ?_
  simp [rowF, atZ_nat h2]
theorem ask_same {X Y : Int} {ws : List Int} {wi : List (List Int)} (h : gameB X Y ws wi = true) {fs ss : List Int} (hf : ∀ x ∈ fs, 0 ≤ x ∧ x < X) (hs : ∀ y ∈ ss, 0 ≤ y ∧ y < Y) (n : Nat) : pairsF (askR X Y wi (zerosL n)) fs ss = pairsF (askO Y wi) fs ss := by
  refine pairsF_congr fun x hx y hy => ?_
  have a := hf x hx
  have b := hs y hy
  have ix := idx_lt a.1 a.2 b.1 b.2
  have hl := bitsB_len (gameB_at h ix.1 ix.2.1).2
  unfold askR askO flipOf
  rw [zerosL_at, zerosL_at]
  simp only [xor4]
  simpa using rowF_self (l := atZ wi (x * Y + y)) (by omega)
def trim1 (X Y : Int) (ws : List Int) : List Int := usedL X.toNat (rowU ws Y.toNat)
def trim2 (X Y : Int) (ws : List Int) : List Int := usedL Y.toNat (colU ws X.toNat Y.toNat)
def trimW (X Y : Int) (ws : List Int) : List Int := pairsF (askW Y ws) (trim1 X Y ws) (trim2 X Y ws)
def trimR (X Y : Int) (ws : List Int) (wi : List (List Int)) : List (List Int) := pairsF (askO Y wi) (trim1 X Y ws) (trim2 X Y ws)
end Go.Proofs.Ytefbiejoikpkmaa

namespace Go.Proofs.Ytefbiejoikpkmaa
open Go.RowKit
open Go
/-! numbers added up at places -/
def accN (s : Nat → Nat) (v : Nat → Int) : Nat → Nat → Int
  | 0, _ => 0
  | m + 1, p => accN s v m p + if s m = p then v m else 0
def pairB (x y n : Int) (ll : List (List Int)) : Bool := boxB x y n ll && (decide (x = 2) && decide (y = 2))
def agrZ (row : List Int) : Int := atZ row 0 - atZ row 1 - atZ row 2 + atZ row 3

end Go.Proofs.Ytefbiejoikpkmaa

namespace Go.Proofs.Ytefbiejoikpkmaa
open Go.RowKit
set_option linter.unusedSectionVars false
variable [Glb]
open Go
/-! rules, wirings -/
def tabB (t : List (List Int)) (n m : Int) : Bool := decide ((t.length : Int) = n) && t.all (fun l => bitsB l m)
def ruleB (f : List Int) (a s : List (List Int)) : Bool := bitsB f 2 && (tabB a 2 2 && tabB s 2 4)
structure RuleOK (f : List Int) (a s : List (List Int)) : Prop where
  fl : f.length = 2
  al : a.length = 2
  sl : s.length = 2
  fb : ∀ i : Int, 0 ≤ i → i < 2 → 0 ≤ atZ f i ∧ atZ f i ≤ 1
  ab : ∀ i : Int, 0 ≤ i → i < 2 → bitsB (atZ a i) 2 = true
  sb : ∀ i : Int, 0 ≤ i → i < 2 → bitsB (atZ s i) 4 = true
theorem RuleOK.ask {f : List Int} {a s : List (List Int)} (h : RuleOK f a s) {x i : Int} (x0 : 0 ≤ x) (x1 : x < 2) (i0 : 0 ≤ i) (i1 : i < 2) : (atZ a x).length = 2 ∧ 0 ≤ atZ (atZ a x) i ∧ atZ (atZ a x) i ≤ 1 := by
  have hb := h.ab x x0 x1
  have hl := bitsB_len hb
  exact ⟨by omega, bitsB_at hb i0 i1⟩
/-- a sum, term by term -/
def accT (t : Nat → Int) : Nat → Int
  | 0 => 0
  | m + 1 => accT t m + t m
theorem accT_congr {t u : Nat → Int} : ∀ {m : Nat}, (∀ c, c < m → t c = u c) → accT t m = accT u m
  | 0, _ => rfl
  | m + 1, h => by
    have := accT_congr fun c hc => h c (Nat.lt_succ_of_lt hc)
    have := h m (by omega)
    simp only [accT]; omega
section
variable (la lb : List (List Int)) (f1 : List Int) (a1 s1 : List (List Int)) (f2 : List Int) (a2 s2 : List (List Int))
def wV (x y i j k l : Nat) : Int := atB la 2 (atZ f1 x) (atZ f2 y) ((2 * i + j : Nat) : Int) * atB lb 2 (atZ (atZ a1 x) i) (atZ (atZ a2 y) j) ((2 * k + l : Nat) : Int)
def wS (x y i j k l : Nat) : Nat := (2 * atZ (atZ s1 x) ((2 * i + k : Nat) : Int) + atZ (atZ s2 y) ((2 * j + l : Nat) : Int)).toNat
def wI (x y m p : Nat) : Int := accN (fun c => wS s1 s2 x y (c % 2) (c / 2 % 2) (c / 4 % 2) (c / 8 % 2)) (fun c => wV la lb f1 a1 f2 a2 x y (c % 2) (c / 2 % 2) (c / 4 % 2) (c / 8 % 2)) m p
def wP (x y m p : Nat) : Int := accN (fun m => wS s1 s2 x y (m / 8) (m / 4 % 2) (m / 2 % 2) (m % 2)) (fun m => wV la lb f1 a1 f2 a2 x y (m / 8) (m / 4 % 2) (m / 2 % 2) (m % 2)) m p
/-- the rows of a wiring -/
def wiredL : List (List Int) := boxF (fun x y p => wP la lb f1 a1 s1 f2 a2 s2 x y 16 p) 2 4
end
section
variable {la lb : List (List Int)} {f1 : List Int} {a1 s1 : List (List Int)} {f2 : List Int} {a2 s2 : List (List Int)} {na nb : Int}
end
section
variable {la lb : List (List Int)} {f1 : List Int} {a1 s1 : List (List Int)} {f2 : List Int} {a2 s2 : List (List Int)} {na nb : Int}
end
def wiresB (xa ya na : Int) (la : List (List Int)) (xb yb nb : Int) (lb : List (List Int)) : Bool := pairB xa ya na la && (pairB xb yb nb lb && decide (na * nb ≤ 1000))
def wireOK (xa ya na : Int) (la : List (List Int)) (xb yb nb : Int) (lb : List (List Int)) (f1 : List Int) (a1 s1 : List (List Int)) (f2 : List Int) (a2 s2 : List (List Int)) : Bool :=
  wiresB xa ya na la xb yb nb lb && (ruleB f1 a1 s1 && ruleB f2 a2 s2)
def sumF : List Int := [0, 1]
def sumA : List (List Int) := [[0, 0], [1, 1]]
def sumS : List (List Int) := [[0, 1, 1, 0], [0, 1, 1, 0]]
def ruleA (asks : List Int) : List (List Int) := [[atZ asks 0, atZ asks 1], [atZ asks 2, atZ asks 3]]
/-- the rows of a wiring on the way -/
def wireM (W : Nat → Nat → Nat → Nat → Int) (j0 m : Nat) : List (List Int) := (List.range 4).map fun j => rowF (W (j / 2) (j % 2) (if j < j0 then 16 else if j = j0 then m else 0)) 4
@[simp] theorem wireM_len (W : Nat → Nat → Nat → Nat → Int) (j0 m : Nat) : (wireM W j0 m).length = 4 := by simp [wireM]
end Go.Proofs.Ytefbiejoikpkmaa

namespace Go.Proofs.Ytefbiejoikpkmaa
open Go.RowKit
open Go
/-! quiet trios -/
def at2 (ll : List (List Int)) (q k : Nat) : Int := atZ (atZ ll (q : Int)) (k : Int)
/-- the numbers of the places that differ by a digit add up alike for the questions that differ by it -/
def quietAt (ll : List (List Int)) (d q a : Nat) : Bool := (q &&& d != 0) || decide (at2 ll q a + at2 ll q (a ^^^ d) = at2 ll (q ||| d) a + at2 ll (q ||| d) (a ^^^ d))
def quiet3 (ll : List (List Int)) : Bool := [4, 2, 1].all fun d => (List.range 8).all fun q => (List.range 8).all fun a => quietAt ll d q a
def spQuietAt (ll : List (List Int)) (d q a : Nat) : Bool := (q &&& d != 0) || (a &&& d != 0) || decide (at2 ll q a + at2 ll q (a ^^^ d) = at2 ll (q ||| d) a + at2 ll (q ||| d) (a ^^^ d))
def spQuiet (ll : List (List Int)) (p : Nat) : Bool := (List.take p [1, 2, 4]).all fun d => (List.range 8).all fun q => (List.range 8).all fun a => spQuietAt ll d q a
def pw2 (p : Nat) : Nat := 2 ^ p
end Go.Proofs.Ytefbiejoikpkmaa

namespace Go.Proofs.Ytefbiejoikpkmaa
open Go.RowKit
set_option linter.unusedSectionVars false
variable [Glb]
open Go
/-! scenes, halls -/
def riseAt (l : List Int) (lo hi : Int) (i : Nat) : Bool := inB (atZ l i) lo hi && (decide (i = 0) || decide (atZ l ((i : Int) - 1) < atZ l i))
def riseB (l : List Int) (lo hi : Int) : Bool := (List.range l.length).all fun i => riseAt l lo hi i
def ctxB (n : Int) (l : List Int) : Bool := decide (0 < l.length) && riseB l 0 (n - 1)
def sceneB (ev : Int) (cc : List (List Int)) (ss : List Int) : Bool := inB ev 0 12 && (decide (cc.length ≤ 10) && (bitsB ss cc.length && cc.all (ctxB ev)))
structure SceneOK (ev : Int) (cc : List (List Int)) (ss : List Int) : Prop where
  e0 : 0 ≤ ev
  e12 : ev ≤ 12
  c10 : cc.length ≤ 10
  sl : ss.length = cc.length
  sb : bitsB ss cc.length = true
  ctx : ∀ q, (hq : q < cc.length) → ctxB ev cc[q] = true
def hallB (bx by_ bwh : Int) (bll : List (List Int)) (pl : List Int) (ev : Int) (cc : List (List Int)) (ss nu : List Int) (co : Int) : Bool :=
  boxB bx by_ bwh bll && (bitsB pl (bx + by_) && (sceneB ev cc ss && (bitsB nu ev && inB co 0 1000)))
/-- the least of numbers -/
def leastN (m : Int) (f : Nat → Int) : Nat → Int
  | 0 => m
  | k + 1 => min (leastN m f k) (f k)
def chanceF (Y X : Nat) (ll : List (List Int)) (pl : List Int) (j : Nat) : Int := atZ (atZ ll j) (2 * atZ pl ((j / Y : Nat) : Int) + atZ pl ((X : Int) + (j % Y : Nat)))
structure HallOK (bx by_ bwh : Int) (bll : List (List Int)) (pl : List Int) (ev : Int) (cc : List (List Int)) (ss nu : List Int) (co : Int) : Prop where
  box : boxB bx by_ bwh bll = true
  pl : bitsB pl (bx + by_) = true
  sc : sceneB ev cc ss = true
  nu : bitsB nu ev = true
  co : inB co 0 1000 = true
end Go.Proofs.Ytefbiejoikpkmaa

namespace Go.Proofs.Ytefbiejoikpkmaa
open Go.RowKit
set_option linter.unusedSectionVars false
variable [Glb]
open Go
/-! new halls -/
def newB (bx by_ bwh : Int) (bll : List (List Int)) (ev : Int) (cc : List (List Int)) (ss : List Int) : Bool := boxB bx by_ bwh bll && sceneB ev cc ss
structure NewOK (bx by_ bwh : Int) (bll : List (List Int)) (ev : Int) (cc : List (List Int)) (ss : List Int) : Prop where
  x1 : 1 ≤ bx
  x3 : bx ≤ 3
  y1 : 1 ≤ by_
  y3 : by_ ≤ 3
  e0 : 0 ≤ ev
  e12 : ev ≤ 12
  bl : bll.length ≤ 9
  br : ∀ r ∈ bll, r.length ≤ 1000000
  cl : cc.length ≤ 10
  cr : ∀ r ∈ cc, r.length ≤ 1000000
  cb : ∀ r ∈ cc, allB r 0 1000 = true
  sl : ss.length ≤ 10
structure HallBd (bll : List (List Int)) (pl : List Int) (cc : List (List Int)) (ss nu : List Int) : Prop where
  bl : bll.length ≤ 9
  br : ∀ r ∈ bll, r.length ≤ 1000000
  cl : cc.length ≤ 10
  cr : ∀ r ∈ cc, r.length ≤ 1000000
  cb : ∀ r ∈ cc, allB r 0 1000 = true
  sl : ss.length ≤ 10
  pl6 : pl.length ≤ 6
  nl : nu.length ≤ 12
end Go.Proofs.Ytefbiejoikpkmaa

namespace Go.Proofs.Ytefbiejoikpkmaa
open Go.RowKit
set_option linter.unusedSectionVars false
variable [Glb]
open Go
/-! the calls of a hall -/
/-- the sum of two boxes -/
def bmixF (la lb : List (List Int)) (Y : Nat) (i k p : Nat) : Int := atB la Y i k p + atB lb Y i k p
def bmixL (la lb : List (List Int)) (X Y : Int) : List (List Int) := boxF (bmixF la lb Y.toNat) Y.toNat (Y.toNat * X.toNat)
def sameB (x y n : Int) (la : List (List Int)) (x2 y2 m : Int) (lb : List (List Int)) : Bool := boxB x y n la && (boxB x2 y2 m lb && (decide (x = x2) && decide (y = y2)))
def bmixB (x y n : Int) (la : List (List Int)) (x2 y2 m : Int) (lb : List (List Int)) : Bool := sameB x y n la x2 y2 m lb && decide (n + m ≤ 1000)
/-- the box of a play -/
def playF (pl : List Int) (X : Nat) (wh : Int) (i k p : Nat) : Int := if atZ pl i = ((p / 2 : Nat) : Int) ∧ atZ pl ((X : Int) + k) = ((p % 2 : Nat) : Int) then wh else 0
def playL (pl : List Int) (X Y wh : Int) : List (List Int) := boxF (playF pl X.toNat wh) Y.toNat (Y.toNat * X.toNat)
def playB (x y : Int) (pl : List Int) (wh : Int) : Bool := sizeB x y && (bitsB pl (x + y) && inB wh 1 1000)
/-- the box with the players swapped -/
def swapF (ll : List (List Int)) (Y : Nat) (i k p : Nat) : Int := atB ll Y k i ((2 * (p % 2) + p / 2 : Nat) : Int)
def swapL (ll : List (List Int)) (X Y : Int) : List (List Int) := boxF (swapF ll Y.toNat) X.toNat (X.toNat * Y.toNat)
/-- the box with flipped answers -/
def bflF (ll : List (List Int)) (X Y : Nat) (fl : List Int) (i k p : Nat) : Int := atB ll Y i k (xor4 p (flipOf fl X i k))
def bflL (ll : List (List Int)) (X Y : Int) (fl : List Int) : List (List Int) := boxF (bflF ll X.toNat Y.toNat fl) Y.toNat (Y.toNat * X.toNat)
/-- the box with the least numbers -/
def gcdI (a b : Int) : Int := ((Nat.gcd a.toNat b.toNat : Nat) : Int)
def gcdR (d : Int) (row : List Int) : Int := row.foldl gcdI d
def gcdL (d : Int) (ll : List (List Int)) : Int := ll.foldl gcdR d
def redF (ll : List (List Int)) (Y : Nat) (d : Int) (i k p : Nat) : Int := atB ll Y i k p / d
def redL (ll : List (List Int)) (X Y : Int) (d : Int) : List (List Int) := boxF (redF ll Y.toNat d) Y.toNat (Y.toNat * X.toNat)
/-- the sums of a scene with an event flipped -/
def evF (cc : List (List Int)) (ss : List Int) (e : Int) (i : Nat) : Int := if (atZ cc (i : Int)).contains e = true then 1 - atZ ss i else atZ ss i
def evL (cc : List (List Int)) (ss : List Int) (e : Int) : List Int := rowF (evF cc ss e) ss.length
/-- the sums of which the first k are done -/
def evM (cc : List (List Int)) (ss : List Int) (e : Int) (k : Nat) : List Int := rowF (fun j => if j < k then evF cc ss e j else atZ ss (j : Int)) ss.length
@[simp] theorem evM_len (cc : List (List Int)) (ss : List Int) (e : Int) (k : Nat) : (evM cc ss e k).length = ss.length := by simp [evM]
@[simp] theorem evL_len (cc : List (List Int)) (ss : List Int) (e : Int) : (evL cc ss e).length = ss.length := by simp [evL]
/-! halls as data -/
structure HD where
  bx : Int
  by_ : Int
  bwh : Int
  bll : List (List Int)
  pl : List Int
  ev : Int
  cc : List (List Int)
  ss : List Int
  nu : List Int
  co : Int
structure HV (h : HD) : Prop where
  box : boxB h.bx h.by_ h.bwh h.bll = true
  pl : bitsB h.pl (h.bx + h.by_) = true
  sc : sceneB h.ev h.cc h.ss = true
  nu : bitsB h.nu h.ev = true
/-- 1 at one place -/
def oneL (n : Nat) (a : Int) : List Int := (List.replicate n (0 : Int)).set a.toNat 1
@[simp] theorem oneL_len (n : Nat) (a : Int) : (oneL n a).length = n := by simp [oneL]
def mixOK (h : HD) (a : Int) : Bool := playB h.bx h.by_ h.pl a && bmixB h.bx h.by_ h.bwh h.bll h.bx h.by_ a (playL h.pl h.bx h.by_ a)
def callT (h : HD) (k a : Int) : Option HD :=
  if k = 1 then if mixOK h a = true then some { h with bwh := h.bwh + a, bll := bmixL h.bll (playL h.pl h.bx h.by_ a) h.bx h.by_ } else none
  else if k = 2 then if inB a 0 (h.pl.length - 1) = true then some { h with pl := h.pl.set a.toNat (1 - atZ h.pl a) } else none
  else if k = 3 then if inB a 0 (h.pl.length - 1) = true then some { h with bll := bflL h.bll h.bx h.by_ (oneL h.pl.length a) } else none
  else if k = 4 then if a = 0 then some { h with bx := h.by_, by_ := h.bx, bll := swapL h.bll h.bx h.by_, pl := partZ h.pl h.bx h.pl.length ++ partZ h.pl 0 h.bx } else none
  else if k = 5 then if a = 0 then some { h with bwh := h.bwh / gcdL h.bwh h.bll, bll := redL h.bll h.bx h.by_ (gcdL h.bwh h.bll) } else none
  else if k = 6 then if inB a 0 (h.nu.length - 1) = true then some { h with nu := h.nu.set a.toNat (1 - atZ h.nu a) } else none
  else if k = 7 then if inB a 0 (h.ev - 1) = true then some { h with ss := evL h.cc h.ss a } else none
  else none
/-! rows told one by one -/
def rowsF (g : Nat → Nat → Int) (n : Nat) : List (List Int) := (List.range n).map fun j => rowF (g j) 4
@[simp] theorem rowsF_len (g : Nat → Nat → Int) (n : Nat) : (rowsF g n).length = n := by simp [rowsF]
def mixR (la lb : List (List Int)) (j p : Nat) : Int := atZ (atZ la (j : Int)) (p : Int) + atZ (atZ lb (j : Int)) (p : Int)
def redR (ll : List (List Int)) (d : Int) (j p : Nat) : Int := atZ (atZ ll (j : Int)) (p : Int) / d
/-- a row with flipped answers, on the way -/
def flM (row : List Int) (m : Int) (k : Nat) : List Int := rowF (fun j => if (xor4 j m).toNat < k then atZ row (xor4 j m) else 0) 4
@[simp] theorem flM_len (row : List Int) (m : Int) (k : Nat) : (flM row m k).length = 4 := by simp [flM]
end Go.Proofs.Ytefbiejoikpkmaa

namespace Go.Proofs.Ytefbiejoikpkmaa
open Go.RowKit
set_option linter.unusedSectionVars false
variable [Glb]
open Go
/-! the eight sums of a box; the first of the greatest -/
def difK (k x y : Nat) : Int := ((x * y + k / 4 % 2 * x + k / 2 % 2 * y + k % 2) % 2 : Nat)
def sgnT (ll : List (List Int)) (k j : Nat) : Int := agrZ (atZ ll (j : Int)) * (1 - 2 * difK k (j / 2) (j % 2))
def sgnK (ll : List (List Int)) (k : Nat) : Int := accT (sgnT ll k) 4
def sumsL (ll : List (List Int)) : List Int := rowF (sgnK ll) 8
/-- the place of the first of the greatest numbers -/
def bstT (s : Nat → Int) : Nat → Nat
  | 0 => 0
  | 1 => 0
  | t + 2 => if s (bstT s (t + 1)) < s (t + 1) then t + 1 else bstT s (t + 1)
theorem bstT_yes {s : Nat → Int} {t : Nat} (h : t = 0 ∨ s (bstT s t) < s t) : bstT s (t + 1) = t := by
  cases t with
  | zero => rfl
  | succ t =>
    rcases h with h | h
    · omega
    · show (if _ then _ else _) = _; rw [if_pos h]
theorem bstT_no {s : Nat → Int} {t : Nat} (h0 : t ≠ 0) (h : ¬ s (bstT s t) < s t) : bstT s (t + 1) = bstT s t := by
  cases t with
  | zero => exact absurd rfl h0
  | succ t => show (if _ then _ else _) = _; rw [if_neg h]
theorem bstT_max (s : Nat → Int) : ∀ {t k : Nat}, k < t → s k ≤ s (bstT s t)
  | 1, k, h => by
    have : k = 0 := by omega
    subst this; exact Int.le_refl _
  | t + 2, k, h => by
    by_cases hk : k = t + 1
    · subst hk
      by_cases hs : s (bstT s (t + 1)) < s (t + 1)
      · rw [bstT_yes (.inr hs)]; exact Int.le_refl _
      · rw [bstT_no (by omega) hs]; omega
    · have ih := bstT_max s (t := t + 1) (k := k) (by omega)
      by_cases hs : s (bstT s (t + 1)) < s (t + 1)
      · rw [bstT_yes (.inr hs)]; omega
      · rw [bstT_no (by omega) hs]; exact ih
/-- the box of a pair of ask lists -/
def askRow (k : Nat) : List Int := bitsM 4 k
def askLL (la lb : List (List Int)) (t : Nat) : List (List Int) := wiredL la lb sumF (ruleA (askRow (t / 16))) sumS sumF (ruleA (askRow (t % 16))) sumS
def askS (la lb : List (List Int)) (k : Nat) (t : Nat) : Int := sgnK (askLL la lb t) k
def bestP (la lb : List (List Int)) (k : Nat) : Nat := bstT (askS la lb k) 256
def bestB (xa ya na : Int) (la : List (List Int)) (xb yb nb : Int) (lb : List (List Int)) (k : Int) : Bool := wiresB xa ya na la xb yb nb lb && inB k 0 7
def firstA (s : Nat → Int) : Nat → List Int
  | 0 => []
  | t + 1 => askRow (bstT s (t + 1) / 16)
def secondA (s : Nat → Int) : Nat → List Int
  | 0 => []
  | t + 1 => askRow (bstT s (t + 1) % 16)
def mostA (s : Nat → Int) : Nat → Int
  | 0 => 0
  | t + 1 => s (bstT s (t + 1))
def foundA : Nat → Bool
  | 0 => false
  | _ + 1 => true
end Go.Proofs.Ytefbiejoikpkmaa

namespace Go.Proofs.Ytefbiejoikpkmaa
open Go.RowKit
set_option linter.unusedSectionVars false
variable [Glb]
/-! games: scores, lost pairs, best plays -/
def winT (X Y : Nat) (wi : List (List Int)) (pl : List Int) (t : Nat) : Int := atZ (atZ wi (t : Int)) (flipOf pl X ((t / Y : Nat) : Int) ((t % Y : Nat) : Int))
def scoT (X Y : Nat) (ws : List Int) (wi : List (List Int)) (pl : List Int) (t : Nat) : Int := atZ ws (t : Int) * winT X Y wi pl t
def scoG (X Y : Nat) (ws : List Int) (wi : List (List Int)) (pl : List Int) : Int := accT (scoT X Y ws wi pl) (Y * X)
def funL (ws : List Int) (wi : List (List Int)) : List (List Int) := gridF (fun i k => atZ (atZ wi (i : Int)) (k : Int) * atZ ws (i : Int)) wi.length 4
theorem pair_div {Y i k : Nat} (hk : k < Y) : (Y * i + k) / Y = i ∧ (Y * i + k) % Y = k := by
  have hY : 0 < Y := by omega
  refine ⟨?_, ?_⟩
  · rw [Nat.mul_add_div hY, Nat.div_eq_of_lt hk, Nat.add_zero]
  · rw [Nat.mul_add_mod, Nat.mod_eq_of_lt hk]
theorem pair_cast (Y i k : Nat) : ((Y * i + k : Nat) : Int) = (i : Int) * Y + k := by rw [Int.natCast_add, Int.natCast_mul, Int.mul_comm]
theorem winT_at {X Y : Nat} (wi : List (List Int)) (pl : List Int) {i k : Nat} (hk : k < Y) : winT X Y wi pl (Y * i + k) = atZ (atZ wi ((i : Int) * Y + k)) (2 * atZ pl i + atZ pl ((X : Int) + k)) := by
  obtain ⟨e1, e2⟩ := pair_div (i := i) hk
  unfold winT flipOf
  rw [e1, e2, pair_cast]
theorem scoT_at {X Y : Nat} (ws : List Int) (wi : List (List Int)) (pl : List Int) {i k : Nat} (hk : k < Y) : scoT X Y ws wi pl (Y * i + k) = atZ ws ((i : Int) * Y + k) * atZ (atZ wi ((i : Int) * Y + k)) (2 * atZ pl i + atZ pl ((X : Int) + k)) := by
  unfold scoT
  rw [winT_at wi pl hk, pair_cast]
theorem flip4 {pl : List Int} {X Y : Nat} (hp : bitsB pl ((X : Int) + Y) = true) {i k : Nat} (hi : i < X) (hk : k < Y) : (0 ≤ atZ pl (i : Int) ∧ atZ pl (i : Int) ≤ 1) ∧ (0 ≤ atZ pl ((X : Int) + k) ∧ atZ pl ((X : Int) + k) ≤ 1) ∧ 0 ≤ 2 * atZ pl i + atZ pl ((X : Int) + k) ∧ 2 * atZ pl i + atZ pl ((X : Int) + k) < 4 := by
  have h1 := bitsB_at hp (i := (i : Int)) (by omega) (by omega)
  have h2 := bitsB_at hp (i := (X : Int) + k) (by omega) (by omega)
  omega
structure PairOK (X Y : Nat) (ws : List Int) (wi : List (List Int)) (i k : Nat) : Prop where
  lt : (i : Int) * Y + k < ws.length
  lt2 : (i : Int) * Y + k < wi.length
  ge : 0 ≤ (i : Int) * Y + k
  le : (i : Int) * Y + k ≤ 8
  g1 : 0 ≤ (i : Int) * Y
  g2 : (i : Int) * Y ≤ 8
  w0 : 0 ≤ atZ ws ((i : Int) * Y + k)
  w1 : atZ ws ((i : Int) * Y + k) ≤ 99
  len : (atZ wi ((i : Int) * Y + k)).length = 4
  bit : ∀ p : Int, 0 ≤ p → p < 4 → 0 ≤ atZ (atZ wi ((i : Int) * Y + k)) p ∧ atZ (atZ wi ((i : Int) * Y + k)) p ≤ 1
theorem mul01 {a b : Int} (ha : 0 ≤ a ∧ a ≤ 99) (hb : 0 ≤ b ∧ b ≤ 1) : 0 ≤ a * b ∧ a * b ≤ 99 ∧ (a * b = a ∨ b = 0) ∧ a * b = b * a := by
  rcases (by omega : b = 0 ∨ b = 1) with rfl | rfl <;> simp <;> omega
theorem pair_ok {X Y : Nat} {ws : List Int} {wi : List (List Int)} (h : gameB X Y ws wi = true) {i k : Nat} (hi : i < X) (hk : k < Y) : PairOK X Y ws wi i k := by
  have g := gameB_spec h
  have e := idx_lt (i := (i : Int)) (k := (k : Int)) (X := X) (Y := Y) (by omega) (by omega) (by omega) (by omega)
  have m := mul_bd3 (sizeB_iff.2 ⟨⟨g.x1, g.x3⟩, g.y1, g.y3⟩)
  have a := gameB_at h e.1 e.2.1
  have b := bitsB_len a.2
  have wl := g.wl
  have il := g.il
  exact ⟨by omega, by omega, by omega, by omega, by omega, by omega, a.1.1, a.1.2, by omega, fun p h0 h1 => bitsB_at a.2 h0 h1⟩
theorem scoT_bd {X Y : Nat} {ws : List Int} {wi : List (List Int)} {pl : List Int} (h : gameB X Y ws wi = true) (hp : bitsB pl ((X : Int) + Y) = true) {t : Nat} (ht : t < Y * X) : 0 ≤ scoT X Y ws wi pl t ∧ scoT X Y ws wi pl t ≤ 99 := by
  have hY : 0 < Y := by rcases Nat.eq_zero_or_pos Y with e | e; · subst e; simp at ht
                        · exact e
  have hk : t % Y < Y := Nat.mod_lt _ hY
  have hi : t / Y < X := by rw [Nat.div_lt_iff_lt_mul hY, Nat.mul_comm]; exact ht
  have e : t = Y * (t / Y) + t % Y := (Nat.div_add_mod t Y).symm
  have p := pair_ok h hi hk
  have f := flip4 hp hi hk
  have b := p.bit _ f.2.2.1 f.2.2.2
  rw [e, scoT_at ws wi pl hk]
  have := mul01 ⟨p.w0, p.w1⟩ b
  omega
theorem accT_bd1 {t : Nat → Int} {M : Int} : ∀ {m : Nat}, (∀ c, c < m → 0 ≤ t c ∧ t c ≤ M) → 0 ≤ accT t m ∧ accT t m ≤ m * M
  | 0, _ => by simp [accT]
  | m + 1, h => by
    have a := accT_bd1 (t := t) (M := M) (m := m) fun c hc => h c (by omega)
    have b := h m (by omega)
    simp only [accT, Int.natCast_add, Int.add_mul]
    omega
theorem scoN_bd {X Y : Nat} {ws : List Int} {wi : List (List Int)} {pl : List Int} (h : gameB X Y ws wi = true) (hp : bitsB pl ((X : Int) + Y) = true) {m : Nat} (hm : m ≤ Y * X) : 0 ≤ accT (scoT X Y ws wi pl) m ∧ accT (scoT X Y ws wi pl) m ≤ 900 := by
  have a := accT_bd1 (t := scoT X Y ws wi pl) (M := 99) (m := m) fun c hc => scoT_bd h hp (by omega)
  have g := gameB_spec h
  have n := mul_bd3 (sizeB_iff.2 ⟨⟨g.x1, g.x3⟩, g.y1, g.y3⟩)
  rw [← Int.natCast_mul, Nat.mul_comm] at n
  omega
theorem game_nat {X Y : Int} {ws : List Int} {wi : List (List Int)} (h : gameB X Y ws wi = true) : ∃ x y : Nat, X = x ∧ Y = y ∧ (1 ≤ x ∧ x ≤ 3) ∧ (1 ≤ y ∧ y ≤ 3) ∧ ws.length = y * x ∧ wi.length = y * x ∧ y * x ≤ 9 := by
  have g := gameB_spec h
  have g1 := g.x1; have g2 := g.x3; have g3 := g.y1; have g4 := g.y3; have wl := g.wl; have il := g.il
  obtain ⟨x, rfl⟩ := Int.eq_ofNat_of_zero_le (by omega : 0 ≤ X)
  obtain ⟨y, rfl⟩ := Int.eq_ofNat_of_zero_le (by omega : 0 ≤ Y)
  have m := mul_bd3 (sizeB_iff.2 ⟨⟨g1, g2⟩, g3, g4⟩)
  rw [← Int.natCast_mul, Nat.mul_comm] at wl il m
  exact ⟨x, y, rfl, rfl, by omega, by omega, by omega, by omega, by omega⟩
theorem funL_at {ws : List Int} {wi : List (List Int)} {i : Nat} (hi : i < wi.length) : atZ (funL ws wi) (i : Int) = rowF (fun k => atZ (atZ wi (i : Int)) (k : Int) * atZ ws (i : Int)) 4 := by
  rw [atZ_nat (by simpa [funL] using hi)]
  simp [funL, gridF]
theorem funL_atZ {ws : List Int} {wi : List (List Int)} {t p : Int} (h0 : 0 ≤ t) (h1 : t < wi.length) (p0 : 0 ≤ p) (p1 : p < 4) : atZ (atZ (funL ws wi) t) p = atZ ws t * atZ (atZ wi t) p ∧ (atZ (funL ws wi) t).length = 4 := by
  obtain ⟨i, rfl⟩ := Int.eq_ofNat_of_zero_le h0
  obtain ⟨k, rfl⟩ := Int.eq_ofNat_of_zero_le p0
  rw [funL_at (by omega), rowF_atZ _ (by omega)]
  exact ⟨Int.mul_comm _ _, by simp⟩
@[simp] theorem funL_len (ws : List Int) (wi : List (List Int)) : (funL ws wi).length = wi.length := by simp [funL]
/-- the pairs that a play loses -/
def lostP (X Y : Nat) (ws : List Int) (wi : List (List Int)) (pl : List Int) (t : Nat) : Bool := decide (0 < atZ ws (t : Int)) && decide (winT X Y wi pl t = 0)
def lostL (X Y : Nat) (ws : List Int) (wi : List (List Int)) (pl : List Int) : List Int := usedL (Y * X) (lostP X Y ws wi pl)
/-- the first best play -/
def playN (X Y : Nat) (ws : List Int) (wi : List (List Int)) (c : Nat) : Int := scoG X Y ws wi (bitsM (X + Y) c)
def bestC (X Y : Nat) (ws : List Int) (wi : List (List Int)) : Nat := bstT (playN X Y ws wi) (2 ^ (X + Y))
def bestG (X Y : Nat) (ws : List Int) (wi : List (List Int)) : List Int := bitsM (X + Y) (bestC X Y ws wi)
def valueG (X Y : Nat) (ws : List Int) (wi : List (List Int)) : Int := playN X Y ws wi (bestC X Y ws wi)
def valN (s : Nat → Int) : Nat → Int
  | 0 => -1
  | i + 1 => s (bstT s (i + 1))
theorem playN_bd {X Y : Nat} {ws : List Int} {wi : List (List Int)} (h : gameB X Y ws wi = true) (c : Nat) : 0 ≤ playN X Y ws wi c ∧ playN X Y ws wi c ≤ 900 :=
  scoN_bd h (by rw [← Int.natCast_add]; exact bitsM_bits _ _) (Nat.le_refl _)
theorem valN_yes {s : Nat → Int} {i : Nat} (h : valN s i < s i) (h0 : 0 ≤ s i) : bstT s (i + 1) = i ∧ valN s (i + 1) = s i := by
  have e : bstT s (i + 1) = i := bstT_yes (by
    cases i with
    | zero => exact .inl rfl
    | succ i => exact .inr h)
  exact ⟨e, by simp only [valN, e]⟩
theorem valN_no {s : Nat → Int} {i : Nat} (h : ¬ valN s i < s i) (h0 : 0 ≤ s i) : bstT s (i + 1) = bstT s i ∧ valN s (i + 1) = valN s i ∧ i ≠ 0 := by
  have hi : i ≠ 0 := by rintro rfl; simp only [valN] at h; omega
  obtain ⟨j, rfl⟩ := Nat.exists_eq_succ_of_ne_zero hi
  have e := bstT_no (s := s) (t := j + 1) (by omega) h
  exact ⟨e, by simp only [valN, Nat.succ_eq_add_one, e], hi⟩
/-- how many plays have a score -/
def cntV (X Y : Nat) (ws : List Int) (wi : List (List Int)) (v : Int) (i : Nat) : Nat := ((List.range i).countP fun c => decide (playN X Y ws wi c = v))
theorem cntV_succ (X Y : Nat) (ws : List Int) (wi : List (List Int)) (v : Int) (i : Nat) : cntV X Y ws wi v (i + 1) = if playN X Y ws wi i = v then cntV X Y ws wi v i + 1 else cntV X Y ws wi v i := by
  unfold cntV
  rw [List.range_succ, List.countP_append, List.countP_singleton]
  by_cases h : playN X Y ws wi i = v <;> simp [h]
theorem cntV_le (X Y : Nat) (ws : List Int) (wi : List (List Int)) (v : Int) (i : Nat) : cntV X Y ws wi v i ≤ i := by
  have := List.countP_le_length (l := List.range i) (p := fun c => decide (playN X Y ws wi c = v))
  simpa [cntV] using this
def countG (X Y : Nat) (ws : List Int) (wi : List (List Int)) : Nat := cntV X Y ws wi (valueG X Y ws wi) (2 ^ (X + Y))
def totG (ws : List Int) : Int := accT (fun t => atZ ws (t : Int)) ws.length
theorem accT_take (l : List Int) : ∀ {m : Nat}, m ≤ l.length → accT (fun t => atZ l (t : Int)) m = (l.take m).sum
  | 0, _ => by simp [accT]
  | m + 1, h => by
    have ih := accT_take l (m := m) (by omega)
    simp only [accT]
    rw [ih, atZ_nat (show m < l.length by omega), List.take_succ_eq_append_getElem (by omega), List.sum_append]
    simp
theorem totG_sum (ws : List Int) : totG ws = ws.sum := by
  unfold totG
  rw [accT_take ws (Nat.le_refl _), List.take_length]
theorem totG_64 {ws : List Int} (hl : ws.length ≤ 9) (hb : allB ws 0 99 = true) : sum64 ws = totG ws ∧ 0 ≤ totG ws ∧ totG ws ≤ 900 := by
  have := sum64_small (l := ws) (m := 99) (by omega) hb (by omega) (by omega)
  rw [totG_sum]
  omega
/-- what is won for two questions and an answer of the first player -/
def repT (Y : Nat) (ws : List Int) (wi : List (List Int)) (fs : List Int) (y : Nat) (b : Int) (x : Nat) : Int := atZ ws ((x : Int) * Y + y) * atZ (atZ wi ((x : Int) * Y + y)) (2 * atZ fs (x : Int) + b)
def repS (X Y : Nat) (ws : List Int) (wi : List (List Int)) (fs : List Int) (b : Int) (y : Nat) : Int := accT (repT Y ws wi fs y b) X
def repA (X Y : Nat) (ws : List Int) (wi : List (List Int)) (fs : List Int) (y : Nat) : Int := if repS X Y ws wi fs 1 y > repS X Y ws wi fs 0 y then 1 else 0
def repM (X Y : Nat) (ws : List Int) (wi : List (List Int)) (fs : List Int) (y : Nat) : Int := if repS X Y ws wi fs 1 y > repS X Y ws wi fs 0 y then repS X Y ws wi fs 1 y else repS X Y ws wi fs 0 y
end Go.Proofs.Ytefbiejoikpkmaa

namespace Go.Proofs.Ytefbiejoikpkmaa
open Go.RowKit
set_option linter.unusedSectionVars false
variable [Glb]
/-! games: what is lost; all plays in another order -/
theorem pair_split {X Y t : Nat} (ht : t < Y * X) : t / Y < X ∧ t % Y < Y ∧ Y * (t / Y) + t % Y = t := by
  have hY : 0 < Y := by
    rcases Nat.eq_zero_or_pos Y with e | e
    · subst e; simp at ht
    · exact e
  exact ⟨by rw [Nat.div_lt_iff_lt_mul hY, Nat.mul_comm]; exact ht, Nat.mod_lt _ hY, Nat.div_add_mod t Y⟩
def lostS (ws : List Int) (l : List Int) : Int := (l.map fun t => atZ ws t).sum
/-- partial sums of what is lost -/
theorem accT_map (f : Int → Int) (l : List Int) : ∀ {m : Nat}, m ≤ l.length → accT (fun k => f (atZ l (k : Int))) m = ((l.take m).map f).sum
  | 0, _ => by simp [accT]
  | m + 1, h => by
    have ih := accT_map f l (m := m) (by omega)
    simp only [accT]
    rw [ih, atZ_nat (show m < l.length by omega), List.take_succ_eq_append_getElem (by omega), List.map_append, List.sum_append]
    simp
/-- all plays, the first answer as the least digit -/
def bitsR (n c : Nat) : List Int := rowF (fun i => (bitN c i : Int)) n
def rplaysF (n : Nat) : List (List Int) := (List.range (2 ^ n)).map (bitsR n)
theorem playsF_mem {n : Nat} {p : List Int} (h : p ∈ playsF n) : ∃ c, c < 2 ^ n ∧ p = bitsM n c := by
  unfold playsF at h
  obtain ⟨c, hc, rfl⟩ := List.mem_map.1 h
  exact ⟨c, List.mem_range.1 hc, rfl⟩
theorem playN_le {X Y : Nat} (ws : List Int) (wi : List (List Int)) {c : Nat} (h : c < 2 ^ (X + Y)) : playN X Y ws wi c ≤ valueG X Y ws wi := bstT_max _ h
def cntR (X Y : Nat) (ws : List Int) (wi : List (List Int)) (v : Int) (i : Nat) : Nat := ((rplaysF (X + Y)).take i).countP fun p => decide (scoG X Y ws wi p = v)
end Go.Proofs.Ytefbiejoikpkmaa

namespace Go.Proofs.Ytefbiejoikpkmaa
open Go.RowKit
set_option linter.unusedSectionVars false
variable [Glb]
open Go
/-! orders -/
def orderB (l : List Int) (n : Int) : Bool := ((cntL n.toNat).all fun i => l.contains i) && decide ((l.length : Int) = n)
theorem perm_of_all : ∀ {n : Nat} {l : List Int}, l.length = n → (∀ i : Nat, i < n → (i : Int) ∈ l) → l.Perm (cntL n)
  | 0, l, h, _ => by
    have : l = [] := List.length_eq_zero_iff.1 h
    subst this; exact .refl _
  | n + 1, l, h, hm => by
    have hn := hm n (by omega)
    have h1 := List.perm_cons_erase hn
    have hl : (l.erase (n : Int)).length = n := by rw [List.length_erase_of_mem hn]; omega
    have ih := perm_of_all hl fun i hi => (List.mem_erase_of_ne (by omega)).2 (hm i (by omega))
    rw [cntL_snoc]
    exact h1.trans ((ih.cons _).trans (List.perm_append_comm (l₁ := [(n : Int)]) (l₂ := cntL n)))
theorem cntL_has {n i : Nat} (h : i < n) : (i : Int) ∈ cntL n := by unfold cntL; exact List.mem_map.2 ⟨i, List.mem_range.2 h, rfl⟩
theorem orderB_perm {l : List Int} {n : Int} (hn : 0 ≤ n) : orderB l n = true ↔ l.Perm (cntL n.toNat) := by
  simp only [orderB, Bool.and_eq_true, decide_eq_true_eq, List.all_eq_true, List.contains_iff_mem]
  constructor
  · rintro ⟨h1, h2⟩
    exact perm_of_all (by omega) fun i hi => h1 _ (cntL_has hi)
  · intro h
    have := h.length_eq
    rw [cntL_len] at this
    exact ⟨fun i hi => h.mem_iff.2 hi, by omega⟩
theorem orderB_mem {l : List Int} {n : Int} (hn : 0 ≤ n) (h : orderB l n = true) {x : Int} (hx : x ∈ l) : 0 ≤ x ∧ x < n := by
  have := cntL_mem (((orderB_perm hn).1 h).mem_iff.1 hx)
  omega
theorem orderB_len {l : List Int} {n : Int} (h : orderB l n = true) : (l.length : Int) = n := by
  simp only [orderB, Bool.and_eq_true, decide_eq_true_eq] at h; exact h.2
theorem eq_of_perm_le : ∀ {a b : List Int}, a.Perm b → a.Pairwise (fun x y => decide (x ≤ y) = true) → b.Pairwise (fun x y => decide (x ≤ y) = true) → a = b
  | [], b, h, _, _ => by rw [List.nil_perm] at h; exact h.symm
  | x :: a, [], h, _, _ => by have := h.length_eq; simp at this
  | x :: a, y :: b, h, h1, h2 => by
    rw [List.pairwise_cons] at h1 h2
    have e : x = y := by
      have hx : x ∈ y :: b := h.mem_iff.1 (List.mem_cons_self ..)
      have hy : y ∈ x :: a := h.mem_iff.2 (List.mem_cons_self ..)
      rcases List.mem_cons.1 hx with e | hx
      · exact e
      · rcases List.mem_cons.1 hy with e | hy
        · exact e.symm
        · have g1 := h2.1 x hx
          have g2 := h1.1 y hy
          simp only [decide_eq_true_eq] at g1 g2
          omega
    subst e
    rw [eq_of_perm_le ((List.perm_cons x).1 h) h1.2 h2.2]
theorem cntL_sorted (n : Nat) : (cntL n).Pairwise (fun x y => decide (x ≤ y) = true) := by
  unfold cntL
  rw [List.pairwise_map]
  exact List.pairwise_lt_range.imp fun h => by simp only [decide_eq_true_eq]; omega
theorem sorted_le (l : List Int) : (l.mergeSort fun x y => decide (x ≤ y)).Pairwise (fun x y => decide (x ≤ y) = true) :=
  List.pairwise_mergeSort (fun a b c h1 h2 => by simp only [decide_eq_true_eq] at *; omega) (fun a b => by simp only [Bool.or_eq_true, decide_eq_true_eq]; omega) l
theorem order_sort {l : List Int} {n : Int} (hn : 0 ≤ n) : decide ((l.mergeSort fun x y => decide (x ≤ y)) = cntL n.toNat) = orderB l n := by
  rw [Bool.eq_iff_iff, decide_eq_true_eq, orderB_perm hn]
  constructor
  · intro h
    have := List.mergeSort_perm l fun x y => decide (x ≤ y)
    rw [h] at this; exact this.symm
  · intro h
    exact eq_of_perm_le ((List.mergeSort_perm l _).trans h) (sorted_le l) (cntL_sorted _)
def askB (X Y : Int) (ws : List Int) (wi : List (List Int)) (fs ss : List Int) : Bool := gameB X Y ws wi && (orderB fs X && orderB ss Y)
def askGW (Y : Int) (ws fs ss : List Int) : List Int := pairsF (askW Y ws) fs ss
def askGR (Y : Int) (wi : List (List Int)) (fs ss : List Int) : List (List Int) := pairsF (askO Y wi) fs ss
end Go.Proofs.Ytefbiejoikpkmaa

namespace Go.Proofs.Ytefbiejoikpkmaa
open Go.RowKit
set_option linter.unusedSectionVars false
variable [Glb]
/-! games: double sums, replies, other questions -/
theorem accT_split (t : Nat → Int) (m : Nat) : ∀ k, accT t (m + k) = accT t m + accT (fun j => t (m + j)) k
  | 0 => by simp [accT]
  | k + 1 => by
    have := accT_split t m k
    rw [← Nat.add_assoc]
    simp only [accT, this]
    omega
theorem accT_mul (t : Nat → Int) (Y : Nat) : ∀ X, accT t (Y * X) = accT (fun x => accT (fun y => t (Y * x + y)) Y) X
  | 0 => by simp [accT]
  | X + 1 => by
    rw [Nat.mul_succ, accT_split, accT_mul t Y X]
    rfl
theorem accT_zero {t : Nat → Int} : ∀ {m : Nat}, (∀ c, c < m → t c = 0) → accT t m = 0
  | 0, _ => rfl
  | m + 1, h => by
    have a := accT_zero (t := t) (m := m) fun c hc => h c (by omega)
    have b := h m (by omega)
    simp only [accT, a, b]
    rfl
/-- the score as a double sum -/
theorem scoG_sum (X Y : Nat) (ws : List Int) (wi : List (List Int)) (pl : List Int) : scoG X Y ws wi pl = accT (fun x => accT (fun y => atZ ws ((x : Int) * Y + y) * atZ (atZ wi ((x : Int) * Y + y)) (2 * atZ pl (x : Int) + atZ pl ((X : Int) + y))) Y) X := by
  unfold scoG
  rw [accT_mul]
  exact accT_congr fun x _ => accT_congr fun y hy => scoT_at ws wi pl hy
theorem atZ_left {l m : List Int} {i : Nat} (h : i < l.length) : atZ (l ++ m) (i : Int) = atZ l (i : Int) := by
  rw [atZ_nat (by simp; omega), atZ_nat h, List.getElem_append_left h]
theorem atZ_right {l m : List Int} {n i : Nat} (hn : l.length = n) (h : i < m.length) : atZ (l ++ m) ((n : Int) + i) = atZ m (i : Int) := by
  rw [← Int.natCast_add, atZ_nat (by simp; omega), atZ_nat h, List.getElem_append_right (by omega)]
  congr 1
  omega
/-- all lists of 0 and 1 are plays -/
theorem bitN_high {n c b : Nat} (hb : b ≤ 1) (hc : c < 2 ^ n) : bitN (b * 2 ^ n + c) n = b := by
  unfold bitN
  rw [Nat.mul_comm, Nat.mul_add_div (Nat.two_pow_pos n), Nat.div_eq_of_lt hc]
  omega
theorem bitN_low {n c b e : Nat} (he : e < n) : bitN (b * 2 ^ n + c) e = bitN c e := by
  unfold bitN
  obtain ⟨k, rfl⟩ : ∃ k, n = e + 1 + k := ⟨n - (e + 1), by omega⟩
  have e1 : b * 2 ^ (e + 1 + k) + c = c + 2 ^ e * (2 * (b * 2 ^ k)) := by
    rw [Nat.pow_add, Nat.pow_add, Nat.pow_one, Nat.add_comm]
    congr 1
    rw [← Nat.mul_assoc, ← Nat.mul_assoc, Nat.mul_comm b]
    rw [Nat.mul_assoc, Nat.mul_comm 2 (2 ^ k), ← Nat.mul_assoc]
    rw [Nat.mul_assoc, Nat.mul_assoc]
    congr 1
    rw [← Nat.mul_assoc, Nat.mul_comm]
  rw [e1, Nat.add_mul_div_left _ _ (Nat.two_pow_pos e), Nat.add_mul_mod_self_left]
theorem bits_play : ∀ {n : Nat} {p : List Int}, bitsB p (n : Int) = true → ∃ c, c < 2 ^ n ∧ p = bitsM n c
  | 0, p, h => by
    have := bitsB_len h
    have e : p = [] := List.eq_nil_of_length_eq_zero (by omega)
    exact ⟨0, by decide, by rw [e]; rfl⟩
  | n + 1, [], h => by have := bitsB_len h; simp at this; omega
  | n + 1, b :: p, h => by
    have hl := bitsB_len h
    unfold bitsB allB at h
    simp only [Bool.and_eq_true, decide_eq_true_eq, List.all_cons] at h
    have hb := inB_iff.1 h.2.1
    obtain ⟨c, hc, e⟩ := bits_play (n := n) (p := p) (by simp only [bitsB, allB, Bool.and_eq_true, decide_eq_true_eq]; exact ⟨by simp at hl; omega, h.2.2⟩)
    obtain ⟨b, rfl⟩ := Int.eq_ofNat_of_zero_le hb.1
    have hb1 : b ≤ 1 := by omega
    refine ⟨b * 2 ^ n + c, ?_, ?_⟩
    · rw [Nat.pow_succ]
      have : b * 2 ^ n ≤ 1 * 2 ^ n := Nat.mul_le_mul_right _ hb1
      omega
    · rw [e]
      unfold bitsM rowF
      rw [List.range_succ_eq_map, List.map_cons, List.map_map]
      congr 1
      · rw [show n + 1 - 1 - 0 = n by omega, bitN_high hb1 hc]
      · refine List.map_congr_left fun i hi => ?_
        have hi := List.mem_range.1 hi
        simp only [Function.comp]
        rw [show n + 1 - 1 - (i + 1) = n - 1 - i by omega, bitN_low (by omega)]
theorem value_le {X Y : Nat} {ws : List Int} {wi : List (List Int)} {p : List Int} (hp : bitsB p ((X : Int) + Y) = true) : scoG X Y ws wi p ≤ valueG X Y ws wi := by
  rw [← Int.natCast_add] at hp
  obtain ⟨c, hc, rfl⟩ := bits_play hp
  exact playN_le ws wi hc
theorem value_at (X Y : Nat) (ws : List Int) (wi : List (List Int)) : ∃ p, bitsB p ((X : Int) + Y) = true ∧ scoG X Y ws wi p = valueG X Y ws wi :=
  ⟨bestG X Y ws wi, by rw [← Int.natCast_add]; exact bitsM_bits _ _, rfl⟩

end Go.Proofs.Ytefbiejoikpkmaa

namespace Go.Proofs.Ytefbiejoikpkmaa
open Go.RowKit
set_option linter.unusedSectionVars false
variable [Glb]
/-! trimmed games -/
theorem pairsF_size {α : Type} (h : Int → Int → α) (m : List Int) : ∀ l : List Int, (pairsF h l m).length = l.length * m.length
  | [] => by simp [pairsF]
  | a :: l => by
    have e : pairsF h (a :: l) m = m.map (fun y => h a y) ++ pairsF h l m := rfl
    rw [e, List.length_append, List.length_map, pairsF_size h m l, List.length_cons, Nat.add_mul, Nat.one_mul, Nat.add_comm]
theorem pairsF_at {α : Type} [Inhabited α] (h : Int → Int → α) (m : List Int) : ∀ {l : List Int} {i k : Nat}, i < l.length → k < m.length → atZ (pairsF h l m) ((i : Int) * m.length + k) = h (atZ l i) (atZ m k)
  | [], i, k, hi, _ => absurd hi (Nat.not_lt_zero _)
  | a :: l, 0, k, _, hk => by
    have e : pairsF h (a :: l) m = m.map (fun y => h a y) ++ pairsF h l m := rfl
    have e2 : ((0 : Nat) : Int) * m.length + k = ((k : Nat) : Int) := by simp
    rw [e2, atZ_nat (by rw [pairsF_size, List.length_cons, Nat.add_mul]; omega), atZ_nat (show 0 < (a :: l).length by simp), atZ_nat hk]
    simp only [e]
    rw [List.getElem_append_left (by simpa using hk)]
    simp
  | a :: l, i + 1, k, hi, hk => by
    have e : pairsF h (a :: l) m = m.map (fun y => h a y) ++ pairsF h l m := rfl
    have hi2 : i < l.length := by simpa using hi
    have ih := pairsF_at h m (l := l) (i := i) (k := k) hi2 hk
    have lt : i * m.length + k < l.length * m.length := by
      have : (i + 1) * m.length ≤ l.length * m.length := Nat.mul_le_mul_right _ (by omega)
      rw [Nat.add_mul, Nat.one_mul] at this
      omega
    have e2 : ((i + 1 : Nat) : Int) * m.length + k = ((m.length + (i * m.length + k) : Nat) : Int) := by
      rw [Int.natCast_add, Int.natCast_add, Int.natCast_add, Int.natCast_mul, Int.add_mul]
      simp only [Int.natCast_one, Int.one_mul]
      omega
    have e3 : (i : Int) * m.length + k = ((i * m.length + k : Nat) : Int) := by rw [Int.natCast_add, Int.natCast_mul]
    rw [e3, atZ_nat (by rw [pairsF_size]; exact lt)] at ih
    rw [e2, atZ_nat (by rw [pairsF_size, List.length_cons, Nat.add_mul]; omega), atZ_nat hi, atZ_nat hk]
    rw [atZ_nat hi2, atZ_nat hk] at ih
    simp only [e]
    rw [List.getElem_append_right (by simp)]
    simp only [List.length_map, Nat.add_sub_cancel_left, List.getElem_cons_succ]
    exact ih
/-- what a play says to some questions -/
def restr (fs ss : List Int) (X : Nat) (q : List Int) : List Int := fs.map (fun x => atZ q x) ++ ss.map (fun y => atZ q ((X : Int) + y))
theorem atZ_map {f : Int → Int} {l : List Int} {i : Nat} (h : i < l.length) : atZ (l.map f) (i : Int) = f (atZ l (i : Int)) := by
  rw [atZ_nat (by simpa using h), atZ_nat h]; simp
/-- a play that says so -/
def extd (P Q : Nat → Bool) (X Y : Nat) (p : List Int) : List Int := rowF (fun x => if P x = true then atZ p ((usedL x P).length : Int) else 0) X ++ rowF (fun y => if Q y = true then atZ p (((usedL X P).length : Int) + (usedL y Q).length) else 0) Y
theorem pairsF_mem {α : Type} {h : Int → Int → α} {l m : List Int} {v : α} (hv : v ∈ pairsF h l m) : ∃ x y, x ∈ l ∧ y ∈ m ∧ v = h x y := by
  unfold pairsF at hv
  obtain ⟨x, hx, hv⟩ := List.mem_flatMap.1 hv
  obtain ⟨y, hy, rfl⟩ := List.mem_map.1 hv
  exact ⟨x, y, hx, hy, rfl⟩
end Go.Proofs.Ytefbiejoikpkmaa

namespace Go.Proofs.Ytefbiejoikpkmaa
open Go.RowKit
set_option linter.unusedSectionVars false
variable [Glb]
/-! games by other names -/
def insN (l : List Int) (i : Nat) (v : Int) : List Int := l.take i ++ v :: l.drop i
/-- all orders, as the program lists them -/
def ordI : Nat → List (List Int)
  | 0 => [[]]
  | k + 1 => (ordI k).flatMap fun l => (List.range (k + 1)).map fun i => insN l i (k : Int)
/-- .. and as the reference does -/
def ordS : Nat → Nat → List Int → List (List Int)
  | 0, _, b => [b]
  | f + 1, n, b => (cntL n).flatMap fun x => if b.contains x then [] else ordS f n (b ++ [x])
def ordF (n : Nat) : List (List Int) := ordS n n []
theorem ord_isPerm : ∀ n : Fin 4, (ordI n.val).isPerm (ordF n.val) = true := by decide +kernel
theorem ord_perm {n : Nat} (h : n ≤ 3) : (ordI n).Perm (ordF n) := List.isPerm_iff.1 (ord_isPerm ⟨n, by omega⟩)
theorem ord_allB : ∀ n : Fin 4, ((ordI n.val).all fun l => orderB l n.val) = true := by decide +kernel
theorem ord_ok {n : Nat} (h : n ≤ 3) {l : List Int} (hl : l ∈ ordI n) : orderB l n = true := List.all_eq_true.1 (ord_allB ⟨n, by omega⟩) l hl
theorem ord_mem {n : Nat} (hn : 1 ≤ n ∧ n ≤ 3) {l : List Int} (h : orderB l n = true) : l ∈ ordI n := by
  have len := orderB_len h
  have mem := fun x (hx : x ∈ l) => orderB_mem (by omega) h hx
  rcases (by omega : n = 1 ∨ n = 2 ∨ n = 3) with rfl | rfl | rfl
  · match l, len with
    | [a], _ =>
      have ha := mem a (by simp)
      obtain rfl : a = 0 := by omega
      decide
  · match l, len with
    | [a, b], _ =>
      have ha := mem a (by simp)
      have hb := mem b (by simp)
      rcases (by omega : a = 0 ∨ a = 1) with rfl | rfl <;> rcases (by omega : b = 0 ∨ b = 1) with rfl | rfl <;> first | decide | (exfalso; revert h; decide)
  · match l, len with
    | [a, b, c], _ =>
      have ha := mem a (by simp)
      have hb := mem b (by simp)
      have hc := mem c (by simp)
      rcases (by omega : a = 0 ∨ a = 1 ∨ a = 2) with rfl | rfl | rfl <;> rcases (by omega : b = 0 ∨ b = 1 ∨ b = 2) with rfl | rfl | rfl <;> rcases (by omega : c = 0 ∨ c = 1 ∨ c = 2) with rfl | rfl | rfl <;> first | decide | (exfalso; revert h; decide)
theorem ord_invB : ∀ n : Fin 4, ((ordI n.val).all fun f => (ordI n.val).any fun g => (List.range n.val).all fun i => decide (atZ g (atZ f (i : Int)) = (i : Int)) && decide (atZ f (atZ g (i : Int)) = (i : Int))) = true := by decide +kernel
theorem ord_inv {n : Nat} (h : n ≤ 3) {f : List Int} (hf : f ∈ ordI n) : ∃ g, g ∈ ordI n ∧ ∀ i : Nat, i < n → atZ g (atZ f (i : Int)) = (i : Int) ∧ atZ f (atZ g (i : Int)) = (i : Int) := by
  obtain ⟨g, hg, hi⟩ := List.any_eq_true.1 (List.all_eq_true.1 (ord_invB ⟨n, by omega⟩) f hf)
  refine ⟨g, hg, fun i hin => ?_⟩
  have := List.all_eq_true.1 hi i (List.mem_range.2 hin)
  simpa using this
theorem ord_len {n : Nat} (h : n ≤ 3) : (ordI n).length ≤ 6 := by
  rcases (by omega : n = 0 ∨ n = 1 ∨ n = 2 ∨ n = 3) with rfl | rfl | rfl | rfl <;> decide
theorem ordF_len {n : Nat} (h : n ≤ 3) : (ordF n).length ≤ 6 := by rw [← (ord_perm h).length_eq]; exact ord_len h
theorem ord_each {n : Nat} (h : n ≤ 3) {i : Nat} (hi : i < (ordI n).length) : (atZ (ordI n) (i : Int)).length = n ∧ orderB (atZ (ordI n) (i : Int)) n = true := by
  have m := ord_ok h (mem_atZ hi)
  have := orderB_len m
  exact ⟨by omega, m⟩
theorem ordF_each {n : Nat} (h : n ≤ 3) {i : Nat} (hi : i < (ordF n).length) : (atZ (ordF n) (i : Int)).length = n ∧ orderB (atZ (ordF n) (i : Int)) n = true := by
  have m := ord_ok h ((ord_perm h).mem_iff.2 (mem_atZ hi))
  have := orderB_len m
  exact ⟨by omega, m⟩
/-- the list of orders that is under way -/
def ordP (k : Nat) (L : List (List Int)) (j i : Nat) : List (List Int) := (L.take j).flatMap (fun l => (List.range (k + 1)).map fun i => insN l i (k : Int)) ++ (List.range i).map fun i => insN (atZ L (j : Int)) i (k : Int)
theorem ordP_zero (k : Nat) (L : List (List Int)) : ordP k L 0 0 = [] := by simp [ordP]
theorem ordP_snoc (k : Nat) (L : List (List Int)) (j i : Nat) : ordP k L j (i + 1) = ordP k L j i ++ [insN (atZ L (j : Int)) i (k : Int)] := by simp [ordP, List.range_succ]
theorem ordP_row (k : Nat) (L : List (List Int)) {j : Nat} (h : j < L.length) : ordP k L j (k + 1) = ordP k L (j + 1) 0 := by
  unfold ordP
  rw [List.take_succ_eq_append_getElem h, List.flatMap_append, atZ_nat h]
  simp
theorem ordP_all (k : Nat) : ordP k (ordI k) (ordI k).length 0 = ordI (k + 1) := by simp [ordP, ordI]
theorem ordP_len (k : Nat) (L : List (List Int)) {j : Nat} (i : Nat) (h : j ≤ L.length) : (ordP k L j i).length = (k + 1) * j + i := by
  unfold ordP
  have : ∀ M : List (List Int), (M.flatMap fun l => (List.range (k + 1)).map fun i => insN l i (k : Int)).length = (k + 1) * M.length := by
    intro M
    induction M with
    | nil => simp
    | cons a M ih => rw [List.flatMap_cons, List.length_append, ih, List.length_cons, Nat.mul_succ]; simp; omega
  rw [List.length_append, this, List.length_take, Nat.min_eq_left h]
  simp
theorem insN_len (l : List Int) {i : Nat} (v : Int) (h : i ≤ l.length) : (insN l i v).length = l.length + 1 := by simp [insN]; omega
/-- the list of the reference that is under way -/
def ordQ (f n : Nat) (b : List Int) (x : Nat) : List (List Int) := (cntL x).flatMap fun x => if b.contains x then [] else ordS f n (b ++ [x])
theorem ordQ_zero (f n : Nat) (b : List Int) : ordQ f n b 0 = [] := by simp [ordQ, cntL]
theorem ordQ_yes {f n : Nat} {b : List Int} {x : Nat} (h : b.contains (x : Int) = true) : ordQ f n b (x + 1) = ordQ f n b x := by
  unfold ordQ; rw [cntL_snoc, List.flatMap_append, List.flatMap_singleton, if_pos h, List.append_nil]
theorem ordQ_no {f n : Nat} {b : List Int} {x : Nat} (h : b.contains (x : Int) = false) : ordQ f n b (x + 1) = ordQ f n b x ++ ordS f n (b ++ [(x : Int)]) := by
  unfold ordQ; rw [cntL_snoc, List.flatMap_append, List.flatMap_singleton, if_neg (by rw [h]; decide)]
theorem ordS_lenP : ∀ (f n : Nat) (b : List Int), (ordS f n b).length ≤ n ^ f
  | 0, n, b => by simp [ordS]
  | f + 1, n, b => by
    have : ∀ L : List Int, (L.flatMap fun x => if b.contains x then [] else ordS f n (b ++ [x])).length ≤ L.length * n ^ f := by
      intro L
      induction L with
      | nil => simp
      | cons a L ih =>
        have := ordS_lenP f n (b ++ [a])
        rw [List.flatMap_cons, List.length_append, List.length_cons, Nat.add_mul, Nat.one_mul]
        split
        · simp only [List.length_nil]; omega
        · omega
    have h := this (cntL n)
    rw [cntL_len] at h
    simp only [ordS]
    rw [Nat.pow_succ, Nat.mul_comm]; exact h
theorem ordS_le {f n : Nat} (b : List Int) (hn : n ≤ 3) (hf : f ≤ 3) : (ordS f n b).length ≤ 27 := by
  refine Nat.le_trans (ordS_lenP f n b) (Nat.le_trans (Nat.pow_le_pow_left hn f) (Nat.le_trans (Nat.pow_le_pow_right (by decide) hf) (by decide)))
theorem ordQ_le {f n : Nat} (b : List Int) {x : Nat} (hn : n ≤ 3) (hf : f ≤ 3) (hx : x ≤ n) : (ordQ f n b x).length ≤ 27 * x := by
  induction x with
  | zero => simp [ordQ_zero]
  | succ x ih =>
    have ih := ih (by omega)
    cases h : b.contains (x : Int) with
    | true => rw [ordQ_yes h]; omega
    | false =>
      rw [ordQ_no h, List.length_append]
      have := ordS_le (f := f) (n := n) (b ++ [(x : Int)]) hn hf
      omega
/-! the same by names -/
theorem pairs_ext {α : Type} [Inhabited α] {X Y : Nat} {l m : List α} (hl : l.length = X * Y) (hm : m.length = X * Y) (h : ∀ i k : Nat, i < X → k < Y → atZ l ((i : Int) * Y + k) = atZ m ((i : Int) * Y + k)) : l = m := by
  refine List.ext_getElem (by omega) fun t h1 h2 => ?_
  have hY : 0 < Y := Nat.pos_of_ne_zero fun e => by subst e; simp at hl; omega
  have ht : t < X * Y := by omega
  have := h (t / Y) (t % Y) (by rw [Nat.div_lt_iff_lt_mul hY]; exact ht) (Nat.mod_lt _ hY)
  have e : ((t / Y : Nat) : Int) * Y + ((t % Y : Nat) : Int) = (t : Int) := by rw [← Int.natCast_mul, ← Int.natCast_add, Nat.mul_comm, Nat.div_add_mod]
  rw [e, atZ_nat h1, atZ_nat h2] at this
  exact this
theorem flip_ask {X Y : Nat} {f s : List Int} (hf : f.length = X) (hs : s.length = Y) (wi : List (List Int)) (q : List Int) : pairsF (askR X Y (pairsF (askO Y wi) f s) (restr f s X q)) (cntL X) (cntL Y) = pairsF (askR X Y wi q) f s := by
  refine pairs_ext (X := X) (Y := Y) (by rw [pairsF_len]; simp) (by rw [pairsF_len, hf, hs]) fun i k hi hk => ?_
  have e1 := pairsF_at (askR X Y (pairsF (askO Y wi) f s) (restr f s X q)) (cntL Y) (l := cntL X) (i := i) (k := k) (by simpa using hi) (by simpa using hk)
  have e2 := pairsF_at (askR X Y wi q) s (l := f) (i := i) (k := k) (by omega) (by omega)
  have e3 := pairsF_at (askO Y wi) s (l := f) (i := i) (k := k) (by omega) (by omega)
  rw [hs] at e2 e3
  rw [cntL_len] at e1
  rw [e1, e2, cntL_at hi, cntL_at hk]
  unfold askR
  rw [e3]
  have e4 : flipOf (restr f s X q) X (i : Int) (k : Int) = flipOf q X (atZ f (i : Int)) (atZ s (k : Int)) := by
    unfold flipOf restr
    rw [atZ_left (by simpa [hf] using hi), atZ_right (n := X) (by simp [hf]) (by simpa [hs] using hk), atZ_map (by omega), atZ_map (by omega)]
  rw [e4]
  rfl
theorem restr_bitsO {X Y : Nat} {f s q : List Int} (hf : orderB f X = true) (hs : orderB s Y = true) (hq : bitsB q ((X : Int) + Y) = true) : bitsB (restr f s X q) ((X : Int) + Y) = true := by
  have l1 := orderB_len hf
  have l2 := orderB_len hs
  unfold bitsB allB
  rw [Bool.and_eq_true, decide_eq_true_eq, List.all_eq_true]
  refine ⟨by simp [restr]; omega, fun v hv => ?_⟩
  unfold restr at hv
  rcases List.mem_append.1 hv with hv | hv
  · obtain ⟨x, hx, rfl⟩ := List.mem_map.1 hv
    have := orderB_mem (by omega) hf hx
    exact inB_iff.2 (bitsB_at hq (by omega) (by omega))
  · obtain ⟨y, hy, rfl⟩ := List.mem_map.1 hv
    have := orderB_mem (by omega) hs hy
    exact inB_iff.2 (bitsB_at hq (by omega) (by omega))
theorem list_at {α : Type} [Inhabited α] {l m : List α} (h : l.length = m.length) (e : ∀ i : Nat, i < l.length → atZ l (i : Int) = atZ m (i : Int)) : l = m := by
  refine List.ext_getElem h fun i h1 h2 => ?_
  have := e i h1
  rwa [atZ_nat h1, atZ_nat h2] at this
/-- back: what a play says, by the other order -/
theorem restr_back {X Y : Nat} {f g s t q : List Int} (hf : orderB f X = true) (hs : orderB s Y = true) (hg : orderB g X = true) (ht : orderB t Y = true) (e1 : ∀ i : Nat, i < X → atZ g (atZ f (i : Int)) = (i : Int)) (e2 : ∀ i : Nat, i < Y → atZ t (atZ s (i : Int)) = (i : Int)) (hq : (q.length : Int) = X + Y) : restr f s X (restr g t X q) = q := by
  have l1 := orderB_len hf
  have l2 := orderB_len hs
  have l3 := orderB_len hg
  have l4 := orderB_len ht
  refine list_at (by simp [restr]; omega) fun j hj => ?_
  have hl : (restr f s X (restr g t X q)).length = X + Y := by simp [restr]; omega
  rw [hl] at hj
  by_cases h1 : j < X
  · have m := orderB_mem (by omega) hf (mem_atZ (show j < f.length by omega))
    obtain ⟨v, hv⟩ := Int.eq_ofNat_of_zero_le m.1
    have a := e1 j h1
    rw [hv] at a m
    rw [show restr f s X (restr g t X q) = f.map (fun x => atZ (restr g t X q) x) ++ s.map (fun y => atZ (restr g t X q) ((X : Int) + y)) from rfl, atZ_left (by simp; omega), atZ_map (by omega), hv]
    rw [show restr g t X q = g.map (fun x => atZ q x) ++ t.map (fun y => atZ q ((X : Int) + y)) from rfl, atZ_left (by simp; omega), atZ_map (by omega), a]
  · obtain ⟨k, rfl⟩ : ∃ k, j = X + k := ⟨j - X, by omega⟩
    have m := orderB_mem (by omega) hs (mem_atZ (show k < s.length by omega))
    obtain ⟨v, hv⟩ := Int.eq_ofNat_of_zero_le m.1
    have a := e2 k (by omega)
    rw [hv] at a m
    rw [Int.natCast_add, show restr f s X (restr g t X q) = f.map (fun x => atZ (restr g t X q) x) ++ s.map (fun y => atZ (restr g t X q) ((X : Int) + y)) from rfl, atZ_right (n := X) (by simp; omega) (by simp; omega), atZ_map (by omega), hv]
    rw [show restr g t X q = g.map (fun x => atZ q x) ++ t.map (fun y => atZ q ((X : Int) + y)) from rfl, atZ_right (n := X) (by simp; omega) (by simp; omega), atZ_map (by omega), a]
def sameT (X Y : Nat) (ws : List Int) (wi : List (List Int)) (hws : List Int) (hwi : List (List Int)) (f s q : List Int) : Bool := decide (pairsF (askW Y ws) f s = hws) && decide (pairsF (askR X Y wi q) f s = hwi)
def sameG (X Y : Nat) (ws : List Int) (wi : List (List Int)) (hws : List Int) (hwi : List (List Int)) : Bool := (ordI X).any fun f => (ordI Y).any fun s => (playsF (X + Y)).any fun q => sameT X Y ws wi hws hwi f s q
def sameH (X Y : Nat) (ws : List Int) (wi : List (List Int)) (hws : List Int) (hwi : List (List Int)) : Bool := (ordF X).any fun f => (ordF Y).any fun s => decide (pairsF (askW Y ws) f s = hws) && (playsF (X + Y)).any fun q => decide (flipR X Y (pairsF (askO Y wi) f s) q = hwi)
theorem plays_mem {n : Nat} {q : List Int} : q ∈ playsF n ↔ bitsB q (n : Int) = true := by
  constructor
  · intro h
    obtain ⟨c, _, rfl⟩ := playsF_mem h
    exact bitsM_bits _ _
  · intro h
    obtain ⟨c, hc, e⟩ := bits_play h
    rw [e]
    unfold playsF
    exact List.mem_map.2 ⟨c, List.mem_range.2 hc, rfl⟩
theorem same_iff (X Y : Nat) (ws : List Int) (wi : List (List Int)) (hws : List Int) (hwi : List (List Int)) : sameG X Y ws wi hws hwi = true ↔ ∃ f s q, f ∈ ordI X ∧ s ∈ ordI Y ∧ bitsB q ((X : Int) + Y) = true ∧ pairsF (askW Y ws) f s = hws ∧ pairsF (askR X Y wi q) f s = hwi := by
  unfold sameG sameT
  simp only [List.any_eq_true, Bool.and_eq_true, decide_eq_true_eq]
  constructor
  · rintro ⟨f, hf, s, hs, q, hq, h1, h2⟩
    have := plays_mem.1 hq
    rw [Int.natCast_add] at this
    exact ⟨f, s, q, hf, hs, this, h1, h2⟩
  · rintro ⟨f, s, q, hf, hs, hq, h1, h2⟩
    exact ⟨f, hf, s, hs, q, plays_mem.2 (by rw [Int.natCast_add]; exact hq), h1, h2⟩
theorem same_eq {X Y : Nat} (hX : X ≤ 3) (hY : Y ≤ 3) (ws : List Int) (wi : List (List Int)) (hws : List Int) (hwi : List (List Int)) : sameH X Y ws wi hws hwi = sameG X Y ws wi hws hwi := by
  rw [Bool.eq_iff_iff, same_iff]
  unfold sameH
  simp only [List.any_eq_true, Bool.and_eq_true, decide_eq_true_eq]
  constructor
  · rintro ⟨f, hf, s, hs, h1, q, hq, h2⟩
    have hf := (ord_perm hX).mem_iff.2 hf
    have hs := (ord_perm hY).mem_iff.2 hs
    obtain ⟨g, hg, ig⟩ := ord_inv hX hf
    obtain ⟨t, ht, it⟩ := ord_inv hY hs
    have of := ord_ok hX hf
    have os := ord_ok hY hs
    have og := ord_ok hX hg
    have ot := ord_ok hY ht
    have hq := plays_mem.1 hq
    rw [Int.natCast_add] at hq
    have hl := bitsB_len hq
    have e := restr_back of os og ot (fun i hi => (ig i hi).1) (fun i hi => (it i hi).1) (q := q) (by omega)
    refine ⟨f, s, restr g t X q, hf, hs, restr_bitsO og ot hq, h1, ?_⟩
    have l1 := orderB_len of
    have l2 := orderB_len os
    rw [← flip_ask (X := X) (Y := Y) (by omega) (by omega), e, ← h2]
    simp [flipR]
  · rintro ⟨f, s, q, hf, hs, hq, h1, h2⟩
    have of := ord_ok hX hf
    have os := ord_ok hY hs
    have l1 := orderB_len of
    have l2 := orderB_len os
    refine ⟨f, (ord_perm hX).mem_iff.1 hf, s, (ord_perm hY).mem_iff.1 hs, h1, restr f s X q, plays_mem.2 (by rw [Int.natCast_add]; exact restr_bitsO of os hq), ?_⟩
    rw [← h2, ← flip_ask (X := X) (Y := Y) (by omega) (by omega)]
    simp [flipR]
def nameB (X Y : Int) (ws : List Int) (wi : List (List Int)) (X2 Y2 : Int) (ws2 : List Int) (wi2 : List (List Int)) : Bool := gameB X Y ws wi && (gameB X2 Y2 ws2 wi2 && (decide (X = X2) && decide (Y = Y2)))
def namesB (X Y : Int) (ws : List Int) (wi : List (List Int)) (X2 Y2 : Int) (ws2 : List Int) (wi2 : List (List Int)) : Bool := nameB X Y ws wi X2 Y2 ws2 wi2 && sameG X.toNat Y.toNat ws wi ws2 wi2

end Go.Proofs.Ytefbiejoikpkmaa

namespace Go.Proofs.Ytefbiejoikpkmaa
open Go.RowKit
set_option linter.unusedSectionVars false
variable [Glb]
/-! games by other names: scores, values, counts -/
theorem perm_acc (F : Int → Int) {l m : List Int} (h : l.Perm m) : (l.map F).sum = (m.map F).sum := by
  induction h with
  | nil => rfl
  | cons x _ ih => simp only [List.map_cons, List.sum_cons, ih]
  | swap x y l => simp only [List.map_cons, List.sum_cons]; omega
  | trans _ _ ih1 ih2 => exact ih1.trans ih2
theorem acc_order {n : Nat} {f : List Int} (hf : orderB f n = true) (F : Int → Int) : accT (fun i => F (atZ f (i : Int))) n = accT (fun i => F (i : Int)) n := by
  have l := orderB_len hf
  have p := (orderB_perm (by omega)).1 hf
  rw [Int.toNat_natCast] at p
  have e1 := accT_map F f (Nat.le_refl f.length)
  have e2 := accT_map F (cntL n) (Nat.le_refl (cntL n).length)
  rw [List.take_length] at e1 e2
  rw [cntL_len] at e2
  have hl : f.length = n := by omega
  rw [hl] at e1
  rw [e1, perm_acc F p, ← e2]
  exact accT_congr fun i hi => by rw [cntL_at hi]
def xorL (a b : List Int) : List Int := rowF (fun i => ((atZ a (i : Int)).toNat ^^^ (atZ b (i : Int)).toNat : Nat)) a.length
theorem xor01 {a b : Int} (ha : 0 ≤ a ∧ a ≤ 1) (hb : 0 ≤ b ∧ b ≤ 1) : 0 ≤ (((a.toNat ^^^ b.toNat : Nat) : Int)) ∧ (((a.toNat ^^^ b.toNat : Nat) : Int)) ≤ 1 := by
  rcases (by omega : a = 0 ∨ a = 1) with rfl | rfl <;> rcases (by omega : b = 0 ∨ b = 1) with rfl | rfl <;> decide
theorem xorL_at {a b : List Int} {i : Nat} (h : i < a.length) : atZ (xorL a b) (i : Int) = (((atZ a (i : Int)).toNat ^^^ (atZ b (i : Int)).toNat : Nat) : Int) := rowF_atZ _ h
@[simp] theorem xorL_len (a b : List Int) : (xorL a b).length = a.length := by simp [xorL]
theorem bits_of_at {l : List Int} {n : Nat} (hl : l.length = n) (h : ∀ i : Nat, i < n → 0 ≤ atZ l (i : Int) ∧ atZ l (i : Int) ≤ 1) : bitsB l (n : Int) = true := by
  unfold bitsB allB
  rw [Bool.and_eq_true, decide_eq_true_eq, List.all_eq_true]
  refine ⟨by omega, fun v hv => ?_⟩
  obtain ⟨i, hi, rfl⟩ := List.getElem_of_mem hv
  have := h i (by omega)
  rw [atZ_nat hi] at this
  exact inB_iff.2 this
theorem xorL_bits {a b : List Int} {n : Nat} (ha : bitsB a (n : Int) = true) (hb : bitsB b (n : Int) = true) : bitsB (xorL a b) (n : Int) = true := by
  have l1 := bitsB_len ha
  refine bits_of_at (by simp; omega) fun i hi => ?_
  rw [xorL_at (by omega)]
  exact xor01 (bitsB_at ha (by omega) (by omega)) (bitsB_at hb (by omega) (by omega))
theorem xorL_twice {a b : List Int} {n : Nat} (ha : bitsB a (n : Int) = true) (hb : bitsB b (n : Int) = true) : xorL (xorL a b) b = a := by
  have l1 := bitsB_len ha
  refine list_at (by simp) fun i hi => ?_
  have hi2 : i < a.length := by simpa using hi
  rw [xorL_at (by simpa using hi2), xorL_at hi2]
  have h1 := bitsB_at ha (i := (i : Int)) (by omega) (by omega)
  have h2 := bitsB_at hb (i := (i : Int)) (by omega) (by omega)
  generalize atZ a (i : Int) = x at *
  generalize atZ b (i : Int) = y at *
  rcases (by omega : x = 0 ∨ x = 1) with rfl | rfl <;> rcases (by omega : y = 0 ∨ y = 1) with rfl | rfl <;> decide
theorem xor_pick {a b x y : Int} (ha : 0 ≤ a ∧ a ≤ 1) (hb : 0 ≤ b ∧ b ≤ 1) (hx : 0 ≤ x ∧ x ≤ 1) (hy : 0 ≤ y ∧ y ≤ 1) : 0 ≤ 2 * (((a.toNat ^^^ x.toNat : Nat) : Int)) + (((b.toNat ^^^ y.toNat : Nat) : Int)) ∧ 2 * (((a.toNat ^^^ x.toNat : Nat) : Int)) + (((b.toNat ^^^ y.toNat : Nat) : Int)) < 4 ∧ xor4 (2 * (((a.toNat ^^^ x.toNat : Nat) : Int)) + (((b.toNat ^^^ y.toNat : Nat) : Int))).toNat (2 * x + y) = 2 * a + b := by
  rcases (by omega : a = 0 ∨ a = 1) with rfl | rfl <;> rcases (by omega : b = 0 ∨ b = 1) with rfl | rfl <;> rcases (by omega : x = 0 ∨ x = 1) with rfl | rfl <;> rcases (by omega : y = 0 ∨ y = 1) with rfl | rfl <;> decide
/-- the game of another name has the score of the play of another name -/
theorem named_score {X Y : Nat} {ws : List Int} {wi : List (List Int)} {f s q p : List Int} (hf : orderB f X = true) (hs : orderB s Y = true) (hq : bitsB q ((X : Int) + Y) = true) (hp : bitsB p ((X : Int) + Y) = true) :
    scoG X Y (pairsF (askW Y ws) f s) (pairsF (askR X Y wi q) f s) (restr f s X (xorL p q)) = scoG X Y ws wi p := by
  have l1 := orderB_len hf
  have l2 := orderB_len hs
  have l3 := bitsB_len hp
  rw [scoG_sum, scoG_sum]
  let G : Int → Int → Int := fun x y => atZ ws (x * Y + y) * atZ (atZ wi (x * Y + y)) (2 * atZ p x + atZ p ((X : Int) + y))
  have e1 : accT (fun x : Nat => accT (fun y : Nat => atZ (pairsF (askW Y ws) f s) ((x : Int) * Y + y) * atZ (atZ (pairsF (askR X Y wi q) f s) ((x : Int) * Y + y)) (2 * atZ (restr f s X (xorL p q)) (x : Int) + atZ (restr f s X (xorL p q)) ((X : Int) + y))) Y) X
      = accT (fun i : Nat => accT (fun k : Nat => G (atZ f (i : Int)) (atZ s (k : Int))) Y) X := by
    refine accT_congr fun i hi => accT_congr fun k hk => ?_
    have e2 := pairsF_at (askW Y ws) s (l := f) (i := i) (k := k) (by omega) (by omega)
    have e3 := pairsF_at (askR X Y wi q) s (l := f) (i := i) (k := k) (by omega) (by omega)
    rw [show s.length = Y by omega] at e2 e3
    rw [e2, e3]
    have m1 := orderB_mem (by omega) hf (mem_atZ (show i < f.length by omega))
    have m2 := orderB_mem (by omega) hs (mem_atZ (show k < s.length by omega))
    have r1 : atZ (restr f s X (xorL p q)) (i : Int) = atZ (xorL p q) (atZ f (i : Int)) := by
      unfold restr; rw [atZ_left (by simp; omega), atZ_map (by omega)]
    have r2 : atZ (restr f s X (xorL p q)) ((X : Int) + k) = atZ (xorL p q) ((X : Int) + atZ s (k : Int)) := by
      unfold restr; rw [atZ_right (n := X) (by simp; omega) (by simp; omega), atZ_map (by omega)]
    rw [r1, r2]
    generalize atZ f (i : Int) = x at *
    generalize atZ s (k : Int) = y at *
    obtain ⟨x, rfl⟩ := Int.eq_ofNat_of_zero_le m1.1
    obtain ⟨y, rfl⟩ := Int.eq_ofNat_of_zero_le m2.1
    rw [← Int.natCast_add, xorL_at (by omega), xorL_at (by omega)]
    have b1 := bitsB_at hp (i := (x : Int)) (by omega) (by omega)
    have b2 := bitsB_at hp (i := ((X + y : Nat) : Int)) (by omega) (by omega)
    have b3 := bitsB_at hq (i := (x : Int)) (by omega) (by omega)
    have b4 := bitsB_at hq (i := ((X + y : Nat) : Int)) (by omega) (by omega)
    have xp := xor_pick b1 b2 b3 b4
    have e4 : atZ (askR X Y wi q (x : Int) (y : Int)) (2 * (((atZ p (x : Int)).toNat ^^^ (atZ q (x : Int)).toNat : Nat) : Int) + (((atZ p ((X + y : Nat) : Int)).toNat ^^^ (atZ q ((X + y : Nat) : Int)).toNat : Nat) : Int)) = atZ (atZ wi ((x : Int) * Y + y)) (2 * atZ p (x : Int) + atZ p ((X + y : Nat) : Int)) := by
      unfold askR
      obtain ⟨t, ht⟩ := Int.eq_ofNat_of_zero_le xp.1
      rw [ht] at xp ⊢
      rw [rowF_atZ _ (by omega)]
      have := xp.2.2
      rw [Int.toNat_natCast] at this
      unfold flipOf
      rw [← Int.natCast_add, this]
    rw [e4]
    show askW Y ws x y * _ = _
    simp only [G, askW, Int.natCast_add]
  rw [e1]
  have e5 : ∀ i, i < X → accT (fun k : Nat => G (atZ f (i : Int)) (atZ s (k : Int))) Y = accT (fun k : Nat => G (atZ f (i : Int)) (k : Int)) Y := fun i _ => acc_order hs (fun z => G (atZ f (i : Int)) z)
  rw [accT_congr e5, acc_order hf (fun z => accT (fun k : Nat => G z (k : Int)) Y)]
theorem named_bits {X Y : Nat} {f s q p : List Int} (hf : orderB f X = true) (hs : orderB s Y = true) (hq : bitsB q ((X : Int) + Y) = true) (hp : bitsB p ((X : Int) + Y) = true) : bitsB (restr f s X (xorL p q)) ((X : Int) + Y) = true :=
  restr_bitsO hf hs (by rw [← Int.natCast_add] at *; exact xorL_bits hp hq)
theorem named_inj {X Y : Nat} (hX : X ≤ 3) (hY : Y ≤ 3) {f s q p p' : List Int} (hf : f ∈ ordI X) (hs : s ∈ ordI Y) (hq : bitsB q ((X : Int) + Y) = true) (hp : bitsB p ((X : Int) + Y) = true) (hp' : bitsB p' ((X : Int) + Y) = true) (e : restr f s X (xorL p q) = restr f s X (xorL p' q)) : p = p' := by
  obtain ⟨g, hg, ig⟩ := ord_inv hX hf
  obtain ⟨t, ht, it⟩ := ord_inv hY hs
  rw [← Int.natCast_add] at hp hp' hq
  have l1 := bitsB_len hp
  have l2 := bitsB_len hp'
  have b1 := restr_back (ord_ok hX hg) (ord_ok hY ht) (ord_ok hX hf) (ord_ok hY hs) (fun i hi => (ig i hi).2) (fun i hi => (it i hi).2) (q := xorL p q) (by simp; omega)
  have b2 := restr_back (ord_ok hX hg) (ord_ok hY ht) (ord_ok hX hf) (ord_ok hY hs) (fun i hi => (ig i hi).2) (fun i hi => (it i hi).2) (q := xorL p' q) (by simp; omega)
  rw [← xorL_twice hp hq, ← xorL_twice hp' hq, ← b1, ← b2, e]
theorem named_value {X Y : Nat} {ws : List Int} {wi : List (List Int)} {f s q : List Int} (hf : orderB f X = true) (hs : orderB s Y = true) (hq : bitsB q ((X : Int) + Y) = true) :
    valueG X Y ws wi ≤ valueG X Y (pairsF (askW Y ws) f s) (pairsF (askR X Y wi q) f s) := by
  obtain ⟨p, hp, e⟩ := value_at X Y ws wi
  rw [← e, ← named_score (wi := wi) hf hs hq hp]
  exact value_le (named_bits hf hs hq hp)
theorem nodup_le {α : Type} [BEq α] [LawfulBEq α] : ∀ {l m : List α}, l.Nodup → (∀ x ∈ l, x ∈ m) → l.length ≤ m.length
  | [], m, _, _ => Nat.zero_le _
  | a :: l, m, hn, hs => by
    have ha := hs a (List.mem_cons_self ..)
    rw [List.nodup_cons] at hn
    have ih := nodup_le (l := l) (m := m.erase a) hn.2 fun x hx => (List.mem_erase_of_ne (fun e => hn.1 (by rw [← e]; exact hx))).2 (hs x (List.mem_cons_of_mem _ hx))
    rw [List.length_erase_of_mem ha] at ih
    have : 0 < m.length := List.length_pos_of_mem ha
    simp only [List.length_cons]
    omega
theorem plays_nodupB : ∀ n : Fin 7, (playsF n.val).Nodup := by decide +kernel
theorem nodup_map {α β : Type} {F : α → β} : ∀ {l : List α}, l.Nodup → (∀ x ∈ l, ∀ y ∈ l, F x = F y → x = y) → (l.map F).Nodup
  | [], _, _ => by simp
  | a :: l, hn, h => by
    rw [List.nodup_cons] at hn
    rw [List.map_cons, List.nodup_cons]
    refine ⟨fun hm => ?_, nodup_map hn.2 fun x hx y hy => h x (List.mem_cons_of_mem _ hx) y (List.mem_cons_of_mem _ hy)⟩
    obtain ⟨y, hy, e⟩ := List.mem_map.1 hm
    have := h y (List.mem_cons_of_mem _ hy) a (List.mem_cons_self ..) e
    subst this
    exact hn.1 hy
theorem count_list (X Y : Nat) (ws : List Int) (wi : List (List Int)) : countG X Y ws wi = ((playsF (X + Y)).filter fun p => decide (scoG X Y ws wi p = valueG X Y ws wi)).length := by
  unfold countG cntV playsF
  rw [← List.countP_eq_length_filter, List.countP_map]
  rfl
theorem named_count {X Y : Nat} (hX : X ≤ 3) (hY : Y ≤ 3) {ws : List Int} {wi : List (List Int)} {f s q : List Int} (hf : f ∈ ordI X) (hs : s ∈ ordI Y) (hq : bitsB q ((X : Int) + Y) = true) (hv : valueG X Y (pairsF (askW Y ws) f s) (pairsF (askR X Y wi q) f s) = valueG X Y ws wi) :
    countG X Y ws wi ≤ countG X Y (pairsF (askW Y ws) f s) (pairsF (askR X Y wi q) f s) := by
  rw [count_list, count_list, hv]
  have nd := plays_nodupB ⟨X + Y, by omega⟩
  have bt : ∀ p, p ∈ playsF (X + Y) → bitsB p ((X : Int) + Y) = true := fun p hp => by have := plays_mem.1 hp; rwa [Int.natCast_add] at this
  have h1 : (((playsF (X + Y)).filter fun p => decide (scoG X Y ws wi p = valueG X Y ws wi)).map fun p => restr f s X (xorL p q)).Nodup :=
    nodup_map (nd.filter _) fun x hx y hy e => named_inj hX hY hf hs hq (bt x (List.mem_filter.1 hx).1) (bt y (List.mem_filter.1 hy).1) e
  have h2 := nodup_le h1 (m := (playsF (X + Y)).filter fun p => decide (scoG X Y (pairsF (askW Y ws) f s) (pairsF (askR X Y wi q) f s) p = valueG X Y ws wi)) fun x hx => by
    obtain ⟨p, hp, rfl⟩ := List.mem_map.1 hx
    obtain ⟨hp1, hp2⟩ := List.mem_filter.1 hp
    have hb := bt p hp1
    refine List.mem_filter.2 ⟨plays_mem.2 (by rw [Int.natCast_add]; exact named_bits (ord_ok hX hf) (ord_ok hY hs) hq hb), ?_⟩
    rw [named_score (ord_ok hX hf) (ord_ok hY hs) hq hb]
    exact hp2
  rwa [List.length_map] at h2
theorem row_xor2 {l : List Int} (h4 : l.length = 4) {m : Int} (h0 : 0 ≤ m) (h1 : m < 4) : rowF (fun k => atZ (rowF (fun k => atZ l (xor4 k m)) 4) (xor4 k m)) 4 = l := by
  match l, h4 with
  | [a, b, c, d], _ => rcases (by omega : m = 0 ∨ m = 1 ∨ m = 2 ∨ m = 3) with rfl | rfl | rfl | rfl <;> rfl
theorem named_back {X Y : Nat} {ws : List Int} {wi : List (List Int)} (h : gameB X Y ws wi = true) {f s q : List Int} (hf : f ∈ ordI X) (hs : s ∈ ordI Y) (hq : bitsB q ((X : Int) + Y) = true) :
    sameG X Y (pairsF (askW Y ws) f s) (pairsF (askR X Y wi q) f s) ws wi = true := by
  obtain ⟨x, y, e1, e2, hx, hy, wl, il, h9⟩ := game_nat h
  obtain rfl : X = x := by omega
  obtain rfl : Y = y := by omega
  obtain ⟨g, hg, ig⟩ := ord_inv (by omega) hf
  obtain ⟨t, ht, it⟩ := ord_inv (by omega) hs
  have of := ord_ok (by omega) hf
  have os := ord_ok (by omega) hs
  have og := ord_ok (by omega) hg
  have ot := ord_ok (by omega) ht
  have l1 := orderB_len of
  have l2 := orderB_len os
  have l3 := orderB_len og
  have l4 := orderB_len ot
  have key : ∀ i k : Nat, i < X → k < Y → ∃ u v : Nat, (u < X ∧ v < Y) ∧ (atZ g (i : Int) = u ∧ atZ t (k : Int) = v) ∧ atZ f (u : Int) = i ∧ atZ s (v : Int) = k := fun i k hi hk => by
    have m1 := orderB_mem (by omega) og (mem_atZ (show i < g.length by omega))
    have m2 := orderB_mem (by omega) ot (mem_atZ (show k < t.length by omega))
    have a := (ig i hi).2
    have b := (it k hk).2
    obtain ⟨u, hu⟩ := Int.eq_ofNat_of_zero_le m1.1
    obtain ⟨v, hv⟩ := Int.eq_ofNat_of_zero_le m2.1
    rw [hu] at a m1
    rw [hv] at b m2
    exact ⟨u, v, ⟨by omega, by omega⟩, ⟨hu, hv⟩, a, b⟩
  refine (same_iff ..).2 ⟨g, t, restr f s X q, hg, ht, restr_bitsO of os hq, ?_, ?_⟩
  · refine pairs_ext (X := X) (Y := Y) (by rw [pairsF_len]; rw [show g.length = X by omega, show t.length = Y by omega]) (by rw [wl, Nat.mul_comm]) fun i k hi hk => ?_
    obtain ⟨u, v, ⟨hu, hv⟩, ⟨e3, e4⟩, e5, e6⟩ := key i k hi hk
    have p1 := pairsF_at (askW Y (pairsF (askW Y ws) f s)) t (l := g) (i := i) (k := k) (by omega) (by omega)
    rw [show t.length = Y by omega] at p1
    rw [p1, e3, e4]
    unfold askW
    have p2 := pairsF_at (askW Y ws) s (l := f) (i := u) (k := v) (by omega) (by omega)
    rw [show s.length = Y by omega] at p2
    unfold askW at p2
    rw [p2, e5, e6]
  · refine pairs_ext (X := X) (Y := Y) (by rw [pairsF_len]; rw [show g.length = X by omega, show t.length = Y by omega]) (by rw [il, Nat.mul_comm]) fun i k hi hk => ?_
    obtain ⟨u, v, ⟨hu, hv⟩, ⟨e3, e4⟩, e5, e6⟩ := key i k hi hk
    have p1 := pairsF_at (askR X Y (pairsF (askR X Y wi q) f s) (restr f s X q)) t (l := g) (i := i) (k := k) (by omega) (by omega)
    rw [show t.length = Y by omega] at p1
    rw [p1, e3, e4]
    have p2 := pairsF_at (askR X Y wi q) s (l := f) (i := u) (k := v) (by omega) (by omega)
    rw [show s.length = Y by omega, e5, e6] at p2
    have ef : flipOf (restr f s X q) X (u : Int) (v : Int) = flipOf q X (i : Int) (k : Int) := by
      unfold flipOf restr
      rw [atZ_left (by simp; omega), atZ_right (n := X) (by simp; omega) (by simp; omega), atZ_map (by omega), atZ_map (by omega), e5, e6]
    have b1 := bitsB_at hq (i := (i : Int)) (by omega) (by omega)
    have b2 := bitsB_at hq (i := (X : Int) + k) (by omega) (by omega)
    have pk := pair_ok h hi hk
    have rx := row_xor2 (l := atZ wi ((i : Int) * Y + k)) pk.len (m := flipOf q X (i : Int) (k : Int)) (by unfold flipOf; omega) (by unfold flipOf; omega)
    rw [show askR X Y (pairsF (askR X Y wi q) f s) (restr f s X q) (u : Int) (v : Int) = rowF (fun p => atZ (atZ (pairsF (askR X Y wi q) f s) ((u : Int) * Y + v)) (xor4 p (flipOf (restr f s X q) X (u : Int) (v : Int)))) 4 from rfl, p2, ef]
    exact rx
theorem names_all {X Y : Nat} {ws : List Int} {wi : List (List Int)} {hws : List Int} {hwi : List (List Int)} (h : gameB X Y ws wi = true) (h2 : gameB X Y hws hwi = true) (same : sameG X Y ws wi hws hwi = true) :
    valueG X Y ws wi = valueG X Y hws hwi ∧ countG X Y ws wi = countG X Y hws hwi ∧ sameG X Y hws hwi ws wi = true := by
  obtain ⟨x, y, e1, e2, hx, hy, wl, il, h9⟩ := game_nat h
  obtain rfl : X = x := by omega
  obtain rfl : Y = y := by omega
  obtain ⟨f, s, q, hf, hs, hq, w1, w2⟩ := (same_iff ..).1 same
  have back := named_back h hf hs hq
  rw [w1, w2] at back
  obtain ⟨g, t, r, hg, ht, hr, v1, v2⟩ := (same_iff ..).1 back
  have a := named_value (ws := ws) (wi := wi) (ord_ok (by omega) hf) (ord_ok (by omega) hs) hq
  have b := named_value (ws := hws) (wi := hwi) (ord_ok (by omega) hg) (ord_ok (by omega) ht) hr
  rw [w1, w2] at a
  rw [v1, v2] at b
  have hv : valueG X Y ws wi = valueG X Y hws hwi := by omega
  have c := named_count (by omega) (by omega) (ws := ws) (wi := wi) hf hs hq (by rw [w1, w2]; exact hv.symm)
  have d := named_count (by omega) (by omega) (ws := hws) (wi := hwi) hg ht hr (by rw [v1, v2]; exact hv)
  rw [w1, w2] at c
  rw [v1, v2] at d
  exact ⟨hv, by omega, back⟩
/-- a game of another name is a game -/
theorem game_named {X Y : Nat} {ws : List Int} {wi : List (List Int)} (h : gameB X Y ws wi = true) {f s q : List Int} (hf : orderB f X = true) (hs : orderB s Y = true) (hq : bitsB q ((X : Int) + Y) = true) :
    gameB X Y (pairsF (askW Y ws) f s) (pairsF (askR X Y wi q) f s) = true := by
  obtain ⟨x, y, e1, e2, hx, hy, wl, il, h9⟩ := game_nat h
  obtain rfl : X = x := by omega
  obtain rfl : Y = y := by omega
  have g := gameB_spec h
  have l1 := orderB_len hf
  have l2 := orderB_len hs
  have at_ : ∀ x y : Int, x ∈ f → y ∈ s → ∃ i k : Nat, x = i ∧ y = k ∧ i < X ∧ k < Y := fun x y hx hy => by
    have m1 := orderB_mem (by omega) hf hx
    have m2 := orderB_mem (by omega) hs hy
    obtain ⟨i, rfl⟩ := Int.eq_ofNat_of_zero_le m1.1
    obtain ⟨k, rfl⟩ := Int.eq_ofNat_of_zero_le m2.1
    exact ⟨i, k, rfl, rfl, by omega, by omega⟩
  have wlen : ((pairsF (askW Y ws) f s).length : Int) = (X : Int) * Y := by rw [pairsF_size, Int.natCast_mul, l1, l2]
  have ilen : ((pairsF (askR X Y wi q) f s).length : Int) = (X : Int) * Y := by rw [pairsF_size, Int.natCast_mul, l1, l2]
  have inw : ∀ v ∈ pairsF (askW Y ws) f s, 0 ≤ v ∧ v ≤ 99 := fun v hv => by
    obtain ⟨x, y, hx, hy, rfl⟩ := pairsF_mem hv
    obtain ⟨i, k, rfl, rfl, hi, hk⟩ := at_ x y hx hy
    have p := pair_ok h hi hk
    exact ⟨p.w0, p.w1⟩
  have wb : allB (pairsF (askW Y ws) f s) 0 99 = true := by
    unfold allB
    rw [List.all_eq_true]
    exact fun v hv => inB_iff.2 (inw v hv)
  have wl9 : (pairsF (askW Y ws) f s).length ≤ 9 := by rw [← Int.natCast_mul] at wlen; rw [Nat.mul_comm] at h9; omega
  have some_t : ∃ t, t < ws.length ∧ atZ ws (t : Int) ≠ 0 := by
    apply Classical.byContradiction
    intro hn
    have z : totG ws = 0 := accT_zero fun t ht => Classical.byContradiction fun h0 => hn ⟨t, ht, h0⟩
    exact g.s0 ((totG_64 (by omega) g.wb).1.trans z)
  have s0 : sum64 (pairsF (askW Y ws) f s) ≠ 0 := by
    obtain ⟨t, ht, ht0⟩ := some_t
    obtain ⟨hi, hk, e⟩ := pair_split (X := X) (Y := Y) (t := t) (by omega)
    have e3 := pair_cast Y (t / Y) (t % Y)
    rw [e] at e3
    rw [(totG_64 wl9 wb).1, totG_sum]
    have sp := sum_pos (l := pairsF (askW Y ws) f s) fun v hv => (inw v hv).1
    have m1 : ((t / Y : Nat) : Int) ∈ f := ((orderB_perm (by omega)).1 hf).mem_iff.2 (by rw [Int.toNat_natCast]; exact cntL_has hi)
    have m2 : ((t % Y : Nat) : Int) ∈ s := ((orderB_perm (by omega)).1 hs).mem_iff.2 (by rw [Int.toNat_natCast]; exact cntL_has hk)
    have mem : askW Y ws ((t / Y : Nat) : Int) ((t % Y : Nat) : Int) ∈ pairsF (askW Y ws) f s := by
      unfold pairsF
      exact List.mem_flatMap.2 ⟨_, m1, List.mem_map.2 ⟨_, m2, rfl⟩⟩
    have nz : askW Y ws ((t / Y : Nat) : Int) ((t % Y : Nat) : Int) ≠ 0 := by unfold askW; rw [← e3]; exact ht0
    have any : ((pairsF (askW Y ws) f s).any fun x => decide (x ≠ 0)) = true := List.any_eq_true.2 ⟨_, mem, by simpa using nz⟩
    rw [any] at sp
    have := of_decide_eq_true sp.2
    omega
  have ib : (pairsF (askR X Y wi q) f s).all (fun l => bitsB l 4) = true := by
    rw [List.all_eq_true]
    intro l hl
    obtain ⟨x, y, hx, hy, rfl⟩ := pairsF_mem hl
    obtain ⟨i, k, rfl, rfl, hi, hk⟩ := at_ x y hx hy
    have p := pair_ok h hi hk
    have b1 := bitsB_at hq (i := (i : Int)) (by omega) (by omega)
    have b2 := bitsB_at hq (i := (X : Int) + k) (by omega) (by omega)
    refine bits_of_at (n := 4) (by simp) fun j hj => ?_
    have x1 := xor4_eq (k := j) (m := flipOf q X (i : Int) (k : Int)) hj (by unfold flipOf; omega) (by unfold flipOf; omega)
    unfold askR
    rw [rowF_atZ _ hj]
    exact p.bit _ x1.2.1 x1.2.2
  unfold gameB
  rw [sizeB_iff.2 ⟨⟨g.x1, g.x3⟩, g.y1, g.y3⟩, wb, ib, decide_eq_true wlen, decide_eq_true s0, decide_eq_true ilen]
  rfl
theorem order_id {n : Nat} : orderB (cntL n) n = true := (orderB_perm (by omega)).2 (by rw [Int.toNat_natCast])
theorem restr_id {X Y : Nat} {q : List Int} (hq : (q.length : Int) = (X : Int) + Y) : restr (cntL X) (cntL Y) X q = q := by
  refine list_at (by simp [restr]; omega) fun j hj => ?_
  have hj : j < X + Y := by simpa [restr] using hj
  unfold restr
  by_cases h1 : j < X
  · rw [atZ_left (by simpa using h1), atZ_map (by simpa using h1), cntL_at h1]
  · obtain ⟨k, rfl⟩ : ∃ k, j = X + k := ⟨j - X, by omega⟩
    rw [Int.natCast_add, atZ_right (n := X) (by simp) (by simp; omega), atZ_map (by simp; omega), cntL_at (by omega)]
/-- flipped games -/
theorem flip_all {X Y : Nat} {ws : List Int} {wi : List (List Int)} {q : List Int} (h : gameB X Y ws wi = true) (hq : bitsB q ((X : Int) + Y) = true) :
    gameB X Y ws (flipR X Y wi q) = true ∧ sameG X Y ws wi ws (flipR X Y wi q) = true ∧ ∀ p, bitsB p ((X : Int) + Y) = true → bitsB (xorL p q) ((X : Int) + Y) = true ∧ scoG X Y ws (flipR X Y wi q) (xorL p q) = scoG X Y ws wi p := by
  obtain ⟨x, y, e1, e2, hx, hy, wl, il, h9⟩ := game_nat h
  obtain rfl : X = x := by omega
  obtain rfl : Y = y := by omega
  have e : flipR X Y wi q = pairsF (askR X Y wi q) (cntL X) (cntL Y) := by simp [flipR]
  have w := pairs_all (X := X) (Y := Y) wl
  have g := game_named h (f := cntL X) (s := cntL Y) order_id order_id hq
  rw [w, ← e] at g
  refine ⟨g, (same_iff ..).2 ⟨cntL X, cntL Y, q, ord_mem (by omega) order_id, ord_mem (by omega) order_id, hq, w, e.symm⟩, fun p hp => ?_⟩
  have sc := named_score (ws := ws) (wi := wi) (f := cntL X) (s := cntL Y) order_id order_id hq hp
  have hl := bitsB_len hp
  rw [w, ← e, restr_id (by simpa using hl)] at sc
  refine ⟨?_, sc⟩
  rw [← Int.natCast_add] at *
  exact xorL_bits hp hq
theorem ask_all {X Y : Nat} {ws : List Int} {wi : List (List Int)} {f s : List Int} (h : gameB X Y ws wi = true) (hf : orderB f X = true) (hs : orderB s Y = true) :
    gameB X Y (askGW Y ws f s) (askGR Y wi f s) = true ∧ sameG X Y ws wi (askGW Y ws f s) (askGR Y wi f s) = true := by
  obtain ⟨x, y, e1, e2, hx, hy, wl, il, h9⟩ := game_nat h
  obtain rfl : X = x := by omega
  obtain rfl : Y = y := by omega
  have e := ask_same h (fs := f) (ss := s) (fun x hx => orderB_mem (by omega) hf hx) (fun x hx => orderB_mem (by omega) hs hx) (X + Y)
  have z : bitsB (zerosL (X + Y)) ((X : Int) + Y) = true := by rw [← Int.natCast_add]; exact zerosL_bits _
  have g := game_named h hf hs z
  rw [e] at g
  exact ⟨g, (same_iff ..).2 ⟨f, s, _, ord_mem (by omega) hf, ord_mem (by omega) hs, z, rfl, e⟩⟩

end Go.Proofs.Ytefbiejoikpkmaa

namespace Go.Proofs.Ytefbiejoikpkmaa
open Go.RowKit
set_option linter.unusedSectionVars false
variable [Glb]
open Go Go.RowKit
/-! structs of texts and numbers, compared -/
def eqA : Value → Value → Bool
  | .int _ a, .int _ b => a == b
  | .string a, .string b => a.toList == b.toList
  | _, _ => false
def eqL : List Value → List Value → Bool
  | u :: us, v :: vs => eqA u v && eqL us vs
  | _, _ => true
@[simp] theorem eqA_t (a b : Tx) : eqA (.string (bsT a)) (.string (bsT b)) = decide (a = b) := by
  show ((bsT a).toList == (bsT b).toList) = _
  rw [ByteArray.toList_eq, ByteArray.toList_eq]
  show ((bsT a).data.toList == (bsT b).data.toList) = _
  simp only [bsT]
  rw [Bool.eq_iff_iff, beq_iff_eq, decide_eq_true_iff]
@[simp] theorem eqA_i (k k' : IntKind) (a b : Int) : eqA (.int k a) (.int k' b) = decide (a = b) := rfl
@[simp] theorem eqL_cons (u v : Value) (us vs : List Value) : eqL (u :: us) (v :: vs) = (eqA u v && eqL us vs) := rfl
@[simp] theorem eqL_nil : eqL [] [] = true := rfl
def oneEq (P : Program) (T : TypeId) : Value → Value → Bool
  | .string _, .string _ => match P.underlying T with | some .string => true | _ => false
  | .int k _, .int k' _ => match P.underlying T with | some (.int _) => k == k' | _ => false
  | _, _ => false
def flatEq (P : Program) : Nat → List Field → List Value → List Value → Bool
  | _, [], [], [] => true
  | o, f :: fs, u :: us, v :: vs => f.name != "_" && (f.offset == o && (oneEq P f.type u v && flatEq P (o + 1) fs us vs))
  | _, _, _, _ => false
def structEq (P : Program) (T : TypeId) (us vs : List Value) : Bool := match P.underlying T with
  | some (.struct fs) => !(P.stoodInHeld T) && (!(P.eqGuardType P.depth T) && flatEq P 0 fs.toList us vs)
  | _ => false
section
variable {P : Program} {w : World}
end
section
variable {P : Program} {st : St} {dst : Option Tmp} {ty : TypeId} {pos : String} {af : Array Edge} {T T' : TypeId} {x y : Operand}
end

end Go.Proofs.Ytefbiejoikpkmaa

namespace Go.Proofs.Ytefbiejoikpkmaa
open Go.RowKit
set_option linter.unusedSectionVars false
variable [Glb]
set_option maxRecDepth 10000
set_option maxHeartbeats 4000000
theorem rBig_p (code : Tx) : PC Try.prog 8 [.c (eB code)] (.p (.c (dB (decide ((code.length : Int) > 65536))))) := by
  refine pc_intro Try.func8 rfl rfl rfl (by kernel_rfl) rfl rfl ?_; intro _
  repeat' (first | (refine so_is (.assign _) ?_; (refine so_q (qt_asC rfl) rfl ?_)) | (refine so_is (.move _) ?_; (refine so_q (qt_mvC rfl) rfl ?_)) | (refine so_is (.call ⟨.builtin .len, _, #[22]⟩) ?_; (refine so_q (qt_len_d rfl (by kernel_rfl)) rfl ?_)) | (refine so_is (.binOp .gtr 3 _ _ _) ?_; refine so_q (qt_gtr rfl rfl) rfl ?_) | refine so_nil ?_ | refine sk_seq ?_ | refine sk_region ?_)
  all_goals (apply sk_ret; apply ret_eq; (· apply RetOK.p; (· (apply GvA.cons; (· exact .tmp _); (· exact GvP.c (.lit _))); exact GvA.nil); (· (decide))))
  all_goals rfl

end Go.Proofs.Ytefbiejoikpkmaa

namespace Go.Proofs.Ytefbiejoikpkmaa
open Go.RowKit
set_option linter.unusedSectionVars false
variable [Glb]
set_option maxRecDepth 10000
set_option maxHeartbeats 4000000
theorem rInts_p (a b : List Int) : PC Try.prog 21 [.c (eI a), .c (eI b)] (.p (.c (dB (decide (a = b))))) := by
  refine pc_intro Try.func21 rfl rfl rfl (by kernel_rfl) rfl rfl ?_; rintro ⟨hl, hm, -⟩
  have hl := hl.len
  have hm := hm.len
  repeat' (first | (refine so_is (.assign _) ?_; (refine so_q (qt_asC rfl) rfl ?_)) | (refine so_is (.move _) ?_; (refine so_q (qt_mvC rfl) rfl ?_)) | (refine so_is (.call ⟨.builtin .len, _, #[24]⟩) ?_; (refine so_q (qt_len_d rfl (by kernel_rfl)) rfl ?_)) | (refine so_is (.binOp .neq 3 _ _ _) ?_; refine so_q (qt_neq rfl rfl) rfl ?_) | refine so_nil ?_ | refine sk_seq ?_ | refine sk_block ?_ | refine sk_skip ?_ | refine sk_region ?_ | refine sk_if rfl (fun hc => ?_) (fun hc => ?_))
  · (apply sk_ret; apply ret_eq; (· apply RetOK.p; (· (apply GvA.cons; (· exact .tmp _); (· exact GvP.c (.lit _))); exact GvA.nil); (· (decide))))
    have : a ≠ b := fun e => by subst e; simp at *
    simp [this]
  have hab : a.length = b.length := by simp at *; omega
  apply sk_packC [0, 1, 5] [] rfl; (· (repeat (first | exact Pf.nil | apply Pf.cons (.c rfl (.d rfl))))); (· (repeat (exact Pb.nil)))
  refine sk_loopL [0, 1] [] (fun k => [(5, iN k)]) (fun _ => []) (fun k => k ≤ a.length ∧ a.take k = b.take k) (fun k => a.length - k) (0) ?_ (by (repeat (first | exact trivial | refine ⟨(by (rfl)), ?_⟩))) (by (repeat (exact trivial))) ?_
  · simp
  rintro k ⟨hk, hs⟩
  repeat' (first | (refine so_is (.assign _) ?_; (refine so_q (qt_asC rfl) rfl ?_)) | (refine so_is (.move _) ?_; (refine so_q (qt_mvC rfl) rfl ?_)) | (refine so_is (.call ⟨.builtin .len, _, #[24]⟩) ?_; (refine so_q (qt_len_d rfl (by kernel_rfl)) rfl ?_)) | (refine so_is (.binOp .neq 3 _ _ _) ?_; refine so_q (qt_neq rfl rfl) rfl ?_) | (refine so_is (.binOp .lss 3 _ _ _) ?_; refine so_q (qt_lss rfl rfl) rfl ?_) | (refine so_is (.indexAddr 24 _ _) ?_; (refine so_q (qt_idxI rfl rfl (by kernel_rfl) (by (omega)) (by (omega))) rfl ?_)) | (refine so_is (.load 3 _) ?_; (refine so_q (qt_load_pt rfl (by kernel_rfl) rfl) rfl ?_)) | (refine so_is (.binOp .add 3 _ _ _) ?_; refine so_q (qt_addI rfl rfl (by (omega))) rfl ?_) | refine so_nil ?_ | refine sk_seq ?_ | refine sk_block ?_ | refine sk_blk ?_ | refine sk_exit rfl ?_ | refine sk_skip ?_ | refine sk_region ?_ | refine sk_drawQ 6 (fun _ => false) (.step 0 true (.step 1 true (.step 2 true (.step 3 true (.step 4 true (.step 5 true (.step 6 true (.step 7 true (.step 8 true .nil))))))))) [(0, 511, 511, true), (0, 511, 511, true), (3, 508, 511, true), (4, 507, 511, false), (0, 511, 511, true), (0, 511, 511, true), (48, 463, 511, true), (64, 447, 511, false), (136, 375, 511, true)] (by kernel_rfl) (by kernel_rfl) ?_ | refine sk_if rfl (fun hc => ?_) (fun hc => ?_))
  · rename_i hk'
    rw [atZ_nat (by omega), atZ_nat (by omega)] at hc
    (apply sk_ret; apply ret_eq; (· apply RetOK.p; (· (apply GvA.cons; (· exact .tmp _); (· exact GvP.c (.lit _))); exact GvA.nil); (· (decide))))
    have : a ≠ b := fun e => by subst e; exact hc rfl
    simp [this]
  · rename_i hk'
    rw [atZ_nat (by omega), atZ_nat (by omega)] at hc
    refine sk_back ?_; refine ⟨k + 1, ?_, ?_, le_at rfl (by (repeat (first | exact trivial | refine ⟨(by (rfl)), ?_⟩))) (by (repeat (first | exact trivial | refine ⟨rfl, ?_⟩))) (by (repeat (exact trivial))) (by (repeat (exact trivial)))⟩
    · exact ⟨by omega, by rw [List.take_succ_eq_append_getElem (by omega), List.take_succ_eq_append_getElem (by omega), hs]; simp at hc; rw [hc]⟩
    · omega
  · have e : k = a.length := by omega
    subst e
    rw [List.take_length, hab, List.take_length] at hs
    (apply sk_ret; apply ret_eq; (· apply RetOK.p; (· (apply GvA.cons; (· exact .tmp _); (· exact GvP.c (.lit _))); exact GvA.nil); (· (decide))))
    simp [hs]
theorem rInts_same (a : List Int) : PC Try.prog 21 [.c (eI a), .c (eI a)] (.p (.c (dB true))) := by
  have := rInts_p a a; rwa [decide_eq_true rfl] at this

end Go.Proofs.Ytefbiejoikpkmaa

namespace Go.Proofs.Ytefbiejoikpkmaa
open Go.RowKit
set_option linter.unusedSectionVars false
variable [Glb]
set_option maxRecDepth 10000
set_option maxHeartbeats 4000000
theorem rTable_p (a b : List (List Int)) : PC Try.prog 103 [.c (eII a), .c (eII b)] (.p (.c (dB (decide (a = b))))) := by
  refine pc_intro Try.func103 rfl rfl rfl (by kernel_rfl) rfl rfl ?_; rintro ⟨hl, hm, -⟩
  have hl := hl.len
  have hm := hm.len
  repeat' (first | (refine so_is (.assign _) ?_; (refine so_q (qt_asC rfl) rfl ?_)) | (refine so_is (.move _) ?_; (refine so_q (qt_mvC rfl) rfl ?_)) | (refine so_is (.call ⟨.builtin .len, _, #[25]⟩) ?_; (refine so_q (qt_len_d rfl (by kernel_rfl)) rfl ?_)) | (refine so_is (.binOp .neq 3 _ _ _) ?_; refine so_q (qt_neq rfl rfl) rfl ?_) | refine so_nil ?_ | refine sk_seq ?_ | refine sk_block ?_ | refine sk_skip ?_ | refine sk_region ?_ | refine sk_if rfl (fun hc => ?_) (fun hc => ?_))
  · (apply sk_ret; apply ret_eq; (· apply RetOK.p; (· (apply GvA.cons; (· exact .tmp _); (· exact GvP.c (.lit _))); exact GvA.nil); (· (decide))))
    have : a ≠ b := fun e => by subst e; simp at *
    simp [this]
  have hab : a.length = b.length := by simp at *; omega
  apply sk_packC [0, 1, 5] [] rfl; (· (repeat (first | exact Pf.nil | apply Pf.cons (.c rfl (.d rfl))))); (· (repeat (exact Pb.nil)))
  refine sk_loopL [0, 1] [] (fun k => [(5, iN k)]) (fun _ => []) (fun k => k ≤ a.length ∧ a.take k = b.take k) (fun k => a.length - k) (0) ?_ (by (repeat (first | exact trivial | refine ⟨(by (rfl)), ?_⟩))) (by (repeat (exact trivial))) ?_
  · simp
  rintro k ⟨hk, hs⟩
  repeat' (first | (refine so_is (.assign _) ?_; (refine so_q (qt_asC rfl) rfl ?_)) | (refine so_is (.move _) ?_; (refine so_q (qt_mvC rfl) rfl ?_)) | (refine so_is (.call ⟨.builtin .len, _, #[25]⟩) ?_; (refine so_q (qt_len_d rfl (by kernel_rfl)) rfl ?_)) | (refine so_is (.binOp .lss 3 _ _ _) ?_; refine so_q (qt_lss rfl rfl) rfl ?_) | (refine so_is (.indexAddr 25 _ _) ?_; (refine so_q (qt_idxII rfl rfl (by kernel_rfl) (by (omega)) (by (omega))) rfl ?_)) | (refine so_is (.load 24 _) ?_; (refine so_q (qt_load_pt rfl (by kernel_rfl) rfl) rfl ?_)) | (refine so_is (.unOp .not 4 _) ?_; refine so_q (qt_not rfl) rfl ?_) | (refine so_is (.binOp .add 3 _ _ _) ?_; refine so_q (qt_addI rfl rfl (by (omega))) rfl ?_) | (refine so_is (.call ⟨.value (.func 21), _, _⟩) ?_; (apply so_call0 (fid := 21); (· (repeat (first | exact SeA.nil | apply SeA.cons (.c (.d _))))); (· exact rInts_p _ _); (· rfl))) | refine so_nil ?_ | refine sk_seq ?_ | refine sk_block ?_ | refine sk_blk ?_ | refine sk_exit rfl ?_ | refine sk_skip ?_ | refine sk_region ?_ | refine sk_drawQ 6 (fun _ => false) (.step 0 true (.step 1 true (.step 2 true (.step 3 true (.step 4 true (.step 5 true (.step 6 true (.step 7 true (.step 8 false (.step 9 true .nil)))))))))) [(0, 1023, 1023, true), (0, 1023, 1023, true), (3, 1020, 1023, true), (4, 1019, 1023, false), (0, 1023, 1023, true), (0, 1023, 1023, true), (48, 975, 1023, true), (64, 959, 1023, false), (136, 887, 1023, false), (256, 767, 1023, true)] (by kernel_rfl) (by kernel_rfl) ?_ | refine sk_if rfl (fun hc => ?_) (fun hc => ?_) | refine sk_nif rfl (fun hc => ?_) (fun hc => ?_))
  · rename_i hk'
    rw [atZ_nat (by omega), atZ_nat (by omega)] at hc
    (apply sk_ret; apply ret_eq; (· apply RetOK.p; (· (apply GvA.cons; (· exact .tmp _); (· exact GvP.c (.lit _))); exact GvA.nil); (· (decide))))
    have : a ≠ b := fun e => by subst e; simp at hc
    simp [this]
  · rename_i hk'
    rw [atZ_nat (by omega), atZ_nat (by omega)] at hc
    refine sk_back ?_; refine ⟨k + 1, ?_, ?_, le_at rfl (by (repeat (first | exact trivial | refine ⟨(by (rfl)), ?_⟩))) (by (repeat (first | exact trivial | refine ⟨rfl, ?_⟩))) (by (repeat (exact trivial))) (by (repeat (exact trivial)))⟩
    · exact ⟨by omega, by rw [List.take_succ_eq_append_getElem (by omega), List.take_succ_eq_append_getElem (by omega), hs, hc]⟩
    · omega
  · have e : k = a.length := by omega
    subst e
    rw [List.take_length, hab, List.take_length] at hs
    (apply sk_ret; apply ret_eq; (· apply RetOK.p; (· (apply GvA.cons; (· exact .tmp _); (· exact GvP.c (.lit _))); exact GvA.nil); (· (decide))))
    simp [hs]
theorem rTable_same (a : List (List Int)) : PC Try.prog 103 [.c (eII a), .c (eII a)] (.p (.c (dB true))) := by
  have := rTable_p a a; rwa [decide_eq_true rfl] at this

end Go.Proofs.Ytefbiejoikpkmaa

namespace Go.Proofs.Ytefbiejoikpkmaa
open Go.RowKit
set_option linter.unusedSectionVars false
variable [Glb]
set_option maxRecDepth 10000
set_option maxHeartbeats 4000000
theorem rGame_same (x : Int) (y : Int) (we : List Int) (wi : List (List Int)) : PC Try.prog 15 [.g [dI x, dI y, eI we, eII wi], .g [dI x, dI y, eI we, eII wi]] (.p (.c (dB true))) := by
  refine pc_intro Try.func15 rfl rfl rfl (by kernel_rfl) rfl rfl ?_; intro _
  repeat' (first | (refine so_is (.box 27 _) ?_; refine so_box rfl rfl ?_) | (refine so_is (.assign _) ?_; (refine so_q (qt_asC rfl) rfl ?_)) | (refine so_is (.fieldAddr 27 _ 0) ?_; (refine so_q (qt_fld_lp (off := 0) rfl (by kernel_rfl)) rfl ?_)) | (refine so_is (.load 3 _) ?_; (refine so_q (qt_load_box rfl rfl (by kernel_rfl) rfl) rfl ?_)) | (refine so_is (.binOp .eql 3 _ _ _) ?_; refine so_q (qt_eql rfl rfl) rfl ?_) | (refine so_is (.move _) ?_; (refine so_q (qt_mvC rfl) rfl ?_)) | (refine so_is (.fieldAddr 27 _ 1) ?_; (refine so_q (qt_fld_lp (off := 1) rfl (by kernel_rfl)) rfl ?_)) | (refine so_is (.pick _ _ _) ?_; (refine so_q (qt_pkC rfl rfl) rfl ?_)) | (refine so_is (.fieldAddr 27 _ 2) ?_; (refine so_q (qt_fld_lp (off := 2) rfl (by kernel_rfl)) rfl ?_)) | (refine so_is (.load 24 _) ?_; (refine so_q (qt_load_box rfl rfl (by kernel_rfl) rfl) rfl ?_)) | (refine so_is (.fieldAddr 27 _ 3) ?_; (refine so_q (qt_fld_lp (off := 3) rfl (by kernel_rfl)) rfl ?_)) | (refine so_is (.load 25 _) ?_; (refine so_q (qt_load_box rfl rfl (by kernel_rfl) rfl) rfl ?_)) | (refine so_is (.call ⟨.value (.func 21), _, _⟩) ?_; (apply so_call0 (fid := 21); (· (repeat (first | exact SeA.nil | apply SeA.cons (.c (.d _))))); (· exact rInts_same _); (· rfl))) | (refine so_is (.call ⟨.value (.func 103), _, _⟩) ?_; (apply so_call0 (fid := 103); (· (repeat (first | exact SeA.nil | apply SeA.cons (.c (.d _))))); (· exact rTable_same _); (· rfl))) | refine so_nil ?_ | refine so_g_no rfl rfl rfl rfl ?_ | refine so_g_yes rfl rfl rfl rfl ?_ | refine so_g_if rfl rfl (fun hg => ?_) (fun hg => ?_) | refine sk_seq ?_ | refine sk_region ?_)
  all_goals first | (exfalso; simp_all; done) | skip
  all_goals (apply sk_ret; apply ret_eq; (· apply RetOK.p; (· (apply GvA.cons; (· exact .tmp _); (· exact GvP.c (.lit _))); exact GvA.nil); (· (decide))))
  all_goals simp

end Go.Proofs.Ytefbiejoikpkmaa

namespace Go.Proofs.Ytefbiejoikpkmaa
open Go.RowKit
set_option linter.unusedSectionVars false
variable [Glb]
set_option maxRecDepth 10000
set_option maxHeartbeats 4000000
abbrev dW (n : Int) : D := .lit (.int .u64 n)
abbrev CurB (code : Tx) (a s : Int) : List BC := [.k (eB code), .o (dI a), .o (dW s)]
def CurR (a N : Int) (Q : Res → Prop) (ds : List D) (res : Res) : Prop := ∃ a' s', (a ≤ a' ∧ a' ≤ a + N) ∧ ds = [dI a', dW s'] ∧ Q res
theorem emod_bd {x n : Int} (hx : 0 ≤ x) (hn : 1 < n) : 0 ≤ x % n ∧ x % n < n ∧ x % n ≤ x := by
  refine ⟨Int.emod_nonneg _ (by omega), Int.emod_lt_of_pos _ (by omega), ?_⟩
  have h1 := Int.emod_add_mul_ediv x n
  have h2 : 0 ≤ n * (x / n) := Int.mul_nonneg (by omega) (Int.ediv_nonneg hx (by omega))
  omega
theorem pick_bd {x n : Int} (h0 : 0 ≤ x) (h1 : x ≤ 65535) (hn : 1 < n) : 0 ≤ x % n ∧ x % n ≤ 65535 ∧ (n ≤ 1 → x % n = 0) ∧ (1 < n → x % n < n) := by
  have := emod_bd h0 hn
  omega
theorem curNext_p (code : Tx) (a s : Int) (h0 : 0 ≤ a) (h1 : a ≤ 4611686018427387904) : PX Try.prog 223 (CurB code a s) [] (CurR a 1 fun res => ∃ x : Int, (0 ≤ x ∧ x ≤ 255) ∧ res = .p (.c (dI x))) := by
  have hb := byt_lt code a
  refine px_intro Try.func223 rfl rfl rfl (by kernel_rfl) rfl rfl rfl ?_; intro kv
  repeat' (first | (refine so_is (.assign _) ?_; (refine so_q (qt_asC rfl) rfl ?_)) | (refine so_is (.move _) ?_; (refine so_q (qt_mvC rfl) rfl ?_)) | (refine so_is (.nilCheck _) ?_; (refine so_q (qt_nilCheck_lp rfl) rfl ?_)) | (refine so_is (.fieldAddr 104 _ 1) ?_; (refine so_q (qt_fld_lp (off := 1) rfl (by kernel_rfl)) rfl ?_)) | (refine so_is (.load 3 _) ?_; (refine so_q (qt_load_box rfl rfl (by kernel_rfl) rfl) rfl ?_)) | (refine so_is (.fieldAddr 104 _ 0) ?_; (refine so_q (qt_fld_lp (off := 0) rfl (by kernel_rfl)) rfl ?_)) | (refine so_is (.load 22 _) ?_; (refine so_q (qt_load_same rfl rfl (by kernel_rfl) rfl) rfl ?_)) | (refine so_is (.call ⟨.builtin .len, _, #[22]⟩) ?_; (refine so_q (qt_len_d rfl (by kernel_rfl)) rfl ?_)) | (refine so_is (.binOp .lss 3 _ _ _) ?_; refine so_q (qt_lss rfl rfl) rfl ?_) | (refine so_is (.indexAddr 22 _ _) ?_; (refine so_q (qt_idxY rfl rfl (by kernel_rfl) (by (omega)) (by (omega))) rfl ?_)) | (refine so_is (.load 5 _) ?_; (refine so_q (qt_load_pt rfl (by kernel_rfl) rfl) rfl ?_)) | (refine so_is (.convert 5 3 _) ?_; (refine so_q (qt_convI (k' := .i64) rfl (by kernel_rfl) (by kernel_rfl) (by (exact IntWalk.i64_in _ (by (omega))))) rfl ?_)) | (refine so_is (.binOp .add 3 _ _ _) ?_; refine so_q (qt_addI rfl rfl (by (omega))) rfl ?_) | (refine so_is (.store 3 _ _) ?_; (refine so_store_box1 rfl rfl rfl rfl (by kernel_rfl) rfl rfl ?_)) | (refine so_is (.fieldAddr 104 _ 2) ?_; (refine so_q (qt_fld_lp (off := 2) rfl (by kernel_rfl)) rfl ?_)) | (refine so_is (.load 102 _) ?_; (refine so_q (qt_load_box rfl rfl (by kernel_rfl) rfl) rfl ?_)) | (refine so_is (.binOp .mul 102 _ _ _) ?_; refine so_q (qt_mul rfl rfl) rfl ?_) | (refine so_is (.convert 3 102 _) ?_; (refine so_q (qt_convI (k' := .u64) rfl (by kernel_rfl) (by kernel_rfl) (by (first | rfl | exact wrapU64 (by (omega))))) rfl ?_)) | (refine so_is (.binOp .add 102 _ _ _) ?_; refine so_q (qt_add rfl rfl) rfl ?_) | (refine so_is (.store 102 _ _) ?_; (refine so_store_box1 rfl rfl rfl rfl (by kernel_rfl) rfl rfl ?_)) | (refine so_is (.binOp .leq 3 _ _ _) ?_; refine so_q (qt_leq rfl rfl) rfl ?_) | (refine so_is (.binOp .shr 102 _ _ _) ?_; refine so_q (qt_shrC (c := 1099511627776) rfl rfl (by decide)) rfl ?_) | (refine so_is (.binOp .and 102 _ _ _) ?_; refine so_q (qt_andMU 8 (c := 256) rfl rfl (by decide)) rfl ?_) | (refine so_is (.convert 102 3 _) ?_; (refine so_q (qt_convI (k' := .i64) rfl (by kernel_rfl) (by kernel_rfl) (by (exact IntWalk.i64_in _ (by (omega))))) rfl ?_)) | refine so_nil ?_ | refine sk_seq ?_ | refine sk_skip ?_ | refine sk_region ?_ | refine sk_drawQ 2 (fun _ => false) (.step 0 true (.step 1 true (.step 2 true (.step 3 true (.step 4 true (.step 5 true (.step 6 true (.step 7 true (.step 8 true (.step 9 true .nil)))))))))) [(0, 1023, 1023, true), (1, 1022, 1023, true), (2, 1021, 1023, true), (4, 1019, 1023, false), (0, 1023, 1023, true), (16, 1007, 1023, true), (32, 991, 1023, true), (64, 959, 1023, false), (128, 895, 1023, true), (264, 759, 1023, true)] (by kernel_rfl) (by kernel_rfl) ?_ | refine sk_drawQ 3 (fun _ => false) (.step 0 true (.step 1 true (.step 2 true (.step 3 true (.step 4 true (.step 5 true (.step 6 true (.step 7 true (.step 8 true (.step 9 true (.step 10 true (.step 11 true .nil)))))))))))) [(0, 4095, 4095, true), (1, 4094, 4095, true), (2, 4093, 4095, true), (4, 4091, 4095, false), (0, 4095, 4095, true), (16, 4079, 4095, true), (32, 4063, 4095, true), (64, 4031, 4095, false), (136, 3959, 4095, true), (256, 3839, 4095, false), (512, 3583, 4095, true), (2047, 3071, 4095, true)] (by kernel_rfl) (by kernel_rfl) ?_ | refine sk_drawQ 6 (fun _ => false) (.step 0 true (.step 1 true (.step 2 true (.step 3 true (.step 4 true (.step 5 true (.step 6 true (.step 7 true (.step 8 true (.step 9 true .nil)))))))))) [(0, 1023, 1023, true), (1, 1022, 1023, true), (2, 1021, 1023, true), (4, 1019, 1023, false), (0, 1023, 1023, true), (16, 1007, 1023, true), (32, 991, 1023, true), (64, 959, 1023, false), (128, 895, 1023, true), (264, 759, 1023, true)] (by kernel_rfl) (by kernel_rfl) ?_ | refine sk_if rfl (fun hc => ?_) (fun hc => ?_))
  all_goals (apply sk_xret; (· (apply RetX.p; (· rfl); (· (repeat (first | exact BxO.nil _ | apply BxO.k | (apply BxO.o; (· (exact .lit _)))))); (· (apply GvA.cons; (· exact .tmp _); (· exact GvP.c (.lit _))); exact GvA.nil); (· (decide)))))
  all_goals exact ⟨_, _, by omega, rfl, _, by omega, rfl⟩
theorem curPick_p (code : Tx) (a s n : Int) (h0 : 0 ≤ a) (h1 : a ≤ 4611686018427387000) : PX Try.prog 180 (CurB code a s) [.v (.c (dI n))] (CurR a 2 fun res => ∃ x : Int, (0 ≤ x ∧ x ≤ 65535 ∧ (n ≤ 1 → x = 0) ∧ (1 < n → x < n)) ∧ res = .p (.c (dI x))) := by
  refine px_intro Try.func180 rfl rfl rfl (by kernel_rfl) rfl rfl rfl ?_; intro kv
  repeat' (first | (refine so_is (.assign _) ?_; (refine so_q (qt_asC rfl) rfl ?_)) | (refine so_is (.move _) ?_; (refine so_q (qt_mvC rfl) rfl ?_)) | (refine so_is (.binOp .leq 3 _ _ _) ?_; refine so_q (qt_leq rfl rfl) rfl ?_) | (refine so_is (.binOp .gtr 3 _ _ _) ?_; refine so_q (qt_gtr rfl rfl) rfl ?_) | (refine so_is (.binOp .mul 3 _ _ _) ?_; refine so_q (qt_mulI rfl rfl (by (omega))) rfl ?_) | (refine so_is (.binOp .add 3 _ _ _) ?_; refine so_q (qt_addI rfl rfl (by (omega))) rfl ?_) | (refine so_is (.binOp .rem 3 _ _ _) ?_; (refine so_q (qt_remN rfl rfl (by (omega)) (by (omega)) (by (omega))) rfl ?_)) | (refine so_is (.call ⟨.value (.func 223), _, _⟩) ?_; (apply so_callX (fid := 223); (· rfl); (· rfl); (· (repeat (first | exact BxI.nil | apply BxI.ks | (apply BxI.o; (· (exact .lit _)))))); (· (repeat (exact ArX.nil))); (· (decide)); (· (decide)); (· exact curNext_p code _ _ (by omega) (by omega)); (· rfl); (· (intro b hb1 hb2; omega)); (· rfl); (rintro _ _ ⟨a1, s1, ha1, rfl, x1, hx1, rfl⟩; refine ⟨(by first | rfl | simp [*]), ?_⟩))) | refine so_nil ?_ | refine sk_seq ?_ | refine sk_skip ?_ | refine sk_region ?_ | refine sk_if rfl (fun hc => ?_) (fun hc => ?_))
  all_goals (apply sk_xret; (· (apply RetX.p; (· rfl); (· (repeat (first | exact BxO.nil _ | apply BxO.k | (apply BxO.o; (· (exact .lit _)))))); (· (apply GvA.cons; (· exact .tmp _); (· exact GvP.c (.lit _))); exact GvA.nil); (· (decide)))))
  · exact ⟨_, _, by omega, rfl, _, by omega, rfl⟩
  · exact ⟨_, _, by omega, rfl, _, pick_bd (by omega) (by omega) (by omega), rfl⟩
  · exact ⟨_, _, by omega, rfl, _, pick_bd (by omega) (by omega) (by omega), rfl⟩
theorem curOne_p (code : Tx) (a s n : Int) (h0 : 0 ≤ a) (h1 : a ≤ 4611686018427387000) : PX Try.prog 88 (CurB code a s) [.v (.c (dI n))] (CurR a 2 fun res => ∃ b : Bool, res = .p (.c (dB b))) := by
  refine px_intro Try.func88 rfl rfl rfl (by kernel_rfl) rfl rfl rfl ?_; intro kv
  repeat' (first | (refine so_is (.assign _) ?_; (refine so_q (qt_asC rfl) rfl ?_)) | (refine so_is (.move _) ?_; (refine so_q (qt_mvC rfl) rfl ?_)) | (refine so_is (.binOp .eql 3 _ _ _) ?_; refine so_q (qt_eql rfl rfl) rfl ?_) | (refine so_is (.call ⟨.value (.func 180), _, _⟩) ?_; (apply so_callX (fid := 180); (· rfl); (· rfl); (· (repeat (first | exact BxI.nil | apply BxI.ks | (apply BxI.o; (· (exact .lit _)))))); (· (repeat (first | exact ArX.nil | apply ArX.v (.c (.d _))))); (· (decide)); (· (decide)); (· exact curPick_p code _ _ _ (by omega) (by omega)); (· rfl); (· (intro b hb1 hb2; omega)); (· rfl); (rintro _ _ ⟨a1, s1, ha1, rfl, x1, hx1, rfl⟩; refine ⟨(by first | rfl | simp [*]), ?_⟩))) | refine so_nil ?_ | refine sk_seq ?_ | refine sk_region ?_)
  all_goals (apply sk_xret; (· (apply RetX.p; (· rfl); (· (repeat (first | exact BxO.nil _ | apply BxO.k | (apply BxO.o; (· (exact .lit _)))))); (· (apply GvA.cons; (· exact .tmp _); (· exact GvP.c (.lit _))); exact GvA.nil); (· (decide)))))
  all_goals exact ⟨_, _, by omega, rfl, _, rfl⟩
theorem mem_at {α : Type} [Inhabited α] {l : List α} {x : Int} (h0 : 0 ≤ x) (h1 : x < l.length) : atZ l x ∈ l := List.mem_of_getElem? (atZ_some h0 h1)
theorem curAmong_p (code : Tx) (a s : Int) (l : List Int) (hl : 0 < l.length) (h0 : 0 ≤ a) (h1 : a ≤ 4611686018427387000) : PX Try.prog 139 (CurB code a s) [.v (.c (eI l))] (CurR a 2 fun res => ∃ t : Int, t ∈ l ∧ res = .p (.c (dI t))) := by
  refine px_intro Try.func139 rfl rfl rfl (by kernel_rfl) rfl rfl rfl ?_; intro kv
  repeat' (first | (refine so_is (.assign _) ?_; (refine so_q (qt_asC rfl) rfl ?_)) | (refine so_is (.move _) ?_; (refine so_q (qt_mvC rfl) rfl ?_)) | (refine so_is (.call ⟨.builtin .len, _, #[24]⟩) ?_; (refine so_q (qt_len_d rfl (by kernel_rfl)) rfl ?_)) | (refine so_is (.indexAddr 24 _ _) ?_; (refine so_q (qt_idxI rfl rfl (by kernel_rfl) (by (omega)) (by (omega))) rfl ?_)) | (refine so_is (.load 3 _) ?_; (refine so_q (qt_load_pt rfl (by kernel_rfl) rfl) rfl ?_)) | (refine so_is (.call ⟨.value (.func 180), _, _⟩) ?_; (apply so_callX (fid := 180); (· rfl); (· rfl); (· (repeat (first | exact BxI.nil | apply BxI.ks | (apply BxI.o; (· (exact .lit _)))))); (· (repeat (first | exact ArX.nil | apply ArX.v (.c (.d _))))); (· (decide)); (· (decide)); (· exact curPick_p code _ _ _ (by omega) (by omega)); (· rfl); (· (intro b hb1 hb2; omega)); (· rfl); (rintro _ _ ⟨a1, s1, ha1, rfl, x1, hx1, rfl⟩; refine ⟨(by first | rfl | simp [*]), ?_⟩))) | refine so_nil ?_ | refine sk_seq ?_ | refine sk_region ?_)
  all_goals (apply sk_xret; (· (apply RetX.p; (· rfl); (· (repeat (first | exact BxO.nil _ | apply BxO.k | (apply BxO.o; (· (exact .lit _)))))); (· (apply GvA.cons; (· exact .tmp _); (· exact GvP.c (.lit _))); exact GvA.nil); (· (decide)))))
  all_goals exact ⟨_, _, by omega, rfl, _, mem_at (by omega) (by omega), rfl⟩
theorem curAmongD_p (code : Tx) (a s : Int) (n : Nat) (ds : List D) (Q : Int → Prop) (hn : n = ds.length) (h2 : 0 < n) (h : ∀ x ∈ ds, ∃ t : Int, x = dI t ∧ Q t) (h0 : 0 ≤ a) (h1 : a ≤ 4611686018427387000) : PX Try.prog 139 (CurB code a s) [.v (.c (.sl 1 n ds))] (CurR a 2 fun res => ∃ t : Int, Q t ∧ res = .p (.c (dI t))) := by
  have : ∃ l : List Int, ds = l.map dI ∧ ∀ t ∈ l, Q t := by
    clear hn h2
    induction ds with
    | nil => exact ⟨[], rfl, fun t ht => by cases ht⟩
    | cons x ds ih =>
      obtain ⟨t, e, ht⟩ := h x (List.mem_cons_self ..)
      obtain ⟨l, e2, hl⟩ := ih fun y hy => h y (List.mem_cons_of_mem _ hy)
      exact ⟨t :: l, by rw [List.map_cons, e, e2], fun u hu => by rcases List.mem_cons.1 hu with e3 | hu; rw [e3]; exact ht; exact hl u hu⟩
  obtain ⟨l, rfl, hl⟩ := this
  rw [List.length_map] at hn
  subst hn
  refine (curAmong_p code a s l h2 h0 h1).mono ?_
  rintro ds res ⟨a1, s1, ha, rfl, t, ht, rfl⟩
  exact ⟨_, _, ha, rfl, t, hl t ht, rfl⟩

end Go.Proofs.Ytefbiejoikpkmaa

namespace Go.Proofs.Ytefbiejoikpkmaa
open Go.RowKit
set_option linter.unusedSectionVars false
variable [Glb]
set_option maxRecDepth 10000
set_option maxHeartbeats 4000000
theorem l1Most_p (a b : Int) : PC Try.prog 222 [.c (dI a), .c (dI b)] (.p (.c (dI (max a b)))) := by
  refine pc_intro Try.func222 rfl rfl rfl (by kernel_rfl) rfl rfl ?_; intro _
  repeat' (first | (refine so_is (.assign _) ?_; (refine so_q (qt_asC rfl) rfl ?_)) | (refine so_is (.move _) ?_; (refine so_q (qt_mvC rfl) rfl ?_)) | (refine so_is (.binOp .gtr 3 _ _ _) ?_; refine so_q (qt_gtr rfl rfl) rfl ?_) | refine so_nil ?_ | refine sk_seq ?_ | refine sk_skip ?_ | refine sk_region ?_ | refine sk_if rfl (fun hc => ?_) (fun hc => ?_))
  all_goals (apply sk_ret; apply ret_eq; (· apply RetOK.p; (· (apply GvA.cons; (· exact .tmp _); (· exact GvP.c (.lit _))); exact GvA.nil); (· (decide))))
  all_goals simp
  all_goals omega

end Go.Proofs.Ytefbiejoikpkmaa

namespace Go.Proofs.Ytefbiejoikpkmaa
open Go.RowKit
set_option linter.unusedSectionVars false
variable [Glb]
set_option maxRecDepth 10000
set_option maxHeartbeats 4000000
theorem l1Least_p (a b : Int) : PC Try.prog 221 [.c (dI a), .c (dI b)] (.p (.c (dI (min a b)))) := by
  refine pc_intro Try.func221 rfl rfl rfl (by kernel_rfl) rfl rfl ?_; intro _
  repeat' (first | (refine so_is (.assign _) ?_; (refine so_q (qt_asC rfl) rfl ?_)) | (refine so_is (.move _) ?_; (refine so_q (qt_mvC rfl) rfl ?_)) | (refine so_is (.binOp .lss 3 _ _ _) ?_; refine so_q (qt_lss rfl rfl) rfl ?_) | refine so_nil ?_ | refine sk_seq ?_ | refine sk_skip ?_ | refine sk_region ?_ | refine sk_if rfl (fun hc => ?_) (fun hc => ?_))
  all_goals (apply sk_ret; apply ret_eq; (· apply RetOK.p; (· (apply GvA.cons; (· exact .tmp _); (· exact GvP.c (.lit _))); exact GvA.nil); (· (decide))))
  all_goals simp [Int.min_def]
  all_goals omega

end Go.Proofs.Ytefbiejoikpkmaa

namespace Go.Proofs.Ytefbiejoikpkmaa
open Go.RowKit
set_option linter.unusedSectionVars false
variable [Glb]
set_option maxRecDepth 10000
set_option maxHeartbeats 4000000
theorem l2Near_p (n : Int) : PC Try.prog 179 [.c (dI n)] (.p (.c (dI (min (max n 0) 4)))) := by
  refine pc_intro Try.func179 rfl rfl rfl (by kernel_rfl) rfl rfl ?_; intro _
  repeat' (first | (refine so_is (.assign _) ?_; (refine so_q (qt_asC rfl) rfl ?_)) | (refine so_is (.move _) ?_; (refine so_q (qt_mvC rfl) rfl ?_)) | (refine so_is (.call ⟨.value (.func 222), _, _⟩) ?_; (apply so_call0 (fid := 222); (· (repeat (first | exact SeA.nil | apply SeA.cons (.c (.d _))))); (· exact l1Most_p _ _); (· rfl))) | (refine so_is (.call ⟨.value (.func 221), _, _⟩) ?_; (apply so_call0 (fid := 221); (· (repeat (first | exact SeA.nil | apply SeA.cons (.c (.d _))))); (· exact l1Least_p _ _); (· rfl))) | refine so_nil ?_ | refine sk_seq ?_ | refine sk_region ?_)
  all_goals (apply sk_ret; apply ret_eq; (· apply RetOK.p; (· (apply GvA.cons; (· exact .tmp _); (· exact GvP.c (.lit _))); exact GvA.nil); (· (decide))))
  all_goals rfl
theorem curAmongB_p (code : Tx) (a s : Int) (n : Nat) (ds : List D) (lo hi : Int) (hn : n = ds.length) (h2 : 0 < n) (h : ∀ x ∈ ds, ∃ t : Int, x = dI t ∧ (lo ≤ t ∧ t ≤ hi)) (h0 : 0 ≤ a) (h1 : a ≤ 4611686018427387000) : PX Try.prog 139 (CurB code a s) [.v (.c (.sl 1 n ds))] (CurR a 2 fun res => ∃ t : Int, (lo ≤ t ∧ t ≤ hi) ∧ res = .p (.c (dI t))) :=
  curAmongD_p code a s n ds (fun t => lo ≤ t ∧ t ≤ hi) hn h2 h h0 h1
theorem curSizes_p (code : Tx) (a s : Int) (h0 : 0 ≤ a) (h1 : a ≤ 4611686018427386000) : PX Try.prog 178 (CurB code a s) [] (CurR a 10 fun res => ∃ x y : Int, ((-1 ≤ x ∧ x ≤ 4611686018427387904) ∧ -1 ≤ y ∧ y ≤ 4611686018427387904) ∧ res = .t [.c (dI x), .c (dI y)]) := by
  refine px_intro Try.func178 rfl rfl rfl (by kernel_rfl) rfl rfl rfl ?_; intro kv
  repeat' (first | (refine so_is (.assign _) ?_; (refine so_q (qt_asC rfl) rfl ?_)) | (refine so_is (.move _) ?_; (refine so_q (qt_mvC rfl) rfl ?_)) | (refine so_is (.buildSlice 24 4 _) ?_; (apply so_bslice (sz := 1) (by_ := 8); (· kernel_rfl); (· decide); (· (repeat (first | exact GvS.nil _ | apply GvS.c rfl rfl (.lit _) rfl))); (· (decide)); (· rfl); (· rfl); (· rfl))) | (refine so_is (.call ⟨.value (.func 139), _, _⟩) ?_; (first | (apply so_callX (d := 10) (fid := 139); (· rfl); (· rfl); (· (repeat (first | exact BxI.nil | apply BxI.ks | (apply BxI.o; (· (exact .lit _)))))); (· (repeat (first | exact ArX.nil | apply ArX.v (.c (.row _ _ _ _ rfl (by ((simp; done)))))))); (· (decide)); (· (decide)); (· exact curAmongB_p code _ _ _ _ (-1) 4611686018427387904 rfl (by decide) (by repeat (first | exact fun x hx => absurd hx List.not_mem_nil | (refine List.forall_mem_cons.2 ⟨⟨_, rfl, by decide⟩, ?_⟩))) (by omega) (by omega)); (· rfl); (· (intro b hb1 hb2; omega)); (· rfl); (rintro _ _ ⟨a1, s1, ha1, rfl, t1, ht1, rfl⟩; refine ⟨(by first | rfl | simp [*]), ?_⟩)) | (apply so_callX (d := 13) (fid := 139); (· rfl); (· rfl); (· (repeat (first | exact BxI.nil | apply BxI.ks | (apply BxI.o; (· (exact .lit _)))))); (· (repeat (first | exact ArX.nil | apply ArX.v (.c (.row _ _ _ _ rfl (by ((simp; done)))))))); (· (decide)); (· (decide)); (· exact curAmongB_p code _ _ _ _ (-1) 4611686018427387904 rfl (by decide) (by repeat (first | exact fun x hx => absurd hx List.not_mem_nil | (refine List.forall_mem_cons.2 ⟨⟨_, rfl, by decide⟩, ?_⟩))) (by omega) (by omega)); (· rfl); (· (intro b hb1 hb2; omega)); (· rfl); (rintro _ _ ⟨a1, s1, ha1, rfl, t1, ht1, rfl⟩; refine ⟨(by first | rfl | simp [*]), ?_⟩)))) | (refine so_is (.call ⟨.value (.func 180), _, _⟩) ?_; (first | (apply so_callX (d := 15) (fid := 180); (· rfl); (· rfl); (· (repeat (first | exact BxI.nil | apply BxI.ks | (apply BxI.o; (· (exact .lit _)))))); (· (repeat (first | exact ArX.nil | apply ArX.v (.c (.d _))))); (· (decide)); (· (decide)); (· exact curPick_p code _ _ _ (by omega) (by omega)); (· rfl); (· (intro b hb1 hb2; omega)); (· rfl); (rintro _ _ ⟨a1, s1, ha1, rfl, x1, hx1, rfl⟩; refine ⟨(by first | rfl | simp [*]), ?_⟩)) | (apply so_callX (d := 18) (fid := 180); (· rfl); (· rfl); (· (repeat (first | exact BxI.nil | apply BxI.ks | (apply BxI.o; (· (exact .lit _)))))); (· (repeat (first | exact ArX.nil | apply ArX.v (.c (.d _))))); (· (decide)); (· (decide)); (· exact curPick_p code _ _ _ (by omega) (by omega)); (· rfl); (· (intro b hb1 hb2; omega)); (· rfl); (rintro _ _ ⟨a1, s1, ha1, rfl, x1, hx1, rfl⟩; refine ⟨(by first | rfl | simp [*]), ?_⟩)))) | (refine so_is (.binOp .add 3 _ _ _) ?_; refine so_q (qt_addI rfl rfl (by (omega))) rfl ?_) | (refine so_is (.call ⟨.value (.func 88), _, _⟩) ?_; (apply so_callX (fid := 88); (· rfl); (· rfl); (· (repeat (first | exact BxI.nil | apply BxI.ks | (apply BxI.o; (· (exact .lit _)))))); (· (repeat (first | exact ArX.nil | apply ArX.v (.c (.d _))))); (· (decide)); (· (decide)); (· exact curOne_p code _ _ _ (by omega) (by omega)); (· rfl); (· (intro b hb1 hb2; omega)); (· rfl); (rintro _ _ ⟨a1, s1, ha1, rfl, b1, rfl⟩; refine ⟨(by first | rfl | simp [*]), ?_⟩))) | refine so_nil ?_ | refine sk_seq ?_ | refine sk_skip ?_ | refine sk_region ?_ | refine sk_cond rfl (fun hc => ?_) (fun hc => ?_))
  all_goals (apply sk_xret; (· (apply RetX.t; (· rfl); (· (repeat (first | exact BxO.nil _ | apply BxO.k | (apply BxO.o; (· (exact .lit _)))))); (· (apply GvA.cons; (· exact .tmp _); (· exact GvP.c (.lit _))); (apply GvA.cons; (· exact .tmp _); (· exact GvP.c (.lit _))); exact GvA.nil); (· rfl); (· (decide)))))
  all_goals exact ⟨_, _, by omega, rfl, _, _, by omega, rfl⟩
/-- cells that hold numbers -/
def IsI (ds : List D) : Prop := ∃ l : List Int, ds = cI l
theorem IsI.map (l : List Int) : IsI (cI l) := ⟨l, rfl⟩
theorem IsI.nil : IsI [] := ⟨[], rfl⟩
theorem IsI.cons {k : Int} {ds : List D} (h : IsI ds) : IsI (dI k :: ds) := by obtain ⟨l, rfl⟩ := h; exact ⟨k :: l, rfl⟩
theorem IsI.app {a b : List D} (h : IsI a) (k : IsI b) : IsI (a ++ b) := by obtain ⟨l, rfl⟩ := h; obtain ⟨m, rfl⟩ := k; exact ⟨l ++ m, by simp⟩
theorem IsI.set {k : Int} {ds : List D} {i : Nat} (h : IsI ds) : IsI (ds.set i (dI k)) := by obtain ⟨l, rfl⟩ := h; exact ⟨l.set i k, by simp⟩
theorem IsI.take {ds : List D} {i : Nat} (h : IsI ds) : IsI (ds.take i) := by obtain ⟨l, rfl⟩ := h; exact ⟨l.take i, by simp⟩
theorem IsI.drop {ds : List D} {i : Nat} (h : IsI ds) : IsI (ds.drop i) := by obtain ⟨l, rfl⟩ := h; exact ⟨l.drop i, by simp⟩
theorem IsI.rep {k : Int} {n : Nat} : IsI (List.replicate n (dI k)) := ⟨List.replicate n k, by simp⟩
theorem IsI.sl {n : Nat} {ds : List D} (h : IsI ds) (hn : ds.length = n) : ∃ l : List Int, l.length = n ∧ D.sl 1 n ds = eI l := by
  obtain ⟨l, rfl⟩ := h
  rw [List.length_map] at hn
  exact ⟨l, hn, by rw [← hn]⟩
theorem IsI.res {n m : Nat} {ds : List D} (h : IsI ds) (hn : ds.length = n) (hm : n ≤ m) : ∃ l : List Int, l.length ≤ m ∧ Res.p (.c (D.sl 1 n ds)) = .p (.c (eI l)) := by
  obtain ⟨l, h1, h2⟩ := h.sl hn
  exact ⟨l, by omega, by rw [h2]⟩
theorem curPlay_p (code : Tx) (a s x y : Int) (h0 : 0 ≤ a) (h1 : a ≤ 4611686018427385000) : PX Try.prog 84 (CurB code a s) [.v (.c (dI x)), .v (.c (dI y))] (CurR a 100 fun res => ∃ l : List Int, l.length ≤ 9 ∧ res = .p (.c (eI l))) := by
  refine px_intro Try.func84 rfl rfl rfl (by kernel_rfl) rfl rfl rfl ?_; intro kv
  repeat' (first | (refine so_is (.assign _) ?_; (refine so_q (qt_asC rfl) rfl ?_)) | (refine so_is (.buildSlice 24 0 _) ?_; (apply so_bslice (sz := 1) (by_ := 8); (· kernel_rfl); (· decide); (· (repeat (exact GvS.nil _))); (· (decide)); (· rfl); (· rfl); (· rfl))) | refine so_nil ?_ | refine sk_seq ?_ | refine sk_block ?_ | refine sk_region ?_)
  apply sk_packC [0, 1, 2, 7, 8] [9, 22, 23, 37, 43, 44, 800000000] rfl; (· (repeat (first | exact Pf.nil | apply Pf.cons (.c rfl (.d rfl)) | apply Pf.cons (.c rfl (.ls rfl)) | apply Pf.cons (.c rfl (.lp rfl))))); (· (repeat (first | exact Pb.nil | apply Pb.cons (.row rfl) | (apply Pb.cons; (· apply Nb.box rfl; (repeat (first | exact Ncs.nil rfl | (apply Ncs.cons rfl; (· (exact .d rfl))))))) | apply Pb.skip)))
  refine sk_loopL [0, 1, 2] [22, 23, 37, 43, 44] (fun g : List Int × Int × Int => [(8, iN g.1.length), (7, .c (.ls 9 1 0 g.1.length))]) (fun g => [(800000000, .box [.d (.same (kv 0) (eB code)), .d (dI g.2.1), .d (dW g.2.2)]), (9, .row 1 (cI g.1))]) (fun g => g.1.length ≤ 8 ∧ a ≤ g.2.1 ∧ g.2.1 ≤ a + 2 * g.1.length) (fun g => 9 - g.1.length) (([], a, s)) ?_ (by (repeat (first | exact trivial | refine ⟨(by (rfl)), ?_⟩))) (by (repeat (first | exact trivial | refine ⟨(by (first | (refine row_eq rfl ?_; simp; done) | (refine box_eq rfl ?_; simp; done))), ?_⟩))) ?_
  · dsimp only; simp
  rintro ⟨L, a2, s2⟩ hL
  dsimp only at hL ⊢
  by_cases hL8 : (L.length : Int) < min (max x 0) 4 + min (max y 0) 4
  · repeat' (first | (refine so_is (.assign _) ?_; (refine so_q (qt_asC rfl) rfl ?_)) | (refine so_is (.move _) ?_; (refine so_q (qt_mvC rfl) rfl ?_)) | (refine so_is (.binOp .add 3 _ _ _) ?_; refine so_q (qt_addI rfl rfl (by (omega))) rfl ?_) | (refine so_is (.binOp .lss 3 _ _ _) ?_; refine so_q (qt_lss rfl rfl) rfl ?_) | (refine so_is (.buildSlice 24 1 _) ?_; (apply so_bslice (sz := 1) (by_ := 8); (· kernel_rfl); (· decide); (· (repeat (first | exact GvS.nil _ | apply GvS.c rfl rfl (.lit _) rfl))); (· (decide)); (· rfl); (· rfl); (· rfl))) | (refine so_is (.call ⟨.builtin .append, _, #[24, 24]⟩) ?_; ((apply so_appR (sz := 1) (by_ := 8); (· rfl); (· rfl); (· ((simp; done))); (· exact .row _ _ _ _ rfl (by ((simp; done)))); (· (decide)); (· kernel_rfl); (· decide); (· (omega)); (· (omega)); (· rfl); (· rfl); (· rfl)))) | (refine so_is (.call ⟨.builtin .len, _, #[24]⟩) ?_; (refine so_q (qt_len_ls rfl (by kernel_rfl)) rfl ?_)) | (refine so_is (.binOp .gtr 3 _ _ _) ?_; refine so_q (qt_gtr rfl rfl) rfl ?_) | (refine so_is (.pick _ _ _) ?_; (refine so_q (qt_pkC rfl rfl) rfl ?_)) | (refine so_is (.call ⟨.value (.func 179), _, _⟩) ?_; (apply so_call0 (fid := 179); (· (repeat (first | exact SeA.nil | apply SeA.cons (.c (.d _))))); (· exact l2Near_p _); (· rfl))) | (refine so_is (.call ⟨.value (.func 180), _, _⟩) ?_; (apply so_callX (fid := 180); (· rfl); (· rfl); (· (repeat (first | exact BxI.nil | apply BxI.ks | (apply BxI.o; (· (exact .lit _)))))); (· (repeat (first | exact ArX.nil | apply ArX.v (.c (.d _))))); (· (decide)); (· (decide)); (· exact curPick_p code _ _ _ (by omega) (by omega)); (· rfl); (· (intro b hb1 hb2; omega)); (· rfl); (rintro _ _ ⟨a3, s3, ha3, rfl, x3, hx3, rfl⟩; refine ⟨(by first | rfl | simp [*]), ?_⟩))) | refine so_nil ?_ | refine so_g_no rfl rfl rfl rfl ?_ | refine so_g_yes rfl rfl rfl rfl ?_ | refine so_g_if rfl rfl (fun hg => ?_) (fun hg => ?_) | refine sk_seq ?_ | refine sk_block ?_ | refine sk_blk ?_ | refine sk_exit rfl ?_ | refine sk_skip ?_ | refine sk_region ?_ | refine sk_false rfl ?_ | refine sk_if rfl (fun hc => ?_) (fun hc => ?_))
    all_goals first | (exfalso; omega) | skip
    refine sk_back ?_; refine ⟨(L ++ [x3], a3, s3), ?_, ?_, le_at rfl (by (repeat (first | exact trivial | refine ⟨(by (first | (refine int_eq rfl ?_; ((simp; done))) | (refine ls_eq rfl ?_; ((simp; done))))), ?_⟩))) (by (repeat (first | exact trivial | refine ⟨rfl, ?_⟩))) (by (repeat (first | exact trivial | refine ⟨(by (first | (refine row_eq rfl ?_; simp; done) | rfl)), ?_⟩))) (by (repeat (first | exact trivial | refine ⟨.inr rfl, ?_⟩)))⟩
    · dsimp only
      rw [List.length_append, List.length_singleton]
      omega
    · dsimp only
      rw [List.length_append, List.length_singleton]
      omega
  · repeat' (first | (refine so_is (.assign _) ?_; (refine so_q (qt_asC rfl) rfl ?_)) | (refine so_is (.move _) ?_; (refine so_q (qt_mvC rfl) rfl ?_)) | (refine so_is (.binOp .add 3 _ _ _) ?_; refine so_q (qt_addI rfl rfl (by (omega))) rfl ?_) | (refine so_is (.binOp .lss 3 _ _ _) ?_; refine so_q (qt_lss rfl rfl) rfl ?_) | (refine so_is (.buildSlice 24 1 _) ?_; (apply so_bslice (sz := 1) (by_ := 8); (· kernel_rfl); (· decide); (· (repeat (first | exact GvS.nil _ | apply GvS.c rfl rfl (.lit _) rfl))); (· (decide)); (· rfl); (· rfl); (· rfl))) | (refine so_is (.call ⟨.builtin .append, _, #[24, 24]⟩) ?_; ((apply so_appR (sz := 1) (by_ := 8); (· rfl); (· rfl); (· ((simp; done))); (· exact .row _ _ _ _ rfl (by ((simp; done)))); (· (decide)); (· kernel_rfl); (· decide); (· (omega)); (· (omega)); (· rfl); (· rfl); (· rfl)))) | (refine so_is (.call ⟨.builtin .len, _, #[24]⟩) ?_; (refine so_q (qt_len_ls rfl (by kernel_rfl)) rfl ?_)) | (refine so_is (.binOp .gtr 3 _ _ _) ?_; refine so_q (qt_gtr rfl rfl) rfl ?_) | (refine so_is (.call ⟨.value (.func 88), _, _⟩) ?_; (first | (apply so_callX (d := 29) (fid := 88); (· rfl); (· rfl); (· (repeat (first | exact BxI.nil | apply BxI.ks | (apply BxI.o; (· (exact .lit _)))))); (· (repeat (first | exact ArX.nil | apply ArX.v (.c (.d _))))); (· (decide)); (· (decide)); (· exact curOne_p code _ _ _ (by omega) (by omega)); (· rfl); (· (intro b hb1 hb2; omega)); (· rfl); (rintro _ _ ⟨a3, s3, ha3, rfl, b3, rfl⟩; refine ⟨(by first | rfl | simp [*]), ?_⟩)) | (apply so_callX (d := 41) (fid := 88); (· rfl); (· rfl); (· (repeat (first | exact BxI.nil | apply BxI.ks | (apply BxI.o; (· (exact .lit _)))))); (· (repeat (first | exact ArX.nil | apply ArX.v (.c (.d _))))); (· (decide)); (· (decide)); (· exact curOne_p code _ _ _ (by omega) (by omega)); (· rfl); (· (intro b hb1 hb2; omega)); (· rfl); (rintro _ _ ⟨a3, s3, ha3, rfl, b3, rfl⟩; refine ⟨(by first | rfl | simp [*]), ?_⟩)))) | (refine so_is (.pick _ _ _) ?_; (refine so_q (qt_pkC rfl rfl) rfl ?_)) | (refine so_is (.call ⟨.value (.func 180), _, _⟩) ?_; (apply so_callX (d := 35) (fid := 180); (· rfl); (· rfl); (· (repeat (first | exact BxI.nil | apply BxI.ks | (apply BxI.o; (· (exact .lit _)))))); (· (repeat (first | exact ArX.nil | apply ArX.v (.c (.d _))))); (· (decide)); (· (decide)); (· exact curPick_p code _ _ _ (by omega) (by omega)); (· rfl); (· (intro b hb1 hb2; omega)); (· rfl); (rintro _ _ ⟨a3, s3, ha3, rfl, x3, hx3, rfl⟩; refine ⟨(by first | rfl | simp [*]), ?_⟩))) | (refine so_is (.buildSlice 24 3 _) ?_; (apply so_bslice (sz := 1) (by_ := 8); (· kernel_rfl); (· decide); (· (repeat (first | exact GvS.nil _ | apply GvS.c rfl rfl (.lit _) rfl))); (· (decide)); (· rfl); (· rfl); (· rfl))) | (refine so_is (.call ⟨.value (.func 139), _, _⟩) ?_; (apply so_callX (fid := 139); (· rfl); (· rfl); (· (repeat (first | exact BxI.nil | apply BxI.ks | (apply BxI.o; (· (exact .lit _)))))); (· (repeat (first | exact ArX.nil | apply ArX.v (.c (.row _ _ _ _ rfl (by ((simp; done)))))))); (· (decide)); (· (decide)); (· exact curAmongD_p code _ _ _ _ (fun _ => True) rfl (by decide) (by repeat (first | exact fun x hx => absurd hx List.not_mem_nil | (refine List.forall_mem_cons.2 ⟨⟨_, rfl, trivial⟩, ?_⟩))) (by omega) (by omega)); (· rfl); (· (intro b hb1 hb2; omega)); (· rfl); (rintro _ _ ⟨a3, s3, ha3, rfl, k6, -, rfl⟩; refine ⟨(by first | rfl | simp [*]), ?_⟩))) | (refine so_is (.indexAddr 24 _ _) ?_; (refine so_q (qt_idx_ls rfl rfl (by kernel_rfl : tSl _ 24 1 = true) (by (omega)) (by (omega))) rfl ?_)) | (refine so_is (.store 3 _ _) ?_; ((refine so_store_row rfl rfl rfl rfl (.lit _) (by simp) (by simp) (by kernel_rfl) (by ((simp only [List.length_map, List.length_append, List.length_replicate, fillL_len, rowF_len, gridF_len, mkI_len, mkII_len, partZ_min] at *; omega))) rfl ?_; simp only [St.drop]))) | (refine so_is (.call ⟨.value (.func 179), _, _⟩) ?_; (apply so_call0 (fid := 179); (· (repeat (first | exact SeA.nil | apply SeA.cons (.c (.d _))))); (· exact l2Near_p _); (· rfl))) | refine so_nil ?_ | refine so_g_no rfl rfl rfl rfl ?_ | refine so_g_yes rfl rfl rfl rfl ?_ | refine so_g_if rfl rfl (fun hg => ?_) (fun hg => ?_) | refine sk_seq ?_ | refine sk_block ?_ | refine sk_exit rfl ?_ | refine sk_skip ?_ | refine sk_region ?_ | refine sk_false rfl ?_ | refine sk_if rfl (fun hc => ?_) (fun hc => ?_) | refine sk_cond rfl (fun hc => ?_) (fun hc => ?_))
    all_goals first | (exfalso; omega) | skip
    all_goals (apply sk_xret; (· (apply RetX.p; (· rfl); (· (repeat (first | exact BxO.nil _ | apply BxO.k | (apply BxO.o; (· (exact .lit _)))))); (· (apply GvA.cons; (· exact .tmp _); (· (exact GvP.c (.row _ _ _ _ rfl (by ((simp; done))))))); exact GvA.nil); (· (decide)))))
    all_goals
      refine ⟨_, _, by omega, rfl, IsI.res ?_ (by simp) (by (try simp only [List.length_append, List.length_singleton]); omega)⟩
      repeat (first | exact IsI.map _ | exact IsI.nil | apply IsI.cons | apply IsI.set | apply IsI.app)
theorem near_mul (x y : Int) : ∃ N : Nat, min (max x 0) 4 * min (max y 0) 4 = (N : Int) ∧ N ≤ 16 := by
  have h1 : 0 ≤ min (max x 0) 4 * min (max y 0) 4 := Int.mul_nonneg (by omega) (by omega)
  have h2 : min (max x 0) 4 * min (max y 0) 4 ≤ 4 * 4 := Int.mul_le_mul (by omega) (by omega) (by omega) (by omega)
  exact ⟨(min (max x 0) 4 * min (max y 0) 4).toNat, by omega, by omega⟩
def GameX (x y : Int) (res : Res) : Prop := ∃ (ws : List Int) (wi : List (List Int)), (ws.length ≤ 16 ∧ wi.length ≤ 16) ∧ res = .p (.g [dI x, dI y, eI ws, eII wi])
def IsII (ds : List D) : Prop := ∃ l : List (List Int), ds = cII l
theorem IsII.map (l : List (List Int)) : IsII (cII l) := ⟨l, rfl⟩
theorem IsII.set {n : Nat} {es ds : List D} {i : Nat} (h : IsII ds) (he : IsI es) (hn : es.length = n) : IsII (ds.set i (.sl 1 n es)) := by
  obtain ⟨l, rfl⟩ := h
  obtain ⟨m, _, e⟩ := he.sl hn
  rw [e]
  exact ⟨l.set i m, by simp⟩
theorem IsII.take {ds : List D} {i : Nat} (h : IsII ds) : IsII (ds.take i) := by obtain ⟨l, rfl⟩ := h; exact ⟨l.take i, by simp⟩
theorem IsII.drop {ds : List D} {i : Nat} (h : IsII ds) : IsII (ds.drop i) := by obtain ⟨l, rfl⟩ := h; exact ⟨l.drop i, by simp⟩
theorem IsII.sl {n : Nat} {ds : List D} (h : IsII ds) (hn : ds.length = n) : ∃ l : List (List Int), l.length = n ∧ D.sl 1 n ds = eII l := by
  obtain ⟨l, rfl⟩ := h
  rw [List.length_map] at hn
  exact ⟨l, hn, by rw [← hn]⟩
theorem gameX_of {x y : Int} {n m : Nat} {W R : List D} (hW : IsI W) (hn : W.length = n) (hR : IsII R) (hm : R.length = m) (h1 : n ≤ 16) (h2 : m ≤ 16) : GameX x y (.p (.g [dI x, dI y, .sl 1 n W, .sl 1 m R])) := by
  obtain ⟨w, h3, h4⟩ := hW.sl hn
  obtain ⟨r, h5, h6⟩ := hR.sl hm
  exact ⟨w, r, by omega, by rw [h4, h6]⟩
theorem dem_game {x y : D} {n m : Nat} {W R : List D} (hn : W.length = n) (hm : R.length = m) : C.demL 56 R (C.demL 32 W [.d x, .d y, .ls 32 1 0 n, .ls 56 1 0 m]) = [.d x, .d y, .d (.sl 1 n W), .d (.sl 1 m R)] := by
  subst hn hm
  have b1 : Nat.beq 32 32 = true := rfl
  have b2 : Nat.beq 56 32 = false := rfl
  have b3 : Nat.beq 56 56 = true := rfl
  have b4 : Nat.blt 0 1 = true := rfl
  have b5 : W.length.ble W.length = true := by simp
  have b6 : R.length.ble R.length = true := by simp
  simp [C.demL, C.dem, b1, b2, b3, b4, b5, b6]

end Go.Proofs.Ytefbiejoikpkmaa
