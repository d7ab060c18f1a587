/- A way of walking over plain data: part of the proof of FnExactSumBoxes. No condition beyond those of its theorems. -/
import Derived.WalkKit
import Derived.Below
import Derived.Test.YtpkjjnmegdkjiaaKplainA
import Derived.Test.YtpkjjnmegdkjiaaKplainB
namespace Go.Proofs.Ytpkjjnmegdkjiaa
open Go.RowKit
/-! what the functions compute -/
def inB (n lo hi : Int) : Bool := decide (lo ≤ n) && decide (n ≤ hi)
theorem inB_iff {n lo hi : Int} : inB n lo hi = true ↔ lo ≤ n ∧ n ≤ hi := by simp [inB]
theorem inB_iffF {n lo hi : Int} : inB n lo hi = false ↔ n < lo ∨ hi < n := by rw [← Bool.not_eq_true, inB_iff]; omega
def allB (l : List Int) (lo hi : Int) : Bool := l.all fun n => inB n lo hi
theorem take_succ_all {α : Type} (p : α → Bool) (l : List α) (k : Nat) (h : k < l.length) : (l.take (k + 1)).all p = ((l.take k).all p && p l[k]) := by
  rw [List.take_succ_eq_append_getElem h, List.all_append]; simp
theorem all_f {α : Type} {p : α → Bool} {l : List α} {k : Nat} (h : k < l.length) (hp : p l[k] = false) : l.all p = false := by
  rw [← Bool.not_eq_true, List.all_eq_true]; intro H; have := H _ (List.getElem_mem h); rw [hp] at this; cases this
theorem all_t {α : Type} {p : α → Bool} {l : List α} {k : Nat} (h : ¬ k < l.length) (hp : (l.take k).all p = true) : l.all p = true := by
  rw [List.take_of_length_le (by omega)] at hp; exact hp
/-! lists of numbers told by a function -/
def rowF (f : Nat → Int) (m : Nat) : List Int := (List.range m).map f
def gridF (f : Nat → Nat → Int) (q m : Nat) : List (List Int) := (List.range q).map fun i => rowF (f i) m
theorem rowF_snoc (f : Nat → Int) (m : Nat) : rowF f (m + 1) = rowF f m ++ [f m] := by simp [rowF, List.range_succ]
@[simp] theorem rowF_len (f : Nat → Int) (m : Nat) : (rowF f m).length = m := by simp [rowF]
theorem gridF_snoc (f : Nat → Nat → Int) (q m : Nat) : gridF f (q + 1) m = gridF f q m ++ [rowF (f q) m] := by simp [gridF, List.range_succ]
@[simp] theorem gridF_len (f : Nat → Nat → Int) (q m : Nat) : (gridF f q m).length = q := by simp [gridF]
theorem rowF_congr {f g : Nat → Int} {m : Nat} (h : ∀ k, k < m → f k = g k) : rowF f m = rowF g m := by
  unfold rowF; exact List.map_congr_left fun k hk => h k (List.mem_range.1 hk)
theorem gridF_congr {f g : Nat → Nat → Int} {q m : Nat} (h : ∀ i, i < q → ∀ k, k < m → f i k = g i k) : gridF f q m = gridF g q m := by
  unfold gridF; exact List.map_congr_left fun i hi => rowF_congr (h i (List.mem_range.1 hi))
theorem rowF_get (f : Nat → Int) {m k : Nat} (h : k < m) : (rowF f m).getD k 0 = f k := by simp [rowF, List.getD, h]
def at1 (l : List Int) (i : Nat) : Int := l.getD i 0
theorem at1_lt {l : List Int} {i : Nat} (h : i < l.length) : at1 l i = l[i] := by
  unfold at1; rw [List.getD_eq_getElem?_getD, List.getElem?_eq_getElem h]; rfl
def whenL (b : Bool) (ll : List (List Int)) : List (List Int) := if b = true then ll else []
def whenN (b : Bool) (n : Int) : Int := if b = true then n else 0

/-! sizes, marks -/
def szI (n left : Int) : Int := if left - n < 0 then -1 else left - n
def szR : List (List Int) → Int → Int
  | [], left => left
  | l :: r, left => if szI l.length left < 0 then -1 else szR r (szI l.length left)
def szL (n : Nat) (ll : List (List Int)) (left : Int) : Int := if left - n < 0 then -1 else szR ll (left - n)
def mkI (k : Int) (n : Nat) : List Int := (List.range n).map fun i : Nat => k + (i : Int)
@[simp] theorem mkI_len (k : Int) (n : Nat) : (mkI k n).length = n := by simp [mkI]
def mkII (k : Int) : List (List Int) → List (List Int)
  | [] => []
  | l :: r => mkI k l.length :: mkII (k + l.length) r
def cnt : List (List Int) → Nat
  | [] => 0
  | l :: r => l.length + cnt r
@[simp] theorem mkII_len : ∀ (k : Int) (ll : List (List Int)), (mkII k ll).length = ll.length
  | _, [] => rfl
  | k, l :: r => by simp [mkII, mkII_len]
theorem cnt_append : ∀ a b : List (List Int), cnt (a ++ b) = cnt a + cnt b
  | [], b => by simp [cnt]
  | l :: a, b => by simp [cnt, cnt_append a b]; omega
theorem mkII_append : ∀ (a b : List (List Int)) (k : Int), mkII k (a ++ b) = mkII k a ++ mkII (k + cnt a) b
  | [], b, k => by simp [mkII, cnt]
  | l :: a, b, k => by simp [mkII, mkII_append a b, cnt]; congr 1; omega
theorem cnt_take (ll : List (List Int)) (i : Nat) (h : i < ll.length) : cnt (ll.take (i + 1)) = cnt (ll.take i) + ll[i].length := by
  rw [List.take_succ_eq_append_getElem h, cnt_append]; simp [cnt]
theorem cnt_take_le (ll : List (List Int)) (i : Nat) : cnt (ll.take i) ≤ cnt ll := by
  conv => rhs; rw [← List.take_append_drop i ll, cnt_append]
  omega
theorem mkI_set {l : List Int} {k : Int} {j : Nat} (h : j < l.length) : (mkI k j ++ l.drop j).set j (k + j) = mkI k (j + 1) ++ l.drop (j + 1) := by
  rw [List.set_append_right _ _ (by simp), mkI_len, Nat.sub_self, List.drop_eq_getElem_cons h, List.set_cons_zero]
  simp [mkI, List.range_succ]
theorem mkI_get {k : Int} {n j : Nat} (h : j < (mkI k n).length) : (mkI k n)[j] = k + j := by simp [mkI]
theorem szR_le : ∀ (ll : List (List Int)) (left : Int), 0 ≤ szR ll left → 0 ≤ left → (cnt ll : Int) + szR ll left = left ∧ ∀ l ∈ ll, (l.length : Int) ≤ left
  | [], left, _, _ => ⟨by simp [cnt, szR], fun _ h => by cases h⟩
  | l :: r, left, h, h0 => by
    unfold szR at h ⊢
    have h1 : ¬ szI l.length left < 0 := fun hl => by rw [if_pos hl] at h; omega
    rw [if_neg h1] at h ⊢
    have e : szI l.length left = left - l.length := by unfold szI at h1 ⊢; split at h1 <;> simp_all; omega
    have hnn : 0 ≤ left - l.length := by rw [e] at h1; omega
    rw [e] at h ⊢
    obtain ⟨a, b⟩ := szR_le r (left - l.length) h hnn
    refine ⟨by simp [cnt]; omega, fun x hx => ?_⟩
    rcases List.mem_cons.1 hx with rfl | hx
    · omega
    · have := b x hx; omega
theorem szL_le {n : Nat} {ll : List (List Int)} {left : Int} (h : 0 ≤ szL n ll left) (h0 : 0 ≤ left) : (n : Int) + cnt ll ≤ left ∧ ∀ l ∈ ll, (l.length : Int) ≤ left := by
  unfold szL at h
  split at h
  · omega
  · rename_i hn
    obtain ⟨a, b⟩ := szR_le ll (left - n) h (by omega)
    exact ⟨by omega, fun l hl => by have := b l hl; omega⟩
/-- a list that is filled from the front -/
def fillL {α : Type} (l : List α) (z : α) (k : Nat) : List α := l.take k ++ List.replicate (l.length - k) z
@[simp] theorem fillL_len {α : Type} (l : List α) (z : α) (k : Nat) : (fillL l z k).length = l.length := by simp [fillL]; omega
theorem fillL_zero {α : Type} (l : List α) (z : α) : fillL l z 0 = List.replicate l.length z := by simp [fillL]
theorem fillL_all {α : Type} (l : List α) (z : α) : fillL l z l.length = l := by simp [fillL]
theorem fillL_set {α : Type} {l : List α} (z : α) {k : Nat} (h : k < l.length) : (fillL l z k).set k l[k] = fillL l z (k + 1) := by
  unfold fillL
  have e : l.length - k = (l.length - (k + 1)) + 1 := by omega
  have hl : (l.take k).length = k := by simp; omega
  rw [e, List.replicate_succ, List.set_append_right _ _ (by omega), List.take_succ_eq_append_getElem h, hl, Nat.sub_self, List.set_cons_zero, List.append_assoc]
  rfl
/-- a list whose first j numbers are marked -/
def mkL (l : List Int) (k : Int) (j : Nat) : List Int := mkI k j ++ l.drop j
theorem mkL_zero (l : List Int) (k : Int) : mkL l k 0 = l := by simp [mkL, mkI]
theorem mkL_all (l : List Int) (k : Int) : mkL l k l.length = mkI k l.length := by simp [mkL]
@[simp] theorem mkL_len (l : List Int) (k : Int) {j : Nat} (h : j ≤ l.length) : (mkL l k j).length = l.length := by simp [mkL]; omega
theorem mkL_set {l : List Int} {k : Int} {j : Nat} (h : j < l.length) : (mkL l k j).set j (k + j) = mkL l k (j + 1) := mkI_set h
/-- lists of which the first j are marked -/
def mkLL (ll : List (List Int)) (k : Int) (j : Nat) : List (List Int) := mkII k (ll.take j) ++ ll.drop j
theorem mkLL_zero (ll : List (List Int)) (k : Int) : mkLL ll k 0 = ll := by simp [mkLL, mkII]
theorem mkLL_all (ll : List (List Int)) (k : Int) : mkLL ll k ll.length = mkII k ll := by simp [mkLL]
theorem mkLL_len (ll : List (List Int)) (k : Int) {j : Nat} (h : j ≤ ll.length) : (mkLL ll k j).length = ll.length := by simp [mkLL]; omega
theorem mkLL_get {ll : List (List Int)} {k : Int} {j : Nat} (h : j < ll.length) : (mkLL ll k j)[j]? = some ll[j] := by
  unfold mkLL
  rw [List.getElem?_append_right (by simp; omega), mkII_len, List.length_take, Nat.min_eq_left (by omega), Nat.sub_self, List.getElem?_drop]
  simp [h]
theorem mkLL_set {ll : List (List Int)} {k : Int} {j : Nat} (h : j < ll.length) : (mkLL ll k j).set j (mkI (k + cnt (ll.take j)) ll[j].length) = mkLL ll k (j + 1) := by
  unfold mkLL
  have hl : (mkII k (ll.take j)).length = j := by simp; omega
  rw [List.set_append_right _ _ (by omega), hl, Nat.sub_self, List.drop_eq_getElem_cons h, List.set_cons_zero, List.take_succ_eq_append_getElem h, mkII_append]
  simp [mkII]

theorem mkII_at {ll : List (List Int)} {k : Int} {j : Nat} (h : j < ll.length) : (mkII k ll)[j]? = some (mkI (k + cnt (ll.take j)) ll[j].length) := by
  have e : mkII k ll = mkII k (ll.take j) ++ mkII (k + cnt (ll.take j)) (ll.drop j) := by rw [← mkII_append, List.take_append_drop]
  rw [e, List.getElem?_append_right (by simp; omega), mkII_len, List.length_take, Nat.min_eq_left (by omega), Nat.sub_self, List.drop_eq_getElem_cons h]
  simp [mkII]
theorem szR_m1 : ∀ (ll : List (List Int)) (c : Int), 0 ≤ c → szR ll c < 0 → szR ll c = -1
  | [], c, h0, h => by simp [szR] at h; omega
  | l :: r, c, h0, h => by
    unfold szR at h ⊢
    split
    · rfl
    · rename_i h1; rw [if_neg h1] at h; exact szR_m1 r _ (by omega) h
theorem szL_m1 {n : Nat} {ll : List (List Int)} {c : Int} (h : szL n ll c < 0) : szL n ll c = -1 := by
  unfold szL at h ⊢
  split
  · rfl
  · rename_i h1; rw [if_neg h1] at h; exact szR_m1 ll _ (by omega) h
/-- the entry at a place that is a whole number -/
def atZ {α : Type} [Inhabited α] (l : List α) (i : Int) : α := l.getD i.toNat default
theorem atZ_nat {α : Type} [Inhabited α] {l : List α} {k : Nat} (h : k < l.length) : atZ l (k : Int) = l[k] := by
  simp [atZ, h]
theorem atZ_some {α : Type} [Inhabited α] {l : List α} {i : Int} (h0 : 0 ≤ i) (h1 : i < l.length) : l[i.toNat]? = some (atZ l i) := by
  have : i.toNat < l.length := by omega
  simp [atZ, this]
theorem map_at {α β : Type} {l : List α} {f : α → β} {n : Nat} {x : α} (h : l[n]? = some x) : ((l.map f).drop (n * 1)).take 1 = [f x] := by
  obtain ⟨hlt, rfl⟩ := List.getElem?_eq_some_iff.1 h
  rw [Nat.mul_one, List.drop_eq_getElem_cons (by simpa using hlt), List.take_succ_cons, List.take_zero]
  simp
/-- lists of 0 and 1 -/
def bitsB (l : List Int) (n : Int) : Bool := decide ((l.length : Int) = n) && allB l 0 1
theorem bitsB_len {l : List Int} {n : Int} (h : bitsB l n = true) : (l.length : Int) = n := by
  unfold bitsB at h; simp at h; omega
theorem bitsB_at {l : List Int} {n : Int} (h : bitsB l n = true) {i : Int} (h0 : 0 ≤ i) (h1 : i < n) : 0 ≤ atZ l i ∧ atZ l i ≤ 1 := by
  have hl := bitsB_len h
  unfold bitsB allB at h
  simp only [Bool.and_eq_true, List.all_eq_true] at h
  obtain ⟨k, rfl⟩ := Int.eq_ofNat_of_zero_le h0
  rw [atZ_nat (by omega)]
  exact inB_iff.1 (h.2 (l[k]'(by omega)) (List.getElem_mem _))
theorem cnt_len : ∀ (m : Nat) (ll : List (List Int)), (∀ l ∈ ll, l.length = m) → cnt ll = ll.length * m
  | m, [], _ => by simp [cnt]
  | m, l :: r, h => by
    have h1 := h l (List.mem_cons_self ..)
    have h2 := cnt_len m r fun x hx => h x (List.mem_cons_of_mem _ hx)
    simp only [cnt, List.length_cons, h1, h2]; rw [Nat.add_mul]; omega
theorem cnt_gridF (f : Nat → Nat → Int) (q m : Nat) : cnt (gridF f q m) = q * m := by
  rw [cnt_len m]
  · simp
  · intro l hl; unfold gridF at hl; obtain ⟨i, _, rfl⟩ := List.mem_map.1 hl; simp
theorem cnt_whenL (b : Bool) (ll : List (List Int)) : cnt (whenL b ll) ≤ cnt ll := by
  unfold whenL; split <;> simp [cnt]

end Go.Proofs.Ytpkjjnmegdkjiaa

namespace Go.Proofs.Ytpkjjnmegdkjiaa
open Go.RowKit
open Go Go.RowKit
/-! parts of lists -/
section
variable {P : Program} {st : St} {dst : Option Tmp} {ty : TypeId} {pos : String} {af : Array Edge}
def bndOK (v : Option (IntKind × Int)) (i z : Nat) : Prop := match v with | some (_, l) => 0 ≤ l ∧ l.toNat = i | none => i = z
theorem run_sliced {T : TypeId} {sz : Nat} (ht : tSl P T sz = true) (ao : Option Addr) (n cap : Nat) (lo hi : Option (IntKind × Int)) (i j : Nat)
    (hlo : bndOK lo i 0) (hhi : bndOK hi j n) (hij : i ≤ j) (hj : j ≤ n) (hnc : n ≤ cap) (w : World) :
    (Instr.sliceAt T (.slice ao n cap) (lo.map fun x => .int x.1 x.2) (hi.map fun x => .int x.1 x.2) none).run P w = .ok (.slice (if cap = i then ao else ao.map (·.add (i * sz))) (j - i) (cap - i)) w := by
  obtain ⟨E, inf, hT, hE, rfl⟩ := tSl_spec ht
  have hs : ∀ w', (sizeOf E).run P w' = .ok inf.size w' := fun w' => by simp [sizeOf, typeInfo, hE]
  cases lo with
  | none =>
    have hlo : i = 0 := hlo
    subst hlo
    cases hi with
    | none =>
      have hhi : j = n := hhi
      subst hhi
      simp [Instr.sliceAt, Instr.slice, underlying, hT, Instr.sliceBounds, hs]
    | some h =>
      obtain ⟨kh, h⟩ := h
      obtain ⟨h0, rfl⟩ : 0 ≤ h ∧ h.toNat = j := hhi
      simp [Instr.sliceAt, Instr.slice, underlying, hT, Instr.sliceBounds, Instr.sliceBound, asIntOf, hs, h0, show h ≤ cap by omega]
  | some l =>
    obtain ⟨kl, l⟩ := l
    obtain ⟨l0, rfl⟩ : 0 ≤ l ∧ l.toNat = i := hlo
    cases hi with
    | none =>
      have hhi : j = n := hhi
      subst hhi
      simp [Instr.sliceAt, Instr.slice, underlying, hT, Instr.sliceBounds, Instr.sliceBound, asIntOf, hs, l0, show l ≤ j by omega]
    | some h =>
      obtain ⟨kh, h⟩ := h
      obtain ⟨h0, rfl⟩ : 0 ≤ h ∧ h.toNat = j := hhi
      simp [Instr.sliceAt, Instr.slice, underlying, hT, Instr.sliceBounds, Instr.sliceBound, asIntOf, hs, l0, h0, show h ≤ cap by omega, show l ≤ max h 0 by omega]
theorem vw_slice {w : World} {ao : Option Addr} {n cap sz : Nat} {ds : List D} {F : List Nat} (h : Vw w (.slice ao n cap) (.sl sz n ds) F) {i j : Nat} (hij : i ≤ j) (hj : j ≤ n) :
    ∃ F', Vw w (.slice (if cap = i then ao else ao.map (·.add (i * sz))) (j - i) (cap - i)) (.sl sz (j - i) ((ds.drop (i * sz)).take ((j - i) * sz))) F' ∧ ∀ b ∈ F', b ∈ F := by
  cases h with
  | sl _ _ _ _ _ us Fs hn hz hle hs hc hr =>
    have hb : i * sz + (j - i) * sz ≤ ds.length := by rw [hn, ← Nat.add_mul]; exact Nat.mul_le_mul_right _ (by omega)
    have hlen : ((ds.drop (i * sz)).take ((j - i) * sz)).length = (j - i) * sz := by simp; omega
    refine ⟨_, .sl _ _ _ _ _ (fun k => us (i * sz + k)) (fun k => Fs (i * sz + k)) hlen hz ⟨by omega, by omega⟩ (fun h0 => ?_) (fun k hk => ?_) (fun k hk => ?_), fun b hb' => ?_⟩
    · have := hs (by omega)
      split
      · exact this
      · cases ao with
        | none => cases this
        | some a => rfl
    · rw [hlen] at hk
      have h0 : 0 < j - i := Nat.pos_of_ne_zero fun e => by rw [e] at hk; simp at hk
      obtain ⟨a, rfl⟩ := Option.isSome_iff_exists.1 (hs (by omega))
      rw [if_neg (by omega)]
      simp only [Option.map_some, adrO_some]
      rw [adr_add]; exact hc _ (by omega)
    · simp only [List.getElem_take, List.getElem_drop]; exact hr _ (by rw [hlen] at hk; omega)
    · by_cases h0 : j - i = 0
      · rw [if_pos h0] at hb'; cases hb'
      · rw [if_neg h0] at hb'
        rw [if_neg (by omega)]
        obtain ⟨a, rfl⟩ := Option.isSome_iff_exists.1 (hs (by omega))
        rw [if_neg (by omega)] at hb'
        rcases List.mem_cons.1 hb' with rfl | hb'
        · simp only [Option.map_some, adrO_some]; rw [adr_block]; exact List.mem_cons_self ..
        · obtain ⟨k, hk, hb'⟩ := mem_parts.1 hb'
          rw [hlen] at hk
          exact List.mem_cons_of_mem _ (mem_parts.2 ⟨i * sz + k, by omega, hb'⟩)
theorem qt_slice_d {T : TypeId} {x : Operand} {lo hi : Option Operand} {sz n m : Nat} {ds ds' : List D} {vl vh : Option (IntKind × Int)} {i j : Nat} (hx : st.ev x = .c (.d (.sl sz n ds)))
    (hl : ∀ a w ρ (Ψ : Nat → Prop), (∀ y, FR w ρ Ψ (Act.eval a y) (st.ev y)) → lo.map a.eval = vl.map fun x => .int x.1 x.2) (hh : ∀ a w ρ (Ψ : Nat → Prop), (∀ y, FR w ρ Ψ (Act.eval a y) (st.ev y)) → hi.map a.eval = vh.map fun x => .int x.1 x.2) (ht : tSl P T sz = true)
    (hlo : bndOK vl i 0) (hhi : bndOK vh j n) (hij : i ≤ j) (hj : j ≤ n) (hm' : j - i = m) (hd : (ds.drop (i * sz)).take (m * sz) = ds') :
    Qt P ⟨dst, .slice T x lo hi none, ty, pos, af, none⟩ st (.c (.d (.sl sz m ds'))) := fun w0 ρ Φ a w hm => by
  subst hm' hd
  have h := hm.ev x
  rw [hx] at h
  obtain ⟨F, h', hF⟩ := h.d_inv
  have e1 := hl a w ρ _ fun y => hm.ev y
  have e2 := hh a w ρ _ fun y => hm.ev y
  generalize hv : a.eval x = v at *
  have h2 := h'
  cases h' with
  | sl ao _ cap _ _ us Fs hn hz hle hs hc hr =>
    obtain ⟨F', hF', hsub⟩ := vw_slice h2 hij hj
    exact ⟨_, fun w' _ => by simp only [execOp, hv, Option.map_none, e1, e2, Sem.run_bind, run_sliced ht ao n cap vl vh i j hlo hhi hij hj hle.2, Result.andThen_ok, Sem.run_pure], .c _ _ (.d _ _ _ hF' fun b hb => hF b (hsub b hb))⟩
theorem ev_some {y : Operand} {k : IntKind} {i : Int} (h : st.ev y = .c (.d (.lit (.int k i)))) (a : Act) (w : World) (ρ : Nat → Option Nat) (Ψ : Nat → Prop) (hm : ∀ y, FR w ρ Ψ (a.eval y) (st.ev y)) :
    (some y).map a.eval = (some (k, i)).map fun x : IntKind × Int => Value.int x.1 x.2 := by
  have := hm y; rw [h] at this; simp [this.lit_inv]
/-- a part of a list -/
def partZ {α : Type} (l : List α) (i j : Int) : List α := (l.drop i.toNat).take (j.toNat - i.toNat)
theorem partZ_len {α : Type} {l : List α} {i j : Int} (h2 : j ≤ l.length) : (partZ l i j).length = j.toNat - i.toNat := by simp [partZ]; omega
theorem map_part {α β : Type} (l : List α) (f : α → β) (i j : Int) : ((l.map f).drop (i.toNat * 1)).take ((j.toNat - i.toNat) * 1) = (partZ l i j).map f := by
  simp [partZ, List.map_take, List.map_drop]
end
section
variable {P : Program} {st : St} {dst : Option Tmp} {ty : TypeId} {pos : String} {af : Array Edge}
theorem parts_nil (n : Nat) : parts n (fun _ => []) = [] := by simp [parts]
/-- A box of numbers, seen as a row. -/
theorem sim_box_row {b : Nat} {cs : List C} {vs : List Value} (hb : st.bl b = some (.box cs)) (he : cs = vs.map fun v => C.d (.lit v)) :
    ∀ κ a w, Sim κ st a w → Sim κ (st.setB b (some (.row 1 (vs.map D.lit)))) a w := by
  subst he
  rintro κ a w ⟨ρ, Φ, hm⟩
  refine ⟨ρ, Φ, hm.below, hm.size, hm.nb, hm.pin, hm.defers, hm.fr, fun k x hx => ?_, fun k hk => ?_, hm.low, hm.nd, hm.dj⟩
  · simp only [St.setB] at hx
    by_cases hkb : k = b
    · subst hkb
      rw [if_pos rfl] at hx; cases hx
      have h0 := hm.bl k _ hb
      generalize ρ k = r at h0 ⊢
      generalize Φ k = F at h0 ⊢
      cases h0 with
      | box g us E _ hg hl hr =>
        have hl' : us.size = vs.length := by simpa using hl
        have e : [g] = g :: parts (vs.map D.lit).length (fun _ => []) := by rw [parts_nil]
        rw [e]
        refine .row g us E 1 _ (fun j => us.getD j undef) (fun _ => []) (by decide) hg (by simp; omega) (fun j hj => ?_) (fun j hj => ?_)
        · have hj' : j < us.size := by simp at hj; omega
          simp [Array.getD, hj']
        · have hj' : j < vs.length := by simpa using hj
          have := hr j (by simpa using hj')
          simp only [List.getElem_map] at this ⊢
          generalize us.getD j undef = u at this ⊢
          generalize vs[j] = z at this ⊢
          cases this with
          | d _ _ F h hF => cases h with | lit _ h => exact .lit _ h
    · rw [if_neg hkb] at hx; exact hm.bl k x hx
  · simp only [St.setB] at hk
    by_cases hkb : k = b
    · rw [if_pos hkb] at hk; cases hk
    · rw [if_neg hkb] at hk; exact hm.emp k hk
theorem qt_slice_arr {T : TypeId} {x : Operand} {b n sz : Nat} {ds : List D} (hx : st.ev x = .c (.lp b 0)) (hb : st.bl b = some (.row sz ds)) (ht : tArr P T n sz = true) (hn : ds.length = n * sz) (h1 : Nat.ble n 1000000 = true) :
    Qt P ⟨dst, .slice T x none none none, ty, pos, af, none⟩ st (.c (.ls b sz 0 n)) := fun w0 ρ Φ a w hm => by
  have h1 : n ≤ 1000000 := by simpa using h1
  obtain ⟨E, i, hT, hi, rfl⟩ := tArr_spec ht
  have hp := hm.ev x
  rw [hx] at hp
  obtain ⟨g, hρ, hv⟩ := lp_inv hp.c_inv
  rcases hm.rowN hb with ⟨h0, rfl, _⟩ | ⟨g', us, E', vs, Fs, hρ', hΦ, hz, hg, hl, hcc, hr⟩
  · rw [h0] at hρ; cases hρ
  · rw [hρ] at hρ'; cases hρ'
    refine ⟨.slice (some ⟨g, 0, none⟩) n n, fun w' _ => ?_, .c _ _ (.ls b g i.size 0 n n us E' hρ (Nat.le_refl _) (by omega) hg (by omega))⟩
    have ha : (⟨g, 0, none⟩ : Addr).add 0 = ⟨g, 0, none⟩ := by unfold Addr.add; simp
    simp [execOp, hv, Instr.sliceAt, underlying, hT, Instr.sureAddr, Instr.sliceBounds, sizeOf, typeInfo, hi, ha]
end
section
variable {P : Program} {st : St} {dst : Option Tmp} {ty : TypeId} {pos : String} {af : Array Edge}
theorem run_idxa {T : TypeId} {n sz : Nat} (ht : tArr P T n sz = true) {a : Addr} {k : IntKind} {i : Int} (h0 : 0 ≤ i) (h1 : i < n) (w : World) :
    (Instr.indexAt T (.pointer (some a)) (.int k i)).run P w = .ok (.pointer (some (a.add (i.toNat * sz)))) w := by
  obtain ⟨E, inf, hT, hi, rfl⟩ := tArr_spec ht
  simp [Instr.indexAt, asIntOf, underlying, hT, Instr.sureAddr, sizeOf, typeInfo, hi, h0, h1]
theorem qt_idxa_lp {T : TypeId} {x y : Operand} {b off n sz : Nat} {k : IntKind} {i : Int} (hx : st.ev x = .c (.lp b off)) (hy : st.ev y = .c (.d (.lit (.int k i)))) (ht : tArr P T n sz = true) (h0 : 0 ≤ i) (h1 : i < n) :
    Qt P ⟨dst, .indexAddr T x y, ty, pos, af, none⟩ st (.c (.lp b (off + i.toNat * sz))) := fun w0 ρ Φ a w hm => by
  have h := hm.ev x
  rw [hx] at h
  have hi : a.eval y = .int k i := FR.lit_inv (by rw [← hy]; exact hm.ev y)
  obtain ⟨g, hρ, hv⟩ := lp_inv h.c_inv
  exact ⟨.pointer (some ((⟨g, off, none⟩ : Addr).add (i.toNat * sz))), fun w' _ => by simp [execOp, hv, hi, run_idxa ht h0 h1], by rw [adr_mk]; exact .c _ _ (.lp b g _ hρ)⟩
end

end Go.Proofs.Ytpkjjnmegdkjiaa
