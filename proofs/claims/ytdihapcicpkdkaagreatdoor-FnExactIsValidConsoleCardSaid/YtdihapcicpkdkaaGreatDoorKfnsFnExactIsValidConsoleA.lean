/- What the functions that FnExactIsValidConsole reaches return: part of its proof. No condition beyond those of its theorems. -/
import Derived.Test.YtdihapcicpkdkaaGreatDoorProg
import Derived.Test.YtdihapcicpkdkaaGreatDoorKplainB
import Derived.Test.YtdihapcicpkdkaaGreatDoorKplainC
import Derived.WalkKit
import Derived.Lib.LaidTab
import Derived.Lib.LaidIn
import Derived.Handed
import Derived.Test.YtdihapcicpkdkaaGreatDoorKplainA
import Derived.Shelf.Strings.Search2
import Derived.Lib.Bytealg
import Derived.Test.YtdihapcicpkdkaaGreatDoorRows
import Derived.Shelf.Strconv.Itoa3
import Derived.Shelf.Strings.Search3
import Derived.Shelf.Strings.IndexAnyAll
set_option linter.unusedVariables false
set_option linter.unusedSimpArgs false
--plain: PureMisc PureTake PureView PureAlt PurePack PureDag PureQ PureRen PureMany PureSlice Texts PureText Defs
namespace Go.Proofs.YtdihapcicpkdkaaGreatDoor
open Go.RowKit
set_option linter.unusedSectionVars false
variable [Glb]

abbrev dI (n : Int) : D := .lit (.int .i64 n)
abbrev dB (b : Bool) : D := .lit (.bool b)
abbrev dS (s : ByteArray) : D := .lit (.string s)
abbrev iN (k : Nat) : FV := .c (.d (dI k))
abbrev iZ (k : Int) : FV := .c (.d (dI k))
/-- a list of numbers, of lists of numbers, of texts -/
abbrev cI (l : List Int) : List D := l.map dI
abbrev eI (l : List Int) : D := .sl 1 l.length (cI l)
abbrev cII (l : List (List Int)) : List D := l.map fun x => eI x
abbrev eII (l : List (List Int)) : D := .sl 1 l.length (cII l)
section
variable {P : Program} {st : St} {dst : Option Tmp} {ty : TypeId} {pos : String} {af : Array Edge} {T : TypeId} {x y : Operand} {k : IntKind} {i : Int}
theorem qt_idxI {l : List Int} (hx : st.ev x = .c (.d (eI l))) (hy : st.ev y = .c (.d (.lit (.int k i)))) (ht : tSl P T 1 = true) (h0 : 0 ≤ i) (h1 : i < l.length) : Qt P ⟨dst, .indexAddr T x y, ty, pos, af, none⟩ st (.c (.d (.pt [dI (atZ l i)]))) :=
  qt_idx hx hy ht h0 h1 (map_at (atZ_some h0 h1))
theorem qt_idxII {l : List (List Int)} (hx : st.ev x = .c (.d (eII l))) (hy : st.ev y = .c (.d (.lit (.int k i)))) (ht : tSl P T 1 = true) (h0 : 0 ≤ i) (h1 : i < l.length) : Qt P ⟨dst, .indexAddr T x y, ty, pos, af, none⟩ st (.c (.d (.pt [eI (atZ l i)]))) :=
  qt_idx hx hy ht h0 h1 (map_at (atZ_some h0 h1))
theorem qt_load_rowI {l : List Int} {b : Nat} {i : Int} (hx : st.ev x = .c (.lp b (0 + i.toNat * 1))) (hb : st.bl b = some (.row 1 (cI l))) (ht : tOne P T = true) (h0 : 0 ≤ i) (h1 : i < l.length) : Qt P ⟨dst, .load T x, ty, pos, af, none⟩ st (.c (.d (dI (atZ l i)))) :=
  qt_load_row hx hb ht (by rw [List.getElem?_map, Nat.zero_add, Nat.mul_one, atZ_some h0 h1]; rfl)
theorem qt_slice_dI11 {l : List Int} {x lo hi : Operand} {kl kh : IntKind} {i j : Int} (hx : st.ev x = .c (.d (eI l))) (hl : st.ev lo = .c (.d (.lit (.int kl i)))) (hh : st.ev hi = .c (.d (.lit (.int kh j)))) (ht : tSl P T 1 = true) (h0 : 0 ≤ i) (h1 : i ≤ j) (h2 : j ≤ l.length) :
    Qt P ⟨dst, .slice T x (some lo) (some hi) none, ty, pos, af, none⟩ st (.c (.d (eI (partZ l i j)))) :=
  qt_slice_d (vl := some (kl, i)) (vh := some (kh, j)) (i := i.toNat) (j := j.toNat) hx (ev_some hl) (ev_some hh) ht ⟨h0, rfl⟩ ⟨by omega, rfl⟩ (by omega) (by omega) (partZ_len h2).symm (by rw [partZ_len h2]; exact map_part l _ i j)
theorem qt_slice_dI10 {l : List Int} {x lo : Operand} {kl : IntKind} {i : Int} (hx : st.ev x = .c (.d (eI l))) (hl : st.ev lo = .c (.d (.lit (.int kl i)))) (ht : tSl P T 1 = true) (h0 : 0 ≤ i) (h1 : i ≤ l.length) :
    Qt P ⟨dst, .slice T x (some lo) none none, ty, pos, af, none⟩ st (.c (.d (eI (partZ l i l.length)))) :=
  qt_slice_d (vl := some (kl, i)) (vh := none) (i := i.toNat) (j := l.length) hx (ev_some hl) (fun _ _ _ _ _ => rfl) ht ⟨h0, rfl⟩ rfl (by omega) (by omega) (by rw [partZ_len (by omega)]; simp) (by rw [partZ_len (by omega)]; exact map_part l _ i l.length)
theorem qt_slice_dI01 {l : List Int} {x hi : Operand} {kh : IntKind} {j : Int} (hx : st.ev x = .c (.d (eI l))) (hh : st.ev hi = .c (.d (.lit (.int kh j)))) (ht : tSl P T 1 = true) (h0 : 0 ≤ j) (h2 : j ≤ l.length) :
    Qt P ⟨dst, .slice T x none (some hi) none, ty, pos, af, none⟩ st (.c (.d (eI (partZ l 0 j)))) :=
  qt_slice_d (vl := none) (vh := some (kh, j)) (i := 0) (j := j.toNat) hx (fun _ _ _ _ _ => rfl) (ev_some hh) ht rfl ⟨h0, rfl⟩ (by omega) (by omega) (by rw [partZ_len h2]; simp) (by rw [partZ_len h2]; simpa using map_part l _ 0 j)
theorem qt_slice_dII11 {l : List (List Int)} {x lo hi : Operand} {kl kh : IntKind} {i j : Int} (hx : st.ev x = .c (.d (eII l))) (hl : st.ev lo = .c (.d (.lit (.int kl i)))) (hh : st.ev hi = .c (.d (.lit (.int kh j)))) (ht : tSl P T 1 = true) (h0 : 0 ≤ i) (h1 : i ≤ j) (h2 : j ≤ l.length) :
    Qt P ⟨dst, .slice T x (some lo) (some hi) none, ty, pos, af, none⟩ st (.c (.d (eII (partZ l i j)))) :=
  qt_slice_d (vl := some (kl, i)) (vh := some (kh, j)) (i := i.toNat) (j := j.toNat) hx (ev_some hl) (ev_some hh) ht ⟨h0, rfl⟩ ⟨by omega, rfl⟩ (by omega) (by omega) (partZ_len h2).symm (by rw [partZ_len h2]; exact map_part l _ i j)
theorem qt_slice_dII10 {l : List (List Int)} {x lo : Operand} {kl : IntKind} {i : Int} (hx : st.ev x = .c (.d (eII l))) (hl : st.ev lo = .c (.d (.lit (.int kl i)))) (ht : tSl P T 1 = true) (h0 : 0 ≤ i) (h1 : i ≤ l.length) :
    Qt P ⟨dst, .slice T x (some lo) none none, ty, pos, af, none⟩ st (.c (.d (eII (partZ l i l.length)))) :=
  qt_slice_d (vl := some (kl, i)) (vh := none) (i := i.toNat) (j := l.length) hx (ev_some hl) (fun _ _ _ _ _ => rfl) ht ⟨h0, rfl⟩ rfl (by omega) (by omega) (by rw [partZ_len (by omega)]; simp) (by rw [partZ_len (by omega)]; exact map_part l _ i l.length)
theorem qt_slice_dII01 {l : List (List Int)} {x hi : Operand} {kh : IntKind} {j : Int} (hx : st.ev x = .c (.d (eII l))) (hh : st.ev hi = .c (.d (.lit (.int kh j)))) (ht : tSl P T 1 = true) (h0 : 0 ≤ j) (h2 : j ≤ l.length) :
    Qt P ⟨dst, .slice T x none (some hi) none, ty, pos, af, none⟩ st (.c (.d (eII (partZ l 0 j)))) :=
  qt_slice_d (vl := none) (vh := some (kh, j)) (i := 0) (j := j.toNat) hx (fun _ _ _ _ _ => rfl) (ev_some hh) ht rfl ⟨h0, rfl⟩ (by omega) (by omega) (by rw [partZ_len h2]; simp) (by rw [partZ_len h2]; simpa using map_part l _ 0 j)
end
end Go.Proofs.YtdihapcicpkdkaaGreatDoor

namespace Go.Proofs.YtdihapcicpkdkaaGreatDoor
open Go.RowKit
open Go Go.RowKit
/-! the library's tables, as a row lays them -/
def litV : DataW Unit → Value
  | .lit (.int k n) => .int k n
  | _ => .nilFunc
def cellsD : DataW Unit → Array Value
  | .agg ds => (ds.map litV).toArray
  | _ => #[]
def layAll (P : Program) : List (String × DataW Unit) → Array Obj → Array Obj
  | [], h => h
  | (n, d) :: r, h => layAll P r (match P.globalNamed n with
    | some g => h.modify g fun
      | .cells _ t f => .cells (cellsD d) t f
      | o => o
    | none => h)
theorem tab_in {P : Program} {W : World} {name : String} {k : IntKind} {zs : List Int} {g : Nat} {t e : TypeId} {n : Nat}
    (hg : P.globalNamed name = some g) (hty : (P.globals[g]?).map (·.type) = some t) (ht : P.underlying t = some (.array n e)) (he : P.underlying e = some (.int k)) (hce : P.cellsOf e = 1) (hct : P.cellsOf t = n) :
    ∀ (l : List (String × DataW Unit)) (ps : List MemPlace), DataW.LaidVars P W l ps → (name, Go.Lib.tabData k zs) ∈ l → Go.Lib.TabIs P W name k zs
  | [], _, _, h => by cases h
  | (n', d) :: r, ps, h, hm => by
    obtain ⟨g', t', cs, fuel, p, q, hg', ht', hvar, hd, hr, _⟩ := h
    rcases List.mem_cons.1 hm with e1 | hm
    · simp only [Prod.mk.injEq] at e1
      obtain ⟨rfl, rfl⟩ := e1
      obtain rfl := Option.some.inj (hg.symm.trans hg')
      obtain rfl := Option.some.inj (hty.symm.trans ht')
      unfold Go.Lib.TabIs
      rw [hvar, ← Go.Lib.cells_of_tab ht he hce hct hd]
    · exact tab_in hg hty ht he hce hct r q hr hm
theorem tab_keep {P : Program} {w w' : World} {name : String} {k : IntKind} {zs : List Int} {g : Nat} (hg : P.globalNamed name = some g) (h : Go.Lib.TabIs P w name k zs) (hk : w'.heap[g]? = w.heap[g]?) : Go.Lib.TabIs P w' name k zs := by
  unfold Go.Lib.TabIs World.var? at h ⊢
  rw [hg] at h ⊢
  simpa [hk] using h
theorem tab_lt {P : Program} {w : World} {name : String} {k : IntKind} {zs : List Int} {g : Nat} (hg : P.globalNamed name = some g) (h : Go.Lib.TabIs P w name k zs) : g < w.heap.size := by
  unfold Go.Lib.TabIs World.var? at h
  rw [hg] at h
  refine Classical.byContradiction fun hn => ?_
  rw [Option.bind_some, Array.getElem?_eq_none (by omega)] at h
  cases h

end Go.Proofs.YtdihapcicpkdkaaGreatDoor

namespace Go.Proofs.YtdihapcicpkdkaaGreatDoor
open Go.RowKit
theorem szR_ok : ∀ (ll : List (List Int)) (left : Int), (cnt ll : Int) ≤ left → szR ll left = left - cnt ll
  | [], left, _ => by simp [szR, cnt]
  | l :: r, left, h => by
    simp only [cnt] at h ⊢
    have e : szI l.length left = left - l.length := by unfold szI; rw [if_neg (by omega)]
    unfold szR
    rw [e, if_neg (by omega), szR_ok r _ (by omega)]; omega
theorem szR_no : ∀ (ll : List (List Int)) (left : Int), left < (cnt ll : Int) → 0 ≤ left → szR ll left = -1
  | [], left, h, h0 => by simp [cnt] at h; omega
  | l :: r, left, h, h0 => by
    simp only [cnt] at h
    unfold szR
    by_cases hl : left - l.length < 0
    · have e : szI l.length left = -1 := by unfold szI; rw [if_pos hl]
      rw [e, if_pos (by omega)]
    · have e : szI l.length left = left - l.length := by unfold szI; rw [if_neg hl]
      rw [e, if_neg (by omega), szR_no r _ (by omega) (by omega)]
theorem szL_ok {ll : List (List Int)} {left : Int} (h : (ll.length : Int) + cnt ll ≤ left) : szL ll.length ll left = left - ll.length - cnt ll := by
  unfold szL; rw [if_neg (by omega), szR_ok _ _ (by omega)]
theorem szL_no {ll : List (List Int)} {left : Int} (h : left < (ll.length : Int) + cnt ll) (h0 : 0 ≤ left) : szL ll.length ll left = -1 := by
  unfold szL
  split
  · rfl
  · exact szR_no _ _ (by omega) (by omega)
theorem cnt_mem : ∀ {ll : List (List Int)} {l : List Int}, l ∈ ll → l.length ≤ cnt ll
  | l' :: r, l, h => by
    simp only [cnt]
    rcases List.mem_cons.1 h with rfl | h
    · omega
    · have := cnt_mem h; omega

end Go.Proofs.YtdihapcicpkdkaaGreatDoor

namespace Go.Proofs.YtdihapcicpkdkaaGreatDoor
open Go.RowKit
open Go
/-! trios -/
def sum64 (l : List Int) : Int := l.foldl (fun s n => IntKind.i64.wrap (s + n)) 0
theorem sum64_snoc {l : List Int} {k : Nat} (h : k < l.length) : sum64 (l.take (k + 1)) = IntKind.i64.wrap (sum64 (l.take k) + l[k]) := by
  unfold sum64; rw [List.take_succ_eq_append_getElem h, List.foldl_append]; rfl
def rowB (n : Int) (row : List Int) : Bool := (decide (row.length = 8) && allB row 0 n) && decide (sum64 row = n)
def trioB (n : Int) (ll : List (List Int)) : Bool := (inB n 1 1000 && decide (ll.length = 8)) && ll.all (rowB n)
theorem rowB_len {n : Int} {row : List Int} (h : rowB n row = true) : row.length = 8 ∧ ∀ k (hk : k < row.length), 0 ≤ row[k] ∧ row[k] ≤ n := by
  simp only [rowB, Bool.and_eq_true, decide_eq_true_eq, allB, List.all_eq_true] at h
  exact ⟨h.1.1, fun k hk => inB_iff.1 (h.1.2 _ (List.getElem_mem hk))⟩
theorem trioB_spec {n : Int} {ll : List (List Int)} (h : trioB n ll = true) : 1 ≤ n ∧ n ≤ 1000 ∧ ll.length = 8 ∧ ∀ q (hq : q < ll.length), ll[q].length = 8 ∧ ∀ k (hk : k < ll[q].length), 0 ≤ ll[q][k] ∧ ll[q][k] ≤ n := by
  simp only [trioB, Bool.and_eq_true, decide_eq_true_eq, List.all_eq_true] at h
  have := inB_iff.1 h.1.1
  exact ⟨this.1, this.2, h.1.2, fun q hq => rowB_len (h.2 _ (List.getElem_mem hq))⟩
/-- the bit of a player in a place -/
def bitZ (q : Int) (m : Nat) : Int := q / 2 ^ (2 - m) % 2
theorem bitZ_le (q : Int) (m : Nat) : 0 ≤ bitZ q m ∧ bitZ q m ≤ 1 := by unfold bitZ; omega
/-- the answers of a play -/
def playP (l : List Int) (q : Int) : Nat → Int
  | 0 => 0
  | m + 1 => 2 * playP l q m + atZ l (2 * m + bitZ q m)
theorem playP_bd {l : List Int} (h : bitsB l 6 = true) (q : Int) : ∀ m : Nat, m ≤ 3 → 0 ≤ playP l q m ∧ playP l q m < 2 ^ m
  | 0, _ => by simp [playP]
  | m + 1, hm => by
    have ih := playP_bd h q m (by omega)
    have hb := bitZ_le q m
    have := bitsB_at h (i := 2 * m + bitZ q m) (by omega) (by omega)
    rw [playP, Int.pow_succ]
    omega
theorem playP_4 {l : List Int} (h : bitsB l 6 = true) (q : Int) (m : Nat) (hm : m ≤ 2) : 0 ≤ playP l q m ∧ playP l q m < 4 := by
  have := playP_bd h q m (by omega)
  have : (2 : Int) ^ m ≤ 4 := by rcases (by omega : m = 0 ∨ m = 1 ∨ m = 2) with rfl | rfl | rfl <;> decide
  omega
def playV (l : List Int) (q : Int) : Int := playP l q 3
theorem playV_eq (l : List Int) {q : Int} (h0 : 0 ≤ q) (h8 : q < 8) : playV l q = 4 * atZ l (q / 4) + 2 * atZ l (2 + q / 2 % 2) + atZ l (4 + q % 2) := by
  have e : q / 4 % 2 = q / 4 := by omega
  simp [playV, playP, bitZ, e]; omega
theorem playV_bd {l : List Int} (h : bitsB l 6 = true) (q : Int) : 0 ≤ playV l q ∧ playV l q < 8 := by
  have := playP_bd h q 3 (by omega); unfold playV; omega
def ansF (n : Int) (g : Nat → Int) (q k : Nat) : Int := if (k : Int) = g q then n else 0
def trioOfB (l : List Int) (n : Int) : Bool := bitsB l 6 && inB n 1 1000
theorem oneHotZ {α : Type} (g : Int → α) (n : Int) {p : Int} (h0 : 0 ≤ p) (h8 : p < 8) : (List.replicate 8 (g 0)).set (p.toNat) (g n) = (rowF (fun k => if (k : Int) = p then n else 0) 8).map g := by
  rcases (by omega : p = 0 ∨ p = 1 ∨ p = 2 ∨ p = 3 ∨ p = 4 ∨ p = 5 ∨ p = 6 ∨ p = 7) with rfl | rfl | rfl | rfl | rfl | rfl | rfl | rfl <;> simp [rowF, List.range, List.range.loop, List.replicate, List.set]
theorem rowF_atZ (f : Nat → Int) {m k : Nat} (h : k < m) : atZ (rowF f m) (k : Int) = f k := by
  rw [atZ_nat (by simpa using h)]; simp [rowF]
theorem gridF_ans (n : Int) (f : Nat → Int) : gridF (ansF n fun q => atZ (rowF f 8) q) 8 8 = gridF (ansF n f) 8 8 :=
  gridF_congr fun i hi k _ => by have := rowF_atZ f hi; show (if (k : Int) = atZ (rowF f 8) i then n else 0) = if (k : Int) = f i then n else 0; simp only [this]
/-- the two players other than one -/
def oth1 (a : Int) : Nat := if a = 0 then 1 else 0
def oth2 (a : Int) : Nat := if a = 0 then 2 else if a = 1 then 2 else 1
def othL (a : Int) (k : Nat) : List Int := (([0, 1, 2] : List Int).take k).filter fun x => decide (x ≠ a)
theorem othL_succ (a : Int) {k : Nat} (h : k < 3) : othL a (k + 1) = if (k : Int) = a then othL a k else othL a k ++ [(k : Int)] := by
  unfold othL
  rw [List.take_succ_eq_append_getElem (by simpa using h), List.filter_append]
  by_cases e : (k : Int) = a
  · rcases (by omega : k = 0 ∨ k = 1 ∨ k = 2) with rfl | rfl | rfl <;> simp at e <;> simp [List.filter, ← e]
  · rcases (by omega : k = 0 ∨ k = 1 ∨ k = 2) with rfl | rfl | rfl <;> simp at e <;> simp [List.filter, e]
theorem othL_3 {a : Int} (h0 : 0 ≤ a) (h2 : a ≤ 2) : othL a 3 = [(oth1 a : Int), (oth2 a : Int)] := by
  rcases (by omega : a = 0 ∨ a = 1 ∨ a = 2) with rfl | rfl | rfl <;> rfl
/-- the answers of a group play -/
def grpAt (a q : Int) : Int := 2 * (2 * bitZ q (oth1 a) + bitZ q (oth2 a))
def grpV (a : Int) (own joint : List Int) (q : Int) : Int :=
  atZ own (bitZ q a.toNat) * 2 ^ (2 - a.toNat) + atZ joint (grpAt a q) * 2 ^ (2 - oth1 a) + atZ joint (grpAt a q + 1) * 2 ^ (2 - oth2 a)
theorem or421 {x y z : Int} (hx : 0 ≤ x ∧ x ≤ 1) (hy : 0 ≤ y ∧ y ≤ 1) (hz : 0 ≤ z ∧ z ≤ 1) : bits .or .i64 (bits .or .i64 (x * 4) (y * 2)) z = x * 4 + y * 2 + z := by
  rcases (by omega : x = 0 ∨ x = 1) with rfl | rfl <;> rcases (by omega : y = 0 ∨ y = 1) with rfl | rfl <;> rcases (by omega : z = 0 ∨ z = 1) with rfl | rfl <;> rfl
theorem or241 {x y z : Int} (hx : 0 ≤ x ∧ x ≤ 1) (hy : 0 ≤ y ∧ y ≤ 1) (hz : 0 ≤ z ∧ z ≤ 1) : bits .or .i64 (bits .or .i64 (x * 2) (y * 4)) z = x * 2 + y * 4 + z := by
  rcases (by omega : x = 0 ∨ x = 1) with rfl | rfl <;> rcases (by omega : y = 0 ∨ y = 1) with rfl | rfl <;> rcases (by omega : z = 0 ∨ z = 1) with rfl | rfl <;> rfl
theorem or142 {x y z : Int} (hx : 0 ≤ x ∧ x ≤ 1) (hy : 0 ≤ y ∧ y ≤ 1) (hz : 0 ≤ z ∧ z ≤ 1) : bits .or .i64 (bits .or .i64 x (y * 4)) (z * 2) = x + y * 4 + z * 2 := by
  rcases (by omega : x = 0 ∨ x = 1) with rfl | rfl <;> rcases (by omega : y = 0 ∨ y = 1) with rfl | rfl <;> rcases (by omega : z = 0 ∨ z = 1) with rfl | rfl <;> rfl
def groupB (a : Int) (own joint : List Int) (n : Int) : Bool := inB a 0 2 && bitsB own 2 && bitsB joint 8 && inB n 1 1000
theorem othL_len (a : Int) (k : Nat) : (othL a k).length ≤ 3 := by
  unfold othL; refine Nat.le_trans (List.length_filter_le _ _) ?_; rw [List.length_take]; exact Nat.min_le_right _ _

theorem inB_02 {a : Int} (h : inB a 0 2 = true) : a = 0 ∨ a = 1 ∨ a = 2 := by have := inB_iff.1 h; omega
theorem grpV_bd {a : Int} {own joint : List Int} (h : inB a 0 2 = true) (ho : bitsB own 2 = true) (hj : bitsB joint 8 = true) (q : Int) : 0 ≤ grpV a own joint q ∧ grpV a own joint q < 8 := by
  have b0 := bitZ_le q a.toNat
  have b1 := bitZ_le q (oth1 a)
  have b2 := bitZ_le q (oth2 a)
  have p0 := bitsB_at ho (i := bitZ q a.toNat) (by omega) (by omega)
  have a0 := bitsB_at hj (i := grpAt a q) (by unfold grpAt; omega) (by unfold grpAt; omega)
  have a1 := bitsB_at hj (i := grpAt a q + 1) (by unfold grpAt; omega) (by unfold grpAt; omega)
  rcases inB_02 h with rfl | rfl | rfl <;> simp [grpV, oth1, oth2] at * <;> omega
/-- a place whose digits are turned -/
def turnP (p : Int) : Int := p * 2 % 8 + p / 4
theorem turnP_bd {p : Int} (h0 : 0 ≤ p) (h8 : p < 8) : 0 ≤ turnP p ∧ turnP p < 8 := by unfold turnP; omega
theorem or_turn {p : Int} (h0 : 0 ≤ p) (h8 : p < 8) : bits .or .i64 (p * 2 % 8) (p / 4) = turnP p := by
  rcases (by omega : p = 0 ∨ p = 1 ∨ p = 2 ∨ p = 3 ∨ p = 4 ∨ p = 5 ∨ p = 6 ∨ p = 7) with rfl | rfl | rfl | rfl | rfl | rfl | rfl | rfl <;> rfl
def turnI (k : Nat) : Nat := k / 2 + k % 2 * 4
theorem turnI_lt {p : Nat} (h : p < 8) : turnI p < 8 := by unfold turnI; omega
def turnN (p : Nat) : Nat := p * 2 % 8 + p / 4
theorem turnP_nat (p : Nat) : turnP p = (turnN p : Nat) := by unfold turnP turnN; omega
theorem turnN_lt {p : Nat} (h : p < 8) : turnN p < 8 := by unfold turnN; omega
/-- a list of eight that is filled at the turned places, k of them so far -/
def turnL {α : Type} (z : α) (f : Nat → α) (k : Nat) : List α := (List.range 8).map fun j => if turnN j < k then f j else z
theorem turnL_len {α : Type} (z : α) (f : Nat → α) (k : Nat) : (turnL z f k).length = 8 := by simp [turnL]
theorem turnL_zero {α : Type} (z : α) (f : Nat → α) : turnL z f 0 = List.replicate 8 z := by simp [turnL, List.range, List.range.loop, List.replicate]
theorem turnL_set {α : Type} (z : α) (f : Nat → α) {k : Nat} (h : k < 8) : (turnL z f k).set (turnI k) (f (turnI k)) = turnL z f (k + 1) := by
  rcases (by omega : k = 0 ∨ k = 1 ∨ k = 2 ∨ k = 3 ∨ k = 4 ∨ k = 5 ∨ k = 6 ∨ k = 7) with rfl | rfl | rfl | rfl | rfl | rfl | rfl | rfl <;> rfl
theorem turnL_all {α : Type} (z : α) (f : Nat → α) : turnL z f 8 = (List.range 8).map f := by
  unfold turnL
  refine List.map_congr_left fun j hj => ?_
  have := turnN_lt (List.mem_range.1 hj)
  rw [if_pos (by omega)]
theorem turnN_inv {k : Nat} (h : k < 8) : turnN (turnI k) = k := by
  rcases (by omega : k = 0 ∨ k = 1 ∨ k = 2 ∨ k = 3 ∨ k = 4 ∨ k = 5 ∨ k = 6 ∨ k = 7) with rfl | rfl | rfl | rfl | rfl | rfl | rfl | rfl <;> rfl
def turnF (ll : List (List Int)) (q k : Nat) : Int := atZ (atZ ll (turnP q)) (turnP k)
def mixF (a b : List (List Int)) (q k : Nat) : Int := atZ (atZ a q) k + atZ (atZ b q) k
theorem trioB_at {n : Int} {ll : List (List Int)} (h : trioB n ll = true) {q : Int} (h0 : 0 ≤ q) (h8 : q < 8) : (atZ ll q).length = 8 ∧ ∀ k : Int, 0 ≤ k → k < 8 → 0 ≤ atZ (atZ ll q) k ∧ atZ (atZ ll q) k ≤ n := by
  obtain ⟨h1, h2, h3, h4⟩ := trioB_spec h
  obtain ⟨i, rfl⟩ := Int.eq_ofNat_of_zero_le h0
  rw [atZ_nat (by omega)]
  obtain ⟨h5, h6⟩ := h4 i (by omega)
  refine ⟨h5, fun k hk0 hk8 => ?_⟩
  obtain ⟨j, rfl⟩ := Int.eq_ofNat_of_zero_le hk0
  rw [atZ_nat (by omega)]
  exact h6 j (by omega)
theorem sum64_of {l : List Int} (h : l.length = 8) (hb : ∀ k (hk : k < l.length), 0 ≤ l[k] ∧ l[k] ≤ 1000000) : sum64 l = l.sum := by
  have key : ∀ (l : List Int) (s : Int), 0 ≤ s → (∀ x ∈ l, 0 ≤ x ∧ x ≤ 1000000) → s + l.length * 1000000 ≤ 1000000000 → l.foldl (fun s n => IntKind.i64.wrap (s + n)) s = s + l.sum := by
    intro l
    induction l with
    | nil => intro s _ _ _; simp
    | cons x l ih =>
      intro s h0 hx hs
      have h1 := hx x (List.mem_cons_self ..)
      simp only [List.length_cons] at hs
      rw [List.foldl_cons, IntWalk.i64_in _ (by omega), ih _ (by omega) (fun y hy => hx y (List.mem_cons_of_mem _ hy)) (by omega), List.sum_cons]; omega
  have := key l 0 (by omega) (fun x hx => by obtain ⟨k, hk, rfl⟩ := List.getElem_of_mem hx; exact hb k hk) (by omega)
  unfold sum64; rw [this]; omega
theorem len8 {l : List Int} (h : l.length = 8) : ∃ a b c d e f g i, l = [a, b, c, d, e, f, g, i] := by
  match l, h with
  | [a, b, c, d, e, f, g, i], _ => exact ⟨a, b, c, d, e, f, g, i, rfl⟩
theorem mix_row {m n : Int} {a b : List Int} (ha : rowB m a = true) (hb : rowB n b = true) (hm : m ≤ 1000) (hn : n ≤ 1000) : rowB (m + n) (rowF (fun k => atZ a k + atZ b k) 8) = true := by
  obtain ⟨a1, a2⟩ := rowB_len ha
  obtain ⟨b1, b2⟩ := rowB_len hb
  have sa : sum64 a = m := by simp [rowB] at ha; exact ha.2
  have sb : sum64 b = n := by simp [rowB] at hb; exact hb.2
  rw [sum64_of a1 fun k hk => ⟨(a2 k hk).1, by have := (a2 k hk).2; omega⟩] at sa
  rw [sum64_of b1 fun k hk => ⟨(b2 k hk).1, by have := (b2 k hk).2; omega⟩] at sb
  have bd : ∀ k (hk : k < (rowF (fun k : Nat => atZ a k + atZ b k) 8).length), 0 ≤ (rowF (fun k : Nat => atZ a k + atZ b k) 8)[k] ∧ (rowF (fun k : Nat => atZ a k + atZ b k) 8)[k] ≤ m + n := fun k hk => by
    simp only [rowF, List.getElem_map, List.getElem_range]
    have hk8 : k < 8 := by simpa using hk
    rw [atZ_nat (by omega), atZ_nat (by omega)]
    have := a2 k (by omega); have := b2 k (by omega); omega
  have e : sum64 (rowF (fun k : Nat => atZ a k + atZ b k) 8) = m + n := by
    rw [sum64_of (by simp) fun k hk => ⟨(bd k hk).1, by have := (bd k hk).2; omega⟩]
    obtain ⟨x0, x1, x2, x3, x4, x5, x6, x7, rfl⟩ := len8 a1
    obtain ⟨y0, y1, y2, y3, y4, y5, y6, y7, rfl⟩ := len8 b1
    simp [rowF, List.range, List.range.loop, atZ] at sa sb ⊢
    omega
  simp only [rowB, allB, e, rowF_len, decide_true, Bool.true_and, Bool.and_true, List.all_eq_true]
  intro x hx
  obtain ⟨k, hk, rfl⟩ := List.getElem_of_mem hx
  exact inB_iff.2 (bd k hk)
theorem mix_trio {m n : Int} {a b : List (List Int)} (ha : trioB m a = true) (hb : trioB n b = true) : trioB (m + n) (gridF (mixF a b) 8 8) = decide (m + n ≤ 1000) := by
  obtain ⟨a1, a2, a3, _⟩ := trioB_spec ha
  obtain ⟨b1, b2, b3, _⟩ := trioB_spec hb
  simp only [trioB, Bool.and_eq_true, List.all_eq_true] at ha hb
  have rows : (gridF (mixF a b) 8 8).all (rowB (m + n)) = true := by
    rw [List.all_eq_true]
    intro x hx
    unfold gridF at hx
    obtain ⟨q, hq, rfl⟩ := List.mem_map.1 hx
    have hq := List.mem_range.1 hq
    have := mix_row (ha.2 (a[q]'(by omega)) (List.getElem_mem _)) (hb.2 (b[q]'(by omega)) (List.getElem_mem _)) a2 b2
    have e : (mixF a b q) = fun k : Nat => atZ (a[q]'(by omega)) k + atZ (b[q]'(by omega)) k := by
      funext k; unfold mixF; rw [show atZ a (q : Int) = a[q]'(by omega) from atZ_nat (by omega), show atZ b (q : Int) = b[q]'(by omega) from atZ_nat (by omega)]
    rw [e]; exact this
  unfold trioB
  rw [rows]
  simp [inB]; omega
def mixB (m : Int) (a : List (List Int)) (n : Int) (b : List (List Int)) : Bool := trioB m a && trioB n b && decide (m + n ≤ 1000)

end Go.Proofs.YtdihapcicpkdkaaGreatDoor

namespace Go.Proofs.YtdihapcicpkdkaaGreatDoor
open Go.RowKit
/-! all plays -/
def bitN (c e : Nat) : Nat := c / 2 ^ e % 2
def bitsM (n c : Nat) : List Int := rowF (fun i => (bitN c (n - 1 - i) : Int)) n
def playsF (n : Nat) : List (List Int) := (List.range (2 ^ n)).map (bitsM n)
@[simp] theorem bitsM_len (n c : Nat) : (bitsM n c).length = n := by simp [bitsM]
@[simp] theorem playsF_len (n : Nat) : (playsF n).length = 2 ^ n := by simp [playsF]
theorem bitsM_bits (n c : Nat) : bitsB (bitsM n c) n = true := by
  simp only [bitsB, bitsM_len, decide_true, Bool.true_and, allB, List.all_eq_true]
  intro x hx
  unfold bitsM rowF at hx
  obtain ⟨i, _, rfl⟩ := List.mem_map.1 hx
  exact inB_iff.2 ⟨by unfold bitN; omega, by unfold bitN; omega⟩
theorem playsF_at {n k : Nat} (h : k < 2 ^ n) : atZ (playsF n) (k : Int) = bitsM n k := by rw [atZ_nat (by simpa using h)]; simp [playsF]
theorem plays_snoc (n c : Nat) : (List.range (c + 1)).map (bitsM n) = (List.range c).map (bitsM n) ++ [bitsM n c] := by simp [List.range_succ]
theorem bit_nat (c e : Nat) : (c : Int) / 2 ^ e % 2 = (bitN c e : Int) := by
  unfold bitN
  rw [Int.natCast_emod, Int.natCast_ediv, Int.natCast_pow]; rfl
/-- the greatest of numbers, at least 0 -/
def bestN (f : Nat → Int) : Nat → Int
  | 0 => 0
  | k + 1 => max (bestN f k) (f k)
theorem bestN_ge (f : Nat → Int) : ∀ n, 0 ≤ bestN f n
  | 0 => by simp [bestN]
  | k + 1 => by have := bestN_ge f k; simp only [bestN]; omega
theorem le_bestN (f : Nat → Int) : ∀ n k, k < n → f k ≤ bestN f n
  | n + 1, k, h => by
    simp only [bestN]
    by_cases e : k = n
    · subst e; omega
    · have := le_bestN f n k (by omega); omega
theorem bestN_le (f : Nat → Int) (M : Int) (h0 : 0 ≤ M) : ∀ n, (∀ k, k < n → f k ≤ M) → bestN f n ≤ M
  | 0, _ => by simpa [bestN] using h0
  | n + 1, h => by
    have h1 := bestN_le f M h0 n fun k hk => h k (by omega)
    have h2 := h n (by omega)
    simp only [bestN]; omega
theorem bestN_congr {f g : Nat → Int} : ∀ {n : Nat}, (∀ k, k < n → f k = g k) → bestN f n = bestN g n
  | 0, _ => rfl
  | n + 1, h => by simp only [bestN]; rw [bestN_congr fun k hk => h k (by omega), h n (by omega)]
theorem bestN_perm {f g : Nat → Int} {n : Nat} (r : Nat → Nat) (hr : ∀ k, k < n → r k < n) (h1 : ∀ k, k < n → f k = g (r k)) (h2 : ∀ k, k < n → g k = f (r k)) : bestN f n = bestN g n := by
  have a := bestN_le f (bestN g n) (bestN_ge g n) n fun k hk => by rw [h1 k hk]; exact le_bestN g n _ (hr k hk)
  have b := bestN_le g (bestN f n) (bestN_ge f n) n fun k hk => by rw [h2 k hk]; exact le_bestN f n _ (hr k hk)
  omega
/-- the score of answers -/
def parZ (p : Int) : Int := (p / 4 + p / 2 + p) % 2
def scoreN (w odd : List Int) (f : Int → Int) : Nat → Int
  | 0 => 0
  | k + 1 => scoreN w odd f k + if parZ (f k) = atZ odd k then atZ w k else 0
def valB (w odd : List Int) : Bool := decide (w.length = 8) && allB w 0 99 && bitsB odd 8
theorem allB_at {l : List Int} {lo hi : Int} (h : allB l lo hi = true) {i : Int} (h0 : 0 ≤ i) (h1 : i < l.length) : lo ≤ atZ l i ∧ atZ l i ≤ hi := by
  unfold allB at h
  rw [List.all_eq_true] at h
  obtain ⟨k, rfl⟩ := Int.eq_ofNat_of_zero_le h0
  rw [atZ_nat (by omega)]
  exact inB_iff.1 (h (l[k]'(by omega)) (List.getElem_mem _))
theorem scoreN_bd {w odd : List Int} (h : valB w odd = true) (f : Int → Int) : ∀ k : Nat, k ≤ 8 → 0 ≤ scoreN w odd f k ∧ scoreN w odd f k ≤ 99 * k
  | 0, _ => by simp [scoreN]
  | k + 1, hk => by
    have ih := scoreN_bd h f k (by omega)
    simp only [valB, Bool.and_eq_true, decide_eq_true_eq] at h
    have := allB_at h.1.2 (i := k) (by omega) (by omega)
    simp only [scoreN]
    split <;> omega
def trioVal (w odd : List Int) : Int := bestN (fun c => scoreN w odd (fun q => playV (bitsM 6 c) q) 8) 64
def bitsL (c : Nat) : List Int := rowF (fun i => (bitN c i : Int)) 6
def rev6 (c : Nat) : Nat := c % 2 * 32 + c / 2 % 2 * 16 + c / 4 % 2 * 8 + c / 8 % 2 * 4 + c / 16 % 2 * 2 + c / 32
theorem rev6_lt {c : Nat} (h : c < 64) : rev6 c < 64 := by unfold rev6; omega
theorem bitsL_bits (c : Nat) : bitsB (bitsL c) 6 = true := by
  simp only [bitsB, bitsL, rowF_len, Bool.and_eq_true, allB, List.all_eq_true]
  refine ⟨by decide, ?_⟩
  intro x hx
  unfold rowF at hx
  obtain ⟨i, _, rfl⟩ := List.mem_map.1 hx
  exact inB_iff.2 ⟨by unfold bitN; omega, by unfold bitN; omega⟩
theorem bits_rev : ∀ c : Fin 64, bitsM 6 c = bitsL (rev6 c) ∧ bitsL c = bitsM 6 (rev6 c) := by decide +kernel
theorem trioVal_L (w odd : List Int) : bestN (fun c => scoreN w odd (fun q => playV (bitsL c) q) 8) 64 = trioVal w odd :=
  bestN_perm rev6 (fun _ => rev6_lt) (fun k hk => by rw [(bits_rev ⟨k, hk⟩).2]) (fun k hk => by rw [(bits_rev ⟨k, hk⟩).1])

end Go.Proofs.YtdihapcicpkdkaaGreatDoor

namespace Go.Proofs.YtdihapcicpkdkaaGreatDoor
open Go.RowKit
open Go
/-! boxes -/
def row4B (n : Int) (row : List Int) : Bool := (decide (row.length = 4) && allB row 0 n) && decide (sum64 row = n)
def sizeB (x y : Int) : Bool := inB x 1 3 && inB y 1 3
def boxB (x y n : Int) (ll : List (List Int)) : Bool := ((sizeB x y && inB n 1 1000) && decide ((ll.length : Int) = x * y)) && ll.all (row4B n)
theorem sizeB_iff {x y : Int} : sizeB x y = true ↔ (1 ≤ x ∧ x ≤ 3) ∧ (1 ≤ y ∧ y ≤ 3) := by simp [sizeB, inB_iff]
theorem mul_bd3 {x y : Int} (h : sizeB x y = true) : 1 ≤ x * y ∧ x * y ≤ 9 := by
  obtain ⟨⟨a, b⟩, c, d⟩ := sizeB_iff.1 h
  rcases (by omega : x = 1 ∨ x = 2 ∨ x = 3) with rfl | rfl | rfl <;> rcases (by omega : y = 1 ∨ y = 2 ∨ y = 3) with rfl | rfl | rfl <;> decide
theorem wrap_mul3 {x y : Int} (h : sizeB x y = true) : IntKind.i64.wrap (x * y) = x * y := IntWalk.i64_in _ (by have := mul_bd3 h; omega)
theorem row4B_len {n : Int} {row : List Int} (h : row4B n row = true) : row.length = 4 ∧ ∀ k (hk : k < row.length), 0 ≤ row[k] ∧ row[k] ≤ n := by
  simp only [row4B, Bool.and_eq_true, decide_eq_true_eq, allB, List.all_eq_true] at h
  exact ⟨h.1.1, fun k hk => inB_iff.1 (h.1.2 _ (List.getElem_mem hk))⟩
theorem row4B_sum {n : Int} {row : List Int} (h : row4B n row = true) : sum64 row = n := by simp [row4B] at h; exact h.2
structure BoxOK (x y n : Int) (ll : List (List Int)) : Prop where
  x1 : 1 ≤ x
  x3 : x ≤ 3
  y1 : 1 ≤ y
  y3 : y ≤ 3
  n1 : 1 ≤ n
  n2 : n ≤ 1000
  len : (ll.length : Int) = x * y
  row : ∀ q, (hq : q < ll.length) → row4B n ll[q] = true
theorem boxB_spec {x y n : Int} {ll : List (List Int)} (h : boxB x y n ll = true) : BoxOK x y n ll := by
  simp only [boxB, Bool.and_eq_true, decide_eq_true_eq, List.all_eq_true] at h
  obtain ⟨⟨⟨h1, h2⟩, h3⟩, h4⟩ := h
  have a := sizeB_iff.1 h1
  have b := inB_iff.1 h2
  exact ⟨a.1.1, a.1.2, a.2.1, a.2.2, b.1, b.2, h3, fun q hq => h4 _ (List.getElem_mem hq)⟩
theorem boxB_at {x y n : Int} {ll : List (List Int)} (h : boxB x y n ll = true) {q : Int} (h0 : 0 ≤ q) (h8 : q < x * y) : (atZ ll q).length = 4 ∧ ∀ k : Int, 0 ≤ k → k < 4 → 0 ≤ atZ (atZ ll q) k ∧ atZ (atZ ll q) k ≤ n := by
  have hb := boxB_spec h
  obtain ⟨i, rfl⟩ := Int.eq_ofNat_of_zero_le h0
  have hi : i < ll.length := by have := hb.len; omega
  rw [atZ_nat hi]
  obtain ⟨h5, h6⟩ := row4B_len (hb.row i hi)
  refine ⟨h5, fun k hk0 hk8 => ?_⟩
  obtain ⟨j, rfl⟩ := Int.eq_ofNat_of_zero_le hk0
  rw [atZ_nat (by omega)]
  exact h6 j (by omega)
/-- the place of a pair of questions -/
theorem idx_lt {i k X Y : Int} (h0 : 0 ≤ i) (h1 : i < X) (h2 : 0 ≤ k) (h3 : k < Y) : 0 ≤ i * Y + k ∧ i * Y + k < X * Y ∧ 0 ≤ i * Y ∧ i * Y < X * Y := by
  have hY : 0 ≤ Y := by omega
  have a : 0 ≤ i * Y := Int.mul_nonneg h0 hY
  have b : (i + 1) * Y ≤ X * Y := Int.mul_le_mul_of_nonneg_right (by omega) hY
  rw [Int.add_mul, Int.one_mul] at b
  omega
theorem idx_ltN {i k X Y : Nat} (h1 : i < X) (h3 : k < Y) : Y * i + k < Y * X := by
  rw [Nat.mul_comm Y i, Nat.mul_comm Y X]
  have b : (i + 1) * Y ≤ X * Y := Nat.mul_le_mul_right _ (by omega)
  rw [Nat.add_mul, Nat.one_mul] at b
  omega
/-- the rows of a box told by a function of questions and place -/
def boxF (f : Nat → Nat → Nat → Int) (y n : Nat) : List (List Int) := (List.range n).map fun j => rowF (f (j / y) (j % y)) 4
@[simp] theorem boxF_len (f : Nat → Nat → Nat → Int) (y n : Nat) : (boxF f y n).length = n := by simp [boxF]
theorem boxF_snoc (f : Nat → Nat → Nat → Int) (y : Nat) (i k : Nat) (h : k < y) : boxF f y (y * i + (k + 1)) = boxF f y (y * i + k) ++ [rowF (f i k) 4] := by
  have e1 : (y * i + k) / y = i := by rw [Nat.mul_comm, Nat.add_comm, Nat.add_mul_div_right _ _ (by omega), Nat.div_eq_of_lt h, Nat.zero_add]
  have e2 : (y * i + k) % y = k := by rw [Nat.mul_comm, Nat.add_comm, Nat.add_mul_mod_self_right, Nat.mod_eq_of_lt h]
  simp [boxF, ← Nat.add_assoc, List.range_succ, e1, e2]
theorem boxF_congr {f g : Nat → Nat → Nat → Int} {x y : Nat} (h : ∀ i k p, i < x → k < y → p < 4 → f i k p = g i k p) : boxF f y (y * x) = boxF g y (y * x) := by
  unfold boxF
  refine List.map_congr_left fun j hj => ?_
  have hj := List.mem_range.1 hj
  by_cases hy : y = 0
  · subst hy; simp at hj
  · exact rowF_congr fun p hp => h _ _ _ (Nat.div_lt_of_lt_mul hj) (Nat.mod_lt _ (by omega)) hp
theorem cnt_boxF (f : Nat → Nat → Nat → Int) (y n : Nat) : cnt (boxF f y n) = n * 4 := by
  rw [cnt_len 4]
  · simp
  · intro l hl; unfold boxF at hl; obtain ⟨j, _, rfl⟩ := List.mem_map.1 hl; simp
theorem boxF_at {f : Nat → Nat → Nat → Int} {y n : Nat} {j : Nat} (h : j < n) : atZ (boxF f y n) (j : Int) = rowF (f (j / y) (j % y)) 4 := by
  rw [atZ_nat (by simpa using h)]; simp [boxF]
/-- a box's number -/
def atB (ll : List (List Int)) (Y i k p : Int) : Int := atZ (atZ ll (i * Y + k)) p

end Go.Proofs.YtdihapcicpkdkaaGreatDoor

namespace Go.Proofs.YtdihapcicpkdkaaGreatDoor
open Go.RowKit
open Go
/-! quiet trios -/
def at2 (ll : List (List Int)) (q k : Nat) : Int := atZ (atZ ll (q : Int)) (k : Int)
/-- the numbers of the places that differ by a digit add up alike for the questions that differ by it -/
def quietAt (ll : List (List Int)) (d q a : Nat) : Bool := (q &&& d != 0) || decide (at2 ll q a + at2 ll q (a ^^^ d) = at2 ll (q ||| d) a + at2 ll (q ||| d) (a ^^^ d))
def quiet3 (ll : List (List Int)) : Bool := [4, 2, 1].all fun d => (List.range 8).all fun q => (List.range 8).all fun a => quietAt ll d q a
theorem range_all_f {f : Nat → Bool} {n k : Nat} (h : k < n) (hf : f k = false) : (List.range n).all f = false := by
  rw [← Bool.not_eq_true, List.all_eq_true]; intro H; have := H k (List.mem_range.2 h); rw [hf] at this; cases this
theorem range_all_s {f : Nat → Bool} {k : Nat} : (List.range (k + 1)).all f = ((List.range k).all f && f k) := by simp [List.range_succ]
theorem quiet_digit (p : Nat) (h : p < 3) : ∃ d : Nat, (4 : Int) / 2 ^ p = (d : Int) ∧ (∀ f : Nat → Bool, (List.take (p + 1) [4, 2, 1]).all f = ((List.take p [4, 2, 1]).all f && f d)) ∧ d ≤ 4 ∧ (∀ f : Nat → Bool, f d = false → [4, 2, 1].all f = false) ∧ (∀ a, a < 8 → a ^^^ d < 8) ∧ (∀ q, q < 8 → q ||| d < 8) ∧ 1 ≤ d := by
  have : p = 0 ∨ p = 1 ∨ p = 2 := by omega
  rcases this with rfl | rfl | rfl
  · exact ⟨4, by decide, fun f => by simp, by decide, fun f h => by simp [h], by decide, by decide, by decide⟩
  · exact ⟨2, by decide, fun f => by simp, by decide, fun f h => by simp [h], by decide, by decide, by decide⟩
  · exact ⟨1, by decide, fun f => by simp [Bool.and_assoc], by decide, fun f h => by simp [h], by decide, by decide, by decide⟩
def spQuietAt (ll : List (List Int)) (d q a : Nat) : Bool := (q &&& d != 0) || (a &&& d != 0) || decide (at2 ll q a + at2 ll q (a ^^^ d) = at2 ll (q ||| d) a + at2 ll (q ||| d) (a ^^^ d))
def spQuiet (ll : List (List Int)) (p : Nat) : Bool := (List.take p [1, 2, 4]).all fun d => (List.range 8).all fun q => (List.range 8).all fun a => spQuietAt ll d q a
theorem spQuiet_row {ll : List (List Int)} {d q : Nat} (h : d = 1 ∨ d = 2 ∨ d = 4) : ((List.range 8).all fun a => spQuietAt ll d q a) = ((List.range 8).all fun a => quietAt ll d q a) := by
  rw [Bool.eq_iff_iff, List.all_eq_true, List.all_eq_true]
  constructor
  · intro H a ha
    by_cases hd : a &&& d = 0
    · have := H a ha
      simpa [spQuietAt, quietAt, hd] using this
    · have hx : a ^^^ d < 8 ∧ (a ^^^ d) &&& d = 0 ∧ (a ^^^ d) ^^^ d = a := by
        have ha' := List.mem_range.1 ha
        have hall : ∀ d, (d = 1 ∨ d = 2 ∨ d = 4) → ∀ a, a < 8 → a &&& d ≠ 0 → a ^^^ d < 8 ∧ (a ^^^ d) &&& d = 0 ∧ (a ^^^ d) ^^^ d = a := by
          rintro d (rfl | rfl | rfl) <;> decide
        exact hall d h a ha' hd
      have := H (a ^^^ d) (List.mem_range.2 hx.1)
      simp only [spQuietAt, quietAt, hx.2.1, hx.2.2, Bool.or_eq_true, bne_iff_ne, ne_eq, not_true_eq_false, or_false, decide_eq_true_eq] at this ⊢
      rcases this with h1 | h1
      · exact .inl h1
      · right; omega
  · intro H a ha
    have := H a ha
    simp only [spQuietAt, quietAt, Bool.or_eq_true] at this ⊢
    rcases this with h1 | h1
    · exact .inl (.inl h1)
    · exact .inr h1
theorem spQuiet_eq (ll : List (List Int)) : spQuiet ll 3 = quiet3 ll := by
  have e : ∀ d, (d = 1 ∨ d = 2 ∨ d = 4) → ((List.range 8).all fun q => (List.range 8).all fun a => spQuietAt ll d q a) = ((List.range 8).all fun q => (List.range 8).all fun a => quietAt ll d q a) := fun d hd =>
    congrArg (List.all (List.range 8)) (funext fun q => spQuiet_row hd)
  unfold spQuiet quiet3
  simp only [List.take_succ_cons, List.take_zero, List.all_cons, List.all_nil, Bool.and_true]
  rw [e 1 (by simp), e 2 (by simp), e 4 (by simp)]
  cases (List.range 8).all fun q => (List.range 8).all fun a => quietAt ll 1 q a <;> cases (List.range 8).all fun q => (List.range 8).all fun a => quietAt ll 2 q a <;> cases (List.range 8).all fun q => (List.range 8).all fun a => quietAt ll 4 q a <;> rfl
def pw2 (p : Nat) : Nat := 2 ^ p
theorem spQuiet_digit (p : Nat) (h : p < 3) : ∃ d : Nat, pw2 p = d ∧ pw2 (p + 1) = d * 2 ∧ (∀ f : Nat → Bool, (List.take (p + 1) [1, 2, 4]).all f = ((List.take p [1, 2, 4]).all f && f d)) ∧ (∀ f : Nat → Bool, f d = false → (List.take 3 [1, 2, 4]).all f = false) ∧ (d = 1 ∨ d = 2 ∨ d = 4) := by
  have : p = 0 ∨ p = 1 ∨ p = 2 := by omega
  rcases this with rfl | rfl | rfl
  · exact ⟨1, by decide, by decide, fun f => by simp, fun f h => by simp [h], by simp⟩
  · exact ⟨2, by decide, by decide, fun f => by simp, fun f h => by simp [h], by simp⟩
  · exact ⟨4, by decide, by decide, fun f => by simp [Bool.and_assoc], fun f h => by simp [h], by simp⟩
theorem digit_add {d k : Nat} (hd : d = 1 ∨ d = 2 ∨ d = 4) (hk : k < 8) (h : k &&& d = 0) : k + d = k ^^^ d ∧ k + d = k ||| d ∧ k + d < 8 := by
  have hall : ∀ d, (d = 1 ∨ d = 2 ∨ d = 4) → ∀ k, k < 8 → k &&& d = 0 → k + d = k ^^^ d ∧ k + d = k ||| d ∧ k + d < 8 := by rintro d (rfl | rfl | rfl) <;> decide
  exact hall d hd k hk h

end Go.Proofs.YtdihapcicpkdkaaGreatDoor

namespace Go.Proofs.YtdihapcicpkdkaaGreatDoor
open Go.RowKit
set_option linter.unusedSectionVars false
variable [Glb]
open Go
/-! scenes, halls -/
def riseAt (l : List Int) (lo hi : Int) (i : Nat) : Bool := inB (atZ l i) lo hi && (decide (i = 0) || decide (atZ l ((i : Int) - 1) < atZ l i))
def riseB (l : List Int) (lo hi : Int) : Bool := (List.range l.length).all fun i => riseAt l lo hi i
theorem riseB_f {l : List Int} {lo hi : Int} {k : Nat} (h : k < l.length) (hf : riseAt l lo hi k = false) : riseB l lo hi = false := range_all_f h hf
def ctxB (n : Int) (l : List Int) : Bool := decide (0 < l.length) && riseB l 0 (n - 1)
def sceneB (ev : Int) (cc : List (List Int)) (ss : List Int) : Bool := inB ev 0 12 && (decide (cc.length ≤ 10) && (bitsB ss cc.length && cc.all (ctxB ev)))
structure SceneOK (ev : Int) (cc : List (List Int)) (ss : List Int) : Prop where
  e0 : 0 ≤ ev
  e12 : ev ≤ 12
  c10 : cc.length ≤ 10
  sl : ss.length = cc.length
  sb : bitsB ss cc.length = true
  ctx : ∀ q, (hq : q < cc.length) → ctxB ev cc[q] = true
theorem sceneB_spec {ev : Int} {cc : List (List Int)} {ss : List Int} (h : sceneB ev cc ss = true) : SceneOK ev cc ss := by
  simp only [sceneB, Bool.and_eq_true, decide_eq_true_eq, List.all_eq_true] at h
  obtain ⟨h1, h2, h3, h4⟩ := h
  have a := inB_iff.1 h1
  have := bitsB_len h3
  exact ⟨a.1, a.2, h2, by omega, h3, fun q hq => h4 _ (List.getElem_mem hq)⟩
def hallB (bx by_ bwh : Int) (bll : List (List Int)) (pl : List Int) (ev : Int) (cc : List (List Int)) (ss nu : List Int) (co : Int) : Bool :=
  boxB bx by_ bwh bll && (bitsB pl (bx + by_) && (sceneB ev cc ss && (bitsB nu ev && inB co 0 1000)))
/-- the least of numbers -/
def leastN (m : Int) (f : Nat → Int) : Nat → Int
  | 0 => m
  | k + 1 => min (leastN m f k) (f k)
def chanceF (Y X : Nat) (ll : List (List Int)) (pl : List Int) (j : Nat) : Int := atZ (atZ ll j) (2 * atZ pl ((j / Y : Nat) : Int) + atZ pl ((X : Int) + (j % Y : Nat)))
theorem rise_no {l : List Int} {lo hi : Int} {k : Nat} (hk : (k : Int) < l.length) (h : inB (atZ l k) lo hi = false ∨ ((k : Int) > 0 ∧ atZ l ((k : Int) - 1) ≥ atZ l k)) : riseB l lo hi = false := by
  refine riseB_f (k := k) (by omega) ?_
  unfold riseAt
  rcases h with h | ⟨h1, h2⟩
  · simp [h]
  · have : ¬ k = 0 := by omega
    have h3 : ¬ atZ l ((k : Int) - 1) < atZ l k := by omega
    simp [this, h3]
theorem rise_yes {l : List Int} {lo hi : Int} {k : Nat} (ha : (List.range k).all (riseAt l lo hi) = true) (h : inB (atZ l k) lo hi = true) (h2 : ¬ (k : Int) > 0 ∨ ¬ atZ l ((k : Int) - 1) ≥ atZ l k) : (List.range (k + 1)).all (riseAt l lo hi) = true := by
  rw [range_all_s, ha, Bool.true_and]
  unfold riseAt
  rcases h2 with h2 | h2
  · have : k = 0 := by omega
    simp [h, this]
    subst this; simpa using h
  · have h3 : atZ l ((k : Int) - 1) < atZ l k := by omega
    simp [h, h3]
structure HallOK (bx by_ bwh : Int) (bll : List (List Int)) (pl : List Int) (ev : Int) (cc : List (List Int)) (ss nu : List Int) (co : Int) : Prop where
  box : boxB bx by_ bwh bll = true
  pl : bitsB pl (bx + by_) = true
  sc : sceneB ev cc ss = true
  nu : bitsB nu ev = true
  co : inB co 0 1000 = true
theorem hallB_spec {bx by_ bwh : Int} {bll : List (List Int)} {pl : List Int} {ev : Int} {cc : List (List Int)} {ss nu : List Int} {co : Int} (h : hallB bx by_ bwh bll pl ev cc ss nu co = true) : HallOK bx by_ bwh bll pl ev cc ss nu co := by
  simp only [hallB, Bool.and_eq_true] at h
  exact ⟨h.1, h.2.1, h.2.2.1, h.2.2.2.1, h.2.2.2.2⟩
theorem chance_at {X Y : Nat} {ll : List (List Int)} {pl : List Int} {i k : Nat} (hk : k < Y) : chanceF Y X ll pl (Y * i + k) = atB ll Y i k (2 * atZ pl i + atZ pl ((X : Int) + k)) := by
  have e1 : (Y * i + k) / Y = i := by rw [Nat.mul_comm, Nat.add_comm, Nat.add_mul_div_right _ _ (by omega), Nat.div_eq_of_lt hk, Nat.zero_add]
  have e2 : (Y * i + k) % Y = k := by rw [Nat.mul_comm, Nat.add_comm, Nat.add_mul_mod_self_right, Nat.mod_eq_of_lt hk]
  unfold chanceF atB
  rw [e1, e2, Int.natCast_add, Int.natCast_mul, Int.mul_comm]
theorem chance_split {X Y : Nat} (ll : List (List Int)) (pl : List Int) {i : Nat} (hY : 1 ≤ Y) (hi : i < Y * X) :
    ∃ a m : Nat, (i : Int) / Y = a ∧ (i : Int) % Y = m ∧ a < X ∧ m < Y ∧ chanceF Y X ll pl i = atZ (atZ ll i) (2 * atZ pl a + atZ pl ((X : Int) + m)) :=
  ⟨i / Y, i % Y, by simp, by simp, Nat.div_lt_of_lt_mul hi, Nat.mod_lt _ hY, rfl⟩

end Go.Proofs.YtdihapcicpkdkaaGreatDoor

namespace Go.Proofs.YtdihapcicpkdkaaGreatDoor
open Go.RowKit
set_option linter.unusedSectionVars false
variable [Glb]
set_option maxRecDepth 10000
set_option maxHeartbeats 4000000
theorem toIntS_p (l : List Int) (h : l.length ≤ 1048576) : PC Tryz.prog 29 [.c (eI l)] (.p (.c (eI l))) := by
  refine pc_intro Tryz.func29 rfl rfl rfl (by kernel_rfl) rfl rfl ?_; intro _
  repeat' (first | (refine so_is (.assign _) ?_; (refine so_q (qt_asC rfl) rfl ?_)) | (refine so_is (.move _) ?_; (refine so_q (qt_mvC rfl) rfl ?_)) | (refine so_is (.call ⟨.builtin .len, _, #[25]⟩) ?_; (refine so_q (qt_len_d rfl (by kernel_rfl)) rfl ?_)) | (refine so_is (.makeSlice 25 _ _) ?_; (refine so_make (by_ := 8) (z := .int .i64 0) (y := .lit (.int .i64 0)) rfl rfl (by kernel_rfl) (by kernel_rfl) rfl (fun _ => .lit _ rfl) (by (omega)) (by (omega)) (by (omega)) rfl ?_)) | refine so_nil ?_ | refine sk_seq ?_ | refine sk_block ?_ | refine sk_region ?_)
  apply sk_packC [0, 3, 4] [7] rfl; (· (repeat (first | exact Pf.nil | apply Pf.cons (.c rfl (.d rfl)) | apply Pf.cons (.c rfl (.ls rfl))))); (· (repeat (first | exact Pb.nil | apply Pb.cons (.row rfl))))
  refine sk_loopL [0, 3] [] (fun k => [(4, iN k)]) (fun k => [(7, .row 1 (cI (fillL l 0 k)))]) (fun k => k ≤ l.length) (fun k => l.length - k) (0) ?_ (by (repeat (first | exact trivial | refine ⟨(by (rfl)), ?_⟩))) (by (repeat (first | exact trivial | refine ⟨(by ((refine row_eq rfl ?_; simp  [fillL_zero, cI]; done))), ?_⟩))) ?_
  · simp
  intro k hk
  repeat' (first | (refine so_is (.assign _) ?_; (refine so_q (qt_asC rfl) rfl ?_)) | (refine so_is (.move _) ?_; (refine so_q (qt_mvC rfl) rfl ?_)) | (refine so_is (.call ⟨.builtin .len, _, #[25]⟩) ?_; (refine so_q (qt_len_d rfl (by kernel_rfl)) rfl ?_)) | (refine so_is (.binOp .lss 3 _ _ _) ?_; refine so_q (qt_lss rfl rfl) rfl ?_) | (refine so_is (.indexAddr 25 _ _) ?_; (first | refine so_q (qt_idxI rfl rfl (by kernel_rfl) (by (omega)) (by (omega))) rfl ?_ | refine so_q (qt_idx_ls rfl rfl (by kernel_rfl : tSl _ 25 1 = true) (by (omega)) (by (omega))) rfl ?_)) | (refine so_is (.load 3 _) ?_; (refine so_q (qt_load_pt rfl (by kernel_rfl) rfl) rfl ?_)) | (refine so_is (.store 3 _ _) ?_; ((refine so_store_row rfl rfl rfl rfl (.lit _) (by simp) (by simp) (by kernel_rfl) (by ((simp only [List.length_map, List.length_append, List.length_replicate, fillL_len, rowF_len, gridF_len, mkI_len, mkII_len, partZ_min] at *; omega))) rfl ?_; simp only [St.drop]))) | (refine so_is (.binOp .add 3 _ _ _) ?_; refine so_q (qt_addI rfl rfl (by (omega))) rfl ?_) | refine so_nil ?_ | refine sk_seq ?_ | refine sk_block ?_ | refine sk_blk ?_ | refine sk_exit rfl ?_ | refine sk_skip ?_ | refine sk_region ?_ | refine sk_if rfl (fun hc => ?_) (fun hc => ?_))
  · have hk' : k < l.length := by omega
    refine sk_back ?_; refine ⟨k + 1, ?_, ?_, le_at rfl (by (repeat (first | exact trivial | refine ⟨(by (rfl)), ?_⟩))) (by (repeat (first | exact trivial | refine ⟨rfl, ?_⟩))) (by (repeat (first | exact trivial | refine ⟨(by ((refine row_eq rfl ?_; simp  [atZ_nat hk', ← List.map_set, fillL_set 0 hk']; done))), ?_⟩))) (by (repeat (exact trivial)))⟩
    · omega
    · omega
  · have : k = l.length := by omega
    subst this
    rw [fillL_all]
    (apply sk_ret; apply ret_eq; (· apply RetOK.p; (· (apply GvA.cons; (· exact .tmp _); (· (exact GvP.c (.row _ _ _ _ rfl (by ((simp; done))))))); exact GvA.nil); (· (decide))))
    simp

end Go.Proofs.YtdihapcicpkdkaaGreatDoor

namespace Go.Proofs.YtdihapcicpkdkaaGreatDoor
open Go.RowKit
set_option linter.unusedSectionVars false
variable [Glb]
set_option maxRecDepth 10000
set_option maxHeartbeats 4000000
theorem toIntSS_p (ll : List (List Int)) (h : ll.length ≤ 1048576) (hr : ∀ l ∈ ll, l.length ≤ 1048576) : PC Tryz.prog 47 [.c (eII ll)] (.p (.c (eII ll))) := by
  refine pc_intro Tryz.func47 rfl rfl rfl (by kernel_rfl) rfl rfl ?_; intro _
  repeat' (first | (refine so_is (.assign _) ?_; (refine so_q (qt_asC rfl) rfl ?_)) | (refine so_is (.move _) ?_; (refine so_q (qt_mvC rfl) rfl ?_)) | (refine so_is (.call ⟨.builtin .len, _, #[22]⟩) ?_; (refine so_q (qt_len_d rfl (by kernel_rfl)) rfl ?_)) | (refine so_is (.makeSlice 22 _ _) ?_; (refine so_make (by_ := 24) (z := .slice none 0 0) (y := .sl 1 0 []) rfl rfl (by kernel_rfl) (by kernel_rfl) rfl (fun _ => .nil _ (by decide)) (by (omega)) (by (omega)) (by (omega)) rfl ?_)) | refine so_nil ?_ | refine sk_seq ?_ | refine sk_block ?_ | refine sk_region ?_)
  apply sk_packC [0, 3, 4] [7, 20] rfl; (· (repeat (first | exact Pf.nil | apply Pf.cons (.c rfl (.d rfl)) | apply Pf.cons (.c rfl (.ls rfl))))); (· (repeat (first | exact Pb.nil | apply Pb.cons (.row rfl) | apply Pb.skip)))
  refine sk_loopL [0, 3] [20] (fun k => [(4, iN k)]) (fun k => [(7, .row 1 (cII (fillL ll [] k)))]) (fun k => k ≤ ll.length) (fun k => ll.length - k) (0) ?_ (by (repeat (first | exact trivial | refine ⟨(by (rfl)), ?_⟩))) (by (repeat (first | exact trivial | refine ⟨(by ((refine row_eq rfl ?_; simp  [fillL_zero]; done))), ?_⟩))) ?_
  · simp
  intro k hk
  repeat' (first | (refine so_is (.assign _) ?_; (refine so_q (qt_asC rfl) rfl ?_)) | (refine so_is (.move _) ?_; (refine so_q (qt_mvC rfl) rfl ?_)) | (refine so_is (.call ⟨.builtin .len, _, #[22]⟩) ?_; (refine so_q (qt_len_d rfl (by kernel_rfl)) rfl ?_)) | (refine so_is (.binOp .lss 3 _ _ _) ?_; refine so_q (qt_lss rfl rfl) rfl ?_) | (refine so_is (.indexAddr 22 _ _) ?_; (first | refine so_q (qt_idxII rfl rfl (by kernel_rfl) (by (omega)) (by (omega))) rfl ?_ | refine so_q (qt_idx_ls rfl rfl (by kernel_rfl : tSl _ 22 1 = true) (by (omega)) (by (omega))) rfl ?_)) | (refine so_is (.load 25 _) ?_; (refine so_q (qt_load_pt rfl (by kernel_rfl) rfl) rfl ?_)) | (refine so_is (.store 25 _ _) ?_; (refine so_store_row rfl rfl rfl rfl (.row _ _ _ _ rfl (by ((simp; done)))) (by decide) (by decide) (by kernel_rfl) (by ((simp only [List.length_map, List.length_append, List.length_replicate, fillL_len, rowF_len, gridF_len, mkI_len, mkII_len, partZ_min] at *; omega))) rfl ?_)) | (refine so_is (.binOp .add 3 _ _ _) ?_; refine so_q (qt_addI rfl rfl (by (omega))) rfl ?_) | (refine so_is (.call ⟨.value (.func 29), _, _⟩) ?_; (apply so_callO0 (fid := 29); (· (repeat (first | exact SeA.nil | apply SeA.cons (.c (.d _))))); (· exact toIntS_p (atZ ll k) (by rw [atZ_nat (by omega)]; exact hr _ (List.getElem_mem _))); (· rfl); (· rfl))) | refine so_nil ?_ | refine sk_seq ?_ | refine sk_block ?_ | refine sk_blk ?_ | refine sk_exit rfl ?_ | refine sk_skip ?_ | refine sk_region ?_ | refine sk_if rfl (fun hc => ?_) (fun hc => ?_))
  · have hk' : k < ll.length := by omega
    refine sk_back ?_; refine ⟨k + 1, ?_, ?_, le_at rfl (by (repeat (first | exact trivial | refine ⟨(by (rfl)), ?_⟩))) (by (repeat (first | exact trivial | refine ⟨rfl, ?_⟩))) (by (repeat (first | exact trivial | refine ⟨(by ((refine row_eq rfl ?_; simp  [atZ_nat hk', ← fillL_set [] hk']; done))), ?_⟩))) (by (repeat (first | exact trivial | refine ⟨.inr rfl, ?_⟩)))⟩
    · omega
    · omega
  · have : k = ll.length := by omega
    subst this
    rw [fillL_all]
    (apply sk_ret; apply ret_eq; (· apply RetOK.p; (· (apply GvA.cons; (· exact .tmp _); (· (exact GvP.c (.row _ _ _ _ rfl (by ((simp; done))))))); exact GvA.nil); (· (decide))))
    simp
theorem toIntSS_z (ll : List (List Int)) (h : ll.length + cnt ll ≤ 1048576) : PC Tryz.prog 47 [.c (eII ll)] (.p (.c (eII ll))) :=
  toIntSS_p ll (by omega) fun l hl => by have := cnt_mem hl; omega

end Go.Proofs.YtdihapcicpkdkaaGreatDoor

namespace Go.Proofs.YtdihapcicpkdkaaGreatDoor
open Go.RowKit
set_option linter.unusedSectionVars false
variable [Glb]
set_option maxRecDepth 10000
set_option maxHeartbeats 4000000
theorem toBox_p (x : Int) (y : Int) (wh : Int) (ll : List (List Int)) (h : ll.length + cnt ll ≤ 1048576) : PC Tryz.prog 28 [.g [dI x, dI y, dI wh, eII ll]] (.p (.g [dI x, dI y, dI wh, eII ll])) := by
  refine pc_intro Tryz.func28 rfl rfl rfl (by kernel_rfl) rfl rfl ?_; intro _
  repeat' (first | (refine so_is (.box 24 _) ?_; refine so_box rfl rfl ?_) | (refine so_is (.alloc 36) ?_; refine so_alloc (zs := [.int .i64 0, .int .i64 0, .int .i64 0, .slice none 0 0]) (by kernel_rfl) rfl ?_) | (refine so_is (.fieldAddr 24 _ 0) ?_; (refine so_q (qt_fld_lp (off := 0) rfl (by kernel_rfl)) rfl ?_)) | (refine so_is (.load 3 _) ?_; (refine so_q (qt_load_box rfl rfl (by kernel_rfl) rfl) rfl ?_)) | (refine so_is (.fieldAddr 36 _ 0) ?_; (refine so_q (qt_fld_lp (off := 0) rfl (by kernel_rfl)) rfl ?_)) | (refine so_is (.store 3 _ _) ?_; (refine so_store_box1 rfl rfl rfl rfl (by kernel_rfl) rfl rfl ?_)) | (refine so_is (.fieldAddr 24 _ 1) ?_; (refine so_q (qt_fld_lp (off := 1) rfl (by kernel_rfl)) rfl ?_)) | (refine so_is (.fieldAddr 36 _ 1) ?_; (refine so_q (qt_fld_lp (off := 1) rfl (by kernel_rfl)) rfl ?_)) | (refine so_is (.fieldAddr 24 _ 2) ?_; (refine so_q (qt_fld_lp (off := 2) rfl (by kernel_rfl)) rfl ?_)) | (refine so_is (.fieldAddr 36 _ 2) ?_; (refine so_q (qt_fld_lp (off := 2) rfl (by kernel_rfl)) rfl ?_)) | (refine so_is (.fieldAddr 24 _ 3) ?_; (refine so_q (qt_fld_lp (off := 3) rfl (by kernel_rfl)) rfl ?_)) | (refine so_is (.load 22 _) ?_; (refine so_q (qt_load_box rfl rfl (by kernel_rfl) rfl) rfl ?_)) | (refine so_is (.fieldAddr 36 _ 3) ?_; (refine so_q (qt_fld_lp (off := 3) rfl (by kernel_rfl)) rfl ?_)) | (refine so_is (.store 22 _ _) ?_; (refine so_store_box1 rfl rfl rfl rfl (by kernel_rfl) rfl rfl ?_)) | (refine so_is (.load 36 _) ?_; (refine so_q (qt_load_boxs rfl rfl (by kernel_rfl : tAgg _ 36 4 = true) rfl) rfl ?_)) | (refine so_is (.store 36 _ _) ?_; (refine so_store_box rfl rfl rfl (by kernel_rfl) rfl rfl ?_)) | (refine so_is (.call ⟨.value (.func 47), _, _⟩) ?_; (apply so_callO0 (fid := 47); (· (repeat (first | exact SeA.nil | apply SeA.cons (.c (.d _))))); (· exact toIntSS_z _ (by omega)); (· rfl); (· rfl))) | refine so_nil ?_ | refine sk_seq ?_ | refine sk_region (id := 0) ?_ | refine sk_region (id := 1) ?_ | refine sk_region (id := 2) ?_ | refine sk_region (id := 3) ?_ | (apply sk_pack 4 [1, 2, 3] [1, 2, 3] rfl; (· (repeat (first | exact Pf.nil | apply Pf.cons (.c rfl (.lp rfl))))); (· (repeat (first | exact Pb.nil | (apply Pb.cons; (· apply Nb.box rfl; (repeat (first | exact Ncs.nil rfl | (apply Ncs.cons rfl; (· (exact .d rfl)))))))))); refine sk_region (id := 4) ?_) | refine sk_region (id := 5) ?_ | refine sk_region (id := 6) ?_)
  · (apply sk_ret; apply ret_eq; (· apply RetOK.p; (· (apply GvA.cons; (· (apply RV.cellN (n := 4); (· rfl); (· rfl); (· kernel_rfl); (· rfl))); (· (apply GvP.g; (· (apply GvL.cons (.lit _)); (apply GvL.cons (.lit _)); (apply GvL.cons (.lit _)); ((apply GvL.cons (.row _ _ _ _ rfl (by ((simp; done)))))); exact GvL.nil)))); exact GvA.nil); (· (decide))))
    rfl

end Go.Proofs.YtdihapcicpkdkaaGreatDoor

namespace Go.Proofs.YtdihapcicpkdkaaGreatDoor
open Go.RowKit
set_option linter.unusedSectionVars false
variable [Glb]
set_option maxRecDepth 10000
set_option maxHeartbeats 4000000
theorem toScene_p (ev : Int) (cc : List (List Int)) (ss : List Int) (h : cc.length + cnt cc + ss.length ≤ 1048576) : PC Tryz.prog 30 [.g [dI ev, eII cc, eI ss]] (.p (.g [dI ev, eII cc, eI ss])) := by
  refine pc_intro Tryz.func30 rfl rfl rfl (by kernel_rfl) rfl rfl ?_; intro _
  repeat' (first | (refine so_is (.box 27 _) ?_; refine so_box rfl rfl ?_) | (refine so_is (.alloc 37) ?_; refine so_alloc (zs := [.int .i64 0, .slice none 0 0, .slice none 0 0]) (by kernel_rfl) rfl ?_) | (refine so_is (.fieldAddr 27 _ 0) ?_; (refine so_q (qt_fld_lp (off := 0) rfl (by kernel_rfl)) rfl ?_)) | (refine so_is (.load 3 _) ?_; (refine so_q (qt_load_box rfl rfl (by kernel_rfl) rfl) rfl ?_)) | (refine so_is (.fieldAddr 37 _ 0) ?_; (refine so_q (qt_fld_lp (off := 0) rfl (by kernel_rfl)) rfl ?_)) | (refine so_is (.store 3 _ _) ?_; (refine so_store_box1 rfl rfl rfl rfl (by kernel_rfl) rfl rfl ?_)) | (refine so_is (.fieldAddr 27 _ 1) ?_; (refine so_q (qt_fld_lp (off := 1) rfl (by kernel_rfl)) rfl ?_)) | (refine so_is (.load 22 _) ?_; (refine so_q (qt_load_box rfl rfl (by kernel_rfl) rfl) rfl ?_)) | (refine so_is (.fieldAddr 37 _ 1) ?_; (refine so_q (qt_fld_lp (off := 1) rfl (by kernel_rfl)) rfl ?_)) | (refine so_is (.store 22 _ _) ?_; (refine so_store_box1 rfl rfl rfl rfl (by kernel_rfl) rfl rfl ?_)) | (refine so_is (.fieldAddr 27 _ 2) ?_; (refine so_q (qt_fld_lp (off := 2) rfl (by kernel_rfl)) rfl ?_)) | (refine so_is (.load 25 _) ?_; (refine so_q (qt_load_box rfl rfl (by kernel_rfl) rfl) rfl ?_)) | (refine so_is (.fieldAddr 37 _ 2) ?_; (refine so_q (qt_fld_lp (off := 2) rfl (by kernel_rfl)) rfl ?_)) | (refine so_is (.store 25 _ _) ?_; (refine so_store_box1 rfl rfl rfl rfl (by kernel_rfl) rfl rfl ?_)) | (refine so_is (.load 37 _) ?_; (refine so_q (qt_load_boxs rfl rfl (by kernel_rfl : tAgg _ 37 3 = true) rfl) rfl ?_)) | (refine so_is (.store 37 _ _) ?_; (refine so_store_box rfl rfl rfl (by kernel_rfl) rfl rfl ?_)) | (refine so_is (.call ⟨.value (.func 47), _, _⟩) ?_; (apply so_callO0 (fid := 47); (· (repeat (first | exact SeA.nil | apply SeA.cons (.c (.d _))))); (· exact toIntSS_z _ (by omega)); (· rfl); (· rfl))) | (refine so_is (.call ⟨.value (.func 29), _, _⟩) ?_; (apply so_callO0 (fid := 29); (· (repeat (first | exact SeA.nil | apply SeA.cons (.c (.d _))))); (· exact toIntS_p _ (by omega)); (· rfl); (· rfl))) | refine so_nil ?_ | refine sk_seq ?_ | refine sk_region (id := 0) ?_ | refine sk_region (id := 1) ?_ | refine sk_region (id := 2) ?_ | refine sk_region (id := 3) ?_ | (apply sk_pack 4 [1, 2, 3] [1, 2, 3, 9] rfl; (· (repeat (first | exact Pf.nil | apply Pf.cons (.c rfl (.lp rfl))))); (· (repeat (first | exact Pb.nil | apply Pb.cons (.row rfl) | (apply Pb.cons; (· apply Nb.box rfl; (repeat (first | exact Ncs.nil rfl | (apply Ncs.cons rfl; (· (first | exact .d rfl | exact .ls rfl)))))))))); refine sk_region (id := 4) ?_) | refine sk_region (id := 5) ?_)
  · (apply sk_ret; apply ret_eq; (· apply RetOK.p; (· (apply GvA.cons; (· (apply RV.cellN (n := 3); (· rfl); (· rfl); (· kernel_rfl); (· rfl))); (· (apply GvP.g; (· (apply GvL.cons (.lit _)); ((apply GvL.cons (.row _ _ _ _ rfl (by ((simp; done)))))); ((apply GvL.cons (.row _ _ _ _ rfl (by ((simp; done)))))); exact GvL.nil)))); exact GvA.nil); (· (decide))))
    rfl

end Go.Proofs.YtdihapcicpkdkaaGreatDoor

namespace Go.Proofs.YtdihapcicpkdkaaGreatDoor
open Go.RowKit
set_option linter.unusedSectionVars false
variable [Glb]
set_option maxRecDepth 10000
set_option maxHeartbeats 4000000
theorem toHall_p (box : Int) (boy : Int) (bowh : Int) (boll : List (List Int)) (pl : List Int) (scev : Int) (sccc : List (List Int)) (scss : List Int) (nu : List Int) (co : Int) (h : boll.length + cnt boll + pl.length + sccc.length + cnt sccc + scss.length + nu.length ≤ 1048576) : PC Tryz.prog 13 [.g [dI box, dI boy, dI bowh, eII boll, eI pl, dI scev, eII sccc, eI scss, eI nu, dI co]] (.p (.g [dI box, dI boy, dI bowh, eII boll, eI pl, dI scev, eII sccc, eI scss, eI nu, dI co])) := by
  refine pc_intro Tryz.func13 rfl rfl rfl (by kernel_rfl) rfl rfl ?_; intro _
  repeat' (first | (refine so_is (.box 29 _) ?_; refine so_box rfl rfl ?_) | (refine so_is (.alloc 39) ?_; refine so_alloc (zs := [.int .i64 0, .int .i64 0, .int .i64 0, .slice none 0 0, .slice none 0 0, .int .i64 0, .slice none 0 0, .slice none 0 0, .slice none 0 0, .int .i64 0]) (by kernel_rfl) rfl ?_) | (refine so_is (.fieldAddr 29 _ 0) ?_; (refine so_q (qt_fld_lp (off := 0) rfl (by kernel_rfl)) rfl ?_)) | (refine so_is (.load 24 _) ?_; (refine so_q (qt_load_boxs rfl rfl (by kernel_rfl : tAgg _ 24 4 = true) rfl) rfl ?_)) | (refine so_is (.fieldAddr 39 _ 0) ?_; (refine so_q (qt_fld_lp (off := 0) rfl (by kernel_rfl)) rfl ?_)) | (refine so_is (.store 36 _ _) ?_; (refine so_store_box rfl rfl rfl (by kernel_rfl) rfl rfl ?_)) | (refine so_is (.fieldAddr 29 _ 1) ?_; (refine so_q (qt_fld_lp (off := 4) rfl (by kernel_rfl)) rfl ?_)) | (refine so_is (.load 25 _) ?_; (refine so_q (qt_load_box rfl rfl (by kernel_rfl) rfl) rfl ?_)) | (refine so_is (.fieldAddr 39 _ 1) ?_; (refine so_q (qt_fld_lp (off := 4) rfl (by kernel_rfl)) rfl ?_)) | (refine so_is (.store 25 _ _) ?_; (refine so_store_box1 rfl rfl rfl rfl (by kernel_rfl) rfl rfl ?_)) | (refine so_is (.fieldAddr 29 _ 2) ?_; (refine so_q (qt_fld_lp (off := 5) rfl (by kernel_rfl)) rfl ?_)) | (refine so_is (.load 27 _) ?_; (refine so_q (qt_load_boxs rfl rfl (by kernel_rfl : tAgg _ 27 3 = true) rfl) rfl ?_)) | (refine so_is (.fieldAddr 39 _ 2) ?_; (refine so_q (qt_fld_lp (off := 5) rfl (by kernel_rfl)) rfl ?_)) | (refine so_is (.store 37 _ _) ?_; (refine so_store_box rfl rfl rfl (by kernel_rfl) rfl rfl ?_)) | (refine so_is (.fieldAddr 29 _ 3) ?_; (refine so_q (qt_fld_lp (off := 8) rfl (by kernel_rfl)) rfl ?_)) | (refine so_is (.fieldAddr 39 _ 3) ?_; (refine so_q (qt_fld_lp (off := 8) rfl (by kernel_rfl)) rfl ?_)) | (refine so_is (.fieldAddr 29 _ 4) ?_; (refine so_q (qt_fld_lp (off := 9) rfl (by kernel_rfl)) rfl ?_)) | (refine so_is (.load 3 _) ?_; (refine so_q (qt_load_box rfl rfl (by kernel_rfl) rfl) rfl ?_)) | (refine so_is (.fieldAddr 39 _ 4) ?_; (refine so_q (qt_fld_lp (off := 9) rfl (by kernel_rfl)) rfl ?_)) | (refine so_is (.store 3 _ _) ?_; (refine so_store_box1 rfl rfl rfl rfl (by kernel_rfl) rfl rfl ?_)) | (refine so_is (.load 39 _) ?_; (refine so_q (qt_load_boxs rfl rfl (by kernel_rfl : tAgg _ 39 10 = true) rfl) rfl ?_)) | (refine so_is (.store 39 _ _) ?_; (refine so_store_box rfl rfl rfl (by kernel_rfl) rfl rfl ?_)) | (refine so_is (.call ⟨.value (.func 28), _, _⟩) ?_; (apply so_callO0 (fid := 28); (· (repeat (first | exact SeA.nil | (apply SeA.cons; (· (apply SeP.g; (repeat (first | exact SeL.nil | apply SeL.cons (.d _))))))))); (· exact toBox_p _ _ _ _ (by omega)); (· rfl); (· rfl))) | (refine so_is (.call ⟨.value (.func 29), _, _⟩) ?_; (apply so_callO0 (fid := 29); (· (repeat (first | exact SeA.nil | apply SeA.cons (.c (.d _))))); (· exact toIntS_p _ (by omega)); (· rfl); (· rfl))) | (refine so_is (.call ⟨.value (.func 30), _, _⟩) ?_; (apply so_callO0 (fid := 30); (· (repeat (first | exact SeA.nil | (apply SeA.cons; (· (apply SeP.g; (repeat (first | exact SeL.nil | apply SeL.cons (.d _))))))))); (· exact toScene_p _ _ _ (by omega)); (· rfl); (· rfl))) | refine so_nil ?_ | refine sk_seq ?_ | refine sk_region (id := 0) ?_ | refine sk_region (id := 1) ?_ | refine sk_region (id := 2) ?_ | (apply sk_pack 3 [1, 2, 3] [1, 2, 3, 3006] rfl; (· (repeat (first | exact Pf.nil | apply Pf.cons (.c rfl (.lp rfl))))); (· (repeat (first | exact Pb.nil | apply Pb.cons (.row rfl) | (apply Pb.cons; (· apply Nb.box rfl; (repeat (first | exact Ncs.nil rfl | (apply Ncs.cons rfl; (· (first | exact .d rfl | exact .ls rfl)))))))))); refine sk_region (id := 3) ?_) | refine sk_region (id := 4) ?_ | (apply sk_pack 5 [1, 2, 3] [1, 2, 3, 3006, 10, 1014, 2014] rfl; (· (repeat (first | exact Pf.nil | apply Pf.cons (.c rfl (.lp rfl))))); (· (repeat (first | exact Pb.nil | apply Pb.cons (.row rfl) | (apply Pb.cons; (· apply Nb.box rfl; (repeat (first | exact Ncs.nil rfl | (apply Ncs.cons rfl; (· (first | exact .d rfl | exact .ls rfl)))))))))); refine sk_region (id := 5) ?_) | refine sk_region (id := 6) ?_ | refine sk_region (id := 7) ?_)
  · (apply sk_ret; apply ret_eq; (· apply RetOK.p; (· (apply GvA.cons; (· (apply RV.cellN (n := 10); (· rfl); (· rfl); (· kernel_rfl); (· rfl))); (· (apply GvP.g; (· (apply GvL.cons (.lit _)); (apply GvL.cons (.lit _)); (apply GvL.cons (.lit _)); ((apply GvL.cons (.row _ _ _ _ rfl (by ((simp; done)))))); ((apply GvL.cons (.row _ _ _ _ rfl (by ((simp; done)))))); (apply GvL.cons (.lit _)); ((apply GvL.cons (.row _ _ _ _ rfl (by ((simp; done)))))); ((apply GvL.cons (.row _ _ _ _ rfl (by ((simp; done)))))); ((apply GvL.cons (.row _ _ _ _ rfl (by ((simp; done)))))); (apply GvL.cons (.lit _)); exact GvL.nil)))); exact GvA.nil); (· (decide))))
    rfl

end Go.Proofs.YtdihapcicpkdkaaGreatDoor

namespace Go.Proofs.YtdihapcicpkdkaaGreatDoor
open Go.RowKit
set_option linter.unusedSectionVars false
variable [Glb]
set_option maxRecDepth 10000
set_option maxHeartbeats 4000000
theorem toLog_p (du : Tx) (pe : Tx) (lc : Int) : PC Tryz.prog 14 [.g [dT du, dT pe, dI lc]] (.p (.g [dT du, dT pe, dI lc])) := by
  refine pc_intro Tryz.func14 rfl rfl rfl (by kernel_rfl) rfl rfl ?_; intro _
  repeat' (first | (refine so_is (.box 31 _) ?_; refine so_box rfl rfl ?_) | (refine so_is (.alloc 40) ?_; refine so_alloc (zs := [.string ByteArray.empty, .string ByteArray.empty, .int .i64 0]) (by kernel_rfl) rfl ?_) | (refine so_is (.fieldAddr 31 _ 0) ?_; (refine so_q (qt_fld_lp (off := 0) rfl (by kernel_rfl)) rfl ?_)) | (refine so_is (.load 9 _) ?_; (refine so_q (qt_load_box rfl rfl (by kernel_rfl) rfl) rfl ?_)) | (refine so_is (.fieldAddr 40 _ 0) ?_; (refine so_q (qt_fld_lp (off := 0) rfl (by kernel_rfl)) rfl ?_)) | (refine so_is (.store 9 _ _) ?_; (refine so_store_box1 rfl rfl rfl rfl (by kernel_rfl) rfl rfl ?_)) | (refine so_is (.fieldAddr 31 _ 1) ?_; (refine so_q (qt_fld_lp (off := 1) rfl (by kernel_rfl)) rfl ?_)) | (refine so_is (.fieldAddr 40 _ 1) ?_; (refine so_q (qt_fld_lp (off := 1) rfl (by kernel_rfl)) rfl ?_)) | (refine so_is (.fieldAddr 31 _ 2) ?_; (refine so_q (qt_fld_lp (off := 2) rfl (by kernel_rfl)) rfl ?_)) | (refine so_is (.load 3 _) ?_; (refine so_q (qt_load_box rfl rfl (by kernel_rfl) rfl) rfl ?_)) | (refine so_is (.fieldAddr 40 _ 2) ?_; (refine so_q (qt_fld_lp (off := 2) rfl (by kernel_rfl)) rfl ?_)) | (refine so_is (.store 3 _ _) ?_; (refine so_store_box1 rfl rfl rfl rfl (by kernel_rfl) rfl rfl ?_)) | (refine so_is (.load 40 _) ?_; (refine so_q (qt_load_boxs rfl rfl (by kernel_rfl : tAgg _ 40 3 = true) rfl) rfl ?_)) | (refine so_is (.store 40 _ _) ?_; (refine so_store_box rfl rfl rfl (by kernel_rfl) rfl rfl ?_)) | refine so_nil ?_ | refine sk_seq ?_ | refine sk_region (id := 0) ?_ | refine sk_region (id := 1) ?_ | refine sk_region (id := 2) ?_ | refine sk_region (id := 3) ?_ | (apply sk_pack 4 [1, 2, 3] [1, 2, 3] rfl; (· (repeat (first | exact Pf.nil | apply Pf.cons (.c rfl (.lp rfl))))); (· (repeat (first | exact Pb.nil | (apply Pb.cons; (· apply Nb.box rfl; (repeat (first | exact Ncs.nil rfl | (apply Ncs.cons rfl; (· (exact .d rfl)))))))))); refine sk_region (id := 4) ?_) | refine sk_region (id := 5) ?_)
  · (apply sk_ret; apply ret_eq; (· apply RetOK.p; (· (apply GvA.cons; (· (apply RV.cellN (n := 3); (· rfl); (· rfl); (· kernel_rfl); (· rfl))); (· (apply GvP.g; (· (apply GvL.cons (.lit _)); (apply GvL.cons (.lit _)); (apply GvL.cons (.lit _)); exact GvL.nil)))); exact GvA.nil); (· (decide))))
    rfl

end Go.Proofs.YtdihapcicpkdkaaGreatDoor

namespace Go.Proofs.YtdihapcicpkdkaaGreatDoor
open Go.RowKit
set_option linter.unusedSectionVars false
variable [Glb]
set_option maxRecDepth 10000
set_option maxHeartbeats 4000000
theorem toConsole_p (hbox : Int) (hboy : Int) (hbowh : Int) (hboll : List (List Int)) (hpl : List Int) (hscev : Int) (hsccc : List (List Int)) (hscss : List Int) (hnu : List Int) (hco : Int) (ldu : Tx) (lpe : Tx) (llc : Int) (h : hboll.length + cnt hboll + hpl.length + hsccc.length + cnt hsccc + hscss.length + hnu.length ≤ 1048576) : PC Tryz.prog 6 [.g [dI hbox, dI hboy, dI hbowh, eII hboll, eI hpl, dI hscev, eII hsccc, eI hscss, eI hnu, dI hco, dT ldu, dT lpe, dI llc]] (.p (.g [dI hbox, dI hboy, dI hbowh, eII hboll, eI hpl, dI hscev, eII hsccc, eI hscss, eI hnu, dI hco, dT ldu, dT lpe, dI llc])) := by
  refine pc_intro Tryz.func6 rfl rfl rfl (by kernel_rfl) rfl rfl ?_; intro _
  repeat' (first | (refine so_is (.box 33 _) ?_; refine so_box rfl rfl ?_) | (refine so_is (.alloc 42) ?_; refine so_alloc (zs := [.int .i64 0, .int .i64 0, .int .i64 0, .slice none 0 0, .slice none 0 0, .int .i64 0, .slice none 0 0, .slice none 0 0, .slice none 0 0, .int .i64 0, .string ByteArray.empty, .string ByteArray.empty, .int .i64 0]) (by kernel_rfl) rfl ?_) | (refine so_is (.fieldAddr 33 _ 0) ?_; (refine so_q (qt_fld_lp (off := 0) rfl (by kernel_rfl)) rfl ?_)) | (refine so_is (.load 29 _) ?_; (refine so_q (qt_load_boxs rfl rfl (by kernel_rfl : tAgg _ 29 10 = true) rfl) rfl ?_)) | (refine so_is (.fieldAddr 42 _ 0) ?_; (refine so_q (qt_fld_lp (off := 0) rfl (by kernel_rfl)) rfl ?_)) | (refine so_is (.store 39 _ _) ?_; (refine so_store_box rfl rfl rfl (by kernel_rfl) rfl rfl ?_)) | (refine so_is (.fieldAddr 33 _ 1) ?_; (refine so_q (qt_fld_lp (off := 10) rfl (by kernel_rfl)) rfl ?_)) | (refine so_is (.load 31 _) ?_; (refine so_q (qt_load_boxs rfl rfl (by kernel_rfl : tAgg _ 31 3 = true) rfl) rfl ?_)) | (refine so_is (.fieldAddr 42 _ 1) ?_; (refine so_q (qt_fld_lp (off := 10) rfl (by kernel_rfl)) rfl ?_)) | (refine so_is (.store 40 _ _) ?_; (refine so_store_box rfl rfl rfl (by kernel_rfl) rfl rfl ?_)) | (refine so_is (.load 42 _) ?_; (refine so_q (qt_load_boxs rfl rfl (by kernel_rfl : tAgg _ 42 13 = true) rfl) rfl ?_)) | (refine so_is (.store 42 _ _) ?_; (refine so_store_box rfl rfl rfl (by kernel_rfl) rfl rfl ?_)) | (refine so_is (.call ⟨.value (.func 13), _, _⟩) ?_; (apply so_callO0 (fid := 13); (· (repeat (first | exact SeA.nil | (apply SeA.cons; (· (apply SeP.g; (repeat (first | exact SeL.nil | apply SeL.cons (.d _))))))))); (· exact toHall_p _ _ _ _ _ _ _ _ _ _ (by omega)); (· rfl); (· rfl))) | (refine so_is (.call ⟨.value (.func 14), _, _⟩) ?_; (apply so_callO0 (fid := 14); (· (repeat (first | exact SeA.nil | (apply SeA.cons; (· (apply SeP.g; (repeat (first | exact SeL.nil | apply SeL.cons (.d _))))))))); (· exact toLog_p _ _ _); (· rfl); (· rfl))) | refine so_nil ?_ | refine sk_seq ?_ | refine sk_region (id := 0) ?_ | refine sk_region (id := 1) ?_ | refine sk_region (id := 2) ?_ | (apply sk_pack 3 [1, 2, 3] [1, 2, 3, 3006, 4006, 6006, 7006, 8006] rfl; (· (repeat (first | exact Pf.nil | apply Pf.cons (.c rfl (.lp rfl))))); (· (repeat (first | exact Pb.nil | apply Pb.cons (.row rfl) | (apply Pb.cons; (· apply Nb.box rfl; (repeat (first | exact Ncs.nil rfl | (apply Ncs.cons rfl; (· (first | exact .d rfl | exact .ls rfl)))))))))); refine sk_region (id := 3) ?_) | refine sk_region (id := 4) ?_)
  · (apply sk_ret; apply ret_eq; (· apply RetOK.p; (· (apply GvA.cons; (· (apply RV.cellN (n := 13); (· rfl); (· rfl); (· kernel_rfl); (· rfl))); (· (apply GvP.g; (· (apply GvL.cons (.lit _)); (apply GvL.cons (.lit _)); (apply GvL.cons (.lit _)); ((apply GvL.cons (.row _ _ _ _ rfl (by ((simp; done)))))); ((apply GvL.cons (.row _ _ _ _ rfl (by ((simp; done)))))); (apply GvL.cons (.lit _)); ((apply GvL.cons (.row _ _ _ _ rfl (by ((simp; done)))))); ((apply GvL.cons (.row _ _ _ _ rfl (by ((simp; done)))))); ((apply GvL.cons (.row _ _ _ _ rfl (by ((simp; done)))))); (apply GvL.cons (.lit _)); (apply GvL.cons (.lit _)); (apply GvL.cons (.lit _)); (apply GvL.cons (.lit _)); exact GvL.nil)))); exact GvA.nil); (· (decide))))
    rfl

end Go.Proofs.YtdihapcicpkdkaaGreatDoor

namespace Go.Proofs.YtdihapcicpkdkaaGreatDoor
open Go.RowKit
set_option linter.unusedSectionVars false
variable [Glb]
set_option maxRecDepth 10000
set_option maxHeartbeats 4000000
theorem szIntS_p (l : List Int) (left : Int) (h0 : 0 ≤ left) (h1 : left ≤ 1048576) : PC Tryz.prog 20 [.c (eI l), .c (dI left)] (.p (.c (dI (szI l.length left)))) := by
  refine pc_intro Tryz.func20 rfl rfl rfl (by kernel_rfl) rfl rfl ?_; rintro ⟨hl, -⟩
  have hl := hl.len
  repeat' (first | (refine so_is (.assign _) ?_; (refine so_q (qt_asC rfl) rfl ?_)) | (refine so_is (.move _) ?_; (refine so_q (qt_mvC rfl) rfl ?_)) | (refine so_is (.call ⟨.builtin .len, _, #[25]⟩) ?_; (refine so_q (qt_len_d rfl (by kernel_rfl)) rfl ?_)) | (refine so_is (.binOp .sub 3 _ _ _) ?_; refine so_q (qt_subI rfl rfl (by (omega))) rfl ?_) | (refine so_is (.binOp .lss 3 _ _ _) ?_; refine so_q (qt_lss rfl rfl) rfl ?_) | refine so_nil ?_ | refine sk_seq ?_ | refine sk_skip ?_ | refine sk_region ?_ | refine sk_if rfl (fun hc => ?_) (fun hc => ?_))
  all_goals ((apply sk_ret; apply ret_eq; (· apply RetOK.p; (· (apply GvA.cons; (· exact .tmp _); (· exact GvP.c (.lit _))); exact GvA.nil); (· (decide)))))
  all_goals simp [szI]
  all_goals omega
theorem szIntS_ok (l : List Int) (left : Int) (h : l.length ≤ left) (h1 : left ≤ 1048576) : PC Tryz.prog 20 [.c (eI l), .c (dI left)] (.p (.c (dI (left - l.length)))) := by
  have := szIntS_p l left (by omega) h1; rwa [show szI l.length left = left - l.length by unfold szI; rw [if_neg (by omega)]] at this
theorem szIntS_no (l : List Int) (left : Int) (h : left < l.length) (h0 : 0 ≤ left) (h1 : left ≤ 1048576) : PC Tryz.prog 20 [.c (eI l), .c (dI left)] (.p (.c (dI (-1)))) := by
  have := szIntS_p l left h0 h1; rwa [show szI l.length left = -1 by unfold szI; rw [if_pos (by omega)]] at this

end Go.Proofs.YtdihapcicpkdkaaGreatDoor

namespace Go.Proofs.YtdihapcicpkdkaaGreatDoor
open Go.RowKit
set_option linter.unusedSectionVars false
variable [Glb]
set_option maxRecDepth 10000
set_option maxHeartbeats 4000000
theorem szR_take (ll : List (List Int)) (k : Nat) (left : Int) (h : k < ll.length) : szR (ll.drop k) left = if szI ll[k].length left < 0 then -1 else szR (ll.drop (k + 1)) (szI ll[k].length left) := by
  rw [List.drop_eq_getElem_cons h]; rfl
theorem szIntSS_p (ll : List (List Int)) (left : Int) (h0 : 0 ≤ left) (h1 : left ≤ 1048576) : PC Tryz.prog 41 [.c (eII ll), .c (dI left)] (.p (.c (dI (szL ll.length ll left)))) := by
  refine pc_intro Tryz.func41 rfl rfl rfl (by kernel_rfl) rfl rfl ?_; rintro ⟨hl, -⟩
  have hl := hl.len
  repeat' (first | (refine so_is (.assign _) ?_; (refine so_q (qt_asC rfl) rfl ?_)) | (refine so_is (.move _) ?_; (refine so_q (qt_mvC rfl) rfl ?_)) | (refine so_is (.call ⟨.builtin .len, _, #[22]⟩) ?_; (refine so_q (qt_len_d rfl (by kernel_rfl)) rfl ?_)) | (refine so_is (.binOp .sub 3 _ _ _) ?_; refine so_q (qt_subI rfl rfl (by (omega))) rfl ?_) | (refine so_is (.binOp .lss 3 _ _ _) ?_; refine so_q (qt_lss rfl rfl) rfl ?_) | refine so_nil ?_ | refine sk_seq ?_ | refine sk_block ?_ | refine sk_skip ?_ | refine sk_region ?_ | refine sk_if rfl (fun hc => ?_) (fun hc => ?_))
  · (apply sk_ret; apply ret_eq; (· apply RetOK.p; (· (apply GvA.cons; (· exact .tmp _); (· exact GvP.c (.lit _))); exact GvA.nil); (· (decide))))
    simp [szL]; omega
  apply sk_packC [0, 1, 5] [] rfl; (· (repeat (first | exact Pf.nil | apply Pf.cons (.c rfl (.d rfl))))); (· (repeat (exact Pb.nil)))
  refine sk_loopL [0] [] (fun g => [(5, iN g.1), (1, iZ g.2)]) (fun _ => []) (fun g => g.1 ≤ ll.length ∧ 0 ≤ g.2 ∧ g.2 ≤ 1048576 ∧ szR (ll.drop g.1) g.2 = szR ll (left - ll.length)) (fun g => ll.length - g.1) (((0 : Nat), left - ll.length)) ?_ (by (repeat (first | exact trivial | refine ⟨(by (rfl)), ?_⟩))) (by (repeat (exact trivial))) ?_
  · simp; omega
  rintro ⟨k, c⟩ ⟨hk, hc0, hc1, hs⟩
  simp only at hk hc0 hc1 hs
  repeat' (first | (refine so_is (.assign _) ?_; (refine so_q (qt_asC rfl) rfl ?_)) | (refine so_is (.move _) ?_; (refine so_q (qt_mvC rfl) rfl ?_)) | (refine so_is (.call ⟨.builtin .len, _, #[22]⟩) ?_; (refine so_q (qt_len_d rfl (by kernel_rfl)) rfl ?_)) | (refine so_is (.binOp .lss 3 _ _ _) ?_; refine so_q (qt_lss rfl rfl) rfl ?_) | (refine so_is (.indexAddr 22 _ _) ?_; (refine so_q (qt_idxII rfl rfl (by kernel_rfl) (by (omega)) (by (omega))) rfl ?_)) | (refine so_is (.load 25 _) ?_; (refine so_q (qt_load_pt rfl (by kernel_rfl) rfl) rfl ?_)) | (refine so_is (.binOp .add 3 _ _ _) ?_; refine so_q (qt_addI rfl rfl (by (omega))) rfl ?_) | (refine so_is (.call ⟨.value (.func 20), _, _⟩) ?_; (apply so_call0 (fid := 20); (· (repeat (first | exact SeA.nil | apply SeA.cons (.c (.d _))))); (· exact szIntS_p _ _ hc0 hc1); (· rfl))) | refine so_nil ?_ | refine sk_seq ?_ | refine sk_block ?_ | refine sk_blk ?_ | refine sk_exit rfl ?_ | refine sk_skip ?_ | refine sk_region ?_ | refine sk_if rfl (fun hc => ?_) (fun hc => ?_))
  · rename_i hk'
    rw [atZ_nat (by omega)] at hc
    have e := szR_take ll k c (by omega)
    rw [if_pos hc, hs] at e
    (apply sk_ret; apply ret_eq; (· apply RetOK.p; (· (apply GvA.cons; (· exact .tmp _); (· exact GvP.c (.lit _))); exact GvA.nil); (· (decide))))
    simp [szL, e]
  · rename_i hk'
    rw [atZ_nat (by omega)] at hc
    have e := szR_take ll k c (by omega)
    rw [if_neg hc, hs] at e
    have h2 : szI ll[k].length c ≤ c := by unfold szI; split <;> omega
    refine sk_back ?_; refine ⟨(k + 1, szI ll[k].length c), ?_, ?_, le_at rfl (by (repeat (first | exact trivial | refine ⟨(by (first | rfl | (refine int_eq rfl ?_; ((simp  [atZ_nat (show k < ll.length by omega)]; done))))), ?_⟩))) (by (repeat (first | exact trivial | refine ⟨rfl, ?_⟩))) (by (repeat (exact trivial))) (by (repeat (exact trivial)))⟩
    · have h3 : 0 ≤ szI ll[k].length c := by simp only at hc; omega
      exact ⟨by simp only; omega, by simp only; omega, by simp only; omega, e.symm⟩
    · simp only; omega
  · have e : k = ll.length := by omega
    subst e
    rw [List.drop_length] at hs
    (apply sk_ret; apply ret_eq; (· apply RetOK.p; (· (apply GvA.cons; (· exact .tmp _); (· exact GvP.c (.lit _))); exact GvA.nil); (· (decide))))
    simp only [szR] at hs
    have h9 : ¬ left - (ll.length : Int) < 0 := by simp at *; omega
    simp [szL, ← hs, h9]
theorem szIntSS_ok (ll : List (List Int)) (left : Int) (h : ll.length + cnt ll ≤ left) (h1 : left ≤ 1048576) : PC Tryz.prog 41 [.c (eII ll), .c (dI left)] (.p (.c (dI (left - ll.length - cnt ll)))) := by
  have := szIntSS_p ll left (by omega) h1; rwa [szL_ok h] at this
theorem szIntSS_no (ll : List (List Int)) (left : Int) (h : left < ll.length + cnt ll) (h0 : 0 ≤ left) (h1 : left ≤ 1048576) : PC Tryz.prog 41 [.c (eII ll), .c (dI left)] (.p (.c (dI (-1)))) := by
  have := szIntSS_p ll left h0 h1; rwa [szL_no h h0] at this

end Go.Proofs.YtdihapcicpkdkaaGreatDoor

namespace Go.Proofs.YtdihapcicpkdkaaGreatDoor
open Go.RowKit
set_option linter.unusedSectionVars false
variable [Glb]
set_option maxRecDepth 10000
set_option maxHeartbeats 4000000
theorem szBox_ok (x : Int) (y : Int) (wh : Int) (ll : List (List Int)) (left : Int) (h : ll.length + cnt ll ≤ left) (h1 : left ≤ 1048576) : PC Tryz.prog 19 [.g [dI x, dI y, dI wh, eII ll], .c (dI left)] (.p (.c (dI (left - ll.length - cnt ll)))) := by
  refine pc_intro Tryz.func19 rfl rfl rfl (by kernel_rfl) rfl rfl ?_; intro _
  repeat' (first | (refine so_is (.box 24 _) ?_; refine so_box rfl rfl ?_) | (refine so_is (.assign _) ?_; (refine so_q (qt_asC rfl) rfl ?_)) | (refine so_is (.fieldAddr 24 _ 3) ?_; (refine so_q (qt_fld_lp (off := 3) rfl (by kernel_rfl)) rfl ?_)) | (refine so_is (.load 22 _) ?_; (refine so_q (qt_load_box rfl rfl (by kernel_rfl) rfl) rfl ?_)) | (refine so_is (.move _) ?_; (refine so_q (qt_mvC rfl) rfl ?_)) | (refine so_is (.binOp .lss 3 _ _ _) ?_; refine so_q (qt_lss rfl rfl) rfl ?_) | (refine so_is (.call ⟨.value (.func 41), _, _⟩) ?_; (apply so_call0 (fid := 41); (· (repeat (first | exact SeA.nil | apply SeA.cons (.c (.d _))))); (· exact szIntSS_ok _ _ (by omega) (by omega)); (· rfl))) | refine so_nil ?_ | refine sk_seq ?_ | refine sk_skip ?_ | refine sk_region ?_ | refine sk_if rfl (fun hc => ?_) (fun hc => ?_))
  all_goals first | (exfalso; omega) | skip
  · (apply sk_ret; apply ret_eq; (· apply RetOK.p; (· (apply GvA.cons; (· exact .tmp _); (· exact GvP.c (.lit _))); exact GvA.nil); (· (decide))))
    rfl
theorem szBox_no (x : Int) (y : Int) (wh : Int) (ll : List (List Int)) (left : Int) (h : left < ll.length + cnt ll) (h0 : 0 ≤ left) (h1 : left ≤ 1048576) : PC Tryz.prog 19 [.g [dI x, dI y, dI wh, eII ll], .c (dI left)] (.p (.c (dI (-1)))) := by
  refine pc_intro Tryz.func19 rfl rfl rfl (by kernel_rfl) rfl rfl ?_; intro _
  repeat' (first | (refine so_is (.box 24 _) ?_; refine so_box rfl rfl ?_) | (refine so_is (.assign _) ?_; (refine so_q (qt_asC rfl) rfl ?_)) | (refine so_is (.fieldAddr 24 _ 3) ?_; (refine so_q (qt_fld_lp (off := 3) rfl (by kernel_rfl)) rfl ?_)) | (refine so_is (.load 22 _) ?_; (refine so_q (qt_load_box rfl rfl (by kernel_rfl) rfl) rfl ?_)) | (refine so_is (.move _) ?_; (refine so_q (qt_mvC rfl) rfl ?_)) | (refine so_is (.binOp .lss 3 _ _ _) ?_; refine so_q (qt_lss rfl rfl) rfl ?_) | (refine so_is (.call ⟨.value (.func 41), _, _⟩) ?_; ((apply so_call0 (fid := 41); (· (repeat (first | exact SeA.nil | apply SeA.cons (.c (.d _))))); (· exact szIntSS_no _ _ (by omega) (by omega) (by omega)); (· rfl)))) | refine so_nil ?_ | refine sk_seq ?_ | refine sk_region ?_ | refine sk_true rfl ?_)
  all_goals first | (exfalso; omega) | skip
  all_goals (apply sk_ret; apply ret_eq; (· apply RetOK.p; (· (apply GvA.cons; (· exact .tmp _); (· exact GvP.c (.lit _))); exact GvA.nil); (· (decide))))
  all_goals rfl

end Go.Proofs.YtdihapcicpkdkaaGreatDoor

namespace Go.Proofs.YtdihapcicpkdkaaGreatDoor
open Go.RowKit
set_option linter.unusedSectionVars false
variable [Glb]
set_option maxRecDepth 10000
set_option maxHeartbeats 4000000
theorem szScene_ok (ev : Int) (cc : List (List Int)) (ss : List Int) (left : Int) (h : cc.length + cnt cc + ss.length ≤ left) (h1 : left ≤ 1048576) : PC Tryz.prog 21 [.g [dI ev, eII cc, eI ss], .c (dI left)] (.p (.c (dI (left - cc.length - cnt cc - ss.length)))) := by
  refine pc_intro Tryz.func21 rfl rfl rfl (by kernel_rfl) rfl rfl ?_; intro _
  repeat' (first | (refine so_is (.box 27 _) ?_; refine so_box rfl rfl ?_) | (refine so_is (.assign _) ?_; (refine so_q (qt_asC rfl) rfl ?_)) | (refine so_is (.fieldAddr 27 _ 1) ?_; (refine so_q (qt_fld_lp (off := 1) rfl (by kernel_rfl)) rfl ?_)) | (refine so_is (.load 22 _) ?_; (refine so_q (qt_load_box rfl rfl (by kernel_rfl) rfl) rfl ?_)) | (refine so_is (.move _) ?_; (refine so_q (qt_mvC rfl) rfl ?_)) | (refine so_is (.binOp .lss 3 _ _ _) ?_; refine so_q (qt_lss rfl rfl) rfl ?_) | (refine so_is (.fieldAddr 27 _ 2) ?_; (refine so_q (qt_fld_lp (off := 2) rfl (by kernel_rfl)) rfl ?_)) | (refine so_is (.load 25 _) ?_; (refine so_q (qt_load_box rfl rfl (by kernel_rfl) rfl) rfl ?_)) | (refine so_is (.call ⟨.value (.func 41), _, _⟩) ?_; (apply so_call0 (fid := 41); (· (repeat (first | exact SeA.nil | apply SeA.cons (.c (.d _))))); (· exact szIntSS_ok _ _ (by omega) (by omega)); (· rfl))) | (refine so_is (.call ⟨.value (.func 20), _, _⟩) ?_; (apply so_call0 (fid := 20); (· (repeat (first | exact SeA.nil | apply SeA.cons (.c (.d _))))); (· exact szIntS_ok _ _ (by omega) (by omega)); (· rfl))) | refine so_nil ?_ | refine sk_seq ?_ | refine sk_skip ?_ | refine sk_region ?_ | refine sk_if rfl (fun hc => ?_) (fun hc => ?_))
  all_goals first | (exfalso; omega) | skip
  · (apply sk_ret; apply ret_eq; (· apply RetOK.p; (· (apply GvA.cons; (· exact .tmp _); (· exact GvP.c (.lit _))); exact GvA.nil); (· (decide))))
    rfl
theorem szScene_no (ev : Int) (cc : List (List Int)) (ss : List Int) (left : Int) (h : left < cc.length + cnt cc + ss.length) (h0 : 0 ≤ left) (h1 : left ≤ 1048576) : PC Tryz.prog 21 [.g [dI ev, eII cc, eI ss], .c (dI left)] (.p (.c (dI (-1)))) := by
  by_cases c0 : left < cc.length + cnt cc
  · refine pc_intro Tryz.func21 rfl rfl rfl (by kernel_rfl) rfl rfl ?_; intro _
    repeat' (first | (refine so_is (.box 27 _) ?_; refine so_box rfl rfl ?_) | (refine so_is (.assign _) ?_; (refine so_q (qt_asC rfl) rfl ?_)) | (refine so_is (.fieldAddr 27 _ 1) ?_; (refine so_q (qt_fld_lp (off := 1) rfl (by kernel_rfl)) rfl ?_)) | (refine so_is (.load 22 _) ?_; (refine so_q (qt_load_box rfl rfl (by kernel_rfl) rfl) rfl ?_)) | (refine so_is (.move _) ?_; (refine so_q (qt_mvC rfl) rfl ?_)) | (refine so_is (.binOp .lss 3 _ _ _) ?_; refine so_q (qt_lss rfl rfl) rfl ?_) | (refine so_is (.call ⟨.value (.func 41), _, _⟩) ?_; ((apply so_call0 (fid := 41); (· (repeat (first | exact SeA.nil | apply SeA.cons (.c (.d _))))); (· exact szIntSS_no _ _ (by omega) (by omega) (by omega)); (· rfl)))) | refine so_nil ?_ | refine sk_seq ?_ | refine sk_region ?_ | refine sk_true rfl ?_)
    all_goals first | (exfalso; omega) | skip
    all_goals (apply sk_ret; apply ret_eq; (· apply RetOK.p; (· (apply GvA.cons; (· exact .tmp _); (· exact GvP.c (.lit _))); exact GvA.nil); (· (decide))))
    all_goals rfl
  · refine pc_intro Tryz.func21 rfl rfl rfl (by kernel_rfl) rfl rfl ?_; intro _
    repeat' (first | (refine so_is (.box 27 _) ?_; refine so_box rfl rfl ?_) | (refine so_is (.assign _) ?_; (refine so_q (qt_asC rfl) rfl ?_)) | (refine so_is (.fieldAddr 27 _ 1) ?_; (refine so_q (qt_fld_lp (off := 1) rfl (by kernel_rfl)) rfl ?_)) | (refine so_is (.load 22 _) ?_; (refine so_q (qt_load_box rfl rfl (by kernel_rfl) rfl) rfl ?_)) | (refine so_is (.move _) ?_; (refine so_q (qt_mvC rfl) rfl ?_)) | (refine so_is (.binOp .lss 3 _ _ _) ?_; refine so_q (qt_lss rfl rfl) rfl ?_) | (refine so_is (.fieldAddr 27 _ 2) ?_; (refine so_q (qt_fld_lp (off := 2) rfl (by kernel_rfl)) rfl ?_)) | (refine so_is (.load 25 _) ?_; (refine so_q (qt_load_box rfl rfl (by kernel_rfl) rfl) rfl ?_)) | (refine so_is (.call ⟨.value (.func 41), _, _⟩) ?_; ((apply so_call0 (fid := 41); (· (repeat (first | exact SeA.nil | apply SeA.cons (.c (.d _))))); (· exact szIntSS_ok _ _ (by omega) (by omega)); (· rfl)))) | (refine so_is (.call ⟨.value (.func 20), _, _⟩) ?_; ((apply so_call0 (fid := 20); (· (repeat (first | exact SeA.nil | apply SeA.cons (.c (.d _))))); (· exact szIntS_no _ _ (by omega) (by omega) (by omega)); (· rfl)))) | refine so_nil ?_ | refine sk_seq ?_ | refine sk_skip ?_ | refine sk_region ?_ | refine sk_true rfl ?_ | refine sk_if rfl (fun hc => ?_) (fun hc => ?_))
    all_goals first | (exfalso; omega) | skip
    all_goals (apply sk_ret; apply ret_eq; (· apply RetOK.p; (· (apply GvA.cons; (· exact .tmp _); (· exact GvP.c (.lit _))); exact GvA.nil); (· (decide))))
    all_goals rfl

end Go.Proofs.YtdihapcicpkdkaaGreatDoor

namespace Go.Proofs.YtdihapcicpkdkaaGreatDoor
open Go.RowKit
set_option linter.unusedSectionVars false
variable [Glb]
set_option maxRecDepth 10000
set_option maxHeartbeats 4000000
theorem szHall_ok (box : Int) (boy : Int) (bowh : Int) (boll : List (List Int)) (pl : List Int) (scev : Int) (sccc : List (List Int)) (scss : List Int) (nu : List Int) (co : Int) (left : Int) (h : boll.length + cnt boll + pl.length + sccc.length + cnt sccc + scss.length + nu.length ≤ left) (h1 : left ≤ 1048576) : PC Tryz.prog 9 [.g [dI box, dI boy, dI bowh, eII boll, eI pl, dI scev, eII sccc, eI scss, eI nu, dI co], .c (dI left)] (.p (.c (dI (left - boll.length - cnt boll - pl.length - sccc.length - cnt sccc - scss.length - nu.length)))) := by
  refine pc_intro Tryz.func9 rfl rfl rfl (by kernel_rfl) rfl rfl ?_; intro _
  repeat' (first | (refine so_is (.box 29 _) ?_; refine so_box rfl rfl ?_) | (refine so_is (.assign _) ?_; (refine so_q (qt_asC rfl) rfl ?_)) | (refine so_is (.fieldAddr 29 _ 0) ?_; (refine so_q (qt_fld_lp (off := 0) rfl (by kernel_rfl)) rfl ?_)) | (refine so_is (.load 24 _) ?_; (refine so_q (qt_load_boxs rfl rfl (by kernel_rfl : tAgg _ 24 4 = true) rfl) rfl ?_)) | (refine so_is (.move _) ?_; (refine so_q (qt_mvC rfl) rfl ?_)) | (refine so_is (.binOp .lss 3 _ _ _) ?_; refine so_q (qt_lss rfl rfl) rfl ?_) | (refine so_is (.fieldAddr 29 _ 1) ?_; (refine so_q (qt_fld_lp (off := 4) rfl (by kernel_rfl)) rfl ?_)) | (refine so_is (.load 25 _) ?_; (refine so_q (qt_load_box rfl rfl (by kernel_rfl) rfl) rfl ?_)) | (refine so_is (.fieldAddr 29 _ 2) ?_; (refine so_q (qt_fld_lp (off := 5) rfl (by kernel_rfl)) rfl ?_)) | (refine so_is (.load 27 _) ?_; (refine so_q (qt_load_boxs rfl rfl (by kernel_rfl : tAgg _ 27 3 = true) rfl) rfl ?_)) | (refine so_is (.fieldAddr 29 _ 3) ?_; (refine so_q (qt_fld_lp (off := 8) rfl (by kernel_rfl)) rfl ?_)) | (refine so_is (.call ⟨.value (.func 19), _, _⟩) ?_; (apply so_call0 (fid := 19); (· (repeat (first | exact SeA.nil | apply SeA.cons (.c (.d _)) | (apply SeA.cons; (· (apply SeP.g; (repeat (first | exact SeL.nil | apply SeL.cons (.d _))))))))); (· exact szBox_ok _ _ _ _ _ (by omega) (by omega)); (· rfl))) | (refine so_is (.call ⟨.value (.func 20), _, _⟩) ?_; (apply so_call0 (fid := 20); (· (repeat (first | exact SeA.nil | apply SeA.cons (.c (.d _))))); (· exact szIntS_ok _ _ (by omega) (by omega)); (· rfl))) | (refine so_is (.call ⟨.value (.func 21), _, _⟩) ?_; (apply so_call0 (fid := 21); (· (repeat (first | exact SeA.nil | apply SeA.cons (.c (.d _)) | (apply SeA.cons; (· (apply SeP.g; (repeat (first | exact SeL.nil | apply SeL.cons (.d _))))))))); (· exact szScene_ok _ _ _ _ (by omega) (by omega)); (· rfl))) | refine so_nil ?_ | refine sk_seq ?_ | refine sk_skip ?_ | refine sk_region ?_ | refine sk_if rfl (fun hc => ?_) (fun hc => ?_))
  all_goals first | (exfalso; omega) | skip
  · (apply sk_ret; apply ret_eq; (· apply RetOK.p; (· (apply GvA.cons; (· exact .tmp _); (· exact GvP.c (.lit _))); exact GvA.nil); (· (decide))))
    rfl
theorem szHall_no (box : Int) (boy : Int) (bowh : Int) (boll : List (List Int)) (pl : List Int) (scev : Int) (sccc : List (List Int)) (scss : List Int) (nu : List Int) (co : Int) (left : Int) (h : left < boll.length + cnt boll + pl.length + sccc.length + cnt sccc + scss.length + nu.length) (h0 : 0 ≤ left) (h1 : left ≤ 1048576) : PC Tryz.prog 9 [.g [dI box, dI boy, dI bowh, eII boll, eI pl, dI scev, eII sccc, eI scss, eI nu, dI co], .c (dI left)] (.p (.c (dI (-1)))) := by
  by_cases c0 : left < boll.length + cnt boll
  · refine pc_intro Tryz.func9 rfl rfl rfl (by kernel_rfl) rfl rfl ?_; intro _
    repeat' (first | (refine so_is (.box 29 _) ?_; refine so_box rfl rfl ?_) | (refine so_is (.assign _) ?_; (refine so_q (qt_asC rfl) rfl ?_)) | (refine so_is (.fieldAddr 29 _ 0) ?_; (refine so_q (qt_fld_lp (off := 0) rfl (by kernel_rfl)) rfl ?_)) | (refine so_is (.load 24 _) ?_; (refine so_q (qt_load_boxs rfl rfl (by kernel_rfl : tAgg _ 24 4 = true) rfl) rfl ?_)) | (refine so_is (.move _) ?_; (refine so_q (qt_mvC rfl) rfl ?_)) | (refine so_is (.binOp .lss 3 _ _ _) ?_; refine so_q (qt_lss rfl rfl) rfl ?_) | (refine so_is (.call ⟨.value (.func 19), _, _⟩) ?_; ((apply so_call0 (fid := 19); (· (repeat (first | exact SeA.nil | apply SeA.cons (.c (.d _)) | (apply SeA.cons; (· (apply SeP.g; (repeat (first | exact SeL.nil | apply SeL.cons (.d _))))))))); (· exact szBox_no _ _ _ _ _ (by omega) (by omega) (by omega)); (· rfl)))) | refine so_nil ?_ | refine sk_seq ?_ | refine sk_region ?_ | refine sk_true rfl ?_)
    all_goals first | (exfalso; omega) | skip
    all_goals (apply sk_ret; apply ret_eq; (· apply RetOK.p; (· (apply GvA.cons; (· exact .tmp _); (· exact GvP.c (.lit _))); exact GvA.nil); (· (decide))))
    all_goals rfl
  · by_cases c1 : left < boll.length + cnt boll + pl.length
    · refine pc_intro Tryz.func9 rfl rfl rfl (by kernel_rfl) rfl rfl ?_; intro _
      repeat' (first | (refine so_is (.box 29 _) ?_; refine so_box rfl rfl ?_) | (refine so_is (.assign _) ?_; (refine so_q (qt_asC rfl) rfl ?_)) | (refine so_is (.fieldAddr 29 _ 0) ?_; (refine so_q (qt_fld_lp (off := 0) rfl (by kernel_rfl)) rfl ?_)) | (refine so_is (.load 24 _) ?_; (refine so_q (qt_load_boxs rfl rfl (by kernel_rfl : tAgg _ 24 4 = true) rfl) rfl ?_)) | (refine so_is (.move _) ?_; (refine so_q (qt_mvC rfl) rfl ?_)) | (refine so_is (.binOp .lss 3 _ _ _) ?_; refine so_q (qt_lss rfl rfl) rfl ?_) | (refine so_is (.fieldAddr 29 _ 1) ?_; (refine so_q (qt_fld_lp (off := 4) rfl (by kernel_rfl)) rfl ?_)) | (refine so_is (.load 25 _) ?_; (refine so_q (qt_load_box rfl rfl (by kernel_rfl) rfl) rfl ?_)) | (refine so_is (.call ⟨.value (.func 19), _, _⟩) ?_; ((apply so_call0 (fid := 19); (· (repeat (first | exact SeA.nil | apply SeA.cons (.c (.d _)) | (apply SeA.cons; (· (apply SeP.g; (repeat (first | exact SeL.nil | apply SeL.cons (.d _))))))))); (· exact szBox_ok _ _ _ _ _ (by omega) (by omega)); (· rfl)))) | (refine so_is (.call ⟨.value (.func 20), _, _⟩) ?_; ((apply so_call0 (fid := 20); (· (repeat (first | exact SeA.nil | apply SeA.cons (.c (.d _))))); (· exact szIntS_no _ _ (by omega) (by omega) (by omega)); (· rfl)))) | refine so_nil ?_ | refine sk_seq ?_ | refine sk_skip ?_ | refine sk_region ?_ | refine sk_true rfl ?_ | refine sk_if rfl (fun hc => ?_) (fun hc => ?_))
      all_goals first | (exfalso; omega) | skip
      all_goals (apply sk_ret; apply ret_eq; (· apply RetOK.p; (· (apply GvA.cons; (· exact .tmp _); (· exact GvP.c (.lit _))); exact GvA.nil); (· (decide))))
      all_goals rfl
    · by_cases c2 : left < boll.length + cnt boll + pl.length + sccc.length + cnt sccc + scss.length
      · refine pc_intro Tryz.func9 rfl rfl rfl (by kernel_rfl) rfl rfl ?_; intro _
        repeat' (first | (refine so_is (.box 29 _) ?_; refine so_box rfl rfl ?_) | (refine so_is (.assign _) ?_; (refine so_q (qt_asC rfl) rfl ?_)) | (refine so_is (.fieldAddr 29 _ 0) ?_; (refine so_q (qt_fld_lp (off := 0) rfl (by kernel_rfl)) rfl ?_)) | (refine so_is (.load 24 _) ?_; (refine so_q (qt_load_boxs rfl rfl (by kernel_rfl : tAgg _ 24 4 = true) rfl) rfl ?_)) | (refine so_is (.move _) ?_; (refine so_q (qt_mvC rfl) rfl ?_)) | (refine so_is (.binOp .lss 3 _ _ _) ?_; refine so_q (qt_lss rfl rfl) rfl ?_) | (refine so_is (.fieldAddr 29 _ 1) ?_; (refine so_q (qt_fld_lp (off := 4) rfl (by kernel_rfl)) rfl ?_)) | (refine so_is (.load 25 _) ?_; (refine so_q (qt_load_box rfl rfl (by kernel_rfl) rfl) rfl ?_)) | (refine so_is (.fieldAddr 29 _ 2) ?_; (refine so_q (qt_fld_lp (off := 5) rfl (by kernel_rfl)) rfl ?_)) | (refine so_is (.load 27 _) ?_; (refine so_q (qt_load_boxs rfl rfl (by kernel_rfl : tAgg _ 27 3 = true) rfl) rfl ?_)) | (refine so_is (.call ⟨.value (.func 19), _, _⟩) ?_; ((apply so_call0 (fid := 19); (· (repeat (first | exact SeA.nil | apply SeA.cons (.c (.d _)) | (apply SeA.cons; (· (apply SeP.g; (repeat (first | exact SeL.nil | apply SeL.cons (.d _))))))))); (· exact szBox_ok _ _ _ _ _ (by omega) (by omega)); (· rfl)))) | (refine so_is (.call ⟨.value (.func 20), _, _⟩) ?_; ((apply so_call0 (fid := 20); (· (repeat (first | exact SeA.nil | apply SeA.cons (.c (.d _))))); (· exact szIntS_ok _ _ (by omega) (by omega)); (· rfl)))) | (refine so_is (.call ⟨.value (.func 21), _, _⟩) ?_; ((apply so_call0 (fid := 21); (· (repeat (first | exact SeA.nil | apply SeA.cons (.c (.d _)) | (apply SeA.cons; (· (apply SeP.g; (repeat (first | exact SeL.nil | apply SeL.cons (.d _))))))))); (· exact szScene_no _ _ _ _ (by omega) (by omega) (by omega)); (· rfl)))) | refine so_nil ?_ | refine sk_seq ?_ | refine sk_skip ?_ | refine sk_region ?_ | refine sk_true rfl ?_ | refine sk_if rfl (fun hc => ?_) (fun hc => ?_))
        all_goals first | (exfalso; omega) | skip
        all_goals (apply sk_ret; apply ret_eq; (· apply RetOK.p; (· (apply GvA.cons; (· exact .tmp _); (· exact GvP.c (.lit _))); exact GvA.nil); (· (decide))))
        all_goals rfl
      · refine pc_intro Tryz.func9 rfl rfl rfl (by kernel_rfl) rfl rfl ?_; intro _
        repeat' (first | (refine so_is (.box 29 _) ?_; refine so_box rfl rfl ?_) | (refine so_is (.assign _) ?_; (refine so_q (qt_asC rfl) rfl ?_)) | (refine so_is (.fieldAddr 29 _ 0) ?_; (refine so_q (qt_fld_lp (off := 0) rfl (by kernel_rfl)) rfl ?_)) | (refine so_is (.load 24 _) ?_; (refine so_q (qt_load_boxs rfl rfl (by kernel_rfl : tAgg _ 24 4 = true) rfl) rfl ?_)) | (refine so_is (.move _) ?_; (refine so_q (qt_mvC rfl) rfl ?_)) | (refine so_is (.binOp .lss 3 _ _ _) ?_; refine so_q (qt_lss rfl rfl) rfl ?_) | (refine so_is (.fieldAddr 29 _ 1) ?_; (refine so_q (qt_fld_lp (off := 4) rfl (by kernel_rfl)) rfl ?_)) | (refine so_is (.load 25 _) ?_; (refine so_q (qt_load_box rfl rfl (by kernel_rfl) rfl) rfl ?_)) | (refine so_is (.fieldAddr 29 _ 2) ?_; (refine so_q (qt_fld_lp (off := 5) rfl (by kernel_rfl)) rfl ?_)) | (refine so_is (.load 27 _) ?_; (refine so_q (qt_load_boxs rfl rfl (by kernel_rfl : tAgg _ 27 3 = true) rfl) rfl ?_)) | (refine so_is (.fieldAddr 29 _ 3) ?_; (refine so_q (qt_fld_lp (off := 8) rfl (by kernel_rfl)) rfl ?_)) | (refine so_is (.call ⟨.value (.func 19), _, _⟩) ?_; ((apply so_call0 (fid := 19); (· (repeat (first | exact SeA.nil | apply SeA.cons (.c (.d _)) | (apply SeA.cons; (· (apply SeP.g; (repeat (first | exact SeL.nil | apply SeL.cons (.d _))))))))); (· exact szBox_ok _ _ _ _ _ (by omega) (by omega)); (· rfl)))) | (refine so_is (.call ⟨.value (.func 20), _, _⟩) ?_; (first | (apply so_call0 (fid := 20); (· (repeat (first | exact SeA.nil | apply SeA.cons (.c (.d _))))); (· exact szIntS_ok _ _ (by omega) (by omega)); (· rfl)) | (apply so_call0 (fid := 20); (· (repeat (first | exact SeA.nil | apply SeA.cons (.c (.d _))))); (· exact szIntS_no _ _ (by omega) (by omega) (by omega)); (· rfl)))) | (refine so_is (.call ⟨.value (.func 21), _, _⟩) ?_; ((apply so_call0 (fid := 21); (· (repeat (first | exact SeA.nil | apply SeA.cons (.c (.d _)) | (apply SeA.cons; (· (apply SeP.g; (repeat (first | exact SeL.nil | apply SeL.cons (.d _))))))))); (· exact szScene_ok _ _ _ _ (by omega) (by omega)); (· rfl)))) | refine so_nil ?_ | refine sk_seq ?_ | refine sk_skip ?_ | refine sk_region ?_ | refine sk_true rfl ?_ | refine sk_if rfl (fun hc => ?_) (fun hc => ?_))
        all_goals first | (exfalso; omega) | skip
        all_goals (apply sk_ret; apply ret_eq; (· apply RetOK.p; (· (apply GvA.cons; (· exact .tmp _); (· exact GvP.c (.lit _))); exact GvA.nil); (· (decide))))
        all_goals rfl

end Go.Proofs.YtdihapcicpkdkaaGreatDoor

namespace Go.Proofs.YtdihapcicpkdkaaGreatDoor
open Go.RowKit
set_option linter.unusedSectionVars false
variable [Glb]
set_option maxRecDepth 10000
set_option maxHeartbeats 4000000
theorem szLog_ok (du : Tx) (pe : Tx) (lc : Int) (left : Int) (h : du.length + pe.length ≤ left) (h1 : left ≤ 1048576) : PC Tryz.prog 10 [.g [dT du, dT pe, dI lc], .c (dI left)] (.p (.c (dI (left - du.length - pe.length)))) := by
  refine pc_intro Tryz.func10 rfl rfl rfl (by kernel_rfl) rfl rfl ?_; rintro ⟨hf, -⟩
  have hf0 := FitT (hf (dT du) (by simp))
  have hf1 := FitT (hf (dT pe) (by simp))
  clear hf
  repeat' (first | (refine so_is (.box 31 _) ?_; refine so_box rfl rfl ?_) | (refine so_is (.assign _) ?_; (refine so_q (qt_asC rfl) rfl ?_)) | (refine so_is (.move _) ?_; (refine so_q (qt_mvC rfl) rfl ?_)) | (refine so_is (.fieldAddr 31 _ 0) ?_; (refine so_q (qt_fld_lp (off := 0) rfl (by kernel_rfl)) rfl ?_)) | (refine so_is (.load 9 _) ?_; (refine so_q (qt_load_box rfl rfl (by kernel_rfl) rfl) rfl ?_)) | (refine so_is (.call ⟨.builtin .len, _, #[9]⟩) ?_; (refine so_q (qt_lenT rfl (by kernel_rfl)) rfl ?_)) | (refine so_is (.binOp .sub 3 _ _ _) ?_; refine so_q (qt_subI rfl rfl (by (omega))) rfl ?_) | (refine so_is (.binOp .lss 3 _ _ _) ?_; refine so_q (qt_lss rfl rfl) rfl ?_) | (refine so_is (.fieldAddr 31 _ 1) ?_; (refine so_q (qt_fld_lp (off := 1) rfl (by kernel_rfl)) rfl ?_)) | refine so_nil ?_ | refine sk_seq ?_ | refine sk_skip ?_ | refine sk_region ?_ | refine sk_if rfl (fun hc => ?_) (fun hc => ?_))
  all_goals first | (exfalso; omega) | skip
  · (apply sk_ret; apply ret_eq; (· apply RetOK.p; (· (apply GvA.cons; (· exact .tmp _); (· exact GvP.c (.lit _))); exact GvA.nil); (· (decide))))
    rfl
theorem szLog_no (du : Tx) (pe : Tx) (lc : Int) (left : Int) (h : left < du.length + pe.length) (h0 : 0 ≤ left) (h1 : left ≤ 1048576) : PC Tryz.prog 10 [.g [dT du, dT pe, dI lc], .c (dI left)] (.p (.c (dI (-1)))) := by
  by_cases c0 : left < du.length
  · refine pc_intro Tryz.func10 rfl rfl rfl (by kernel_rfl) rfl rfl ?_; rintro ⟨hf, -⟩
    have hf0 := FitT (hf (dT du) (by simp))
    have hf1 := FitT (hf (dT pe) (by simp))
    clear hf
    repeat' (first | (refine so_is (.box 31 _) ?_; refine so_box rfl rfl ?_) | (refine so_is (.assign _) ?_; (refine so_q (qt_asC rfl) rfl ?_)) | (refine so_is (.move _) ?_; (refine so_q (qt_mvC rfl) rfl ?_)) | (refine so_is (.fieldAddr 31 _ 0) ?_; (refine so_q (qt_fld_lp (off := 0) rfl (by kernel_rfl)) rfl ?_)) | (refine so_is (.load 9 _) ?_; (refine so_q (qt_load_box rfl rfl (by kernel_rfl) rfl) rfl ?_)) | (refine so_is (.call ⟨.builtin .len, _, #[9]⟩) ?_; (refine so_q (qt_lenT rfl (by kernel_rfl)) rfl ?_)) | (refine so_is (.binOp .sub 3 _ _ _) ?_; refine so_q (qt_subI rfl rfl (by (omega))) rfl ?_) | (refine so_is (.binOp .lss 3 _ _ _) ?_; refine so_q (qt_lss rfl rfl) rfl ?_) | (refine so_is (.fieldAddr 31 _ 1) ?_; (refine so_q (qt_fld_lp (off := 1) rfl (by kernel_rfl)) rfl ?_)) | refine so_nil ?_ | refine sk_seq ?_ | refine sk_skip ?_ | refine sk_region ?_ | refine sk_if rfl (fun hc => ?_) (fun hc => ?_))
    all_goals first | (exfalso; omega) | skip
    all_goals (apply sk_ret; apply ret_eq; (· apply RetOK.p; (· (apply GvA.cons; (· exact .tmp _); (· exact GvP.c (.lit _))); exact GvA.nil); (· (decide))))
    all_goals rfl
  · refine pc_intro Tryz.func10 rfl rfl rfl (by kernel_rfl) rfl rfl ?_; rintro ⟨hf, -⟩
    have hf0 := FitT (hf (dT du) (by simp))
    have hf1 := FitT (hf (dT pe) (by simp))
    clear hf
    repeat' (first | (refine so_is (.box 31 _) ?_; refine so_box rfl rfl ?_) | (refine so_is (.assign _) ?_; (refine so_q (qt_asC rfl) rfl ?_)) | (refine so_is (.move _) ?_; (refine so_q (qt_mvC rfl) rfl ?_)) | (refine so_is (.fieldAddr 31 _ 0) ?_; (refine so_q (qt_fld_lp (off := 0) rfl (by kernel_rfl)) rfl ?_)) | (refine so_is (.load 9 _) ?_; (refine so_q (qt_load_box rfl rfl (by kernel_rfl) rfl) rfl ?_)) | (refine so_is (.call ⟨.builtin .len, _, #[9]⟩) ?_; (refine so_q (qt_lenT rfl (by kernel_rfl)) rfl ?_)) | (refine so_is (.binOp .sub 3 _ _ _) ?_; refine so_q (qt_subI rfl rfl (by (omega))) rfl ?_) | (refine so_is (.binOp .lss 3 _ _ _) ?_; refine so_q (qt_lss rfl rfl) rfl ?_) | (refine so_is (.fieldAddr 31 _ 1) ?_; (refine so_q (qt_fld_lp (off := 1) rfl (by kernel_rfl)) rfl ?_)) | refine so_nil ?_ | refine sk_seq ?_ | refine sk_skip ?_ | refine sk_region ?_ | refine sk_if rfl (fun hc => ?_) (fun hc => ?_))
    all_goals first | (exfalso; omega) | skip
    all_goals (apply sk_ret; apply ret_eq; (· apply RetOK.p; (· (apply GvA.cons; (· exact .tmp _); (· exact GvP.c (.lit _))); exact GvA.nil); (· (decide))))
    all_goals rfl

end Go.Proofs.YtdihapcicpkdkaaGreatDoor

namespace Go.Proofs.YtdihapcicpkdkaaGreatDoor
open Go.RowKit
set_option linter.unusedSectionVars false
variable [Glb]
set_option maxRecDepth 10000
set_option maxHeartbeats 4000000
theorem szConsole_ok (hbox : Int) (hboy : Int) (hbowh : Int) (hboll : List (List Int)) (hpl : List Int) (hscev : Int) (hsccc : List (List Int)) (hscss : List Int) (hnu : List Int) (hco : Int) (ldu : Tx) (lpe : Tx) (llc : Int) (left : Int) (h : hboll.length + cnt hboll + hpl.length + hsccc.length + cnt hsccc + hscss.length + hnu.length + ldu.length + lpe.length ≤ left) (h1 : left ≤ 1048576) : PC Tryz.prog 4 [.g [dI hbox, dI hboy, dI hbowh, eII hboll, eI hpl, dI hscev, eII hsccc, eI hscss, eI hnu, dI hco, dT ldu, dT lpe, dI llc], .c (dI left)] (.p (.c (dI (left - hboll.length - cnt hboll - hpl.length - hsccc.length - cnt hsccc - hscss.length - hnu.length - ldu.length - lpe.length)))) := by
  refine pc_intro Tryz.func4 rfl rfl rfl (by kernel_rfl) rfl rfl ?_; intro _
  repeat' (first | (refine so_is (.box 33 _) ?_; refine so_box rfl rfl ?_) | (refine so_is (.assign _) ?_; (refine so_q (qt_asC rfl) rfl ?_)) | (refine so_is (.fieldAddr 33 _ 0) ?_; (refine so_q (qt_fld_lp (off := 0) rfl (by kernel_rfl)) rfl ?_)) | (refine so_is (.load 29 _) ?_; (refine so_q (qt_load_boxs rfl rfl (by kernel_rfl : tAgg _ 29 10 = true) rfl) rfl ?_)) | (refine so_is (.move _) ?_; (refine so_q (qt_mvC rfl) rfl ?_)) | (refine so_is (.binOp .lss 3 _ _ _) ?_; refine so_q (qt_lss rfl rfl) rfl ?_) | (refine so_is (.fieldAddr 33 _ 1) ?_; (refine so_q (qt_fld_lp (off := 10) rfl (by kernel_rfl)) rfl ?_)) | (refine so_is (.load 31 _) ?_; (refine so_q (qt_load_boxs rfl rfl (by kernel_rfl : tAgg _ 31 3 = true) rfl) rfl ?_)) | (refine so_is (.call ⟨.value (.func 9), _, _⟩) ?_; (apply so_call0 (fid := 9); (· (repeat (first | exact SeA.nil | apply SeA.cons (.c (.d _)) | (apply SeA.cons; (· (apply SeP.g; (repeat (first | exact SeL.nil | apply SeL.cons (.d _))))))))); (· exact szHall_ok _ _ _ _ _ _ _ _ _ _ _ (by omega) (by omega)); (· rfl))) | (refine so_is (.call ⟨.value (.func 10), _, _⟩) ?_; (apply so_call0 (fid := 10); (· (repeat (first | exact SeA.nil | apply SeA.cons (.c (.d _)) | (apply SeA.cons; (· (apply SeP.g; (repeat (first | exact SeL.nil | apply SeL.cons (.d _))))))))); (· exact szLog_ok _ _ _ _ (by omega) (by omega)); (· rfl))) | refine so_nil ?_ | refine sk_seq ?_ | refine sk_skip ?_ | refine sk_region ?_ | refine sk_if rfl (fun hc => ?_) (fun hc => ?_))
  all_goals first | (exfalso; omega) | skip
  · (apply sk_ret; apply ret_eq; (· apply RetOK.p; (· (apply GvA.cons; (· exact .tmp _); (· exact GvP.c (.lit _))); exact GvA.nil); (· (decide))))
    rfl
theorem szConsole_no (hbox : Int) (hboy : Int) (hbowh : Int) (hboll : List (List Int)) (hpl : List Int) (hscev : Int) (hsccc : List (List Int)) (hscss : List Int) (hnu : List Int) (hco : Int) (ldu : Tx) (lpe : Tx) (llc : Int) (left : Int) (h : left < hboll.length + cnt hboll + hpl.length + hsccc.length + cnt hsccc + hscss.length + hnu.length + ldu.length + lpe.length) (h0 : 0 ≤ left) (h1 : left ≤ 1048576) : PC Tryz.prog 4 [.g [dI hbox, dI hboy, dI hbowh, eII hboll, eI hpl, dI hscev, eII hsccc, eI hscss, eI hnu, dI hco, dT ldu, dT lpe, dI llc], .c (dI left)] (.p (.c (dI (-1)))) := by
  by_cases c0 : left < hboll.length + cnt hboll + hpl.length + hsccc.length + cnt hsccc + hscss.length + hnu.length
  · refine pc_intro Tryz.func4 rfl rfl rfl (by kernel_rfl) rfl rfl ?_; intro _
    repeat' (first | (refine so_is (.box 33 _) ?_; refine so_box rfl rfl ?_) | (refine so_is (.assign _) ?_; (refine so_q (qt_asC rfl) rfl ?_)) | (refine so_is (.fieldAddr 33 _ 0) ?_; (refine so_q (qt_fld_lp (off := 0) rfl (by kernel_rfl)) rfl ?_)) | (refine so_is (.load 29 _) ?_; (refine so_q (qt_load_boxs rfl rfl (by kernel_rfl : tAgg _ 29 10 = true) rfl) rfl ?_)) | (refine so_is (.move _) ?_; (refine so_q (qt_mvC rfl) rfl ?_)) | (refine so_is (.binOp .lss 3 _ _ _) ?_; refine so_q (qt_lss rfl rfl) rfl ?_) | (refine so_is (.call ⟨.value (.func 9), _, _⟩) ?_; ((apply so_call0 (fid := 9); (· (repeat (first | exact SeA.nil | apply SeA.cons (.c (.d _)) | (apply SeA.cons; (· (apply SeP.g; (repeat (first | exact SeL.nil | apply SeL.cons (.d _))))))))); (· exact szHall_no _ _ _ _ _ _ _ _ _ _ _ (by omega) (by omega) (by omega)); (· rfl)))) | refine so_nil ?_ | refine sk_seq ?_ | refine sk_region ?_ | refine sk_true rfl ?_)
    all_goals first | (exfalso; omega) | skip
    all_goals (apply sk_ret; apply ret_eq; (· apply RetOK.p; (· (apply GvA.cons; (· exact .tmp _); (· exact GvP.c (.lit _))); exact GvA.nil); (· (decide))))
    all_goals rfl
  · refine pc_intro Tryz.func4 rfl rfl rfl (by kernel_rfl) rfl rfl ?_; intro _
    repeat' (first | (refine so_is (.box 33 _) ?_; refine so_box rfl rfl ?_) | (refine so_is (.assign _) ?_; (refine so_q (qt_asC rfl) rfl ?_)) | (refine so_is (.fieldAddr 33 _ 0) ?_; (refine so_q (qt_fld_lp (off := 0) rfl (by kernel_rfl)) rfl ?_)) | (refine so_is (.load 29 _) ?_; (refine so_q (qt_load_boxs rfl rfl (by kernel_rfl : tAgg _ 29 10 = true) rfl) rfl ?_)) | (refine so_is (.move _) ?_; (refine so_q (qt_mvC rfl) rfl ?_)) | (refine so_is (.binOp .lss 3 _ _ _) ?_; refine so_q (qt_lss rfl rfl) rfl ?_) | (refine so_is (.fieldAddr 33 _ 1) ?_; (refine so_q (qt_fld_lp (off := 10) rfl (by kernel_rfl)) rfl ?_)) | (refine so_is (.load 31 _) ?_; (refine so_q (qt_load_boxs rfl rfl (by kernel_rfl : tAgg _ 31 3 = true) rfl) rfl ?_)) | (refine so_is (.call ⟨.value (.func 9), _, _⟩) ?_; ((apply so_call0 (fid := 9); (· (repeat (first | exact SeA.nil | apply SeA.cons (.c (.d _)) | (apply SeA.cons; (· (apply SeP.g; (repeat (first | exact SeL.nil | apply SeL.cons (.d _))))))))); (· exact szHall_ok _ _ _ _ _ _ _ _ _ _ _ (by omega) (by omega)); (· rfl)))) | (refine so_is (.call ⟨.value (.func 10), _, _⟩) ?_; ((apply so_call0 (fid := 10); (· (repeat (first | exact SeA.nil | apply SeA.cons (.c (.d _)) | (apply SeA.cons; (· (apply SeP.g; (repeat (first | exact SeL.nil | apply SeL.cons (.d _))))))))); (· exact szLog_no _ _ _ _ (by omega) (by omega) (by omega)); (· rfl)))) | refine so_nil ?_ | refine sk_seq ?_ | refine sk_skip ?_ | refine sk_region ?_ | refine sk_true rfl ?_ | refine sk_if rfl (fun hc => ?_) (fun hc => ?_))
    all_goals first | (exfalso; omega) | skip
    all_goals (apply sk_ret; apply ret_eq; (· apply RetOK.p; (· (apply GvA.cons; (· exact .tmp _); (· exact GvP.c (.lit _))); exact GvA.nil); (· (decide))))
    all_goals rfl

end Go.Proofs.YtdihapcicpkdkaaGreatDoor

namespace Go.Proofs.YtdihapcicpkdkaaGreatDoor
open Go.RowKit
set_option linter.unusedSectionVars false
variable [Glb]
set_option maxRecDepth 10000
set_option maxHeartbeats 4000000
theorem eqIntS_p (a b : List Int) : PC Tryz.prog 39 [.c (eI a), .c (eI b)] (.p (.c (dB (decide (a = b))))) := by
  refine pc_intro Tryz.func39 rfl rfl rfl (by kernel_rfl) rfl rfl ?_; rintro ⟨hl, hm, -⟩
  have hl := hl.len
  have hm := hm.len
  repeat' (first | (refine so_is (.assign _) ?_; (refine so_q (qt_asC rfl) rfl ?_)) | (refine so_is (.move _) ?_; (refine so_q (qt_mvC rfl) rfl ?_)) | (refine so_is (.call ⟨.builtin .len, _, #[25]⟩) ?_; (refine so_q (qt_len_d rfl (by kernel_rfl)) rfl ?_)) | (refine so_is (.binOp .neq 3 _ _ _) ?_; refine so_q (qt_neq rfl rfl) rfl ?_) | refine so_nil ?_ | refine sk_seq ?_ | refine sk_block ?_ | refine sk_skip ?_ | refine sk_region ?_ | refine sk_if rfl (fun hc => ?_) (fun hc => ?_))
  · (apply sk_ret; apply ret_eq; (· apply RetOK.p; (· (apply GvA.cons; (· exact .tmp _); (· exact GvP.c (.lit _))); exact GvA.nil); (· (decide))))
    have : a ≠ b := fun e => by subst e; simp at *
    simp [this]
  have hab : a.length = b.length := by simp at *; omega
  apply sk_packC [0, 1, 5] [] rfl; (· (repeat (first | exact Pf.nil | apply Pf.cons (.c rfl (.d rfl))))); (· (repeat (exact Pb.nil)))
  refine sk_loopL [0, 1] [] (fun k => [(5, iN k)]) (fun _ => []) (fun k => k ≤ a.length ∧ a.take k = b.take k) (fun k => a.length - k) (0) ?_ (by (repeat (first | exact trivial | refine ⟨(by (rfl)), ?_⟩))) (by (repeat (exact trivial))) ?_
  · simp
  rintro k ⟨hk, hs⟩
  repeat' (first | (refine so_is (.assign _) ?_; (refine so_q (qt_asC rfl) rfl ?_)) | (refine so_is (.move _) ?_; (refine so_q (qt_mvC rfl) rfl ?_)) | (refine so_is (.call ⟨.builtin .len, _, #[25]⟩) ?_; (refine so_q (qt_len_d rfl (by kernel_rfl)) rfl ?_)) | (refine so_is (.binOp .neq 3 _ _ _) ?_; refine so_q (qt_neq rfl rfl) rfl ?_) | (refine so_is (.binOp .lss 3 _ _ _) ?_; refine so_q (qt_lss rfl rfl) rfl ?_) | (refine so_is (.indexAddr 25 _ _) ?_; (refine so_q (qt_idxI rfl rfl (by kernel_rfl) (by (omega)) (by (omega))) rfl ?_)) | (refine so_is (.load 3 _) ?_; (refine so_q (qt_load_pt rfl (by kernel_rfl) rfl) rfl ?_)) | (refine so_is (.binOp .add 3 _ _ _) ?_; refine so_q (qt_addI rfl rfl (by (omega))) rfl ?_) | refine so_nil ?_ | refine sk_seq ?_ | refine sk_block ?_ | refine sk_blk ?_ | refine sk_exit rfl ?_ | refine sk_skip ?_ | refine sk_region ?_ | refine sk_drawQ 6 (fun _ => false) (.step 0 true (.step 1 true (.step 2 true (.step 3 true (.step 4 true (.step 5 true (.step 6 true (.step 7 true (.step 8 true .nil))))))))) [(0, 511, 511, true), (0, 511, 511, true), (3, 508, 511, true), (4, 507, 511, false), (0, 511, 511, true), (0, 511, 511, true), (48, 463, 511, true), (64, 447, 511, false), (136, 375, 511, true)] (by kernel_rfl) (by kernel_rfl) ?_ | refine sk_if rfl (fun hc => ?_) (fun hc => ?_))
  · rename_i hk'
    rw [atZ_nat (by omega), atZ_nat (by omega)] at hc
    (apply sk_ret; apply ret_eq; (· apply RetOK.p; (· (apply GvA.cons; (· exact .tmp _); (· exact GvP.c (.lit _))); exact GvA.nil); (· (decide))))
    have : a ≠ b := fun e => by subst e; exact hc rfl
    simp [this]
  · rename_i hk'
    rw [atZ_nat (by omega), atZ_nat (by omega)] at hc
    refine sk_back ?_; refine ⟨k + 1, ?_, ?_, le_at rfl (by (repeat (first | exact trivial | refine ⟨(by (rfl)), ?_⟩))) (by (repeat (first | exact trivial | refine ⟨rfl, ?_⟩))) (by (repeat (exact trivial))) (by (repeat (exact trivial)))⟩
    · exact ⟨by omega, by rw [List.take_succ_eq_append_getElem (by omega), List.take_succ_eq_append_getElem (by omega), hs]; simp at hc; rw [hc]⟩
    · omega
  · have e : k = a.length := by omega
    subst e
    rw [List.take_length, hab, List.take_length] at hs
    (apply sk_ret; apply ret_eq; (· apply RetOK.p; (· (apply GvA.cons; (· exact .tmp _); (· exact GvP.c (.lit _))); exact GvA.nil); (· (decide))))
    simp [hs]
theorem eqIntS_same (a : List Int) : PC Tryz.prog 39 [.c (eI a), .c (eI a)] (.p (.c (dB true))) := by
  have := eqIntS_p a a; rwa [decide_eq_true rfl] at this

end Go.Proofs.YtdihapcicpkdkaaGreatDoor

namespace Go.Proofs.YtdihapcicpkdkaaGreatDoor
open Go.RowKit
set_option linter.unusedSectionVars false
variable [Glb]
set_option maxRecDepth 10000
set_option maxHeartbeats 4000000
theorem eqIntSS_p (a b : List (List Int)) : PC Tryz.prog 56 [.c (eII a), .c (eII b)] (.p (.c (dB (decide (a = b))))) := by
  refine pc_intro Tryz.func56 rfl rfl rfl (by kernel_rfl) rfl rfl ?_; rintro ⟨hl, hm, -⟩
  have hl := hl.len
  have hm := hm.len
  repeat' (first | (refine so_is (.assign _) ?_; (refine so_q (qt_asC rfl) rfl ?_)) | (refine so_is (.move _) ?_; (refine so_q (qt_mvC rfl) rfl ?_)) | (refine so_is (.call ⟨.builtin .len, _, #[22]⟩) ?_; (refine so_q (qt_len_d rfl (by kernel_rfl)) rfl ?_)) | (refine so_is (.binOp .neq 3 _ _ _) ?_; refine so_q (qt_neq rfl rfl) rfl ?_) | refine so_nil ?_ | refine sk_seq ?_ | refine sk_block ?_ | refine sk_skip ?_ | refine sk_region ?_ | refine sk_if rfl (fun hc => ?_) (fun hc => ?_))
  · (apply sk_ret; apply ret_eq; (· apply RetOK.p; (· (apply GvA.cons; (· exact .tmp _); (· exact GvP.c (.lit _))); exact GvA.nil); (· (decide))))
    have : a ≠ b := fun e => by subst e; simp at *
    simp [this]
  have hab : a.length = b.length := by simp at *; omega
  apply sk_packC [0, 1, 5] [] rfl; (· (repeat (first | exact Pf.nil | apply Pf.cons (.c rfl (.d rfl))))); (· (repeat (exact Pb.nil)))
  refine sk_loopL [0, 1] [] (fun k => [(5, iN k)]) (fun _ => []) (fun k => k ≤ a.length ∧ a.take k = b.take k) (fun k => a.length - k) (0) ?_ (by (repeat (first | exact trivial | refine ⟨(by (rfl)), ?_⟩))) (by (repeat (exact trivial))) ?_
  · simp
  rintro k ⟨hk, hs⟩
  repeat' (first | (refine so_is (.assign _) ?_; (refine so_q (qt_asC rfl) rfl ?_)) | (refine so_is (.move _) ?_; (refine so_q (qt_mvC rfl) rfl ?_)) | (refine so_is (.call ⟨.builtin .len, _, #[22]⟩) ?_; (refine so_q (qt_len_d rfl (by kernel_rfl)) rfl ?_)) | (refine so_is (.binOp .lss 3 _ _ _) ?_; refine so_q (qt_lss rfl rfl) rfl ?_) | (refine so_is (.indexAddr 22 _ _) ?_; (refine so_q (qt_idxII rfl rfl (by kernel_rfl) (by (omega)) (by (omega))) rfl ?_)) | (refine so_is (.load 25 _) ?_; (refine so_q (qt_load_pt rfl (by kernel_rfl) rfl) rfl ?_)) | (refine so_is (.unOp .not 4 _) ?_; refine so_q (qt_not rfl) rfl ?_) | (refine so_is (.binOp .add 3 _ _ _) ?_; refine so_q (qt_addI rfl rfl (by (omega))) rfl ?_) | (refine so_is (.call ⟨.value (.func 39), _, _⟩) ?_; (apply so_call0 (fid := 39); (· (repeat (first | exact SeA.nil | apply SeA.cons (.c (.d _))))); (· exact eqIntS_p _ _); (· rfl))) | refine so_nil ?_ | refine sk_seq ?_ | refine sk_block ?_ | refine sk_blk ?_ | refine sk_exit rfl ?_ | refine sk_skip ?_ | refine sk_region ?_ | refine sk_drawQ 6 (fun _ => false) (.step 0 true (.step 1 true (.step 2 true (.step 3 true (.step 4 true (.step 5 true (.step 6 true (.step 7 true (.step 8 false (.step 9 true .nil)))))))))) [(0, 1023, 1023, true), (0, 1023, 1023, true), (3, 1020, 1023, true), (4, 1019, 1023, false), (0, 1023, 1023, true), (0, 1023, 1023, true), (48, 975, 1023, true), (64, 959, 1023, false), (136, 887, 1023, false), (256, 767, 1023, true)] (by kernel_rfl) (by kernel_rfl) ?_ | refine sk_if rfl (fun hc => ?_) (fun hc => ?_) | refine sk_nif rfl (fun hc => ?_) (fun hc => ?_))
  · rename_i hk'
    rw [atZ_nat (by omega), atZ_nat (by omega)] at hc
    (apply sk_ret; apply ret_eq; (· apply RetOK.p; (· (apply GvA.cons; (· exact .tmp _); (· exact GvP.c (.lit _))); exact GvA.nil); (· (decide))))
    have : a ≠ b := fun e => by subst e; simp at hc
    simp [this]
  · rename_i hk'
    rw [atZ_nat (by omega), atZ_nat (by omega)] at hc
    refine sk_back ?_; refine ⟨k + 1, ?_, ?_, le_at rfl (by (repeat (first | exact trivial | refine ⟨(by (rfl)), ?_⟩))) (by (repeat (first | exact trivial | refine ⟨rfl, ?_⟩))) (by (repeat (exact trivial))) (by (repeat (exact trivial)))⟩
    · exact ⟨by omega, by rw [List.take_succ_eq_append_getElem (by omega), List.take_succ_eq_append_getElem (by omega), hs, hc]⟩
    · omega
  · have e : k = a.length := by omega
    subst e
    rw [List.take_length, hab, List.take_length] at hs
    (apply sk_ret; apply ret_eq; (· apply RetOK.p; (· (apply GvA.cons; (· exact .tmp _); (· exact GvP.c (.lit _))); exact GvA.nil); (· (decide))))
    simp [hs]
theorem eqIntSS_same (a : List (List Int)) : PC Tryz.prog 56 [.c (eII a), .c (eII a)] (.p (.c (dB true))) := by
  have := eqIntSS_p a a; rwa [decide_eq_true rfl] at this

end Go.Proofs.YtdihapcicpkdkaaGreatDoor

namespace Go.Proofs.YtdihapcicpkdkaaGreatDoor
open Go.RowKit
set_option linter.unusedSectionVars false
variable [Glb]
set_option maxRecDepth 10000
set_option maxHeartbeats 4000000
theorem eqBox_same (x : Int) (y : Int) (wh : Int) (ll : List (List Int)) : PC Tryz.prog 38 [.g [dI x, dI y, dI wh, eII ll], .g [dI x, dI y, dI wh, eII ll]] (.p (.c (dB true))) := by
  refine pc_intro Tryz.func38 rfl rfl rfl (by kernel_rfl) rfl rfl ?_; intro _
  repeat' (first | (refine so_is (.box 36 _) ?_; refine so_box rfl rfl ?_) | (refine so_is (.assign _) ?_; (refine so_q (qt_asC rfl) rfl ?_)) | (refine so_is (.fieldAddr 36 _ 0) ?_; (refine so_q (qt_fld_lp (off := 0) rfl (by kernel_rfl)) rfl ?_)) | (refine so_is (.load 3 _) ?_; (refine so_q (qt_load_box rfl rfl (by kernel_rfl) rfl) rfl ?_)) | (refine so_is (.binOp .neq 3 _ _ _) ?_; (refine so_q (qt_neq_same rfl rfl) rfl ?_)) | (refine so_is (.fieldAddr 36 _ 1) ?_; (refine so_q (qt_fld_lp (off := 1) rfl (by kernel_rfl)) rfl ?_)) | (refine so_is (.fieldAddr 36 _ 2) ?_; (refine so_q (qt_fld_lp (off := 2) rfl (by kernel_rfl)) rfl ?_)) | (refine so_is (.fieldAddr 36 _ 3) ?_; (refine so_q (qt_fld_lp (off := 3) rfl (by kernel_rfl)) rfl ?_)) | (refine so_is (.load 22 _) ?_; (refine so_q (qt_load_box rfl rfl (by kernel_rfl) rfl) rfl ?_)) | (refine so_is (.unOp .not 4 _) ?_; refine so_q (qt_not rfl) rfl ?_) | (refine so_is (.call ⟨.value (.func 56), _, _⟩) ?_; (apply so_call0 (fid := 56); (· (repeat (first | exact SeA.nil | apply SeA.cons (.c (.d _))))); (· exact eqIntSS_same _); (· rfl))) | refine so_nil ?_ | refine sk_seq ?_ | refine sk_skip ?_ | refine sk_region ?_ | refine sk_false rfl ?_)
  · (apply sk_ret; apply ret_eq; (· apply RetOK.p; (· (apply GvA.cons; (· exact .tmp _); (· exact GvP.c (.lit _))); exact GvA.nil); (· (decide))))
    rfl

end Go.Proofs.YtdihapcicpkdkaaGreatDoor

namespace Go.Proofs.YtdihapcicpkdkaaGreatDoor
open Go.RowKit
set_option linter.unusedSectionVars false
variable [Glb]
set_option maxRecDepth 10000
set_option maxHeartbeats 4000000
theorem eqScene_same (ev : Int) (cc : List (List Int)) (ss : List Int) : PC Tryz.prog 40 [.g [dI ev, eII cc, eI ss], .g [dI ev, eII cc, eI ss]] (.p (.c (dB true))) := by
  refine pc_intro Tryz.func40 rfl rfl rfl (by kernel_rfl) rfl rfl ?_; intro _
  repeat' (first | (refine so_is (.box 37 _) ?_; refine so_box rfl rfl ?_) | (refine so_is (.assign _) ?_; (refine so_q (qt_asC rfl) rfl ?_)) | (refine so_is (.fieldAddr 37 _ 0) ?_; (refine so_q (qt_fld_lp (off := 0) rfl (by kernel_rfl)) rfl ?_)) | (refine so_is (.load 3 _) ?_; (refine so_q (qt_load_box rfl rfl (by kernel_rfl) rfl) rfl ?_)) | (refine so_is (.binOp .neq 3 _ _ _) ?_; (refine so_q (qt_neq_same rfl rfl) rfl ?_)) | (refine so_is (.fieldAddr 37 _ 1) ?_; (refine so_q (qt_fld_lp (off := 1) rfl (by kernel_rfl)) rfl ?_)) | (refine so_is (.load 22 _) ?_; (refine so_q (qt_load_box rfl rfl (by kernel_rfl) rfl) rfl ?_)) | (refine so_is (.unOp .not 4 _) ?_; refine so_q (qt_not rfl) rfl ?_) | (refine so_is (.fieldAddr 37 _ 2) ?_; (refine so_q (qt_fld_lp (off := 2) rfl (by kernel_rfl)) rfl ?_)) | (refine so_is (.load 25 _) ?_; (refine so_q (qt_load_box rfl rfl (by kernel_rfl) rfl) rfl ?_)) | (refine so_is (.call ⟨.value (.func 56), _, _⟩) ?_; (apply so_call0 (fid := 56); (· (repeat (first | exact SeA.nil | apply SeA.cons (.c (.d _))))); (· exact eqIntSS_same _); (· rfl))) | (refine so_is (.call ⟨.value (.func 39), _, _⟩) ?_; (apply so_call0 (fid := 39); (· (repeat (first | exact SeA.nil | apply SeA.cons (.c (.d _))))); (· exact eqIntS_same _); (· rfl))) | refine so_nil ?_ | refine sk_seq ?_ | refine sk_skip ?_ | refine sk_region ?_ | refine sk_false rfl ?_)
  · (apply sk_ret; apply ret_eq; (· apply RetOK.p; (· (apply GvA.cons; (· exact .tmp _); (· exact GvP.c (.lit _))); exact GvA.nil); (· (decide))))
    rfl

end Go.Proofs.YtdihapcicpkdkaaGreatDoor

namespace Go.Proofs.YtdihapcicpkdkaaGreatDoor
open Go.RowKit
set_option linter.unusedSectionVars false
variable [Glb]
set_option maxRecDepth 10000
set_option maxHeartbeats 4000000
theorem eqHall_same (box : Int) (boy : Int) (bowh : Int) (boll : List (List Int)) (pl : List Int) (scev : Int) (sccc : List (List Int)) (scss : List Int) (nu : List Int) (co : Int) : PC Tryz.prog 17 [.g [dI box, dI boy, dI bowh, eII boll, eI pl, dI scev, eII sccc, eI scss, eI nu, dI co], .g [dI box, dI boy, dI bowh, eII boll, eI pl, dI scev, eII sccc, eI scss, eI nu, dI co]] (.p (.c (dB true))) := by
  refine pc_intro Tryz.func17 rfl rfl rfl (by kernel_rfl) rfl rfl ?_; intro _
  repeat' (first | (refine so_is (.box 39 _) ?_; refine so_box rfl rfl ?_) | (refine so_is (.assign _) ?_; (refine so_q (qt_asC rfl) rfl ?_)) | (refine so_is (.fieldAddr 39 _ 0) ?_; (refine so_q (qt_fld_lp (off := 0) rfl (by kernel_rfl)) rfl ?_)) | (refine so_is (.load 36 _) ?_; (refine so_q (qt_load_boxs rfl rfl (by kernel_rfl : tAgg _ 36 4 = true) rfl) rfl ?_)) | (refine so_is (.unOp .not 4 _) ?_; refine so_q (qt_not rfl) rfl ?_) | (refine so_is (.fieldAddr 39 _ 1) ?_; (refine so_q (qt_fld_lp (off := 4) rfl (by kernel_rfl)) rfl ?_)) | (refine so_is (.load 25 _) ?_; (refine so_q (qt_load_box rfl rfl (by kernel_rfl) rfl) rfl ?_)) | (refine so_is (.fieldAddr 39 _ 2) ?_; (refine so_q (qt_fld_lp (off := 5) rfl (by kernel_rfl)) rfl ?_)) | (refine so_is (.load 37 _) ?_; (refine so_q (qt_load_boxs rfl rfl (by kernel_rfl : tAgg _ 37 3 = true) rfl) rfl ?_)) | (refine so_is (.fieldAddr 39 _ 3) ?_; (refine so_q (qt_fld_lp (off := 8) rfl (by kernel_rfl)) rfl ?_)) | (refine so_is (.fieldAddr 39 _ 4) ?_; (refine so_q (qt_fld_lp (off := 9) rfl (by kernel_rfl)) rfl ?_)) | (refine so_is (.load 3 _) ?_; (refine so_q (qt_load_box rfl rfl (by kernel_rfl) rfl) rfl ?_)) | (refine so_is (.binOp .neq 3 _ _ _) ?_; (refine so_q (qt_neq_same rfl rfl) rfl ?_)) | (refine so_is (.call ⟨.value (.func 38), _, _⟩) ?_; (apply so_call0 (fid := 38); (· (repeat (first | exact SeA.nil | (apply SeA.cons; (· (apply SeP.g; (repeat (first | exact SeL.nil | apply SeL.cons (.d _))))))))); (· exact eqBox_same _ _ _ _); (· rfl))) | (refine so_is (.call ⟨.value (.func 39), _, _⟩) ?_; (apply so_call0 (fid := 39); (· (repeat (first | exact SeA.nil | apply SeA.cons (.c (.d _))))); (· exact eqIntS_same _); (· rfl))) | (refine so_is (.call ⟨.value (.func 40), _, _⟩) ?_; (apply so_call0 (fid := 40); (· (repeat (first | exact SeA.nil | (apply SeA.cons; (· (apply SeP.g; (repeat (first | exact SeL.nil | apply SeL.cons (.d _))))))))); (· exact eqScene_same _ _ _); (· rfl))) | refine so_nil ?_ | refine sk_seq ?_ | refine sk_skip ?_ | refine sk_region ?_ | refine sk_false rfl ?_)
  · (apply sk_ret; apply ret_eq; (· apply RetOK.p; (· (apply GvA.cons; (· exact .tmp _); (· exact GvP.c (.lit _))); exact GvA.nil); (· (decide))))
    rfl

end Go.Proofs.YtdihapcicpkdkaaGreatDoor

namespace Go.Proofs.YtdihapcicpkdkaaGreatDoor
open Go.RowKit
set_option linter.unusedSectionVars false
variable [Glb]
set_option maxRecDepth 10000
set_option maxHeartbeats 4000000
theorem eqLog_same (du : Tx) (pe : Tx) (lc : Int) : PC Tryz.prog 18 [.g [dT du, dT pe, dI lc], .g [dT du, dT pe, dI lc]] (.p (.c (dB true))) := by
  refine pc_intro Tryz.func18 rfl rfl rfl (by kernel_rfl) rfl rfl ?_; intro _
  repeat' (first | (refine so_is (.box 40 _) ?_; refine so_box rfl rfl ?_) | (refine so_is (.assign _) ?_; (refine so_q (qt_asC rfl) rfl ?_)) | (refine so_is (.fieldAddr 40 _ 0) ?_; (refine so_q (qt_fld_lp (off := 0) rfl (by kernel_rfl)) rfl ?_)) | (refine so_is (.load 9 _) ?_; (refine so_q (qt_load_box rfl rfl (by kernel_rfl) rfl) rfl ?_)) | (refine so_is (.binOp .neq 9 _ _ _) ?_; (refine so_q (qt_neqT_same rfl rfl) rfl ?_)) | (refine so_is (.fieldAddr 40 _ 1) ?_; (refine so_q (qt_fld_lp (off := 1) rfl (by kernel_rfl)) rfl ?_)) | (refine so_is (.fieldAddr 40 _ 2) ?_; (refine so_q (qt_fld_lp (off := 2) rfl (by kernel_rfl)) rfl ?_)) | (refine so_is (.load 3 _) ?_; (refine so_q (qt_load_box rfl rfl (by kernel_rfl) rfl) rfl ?_)) | (refine so_is (.binOp .neq 3 _ _ _) ?_; (refine so_q (qt_neq_same rfl rfl) rfl ?_)) | refine so_nil ?_ | refine sk_seq ?_ | refine sk_skip ?_ | refine sk_region ?_ | refine sk_false rfl ?_)
  · (apply sk_ret; apply ret_eq; (· apply RetOK.p; (· (apply GvA.cons; (· exact .tmp _); (· exact GvP.c (.lit _))); exact GvA.nil); (· (decide))))
    rfl

end Go.Proofs.YtdihapcicpkdkaaGreatDoor

namespace Go.Proofs.YtdihapcicpkdkaaGreatDoor
open Go.RowKit
set_option linter.unusedSectionVars false
variable [Glb]
set_option maxRecDepth 10000
set_option maxHeartbeats 4000000
theorem eqConsole_same (hbox : Int) (hboy : Int) (hbowh : Int) (hboll : List (List Int)) (hpl : List Int) (hscev : Int) (hsccc : List (List Int)) (hscss : List Int) (hnu : List Int) (hco : Int) (ldu : Tx) (lpe : Tx) (llc : Int) : PC Tryz.prog 8 [.g [dI hbox, dI hboy, dI hbowh, eII hboll, eI hpl, dI hscev, eII hsccc, eI hscss, eI hnu, dI hco, dT ldu, dT lpe, dI llc], .g [dI hbox, dI hboy, dI hbowh, eII hboll, eI hpl, dI hscev, eII hsccc, eI hscss, eI hnu, dI hco, dT ldu, dT lpe, dI llc]] (.p (.c (dB true))) := by
  refine pc_intro Tryz.func8 rfl rfl rfl (by kernel_rfl) rfl rfl ?_; intro _
  repeat' (first | (refine so_is (.box 42 _) ?_; refine so_box rfl rfl ?_) | (refine so_is (.assign _) ?_; (refine so_q (qt_asC rfl) rfl ?_)) | (refine so_is (.fieldAddr 42 _ 0) ?_; (refine so_q (qt_fld_lp (off := 0) rfl (by kernel_rfl)) rfl ?_)) | (refine so_is (.load 39 _) ?_; (refine so_q (qt_load_boxs rfl rfl (by kernel_rfl : tAgg _ 39 10 = true) rfl) rfl ?_)) | (refine so_is (.unOp .not 4 _) ?_; refine so_q (qt_not rfl) rfl ?_) | (refine so_is (.fieldAddr 42 _ 1) ?_; (refine so_q (qt_fld_lp (off := 10) rfl (by kernel_rfl)) rfl ?_)) | (refine so_is (.load 40 _) ?_; (refine so_q (qt_load_boxs rfl rfl (by kernel_rfl : tAgg _ 40 3 = true) rfl) rfl ?_)) | (refine so_is (.call ⟨.value (.func 17), _, _⟩) ?_; (apply so_call0 (fid := 17); (· (repeat (first | exact SeA.nil | (apply SeA.cons; (· (apply SeP.g; (repeat (first | exact SeL.nil | apply SeL.cons (.d _))))))))); (· exact eqHall_same _ _ _ _ _ _ _ _ _ _); (· rfl))) | (refine so_is (.call ⟨.value (.func 18), _, _⟩) ?_; (apply so_call0 (fid := 18); (· (repeat (first | exact SeA.nil | (apply SeA.cons; (· (apply SeP.g; (repeat (first | exact SeL.nil | apply SeL.cons (.d _))))))))); (· exact eqLog_same _ _ _); (· rfl))) | refine so_nil ?_ | refine sk_seq ?_ | refine sk_skip ?_ | refine sk_region ?_ | refine sk_false rfl ?_)
  · (apply sk_ret; apply ret_eq; (· apply RetOK.p; (· (apply GvA.cons; (· exact .tmp _); (· exact GvP.c (.lit _))); exact GvA.nil); (· (decide))))
    rfl

end Go.Proofs.YtdihapcicpkdkaaGreatDoor

namespace Go.Proofs.YtdihapcicpkdkaaGreatDoor
open Go.RowKit
set_option linter.unusedSectionVars false
variable [Glb]
set_option maxRecDepth 10000
set_option maxHeartbeats 4000000
theorem within_p (n lo hi : Int) : PC Tryz.prog 35 [.c (dI n), .c (dI lo), .c (dI hi)] (.p (.c (dB (inB n lo hi)))) := by
  refine pc_intro Tryz.func35 rfl rfl rfl (by kernel_rfl) rfl rfl ?_; intro _
  repeat' (first | (refine so_is (.assign _) ?_; (refine so_q (qt_asC rfl) rfl ?_)) | (refine so_is (.move _) ?_; (refine so_q (qt_mvC rfl) rfl ?_)) | (refine so_is (.binOp .geq 3 _ _ _) ?_; refine so_q (qt_geq rfl rfl) rfl ?_) | (refine so_is (.binOp .leq 3 _ _ _) ?_; refine so_q (qt_leq rfl rfl) rfl ?_) | (refine so_is (.pick _ _ _) ?_; (refine so_q (qt_pkC rfl rfl) rfl ?_)) | refine so_nil ?_ | refine so_g_no rfl rfl rfl rfl ?_ | refine so_g_yes rfl rfl rfl rfl ?_ | refine so_g_if rfl rfl (fun hg => ?_) (fun hg => ?_) | refine sk_seq ?_ | refine sk_region ?_)
  all_goals ((apply sk_ret; apply ret_eq; (· apply RetOK.p; (· (apply GvA.cons; (· exact .tmp _); (· exact GvP.c (.lit _))); exact GvA.nil); (· (decide)))))
  all_goals (simp [dB, inB, *]; try omega)

end Go.Proofs.YtdihapcicpkdkaaGreatDoor

namespace Go.Proofs.YtdihapcicpkdkaaGreatDoor
open Go.RowKit
set_option linter.unusedSectionVars false
variable [Glb]
set_option maxRecDepth 10000
set_option maxHeartbeats 4000000
theorem allWithin_p (l : List Int) (lo hi : Int) : PC Tryz.prog 49 [.c (eI l), .c (dI lo), .c (dI hi)] (.p (.c (dB (allB l lo hi)))) := by
  refine pc_intro Tryz.func49 rfl rfl rfl (by kernel_rfl) rfl rfl ?_; rintro ⟨hl, -⟩
  have hl := hl.len
  repeat' (first | (refine so_is (.assign _) ?_; (refine so_q (qt_asC rfl) rfl ?_)) | (refine so_is (.move _) ?_; (refine so_q (qt_mvC rfl) rfl ?_)) | (refine so_is (.call ⟨.builtin .len, _, #[25]⟩) ?_; (refine so_q (qt_len_d rfl (by kernel_rfl)) rfl ?_)) | refine so_nil ?_ | refine sk_seq ?_ | refine sk_block ?_ | refine sk_region ?_)
  apply sk_packC [1, 2, 9, 10, 11] [] rfl; (· (repeat (first | exact Pf.nil | apply Pf.cons (.c rfl (.d rfl))))); (· (repeat (exact Pb.nil)))
  refine sk_loopL [1, 2, 9, 10] [] (fun k => [(11, iN k)]) (fun _ => []) (fun k => k ≤ l.length ∧ (l.take k).all (fun n => inB n lo hi) = true) (fun k => l.length - k) (0) ?_ (by (repeat (first | exact trivial | refine ⟨(by (rfl)), ?_⟩))) (by (repeat (exact trivial))) ?_
  · simp
  rintro k ⟨hk, ha⟩
  repeat' (first | (refine so_is (.assign _) ?_; (refine so_q (qt_asC rfl) rfl ?_)) | (refine so_is (.move _) ?_; (refine so_q (qt_mvC rfl) rfl ?_)) | (refine so_is (.binOp .lss 3 _ _ _) ?_; refine so_q (qt_lss rfl rfl) rfl ?_) | (refine so_is (.indexAddr 25 _ _) ?_; (refine so_q (qt_idxI rfl rfl (by kernel_rfl) (by (omega)) (by (omega))) rfl ?_)) | (refine so_is (.load 3 _) ?_; (refine so_q (qt_load_pt rfl (by kernel_rfl) rfl) rfl ?_)) | (refine so_is (.unOp .not 4 _) ?_; refine so_q (qt_not rfl) rfl ?_) | (refine so_is (.binOp .add 3 _ _ _) ?_; refine so_q (qt_addI rfl rfl (by (omega))) rfl ?_) | (refine so_is (.call ⟨.value (.func 35), _, _⟩) ?_; (apply so_call0 (fid := 35); (· (repeat (first | exact SeA.nil | apply SeA.cons (.c (.d _))))); (· exact within_p _ _ _); (· rfl))) | refine so_nil ?_ | refine sk_seq ?_ | refine sk_block ?_ | refine sk_blk ?_ | refine sk_exit rfl ?_ | refine sk_skip ?_ | refine sk_region ?_ | refine sk_if rfl (fun hc => ?_) (fun hc => ?_) | refine sk_not rfl (fun hc => ?_) (fun hc => ?_))
  · rename_i hk'
    rw [atZ_nat (by omega)] at hc
    (apply sk_ret; apply ret_eq; (· apply RetOK.p; (· (apply GvA.cons; (· exact .tmp _); (· exact GvP.c (.lit _))); exact GvA.nil); (· (decide))))
    rw [allB, all_f (by omega) hc]
  · rename_i hk'
    rw [atZ_nat (by omega)] at hc
    refine sk_back ?_; refine ⟨k + 1, ?_, ?_, le_at rfl (by (repeat (first | exact trivial | refine ⟨(by (rfl)), ?_⟩))) (by (repeat (first | exact trivial | refine ⟨rfl, ?_⟩))) (by (repeat (exact trivial))) (by (repeat (exact trivial)))⟩
    · exact ⟨by omega, by rw [take_succ_all _ _ _ (by omega), ha, hc]; rfl⟩
    · omega
  · (apply sk_ret; apply ret_eq; (· apply RetOK.p; (· (apply GvA.cons; (· exact .tmp _); (· exact GvP.c (.lit _))); exact GvA.nil); (· (decide))))
    rw [allB, all_t (by omega) ha]

end Go.Proofs.YtdihapcicpkdkaaGreatDoor

namespace Go.Proofs.YtdihapcicpkdkaaGreatDoor
open Go.RowKit
set_option linter.unusedSectionVars false
variable [Glb]
set_option maxRecDepth 10000
set_option maxHeartbeats 4000000
theorem areQuestions_p (x y : Int) : PC Tryz.prog 48 [.c (dI x), .c (dI y)] (.p (.c (dB (sizeB x y)))) := by
  refine pc_intro Tryz.func48 rfl rfl rfl (by kernel_rfl) rfl rfl ?_; intro _
  repeat' (first | (refine so_is (.assign _) ?_; (refine so_q (qt_asC rfl) rfl ?_)) | (refine so_is (.move _) ?_; (refine so_q (qt_mvC rfl) rfl ?_)) | (refine so_is (.pick _ _ _) ?_; (refine so_q (qt_pkC rfl rfl) rfl ?_)) | (refine so_is (.call ⟨.value (.func 35), _, _⟩) ?_; (apply so_call0 (fid := 35); (· (repeat (first | exact SeA.nil | apply SeA.cons (.c (.d _))))); (· exact within_p _ _ _); (· rfl))) | refine so_nil ?_ | refine so_g_no rfl rfl rfl rfl ?_ | refine so_g_yes rfl rfl rfl rfl ?_ | refine so_g_b rfl rfl (fun hg => ?_) (fun hg => ?_) | refine sk_seq ?_ | refine sk_region ?_)
  all_goals (apply sk_ret; apply ret_eq; (· apply RetOK.p; (· (apply GvA.cons; (· exact .tmp _); (· exact GvP.c (.lit _))); exact GvA.nil); (· (decide))))
  all_goals ((simp_all [sizeB]; done))

end Go.Proofs.YtdihapcicpkdkaaGreatDoor

namespace Go.Proofs.YtdihapcicpkdkaaGreatDoor
open Go.RowKit
set_option linter.unusedSectionVars false
variable [Glb]
set_option maxRecDepth 10000
set_option maxHeartbeats 4000000
theorem total_p (l : List Int) : PC Tryz.prog 50 [.c (eI l)] (.p (.c (dI (sum64 l)))) := by
  refine pc_intro Tryz.func50 rfl rfl rfl (by kernel_rfl) rfl rfl ?_; rintro ⟨hl, -⟩
  have hl := hl.len
  repeat' (first | (refine so_is (.assign _) ?_; (refine so_q (qt_asC rfl) rfl ?_)) | (refine so_is (.move _) ?_; (refine so_q (qt_mvC rfl) rfl ?_)) | (refine so_is (.call ⟨.builtin .len, _, #[25]⟩) ?_; (refine so_q (qt_len_d rfl (by kernel_rfl)) rfl ?_)) | refine so_nil ?_ | refine sk_seq ?_ | refine sk_block ?_ | refine sk_region ?_)
  apply sk_packC [3, 6, 7, 8] [] rfl; (· (repeat (first | exact Pf.nil | apply Pf.cons (.c rfl (.d rfl))))); (· (repeat (exact Pb.nil)))
  refine sk_loopL [6, 7] [] (fun k => [(8, iN k), (3, iZ (sum64 (l.take k)))]) (fun _ => []) (fun k => k ≤ l.length) (fun k => l.length - k) (0) ?_ (by (repeat (first | exact trivial | refine ⟨(by (rfl)), ?_⟩))) (by (repeat (exact trivial))) ?_
  · simp
  intro k hk
  repeat' (first | (refine so_is (.assign _) ?_; (refine so_q (qt_asC rfl) rfl ?_)) | (refine so_is (.move _) ?_; (refine so_q (qt_mvC rfl) rfl ?_)) | (refine so_is (.binOp .lss 3 _ _ _) ?_; refine so_q (qt_lss rfl rfl) rfl ?_) | (refine so_is (.indexAddr 25 _ _) ?_; (refine so_q (qt_idxI rfl rfl (by kernel_rfl) (by (omega)) (by (omega))) rfl ?_)) | (refine so_is (.load 3 _) ?_; (refine so_q (qt_load_pt rfl (by kernel_rfl) rfl) rfl ?_)) | (refine so_is (.binOp .add 3 _ _ _) ?_; (first | refine so_q (qt_addI rfl rfl (by (omega))) rfl ?_ | refine so_q (qt_add rfl rfl) rfl ?_)) | refine so_nil ?_ | refine sk_seq ?_ | refine sk_block ?_ | refine sk_blk ?_ | refine sk_exit rfl ?_ | refine sk_skip ?_ | refine sk_region ?_ | refine sk_if rfl (fun hc => ?_) (fun hc => ?_))
  · have hk2 : k < l.length := by omega
    refine sk_back ?_; refine ⟨k + 1, ?_, ?_, le_at rfl (by (repeat (first | exact trivial | refine ⟨(by (first | rfl | (refine int_eq rfl ?_; ((simp  [sum64_snoc hk2, atZ_nat hk2]; done))))), ?_⟩))) (by (repeat (first | exact trivial | refine ⟨rfl, ?_⟩))) (by (repeat (exact trivial))) (by (repeat (exact trivial)))⟩
    · omega
    · omega
  · have : k = l.length := by omega
    subst this
    (apply sk_ret; apply ret_eq; (· apply RetOK.p; (· (apply GvA.cons; (· exact .tmp _); (· exact GvP.c (.lit _))); exact GvA.nil); (· (decide))))
    simp

end Go.Proofs.YtdihapcicpkdkaaGreatDoor

namespace Go.Proofs.YtdihapcicpkdkaaGreatDoor
open Go.RowKit
set_option linter.unusedSectionVars false
variable [Glb]
set_option maxRecDepth 10000
set_option maxHeartbeats 4000000
theorem IsBox_p (x y n : Int) (ll : List (List Int)) : PC Tryz.prog 31 [.g [dI x, dI y, dI n, eII ll]] (.p (.c (dB (boxB x y n ll)))) := by
  refine pc_intro Tryz.func31 rfl rfl rfl (by kernel_rfl) rfl rfl ?_; rintro ⟨hl, -⟩
  have hl := (hl _ (List.mem_cons_of_mem _ (List.mem_cons_of_mem _ (List.mem_cons_of_mem _ (List.mem_cons_self ..))))).len
  repeat' (first | (refine so_is (.box 36 _) ?_; refine so_box rfl rfl ?_) | (refine so_is (.assign _) ?_; (refine so_q (qt_asC rfl) rfl ?_)) | (refine so_is (.fieldAddr 36 _ 0) ?_; (refine so_q (qt_fld_lp (off := 0) rfl (by kernel_rfl)) rfl ?_)) | (refine so_is (.load 3 _) ?_; (refine so_q (qt_load_box rfl rfl (by kernel_rfl) rfl) rfl ?_)) | (refine so_is (.fieldAddr 36 _ 1) ?_; (refine so_q (qt_fld_lp (off := 1) rfl (by kernel_rfl)) rfl ?_)) | (refine so_is (.unOp .not 4 _) ?_; refine so_q (qt_not rfl) rfl ?_) | (refine so_is (.move _) ?_; (refine so_q (qt_mvC rfl) rfl ?_)) | (refine so_is (.fieldAddr 36 _ 2) ?_; (refine so_q (qt_fld_lp (off := 2) rfl (by kernel_rfl)) rfl ?_)) | (refine so_is (.pick _ _ _) ?_; (refine so_q (qt_pkC rfl rfl) rfl ?_)) | (refine so_is (.fieldAddr 36 _ 3) ?_; (refine so_q (qt_fld_lp (off := 3) rfl (by kernel_rfl)) rfl ?_)) | (refine so_is (.load 22 _) ?_; (refine so_q (qt_load_box rfl rfl (by kernel_rfl) rfl) rfl ?_)) | (refine so_is (.call ⟨.builtin .len, _, #[22]⟩) ?_; (refine so_q (qt_len_d rfl (by kernel_rfl)) rfl ?_)) | (refine so_is (.binOp .mul 3 _ _ _) ?_; (refine so_q (qt_mul rfl rfl) rfl ?_)) | (refine so_is (.binOp .neq 3 _ _ _) ?_; refine so_q (qt_neq rfl rfl) rfl ?_) | (refine so_is (.call ⟨.value (.func 48), _, _⟩) ?_; (apply so_call0 (fid := 48); (· (repeat (first | exact SeA.nil | apply SeA.cons (.c (.d _))))); (· exact areQuestions_p _ _); (· rfl))) | (refine so_is (.call ⟨.value (.func 35), _, _⟩) ?_; (apply so_call0 (fid := 35); (· (repeat (first | exact SeA.nil | apply SeA.cons (.c (.d _))))); (· exact within_p _ _ _); (· rfl))) | refine so_nil ?_ | refine so_g_no rfl rfl rfl rfl ?_ | refine so_g_yes rfl rfl rfl rfl ?_ | refine so_g_b rfl rfl (fun hg => ?_) (fun hg => ?_) | refine sk_seq ?_ | refine sk_block ?_ | refine sk_skip ?_ | refine sk_region ?_ | refine sk_true rfl ?_ | refine sk_if rfl (fun hc => ?_) (fun hc => ?_))
  · (apply sk_ret; apply ret_eq; (· apply RetOK.p; (· (apply GvA.cons; (· exact .tmp _); (· exact GvP.c (.lit _))); exact GvA.nil); (· (decide))))
    have h9 : sizeB x y = false := by simpa using hg
    simp [boxB, h9]
  · (apply sk_ret; apply ret_eq; (· apply RetOK.p; (· (apply GvA.cons; (· exact .tmp _); (· exact GvP.c (.lit _))); exact GvA.nil); (· (decide))))
    have h9 : inB n 1 1000 = false := by simpa using hg
    simp [boxB, h9]
  · (apply sk_ret; apply ret_eq; (· apply RetOK.p; (· (apply GvA.cons; (· exact .tmp _); (· exact GvP.c (.lit _))); exact GvA.nil); (· (decide))))
    have hs : sizeB x y = true := by simp_all
    rw [wrap_mul3 hs] at hc
    have h3 : ¬ (ll.length : Int) = x * y := by omega
    simp [boxB, h3]
  have hs : sizeB x y = true := by simp_all
  have hn : inB n 1 1000 = true := by simp_all
  have hlen : (ll.length : Int) = x * y := by rw [← wrap_mul3 hs]; omega
  apply sk_packC [1, 29, 30, 31] [1] rfl; (· (repeat (first | exact Pf.nil | apply Pf.cons (.c rfl (.d rfl)) | apply Pf.cons (.c rfl (.lp rfl))))); (· (repeat (first | exact Pb.nil | (apply Pb.cons; (· apply Nb.box rfl; (repeat (first | exact Ncs.nil rfl | (apply Ncs.cons rfl; (· (exact .d rfl))))))))))
  refine sk_loopL [1, 29, 30] [1] (fun k => [(31, iN k)]) (fun _ => []) (fun k => k ≤ ll.length ∧ (ll.take k).all (row4B n) = true) (fun k => ll.length - k) (0) ?_ (by (repeat (first | exact trivial | refine ⟨(by (rfl)), ?_⟩))) (by (repeat (exact trivial))) ?_
  · simp
  rintro k ⟨hk, ha⟩
  repeat' (first | (refine so_is (.assign _) ?_; (refine so_q (qt_asC rfl) rfl ?_)) | (refine so_is (.load 3 _) ?_; (refine so_q (qt_load_box rfl rfl (by kernel_rfl) rfl) rfl ?_)) | (refine so_is (.unOp .not 4 _) ?_; refine so_q (qt_not rfl) rfl ?_) | (refine so_is (.move _) ?_; (refine so_q (qt_mvC rfl) rfl ?_)) | (refine so_is (.fieldAddr 36 _ 2) ?_; (refine so_q (qt_fld_lp (off := 2) rfl (by kernel_rfl)) rfl ?_)) | (refine so_is (.pick _ _ _) ?_; (refine so_q (qt_pkC rfl rfl) rfl ?_)) | (refine so_is (.binOp .neq 3 _ _ _) ?_; refine so_q (qt_neq rfl rfl) rfl ?_) | (refine so_is (.binOp .lss 3 _ _ _) ?_; refine so_q (qt_lss rfl rfl) rfl ?_) | (refine so_is (.indexAddr 22 _ _) ?_; (refine so_q (qt_idxII rfl rfl (by kernel_rfl) (by (omega)) (by (omega))) rfl ?_)) | (refine so_is (.load 25 _) ?_; (refine so_q (qt_load_pt rfl (by kernel_rfl) rfl) rfl ?_)) | (refine so_is (.call ⟨.builtin .len, _, #[25]⟩) ?_; (refine so_q (qt_len_d rfl (by kernel_rfl)) rfl ?_)) | (refine so_is (.binOp .add 3 _ _ _) ?_; refine so_q (qt_addI rfl rfl (by (omega))) rfl ?_) | (refine so_is (.call ⟨.value (.func 49), _, _⟩) ?_; (apply so_call0 (fid := 49); (· (repeat (first | exact SeA.nil | apply SeA.cons (.c (.d _))))); (· exact allWithin_p _ _ _); (· rfl))) | (refine so_is (.call ⟨.value (.func 50), _, _⟩) ?_; (apply so_call0 (fid := 50); (· (repeat (first | exact SeA.nil | apply SeA.cons (.c (.d _))))); (· exact total_p _); (· rfl))) | refine so_nil ?_ | refine so_g_no rfl rfl rfl rfl ?_ | refine so_g_yes rfl rfl rfl rfl ?_ | refine so_g_if rfl rfl (fun hg => ?_) (fun hg => ?_) | refine so_g_b rfl rfl (fun hg => ?_) (fun hg => ?_) | refine sk_seq ?_ | refine sk_block ?_ | refine sk_blk ?_ | refine sk_exit rfl ?_ | refine sk_skip ?_ | refine sk_region ?_ | refine sk_drawQ 6 (fun _ => false) (.step 0 true (.step 1 true (.step 2 true (.step 3 true (.step 4 true (.step 5 true (.step 6 true (.step 7 false (.step 8 true (.step 9 true (.step 10 true (.step 11 true (.step 13 true (.step 14 true (.step 12 false (.step 15 true (.step 16 true .nil))))))))))))))))) [(0, 131071, 131071, true), (1, 131070, 131071, true), (2, 131069, 131071, true), (4, 131067, 131071, true), (8, 131063, 131071, true), (8, 131063, 131071, true), (40, 131031, 131071, false), (88, 130983, 131071, false), (136, 130935, 131071, true), (264, 130807, 131071, true), (640, 130559, 131071, true), (1024, 130047, 131071, true), (3072, 127999, 131071, false), (1024, 130047, 131071, true), (9216, 121855, 131071, false), (21504, 109567, 131071, true), (33792, 97279, 131071, true)] (by kernel_rfl) (by kernel_rfl) ?_ | refine sk_true rfl ?_ | refine sk_if rfl (fun hc => ?_) (fun hc => ?_))
  · have hk2 : k < ll.length := by omega
    rw [atZ_nat hk2] at hg
    (apply sk_ret; apply ret_eq; (· apply RetOK.p; (· (apply GvA.cons; (· exact .tmp _); (· exact GvP.c (.lit _))); exact GvA.nil); (· (decide))))
    have h9 : row4B n ll[k] = false := by simp [row4B]; omega
    rw [boxB, all_f hk2 h9]; simp
  · rename_i hk'
    have hk2 : k < ll.length := by omega
    rw [atZ_nat hk2] at hg
    (apply sk_ret; apply ret_eq; (· apply RetOK.p; (· (apply GvA.cons; (· exact .tmp _); (· exact GvP.c (.lit _))); exact GvA.nil); (· (decide))))
    have h9 : row4B n ll[k] = false := by simp at hg; simp [row4B, hg]
    rw [boxB, all_f hk2 h9]; simp
  · rename_i hk'
    have hk2 : k < ll.length := by omega
    rw [atZ_nat hk2] at hg hc
    (apply sk_ret; apply ret_eq; (· apply RetOK.p; (· (apply GvA.cons; (· exact .tmp _); (· exact GvP.c (.lit _))); exact GvA.nil); (· (decide))))
    have h9 : row4B n ll[k] = false := by simp [row4B, hc]
    rw [boxB, all_f hk2 h9]; simp
  · rename_i hk' hg'
    have hk2 : k < ll.length := by omega
    rw [atZ_nat hk2] at hg hc hg'
    have h9 : row4B n ll[k] = true := by simp at hg hc hg'; simp [row4B, hg, hc]; omega
    refine sk_back ?_; refine ⟨k + 1, ?_, ?_, le_at rfl (by (repeat (first | exact trivial | refine ⟨(by (rfl)), ?_⟩))) (by (repeat (first | exact trivial | refine ⟨rfl, ?_⟩))) (by (repeat (exact trivial))) (by (repeat (first | exact trivial | refine ⟨.inr rfl, ?_⟩)))⟩
    · exact ⟨by omega, by rw [take_succ_all _ _ _ hk2, ha, h9]; rfl⟩
    · omega
  · have : k = ll.length := by omega
    subst this
    rw [List.take_length] at ha
    (apply sk_ret; apply ret_eq; (· apply RetOK.p; (· (apply GvA.cons; (· exact .tmp _); (· exact GvP.c (.lit _))); exact GvA.nil); (· (decide))))
    simp [boxB, hs, hn, hlen, ha]

end Go.Proofs.YtdihapcicpkdkaaGreatDoor

namespace Go.Proofs.YtdihapcicpkdkaaGreatDoor
open Go.RowKit
set_option linter.unusedSectionVars false
variable [Glb]
set_option maxRecDepth 10000
set_option maxHeartbeats 4000000
theorem isSet_p (l : List Int) (n : Int) (h0 : 0 ≤ n) (h1 : n ≤ 1000) : PC Tryz.prog 51 [.c (eI l), .c (dI n)] (.p (.c (dB (riseB l 0 (n - 1))))) := by
  refine pc_intro Tryz.func51 rfl rfl rfl (by kernel_rfl) rfl rfl ?_; rintro ⟨hl, -⟩
  have hl := hl.len
  repeat' (first | (refine so_is (.assign _) ?_; (refine so_q (qt_asC rfl) rfl ?_)) | (refine so_is (.move _) ?_; (refine so_q (qt_mvC rfl) rfl ?_)) | (refine so_is (.call ⟨.builtin .len, _, #[25]⟩) ?_; (refine so_q (qt_len_d rfl (by kernel_rfl)) rfl ?_)) | refine so_nil ?_ | refine sk_seq ?_ | refine sk_block ?_ | refine sk_region ?_)
  apply sk_packC [0, 1, 7, 8, 9] [] rfl; (· (repeat (first | exact Pf.nil | apply Pf.cons (.c rfl (.d rfl))))); (· (repeat (exact Pb.nil)))
  refine sk_loopL [0, 1, 7, 8] [] (fun k => [(9, iN k)]) (fun _ => []) (fun k => k ≤ l.length ∧ (List.range k).all (riseAt l 0 (n - 1)) = true) (fun k => l.length - k) (0) ?_ (by (repeat (first | exact trivial | refine ⟨(by (rfl)), ?_⟩))) (by (repeat (exact trivial))) ?_
  · simp
  rintro k ⟨hk, ha⟩
  repeat' (first | (refine so_is (.assign _) ?_; (refine so_q (qt_asC rfl) rfl ?_)) | (refine so_is (.move _) ?_; (refine so_q (qt_mvC rfl) rfl ?_)) | (refine so_is (.binOp .lss 3 _ _ _) ?_; refine so_q (qt_lss rfl rfl) rfl ?_) | (refine so_is (.indexAddr 25 _ _) ?_; (refine so_q (qt_idxI rfl rfl (by kernel_rfl) (by (omega)) (by (omega))) rfl ?_)) | (refine so_is (.load 3 _) ?_; (refine so_q (qt_load_pt rfl (by kernel_rfl) rfl) rfl ?_)) | (refine so_is (.binOp .sub 3 _ _ _) ?_; refine so_q (qt_subI rfl rfl (by (omega))) rfl ?_) | (refine so_is (.unOp .not 4 _) ?_; refine so_q (qt_not rfl) rfl ?_) | (refine so_is (.binOp .gtr 3 _ _ _) ?_; refine so_q (qt_gtr rfl rfl) rfl ?_) | (refine so_is (.binOp .geq 3 _ _ _) ?_; refine so_q (qt_geq rfl rfl) rfl ?_) | (refine so_is (.pick _ _ _) ?_; (refine so_q (qt_pkC rfl rfl) rfl ?_)) | (refine so_is (.binOp .add 3 _ _ _) ?_; refine so_q (qt_addI rfl rfl (by (omega))) rfl ?_) | (refine so_is (.call ⟨.value (.func 35), _, _⟩) ?_; (apply so_call0 (fid := 35); (· (repeat (first | exact SeA.nil | apply SeA.cons (.c (.d _))))); (· exact within_p _ _ _); (· rfl))) | refine so_nil ?_ | refine so_g_un rfl rfl rfl rfl rfl ?_ | refine so_g_no rfl rfl rfl rfl ?_ | refine so_g_yes rfl rfl rfl rfl ?_ | refine so_g_if rfl rfl (fun hg => ?_) (fun hg => ?_) | refine so_g_b rfl rfl (fun hg => ?_) (fun hg => ?_) | refine sk_seq ?_ | refine sk_block ?_ | refine sk_blk ?_ | refine sk_exit rfl ?_ | refine sk_skip ?_ | refine sk_region ?_ | refine sk_true rfl ?_ | refine sk_false rfl ?_ | refine sk_if rfl (fun hc => ?_) (fun hc => ?_))
  all_goals first | (exfalso; omega) | skip
  · (apply sk_ret; apply ret_eq; (· apply RetOK.p; (· (apply GvA.cons; (· exact .tmp _); (· exact GvP.c (.lit _))); exact GvA.nil); (· (decide))))
    rw [rise_no (k := k) (by assumption) (.inl (by simp_all))]
  · (apply sk_ret; apply ret_eq; (· apply RetOK.p; (· (apply GvA.cons; (· exact .tmp _); (· exact GvP.c (.lit _))); exact GvA.nil); (· (decide))))
    rw [rise_no (k := k) (by omega) (.inr ⟨by assumption, by assumption⟩)]
  · refine sk_back ?_; refine ⟨k + 1, ?_, ?_, le_at rfl (by (repeat (first | exact trivial | refine ⟨(by (rfl)), ?_⟩))) (by (repeat (first | exact trivial | refine ⟨rfl, ?_⟩))) (by (repeat (exact trivial))) (by (repeat (exact trivial)))⟩
    · exact ⟨by omega, rise_yes ha (by simp_all) (.inr (by assumption))⟩
    · omega
  · refine sk_back ?_; refine ⟨k + 1, ?_, ?_, le_at rfl (by (repeat (first | exact trivial | refine ⟨(by (rfl)), ?_⟩))) (by (repeat (first | exact trivial | refine ⟨rfl, ?_⟩))) (by (repeat (exact trivial))) (by (repeat (exact trivial)))⟩
    · exact ⟨by omega, rise_yes ha (by simp_all) (.inl (by assumption))⟩
    · omega
  · have : k = l.length := by omega
    subst this
    (apply sk_ret; apply ret_eq; (· apply RetOK.p; (· (apply GvA.cons; (· exact .tmp _); (· exact GvP.c (.lit _))); exact GvA.nil); (· (decide))))
    unfold riseB; rw [ha]

end Go.Proofs.YtdihapcicpkdkaaGreatDoor

namespace Go.Proofs.YtdihapcicpkdkaaGreatDoor
open Go.RowKit
set_option linter.unusedSectionVars false
variable [Glb]
set_option maxRecDepth 10000
set_option maxHeartbeats 4000000
theorem isAssignment_p (ev : Int) (cc : List (List Int)) (ss nu : List Int) : PC Tryz.prog 34 [.g [dI ev, eII cc, eI ss], .c (eI nu)] (.p (.c (dB (bitsB nu ev)))) := by
  refine pc_intro Tryz.func34 rfl rfl rfl (by kernel_rfl) rfl rfl ?_; intro _
  repeat' (first | (refine so_is (.box 37 _) ?_; refine so_box rfl rfl ?_) | (refine so_is (.assign _) ?_; (refine so_q (qt_asC rfl) rfl ?_)) | (refine so_is (.move _) ?_; (refine so_q (qt_mvC rfl) rfl ?_)) | (refine so_is (.call ⟨.builtin .len, _, #[25]⟩) ?_; (refine so_q (qt_len_d rfl (by kernel_rfl)) rfl ?_)) | (refine so_is (.fieldAddr 37 _ 0) ?_; (refine so_q (qt_fld_lp (off := 0) rfl (by kernel_rfl)) rfl ?_)) | (refine so_is (.load 3 _) ?_; (refine so_q (qt_load_box rfl rfl (by kernel_rfl) rfl) rfl ?_)) | (refine so_is (.binOp .eql 3 _ _ _) ?_; refine so_q (qt_eql rfl rfl) rfl ?_) | (refine so_is (.pick _ _ _) ?_; (refine so_q (qt_pkC rfl rfl) rfl ?_)) | (refine so_is (.call ⟨.value (.func 49), _, _⟩) ?_; (apply so_call0 (fid := 49); (· (repeat (first | exact SeA.nil | apply SeA.cons (.c (.d _))))); (· exact allWithin_p _ _ _); (· rfl))) | refine so_nil ?_ | refine so_g_no rfl rfl rfl rfl ?_ | refine so_g_yes rfl rfl rfl rfl ?_ | refine so_g_if rfl rfl (fun hg => ?_) (fun hg => ?_) | refine sk_seq ?_ | refine sk_region ?_)
  all_goals (apply sk_ret; apply ret_eq; (· apply RetOK.p; (· (apply GvA.cons; (· exact .tmp _); (· exact GvP.c (.lit _))); exact GvA.nil); (· (decide))))
  all_goals ((simp_all [bitsB]; done))
theorem IsScene_p (ev : Int) (cc : List (List Int)) (ss : List Int) : PC Tryz.prog 33 [.g [dI ev, eII cc, eI ss]] (.p (.c (dB (sceneB ev cc ss)))) := by
  have hev := fun h => inB_iff.1 (h : inB ev 0 12 = true)
  refine pc_intro Tryz.func33 rfl rfl rfl (by kernel_rfl) rfl rfl ?_; rintro ⟨hl, -⟩
  have hl := (hl _ (List.mem_cons_of_mem _ (List.mem_cons_self ..))).len
  repeat' (first | (refine so_is (.box 37 _) ?_; refine so_box rfl rfl ?_) | (refine so_is (.assign _) ?_; (refine so_q (qt_asC rfl) rfl ?_)) | (refine so_is (.fieldAddr 37 _ 0) ?_; (refine so_q (qt_fld_lp (off := 0) rfl (by kernel_rfl)) rfl ?_)) | (refine so_is (.load 3 _) ?_; (refine so_q (qt_load_box rfl rfl (by kernel_rfl) rfl) rfl ?_)) | (refine so_is (.unOp .not 4 _) ?_; refine so_q (qt_not rfl) rfl ?_) | (refine so_is (.move _) ?_; (refine so_q (qt_mvC rfl) rfl ?_)) | (refine so_is (.fieldAddr 37 _ 1) ?_; (refine so_q (qt_fld_lp (off := 1) rfl (by kernel_rfl)) rfl ?_)) | (refine so_is (.load 22 _) ?_; (refine so_q (qt_load_box rfl rfl (by kernel_rfl) rfl) rfl ?_)) | (refine so_is (.call ⟨.builtin .len, _, #[22]⟩) ?_; (refine so_q (qt_len_d rfl (by kernel_rfl)) rfl ?_)) | (refine so_is (.binOp .gtr 3 _ _ _) ?_; refine so_q (qt_gtr rfl rfl) rfl ?_) | (refine so_is (.pick _ _ _) ?_; (refine so_q (qt_pkC rfl rfl) rfl ?_)) | (refine so_is (.fieldAddr 37 _ 2) ?_; (refine so_q (qt_fld_lp (off := 2) rfl (by kernel_rfl)) rfl ?_)) | (refine so_is (.load 25 _) ?_; (refine so_q (qt_load_box rfl rfl (by kernel_rfl) rfl) rfl ?_)) | (refine so_is (.call ⟨.builtin .len, _, #[25]⟩) ?_; (refine so_q (qt_len_d rfl (by kernel_rfl)) rfl ?_)) | (refine so_is (.binOp .neq 3 _ _ _) ?_; refine so_q (qt_neq rfl rfl) rfl ?_) | (refine so_is (.call ⟨.value (.func 35), _, _⟩) ?_; (apply so_call0 (fid := 35); (· (repeat (first | exact SeA.nil | apply SeA.cons (.c (.d _))))); (· exact within_p _ _ _); (· rfl))) | (refine so_is (.call ⟨.value (.func 49), _, _⟩) ?_; (apply so_call0 (fid := 49); (· (repeat (first | exact SeA.nil | apply SeA.cons (.c (.d _))))); (· exact allWithin_p _ _ _); (· rfl))) | refine so_nil ?_ | refine so_g_no rfl rfl rfl rfl ?_ | refine so_g_yes rfl rfl rfl rfl ?_ | refine so_g_if rfl rfl (fun hg => ?_) (fun hg => ?_) | refine so_g_b rfl rfl (fun hg => ?_) (fun hg => ?_) | refine sk_seq ?_ | refine sk_block ?_ | refine sk_skip ?_ | refine sk_region ?_ | refine sk_true rfl ?_ | refine sk_not rfl (fun hc => ?_) (fun hc => ?_))
  · (apply sk_ret; apply ret_eq; (· apply RetOK.p; (· (apply GvA.cons; (· exact .tmp _); (· exact GvP.c (.lit _))); exact GvA.nil); (· (decide))))
    have : inB ev 0 12 = false := by simp_all
    simp [sceneB, this]
  · (apply sk_ret; apply ret_eq; (· apply RetOK.p; (· (apply GvA.cons; (· exact .tmp _); (· exact GvP.c (.lit _))); exact GvA.nil); (· (decide))))
    have : ¬ cc.length ≤ 10 := by omega
    simp [sceneB, this]
  · (apply sk_ret; apply ret_eq; (· apply RetOK.p; (· (apply GvA.cons; (· exact .tmp _); (· exact GvP.c (.lit _))); exact GvA.nil); (· (decide))))
    have : ¬ (ss.length : Int) = cc.length := by omega
    simp [sceneB, bitsB, this]
  · (apply sk_ret; apply ret_eq; (· apply RetOK.p; (· (apply GvA.cons; (· exact .tmp _); (· exact GvP.c (.lit _))); exact GvA.nil); (· (decide))))
    have : allB ss 0 1 = false := by assumption
    simp [sceneB, bitsB, this]
  have h1 : inB ev 0 12 = true := by simp_all
  have hev := hev h1
  have h2 : cc.length ≤ 10 := by omega
  have h3 : bitsB ss cc.length = true := by
    have h4 : (ss.length : Int) = cc.length := by omega
    have h5 : allB ss 0 1 = true := by assumption
    simp [bitsB, h4, h5]
  clear hc
  apply sk_packC [1, 31, 32, 33] [1] rfl; (· (repeat (first | exact Pf.nil | apply Pf.cons (.c rfl (.d rfl)) | apply Pf.cons (.c rfl (.lp rfl))))); (· (repeat (first | exact Pb.nil | (apply Pb.cons; (· apply Nb.box rfl; (repeat (first | exact Ncs.nil rfl | (apply Ncs.cons rfl; (· (exact .d rfl))))))))))
  refine sk_loopL [1, 31, 32] [1] (fun k => [(33, iN k)]) (fun _ => []) (fun k => k ≤ cc.length ∧ (cc.take k).all (ctxB ev) = true) (fun k => cc.length - k) (0) ?_ (by (repeat (first | exact trivial | refine ⟨(by (rfl)), ?_⟩))) (by (repeat (exact trivial))) ?_
  · simp
  rintro k ⟨hk, ha⟩
  repeat' (first | (refine so_is (.assign _) ?_; (refine so_q (qt_asC rfl) rfl ?_)) | (refine so_is (.fieldAddr 37 _ 0) ?_; (refine so_q (qt_fld_lp (off := 0) rfl (by kernel_rfl)) rfl ?_)) | (refine so_is (.load 3 _) ?_; (refine so_q (qt_load_box rfl rfl (by kernel_rfl) rfl) rfl ?_)) | (refine so_is (.unOp .not 4 _) ?_; refine so_q (qt_not rfl) rfl ?_) | (refine so_is (.move _) ?_; (refine so_q (qt_mvC rfl) rfl ?_)) | (refine so_is (.pick _ _ _) ?_; (refine so_q (qt_pkC rfl rfl) rfl ?_)) | (refine so_is (.load 25 _) ?_; (refine so_q (qt_load_pt rfl (by kernel_rfl) rfl) rfl ?_)) | (refine so_is (.call ⟨.builtin .len, _, #[25]⟩) ?_; (refine so_q (qt_len_d rfl (by kernel_rfl)) rfl ?_)) | (refine so_is (.binOp .lss 3 _ _ _) ?_; refine so_q (qt_lss rfl rfl) rfl ?_) | (refine so_is (.indexAddr 22 _ _) ?_; (refine so_q (qt_idxII rfl rfl (by kernel_rfl) (by (omega)) (by (omega))) rfl ?_)) | (refine so_is (.binOp .eql 3 _ _ _) ?_; refine so_q (qt_eql rfl rfl) rfl ?_) | (refine so_is (.binOp .add 3 _ _ _) ?_; refine so_q (qt_addI rfl rfl (by (omega))) rfl ?_) | (refine so_is (.call ⟨.value (.func 51), _, _⟩) ?_; (apply so_call0 (fid := 51); (· (repeat (first | exact SeA.nil | apply SeA.cons (.c (.d _))))); (· exact isSet_p _ _ (by omega) (by omega)); (· rfl))) | refine so_nil ?_ | refine so_g_no rfl rfl rfl rfl ?_ | refine so_g_yes rfl rfl rfl rfl ?_ | refine so_g_if rfl rfl (fun hg => ?_) (fun hg => ?_) | refine sk_seq ?_ | refine sk_block ?_ | refine sk_blk ?_ | refine sk_exit rfl ?_ | refine sk_skip ?_ | refine sk_region ?_ | refine sk_true rfl ?_ | refine sk_if rfl (fun hc => ?_) (fun hc => ?_) | refine sk_not rfl (fun hc => ?_) (fun hc => ?_))
  · have hk2 : k < cc.length := by omega
    (apply sk_ret; apply ret_eq; (· apply RetOK.p; (· (apply GvA.cons; (· exact .tmp _); (· exact GvP.c (.lit _))); exact GvA.nil); (· (decide))))
    have h9 : ctxB ev cc[k] = false := by rw [← atZ_nat hk2]; simp [ctxB]; omega
    simp only [sceneB, all_f (p := ctxB ev) hk2 h9]; simp
  · have hk2 : k < cc.length := by omega
    (apply sk_ret; apply ret_eq; (· apply RetOK.p; (· (apply GvA.cons; (· exact .tmp _); (· exact GvP.c (.lit _))); exact GvA.nil); (· (decide))))
    have h9 : ctxB ev cc[k] = false := by rw [← atZ_nat hk2]; simp [ctxB, hc]
    simp only [sceneB, all_f (p := ctxB ev) hk2 h9]; simp
  · have hk2 : k < cc.length := by omega
    have h9 : ctxB ev cc[k] = true := by rw [← atZ_nat hk2]; simp [ctxB, hc]; omega
    refine sk_back ?_; refine ⟨k + 1, ?_, ?_, le_at rfl (by (repeat (first | exact trivial | refine ⟨(by (rfl)), ?_⟩))) (by (repeat (first | exact trivial | refine ⟨rfl, ?_⟩))) (by (repeat (exact trivial))) (by (repeat (first | exact trivial | refine ⟨.inr rfl, ?_⟩)))⟩
    · exact ⟨by omega, by rw [take_succ_all _ _ _ hk2, ha, h9]; rfl⟩
    · omega
  · have : k = cc.length := by omega
    subst this
    rw [List.take_length] at ha
    (apply sk_ret; apply ret_eq; (· apply RetOK.p; (· (apply GvA.cons; (· exact .tmp _); (· exact GvP.c (.lit _))); exact GvA.nil); (· (decide))))
    simp [sceneB, h1, h2, h3, ha]

end Go.Proofs.YtdihapcicpkdkaaGreatDoor

namespace Go.Proofs.YtdihapcicpkdkaaGreatDoor
open Go.RowKit
set_option linter.unusedSectionVars false
variable [Glb]
set_option maxRecDepth 10000
set_option maxHeartbeats 4000000
theorem isPlay_p (x y : Int) (l : List Int) : PC Tryz.prog 32 [.c (dI x), .c (dI y), .c (eI l)] (.p (.c (dB (bitsB l (IntKind.i64.wrap (x + y)))))) := by
  refine pc_intro Tryz.func32 rfl rfl rfl (by kernel_rfl) rfl rfl ?_; intro _
  repeat' (first | (refine so_is (.assign _) ?_; (refine so_q (qt_asC rfl) rfl ?_)) | (refine so_is (.move _) ?_; (refine so_q (qt_mvC rfl) rfl ?_)) | (refine so_is (.call ⟨.builtin .len, _, #[25]⟩) ?_; (refine so_q (qt_len_d rfl (by kernel_rfl)) rfl ?_)) | (refine so_is (.binOp .add 3 _ _ _) ?_; (refine so_q (qt_add rfl rfl) rfl ?_)) | (refine so_is (.binOp .eql 3 _ _ _) ?_; refine so_q (qt_eql rfl rfl) rfl ?_) | (refine so_is (.pick _ _ _) ?_; (refine so_q (qt_pkC rfl rfl) rfl ?_)) | (refine so_is (.call ⟨.value (.func 49), _, _⟩) ?_; (apply so_call0 (fid := 49); (· (repeat (first | exact SeA.nil | apply SeA.cons (.c (.d _))))); (· exact allWithin_p _ _ _); (· rfl))) | refine so_nil ?_ | refine so_g_no rfl rfl rfl rfl ?_ | refine so_g_yes rfl rfl rfl rfl ?_ | refine so_g_if rfl rfl (fun hg => ?_) (fun hg => ?_) | refine sk_seq ?_ | refine sk_region ?_)
  all_goals (apply sk_ret; apply ret_eq; (· apply RetOK.p; (· (apply GvA.cons; (· exact .tmp _); (· exact GvP.c (.lit _))); exact GvA.nil); (· (decide))))
  all_goals ((simp_all [bitsB]; done))

end Go.Proofs.YtdihapcicpkdkaaGreatDoor

namespace Go.Proofs.YtdihapcicpkdkaaGreatDoor
open Go.RowKit
set_option linter.unusedSectionVars false
variable [Glb]
set_option maxRecDepth 10000
set_option maxHeartbeats 4000000
theorem IsHall_p (bx by_ bwh : Int) (bll : List (List Int)) (pl : List Int) (ev : Int) (cc : List (List Int)) (ss nu : List Int) (co : Int) :
    PC Tryz.prog 15 [.g [dI bx, dI by_, dI bwh, eII bll, eI pl, dI ev, eII cc, eI ss, eI nu, dI co]] (.p (.c (dB (hallB bx by_ bwh bll pl ev cc ss nu co)))) := by
  have hw : boxB bx by_ bwh bll = true → IntKind.i64.wrap (bx + by_) = bx + by_ := fun h => by have := boxB_spec h; have a := this.x1; have b := this.x3; have c := this.y1; have d := this.y3; exact IntWalk.i64_in _ (by omega)
  refine pc_intro Tryz.func15 rfl rfl rfl (by kernel_rfl) rfl rfl ?_; intro _
  repeat' (first | (refine so_is (.box 39 _) ?_; refine so_box rfl rfl ?_) | (refine so_is (.assign _) ?_; (refine so_q (qt_asC rfl) rfl ?_)) | (refine so_is (.fieldAddr 39 _ 0) ?_; (refine so_q (qt_fld_lp (off := 0) rfl (by kernel_rfl)) rfl ?_)) | (refine so_is (.load 36 _) ?_; (refine so_q (qt_load_boxs rfl rfl (by kernel_rfl : tAgg _ 36 4 = true) rfl) rfl ?_)) | (refine so_is (.move _) ?_; (refine so_q (qt_mvC rfl) rfl ?_)) | (refine so_is (.fieldAddr 36 _ 0) ?_; (refine so_q (qt_fld_lp (off := 0) rfl (by kernel_rfl)) rfl ?_)) | (refine so_is (.load 3 _) ?_; (refine so_q (qt_load_box rfl rfl (by kernel_rfl) rfl) rfl ?_)) | (refine so_is (.fieldAddr 36 _ 1) ?_; (refine so_q (qt_fld_lp (off := 1) rfl (by kernel_rfl)) rfl ?_)) | (refine so_is (.fieldAddr 39 _ 1) ?_; (refine so_q (qt_fld_lp (off := 4) rfl (by kernel_rfl)) rfl ?_)) | (refine so_is (.load 25 _) ?_; (refine so_q (qt_load_box rfl rfl (by kernel_rfl) rfl) rfl ?_)) | (refine so_is (.pick _ _ _) ?_; (refine so_q (qt_pkC rfl rfl) rfl ?_)) | (refine so_is (.fieldAddr 39 _ 2) ?_; (refine so_q (qt_fld_lp (off := 5) rfl (by kernel_rfl)) rfl ?_)) | (refine so_is (.load 37 _) ?_; (refine so_q (qt_load_boxs rfl rfl (by kernel_rfl : tAgg _ 37 3 = true) rfl) rfl ?_)) | (refine so_is (.fieldAddr 39 _ 3) ?_; (refine so_q (qt_fld_lp (off := 8) rfl (by kernel_rfl)) rfl ?_)) | (refine so_is (.fieldAddr 39 _ 4) ?_; (refine so_q (qt_fld_lp (off := 9) rfl (by kernel_rfl)) rfl ?_)) | (refine so_is (.call ⟨.value (.func 31), _, _⟩) ?_; (apply so_call0 (fid := 31); (· (repeat (first | exact SeA.nil | (apply SeA.cons; (· (apply SeP.g; (repeat (first | exact SeL.nil | apply SeL.cons (.d _))))))))); (· exact IsBox_p _ _ _ _); (· rfl))) | (refine so_is (.call ⟨.value (.func 32), _, _⟩) ?_; (apply so_call0 (fid := 32); (· (repeat (first | exact SeA.nil | apply SeA.cons (.c (.d _))))); (· exact isPlay_p _ _ _); (· rfl))) | (refine so_is (.call ⟨.value (.func 33), _, _⟩) ?_; (apply so_call0 (fid := 33); (· (repeat (first | exact SeA.nil | (apply SeA.cons; (· (apply SeP.g; (repeat (first | exact SeL.nil | apply SeL.cons (.d _))))))))); (· exact IsScene_p _ _ _); (· rfl))) | (refine so_is (.call ⟨.value (.func 34), _, _⟩) ?_; (apply so_call0 (fid := 34); (· (repeat (first | exact SeA.nil | apply SeA.cons (.c (.d _)) | (apply SeA.cons; (· (apply SeP.g; (repeat (first | exact SeL.nil | apply SeL.cons (.d _))))))))); (· exact isAssignment_p _ _ _ _); (· rfl))) | (refine so_is (.call ⟨.value (.func 35), _, _⟩) ?_; (apply so_call0 (fid := 35); (· (repeat (first | exact SeA.nil | apply SeA.cons (.c (.d _))))); (· exact within_p _ _ _); (· rfl))) | refine so_nil ?_ | refine so_g_no rfl rfl rfl rfl ?_ | refine so_g_yes rfl rfl rfl rfl ?_ | refine so_g_b rfl rfl (fun hg => ?_) (fun hg => ?_) | refine sk_seq ?_ | refine sk_region ?_)
  all_goals (apply sk_ret; apply ret_eq; (· apply RetOK.p; (· (apply GvA.cons; (· exact .tmp _); (· exact GvP.c (.lit _))); exact GvA.nil); (· (decide))))
  all_goals simp_all [hallB]

end Go.Proofs.YtdihapcicpkdkaaGreatDoor

namespace Go.Proofs.YtdihapcicpkdkaaGreatDoor
open Go.RowKit
set_option linter.unusedSectionVars false
variable [Glb]
set_option maxRecDepth 10000
set_option maxHeartbeats 4000000
open Go.Shelf Go.Proofs
def Tryz.lays219_ren_stringslite_Index_one : Go.Shelf.Ren := ⟨fun | 219 => 68 | 217 => 75 | 225 => 76 | 224 => 77 | 267 => 78 | 266 => 82 | 314 => 83 | n => n, fun | 9 => 9 | 3 => 3 | 4 => 4 | 5 => 5 | 46 => 105 | 146 => 108 | 51 => 107 | n => n, fun | 1 => 0 | n => n⟩
theorem Tryz.lays219_stringslite_Index_one : Go.Proofs.Lays.n219 Tryz.prog Tryz.lays219_ren_stringslite_Index_one := {
  mixed := by kernel_rfl
  f217 := Tryz.func75.trans (congrArg some (by kernel_rfl))
  f219 := Tryz.func68.trans (congrArg some (by kernel_rfl))
  f224 := Tryz.func77.trans (congrArg some (by kernel_rfl))
  f225 := Tryz.func76.trans (congrArg some (by kernel_rfl))
  f266 := Tryz.func82.trans (congrArg some (by kernel_rfl))
  f267 := Tryz.func78.trans (congrArg some (by kernel_rfl))
  f314 := Tryz.func83.trans (congrArg some (by kernel_rfl))
  t3 := Tryz.underlying3
  a3 := Tryz.isAgg3
  z3 := Tryz.sizeOf3
  v3 := Tryz.zeroValue3
  t4 := Tryz.underlying4
  a4 := Tryz.isAgg4
  z4 := Tryz.sizeOf4
  v4 := Tryz.zeroValue4
  t5 := Tryz.underlying5
  a5 := Tryz.isAgg5
  z5 := Tryz.sizeOf5
  v5 := Tryz.zeroValue5
  t9 := Tryz.underlying9
  a9 := Tryz.isAgg9
  z9 := Tryz.sizeOf9
  v9 := Tryz.zeroValue9
  t46 := Tryz.underlying105
  a46 := Tryz.isAgg105
  z46 := Tryz.sizeOf105
  v46 := Tryz.zeroValue105
  t51 := Tryz.underlying107
  a51 := Tryz.isAgg107
  z51 := Tryz.sizeOf107
  v51 := Tryz.zeroValue107
  t146 := Tryz.underlying108
  a146 := Tryz.isAgg108
  z146 := Tryz.sizeOf108
  v146 := Tryz.zeroValue108
  g1 := by kernel_rfl }
open Go.RowKit Go.Lib in
theorem Tryz.stringslite_Index_one (s : ByteArray) (c : UInt8) (w : World) :
    Calls Tryz.prog 68 #[.string s, .string ⟨#[c]⟩] w fun e w' => e = .returned (.int .i64 (Lib.indexByte s.data.toList c)) ∧ w' = w := Any.stringslite_Index_one Tryz.lays219_stringslite_Index_one s c w

end Go.Proofs.YtdihapcicpkdkaaGreatDoor

namespace Go.Proofs.YtdihapcicpkdkaaGreatDoor
open Go.RowKit
set_option linter.unusedSectionVars false
variable [Glb]
set_option maxRecDepth 10000
set_option maxHeartbeats 4000000
theorem ixB_hit {c : UInt8} : ∀ {s : Tx}, c ∈ s → Go.Lib.indexByte s c = ((bef c s).length : Int)
  | [], h => by cases h
  | x :: r, h => by
    unfold Go.Lib.indexByte
    by_cases hx : x = c
    · subst hx; simp [bef]
    · have hr : c ∈ r := by rcases List.mem_cons.1 h with e | e; exact absurd e.symm hx; exact e
      have := ixB_hit hr
      rw [if_neg (by simpa using hx), this, bef, if_neg hx]
      rw [if_neg (by rw [beq_iff_eq]; omega), List.length_cons]; omega
theorem ixB_miss {c : UInt8} : ∀ {s : Tx}, c ∉ s → Go.Lib.indexByte s c = -1
  | [], h => rfl
  | x :: r, h => by
    rw [List.mem_cons, not_or] at h
    unfold Go.Lib.indexByte
    rw [if_neg (by simpa using Ne.symm h.1), ixB_miss h.2]; rfl
theorem ixB_has (c : UInt8) (s : Tx) : decide (0 ≤ Go.Lib.indexByte s c) = s.contains c := by
  by_cases h : c ∈ s
  · rw [ixB_hit h]; simp [h]
  · rw [ixB_miss h]; simp [h]
theorem bsT_list (s : Tx) : (bsT s).data.toList = s := by simp [bsT]

end Go.Proofs.YtdihapcicpkdkaaGreatDoor

namespace Go.Proofs.YtdihapcicpkdkaaGreatDoor
open Go.RowKit
set_option linter.unusedSectionVars false
variable [Glb]
set_option maxRecDepth 10000
set_option maxHeartbeats 4000000
theorem strIndex_p (s : Tx) (c : UInt8) : PC Tryz.prog 68 [.c (dT s), .c (dT [c])] (.p (.c (dI (Go.Lib.indexByte s c)))) :=
  pc_lit2 (Go.Proofs.enters_of Tryz.func68 (by kernel_rfl) rfl) rfl fun w _ => (Tryz.stringslite_Index_one (bsT s) c w).mono (by
    rintro e w' ⟨rfl, rfl⟩; rw [bsT_list]; exact ⟨rfl, .refl _ _⟩)

end Go.Proofs.YtdihapcicpkdkaaGreatDoor

namespace Go.Proofs.YtdihapcicpkdkaaGreatDoor
open Go.RowKit
set_option linter.unusedSectionVars false
variable [Glb]
set_option maxRecDepth 10000
set_option maxHeartbeats 4000000
theorem cut_hit {s : Tx} {c : UInt8} (h : c ∈ s) : partZ s 0 ((bef c s).length : Int) = bef c s ∧ partZ s ((bef c s).length + 1) s.length = aft c s := by
  obtain ⟨e, -⟩ := split_at_b h
  have e2 := congrArg List.length e
  generalize bef c s = x at *
  generalize aft c s = y at *
  subst e
  simp only [List.length_append, List.length_cons] at e2
  constructor
  · simp [partZ]
  · have : ((x.length : Int) + 1).toNat = x.length + 1 := by omega
    have h2 : (x ++ c :: y).drop (x.length + 1) = y := by
      rw [show (x ++ c :: y) = (x ++ [c]) ++ y by simp]; exact List.drop_left' (by simp)
    simp only [partZ, this]
    rw [h2, List.take_of_length_le]
    simp; omega
theorem cut0_p (s : Tx) (c : UInt8) : PC Tryz.prog 61 [.c (dT s), .c (dT [c])] (.t [.c (dT (bef c s)), .c (dT (aft c s)), .c (dB (s.contains c))]) := by
  refine pc_intro Tryz.func61 rfl rfl rfl (by kernel_rfl) rfl rfl ?_; rintro ⟨hl, hc, -⟩
  have hl := FitT hl
  have hc := FitT hc
  by_cases h : c ∈ s
  · obtain ⟨e, -⟩ := split_at_b h
    have e2 := congrArg List.length e
    have e3 := ixB_hit h
    obtain ⟨e4, e5⟩ := cut_hit h
    have e6 : s.contains c = true := by simp [h]
    simp only [List.length_append, List.length_cons] at e2
    clear e
    repeat' (first | (refine so_is (.assign _) ?_; (refine so_q (qt_asC rfl) rfl ?_)) | (refine so_is (.move _) ?_; (refine so_q (qt_mvC rfl) rfl ?_)) | (refine so_is (.binOp .geq 3 _ _ _) ?_; refine so_q (qt_geq rfl rfl) rfl ?_) | (refine so_is (.slice 9 _ none (some _) none) ?_; (refine so_q (qt_sliceT01 rfl rfl (by kernel_rfl) (by (omega)) (by (omega))) rfl ?_)) | (refine so_is (.call ⟨.builtin .len, _, #[9]⟩) ?_; (refine so_q (qt_lenT rfl (by kernel_rfl)) rfl ?_)) | (refine so_is (.binOp .add 3 _ _ _) ?_; refine so_q (qt_addI rfl rfl (by ((simp at *; omega)))) rfl ?_) | (refine so_is (.slice 9 _ (some _) none none) ?_; (refine so_q (qt_sliceT10 rfl rfl (by kernel_rfl) (by (omega)) (by ((simp at *; omega)))) rfl ?_)) | (refine so_is (.call ⟨.value (.func 68), _, _⟩) ?_; (apply so_call0 (fid := 68); (· (repeat (first | exact SeA.nil | apply SeA.cons (.c (.d _))))); (· exact strIndex_p _ _); (· rfl))) | refine so_nil ?_ | refine sk_seq ?_ | refine sk_skip ?_ | refine sk_region ?_ | refine sk_drawQ 3 (fun _ => false) (.step 0 true (.step 1 true (.step 2 true (.step 3 true (.step 4 true (.step 5 true (.step 6 true (.step 7 true (.step 8 true (.step 9 true (.step 10 true (.step 11 true .nil)))))))))))) [(0, 4095, 4095, true), (0, 4095, 4095, true), (3, 4092, 4095, true), (0, 4095, 4095, true), (0, 4095, 4095, true), (0, 4095, 4095, true), (32, 4063, 4095, true), (80, 4015, 4095, true), (136, 3959, 4095, true), (7, 4091, 4095, true), (1023, 3839, 4095, true), (2047, 4095, 4095, true)] (by kernel_rfl) (by kernel_rfl) ?_ | refine sk_if rfl (fun hc => ?_) (fun hc => ?_))
    all_goals first | (exfalso; omega) | skip
    all_goals (apply sk_ret; apply ret_eq; (· apply RetOK.t; (· (apply GvA.cons; (· exact .tmp _); (· exact GvP.c (.lit _))); (apply GvA.cons; (· exact .tmp _); (· exact GvP.c (.lit _))); (apply GvA.cons; (· exact .tmp _); (· exact GvP.c (.lit _))); exact GvA.nil); (· rfl); (· (decide))))
    all_goals rw [e3] at *
    all_goals simp [e4, e5, h]
  · have e3 := ixB_miss h
    have e4 := bef_miss h
    have e5 := aft_miss h
    repeat' (first | (refine so_is (.assign _) ?_; (refine so_q (qt_asC rfl) rfl ?_)) | (refine so_is (.move _) ?_; (refine so_q (qt_mvC rfl) rfl ?_)) | (refine so_is (.binOp .geq 3 _ _ _) ?_; refine so_q (qt_geq rfl rfl) rfl ?_) | (refine so_is (.slice 9 _ none (some _) none) ?_; (refine so_q (qt_sliceT01 rfl rfl (by kernel_rfl) (by (omega)) (by (omega))) rfl ?_)) | (refine so_is (.call ⟨.builtin .len, _, #[9]⟩) ?_; (refine so_q (qt_lenT rfl (by kernel_rfl)) rfl ?_)) | (refine so_is (.binOp .add 3 _ _ _) ?_; refine so_q (qt_addI rfl rfl (by (omega))) rfl ?_) | (refine so_is (.slice 9 _ (some _) none none) ?_; (refine so_q (qt_sliceT10 rfl rfl (by kernel_rfl) (by (omega)) (by (omega))) rfl ?_)) | (refine so_is (.call ⟨.value (.func 68), _, _⟩) ?_; (apply so_call0 (fid := 68); (· (repeat (first | exact SeA.nil | apply SeA.cons (.c (.d _))))); (· exact strIndex_p _ _); (· rfl))) | refine so_nil ?_ | refine sk_seq ?_ | refine sk_skip ?_ | refine sk_region ?_ | refine sk_drawQ 3 (fun _ => false) (.step 0 true (.step 1 true (.step 2 true (.step 3 true (.step 4 true (.step 5 true (.step 6 true (.step 7 true (.step 8 true (.step 9 true (.step 10 true (.step 11 true .nil)))))))))))) [(0, 4095, 4095, true), (0, 4095, 4095, true), (3, 4092, 4095, true), (0, 4095, 4095, true), (0, 4095, 4095, true), (0, 4095, 4095, true), (32, 4063, 4095, true), (80, 4015, 4095, true), (136, 3959, 4095, true), (7, 4091, 4095, true), (1023, 3839, 4095, true), (2047, 4095, 4095, true)] (by kernel_rfl) (by kernel_rfl) ?_ | refine sk_if rfl (fun hc => ?_) (fun hc => ?_))
    all_goals first | (exfalso; omega) | skip
    all_goals (apply sk_ret; apply ret_eq; (· apply RetOK.t; (· (apply GvA.cons; (· exact .tmp _); (· exact GvP.c (.lit _))); (apply GvA.cons; (· exact .tmp _); (· exact GvP.c (.lit _))); (apply GvA.cons; (· exact .tmp _); (· exact GvP.c (.lit _))); exact GvA.nil); (· rfl); (· (decide))))
    all_goals simp [e4, e5, h]
    all_goals rfl
theorem cut_p (s : Tx) (c : UInt8) : PC Tryz.prog 52 [.c (dT s), .c (dT [c])] (.t [.c (dT (bef c s)), .c (dT (aft c s)), .c (dB (s.contains c))]) := by
  refine pc_intro Tryz.func52 rfl rfl rfl (by kernel_rfl) rfl rfl ?_; intro _
  repeat' (first | (refine so_is (.assign _) ?_; (refine so_q (qt_asC rfl) rfl ?_)) | (refine so_is (.move _) ?_; (refine so_q (qt_mvC rfl) rfl ?_)) | (refine so_is (.extract _ _) ?_; refine so_q (qt_extract rfl rfl) rfl ?_) | (refine so_is (.call ⟨.value (.func 61), _, _⟩) ?_; (apply so_call0 (fid := 61); (· (repeat (first | exact SeA.nil | apply SeA.cons (.c (.d _))))); (· exact cut0_p _ _); (· rfl))) | refine so_nil ?_ | refine sk_seq ?_ | refine sk_region ?_)
  (apply sk_ret; apply ret_eq; (· apply RetOK.t; (· (apply GvA.cons; (· exact .tmp _); (· exact GvP.c (.lit _))); (apply GvA.cons; (· exact .tmp _); (· exact GvP.c (.lit _))); (apply GvA.cons; (· exact .tmp _); (· exact GvP.c (.lit _))); exact GvA.nil); (· rfl); (· (decide))))
  rfl

end Go.Proofs.YtdihapcicpkdkaaGreatDoor

namespace Go.Proofs.YtdihapcicpkdkaaGreatDoor
open Go.RowKit
set_option linter.unusedSectionVars false
variable [Glb]
set_option maxRecDepth 10000
set_option maxHeartbeats 4000000
def tabNm : String := (Rows.fnExactIsValidConsoleRow.laid.getD 2 (default, .nil)).1

end Go.Proofs.YtdihapcicpkdkaaGreatDoor

namespace Go.Proofs.YtdihapcicpkdkaaGreatDoor
open Go.RowKit
set_option linter.unusedSectionVars false
variable [Glb]
set_option maxRecDepth 10000
set_option maxHeartbeats 4000000
open Go.Shelf Go.Proofs
def Tryz.laysM171_ren_strconv_Itoa : Go.Shelf.Ren := ⟨fun | 171 => 64 | 243 => 73 | 246 => 81 | 283 => 85 | 284 => 86 | 285 => 87 | 286 => 88 | 129 => 94 | 317 => 93 | 318 => 95 | 319 => 96 | 320 => 97 | 337 => 100 | 338 => 101 | n => n, fun | 3 => 3 | 9 => 9 | 2 => 2 | 4 => 4 | 171 => 110 | 0 => 0 | 53 => 111 | 37 => 114 | 5 => 5 | 173 => 115 | 212 => 125 | 51 => 107 | 20 => 20 | 213 => 126 | 46 => 105 | 232 => 131 | 233 => 132 | n => n, fun | 17 => 1 | 18 => 2 | 19 => 3 | n => n⟩
theorem Tryz.laysM171_strconv_Itoa : Go.Proofs.LaysM.n171 Tryz.prog Tryz.laysM171_ren_strconv_Itoa := {
  mixed := by kernel_rfl
  f129 := Tryz.func94.trans (congrArg some (by kernel_rfl))
  f171 := Tryz.func64.trans (congrArg some (by kernel_rfl))
  f243 := Tryz.func73.trans (congrArg some (by kernel_rfl))
  f246 := Tryz.func81.trans (congrArg some (by kernel_rfl))
  f283 := Tryz.func85.trans (congrArg some (by kernel_rfl))
  f284 := Tryz.func86.trans (congrArg some (by kernel_rfl))
  f285 := Tryz.func87.trans (congrArg some (by kernel_rfl))
  f286 := Tryz.func88.trans (congrArg some (by kernel_rfl))
  f317 := Tryz.func93.trans (congrArg some (by kernel_rfl))
  f318 := Tryz.func95.trans (congrArg some (by kernel_rfl))
  f319 := Tryz.func96.trans (congrArg some (by kernel_rfl))
  f320 := Tryz.func97.trans (congrArg some (by kernel_rfl))
  f337 := Tryz.func100.trans (congrArg some (by kernel_rfl))
  f338 := Tryz.func101.trans (congrArg some (by kernel_rfl))
  t0 := Tryz.underlying0
  a0 := Tryz.isAgg0
  z0 := Tryz.sizeOf0
  v0 := Tryz.zeroValue0
  t2 := Tryz.underlying2
  a2 := Tryz.isAgg2
  z2 := Tryz.sizeOf2
  v2 := Tryz.zeroValue2
  t3 := Tryz.underlying3
  a3 := Tryz.isAgg3
  z3 := Tryz.sizeOf3
  v3 := Tryz.zeroValue3
  t4 := Tryz.underlying4
  a4 := Tryz.isAgg4
  z4 := Tryz.sizeOf4
  v4 := Tryz.zeroValue4
  t5 := Tryz.underlying5
  a5 := Tryz.isAgg5
  z5 := Tryz.sizeOf5
  v5 := Tryz.zeroValue5
  t9 := Tryz.underlying9
  a9 := Tryz.isAgg9
  z9 := Tryz.sizeOf9
  v9 := Tryz.zeroValue9
  t20 := Tryz.underlying20
  a20 := Tryz.isAgg20
  z20 := Tryz.sizeOf20
  v20 := Tryz.zeroValue20
  t37 := Tryz.underlying114
  a37 := Tryz.isAgg114
  z37 := Tryz.sizeOf114
  v37 := Tryz.zeroValue114
  t46 := Tryz.underlying105
  a46 := Tryz.isAgg105
  z46 := Tryz.sizeOf105
  v46 := Tryz.zeroValue105
  t51 := Tryz.underlying107
  a51 := Tryz.isAgg107
  z51 := Tryz.sizeOf107
  v51 := Tryz.zeroValue107
  t53 := Tryz.underlying111
  a53 := Tryz.isAgg111
  z53 := Tryz.sizeOf111
  v53 := Tryz.zeroValue111
  t171 := Tryz.underlying110
  a171 := Tryz.isAgg110
  z171 := Tryz.sizeOf110
  v171 := Tryz.zeroValue110
  t173 := Tryz.underlying115
  a173 := Tryz.isAgg115
  z173 := Tryz.sizeOf115
  v173 := Tryz.zeroValue115
  t212 := Tryz.underlying125
  a212 := Tryz.isAgg125
  z212 := Tryz.sizeOf125
  v212 := Tryz.zeroValue125
  t213 := Tryz.underlying126
  a213 := Tryz.isAgg126
  z213 := Tryz.sizeOf126
  t232 := Tryz.underlying131
  a232 := Tryz.isAgg131
  z232 := Tryz.sizeOf131
  v232 := Tryz.zeroValue131
  t233 := Tryz.underlying132
  a233 := Tryz.isAgg132
  z233 := Tryz.sizeOf132
  v233 := Tryz.zeroValue132
  g17 := by kernel_rfl
  g18 := by kernel_rfl
  g19 := by kernel_rfl
  i0 := by kernel_rfl
  i2 := by kernel_rfl
  i3 := by kernel_rfl
  i4 := by kernel_rfl
  i5 := by kernel_rfl
  i9 := by kernel_rfl
  i20 := by kernel_rfl
  i37 := by kernel_rfl
  i46 := by kernel_rfl
  i51 := by kernel_rfl
  i53 := by kernel_rfl
  i171 := by kernel_rfl
  i173 := by kernel_rfl
  i212 := by kernel_rfl
  i232 := by kernel_rfl
  i233 := by kernel_rfl
  m17 := by kernel_rfl
  m18 := by kernel_rfl
  m19 := by kernel_rfl }
open Go.RowKit Go.Sort Go.Lib in
theorem Tryz.strconv_Itoa (n : Int) (h0 : -9223372036854775808 ≤ n) (h1 : n ≤ 9223372036854775807) (w : World) (htab : Lib.TabIs Tryz.prog w tabNm .u64 Lib.pow10Tab) :
    Calls Tryz.prog 64 #[.int .i64 n] w fun e w' => e = .returned (.string ⟨(Lib.itoa n).toArray⟩) ∧ ∃ k os, w' = grow (w.drewN k) os := Any.strconv_Itoa Tryz.laysM171_strconv_Itoa n h0 h1 w htab

end Go.Proofs.YtdihapcicpkdkaaGreatDoor

namespace Go.Proofs.YtdihapcicpkdkaaGreatDoor
open Go.RowKit
set_option linter.unusedSectionVars false
variable [Glb]
variable [GTab Tryz.prog tabNm]
set_option maxRecDepth 10000
set_option maxHeartbeats 4000000
theorem itoa_p (n : Nat) (h : n ≤ 1000000) : PC Tryz.prog 64 [.c (dI n)] (.p (.c (dT (numT n)))) :=
  pc_lit1 (Go.Proofs.enters_of Tryz.func64 (by kernel_rfl) rfl) (by
    have := (numT_len 6 n (by omega)).2
    simp [sc, bsT_size]; omega) fun w ok => (Tryz.strconv_Itoa (n : Int) (by omega) (by omega) w (GTab.tab w ok)).mono (by
    rintro e w' ⟨rfl, k, os, rfl⟩
    refine ⟨by rw [Go.Lib.itoa_nonneg]; rfl, ⟨rfl, rfl, rfl, ?_, fun g hg => ?_⟩⟩
    · simp [Go.Sort.grow, World.drewN]
    · simp only [Go.Sort.grow, World.drewN]; rw [Array.getElem?_append_left hg])

end Go.Proofs.YtdihapcicpkdkaaGreatDoor

namespace Go.Proofs.YtdihapcicpkdkaaGreatDoor
open Go.RowKit
set_option linter.unusedSectionVars false
variable [Glb]
set_option maxRecDepth 10000
set_option maxHeartbeats 4000000
open Go.Shelf Go.Proofs
def Tryz.lays144_ren_strings_Contains_one : Go.Shelf.Ren := ⟨fun | 144 => 69 | 143 => 79 | 219 => 68 | 217 => 75 | 225 => 76 | 224 => 77 | 267 => 78 | 266 => 82 | 314 => 83 | n => n, fun | 9 => 9 | 4 => 4 | 3 => 3 | 5 => 5 | 46 => 105 | 146 => 108 | 51 => 107 | n => n, fun | 1 => 0 | n => n⟩
theorem Tryz.lays144_strings_Contains_one : Go.Proofs.Lays.n144 Tryz.prog Tryz.lays144_ren_strings_Contains_one := {
  mixed := by kernel_rfl
  f143 := Tryz.func79.trans (congrArg some (by kernel_rfl))
  f144 := Tryz.func69.trans (congrArg some (by kernel_rfl))
  f217 := Tryz.func75.trans (congrArg some (by kernel_rfl))
  f219 := Tryz.func68.trans (congrArg some (by kernel_rfl))
  f224 := Tryz.func77.trans (congrArg some (by kernel_rfl))
  f225 := Tryz.func76.trans (congrArg some (by kernel_rfl))
  f266 := Tryz.func82.trans (congrArg some (by kernel_rfl))
  f267 := Tryz.func78.trans (congrArg some (by kernel_rfl))
  f314 := Tryz.func83.trans (congrArg some (by kernel_rfl))
  t3 := Tryz.underlying3
  a3 := Tryz.isAgg3
  z3 := Tryz.sizeOf3
  v3 := Tryz.zeroValue3
  t4 := Tryz.underlying4
  a4 := Tryz.isAgg4
  z4 := Tryz.sizeOf4
  v4 := Tryz.zeroValue4
  t5 := Tryz.underlying5
  a5 := Tryz.isAgg5
  z5 := Tryz.sizeOf5
  v5 := Tryz.zeroValue5
  t9 := Tryz.underlying9
  a9 := Tryz.isAgg9
  z9 := Tryz.sizeOf9
  v9 := Tryz.zeroValue9
  t46 := Tryz.underlying105
  a46 := Tryz.isAgg105
  z46 := Tryz.sizeOf105
  v46 := Tryz.zeroValue105
  t51 := Tryz.underlying107
  a51 := Tryz.isAgg107
  z51 := Tryz.sizeOf107
  v51 := Tryz.zeroValue107
  t146 := Tryz.underlying108
  a146 := Tryz.isAgg108
  z146 := Tryz.sizeOf108
  v146 := Tryz.zeroValue108
  g1 := by kernel_rfl }
open Go.RowKit Go.Lib in
theorem Tryz.strings_Contains_one (s : ByteArray) (c : UInt8) (w : World) :
    Calls Tryz.prog 69 #[.string s, .string ⟨#[c]⟩] w fun e w' => e = .returned (.bool (decide (0 ≤ Lib.indexByte s.data.toList c))) ∧ w' = w := Any.strings_Contains_one Tryz.lays144_strings_Contains_one s c w

end Go.Proofs.YtdihapcicpkdkaaGreatDoor

namespace Go.Proofs.YtdihapcicpkdkaaGreatDoor
open Go.RowKit
set_option linter.unusedSectionVars false
variable [Glb]
set_option maxRecDepth 10000
set_option maxHeartbeats 4000000
theorem strContains_p (s : Tx) (c : UInt8) : PC Tryz.prog 69 [.c (dT s), .c (dT [c])] (.p (.c (dB (s.contains c)))) :=
  pc_lit2 (Go.Proofs.enters_of Tryz.func69 (by kernel_rfl) rfl) rfl fun w _ => (Tryz.strings_Contains_one (bsT s) c w).mono (by
    rintro e w' ⟨rfl, rfl⟩; rw [bsT_list, ixB_has]; exact ⟨rfl, .refl _ _⟩)

end Go.Proofs.YtdihapcicpkdkaaGreatDoor

namespace Go.Proofs.YtdihapcicpkdkaaGreatDoor
open Go.RowKit
set_option linter.unusedSectionVars false
variable [Glb]
set_option maxRecDepth 10000
set_option maxHeartbeats 4000000
theorem checksum_p (s : Tx) : PC Tryz.prog 70 [.c (dT s)] (.p (.c (dI (sumN s)))) := by
  refine pc_intro Tryz.func70 rfl rfl rfl (by kernel_rfl) rfl rfl ?_; rintro ⟨hl, -⟩
  have hl := FitT hl
  repeat' (first | (refine so_is (.assign _) ?_; (refine so_q (qt_asC rfl) rfl ?_)) | (refine so_is (.move _) ?_; (refine so_q (qt_mvC rfl) rfl ?_)) | (refine so_is (.call ⟨.builtin .len, _, #[9]⟩) ?_; (refine so_q (qt_lenT rfl (by kernel_rfl)) rfl ?_)) | refine so_nil ?_ | refine sk_seq ?_ | refine sk_block ?_ | refine sk_region ?_)
  apply sk_packC [0, 3, 6, 7] [] rfl; (· (repeat (first | exact Pf.nil | apply Pf.cons (.c rfl (.d rfl))))); (· (repeat (exact Pb.nil)))
  refine sk_loopL [0, 6] [] (fun k => [(3, iN (sumN (s.take k))), (7, iN k)]) (fun _ => []) (fun k => k ≤ s.length) (fun k => s.length - k) (0) ?_ (by (repeat (first | exact trivial | refine ⟨(by (rfl)), ?_⟩))) (by (repeat (exact trivial))) ?_
  · simp
  rintro k hk
  have h0 := sumN_lt (s.take k)
  have hb := byt_lt s k
  by_cases h : k < s.length
  · have e : ((41 * (sumN (s.take k) : Int) + byt s k + 1) % 999979) = (sumN (s.take (k + 1)) : Int) := by rw [sumN_take h, byt_nat h]; omega
    repeat' (first | (refine so_is (.assign _) ?_; (refine so_q (qt_asC rfl) rfl ?_)) | (refine so_is (.move _) ?_; (refine so_q (qt_mvC rfl) rfl ?_)) | (refine so_is (.binOp .lss 3 _ _ _) ?_; refine so_q (qt_lss rfl rfl) rfl ?_) | (refine so_is (.binOp .mul 3 _ _ _) ?_; refine so_q (qt_mulI rfl rfl (by (omega))) rfl ?_) | (refine so_is (.index 9 _ _) ?_; (refine so_q (qt_indexT rfl rfl (by kernel_rfl) (by (omega)) (by (omega))) rfl ?_)) | (refine so_is (.convert 5 3 _) ?_; (refine so_q (qt_convI (k' := .i64) rfl (by kernel_rfl) (by kernel_rfl) (by (exact IntWalk.i64_in _ (by (omega))))) rfl ?_)) | (refine so_is (.binOp .add 3 _ _ _) ?_; refine so_q (qt_addI rfl rfl (by (omega))) rfl ?_) | (refine so_is (.binOp .rem 3 _ _ _) ?_; (refine so_q (qt_remN rfl rfl (by (omega)) (by (omega)) (by (omega))) rfl ?_)) | refine so_nil ?_ | refine sk_seq ?_ | refine sk_block ?_ | refine sk_blk ?_ | refine sk_exit rfl ?_ | refine sk_skip ?_ | refine sk_region ?_ | refine sk_if rfl (fun hc => ?_) (fun hc => ?_))
    all_goals first | (exfalso; omega) | skip
    refine sk_back ?_; refine ⟨k + 1, ?_, ?_, le_at rfl (by (repeat (first | exact trivial | refine ⟨(by (first | rfl | (refine int_eq rfl ?_; (omega)))), ?_⟩))) (by (repeat (first | exact trivial | refine ⟨rfl, ?_⟩))) (by (repeat (exact trivial))) (by (repeat (exact trivial)))⟩
    · omega
    · omega
  · repeat' (first | (refine so_is (.assign _) ?_; (refine so_q (qt_asC rfl) rfl ?_)) | (refine so_is (.move _) ?_; (refine so_q (qt_mvC rfl) rfl ?_)) | (refine so_is (.binOp .lss 3 _ _ _) ?_; refine so_q (qt_lss rfl rfl) rfl ?_) | (refine so_is (.binOp .mul 3 _ _ _) ?_; refine so_q (qt_mulI rfl rfl (by (omega))) rfl ?_) | (refine so_is (.index 9 _ _) ?_; (refine so_q (qt_indexT rfl rfl (by kernel_rfl) (by (omega)) (by (omega))) rfl ?_)) | (refine so_is (.convert 5 3 _) ?_; (refine so_q (qt_convI (k' := .i64) rfl (by kernel_rfl) (by kernel_rfl) (by (exact IntWalk.i64_in _ (by (omega))))) rfl ?_)) | (refine so_is (.binOp .add 3 _ _ _) ?_; refine so_q (qt_addI rfl rfl (by (omega))) rfl ?_) | (refine so_is (.binOp .rem 3 _ _ _) ?_; (refine so_q (qt_remN rfl rfl (by (omega)) (by (omega)) (by (omega))) rfl ?_)) | refine so_nil ?_ | refine sk_seq ?_ | refine sk_block ?_ | refine sk_blk ?_ | refine sk_exit rfl ?_ | refine sk_skip ?_ | refine sk_region ?_ | refine sk_if rfl (fun hc => ?_) (fun hc => ?_))
    all_goals first | (exfalso; omega) | skip
    have : k = s.length := by omega
    subst this
    (apply sk_ret; apply ret_eq; (· apply RetOK.p; (· (apply GvA.cons; (· exact .tmp _); (· exact GvP.c (.lit _))); exact GvA.nil); (· (decide))))
    simp

end Go.Proofs.YtdihapcicpkdkaaGreatDoor

namespace Go.Proofs.YtdihapcicpkdkaaGreatDoor
open Go.RowKit
set_option linter.unusedSectionVars false
variable [Glb]
variable [GTab Tryz.prog tabNm]
set_option maxRecDepth 10000
set_option maxHeartbeats 4000000
def acOK (s : Tx) : Bool := decide (s.length ≤ 4000) && !s.contains 35 && decide ((sealT s).length ≤ 4000)
def acT (s : Tx) : Tx := if acOK s = true then sealT s else []
theorem AppendChecksum_p (s : Tx) : PC Tryz.prog 62 [.c (dT s)] (.t [.c (dT (acT s)), .c (dB (acOK s))]) := by
  have h0 := sumN_lt s
  have h1 := (numS s).2
  refine pc_intro Tryz.func62 rfl rfl rfl (by kernel_rfl) rfl rfl ?_; intro _
  by_cases hk : s.length ≤ 4000
  · by_cases hc : 35 ∈ s
    · have e : acOK s = false := by simp [acOK, hc]
      repeat' (first | (refine so_is (.assign _) ?_; (refine so_q (qt_asC rfl) rfl ?_)) | (refine so_is (.move _) ?_; (refine so_q (qt_mvC rfl) rfl ?_)) | (refine so_is (.call ⟨.builtin .len, _, #[9]⟩) ?_; (refine so_q (qt_lenT rfl (by kernel_rfl)) rfl ?_)) | (refine so_is (.binOp .gtr 3 _ _ _) ?_; refine so_q (qt_gtr rfl rfl) rfl ?_) | (refine so_is (.pick _ _ _) ?_; (refine so_q (qt_pkC rfl rfl) rfl ?_)) | (refine so_is (.binOp .add 9 _ _ _) ?_; (refine so_q (qt_addT rfl rfl (by ((simp at *; omega)))) rfl ?_)) | (refine so_is (.call ⟨.value (.func 69), _, _⟩) ?_; (apply so_call0 (fid := 69); (· (repeat (first | exact SeA.nil | apply SeA.cons (.c (.d _))))); (· exact strContains_p _ 35); (· rfl))) | (refine so_is (.call ⟨.value (.func 70), _, _⟩) ?_; (apply so_call0 (fid := 70); (· (repeat (first | exact SeA.nil | apply SeA.cons (.c (.d _))))); (· exact checksum_p _); (· rfl))) | (refine so_is (.call ⟨.value (.func 64), _, _⟩) ?_; (apply so_call0 (fid := 64); (· (repeat (first | exact SeA.nil | apply SeA.cons (.c (.d _))))); (· exact itoa_p _ (by omega)); (· rfl))) | refine so_nil ?_ | refine so_g_no rfl rfl rfl rfl ?_ | refine so_g_yes rfl rfl rfl rfl ?_ | refine so_g_if rfl rfl (fun hg => ?_) (fun hg => ?_) | refine sk_seq ?_ | refine sk_skip ?_ | refine sk_region ?_ | refine sk_true rfl ?_ | refine sk_if rfl (fun hc => ?_) (fun hc => ?_) | refine sk_cond rfl (fun hc => ?_) (fun hc => ?_))
      all_goals first | (exfalso; simp_all; done) | (exfalso; omega) | skip
      all_goals (apply sk_ret; apply ret_eq; (· apply RetOK.t; (· (apply GvA.cons; (· exact .tmp _); (· exact GvP.c (.lit _))); (apply GvA.cons; (· exact .tmp _); (· exact GvP.c (.lit _))); exact GvA.nil); (· rfl); (· (decide))))
      all_goals simp [acT, e, bsT_nil]
    · by_cases hs : (sealT s).length ≤ 4000
      · have e : acOK s = true := by simp [acOK, hc, hk, hs]
        repeat' (first | (refine so_is (.assign _) ?_; (refine so_q (qt_asC rfl) rfl ?_)) | (refine so_is (.move _) ?_; (refine so_q (qt_mvC rfl) rfl ?_)) | (refine so_is (.call ⟨.builtin .len, _, #[9]⟩) ?_; (refine so_q (qt_lenT rfl (by kernel_rfl)) rfl ?_)) | (refine so_is (.binOp .gtr 3 _ _ _) ?_; refine so_q (qt_gtr rfl rfl) rfl ?_) | (refine so_is (.pick _ _ _) ?_; (refine so_q (qt_pkC rfl rfl) rfl ?_)) | (refine so_is (.binOp .add 9 _ _ _) ?_; (refine so_q (qt_addT rfl rfl (by ((simp at *; omega)))) rfl ?_)) | (refine so_is (.call ⟨.value (.func 69), _, _⟩) ?_; (apply so_call0 (fid := 69); (· (repeat (first | exact SeA.nil | apply SeA.cons (.c (.d _))))); (· exact strContains_p _ 35); (· rfl))) | (refine so_is (.call ⟨.value (.func 70), _, _⟩) ?_; (apply so_call0 (fid := 70); (· (repeat (first | exact SeA.nil | apply SeA.cons (.c (.d _))))); (· exact checksum_p _); (· rfl))) | (refine so_is (.call ⟨.value (.func 64), _, _⟩) ?_; (apply so_call0 (fid := 64); (· (repeat (first | exact SeA.nil | apply SeA.cons (.c (.d _))))); (· exact itoa_p _ (by omega)); (· rfl))) | refine so_nil ?_ | refine so_g_no rfl rfl rfl rfl ?_ | refine so_g_yes rfl rfl rfl rfl ?_ | refine so_g_if rfl rfl (fun hg => ?_) (fun hg => ?_) | refine sk_seq ?_ | refine sk_skip ?_ | refine sk_region ?_ | refine sk_true rfl ?_ | refine sk_if rfl (fun hc => ?_) (fun hc => ?_) | refine sk_cond rfl (fun hc => ?_) (fun hc => ?_))
        all_goals first | (exfalso; simp_all; done) | (exfalso; simp_all [sealT]; omega) | skip
        all_goals (apply sk_ret; apply ret_eq; (· apply RetOK.t; (· (apply GvA.cons; (· exact .tmp _); (· exact GvP.c (.lit _))); (apply GvA.cons; (· exact .tmp _); (· exact GvP.c (.lit _))); exact GvA.nil); (· rfl); (· (decide))))
        all_goals simp [acT, e, sealT]
      · have e : acOK s = false := by simp [acOK, hs]
        repeat' (first | (refine so_is (.assign _) ?_; (refine so_q (qt_asC rfl) rfl ?_)) | (refine so_is (.move _) ?_; (refine so_q (qt_mvC rfl) rfl ?_)) | (refine so_is (.call ⟨.builtin .len, _, #[9]⟩) ?_; (refine so_q (qt_lenT rfl (by kernel_rfl)) rfl ?_)) | (refine so_is (.binOp .gtr 3 _ _ _) ?_; refine so_q (qt_gtr rfl rfl) rfl ?_) | (refine so_is (.pick _ _ _) ?_; (refine so_q (qt_pkC rfl rfl) rfl ?_)) | (refine so_is (.binOp .add 9 _ _ _) ?_; (refine so_q (qt_addT rfl rfl (by ((simp at *; omega)))) rfl ?_)) | (refine so_is (.call ⟨.value (.func 69), _, _⟩) ?_; (apply so_call0 (fid := 69); (· (repeat (first | exact SeA.nil | apply SeA.cons (.c (.d _))))); (· exact strContains_p _ 35); (· rfl))) | (refine so_is (.call ⟨.value (.func 70), _, _⟩) ?_; (apply so_call0 (fid := 70); (· (repeat (first | exact SeA.nil | apply SeA.cons (.c (.d _))))); (· exact checksum_p _); (· rfl))) | (refine so_is (.call ⟨.value (.func 64), _, _⟩) ?_; (apply so_call0 (fid := 64); (· (repeat (first | exact SeA.nil | apply SeA.cons (.c (.d _))))); (· exact itoa_p _ (by omega)); (· rfl))) | refine so_nil ?_ | refine so_g_no rfl rfl rfl rfl ?_ | refine so_g_yes rfl rfl rfl rfl ?_ | refine so_g_if rfl rfl (fun hg => ?_) (fun hg => ?_) | refine sk_seq ?_ | refine sk_skip ?_ | refine sk_region ?_ | refine sk_true rfl ?_ | refine sk_if rfl (fun hc => ?_) (fun hc => ?_) | refine sk_cond rfl (fun hc => ?_) (fun hc => ?_))
        all_goals first | (exfalso; simp_all; done) | (exfalso; simp [sealT] at *; omega) | skip
        all_goals (apply sk_ret; apply ret_eq; (· apply RetOK.t; (· (apply GvA.cons; (· exact .tmp _); (· exact GvP.c (.lit _))); (apply GvA.cons; (· exact .tmp _); (· exact GvP.c (.lit _))); exact GvA.nil); (· rfl); (· (decide))))
        all_goals simp [acT, e, bsT_nil]
  · have e : acOK s = false := by simp [acOK, hk]
    repeat' (first | (refine so_is (.assign _) ?_; (refine so_q (qt_asC rfl) rfl ?_)) | (refine so_is (.move _) ?_; (refine so_q (qt_mvC rfl) rfl ?_)) | (refine so_is (.call ⟨.builtin .len, _, #[9]⟩) ?_; (refine so_q (qt_lenT rfl (by kernel_rfl)) rfl ?_)) | (refine so_is (.binOp .gtr 3 _ _ _) ?_; refine so_q (qt_gtr rfl rfl) rfl ?_) | (refine so_is (.pick _ _ _) ?_; (refine so_q (qt_pkC rfl rfl) rfl ?_)) | refine so_nil ?_ | refine so_g_no rfl rfl rfl rfl ?_ | refine so_g_yes rfl rfl rfl rfl ?_ | refine so_g_if rfl rfl (fun hg => ?_) (fun hg => ?_) | refine sk_seq ?_ | refine sk_region ?_ | refine sk_true rfl ?_)
    all_goals first | (exfalso; simp_all; done) | (exfalso; omega) | skip
    all_goals (apply sk_ret; apply ret_eq; (· apply RetOK.t; (· (apply GvA.cons; (· exact .tmp _); (· exact GvP.c (.lit _))); (apply GvA.cons; (· exact .tmp _); (· exact GvP.c (.lit _))); exact GvA.nil); (· rfl); (· (decide))))
    all_goals simp [acT, e, bsT_nil]

end Go.Proofs.YtdihapcicpkdkaaGreatDoor

namespace Go.Proofs.YtdihapcicpkdkaaGreatDoor
open Go.RowKit
set_option linter.unusedSectionVars false
variable [Glb]
variable [GTab Tryz.prog tabNm]
set_option maxRecDepth 10000
set_option maxHeartbeats 4000000
def vcOK (l : Tx) : Bool := acOK (bef 35 l) && decide (acT (bef 35 l) = l)
def vcT (l : Tx) : Tx := if vcOK l = true then bef 35 l else []
theorem VerifyChecksum_p (l : Tx) : PC Tryz.prog 53 [.c (dT l)] (.t [.c (dT (vcT l)), .c (dB (vcOK l))]) := by
  refine pc_intro Tryz.func53 rfl rfl rfl (by kernel_rfl) rfl rfl ?_; intro _
  repeat' (first | (refine so_is (.assign _) ?_; (refine so_q (qt_asC rfl) rfl ?_)) | (refine so_is (.move _) ?_; (first | refine so_q (qt_mvC rfl) rfl ?_ | refine so_q (qt_mvT rfl) rfl ?_)) | (refine so_is (.extract _ _) ?_; refine so_q (qt_extract rfl rfl) rfl ?_) | (refine so_is (.unOp .not 4 _) ?_; refine so_q (qt_not rfl) rfl ?_) | (refine so_is (.binOp .neq 9 _ _ _) ?_; (refine so_q (qt_neqT rfl rfl) rfl ?_)) | (refine so_is (.pick _ _ _) ?_; (refine so_q (qt_pkC rfl rfl) rfl ?_)) | (refine so_is (.call ⟨.value (.func 52), _, _⟩) ?_; (apply so_call0 (fid := 52); (· (repeat (first | exact SeA.nil | apply SeA.cons (.c (.d _))))); (· exact cut_p _ 35); (· rfl))) | (refine so_is (.call ⟨.value (.func 62), _, _⟩) ?_; (apply so_call0 (fid := 62); (· (repeat (first | exact SeA.nil | apply SeA.cons (.c (.d _))))); (· exact AppendChecksum_p _); (· rfl))) | refine so_nil ?_ | refine so_g_no rfl rfl rfl rfl ?_ | refine so_g_yes rfl rfl rfl rfl ?_ | refine so_g_b rfl rfl (fun hg => ?_) (fun hg => ?_) | refine sk_seq ?_ | refine sk_skip ?_ | refine sk_region ?_ | refine sk_true rfl ?_ | refine sk_if rfl (fun hc => ?_) (fun hc => ?_))
  all_goals (apply sk_ret; apply ret_eq; (· apply RetOK.t; (· (apply GvA.cons; (· exact .tmp _); (· exact GvP.c (.lit _))); (apply GvA.cons; (· exact .tmp _); (· exact GvP.c (.lit _))); exact GvA.nil); (· rfl); (· (decide))))
  all_goals simp_all [vcT, vcOK, bsT_nil]

end Go.Proofs.YtdihapcicpkdkaaGreatDoor

namespace Go.Proofs.YtdihapcicpkdkaaGreatDoor
open Go.RowKit
set_option linter.unusedSectionVars false
variable [Glb]
set_option maxRecDepth 10000
set_option maxHeartbeats 4000000
open Go.Shelf Go.Proofs
def Tryz.lays150_ren_strings_ContainsAny_laid : Go.Shelf.Ren := ⟨fun | 150 => 80 | 153 => 84 | 152 => 89 | 226 => 90 | 227 => 91 | 228 => 92 | 137 => 98 | 119 => 99 | 224 => 77 | 225 => 76 | 217 => 75 | 266 => 82 | n => n, fun | 9 => 9 | 4 => 4 | 3 => 3 | 5 => 5 | 21 => 21 | 117 => 121 | 116 => 120 | 0 => 0 | 46 => 105 | 124 => 129 | n => n, fun | n => n⟩
theorem Tryz.lays150_strings_ContainsAny_laid : Go.Proofs.Lays.n150 Tryz.prog Tryz.lays150_ren_strings_ContainsAny_laid := {
  mixed := by kernel_rfl
  f119 := Tryz.func99.trans (congrArg some (by kernel_rfl))
  f137 := Tryz.func98.trans (congrArg some (by kernel_rfl))
  f150 := Tryz.func80.trans (congrArg some (by kernel_rfl))
  f152 := Tryz.func89.trans (congrArg some (by kernel_rfl))
  f153 := Tryz.func84.trans (congrArg some (by kernel_rfl))
  f217 := Tryz.func75.trans (congrArg some (by kernel_rfl))
  f224 := Tryz.func77.trans (congrArg some (by kernel_rfl))
  f225 := Tryz.func76.trans (congrArg some (by kernel_rfl))
  f226 := Tryz.func90.trans (congrArg some (by kernel_rfl))
  f227 := Tryz.func91.trans (congrArg some (by kernel_rfl))
  f228 := Tryz.func92.trans (congrArg some (by kernel_rfl))
  f266 := Tryz.func82.trans (congrArg some (by kernel_rfl))
  t0 := Tryz.underlying0
  a0 := Tryz.isAgg0
  z0 := Tryz.sizeOf0
  v0 := Tryz.zeroValue0
  t3 := Tryz.underlying3
  a3 := Tryz.isAgg3
  z3 := Tryz.sizeOf3
  v3 := Tryz.zeroValue3
  t4 := Tryz.underlying4
  a4 := Tryz.isAgg4
  z4 := Tryz.sizeOf4
  v4 := Tryz.zeroValue4
  t5 := Tryz.underlying5
  a5 := Tryz.isAgg5
  z5 := Tryz.sizeOf5
  v5 := Tryz.zeroValue5
  t9 := Tryz.underlying9
  a9 := Tryz.isAgg9
  z9 := Tryz.sizeOf9
  v9 := Tryz.zeroValue9
  t21 := Tryz.underlying21
  a21 := Tryz.isAgg21
  z21 := Tryz.sizeOf21
  v21 := Tryz.zeroValue21
  t46 := Tryz.underlying105
  a46 := Tryz.isAgg105
  z46 := Tryz.sizeOf105
  v46 := Tryz.zeroValue105
  t116 := Tryz.underlying120
  a116 := Tryz.isAgg120
  z116 := Tryz.sizeOf120
  t117 := Tryz.underlying121
  a117 := Tryz.isAgg121
  z117 := Tryz.sizeOf121
  v117 := Tryz.zeroValue121
  t124 := Tryz.underlying129
  a124 := Tryz.isAgg129
  z124 := Tryz.sizeOf129
  v124 := Tryz.zeroValue129 }
open Go.RowKit Go.Lib in
theorem Tryz.strings_ContainsAny_laid (s chars : ByteArray) (w : World) (hs : s.size < 4294967281) (hcs : chars.size < 4294967281) (has : ∀ (j : Nat) b, s.data.toList[j]? = some b → b.toNat < 128) (hac : ∀ (j : Nat) b, chars.data.toList[j]? = some b → b.toNat < 128) :
    Calls Tryz.prog 80 #[.string s, .string chars] w fun e w' => e = .returned (.bool (Lib.containsAny s.data.toList chars.data.toList)) ∧ Below w.heap.size w w' := Any.strings_ContainsAny_laid Tryz.lays150_strings_ContainsAny_laid (by kernel_rfl) s chars w hs hcs has hac

end Go.Proofs.YtdihapcicpkdkaaGreatDoor

namespace Go.Proofs.YtdihapcicpkdkaaGreatDoor
open Go.RowKit
set_option linter.unusedSectionVars false
variable [Glb]
set_option maxRecDepth 10000
set_option maxHeartbeats 4000000
theorem ixA_has (o : Tx) : ∀ s : Tx, Go.Lib.containsAny s o = s.any fun b => o.contains b
  | [] => rfl
  | x :: r => by
    have ih := ixA_has o r
    unfold Go.Lib.containsAny at ih
    rw [List.any_cons, ← ih]
    show decide (0 ≤ (if o.contains x then 0 else if Go.Lib.indexAny r o == -1 then -1 else Go.Lib.indexAny r o + 1)) = _
    have := Go.Lib.indexAny_ge o r
    cases h : o.contains x with
    | true => simp
    | false =>
      rw [Bool.false_or]
      by_cases h3 : Go.Lib.indexAny r o = -1
      · simp [h3]
      · have h4 : (Go.Lib.indexAny r o == -1) = false := by simpa using h3
        rw [h4]
        simp only [Bool.false_eq_true, if_false]
        exact decide_eq_decide.2 ⟨fun _ => by omega, fun _ => by omega⟩
theorem containsAny_p (s o : Tx) (h1 : s.length ≤ 4000000) (h2 : o.length ≤ 100) (h3 : ∀ b ∈ s, b.toNat < 128) (h4 : ∀ b ∈ o, b.toNat < 128) : PC Tryz.prog 80 [.c (dT s), .c (dT o)] (.p (.c (dB (s.any fun b => o.contains b)))) :=
  pc_lit2 (Go.Proofs.enters_of Tryz.func80 (by kernel_rfl) rfl) rfl fun w _ => (Tryz.strings_ContainsAny_laid (bsT s) (bsT o) w (by rw [bsT_size]; omega) (by rw [bsT_size]; omega) (fun j b hb => h3 b (by rw [bsT_list] at hb; exact List.mem_of_getElem? hb)) (fun j b hb => h4 b (by rw [bsT_list] at hb; exact List.mem_of_getElem? hb))).mono (by
    rintro e w' ⟨rfl, hb⟩; rw [bsT_list, bsT_list, ixA_has]; exact ⟨rfl, hb⟩)

end Go.Proofs.YtdihapcicpkdkaaGreatDoor
