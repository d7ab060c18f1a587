/- What the functions that FnExactCrashLog reaches return: part of its proof. No condition beyond those of its theorems. -/
import Derived.Test.YtdnkmgbbkggmdaaDoorProg
import Derived.Test.YtdnkmgbbkggmdaaDoorKplainB
import Derived.Test.YtdnkmgbbkggmdaaDoorKplainC
import Derived.WalkKit
import Derived.Lib.LaidTab
import Derived.Lib.LaidIn
import Derived.Handed
import Derived.Test.YtdnkmgbbkggmdaaDoorKplainA
import Derived.Lib.ConvBytes
import Derived.Shelf.Strings.Search2
import Derived.Lib.Bytealg
import Derived.Test.YtdnkmgbbkggmdaaDoorRows
import Derived.Shelf.Strconv.Itoa3
import Derived.Shelf.Strings.Search3
import Derived.Shelf.Strings.IndexAnyAll
set_option linter.unusedVariables false
set_option linter.unusedSimpArgs false
--plain: PureMisc PureTake PureView PureAlt PurePack PureDag PureQ PureRen PureMany PureSlice Texts PureText Defs
namespace Go.Proofs.YtdnkmgbbkggmdaaDoor
open Go.RowKit
set_option linter.unusedSectionVars false
variable [Glb]

abbrev dI (n : Int) : D := .lit (.int .i64 n)
abbrev dB (b : Bool) : D := .lit (.bool b)
abbrev dS (s : ByteArray) : D := .lit (.string s)
abbrev iN (k : Nat) : FV := .c (.d (dI k))
abbrev iZ (k : Int) : FV := .c (.d (dI k))
/-- a list of numbers, of lists of numbers, of texts -/
abbrev cI (l : List Int) : List D := l.map dI
abbrev eI (l : List Int) : D := .sl 1 l.length (cI l)
abbrev cII (l : List (List Int)) : List D := l.map fun x => eI x
abbrev eII (l : List (List Int)) : D := .sl 1 l.length (cII l)
section
variable {P : Program} {st : St} {dst : Option Tmp} {ty : TypeId} {pos : String} {af : Array Edge} {T : TypeId} {x y : Operand} {k : IntKind} {i : Int}
theorem qt_idxI {l : List Int} (hx : st.ev x = .c (.d (eI l))) (hy : st.ev y = .c (.d (.lit (.int k i)))) (ht : tSl P T 1 = true) (h0 : 0 ≤ i) (h1 : i < l.length) : Qt P ⟨dst, .indexAddr T x y, ty, pos, af, none⟩ st (.c (.d (.pt [dI (atZ l i)]))) :=
  qt_idx hx hy ht h0 h1 (map_at (atZ_some h0 h1))
theorem qt_idxII {l : List (List Int)} (hx : st.ev x = .c (.d (eII l))) (hy : st.ev y = .c (.d (.lit (.int k i)))) (ht : tSl P T 1 = true) (h0 : 0 ≤ i) (h1 : i < l.length) : Qt P ⟨dst, .indexAddr T x y, ty, pos, af, none⟩ st (.c (.d (.pt [eI (atZ l i)]))) :=
  qt_idx hx hy ht h0 h1 (map_at (atZ_some h0 h1))
theorem qt_load_rowI {l : List Int} {b : Nat} {i : Int} (hx : st.ev x = .c (.lp b (0 + i.toNat * 1))) (hb : st.bl b = some (.row 1 (cI l))) (ht : tOne P T = true) (h0 : 0 ≤ i) (h1 : i < l.length) : Qt P ⟨dst, .load T x, ty, pos, af, none⟩ st (.c (.d (dI (atZ l i)))) :=
  qt_load_row hx hb ht (by rw [List.getElem?_map, Nat.zero_add, Nat.mul_one, atZ_some h0 h1]; rfl)
theorem qt_slice_dI11 {l : List Int} {x lo hi : Operand} {kl kh : IntKind} {i j : Int} (hx : st.ev x = .c (.d (eI l))) (hl : st.ev lo = .c (.d (.lit (.int kl i)))) (hh : st.ev hi = .c (.d (.lit (.int kh j)))) (ht : tSl P T 1 = true) (h0 : 0 ≤ i) (h1 : i ≤ j) (h2 : j ≤ l.length) :
    Qt P ⟨dst, .slice T x (some lo) (some hi) none, ty, pos, af, none⟩ st (.c (.d (eI (partZ l i j)))) :=
  qt_slice_d (vl := some (kl, i)) (vh := some (kh, j)) (i := i.toNat) (j := j.toNat) hx (ev_some hl) (ev_some hh) ht ⟨h0, rfl⟩ ⟨by omega, rfl⟩ (by omega) (by omega) (partZ_len h2).symm (by rw [partZ_len h2]; exact map_part l _ i j)
theorem qt_slice_dI10 {l : List Int} {x lo : Operand} {kl : IntKind} {i : Int} (hx : st.ev x = .c (.d (eI l))) (hl : st.ev lo = .c (.d (.lit (.int kl i)))) (ht : tSl P T 1 = true) (h0 : 0 ≤ i) (h1 : i ≤ l.length) :
    Qt P ⟨dst, .slice T x (some lo) none none, ty, pos, af, none⟩ st (.c (.d (eI (partZ l i l.length)))) :=
  qt_slice_d (vl := some (kl, i)) (vh := none) (i := i.toNat) (j := l.length) hx (ev_some hl) (fun _ _ _ _ _ => rfl) ht ⟨h0, rfl⟩ rfl (by omega) (by omega) (by rw [partZ_len (by omega)]; simp) (by rw [partZ_len (by omega)]; exact map_part l _ i l.length)
theorem qt_slice_dI01 {l : List Int} {x hi : Operand} {kh : IntKind} {j : Int} (hx : st.ev x = .c (.d (eI l))) (hh : st.ev hi = .c (.d (.lit (.int kh j)))) (ht : tSl P T 1 = true) (h0 : 0 ≤ j) (h2 : j ≤ l.length) :
    Qt P ⟨dst, .slice T x none (some hi) none, ty, pos, af, none⟩ st (.c (.d (eI (partZ l 0 j)))) :=
  qt_slice_d (vl := none) (vh := some (kh, j)) (i := 0) (j := j.toNat) hx (fun _ _ _ _ _ => rfl) (ev_some hh) ht rfl ⟨h0, rfl⟩ (by omega) (by omega) (by rw [partZ_len h2]; simp) (by rw [partZ_len h2]; simpa using map_part l _ 0 j)
theorem qt_slice_dII11 {l : List (List Int)} {x lo hi : Operand} {kl kh : IntKind} {i j : Int} (hx : st.ev x = .c (.d (eII l))) (hl : st.ev lo = .c (.d (.lit (.int kl i)))) (hh : st.ev hi = .c (.d (.lit (.int kh j)))) (ht : tSl P T 1 = true) (h0 : 0 ≤ i) (h1 : i ≤ j) (h2 : j ≤ l.length) :
    Qt P ⟨dst, .slice T x (some lo) (some hi) none, ty, pos, af, none⟩ st (.c (.d (eII (partZ l i j)))) :=
  qt_slice_d (vl := some (kl, i)) (vh := some (kh, j)) (i := i.toNat) (j := j.toNat) hx (ev_some hl) (ev_some hh) ht ⟨h0, rfl⟩ ⟨by omega, rfl⟩ (by omega) (by omega) (partZ_len h2).symm (by rw [partZ_len h2]; exact map_part l _ i j)
theorem qt_slice_dII10 {l : List (List Int)} {x lo : Operand} {kl : IntKind} {i : Int} (hx : st.ev x = .c (.d (eII l))) (hl : st.ev lo = .c (.d (.lit (.int kl i)))) (ht : tSl P T 1 = true) (h0 : 0 ≤ i) (h1 : i ≤ l.length) :
    Qt P ⟨dst, .slice T x (some lo) none none, ty, pos, af, none⟩ st (.c (.d (eII (partZ l i l.length)))) :=
  qt_slice_d (vl := some (kl, i)) (vh := none) (i := i.toNat) (j := l.length) hx (ev_some hl) (fun _ _ _ _ _ => rfl) ht ⟨h0, rfl⟩ rfl (by omega) (by omega) (by rw [partZ_len (by omega)]; simp) (by rw [partZ_len (by omega)]; exact map_part l _ i l.length)
theorem qt_slice_dII01 {l : List (List Int)} {x hi : Operand} {kh : IntKind} {j : Int} (hx : st.ev x = .c (.d (eII l))) (hh : st.ev hi = .c (.d (.lit (.int kh j)))) (ht : tSl P T 1 = true) (h0 : 0 ≤ j) (h2 : j ≤ l.length) :
    Qt P ⟨dst, .slice T x none (some hi) none, ty, pos, af, none⟩ st (.c (.d (eII (partZ l 0 j)))) :=
  qt_slice_d (vl := none) (vh := some (kh, j)) (i := 0) (j := j.toNat) hx (fun _ _ _ _ _ => rfl) (ev_some hh) ht rfl ⟨h0, rfl⟩ (by omega) (by omega) (by rw [partZ_len h2]; simp) (by rw [partZ_len h2]; simpa using map_part l _ 0 j)
end
end Go.Proofs.YtdnkmgbbkggmdaaDoor

namespace Go.Proofs.YtdnkmgbbkggmdaaDoor
open Go.RowKit
open Go Go.RowKit
/-! the library's tables, as a row lays them -/
def litV : DataW Unit → Value
  | .lit (.int k n) => .int k n
  | _ => .nilFunc
def cellsD : DataW Unit → Array Value
  | .agg ds => (ds.map litV).toArray
  | _ => #[]
def layAll (P : Program) : List (String × DataW Unit) → Array Obj → Array Obj
  | [], h => h
  | (n, d) :: r, h => layAll P r (match P.globalNamed n with
    | some g => h.modify g fun
      | .cells _ t f => .cells (cellsD d) t f
      | o => o
    | none => h)
theorem tab_in {P : Program} {W : World} {name : String} {k : IntKind} {zs : List Int} {g : Nat} {t e : TypeId} {n : Nat}
    (hg : P.globalNamed name = some g) (hty : (P.globals[g]?).map (·.type) = some t) (ht : P.underlying t = some (.array n e)) (he : P.underlying e = some (.int k)) (hce : P.cellsOf e = 1) (hct : P.cellsOf t = n) :
    ∀ (l : List (String × DataW Unit)) (ps : List MemPlace), DataW.LaidVars P W l ps → (name, Go.Lib.tabData k zs) ∈ l → Go.Lib.TabIs P W name k zs
  | [], _, _, h => by cases h
  | (n', d) :: r, ps, h, hm => by
    obtain ⟨g', t', cs, fuel, p, q, hg', ht', hvar, hd, hr, _⟩ := h
    rcases List.mem_cons.1 hm with e1 | hm
    · simp only [Prod.mk.injEq] at e1
      obtain ⟨rfl, rfl⟩ := e1
      obtain rfl := Option.some.inj (hg.symm.trans hg')
      obtain rfl := Option.some.inj (hty.symm.trans ht')
      unfold Go.Lib.TabIs
      rw [hvar, ← Go.Lib.cells_of_tab ht he hce hct hd]
    · exact tab_in hg hty ht he hce hct r q hr hm
theorem tab_keep {P : Program} {w w' : World} {name : String} {k : IntKind} {zs : List Int} {g : Nat} (hg : P.globalNamed name = some g) (h : Go.Lib.TabIs P w name k zs) (hk : w'.heap[g]? = w.heap[g]?) : Go.Lib.TabIs P w' name k zs := by
  unfold Go.Lib.TabIs World.var? at h ⊢
  rw [hg] at h ⊢
  simpa [hk] using h
theorem tab_lt {P : Program} {w : World} {name : String} {k : IntKind} {zs : List Int} {g : Nat} (hg : P.globalNamed name = some g) (h : Go.Lib.TabIs P w name k zs) : g < w.heap.size := by
  unfold Go.Lib.TabIs World.var? at h
  rw [hg] at h
  refine Classical.byContradiction fun hn => ?_
  rw [Option.bind_some, Array.getElem?_eq_none (by omega)] at h
  cases h

end Go.Proofs.YtdnkmgbbkggmdaaDoor

namespace Go.Proofs.YtdnkmgbbkggmdaaDoor
open Go.RowKit
set_option linter.unusedSectionVars false
variable [Glb]
open Go Go.RowKit
/-- the other byte -/
def flipY (b : UInt8) : UInt8 := UInt8.ofNat (255 - (b.toNat : Int)).toNat
/-- a text with one byte turned -/
def tornT (l : Tx) (j : Nat) : Tx := l.set j (flipY (l.getD j 0))
@[simp] theorem tornT_len (l : Tx) (j : Nat) : (tornT l j).length = l.length := by simp [tornT]
theorem tornT_append (d t : Tx) {j : Nat} : tornT (d ++ t) (d.length + j) = d ++ tornT t j := by
  unfold tornT
  rw [List.set_append_right _ _ (by omega), Nat.add_sub_cancel_left, List.getD_eq_getElem?_getD, List.getElem?_append_right (by omega), Nat.add_sub_cancel_left, ← List.getD_eq_getElem?_getD]
/-- what survives a crash -/
def crashB (d p : Tx) (n keep : Int) : Bool := validB d p n && inB keep 0 p.length
def keptT (p : Tx) (keep : Int) (torn : Bool) : Tx := if (torn && decide (0 < keep)) = true then tornT (partZ p 0 keep) (keep - 1).toNat else partZ p 0 keep
def crashT (d p : Tx) (n keep : Int) (torn : Bool) : Tx := if crashB d p n keep = true then d ++ keptT p keep torn else []
/-! a text turned into bytes of its own: a row that bears a mark behind its end -/
def bC (l : Tx) (z : Nat) : Array Value := (l.map fun b => Value.int .u8 (b.toNat : Int)).toArray ++ Array.replicate z (.int .u8 0)
def byO (l : Tx) (z : Nat) (e : TypeId) : Option Obj := some (.cells (bC l z) e (l.length + z, l.length + z + 1))
abbrev bvS (g n cap : Nat) : FV := .c (.d (.same (.slice (some ⟨g, 0, none⟩) n cap) .any))
theorem bC_at {l : Tx} {z j : Nat} (h : j < l.length) : (bC l z)[j]? = some (.int .u8 (l[j].toNat : Int)) := by
  unfold bC
  rw [Array.getElem?_append_left (by simpa using h)]
  simp [h]
theorem bC_size (l : Tx) (z : Nat) : (bC l z).size = l.length + z := by simp [bC]
theorem bC_set {l : Tx} {z j : Nat} (h : j < l.length) {n : Int} (h0 : 0 ≤ n) (h1 : n < 256) : (bC l z).setIfInBounds j (.int .u8 n) = bC (l.set j (UInt8.ofNat n.toNat)) z := by
  have e : ((UInt8.ofNat n.toNat).toNat : Int) = n := by rw [UInt8.toNat_ofNat']; omega
  apply Array.toList_inj.1
  unfold bC
  rw [Array.toList_setIfInBounds, Array.toList_append, Array.toList_append, List.set_append_left _ _ (by simpa using h)]
  simp only [List.map_set]
  rw [e]
section
variable {P : Program} {st : St} {ops : Array Oper} {mu : Nat → Bool} {r : OT} {K : St → Prop} {i : Nat} {dst : Option Tmp} {ty : TypeId} {pos : String} {af : Array Edge} {x y : Operand}
theorem FR.same_inv {w : World} {ρ : Nat → Option Nat} {Ψ : Nat → Prop} {u v : Value} {x : D} (h : FR w ρ Ψ v (.c (.d (.same u x)))) : v = u := by
  cases h with | c _ _ h => cases h with | d _ _ F h hF => cases h; rfl
theorem FR.sameI {w : World} {ρ : Nat → Option Nat} {Ψ : Nat → Prop} {v : Value} (h : v.oneCell' = true) : FR w ρ Ψ v (.c (.d (.same v .any))) := .c _ _ (.d _ _ [] (.same _ _ _ (.any _ h)) fun b hb => by cases hb)
theorem bv_inv {κ : Ctx} {ρ : Nat → Option Nat} {Φ : Nat → List Nat} {a : Act} {w : World} {v : Value} {z : D} (hx : st.ev x = .c (.d (.same v z))) (hm : Sm κ ρ Φ st a w) : a.eval x = v := by
  have := hm.ev x
  rw [hx] at this
  exact this.same_inv
theorem so_convTB {S T : TypeId} {d : Nat} {l : Tx} (hx : st.ev x = .c (.d (dT l))) (ht : tByt P T S = true) (hd : Nat.blt d st.n = true)
    (h : ∀ g cap z e, SO P ops mu r ((st.new [(d, .held [g] (fun _ => byO l z e))]).put d (bvS g l.length cap)) K) :
    SO P ops mu (.cons (some ⟨some d, .convert S T x, ty, pos, af, none⟩, i, false) r) st K := by
  obtain ⟨E, hT, hE, hS⟩ := tByt_spec ht
  refine so_a fun w0 a w hs next Q hnx => ?_
  obtain ⟨ρ, Φ, hm⟩ := hs
  have hv : a.eval x = .string (bsT l) := FR.lit_inv (by rw [← hx]; exact hm.ev x)
  have hd' : d < st.n := by simpa using hd
  have hrun := Go.Lib.run_convert_string_bytes (P := P) w S T E (bsT l) hS hT hE
  have hcells : Go.Lib.bytesCells w E (bsT l) = bC l (grownCap w (bsT l).size 0 E - (bsT l).size) := by
    unfold Go.Lib.bytesCells bC
    congr 1
    apply Array.toList_inj.1
    simp [bsT]
  have hnew := Go.Lib.bytesWorld_at_new w E (bsT l)
  rw [hcells, bC_size] at hnew
  have hb : Below w.heap.size w (Go.Lib.bytesWorld w E (bsT l)) := ⟨rfl, rfl, rfl, by rw [Go.Lib.bytesWorld_size]; omega, fun k hk => Go.Lib.bytesWorld_at_old w E _ k hk⟩
  have hin : ∀ b, inL [(d, Blk.held [w.heap.size] fun _ => byO l (grownCap w (bsT l).size 0 E - (bsT l).size) E)] b = true → b = d := fun b hb => by
    simp [inL] at hb; exact hb.symm
  have hnb := hm.nb
  obtain ⟨ρ', Φ', hm', _, _, _⟩ := hm.new (w' := Go.Lib.bytesWorld w E (bsT l)) [] [(d, Blk.held [w.heap.size] fun _ => byO l (grownCap w (bsT l).size 0 E - (bsT l).size) E)] (fun _ => none) (fun _ => [w.heap.size]) (.of_below hb hm.below.size)
    (fun g _ hg => hb.block g hg) (.of_below hb) (fun _ _ => by simp) (fun b b' g h1 h2 _ _ => (hin b h1).trans (hin b' h2).symm) (fun b _ g hg => .inr (by simp at hg; omega)) (fun b hb => by rw [hin b hb]; omega)
    (fun ρ' Φ' _ _ _ b x hx => by
      have : b = d ∧ x = Blk.held [w.heap.size] fun _ => byO l (grownCap w (bsT l).size 0 E - (bsT l).size) E := by
        simp only [getL] at hx
        by_cases hbd : d = b
        · rw [if_pos hbd] at hx; cases hx; exact ⟨hbd.symm, rfl⟩
        · rw [if_neg hbd] at hx; cases hx
      obtain ⟨rfl, rfl⟩ := this
      exact .held _ _ (fun g hg => by simp at hg; subst hg; exact hnew) (fun g hg => by simp at hg; subst hg; rw [Go.Lib.bytesWorld_size]; omega))
  have hsz : (bsT l).size = l.length := bsT_size l
  refine at_value (w' := Go.Lib.bytesWorld w E (bsT l)) (v := .slice (some ⟨w.heap.size, 0, none⟩) l.length (grownCap w (bsT l).size 0 E)) (by rw [← hsz]; simp [execOp, hv, hrun]) (hnx _ _ (fun _ => .of hb) ⟨_, ⟨ρ', Φ', hm'.put (.sameI rfl) d (by simpa [St.new, St.kill, St.drop] using hd')⟩, h _ _ _ _⟩)
theorem qt_len_bv {T : TypeId} {g n cap : Nat} (hx : st.ev x = bvS g n cap) (ht : tIsSl P T = true) :
    Qt P ⟨dst, .call { callee := .builtin .len, args := #[x], argTypes := #[T] }, ty, pos, af, none⟩ st (.c (.d (.lit (.int .i64 n)))) := fun w0 ρ Φ a w hm => by
  obtain ⟨E, hu⟩ := tIsSl_spec ht
  have hv : a.eval x = .slice (some ⟨g, 0, none⟩) n cap := bv_inv hx hm
  exact ⟨.int .i64 n, fun w' _ => by simp [execOp, resolve, invoke, hv, builtin, Builtin.len_, underlying, hu, goInt], .litI rfl⟩
theorem qt_idx_bv {T : TypeId} {g n cap : Nat} {k : IntKind} {j : Int} (hx : st.ev x = bvS g n cap) (hy : st.ev y = .c (.d (.lit (.int k j)))) (ht : tSl P T 1 = true) (h0 : 0 ≤ j) (h1 : j < n) :
    Qt P ⟨dst, .indexAddr T x y, ty, pos, af, none⟩ st (.c (.d (.same (.pointer (some ⟨g, j.toNat, none⟩)) .any))) := fun w0 ρ Φ a w hm => by
  have hv : a.eval x = .slice (some ⟨g, 0, none⟩) n cap := bv_inv hx hm
  have hi : a.eval y = .int k j := FR.lit_inv (by rw [← hy]; exact hm.ev y)
  refine ⟨.pointer (some ⟨g, j.toNat, none⟩), fun w' _ => ?_, .sameI rfl⟩
  have := run_idx (P := P) ht (a := ⟨g, 0, none⟩) (n := n) (cap := cap) (k := k) h0 h1 w'
  rw [adr_mk, Nat.zero_add, Nat.mul_one] at this
  simp [execOp, hv, hi, this]
theorem qt_load_bv {T : TypeId} {b g j z : Nat} {l : Tx} {e : TypeId} (hx : st.ev x = .c (.d (.same (.pointer (some ⟨g, j, none⟩)) .any))) (hb : st.bl b = some (.held [g] (fun _ => byO l z e))) (hj : j < l.length) (ht : tOne P T = true) :
    Qt P ⟨dst, .load T x, ty, pos, af, none⟩ st (.c (.d (.lit (.int .u8 ((l.getD j 0).toNat : Int))))) := fun w0 ρ Φ a w hm => by
  have hv : a.eval x = .pointer (some ⟨g, j, none⟩) := bv_inv hx hm
  obtain ⟨hΦ, hg⟩ := hm.heldN hb
  have hg := hg g (List.mem_singleton.2 rfl)
  refine ⟨.int .u8 ((l.getD j 0).toNat : Int), fun w' hs0 => have hs : CellS w w' := hs0.resolve_left (by simp [memfree]); ?_, .litI rfl⟩
  have h1 : w.cell? ⟨g, j, none⟩ = some (.int .u8 ((l.getD j 0).toNat : Int)) := by
    rw [cell_of_row w g j _ e _ hg, bC_at hj, List.getD_eq_getElem?_getD, List.getElem?_eq_getElem hj]; rfl
  simp [execOp, hv, run_load1 (P := P) ht (cellS_some hs h1)]
theorem so_store_bvn {T : TypeId} {p : Operand} {b g j z : Nat} {l : Tx} {e : TypeId} {n : Int} (hp : st.ev p = .c (.d (.same (.pointer (some ⟨g, j, none⟩)) .any))) (hb : st.bl b = some (.held [g] (fun _ => byO l z e))) (hv : st.ev x = .c (.d (.lit (.int .u8 n)))) (h0 : 0 ≤ n) (h1 : n < 256) (hj : j < l.length)
    (ht : tSize P T 1 = true) (hmu : mu i = true) (h : SO P ops mu r (st.setB b (some (.held [g] (fun _ => byO (l.set j (UInt8.ofNat n.toNat)) z e)))) K) :
    SO P ops mu (.cons (some ⟨none, .store T p x, ty, pos, af, none⟩, i, false) r) st K := by
  refine so_m hmu fun w0 a w hs next Q hn => ?_
  obtain ⟨ρ, Φ, hm⟩ := hs
  have hpv : a.eval p = .pointer (some ⟨g, j, none⟩) := bv_inv hp hm
  have hxv : a.eval x = .int .u8 n := FR.lit_inv (by rw [← hv]; exact hm.ev x)
  obtain ⟨hΦ, hg⟩ := hm.heldN hb
  have hg := hg g (List.mem_singleton.2 rfl)
  have hgΦ : g ∈ Φ b := by rw [hΦ]; exact List.mem_singleton.2 rfl
  have hρ : ρ b = none := by
    have := hm.bl b _ hb
    generalize ρ b = q at this ⊢
    generalize Φ b = F at this
    cases this; rfl
  have hlow : w0.lo g := hm.low b g hgΦ
  have hsz : j < (bC l z).size := by rw [bC_size]; omega
  have hcell : w.cell? ⟨g, j, none⟩ = some (bC l z)[j] := by rw [cell_of_row w g j _ e _ hg]; simp [hsz]
  have hfro : w.frozen? ⟨g, j, none⟩ = false := by
    unfold World.frozen?
    simp only [hg, byO]
    simp; omega
  have hst : (store (⟨g, j, none⟩ : Addr) (.int .u8 n)).run P w = .ok () (w.setRow g ((bC l z).setIfInBounds j (.int .u8 n))) := by
    rw [run_store P w _ (.int .u8 n) _ rfl, hcell]
    simp [hfro, setCell_eq_setRow w g j (bC l z) e (l.length + z, l.length + z + 1) (.int .u8 n) hg]
  have hrun : (Instr.storeAt T (.pointer (some ⟨g, j, none⟩)) (.int .u8 n)).run P w = .ok () (w.setRow g (bC (l.set j (UInt8.ofNat n.toNat)) z)) := by
    obtain ⟨q, hq, hs⟩ := tSize_spec ht
    rw [← bC_set hj h0 h1]
    have e0 : ((⟨g, j, none⟩ : Addr).add 0) = ⟨g, j, none⟩ := rfl
    simp [Instr.storeAt, Instr.sureAddr, storeVar, sizeOf, typeInfo, hq, hs, cells_one' (show (Value.int .u8 n).oneCell' = true from rfl), storeCells, e0, hst]
  have hshp : Shp w (w.setRow g (bC (l.set j (UInt8.ofNat n.toNat)) z)) := fun g' cs E hg' => by
    by_cases hgg : g' = g
    · subst hgg; rw [hg] at hg'; simp [byO] at hg'
    · exact ⟨cs, by rw [setRow_other w g g' _ hgg]; exact hg', rfl⟩
  obtain ⟨Φ', hm'⟩ := hm.upd (w' := w.setRow g (bC (l.set j (UInt8.ofNat n.toNat)) z)) b [] (.held [g] (fun _ => byO (l.set j (UInt8.ofNat n.toNat)) z e)) [g] g hgΦ (by simp)
    (setRow_below hlow hshp) (fun k hk => setRow_other w g k _ hk) hshp (by simp) (fun g2 hg2 => .inl (by simp at hg2; subst hg2; exact hgΦ)) (fun Φ' _ => by
      rw [hρ]
      refine .held _ _ (fun g2 hg2 => ?_) fun g2 hg2 => ?_
      · simp at hg2; subst hg2
        rw [setRow_heap w g2 _ _ e _ hg, byO, List.length_set]
      · simp at hg2; subst hg2
        have := setRow_heap w g2 (bC l z) (bC (l.set j (UInt8.ofNat n.toNat)) z) e _ hg
        exact (Array.getElem?_eq_some_iff.1 this).1)
  exact at_skip (by simp [execOp, hpv, hxv, hrun]) (hn _ _ (fun h => by cases h) ⟨_, ⟨ρ, Φ', hm'⟩, h⟩)
theorem so_store_bv {T : TypeId} {p : Operand} {b g j z : Nat} {l : Tx} {e : TypeId} (hp : st.ev p = .c (.d (.same (.pointer (some ⟨g, j, none⟩)) .any))) (hb : st.bl b = some (.held [g] (fun _ => byO l z e))) (hv : st.ev x = .c (.d (.lit (.int .u8 (255 - ((l.getD j 0).toNat : Int)))))) (hj : j < l.length)
    (ht : tSize P T 1 = true) (hmu : mu i = true) (h : SO P ops mu r (st.setB b (some (.held [g] (fun _ => byO (tornT l j) z e)))) K) :
    SO P ops mu (.cons (some ⟨none, .store T p x, ty, pos, af, none⟩, i, false) r) st K :=
  have := UInt8.toNat_lt (l.getD j 0)
  so_store_bvn hp hb hv (by omega) (by omega) hj ht hmu h
theorem qt_subY {T T' : TypeId} {b : UInt8} (hx : st.ev x = .c (.d (.lit (.int .u8 255)))) (hy : st.ev y = .c (.d (.lit (.int .u8 (b.toNat : Int))))) :
    Qt P ⟨dst, .binOp .sub T x y T', ty, pos, af, none⟩ st (.c (.d (.lit (.int .u8 (255 - (b.toNat : Int)))))) := by
  have h := qt_sub (P := P) (dst := dst) (ty := ty) (pos := pos) (af := af) (T := T) (T' := T') hx hy
  have hb := UInt8.toNat_lt b
  have e : IntKind.u8.wrap (255 - (b.toNat : Int)) = 255 - (b.toNat : Int) := wrapU8 (by omega)
  rwa [e] at h
theorem so_convBV {S T : TypeId} {b d g cap z n : Nat} {l : Tx} {e : TypeId} (hx : st.ev x = bvS g n cap) (hb : st.bl b = some (.held [g] (fun _ => byO l z e))) (hn : n = l.length) (hle : l.length ≤ 9223372036854775807) (ht : tByt P S T = true) (hd : Nat.blt d st.n = true) (h : SO P ops mu r (st.put d (.c (.d (dT l)))) K) :
    SO P ops mu (.cons (some ⟨some d, .convert S T x, ty, pos, af, none⟩, i, false) r) st K := by
  obtain ⟨E, hS, hE, hT⟩ := tByt_spec ht
  subst hn
  refine so_a fun w0 a w hs next Q hnx => ?_
  obtain ⟨ρ, Φ, hm⟩ := hs
  have hv : a.eval x = .slice (some ⟨g, 0, none⟩) l.length cap := bv_inv hx hm
  obtain ⟨hΦ, hg⟩ := hm.heldN hb
  have hg := hg g (List.mem_singleton.2 rfl)
  have hcell : ∀ j (hj : j < l.length), w.cell? ((⟨g, 0, none⟩ : Addr).add j) = some (.int .u8 (l[j].toNat : Int)) := fun j hj => by
    rw [adr_mk, Nat.zero_add, cell_of_row w g j _ e _ hg, bC_at hj]
  have hrun := Go.run_convert_bytes_back (P := P) w S T E ⟨g, 0, none⟩ cap l hS hE hT hcell
  have hsc : sc (.string (bsT l)) = true := by simp only [sc, bsT_size, decide_eq_true_eq]; exact hle
  exact at_value (w' := w) (v := .string (bsT l)) (by simp [execOp, hv, hrun]; rfl) (hnx _ _ (fun _ => CellS.refl _) ⟨_, ⟨ρ, Φ, hm.put (.litI hsc) d (by simpa using hd)⟩, h⟩)
end

end Go.Proofs.YtdnkmgbbkggmdaaDoor

namespace Go.Proofs.YtdnkmgbbkggmdaaDoor
open Go.RowKit
theorem szR_ok : ∀ (ll : List (List Int)) (left : Int), (cnt ll : Int) ≤ left → szR ll left = left - cnt ll
  | [], left, _ => by simp [szR, cnt]
  | l :: r, left, h => by
    simp only [cnt] at h ⊢
    have e : szI l.length left = left - l.length := by unfold szI; rw [if_neg (by omega)]
    unfold szR
    rw [e, if_neg (by omega), szR_ok r _ (by omega)]; omega
theorem szR_no : ∀ (ll : List (List Int)) (left : Int), left < (cnt ll : Int) → 0 ≤ left → szR ll left = -1
  | [], left, h, h0 => by simp [cnt] at h; omega
  | l :: r, left, h, h0 => by
    simp only [cnt] at h
    unfold szR
    by_cases hl : left - l.length < 0
    · have e : szI l.length left = -1 := by unfold szI; rw [if_pos hl]
      rw [e, if_pos (by omega)]
    · have e : szI l.length left = left - l.length := by unfold szI; rw [if_neg hl]
      rw [e, if_neg (by omega), szR_no r _ (by omega) (by omega)]
theorem szL_ok {ll : List (List Int)} {left : Int} (h : (ll.length : Int) + cnt ll ≤ left) : szL ll.length ll left = left - ll.length - cnt ll := by
  unfold szL; rw [if_neg (by omega), szR_ok _ _ (by omega)]
theorem szL_no {ll : List (List Int)} {left : Int} (h : left < (ll.length : Int) + cnt ll) (h0 : 0 ≤ left) : szL ll.length ll left = -1 := by
  unfold szL
  split
  · rfl
  · exact szR_no _ _ (by omega) (by omega)
theorem cnt_mem : ∀ {ll : List (List Int)} {l : List Int}, l ∈ ll → l.length ≤ cnt ll
  | l' :: r, l, h => by
    simp only [cnt]
    rcases List.mem_cons.1 h with rfl | h
    · omega
    · have := cnt_mem h; omega

end Go.Proofs.YtdnkmgbbkggmdaaDoor

namespace Go.Proofs.YtdnkmgbbkggmdaaDoor
open Go.RowKit
set_option linter.unusedSectionVars false
variable [Glb]
set_option maxRecDepth 10000
set_option maxHeartbeats 4000000
theorem toLog_p (du : Tx) (pe : Tx) (lc : Int) : PC Tryd.prog 21 [.g [dT du, dT pe, dI lc]] (.p (.g [dT du, dT pe, dI lc])) := by
  refine pc_intro Tryd.func21 rfl rfl rfl (by kernel_rfl) rfl rfl ?_; intro _
  repeat' (first | (refine so_is (.box 36 _) ?_; refine so_box rfl rfl ?_) | (refine so_is (.alloc 31) ?_; refine so_alloc (zs := [.string ByteArray.empty, .string ByteArray.empty, .int .i64 0]) (by kernel_rfl) rfl ?_) | (refine so_is (.fieldAddr 36 _ 0) ?_; (refine so_q (qt_fld_lp (off := 0) rfl (by kernel_rfl)) rfl ?_)) | (refine so_is (.load 9 _) ?_; (refine so_q (qt_load_box rfl rfl (by kernel_rfl) rfl) rfl ?_)) | (refine so_is (.fieldAddr 31 _ 0) ?_; (refine so_q (qt_fld_lp (off := 0) rfl (by kernel_rfl)) rfl ?_)) | (refine so_is (.store 9 _ _) ?_; (refine so_store_box1 rfl rfl rfl rfl (by kernel_rfl) rfl rfl ?_)) | (refine so_is (.fieldAddr 36 _ 1) ?_; (refine so_q (qt_fld_lp (off := 1) rfl (by kernel_rfl)) rfl ?_)) | (refine so_is (.fieldAddr 31 _ 1) ?_; (refine so_q (qt_fld_lp (off := 1) rfl (by kernel_rfl)) rfl ?_)) | (refine so_is (.fieldAddr 36 _ 2) ?_; (refine so_q (qt_fld_lp (off := 2) rfl (by kernel_rfl)) rfl ?_)) | (refine so_is (.load 3 _) ?_; (refine so_q (qt_load_box rfl rfl (by kernel_rfl) rfl) rfl ?_)) | (refine so_is (.fieldAddr 31 _ 2) ?_; (refine so_q (qt_fld_lp (off := 2) rfl (by kernel_rfl)) rfl ?_)) | (refine so_is (.store 3 _ _) ?_; (refine so_store_box1 rfl rfl rfl rfl (by kernel_rfl) rfl rfl ?_)) | (refine so_is (.load 31 _) ?_; (refine so_q (qt_load_boxs rfl rfl (by kernel_rfl : tAgg _ 31 3 = true) rfl) rfl ?_)) | (refine so_is (.store 31 _ _) ?_; (refine so_store_box rfl rfl rfl (by kernel_rfl) rfl rfl ?_)) | refine so_nil ?_ | refine sk_seq ?_ | refine sk_region (id := 0) ?_ | refine sk_region (id := 1) ?_ | refine sk_region (id := 2) ?_ | refine sk_region (id := 3) ?_ | (apply sk_pack 4 [1, 2, 3] [1, 2, 3] rfl; (· (repeat (first | exact Pf.nil | apply Pf.cons (.c rfl (.lp rfl))))); (· (repeat (first | exact Pb.nil | (apply Pb.cons; (· apply Nb.box rfl; (repeat (first | exact Ncs.nil rfl | (apply Ncs.cons rfl; (· (exact .d rfl)))))))))); refine sk_region (id := 4) ?_) | refine sk_region (id := 5) ?_)
  · (apply sk_ret; apply ret_eq; (· apply RetOK.p; (· (apply GvA.cons; (· (apply RV.cellN (n := 3); (· rfl); (· rfl); (· kernel_rfl); (· rfl))); (· (apply GvP.g; (· (apply GvL.cons (.lit _)); (apply GvL.cons (.lit _)); (apply GvL.cons (.lit _)); exact GvL.nil)))); exact GvA.nil); (· (decide))))
    rfl

end Go.Proofs.YtdnkmgbbkggmdaaDoor

namespace Go.Proofs.YtdnkmgbbkggmdaaDoor
open Go.RowKit
set_option linter.unusedSectionVars false
variable [Glb]
set_option maxRecDepth 10000
set_option maxHeartbeats 4000000
theorem szLog_ok (du : Tx) (pe : Tx) (lc : Int) (left : Int) (h : du.length + pe.length ≤ left) (h1 : left ≤ 1048576) : PC Tryd.prog 19 [.g [dT du, dT pe, dI lc], .c (dI left)] (.p (.c (dI (left - du.length - pe.length)))) := by
  refine pc_intro Tryd.func19 rfl rfl rfl (by kernel_rfl) rfl rfl ?_; rintro ⟨hf, -⟩
  have hf0 := FitT (hf (dT du) (by simp))
  have hf1 := FitT (hf (dT pe) (by simp))
  clear hf
  repeat' (first | (refine so_is (.box 36 _) ?_; refine so_box rfl rfl ?_) | (refine so_is (.assign _) ?_; (refine so_q (qt_asC rfl) rfl ?_)) | (refine so_is (.move _) ?_; (refine so_q (qt_mvC rfl) rfl ?_)) | (refine so_is (.fieldAddr 36 _ 0) ?_; (refine so_q (qt_fld_lp (off := 0) rfl (by kernel_rfl)) rfl ?_)) | (refine so_is (.load 9 _) ?_; (refine so_q (qt_load_box rfl rfl (by kernel_rfl) rfl) rfl ?_)) | (refine so_is (.call ⟨.builtin .len, _, #[9]⟩) ?_; (refine so_q (qt_lenT rfl (by kernel_rfl)) rfl ?_)) | (refine so_is (.binOp .sub 3 _ _ _) ?_; refine so_q (qt_subI rfl rfl (by (omega))) rfl ?_) | (refine so_is (.binOp .lss 3 _ _ _) ?_; refine so_q (qt_lss rfl rfl) rfl ?_) | (refine so_is (.fieldAddr 36 _ 1) ?_; (refine so_q (qt_fld_lp (off := 1) rfl (by kernel_rfl)) rfl ?_)) | refine so_nil ?_ | refine sk_seq ?_ | refine sk_skip ?_ | refine sk_region ?_ | refine sk_if rfl (fun hc => ?_) (fun hc => ?_))
  all_goals first | (exfalso; omega) | skip
  · (apply sk_ret; apply ret_eq; (· apply RetOK.p; (· (apply GvA.cons; (· exact .tmp _); (· exact GvP.c (.lit _))); exact GvA.nil); (· (decide))))
    rfl
theorem szLog_no (du : Tx) (pe : Tx) (lc : Int) (left : Int) (h : left < du.length + pe.length) (h0 : 0 ≤ left) (h1 : left ≤ 1048576) : PC Tryd.prog 19 [.g [dT du, dT pe, dI lc], .c (dI left)] (.p (.c (dI (-1)))) := by
  by_cases c0 : left < du.length
  · refine pc_intro Tryd.func19 rfl rfl rfl (by kernel_rfl) rfl rfl ?_; rintro ⟨hf, -⟩
    have hf0 := FitT (hf (dT du) (by simp))
    have hf1 := FitT (hf (dT pe) (by simp))
    clear hf
    repeat' (first | (refine so_is (.box 36 _) ?_; refine so_box rfl rfl ?_) | (refine so_is (.assign _) ?_; (refine so_q (qt_asC rfl) rfl ?_)) | (refine so_is (.move _) ?_; (refine so_q (qt_mvC rfl) rfl ?_)) | (refine so_is (.fieldAddr 36 _ 0) ?_; (refine so_q (qt_fld_lp (off := 0) rfl (by kernel_rfl)) rfl ?_)) | (refine so_is (.load 9 _) ?_; (refine so_q (qt_load_box rfl rfl (by kernel_rfl) rfl) rfl ?_)) | (refine so_is (.call ⟨.builtin .len, _, #[9]⟩) ?_; (refine so_q (qt_lenT rfl (by kernel_rfl)) rfl ?_)) | (refine so_is (.binOp .sub 3 _ _ _) ?_; refine so_q (qt_subI rfl rfl (by (omega))) rfl ?_) | (refine so_is (.binOp .lss 3 _ _ _) ?_; refine so_q (qt_lss rfl rfl) rfl ?_) | (refine so_is (.fieldAddr 36 _ 1) ?_; (refine so_q (qt_fld_lp (off := 1) rfl (by kernel_rfl)) rfl ?_)) | refine so_nil ?_ | refine sk_seq ?_ | refine sk_skip ?_ | refine sk_region ?_ | refine sk_if rfl (fun hc => ?_) (fun hc => ?_))
    all_goals first | (exfalso; omega) | skip
    all_goals (apply sk_ret; apply ret_eq; (· apply RetOK.p; (· (apply GvA.cons; (· exact .tmp _); (· exact GvP.c (.lit _))); exact GvA.nil); (· (decide))))
    all_goals rfl
  · refine pc_intro Tryd.func19 rfl rfl rfl (by kernel_rfl) rfl rfl ?_; rintro ⟨hf, -⟩
    have hf0 := FitT (hf (dT du) (by simp))
    have hf1 := FitT (hf (dT pe) (by simp))
    clear hf
    repeat' (first | (refine so_is (.box 36 _) ?_; refine so_box rfl rfl ?_) | (refine so_is (.assign _) ?_; (refine so_q (qt_asC rfl) rfl ?_)) | (refine so_is (.move _) ?_; (refine so_q (qt_mvC rfl) rfl ?_)) | (refine so_is (.fieldAddr 36 _ 0) ?_; (refine so_q (qt_fld_lp (off := 0) rfl (by kernel_rfl)) rfl ?_)) | (refine so_is (.load 9 _) ?_; (refine so_q (qt_load_box rfl rfl (by kernel_rfl) rfl) rfl ?_)) | (refine so_is (.call ⟨.builtin .len, _, #[9]⟩) ?_; (refine so_q (qt_lenT rfl (by kernel_rfl)) rfl ?_)) | (refine so_is (.binOp .sub 3 _ _ _) ?_; refine so_q (qt_subI rfl rfl (by (omega))) rfl ?_) | (refine so_is (.binOp .lss 3 _ _ _) ?_; refine so_q (qt_lss rfl rfl) rfl ?_) | (refine so_is (.fieldAddr 36 _ 1) ?_; (refine so_q (qt_fld_lp (off := 1) rfl (by kernel_rfl)) rfl ?_)) | refine so_nil ?_ | refine sk_seq ?_ | refine sk_skip ?_ | refine sk_region ?_ | refine sk_if rfl (fun hc => ?_) (fun hc => ?_))
    all_goals first | (exfalso; omega) | skip
    all_goals (apply sk_ret; apply ret_eq; (· apply RetOK.p; (· (apply GvA.cons; (· exact .tmp _); (· exact GvP.c (.lit _))); exact GvA.nil); (· (decide))))
    all_goals rfl

end Go.Proofs.YtdnkmgbbkggmdaaDoor

namespace Go.Proofs.YtdnkmgbbkggmdaaDoor
open Go.RowKit
set_option linter.unusedSectionVars false
variable [Glb]
set_option maxRecDepth 10000
set_option maxHeartbeats 4000000
theorem part_nil (s : Tx) (i : Int) : partZ s i i = [] := by simp [partZ]
theorem part_last {s : Tx} {f : Nat} (h : f ≤ s.length) : partZ s f s.length = s.drop f := by
  unfold partZ
  rw [List.take_of_length_le (by simp)]
  simp
theorem part_snoc {s : Tx} {f i : Nat} (h : f ≤ i) (h2 : i < s.length) : partZ s f (i + 1) = partZ s f i ++ [s[i]] := by
  unfold partZ
  have e1 : ((i : Int) + 1).toNat - (f : Int).toNat = (i - f) + 1 := by omega
  have e2 : (i : Int).toNat - (f : Int).toNat = i - f := by omega
  rw [e1, e2]
  have h3 : i - f < (s.drop (f : Int).toNat).length := by simp; omega
  rw [List.take_succ_eq_append_getElem h3]
  congr 2
  rw [List.getElem_drop]
  congr 1
  omega
theorem l1Split_p (s : Tx) (b : UInt8) (hs : s.length ≤ 4000000) : PC Tryd.prog 73 [.c (dT s), .c (.lit (.int .u8 b.toNat))] (.p (.c (eT (splitT b s)))) := by
  refine pc_intro Tryd.func73 rfl rfl rfl (by kernel_rfl) rfl rfl ?_; intro _
  repeat' (first | (refine so_is (.assign _) ?_; (refine so_q (qt_asC rfl) rfl ?_)) | (refine so_is (.buildSlice 92 0 _) ?_; (apply so_bslice (sz := 1) (by_ := 16); (· kernel_rfl); (· decide); (· (repeat (exact GvS.nil _))); (· (decide)); (· rfl); (· rfl); (· rfl))) | refine so_nil ?_ | refine sk_seq ?_ | refine sk_block ?_ | refine sk_region ?_)
  apply sk_packC [0, 1, 5, 6, 7] [8, 25, 26, 33, 34] rfl; (· (repeat (first | exact Pf.nil | apply Pf.cons (.c rfl (.d rfl)) | apply Pf.cons (.c rfl (.ls rfl))))); (· (repeat (first | exact Pb.nil | apply Pb.cons (.row rfl) | apply Pb.skip)))
  refine sk_loopL [0, 1] [25, 26, 33, 34] (fun (g : List Tx × Nat × Nat) => [(5, .c (.ls 8 1 0 g.1.length)), (6, iN g.2.1), (7, iN g.2.2)]) (fun g => [(8, .row 1 (g.1.map dT))]) (fun g => g.1.length ≤ g.2.2 ∧ g.2.1 ≤ g.2.2 ∧ g.2.2 ≤ s.length ∧ g.1 ++ preT (partZ s g.2.1 g.2.2) (splitT b (s.drop g.2.2)) = splitT b s) (fun g => s.length - g.2.2) (([], 0, 0)) ?_ (by (repeat (first | exact trivial | refine ⟨(by (rfl)), ?_⟩))) (by (repeat (first | exact trivial | refine ⟨(by ((refine row_eq rfl ?_; simp; done))), ?_⟩))) ?_
  · simp [partZ, preT_nil (splitT_ne b s)]
  rintro ⟨out, f, i⟩ ⟨h0, h1, h2, h3⟩
  simp only at h0 h1 h2 h3 ⊢
  by_cases h : i < s.length
  · repeat' (first | (refine so_is (.assign _) ?_; (refine so_q (qt_asC rfl) rfl ?_)) | (refine so_is (.move _) ?_; (refine so_q (qt_mvC rfl) rfl ?_)) | (refine so_is (.call ⟨.builtin .len, _, #[9]⟩) ?_; (refine so_q (qt_lenT rfl (by kernel_rfl)) rfl ?_)) | (refine so_is (.binOp .lss 3 _ _ _) ?_; refine so_q (qt_lss rfl rfl) rfl ?_) | (refine so_is (.index 9 _ _) ?_; (refine so_q (qt_indexT rfl rfl (by kernel_rfl) (by (omega)) (by (omega))) rfl ?_)) | (refine so_is (.binOp .eql 5 _ _ _) ?_; refine so_q (qt_eql rfl rfl) rfl ?_) | (refine so_is (.slice 9 _ (some _) (some _) none) ?_; (refine so_q (qt_sliceT11 rfl rfl rfl (by kernel_rfl) (by (omega)) (by (omega)) (by (omega))) rfl ?_)) | (refine so_is (.buildSlice 92 1 _) ?_; (apply so_bslice (sz := 1) (by_ := 16); (· kernel_rfl); (· decide); (· (repeat (first | exact GvS.nil _ | apply GvS.c rfl rfl (.lit _) rfl))); (· (decide)); (· rfl); (· rfl); (· rfl))) | (refine so_is (.call ⟨.builtin .append, _, #[92, 92]⟩) ?_; ((apply so_appR (sz := 1) (by_ := 16); (· rfl); (· rfl); (· ((simp; done))); (· exact .row _ _ _ _ rfl (by ((simp; done)))); (· (decide)); (· kernel_rfl); (· decide); (· (omega)); (· (omega)); (· rfl); (· rfl); (· rfl)))) | (refine so_is (.binOp .add 3 _ _ _) ?_; refine so_q (qt_addI rfl rfl (by (omega))) rfl ?_) | (refine so_is (.slice 9 _ (some _) none none) ?_; (refine so_q (qt_sliceT10 rfl rfl (by kernel_rfl) (by (omega)) (by (omega))) rfl ?_)) | refine so_nil ?_ | refine sk_seq ?_ | refine sk_block ?_ | refine sk_blk ?_ | refine sk_exit rfl ?_ | refine sk_skip ?_ | refine sk_region ?_ | refine sk_if rfl (fun hc => ?_) (fun hc => ?_))
    all_goals first | (exfalso; omega) | skip
    · have e : s[i] = b := UInt8.toNat_inj.1 (by have := byt_nat h; omega)
      refine sk_back ?_; refine ⟨(out ++ [partZ s f i], i + 1, i + 1), ?_, ?_, le_at rfl (by (repeat (first | exact trivial | refine ⟨(by (first | rfl | (refine ls_eq rfl ?_; ((simp; done))))), ?_⟩))) (by (repeat (first | exact trivial | refine ⟨rfl, ?_⟩))) (by (repeat (first | exact trivial | refine ⟨(by ((refine row_eq rfl ?_; simp; done))), ?_⟩))) (by (repeat (first | exact trivial | refine ⟨.inr rfl, ?_⟩)))⟩
      · rw [split_hit h e, ← List.append_assoc] at h3
        refine ⟨by simp; omega, Nat.le_refl _, by simp only; omega, ?_⟩
        simp only [part_nil]
        exact h3
      · simp only; omega
    · have e : s[i] ≠ b := fun e => by have := byt_nat h; rw [e] at this; contradiction
      refine sk_back ?_; refine ⟨(out, f, i + 1), ?_, ?_, le_at rfl (by (repeat (first | exact trivial | refine ⟨(by (rfl)), ?_⟩))) (by (repeat (first | exact trivial | refine ⟨rfl, ?_⟩))) (by (repeat (first | exact trivial | refine ⟨(by ((refine row_eq rfl ?_; simp; done))), ?_⟩))) (by (repeat (first | exact trivial | refine ⟨.inr rfl, ?_⟩)))⟩
      · rw [split_no h e, ← part_snoc h1 h] at h3
        refine ⟨by simp only; omega, by simp only; omega, by simp only; omega, ?_⟩
        simpa using h3
      · simp only; omega
  · have hi : i = s.length := by omega
    subst hi
    rw [List.drop_length, show splitT b [] = [[]] from rfl, show ∀ p : Tx, preT p [[]] = [p ++ []] from fun _ => rfl, List.append_nil] at h3
    repeat' (first | (refine so_is (.assign _) ?_; (refine so_q (qt_asC rfl) rfl ?_)) | (refine so_is (.move _) ?_; (refine so_q (qt_mvC rfl) rfl ?_)) | (refine so_is (.call ⟨.builtin .len, _, #[9]⟩) ?_; (refine so_q (qt_lenT rfl (by kernel_rfl)) rfl ?_)) | (refine so_is (.binOp .lss 3 _ _ _) ?_; refine so_q (qt_lss rfl rfl) rfl ?_) | (refine so_is (.index 9 _ _) ?_; (refine so_q (qt_indexT rfl rfl (by kernel_rfl) (by (omega)) (by (omega))) rfl ?_)) | (refine so_is (.binOp .eql 5 _ _ _) ?_; refine so_q (qt_eql rfl rfl) rfl ?_) | (refine so_is (.slice 9 _ (some _) (some _) none) ?_; (refine so_q (qt_sliceT11 rfl rfl rfl (by kernel_rfl) (by (omega)) (by (omega)) (by (omega))) rfl ?_)) | (refine so_is (.buildSlice 92 1 _) ?_; (apply so_bslice (sz := 1) (by_ := 16); (· kernel_rfl); (· decide); (· (repeat (first | exact GvS.nil _ | apply GvS.c rfl rfl (.lit _) rfl))); (· (decide)); (· rfl); (· rfl); (· rfl))) | (refine so_is (.call ⟨.builtin .append, _, #[92, 92]⟩) ?_; ((apply so_appR (sz := 1) (by_ := 16); (· rfl); (· rfl); (· ((simp; done))); (· exact .row _ _ _ _ rfl (by ((simp; done)))); (· (decide)); (· kernel_rfl); (· decide); (· (omega)); (· (omega)); (· rfl); (· rfl); (· rfl)))) | (refine so_is (.binOp .add 3 _ _ _) ?_; refine so_q (qt_addI rfl rfl (by (omega))) rfl ?_) | (refine so_is (.slice 9 _ (some _) none none) ?_; (refine so_q (qt_sliceT10 rfl rfl (by kernel_rfl) (by (omega)) (by (omega))) rfl ?_)) | refine so_nil ?_ | refine sk_seq ?_ | refine sk_block ?_ | refine sk_blk ?_ | refine sk_exit rfl ?_ | refine sk_skip ?_ | refine sk_region ?_ | refine sk_if rfl (fun hc => ?_) (fun hc => ?_))
    all_goals first | (exfalso; omega) | skip
    all_goals (apply sk_ret; apply ret_eq; (· apply RetOK.p; (· (apply GvA.cons; (· exact .tmp _); (· (exact GvP.c (.row _ _ _ _ rfl (by ((simp; done))))))); exact GvA.nil); (· (decide))))
    all_goals rw [← h3]
    all_goals simp

end Go.Proofs.YtdnkmgbbkggmdaaDoor

namespace Go.Proofs.YtdnkmgbbkggmdaaDoor
open Go.RowKit
set_option linter.unusedSectionVars false
variable [Glb]
set_option maxRecDepth 10000
set_option maxHeartbeats 4000000
theorem l1Sum_p (s : Tx) : PC Tryd.prog 81 [.c (dT s)] (.p (.c (dI (sumN s)))) := by
  refine pc_intro Tryd.func81 rfl rfl rfl (by kernel_rfl) rfl rfl ?_; rintro ⟨hl, -⟩
  have hl := FitT hl
  repeat' (first | (refine so_is (.assign _) ?_; (refine so_q (qt_asC rfl) rfl ?_)) | refine so_nil ?_ | refine sk_seq ?_ | refine sk_block ?_ | refine sk_region ?_)
  apply sk_packC [0, 3, 4] [] rfl; (· (repeat (first | exact Pf.nil | apply Pf.cons (.c rfl (.d rfl))))); (· (repeat (exact Pb.nil)))
  refine sk_loopL [0] [] (fun k => [(3, iN (sumN (s.take k))), (4, iN k)]) (fun _ => []) (fun k => k ≤ s.length) (fun k => s.length - k) (0) ?_ (by (repeat (first | exact trivial | refine ⟨(by (rfl)), ?_⟩))) (by (repeat (exact trivial))) ?_
  · simp
  rintro k hk
  have h0 := sumN_lt (s.take k)
  have hb := byt_lt s k
  by_cases h : k < s.length
  · have e : ((41 * (sumN (s.take k) : Int) + byt s k + 1) % 999979) = (sumN (s.take (k + 1)) : Int) := by rw [sumN_take h, byt_nat h]; omega
    repeat' (first | (refine so_is (.assign _) ?_; (refine so_q (qt_asC rfl) rfl ?_)) | (refine so_is (.move _) ?_; (refine so_q (qt_mvC rfl) rfl ?_)) | (refine so_is (.call ⟨.builtin .len, _, #[9]⟩) ?_; (refine so_q (qt_lenT rfl (by kernel_rfl)) rfl ?_)) | (refine so_is (.binOp .lss 3 _ _ _) ?_; refine so_q (qt_lss rfl rfl) rfl ?_) | (refine so_is (.binOp .mul 3 _ _ _) ?_; refine so_q (qt_mulI rfl rfl (by (omega))) rfl ?_) | (refine so_is (.index 9 _ _) ?_; (refine so_q (qt_indexT rfl rfl (by kernel_rfl) (by (omega)) (by (omega))) rfl ?_)) | (refine so_is (.convert 5 3 _) ?_; (refine so_q (qt_convI (k' := .i64) rfl (by kernel_rfl) (by kernel_rfl) (by (exact IntWalk.i64_in _ (by (omega))))) rfl ?_)) | (refine so_is (.binOp .add 3 _ _ _) ?_; refine so_q (qt_addI rfl rfl (by (omega))) rfl ?_) | (refine so_is (.binOp .rem 3 _ _ _) ?_; (refine so_q (qt_remN rfl rfl (by (omega)) (by (omega)) (by (omega))) rfl ?_)) | refine so_nil ?_ | refine sk_seq ?_ | refine sk_block ?_ | refine sk_blk ?_ | refine sk_exit rfl ?_ | refine sk_skip ?_ | refine sk_region ?_ | refine sk_if rfl (fun hc => ?_) (fun hc => ?_))
    all_goals first | (exfalso; omega) | skip
    refine sk_back ?_; refine ⟨k + 1, ?_, ?_, le_at rfl (by (repeat (first | exact trivial | refine ⟨(by (first | rfl | (refine int_eq rfl ?_; (omega)))), ?_⟩))) (by (repeat (first | exact trivial | refine ⟨rfl, ?_⟩))) (by (repeat (exact trivial))) (by (repeat (exact trivial)))⟩
    · omega
    · omega
  · repeat' (first | (refine so_is (.assign _) ?_; (refine so_q (qt_asC rfl) rfl ?_)) | (refine so_is (.move _) ?_; (refine so_q (qt_mvC rfl) rfl ?_)) | (refine so_is (.call ⟨.builtin .len, _, #[9]⟩) ?_; (refine so_q (qt_lenT rfl (by kernel_rfl)) rfl ?_)) | (refine so_is (.binOp .lss 3 _ _ _) ?_; refine so_q (qt_lss rfl rfl) rfl ?_) | (refine so_is (.binOp .mul 3 _ _ _) ?_; refine so_q (qt_mulI rfl rfl (by (omega))) rfl ?_) | (refine so_is (.index 9 _ _) ?_; (refine so_q (qt_indexT rfl rfl (by kernel_rfl) (by (omega)) (by (omega))) rfl ?_)) | (refine so_is (.convert 5 3 _) ?_; (refine so_q (qt_convI (k' := .i64) rfl (by kernel_rfl) (by kernel_rfl) (by (exact IntWalk.i64_in _ (by (omega))))) rfl ?_)) | (refine so_is (.binOp .add 3 _ _ _) ?_; refine so_q (qt_addI rfl rfl (by (omega))) rfl ?_) | (refine so_is (.binOp .rem 3 _ _ _) ?_; (refine so_q (qt_remN rfl rfl (by (omega)) (by (omega)) (by (omega))) rfl ?_)) | refine so_nil ?_ | refine sk_seq ?_ | refine sk_block ?_ | refine sk_blk ?_ | refine sk_exit rfl ?_ | refine sk_skip ?_ | refine sk_region ?_ | refine sk_if rfl (fun hc => ?_) (fun hc => ?_))
    all_goals first | (exfalso; omega) | skip
    have : k = s.length := by omega
    subst this
    (apply sk_ret; apply ret_eq; (· apply RetOK.p; (· (apply GvA.cons; (· exact .tmp _); (· exact GvP.c (.lit _))); exact GvA.nil); (· (decide))))
    simp

end Go.Proofs.YtdnkmgbbkggmdaaDoor

namespace Go.Proofs.YtdnkmgbbkggmdaaDoor
open Go.RowKit
set_option linter.unusedSectionVars false
variable [Glb]
set_option maxRecDepth 10000
set_option maxHeartbeats 4000000
theorem l1Num_p : ∀ n : Nat, n ≤ 9223372036854775807 → PC Tryd.prog 69 [.c (dI n)] (.p (.c (dT (numT n)))) := by
  intro n
  induction n using Nat.strongRecOn with
  | ind n ih =>
    intro hn
    refine pc_intro Tryd.func69 rfl rfl rfl (by kernel_rfl) rfl rfl ?_; intro _
    by_cases h : n < 10
    · repeat' (first | (refine so_is (.assign _) ?_; (refine so_q (qt_asC rfl) rfl ?_)) | (refine so_is (.move _) ?_; (refine so_q (qt_mvC rfl) rfl ?_)) | (refine so_is (.binOp .lss 3 _ _ _) ?_; refine so_q (qt_lss rfl rfl) rfl ?_) | (refine so_is (.binOp .add 3 _ _ _) ?_; refine so_q (qt_addI rfl rfl (by (omega))) rfl ?_) | (refine so_is (.slice 9 _ (some _) (some _) none) ?_; (refine so_q (qt_sliceT11 rfl rfl rfl (by kernel_rfl) (by (omega)) (by (omega)) (by (first | omega | (simp at *; omega)))) rfl ?_)) | (refine so_is (.binOp .quo 3 _ _ _) ?_; (refine so_q (qt_quoN rfl rfl (by (omega)) (by (omega)) (by (omega))) rfl ?_)) | (refine so_is (.binOp .rem 3 _ _ _) ?_; (refine so_q (qt_remN rfl rfl (by (omega)) (by (omega)) (by (omega))) rfl ?_)) | refine so_nil ?_ | refine sk_seq ?_ | refine sk_skip ?_ | refine sk_region ?_ | refine sk_drawQ 5 (fun _ => false) (.step 0 true (.step 1 true (.step 3 true (.step 4 true (.step 5 true (.step 6 true (.step 7 true (.step 8 true (.step 2 false (.step 9 true (.step 10 true .nil))))))))))) [(0, 2047, 2047, true), (1, 2046, 2047, true), (2, 2045, 2047, false), (0, 2047, 2047, true), (8, 2039, 2047, true), (0, 2047, 2047, true), (32, 2015, 2047, true), (64, 1983, 2047, true), (144, 1903, 2047, true), (260, 1787, 2047, true), (1023, 1535, 2047, true)] (by kernel_rfl) (by kernel_rfl) ?_ | refine sk_false rfl ?_ | refine sk_if rfl (fun hc => ?_) (fun hc => ?_))
      all_goals first | (exfalso; omega) | skip
      have e := numT_rec n
      rw [if_pos h, ← dig_at h] at e
      (apply sk_ret; apply ret_eq; (· apply RetOK.p; (· (apply GvA.cons; (· exact .tmp _); (· exact GvP.c (.lit _))); exact GvA.nil); (· (decide))))
      rw [e]; simp [partZ, digT]
    · have hlen : (numT (n / 10)).length ≤ 19 := (numT_len 18 _ (by omega)).2
      have ih2 := ih (n / 10) (by omega) (by omega)
      rw [show ((n / 10 : Nat) : Int) = (n : Int) / 10 by omega] at ih2
      clear ih
      repeat' (first | (refine so_is (.assign _) ?_; (refine so_q (qt_asC rfl) rfl ?_)) | (refine so_is (.move _) ?_; (refine so_q (qt_mvC rfl) rfl ?_)) | (refine so_is (.binOp .lss 3 _ _ _) ?_; refine so_q (qt_lss rfl rfl) rfl ?_) | (refine so_is (.binOp .add 9 _ _ _) ?_; (refine so_q (qt_addT rfl rfl (addP (by ((simp; omega))))) rfl ?_)) | (refine so_is (.binOp .add 3 _ _ _) ?_; refine so_q (qt_addI rfl rfl (by (omega))) rfl ?_) | (refine so_is (.slice 9 _ (some _) (some _) none) ?_; (refine so_q (qt_sliceT11 rfl rfl rfl (by kernel_rfl) (by (omega)) (by (omega)) (by (first | omega | (simp at *; omega)))) rfl ?_)) | (refine so_is (.binOp .quo 3 _ _ _) ?_; (refine so_q (qt_quoN rfl rfl (by (omega)) (by (omega)) (by (omega))) rfl ?_)) | (refine so_is (.binOp .rem 3 _ _ _) ?_; (refine so_q (qt_remN rfl rfl (by (omega)) (by (omega)) (by (omega))) rfl ?_)) | (refine so_is (.call ⟨.value (.func 69), _, _⟩) ?_; (apply so_call0 (fid := 69); (· (repeat (first | exact SeA.nil | apply SeA.cons (.c (.d _))))); (· exact ih2); (· rfl))) | refine so_nil ?_ | refine sk_seq ?_ | refine sk_skip ?_ | refine sk_region ?_ | refine sk_drawQ 5 (fun _ => false) (.step 0 true (.step 1 true (.step 3 true (.step 4 true (.step 5 true (.step 6 true (.step 7 true (.step 8 true (.step 2 false (.step 9 true (.step 10 true .nil))))))))))) [(0, 2047, 2047, true), (1, 2046, 2047, true), (2, 2045, 2047, false), (0, 2047, 2047, true), (8, 2039, 2047, true), (0, 2047, 2047, true), (32, 2015, 2047, true), (64, 1983, 2047, true), (144, 1903, 2047, true), (260, 1787, 2047, true), (1023, 1535, 2047, true)] (by kernel_rfl) (by kernel_rfl) ?_ | refine sk_false rfl ?_ | refine sk_if rfl (fun hc => ?_) (fun hc => ?_))
      all_goals first | (exfalso; omega) | skip
      have e := numT_rec n
      rw [if_neg h, ← dig_at (n := n % 10) (by omega)] at e
      have h2 : ((n : Int) % 10).toNat = n % 10 := by omega
      have h3 : ((n : Int) % 10 + 1).toNat = n % 10 + 1 := by omega
      all_goals (apply sk_ret; apply ret_eq; (· apply RetOK.p; (· (apply GvA.cons; (· exact .tmp _); (· exact GvP.c (.lit _))); exact GvA.nil); (· (decide))))
      rw [e]; simp [partZ, digT, h2, h3]

end Go.Proofs.YtdnkmgbbkggmdaaDoor

namespace Go.Proofs.YtdnkmgbbkggmdaaDoor
open Go.RowKit
set_option linter.unusedSectionVars false
variable [Glb]
set_option maxRecDepth 10000
set_option maxHeartbeats 4000000
theorem l1Seal_p (s : Tx) (h : s.length ≤ 4000000) : PC Tryd.prog 68 [.c (dT s)] (.p (.c (dT (sealT s)))) := by
  have h0 := sumN_lt s
  have h1 := (numS s).2
  refine pc_intro Tryd.func68 rfl rfl rfl (by kernel_rfl) rfl rfl ?_; intro _
  repeat' (first | (refine so_is (.assign _) ?_; (refine so_q (qt_asC rfl) rfl ?_)) | (refine so_is (.move _) ?_; (refine so_q (qt_mvC rfl) rfl ?_)) | (refine so_is (.binOp .add 9 _ _ _) ?_; (refine so_q (qt_addT rfl rfl (by ((simp at *; omega)))) rfl ?_)) | (refine so_is (.call ⟨.value (.func 81), _, _⟩) ?_; (apply so_call0 (fid := 81); (· (repeat (first | exact SeA.nil | apply SeA.cons (.c (.d _))))); (· exact l1Sum_p _); (· rfl))) | (refine so_is (.call ⟨.value (.func 69), _, _⟩) ?_; (apply so_call0 (fid := 69); (· (repeat (first | exact SeA.nil | apply SeA.cons (.c (.d _))))); (· exact l1Num_p _ (by omega)); (· rfl))) | refine so_nil ?_ | refine sk_seq ?_ | refine sk_region ?_)
  (apply sk_ret; apply ret_eq; (· apply RetOK.p; (· (apply GvA.cons; (· exact .tmp _); (· exact GvP.c (.lit _))); exact GvA.nil); (· (decide))))
  simp [sealT]

end Go.Proofs.YtdnkmgbbkggmdaaDoor

namespace Go.Proofs.YtdnkmgbbkggmdaaDoor
open Go.RowKit
set_option linter.unusedSectionVars false
variable [Glb]
set_option maxRecDepth 10000
set_option maxHeartbeats 4000000
theorem l12Line_p (k : Nat) (c r : Tx) (hk : k < 60) (h1 : c.length ≤ 1000000) (h2 : r.length ≤ 1000000) : PC Tryd.prog 47 [.c (dI k), .g [dT c, dT r]] (.p (.c (dT (lineT k c r ++ [10])))) := by
  have h3 := (num60 hk).2
  have h4 := seal_len (textT k c r)
  have h5 : (textT k c r).length ≤ 2000004 := by simp [textT]; omega
  have h6 : (sealT (numT k ++ [32] ++ c ++ [64] ++ r)).length ≤ 2000011 := by
    have : sealT (numT k ++ [32] ++ c ++ [64] ++ r) = sealT (textT k c r) := rfl
    rw [this]; omega
  refine pc_intro Tryd.func47 rfl rfl rfl (by kernel_rfl) rfl rfl ?_; intro _
  repeat' (first | (refine so_is (.box 27 _) ?_; refine so_box rfl rfl ?_) | (refine so_is (.assign _) ?_; (refine so_q (qt_asC rfl) rfl ?_)) | (refine so_is (.move _) ?_; (refine so_q (qt_mvC rfl) rfl ?_)) | (refine so_is (.binOp .add 9 _ _ _) ?_; (refine so_q (qt_addT rfl rfl (by ((simp at *; omega)))) rfl ?_)) | (refine so_is (.fieldAddr 27 _ 0) ?_; (refine so_q (qt_fld_lp (off := 0) rfl (by kernel_rfl)) rfl ?_)) | (refine so_is (.load 9 _) ?_; (refine so_q (qt_load_box rfl rfl (by kernel_rfl) rfl) rfl ?_)) | (refine so_is (.fieldAddr 27 _ 1) ?_; (refine so_q (qt_fld_lp (off := 1) rfl (by kernel_rfl)) rfl ?_)) | (refine so_is (.call ⟨.value (.func 69), _, _⟩) ?_; (apply so_call0 (fid := 69); (· (repeat (first | exact SeA.nil | apply SeA.cons (.c (.d _))))); (· exact l1Num_p _ (by omega)); (· rfl))) | (refine so_is (.call ⟨.value (.func 68), _, _⟩) ?_; (apply so_call0 (fid := 68); (· (repeat (first | exact SeA.nil | apply SeA.cons (.c (.d _))))); (· exact l1Seal_p _ (by simp; omega)); (· rfl))) | refine so_nil ?_ | refine sk_seq ?_ | refine sk_region ?_ | refine sk_drawQ 1 (fun _ => false) (.step 0 true (.step 3 true (.step 4 true (.step 7 true (.step 8 true (.step 1 false (.step 2 true (.step 5 true (.step 6 true (.step 9 true (.step 10 false (.step 11 true (.step 12 true .nil))))))))))))) [(0, 8191, 8191, true), (1, 8190, 8191, false), (2, 8189, 8191, true), (0, 8191, 8191, true), (8, 8183, 8191, false), (20, 8171, 8191, true), (32, 8159, 8191, true), (0, 8191, 8191, true), (128, 8063, 8191, false), (320, 7871, 8191, true), (514, 7679, 8191, false), (1024, 7167, 8191, true), (4095, 6143, 8191, true)] (by kernel_rfl) (by kernel_rfl) ?_)
  (apply sk_ret; apply ret_eq; (· apply RetOK.p; (· (apply GvA.cons; (· exact .tmp _); (· exact GvP.c (.lit _))); exact GvA.nil); (· (decide))))
  simp [lineT, textT]

end Go.Proofs.YtdnkmgbbkggmdaaDoor

namespace Go.Proofs.YtdnkmgbbkggmdaaDoor
open Go.RowKit
set_option linter.unusedSectionVars false
variable [Glb]
set_option maxRecDepth 10000
set_option maxHeartbeats 4000000
theorem l1In_p (n lo hi : Int) : PC Tryd.prog 45 [.c (dI n), .c (dI lo), .c (dI hi)] (.p (.c (dB (inB n lo hi)))) := by
  refine pc_intro Tryd.func45 rfl rfl rfl (by kernel_rfl) rfl rfl ?_; intro _
  repeat' (first | (refine so_is (.assign _) ?_; (refine so_q (qt_asC rfl) rfl ?_)) | (refine so_is (.move _) ?_; (refine so_q (qt_mvC rfl) rfl ?_)) | (refine so_is (.binOp .geq 3 _ _ _) ?_; refine so_q (qt_geq rfl rfl) rfl ?_) | (refine so_is (.binOp .leq 3 _ _ _) ?_; refine so_q (qt_leq rfl rfl) rfl ?_) | (refine so_is (.pick _ _ _) ?_; (refine so_q (qt_pkC rfl rfl) rfl ?_)) | refine so_nil ?_ | refine so_g_no rfl rfl rfl rfl ?_ | refine so_g_yes rfl rfl rfl rfl ?_ | refine so_g_if rfl rfl (fun hg => ?_) (fun hg => ?_) | refine sk_seq ?_ | refine sk_region ?_)
  all_goals ((apply sk_ret; apply ret_eq; (· apply RetOK.p; (· (apply GvA.cons; (· exact .tmp _); (· exact GvP.c (.lit _))); exact GvA.nil); (· (decide)))))
  all_goals (simp [dB, inB, *]; try omega)

end Go.Proofs.YtdnkmgbbkggmdaaDoor

namespace Go.Proofs.YtdnkmgbbkggmdaaDoor
open Go.RowKit
set_option linter.unusedSectionVars false
variable [Glb]
set_option maxRecDepth 10000
set_option maxHeartbeats 4000000
theorem bytB_f {s : Tx} {most : Int} {k : Nat} (h : k < s.length) (e : inB (byt s k) 32 126 = false ∨ byt s k = 35) : bytB s most = false := by
  have : (s.all fun b => plB b && b != 35) = false := by
    refine all_f h ?_
    rw [byt_nat h] at e
    rcases e with e | e
    · rw [inB_iffF] at e
      simp [plB]; omega
    · have : s[k] = 35 := UInt8.toNat_inj.1 (by show s[k].toNat = 35; omega)
      simp [this]
  unfold bytB; rw [this]; rfl
theorem bytB_go {s : Tx} {k : Nat} (h : k < s.length) (e : inB (byt s k) 32 126 = true) (e2 : byt s k ≠ 35) (ht : ((s.take k).all fun b => plB b && b != 35) = true) : ((s.take (k + 1)).all fun b => plB b && b != 35) = true := by
  rw [take_succ_all _ _ _ h, ht, Bool.true_and]
  rw [byt_nat h] at e e2
  rw [inB_iff] at e
  simp [plB]
  refine ⟨by omega, fun h => e2 ?_⟩
  rw [h]; rfl
theorem l12Bytes_p (s : Tx) (most : Int) : PC Tryd.prog 66 [.c (dT s), .c (dI most)] (.p (.c (dB (bytB s most)))) := by
  refine pc_intro Tryd.func66 rfl rfl rfl (by kernel_rfl) rfl rfl ?_; rintro ⟨hl, -⟩
  have hl := FitT hl
  repeat' (first | (refine so_is (.assign _) ?_; (refine so_q (qt_asC rfl) rfl ?_)) | refine so_nil ?_ | refine sk_seq ?_ | refine sk_block ?_ | refine sk_region ?_)
  apply sk_packC [0, 1, 5] [] rfl; (· (repeat (first | exact Pf.nil | apply Pf.cons (.c rfl (.d rfl))))); (· (repeat (exact Pb.nil)))
  refine sk_loopL [0, 1] [] (fun k => [(5, iN k)]) (fun _ => []) (fun k => k ≤ s.length ∧ ((s.take k).all fun b => plB b && b != 35) = true) (fun k => s.length - k) (0) ?_ (by (repeat (first | exact trivial | refine ⟨(by (rfl)), ?_⟩))) (by (repeat (exact trivial))) ?_
  · simp
  rintro k ⟨hk, ht⟩
  have hb := byt_lt s k
  by_cases h : k < s.length
  · repeat' (first | (refine so_is (.assign _) ?_; (refine so_q (qt_asC rfl) rfl ?_)) | (refine so_is (.move _) ?_; (refine so_q (qt_mvC rfl) rfl ?_)) | (refine so_is (.call ⟨.builtin .len, _, #[9]⟩) ?_; (refine so_q (qt_lenT rfl (by kernel_rfl)) rfl ?_)) | (refine so_is (.binOp .lss 3 _ _ _) ?_; refine so_q (qt_lss rfl rfl) rfl ?_) | (refine so_is (.index 9 _ _) ?_; (refine so_q (qt_indexT rfl rfl (by kernel_rfl) (by (omega)) (by (omega))) rfl ?_)) | (refine so_is (.convert 5 3 _) ?_; (refine so_q (qt_convI (k' := .i64) rfl (by kernel_rfl) (by kernel_rfl) (by (exact IntWalk.i64_in _ (by (omega))))) rfl ?_)) | (refine so_is (.unOp .not 4 _) ?_; refine so_q (qt_not rfl) rfl ?_) | (refine so_is (.binOp .eql 5 _ _ _) ?_; refine so_q (qt_eql rfl rfl) rfl ?_) | (refine so_is (.pick _ _ _) ?_; (refine so_q (qt_pkC rfl rfl) rfl ?_)) | (refine so_is (.binOp .add 3 _ _ _) ?_; refine so_q (qt_addI rfl rfl (by (omega))) rfl ?_) | (refine so_is (.binOp .leq 3 _ _ _) ?_; refine so_q (qt_leq rfl rfl) rfl ?_) | (refine so_is (.call ⟨.value (.func 45), _, _⟩) ?_; (apply so_call0 (fid := 45); (· (repeat (first | exact SeA.nil | apply SeA.cons (.c (.d _))))); (· exact l1In_p _ _ _); (· rfl))) | refine so_nil ?_ | refine so_g_no rfl rfl rfl rfl ?_ | refine so_g_yes rfl rfl rfl rfl ?_ | refine so_g_b rfl rfl (fun hg => ?_) (fun hg => ?_) | refine sk_seq ?_ | refine sk_block ?_ | refine sk_blk ?_ | refine sk_exit rfl ?_ | refine sk_skip ?_ | refine sk_region ?_ | refine sk_true rfl ?_ | refine sk_if rfl (fun hc => ?_) (fun hc => ?_))
    all_goals first | (exfalso; omega) | skip
    · (apply sk_ret; apply ret_eq; (· apply RetOK.p; (· (apply GvA.cons; (· exact .tmp _); (· exact GvP.c (.lit _))); exact GvA.nil); (· (decide))))
      rw [bytB_f h (.inl (by simp_all))]
    · (apply sk_ret; apply ret_eq; (· apply RetOK.p; (· (apply GvA.cons; (· exact .tmp _); (· exact GvP.c (.lit _))); exact GvA.nil); (· (decide))))
      rw [bytB_f h (.inr (by assumption))]
    · refine sk_back ?_; refine ⟨k + 1, ?_, ?_, le_at rfl (by (repeat (first | exact trivial | refine ⟨(by (rfl)), ?_⟩))) (by (repeat (first | exact trivial | refine ⟨rfl, ?_⟩))) (by (repeat (exact trivial))) (by (repeat (exact trivial)))⟩
      · exact ⟨by omega, bytB_go h (by simp_all) (by assumption) ht⟩
      · omega
  · repeat' (first | (refine so_is (.assign _) ?_; (refine so_q (qt_asC rfl) rfl ?_)) | (refine so_is (.move _) ?_; (refine so_q (qt_mvC rfl) rfl ?_)) | (refine so_is (.call ⟨.builtin .len, _, #[9]⟩) ?_; (refine so_q (qt_lenT rfl (by kernel_rfl)) rfl ?_)) | (refine so_is (.binOp .lss 3 _ _ _) ?_; refine so_q (qt_lss rfl rfl) rfl ?_) | (refine so_is (.index 9 _ _) ?_; (refine so_q (qt_indexT rfl rfl (by kernel_rfl) (by (omega)) (by (omega))) rfl ?_)) | (refine so_is (.convert 5 3 _) ?_; (refine so_q (qt_convI (k' := .i64) rfl (by kernel_rfl) (by kernel_rfl) (by (exact IntWalk.i64_in _ (by (omega))))) rfl ?_)) | (refine so_is (.binOp .leq 3 _ _ _) ?_; refine so_q (qt_leq rfl rfl) rfl ?_) | refine so_nil ?_ | refine sk_seq ?_ | refine sk_block ?_ | refine sk_exit rfl ?_ | refine sk_skip ?_ | refine sk_region ?_ | refine sk_if rfl (fun hc => ?_) (fun hc => ?_))
    all_goals first | (exfalso; omega) | skip
    have : k = s.length := by omega
    subst this
    rw [List.take_length] at ht
    (apply sk_ret; apply ret_eq; (· apply RetOK.p; (· (apply GvA.cons; (· exact .tmp _); (· exact GvP.c (.lit _))); exact GvA.nil); (· (decide))))
    simp [bytB, ht]

end Go.Proofs.YtdnkmgbbkggmdaaDoor

namespace Go.Proofs.YtdnkmgbbkggmdaaDoor
open Go.RowKit
set_option linter.unusedSectionVars false
variable [Glb]
set_option maxRecDepth 10000
set_option maxHeartbeats 4000000
theorem stands_no {s : Tx} {c : UInt8} {k : Nat} (h : k < s.length) (e : byt s k = (c.toNat : Int)) : s.contains c = true := by
  rw [byt_nat h] at e
  have : s[k] = c := UInt8.toNat_inj.1 (by omega)
  rw [List.contains_iff_mem, ← this]; exact List.getElem_mem h
theorem stands_go {s : Tx} {c : UInt8} {k : Nat} (h : k < s.length) (e : byt s k ≠ (c.toNat : Int)) (ht : c ∉ s.take k) : c ∉ s.take (k + 1) := by
  rw [List.take_succ_eq_append_getElem h, List.mem_append, not_or]
  refine ⟨ht, fun hm => e ?_⟩
  rw [List.mem_singleton] at hm
  rw [byt_nat h, hm]
theorem l1Stands_p (s : Tx) (c : UInt8) : PC Tryd.prog 67 [.c (dT s), .c (.lit (.int .u8 c.toNat))] (.p (.c (dB (s.contains c)))) := by
  refine pc_intro Tryd.func67 rfl rfl rfl (by kernel_rfl) rfl rfl ?_; rintro ⟨hl, -⟩
  have hl := FitT hl
  repeat' (first | (refine so_is (.assign _) ?_; (refine so_q (qt_asC rfl) rfl ?_)) | refine so_nil ?_ | refine sk_seq ?_ | refine sk_block ?_ | refine sk_region ?_)
  apply sk_packC [0, 1, 5] [] rfl; (· (repeat (first | exact Pf.nil | apply Pf.cons (.c rfl (.d rfl))))); (· (repeat (exact Pb.nil)))
  refine sk_loopL [0, 1] [] (fun k => [(5, iN k)]) (fun _ => []) (fun k => k ≤ s.length ∧ c ∉ s.take k) (fun k => s.length - k) (0) ?_ (by (repeat (first | exact trivial | refine ⟨(by (rfl)), ?_⟩))) (by (repeat (exact trivial))) ?_
  · simp
  rintro k ⟨hk, ht⟩
  by_cases h : k < s.length
  · repeat' (first | (refine so_is (.assign _) ?_; (refine so_q (qt_asC rfl) rfl ?_)) | (refine so_is (.move _) ?_; (refine so_q (qt_mvC rfl) rfl ?_)) | (refine so_is (.call ⟨.builtin .len, _, #[9]⟩) ?_; (refine so_q (qt_lenT rfl (by kernel_rfl)) rfl ?_)) | (refine so_is (.binOp .lss 3 _ _ _) ?_; refine so_q (qt_lss rfl rfl) rfl ?_) | (refine so_is (.index 9 _ _) ?_; (refine so_q (qt_indexT rfl rfl (by kernel_rfl) (by (omega)) (by (omega))) rfl ?_)) | (refine so_is (.binOp .eql 5 _ _ _) ?_; refine so_q (qt_eql rfl rfl) rfl ?_) | (refine so_is (.binOp .add 3 _ _ _) ?_; refine so_q (qt_addI rfl rfl (by (omega))) rfl ?_) | refine so_nil ?_ | refine sk_seq ?_ | refine sk_block ?_ | refine sk_blk ?_ | refine sk_exit rfl ?_ | refine sk_skip ?_ | refine sk_region ?_ | refine sk_if rfl (fun hc => ?_) (fun hc => ?_))
    all_goals first | (exfalso; omega) | skip
    · (apply sk_ret; apply ret_eq; (· apply RetOK.p; (· (apply GvA.cons; (· exact .tmp _); (· exact GvP.c (.lit _))); exact GvA.nil); (· (decide))))
      rw [stands_no h (by assumption)]
    · refine sk_back ?_; refine ⟨k + 1, ?_, ?_, le_at rfl (by (repeat (first | exact trivial | refine ⟨(by (rfl)), ?_⟩))) (by (repeat (first | exact trivial | refine ⟨rfl, ?_⟩))) (by (repeat (exact trivial))) (by (repeat (exact trivial)))⟩
      · exact ⟨by omega, stands_go h (by assumption) ht⟩
      · omega
  · repeat' (first | (refine so_is (.assign _) ?_; (refine so_q (qt_asC rfl) rfl ?_)) | (refine so_is (.move _) ?_; (refine so_q (qt_mvC rfl) rfl ?_)) | (refine so_is (.call ⟨.builtin .len, _, #[9]⟩) ?_; (refine so_q (qt_lenT rfl (by kernel_rfl)) rfl ?_)) | (refine so_is (.binOp .lss 3 _ _ _) ?_; refine so_q (qt_lss rfl rfl) rfl ?_) | (refine so_is (.index 9 _ _) ?_; (refine so_q (qt_indexT rfl rfl (by kernel_rfl) (by (omega)) (by (omega))) rfl ?_)) | (refine so_is (.binOp .eql 5 _ _ _) ?_; refine so_q (qt_eql rfl rfl) rfl ?_) | (refine so_is (.binOp .add 3 _ _ _) ?_; refine so_q (qt_addI rfl rfl (by (omega))) rfl ?_) | refine so_nil ?_ | refine sk_seq ?_ | refine sk_block ?_ | refine sk_blk ?_ | refine sk_exit rfl ?_ | refine sk_skip ?_ | refine sk_region ?_ | refine sk_if rfl (fun hc => ?_) (fun hc => ?_))
    all_goals first | (exfalso; omega) | skip
    have : k = s.length := by omega
    subst this
    rw [List.take_length] at ht
    (apply sk_ret; apply ret_eq; (· apply RetOK.p; (· (apply GvA.cons; (· exact .tmp _); (· exact GvP.c (.lit _))); exact GvA.nil); (· (decide))))
    simp [ht]

end Go.Proofs.YtdnkmgbbkggmdaaDoor

namespace Go.Proofs.YtdnkmgbbkggmdaaDoor
open Go.RowKit
set_option linter.unusedSectionVars false
variable [Glb]
set_option maxRecDepth 10000
set_option maxHeartbeats 4000000
theorem l12Record_p (c r : Tx) : PC Tryd.prog 46 [.g [dT c, dT r]] (.p (.c (dB (recB c r)))) := by
  refine pc_intro Tryd.func46 rfl rfl rfl (by kernel_rfl) rfl rfl ?_; intro _
  repeat' (first | (refine so_is (.box 27 _) ?_; refine so_box rfl rfl ?_) | (refine so_is (.assign _) ?_; (refine so_q (qt_asC rfl) rfl ?_)) | (refine so_is (.fieldAddr 27 _ 0) ?_; (refine so_q (qt_fld_lp (off := 0) rfl (by kernel_rfl)) rfl ?_)) | (refine so_is (.load 9 _) ?_; (refine so_q (qt_load_box rfl rfl (by kernel_rfl) rfl) rfl ?_)) | (refine so_is (.binOp .neq 9 _ _ _) ?_; (refine so_q (qt_neqT rfl rfl) rfl ?_)) | (refine so_is (.move _) ?_; (refine so_q (qt_mvC rfl) rfl ?_)) | (refine so_is (.pick _ _ _) ?_; (refine so_q (qt_pkC rfl rfl) rfl ?_)) | (refine so_is (.unOp .not 4 _) ?_; refine so_q (qt_not rfl) rfl ?_) | (refine so_is (.fieldAddr 27 _ 1) ?_; (refine so_q (qt_fld_lp (off := 1) rfl (by kernel_rfl)) rfl ?_)) | (refine so_is (.call ⟨.value (.func 66), _, _⟩) ?_; (apply so_call0 (fid := 66); (· (repeat (first | exact SeA.nil | apply SeA.cons (.c (.d _))))); (· exact l12Bytes_p _ _); (· rfl))) | (refine so_is (.call ⟨.value (.func 67), _, _⟩) ?_; (apply so_call0 (fid := 67); (· (repeat (first | exact SeA.nil | apply SeA.cons (.c (.d _))))); (· exact l1Stands_p _ 64); (· rfl))) | refine so_nil ?_ | refine so_g_no rfl rfl rfl rfl ?_ | refine so_g_yes rfl rfl rfl rfl ?_ | refine so_g_if rfl rfl (fun hg => ?_) (fun hg => ?_) | refine so_g_b rfl rfl (fun hg => ?_) (fun hg => ?_) | refine sk_seq ?_ | refine sk_region ?_)
  all_goals (apply sk_ret; apply ret_eq; (· apply RetOK.p; (· (apply GvA.cons; (· exact .tmp _); (· exact GvP.c (.lit _))); exact GvA.nil); (· (decide))))
  all_goals simp_all [recB]

end Go.Proofs.YtdnkmgbbkggmdaaDoor

namespace Go.Proofs.YtdnkmgbbkggmdaaDoor
open Go.RowKit
set_option linter.unusedSectionVars false
variable [Glb]
set_option maxRecDepth 10000
set_option maxHeartbeats 4000000
theorem bef_len (b : UInt8) (s : Tx) : (bef b s).length ≤ s.length := by
  by_cases h : b ∈ s
  · have := congrArg List.length (split_at_b h).1
    simp at this; omega
  · rw [bef_miss h]; omega
theorem ahd_len {k : Nat} (h : k < 60) : (ahdT k).length ≤ 3 := by have := num60 h; simp [ahdT]; omega
theorem part_to (s : Tx) (n : Nat) : partZ s 0 n = s.take n := by simp [partZ]
theorem part_from (s : Tx) (n : Nat) (h : n ≤ s.length) : partZ s n s.length = s.drop n := by
  unfold partZ; rw [List.take_of_length_le (by simp)]; simp
def restS (k : Nat) (l : Tx) : Tx := (rstT k l).drop ((bef 64 (rstT k l)).length + 1)
theorem dec_1 (k : Nat) (l : Tx) (hk : k < 60) (hl : l.length ≤ 1000000) (h : (bef 35 l).length < (ahdT k).length ∨ (bef 35 l).take (ahdT k).length ≠ ahdT k) : PC Tryd.prog 74 [.c (dT l), .c (dI k)] (.t [.g [dT [], dT []], .c (dB false)]) := by
  have b1 := bef_len 35 l
  have h3 := ahd_len hk
  have h4 := num60 hk
  unfold ahdT at h h3
  rw [← part_to] at h
  refine pc_intro Tryd.func74 rfl rfl rfl (by kernel_rfl) rfl rfl ?_; intro _
  repeat' (first | (refine so_is (.alloc 27) ?_; refine so_alloc (zs := [.string ByteArray.empty, .string ByteArray.empty]) (by kernel_rfl) rfl ?_) | (refine so_is (.assign _) ?_; (refine so_q (qt_asC rfl) rfl ?_)) | (refine so_is (.move _) ?_; (refine so_q (qt_mvC rfl) rfl ?_)) | (refine so_is (.binOp .add 9 _ _ _) ?_; (refine so_q (qt_addT rfl rfl (by ((simp only [List.length_map, List.length_append, List.length_replicate, fillL_len, rowF_len, gridF_len, mkI_len, mkII_len, partZ_min] at *; omega)))) rfl ?_)) | (refine so_is (.indexAddr 92 _ _) ?_; (refine so_q (qt_idx0 rfl rfl (by kernel_rfl)) rfl ?_)) | (refine so_is (.load 9 _) ?_; (refine so_q (qt_load_pt rfl (by kernel_rfl) rfl) rfl ?_)) | (refine so_is (.call ⟨.builtin .len, _, #[9]⟩) ?_; (refine so_q (qt_lenT rfl (by kernel_rfl)) rfl ?_)) | (refine so_is (.binOp .lss 3 _ _ _) ?_; refine so_q (qt_lss rfl rfl) rfl ?_) | (refine so_is (.slice 9 _ none (some _) none) ?_; (refine so_q (qt_sliceT01 rfl rfl (by kernel_rfl) (by (omega)) (by (omega))) rfl ?_)) | (refine so_is (.binOp .neq 9 _ _ _) ?_; (refine so_q (qt_neqT rfl rfl) rfl ?_)) | (refine so_is (.pick _ _ _) ?_; (refine so_q (qt_pkC rfl rfl) rfl ?_)) | (refine so_is (.build 27 _) ?_; refine so_q (qt_build (cs := [_, _]) [(0, 1), (1, 1)] [.string ByteArray.empty, .string ByteArray.empty] (by kernel_rfl) (by kernel_rfl) rfl) rfl ?_) | (refine so_is (.store 27 _ _) ?_; (refine so_store_box rfl rfl rfl (by kernel_rfl) rfl rfl ?_)) | (refine so_is (.slice 9 _ (some _) none none) ?_; (refine so_q (qt_sliceT10 rfl rfl (by kernel_rfl) (by (omega)) (by (omega))) rfl ?_)) | (refine so_is (.call ⟨.value (.func 69), _, _⟩) ?_; (apply so_call0 (fid := 69); (· (repeat (first | exact SeA.nil | apply SeA.cons (.c (.d _))))); (· exact l1Num_p _ (by omega)); (· rfl))) | (refine so_is (.call ⟨.value (.func 73), _, _⟩) ?_; (apply so_call0 (fid := 73); (· (repeat (first | exact SeA.nil | apply SeA.cons (.c (.d _))))); (· exact l1Split_p _ 35 (by omega)); (· rfl))) | refine so_nil ?_ | refine so_g_no rfl rfl rfl rfl ?_ | refine so_g_yes rfl rfl rfl rfl ?_ | refine so_g_if rfl rfl (fun hg => ?_) (fun hg => ?_) | refine sk_seq ?_ | refine sk_skip ?_ | refine sk_region ?_ | refine sk_true rfl ?_ | refine sk_if rfl (fun hc => ?_) (fun hc => ?_))
  all_goals first | (exfalso; rcases h with h | h; (omega); (exact absurd h (by assumption))) | skip
  all_goals (apply sk_ret; apply ret_eq; (· apply RetOK.t; (· (apply GvA.cons; (· (apply RV.cellN (n := 2); (· rfl); (· rfl); (· kernel_rfl); (· rfl))); (· (apply GvP.g; (· (apply GvL.cons (.lit _)); (apply GvL.cons (.lit _)); exact GvL.nil)))); (apply GvA.cons; (· exact .tmp _); (· exact GvP.c (.lit _))); exact GvA.nil); (· rfl); (· (decide))))
  all_goals rfl
theorem dec_2 (k : Nat) (l : Tx) (hk : k < 60) (hl : l.length ≤ 1000000) (h : ¬ ((bef 35 l).length < (ahdT k).length ∨ (bef 35 l).take (ahdT k).length ≠ ahdT k)) (h2 : (bef 64 (rstT k l)).length = (rstT k l).length) : PC Tryd.prog 74 [.c (dT l), .c (dI k)] (.t [.g [dT [], dT []], .c (dB false)]) := by
  have b1 := bef_len 35 l
  have h3 := ahd_len hk
  have h4 := num60 hk
  rw [not_or] at h
  unfold rstT at h2
  unfold ahdT at h h3 h2
  rw [← part_from _ _ (by omega)] at h2
  rw [← part_to] at h
  have b2 := partZ_le (bef 35 l) (numT k ++ [32]).length (bef 35 l).length
  refine pc_intro Tryd.func74 rfl rfl rfl (by kernel_rfl) rfl rfl ?_; intro _
  repeat' (first | (refine so_is (.alloc 27) ?_; refine so_alloc (zs := [.string ByteArray.empty, .string ByteArray.empty]) (by kernel_rfl) rfl ?_) | (refine so_is (.assign _) ?_; (refine so_q (qt_asC rfl) rfl ?_)) | (refine so_is (.move _) ?_; (refine so_q (qt_mvC rfl) rfl ?_)) | (refine so_is (.binOp .add 9 _ _ _) ?_; (refine so_q (qt_addT rfl rfl (by ((simp only [List.length_map, List.length_append, List.length_replicate, fillL_len, rowF_len, gridF_len, mkI_len, mkII_len, partZ_min] at *; omega)))) rfl ?_)) | (refine so_is (.call ⟨.value (.func 73), _, _⟩) ?_; (first | (apply so_call0 (d := 15) (fid := 73); (· (repeat (first | exact SeA.nil | apply SeA.cons (.c (.d _))))); (· exact l1Split_p _ 35 (by omega)); (· rfl)) | (apply so_call0 (d := 37) (fid := 73); (· (repeat (first | exact SeA.nil | apply SeA.cons (.c (.d _))))); (· exact l1Split_p _ 64 (by omega)); (· rfl)))) | (refine so_is (.indexAddr 92 _ _) ?_; (refine so_q (qt_idx0 rfl rfl (by kernel_rfl)) rfl ?_)) | (refine so_is (.load 9 _) ?_; (refine so_q (qt_load_pt rfl (by kernel_rfl) rfl) rfl ?_)) | (refine so_is (.call ⟨.builtin .len, _, #[9]⟩) ?_; (refine so_q (qt_lenT rfl (by kernel_rfl)) rfl ?_)) | (refine so_is (.binOp .lss 3 _ _ _) ?_; refine so_q (qt_lss rfl rfl) rfl ?_) | (refine so_is (.slice 9 _ none (some _) none) ?_; (refine so_q (qt_sliceT01 rfl rfl (by kernel_rfl) (by (omega)) (by (omega))) rfl ?_)) | (refine so_is (.binOp .neq 9 _ _ _) ?_; (refine so_q (qt_neqT rfl rfl) rfl ?_)) | (refine so_is (.pick _ _ _) ?_; (refine so_q (qt_pkC rfl rfl) rfl ?_)) | (refine so_is (.build 27 _) ?_; refine so_q (qt_build (cs := [_, _]) [(0, 1), (1, 1)] [.string ByteArray.empty, .string ByteArray.empty] (by kernel_rfl) (by kernel_rfl) rfl) rfl ?_) | (refine so_is (.store 27 _ _) ?_; (refine so_store_box rfl rfl rfl (by kernel_rfl) rfl rfl ?_)) | (refine so_is (.slice 9 _ (some _) none none) ?_; (refine so_q (qt_sliceT10 rfl rfl (by kernel_rfl) (by (omega)) (by (omega))) rfl ?_)) | (refine so_is (.binOp .eql 3 _ _ _) ?_; refine so_q (qt_eql rfl rfl) rfl ?_) | (refine so_is (.binOp .add 3 _ _ _) ?_; refine so_q (qt_addI rfl rfl (by (omega))) rfl ?_) | (refine so_is (.load 27 _) ?_; (refine so_q (qt_load_boxs rfl rfl (by kernel_rfl : tAgg _ 27 2 = true) rfl) rfl ?_)) | (refine so_is (.call ⟨.value (.func 69), _, _⟩) ?_; (apply so_call0 (fid := 69); (· (repeat (first | exact SeA.nil | apply SeA.cons (.c (.d _))))); (· exact l1Num_p _ (by omega)); (· rfl))) | refine so_nil ?_ | refine so_g_no rfl rfl rfl rfl ?_ | refine so_g_yes rfl rfl rfl rfl ?_ | refine so_g_if rfl rfl (fun hg => ?_) (fun hg => ?_) | refine sk_seq ?_ | refine sk_skip ?_ | refine sk_region ?_ | refine sk_drawQ 10 (fun i => i == 11) (.step 0 true (.step 1 true (.step 2 false (.step 3 true (.step 4 true (.step 5 true (.step 7 true (.step 8 true (.step 6 false (.step 9 true (.step 10 true (.step 11 false (.step 12 true .nil))))))))))))) [(0, 8191, 8191, false), (0, 8191, 8191, false), (2, 8189, 8191, false), (4, 8187, 8191, true), (8, 8183, 8191, true), (8, 8183, 8191, false), (56, 8135, 8191, false), (8, 8183, 6143, true), (136, 8055, 6143, true), (328, 7863, 6143, true), (520, 7671, 6143, true), (65, 8190, 8191, false), (4095, 7167, 6143, true)] (by kernel_rfl) (by kernel_rfl) ?_ | refine sk_true rfl ?_ | refine sk_if rfl (fun hc => ?_) (fun hc => ?_))
  all_goals first | (exfalso; omega) | (exfalso; exact absurd (by assumption) h.2) | skip
  all_goals (apply sk_ret; apply ret_eq; (· apply RetOK.t; (· (apply GvA.cons; (· (apply RV.cellN (n := 2); (· rfl); (· rfl); (· kernel_rfl); (· rfl))); (· (apply GvP.g; (· (apply GvL.cons (.lit _)); (apply GvL.cons (.lit _)); exact GvL.nil)))); (apply GvA.cons; (· exact .tmp _); (· exact GvP.c (.lit _))); exact GvA.nil); (· rfl); (· (decide))))
  all_goals rfl
theorem dec_3 (k : Nat) (l : Tx) (hk : k < 60) (hl : l.length ≤ 1000000) (h : ¬ ((bef 35 l).length < (ahdT k).length ∨ (bef 35 l).take (ahdT k).length ≠ ahdT k)) (h2 : (bef 64 (rstT k l)).length ≠ (rstT k l).length) : PC Tryd.prog 74 [.c (dT l), .c (dI k)] (.t [.g [dT (bef 64 (rstT k l)), dT (restS k l)], .c (dB (recB (bef 64 (rstT k l)) (restS k l) && decide (lineT k (bef 64 (rstT k l)) (restS k l) = l)))]) := by
  have b1 := bef_len 35 l
  have h3 := ahd_len hk
  have h4 := num60 hk
  rw [not_or] at h
  have b3 := bef_len 64 (rstT k l)
  unfold restS
  rw [← part_from (rstT k l) _ (by omega)]
  unfold rstT at h2 b3 ⊢
  unfold ahdT at h h3 h2 b3 ⊢
  rw [← part_from _ _ (by omega)] at h2 b3 ⊢
  rw [← part_to] at h
  have hc1 : ∀ n : Nat, ((n + 1 : Nat) : Int) = (n : Int) + 1 := fun n => by omega
  simp only [hc1]
  clear hc1
  have b2 := partZ_le (bef 35 l) (numT k ++ [32]).length (bef 35 l).length
  have b4 := partZ_le (partZ (bef 35 l) (numT k ++ [32]).length (bef 35 l).length) (((bef 64 (partZ (bef 35 l) (numT k ++ [32]).length (bef 35 l).length)).length : Int) + 1) (partZ (bef 35 l) (numT k ++ [32]).length (bef 35 l).length).length
  refine pc_intro Tryd.func74 rfl rfl rfl (by kernel_rfl) rfl rfl ?_; intro _
  repeat' (first | (refine so_is (.alloc 27) ?_; refine so_alloc (zs := [.string ByteArray.empty, .string ByteArray.empty]) (by kernel_rfl) rfl ?_) | (refine so_is (.assign _) ?_; (refine so_q (qt_asC rfl) rfl ?_)) | (refine so_is (.move _) ?_; (refine so_q (qt_mvC rfl) rfl ?_)) | (refine so_is (.binOp .add 9 _ _ _) ?_; (refine so_q (qt_addT rfl rfl (by (first | (simp only [List.length_map, List.length_append, List.length_replicate, fillL_len, rowF_len, gridF_len, mkI_len, mkII_len, partZ_min] at *; omega) | (simp at *; omega)))) rfl ?_)) | (refine so_is (.call ⟨.value (.func 73), _, _⟩) ?_; (first | (apply so_call0 (d := 15) (fid := 73); (· (repeat (first | exact SeA.nil | apply SeA.cons (.c (.d _))))); (· exact l1Split_p _ 35 (by omega)); (· rfl)) | (apply so_call0 (d := 37) (fid := 73); (· (repeat (first | exact SeA.nil | apply SeA.cons (.c (.d _))))); (· exact l1Split_p _ 64 (by omega)); (· rfl)))) | (refine so_is (.indexAddr 92 _ _) ?_; (refine so_q (qt_idx0 rfl rfl (by kernel_rfl)) rfl ?_)) | (refine so_is (.load 9 _) ?_; (refine so_q (qt_load_pt rfl (by kernel_rfl) rfl) rfl ?_)) | (refine so_is (.call ⟨.builtin .len, _, #[9]⟩) ?_; (refine so_q (qt_lenT rfl (by kernel_rfl)) rfl ?_)) | (refine so_is (.binOp .lss 3 _ _ _) ?_; refine so_q (qt_lss rfl rfl) rfl ?_) | (refine so_is (.slice 9 _ none (some _) none) ?_; (refine so_q (qt_sliceT01 rfl rfl (by kernel_rfl) (by (omega)) (by (omega))) rfl ?_)) | (refine so_is (.binOp .neq 9 _ _ _) ?_; (refine so_q (qt_neqT rfl rfl) rfl ?_)) | (refine so_is (.pick _ _ _) ?_; (refine so_q (qt_pkC rfl rfl) rfl ?_)) | (refine so_is (.build 27 _) ?_; refine so_q (qt_build (cs := [_, _]) [(0, 1), (1, 1)] [.string ByteArray.empty, .string ByteArray.empty] (by kernel_rfl) (by kernel_rfl) rfl) rfl ?_) | (refine so_is (.store 27 _ _) ?_; (refine so_store_box rfl rfl rfl (by kernel_rfl) rfl rfl ?_)) | (refine so_is (.slice 9 _ (some _) none none) ?_; (refine so_q (qt_sliceT10 rfl rfl (by kernel_rfl) (by (omega)) (by (omega))) rfl ?_)) | (refine so_is (.binOp .eql 3 _ _ _) ?_; refine so_q (qt_eql rfl rfl) rfl ?_) | (refine so_is (.binOp .add 3 _ _ _) ?_; refine so_q (qt_addI rfl rfl (by (omega))) rfl ?_) | (refine so_is (.load 27 _) ?_; (refine so_q (qt_load_boxs rfl rfl (by kernel_rfl : tAgg _ 27 2 = true) rfl) rfl ?_)) | (refine so_is (.binOp .eql 9 _ _ _) ?_; (refine so_q (qt_eqlT rfl rfl) rfl ?_)) | (refine so_is (.call ⟨.value (.func 69), _, _⟩) ?_; (apply so_call0 (fid := 69); (· (repeat (first | exact SeA.nil | apply SeA.cons (.c (.d _))))); (· exact l1Num_p _ (by omega)); (· rfl))) | (refine so_is (.call ⟨.value (.func 46), _, _⟩) ?_; (apply so_call0 (fid := 46); (· (repeat (first | exact SeA.nil | (apply SeA.cons; (· (apply SeP.g; (repeat (first | exact SeL.nil | apply SeL.cons (.d _))))))))); (· exact l12Record_p _ _); (· rfl))) | (refine so_is (.call ⟨.value (.func 47), _, _⟩) ?_; (apply so_call0 (fid := 47); (· (repeat (first | exact SeA.nil | apply SeA.cons (.c (.d _)) | (apply SeA.cons; (· (apply SeP.g; (repeat (first | exact SeL.nil | apply SeL.cons (.d _))))))))); (· exact l12Line_p _ _ _ hk (by omega) (by omega)); (· rfl))) | refine so_nil ?_ | refine so_g_no rfl rfl rfl rfl ?_ | refine so_g_yes rfl rfl rfl rfl ?_ | refine so_g_if rfl rfl (fun hg => ?_) (fun hg => ?_) | refine so_g_b rfl rfl (fun hg => ?_) (fun hg => ?_) | refine sk_seq ?_ | refine sk_skip ?_ | refine sk_region ?_ | refine sk_drawQ 10 (fun i => i == 11) (.step 0 true (.step 1 true (.step 2 false (.step 3 true (.step 4 true (.step 5 true (.step 7 true (.step 8 true (.step 6 false (.step 9 true (.step 10 true (.step 11 false (.step 12 true .nil))))))))))))) [(0, 8191, 8191, false), (0, 8191, 8191, false), (2, 8189, 8191, false), (4, 8187, 8191, true), (8, 8183, 8191, true), (8, 8183, 8191, false), (56, 8135, 8191, false), (8, 8183, 6143, true), (136, 8055, 6143, true), (328, 7863, 6143, true), (520, 7671, 6143, true), (65, 8190, 8191, false), (4095, 7167, 6143, true)] (by kernel_rfl) (by kernel_rfl) ?_ | refine sk_true rfl ?_ | refine sk_if rfl (fun hc => ?_) (fun hc => ?_))
  all_goals first | (exfalso; omega) | (exfalso; exact absurd (by assumption) h.2) | skip
  all_goals (apply sk_ret; apply ret_eq; (· apply RetOK.t; (· (apply GvA.cons; (· (apply RV.cellN (n := 2); (· rfl); (· rfl); (· kernel_rfl); (· rfl))); (· (apply GvP.g; (· (apply GvL.cons (.lit _)); (apply GvL.cons (.lit _)); exact GvL.nil)))); (apply GvA.cons; (· exact .tmp _); (· exact GvP.c (.lit _))); exact GvA.nil); (· rfl); (· (decide))))
  all_goals simp_all

end Go.Proofs.YtdnkmgbbkggmdaaDoor

namespace Go.Proofs.YtdnkmgbbkggmdaaDoor
open Go.RowKit
set_option linter.unusedSectionVars false
variable [Glb]
set_option maxRecDepth 10000
set_option maxHeartbeats 4000000
theorem l12Decode_c (k : Nat) (l : Tx) (hk : k < 60) (hl : l.length ≤ 1000000) : ∃ c r b, (b = true → decT k l = some (c, r)) ∧ (b = false → decT k l = none) ∧ PC Tryd.prog 74 [.c (dT l), .c (dI k)] (.t [.g [dT c, dT r], .c (dB b)]) := by
  by_cases h : (bef 35 l).length < (ahdT k).length ∨ (bef 35 l).take (ahdT k).length ≠ ahdT k
  · exact ⟨_, _, _, fun h => (by cases h), fun _ => decS1 h, dec_1 k l hk hl h⟩
  · by_cases h2 : (bef 64 (rstT k l)).length = (rstT k l).length
    · exact ⟨_, _, _, fun h => (by cases h), fun _ => decS2 h2, dec_2 k l hk hl h h2⟩
    · refine ⟨_, _, _, fun h3 => ?_, fun h3 => ?_, dec_3 k l hk hl h h2⟩
      · simp only [Bool.and_eq_true, decide_eq_true_eq] at h3; exact decS3.1 h3
      · refine decS3.2 fun h4 => ?_
        have : (recB (bef 64 (rstT k l)) (restS k l) && decide (lineT k (bef 64 (rstT k l)) (restS k l) = l)) = true := by simp only [Bool.and_eq_true, decide_eq_true_eq]; exact h4
        rw [this] at h3; cases h3
theorem l12Open_p (s : Tx) (hs : s.length ≤ 1000000) : PC Tryd.prog 51 [.c (dT s)] (.t [.c (eR (recsT s)), .c (dI (endT s))]) := by
  refine pc_intro Tryd.func51 rfl rfl rfl (by kernel_rfl) rfl rfl ?_; intro _
  repeat' (first | (refine so_is (.assign _) ?_; (refine so_q (qt_asC rfl) rfl ?_)) | (refine so_is (.buildSlice 48 0 _) ?_; (apply so_bslice (sz := 2) (by_ := 32); (· kernel_rfl); (· decide); (· (repeat (exact GvS.nil _))); (· (decide)); (· rfl); (· rfl); (· rfl))) | refine so_nil ?_ | refine sk_seq ?_ | refine sk_block ?_ | refine sk_region ?_)
  apply sk_packC [0, 4, 5] [7, 9, 22, 41, 42] rfl; (· (repeat (first | exact Pf.nil | apply Pf.cons (.c rfl (.d rfl)) | apply Pf.cons (.c rfl (.ls rfl))))); (· (repeat (first | exact Pb.nil | apply Pb.cons (.row rfl) | apply Pb.skip)))
  refine sk_loopL [0] [22, 7, 41, 42] (fun j => [(4, .c (.ls 9 2 0 j)), (5, iN (endsT s j))]) (fun j => [(9, .row 2 (recD ((recsT s).take j)))]) (fun j => j ≤ numR s) (fun j => 60 - j) (0) ?_ (by (repeat (first | exact trivial | refine ⟨(by (rfl)), ?_⟩))) (by (repeat (first | exact trivial | refine ⟨(by ((refine row_eq rfl ?_; simp  [ends_zero, recD]; done))), ?_⟩))) ?_
  · omega
  intro j hj
  have h60 := log_len s
  have hle := ends_le s j
  have hlr : ((recsT s).take j).length = j := by rw [List.length_take, recs_len]; omega
  have hrl : (recD ((recsT s).take j)).length = j * 2 := by rw [recD_len, hlr]
  have hrest : partZ s (endsT s j) s.length = s.drop (endsT s j) := part_from s _ hle
  have hfin : numR s = j → (recsT s).take j = recsT s ∧ endT s = endsT s j := fun e => ⟨by rw [List.take_of_length_le (by rw [recs_len]; omega)], by unfold endT; rw [e]⟩
  have hpl := partZ_le s (endsT s j) s.length
  have hbl := bef_len 10 (partZ s (endsT s j) s.length)
  by_cases h : endsT s j < s.length ∧ j < 60
  · obtain ⟨c, r, b, hb1, hb2, hpc⟩ := l12Decode_c j (bef 10 (partZ s (endsT s j) s.length)) h.2 (by omega)
    have hsl := splitT_len 10 (partZ s (endsT s j) s.length)
    by_cases hm : 10 ∈ partZ s (endsT s j) s.length
    · cases hb : b with
      | true =>
        subst hb
        have hst : stepT j (s.drop (endsT s j)) = some ((c, r), (bef 10 (s.drop (endsT s j))).length + 1) := step_some (by rw [← hrest]; exact hm) (by rw [← hrest]; exact hb1 rfl)
        obtain ⟨g1, g2, g3⟩ := log_go hj h.2 hst
        rw [← hrest] at g3
        rw [show ((splitT 10 (partZ s (endsT s j) s.length)).length < 2 ↔ 10 ∉ (partZ s (endsT s j) s.length)) ↔ True by simp [hsl]] at hsl
        have hsl2 : ¬ (splitT 10 (partZ s (endsT s j) s.length)).length < 2 := fun h => absurd hm ((splitT_len 10 _).1 h)
        clear hfin hrest hst hb1 hb2
        repeat' (first | (refine so_is (.assign _) ?_; (refine so_q (qt_asC rfl) rfl ?_)) | (refine so_is (.move _) ?_; (first | refine so_q (qt_mvC rfl) rfl ?_ | refine so_q (qt_mvT rfl) rfl ?_)) | (refine so_is (.call ⟨.builtin .len, _, #[9]⟩) ?_; (refine so_q (qt_lenT rfl (by kernel_rfl)) rfl ?_)) | (refine so_is (.binOp .lss 3 _ _ _) ?_; refine so_q (qt_lss rfl rfl) rfl ?_) | (refine so_is (.call ⟨.builtin .len, _, #[48]⟩) ?_; (refine so_q (qt_len_ls rfl (by kernel_rfl)) rfl ?_)) | (refine so_is (.pick _ _ _) ?_; (refine so_q (qt_pkC rfl rfl) rfl ?_)) | (refine so_is (.slice 9 _ (some _) none none) ?_; (refine so_q (qt_sliceT10 rfl rfl (by kernel_rfl) (by (omega)) (by (omega))) rfl ?_)) | (refine so_is (.indexAddr 92 _ _) ?_; (refine so_q (qt_idx0 rfl rfl (by kernel_rfl)) rfl ?_)) | (refine so_is (.load 9 _) ?_; (refine so_q (qt_load_pt rfl (by kernel_rfl) rfl) rfl ?_)) | (refine so_is (.extract _ _) ?_; refine so_q (qt_extract rfl rfl) rfl ?_) | (refine so_is (.alloc 27) ?_; refine so_alloc (zs := [.string ByteArray.empty, .string ByteArray.empty]) (by kernel_rfl) rfl ?_) | (refine so_is (.store 27 _ _) ?_; (refine so_store_box rfl rfl rfl (by kernel_rfl) rfl rfl ?_)) | (refine so_is (.call ⟨.builtin .len, _, #[92]⟩) ?_; (refine so_q (qt_len_d rfl (by kernel_rfl)) rfl ?_)) | (refine so_is (.unOp .not 4 _) ?_; refine so_q (qt_not rfl) rfl ?_) | (refine so_is (.load 27 _) ?_; (refine so_q (qt_load_boxs rfl rfl (by kernel_rfl : tAgg _ 27 2 = true) rfl) rfl ?_)) | (refine so_is (.buildSlice 48 1 _) ?_; (apply so_bslice (sz := 2) (by_ := 32); (· kernel_rfl); (· decide); (· (repeat (first | exact GvS.nil _ | (apply GvS.g rfl; (· (repeat (first | exact GvL.nil | apply GvL.cons (.lit _)))); (· rfl))))); (· (decide)); (· rfl); (· rfl); (· rfl))) | (refine so_is (.call ⟨.builtin .append, _, #[48, 48]⟩) ?_; ((apply so_appR (sz := 2) (by_ := 32); (· rfl); (· rfl); (· (assumption)); (· exact .row _ _ _ _ rfl (by ((simp; done)))); (· (decide)); (· kernel_rfl); (· decide); (· (omega)); (· (omega)); (· rfl); (· rfl); (· rfl)))) | (refine so_is (.binOp .add 3 _ _ _) ?_; refine so_q (qt_addI rfl rfl (by (omega))) rfl ?_) | (refine so_is (.call ⟨.value (.func 73), _, _⟩) ?_; ((apply so_call0 (fid := 73); (· (repeat (first | exact SeA.nil | apply SeA.cons (.c (.d _))))); (· exact l1Split_p _ 10 (by omega)); (· rfl)))) | (refine so_is (.call ⟨.value (.func 74), _, _⟩) ?_; (apply so_call0 (fid := 74); (· (repeat (first | exact SeA.nil | apply SeA.cons (.c (.d _))))); (· exact hpc); (· rfl))) | refine so_nil ?_ | refine so_g_no rfl rfl rfl rfl ?_ | refine so_g_yes rfl rfl rfl rfl ?_ | refine so_g_if rfl rfl (fun hg => ?_) (fun hg => ?_) | refine sk_seq ?_ | refine sk_block ?_ | refine sk_blk ?_ | refine sk_exit rfl ?_ | refine sk_skip ?_ | refine sk_region ?_ | refine sk_true rfl ?_ | refine sk_false rfl ?_ | refine sk_if rfl (fun hc => ?_) (fun hc => ?_))
        all_goals first | (exfalso; omega) | (exfalso; simp_all; done) | skip
        refine sk_back ?_; refine ⟨j + 1, ?_, ?_, le_at rfl (by (repeat (first | exact trivial | refine ⟨(by (first | rfl | (refine int_eq rfl ?_; (omega)))), ?_⟩))) (by (repeat (first | exact trivial | refine ⟨rfl, ?_⟩))) (by (repeat (first | exact trivial | refine ⟨(by ((refine row_eq rfl ?_; simp  [recs_snoc g2, g3, Nat.add_assoc]; done))), ?_⟩))) (by (repeat (first | exact trivial | refine ⟨.inr rfl, ?_⟩ | refine ⟨.inl rfl, ?_⟩)))⟩
        · omega
        · omega
      | false =>
        subst hb
        have hst := log_stop hj (step_none (by rw [← hrest]; exact hb2 rfl))
        obtain ⟨f1, f2⟩ := hfin hst; have f3 : (recsT s).length = j := (recs_len s).trans hst
        clear hfin hrest hb1 hb2
        repeat' (first | (refine so_is (.assign _) ?_; (refine so_q (qt_asC rfl) rfl ?_)) | (refine so_is (.move _) ?_; (first | refine so_q (qt_mvC rfl) rfl ?_ | refine so_q (qt_mvT rfl) rfl ?_)) | (refine so_is (.call ⟨.builtin .len, _, #[9]⟩) ?_; (refine so_q (qt_lenT rfl (by kernel_rfl)) rfl ?_)) | (refine so_is (.binOp .lss 3 _ _ _) ?_; refine so_q (qt_lss rfl rfl) rfl ?_) | (refine so_is (.call ⟨.builtin .len, _, #[48]⟩) ?_; (refine so_q (qt_len_ls rfl (by kernel_rfl)) rfl ?_)) | (refine so_is (.pick _ _ _) ?_; (refine so_q (qt_pkC rfl rfl) rfl ?_)) | (refine so_is (.slice 9 _ (some _) none none) ?_; (refine so_q (qt_sliceT10 rfl rfl (by kernel_rfl) (by (omega)) (by (omega))) rfl ?_)) | (refine so_is (.indexAddr 92 _ _) ?_; (refine so_q (qt_idx0 rfl rfl (by kernel_rfl)) rfl ?_)) | (refine so_is (.load 9 _) ?_; (refine so_q (qt_load_pt rfl (by kernel_rfl) rfl) rfl ?_)) | (refine so_is (.extract _ _) ?_; refine so_q (qt_extract rfl rfl) rfl ?_) | (refine so_is (.alloc 27) ?_; refine so_alloc (zs := [.string ByteArray.empty, .string ByteArray.empty]) (by kernel_rfl) rfl ?_) | (refine so_is (.store 27 _ _) ?_; (refine so_store_box rfl rfl rfl (by kernel_rfl) rfl rfl ?_)) | (refine so_is (.call ⟨.builtin .len, _, #[92]⟩) ?_; (refine so_q (qt_len_d rfl (by kernel_rfl)) rfl ?_)) | (refine so_is (.unOp .not 4 _) ?_; refine so_q (qt_not rfl) rfl ?_) | (refine so_is (.call ⟨.value (.func 73), _, _⟩) ?_; ((apply so_call0 (fid := 73); (· (repeat (first | exact SeA.nil | apply SeA.cons (.c (.d _))))); (· exact l1Split_p _ 10 (by omega)); (· rfl)))) | (refine so_is (.call ⟨.value (.func 74), _, _⟩) ?_; (apply so_call0 (fid := 74); (· (repeat (first | exact SeA.nil | apply SeA.cons (.c (.d _))))); (· exact hpc); (· rfl))) | refine so_nil ?_ | refine so_g_no rfl rfl rfl rfl ?_ | refine so_g_yes rfl rfl rfl rfl ?_ | refine so_g_if rfl rfl (fun hg => ?_) (fun hg => ?_) | refine sk_seq ?_ | refine sk_block ?_ | refine sk_exit rfl ?_ | refine sk_skip ?_ | refine sk_region ?_ | refine sk_true rfl ?_ | refine sk_false rfl ?_ | refine sk_if rfl (fun hc => ?_) (fun hc => ?_))
        all_goals first | (exfalso; omega) | (exfalso; simp_all; done) | skip
        all_goals (apply sk_ret; apply ret_eq; (· apply RetOK.t; (· (apply GvA.cons; (· exact .tmp _); (· (exact GvP.c (.row _ _ _ _ rfl (by (assumption)))))); (apply GvA.cons; (· exact .tmp _); (· exact GvP.c (.lit _))); exact GvA.nil); (· rfl); (· (decide))))
        all_goals simp only [eR, f1, f2, f3]
    · have hst := log_stop hj (step_no (by rw [← hrest]; exact hm))
      obtain ⟨f1, f2⟩ := hfin hst; have f3 : (recsT s).length = j := (recs_len s).trans hst
      have hsl2 : (splitT 10 (partZ s (endsT s j) s.length)).length < 2 := hsl.2 hm
      clear hfin hrest hb1 hb2
      repeat' (first | (refine so_is (.assign _) ?_; (refine so_q (qt_asC rfl) rfl ?_)) | (refine so_is (.move _) ?_; (first | refine so_q (qt_mvC rfl) rfl ?_ | refine so_q (qt_mvT rfl) rfl ?_)) | (refine so_is (.call ⟨.builtin .len, _, #[9]⟩) ?_; (refine so_q (qt_lenT rfl (by kernel_rfl)) rfl ?_)) | (refine so_is (.binOp .lss 3 _ _ _) ?_; refine so_q (qt_lss rfl rfl) rfl ?_) | (refine so_is (.call ⟨.builtin .len, _, #[48]⟩) ?_; (refine so_q (qt_len_ls rfl (by kernel_rfl)) rfl ?_)) | (refine so_is (.pick _ _ _) ?_; (refine so_q (qt_pkC rfl rfl) rfl ?_)) | (refine so_is (.slice 9 _ (some _) none none) ?_; (refine so_q (qt_sliceT10 rfl rfl (by kernel_rfl) (by (omega)) (by (omega))) rfl ?_)) | (refine so_is (.indexAddr 92 _ _) ?_; (refine so_q (qt_idx0 rfl rfl (by kernel_rfl)) rfl ?_)) | (refine so_is (.load 9 _) ?_; (refine so_q (qt_load_pt rfl (by kernel_rfl) rfl) rfl ?_)) | (refine so_is (.extract _ _) ?_; refine so_q (qt_extract rfl rfl) rfl ?_) | (refine so_is (.alloc 27) ?_; refine so_alloc (zs := [.string ByteArray.empty, .string ByteArray.empty]) (by kernel_rfl) rfl ?_) | (refine so_is (.store 27 _ _) ?_; (refine so_store_box rfl rfl rfl (by kernel_rfl) rfl rfl ?_)) | (refine so_is (.call ⟨.builtin .len, _, #[92]⟩) ?_; (refine so_q (qt_len_d rfl (by kernel_rfl)) rfl ?_)) | (refine so_is (.unOp .not 4 _) ?_; refine so_q (qt_not rfl) rfl ?_) | (refine so_is (.load 27 _) ?_; (refine so_q (qt_load_boxs rfl rfl (by kernel_rfl : tAgg _ 27 2 = true) rfl) rfl ?_)) | (refine so_is (.buildSlice 48 1 _) ?_; (apply so_bslice (sz := 2) (by_ := 32); (· kernel_rfl); (· decide); (· (repeat (first | exact GvS.nil _ | (apply GvS.g rfl; (· (repeat (first | exact GvL.nil | apply GvL.cons (.lit _)))); (· rfl))))); (· (decide)); (· rfl); (· rfl); (· rfl))) | (refine so_is (.call ⟨.builtin .append, _, #[48, 48]⟩) ?_; ((apply so_appR (sz := 2) (by_ := 32); (· rfl); (· rfl); (· (assumption)); (· exact .row _ _ _ _ rfl (by ((simp; done)))); (· (decide)); (· kernel_rfl); (· decide); (· (omega)); (· (omega)); (· rfl); (· rfl); (· rfl)))) | (refine so_is (.binOp .add 3 _ _ _) ?_; refine so_q (qt_addI rfl rfl (by (omega))) rfl ?_) | (refine so_is (.call ⟨.value (.func 73), _, _⟩) ?_; ((apply so_call0 (fid := 73); (· (repeat (first | exact SeA.nil | apply SeA.cons (.c (.d _))))); (· exact l1Split_p _ 10 (by omega)); (· rfl)))) | (refine so_is (.call ⟨.value (.func 74), _, _⟩) ?_; (apply so_call0 (fid := 74); (· (repeat (first | exact SeA.nil | apply SeA.cons (.c (.d _))))); (· exact hpc); (· rfl))) | refine so_nil ?_ | refine so_g_no rfl rfl rfl rfl ?_ | refine so_g_yes rfl rfl rfl rfl ?_ | refine so_g_if rfl rfl (fun hg => ?_) (fun hg => ?_) | refine sk_seq ?_ | refine sk_block ?_ | refine sk_blk ?_ | refine sk_exit rfl ?_ | refine sk_skip ?_ | refine sk_region ?_ | refine sk_true rfl ?_ | refine sk_false rfl ?_ | refine sk_if rfl (fun hc => ?_) (fun hc => ?_) | refine sk_not rfl (fun hc => ?_) (fun hc => ?_))
      all_goals first | (exfalso; omega) | (exfalso; simp_all; done) | skip
      all_goals (apply sk_ret; apply ret_eq; (· apply RetOK.t; (· (apply GvA.cons; (· exact .tmp _); (· (exact GvP.c (.row _ _ _ _ rfl (by (assumption)))))); (apply GvA.cons; (· exact .tmp _); (· exact GvP.c (.lit _))); exact GvA.nil); (· rfl); (· (decide))))
      all_goals simp only [eR, f1, f2, f3]
  · have hst : numR s = j := by
      by_cases h2 : j < 60
      · refine log_stop hj (step_no ?_)
        rw [List.drop_eq_nil_of_le (by omega)]; simp
      · omega
    obtain ⟨f1, f2⟩ := hfin hst; have f3 : (recsT s).length = j := (recs_len s).trans hst
    clear hfin hrest
    repeat' (first | (refine so_is (.assign _) ?_; (refine so_q (qt_asC rfl) rfl ?_)) | (refine so_is (.move _) ?_; (refine so_q (qt_mvC rfl) rfl ?_)) | (refine so_is (.call ⟨.builtin .len, _, #[9]⟩) ?_; (refine so_q (qt_lenT rfl (by kernel_rfl)) rfl ?_)) | (refine so_is (.binOp .lss 3 _ _ _) ?_; refine so_q (qt_lss rfl rfl) rfl ?_) | (refine so_is (.call ⟨.builtin .len, _, #[48]⟩) ?_; (refine so_q (qt_len_ls rfl (by kernel_rfl)) rfl ?_)) | (refine so_is (.pick _ _ _) ?_; (refine so_q (qt_pkC rfl rfl) rfl ?_)) | (refine so_is (.slice 9 _ (some _) none none) ?_; (refine so_q (qt_sliceT10 rfl rfl (by kernel_rfl) (by (omega)) (by (omega))) rfl ?_)) | refine so_nil ?_ | refine so_g_no rfl rfl rfl rfl ?_ | refine so_g_yes rfl rfl rfl rfl ?_ | refine so_g_if rfl rfl (fun hg => ?_) (fun hg => ?_) | refine sk_seq ?_ | refine sk_block ?_ | refine sk_exit rfl ?_ | refine sk_skip ?_ | refine sk_region ?_ | refine sk_false rfl ?_ | refine sk_if rfl (fun hc => ?_) (fun hc => ?_))
    all_goals first | (exfalso; omega) | (exfalso; simp_all; done) | skip
    all_goals (apply sk_ret; apply ret_eq; (· apply RetOK.t; (· (apply GvA.cons; (· exact .tmp _); (· (exact GvP.c (.row _ _ _ _ rfl (by (assumption)))))); (apply GvA.cons; (· exact .tmp _); (· exact GvP.c (.lit _))); exact GvA.nil); (· rfl); (· (decide))))
    all_goals simp only [eR, f1, f2, f3]

end Go.Proofs.YtdnkmgbbkggmdaaDoor

namespace Go.Proofs.YtdnkmgbbkggmdaaDoor
open Go.RowKit
set_option linter.unusedSectionVars false
variable [Glb]
set_option maxRecDepth 10000
set_option maxHeartbeats 4000000
theorem l12Valid_p (d p : Tx) (c : Int) (hb : (d.length : Int) + p.length ≤ 1000000000) : PC Tryd.prog 53 [.g [dT d, dT p, dI c]] (.p (.c (dB (validB d p c)))) := by
  refine pc_intro Tryd.func53 rfl rfl rfl (by kernel_rfl) rfl rfl ?_; rintro ⟨hf, -⟩
  have hf0 := FitT (hf (dT d) (by simp))
  have hf1 := FitT (hf (dT p) (by simp))
  clear hf
  by_cases h : (d.length : Int) + p.length ≤ 30000
  · have h1 := recs_len (d ++ p)
    have h2 : ((d ++ p).length : Int) = d.length + p.length := by simp
    repeat' (first | (refine so_is (.box 31 _) ?_; refine so_box rfl rfl ?_) | (refine so_is (.assign _) ?_; (refine so_q (qt_asC rfl) rfl ?_)) | (refine so_is (.fieldAddr 31 _ 0) ?_; (refine so_q (qt_fld_lp (off := 0) rfl (by kernel_rfl)) rfl ?_)) | (refine so_is (.load 9 _) ?_; (refine so_q (qt_load_box rfl rfl (by kernel_rfl) rfl) rfl ?_)) | (refine so_is (.call ⟨.builtin .len, _, #[9]⟩) ?_; (refine so_q (qt_lenT rfl (by kernel_rfl)) rfl ?_)) | (refine so_is (.fieldAddr 31 _ 1) ?_; (refine so_q (qt_fld_lp (off := 1) rfl (by kernel_rfl)) rfl ?_)) | (refine so_is (.binOp .add 3 _ _ _) ?_; refine so_q (qt_addI rfl rfl (by (omega))) rfl ?_) | (refine so_is (.binOp .gtr 3 _ _ _) ?_; refine so_q (qt_gtr rfl rfl) rfl ?_) | (refine so_is (.binOp .add 9 _ _ _) ?_; (refine so_q (qt_addT rfl rfl (by (omega))) rfl ?_)) | (refine so_is (.call ⟨.value (.func 51), _, _⟩) ?_; (first | (apply so_call0 (d := 21) (fid := 51); (· (repeat (first | exact SeA.nil | apply SeA.cons (.c (.d _))))); (· exact l12Open_p _ (by simp; omega)); (· rfl)) | (apply so_call0 (d := 27) (fid := 51); (· (repeat (first | exact SeA.nil | apply SeA.cons (.c (.d _))))); (· exact l12Open_p _ (by omega)); (· rfl)))) | (refine so_is (.move _) ?_; (first | refine so_q (qt_mvC rfl) rfl ?_ | refine so_q (qt_mvT rfl) rfl ?_)) | (refine so_is (.extract _ _) ?_; refine so_q (qt_extract rfl rfl) rfl ?_) | (refine so_is (.binOp .eql 3 _ _ _) ?_; refine so_q (qt_eql rfl rfl) rfl ?_) | (refine so_is (.pick _ _ _) ?_; (refine so_q (qt_pkC rfl rfl) rfl ?_)) | (refine so_is (.call ⟨.builtin .len, _, #[48]⟩) ?_; (refine so_q (qt_len_d rfl (by kernel_rfl)) rfl ?_)) | (refine so_is (.fieldAddr 31 _ 2) ?_; (refine so_q (qt_fld_lp (off := 2) rfl (by kernel_rfl)) rfl ?_)) | (refine so_is (.load 3 _) ?_; (refine so_q (qt_load_box rfl rfl (by kernel_rfl) rfl) rfl ?_)) | refine so_nil ?_ | refine so_g_no rfl rfl rfl rfl ?_ | refine so_g_yes rfl rfl rfl rfl ?_ | refine so_g_if rfl rfl (fun hg => ?_) (fun hg => ?_) | refine sk_seq ?_ | refine sk_skip ?_ | refine sk_region ?_ | refine sk_if rfl (fun hc => ?_) (fun hc => ?_))
    all_goals first | (exfalso; omega) | skip
    all_goals (apply sk_ret; apply ret_eq; (· apply RetOK.p; (· (apply GvA.cons; (· exact .tmp _); (· exact GvP.c (.lit _))); exact GvA.nil); (· (decide))))
    all_goals refine dB_eq (Bool.eq_iff_iff.2 ?_)
    all_goals rw [valid_iff h]
    · rw [decide_eq_true_eq]; omega
    · simp only [Bool.false_eq_true, false_iff]; omega
    · simp only [Bool.false_eq_true, false_iff]; omega
  · repeat' (first | (refine so_is (.box 31 _) ?_; refine so_box rfl rfl ?_) | (refine so_is (.assign _) ?_; (refine so_q (qt_asC rfl) rfl ?_)) | (refine so_is (.fieldAddr 31 _ 0) ?_; (refine so_q (qt_fld_lp (off := 0) rfl (by kernel_rfl)) rfl ?_)) | (refine so_is (.load 9 _) ?_; (refine so_q (qt_load_box rfl rfl (by kernel_rfl) rfl) rfl ?_)) | (refine so_is (.call ⟨.builtin .len, _, #[9]⟩) ?_; (refine so_q (qt_lenT rfl (by kernel_rfl)) rfl ?_)) | (refine so_is (.fieldAddr 31 _ 1) ?_; (refine so_q (qt_fld_lp (off := 1) rfl (by kernel_rfl)) rfl ?_)) | (refine so_is (.binOp .add 3 _ _ _) ?_; refine so_q (qt_addI rfl rfl (by (omega))) rfl ?_) | (refine so_is (.binOp .gtr 3 _ _ _) ?_; refine so_q (qt_gtr rfl rfl) rfl ?_) | (refine so_is (.binOp .add 9 _ _ _) ?_; (refine so_q (qt_addT rfl rfl (by (omega))) rfl ?_)) | (refine so_is (.call ⟨.value (.func 51), _, _⟩) ?_; (first | (apply so_call0 (d := 21) (fid := 51); (· (repeat (first | exact SeA.nil | apply SeA.cons (.c (.d _))))); (· exact l12Open_p _ (by simp; omega)); (· rfl)) | (apply so_call0 (d := 27) (fid := 51); (· (repeat (first | exact SeA.nil | apply SeA.cons (.c (.d _))))); (· exact l12Open_p _ (by omega)); (· rfl)))) | (refine so_is (.move _) ?_; (first | refine so_q (qt_mvC rfl) rfl ?_ | refine so_q (qt_mvT rfl) rfl ?_)) | (refine so_is (.extract _ _) ?_; refine so_q (qt_extract rfl rfl) rfl ?_) | (refine so_is (.binOp .eql 3 _ _ _) ?_; refine so_q (qt_eql rfl rfl) rfl ?_) | (refine so_is (.pick _ _ _) ?_; (refine so_q (qt_pkC rfl rfl) rfl ?_)) | (refine so_is (.call ⟨.builtin .len, _, #[48]⟩) ?_; (refine so_q (qt_len_d rfl (by kernel_rfl)) rfl ?_)) | (refine so_is (.fieldAddr 31 _ 2) ?_; (refine so_q (qt_fld_lp (off := 2) rfl (by kernel_rfl)) rfl ?_)) | (refine so_is (.load 3 _) ?_; (refine so_q (qt_load_box rfl rfl (by kernel_rfl) rfl) rfl ?_)) | refine so_nil ?_ | refine so_g_no rfl rfl rfl rfl ?_ | refine so_g_yes rfl rfl rfl rfl ?_ | refine so_g_if rfl rfl (fun hg => ?_) (fun hg => ?_) | refine sk_seq ?_ | refine sk_skip ?_ | refine sk_region ?_ | refine sk_if rfl (fun hc => ?_) (fun hc => ?_))
    all_goals first | (exfalso; omega) | skip
    all_goals (apply sk_ret; apply ret_eq; (· apply RetOK.p; (· (apply GvA.cons; (· exact .tmp _); (· exact GvP.c (.lit _))); exact GvA.nil); (· (decide))))
    all_goals rw [valid_long h]

end Go.Proofs.YtdnkmgbbkggmdaaDoor

namespace Go.Proofs.YtdnkmgbbkggmdaaDoor
open Go.RowKit
set_option linter.unusedSectionVars false
variable [Glb]
set_option maxRecDepth 10000
set_option maxHeartbeats 4000000
theorem spIsValidLog_p (d p : Tx) (c : Int) (hb : (d.length : Int) + p.length ≤ 1000000000) : PC Tryd.prog 20 [.g [dT d, dT p, dI c]] (.p (.c (dB (validB d p c)))) := by
  refine pc_intro Tryd.func20 rfl rfl rfl (by kernel_rfl) rfl rfl ?_; intro _
  repeat' (first | (refine so_is (.box 31 _) ?_; refine so_box rfl rfl ?_) | (refine so_is (.assign _) ?_; (refine so_q (qt_asC rfl) rfl ?_)) | (refine so_is (.load 31 _) ?_; (refine so_q (qt_load_boxs rfl rfl (by kernel_rfl : tAgg _ 31 3 = true) rfl) rfl ?_)) | (refine so_is (.call ⟨.value (.func 53), _, _⟩) ?_; (apply so_call0 (fid := 53); (· (repeat (first | exact SeA.nil | (apply SeA.cons; (· (apply SeP.g; (repeat (first | exact SeL.nil | apply SeL.cons (.d _))))))))); (· exact l12Valid_p _ _ _ (by omega)); (· rfl))) | refine so_nil ?_ | refine sk_seq ?_ | refine sk_region ?_)
  (apply sk_ret; apply ret_eq; (· apply RetOK.p; (· (apply GvA.cons; (· exact .tmp _); (· exact GvP.c (.lit _))); exact GvA.nil); (· (decide))))
  rfl

end Go.Proofs.YtdnkmgbbkggmdaaDoor

namespace Go.Proofs.YtdnkmgbbkggmdaaDoor
open Go.RowKit
set_option linter.unusedSectionVars false
variable [Glb]
set_option maxRecDepth 10000
set_option maxHeartbeats 4000000
theorem spCrashLog_p (d p : Tx) (n keep : Int) (torn : Bool) (hb : (d.length : Int) + p.length ≤ 1000000000) : PC Tryd.prog 23 [.g [dT d, dT p, dI n], .c (dI keep), .c (dB torn)] (.t [.c (dT (crashT d p n keep torn)), .c (dB (crashB d p n keep))]) := by
  cases hv : crashB d p n keep with
  | false =>
    have e : crashT d p n keep torn = [] := by unfold crashT; rw [if_neg (by rw [hv]; decide)]
    rw [e]
    refine pc_intro Tryd.func23 rfl rfl rfl (by kernel_rfl) rfl rfl ?_; intro _
    repeat' (first | (refine so_is (.box 31 _) ?_; refine so_box rfl rfl ?_) | (refine so_is (.assign _) ?_; (refine so_q (qt_asC rfl) rfl ?_)) | (refine so_is (.load 31 _) ?_; (refine so_q (qt_load_boxs rfl rfl (by kernel_rfl : tAgg _ 31 3 = true) rfl) rfl ?_)) | (refine so_is (.unOp .not 4 _) ?_; refine so_q (qt_not rfl) rfl ?_) | (refine so_is (.move _) ?_; (refine so_q (qt_mvC rfl) rfl ?_)) | (refine so_is (.fieldAddr 31 _ 1) ?_; (refine so_q (qt_fld_lp (off := 1) rfl (by kernel_rfl)) rfl ?_)) | (refine so_is (.load 9 _) ?_; (refine so_q (qt_load_box rfl rfl (by kernel_rfl) rfl) rfl ?_)) | (refine so_is (.call ⟨.builtin .len, _, #[9]⟩) ?_; (refine so_q (qt_lenT rfl (by kernel_rfl)) rfl ?_)) | (refine so_is (.pick _ _ _) ?_; (refine so_q (qt_pkC rfl rfl) rfl ?_)) | (refine so_is (.call ⟨.value (.func 53), _, _⟩) ?_; (apply so_call0 (fid := 53); (· (repeat (first | exact SeA.nil | (apply SeA.cons; (· (apply SeP.g; (repeat (first | exact SeL.nil | apply SeL.cons (.d _))))))))); (· exact l12Valid_p _ _ _ (by omega)); (· rfl))) | (refine so_is (.call ⟨.value (.func 45), _, _⟩) ?_; (apply so_call0 (fid := 45); (· (repeat (first | exact SeA.nil | apply SeA.cons (.c (.d _))))); (· exact l1In_p _ _ _); (· rfl))) | refine so_nil ?_ | refine so_g_no rfl rfl rfl rfl ?_ | refine so_g_yes rfl rfl rfl rfl ?_ | refine so_g_b rfl rfl (fun hg => ?_) (fun hg => ?_) | refine sk_seq ?_ | refine sk_skip ?_ | refine sk_region ?_ | refine sk_true rfl ?_ | refine sk_not rfl (fun hc => ?_) (fun hc => ?_))
    all_goals first | (exfalso; simp_all [crashB]; done) | skip
    all_goals (apply sk_ret; apply ret_eq; (· apply RetOK.t; (· (apply GvA.cons; (· exact .tmp _); (· exact GvP.c (.lit _))); (apply GvA.cons; (· exact .tmp _); (· exact GvP.c (.lit _))); exact GvA.nil); (· rfl); (· (decide))))
    all_goals rfl
  | true =>
    have hv2 := hv
    simp only [crashB, Bool.and_eq_true] at hv2
    obtain ⟨h1, h2⟩ := hv2
    have hk := inB_iff.1 h2
    have hp : (partZ p 0 keep).length = keep.toNat := by rw [partZ_len (by omega)]; omega
    have e : crashT d p n keep torn = d ++ keptT p keep torn := by unfold crashT; rw [if_pos hv]
    rw [e]
    cases torn with
    | false =>
      have e2 : keptT p keep false = partZ p 0 keep := rfl
      rw [e2]
      refine pc_intro Tryd.func23 rfl rfl rfl (by kernel_rfl) rfl rfl ?_; intro _
      repeat' (first | (refine so_is (.box 31 _) ?_; refine so_box rfl rfl ?_) | (refine so_is (.assign _) ?_; (refine so_q (qt_asC rfl) rfl ?_)) | (refine so_is (.load 31 _) ?_; (refine so_q (qt_load_boxs rfl rfl (by kernel_rfl : tAgg _ 31 3 = true) rfl) rfl ?_)) | (refine so_is (.unOp .not 4 _) ?_; refine so_q (qt_not rfl) rfl ?_) | (refine so_is (.move _) ?_; (refine so_q (qt_mvC rfl) rfl ?_)) | (refine so_is (.fieldAddr 31 _ 1) ?_; (refine so_q (qt_fld_lp (off := 1) rfl (by kernel_rfl)) rfl ?_)) | (refine so_is (.load 9 _) ?_; (refine so_q (qt_load_box rfl rfl (by kernel_rfl) rfl) rfl ?_)) | (refine so_is (.call ⟨.builtin .len, _, #[9]⟩) ?_; (refine so_q (qt_lenT rfl (by kernel_rfl)) rfl ?_)) | (refine so_is (.pick _ _ _) ?_; (refine so_q (qt_pkC rfl rfl) rfl ?_)) | (refine so_is (.slice 9 _ none (some _) none) ?_; (refine so_q (qt_sliceT01 rfl rfl (by kernel_rfl) (by (omega)) (by (omega))) rfl ?_)) | (refine so_is (.convert 9 53 _) ?_; (apply so_convTB; (· rfl); (· kernel_rfl); (· rfl); (intro g cap z e))) | (refine so_is (.fieldAddr 31 _ 0) ?_; (refine so_q (qt_fld_lp (off := 0) rfl (by kernel_rfl)) rfl ?_)) | (refine so_is (.convert 53 9 _) ?_; ((apply so_convBV (b := 24); (· rfl); (· rfl); (· (omega)); (· (omega)); (· kernel_rfl); (· rfl)))) | (refine so_is (.binOp .add 9 _ _ _) ?_; (refine so_q (qt_addT rfl rfl (by (omega))) rfl ?_)) | (refine so_is (.call ⟨.value (.func 53), _, _⟩) ?_; (apply so_call0 (fid := 53); (· (repeat (first | exact SeA.nil | (apply SeA.cons; (· (apply SeP.g; (repeat (first | exact SeL.nil | apply SeL.cons (.d _))))))))); (· exact l12Valid_p _ _ _ (by omega)); (· rfl))) | (refine so_is (.call ⟨.value (.func 45), _, _⟩) ?_; (apply so_call0 (fid := 45); (· (repeat (first | exact SeA.nil | apply SeA.cons (.c (.d _))))); (· exact l1In_p _ _ _); (· rfl))) | refine so_nil ?_ | refine so_g_no rfl rfl rfl rfl ?_ | refine so_g_yes rfl rfl rfl rfl ?_ | refine so_g_b rfl rfl (fun hg => ?_) (fun hg => ?_) | refine sk_seq ?_ | refine sk_skip ?_ | refine sk_region ?_ | refine sk_true rfl ?_ | refine sk_false rfl ?_ | refine sk_not rfl (fun hc => ?_) (fun hc => ?_))
      all_goals first | (exfalso; simp_all; done) | skip
      all_goals (apply sk_ret; apply ret_eq; (· apply RetOK.t; (· (apply GvA.cons; (· exact .tmp _); (· exact GvP.c (.lit _))); (apply GvA.cons; (· exact .tmp _); (· exact GvP.c (.lit _))); exact GvA.nil); (· rfl); (· (decide))))
      all_goals rfl
    | true =>
      by_cases h0 : 0 < keep
      · have e2 : keptT p keep true = tornT (partZ p 0 keep) (keep - 1).toNat := by unfold keptT; rw [if_pos (by simpa using h0)]
        rw [e2]
        have hl2 : (tornT (partZ p 0 keep) (keep - 1).toNat).length = (partZ p 0 keep).length := tornT_len _ _
        refine pc_intro Tryd.func23 rfl rfl rfl (by kernel_rfl) rfl rfl ?_; intro _
        repeat' (first | (refine so_is (.box 31 _) ?_; refine so_box rfl rfl ?_) | (refine so_is (.assign _) ?_; (refine so_q (qt_asC rfl) rfl ?_)) | (refine so_is (.load 31 _) ?_; (refine so_q (qt_load_boxs rfl rfl (by kernel_rfl : tAgg _ 31 3 = true) rfl) rfl ?_)) | (refine so_is (.unOp .not 4 _) ?_; refine so_q (qt_not rfl) rfl ?_) | (refine so_is (.move _) ?_; (refine so_q (qt_mvC rfl) rfl ?_)) | (refine so_is (.fieldAddr 31 _ 1) ?_; (refine so_q (qt_fld_lp (off := 1) rfl (by kernel_rfl)) rfl ?_)) | (refine so_is (.load 9 _) ?_; (refine so_q (qt_load_box rfl rfl (by kernel_rfl) rfl) rfl ?_)) | (refine so_is (.call ⟨.builtin .len, _, #[9]⟩) ?_; (refine so_q (qt_lenT rfl (by kernel_rfl)) rfl ?_)) | (refine so_is (.pick _ _ _) ?_; (refine so_q (qt_pkC rfl rfl) rfl ?_)) | (refine so_is (.slice 9 _ none (some _) none) ?_; (refine so_q (qt_sliceT01 rfl rfl (by kernel_rfl) (by (omega)) (by (omega))) rfl ?_)) | (refine so_is (.convert 9 53 _) ?_; (apply so_convTB; (· rfl); (· kernel_rfl); (· rfl); (intro g cap z e))) | (refine so_is (.binOp .gtr 3 _ _ _) ?_; refine so_q (qt_gtr rfl rfl) rfl ?_) | (refine so_is (.binOp .sub 3 _ _ _) ?_; (refine so_q (qt_subI rfl rfl (by (omega))) rfl ?_)) | (refine so_is (.indexAddr 53 _ _) ?_; (refine so_q (qt_idx_bv rfl rfl (by kernel_rfl) (by (omega)) (by (omega))) rfl ?_)) | (refine so_is (.load 5 _) ?_; (refine so_q (qt_load_bv (b := 24) rfl rfl (by (omega)) (by kernel_rfl)) rfl ?_)) | (refine so_is (.binOp .sub 5 _ _ _) ?_; (refine so_q (qt_subY rfl rfl) rfl ?_)) | (refine so_is (.store 5 _ _) ?_; ((apply so_store_bv (b := 24); (· rfl); (· rfl); (· rfl); (· (omega)); (· kernel_rfl); (· rfl); skip))) | (refine so_is (.fieldAddr 31 _ 0) ?_; (refine so_q (qt_fld_lp (off := 0) rfl (by kernel_rfl)) rfl ?_)) | (refine so_is (.convert 53 9 _) ?_; ((apply so_convBV (b := 24); (· rfl); (· rfl); (· (omega)); (· (omega)); (· kernel_rfl); (· rfl)))) | (refine so_is (.binOp .add 9 _ _ _) ?_; (refine so_q (qt_addT rfl rfl (by (omega))) rfl ?_)) | (refine so_is (.call ⟨.value (.func 53), _, _⟩) ?_; (apply so_call0 (fid := 53); (· (repeat (first | exact SeA.nil | (apply SeA.cons; (· (apply SeP.g; (repeat (first | exact SeL.nil | apply SeL.cons (.d _))))))))); (· exact l12Valid_p _ _ _ (by omega)); (· rfl))) | (refine so_is (.call ⟨.value (.func 45), _, _⟩) ?_; (apply so_call0 (fid := 45); (· (repeat (first | exact SeA.nil | apply SeA.cons (.c (.d _))))); (· exact l1In_p _ _ _); (· rfl))) | refine so_nil ?_ | refine so_g_no rfl rfl rfl rfl ?_ | refine so_g_yes rfl rfl rfl rfl ?_ | refine so_g_b rfl rfl (fun hg => ?_) (fun hg => ?_) | refine sk_seq ?_ | refine sk_skip ?_ | refine sk_region ?_ | refine sk_true rfl ?_ | refine sk_if rfl (fun hc => ?_) (fun hc => ?_) | refine sk_not rfl (fun hc => ?_) (fun hc => ?_))
        all_goals first | (exfalso; simp_all; done) | (exfalso; omega) | skip
        all_goals (apply sk_ret; apply ret_eq; (· apply RetOK.t; (· (apply GvA.cons; (· exact .tmp _); (· exact GvP.c (.lit _))); (apply GvA.cons; (· exact .tmp _); (· exact GvP.c (.lit _))); exact GvA.nil); (· rfl); (· (decide))))
        all_goals rfl
      · have e2 : keptT p keep true = partZ p 0 keep := by unfold keptT; rw [if_neg (by simpa using h0)]
        rw [e2]
        refine pc_intro Tryd.func23 rfl rfl rfl (by kernel_rfl) rfl rfl ?_; intro _
        repeat' (first | (refine so_is (.box 31 _) ?_; refine so_box rfl rfl ?_) | (refine so_is (.assign _) ?_; (refine so_q (qt_asC rfl) rfl ?_)) | (refine so_is (.load 31 _) ?_; (refine so_q (qt_load_boxs rfl rfl (by kernel_rfl : tAgg _ 31 3 = true) rfl) rfl ?_)) | (refine so_is (.unOp .not 4 _) ?_; refine so_q (qt_not rfl) rfl ?_) | (refine so_is (.move _) ?_; (refine so_q (qt_mvC rfl) rfl ?_)) | (refine so_is (.fieldAddr 31 _ 1) ?_; (refine so_q (qt_fld_lp (off := 1) rfl (by kernel_rfl)) rfl ?_)) | (refine so_is (.load 9 _) ?_; (refine so_q (qt_load_box rfl rfl (by kernel_rfl) rfl) rfl ?_)) | (refine so_is (.call ⟨.builtin .len, _, #[9]⟩) ?_; (refine so_q (qt_lenT rfl (by kernel_rfl)) rfl ?_)) | (refine so_is (.pick _ _ _) ?_; (refine so_q (qt_pkC rfl rfl) rfl ?_)) | (refine so_is (.slice 9 _ none (some _) none) ?_; (refine so_q (qt_sliceT01 rfl rfl (by kernel_rfl) (by (omega)) (by (omega))) rfl ?_)) | (refine so_is (.convert 9 53 _) ?_; (apply so_convTB; (· rfl); (· kernel_rfl); (· rfl); (intro g cap z e))) | (refine so_is (.binOp .gtr 3 _ _ _) ?_; refine so_q (qt_gtr rfl rfl) rfl ?_) | (refine so_is (.binOp .sub 3 _ _ _) ?_; (refine so_q (qt_subI rfl rfl (by (omega))) rfl ?_)) | (refine so_is (.indexAddr 53 _ _) ?_; (refine so_q (qt_idx_bv rfl rfl (by kernel_rfl) (by (omega)) (by (omega))) rfl ?_)) | (refine so_is (.load 5 _) ?_; (refine so_q (qt_load_bv (b := 24) rfl rfl (by (omega)) (by kernel_rfl)) rfl ?_)) | (refine so_is (.binOp .sub 5 _ _ _) ?_; (refine so_q (qt_subY rfl rfl) rfl ?_)) | (refine so_is (.store 5 _ _) ?_; ((apply so_store_bv (b := 24); (· rfl); (· rfl); (· rfl); (· (omega)); (· kernel_rfl); (· rfl); skip))) | (refine so_is (.fieldAddr 31 _ 0) ?_; (refine so_q (qt_fld_lp (off := 0) rfl (by kernel_rfl)) rfl ?_)) | (refine so_is (.convert 53 9 _) ?_; ((apply so_convBV (b := 24); (· rfl); (· rfl); (· (omega)); (· (omega)); (· kernel_rfl); (· rfl)))) | (refine so_is (.binOp .add 9 _ _ _) ?_; (refine so_q (qt_addT rfl rfl (by (omega))) rfl ?_)) | (refine so_is (.call ⟨.value (.func 53), _, _⟩) ?_; (apply so_call0 (fid := 53); (· (repeat (first | exact SeA.nil | (apply SeA.cons; (· (apply SeP.g; (repeat (first | exact SeL.nil | apply SeL.cons (.d _))))))))); (· exact l12Valid_p _ _ _ (by omega)); (· rfl))) | (refine so_is (.call ⟨.value (.func 45), _, _⟩) ?_; (apply so_call0 (fid := 45); (· (repeat (first | exact SeA.nil | apply SeA.cons (.c (.d _))))); (· exact l1In_p _ _ _); (· rfl))) | refine so_nil ?_ | refine so_g_no rfl rfl rfl rfl ?_ | refine so_g_yes rfl rfl rfl rfl ?_ | refine so_g_b rfl rfl (fun hg => ?_) (fun hg => ?_) | refine sk_seq ?_ | refine sk_skip ?_ | refine sk_region ?_ | refine sk_true rfl ?_ | refine sk_if rfl (fun hc => ?_) (fun hc => ?_) | refine sk_not rfl (fun hc => ?_) (fun hc => ?_))
        all_goals first | (exfalso; simp_all; done) | (exfalso; omega) | skip
        all_goals (apply sk_ret; apply ret_eq; (· apply RetOK.t; (· (apply GvA.cons; (· exact .tmp _); (· exact GvP.c (.lit _))); (apply GvA.cons; (· exact .tmp _); (· exact GvP.c (.lit _))); exact GvA.nil); (· rfl); (· (decide))))
        all_goals rfl

end Go.Proofs.YtdnkmgbbkggmdaaDoor

namespace Go.Proofs.YtdnkmgbbkggmdaaDoor
open Go.RowKit
set_option linter.unusedSectionVars false
variable [Glb]
set_option maxRecDepth 10000
set_option maxHeartbeats 4000000
open Go.Shelf Go.Proofs
def Tryd.lays219_ren_stringslite_Index_one : Go.Shelf.Ren := ⟨fun | 219 => 86 | 217 => 95 | 225 => 96 | 224 => 97 | 267 => 98 | 266 => 106 | 314 => 107 | n => n, fun | 9 => 9 | 3 => 3 | 4 => 4 | 5 => 5 | 46 => 103 | 146 => 123 | 51 => 118 | n => n, fun | 1 => 0 | n => n⟩
theorem Tryd.lays219_stringslite_Index_one : Go.Proofs.Lays.n219 Tryd.prog Tryd.lays219_ren_stringslite_Index_one := {
  mixed := by kernel_rfl
  f217 := Tryd.func95.trans (congrArg some (by kernel_rfl))
  f219 := Tryd.func86.trans (congrArg some (by kernel_rfl))
  f224 := Tryd.func97.trans (congrArg some (by kernel_rfl))
  f225 := Tryd.func96.trans (congrArg some (by kernel_rfl))
  f266 := Tryd.func106.trans (congrArg some (by kernel_rfl))
  f267 := Tryd.func98.trans (congrArg some (by kernel_rfl))
  f314 := Tryd.func107.trans (congrArg some (by kernel_rfl))
  t3 := Tryd.underlying3
  a3 := Tryd.isAgg3
  z3 := Tryd.sizeOf3
  v3 := Tryd.zeroValue3
  t4 := Tryd.underlying4
  a4 := Tryd.isAgg4
  z4 := Tryd.sizeOf4
  v4 := Tryd.zeroValue4
  t5 := Tryd.underlying5
  a5 := Tryd.isAgg5
  z5 := Tryd.sizeOf5
  v5 := Tryd.zeroValue5
  t9 := Tryd.underlying9
  a9 := Tryd.isAgg9
  z9 := Tryd.sizeOf9
  v9 := Tryd.zeroValue9
  t46 := Tryd.underlying103
  a46 := Tryd.isAgg103
  z46 := Tryd.sizeOf103
  v46 := Tryd.zeroValue103
  t51 := Tryd.underlying118
  a51 := Tryd.isAgg118
  z51 := Tryd.sizeOf118
  v51 := Tryd.zeroValue118
  t146 := Tryd.underlying123
  a146 := Tryd.isAgg123
  z146 := Tryd.sizeOf123
  v146 := Tryd.zeroValue123
  g1 := by kernel_rfl }
open Go.RowKit Go.Lib in
theorem Tryd.stringslite_Index_one (s : ByteArray) (c : UInt8) (w : World) :
    Calls Tryd.prog 86 #[.string s, .string ⟨#[c]⟩] w fun e w' => e = .returned (.int .i64 (Lib.indexByte s.data.toList c)) ∧ w' = w := Any.stringslite_Index_one Tryd.lays219_stringslite_Index_one s c w

end Go.Proofs.YtdnkmgbbkggmdaaDoor

namespace Go.Proofs.YtdnkmgbbkggmdaaDoor
open Go.RowKit
set_option linter.unusedSectionVars false
variable [Glb]
set_option maxRecDepth 10000
set_option maxHeartbeats 4000000
theorem ixB_hit {c : UInt8} : ∀ {s : Tx}, c ∈ s → Go.Lib.indexByte s c = ((bef c s).length : Int)
  | [], h => by cases h
  | x :: r, h => by
    unfold Go.Lib.indexByte
    by_cases hx : x = c
    · subst hx; simp [bef]
    · have hr : c ∈ r := by rcases List.mem_cons.1 h with e | e; exact absurd e.symm hx; exact e
      have := ixB_hit hr
      rw [if_neg (by simpa using hx), this, bef, if_neg hx]
      rw [if_neg (by rw [beq_iff_eq]; omega), List.length_cons]; omega
theorem ixB_miss {c : UInt8} : ∀ {s : Tx}, c ∉ s → Go.Lib.indexByte s c = -1
  | [], h => rfl
  | x :: r, h => by
    rw [List.mem_cons, not_or] at h
    unfold Go.Lib.indexByte
    rw [if_neg (by simpa using Ne.symm h.1), ixB_miss h.2]; rfl
theorem ixB_has (c : UInt8) (s : Tx) : decide (0 ≤ Go.Lib.indexByte s c) = s.contains c := by
  by_cases h : c ∈ s
  · rw [ixB_hit h]; simp [h]
  · rw [ixB_miss h]; simp [h]
theorem bsT_list (s : Tx) : (bsT s).data.toList = s := by simp [bsT]

end Go.Proofs.YtdnkmgbbkggmdaaDoor

namespace Go.Proofs.YtdnkmgbbkggmdaaDoor
open Go.RowKit
set_option linter.unusedSectionVars false
variable [Glb]
set_option maxRecDepth 10000
set_option maxHeartbeats 4000000
theorem strIndex_p (s : Tx) (c : UInt8) : PC Tryd.prog 86 [.c (dT s), .c (dT [c])] (.p (.c (dI (Go.Lib.indexByte s c)))) :=
  pc_lit2 (Go.Proofs.enters_of Tryd.func86 (by kernel_rfl) rfl) rfl fun w _ => (Tryd.stringslite_Index_one (bsT s) c w).mono (by
    rintro e w' ⟨rfl, rfl⟩; rw [bsT_list]; exact ⟨rfl, .refl _ _⟩)

end Go.Proofs.YtdnkmgbbkggmdaaDoor

namespace Go.Proofs.YtdnkmgbbkggmdaaDoor
open Go.RowKit
set_option linter.unusedSectionVars false
variable [Glb]
set_option maxRecDepth 10000
set_option maxHeartbeats 4000000
theorem cut_hit {s : Tx} {c : UInt8} (h : c ∈ s) : partZ s 0 ((bef c s).length : Int) = bef c s ∧ partZ s ((bef c s).length + 1) s.length = aft c s := by
  obtain ⟨e, -⟩ := split_at_b h
  have e2 := congrArg List.length e
  generalize bef c s = x at *
  generalize aft c s = y at *
  subst e
  simp only [List.length_append, List.length_cons] at e2
  constructor
  · simp [partZ]
  · have : ((x.length : Int) + 1).toNat = x.length + 1 := by omega
    have h2 : (x ++ c :: y).drop (x.length + 1) = y := by
      rw [show (x ++ c :: y) = (x ++ [c]) ++ y by simp]; exact List.drop_left' (by simp)
    simp only [partZ, this]
    rw [h2, List.take_of_length_le]
    simp; omega
theorem cut0_p (s : Tx) (c : UInt8) : PC Tryd.prog 84 [.c (dT s), .c (dT [c])] (.t [.c (dT (bef c s)), .c (dT (aft c s)), .c (dB (s.contains c))]) := by
  refine pc_intro Tryd.func84 rfl rfl rfl (by kernel_rfl) rfl rfl ?_; rintro ⟨hl, hc, -⟩
  have hl := FitT hl
  have hc := FitT hc
  by_cases h : c ∈ s
  · obtain ⟨e, -⟩ := split_at_b h
    have e2 := congrArg List.length e
    have e3 := ixB_hit h
    obtain ⟨e4, e5⟩ := cut_hit h
    have e6 : s.contains c = true := by simp [h]
    simp only [List.length_append, List.length_cons] at e2
    clear e
    repeat' (first | (refine so_is (.assign _) ?_; (refine so_q (qt_asC rfl) rfl ?_)) | (refine so_is (.move _) ?_; (refine so_q (qt_mvC rfl) rfl ?_)) | (refine so_is (.binOp .geq 3 _ _ _) ?_; refine so_q (qt_geq rfl rfl) rfl ?_) | (refine so_is (.slice 9 _ none (some _) none) ?_; (refine so_q (qt_sliceT01 rfl rfl (by kernel_rfl) (by (omega)) (by (omega))) rfl ?_)) | (refine so_is (.call ⟨.builtin .len, _, #[9]⟩) ?_; (refine so_q (qt_lenT rfl (by kernel_rfl)) rfl ?_)) | (refine so_is (.binOp .add 3 _ _ _) ?_; refine so_q (qt_addI rfl rfl (by ((simp at *; omega)))) rfl ?_) | (refine so_is (.slice 9 _ (some _) none none) ?_; (refine so_q (qt_sliceT10 rfl rfl (by kernel_rfl) (by (omega)) (by ((simp at *; omega)))) rfl ?_)) | (refine so_is (.call ⟨.value (.func 86), _, _⟩) ?_; (apply so_call0 (fid := 86); (· (repeat (first | exact SeA.nil | apply SeA.cons (.c (.d _))))); (· exact strIndex_p _ _); (· rfl))) | refine so_nil ?_ | refine sk_seq ?_ | refine sk_skip ?_ | refine sk_region ?_ | refine sk_drawQ 3 (fun _ => false) (.step 0 true (.step 1 true (.step 2 true (.step 3 true (.step 4 true (.step 5 true (.step 6 true (.step 7 true (.step 8 true (.step 9 true (.step 10 true (.step 11 true .nil)))))))))))) [(0, 4095, 4095, true), (0, 4095, 4095, true), (3, 4092, 4095, true), (0, 4095, 4095, true), (0, 4095, 4095, true), (0, 4095, 4095, true), (32, 4063, 4095, true), (80, 4015, 4095, true), (136, 3959, 4095, true), (7, 4091, 4095, true), (1023, 3839, 4095, true), (2047, 4095, 4095, true)] (by kernel_rfl) (by kernel_rfl) ?_ | refine sk_if rfl (fun hc => ?_) (fun hc => ?_))
    all_goals first | (exfalso; omega) | skip
    all_goals (apply sk_ret; apply ret_eq; (· apply RetOK.t; (· (apply GvA.cons; (· exact .tmp _); (· exact GvP.c (.lit _))); (apply GvA.cons; (· exact .tmp _); (· exact GvP.c (.lit _))); (apply GvA.cons; (· exact .tmp _); (· exact GvP.c (.lit _))); exact GvA.nil); (· rfl); (· (decide))))
    all_goals rw [e3] at *
    all_goals simp [e4, e5, h]
  · have e3 := ixB_miss h
    have e4 := bef_miss h
    have e5 := aft_miss h
    repeat' (first | (refine so_is (.assign _) ?_; (refine so_q (qt_asC rfl) rfl ?_)) | (refine so_is (.move _) ?_; (refine so_q (qt_mvC rfl) rfl ?_)) | (refine so_is (.binOp .geq 3 _ _ _) ?_; refine so_q (qt_geq rfl rfl) rfl ?_) | (refine so_is (.slice 9 _ none (some _) none) ?_; (refine so_q (qt_sliceT01 rfl rfl (by kernel_rfl) (by (omega)) (by (omega))) rfl ?_)) | (refine so_is (.call ⟨.builtin .len, _, #[9]⟩) ?_; (refine so_q (qt_lenT rfl (by kernel_rfl)) rfl ?_)) | (refine so_is (.binOp .add 3 _ _ _) ?_; refine so_q (qt_addI rfl rfl (by (omega))) rfl ?_) | (refine so_is (.slice 9 _ (some _) none none) ?_; (refine so_q (qt_sliceT10 rfl rfl (by kernel_rfl) (by (omega)) (by (omega))) rfl ?_)) | (refine so_is (.call ⟨.value (.func 86), _, _⟩) ?_; (apply so_call0 (fid := 86); (· (repeat (first | exact SeA.nil | apply SeA.cons (.c (.d _))))); (· exact strIndex_p _ _); (· rfl))) | refine so_nil ?_ | refine sk_seq ?_ | refine sk_skip ?_ | refine sk_region ?_ | refine sk_drawQ 3 (fun _ => false) (.step 0 true (.step 1 true (.step 2 true (.step 3 true (.step 4 true (.step 5 true (.step 6 true (.step 7 true (.step 8 true (.step 9 true (.step 10 true (.step 11 true .nil)))))))))))) [(0, 4095, 4095, true), (0, 4095, 4095, true), (3, 4092, 4095, true), (0, 4095, 4095, true), (0, 4095, 4095, true), (0, 4095, 4095, true), (32, 4063, 4095, true), (80, 4015, 4095, true), (136, 3959, 4095, true), (7, 4091, 4095, true), (1023, 3839, 4095, true), (2047, 4095, 4095, true)] (by kernel_rfl) (by kernel_rfl) ?_ | refine sk_if rfl (fun hc => ?_) (fun hc => ?_))
    all_goals first | (exfalso; omega) | skip
    all_goals (apply sk_ret; apply ret_eq; (· apply RetOK.t; (· (apply GvA.cons; (· exact .tmp _); (· exact GvP.c (.lit _))); (apply GvA.cons; (· exact .tmp _); (· exact GvP.c (.lit _))); (apply GvA.cons; (· exact .tmp _); (· exact GvP.c (.lit _))); exact GvA.nil); (· rfl); (· (decide))))
    all_goals simp [e4, e5, h]
    all_goals rfl
theorem cut_p (s : Tx) (c : UInt8) : PC Tryd.prog 75 [.c (dT s), .c (dT [c])] (.t [.c (dT (bef c s)), .c (dT (aft c s)), .c (dB (s.contains c))]) := by
  refine pc_intro Tryd.func75 rfl rfl rfl (by kernel_rfl) rfl rfl ?_; intro _
  repeat' (first | (refine so_is (.assign _) ?_; (refine so_q (qt_asC rfl) rfl ?_)) | (refine so_is (.move _) ?_; (refine so_q (qt_mvC rfl) rfl ?_)) | (refine so_is (.extract _ _) ?_; refine so_q (qt_extract rfl rfl) rfl ?_) | (refine so_is (.call ⟨.value (.func 84), _, _⟩) ?_; (apply so_call0 (fid := 84); (· (repeat (first | exact SeA.nil | apply SeA.cons (.c (.d _))))); (· exact cut0_p _ _); (· rfl))) | refine so_nil ?_ | refine sk_seq ?_ | refine sk_region ?_)
  (apply sk_ret; apply ret_eq; (· apply RetOK.t; (· (apply GvA.cons; (· exact .tmp _); (· exact GvP.c (.lit _))); (apply GvA.cons; (· exact .tmp _); (· exact GvP.c (.lit _))); (apply GvA.cons; (· exact .tmp _); (· exact GvP.c (.lit _))); exact GvA.nil); (· rfl); (· (decide))))
  rfl

end Go.Proofs.YtdnkmgbbkggmdaaDoor

namespace Go.Proofs.YtdnkmgbbkggmdaaDoor
open Go.RowKit
set_option linter.unusedSectionVars false
variable [Glb]
set_option maxRecDepth 10000
set_option maxHeartbeats 4000000
def tabNm : String := (Rows.fnExactEncodeRecordRow.laid.getD 2 (default, .nil)).1

end Go.Proofs.YtdnkmgbbkggmdaaDoor

namespace Go.Proofs.YtdnkmgbbkggmdaaDoor
open Go.RowKit
set_option linter.unusedSectionVars false
variable [Glb]
set_option maxRecDepth 10000
set_option maxHeartbeats 4000000
open Go.Shelf Go.Proofs
def Tryd.laysM171_ren_strconv_Itoa : Go.Shelf.Ren := ⟨fun | 171 => 50 | 243 => 72 | 246 => 83 | 283 => 87 | 284 => 88 | 285 => 89 | 286 => 90 | 129 => 100 | 317 => 99 | 318 => 101 | 319 => 102 | 320 => 103 | 337 => 108 | 338 => 109 | n => n, fun | 3 => 3 | 9 => 9 | 2 => 2 | 4 => 4 | 171 => 104 | 0 => 0 | 53 => 77 | 37 => 53 | 5 => 5 | 173 => 107 | 212 => 117 | 51 => 118 | 20 => 20 | 213 => 119 | 46 => 103 | 232 => 126 | 233 => 127 | n => n, fun | 17 => 1 | 18 => 2 | 19 => 3 | n => n⟩
theorem Tryd.laysM171_strconv_Itoa : Go.Proofs.LaysM.n171 Tryd.prog Tryd.laysM171_ren_strconv_Itoa := {
  mixed := by kernel_rfl
  f129 := Tryd.func100.trans (congrArg some (by kernel_rfl))
  f171 := Tryd.func50.trans (congrArg some (by kernel_rfl))
  f243 := Tryd.func72.trans (congrArg some (by kernel_rfl))
  f246 := Tryd.func83.trans (congrArg some (by kernel_rfl))
  f283 := Tryd.func87.trans (congrArg some (by kernel_rfl))
  f284 := Tryd.func88.trans (congrArg some (by kernel_rfl))
  f285 := Tryd.func89.trans (congrArg some (by kernel_rfl))
  f286 := Tryd.func90.trans (congrArg some (by kernel_rfl))
  f317 := Tryd.func99.trans (congrArg some (by kernel_rfl))
  f318 := Tryd.func101.trans (congrArg some (by kernel_rfl))
  f319 := Tryd.func102.trans (congrArg some (by kernel_rfl))
  f320 := Tryd.func103.trans (congrArg some (by kernel_rfl))
  f337 := Tryd.func108.trans (congrArg some (by kernel_rfl))
  f338 := Tryd.func109.trans (congrArg some (by kernel_rfl))
  t0 := Tryd.underlying0
  a0 := Tryd.isAgg0
  z0 := Tryd.sizeOf0
  v0 := Tryd.zeroValue0
  t2 := Tryd.underlying2
  a2 := Tryd.isAgg2
  z2 := Tryd.sizeOf2
  v2 := Tryd.zeroValue2
  t3 := Tryd.underlying3
  a3 := Tryd.isAgg3
  z3 := Tryd.sizeOf3
  v3 := Tryd.zeroValue3
  t4 := Tryd.underlying4
  a4 := Tryd.isAgg4
  z4 := Tryd.sizeOf4
  v4 := Tryd.zeroValue4
  t5 := Tryd.underlying5
  a5 := Tryd.isAgg5
  z5 := Tryd.sizeOf5
  v5 := Tryd.zeroValue5
  t9 := Tryd.underlying9
  a9 := Tryd.isAgg9
  z9 := Tryd.sizeOf9
  v9 := Tryd.zeroValue9
  t20 := Tryd.underlying20
  a20 := Tryd.isAgg20
  z20 := Tryd.sizeOf20
  v20 := Tryd.zeroValue20
  t37 := Tryd.underlying53
  a37 := Tryd.isAgg53
  z37 := Tryd.sizeOf53
  v37 := Tryd.zeroValue53
  t46 := Tryd.underlying103
  a46 := Tryd.isAgg103
  z46 := Tryd.sizeOf103
  v46 := Tryd.zeroValue103
  t51 := Tryd.underlying118
  a51 := Tryd.isAgg118
  z51 := Tryd.sizeOf118
  v51 := Tryd.zeroValue118
  t53 := Tryd.underlying77
  a53 := Tryd.isAgg77
  z53 := Tryd.sizeOf77
  v53 := Tryd.zeroValue77
  t171 := Tryd.underlying104
  a171 := Tryd.isAgg104
  z171 := Tryd.sizeOf104
  v171 := Tryd.zeroValue104
  t173 := Tryd.underlying107
  a173 := Tryd.isAgg107
  z173 := Tryd.sizeOf107
  v173 := Tryd.zeroValue107
  t212 := Tryd.underlying117
  a212 := Tryd.isAgg117
  z212 := Tryd.sizeOf117
  v212 := Tryd.zeroValue117
  t213 := Tryd.underlying119
  a213 := Tryd.isAgg119
  z213 := Tryd.sizeOf119
  t232 := Tryd.underlying126
  a232 := Tryd.isAgg126
  z232 := Tryd.sizeOf126
  v232 := Tryd.zeroValue126
  t233 := Tryd.underlying127
  a233 := Tryd.isAgg127
  z233 := Tryd.sizeOf127
  v233 := Tryd.zeroValue127
  g17 := by kernel_rfl
  g18 := by kernel_rfl
  g19 := by kernel_rfl
  i0 := by kernel_rfl
  i2 := by kernel_rfl
  i3 := by kernel_rfl
  i4 := by kernel_rfl
  i5 := by kernel_rfl
  i9 := by kernel_rfl
  i20 := by kernel_rfl
  i37 := by kernel_rfl
  i46 := by kernel_rfl
  i51 := by kernel_rfl
  i53 := by kernel_rfl
  i171 := by kernel_rfl
  i173 := by kernel_rfl
  i212 := by kernel_rfl
  i232 := by kernel_rfl
  i233 := by kernel_rfl
  m17 := by kernel_rfl
  m18 := by kernel_rfl
  m19 := by kernel_rfl }
open Go.RowKit Go.Sort Go.Lib in
theorem Tryd.strconv_Itoa (n : Int) (h0 : -9223372036854775808 ≤ n) (h1 : n ≤ 9223372036854775807) (w : World) (htab : Lib.TabIs Tryd.prog w tabNm .u64 Lib.pow10Tab) :
    Calls Tryd.prog 50 #[.int .i64 n] w fun e w' => e = .returned (.string ⟨(Lib.itoa n).toArray⟩) ∧ ∃ k os, w' = grow (w.drewN k) os := Any.strconv_Itoa Tryd.laysM171_strconv_Itoa n h0 h1 w htab

end Go.Proofs.YtdnkmgbbkggmdaaDoor

namespace Go.Proofs.YtdnkmgbbkggmdaaDoor
open Go.RowKit
set_option linter.unusedSectionVars false
variable [Glb]
variable [GTab Tryd.prog tabNm]
set_option maxRecDepth 10000
set_option maxHeartbeats 4000000
theorem itoa_p (n : Nat) (h : n ≤ 1000000) : PC Tryd.prog 50 [.c (dI n)] (.p (.c (dT (numT n)))) :=
  pc_lit1 (Go.Proofs.enters_of Tryd.func50 (by kernel_rfl) rfl) (by
    have := (numT_len 6 n (by omega)).2
    simp [sc, bsT_size]; omega) fun w ok => (Tryd.strconv_Itoa (n : Int) (by omega) (by omega) w (GTab.tab w ok)).mono (by
    rintro e w' ⟨rfl, k, os, rfl⟩
    refine ⟨by rw [Go.Lib.itoa_nonneg]; rfl, ⟨rfl, rfl, rfl, ?_, fun g hg => ?_⟩⟩
    · simp [Go.Sort.grow, World.drewN]
    · simp only [Go.Sort.grow, World.drewN]; rw [Array.getElem?_append_left hg])

end Go.Proofs.YtdnkmgbbkggmdaaDoor

namespace Go.Proofs.YtdnkmgbbkggmdaaDoor
open Go.RowKit
set_option linter.unusedSectionVars false
variable [Glb]
set_option maxRecDepth 10000
set_option maxHeartbeats 4000000
open Go.Shelf Go.Proofs
def Tryd.lays144_ren_strings_Contains_one : Go.Shelf.Ren := ⟨fun | 144 => 70 | 143 => 82 | 219 => 86 | 217 => 95 | 225 => 96 | 224 => 97 | 267 => 98 | 266 => 106 | 314 => 107 | n => n, fun | 9 => 9 | 4 => 4 | 3 => 3 | 5 => 5 | 46 => 103 | 146 => 123 | 51 => 118 | n => n, fun | 1 => 0 | n => n⟩
theorem Tryd.lays144_strings_Contains_one : Go.Proofs.Lays.n144 Tryd.prog Tryd.lays144_ren_strings_Contains_one := {
  mixed := by kernel_rfl
  f143 := Tryd.func82.trans (congrArg some (by kernel_rfl))
  f144 := Tryd.func70.trans (congrArg some (by kernel_rfl))
  f217 := Tryd.func95.trans (congrArg some (by kernel_rfl))
  f219 := Tryd.func86.trans (congrArg some (by kernel_rfl))
  f224 := Tryd.func97.trans (congrArg some (by kernel_rfl))
  f225 := Tryd.func96.trans (congrArg some (by kernel_rfl))
  f266 := Tryd.func106.trans (congrArg some (by kernel_rfl))
  f267 := Tryd.func98.trans (congrArg some (by kernel_rfl))
  f314 := Tryd.func107.trans (congrArg some (by kernel_rfl))
  t3 := Tryd.underlying3
  a3 := Tryd.isAgg3
  z3 := Tryd.sizeOf3
  v3 := Tryd.zeroValue3
  t4 := Tryd.underlying4
  a4 := Tryd.isAgg4
  z4 := Tryd.sizeOf4
  v4 := Tryd.zeroValue4
  t5 := Tryd.underlying5
  a5 := Tryd.isAgg5
  z5 := Tryd.sizeOf5
  v5 := Tryd.zeroValue5
  t9 := Tryd.underlying9
  a9 := Tryd.isAgg9
  z9 := Tryd.sizeOf9
  v9 := Tryd.zeroValue9
  t46 := Tryd.underlying103
  a46 := Tryd.isAgg103
  z46 := Tryd.sizeOf103
  v46 := Tryd.zeroValue103
  t51 := Tryd.underlying118
  a51 := Tryd.isAgg118
  z51 := Tryd.sizeOf118
  v51 := Tryd.zeroValue118
  t146 := Tryd.underlying123
  a146 := Tryd.isAgg123
  z146 := Tryd.sizeOf123
  v146 := Tryd.zeroValue123
  g1 := by kernel_rfl }
open Go.RowKit Go.Lib in
theorem Tryd.strings_Contains_one (s : ByteArray) (c : UInt8) (w : World) :
    Calls Tryd.prog 70 #[.string s, .string ⟨#[c]⟩] w fun e w' => e = .returned (.bool (decide (0 ≤ Lib.indexByte s.data.toList c))) ∧ w' = w := Any.strings_Contains_one Tryd.lays144_strings_Contains_one s c w

end Go.Proofs.YtdnkmgbbkggmdaaDoor

namespace Go.Proofs.YtdnkmgbbkggmdaaDoor
open Go.RowKit
set_option linter.unusedSectionVars false
variable [Glb]
set_option maxRecDepth 10000
set_option maxHeartbeats 4000000
theorem strContains_p (s : Tx) (c : UInt8) : PC Tryd.prog 70 [.c (dT s), .c (dT [c])] (.p (.c (dB (s.contains c)))) :=
  pc_lit2 (Go.Proofs.enters_of Tryd.func70 (by kernel_rfl) rfl) rfl fun w _ => (Tryd.strings_Contains_one (bsT s) c w).mono (by
    rintro e w' ⟨rfl, rfl⟩; rw [bsT_list, ixB_has]; exact ⟨rfl, .refl _ _⟩)

end Go.Proofs.YtdnkmgbbkggmdaaDoor

namespace Go.Proofs.YtdnkmgbbkggmdaaDoor
open Go.RowKit
set_option linter.unusedSectionVars false
variable [Glb]
set_option maxRecDepth 10000
set_option maxHeartbeats 4000000
theorem checksum_p (s : Tx) : PC Tryd.prog 71 [.c (dT s)] (.p (.c (dI (sumN s)))) := by
  refine pc_intro Tryd.func71 rfl rfl rfl (by kernel_rfl) rfl rfl ?_; rintro ⟨hl, -⟩
  have hl := FitT hl
  repeat' (first | (refine so_is (.assign _) ?_; (refine so_q (qt_asC rfl) rfl ?_)) | (refine so_is (.move _) ?_; (refine so_q (qt_mvC rfl) rfl ?_)) | (refine so_is (.call ⟨.builtin .len, _, #[9]⟩) ?_; (refine so_q (qt_lenT rfl (by kernel_rfl)) rfl ?_)) | refine so_nil ?_ | refine sk_seq ?_ | refine sk_block ?_ | refine sk_region ?_)
  apply sk_packC [0, 3, 6, 7] [] rfl; (· (repeat (first | exact Pf.nil | apply Pf.cons (.c rfl (.d rfl))))); (· (repeat (exact Pb.nil)))
  refine sk_loopL [0, 6] [] (fun k => [(3, iN (sumN (s.take k))), (7, iN k)]) (fun _ => []) (fun k => k ≤ s.length) (fun k => s.length - k) (0) ?_ (by (repeat (first | exact trivial | refine ⟨(by (rfl)), ?_⟩))) (by (repeat (exact trivial))) ?_
  · simp
  rintro k hk
  have h0 := sumN_lt (s.take k)
  have hb := byt_lt s k
  by_cases h : k < s.length
  · have e : ((41 * (sumN (s.take k) : Int) + byt s k + 1) % 999979) = (sumN (s.take (k + 1)) : Int) := by rw [sumN_take h, byt_nat h]; omega
    repeat' (first | (refine so_is (.assign _) ?_; (refine so_q (qt_asC rfl) rfl ?_)) | (refine so_is (.move _) ?_; (refine so_q (qt_mvC rfl) rfl ?_)) | (refine so_is (.binOp .lss 3 _ _ _) ?_; refine so_q (qt_lss rfl rfl) rfl ?_) | (refine so_is (.binOp .mul 3 _ _ _) ?_; refine so_q (qt_mulI rfl rfl (by (omega))) rfl ?_) | (refine so_is (.index 9 _ _) ?_; (refine so_q (qt_indexT rfl rfl (by kernel_rfl) (by (omega)) (by (omega))) rfl ?_)) | (refine so_is (.convert 5 3 _) ?_; (refine so_q (qt_convI (k' := .i64) rfl (by kernel_rfl) (by kernel_rfl) (by (exact IntWalk.i64_in _ (by (omega))))) rfl ?_)) | (refine so_is (.binOp .add 3 _ _ _) ?_; refine so_q (qt_addI rfl rfl (by (omega))) rfl ?_) | (refine so_is (.binOp .rem 3 _ _ _) ?_; (refine so_q (qt_remN rfl rfl (by (omega)) (by (omega)) (by (omega))) rfl ?_)) | refine so_nil ?_ | refine sk_seq ?_ | refine sk_block ?_ | refine sk_blk ?_ | refine sk_exit rfl ?_ | refine sk_skip ?_ | refine sk_region ?_ | refine sk_if rfl (fun hc => ?_) (fun hc => ?_))
    all_goals first | (exfalso; omega) | skip
    refine sk_back ?_; refine ⟨k + 1, ?_, ?_, le_at rfl (by (repeat (first | exact trivial | refine ⟨(by (first | rfl | (refine int_eq rfl ?_; (omega)))), ?_⟩))) (by (repeat (first | exact trivial | refine ⟨rfl, ?_⟩))) (by (repeat (exact trivial))) (by (repeat (exact trivial)))⟩
    · omega
    · omega
  · repeat' (first | (refine so_is (.assign _) ?_; (refine so_q (qt_asC rfl) rfl ?_)) | (refine so_is (.move _) ?_; (refine so_q (qt_mvC rfl) rfl ?_)) | (refine so_is (.binOp .lss 3 _ _ _) ?_; refine so_q (qt_lss rfl rfl) rfl ?_) | (refine so_is (.binOp .mul 3 _ _ _) ?_; refine so_q (qt_mulI rfl rfl (by (omega))) rfl ?_) | (refine so_is (.index 9 _ _) ?_; (refine so_q (qt_indexT rfl rfl (by kernel_rfl) (by (omega)) (by (omega))) rfl ?_)) | (refine so_is (.convert 5 3 _) ?_; (refine so_q (qt_convI (k' := .i64) rfl (by kernel_rfl) (by kernel_rfl) (by (exact IntWalk.i64_in _ (by (omega))))) rfl ?_)) | (refine so_is (.binOp .add 3 _ _ _) ?_; refine so_q (qt_addI rfl rfl (by (omega))) rfl ?_) | (refine so_is (.binOp .rem 3 _ _ _) ?_; (refine so_q (qt_remN rfl rfl (by (omega)) (by (omega)) (by (omega))) rfl ?_)) | refine so_nil ?_ | refine sk_seq ?_ | refine sk_block ?_ | refine sk_blk ?_ | refine sk_exit rfl ?_ | refine sk_skip ?_ | refine sk_region ?_ | refine sk_if rfl (fun hc => ?_) (fun hc => ?_))
    all_goals first | (exfalso; omega) | skip
    have : k = s.length := by omega
    subst this
    (apply sk_ret; apply ret_eq; (· apply RetOK.p; (· (apply GvA.cons; (· exact .tmp _); (· exact GvP.c (.lit _))); exact GvA.nil); (· (decide))))
    simp

end Go.Proofs.YtdnkmgbbkggmdaaDoor

namespace Go.Proofs.YtdnkmgbbkggmdaaDoor
open Go.RowKit
set_option linter.unusedSectionVars false
variable [Glb]
variable [GTab Tryd.prog tabNm]
set_option maxRecDepth 10000
set_option maxHeartbeats 4000000
def acOK (s : Tx) : Bool := decide (s.length ≤ 4000) && !s.contains 35 && decide ((sealT s).length ≤ 4000)
def acT (s : Tx) : Tx := if acOK s = true then sealT s else []
theorem AppendChecksum_p (s : Tx) : PC Tryd.prog 49 [.c (dT s)] (.t [.c (dT (acT s)), .c (dB (acOK s))]) := by
  have h0 := sumN_lt s
  have h1 := (numS s).2
  refine pc_intro Tryd.func49 rfl rfl rfl (by kernel_rfl) rfl rfl ?_; intro _
  by_cases hk : s.length ≤ 4000
  · by_cases hc : 35 ∈ s
    · have e : acOK s = false := by simp [acOK, hc]
      repeat' (first | (refine so_is (.assign _) ?_; (refine so_q (qt_asC rfl) rfl ?_)) | (refine so_is (.move _) ?_; (refine so_q (qt_mvC rfl) rfl ?_)) | (refine so_is (.call ⟨.builtin .len, _, #[9]⟩) ?_; (refine so_q (qt_lenT rfl (by kernel_rfl)) rfl ?_)) | (refine so_is (.binOp .gtr 3 _ _ _) ?_; refine so_q (qt_gtr rfl rfl) rfl ?_) | (refine so_is (.pick _ _ _) ?_; (refine so_q (qt_pkC rfl rfl) rfl ?_)) | (refine so_is (.binOp .add 9 _ _ _) ?_; (refine so_q (qt_addT rfl rfl (by ((simp at *; omega)))) rfl ?_)) | (refine so_is (.call ⟨.value (.func 70), _, _⟩) ?_; (apply so_call0 (fid := 70); (· (repeat (first | exact SeA.nil | apply SeA.cons (.c (.d _))))); (· exact strContains_p _ 35); (· rfl))) | (refine so_is (.call ⟨.value (.func 71), _, _⟩) ?_; (apply so_call0 (fid := 71); (· (repeat (first | exact SeA.nil | apply SeA.cons (.c (.d _))))); (· exact checksum_p _); (· rfl))) | (refine so_is (.call ⟨.value (.func 50), _, _⟩) ?_; (apply so_call0 (fid := 50); (· (repeat (first | exact SeA.nil | apply SeA.cons (.c (.d _))))); (· exact itoa_p _ (by omega)); (· rfl))) | refine so_nil ?_ | refine so_g_no rfl rfl rfl rfl ?_ | refine so_g_yes rfl rfl rfl rfl ?_ | refine so_g_if rfl rfl (fun hg => ?_) (fun hg => ?_) | refine sk_seq ?_ | refine sk_skip ?_ | refine sk_region ?_ | refine sk_true rfl ?_ | refine sk_if rfl (fun hc => ?_) (fun hc => ?_) | refine sk_cond rfl (fun hc => ?_) (fun hc => ?_))
      all_goals first | (exfalso; simp_all; done) | (exfalso; omega) | skip
      all_goals (apply sk_ret; apply ret_eq; (· apply RetOK.t; (· (apply GvA.cons; (· exact .tmp _); (· exact GvP.c (.lit _))); (apply GvA.cons; (· exact .tmp _); (· exact GvP.c (.lit _))); exact GvA.nil); (· rfl); (· (decide))))
      all_goals simp [acT, e, bsT_nil]
    · by_cases hs : (sealT s).length ≤ 4000
      · have e : acOK s = true := by simp [acOK, hc, hk, hs]
        repeat' (first | (refine so_is (.assign _) ?_; (refine so_q (qt_asC rfl) rfl ?_)) | (refine so_is (.move _) ?_; (refine so_q (qt_mvC rfl) rfl ?_)) | (refine so_is (.call ⟨.builtin .len, _, #[9]⟩) ?_; (refine so_q (qt_lenT rfl (by kernel_rfl)) rfl ?_)) | (refine so_is (.binOp .gtr 3 _ _ _) ?_; refine so_q (qt_gtr rfl rfl) rfl ?_) | (refine so_is (.pick _ _ _) ?_; (refine so_q (qt_pkC rfl rfl) rfl ?_)) | (refine so_is (.binOp .add 9 _ _ _) ?_; (refine so_q (qt_addT rfl rfl (by ((simp at *; omega)))) rfl ?_)) | (refine so_is (.call ⟨.value (.func 70), _, _⟩) ?_; (apply so_call0 (fid := 70); (· (repeat (first | exact SeA.nil | apply SeA.cons (.c (.d _))))); (· exact strContains_p _ 35); (· rfl))) | (refine so_is (.call ⟨.value (.func 71), _, _⟩) ?_; (apply so_call0 (fid := 71); (· (repeat (first | exact SeA.nil | apply SeA.cons (.c (.d _))))); (· exact checksum_p _); (· rfl))) | (refine so_is (.call ⟨.value (.func 50), _, _⟩) ?_; (apply so_call0 (fid := 50); (· (repeat (first | exact SeA.nil | apply SeA.cons (.c (.d _))))); (· exact itoa_p _ (by omega)); (· rfl))) | refine so_nil ?_ | refine so_g_no rfl rfl rfl rfl ?_ | refine so_g_yes rfl rfl rfl rfl ?_ | refine so_g_if rfl rfl (fun hg => ?_) (fun hg => ?_) | refine sk_seq ?_ | refine sk_skip ?_ | refine sk_region ?_ | refine sk_true rfl ?_ | refine sk_if rfl (fun hc => ?_) (fun hc => ?_) | refine sk_cond rfl (fun hc => ?_) (fun hc => ?_))
        all_goals first | (exfalso; simp_all; done) | (exfalso; simp_all [sealT]; omega) | skip
        all_goals (apply sk_ret; apply ret_eq; (· apply RetOK.t; (· (apply GvA.cons; (· exact .tmp _); (· exact GvP.c (.lit _))); (apply GvA.cons; (· exact .tmp _); (· exact GvP.c (.lit _))); exact GvA.nil); (· rfl); (· (decide))))
        all_goals simp [acT, e, sealT]
      · have e : acOK s = false := by simp [acOK, hs]
        repeat' (first | (refine so_is (.assign _) ?_; (refine so_q (qt_asC rfl) rfl ?_)) | (refine so_is (.move _) ?_; (refine so_q (qt_mvC rfl) rfl ?_)) | (refine so_is (.call ⟨.builtin .len, _, #[9]⟩) ?_; (refine so_q (qt_lenT rfl (by kernel_rfl)) rfl ?_)) | (refine so_is (.binOp .gtr 3 _ _ _) ?_; refine so_q (qt_gtr rfl rfl) rfl ?_) | (refine so_is (.pick _ _ _) ?_; (refine so_q (qt_pkC rfl rfl) rfl ?_)) | (refine so_is (.binOp .add 9 _ _ _) ?_; (refine so_q (qt_addT rfl rfl (by ((simp at *; omega)))) rfl ?_)) | (refine so_is (.call ⟨.value (.func 70), _, _⟩) ?_; (apply so_call0 (fid := 70); (· (repeat (first | exact SeA.nil | apply SeA.cons (.c (.d _))))); (· exact strContains_p _ 35); (· rfl))) | (refine so_is (.call ⟨.value (.func 71), _, _⟩) ?_; (apply so_call0 (fid := 71); (· (repeat (first | exact SeA.nil | apply SeA.cons (.c (.d _))))); (· exact checksum_p _); (· rfl))) | (refine so_is (.call ⟨.value (.func 50), _, _⟩) ?_; (apply so_call0 (fid := 50); (· (repeat (first | exact SeA.nil | apply SeA.cons (.c (.d _))))); (· exact itoa_p _ (by omega)); (· rfl))) | refine so_nil ?_ | refine so_g_no rfl rfl rfl rfl ?_ | refine so_g_yes rfl rfl rfl rfl ?_ | refine so_g_if rfl rfl (fun hg => ?_) (fun hg => ?_) | refine sk_seq ?_ | refine sk_skip ?_ | refine sk_region ?_ | refine sk_true rfl ?_ | refine sk_if rfl (fun hc => ?_) (fun hc => ?_) | refine sk_cond rfl (fun hc => ?_) (fun hc => ?_))
        all_goals first | (exfalso; simp_all; done) | (exfalso; simp [sealT] at *; omega) | skip
        all_goals (apply sk_ret; apply ret_eq; (· apply RetOK.t; (· (apply GvA.cons; (· exact .tmp _); (· exact GvP.c (.lit _))); (apply GvA.cons; (· exact .tmp _); (· exact GvP.c (.lit _))); exact GvA.nil); (· rfl); (· (decide))))
        all_goals simp [acT, e, bsT_nil]
  · have e : acOK s = false := by simp [acOK, hk]
    repeat' (first | (refine so_is (.assign _) ?_; (refine so_q (qt_asC rfl) rfl ?_)) | (refine so_is (.move _) ?_; (refine so_q (qt_mvC rfl) rfl ?_)) | (refine so_is (.call ⟨.builtin .len, _, #[9]⟩) ?_; (refine so_q (qt_lenT rfl (by kernel_rfl)) rfl ?_)) | (refine so_is (.binOp .gtr 3 _ _ _) ?_; refine so_q (qt_gtr rfl rfl) rfl ?_) | (refine so_is (.pick _ _ _) ?_; (refine so_q (qt_pkC rfl rfl) rfl ?_)) | refine so_nil ?_ | refine so_g_no rfl rfl rfl rfl ?_ | refine so_g_yes rfl rfl rfl rfl ?_ | refine so_g_if rfl rfl (fun hg => ?_) (fun hg => ?_) | refine sk_seq ?_ | refine sk_region ?_ | refine sk_true rfl ?_)
    all_goals first | (exfalso; simp_all; done) | (exfalso; omega) | skip
    all_goals (apply sk_ret; apply ret_eq; (· apply RetOK.t; (· (apply GvA.cons; (· exact .tmp _); (· exact GvP.c (.lit _))); (apply GvA.cons; (· exact .tmp _); (· exact GvP.c (.lit _))); exact GvA.nil); (· rfl); (· (decide))))
    all_goals simp [acT, e, bsT_nil]

end Go.Proofs.YtdnkmgbbkggmdaaDoor

namespace Go.Proofs.YtdnkmgbbkggmdaaDoor
open Go.RowKit
set_option linter.unusedSectionVars false
variable [Glb]
variable [GTab Tryd.prog tabNm]
set_option maxRecDepth 10000
set_option maxHeartbeats 4000000
def vcOK (l : Tx) : Bool := acOK (bef 35 l) && decide (acT (bef 35 l) = l)
def vcT (l : Tx) : Tx := if vcOK l = true then bef 35 l else []
theorem VerifyChecksum_p (l : Tx) : PC Tryd.prog 76 [.c (dT l)] (.t [.c (dT (vcT l)), .c (dB (vcOK l))]) := by
  refine pc_intro Tryd.func76 rfl rfl rfl (by kernel_rfl) rfl rfl ?_; intro _
  repeat' (first | (refine so_is (.assign _) ?_; (refine so_q (qt_asC rfl) rfl ?_)) | (refine so_is (.move _) ?_; (first | refine so_q (qt_mvC rfl) rfl ?_ | refine so_q (qt_mvT rfl) rfl ?_)) | (refine so_is (.extract _ _) ?_; refine so_q (qt_extract rfl rfl) rfl ?_) | (refine so_is (.unOp .not 4 _) ?_; refine so_q (qt_not rfl) rfl ?_) | (refine so_is (.binOp .neq 9 _ _ _) ?_; (refine so_q (qt_neqT rfl rfl) rfl ?_)) | (refine so_is (.pick _ _ _) ?_; (refine so_q (qt_pkC rfl rfl) rfl ?_)) | (refine so_is (.call ⟨.value (.func 75), _, _⟩) ?_; (apply so_call0 (fid := 75); (· (repeat (first | exact SeA.nil | apply SeA.cons (.c (.d _))))); (· exact cut_p _ 35); (· rfl))) | (refine so_is (.call ⟨.value (.func 49), _, _⟩) ?_; (apply so_call0 (fid := 49); (· (repeat (first | exact SeA.nil | apply SeA.cons (.c (.d _))))); (· exact AppendChecksum_p _); (· rfl))) | refine so_nil ?_ | refine so_g_no rfl rfl rfl rfl ?_ | refine so_g_yes rfl rfl rfl rfl ?_ | refine so_g_b rfl rfl (fun hg => ?_) (fun hg => ?_) | refine sk_seq ?_ | refine sk_skip ?_ | refine sk_region ?_ | refine sk_true rfl ?_ | refine sk_if rfl (fun hc => ?_) (fun hc => ?_))
  all_goals (apply sk_ret; apply ret_eq; (· apply RetOK.t; (· (apply GvA.cons; (· exact .tmp _); (· exact GvP.c (.lit _))); (apply GvA.cons; (· exact .tmp _); (· exact GvP.c (.lit _))); exact GvA.nil); (· rfl); (· (decide))))
  all_goals simp_all [vcT, vcOK, bsT_nil]

end Go.Proofs.YtdnkmgbbkggmdaaDoor

namespace Go.Proofs.YtdnkmgbbkggmdaaDoor
open Go.RowKit
set_option linter.unusedSectionVars false
variable [Glb]
set_option maxRecDepth 10000
set_option maxHeartbeats 4000000
open Go.Shelf Go.Proofs
def Tryd.lays150_ren_strings_ContainsAny_laid : Go.Shelf.Ren := ⟨fun | 150 => 80 | 153 => 85 | 152 => 91 | 226 => 92 | 227 => 93 | 228 => 94 | 137 => 104 | 119 => 105 | 224 => 97 | 225 => 96 | 217 => 95 | 266 => 106 | n => n, fun | 9 => 9 | 4 => 4 | 3 => 3 | 5 => 5 | 21 => 21 | 117 => 112 | 116 => 111 | 0 => 0 | 46 => 103 | 124 => 122 | n => n, fun | n => n⟩
theorem Tryd.lays150_strings_ContainsAny_laid : Go.Proofs.Lays.n150 Tryd.prog Tryd.lays150_ren_strings_ContainsAny_laid := {
  mixed := by kernel_rfl
  f119 := Tryd.func105.trans (congrArg some (by kernel_rfl))
  f137 := Tryd.func104.trans (congrArg some (by kernel_rfl))
  f150 := Tryd.func80.trans (congrArg some (by kernel_rfl))
  f152 := Tryd.func91.trans (congrArg some (by kernel_rfl))
  f153 := Tryd.func85.trans (congrArg some (by kernel_rfl))
  f217 := Tryd.func95.trans (congrArg some (by kernel_rfl))
  f224 := Tryd.func97.trans (congrArg some (by kernel_rfl))
  f225 := Tryd.func96.trans (congrArg some (by kernel_rfl))
  f226 := Tryd.func92.trans (congrArg some (by kernel_rfl))
  f227 := Tryd.func93.trans (congrArg some (by kernel_rfl))
  f228 := Tryd.func94.trans (congrArg some (by kernel_rfl))
  f266 := Tryd.func106.trans (congrArg some (by kernel_rfl))
  t0 := Tryd.underlying0
  a0 := Tryd.isAgg0
  z0 := Tryd.sizeOf0
  v0 := Tryd.zeroValue0
  t3 := Tryd.underlying3
  a3 := Tryd.isAgg3
  z3 := Tryd.sizeOf3
  v3 := Tryd.zeroValue3
  t4 := Tryd.underlying4
  a4 := Tryd.isAgg4
  z4 := Tryd.sizeOf4
  v4 := Tryd.zeroValue4
  t5 := Tryd.underlying5
  a5 := Tryd.isAgg5
  z5 := Tryd.sizeOf5
  v5 := Tryd.zeroValue5
  t9 := Tryd.underlying9
  a9 := Tryd.isAgg9
  z9 := Tryd.sizeOf9
  v9 := Tryd.zeroValue9
  t21 := Tryd.underlying21
  a21 := Tryd.isAgg21
  z21 := Tryd.sizeOf21
  v21 := Tryd.zeroValue21
  t46 := Tryd.underlying103
  a46 := Tryd.isAgg103
  z46 := Tryd.sizeOf103
  v46 := Tryd.zeroValue103
  t116 := Tryd.underlying111
  a116 := Tryd.isAgg111
  z116 := Tryd.sizeOf111
  t117 := Tryd.underlying112
  a117 := Tryd.isAgg112
  z117 := Tryd.sizeOf112
  v117 := Tryd.zeroValue112
  t124 := Tryd.underlying122
  a124 := Tryd.isAgg122
  z124 := Tryd.sizeOf122
  v124 := Tryd.zeroValue122 }
open Go.RowKit Go.Lib in
theorem Tryd.strings_ContainsAny_laid (s chars : ByteArray) (w : World) (hs : s.size < 4294967281) (hcs : chars.size < 4294967281) (has : ∀ (j : Nat) b, s.data.toList[j]? = some b → b.toNat < 128) (hac : ∀ (j : Nat) b, chars.data.toList[j]? = some b → b.toNat < 128) :
    Calls Tryd.prog 80 #[.string s, .string chars] w fun e w' => e = .returned (.bool (Lib.containsAny s.data.toList chars.data.toList)) ∧ Below w.heap.size w w' := Any.strings_ContainsAny_laid Tryd.lays150_strings_ContainsAny_laid (by kernel_rfl) s chars w hs hcs has hac

end Go.Proofs.YtdnkmgbbkggmdaaDoor

namespace Go.Proofs.YtdnkmgbbkggmdaaDoor
open Go.RowKit
set_option linter.unusedSectionVars false
variable [Glb]
set_option maxRecDepth 10000
set_option maxHeartbeats 4000000
theorem ixA_has (o : Tx) : ∀ s : Tx, Go.Lib.containsAny s o = s.any fun b => o.contains b
  | [] => rfl
  | x :: r => by
    have ih := ixA_has o r
    unfold Go.Lib.containsAny at ih
    rw [List.any_cons, ← ih]
    show decide (0 ≤ (if o.contains x then 0 else if Go.Lib.indexAny r o == -1 then -1 else Go.Lib.indexAny r o + 1)) = _
    have := Go.Lib.indexAny_ge o r
    cases h : o.contains x with
    | true => simp
    | false =>
      rw [Bool.false_or]
      by_cases h3 : Go.Lib.indexAny r o = -1
      · simp [h3]
      · have h4 : (Go.Lib.indexAny r o == -1) = false := by simpa using h3
        rw [h4]
        simp only [Bool.false_eq_true, if_false]
        exact decide_eq_decide.2 ⟨fun _ => by omega, fun _ => by omega⟩
theorem containsAny_p (s o : Tx) (h1 : s.length ≤ 4000000) (h2 : o.length ≤ 100) (h3 : ∀ b ∈ s, b.toNat < 128) (h4 : ∀ b ∈ o, b.toNat < 128) : PC Tryd.prog 80 [.c (dT s), .c (dT o)] (.p (.c (dB (s.any fun b => o.contains b)))) :=
  pc_lit2 (Go.Proofs.enters_of Tryd.func80 (by kernel_rfl) rfl) rfl fun w _ => (Tryd.strings_ContainsAny_laid (bsT s) (bsT o) w (by rw [bsT_size]; omega) (by rw [bsT_size]; omega) (fun j b hb => h3 b (by rw [bsT_list] at hb; exact List.mem_of_getElem? hb)) (fun j b hb => h4 b (by rw [bsT_list] at hb; exact List.mem_of_getElem? hb))).mono (by
    rintro e w' ⟨rfl, hb⟩; rw [bsT_list, bsT_list, ixA_has]; exact ⟨rfl, hb⟩)

end Go.Proofs.YtdnkmgbbkggmdaaDoor

namespace Go.Proofs.YtdnkmgbbkggmdaaDoor
open Go.RowKit
set_option linter.unusedSectionVars false
variable [Glb]
set_option maxRecDepth 10000
set_option maxHeartbeats 4000000
theorem plB_f {s : Tx} {k : Nat} {most : Int} {o : Tx} (h : k < s.length) (e : byt s k < 32 ∨ 126 < byt s k) : plainB s most o = false := by
  have : s.all plB = false := by
    refine all_f h ?_
    rw [byt_nat h] at e
    simp [plB]; omega
  unfold plainB; rw [this]; rfl
theorem plB_go {s : Tx} {k : Nat} (h : k < s.length) (e : ¬ byt s k < 32) (e2 : ¬ 126 < byt s k) (ht : (s.take k).all plB = true) : (s.take (k + 1)).all plB = true := by
  rw [take_succ_all _ _ _ h, ht, Bool.true_and]
  rw [byt_nat h] at e e2
  simp [plB]; omega
theorem isPlain_p (s o : Tx) (most : Int) (h1 : most ≤ 4000000) (h2 : o.length ≤ 100) (h4 : ∀ b ∈ o, b.toNat < 128) : PC Tryd.prog 63 [.c (dT s), .c (dI most), .c (dT o)] (.p (.c (dB (plainB s most o)))) := by
  refine pc_intro Tryd.func63 rfl rfl rfl (by kernel_rfl) rfl rfl ?_; rintro ⟨hl, -⟩
  have hl := FitT hl
  repeat' (first | (refine so_is (.assign _) ?_; (refine so_q (qt_asC rfl) rfl ?_)) | (refine so_is (.move _) ?_; (refine so_q (qt_mvC rfl) rfl ?_)) | (refine so_is (.call ⟨.builtin .len, _, #[9]⟩) ?_; (refine so_q (qt_lenT rfl (by kernel_rfl)) rfl ?_)) | refine so_nil ?_ | refine sk_seq ?_ | refine sk_block ?_ | refine sk_region ?_)
  apply sk_packC [0, 1, 2, 9, 10] [] rfl; (· (repeat (first | exact Pf.nil | apply Pf.cons (.c rfl (.d rfl))))); (· (repeat (exact Pb.nil)))
  refine sk_loopL [0, 1, 2, 9] [] (fun k => [(10, iN k)]) (fun _ => []) (fun k => k ≤ s.length ∧ (s.take k).all plB = true) (fun k => s.length - k) (0) ?_ (by (repeat (first | exact trivial | refine ⟨(by (rfl)), ?_⟩))) (by (repeat (exact trivial))) ?_
  · simp
  rintro k ⟨hk, ht⟩
  have hb := byt_lt s k
  by_cases h : k < s.length
  · repeat' (first | (refine so_is (.assign _) ?_; (refine so_q (qt_asC rfl) rfl ?_)) | (refine so_is (.move _) ?_; (refine so_q (qt_mvC rfl) rfl ?_)) | (refine so_is (.call ⟨.builtin .len, _, #[9]⟩) ?_; (refine so_q (qt_lenT rfl (by kernel_rfl)) rfl ?_)) | (refine so_is (.binOp .lss 3 _ _ _) ?_; refine so_q (qt_lss rfl rfl) rfl ?_) | (refine so_is (.index 9 _ _) ?_; (refine so_q (qt_indexT rfl rfl (by kernel_rfl) (by (omega)) (by (omega))) rfl ?_)) | (refine so_is (.binOp .lss 5 _ _ _) ?_; refine so_q (qt_lss rfl rfl) rfl ?_) | (refine so_is (.binOp .gtr 5 _ _ _) ?_; refine so_q (qt_gtr rfl rfl) rfl ?_) | (refine so_is (.pick _ _ _) ?_; (refine so_q (qt_pkC rfl rfl) rfl ?_)) | (refine so_is (.binOp .add 3 _ _ _) ?_; refine so_q (qt_addI rfl rfl (by (omega))) rfl ?_) | (refine so_is (.binOp .leq 3 _ _ _) ?_; refine so_q (qt_leq rfl rfl) rfl ?_) | refine so_nil ?_ | refine so_g_no rfl rfl rfl rfl ?_ | refine so_g_yes rfl rfl rfl rfl ?_ | refine so_g_if rfl rfl (fun hg => ?_) (fun hg => ?_) | refine sk_seq ?_ | refine sk_block ?_ | refine sk_blk ?_ | refine sk_exit rfl ?_ | refine sk_skip ?_ | refine sk_region ?_ | refine sk_true rfl ?_ | refine sk_if rfl (fun hc => ?_) (fun hc => ?_))
    all_goals first | (exfalso; omega) | skip
    · (apply sk_ret; apply ret_eq; (· apply RetOK.p; (· (apply GvA.cons; (· exact .tmp _); (· exact GvP.c (.lit _))); exact GvA.nil); (· (decide))))
      rw [plB_f h (.inl (by assumption))]
    · (apply sk_ret; apply ret_eq; (· apply RetOK.p; (· (apply GvA.cons; (· exact .tmp _); (· exact GvP.c (.lit _))); exact GvA.nil); (· (decide))))
      rw [plB_f h (.inr (by omega))]
    · refine sk_back ?_; refine ⟨k + 1, ?_, ?_, le_at rfl (by (repeat (first | exact trivial | refine ⟨(by (rfl)), ?_⟩))) (by (repeat (first | exact trivial | refine ⟨rfl, ?_⟩))) (by (repeat (exact trivial))) (by (repeat (exact trivial)))⟩
      · exact ⟨by omega, plB_go h (by assumption) (by omega) ht⟩
      · omega
  · have : k = s.length := by omega
    subst this
    rw [List.take_length] at ht
    have h3 : ∀ b ∈ s, b.toNat < 128 := fun b hb => by
      have := List.all_eq_true.1 ht b hb
      simp [plB] at this; omega
    by_cases hm : (s.length : Int) ≤ most
    · have h5 : s.length ≤ 4000000 := by omega
      repeat' (first | (refine so_is (.assign _) ?_; (refine so_q (qt_asC rfl) rfl ?_)) | (refine so_is (.move _) ?_; (refine so_q (qt_mvC rfl) rfl ?_)) | (refine so_is (.call ⟨.builtin .len, _, #[9]⟩) ?_; (refine so_q (qt_lenT rfl (by kernel_rfl)) rfl ?_)) | (refine so_is (.binOp .lss 3 _ _ _) ?_; refine so_q (qt_lss rfl rfl) rfl ?_) | (refine so_is (.index 9 _ _) ?_; (refine so_q (qt_indexT rfl rfl (by kernel_rfl) (by (omega)) (by (omega))) rfl ?_)) | (refine so_is (.binOp .lss 5 _ _ _) ?_; refine so_q (qt_lss rfl rfl) rfl ?_) | (refine so_is (.binOp .gtr 5 _ _ _) ?_; refine so_q (qt_gtr rfl rfl) rfl ?_) | (refine so_is (.pick _ _ _) ?_; (refine so_q (qt_pkC rfl rfl) rfl ?_)) | (refine so_is (.binOp .add 3 _ _ _) ?_; refine so_q (qt_addI rfl rfl (by (omega))) rfl ?_) | (refine so_is (.binOp .leq 3 _ _ _) ?_; refine so_q (qt_leq rfl rfl) rfl ?_) | (refine so_is (.unOp .not 4 _) ?_; refine so_q (qt_not rfl) rfl ?_) | (refine so_is (.call ⟨.value (.func 80), _, _⟩) ?_; (apply so_call0 (fid := 80); (· (repeat (first | exact SeA.nil | apply SeA.cons (.c (.d _))))); (· exact containsAny_p _ _ (by assumption) (by assumption) (by assumption) (by assumption)); (· rfl))) | refine so_nil ?_ | refine so_g_no rfl rfl rfl rfl ?_ | refine so_g_yes rfl rfl rfl rfl ?_ | refine so_g_if rfl rfl (fun hg => ?_) (fun hg => ?_) | refine sk_seq ?_ | refine sk_block ?_ | refine sk_blk ?_ | refine sk_exit rfl ?_ | refine sk_skip ?_ | refine sk_region ?_ | refine sk_true rfl ?_ | refine sk_if rfl (fun hc => ?_) (fun hc => ?_))
      all_goals first | (exfalso; omega) | skip
      all_goals (apply sk_ret; apply ret_eq; (· apply RetOK.p; (· (apply GvA.cons; (· exact .tmp _); (· exact GvP.c (.lit _))); exact GvA.nil); (· (decide))))
      all_goals simp [plainB, ht, hm]
    · repeat' (first | (refine so_is (.assign _) ?_; (refine so_q (qt_asC rfl) rfl ?_)) | (refine so_is (.move _) ?_; (refine so_q (qt_mvC rfl) rfl ?_)) | (refine so_is (.call ⟨.builtin .len, _, #[9]⟩) ?_; (refine so_q (qt_lenT rfl (by kernel_rfl)) rfl ?_)) | (refine so_is (.binOp .lss 3 _ _ _) ?_; refine so_q (qt_lss rfl rfl) rfl ?_) | (refine so_is (.index 9 _ _) ?_; (refine so_q (qt_indexT rfl rfl (by kernel_rfl) (by (omega)) (by (omega))) rfl ?_)) | (refine so_is (.binOp .lss 5 _ _ _) ?_; refine so_q (qt_lss rfl rfl) rfl ?_) | (refine so_is (.binOp .gtr 5 _ _ _) ?_; refine so_q (qt_gtr rfl rfl) rfl ?_) | (refine so_is (.pick _ _ _) ?_; (refine so_q (qt_pkC rfl rfl) rfl ?_)) | (refine so_is (.binOp .add 3 _ _ _) ?_; refine so_q (qt_addI rfl rfl (by (omega))) rfl ?_) | (refine so_is (.binOp .leq 3 _ _ _) ?_; refine so_q (qt_leq rfl rfl) rfl ?_) | refine so_nil ?_ | refine so_g_no rfl rfl rfl rfl ?_ | refine so_g_yes rfl rfl rfl rfl ?_ | refine so_g_if rfl rfl (fun hg => ?_) (fun hg => ?_) | refine sk_seq ?_ | refine sk_block ?_ | refine sk_blk ?_ | refine sk_exit rfl ?_ | refine sk_skip ?_ | refine sk_region ?_ | refine sk_true rfl ?_ | refine sk_if rfl (fun hc => ?_) (fun hc => ?_))
      all_goals first | (exfalso; omega) | skip
      all_goals (apply sk_ret; apply ret_eq; (· apply RetOK.p; (· (apply GvA.cons; (· exact .tmp _); (· exact GvP.c (.lit _))); exact GvA.nil); (· (decide))))
      all_goals simp [plainB, ht, hm]

end Go.Proofs.YtdnkmgbbkggmdaaDoor

namespace Go.Proofs.YtdnkmgbbkggmdaaDoor
open Go.RowKit
set_option linter.unusedSectionVars false
variable [Glb]
set_option maxRecDepth 10000
set_option maxHeartbeats 4000000
theorem isCommand_p (s : Tx) : PC Tryd.prog 62 [.c (dT s)] (.p (.c (dB (decide (s ≠ []) && plainB s 160 [35, 64])))) := by
  refine pc_intro Tryd.func62 rfl rfl rfl (by kernel_rfl) rfl rfl ?_; intro _
  repeat' (first | (refine so_is (.assign _) ?_; (refine so_q (qt_asC rfl) rfl ?_)) | (refine so_is (.move _) ?_; (refine so_q (qt_mvC rfl) rfl ?_)) | (refine so_is (.binOp .neq 9 _ _ _) ?_; (refine so_q (qt_neqT rfl rfl) rfl ?_)) | (refine so_is (.pick _ _ _) ?_; (refine so_q (qt_pkC rfl rfl) rfl ?_)) | (refine so_is (.call ⟨.value (.func 63), _, _⟩) ?_; (apply so_call0 (fid := 63); (· (repeat (first | exact SeA.nil | apply SeA.cons (.c (.d _))))); (· exact isPlain_p _ [35, 64] _ (by decide) (by decide) (by decide)); (· rfl))) | refine so_nil ?_ | refine so_g_no rfl rfl rfl rfl ?_ | refine so_g_yes rfl rfl rfl rfl ?_ | refine so_g_if rfl rfl (fun hg => ?_) (fun hg => ?_) | refine sk_seq ?_ | refine sk_region ?_)
  all_goals (apply sk_ret; apply ret_eq; (· apply RetOK.p; (· (apply GvA.cons; (· exact .tmp _); (· exact GvP.c (.lit _))); exact GvA.nil); (· (decide))))
  all_goals simp_all

end Go.Proofs.YtdnkmgbbkggmdaaDoor

namespace Go.Proofs.YtdnkmgbbkggmdaaDoor
open Go.RowKit
set_option linter.unusedSectionVars false
variable [Glb]
set_option maxRecDepth 10000
set_option maxHeartbeats 4000000
theorem IsValidRecord_p (c r : Tx) : PC Tryd.prog 40 [.g [dT c, dT r]] (.p (.c (dB (recB c r)))) := by
  refine pc_intro Tryd.func40 rfl rfl rfl (by kernel_rfl) rfl rfl ?_; intro _
  repeat' (first | (refine so_is (.box 27 _) ?_; refine so_box rfl rfl ?_) | (refine so_is (.assign _) ?_; (refine so_q (qt_asC rfl) rfl ?_)) | (refine so_is (.fieldAddr 27 _ 0) ?_; (refine so_q (qt_fld_lp (off := 0) rfl (by kernel_rfl)) rfl ?_)) | (refine so_is (.load 9 _) ?_; (refine so_q (qt_load_box rfl rfl (by kernel_rfl) rfl) rfl ?_)) | (refine so_is (.move _) ?_; (refine so_q (qt_mvC rfl) rfl ?_)) | (refine so_is (.fieldAddr 27 _ 1) ?_; (refine so_q (qt_fld_lp (off := 1) rfl (by kernel_rfl)) rfl ?_)) | (refine so_is (.pick _ _ _) ?_; (refine so_q (qt_pkC rfl rfl) rfl ?_)) | (refine so_is (.call ⟨.value (.func 62), _, _⟩) ?_; (apply so_call0 (fid := 62); (· (repeat (first | exact SeA.nil | apply SeA.cons (.c (.d _))))); (· exact isCommand_p _); (· rfl))) | (refine so_is (.call ⟨.value (.func 63), _, _⟩) ?_; (apply so_call0 (fid := 63); (· (repeat (first | exact SeA.nil | apply SeA.cons (.c (.d _))))); (· exact isPlain_p _ [35] _ (by decide) (by decide) (by decide)); (· rfl))) | refine so_nil ?_ | refine so_g_no rfl rfl rfl rfl ?_ | refine so_g_yes rfl rfl rfl rfl ?_ | refine so_g_b rfl rfl (fun hg => ?_) (fun hg => ?_) | refine sk_seq ?_ | refine sk_region ?_)
  all_goals (apply sk_ret; apply ret_eq; (· apply RetOK.p; (· (apply GvA.cons; (· exact .tmp _); (· exact GvP.c (.lit _))); exact GvA.nil); (· (decide))))
  all_goals rw [← recB_eq]
  all_goals simp_all

end Go.Proofs.YtdnkmgbbkggmdaaDoor

namespace Go.Proofs.YtdnkmgbbkggmdaaDoor
open Go.RowKit
set_option linter.unusedSectionVars false
variable [Glb]
set_option maxRecDepth 10000
set_option maxHeartbeats 4000000
theorem within_p (n lo hi : Int) : PC Tryd.prog 48 [.c (dI n), .c (dI lo), .c (dI hi)] (.p (.c (dB (inB n lo hi)))) := by
  refine pc_intro Tryd.func48 rfl rfl rfl (by kernel_rfl) rfl rfl ?_; intro _
  repeat' (first | (refine so_is (.assign _) ?_; (refine so_q (qt_asC rfl) rfl ?_)) | (refine so_is (.move _) ?_; (refine so_q (qt_mvC rfl) rfl ?_)) | (refine so_is (.binOp .geq 3 _ _ _) ?_; refine so_q (qt_geq rfl rfl) rfl ?_) | (refine so_is (.binOp .leq 3 _ _ _) ?_; refine so_q (qt_leq rfl rfl) rfl ?_) | (refine so_is (.pick _ _ _) ?_; (refine so_q (qt_pkC rfl rfl) rfl ?_)) | refine so_nil ?_ | refine so_g_no rfl rfl rfl rfl ?_ | refine so_g_yes rfl rfl rfl rfl ?_ | refine so_g_if rfl rfl (fun hg => ?_) (fun hg => ?_) | refine sk_seq ?_ | refine sk_region ?_)
  all_goals ((apply sk_ret; apply ret_eq; (· apply RetOK.p; (· (apply GvA.cons; (· exact .tmp _); (· exact GvP.c (.lit _))); exact GvA.nil); (· (decide)))))
  all_goals (simp [dB, inB, *]; try omega)

end Go.Proofs.YtdnkmgbbkggmdaaDoor

namespace Go.Proofs.YtdnkmgbbkggmdaaDoor
open Go.RowKit
set_option linter.unusedSectionVars false
variable [Glb]
variable [GTab Tryd.prog tabNm]
set_option maxRecDepth 10000
set_option maxHeartbeats 4000000
theorem ac_line {k : Nat} {c r : Tx} (hk : k < 60) (h : RecP c r) : acT (textT k c r) = lineT k c r := by
  have h1 := text_len hk h
  have h2 := seal_len (textT k c r)
  have h3 := text35 (k := k) h
  have : acOK (textT k c r) = true := by simp [acOK, h3]; omega
  simp [acT, this, lineT]
theorem EncodeRecord_no (k : Int) (c r : Tx) (h : (inB k 0 59 && recB c r) = false) : PC Tryd.prog 15 [.c (dI k), .g [dT c, dT r]] (.t [.c (dT []), .c (dB false)]) := by
  refine pc_intro Tryd.func15 rfl rfl rfl (by kernel_rfl) rfl rfl ?_; intro _
  repeat' (first | (refine so_is (.box 27 _) ?_; refine so_box rfl rfl ?_) | (refine so_is (.assign _) ?_; (refine so_q (qt_asC rfl) rfl ?_)) | (refine so_is (.move _) ?_; (refine so_q (qt_mvC rfl) rfl ?_)) | (refine so_is (.unOp .not 4 _) ?_; refine so_q (qt_not rfl) rfl ?_) | (refine so_is (.load 27 _) ?_; (refine so_q (qt_load_boxs rfl rfl (by kernel_rfl : tAgg _ 27 2 = true) rfl) rfl ?_)) | (refine so_is (.pick _ _ _) ?_; (refine so_q (qt_pkC rfl rfl) rfl ?_)) | (refine so_is (.fieldAddr 27 _ 0) ?_; (refine so_q (qt_fld_lp (off := 0) rfl (by kernel_rfl)) rfl ?_)) | (refine so_is (.load 9 _) ?_; (refine so_q (qt_load_box rfl rfl (by kernel_rfl) rfl) rfl ?_)) | (refine so_is (.fieldAddr 27 _ 1) ?_; (refine so_q (qt_fld_lp (off := 1) rfl (by kernel_rfl)) rfl ?_)) | (refine so_is (.call ⟨.value (.func 48), _, _⟩) ?_; (apply so_call0 (fid := 48); (· (repeat (first | exact SeA.nil | apply SeA.cons (.c (.d _))))); (· exact within_p _ _ _); (· rfl))) | (refine so_is (.call ⟨.value (.func 40), _, _⟩) ?_; (apply so_call0 (fid := 40); (· (repeat (first | exact SeA.nil | (apply SeA.cons; (· (apply SeP.g; (repeat (first | exact SeL.nil | apply SeL.cons (.d _))))))))); (· exact IsValidRecord_p _ _); (· rfl))) | refine so_nil ?_ | refine so_g_no rfl rfl rfl rfl ?_ | refine so_g_yes rfl rfl rfl rfl ?_ | refine so_g_b rfl rfl (fun hg => ?_) (fun hg => ?_) | refine sk_seq ?_ | refine sk_skip ?_ | refine sk_region ?_ | refine sk_drawQ 3 (fun _ => false) (.step 0 true (.step 3 true (.step 4 true (.step 7 true (.step 8 true (.step 1 false (.step 2 true (.step 5 true (.step 6 true (.step 9 true (.step 10 false (.step 11 true (.step 12 true (.step 13 true (.step 14 true (.step 15 true .nil)))))))))))))))) [(0, 65535, 65535, true), (1, 65534, 65535, false), (2, 65533, 65535, true), (0, 65535, 65535, true), (8, 65527, 65535, false), (20, 65515, 65535, true), (32, 65503, 65535, true), (0, 65535, 65535, true), (128, 65407, 65535, false), (320, 65215, 65535, true), (514, 65023, 65535, false), (1024, 64511, 65535, true), (2048, 63487, 65535, true), (2048, 63487, 65535, true), (8191, 61439, 65535, true), (32767, 57343, 65535, true)] (by kernel_rfl) (by kernel_rfl) ?_ | refine sk_true rfl ?_ | refine sk_not rfl (fun hc => ?_) (fun hc => ?_))
  all_goals first | (exfalso; simp_all; done) | skip
  all_goals (apply sk_ret; apply ret_eq; (· apply RetOK.t; (· (apply GvA.cons; (· exact .tmp _); (· exact GvP.c (.lit _))); (apply GvA.cons; (· exact .tmp _); (· exact GvP.c (.lit _))); exact GvA.nil); (· rfl); (· (decide))))
  all_goals simp_all [bsT_nil]
theorem EncodeRecord_p (k : Nat) (c r : Tx) (h : k < 60) (hr : recB c r = true) : PC Tryd.prog 15 [.c (dI k), .g [dT c, dT r]] (.t [.c (dT (lineT k c r ++ [10])), .c (dB true)]) := by
  have hp := recB_p hr
  have h1 := text_len h hp
  have h2 := seal_len (textT k c r)
  have h3 := (num60 h).2
  have h4 := hp.cl
  have h5 := hp.rl
  have h6 : inB (k : Int) 0 59 = true := by rw [inB_iff]; omega
  have e := ac_line h hp
  have h7 : (acT (textT k c r)).length ≤ 4000 := by rw [e]; unfold lineT; omega
  unfold textT at h7
  refine pc_intro Tryd.func15 rfl rfl rfl (by kernel_rfl) rfl rfl ?_; intro _
  repeat' (first | (refine so_is (.box 27 _) ?_; refine so_box rfl rfl ?_) | (refine so_is (.assign _) ?_; (refine so_q (qt_asC rfl) rfl ?_)) | (refine so_is (.move _) ?_; (first | refine so_q (qt_mvC rfl) rfl ?_ | refine so_q (qt_mvT rfl) rfl ?_)) | (refine so_is (.unOp .not 4 _) ?_; refine so_q (qt_not rfl) rfl ?_) | (refine so_is (.load 27 _) ?_; (refine so_q (qt_load_boxs rfl rfl (by kernel_rfl : tAgg _ 27 2 = true) rfl) rfl ?_)) | (refine so_is (.pick _ _ _) ?_; (refine so_q (qt_pkC rfl rfl) rfl ?_)) | (refine so_is (.binOp .add 9 _ _ _) ?_; (refine so_q (qt_addT rfl rfl (by ((simp at *; omega)))) rfl ?_)) | (refine so_is (.fieldAddr 27 _ 0) ?_; (refine so_q (qt_fld_lp (off := 0) rfl (by kernel_rfl)) rfl ?_)) | (refine so_is (.load 9 _) ?_; (refine so_q (qt_load_box rfl rfl (by kernel_rfl) rfl) rfl ?_)) | (refine so_is (.fieldAddr 27 _ 1) ?_; (refine so_q (qt_fld_lp (off := 1) rfl (by kernel_rfl)) rfl ?_)) | (refine so_is (.extract _ _) ?_; refine so_q (qt_extract rfl rfl) rfl ?_) | (refine so_is (.call ⟨.value (.func 48), _, _⟩) ?_; (apply so_call0 (fid := 48); (· (repeat (first | exact SeA.nil | apply SeA.cons (.c (.d _))))); (· exact within_p _ _ _); (· rfl))) | (refine so_is (.call ⟨.value (.func 40), _, _⟩) ?_; (apply so_call0 (fid := 40); (· (repeat (first | exact SeA.nil | (apply SeA.cons; (· (apply SeP.g; (repeat (first | exact SeL.nil | apply SeL.cons (.d _))))))))); (· exact IsValidRecord_p _ _); (· rfl))) | (refine so_is (.call ⟨.value (.func 50), _, _⟩) ?_; (apply so_call0 (fid := 50); (· (repeat (first | exact SeA.nil | apply SeA.cons (.c (.d _))))); (· exact itoa_p _ (by omega)); (· rfl))) | (refine so_is (.call ⟨.value (.func 49), _, _⟩) ?_; (apply so_call0 (fid := 49); (· (repeat (first | exact SeA.nil | apply SeA.cons (.c (.d _))))); (· exact AppendChecksum_p _); (· rfl))) | refine so_nil ?_ | refine so_g_no rfl rfl rfl rfl ?_ | refine so_g_yes rfl rfl rfl rfl ?_ | refine so_g_b rfl rfl (fun hg => ?_) (fun hg => ?_) | refine sk_seq ?_ | refine sk_skip ?_ | refine sk_region ?_ | refine sk_drawQ 3 (fun _ => false) (.step 0 true (.step 3 true (.step 4 true (.step 7 true (.step 8 true (.step 1 false (.step 2 true (.step 5 true (.step 6 true (.step 9 true (.step 10 false (.step 11 true (.step 12 true (.step 13 true (.step 14 true (.step 15 true .nil)))))))))))))))) [(0, 65535, 65535, true), (1, 65534, 65535, false), (2, 65533, 65535, true), (0, 65535, 65535, true), (8, 65527, 65535, false), (20, 65515, 65535, true), (32, 65503, 65535, true), (0, 65535, 65535, true), (128, 65407, 65535, false), (320, 65215, 65535, true), (514, 65023, 65535, false), (1024, 64511, 65535, true), (2048, 63487, 65535, true), (2048, 63487, 65535, true), (8191, 61439, 65535, true), (32767, 57343, 65535, true)] (by kernel_rfl) (by kernel_rfl) ?_ | refine sk_true rfl ?_ | refine sk_not rfl (fun hc => ?_) (fun hc => ?_))
  all_goals first | (exfalso; simp_all; done) | skip
  all_goals (apply sk_ret; apply ret_eq; (· apply RetOK.t; (· (apply GvA.cons; (· exact .tmp _); (· exact GvP.c (.lit _))); (apply GvA.cons; (· exact .tmp _); (· exact GvP.c (.lit _))); exact GvA.nil); (· rfl); (· (decide))))
  all_goals rw [show acT (numT k ++ [32] ++ c ++ [64] ++ r) = lineT k c r from e]

end Go.Proofs.YtdnkmgbbkggmdaaDoor

namespace Go.Proofs.YtdnkmgbbkggmdaaDoor
open Go.RowKit
set_option linter.unusedSectionVars false
variable [Glb]
variable [GTab Tryd.prog tabNm]
set_option maxRecDepth 10000
set_option maxHeartbeats 4000000
theorem bef_no (b : UInt8) (s : Tx) : b ∉ bef b s := by
  by_cases h : b ∈ s
  · exact (split_at_b h).2
  · rw [bef_miss h]; exact h
theorem vc_eq (l : Tx) : vcT l = vtxT l := by
  unfold vcT vtxT
  have : vcOK l = verT l := by
    unfold vcOK verT acT
    have h := bef_no 35 l
    have e : acOK (bef 35 l) = (decide ((bef 35 l).length ≤ 4000) && decide ((sealT (bef 35 l)).length ≤ 4000)) := by simp [acOK, h]
    rw [← e]
    cases acOK (bef 35 l) <;> simp
  rw [this]
theorem readRecords_p (s : Tx) (hs : s.length ≤ 1000000) : PC Tryd.prog 52 [.c (dT s)] (.t [.c (eR (recsT s)), .c (eI (endsL s (numR s)))]) := by
  refine pc_intro Tryd.func52 rfl rfl rfl (by kernel_rfl) rfl rfl ?_; intro _
  repeat' (first | (refine so_is (.assign _) ?_; (refine so_q (qt_asC rfl) rfl ?_)) | (refine so_is (.buildSlice 48 0 _) ?_; (apply so_bslice (sz := 2) (by_ := 32); (· kernel_rfl); (· decide); (· (repeat (exact GvS.nil _))); (· (decide)); (· rfl); (· rfl); (· rfl))) | (refine so_is (.buildSlice 71 1 _) ?_; (apply so_bslice (sz := 1) (by_ := 8); (· kernel_rfl); (· decide); (· (repeat (first | exact GvS.nil _ | apply GvS.c rfl rfl (.lit _) rfl))); (· (decide)); (· rfl); (· rfl); (· rfl))) | refine so_nil ?_ | refine sk_seq ?_ | refine sk_block ?_ | refine sk_region ?_)
  apply sk_packC [0, 4, 5, 6] [15, 18, 19, 75, 76, 79, 80] rfl; (· (repeat (first | exact Pf.nil | apply Pf.cons (.c rfl (.d rfl)) | apply Pf.cons (.c rfl (.ls rfl))))); (· (repeat (first | exact Pb.nil | apply Pb.cons (.row rfl) | apply Pb.skip)))
  refine sk_loopL [0] [15, 75, 76, 79, 80] (fun j => [(4, .c (.ls 18 2 0 j)), (5, .c (.ls 19 1 0 (j + 1))), (6, iN (endsT s j))]) (fun j => [(18, .row 2 (recD ((recsT s).take j))), (19, .row 1 (cI (endsL s j)))]) (fun j => j ≤ numR s) (fun j => 60 - j) (0) ?_ (by (repeat (first | exact trivial | refine ⟨(by (rfl)), ?_⟩))) (by (repeat (first | exact trivial | refine ⟨(by ((refine row_eq rfl ?_; simp  [ends_zero, recD, endsL_zero]; done))), ?_⟩))) ?_
  · omega
  intro j hj
  have h60 := log_len s
  have hle := ends_le s j
  have hlr : ((recsT s).take j).length = j := by rw [List.length_take, recs_len]; omega
  have hrl : (recD ((recsT s).take j)).length = j * 2 := by rw [recD_len, hlr]
  have hel : (cI (endsL s j)).length = (j + 1) * 1 := by simp
  have hrest : partZ s (endsT s j) s.length = s.drop (endsT s j) := part_from s _ hle
  have hfin : numR s = j → (recsT s).take j = recsT s ∧ (recsT s).length = j := fun e => ⟨List.take_of_length_le (by rw [recs_len]; omega), (recs_len s).trans e⟩
  have hpl := partZ_le s (endsT s j) s.length
  have hbl := bef_len 10 (partZ s (endsT s j) s.length)
  by_cases h : j < 60
  · by_cases hm : 10 ∈ partZ s (endsT s j) s.length
    · have hd := decI (l := bef 10 (partZ s (endsT s j) s.length)) h
      rw [← vc_eq] at hd
      by_cases hr : recB (bef 64 (aft 32 (vcT (bef 10 (partZ s (endsT s j) s.length))))) (aft 64 (aft 32 (vcT (bef 10 (partZ s (endsT s j) s.length))))) = true
      · by_cases hl : lineT j (bef 64 (aft 32 (vcT (bef 10 (partZ s (endsT s j) s.length))))) (aft 64 (aft 32 (vcT (bef 10 (partZ s (endsT s j) s.length))))) = bef 10 (partZ s (endsT s j) s.length)
        · rw [if_pos ⟨hr, hl⟩] at hd
          have hst : stepT j (s.drop (endsT s j)) = some ((bef 64 (aft 32 (vcT (bef 10 (partZ s (endsT s j) s.length)))), aft 64 (aft 32 (vcT (bef 10 (partZ s (endsT s j) s.length))))), (bef 10 (s.drop (endsT s j))).length + 1) := step_some (by rw [← hrest]; exact hm) (by rw [← hrest]; exact hd)
          obtain ⟨g1, g2, g3⟩ := log_go hj h hst
          rw [← hrest] at g3
          clear hfin hrest hst hd
          repeat' (first | (refine so_is (.assign _) ?_; (refine so_q (qt_asC rfl) rfl ?_)) | (refine so_is (.buildSlice 71 1 _) ?_; (apply so_bslice (sz := 1) (by_ := 8); (· kernel_rfl); (· decide); (· (repeat (first | exact GvS.nil _ | apply GvS.c rfl rfl (.lit _) rfl))); (· (decide)); (· rfl); (· rfl); (· rfl))) | (refine so_is (.move _) ?_; (first | refine so_q (qt_mvC rfl) rfl ?_ | refine so_q (qt_mvT rfl) rfl ?_)) | (refine so_is (.call ⟨.builtin .len, _, #[48]⟩) ?_; (refine so_q (qt_len_ls rfl (by kernel_rfl)) rfl ?_)) | (refine so_is (.binOp .lss 3 _ _ _) ?_; refine so_q (qt_lss rfl rfl) rfl ?_) | (refine so_is (.slice 9 _ (some _) none none) ?_; (refine so_q (qt_sliceT10 rfl rfl (by kernel_rfl) (by (omega)) (by (omega))) rfl ?_)) | (refine so_is (.call ⟨.value (.func 75), _, _⟩) ?_; (first | (apply so_call0 (d := 27) (fid := 75); (· (repeat (first | exact SeA.nil | apply SeA.cons (.c (.d _))))); (· exact cut_p _ 10); (· rfl)) | (apply so_call0 (d := 40) (fid := 75); (· (repeat (first | exact SeA.nil | apply SeA.cons (.c (.d _))))); (· exact cut_p _ 32); (· rfl)) | (apply so_call0 (d := 46) (fid := 75); (· (repeat (first | exact SeA.nil | apply SeA.cons (.c (.d _))))); (· exact cut_p _ 64); (· rfl)))) | (refine so_is (.extract _ _) ?_; refine so_q (qt_extract rfl rfl) rfl ?_) | (refine so_is (.unOp .not 4 _) ?_; refine so_q (qt_not rfl) rfl ?_) | (refine so_is (.build 27 _) ?_; refine so_q (qt_build (cs := [_, _]) [(0, 1), (1, 1)] [.string ByteArray.empty, .string ByteArray.empty] (by kernel_rfl) (by kernel_rfl) rfl) rfl ?_) | (refine so_is (.alloc 27) ?_; refine so_alloc (zs := [.string ByteArray.empty, .string ByteArray.empty]) (by kernel_rfl) rfl ?_) | (refine so_is (.store 27 _ _) ?_; (refine so_store_box rfl rfl rfl (by kernel_rfl) rfl rfl ?_)) | (refine so_is (.load 27 _) ?_; (refine so_q (qt_load_boxs rfl rfl (by kernel_rfl : tAgg _ 27 2 = true) rfl) rfl ?_)) | (refine so_is (.binOp .add 9 _ _ _) ?_; (refine so_q (qt_addT rfl rfl (by ((simp at *; omega)))) rfl ?_)) | (refine so_is (.binOp .neq 9 _ _ _) ?_; (refine so_q (qt_neqT rfl rfl) rfl ?_)) | (refine so_is (.pick _ _ _) ?_; (refine so_q (qt_pkC rfl rfl) rfl ?_)) | (refine so_is (.call ⟨.builtin .len, _, #[9]⟩) ?_; (refine so_q (qt_lenT rfl (by kernel_rfl)) rfl ?_)) | (refine so_is (.binOp .add 3 _ _ _) ?_; refine so_q (qt_addI rfl rfl (by (omega))) rfl ?_) | (refine so_is (.buildSlice 48 1 _) ?_; (apply so_bslice (sz := 2) (by_ := 32); (· kernel_rfl); (· decide); (· (repeat (first | exact GvS.nil _ | (apply GvS.g rfl; (· (repeat (first | exact GvL.nil | apply GvL.cons (.lit _)))); (· rfl))))); (· (decide)); (· rfl); (· rfl); (· rfl))) | (refine so_is (.call ⟨.builtin .append, _, #[48, 48]⟩) ?_; ((apply so_appR (sz := 2) (by_ := 32); (· rfl); (· rfl); (· (assumption)); (· exact .row _ _ _ _ rfl (by ((simp; done)))); (· (decide)); (· kernel_rfl); (· decide); (· (omega)); (· (omega)); (· rfl); (· rfl); (· rfl)))) | (refine so_is (.call ⟨.builtin .append, _, #[71, 71]⟩) ?_; ((apply so_appR (sz := 1) (by_ := 8); (· rfl); (· rfl); (· (assumption)); (· exact .row _ _ _ _ rfl (by ((simp; done)))); (· (decide)); (· kernel_rfl); (· decide); (· (omega)); (· (omega)); (· rfl); (· rfl); (· rfl)))) | (refine so_is (.call ⟨.value (.func 76), _, _⟩) ?_; (apply so_call0 (fid := 76); (· (repeat (first | exact SeA.nil | apply SeA.cons (.c (.d _))))); (· exact VerifyChecksum_p _); (· rfl))) | (refine so_is (.call ⟨.value (.func 15), _, _⟩) ?_; (apply so_call0 (fid := 15); (· (repeat (first | exact SeA.nil | apply SeA.cons (.c (.d _)) | (apply SeA.cons; (· (apply SeP.g; (repeat (first | exact SeL.nil | apply SeL.cons (.d _))))))))); (· exact EncodeRecord_p _ _ _ h hr); (· rfl))) | refine so_nil ?_ | refine so_g_yes rfl rfl rfl rfl ?_ | refine sk_seq ?_ | refine sk_block ?_ | refine sk_blk ?_ | refine sk_exit rfl ?_ | refine sk_skip ?_ | refine sk_region ?_ | refine sk_if rfl (fun hc => ?_) (fun hc => ?_) | refine sk_not rfl (fun hc => ?_) (fun hc => ?_))
          all_goals first | (exfalso; omega) | (exfalso; simp_all; done) | skip
          refine sk_back ?_; refine ⟨j + 1, ?_, ?_, le_at rfl (by (repeat (first | exact trivial | refine ⟨(by (first | rfl | (refine int_eq rfl ?_; (omega)))), ?_⟩))) (by (repeat (first | exact trivial | refine ⟨rfl, ?_⟩))) (by (repeat (first | exact trivial | refine ⟨(by ((refine row_eq rfl ?_; simp  [recs_snoc g2, endsL_snoc, g3, Nat.add_assoc]; done))), ?_⟩))) (by (repeat (first | exact trivial | refine ⟨.inr rfl, ?_⟩ | refine ⟨.inl rfl, ?_⟩)))⟩
          · omega
          · omega
        · rw [if_neg (fun h => hl h.2)] at hd
          have hst := log_stop hj (step_none (by rw [← hrest]; exact hd))
          obtain ⟨f1, f2⟩ := hfin hst
          clear hfin hrest hd
          repeat' (first | (refine so_is (.assign _) ?_; (refine so_q (qt_asC rfl) rfl ?_)) | (refine so_is (.buildSlice 71 1 _) ?_; (apply so_bslice (sz := 1) (by_ := 8); (· kernel_rfl); (· decide); (· (repeat (first | exact GvS.nil _ | apply GvS.c rfl rfl (.lit _) rfl))); (· (decide)); (· rfl); (· rfl); (· rfl))) | (refine so_is (.move _) ?_; (first | refine so_q (qt_mvC rfl) rfl ?_ | refine so_q (qt_mvT rfl) rfl ?_)) | (refine so_is (.call ⟨.builtin .len, _, #[48]⟩) ?_; (refine so_q (qt_len_ls rfl (by kernel_rfl)) rfl ?_)) | (refine so_is (.binOp .lss 3 _ _ _) ?_; refine so_q (qt_lss rfl rfl) rfl ?_) | (refine so_is (.slice 9 _ (some _) none none) ?_; (refine so_q (qt_sliceT10 rfl rfl (by kernel_rfl) (by (omega)) (by (omega))) rfl ?_)) | (refine so_is (.call ⟨.value (.func 75), _, _⟩) ?_; (first | (apply so_call0 (d := 27) (fid := 75); (· (repeat (first | exact SeA.nil | apply SeA.cons (.c (.d _))))); (· exact cut_p _ 10); (· rfl)) | (apply so_call0 (d := 40) (fid := 75); (· (repeat (first | exact SeA.nil | apply SeA.cons (.c (.d _))))); (· exact cut_p _ 32); (· rfl)) | (apply so_call0 (d := 46) (fid := 75); (· (repeat (first | exact SeA.nil | apply SeA.cons (.c (.d _))))); (· exact cut_p _ 64); (· rfl)))) | (refine so_is (.extract _ _) ?_; refine so_q (qt_extract rfl rfl) rfl ?_) | (refine so_is (.unOp .not 4 _) ?_; refine so_q (qt_not rfl) rfl ?_) | (refine so_is (.build 27 _) ?_; refine so_q (qt_build (cs := [_, _]) [(0, 1), (1, 1)] [.string ByteArray.empty, .string ByteArray.empty] (by kernel_rfl) (by kernel_rfl) rfl) rfl ?_) | (refine so_is (.alloc 27) ?_; refine so_alloc (zs := [.string ByteArray.empty, .string ByteArray.empty]) (by kernel_rfl) rfl ?_) | (refine so_is (.store 27 _ _) ?_; (refine so_store_box rfl rfl rfl (by kernel_rfl) rfl rfl ?_)) | (refine so_is (.load 27 _) ?_; (refine so_q (qt_load_boxs rfl rfl (by kernel_rfl : tAgg _ 27 2 = true) rfl) rfl ?_)) | (refine so_is (.binOp .add 9 _ _ _) ?_; (refine so_q (qt_addT rfl rfl (by ((simp at *; omega)))) rfl ?_)) | (refine so_is (.binOp .neq 9 _ _ _) ?_; (refine so_q (qt_neqT rfl rfl) rfl ?_)) | (refine so_is (.pick _ _ _) ?_; (refine so_q (qt_pkC rfl rfl) rfl ?_)) | (refine so_is (.call ⟨.builtin .len, _, #[9]⟩) ?_; (refine so_q (qt_lenT rfl (by kernel_rfl)) rfl ?_)) | (refine so_is (.binOp .add 3 _ _ _) ?_; refine so_q (qt_addI rfl rfl (by (omega))) rfl ?_) | (refine so_is (.buildSlice 48 1 _) ?_; (apply so_bslice (sz := 2) (by_ := 32); (· kernel_rfl); (· decide); (· (repeat (first | exact GvS.nil _ | (apply GvS.g rfl; (· (repeat (first | exact GvL.nil | apply GvL.cons (.lit _)))); (· rfl))))); (· (decide)); (· rfl); (· rfl); (· rfl))) | (refine so_is (.call ⟨.builtin .append, _, #[48, 48]⟩) ?_; ((apply so_appR (sz := 2) (by_ := 32); (· rfl); (· rfl); (· (assumption)); (· exact .row _ _ _ _ rfl (by ((simp; done)))); (· (decide)); (· kernel_rfl); (· decide); (· (omega)); (· (omega)); (· rfl); (· rfl); (· rfl)))) | (refine so_is (.call ⟨.builtin .append, _, #[71, 71]⟩) ?_; ((apply so_appR (sz := 1) (by_ := 8); (· rfl); (· rfl); (· (assumption)); (· exact .row _ _ _ _ rfl (by ((simp; done)))); (· (decide)); (· kernel_rfl); (· decide); (· (omega)); (· (omega)); (· rfl); (· rfl); (· rfl)))) | (refine so_is (.call ⟨.value (.func 76), _, _⟩) ?_; (apply so_call0 (fid := 76); (· (repeat (first | exact SeA.nil | apply SeA.cons (.c (.d _))))); (· exact VerifyChecksum_p _); (· rfl))) | (refine so_is (.call ⟨.value (.func 15), _, _⟩) ?_; (apply so_call0 (fid := 15); (· (repeat (first | exact SeA.nil | apply SeA.cons (.c (.d _)) | (apply SeA.cons; (· (apply SeP.g; (repeat (first | exact SeL.nil | apply SeL.cons (.d _))))))))); (· exact EncodeRecord_p _ _ _ h hr); (· rfl))) | refine so_nil ?_ | refine so_g_yes rfl rfl rfl rfl ?_ | refine sk_seq ?_ | refine sk_block ?_ | refine sk_blk ?_ | refine sk_exit rfl ?_ | refine sk_skip ?_ | refine sk_region ?_ | refine sk_if rfl (fun hc => ?_) (fun hc => ?_) | refine sk_not rfl (fun hc => ?_) (fun hc => ?_))
          all_goals first | (exfalso; omega) | (exfalso; simp_all; done) | skip
          all_goals (apply sk_ret; apply ret_eq; (· apply RetOK.t; (· (apply GvA.cons; (· exact .tmp _); (· (exact GvP.c (.row _ _ _ _ rfl (by (assumption)))))); (apply GvA.cons; (· exact .tmp _); (· (exact GvP.c (.row _ _ _ _ rfl (by (assumption)))))); exact GvA.nil); (· rfl); (· (decide))))
          all_goals simp only [eR, eI, f1, f2, hst, endsL_len]
      · rw [if_neg (fun h => hr h.1)] at hd
        have hst := log_stop hj (step_none (by rw [← hrest]; exact hd))
        obtain ⟨f1, f2⟩ := hfin hst
        clear hfin hrest hd
        repeat' (first | (refine so_is (.assign _) ?_; (refine so_q (qt_asC rfl) rfl ?_)) | (refine so_is (.move _) ?_; (first | refine so_q (qt_mvC rfl) rfl ?_ | refine so_q (qt_mvT rfl) rfl ?_)) | (refine so_is (.call ⟨.builtin .len, _, #[48]⟩) ?_; (refine so_q (qt_len_ls rfl (by kernel_rfl)) rfl ?_)) | (refine so_is (.binOp .lss 3 _ _ _) ?_; refine so_q (qt_lss rfl rfl) rfl ?_) | (refine so_is (.slice 9 _ (some _) none none) ?_; (refine so_q (qt_sliceT10 rfl rfl (by kernel_rfl) (by (omega)) (by (omega))) rfl ?_)) | (refine so_is (.call ⟨.value (.func 75), _, _⟩) ?_; (first | (apply so_call0 (d := 27) (fid := 75); (· (repeat (first | exact SeA.nil | apply SeA.cons (.c (.d _))))); (· exact cut_p _ 10); (· rfl)) | (apply so_call0 (d := 40) (fid := 75); (· (repeat (first | exact SeA.nil | apply SeA.cons (.c (.d _))))); (· exact cut_p _ 32); (· rfl)) | (apply so_call0 (d := 46) (fid := 75); (· (repeat (first | exact SeA.nil | apply SeA.cons (.c (.d _))))); (· exact cut_p _ 64); (· rfl)))) | (refine so_is (.extract _ _) ?_; refine so_q (qt_extract rfl rfl) rfl ?_) | (refine so_is (.unOp .not 4 _) ?_; refine so_q (qt_not rfl) rfl ?_) | (refine so_is (.build 27 _) ?_; refine so_q (qt_build (cs := [_, _]) [(0, 1), (1, 1)] [.string ByteArray.empty, .string ByteArray.empty] (by kernel_rfl) (by kernel_rfl) rfl) rfl ?_) | (refine so_is (.alloc 27) ?_; refine so_alloc (zs := [.string ByteArray.empty, .string ByteArray.empty]) (by kernel_rfl) rfl ?_) | (refine so_is (.store 27 _ _) ?_; (refine so_store_box rfl rfl rfl (by kernel_rfl) rfl rfl ?_)) | (refine so_is (.load 27 _) ?_; (refine so_q (qt_load_boxs rfl rfl (by kernel_rfl : tAgg _ 27 2 = true) rfl) rfl ?_)) | (refine so_is (.pick _ _ _) ?_; (refine so_q (qt_pkC rfl rfl) rfl ?_)) | (refine so_is (.call ⟨.value (.func 76), _, _⟩) ?_; (apply so_call0 (fid := 76); (· (repeat (first | exact SeA.nil | apply SeA.cons (.c (.d _))))); (· exact VerifyChecksum_p _); (· rfl))) | (refine so_is (.call ⟨.value (.func 15), _, _⟩) ?_; (apply so_call0 (fid := 15); (· (repeat (first | exact SeA.nil | apply SeA.cons (.c (.d _)) | (apply SeA.cons; (· (apply SeP.g; (repeat (first | exact SeL.nil | apply SeL.cons (.d _))))))))); (· exact EncodeRecord_no _ _ _ (by simp_all)); (· rfl))) | refine so_nil ?_ | refine so_g_no rfl rfl rfl rfl ?_ | refine sk_seq ?_ | refine sk_block ?_ | refine sk_exit rfl ?_ | refine sk_skip ?_ | refine sk_region ?_ | refine sk_true rfl ?_ | refine sk_if rfl (fun hc => ?_) (fun hc => ?_) | refine sk_not rfl (fun hc => ?_) (fun hc => ?_))
        all_goals first | (exfalso; omega) | (exfalso; simp_all; done) | skip
        all_goals (apply sk_ret; apply ret_eq; (· apply RetOK.t; (· (apply GvA.cons; (· exact .tmp _); (· (exact GvP.c (.row _ _ _ _ rfl (by (assumption)))))); (apply GvA.cons; (· exact .tmp _); (· (exact GvP.c (.row _ _ _ _ rfl (by (assumption)))))); exact GvA.nil); (· rfl); (· (decide))))
        all_goals simp only [eR, eI, f1, f2, hst, endsL_len]
    · have hst := log_stop hj (step_no (by rw [← hrest]; exact hm))
      obtain ⟨f1, f2⟩ := hfin hst
      clear hfin hrest
      repeat' (first | (refine so_is (.assign _) ?_; (refine so_q (qt_asC rfl) rfl ?_)) | (refine so_is (.move _) ?_; (first | refine so_q (qt_mvC rfl) rfl ?_ | refine so_q (qt_mvT rfl) rfl ?_)) | (refine so_is (.call ⟨.builtin .len, _, #[48]⟩) ?_; (refine so_q (qt_len_ls rfl (by kernel_rfl)) rfl ?_)) | (refine so_is (.binOp .lss 3 _ _ _) ?_; refine so_q (qt_lss rfl rfl) rfl ?_) | (refine so_is (.slice 9 _ (some _) none none) ?_; (refine so_q (qt_sliceT10 rfl rfl (by kernel_rfl) (by (omega)) (by (omega))) rfl ?_)) | (refine so_is (.call ⟨.value (.func 75), _, _⟩) ?_; (apply so_call0 (d := 27) (fid := 75); (· (repeat (first | exact SeA.nil | apply SeA.cons (.c (.d _))))); (· exact cut_p _ 10); (· rfl))) | (refine so_is (.extract _ _) ?_; refine so_q (qt_extract rfl rfl) rfl ?_) | (refine so_is (.unOp .not 4 _) ?_; refine so_q (qt_not rfl) rfl ?_) | refine so_nil ?_ | refine sk_seq ?_ | refine sk_block ?_ | refine sk_exit rfl ?_ | refine sk_skip ?_ | refine sk_region ?_ | refine sk_if rfl (fun hc => ?_) (fun hc => ?_) | refine sk_not rfl (fun hc => ?_) (fun hc => ?_))
      all_goals first | (exfalso; omega) | (exfalso; simp_all; done) | skip
      all_goals (apply sk_ret; apply ret_eq; (· apply RetOK.t; (· (apply GvA.cons; (· exact .tmp _); (· (exact GvP.c (.row _ _ _ _ rfl (by (assumption)))))); (apply GvA.cons; (· exact .tmp _); (· (exact GvP.c (.row _ _ _ _ rfl (by (assumption)))))); exact GvA.nil); (· rfl); (· (decide))))
      all_goals simp only [eR, eI, f1, f2, hst, endsL_len]
  · have hst : numR s = j := by omega
    obtain ⟨f1, f2⟩ := hfin hst
    clear hfin hrest
    repeat' (first | (refine so_is (.assign _) ?_; (refine so_q (qt_asC rfl) rfl ?_)) | (refine so_is (.move _) ?_; (refine so_q (qt_mvC rfl) rfl ?_)) | (refine so_is (.call ⟨.builtin .len, _, #[48]⟩) ?_; (refine so_q (qt_len_ls rfl (by kernel_rfl)) rfl ?_)) | (refine so_is (.binOp .lss 3 _ _ _) ?_; refine so_q (qt_lss rfl rfl) rfl ?_) | (refine so_is (.slice 9 _ (some _) none none) ?_; (refine so_q (qt_sliceT10 rfl rfl (by kernel_rfl) (by (omega)) (by (omega))) rfl ?_)) | refine so_nil ?_ | refine sk_seq ?_ | refine sk_block ?_ | refine sk_exit rfl ?_ | refine sk_skip ?_ | refine sk_region ?_ | refine sk_if rfl (fun hc => ?_) (fun hc => ?_))
    all_goals first | (exfalso; omega) | (exfalso; simp_all; done) | skip
    all_goals (apply sk_ret; apply ret_eq; (· apply RetOK.t; (· (apply GvA.cons; (· exact .tmp _); (· (exact GvP.c (.row _ _ _ _ rfl (by (assumption)))))); (apply GvA.cons; (· exact .tmp _); (· (exact GvP.c (.row _ _ _ _ rfl (by (assumption)))))); exact GvA.nil); (· rfl); (· (decide))))
    all_goals simp only [eR, eI, f1, f2, hst, endsL_len]

end Go.Proofs.YtdnkmgbbkggmdaaDoor

namespace Go.Proofs.YtdnkmgbbkggmdaaDoor
open Go.RowKit
set_option linter.unusedSectionVars false
variable [Glb]
set_option maxRecDepth 10000
set_option maxHeartbeats 4000000
def ixI (x : Int) : List Int → Int
  | [] => -1
  | z :: r => if z = x then 0 else if ixI x r = -1 then -1 else ixI x r + 1
theorem ixI_none {x : Int} : ∀ {l : List Int}, x ∉ l → ixI x l = -1
  | [], _ => rfl
  | z :: r, h => by
    rw [List.mem_cons, not_or] at h
    rw [ixI, if_neg (Ne.symm h.1), ixI_none h.2, if_pos rfl]
theorem ixI_at {x : Int} : ∀ {l : List Int} {k : Nat} (h : k < l.length), l[k] = x → x ∉ l.take k → ixI x l = k
  | z :: r, 0, _, e, _ => by rw [ixI, if_pos (by simpa using e)]; rfl
  | z :: r, k + 1, h, e, ht => by
    rw [List.take_succ_cons, List.mem_cons, not_or] at ht
    have := ixI_at (l := r) (k := k) (by simpa using h) (by simpa using e) ht.2
    rw [ixI, if_neg (Ne.symm ht.1), this, if_neg (by omega)]; omega
theorem ixI_has (x : Int) : ∀ l : List Int, -1 ≤ ixI x l ∧ decide (ixI x l ≥ 0) = l.contains x
  | [] => ⟨by simp [ixI], rfl⟩
  | z :: r => by
    obtain ⟨h1, h2⟩ := ixI_has x r
    rw [ixI]
    by_cases hz : z = x
    · rw [if_pos hz]; simp [hz]
    · rw [if_neg hz]
      have : (z :: r).contains x = r.contains x := by
        rw [List.contains_cons]; simp [Ne.symm hz]
      rw [this, ← h2]
      split
      · rename_i e; rw [e]; exact ⟨by omega, rfl⟩
      · exact ⟨by omega, decide_eq_decide.2 ⟨fun _ => by omega, fun _ => by omega⟩⟩
theorem slIndex_p (l : List Int) (x : Int) : PC Tryd.prog 77 [.c (eI l), .c (dI x)] (.p (.c (dI (ixI x l)))) := by
  refine pc_intro Tryd.func77 rfl rfl rfl (by kernel_rfl) rfl rfl ?_; rintro ⟨hl, -⟩
  have hl := hl.len
  repeat' (first | (refine so_is (.assign _) ?_; (refine so_q (qt_asC rfl) rfl ?_)) | (refine so_is (.move _) ?_; (refine so_q (qt_mvC rfl) rfl ?_)) | (refine so_is (.call ⟨.builtin .len, _, #[71]⟩) ?_; (refine so_q (qt_len_d rfl (by kernel_rfl)) rfl ?_)) | refine so_nil ?_ | refine sk_seq ?_ | refine sk_block ?_ | refine sk_region ?_)
  apply sk_packC [0, 1, 7, 8] [] rfl; (· (repeat (first | exact Pf.nil | apply Pf.cons (.c rfl (.d rfl))))); (· (repeat (exact Pb.nil)))
  refine sk_loopL [0, 1, 7] [] (fun k => [(8, iN k)]) (fun _ => []) (fun k => k ≤ l.length ∧ x ∉ l.take k) (fun k => l.length - k) (0) ?_ (by (repeat (first | exact trivial | refine ⟨(by (rfl)), ?_⟩))) (by (repeat (exact trivial))) ?_
  · simp
  rintro k ⟨hk, ht⟩
  by_cases h : k < l.length
  · repeat' (first | (refine so_is (.assign _) ?_; (refine so_q (qt_asC rfl) rfl ?_)) | (refine so_is (.move _) ?_; (refine so_q (qt_mvC rfl) rfl ?_)) | (refine so_is (.binOp .lss 3 _ _ _) ?_; refine so_q (qt_lss rfl rfl) rfl ?_) | (refine so_is (.indexAddr 71 _ _) ?_; (refine so_q (qt_idxI rfl rfl (by kernel_rfl) (by (omega)) (by (omega))) rfl ?_)) | (refine so_is (.load 3 _) ?_; (refine so_q (qt_load_pt rfl (by kernel_rfl) rfl) rfl ?_)) | (refine so_is (.binOp .eql 3 _ _ _) ?_; refine so_q (qt_eql rfl rfl) rfl ?_) | (refine so_is (.binOp .add 3 _ _ _) ?_; refine so_q (qt_addI rfl rfl (by (omega))) rfl ?_) | refine so_nil ?_ | refine sk_seq ?_ | refine sk_block ?_ | refine sk_blk ?_ | refine sk_exit rfl ?_ | refine sk_skip ?_ | refine sk_region ?_ | refine sk_if rfl (fun hc => ?_) (fun hc => ?_))
    all_goals first | (exfalso; omega) | skip
    · (apply sk_ret; apply ret_eq; (· apply RetOK.p; (· (apply GvA.cons; (· exact .tmp _); (· exact GvP.c (.lit _))); exact GvA.nil); (· (decide))))
      have e : l[k] = x := by rw [← atZ_nat h]; apply Eq.symm; assumption
      rw [ixI_at h e ht]
    · refine sk_back ?_; refine ⟨k + 1, ?_, ?_, le_at rfl (by (repeat (first | exact trivial | refine ⟨(by (rfl)), ?_⟩))) (by (repeat (first | exact trivial | refine ⟨rfl, ?_⟩))) (by (repeat (exact trivial))) (by (repeat (exact trivial)))⟩
      · refine ⟨by omega, ?_⟩
        rw [List.take_succ_eq_append_getElem h, List.mem_append, not_or, List.mem_singleton, ← atZ_nat h]
        exact ⟨ht, by assumption⟩
      · omega
  · repeat' (first | (refine so_is (.assign _) ?_; (refine so_q (qt_asC rfl) rfl ?_)) | (refine so_is (.move _) ?_; (refine so_q (qt_mvC rfl) rfl ?_)) | (refine so_is (.binOp .lss 3 _ _ _) ?_; refine so_q (qt_lss rfl rfl) rfl ?_) | (refine so_is (.indexAddr 71 _ _) ?_; (refine so_q (qt_idxI rfl rfl (by kernel_rfl) (by (omega)) (by (omega))) rfl ?_)) | (refine so_is (.load 3 _) ?_; (refine so_q (qt_load_pt rfl (by kernel_rfl) rfl) rfl ?_)) | (refine so_is (.binOp .eql 3 _ _ _) ?_; refine so_q (qt_eql rfl rfl) rfl ?_) | (refine so_is (.binOp .add 3 _ _ _) ?_; refine so_q (qt_addI rfl rfl (by (omega))) rfl ?_) | refine so_nil ?_ | refine sk_seq ?_ | refine sk_block ?_ | refine sk_blk ?_ | refine sk_exit rfl ?_ | refine sk_skip ?_ | refine sk_region ?_ | refine sk_if rfl (fun hc => ?_) (fun hc => ?_))
    all_goals first | (exfalso; omega) | skip
    have : k = l.length := by omega
    subst this
    rw [List.take_length] at ht
    (apply sk_ret; apply ret_eq; (· apply RetOK.p; (· (apply GvA.cons; (· exact .tmp _); (· exact GvP.c (.lit _))); exact GvA.nil); (· (decide))))
    rw [ixI_none ht]
theorem containsI_p (l : List Int) (x : Int) : PC Tryd.prog 54 [.c (eI l), .c (dI x)] (.p (.c (dB (l.contains x)))) := by
  have h := (ixI_has x l).2
  refine pc_intro Tryd.func54 rfl rfl rfl (by kernel_rfl) rfl rfl ?_; intro _
  repeat' (first | (refine so_is (.assign _) ?_; (refine so_q (qt_asC rfl) rfl ?_)) | (refine so_is (.move _) ?_; (refine so_q (qt_mvC rfl) rfl ?_)) | (refine so_is (.binOp .geq 3 _ _ _) ?_; refine so_q (qt_geq rfl rfl) rfl ?_) | (refine so_is (.call ⟨.value (.func 77), _, _⟩) ?_; (apply so_call0 (fid := 77); (· (repeat (first | exact SeA.nil | apply SeA.cons (.c (.d _))))); (· exact slIndex_p _ _); (· rfl))) | refine so_nil ?_ | refine sk_seq ?_ | refine sk_region ?_)
  (apply sk_ret; apply ret_eq; (· apply RetOK.p; (· (apply GvA.cons; (· exact .tmp _); (· exact GvP.c (.lit _))); exact GvA.nil); (· (decide))))
  rw [← h]

end Go.Proofs.YtdnkmgbbkggmdaaDoor
