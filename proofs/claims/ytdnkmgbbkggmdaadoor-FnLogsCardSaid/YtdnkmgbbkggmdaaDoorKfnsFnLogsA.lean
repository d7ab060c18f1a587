/- What the functions that FnLogs reaches return: part of its proof. No condition beyond those of its theorems. -/
import Derived.Test.YtdnkmgbbkggmdaaDoorProg
import Derived.Test.YtdnkmgbbkggmdaaDoorKplainB
import Derived.Test.YtdnkmgbbkggmdaaDoorKplainC
import Derived.WalkKit
import Derived.Test.YtdnkmgbbkggmdaaDoorKplainA
import Derived.Lib.LaidTab
import Derived.Lib.LaidIn
import Derived.Handed
import Derived.Laws.StructEq
import Derived.Test.YtdnkmgbbkggmdaaDoorRows
import Derived.Shelf.Strconv.Itoa3
import Derived.Shelf.Strings.Search3
import Derived.Lib.Bytealg
import Derived.Shelf.Strings.IndexAnyAll
set_option linter.unusedVariables false
set_option linter.unusedSimpArgs false
--plain: PureMisc PureTake PureView PureAlt PurePack PureDag PureQ PureRen PureMany PureSlice Texts PureText Defs
namespace Go.Proofs.YtdnkmgbbkggmdaaDoor
open Go.RowKit
set_option linter.unusedSectionVars false
variable [Glb]

abbrev dI (n : Int) : D := .lit (.int .i64 n)
abbrev dB (b : Bool) : D := .lit (.bool b)
abbrev dS (s : ByteArray) : D := .lit (.string s)
abbrev iN (k : Nat) : FV := .c (.d (dI k))
abbrev iZ (k : Int) : FV := .c (.d (dI k))
/-- a list of numbers, of lists of numbers, of texts -/
abbrev cI (l : List Int) : List D := l.map dI
abbrev eI (l : List Int) : D := .sl 1 l.length (cI l)
abbrev cII (l : List (List Int)) : List D := l.map fun x => eI x
abbrev eII (l : List (List Int)) : D := .sl 1 l.length (cII l)
section
variable {P : Program} {st : St} {dst : Option Tmp} {ty : TypeId} {pos : String} {af : Array Edge} {T : TypeId} {x y : Operand} {k : IntKind} {i : Int}
theorem qt_idxI {l : List Int} (hx : st.ev x = .c (.d (eI l))) (hy : st.ev y = .c (.d (.lit (.int k i)))) (ht : tSl P T 1 = true) (h0 : 0 ≤ i) (h1 : i < l.length) : Qt P ⟨dst, .indexAddr T x y, ty, pos, af, none⟩ st (.c (.d (.pt [dI (atZ l i)]))) :=
  qt_idx hx hy ht h0 h1 (map_at (atZ_some h0 h1))
theorem qt_idxII {l : List (List Int)} (hx : st.ev x = .c (.d (eII l))) (hy : st.ev y = .c (.d (.lit (.int k i)))) (ht : tSl P T 1 = true) (h0 : 0 ≤ i) (h1 : i < l.length) : Qt P ⟨dst, .indexAddr T x y, ty, pos, af, none⟩ st (.c (.d (.pt [eI (atZ l i)]))) :=
  qt_idx hx hy ht h0 h1 (map_at (atZ_some h0 h1))
theorem qt_load_rowI {l : List Int} {b : Nat} {i : Int} (hx : st.ev x = .c (.lp b (0 + i.toNat * 1))) (hb : st.bl b = some (.row 1 (cI l))) (ht : tOne P T = true) (h0 : 0 ≤ i) (h1 : i < l.length) : Qt P ⟨dst, .load T x, ty, pos, af, none⟩ st (.c (.d (dI (atZ l i)))) :=
  qt_load_row hx hb ht (by rw [List.getElem?_map, Nat.zero_add, Nat.mul_one, atZ_some h0 h1]; rfl)
theorem qt_slice_dI11 {l : List Int} {x lo hi : Operand} {kl kh : IntKind} {i j : Int} (hx : st.ev x = .c (.d (eI l))) (hl : st.ev lo = .c (.d (.lit (.int kl i)))) (hh : st.ev hi = .c (.d (.lit (.int kh j)))) (ht : tSl P T 1 = true) (h0 : 0 ≤ i) (h1 : i ≤ j) (h2 : j ≤ l.length) :
    Qt P ⟨dst, .slice T x (some lo) (some hi) none, ty, pos, af, none⟩ st (.c (.d (eI (partZ l i j)))) :=
  qt_slice_d (vl := some (kl, i)) (vh := some (kh, j)) (i := i.toNat) (j := j.toNat) hx (ev_some hl) (ev_some hh) ht ⟨h0, rfl⟩ ⟨by omega, rfl⟩ (by omega) (by omega) (partZ_len h2).symm (by rw [partZ_len h2]; exact map_part l _ i j)
theorem qt_slice_dI10 {l : List Int} {x lo : Operand} {kl : IntKind} {i : Int} (hx : st.ev x = .c (.d (eI l))) (hl : st.ev lo = .c (.d (.lit (.int kl i)))) (ht : tSl P T 1 = true) (h0 : 0 ≤ i) (h1 : i ≤ l.length) :
    Qt P ⟨dst, .slice T x (some lo) none none, ty, pos, af, none⟩ st (.c (.d (eI (partZ l i l.length)))) :=
  qt_slice_d (vl := some (kl, i)) (vh := none) (i := i.toNat) (j := l.length) hx (ev_some hl) (fun _ _ _ _ _ => rfl) ht ⟨h0, rfl⟩ rfl (by omega) (by omega) (by rw [partZ_len (by omega)]; simp) (by rw [partZ_len (by omega)]; exact map_part l _ i l.length)
theorem qt_slice_dI01 {l : List Int} {x hi : Operand} {kh : IntKind} {j : Int} (hx : st.ev x = .c (.d (eI l))) (hh : st.ev hi = .c (.d (.lit (.int kh j)))) (ht : tSl P T 1 = true) (h0 : 0 ≤ j) (h2 : j ≤ l.length) :
    Qt P ⟨dst, .slice T x none (some hi) none, ty, pos, af, none⟩ st (.c (.d (eI (partZ l 0 j)))) :=
  qt_slice_d (vl := none) (vh := some (kh, j)) (i := 0) (j := j.toNat) hx (fun _ _ _ _ _ => rfl) (ev_some hh) ht rfl ⟨h0, rfl⟩ (by omega) (by omega) (by rw [partZ_len h2]; simp) (by rw [partZ_len h2]; simpa using map_part l _ 0 j)
theorem qt_slice_dII11 {l : List (List Int)} {x lo hi : Operand} {kl kh : IntKind} {i j : Int} (hx : st.ev x = .c (.d (eII l))) (hl : st.ev lo = .c (.d (.lit (.int kl i)))) (hh : st.ev hi = .c (.d (.lit (.int kh j)))) (ht : tSl P T 1 = true) (h0 : 0 ≤ i) (h1 : i ≤ j) (h2 : j ≤ l.length) :
    Qt P ⟨dst, .slice T x (some lo) (some hi) none, ty, pos, af, none⟩ st (.c (.d (eII (partZ l i j)))) :=
  qt_slice_d (vl := some (kl, i)) (vh := some (kh, j)) (i := i.toNat) (j := j.toNat) hx (ev_some hl) (ev_some hh) ht ⟨h0, rfl⟩ ⟨by omega, rfl⟩ (by omega) (by omega) (partZ_len h2).symm (by rw [partZ_len h2]; exact map_part l _ i j)
theorem qt_slice_dII10 {l : List (List Int)} {x lo : Operand} {kl : IntKind} {i : Int} (hx : st.ev x = .c (.d (eII l))) (hl : st.ev lo = .c (.d (.lit (.int kl i)))) (ht : tSl P T 1 = true) (h0 : 0 ≤ i) (h1 : i ≤ l.length) :
    Qt P ⟨dst, .slice T x (some lo) none none, ty, pos, af, none⟩ st (.c (.d (eII (partZ l i l.length)))) :=
  qt_slice_d (vl := some (kl, i)) (vh := none) (i := i.toNat) (j := l.length) hx (ev_some hl) (fun _ _ _ _ _ => rfl) ht ⟨h0, rfl⟩ rfl (by omega) (by omega) (by rw [partZ_len (by omega)]; simp) (by rw [partZ_len (by omega)]; exact map_part l _ i l.length)
theorem qt_slice_dII01 {l : List (List Int)} {x hi : Operand} {kh : IntKind} {j : Int} (hx : st.ev x = .c (.d (eII l))) (hh : st.ev hi = .c (.d (.lit (.int kh j)))) (ht : tSl P T 1 = true) (h0 : 0 ≤ j) (h2 : j ≤ l.length) :
    Qt P ⟨dst, .slice T x none (some hi) none, ty, pos, af, none⟩ st (.c (.d (eII (partZ l 0 j)))) :=
  qt_slice_d (vl := none) (vh := some (kh, j)) (i := 0) (j := j.toNat) hx (fun _ _ _ _ _ => rfl) (ev_some hh) ht rfl ⟨h0, rfl⟩ (by omega) (by omega) (by rw [partZ_len h2]; simp) (by rw [partZ_len h2]; simpa using map_part l _ 0 j)
end
end Go.Proofs.YtdnkmgbbkggmdaaDoor

namespace Go.Proofs.YtdnkmgbbkggmdaaDoor
open Go.RowKit
set_option linter.unusedSectionVars false
variable [Glb]
open Go Go.RowKit
/-! readings of bytes -/
theorem pr_u8 {P : Program} {T : TypeId} (hT : P.underlying T = some (.int .u8)) : PR P T fun b : UInt8 => [dY b] := by
  intro H enc W fuel cs x h
  obtain ⟨n, rfl, -, wf⟩ := DataW.trod_int hT h
  have hn : 0 ≤ n ∧ n ≤ 255 := by
    simpa [Lit.wf, IntKind.min, IntKind.max, IntKind.signed, IntKind.bits] using wf
  have e : ((UInt8.ofNat n.toNat).toNat : Int) = n := by rw [UInt8.toNat_ofNat']; omega
  refine ⟨UInt8.ofNat n.toNat, ?_⟩
  have : VwD W [Value.int .u8 n] [D.lit (.int .u8 n)] := .one (.lit _ rfl)
  simpa only [dY, e] using this

end Go.Proofs.YtdnkmgbbkggmdaaDoor

namespace Go.Proofs.YtdnkmgbbkggmdaaDoor
open Go.RowKit
open Go Go.RowKit
/-! the library's tables, as a row lays them -/
def litV : DataW Unit → Value
  | .lit (.int k n) => .int k n
  | _ => .nilFunc
def cellsD : DataW Unit → Array Value
  | .agg ds => (ds.map litV).toArray
  | _ => #[]
def layAll (P : Program) : List (String × DataW Unit) → Array Obj → Array Obj
  | [], h => h
  | (n, d) :: r, h => layAll P r (match P.globalNamed n with
    | some g => h.modify g fun
      | .cells _ t f => .cells (cellsD d) t f
      | o => o
    | none => h)
theorem tab_in {P : Program} {W : World} {name : String} {k : IntKind} {zs : List Int} {g : Nat} {t e : TypeId} {n : Nat}
    (hg : P.globalNamed name = some g) (hty : (P.globals[g]?).map (·.type) = some t) (ht : P.underlying t = some (.array n e)) (he : P.underlying e = some (.int k)) (hce : P.cellsOf e = 1) (hct : P.cellsOf t = n) :
    ∀ (l : List (String × DataW Unit)) (ps : List MemPlace), DataW.LaidVars P W l ps → (name, Go.Lib.tabData k zs) ∈ l → Go.Lib.TabIs P W name k zs
  | [], _, _, h => by cases h
  | (n', d) :: r, ps, h, hm => by
    obtain ⟨g', t', cs, fuel, p, q, hg', ht', hvar, hd, hr, _⟩ := h
    rcases List.mem_cons.1 hm with e1 | hm
    · simp only [Prod.mk.injEq] at e1
      obtain ⟨rfl, rfl⟩ := e1
      obtain rfl := Option.some.inj (hg.symm.trans hg')
      obtain rfl := Option.some.inj (hty.symm.trans ht')
      unfold Go.Lib.TabIs
      rw [hvar, ← Go.Lib.cells_of_tab ht he hce hct hd]
    · exact tab_in hg hty ht he hce hct r q hr hm
theorem tab_keep {P : Program} {w w' : World} {name : String} {k : IntKind} {zs : List Int} {g : Nat} (hg : P.globalNamed name = some g) (h : Go.Lib.TabIs P w name k zs) (hk : w'.heap[g]? = w.heap[g]?) : Go.Lib.TabIs P w' name k zs := by
  unfold Go.Lib.TabIs World.var? at h ⊢
  rw [hg] at h ⊢
  simpa [hk] using h
theorem tab_lt {P : Program} {w : World} {name : String} {k : IntKind} {zs : List Int} {g : Nat} (hg : P.globalNamed name = some g) (h : Go.Lib.TabIs P w name k zs) : g < w.heap.size := by
  unfold Go.Lib.TabIs World.var? at h
  rw [hg] at h
  refine Classical.byContradiction fun hn => ?_
  rw [Option.bind_some, Array.getElem?_eq_none (by omega)] at h
  cases h

end Go.Proofs.YtdnkmgbbkggmdaaDoor

namespace Go.Proofs.YtdnkmgbbkggmdaaDoor
open Go.RowKit
set_option linter.unusedSectionVars false
variable [Glb]
open Go
/-! logs: what is read behind an append, and behind a crash -/
theorem log_at {s : Tx} {j : Nat} (h : j < numR s) : ∃ e n, stepT j (s.drop (endsT s j)) = some (e, n) ∧ (recsT s)[j]? = some e ∧ endsT s (j + 1) = endsT s j + n := by
  have h6 : j < 60 := by have := log_len s; omega
  cases hs : stepT j (s.drop (endsT s j)) with
  | none => have := log_stop (Nat.le_of_lt h) hs; omega
  | some en =>
    obtain ⟨e, n⟩ := en
    obtain ⟨_, g2, g3⟩ := log_go (Nat.le_of_lt h) h6 hs
    exact ⟨e, n, rfl, g2, g3⟩
theorem step_line {k n : Nat} {s : Tx} {e : Tx × Tx} (h : stepT k s = some (e, n)) : recB e.1 e.2 = true ∧ s.take n = lineT k e.1 e.2 ++ [10] ∧ n = (lineT k e.1 e.2).length + 1 := by
  unfold stepT at h
  split at h
  · rename_i hm
    obtain ⟨x, hx, he⟩ := Option.map_eq_some_iff.1 h
    simp only [Prod.mk.injEq] at he
    obtain ⟨rfl, rfl⟩ := he
    obtain ⟨c, r⟩ := x
    obtain ⟨h1, h2⟩ := decT_iff.1 hx
    refine ⟨h1, ?_, by rw [h2]⟩
    have h3 := (split_at_b hm).1
    rw [h2]
    generalize bef 10 s = x at *
    generalize aft 10 s = y at *
    subst h3
    rw [show x ++ 10 :: y = (x ++ [10]) ++ y by simp, show x.length + 1 = (x ++ [10]).length by simp, List.take_left]
  · cases h
theorem ends_bd {s : Tx} : ∀ {j : Nat}, j ≤ numR s → endsT s j ≤ 422 * j
  | 0, _ => by simp [ends_zero]
  | j + 1, h => by
    obtain ⟨e, n, h1, _, h3⟩ := log_at (show j < numR s by omega)
    have ih := ends_bd (s := s) (j := j) (by omega)
    obtain ⟨g1, _, g3⟩ := step_line h1
    have h6 : j < 60 := by have := log_len s; omega
    have t1 := text_len h6 (recB_p g1)
    have t2 : (lineT j e.1 e.2).length ≤ (textT j e.1 e.2).length + 7 := (seal_len _).2
    omega
theorem ends_step {s : Tx} {j : Nat} (h : j < numR s) {e : Tx × Tx} {n : Nat} (h1 : stepT j (s.drop (endsT s j)) = some (e, n)) (h3 : endsT s (j + 1) = endsT s j + n) : s.take (endsT s (j + 1)) = s.take (endsT s j) ++ (lineT j e.1 e.2 ++ [10]) := by
  rw [h3, List.take_add, (step_line h1).2.1]
theorem line_small {k : Nat} {c r : Tx} (h : recB c r = true) : ∀ b ∈ lineT k c r ++ [10], b.toNat < 128 := by
  have hp : ∀ {t : Tx} {m : Int}, bytB t m = true → ∀ b ∈ t, b.toNat < 128 := fun {t m} ht b hb => by
    simp only [bytB, Bool.and_eq_true, List.all_eq_true] at ht
    have := (ht.1 b hb).1
    simp only [plB, Bool.and_eq_true, decide_eq_true_eq] at this
    omega
  have hn : ∀ {n : Nat} {b : UInt8}, b ∈ numT n → b.toNat < 128 := fun {n b} hb => by have := numT_dig n b hb; omega
  simp only [recB, Bool.and_eq_true] at h
  intro b hb
  simp only [lineT, sealT, textT, List.mem_append, List.mem_singleton] at hb
  rcases hb with ((((((hb | rfl) | hb) | rfl) | hb) | rfl) | hb) | rfl
  · exact hn hb
  · decide
  · exact hp h.1.1.2 b hb
  · decide
  · exact hp h.2 b hb
  · decide
  · exact hn hb
  · decide
theorem log_small {s : Tx} : ∀ {j : Nat}, j ≤ numR s → ∀ b ∈ s.take (endsT s j), b.toNat < 128
  | 0, _ => by simp [ends_zero]
  | j + 1, h => by
    obtain ⟨e, n, h1, _, h3⟩ := log_at (show j < numR s by omega)
    rw [ends_step (by omega) h1 h3]
    intro b hb
    rcases List.mem_append.1 hb with hb | hb
    · exact log_small (s := s) (j := j) (by omega) b hb
    · exact line_small (step_line h1).1 b hb
theorem ends_mono {s : Tx} {i j : Nat} (h : i ≤ j) : endsT s i ≤ endsT s j := by
  unfold endsT
  have e2 : (logT s).take j = (logT s).take i ++ ((logT s).take j).drop i := by
    conv => lhs; rw [← List.take_append_drop i ((logT s).take j), List.take_take, Nat.min_eq_left h]
  rw [e2, List.map_append, List.sum_append]; omega
theorem recs_all (s : Tx) : (recsT s).take (numR s) = recsT s := by rw [← recs_len, List.take_length]
/-- a record more -/
theorem log_append {s c r : Tx} {k : Nat} (h : endT s = s.length) (hk : numR s = k) (h6 : k < 60) (hr : recB c r = true) :
    numR (s ++ (lineT k c r ++ [10])) = k + 1 ∧ endT (s ++ (lineT k c r ++ [10])) = (s ++ (lineT k c r ++ [10])).length ∧ recsT (s ++ (lineT k c r ++ [10])) = recsT s ++ [(c, r)] := by
  obtain ⟨t, ht⟩ : ∃ t, t = lineT k c r ++ [10] := ⟨_, rfl⟩
  have hend : endsT s k = s.length := by rw [← hk]; exact h
  have h10 := line10 (k := k) (recB_p hr)
  have hst : stepT k t = some ((c, r), t.length) := by
    have hb : bef 10 t = lineT k c r := by rw [ht]; exact bef_app h10
    have := step_some (k := k) (s := t) (e := (c, r)) (by rw [ht]; simp) (by rw [hb]; exact decT_iff.2 ⟨hr, rfl⟩)
    rw [this, hb, ht]; simp
  rw [← ht]
  obtain ⟨g1, g2⟩ := log_ext (x := s) (y := t) k (by omega)
  rw [hend] at g2
  have hs2 : stepT k ((s ++ t).drop (endsT (s ++ t) k)) = some ((c, r), t.length) := by rw [g2, List.drop_left]; exact hst
  obtain ⟨h1, h2, h3⟩ := log_go g1 h6 hs2
  rw [g2] at h3
  have hN : numR (s ++ t) = k + 1 := by
    by_cases h60 : k + 1 < 60
    · refine log_stop h1 ?_
      rw [h3, List.drop_of_length_le (by simp)]
      exact step_no (by simp)
    · have := log_len (s ++ t); omega
  refine ⟨hN, by unfold endT; rw [hN, h3, List.length_append], ?_⟩
  have hp := (log_pre (x := s) (y := t) k (by omega) (by omega)).2.2
  have e1 : (recsT s).take k = recsT s := by rw [← hk]; exact recs_all s
  rw [e1] at hp
  rw [← recs_all (s ++ t), hN, take_snoc h2, ← hp]
/-- what is read alone -/
theorem log_cut (s : Tx) : numR (s.take (endT s)) = numR s ∧ endT (s.take (endT s)) = endT s ∧ recsT (s.take (endT s)) = recsT s := by
  obtain ⟨x, hx⟩ : ∃ x, x = s.take (endT s) := ⟨_, rfl⟩
  have hs : x ++ s.drop (endT s) = s := by rw [hx]; exact List.take_append_drop ..
  have hl : x.length = endT s := by rw [hx, List.length_take]; have := ends_le s (numR s); unfold endT at *; omega
  rw [← hx]
  have p := log_pre (x := x) (y := s.drop (endT s)) (numR s) (by rw [hs]; exact Nat.le_refl _) (by rw [hs, hl]; exact Nat.le_refl _)
  rw [hs] at p
  obtain ⟨p1, p2, p3⟩ := p
  have q := (log_ext (x := x) (y := s.drop (endT s)) (numR x) (Nat.le_refl _)).1
  rw [hs] at q
  have hN : numR x = numR s := Nat.le_antisymm q p1
  refine ⟨hN, by unfold endT; rw [hN, p2], ?_⟩
  rw [recs_all s] at p3
  rw [← recs_all x, hN]; exact p3
/-- a last byte that ends no line -/
theorem step_torn {k : Nat} {t : Tx} {y : UInt8} (hy : y ≠ 10) : stepT k (t ++ [y]) = stepT k t := by
  by_cases h : 10 ∈ t
  · unfold stepT
    rw [if_pos (by simp [h]), if_pos h, bef_appL h]
  · rw [step_no h, step_no (by simp [h, Ne.symm hy])]
theorem steps_torn {y : UInt8} (hy : y ≠ 10) : ∀ (f k : Nat) (t : Tx), stepsT f k (t ++ [y]) = stepsT f k t
  | 0, _, _ => rfl
  | f + 1, k, t => by
    cases h : stepT k t with
    | none => rw [stepsT_none h, stepsT_none (by rw [step_torn hy]; exact h)]
    | some en =>
      obtain ⟨e, n⟩ := en
      rw [stepsT_some h, stepsT_some (by rw [step_torn hy]; exact h), List.drop_append_of_le_length (stepT_le h).2, steps_torn hy f (k + 1) (t.drop n)]
theorem log_torn {t : Tx} {y : UInt8} (hy : y ≠ 10) : logT (t ++ [y]) = logT t := steps_torn hy 60 0 t
/-- a part of a log that holds its durable part -/
structure PartP (d p s : Tx) : Prop where
  dur : d.length ≤ endT s
  num : numR s ≤ numR (d ++ p)
  recs : recsT s = (recsT (d ++ p)).take (numR s)
theorem part_log {d p q : Tx} (hd : endT d = d.length) : PartP d (p ++ q) (d ++ p) := by
  have e : d ++ (p ++ q) = (d ++ p) ++ q := by simp
  obtain ⟨g1, g2⟩ := log_ext (x := d) (y := p) (numR d) (Nat.le_refl _)
  obtain ⟨k1, k2⟩ := log_ext (x := d ++ p) (y := q) (numR (d ++ p)) (Nat.le_refl _)
  refine ⟨?_, by rw [e]; exact k1, ?_⟩
  · have := ends_mono (s := d ++ p) g1
    rw [g2] at this
    unfold endT at hd ⊢
    omega
  · have := (log_pre (x := d ++ p) (y := q) (numR (d ++ p)) k1 (by rw [k2]; exact ends_le _ _)).2.2
    rw [recs_all] at this
    rw [e]; exact this
theorem PartP.of_log {d p s s' : Tx} (h : PartP d p s) (e : logT s' = logT s) : PartP d p s' := by
  have e1 : numR s' = numR s := by unfold numR; rw [e]
  have e2 : endT s' = endT s := by unfold endT endsT; rw [e1, e]
  have e3 : recsT s' = recsT s := by unfold recsT; rw [e]
  exact ⟨by rw [e2]; exact h.dur, by rw [e1]; exact h.num, by rw [e1, e3]; exact h.recs⟩

end Go.Proofs.YtdnkmgbbkggmdaaDoor

namespace Go.Proofs.YtdnkmgbbkggmdaaDoor
open Go.RowKit
set_option linter.unusedSectionVars false
variable [Glb]
open Go Go.RowKit
/-! structs of texts and numbers, compared -/
def eqA : Value → Value → Bool
  | .int _ a, .int _ b => a == b
  | .string a, .string b => a.toList == b.toList
  | _, _ => false
def eqL : List Value → List Value → Bool
  | u :: us, v :: vs => eqA u v && eqL us vs
  | _, _ => true
@[simp] theorem eqA_t (a b : Tx) : eqA (.string (bsT a)) (.string (bsT b)) = decide (a = b) := by
  show ((bsT a).toList == (bsT b).toList) = _
  rw [ByteArray.toList_eq, ByteArray.toList_eq]
  show ((bsT a).data.toList == (bsT b).data.toList) = _
  simp only [bsT]
  rw [Bool.eq_iff_iff, beq_iff_eq, decide_eq_true_iff]
@[simp] theorem eqA_i (k k' : IntKind) (a b : Int) : eqA (.int k a) (.int k' b) = decide (a = b) := rfl
@[simp] theorem eqL_cons (u v : Value) (us vs : List Value) : eqL (u :: us) (v :: vs) = (eqA u v && eqL us vs) := rfl
@[simp] theorem eqL_nil : eqL [] [] = true := rfl
def oneEq (P : Program) (T : TypeId) : Value → Value → Bool
  | .string _, .string _ => match P.underlying T with | some .string => true | _ => false
  | .int k _, .int k' _ => match P.underlying T with | some (.int _) => k == k' | _ => false
  | _, _ => false
def flatEq (P : Program) : Nat → List Field → List Value → List Value → Bool
  | _, [], [], [] => true
  | o, f :: fs, u :: us, v :: vs => f.name != "_" && (f.offset == o && (oneEq P f.type u v && flatEq P (o + 1) fs us vs))
  | _, _, _, _ => false
def structEq (P : Program) (T : TypeId) (us vs : List Value) : Bool := match P.underlying T with
  | some (.struct fs) => !(P.stoodInHeld T) && (!(P.eqGuardType P.depth T) && flatEq P 0 fs.toList us vs)
  | _ => false
section
variable {P : Program} {w : World}
theorem oneEq_run {T : TypeId} {u v : Value} {d : Nat} (h : oneEq P T u v = true) : (Op.equalIn (d + 1) T u v).run P w = .ok (eqA u v) w ∧ ∀ (xs : Array Value) (o : Nat) (x : Value), xs[o]? = some x → (part T xs o).run P w = .ok x w := by
  unfold oneEq at h
  split at h
  · split at h
    · rename_i hu
      exact ⟨run_equalIn_string w d T _ _ hu, fun xs o x hx => by simp [part, isAgg, run_underlying hu, hx]⟩
    · cases h
  · split at h
    · rename_i hu
      have e := eq_of_beq h
      subst e
      exact ⟨run_equalIn_int w d T _ _ _ _ hu, fun xs o x hx => by simp [part, isAgg, run_underlying hu, hx]⟩
    · cases h
  · cases h
theorem flatEq_run {d : Nat} : ∀ {fs : List Field} {us vs : List Value} {o : Nat} {xs ys : Array Value}, flatEq P o fs us vs = true → (∀ k x, us[k]? = some x → xs[o + k]? = some x) → (∀ k x, vs[k]? = some x → ys[o + k]? = some x) →
    (Op.eqFields (d + 1) xs ys fs).run P w = .ok (eqL us vs) w
  | [], [], [], _, _, _, _, _, _ => rfl
  | f :: fs, u :: us, v :: vs, o, xs, ys, h, h1, h2 => by
    simp only [flatEq, Bool.and_eq_true, bne_iff_ne, ne_eq, beq_iff_eq] at h
    obtain ⟨a, rfl, b, c⟩ := h
    obtain ⟨e1, e2⟩ := oneEq_run (w := w) (d := d) b
    have i := flatEq_run (d := d) (xs := xs) (ys := ys) c (fun k x hk => by have := h1 (k + 1) x (by simpa using hk); rwa [show f.offset + (k + 1) = f.offset + 1 + k by omega] at this) (fun k x hk => by have := h2 (k + 1) x (by simpa using hk); rwa [show f.offset + (k + 1) = f.offset + 1 + k by omega] at this)
    have x1 := e2 xs f.offset u (h1 0 u rfl)
    have x2 := e2 ys f.offset v (h2 0 v rfl)
    simp only [Op.eqFields, ne_eq, a, not_false_eq_true, if_true, Sem.run_bind, x1, x2, e1, Result.andThen_ok, Sem.run_ite, i]
    cases h3 : eqA u v <;> simp [h3]
  | [], [], _ :: _, _, _, _, h, _, _ => by simp [flatEq] at h
  | [], _ :: _, _, _, _, _, h, _, _ => by simp [flatEq] at h
  | _ :: _, [], _, _, _, _, h, _, _ => by simp [flatEq] at h
  | _ :: _, _ :: _, [], _, _, _, h, _, _ => by simp [flatEq] at h
theorem structEq_run {T : TypeId} {us vs : List Value} (h : structEq P T us vs = true) : (Op.equalIn 10000 T (.agg us.toArray) (.agg vs.toArray)).run P w = .ok (eqL us vs) w ∧ ∀ op x y, (eqGuard op T x y (.agg us.toArray) (.agg vs.toArray)).run P w = .ok () w := by
  unfold structEq at h
  split at h
  · rename_i fs hu
    simp only [Bool.and_eq_true, Bool.not_eq_true'] at h
    obtain ⟨a, b, c⟩ := h
    have hf : P.fieldsOf T = fs := by simp [Program.fieldsOf, hu]
    refine ⟨?_, fun op x y => run_eqGuard_agg w op T x y _ _ b⟩
    rw [run_equalIn_agg w 9999 T _ _ (by rw [hf]; exact hu) a, hf]
    exact flatEq_run (d := 9998) c (fun k x hk => by simpa using hk) (fun k x hk => by simpa using hk)
  · cases h
end
section
variable {P : Program} {st : St} {dst : Option Tmp} {ty : TypeId} {pos : String} {af : Array Edge} {T T' : TypeId} {x y : Operand}
theorem agg_inv {w : World} {ρ : Nat → Option Nat} {Φ : Nat → Prop} {v : Value} {us : List Value} (h : FR w ρ Φ v (.g (us.map fun u => .d (.lit u)))) : v = .agg us.toArray := by
  cases h with
  | g _ vs hl hr =>
    congr 2
    have hl' : vs.length = us.length := by simpa using hl
    refine List.ext_getElem hl' fun k h1 h2 => ?_
    have h3 := hr k (by simpa using h2)
    rw [List.getD_eq_getElem?_getD, List.getElem?_eq_getElem h1, Option.getD_some, List.getElem_map] at h3
    exact FR.lit_inv (.c _ _ h3)
theorem qt_eqlG {us vs : List Value} (hx : st.ev x = .g (us.map fun u => .d (.lit u))) (hy : st.ev y = .g (vs.map fun u => .d (.lit u))) (h : structEq P T us vs = true) :
    Qt P ⟨dst, .binOp .eql T x y T', ty, pos, af, none⟩ st (.c (.d (.lit (.bool (eqL us vs))))) := fun _ _ _ a _ hm => by
  have h1 := agg_inv (by rw [← hx]; exact hm.ev x)
  have h2 := agg_inv (by rw [← hy]; exact hm.ev y)
  refine ⟨_, fun w' _ => ?_, .litI rfl⟩
  obtain ⟨e1, e2⟩ := structEq_run (w := w') h
  simp only [execOp, h1, h2, Sem.run_bind, e2, Result.andThen_ok, run_eql_struct, e1, Sem.run_pure]
theorem qt_neqG {us vs : List Value} (hx : st.ev x = .g (us.map fun u => .d (.lit u))) (hy : st.ev y = .g (vs.map fun u => .d (.lit u))) (h : structEq P T us vs = true) :
    Qt P ⟨dst, .binOp .neq T x y T', ty, pos, af, none⟩ st (.c (.d (.lit (.bool (!(eqL us vs)))))) := fun _ _ _ a _ hm => by
  have h1 := agg_inv (by rw [← hx]; exact hm.ev x)
  have h2 := agg_inv (by rw [← hy]; exact hm.ev y)
  refine ⟨_, fun w' _ => ?_, .litI rfl⟩
  obtain ⟨e1, e2⟩ := structEq_run (w := w') h
  simp only [execOp, h1, h2, Sem.run_bind, e2, Result.andThen_ok, run_neq_struct, e1, Sem.run_pure]
theorem oneEq_self {T : TypeId} {u : Value} (h : oneEq P T u u = true) : eqA u u = true := by
  unfold oneEq at h
  cases u <;> simp_all [eqA]
theorem flatEq_self : ∀ {fs : List Field} {us : List Value} {o : Nat}, flatEq P o fs us us = true → eqL us us = true
  | _, [], _, _ => rfl
  | [], _ :: _, _, h => by simp [flatEq] at h
  | f :: fs, u :: us, o, h => by
    simp only [flatEq, Bool.and_eq_true] at h
    rw [eqL_cons, oneEq_self h.2.2.1, flatEq_self h.2.2.2]; rfl
theorem structEq_self {us : List Value} (h : structEq P T us us = true) : eqL us us = true := by
  unfold structEq at h
  split at h
  · simp only [Bool.and_eq_true] at h
    exact flatEq_self h.2.2
  · cases h
theorem qt_neqG2_same {a b : Value} (hx : st.ev x = .g [.d (.lit a), .d (.lit b)]) (hy : st.ev y = .g [.d (.lit a), .d (.lit b)]) (h : structEq P T [a, b] [a, b] = true) : Qt P ⟨dst, .binOp .neq T x y T', ty, pos, af, none⟩ st (.c (.d (.lit (.bool false)))) := by
  have := qt_neqG (dst := dst) (ty := ty) (pos := pos) (af := af) (T' := T') (us := [a, b]) (vs := [a, b]) hx hy h
  rwa [structEq_self h] at this
theorem qt_neqG3_same {a b c : Value} (hx : st.ev x = .g [.d (.lit a), .d (.lit b), .d (.lit c)]) (hy : st.ev y = .g [.d (.lit a), .d (.lit b), .d (.lit c)]) (h : structEq P T [a, b, c] [a, b, c] = true) : Qt P ⟨dst, .binOp .neq T x y T', ty, pos, af, none⟩ st (.c (.d (.lit (.bool false)))) := by
  have := qt_neqG (dst := dst) (ty := ty) (pos := pos) (af := af) (T' := T') (us := [a, b, c]) (vs := [a, b, c]) hx hy h
  rwa [structEq_self h] at this
theorem qt_eqlG2 {a b c d : Value} (hx : st.ev x = .g [.d (.lit a), .d (.lit b)]) (hy : st.ev y = .g [.d (.lit c), .d (.lit d)]) (h : structEq P T [a, b] [c, d] = true) : Qt P ⟨dst, .binOp .eql T x y T', ty, pos, af, none⟩ st (.c (.d (.lit (.bool (eqL [a, b] [c, d]))))) := qt_eqlG hx hy h
theorem qt_neqG2 {a b c d : Value} (hx : st.ev x = .g [.d (.lit a), .d (.lit b)]) (hy : st.ev y = .g [.d (.lit c), .d (.lit d)]) (h : structEq P T [a, b] [c, d] = true) : Qt P ⟨dst, .binOp .neq T x y T', ty, pos, af, none⟩ st (.c (.d (.lit (.bool (!(eqL [a, b] [c, d])))))) := qt_neqG hx hy h
theorem qt_eqlG3 {a b e c d f : Value} (hx : st.ev x = .g [.d (.lit a), .d (.lit b), .d (.lit e)]) (hy : st.ev y = .g [.d (.lit c), .d (.lit d), .d (.lit f)]) (h : structEq P T [a, b, e] [c, d, f] = true) : Qt P ⟨dst, .binOp .eql T x y T', ty, pos, af, none⟩ st (.c (.d (.lit (.bool (eqL [a, b, e] [c, d, f]))))) := qt_eqlG hx hy h
theorem qt_neqG3 {a b e c d f : Value} (hx : st.ev x = .g [.d (.lit a), .d (.lit b), .d (.lit e)]) (hy : st.ev y = .g [.d (.lit c), .d (.lit d), .d (.lit f)]) (h : structEq P T [a, b, e] [c, d, f] = true) : Qt P ⟨dst, .binOp .neq T x y T', ty, pos, af, none⟩ st (.c (.d (.lit (.bool (!(eqL [a, b, e] [c, d, f])))))) := qt_neqG hx hy h
end

end Go.Proofs.YtdnkmgbbkggmdaaDoor

namespace Go.Proofs.YtdnkmgbbkggmdaaDoor
open Go.RowKit
set_option linter.unusedSectionVars false
variable [Glb]
set_option maxRecDepth 10000
set_option maxHeartbeats 4000000
theorem vBig_p (code : Tx) : PC Tryd.prog 34 [.c (eB code)] (.p (.c (dB (decide ((code.length : Int) > 65536))))) := by
  refine pc_intro Tryd.func34 rfl rfl rfl (by kernel_rfl) rfl rfl ?_; intro _
  repeat' (first | (refine so_is (.assign _) ?_; (refine so_q (qt_asC rfl) rfl ?_)) | (refine so_is (.move _) ?_; (refine so_q (qt_mvC rfl) rfl ?_)) | (refine so_is (.call ⟨.builtin .len, _, #[53]⟩) ?_; (refine so_q (qt_len_d rfl (by kernel_rfl)) rfl ?_)) | (refine so_is (.binOp .gtr 3 _ _ _) ?_; refine so_q (qt_gtr rfl rfl) rfl ?_) | refine so_nil ?_ | refine sk_seq ?_ | refine sk_region ?_)
  all_goals (apply sk_ret; apply ret_eq; (· apply RetOK.p; (· (apply GvA.cons; (· exact .tmp _); (· exact GvP.c (.lit _))); exact GvA.nil); (· (decide))))
  all_goals rfl

end Go.Proofs.YtdnkmgbbkggmdaaDoor

namespace Go.Proofs.YtdnkmgbbkggmdaaDoor
open Go.RowKit
set_option linter.unusedSectionVars false
variable [Glb]
set_option maxRecDepth 10000
set_option maxHeartbeats 4000000
section
variable {P : Program} {st : St} {dst : Option Tmp} {ty : TypeId} {pos : String} {af : Array Edge}
theorem qt_slice_dM10 {α : Type} {f : α → D} {l : List α} {T : TypeId} {x lo : Operand} {kl : IntKind} {i : Int} (hx : st.ev x = .c (.d (.sl 1 l.length (l.map f)))) (hl : st.ev lo = .c (.d (.lit (.int kl i)))) (ht : tSl P T 1 = true) (h0 : 0 ≤ i) (h1 : i ≤ l.length) :
    Qt P ⟨dst, .slice T x (some lo) none none, ty, pos, af, none⟩ st (.c (.d (.sl 1 (partZ l i l.length).length ((partZ l i l.length).map f)))) :=
  qt_slice_d (vl := some (kl, i)) (vh := none) (i := i.toNat) (j := l.length) hx (ev_some hl) (fun _ _ _ _ _ => rfl) ht ⟨h0, rfl⟩ rfl (by omega) (Nat.le_refl _) (by rw [partZ_len (by omega)]; omega) (by rw [← map_part, partZ_len (by omega)])
end

end Go.Proofs.YtdnkmgbbkggmdaaDoor

namespace Go.Proofs.YtdnkmgbbkggmdaaDoor
open Go.RowKit
set_option linter.unusedSectionVars false
variable [Glb]
set_option maxRecDepth 10000
set_option maxHeartbeats 4000000
theorem vCut_p (code : Tx) (n : Nat) (h0 : n ≤ 3) (h1 : code.length ≤ 65536) : PC Tryd.prog 37 [.c (eB code), .c (dI n)] (.p (.c (eB (partZ code (min n code.length : Nat) code.length ++ [UInt8.ofNat (min n code.length)])))) := by
  have hp : (partZ code (min n code.length : Nat) code.length).length = code.length - min n code.length := by rw [partZ_len (by omega)]; omega
  have hp2 : (partZ code n code.length).length = code.length - n := by rw [partZ_len (by omega)]; omega
  have hp3 : (partZ code code.length code.length).length = 0 := by rw [partZ_len (by omega)]; omega
  refine pc_intro Tryd.func37 rfl rfl rfl (by kernel_rfl) rfl rfl ?_; intro _
  repeat' (first | (refine so_is (.assign _) ?_; (refine so_q (qt_asC rfl) rfl ?_)) | (refine so_is (.move _) ?_; (refine so_q (qt_mvC rfl) rfl ?_)) | (refine so_is (.call ⟨.builtin .len, _, #[53]⟩) ?_; (refine so_q (qt_len_d rfl (by kernel_rfl)) rfl ?_)) | (refine so_is (.binOp .gtr 3 _ _ _) ?_; refine so_q (qt_gtr rfl rfl) rfl ?_) | (refine so_is (.buildSlice 53 0 _) ?_; (apply so_bslice (sz := 1) (by_ := 1); (· kernel_rfl); (· decide); (· (repeat (exact GvS.nil _))); (· (decide)); (· rfl); (· rfl); (· rfl))) | (refine so_is (.slice 53 _ (some _) none none) ?_; (refine so_q (qt_slice_dM10 rfl rfl (by kernel_rfl) (by (omega)) (by (omega))) rfl ?_)) | (refine so_is (.call ⟨.builtin .append, _, #[53, 53]⟩) ?_; (first | (apply so_appR (sz := 1) (by_ := 1); (· rfl); (· rfl); (· ((simp; done))); (· exact .row _ _ _ _ rfl (by ((simp; done)))); (· (decide)); (· kernel_rfl); (· decide); (· (omega)); (· (omega)); (· rfl); (· rfl); (· rfl)) | (apply so_appR (sz := 1) (by_ := 1); (· rfl); (· rfl); (· ((simp; done))); (· exact .see _ _ _ (by (exact Lits.map))); (· (decide)); (· kernel_rfl); (· decide); (· (omega)); (· (omega)); (· rfl); (· rfl); (· rfl)))) | (refine so_is (.convert 3 5 _) ?_; (refine so_q (qt_convI (k' := .u8) rfl (by kernel_rfl) (by kernel_rfl) (by (exact wrapU8 (by (omega))))) rfl ?_)) | (refine so_is (.buildSlice 53 1 _) ?_; (apply so_bslice (sz := 1) (by_ := 1); (· kernel_rfl); (· decide); (· (repeat (first | exact GvS.nil _ | apply GvS.c rfl rfl (.lit _) rfl))); (· (decide)); (· rfl); (· rfl); (· rfl))) | refine so_nil ?_ | refine sk_seq ?_ | refine sk_skip ?_ | refine sk_region ?_ | refine sk_if rfl (fun hc => ?_) (fun hc => ?_))
  all_goals first | (exfalso; omega) | skip
  · (apply sk_ret; apply ret_eq; (· apply RetOK.p; (· (apply GvA.cons; (· exact .tmp _); (· (exact GvP.c (.row _ _ _ _ rfl (by ((simp; done))))))); exact GvA.nil); (· (decide))))
    have e : min n code.length = code.length := by omega
    have e2 : (UInt8.ofNat code.length).toNat = code.length := by rw [UInt8.toNat_ofNat']; omega
    rw [e]
    simp [e2, hp3, cY, eB, dY]
  · (apply sk_ret; apply ret_eq; (· apply RetOK.p; (· (apply GvA.cons; (· exact .tmp _); (· (exact GvP.c (.row _ _ _ _ rfl (by ((simp; done))))))); exact GvA.nil); (· (decide))))
    have e : min n code.length = n := by omega
    have e2 : (UInt8.ofNat n).toNat = n := by rw [UInt8.toNat_ofNat']; omega
    rw [e]
    simp [e2, hp2, cY, eB, dY]

end Go.Proofs.YtdnkmgbbkggmdaaDoor

namespace Go.Proofs.YtdnkmgbbkggmdaaDoor
open Go.RowKit
set_option linter.unusedSectionVars false
variable [Glb]
set_option maxRecDepth 10000
set_option maxHeartbeats 4000000
section
variable {P : Program} {st : St} {dst : Option Tmp} {ty : TypeId} {pos : String} {af : Array Edge}
theorem recD_take (l : List (Tx × Tx)) (j : Nat) : ((recD l).drop (0 * 2)).take (j * 2) = recD (l.take j) := by
  rw [Nat.zero_mul, List.drop_zero]
  induction l generalizing j with
  | nil => simp [recD]
  | cons x r ih =>
    cases j with
    | zero => simp [recD]
    | succ j =>
      have e1 : recD (x :: r) = dT x.1 :: dT x.2 :: recD r := rfl
      rw [e1, show (j + 1) * 2 = j * 2 + 1 + 1 by omega, List.take_succ_cons, List.take_succ_cons, ih]
      rfl
theorem qt_slice_dR01 {l : List (Tx × Tx)} {T : TypeId} {x hi : Operand} {kh : IntKind} {j : Int} (hx : st.ev x = .c (.d (eR l))) (hh : st.ev hi = .c (.d (.lit (.int kh j)))) (ht : tSl P T 2 = true) (h0 : 0 ≤ j) (h2 : j ≤ l.length) :
    Qt P ⟨dst, .slice T x none (some hi) none, ty, pos, af, none⟩ st (.c (.d (eR (l.take j.toNat)))) :=
  qt_slice_d (vl := none) (vh := some (kh, j)) (i := 0) (j := j.toNat) hx (fun _ _ _ _ _ => rfl) (ev_some hh) ht rfl ⟨h0, rfl⟩ (by omega) (by omega) (by rw [List.length_take]; omega) (by rw [List.length_take, show min j.toNat l.length = j.toNat by omega]; exact recD_take l j.toNat)
end
theorem vRecords_p (a b : List (Tx × Tx)) (h : a = b) : PC Tryd.prog 42 [.c (eR a), .c (eR b)] (.p (.c (dB true))) := by
  subst h
  refine pc_intro Tryd.func42 rfl rfl rfl (by kernel_rfl) rfl rfl ?_; rintro ⟨hf, -⟩
  have hl := hf.len
  clear hf
  repeat' (first | (refine so_is (.assign _) ?_; (refine so_q (qt_asC rfl) rfl ?_)) | (refine so_is (.move _) ?_; (refine so_q (qt_mvC rfl) rfl ?_)) | (refine so_is (.call ⟨.builtin .len, _, #[48]⟩) ?_; (refine so_q (qt_len_d rfl (by kernel_rfl)) rfl ?_)) | (refine so_is (.binOp .neq 3 _ _ _) ?_; (refine so_q (qt_neq_same rfl rfl) rfl ?_)) | refine so_nil ?_ | refine sk_seq ?_ | refine sk_block ?_ | refine sk_skip ?_ | refine sk_region ?_ | refine sk_false rfl ?_)
  all_goals first | (exfalso; simp_all; done) | skip
  apply sk_packC [0, 1, 5] [] rfl; (· (repeat (first | exact Pf.nil | apply Pf.cons (.c rfl (.d rfl))))); (· (repeat (exact Pb.nil)))
  refine sk_loopL [0, 1] [] (fun j => [(5, iN j)]) (fun _ => []) (fun j => j ≤ a.length) (fun j => a.length - j) (0) ?_ (by (repeat (first | exact trivial | refine ⟨(by (rfl)), ?_⟩))) (by (repeat (exact trivial))) ?_
  · omega
  intro j hj
  by_cases h : j < a.length
  · repeat' (first | (refine so_is (.assign _) ?_; (refine so_q (qt_asC rfl) rfl ?_)) | (refine so_is (.move _) ?_; (refine so_q (qt_mvC rfl) rfl ?_)) | (refine so_is (.call ⟨.builtin .len, _, #[48]⟩) ?_; (refine so_q (qt_len_d rfl (by kernel_rfl)) rfl ?_)) | (refine so_is (.binOp .lss 3 _ _ _) ?_; refine so_q (qt_lss rfl rfl) rfl ?_) | (refine so_is (.indexAddr 48 _ _) ?_; (refine so_q (qt_idxR rfl rfl (by kernel_rfl) (by (omega)) (by (omega))) rfl ?_)) | (refine so_is (.load 27 _) ?_; (refine so_q (qt_load_pts rfl (by kernel_rfl : tAgg _ 27 2 = true) (by simp)) rfl ?_)) | (refine so_is (.binOp .neq 27 _ _ _) ?_; (refine so_q (qt_neqG2_same rfl rfl (by kernel_rfl)) rfl ?_)) | (refine so_is (.binOp .add 3 _ _ _) ?_; refine so_q (qt_addI rfl rfl (by (omega))) rfl ?_) | refine so_nil ?_ | refine sk_seq ?_ | refine sk_block ?_ | refine sk_blk ?_ | refine sk_exit rfl ?_ | refine sk_skip ?_ | refine sk_region ?_ | refine sk_drawQ 6 (fun _ => false) (.step 0 true (.step 1 true (.step 2 true (.step 3 true (.step 4 true (.step 5 true (.step 6 true (.step 7 true (.step 8 true .nil))))))))) [(0, 511, 511, true), (0, 511, 511, true), (3, 508, 511, true), (4, 507, 511, false), (0, 511, 511, true), (0, 511, 511, true), (48, 463, 511, true), (64, 447, 511, false), (136, 375, 511, true)] (by kernel_rfl) (by kernel_rfl) ?_ | refine sk_false rfl ?_ | refine sk_if rfl (fun hc => ?_) (fun hc => ?_))
    all_goals first | (exfalso; omega) | (exfalso; simp_all; done) | skip
    refine sk_back ?_; refine ⟨j + 1, ?_, ?_, le_at rfl (by (repeat (first | exact trivial | refine ⟨(by (rfl)), ?_⟩))) (by (repeat (first | exact trivial | refine ⟨rfl, ?_⟩))) (by (repeat (exact trivial))) (by (repeat (exact trivial)))⟩
    · omega
    · omega
  · have e : j = a.length := by omega
    subst e
    repeat' (first | (refine so_is (.assign _) ?_; (refine so_q (qt_asC rfl) rfl ?_)) | (refine so_is (.move _) ?_; (refine so_q (qt_mvC rfl) rfl ?_)) | (refine so_is (.call ⟨.builtin .len, _, #[48]⟩) ?_; (refine so_q (qt_len_d rfl (by kernel_rfl)) rfl ?_)) | (refine so_is (.binOp .lss 3 _ _ _) ?_; refine so_q (qt_lss rfl rfl) rfl ?_) | (refine so_is (.indexAddr 48 _ _) ?_; (refine so_q (qt_idxR rfl rfl (by kernel_rfl) (by (omega)) (by (omega))) rfl ?_)) | (refine so_is (.load 27 _) ?_; (refine so_q (qt_load_pts rfl (by kernel_rfl : tAgg _ 27 2 = true) (by simp)) rfl ?_)) | (refine so_is (.binOp .neq 27 _ _ _) ?_; (refine so_q (qt_neqG2_same rfl rfl (by kernel_rfl)) rfl ?_)) | (refine so_is (.binOp .add 3 _ _ _) ?_; refine so_q (qt_addI rfl rfl (by (omega))) rfl ?_) | refine so_nil ?_ | refine sk_seq ?_ | refine sk_block ?_ | refine sk_blk ?_ | refine sk_exit rfl ?_ | refine sk_skip ?_ | refine sk_region ?_ | refine sk_drawQ 6 (fun _ => false) (.step 0 true (.step 1 true (.step 2 true (.step 3 true (.step 4 true (.step 5 true (.step 6 true (.step 7 true (.step 8 true .nil))))))))) [(0, 511, 511, true), (0, 511, 511, true), (3, 508, 511, true), (4, 507, 511, false), (0, 511, 511, true), (0, 511, 511, true), (48, 463, 511, true), (64, 447, 511, false), (136, 375, 511, true)] (by kernel_rfl) (by kernel_rfl) ?_ | refine sk_false rfl ?_ | refine sk_if rfl (fun hc => ?_) (fun hc => ?_))
    all_goals first | (exfalso; omega) | skip
    (apply sk_ret; apply ret_eq; (· apply RetOK.p; (· (apply GvA.cons; (· exact .tmp _); (· exact GvP.c (.lit _))); exact GvA.nil); (· (decide))))
    rfl

end Go.Proofs.YtdnkmgbbkggmdaaDoor

namespace Go.Proofs.YtdnkmgbbkggmdaaDoor
open Go.RowKit
set_option linter.unusedSectionVars false
variable [Glb]
set_option maxRecDepth 10000
set_option maxHeartbeats 4000000
def tabNm : String := (Rows.fnExactEncodeRecordRow.laid.getD 2 (default, .nil)).1

end Go.Proofs.YtdnkmgbbkggmdaaDoor

namespace Go.Proofs.YtdnkmgbbkggmdaaDoor
open Go.RowKit
set_option linter.unusedSectionVars false
variable [Glb]
set_option maxRecDepth 10000
set_option maxHeartbeats 4000000
open Go.Shelf Go.Proofs
def Tryd.laysM171_ren_strconv_Itoa : Go.Shelf.Ren := ⟨fun | 171 => 50 | 243 => 72 | 246 => 83 | 283 => 87 | 284 => 88 | 285 => 89 | 286 => 90 | 129 => 100 | 317 => 99 | 318 => 101 | 319 => 102 | 320 => 103 | 337 => 108 | 338 => 109 | n => n, fun | 3 => 3 | 9 => 9 | 2 => 2 | 4 => 4 | 171 => 104 | 0 => 0 | 53 => 77 | 37 => 53 | 5 => 5 | 173 => 107 | 212 => 117 | 51 => 118 | 20 => 20 | 213 => 119 | 46 => 103 | 232 => 126 | 233 => 127 | n => n, fun | 17 => 1 | 18 => 2 | 19 => 3 | n => n⟩
theorem Tryd.laysM171_strconv_Itoa : Go.Proofs.LaysM.n171 Tryd.prog Tryd.laysM171_ren_strconv_Itoa := {
  mixed := by kernel_rfl
  f129 := Tryd.func100.trans (congrArg some (by kernel_rfl))
  f171 := Tryd.func50.trans (congrArg some (by kernel_rfl))
  f243 := Tryd.func72.trans (congrArg some (by kernel_rfl))
  f246 := Tryd.func83.trans (congrArg some (by kernel_rfl))
  f283 := Tryd.func87.trans (congrArg some (by kernel_rfl))
  f284 := Tryd.func88.trans (congrArg some (by kernel_rfl))
  f285 := Tryd.func89.trans (congrArg some (by kernel_rfl))
  f286 := Tryd.func90.trans (congrArg some (by kernel_rfl))
  f317 := Tryd.func99.trans (congrArg some (by kernel_rfl))
  f318 := Tryd.func101.trans (congrArg some (by kernel_rfl))
  f319 := Tryd.func102.trans (congrArg some (by kernel_rfl))
  f320 := Tryd.func103.trans (congrArg some (by kernel_rfl))
  f337 := Tryd.func108.trans (congrArg some (by kernel_rfl))
  f338 := Tryd.func109.trans (congrArg some (by kernel_rfl))
  t0 := Tryd.underlying0
  a0 := Tryd.isAgg0
  z0 := Tryd.sizeOf0
  v0 := Tryd.zeroValue0
  t2 := Tryd.underlying2
  a2 := Tryd.isAgg2
  z2 := Tryd.sizeOf2
  v2 := Tryd.zeroValue2
  t3 := Tryd.underlying3
  a3 := Tryd.isAgg3
  z3 := Tryd.sizeOf3
  v3 := Tryd.zeroValue3
  t4 := Tryd.underlying4
  a4 := Tryd.isAgg4
  z4 := Tryd.sizeOf4
  v4 := Tryd.zeroValue4
  t5 := Tryd.underlying5
  a5 := Tryd.isAgg5
  z5 := Tryd.sizeOf5
  v5 := Tryd.zeroValue5
  t9 := Tryd.underlying9
  a9 := Tryd.isAgg9
  z9 := Tryd.sizeOf9
  v9 := Tryd.zeroValue9
  t20 := Tryd.underlying20
  a20 := Tryd.isAgg20
  z20 := Tryd.sizeOf20
  v20 := Tryd.zeroValue20
  t37 := Tryd.underlying53
  a37 := Tryd.isAgg53
  z37 := Tryd.sizeOf53
  v37 := Tryd.zeroValue53
  t46 := Tryd.underlying103
  a46 := Tryd.isAgg103
  z46 := Tryd.sizeOf103
  v46 := Tryd.zeroValue103
  t51 := Tryd.underlying118
  a51 := Tryd.isAgg118
  z51 := Tryd.sizeOf118
  v51 := Tryd.zeroValue118
  t53 := Tryd.underlying77
  a53 := Tryd.isAgg77
  z53 := Tryd.sizeOf77
  v53 := Tryd.zeroValue77
  t171 := Tryd.underlying104
  a171 := Tryd.isAgg104
  z171 := Tryd.sizeOf104
  v171 := Tryd.zeroValue104
  t173 := Tryd.underlying107
  a173 := Tryd.isAgg107
  z173 := Tryd.sizeOf107
  v173 := Tryd.zeroValue107
  t212 := Tryd.underlying117
  a212 := Tryd.isAgg117
  z212 := Tryd.sizeOf117
  v212 := Tryd.zeroValue117
  t213 := Tryd.underlying119
  a213 := Tryd.isAgg119
  z213 := Tryd.sizeOf119
  t232 := Tryd.underlying126
  a232 := Tryd.isAgg126
  z232 := Tryd.sizeOf126
  v232 := Tryd.zeroValue126
  t233 := Tryd.underlying127
  a233 := Tryd.isAgg127
  z233 := Tryd.sizeOf127
  v233 := Tryd.zeroValue127
  g17 := by kernel_rfl
  g18 := by kernel_rfl
  g19 := by kernel_rfl
  i0 := by kernel_rfl
  i2 := by kernel_rfl
  i3 := by kernel_rfl
  i4 := by kernel_rfl
  i5 := by kernel_rfl
  i9 := by kernel_rfl
  i20 := by kernel_rfl
  i37 := by kernel_rfl
  i46 := by kernel_rfl
  i51 := by kernel_rfl
  i53 := by kernel_rfl
  i171 := by kernel_rfl
  i173 := by kernel_rfl
  i212 := by kernel_rfl
  i232 := by kernel_rfl
  i233 := by kernel_rfl
  m17 := by kernel_rfl
  m18 := by kernel_rfl
  m19 := by kernel_rfl }
open Go.RowKit Go.Sort Go.Lib in
theorem Tryd.strconv_Itoa (n : Int) (h0 : -9223372036854775808 ≤ n) (h1 : n ≤ 9223372036854775807) (w : World) (htab : Lib.TabIs Tryd.prog w tabNm .u64 Lib.pow10Tab) :
    Calls Tryd.prog 50 #[.int .i64 n] w fun e w' => e = .returned (.string ⟨(Lib.itoa n).toArray⟩) ∧ ∃ k os, w' = grow (w.drewN k) os := Any.strconv_Itoa Tryd.laysM171_strconv_Itoa n h0 h1 w htab

end Go.Proofs.YtdnkmgbbkggmdaaDoor

namespace Go.Proofs.YtdnkmgbbkggmdaaDoor
open Go.RowKit
set_option linter.unusedSectionVars false
variable [Glb]
variable [GTab Tryd.prog tabNm]
set_option maxRecDepth 10000
set_option maxHeartbeats 4000000
theorem itoa_p (n : Nat) (h : n ≤ 1000000) : PC Tryd.prog 50 [.c (dI n)] (.p (.c (dT (numT n)))) :=
  pc_lit1 (Go.Proofs.enters_of Tryd.func50 (by kernel_rfl) rfl) (by
    have := (numT_len 6 n (by omega)).2
    simp [sc, bsT_size]; omega) fun w ok => (Tryd.strconv_Itoa (n : Int) (by omega) (by omega) w (GTab.tab w ok)).mono (by
    rintro e w' ⟨rfl, k, os, rfl⟩
    refine ⟨by rw [Go.Lib.itoa_nonneg]; rfl, ⟨rfl, rfl, rfl, ?_, fun g hg => ?_⟩⟩
    · simp [Go.Sort.grow, World.drewN]
    · simp only [Go.Sort.grow, World.drewN]; rw [Array.getElem?_append_left hg])

end Go.Proofs.YtdnkmgbbkggmdaaDoor

namespace Go.Proofs.YtdnkmgbbkggmdaaDoor
open Go.RowKit
set_option linter.unusedSectionVars false
variable [Glb]
set_option maxRecDepth 10000
set_option maxHeartbeats 4000000
open Go.Shelf Go.Proofs
def Tryd.lays144_ren_strings_Contains_one : Go.Shelf.Ren := ⟨fun | 144 => 70 | 143 => 82 | 219 => 86 | 217 => 95 | 225 => 96 | 224 => 97 | 267 => 98 | 266 => 106 | 314 => 107 | n => n, fun | 9 => 9 | 4 => 4 | 3 => 3 | 5 => 5 | 46 => 103 | 146 => 123 | 51 => 118 | n => n, fun | 1 => 0 | n => n⟩
theorem Tryd.lays144_strings_Contains_one : Go.Proofs.Lays.n144 Tryd.prog Tryd.lays144_ren_strings_Contains_one := {
  mixed := by kernel_rfl
  f143 := Tryd.func82.trans (congrArg some (by kernel_rfl))
  f144 := Tryd.func70.trans (congrArg some (by kernel_rfl))
  f217 := Tryd.func95.trans (congrArg some (by kernel_rfl))
  f219 := Tryd.func86.trans (congrArg some (by kernel_rfl))
  f224 := Tryd.func97.trans (congrArg some (by kernel_rfl))
  f225 := Tryd.func96.trans (congrArg some (by kernel_rfl))
  f266 := Tryd.func106.trans (congrArg some (by kernel_rfl))
  f267 := Tryd.func98.trans (congrArg some (by kernel_rfl))
  f314 := Tryd.func107.trans (congrArg some (by kernel_rfl))
  t3 := Tryd.underlying3
  a3 := Tryd.isAgg3
  z3 := Tryd.sizeOf3
  v3 := Tryd.zeroValue3
  t4 := Tryd.underlying4
  a4 := Tryd.isAgg4
  z4 := Tryd.sizeOf4
  v4 := Tryd.zeroValue4
  t5 := Tryd.underlying5
  a5 := Tryd.isAgg5
  z5 := Tryd.sizeOf5
  v5 := Tryd.zeroValue5
  t9 := Tryd.underlying9
  a9 := Tryd.isAgg9
  z9 := Tryd.sizeOf9
  v9 := Tryd.zeroValue9
  t46 := Tryd.underlying103
  a46 := Tryd.isAgg103
  z46 := Tryd.sizeOf103
  v46 := Tryd.zeroValue103
  t51 := Tryd.underlying118
  a51 := Tryd.isAgg118
  z51 := Tryd.sizeOf118
  v51 := Tryd.zeroValue118
  t146 := Tryd.underlying123
  a146 := Tryd.isAgg123
  z146 := Tryd.sizeOf123
  v146 := Tryd.zeroValue123
  g1 := by kernel_rfl }
open Go.RowKit Go.Lib in
theorem Tryd.strings_Contains_one (s : ByteArray) (c : UInt8) (w : World) :
    Calls Tryd.prog 70 #[.string s, .string ⟨#[c]⟩] w fun e w' => e = .returned (.bool (decide (0 ≤ Lib.indexByte s.data.toList c))) ∧ w' = w := Any.strings_Contains_one Tryd.lays144_strings_Contains_one s c w

end Go.Proofs.YtdnkmgbbkggmdaaDoor

namespace Go.Proofs.YtdnkmgbbkggmdaaDoor
open Go.RowKit
set_option linter.unusedSectionVars false
variable [Glb]
set_option maxRecDepth 10000
set_option maxHeartbeats 4000000
theorem ixB_hit {c : UInt8} : ∀ {s : Tx}, c ∈ s → Go.Lib.indexByte s c = ((bef c s).length : Int)
  | [], h => by cases h
  | x :: r, h => by
    unfold Go.Lib.indexByte
    by_cases hx : x = c
    · subst hx; simp [bef]
    · have hr : c ∈ r := by rcases List.mem_cons.1 h with e | e; exact absurd e.symm hx; exact e
      have := ixB_hit hr
      rw [if_neg (by simpa using hx), this, bef, if_neg hx]
      rw [if_neg (by rw [beq_iff_eq]; omega), List.length_cons]; omega
theorem ixB_miss {c : UInt8} : ∀ {s : Tx}, c ∉ s → Go.Lib.indexByte s c = -1
  | [], h => rfl
  | x :: r, h => by
    rw [List.mem_cons, not_or] at h
    unfold Go.Lib.indexByte
    rw [if_neg (by simpa using Ne.symm h.1), ixB_miss h.2]; rfl
theorem ixB_has (c : UInt8) (s : Tx) : decide (0 ≤ Go.Lib.indexByte s c) = s.contains c := by
  by_cases h : c ∈ s
  · rw [ixB_hit h]; simp [h]
  · rw [ixB_miss h]; simp [h]
theorem bsT_list (s : Tx) : (bsT s).data.toList = s := by simp [bsT]

end Go.Proofs.YtdnkmgbbkggmdaaDoor

namespace Go.Proofs.YtdnkmgbbkggmdaaDoor
open Go.RowKit
set_option linter.unusedSectionVars false
variable [Glb]
set_option maxRecDepth 10000
set_option maxHeartbeats 4000000
theorem strContains_p (s : Tx) (c : UInt8) : PC Tryd.prog 70 [.c (dT s), .c (dT [c])] (.p (.c (dB (s.contains c)))) :=
  pc_lit2 (Go.Proofs.enters_of Tryd.func70 (by kernel_rfl) rfl) rfl fun w _ => (Tryd.strings_Contains_one (bsT s) c w).mono (by
    rintro e w' ⟨rfl, rfl⟩; rw [bsT_list, ixB_has]; exact ⟨rfl, .refl _ _⟩)

end Go.Proofs.YtdnkmgbbkggmdaaDoor

namespace Go.Proofs.YtdnkmgbbkggmdaaDoor
open Go.RowKit
set_option linter.unusedSectionVars false
variable [Glb]
set_option maxRecDepth 10000
set_option maxHeartbeats 4000000
theorem checksum_p (s : Tx) : PC Tryd.prog 71 [.c (dT s)] (.p (.c (dI (sumN s)))) := by
  refine pc_intro Tryd.func71 rfl rfl rfl (by kernel_rfl) rfl rfl ?_; rintro ⟨hl, -⟩
  have hl := FitT hl
  repeat' (first | (refine so_is (.assign _) ?_; (refine so_q (qt_asC rfl) rfl ?_)) | (refine so_is (.move _) ?_; (refine so_q (qt_mvC rfl) rfl ?_)) | (refine so_is (.call ⟨.builtin .len, _, #[9]⟩) ?_; (refine so_q (qt_lenT rfl (by kernel_rfl)) rfl ?_)) | refine so_nil ?_ | refine sk_seq ?_ | refine sk_block ?_ | refine sk_region ?_)
  apply sk_packC [0, 3, 6, 7] [] rfl; (· (repeat (first | exact Pf.nil | apply Pf.cons (.c rfl (.d rfl))))); (· (repeat (exact Pb.nil)))
  refine sk_loopL [0, 6] [] (fun k => [(3, iN (sumN (s.take k))), (7, iN k)]) (fun _ => []) (fun k => k ≤ s.length) (fun k => s.length - k) (0) ?_ (by (repeat (first | exact trivial | refine ⟨(by (rfl)), ?_⟩))) (by (repeat (exact trivial))) ?_
  · simp
  rintro k hk
  have h0 := sumN_lt (s.take k)
  have hb := byt_lt s k
  by_cases h : k < s.length
  · have e : ((41 * (sumN (s.take k) : Int) + byt s k + 1) % 999979) = (sumN (s.take (k + 1)) : Int) := by rw [sumN_take h, byt_nat h]; omega
    repeat' (first | (refine so_is (.assign _) ?_; (refine so_q (qt_asC rfl) rfl ?_)) | (refine so_is (.move _) ?_; (refine so_q (qt_mvC rfl) rfl ?_)) | (refine so_is (.binOp .lss 3 _ _ _) ?_; refine so_q (qt_lss rfl rfl) rfl ?_) | (refine so_is (.binOp .mul 3 _ _ _) ?_; refine so_q (qt_mulI rfl rfl (by (omega))) rfl ?_) | (refine so_is (.index 9 _ _) ?_; (refine so_q (qt_indexT rfl rfl (by kernel_rfl) (by (omega)) (by (omega))) rfl ?_)) | (refine so_is (.convert 5 3 _) ?_; (refine so_q (qt_convI (k' := .i64) rfl (by kernel_rfl) (by kernel_rfl) (by (exact IntWalk.i64_in _ (by (omega))))) rfl ?_)) | (refine so_is (.binOp .add 3 _ _ _) ?_; refine so_q (qt_addI rfl rfl (by (omega))) rfl ?_) | (refine so_is (.binOp .rem 3 _ _ _) ?_; (refine so_q (qt_remN rfl rfl (by (omega)) (by (omega)) (by (omega))) rfl ?_)) | refine so_nil ?_ | refine sk_seq ?_ | refine sk_block ?_ | refine sk_blk ?_ | refine sk_exit rfl ?_ | refine sk_skip ?_ | refine sk_region ?_ | refine sk_if rfl (fun hc => ?_) (fun hc => ?_))
    all_goals first | (exfalso; omega) | skip
    refine sk_back ?_; refine ⟨k + 1, ?_, ?_, le_at rfl (by (repeat (first | exact trivial | refine ⟨(by (first | rfl | (refine int_eq rfl ?_; (omega)))), ?_⟩))) (by (repeat (first | exact trivial | refine ⟨rfl, ?_⟩))) (by (repeat (exact trivial))) (by (repeat (exact trivial)))⟩
    · omega
    · omega
  · repeat' (first | (refine so_is (.assign _) ?_; (refine so_q (qt_asC rfl) rfl ?_)) | (refine so_is (.move _) ?_; (refine so_q (qt_mvC rfl) rfl ?_)) | (refine so_is (.binOp .lss 3 _ _ _) ?_; refine so_q (qt_lss rfl rfl) rfl ?_) | (refine so_is (.binOp .mul 3 _ _ _) ?_; refine so_q (qt_mulI rfl rfl (by (omega))) rfl ?_) | (refine so_is (.index 9 _ _) ?_; (refine so_q (qt_indexT rfl rfl (by kernel_rfl) (by (omega)) (by (omega))) rfl ?_)) | (refine so_is (.convert 5 3 _) ?_; (refine so_q (qt_convI (k' := .i64) rfl (by kernel_rfl) (by kernel_rfl) (by (exact IntWalk.i64_in _ (by (omega))))) rfl ?_)) | (refine so_is (.binOp .add 3 _ _ _) ?_; refine so_q (qt_addI rfl rfl (by (omega))) rfl ?_) | (refine so_is (.binOp .rem 3 _ _ _) ?_; (refine so_q (qt_remN rfl rfl (by (omega)) (by (omega)) (by (omega))) rfl ?_)) | refine so_nil ?_ | refine sk_seq ?_ | refine sk_block ?_ | refine sk_blk ?_ | refine sk_exit rfl ?_ | refine sk_skip ?_ | refine sk_region ?_ | refine sk_if rfl (fun hc => ?_) (fun hc => ?_))
    all_goals first | (exfalso; omega) | skip
    have : k = s.length := by omega
    subst this
    (apply sk_ret; apply ret_eq; (· apply RetOK.p; (· (apply GvA.cons; (· exact .tmp _); (· exact GvP.c (.lit _))); exact GvA.nil); (· (decide))))
    simp

end Go.Proofs.YtdnkmgbbkggmdaaDoor

namespace Go.Proofs.YtdnkmgbbkggmdaaDoor
open Go.RowKit
set_option linter.unusedSectionVars false
variable [Glb]
variable [GTab Tryd.prog tabNm]
set_option maxRecDepth 10000
set_option maxHeartbeats 4000000
def acOK (s : Tx) : Bool := decide (s.length ≤ 4000) && !s.contains 35 && decide ((sealT s).length ≤ 4000)
def acT (s : Tx) : Tx := if acOK s = true then sealT s else []
theorem AppendChecksum_p (s : Tx) : PC Tryd.prog 49 [.c (dT s)] (.t [.c (dT (acT s)), .c (dB (acOK s))]) := by
  have h0 := sumN_lt s
  have h1 := (numS s).2
  refine pc_intro Tryd.func49 rfl rfl rfl (by kernel_rfl) rfl rfl ?_; intro _
  by_cases hk : s.length ≤ 4000
  · by_cases hc : 35 ∈ s
    · have e : acOK s = false := by simp [acOK, hc]
      repeat' (first | (refine so_is (.assign _) ?_; (refine so_q (qt_asC rfl) rfl ?_)) | (refine so_is (.move _) ?_; (refine so_q (qt_mvC rfl) rfl ?_)) | (refine so_is (.call ⟨.builtin .len, _, #[9]⟩) ?_; (refine so_q (qt_lenT rfl (by kernel_rfl)) rfl ?_)) | (refine so_is (.binOp .gtr 3 _ _ _) ?_; refine so_q (qt_gtr rfl rfl) rfl ?_) | (refine so_is (.pick _ _ _) ?_; (refine so_q (qt_pkC rfl rfl) rfl ?_)) | (refine so_is (.binOp .add 9 _ _ _) ?_; (refine so_q (qt_addT rfl rfl (by ((simp at *; omega)))) rfl ?_)) | (refine so_is (.call ⟨.value (.func 70), _, _⟩) ?_; (apply so_call0 (fid := 70); (· (repeat (first | exact SeA.nil | apply SeA.cons (.c (.d _))))); (· exact strContains_p _ 35); (· rfl))) | (refine so_is (.call ⟨.value (.func 71), _, _⟩) ?_; (apply so_call0 (fid := 71); (· (repeat (first | exact SeA.nil | apply SeA.cons (.c (.d _))))); (· exact checksum_p _); (· rfl))) | (refine so_is (.call ⟨.value (.func 50), _, _⟩) ?_; (apply so_call0 (fid := 50); (· (repeat (first | exact SeA.nil | apply SeA.cons (.c (.d _))))); (· exact itoa_p _ (by omega)); (· rfl))) | refine so_nil ?_ | refine so_g_no rfl rfl rfl rfl ?_ | refine so_g_yes rfl rfl rfl rfl ?_ | refine so_g_if rfl rfl (fun hg => ?_) (fun hg => ?_) | refine sk_seq ?_ | refine sk_skip ?_ | refine sk_region ?_ | refine sk_true rfl ?_ | refine sk_if rfl (fun hc => ?_) (fun hc => ?_) | refine sk_cond rfl (fun hc => ?_) (fun hc => ?_))
      all_goals first | (exfalso; simp_all; done) | (exfalso; omega) | skip
      all_goals (apply sk_ret; apply ret_eq; (· apply RetOK.t; (· (apply GvA.cons; (· exact .tmp _); (· exact GvP.c (.lit _))); (apply GvA.cons; (· exact .tmp _); (· exact GvP.c (.lit _))); exact GvA.nil); (· rfl); (· (decide))))
      all_goals simp [acT, e, bsT_nil]
    · by_cases hs : (sealT s).length ≤ 4000
      · have e : acOK s = true := by simp [acOK, hc, hk, hs]
        repeat' (first | (refine so_is (.assign _) ?_; (refine so_q (qt_asC rfl) rfl ?_)) | (refine so_is (.move _) ?_; (refine so_q (qt_mvC rfl) rfl ?_)) | (refine so_is (.call ⟨.builtin .len, _, #[9]⟩) ?_; (refine so_q (qt_lenT rfl (by kernel_rfl)) rfl ?_)) | (refine so_is (.binOp .gtr 3 _ _ _) ?_; refine so_q (qt_gtr rfl rfl) rfl ?_) | (refine so_is (.pick _ _ _) ?_; (refine so_q (qt_pkC rfl rfl) rfl ?_)) | (refine so_is (.binOp .add 9 _ _ _) ?_; (refine so_q (qt_addT rfl rfl (by ((simp at *; omega)))) rfl ?_)) | (refine so_is (.call ⟨.value (.func 70), _, _⟩) ?_; (apply so_call0 (fid := 70); (· (repeat (first | exact SeA.nil | apply SeA.cons (.c (.d _))))); (· exact strContains_p _ 35); (· rfl))) | (refine so_is (.call ⟨.value (.func 71), _, _⟩) ?_; (apply so_call0 (fid := 71); (· (repeat (first | exact SeA.nil | apply SeA.cons (.c (.d _))))); (· exact checksum_p _); (· rfl))) | (refine so_is (.call ⟨.value (.func 50), _, _⟩) ?_; (apply so_call0 (fid := 50); (· (repeat (first | exact SeA.nil | apply SeA.cons (.c (.d _))))); (· exact itoa_p _ (by omega)); (· rfl))) | refine so_nil ?_ | refine so_g_no rfl rfl rfl rfl ?_ | refine so_g_yes rfl rfl rfl rfl ?_ | refine so_g_if rfl rfl (fun hg => ?_) (fun hg => ?_) | refine sk_seq ?_ | refine sk_skip ?_ | refine sk_region ?_ | refine sk_true rfl ?_ | refine sk_if rfl (fun hc => ?_) (fun hc => ?_) | refine sk_cond rfl (fun hc => ?_) (fun hc => ?_))
        all_goals first | (exfalso; simp_all; done) | (exfalso; simp_all [sealT]; omega) | skip
        all_goals (apply sk_ret; apply ret_eq; (· apply RetOK.t; (· (apply GvA.cons; (· exact .tmp _); (· exact GvP.c (.lit _))); (apply GvA.cons; (· exact .tmp _); (· exact GvP.c (.lit _))); exact GvA.nil); (· rfl); (· (decide))))
        all_goals simp [acT, e, sealT]
      · have e : acOK s = false := by simp [acOK, hs]
        repeat' (first | (refine so_is (.assign _) ?_; (refine so_q (qt_asC rfl) rfl ?_)) | (refine so_is (.move _) ?_; (refine so_q (qt_mvC rfl) rfl ?_)) | (refine so_is (.call ⟨.builtin .len, _, #[9]⟩) ?_; (refine so_q (qt_lenT rfl (by kernel_rfl)) rfl ?_)) | (refine so_is (.binOp .gtr 3 _ _ _) ?_; refine so_q (qt_gtr rfl rfl) rfl ?_) | (refine so_is (.pick _ _ _) ?_; (refine so_q (qt_pkC rfl rfl) rfl ?_)) | (refine so_is (.binOp .add 9 _ _ _) ?_; (refine so_q (qt_addT rfl rfl (by ((simp at *; omega)))) rfl ?_)) | (refine so_is (.call ⟨.value (.func 70), _, _⟩) ?_; (apply so_call0 (fid := 70); (· (repeat (first | exact SeA.nil | apply SeA.cons (.c (.d _))))); (· exact strContains_p _ 35); (· rfl))) | (refine so_is (.call ⟨.value (.func 71), _, _⟩) ?_; (apply so_call0 (fid := 71); (· (repeat (first | exact SeA.nil | apply SeA.cons (.c (.d _))))); (· exact checksum_p _); (· rfl))) | (refine so_is (.call ⟨.value (.func 50), _, _⟩) ?_; (apply so_call0 (fid := 50); (· (repeat (first | exact SeA.nil | apply SeA.cons (.c (.d _))))); (· exact itoa_p _ (by omega)); (· rfl))) | refine so_nil ?_ | refine so_g_no rfl rfl rfl rfl ?_ | refine so_g_yes rfl rfl rfl rfl ?_ | refine so_g_if rfl rfl (fun hg => ?_) (fun hg => ?_) | refine sk_seq ?_ | refine sk_skip ?_ | refine sk_region ?_ | refine sk_true rfl ?_ | refine sk_if rfl (fun hc => ?_) (fun hc => ?_) | refine sk_cond rfl (fun hc => ?_) (fun hc => ?_))
        all_goals first | (exfalso; simp_all; done) | (exfalso; simp [sealT] at *; omega) | skip
        all_goals (apply sk_ret; apply ret_eq; (· apply RetOK.t; (· (apply GvA.cons; (· exact .tmp _); (· exact GvP.c (.lit _))); (apply GvA.cons; (· exact .tmp _); (· exact GvP.c (.lit _))); exact GvA.nil); (· rfl); (· (decide))))
        all_goals simp [acT, e, bsT_nil]
  · have e : acOK s = false := by simp [acOK, hk]
    repeat' (first | (refine so_is (.assign _) ?_; (refine so_q (qt_asC rfl) rfl ?_)) | (refine so_is (.move _) ?_; (refine so_q (qt_mvC rfl) rfl ?_)) | (refine so_is (.call ⟨.builtin .len, _, #[9]⟩) ?_; (refine so_q (qt_lenT rfl (by kernel_rfl)) rfl ?_)) | (refine so_is (.binOp .gtr 3 _ _ _) ?_; refine so_q (qt_gtr rfl rfl) rfl ?_) | (refine so_is (.pick _ _ _) ?_; (refine so_q (qt_pkC rfl rfl) rfl ?_)) | refine so_nil ?_ | refine so_g_no rfl rfl rfl rfl ?_ | refine so_g_yes rfl rfl rfl rfl ?_ | refine so_g_if rfl rfl (fun hg => ?_) (fun hg => ?_) | refine sk_seq ?_ | refine sk_region ?_ | refine sk_true rfl ?_)
    all_goals first | (exfalso; simp_all; done) | (exfalso; omega) | skip
    all_goals (apply sk_ret; apply ret_eq; (· apply RetOK.t; (· (apply GvA.cons; (· exact .tmp _); (· exact GvP.c (.lit _))); (apply GvA.cons; (· exact .tmp _); (· exact GvP.c (.lit _))); exact GvA.nil); (· rfl); (· (decide))))
    all_goals simp [acT, e, bsT_nil]

end Go.Proofs.YtdnkmgbbkggmdaaDoor

namespace Go.Proofs.YtdnkmgbbkggmdaaDoor
open Go.RowKit
set_option linter.unusedSectionVars false
variable [Glb]
set_option maxRecDepth 10000
set_option maxHeartbeats 4000000
open Go.Shelf Go.Proofs
def Tryd.lays150_ren_strings_ContainsAny_laid : Go.Shelf.Ren := ⟨fun | 150 => 80 | 153 => 85 | 152 => 91 | 226 => 92 | 227 => 93 | 228 => 94 | 137 => 104 | 119 => 105 | 224 => 97 | 225 => 96 | 217 => 95 | 266 => 106 | n => n, fun | 9 => 9 | 4 => 4 | 3 => 3 | 5 => 5 | 21 => 21 | 117 => 112 | 116 => 111 | 0 => 0 | 46 => 103 | 124 => 122 | n => n, fun | n => n⟩
theorem Tryd.lays150_strings_ContainsAny_laid : Go.Proofs.Lays.n150 Tryd.prog Tryd.lays150_ren_strings_ContainsAny_laid := {
  mixed := by kernel_rfl
  f119 := Tryd.func105.trans (congrArg some (by kernel_rfl))
  f137 := Tryd.func104.trans (congrArg some (by kernel_rfl))
  f150 := Tryd.func80.trans (congrArg some (by kernel_rfl))
  f152 := Tryd.func91.trans (congrArg some (by kernel_rfl))
  f153 := Tryd.func85.trans (congrArg some (by kernel_rfl))
  f217 := Tryd.func95.trans (congrArg some (by kernel_rfl))
  f224 := Tryd.func97.trans (congrArg some (by kernel_rfl))
  f225 := Tryd.func96.trans (congrArg some (by kernel_rfl))
  f226 := Tryd.func92.trans (congrArg some (by kernel_rfl))
  f227 := Tryd.func93.trans (congrArg some (by kernel_rfl))
  f228 := Tryd.func94.trans (congrArg some (by kernel_rfl))
  f266 := Tryd.func106.trans (congrArg some (by kernel_rfl))
  t0 := Tryd.underlying0
  a0 := Tryd.isAgg0
  z0 := Tryd.sizeOf0
  v0 := Tryd.zeroValue0
  t3 := Tryd.underlying3
  a3 := Tryd.isAgg3
  z3 := Tryd.sizeOf3
  v3 := Tryd.zeroValue3
  t4 := Tryd.underlying4
  a4 := Tryd.isAgg4
  z4 := Tryd.sizeOf4
  v4 := Tryd.zeroValue4
  t5 := Tryd.underlying5
  a5 := Tryd.isAgg5
  z5 := Tryd.sizeOf5
  v5 := Tryd.zeroValue5
  t9 := Tryd.underlying9
  a9 := Tryd.isAgg9
  z9 := Tryd.sizeOf9
  v9 := Tryd.zeroValue9
  t21 := Tryd.underlying21
  a21 := Tryd.isAgg21
  z21 := Tryd.sizeOf21
  v21 := Tryd.zeroValue21
  t46 := Tryd.underlying103
  a46 := Tryd.isAgg103
  z46 := Tryd.sizeOf103
  v46 := Tryd.zeroValue103
  t116 := Tryd.underlying111
  a116 := Tryd.isAgg111
  z116 := Tryd.sizeOf111
  t117 := Tryd.underlying112
  a117 := Tryd.isAgg112
  z117 := Tryd.sizeOf112
  v117 := Tryd.zeroValue112
  t124 := Tryd.underlying122
  a124 := Tryd.isAgg122
  z124 := Tryd.sizeOf122
  v124 := Tryd.zeroValue122 }
open Go.RowKit Go.Lib in
theorem Tryd.strings_ContainsAny_laid (s chars : ByteArray) (w : World) (hs : s.size < 4294967281) (hcs : chars.size < 4294967281) (has : ∀ (j : Nat) b, s.data.toList[j]? = some b → b.toNat < 128) (hac : ∀ (j : Nat) b, chars.data.toList[j]? = some b → b.toNat < 128) :
    Calls Tryd.prog 80 #[.string s, .string chars] w fun e w' => e = .returned (.bool (Lib.containsAny s.data.toList chars.data.toList)) ∧ Below w.heap.size w w' := Any.strings_ContainsAny_laid Tryd.lays150_strings_ContainsAny_laid (by kernel_rfl) s chars w hs hcs has hac

end Go.Proofs.YtdnkmgbbkggmdaaDoor

namespace Go.Proofs.YtdnkmgbbkggmdaaDoor
open Go.RowKit
set_option linter.unusedSectionVars false
variable [Glb]
set_option maxRecDepth 10000
set_option maxHeartbeats 4000000
theorem ixA_has (o : Tx) : ∀ s : Tx, Go.Lib.containsAny s o = s.any fun b => o.contains b
  | [] => rfl
  | x :: r => by
    have ih := ixA_has o r
    unfold Go.Lib.containsAny at ih
    rw [List.any_cons, ← ih]
    show decide (0 ≤ (if o.contains x then 0 else if Go.Lib.indexAny r o == -1 then -1 else Go.Lib.indexAny r o + 1)) = _
    have := Go.Lib.indexAny_ge o r
    cases h : o.contains x with
    | true => simp
    | false =>
      rw [Bool.false_or]
      by_cases h3 : Go.Lib.indexAny r o = -1
      · simp [h3]
      · have h4 : (Go.Lib.indexAny r o == -1) = false := by simpa using h3
        rw [h4]
        simp only [Bool.false_eq_true, if_false]
        exact decide_eq_decide.2 ⟨fun _ => by omega, fun _ => by omega⟩
theorem containsAny_p (s o : Tx) (h1 : s.length ≤ 4000000) (h2 : o.length ≤ 100) (h3 : ∀ b ∈ s, b.toNat < 128) (h4 : ∀ b ∈ o, b.toNat < 128) : PC Tryd.prog 80 [.c (dT s), .c (dT o)] (.p (.c (dB (s.any fun b => o.contains b)))) :=
  pc_lit2 (Go.Proofs.enters_of Tryd.func80 (by kernel_rfl) rfl) rfl fun w _ => (Tryd.strings_ContainsAny_laid (bsT s) (bsT o) w (by rw [bsT_size]; omega) (by rw [bsT_size]; omega) (fun j b hb => h3 b (by rw [bsT_list] at hb; exact List.mem_of_getElem? hb)) (fun j b hb => h4 b (by rw [bsT_list] at hb; exact List.mem_of_getElem? hb))).mono (by
    rintro e w' ⟨rfl, hb⟩; rw [bsT_list, bsT_list, ixA_has]; exact ⟨rfl, hb⟩)

end Go.Proofs.YtdnkmgbbkggmdaaDoor

namespace Go.Proofs.YtdnkmgbbkggmdaaDoor
open Go.RowKit
set_option linter.unusedSectionVars false
variable [Glb]
set_option maxRecDepth 10000
set_option maxHeartbeats 4000000
theorem plB_f {s : Tx} {k : Nat} {most : Int} {o : Tx} (h : k < s.length) (e : byt s k < 32 ∨ 126 < byt s k) : plainB s most o = false := by
  have : s.all plB = false := by
    refine all_f h ?_
    rw [byt_nat h] at e
    simp [plB]; omega
  unfold plainB; rw [this]; rfl
theorem plB_go {s : Tx} {k : Nat} (h : k < s.length) (e : ¬ byt s k < 32) (e2 : ¬ 126 < byt s k) (ht : (s.take k).all plB = true) : (s.take (k + 1)).all plB = true := by
  rw [take_succ_all _ _ _ h, ht, Bool.true_and]
  rw [byt_nat h] at e e2
  simp [plB]; omega
theorem isPlain_p (s o : Tx) (most : Int) (h1 : most ≤ 4000000) (h2 : o.length ≤ 100) (h4 : ∀ b ∈ o, b.toNat < 128) : PC Tryd.prog 63 [.c (dT s), .c (dI most), .c (dT o)] (.p (.c (dB (plainB s most o)))) := by
  refine pc_intro Tryd.func63 rfl rfl rfl (by kernel_rfl) rfl rfl ?_; rintro ⟨hl, -⟩
  have hl := FitT hl
  repeat' (first | (refine so_is (.assign _) ?_; (refine so_q (qt_asC rfl) rfl ?_)) | (refine so_is (.move _) ?_; (refine so_q (qt_mvC rfl) rfl ?_)) | (refine so_is (.call ⟨.builtin .len, _, #[9]⟩) ?_; (refine so_q (qt_lenT rfl (by kernel_rfl)) rfl ?_)) | refine so_nil ?_ | refine sk_seq ?_ | refine sk_block ?_ | refine sk_region ?_)
  apply sk_packC [0, 1, 2, 9, 10] [] rfl; (· (repeat (first | exact Pf.nil | apply Pf.cons (.c rfl (.d rfl))))); (· (repeat (exact Pb.nil)))
  refine sk_loopL [0, 1, 2, 9] [] (fun k => [(10, iN k)]) (fun _ => []) (fun k => k ≤ s.length ∧ (s.take k).all plB = true) (fun k => s.length - k) (0) ?_ (by (repeat (first | exact trivial | refine ⟨(by (rfl)), ?_⟩))) (by (repeat (exact trivial))) ?_
  · simp
  rintro k ⟨hk, ht⟩
  have hb := byt_lt s k
  by_cases h : k < s.length
  · repeat' (first | (refine so_is (.assign _) ?_; (refine so_q (qt_asC rfl) rfl ?_)) | (refine so_is (.move _) ?_; (refine so_q (qt_mvC rfl) rfl ?_)) | (refine so_is (.call ⟨.builtin .len, _, #[9]⟩) ?_; (refine so_q (qt_lenT rfl (by kernel_rfl)) rfl ?_)) | (refine so_is (.binOp .lss 3 _ _ _) ?_; refine so_q (qt_lss rfl rfl) rfl ?_) | (refine so_is (.index 9 _ _) ?_; (refine so_q (qt_indexT rfl rfl (by kernel_rfl) (by (omega)) (by (omega))) rfl ?_)) | (refine so_is (.binOp .lss 5 _ _ _) ?_; refine so_q (qt_lss rfl rfl) rfl ?_) | (refine so_is (.binOp .gtr 5 _ _ _) ?_; refine so_q (qt_gtr rfl rfl) rfl ?_) | (refine so_is (.pick _ _ _) ?_; (refine so_q (qt_pkC rfl rfl) rfl ?_)) | (refine so_is (.binOp .add 3 _ _ _) ?_; refine so_q (qt_addI rfl rfl (by (omega))) rfl ?_) | (refine so_is (.binOp .leq 3 _ _ _) ?_; refine so_q (qt_leq rfl rfl) rfl ?_) | refine so_nil ?_ | refine so_g_no rfl rfl rfl rfl ?_ | refine so_g_yes rfl rfl rfl rfl ?_ | refine so_g_if rfl rfl (fun hg => ?_) (fun hg => ?_) | refine sk_seq ?_ | refine sk_block ?_ | refine sk_blk ?_ | refine sk_exit rfl ?_ | refine sk_skip ?_ | refine sk_region ?_ | refine sk_true rfl ?_ | refine sk_if rfl (fun hc => ?_) (fun hc => ?_))
    all_goals first | (exfalso; omega) | skip
    · (apply sk_ret; apply ret_eq; (· apply RetOK.p; (· (apply GvA.cons; (· exact .tmp _); (· exact GvP.c (.lit _))); exact GvA.nil); (· (decide))))
      rw [plB_f h (.inl (by assumption))]
    · (apply sk_ret; apply ret_eq; (· apply RetOK.p; (· (apply GvA.cons; (· exact .tmp _); (· exact GvP.c (.lit _))); exact GvA.nil); (· (decide))))
      rw [plB_f h (.inr (by omega))]
    · refine sk_back ?_; refine ⟨k + 1, ?_, ?_, le_at rfl (by (repeat (first | exact trivial | refine ⟨(by (rfl)), ?_⟩))) (by (repeat (first | exact trivial | refine ⟨rfl, ?_⟩))) (by (repeat (exact trivial))) (by (repeat (exact trivial)))⟩
      · exact ⟨by omega, plB_go h (by assumption) (by omega) ht⟩
      · omega
  · have : k = s.length := by omega
    subst this
    rw [List.take_length] at ht
    have h3 : ∀ b ∈ s, b.toNat < 128 := fun b hb => by
      have := List.all_eq_true.1 ht b hb
      simp [plB] at this; omega
    by_cases hm : (s.length : Int) ≤ most
    · have h5 : s.length ≤ 4000000 := by omega
      repeat' (first | (refine so_is (.assign _) ?_; (refine so_q (qt_asC rfl) rfl ?_)) | (refine so_is (.move _) ?_; (refine so_q (qt_mvC rfl) rfl ?_)) | (refine so_is (.call ⟨.builtin .len, _, #[9]⟩) ?_; (refine so_q (qt_lenT rfl (by kernel_rfl)) rfl ?_)) | (refine so_is (.binOp .lss 3 _ _ _) ?_; refine so_q (qt_lss rfl rfl) rfl ?_) | (refine so_is (.index 9 _ _) ?_; (refine so_q (qt_indexT rfl rfl (by kernel_rfl) (by (omega)) (by (omega))) rfl ?_)) | (refine so_is (.binOp .lss 5 _ _ _) ?_; refine so_q (qt_lss rfl rfl) rfl ?_) | (refine so_is (.binOp .gtr 5 _ _ _) ?_; refine so_q (qt_gtr rfl rfl) rfl ?_) | (refine so_is (.pick _ _ _) ?_; (refine so_q (qt_pkC rfl rfl) rfl ?_)) | (refine so_is (.binOp .add 3 _ _ _) ?_; refine so_q (qt_addI rfl rfl (by (omega))) rfl ?_) | (refine so_is (.binOp .leq 3 _ _ _) ?_; refine so_q (qt_leq rfl rfl) rfl ?_) | (refine so_is (.unOp .not 4 _) ?_; refine so_q (qt_not rfl) rfl ?_) | (refine so_is (.call ⟨.value (.func 80), _, _⟩) ?_; (apply so_call0 (fid := 80); (· (repeat (first | exact SeA.nil | apply SeA.cons (.c (.d _))))); (· exact containsAny_p _ _ (by assumption) (by assumption) (by assumption) (by assumption)); (· rfl))) | refine so_nil ?_ | refine so_g_no rfl rfl rfl rfl ?_ | refine so_g_yes rfl rfl rfl rfl ?_ | refine so_g_if rfl rfl (fun hg => ?_) (fun hg => ?_) | refine sk_seq ?_ | refine sk_block ?_ | refine sk_blk ?_ | refine sk_exit rfl ?_ | refine sk_skip ?_ | refine sk_region ?_ | refine sk_true rfl ?_ | refine sk_if rfl (fun hc => ?_) (fun hc => ?_))
      all_goals first | (exfalso; omega) | skip
      all_goals (apply sk_ret; apply ret_eq; (· apply RetOK.p; (· (apply GvA.cons; (· exact .tmp _); (· exact GvP.c (.lit _))); exact GvA.nil); (· (decide))))
      all_goals simp [plainB, ht, hm]
    · repeat' (first | (refine so_is (.assign _) ?_; (refine so_q (qt_asC rfl) rfl ?_)) | (refine so_is (.move _) ?_; (refine so_q (qt_mvC rfl) rfl ?_)) | (refine so_is (.call ⟨.builtin .len, _, #[9]⟩) ?_; (refine so_q (qt_lenT rfl (by kernel_rfl)) rfl ?_)) | (refine so_is (.binOp .lss 3 _ _ _) ?_; refine so_q (qt_lss rfl rfl) rfl ?_) | (refine so_is (.index 9 _ _) ?_; (refine so_q (qt_indexT rfl rfl (by kernel_rfl) (by (omega)) (by (omega))) rfl ?_)) | (refine so_is (.binOp .lss 5 _ _ _) ?_; refine so_q (qt_lss rfl rfl) rfl ?_) | (refine so_is (.binOp .gtr 5 _ _ _) ?_; refine so_q (qt_gtr rfl rfl) rfl ?_) | (refine so_is (.pick _ _ _) ?_; (refine so_q (qt_pkC rfl rfl) rfl ?_)) | (refine so_is (.binOp .add 3 _ _ _) ?_; refine so_q (qt_addI rfl rfl (by (omega))) rfl ?_) | (refine so_is (.binOp .leq 3 _ _ _) ?_; refine so_q (qt_leq rfl rfl) rfl ?_) | refine so_nil ?_ | refine so_g_no rfl rfl rfl rfl ?_ | refine so_g_yes rfl rfl rfl rfl ?_ | refine so_g_if rfl rfl (fun hg => ?_) (fun hg => ?_) | refine sk_seq ?_ | refine sk_block ?_ | refine sk_blk ?_ | refine sk_exit rfl ?_ | refine sk_skip ?_ | refine sk_region ?_ | refine sk_true rfl ?_ | refine sk_if rfl (fun hc => ?_) (fun hc => ?_))
      all_goals first | (exfalso; omega) | skip
      all_goals (apply sk_ret; apply ret_eq; (· apply RetOK.p; (· (apply GvA.cons; (· exact .tmp _); (· exact GvP.c (.lit _))); exact GvA.nil); (· (decide))))
      all_goals simp [plainB, ht, hm]

end Go.Proofs.YtdnkmgbbkggmdaaDoor

namespace Go.Proofs.YtdnkmgbbkggmdaaDoor
open Go.RowKit
set_option linter.unusedSectionVars false
variable [Glb]
set_option maxRecDepth 10000
set_option maxHeartbeats 4000000
theorem isCommand_p (s : Tx) : PC Tryd.prog 62 [.c (dT s)] (.p (.c (dB (decide (s ≠ []) && plainB s 160 [35, 64])))) := by
  refine pc_intro Tryd.func62 rfl rfl rfl (by kernel_rfl) rfl rfl ?_; intro _
  repeat' (first | (refine so_is (.assign _) ?_; (refine so_q (qt_asC rfl) rfl ?_)) | (refine so_is (.move _) ?_; (refine so_q (qt_mvC rfl) rfl ?_)) | (refine so_is (.binOp .neq 9 _ _ _) ?_; (refine so_q (qt_neqT rfl rfl) rfl ?_)) | (refine so_is (.pick _ _ _) ?_; (refine so_q (qt_pkC rfl rfl) rfl ?_)) | (refine so_is (.call ⟨.value (.func 63), _, _⟩) ?_; (apply so_call0 (fid := 63); (· (repeat (first | exact SeA.nil | apply SeA.cons (.c (.d _))))); (· exact isPlain_p _ [35, 64] _ (by decide) (by decide) (by decide)); (· rfl))) | refine so_nil ?_ | refine so_g_no rfl rfl rfl rfl ?_ | refine so_g_yes rfl rfl rfl rfl ?_ | refine so_g_if rfl rfl (fun hg => ?_) (fun hg => ?_) | refine sk_seq ?_ | refine sk_region ?_)
  all_goals (apply sk_ret; apply ret_eq; (· apply RetOK.p; (· (apply GvA.cons; (· exact .tmp _); (· exact GvP.c (.lit _))); exact GvA.nil); (· (decide))))
  all_goals simp_all

end Go.Proofs.YtdnkmgbbkggmdaaDoor

namespace Go.Proofs.YtdnkmgbbkggmdaaDoor
open Go.RowKit
set_option linter.unusedSectionVars false
variable [Glb]
set_option maxRecDepth 10000
set_option maxHeartbeats 4000000
theorem IsValidRecord_p (c r : Tx) : PC Tryd.prog 40 [.g [dT c, dT r]] (.p (.c (dB (recB c r)))) := by
  refine pc_intro Tryd.func40 rfl rfl rfl (by kernel_rfl) rfl rfl ?_; intro _
  repeat' (first | (refine so_is (.box 27 _) ?_; refine so_box rfl rfl ?_) | (refine so_is (.assign _) ?_; (refine so_q (qt_asC rfl) rfl ?_)) | (refine so_is (.fieldAddr 27 _ 0) ?_; (refine so_q (qt_fld_lp (off := 0) rfl (by kernel_rfl)) rfl ?_)) | (refine so_is (.load 9 _) ?_; (refine so_q (qt_load_box rfl rfl (by kernel_rfl) rfl) rfl ?_)) | (refine so_is (.move _) ?_; (refine so_q (qt_mvC rfl) rfl ?_)) | (refine so_is (.fieldAddr 27 _ 1) ?_; (refine so_q (qt_fld_lp (off := 1) rfl (by kernel_rfl)) rfl ?_)) | (refine so_is (.pick _ _ _) ?_; (refine so_q (qt_pkC rfl rfl) rfl ?_)) | (refine so_is (.call ⟨.value (.func 62), _, _⟩) ?_; (apply so_call0 (fid := 62); (· (repeat (first | exact SeA.nil | apply SeA.cons (.c (.d _))))); (· exact isCommand_p _); (· rfl))) | (refine so_is (.call ⟨.value (.func 63), _, _⟩) ?_; (apply so_call0 (fid := 63); (· (repeat (first | exact SeA.nil | apply SeA.cons (.c (.d _))))); (· exact isPlain_p _ [35] _ (by decide) (by decide) (by decide)); (· rfl))) | refine so_nil ?_ | refine so_g_no rfl rfl rfl rfl ?_ | refine so_g_yes rfl rfl rfl rfl ?_ | refine so_g_b rfl rfl (fun hg => ?_) (fun hg => ?_) | refine sk_seq ?_ | refine sk_region ?_)
  all_goals (apply sk_ret; apply ret_eq; (· apply RetOK.p; (· (apply GvA.cons; (· exact .tmp _); (· exact GvP.c (.lit _))); exact GvA.nil); (· (decide))))
  all_goals rw [← recB_eq]
  all_goals simp_all

end Go.Proofs.YtdnkmgbbkggmdaaDoor

namespace Go.Proofs.YtdnkmgbbkggmdaaDoor
open Go.RowKit
set_option linter.unusedSectionVars false
variable [Glb]
set_option maxRecDepth 10000
set_option maxHeartbeats 4000000
theorem within_p (n lo hi : Int) : PC Tryd.prog 48 [.c (dI n), .c (dI lo), .c (dI hi)] (.p (.c (dB (inB n lo hi)))) := by
  refine pc_intro Tryd.func48 rfl rfl rfl (by kernel_rfl) rfl rfl ?_; intro _
  repeat' (first | (refine so_is (.assign _) ?_; (refine so_q (qt_asC rfl) rfl ?_)) | (refine so_is (.move _) ?_; (refine so_q (qt_mvC rfl) rfl ?_)) | (refine so_is (.binOp .geq 3 _ _ _) ?_; refine so_q (qt_geq rfl rfl) rfl ?_) | (refine so_is (.binOp .leq 3 _ _ _) ?_; refine so_q (qt_leq rfl rfl) rfl ?_) | (refine so_is (.pick _ _ _) ?_; (refine so_q (qt_pkC rfl rfl) rfl ?_)) | refine so_nil ?_ | refine so_g_no rfl rfl rfl rfl ?_ | refine so_g_yes rfl rfl rfl rfl ?_ | refine so_g_if rfl rfl (fun hg => ?_) (fun hg => ?_) | refine sk_seq ?_ | refine sk_region ?_)
  all_goals ((apply sk_ret; apply ret_eq; (· apply RetOK.p; (· (apply GvA.cons; (· exact .tmp _); (· exact GvP.c (.lit _))); exact GvA.nil); (· (decide)))))
  all_goals (simp [dB, inB, *]; try omega)

end Go.Proofs.YtdnkmgbbkggmdaaDoor

namespace Go.Proofs.YtdnkmgbbkggmdaaDoor
open Go.RowKit
set_option linter.unusedSectionVars false
variable [Glb]
variable [GTab Tryd.prog tabNm]
set_option maxRecDepth 10000
set_option maxHeartbeats 4000000
theorem ac_line {k : Nat} {c r : Tx} (hk : k < 60) (h : RecP c r) : acT (textT k c r) = lineT k c r := by
  have h1 := text_len hk h
  have h2 := seal_len (textT k c r)
  have h3 := text35 (k := k) h
  have : acOK (textT k c r) = true := by simp [acOK, h3]; omega
  simp [acT, this, lineT]
theorem EncodeRecord_no (k : Int) (c r : Tx) (h : (inB k 0 59 && recB c r) = false) : PC Tryd.prog 15 [.c (dI k), .g [dT c, dT r]] (.t [.c (dT []), .c (dB false)]) := by
  refine pc_intro Tryd.func15 rfl rfl rfl (by kernel_rfl) rfl rfl ?_; intro _
  repeat' (first | (refine so_is (.box 27 _) ?_; refine so_box rfl rfl ?_) | (refine so_is (.assign _) ?_; (refine so_q (qt_asC rfl) rfl ?_)) | (refine so_is (.move _) ?_; (refine so_q (qt_mvC rfl) rfl ?_)) | (refine so_is (.unOp .not 4 _) ?_; refine so_q (qt_not rfl) rfl ?_) | (refine so_is (.load 27 _) ?_; (refine so_q (qt_load_boxs rfl rfl (by kernel_rfl : tAgg _ 27 2 = true) rfl) rfl ?_)) | (refine so_is (.pick _ _ _) ?_; (refine so_q (qt_pkC rfl rfl) rfl ?_)) | (refine so_is (.fieldAddr 27 _ 0) ?_; (refine so_q (qt_fld_lp (off := 0) rfl (by kernel_rfl)) rfl ?_)) | (refine so_is (.load 9 _) ?_; (refine so_q (qt_load_box rfl rfl (by kernel_rfl) rfl) rfl ?_)) | (refine so_is (.fieldAddr 27 _ 1) ?_; (refine so_q (qt_fld_lp (off := 1) rfl (by kernel_rfl)) rfl ?_)) | (refine so_is (.call ⟨.value (.func 48), _, _⟩) ?_; (apply so_call0 (fid := 48); (· (repeat (first | exact SeA.nil | apply SeA.cons (.c (.d _))))); (· exact within_p _ _ _); (· rfl))) | (refine so_is (.call ⟨.value (.func 40), _, _⟩) ?_; (apply so_call0 (fid := 40); (· (repeat (first | exact SeA.nil | (apply SeA.cons; (· (apply SeP.g; (repeat (first | exact SeL.nil | apply SeL.cons (.d _))))))))); (· exact IsValidRecord_p _ _); (· rfl))) | refine so_nil ?_ | refine so_g_no rfl rfl rfl rfl ?_ | refine so_g_yes rfl rfl rfl rfl ?_ | refine so_g_b rfl rfl (fun hg => ?_) (fun hg => ?_) | refine sk_seq ?_ | refine sk_skip ?_ | refine sk_region ?_ | refine sk_drawQ 3 (fun _ => false) (.step 0 true (.step 3 true (.step 4 true (.step 7 true (.step 8 true (.step 1 false (.step 2 true (.step 5 true (.step 6 true (.step 9 true (.step 10 false (.step 11 true (.step 12 true (.step 13 true (.step 14 true (.step 15 true .nil)))))))))))))))) [(0, 65535, 65535, true), (1, 65534, 65535, false), (2, 65533, 65535, true), (0, 65535, 65535, true), (8, 65527, 65535, false), (20, 65515, 65535, true), (32, 65503, 65535, true), (0, 65535, 65535, true), (128, 65407, 65535, false), (320, 65215, 65535, true), (514, 65023, 65535, false), (1024, 64511, 65535, true), (2048, 63487, 65535, true), (2048, 63487, 65535, true), (8191, 61439, 65535, true), (32767, 57343, 65535, true)] (by kernel_rfl) (by kernel_rfl) ?_ | refine sk_true rfl ?_ | refine sk_not rfl (fun hc => ?_) (fun hc => ?_))
  all_goals first | (exfalso; simp_all; done) | skip
  all_goals (apply sk_ret; apply ret_eq; (· apply RetOK.t; (· (apply GvA.cons; (· exact .tmp _); (· exact GvP.c (.lit _))); (apply GvA.cons; (· exact .tmp _); (· exact GvP.c (.lit _))); exact GvA.nil); (· rfl); (· (decide))))
  all_goals simp_all [bsT_nil]
theorem EncodeRecord_p (k : Nat) (c r : Tx) (h : k < 60) (hr : recB c r = true) : PC Tryd.prog 15 [.c (dI k), .g [dT c, dT r]] (.t [.c (dT (lineT k c r ++ [10])), .c (dB true)]) := by
  have hp := recB_p hr
  have h1 := text_len h hp
  have h2 := seal_len (textT k c r)
  have h3 := (num60 h).2
  have h4 := hp.cl
  have h5 := hp.rl
  have h6 : inB (k : Int) 0 59 = true := by rw [inB_iff]; omega
  have e := ac_line h hp
  have h7 : (acT (textT k c r)).length ≤ 4000 := by rw [e]; unfold lineT; omega
  unfold textT at h7
  refine pc_intro Tryd.func15 rfl rfl rfl (by kernel_rfl) rfl rfl ?_; intro _
  repeat' (first | (refine so_is (.box 27 _) ?_; refine so_box rfl rfl ?_) | (refine so_is (.assign _) ?_; (refine so_q (qt_asC rfl) rfl ?_)) | (refine so_is (.move _) ?_; (first | refine so_q (qt_mvC rfl) rfl ?_ | refine so_q (qt_mvT rfl) rfl ?_)) | (refine so_is (.unOp .not 4 _) ?_; refine so_q (qt_not rfl) rfl ?_) | (refine so_is (.load 27 _) ?_; (refine so_q (qt_load_boxs rfl rfl (by kernel_rfl : tAgg _ 27 2 = true) rfl) rfl ?_)) | (refine so_is (.pick _ _ _) ?_; (refine so_q (qt_pkC rfl rfl) rfl ?_)) | (refine so_is (.binOp .add 9 _ _ _) ?_; (refine so_q (qt_addT rfl rfl (by ((simp at *; omega)))) rfl ?_)) | (refine so_is (.fieldAddr 27 _ 0) ?_; (refine so_q (qt_fld_lp (off := 0) rfl (by kernel_rfl)) rfl ?_)) | (refine so_is (.load 9 _) ?_; (refine so_q (qt_load_box rfl rfl (by kernel_rfl) rfl) rfl ?_)) | (refine so_is (.fieldAddr 27 _ 1) ?_; (refine so_q (qt_fld_lp (off := 1) rfl (by kernel_rfl)) rfl ?_)) | (refine so_is (.extract _ _) ?_; refine so_q (qt_extract rfl rfl) rfl ?_) | (refine so_is (.call ⟨.value (.func 48), _, _⟩) ?_; (apply so_call0 (fid := 48); (· (repeat (first | exact SeA.nil | apply SeA.cons (.c (.d _))))); (· exact within_p _ _ _); (· rfl))) | (refine so_is (.call ⟨.value (.func 40), _, _⟩) ?_; (apply so_call0 (fid := 40); (· (repeat (first | exact SeA.nil | (apply SeA.cons; (· (apply SeP.g; (repeat (first | exact SeL.nil | apply SeL.cons (.d _))))))))); (· exact IsValidRecord_p _ _); (· rfl))) | (refine so_is (.call ⟨.value (.func 50), _, _⟩) ?_; (apply so_call0 (fid := 50); (· (repeat (first | exact SeA.nil | apply SeA.cons (.c (.d _))))); (· exact itoa_p _ (by omega)); (· rfl))) | (refine so_is (.call ⟨.value (.func 49), _, _⟩) ?_; (apply so_call0 (fid := 49); (· (repeat (first | exact SeA.nil | apply SeA.cons (.c (.d _))))); (· exact AppendChecksum_p _); (· rfl))) | refine so_nil ?_ | refine so_g_no rfl rfl rfl rfl ?_ | refine so_g_yes rfl rfl rfl rfl ?_ | refine so_g_b rfl rfl (fun hg => ?_) (fun hg => ?_) | refine sk_seq ?_ | refine sk_skip ?_ | refine sk_region ?_ | refine sk_drawQ 3 (fun _ => false) (.step 0 true (.step 3 true (.step 4 true (.step 7 true (.step 8 true (.step 1 false (.step 2 true (.step 5 true (.step 6 true (.step 9 true (.step 10 false (.step 11 true (.step 12 true (.step 13 true (.step 14 true (.step 15 true .nil)))))))))))))))) [(0, 65535, 65535, true), (1, 65534, 65535, false), (2, 65533, 65535, true), (0, 65535, 65535, true), (8, 65527, 65535, false), (20, 65515, 65535, true), (32, 65503, 65535, true), (0, 65535, 65535, true), (128, 65407, 65535, false), (320, 65215, 65535, true), (514, 65023, 65535, false), (1024, 64511, 65535, true), (2048, 63487, 65535, true), (2048, 63487, 65535, true), (8191, 61439, 65535, true), (32767, 57343, 65535, true)] (by kernel_rfl) (by kernel_rfl) ?_ | refine sk_true rfl ?_ | refine sk_not rfl (fun hc => ?_) (fun hc => ?_))
  all_goals first | (exfalso; simp_all; done) | skip
  all_goals (apply sk_ret; apply ret_eq; (· apply RetOK.t; (· (apply GvA.cons; (· exact .tmp _); (· exact GvP.c (.lit _))); (apply GvA.cons; (· exact .tmp _); (· exact GvP.c (.lit _))); exact GvA.nil); (· rfl); (· (decide))))
  all_goals rw [show acT (numT k ++ [32] ++ c ++ [64] ++ r) = lineT k c r from e]

end Go.Proofs.YtdnkmgbbkggmdaaDoor

namespace Go.Proofs.YtdnkmgbbkggmdaaDoor
open Go.RowKit
set_option linter.unusedSectionVars false
variable [Glb]
set_option maxRecDepth 10000
set_option maxHeartbeats 4000000
theorem l1Sum_p (s : Tx) : PC Tryd.prog 81 [.c (dT s)] (.p (.c (dI (sumN s)))) := by
  refine pc_intro Tryd.func81 rfl rfl rfl (by kernel_rfl) rfl rfl ?_; rintro ⟨hl, -⟩
  have hl := FitT hl
  repeat' (first | (refine so_is (.assign _) ?_; (refine so_q (qt_asC rfl) rfl ?_)) | refine so_nil ?_ | refine sk_seq ?_ | refine sk_block ?_ | refine sk_region ?_)
  apply sk_packC [0, 3, 4] [] rfl; (· (repeat (first | exact Pf.nil | apply Pf.cons (.c rfl (.d rfl))))); (· (repeat (exact Pb.nil)))
  refine sk_loopL [0] [] (fun k => [(3, iN (sumN (s.take k))), (4, iN k)]) (fun _ => []) (fun k => k ≤ s.length) (fun k => s.length - k) (0) ?_ (by (repeat (first | exact trivial | refine ⟨(by (rfl)), ?_⟩))) (by (repeat (exact trivial))) ?_
  · simp
  rintro k hk
  have h0 := sumN_lt (s.take k)
  have hb := byt_lt s k
  by_cases h : k < s.length
  · have e : ((41 * (sumN (s.take k) : Int) + byt s k + 1) % 999979) = (sumN (s.take (k + 1)) : Int) := by rw [sumN_take h, byt_nat h]; omega
    repeat' (first | (refine so_is (.assign _) ?_; (refine so_q (qt_asC rfl) rfl ?_)) | (refine so_is (.move _) ?_; (refine so_q (qt_mvC rfl) rfl ?_)) | (refine so_is (.call ⟨.builtin .len, _, #[9]⟩) ?_; (refine so_q (qt_lenT rfl (by kernel_rfl)) rfl ?_)) | (refine so_is (.binOp .lss 3 _ _ _) ?_; refine so_q (qt_lss rfl rfl) rfl ?_) | (refine so_is (.binOp .mul 3 _ _ _) ?_; refine so_q (qt_mulI rfl rfl (by (omega))) rfl ?_) | (refine so_is (.index 9 _ _) ?_; (refine so_q (qt_indexT rfl rfl (by kernel_rfl) (by (omega)) (by (omega))) rfl ?_)) | (refine so_is (.convert 5 3 _) ?_; (refine so_q (qt_convI (k' := .i64) rfl (by kernel_rfl) (by kernel_rfl) (by (exact IntWalk.i64_in _ (by (omega))))) rfl ?_)) | (refine so_is (.binOp .add 3 _ _ _) ?_; refine so_q (qt_addI rfl rfl (by (omega))) rfl ?_) | (refine so_is (.binOp .rem 3 _ _ _) ?_; (refine so_q (qt_remN rfl rfl (by (omega)) (by (omega)) (by (omega))) rfl ?_)) | refine so_nil ?_ | refine sk_seq ?_ | refine sk_block ?_ | refine sk_blk ?_ | refine sk_exit rfl ?_ | refine sk_skip ?_ | refine sk_region ?_ | refine sk_if rfl (fun hc => ?_) (fun hc => ?_))
    all_goals first | (exfalso; omega) | skip
    refine sk_back ?_; refine ⟨k + 1, ?_, ?_, le_at rfl (by (repeat (first | exact trivial | refine ⟨(by (first | rfl | (refine int_eq rfl ?_; (omega)))), ?_⟩))) (by (repeat (first | exact trivial | refine ⟨rfl, ?_⟩))) (by (repeat (exact trivial))) (by (repeat (exact trivial)))⟩
    · omega
    · omega
  · repeat' (first | (refine so_is (.assign _) ?_; (refine so_q (qt_asC rfl) rfl ?_)) | (refine so_is (.move _) ?_; (refine so_q (qt_mvC rfl) rfl ?_)) | (refine so_is (.call ⟨.builtin .len, _, #[9]⟩) ?_; (refine so_q (qt_lenT rfl (by kernel_rfl)) rfl ?_)) | (refine so_is (.binOp .lss 3 _ _ _) ?_; refine so_q (qt_lss rfl rfl) rfl ?_) | (refine so_is (.binOp .mul 3 _ _ _) ?_; refine so_q (qt_mulI rfl rfl (by (omega))) rfl ?_) | (refine so_is (.index 9 _ _) ?_; (refine so_q (qt_indexT rfl rfl (by kernel_rfl) (by (omega)) (by (omega))) rfl ?_)) | (refine so_is (.convert 5 3 _) ?_; (refine so_q (qt_convI (k' := .i64) rfl (by kernel_rfl) (by kernel_rfl) (by (exact IntWalk.i64_in _ (by (omega))))) rfl ?_)) | (refine so_is (.binOp .add 3 _ _ _) ?_; refine so_q (qt_addI rfl rfl (by (omega))) rfl ?_) | (refine so_is (.binOp .rem 3 _ _ _) ?_; (refine so_q (qt_remN rfl rfl (by (omega)) (by (omega)) (by (omega))) rfl ?_)) | refine so_nil ?_ | refine sk_seq ?_ | refine sk_block ?_ | refine sk_blk ?_ | refine sk_exit rfl ?_ | refine sk_skip ?_ | refine sk_region ?_ | refine sk_if rfl (fun hc => ?_) (fun hc => ?_))
    all_goals first | (exfalso; omega) | skip
    have : k = s.length := by omega
    subst this
    (apply sk_ret; apply ret_eq; (· apply RetOK.p; (· (apply GvA.cons; (· exact .tmp _); (· exact GvP.c (.lit _))); exact GvA.nil); (· (decide))))
    simp

end Go.Proofs.YtdnkmgbbkggmdaaDoor

namespace Go.Proofs.YtdnkmgbbkggmdaaDoor
open Go.RowKit
set_option linter.unusedSectionVars false
variable [Glb]
set_option maxRecDepth 10000
set_option maxHeartbeats 4000000
theorem l1Num_p : ∀ n : Nat, n ≤ 9223372036854775807 → PC Tryd.prog 69 [.c (dI n)] (.p (.c (dT (numT n)))) := by
  intro n
  induction n using Nat.strongRecOn with
  | ind n ih =>
    intro hn
    refine pc_intro Tryd.func69 rfl rfl rfl (by kernel_rfl) rfl rfl ?_; intro _
    by_cases h : n < 10
    · repeat' (first | (refine so_is (.assign _) ?_; (refine so_q (qt_asC rfl) rfl ?_)) | (refine so_is (.move _) ?_; (refine so_q (qt_mvC rfl) rfl ?_)) | (refine so_is (.binOp .lss 3 _ _ _) ?_; refine so_q (qt_lss rfl rfl) rfl ?_) | (refine so_is (.binOp .add 3 _ _ _) ?_; refine so_q (qt_addI rfl rfl (by (omega))) rfl ?_) | (refine so_is (.slice 9 _ (some _) (some _) none) ?_; (refine so_q (qt_sliceT11 rfl rfl rfl (by kernel_rfl) (by (omega)) (by (omega)) (by (first | omega | (simp at *; omega)))) rfl ?_)) | (refine so_is (.binOp .quo 3 _ _ _) ?_; (refine so_q (qt_quoN rfl rfl (by (omega)) (by (omega)) (by (omega))) rfl ?_)) | (refine so_is (.binOp .rem 3 _ _ _) ?_; (refine so_q (qt_remN rfl rfl (by (omega)) (by (omega)) (by (omega))) rfl ?_)) | refine so_nil ?_ | refine sk_seq ?_ | refine sk_skip ?_ | refine sk_region ?_ | refine sk_drawQ 5 (fun _ => false) (.step 0 true (.step 1 true (.step 3 true (.step 4 true (.step 5 true (.step 6 true (.step 7 true (.step 8 true (.step 2 false (.step 9 true (.step 10 true .nil))))))))))) [(0, 2047, 2047, true), (1, 2046, 2047, true), (2, 2045, 2047, false), (0, 2047, 2047, true), (8, 2039, 2047, true), (0, 2047, 2047, true), (32, 2015, 2047, true), (64, 1983, 2047, true), (144, 1903, 2047, true), (260, 1787, 2047, true), (1023, 1535, 2047, true)] (by kernel_rfl) (by kernel_rfl) ?_ | refine sk_false rfl ?_ | refine sk_if rfl (fun hc => ?_) (fun hc => ?_))
      all_goals first | (exfalso; omega) | skip
      have e := numT_rec n
      rw [if_pos h, ← dig_at h] at e
      (apply sk_ret; apply ret_eq; (· apply RetOK.p; (· (apply GvA.cons; (· exact .tmp _); (· exact GvP.c (.lit _))); exact GvA.nil); (· (decide))))
      rw [e]; simp [partZ, digT]
    · have hlen : (numT (n / 10)).length ≤ 19 := (numT_len 18 _ (by omega)).2
      have ih2 := ih (n / 10) (by omega) (by omega)
      rw [show ((n / 10 : Nat) : Int) = (n : Int) / 10 by omega] at ih2
      clear ih
      repeat' (first | (refine so_is (.assign _) ?_; (refine so_q (qt_asC rfl) rfl ?_)) | (refine so_is (.move _) ?_; (refine so_q (qt_mvC rfl) rfl ?_)) | (refine so_is (.binOp .lss 3 _ _ _) ?_; refine so_q (qt_lss rfl rfl) rfl ?_) | (refine so_is (.binOp .add 9 _ _ _) ?_; (refine so_q (qt_addT rfl rfl (addP (by ((simp; omega))))) rfl ?_)) | (refine so_is (.binOp .add 3 _ _ _) ?_; refine so_q (qt_addI rfl rfl (by (omega))) rfl ?_) | (refine so_is (.slice 9 _ (some _) (some _) none) ?_; (refine so_q (qt_sliceT11 rfl rfl rfl (by kernel_rfl) (by (omega)) (by (omega)) (by (first | omega | (simp at *; omega)))) rfl ?_)) | (refine so_is (.binOp .quo 3 _ _ _) ?_; (refine so_q (qt_quoN rfl rfl (by (omega)) (by (omega)) (by (omega))) rfl ?_)) | (refine so_is (.binOp .rem 3 _ _ _) ?_; (refine so_q (qt_remN rfl rfl (by (omega)) (by (omega)) (by (omega))) rfl ?_)) | (refine so_is (.call ⟨.value (.func 69), _, _⟩) ?_; (apply so_call0 (fid := 69); (· (repeat (first | exact SeA.nil | apply SeA.cons (.c (.d _))))); (· exact ih2); (· rfl))) | refine so_nil ?_ | refine sk_seq ?_ | refine sk_skip ?_ | refine sk_region ?_ | refine sk_drawQ 5 (fun _ => false) (.step 0 true (.step 1 true (.step 3 true (.step 4 true (.step 5 true (.step 6 true (.step 7 true (.step 8 true (.step 2 false (.step 9 true (.step 10 true .nil))))))))))) [(0, 2047, 2047, true), (1, 2046, 2047, true), (2, 2045, 2047, false), (0, 2047, 2047, true), (8, 2039, 2047, true), (0, 2047, 2047, true), (32, 2015, 2047, true), (64, 1983, 2047, true), (144, 1903, 2047, true), (260, 1787, 2047, true), (1023, 1535, 2047, true)] (by kernel_rfl) (by kernel_rfl) ?_ | refine sk_false rfl ?_ | refine sk_if rfl (fun hc => ?_) (fun hc => ?_))
      all_goals first | (exfalso; omega) | skip
      have e := numT_rec n
      rw [if_neg h, ← dig_at (n := n % 10) (by omega)] at e
      have h2 : ((n : Int) % 10).toNat = n % 10 := by omega
      have h3 : ((n : Int) % 10 + 1).toNat = n % 10 + 1 := by omega
      all_goals (apply sk_ret; apply ret_eq; (· apply RetOK.p; (· (apply GvA.cons; (· exact .tmp _); (· exact GvP.c (.lit _))); exact GvA.nil); (· (decide))))
      rw [e]; simp [partZ, digT, h2, h3]

end Go.Proofs.YtdnkmgbbkggmdaaDoor

namespace Go.Proofs.YtdnkmgbbkggmdaaDoor
open Go.RowKit
set_option linter.unusedSectionVars false
variable [Glb]
set_option maxRecDepth 10000
set_option maxHeartbeats 4000000
theorem l1Seal_p (s : Tx) (h : s.length ≤ 4000000) : PC Tryd.prog 68 [.c (dT s)] (.p (.c (dT (sealT s)))) := by
  have h0 := sumN_lt s
  have h1 := (numS s).2
  refine pc_intro Tryd.func68 rfl rfl rfl (by kernel_rfl) rfl rfl ?_; intro _
  repeat' (first | (refine so_is (.assign _) ?_; (refine so_q (qt_asC rfl) rfl ?_)) | (refine so_is (.move _) ?_; (refine so_q (qt_mvC rfl) rfl ?_)) | (refine so_is (.binOp .add 9 _ _ _) ?_; (refine so_q (qt_addT rfl rfl (by ((simp at *; omega)))) rfl ?_)) | (refine so_is (.call ⟨.value (.func 81), _, _⟩) ?_; (apply so_call0 (fid := 81); (· (repeat (first | exact SeA.nil | apply SeA.cons (.c (.d _))))); (· exact l1Sum_p _); (· rfl))) | (refine so_is (.call ⟨.value (.func 69), _, _⟩) ?_; (apply so_call0 (fid := 69); (· (repeat (first | exact SeA.nil | apply SeA.cons (.c (.d _))))); (· exact l1Num_p _ (by omega)); (· rfl))) | refine so_nil ?_ | refine sk_seq ?_ | refine sk_region ?_)
  (apply sk_ret; apply ret_eq; (· apply RetOK.p; (· (apply GvA.cons; (· exact .tmp _); (· exact GvP.c (.lit _))); exact GvA.nil); (· (decide))))
  simp [sealT]

end Go.Proofs.YtdnkmgbbkggmdaaDoor

namespace Go.Proofs.YtdnkmgbbkggmdaaDoor
open Go.RowKit
set_option linter.unusedSectionVars false
variable [Glb]
set_option maxRecDepth 10000
set_option maxHeartbeats 4000000
theorem l12Line_p (k : Nat) (c r : Tx) (hk : k < 60) (h1 : c.length ≤ 1000000) (h2 : r.length ≤ 1000000) : PC Tryd.prog 47 [.c (dI k), .g [dT c, dT r]] (.p (.c (dT (lineT k c r ++ [10])))) := by
  have h3 := (num60 hk).2
  have h4 := seal_len (textT k c r)
  have h5 : (textT k c r).length ≤ 2000004 := by simp [textT]; omega
  have h6 : (sealT (numT k ++ [32] ++ c ++ [64] ++ r)).length ≤ 2000011 := by
    have : sealT (numT k ++ [32] ++ c ++ [64] ++ r) = sealT (textT k c r) := rfl
    rw [this]; omega
  refine pc_intro Tryd.func47 rfl rfl rfl (by kernel_rfl) rfl rfl ?_; intro _
  repeat' (first | (refine so_is (.box 27 _) ?_; refine so_box rfl rfl ?_) | (refine so_is (.assign _) ?_; (refine so_q (qt_asC rfl) rfl ?_)) | (refine so_is (.move _) ?_; (refine so_q (qt_mvC rfl) rfl ?_)) | (refine so_is (.binOp .add 9 _ _ _) ?_; (refine so_q (qt_addT rfl rfl (by ((simp at *; omega)))) rfl ?_)) | (refine so_is (.fieldAddr 27 _ 0) ?_; (refine so_q (qt_fld_lp (off := 0) rfl (by kernel_rfl)) rfl ?_)) | (refine so_is (.load 9 _) ?_; (refine so_q (qt_load_box rfl rfl (by kernel_rfl) rfl) rfl ?_)) | (refine so_is (.fieldAddr 27 _ 1) ?_; (refine so_q (qt_fld_lp (off := 1) rfl (by kernel_rfl)) rfl ?_)) | (refine so_is (.call ⟨.value (.func 69), _, _⟩) ?_; (apply so_call0 (fid := 69); (· (repeat (first | exact SeA.nil | apply SeA.cons (.c (.d _))))); (· exact l1Num_p _ (by omega)); (· rfl))) | (refine so_is (.call ⟨.value (.func 68), _, _⟩) ?_; (apply so_call0 (fid := 68); (· (repeat (first | exact SeA.nil | apply SeA.cons (.c (.d _))))); (· exact l1Seal_p _ (by simp; omega)); (· rfl))) | refine so_nil ?_ | refine sk_seq ?_ | refine sk_region ?_ | refine sk_drawQ 1 (fun _ => false) (.step 0 true (.step 3 true (.step 4 true (.step 7 true (.step 8 true (.step 1 false (.step 2 true (.step 5 true (.step 6 true (.step 9 true (.step 10 false (.step 11 true (.step 12 true .nil))))))))))))) [(0, 8191, 8191, true), (1, 8190, 8191, false), (2, 8189, 8191, true), (0, 8191, 8191, true), (8, 8183, 8191, false), (20, 8171, 8191, true), (32, 8159, 8191, true), (0, 8191, 8191, true), (128, 8063, 8191, false), (320, 7871, 8191, true), (514, 7679, 8191, false), (1024, 7167, 8191, true), (4095, 6143, 8191, true)] (by kernel_rfl) (by kernel_rfl) ?_)
  (apply sk_ret; apply ret_eq; (· apply RetOK.p; (· (apply GvA.cons; (· exact .tmp _); (· exact GvP.c (.lit _))); exact GvA.nil); (· (decide))))
  simp [lineT, textT]

end Go.Proofs.YtdnkmgbbkggmdaaDoor

namespace Go.Proofs.YtdnkmgbbkggmdaaDoor
open Go.RowKit
set_option linter.unusedSectionVars false
variable [Glb]
set_option maxRecDepth 10000
set_option maxHeartbeats 4000000
theorem l1In_p (n lo hi : Int) : PC Tryd.prog 45 [.c (dI n), .c (dI lo), .c (dI hi)] (.p (.c (dB (inB n lo hi)))) := by
  refine pc_intro Tryd.func45 rfl rfl rfl (by kernel_rfl) rfl rfl ?_; intro _
  repeat' (first | (refine so_is (.assign _) ?_; (refine so_q (qt_asC rfl) rfl ?_)) | (refine so_is (.move _) ?_; (refine so_q (qt_mvC rfl) rfl ?_)) | (refine so_is (.binOp .geq 3 _ _ _) ?_; refine so_q (qt_geq rfl rfl) rfl ?_) | (refine so_is (.binOp .leq 3 _ _ _) ?_; refine so_q (qt_leq rfl rfl) rfl ?_) | (refine so_is (.pick _ _ _) ?_; (refine so_q (qt_pkC rfl rfl) rfl ?_)) | refine so_nil ?_ | refine so_g_no rfl rfl rfl rfl ?_ | refine so_g_yes rfl rfl rfl rfl ?_ | refine so_g_if rfl rfl (fun hg => ?_) (fun hg => ?_) | refine sk_seq ?_ | refine sk_region ?_)
  all_goals ((apply sk_ret; apply ret_eq; (· apply RetOK.p; (· (apply GvA.cons; (· exact .tmp _); (· exact GvP.c (.lit _))); exact GvA.nil); (· (decide)))))
  all_goals (simp [dB, inB, *]; try omega)

end Go.Proofs.YtdnkmgbbkggmdaaDoor

namespace Go.Proofs.YtdnkmgbbkggmdaaDoor
open Go.RowKit
set_option linter.unusedSectionVars false
variable [Glb]
set_option maxRecDepth 10000
set_option maxHeartbeats 4000000
theorem bytB_f {s : Tx} {most : Int} {k : Nat} (h : k < s.length) (e : inB (byt s k) 32 126 = false ∨ byt s k = 35) : bytB s most = false := by
  have : (s.all fun b => plB b && b != 35) = false := by
    refine all_f h ?_
    rw [byt_nat h] at e
    rcases e with e | e
    · rw [inB_iffF] at e
      simp [plB]; omega
    · have : s[k] = 35 := UInt8.toNat_inj.1 (by show s[k].toNat = 35; omega)
      simp [this]
  unfold bytB; rw [this]; rfl
theorem bytB_go {s : Tx} {k : Nat} (h : k < s.length) (e : inB (byt s k) 32 126 = true) (e2 : byt s k ≠ 35) (ht : ((s.take k).all fun b => plB b && b != 35) = true) : ((s.take (k + 1)).all fun b => plB b && b != 35) = true := by
  rw [take_succ_all _ _ _ h, ht, Bool.true_and]
  rw [byt_nat h] at e e2
  rw [inB_iff] at e
  simp [plB]
  refine ⟨by omega, fun h => e2 ?_⟩
  rw [h]; rfl
theorem l12Bytes_p (s : Tx) (most : Int) : PC Tryd.prog 66 [.c (dT s), .c (dI most)] (.p (.c (dB (bytB s most)))) := by
  refine pc_intro Tryd.func66 rfl rfl rfl (by kernel_rfl) rfl rfl ?_; rintro ⟨hl, -⟩
  have hl := FitT hl
  repeat' (first | (refine so_is (.assign _) ?_; (refine so_q (qt_asC rfl) rfl ?_)) | refine so_nil ?_ | refine sk_seq ?_ | refine sk_block ?_ | refine sk_region ?_)
  apply sk_packC [0, 1, 5] [] rfl; (· (repeat (first | exact Pf.nil | apply Pf.cons (.c rfl (.d rfl))))); (· (repeat (exact Pb.nil)))
  refine sk_loopL [0, 1] [] (fun k => [(5, iN k)]) (fun _ => []) (fun k => k ≤ s.length ∧ ((s.take k).all fun b => plB b && b != 35) = true) (fun k => s.length - k) (0) ?_ (by (repeat (first | exact trivial | refine ⟨(by (rfl)), ?_⟩))) (by (repeat (exact trivial))) ?_
  · simp
  rintro k ⟨hk, ht⟩
  have hb := byt_lt s k
  by_cases h : k < s.length
  · repeat' (first | (refine so_is (.assign _) ?_; (refine so_q (qt_asC rfl) rfl ?_)) | (refine so_is (.move _) ?_; (refine so_q (qt_mvC rfl) rfl ?_)) | (refine so_is (.call ⟨.builtin .len, _, #[9]⟩) ?_; (refine so_q (qt_lenT rfl (by kernel_rfl)) rfl ?_)) | (refine so_is (.binOp .lss 3 _ _ _) ?_; refine so_q (qt_lss rfl rfl) rfl ?_) | (refine so_is (.index 9 _ _) ?_; (refine so_q (qt_indexT rfl rfl (by kernel_rfl) (by (omega)) (by (omega))) rfl ?_)) | (refine so_is (.convert 5 3 _) ?_; (refine so_q (qt_convI (k' := .i64) rfl (by kernel_rfl) (by kernel_rfl) (by (exact IntWalk.i64_in _ (by (omega))))) rfl ?_)) | (refine so_is (.unOp .not 4 _) ?_; refine so_q (qt_not rfl) rfl ?_) | (refine so_is (.binOp .eql 5 _ _ _) ?_; refine so_q (qt_eql rfl rfl) rfl ?_) | (refine so_is (.pick _ _ _) ?_; (refine so_q (qt_pkC rfl rfl) rfl ?_)) | (refine so_is (.binOp .add 3 _ _ _) ?_; refine so_q (qt_addI rfl rfl (by (omega))) rfl ?_) | (refine so_is (.binOp .leq 3 _ _ _) ?_; refine so_q (qt_leq rfl rfl) rfl ?_) | (refine so_is (.call ⟨.value (.func 45), _, _⟩) ?_; (apply so_call0 (fid := 45); (· (repeat (first | exact SeA.nil | apply SeA.cons (.c (.d _))))); (· exact l1In_p _ _ _); (· rfl))) | refine so_nil ?_ | refine so_g_no rfl rfl rfl rfl ?_ | refine so_g_yes rfl rfl rfl rfl ?_ | refine so_g_b rfl rfl (fun hg => ?_) (fun hg => ?_) | refine sk_seq ?_ | refine sk_block ?_ | refine sk_blk ?_ | refine sk_exit rfl ?_ | refine sk_skip ?_ | refine sk_region ?_ | refine sk_true rfl ?_ | refine sk_if rfl (fun hc => ?_) (fun hc => ?_))
    all_goals first | (exfalso; omega) | skip
    · (apply sk_ret; apply ret_eq; (· apply RetOK.p; (· (apply GvA.cons; (· exact .tmp _); (· exact GvP.c (.lit _))); exact GvA.nil); (· (decide))))
      rw [bytB_f h (.inl (by simp_all))]
    · (apply sk_ret; apply ret_eq; (· apply RetOK.p; (· (apply GvA.cons; (· exact .tmp _); (· exact GvP.c (.lit _))); exact GvA.nil); (· (decide))))
      rw [bytB_f h (.inr (by assumption))]
    · refine sk_back ?_; refine ⟨k + 1, ?_, ?_, le_at rfl (by (repeat (first | exact trivial | refine ⟨(by (rfl)), ?_⟩))) (by (repeat (first | exact trivial | refine ⟨rfl, ?_⟩))) (by (repeat (exact trivial))) (by (repeat (exact trivial)))⟩
      · exact ⟨by omega, bytB_go h (by simp_all) (by assumption) ht⟩
      · omega
  · repeat' (first | (refine so_is (.assign _) ?_; (refine so_q (qt_asC rfl) rfl ?_)) | (refine so_is (.move _) ?_; (refine so_q (qt_mvC rfl) rfl ?_)) | (refine so_is (.call ⟨.builtin .len, _, #[9]⟩) ?_; (refine so_q (qt_lenT rfl (by kernel_rfl)) rfl ?_)) | (refine so_is (.binOp .lss 3 _ _ _) ?_; refine so_q (qt_lss rfl rfl) rfl ?_) | (refine so_is (.index 9 _ _) ?_; (refine so_q (qt_indexT rfl rfl (by kernel_rfl) (by (omega)) (by (omega))) rfl ?_)) | (refine so_is (.convert 5 3 _) ?_; (refine so_q (qt_convI (k' := .i64) rfl (by kernel_rfl) (by kernel_rfl) (by (exact IntWalk.i64_in _ (by (omega))))) rfl ?_)) | (refine so_is (.binOp .leq 3 _ _ _) ?_; refine so_q (qt_leq rfl rfl) rfl ?_) | refine so_nil ?_ | refine sk_seq ?_ | refine sk_block ?_ | refine sk_exit rfl ?_ | refine sk_skip ?_ | refine sk_region ?_ | refine sk_if rfl (fun hc => ?_) (fun hc => ?_))
    all_goals first | (exfalso; omega) | skip
    have : k = s.length := by omega
    subst this
    rw [List.take_length] at ht
    (apply sk_ret; apply ret_eq; (· apply RetOK.p; (· (apply GvA.cons; (· exact .tmp _); (· exact GvP.c (.lit _))); exact GvA.nil); (· (decide))))
    simp [bytB, ht]

end Go.Proofs.YtdnkmgbbkggmdaaDoor

namespace Go.Proofs.YtdnkmgbbkggmdaaDoor
open Go.RowKit
set_option linter.unusedSectionVars false
variable [Glb]
set_option maxRecDepth 10000
set_option maxHeartbeats 4000000
theorem stands_no {s : Tx} {c : UInt8} {k : Nat} (h : k < s.length) (e : byt s k = (c.toNat : Int)) : s.contains c = true := by
  rw [byt_nat h] at e
  have : s[k] = c := UInt8.toNat_inj.1 (by omega)
  rw [List.contains_iff_mem, ← this]; exact List.getElem_mem h
theorem stands_go {s : Tx} {c : UInt8} {k : Nat} (h : k < s.length) (e : byt s k ≠ (c.toNat : Int)) (ht : c ∉ s.take k) : c ∉ s.take (k + 1) := by
  rw [List.take_succ_eq_append_getElem h, List.mem_append, not_or]
  refine ⟨ht, fun hm => e ?_⟩
  rw [List.mem_singleton] at hm
  rw [byt_nat h, hm]
theorem l1Stands_p (s : Tx) (c : UInt8) : PC Tryd.prog 67 [.c (dT s), .c (.lit (.int .u8 c.toNat))] (.p (.c (dB (s.contains c)))) := by
  refine pc_intro Tryd.func67 rfl rfl rfl (by kernel_rfl) rfl rfl ?_; rintro ⟨hl, -⟩
  have hl := FitT hl
  repeat' (first | (refine so_is (.assign _) ?_; (refine so_q (qt_asC rfl) rfl ?_)) | refine so_nil ?_ | refine sk_seq ?_ | refine sk_block ?_ | refine sk_region ?_)
  apply sk_packC [0, 1, 5] [] rfl; (· (repeat (first | exact Pf.nil | apply Pf.cons (.c rfl (.d rfl))))); (· (repeat (exact Pb.nil)))
  refine sk_loopL [0, 1] [] (fun k => [(5, iN k)]) (fun _ => []) (fun k => k ≤ s.length ∧ c ∉ s.take k) (fun k => s.length - k) (0) ?_ (by (repeat (first | exact trivial | refine ⟨(by (rfl)), ?_⟩))) (by (repeat (exact trivial))) ?_
  · simp
  rintro k ⟨hk, ht⟩
  by_cases h : k < s.length
  · repeat' (first | (refine so_is (.assign _) ?_; (refine so_q (qt_asC rfl) rfl ?_)) | (refine so_is (.move _) ?_; (refine so_q (qt_mvC rfl) rfl ?_)) | (refine so_is (.call ⟨.builtin .len, _, #[9]⟩) ?_; (refine so_q (qt_lenT rfl (by kernel_rfl)) rfl ?_)) | (refine so_is (.binOp .lss 3 _ _ _) ?_; refine so_q (qt_lss rfl rfl) rfl ?_) | (refine so_is (.index 9 _ _) ?_; (refine so_q (qt_indexT rfl rfl (by kernel_rfl) (by (omega)) (by (omega))) rfl ?_)) | (refine so_is (.binOp .eql 5 _ _ _) ?_; refine so_q (qt_eql rfl rfl) rfl ?_) | (refine so_is (.binOp .add 3 _ _ _) ?_; refine so_q (qt_addI rfl rfl (by (omega))) rfl ?_) | refine so_nil ?_ | refine sk_seq ?_ | refine sk_block ?_ | refine sk_blk ?_ | refine sk_exit rfl ?_ | refine sk_skip ?_ | refine sk_region ?_ | refine sk_if rfl (fun hc => ?_) (fun hc => ?_))
    all_goals first | (exfalso; omega) | skip
    · (apply sk_ret; apply ret_eq; (· apply RetOK.p; (· (apply GvA.cons; (· exact .tmp _); (· exact GvP.c (.lit _))); exact GvA.nil); (· (decide))))
      rw [stands_no h (by assumption)]
    · refine sk_back ?_; refine ⟨k + 1, ?_, ?_, le_at rfl (by (repeat (first | exact trivial | refine ⟨(by (rfl)), ?_⟩))) (by (repeat (first | exact trivial | refine ⟨rfl, ?_⟩))) (by (repeat (exact trivial))) (by (repeat (exact trivial)))⟩
      · exact ⟨by omega, stands_go h (by assumption) ht⟩
      · omega
  · repeat' (first | (refine so_is (.assign _) ?_; (refine so_q (qt_asC rfl) rfl ?_)) | (refine so_is (.move _) ?_; (refine so_q (qt_mvC rfl) rfl ?_)) | (refine so_is (.call ⟨.builtin .len, _, #[9]⟩) ?_; (refine so_q (qt_lenT rfl (by kernel_rfl)) rfl ?_)) | (refine so_is (.binOp .lss 3 _ _ _) ?_; refine so_q (qt_lss rfl rfl) rfl ?_) | (refine so_is (.index 9 _ _) ?_; (refine so_q (qt_indexT rfl rfl (by kernel_rfl) (by (omega)) (by (omega))) rfl ?_)) | (refine so_is (.binOp .eql 5 _ _ _) ?_; refine so_q (qt_eql rfl rfl) rfl ?_) | (refine so_is (.binOp .add 3 _ _ _) ?_; refine so_q (qt_addI rfl rfl (by (omega))) rfl ?_) | refine so_nil ?_ | refine sk_seq ?_ | refine sk_block ?_ | refine sk_blk ?_ | refine sk_exit rfl ?_ | refine sk_skip ?_ | refine sk_region ?_ | refine sk_if rfl (fun hc => ?_) (fun hc => ?_))
    all_goals first | (exfalso; omega) | skip
    have : k = s.length := by omega
    subst this
    rw [List.take_length] at ht
    (apply sk_ret; apply ret_eq; (· apply RetOK.p; (· (apply GvA.cons; (· exact .tmp _); (· exact GvP.c (.lit _))); exact GvA.nil); (· (decide))))
    simp [ht]

end Go.Proofs.YtdnkmgbbkggmdaaDoor

namespace Go.Proofs.YtdnkmgbbkggmdaaDoor
open Go.RowKit
set_option linter.unusedSectionVars false
variable [Glb]
set_option maxRecDepth 10000
set_option maxHeartbeats 4000000
theorem l12Record_p (c r : Tx) : PC Tryd.prog 46 [.g [dT c, dT r]] (.p (.c (dB (recB c r)))) := by
  refine pc_intro Tryd.func46 rfl rfl rfl (by kernel_rfl) rfl rfl ?_; intro _
  repeat' (first | (refine so_is (.box 27 _) ?_; refine so_box rfl rfl ?_) | (refine so_is (.assign _) ?_; (refine so_q (qt_asC rfl) rfl ?_)) | (refine so_is (.fieldAddr 27 _ 0) ?_; (refine so_q (qt_fld_lp (off := 0) rfl (by kernel_rfl)) rfl ?_)) | (refine so_is (.load 9 _) ?_; (refine so_q (qt_load_box rfl rfl (by kernel_rfl) rfl) rfl ?_)) | (refine so_is (.binOp .neq 9 _ _ _) ?_; (refine so_q (qt_neqT rfl rfl) rfl ?_)) | (refine so_is (.move _) ?_; (refine so_q (qt_mvC rfl) rfl ?_)) | (refine so_is (.pick _ _ _) ?_; (refine so_q (qt_pkC rfl rfl) rfl ?_)) | (refine so_is (.unOp .not 4 _) ?_; refine so_q (qt_not rfl) rfl ?_) | (refine so_is (.fieldAddr 27 _ 1) ?_; (refine so_q (qt_fld_lp (off := 1) rfl (by kernel_rfl)) rfl ?_)) | (refine so_is (.call ⟨.value (.func 66), _, _⟩) ?_; (apply so_call0 (fid := 66); (· (repeat (first | exact SeA.nil | apply SeA.cons (.c (.d _))))); (· exact l12Bytes_p _ _); (· rfl))) | (refine so_is (.call ⟨.value (.func 67), _, _⟩) ?_; (apply so_call0 (fid := 67); (· (repeat (first | exact SeA.nil | apply SeA.cons (.c (.d _))))); (· exact l1Stands_p _ 64); (· rfl))) | refine so_nil ?_ | refine so_g_no rfl rfl rfl rfl ?_ | refine so_g_yes rfl rfl rfl rfl ?_ | refine so_g_if rfl rfl (fun hg => ?_) (fun hg => ?_) | refine so_g_b rfl rfl (fun hg => ?_) (fun hg => ?_) | refine sk_seq ?_ | refine sk_region ?_)
  all_goals (apply sk_ret; apply ret_eq; (· apply RetOK.p; (· (apply GvA.cons; (· exact .tmp _); (· exact GvP.c (.lit _))); exact GvA.nil); (· (decide))))
  all_goals simp_all [recB]

end Go.Proofs.YtdnkmgbbkggmdaaDoor

namespace Go.Proofs.YtdnkmgbbkggmdaaDoor
open Go.RowKit
set_option linter.unusedSectionVars false
variable [Glb]
set_option maxRecDepth 10000
set_option maxHeartbeats 4000000
theorem spEncodeRecord_no (k : Int) (c r : Tx) (h : (inB k 0 59 && recB c r) = false) : PC Tryd.prog 13 [.c (dI k), .g [dT c, dT r]] (.t [.c (dT []), .c (dB false)]) := by
  refine pc_intro Tryd.func13 rfl rfl rfl (by kernel_rfl) rfl rfl ?_; intro _
  repeat' (first | (refine so_is (.box 27 _) ?_; refine so_box rfl rfl ?_) | (refine so_is (.assign _) ?_; (refine so_q (qt_asC rfl) rfl ?_)) | (refine so_is (.move _) ?_; (refine so_q (qt_mvC rfl) rfl ?_)) | (refine so_is (.unOp .not 4 _) ?_; refine so_q (qt_not rfl) rfl ?_) | (refine so_is (.load 27 _) ?_; (refine so_q (qt_load_boxs rfl rfl (by kernel_rfl : tAgg _ 27 2 = true) rfl) rfl ?_)) | (refine so_is (.pick _ _ _) ?_; (refine so_q (qt_pkC rfl rfl) rfl ?_)) | (refine so_is (.call ⟨.value (.func 45), _, _⟩) ?_; (apply so_call0 (fid := 45); (· (repeat (first | exact SeA.nil | apply SeA.cons (.c (.d _))))); (· exact l1In_p _ _ _); (· rfl))) | (refine so_is (.call ⟨.value (.func 46), _, _⟩) ?_; (apply so_call0 (fid := 46); (· (repeat (first | exact SeA.nil | (apply SeA.cons; (· (apply SeP.g; (repeat (first | exact SeL.nil | apply SeL.cons (.d _))))))))); (· exact l12Record_p _ _); (· rfl))) | refine so_nil ?_ | refine so_g_no rfl rfl rfl rfl ?_ | refine so_g_yes rfl rfl rfl rfl ?_ | refine so_g_b rfl rfl (fun hg => ?_) (fun hg => ?_) | refine sk_seq ?_ | refine sk_skip ?_ | refine sk_region ?_ | refine sk_true rfl ?_ | refine sk_not rfl (fun hc => ?_) (fun hc => ?_))
  all_goals first | (exfalso; simp_all; done) | skip
  all_goals (apply sk_ret; apply ret_eq; (· apply RetOK.t; (· (apply GvA.cons; (· exact .tmp _); (· exact GvP.c (.lit _))); (apply GvA.cons; (· exact .tmp _); (· exact GvP.c (.lit _))); exact GvA.nil); (· rfl); (· (decide))))
  all_goals simp_all [bsT_nil]
theorem spEncodeRecord_p (k : Nat) (c r : Tx) (h : k < 60) (hr : recB c r = true) : PC Tryd.prog 13 [.c (dI k), .g [dT c, dT r]] (.t [.c (dT (lineT k c r ++ [10])), .c (dB true)]) := by
  have h4 := (recB_p hr).cl
  have h5 := (recB_p hr).rl
  have h6 : inB (k : Int) 0 59 = true := by rw [inB_iff]; omega
  refine pc_intro Tryd.func13 rfl rfl rfl (by kernel_rfl) rfl rfl ?_; intro _
  repeat' (first | (refine so_is (.box 27 _) ?_; refine so_box rfl rfl ?_) | (refine so_is (.assign _) ?_; (refine so_q (qt_asC rfl) rfl ?_)) | (refine so_is (.move _) ?_; (refine so_q (qt_mvC rfl) rfl ?_)) | (refine so_is (.unOp .not 4 _) ?_; refine so_q (qt_not rfl) rfl ?_) | (refine so_is (.load 27 _) ?_; (refine so_q (qt_load_boxs rfl rfl (by kernel_rfl : tAgg _ 27 2 = true) rfl) rfl ?_)) | (refine so_is (.pick _ _ _) ?_; (refine so_q (qt_pkC rfl rfl) rfl ?_)) | (refine so_is (.call ⟨.value (.func 45), _, _⟩) ?_; (apply so_call0 (fid := 45); (· (repeat (first | exact SeA.nil | apply SeA.cons (.c (.d _))))); (· exact l1In_p _ _ _); (· rfl))) | (refine so_is (.call ⟨.value (.func 46), _, _⟩) ?_; (apply so_call0 (fid := 46); (· (repeat (first | exact SeA.nil | (apply SeA.cons; (· (apply SeP.g; (repeat (first | exact SeL.nil | apply SeL.cons (.d _))))))))); (· exact l12Record_p _ _); (· rfl))) | (refine so_is (.call ⟨.value (.func 47), _, _⟩) ?_; (apply so_call0 (fid := 47); (· (repeat (first | exact SeA.nil | apply SeA.cons (.c (.d _)) | (apply SeA.cons; (· (apply SeP.g; (repeat (first | exact SeL.nil | apply SeL.cons (.d _))))))))); (· exact l12Line_p _ _ _ h (by omega) (by omega)); (· rfl))) | refine so_nil ?_ | refine so_g_no rfl rfl rfl rfl ?_ | refine so_g_yes rfl rfl rfl rfl ?_ | refine so_g_b rfl rfl (fun hg => ?_) (fun hg => ?_) | refine sk_seq ?_ | refine sk_skip ?_ | refine sk_region ?_ | refine sk_true rfl ?_ | refine sk_not rfl (fun hc => ?_) (fun hc => ?_))
  all_goals first | (exfalso; simp_all; done) | skip
  all_goals (apply sk_ret; apply ret_eq; (· apply RetOK.t; (· (apply GvA.cons; (· exact .tmp _); (· exact GvP.c (.lit _))); (apply GvA.cons; (· exact .tmp _); (· exact GvP.c (.lit _))); exact GvA.nil); (· rfl); (· (decide))))
  all_goals rfl

end Go.Proofs.YtdnkmgbbkggmdaaDoor

namespace Go.Proofs.YtdnkmgbbkggmdaaDoor
open Go.RowKit
set_option linter.unusedSectionVars false
variable [Glb]
variable [GTab Tryd.prog tabNm]
set_option maxRecDepth 10000
set_option maxHeartbeats 4000000
def encB (k : Int) (c r : Tx) : Bool := inB k 0 59 && recB c r
def encT (k : Int) (c r : Tx) : Tx := if encB k c r = true then lineT k.toNat c r ++ [10] else []
theorem enc_yes {k : Int} {c r : Tx} (h : encB k c r = true) : ∃ n : Nat, k = n ∧ n < 60 ∧ recB c r = true := by
  simp only [encB, Bool.and_eq_true] at h
  have := inB_iff.1 h.1
  exact ⟨k.toNat, by omega, by omega, h.2⟩
theorem EncodeRecord_t (k : Int) (c r : Tx) : PC Tryd.prog 15 [.c (dI k), .g [dT c, dT r]] (.t [.c (dT (encT k c r)), .c (dB (encB k c r))]) := by
  cases h : encB k c r with
  | false => 
    have := EncodeRecord_no k c r h
    rwa [show encT k c r = [] by unfold encT; rw [if_neg (by rw [h]; decide)]]
  | true =>
    obtain ⟨n, rfl, hn, hr⟩ := enc_yes h
    have := EncodeRecord_p n c r hn hr
    rwa [show encT (n : Int) c r = lineT n c r ++ [10] by unfold encT; rw [if_pos h, Int.toNat_natCast]]
theorem spEncodeRecord_t (k : Int) (c r : Tx) : PC Tryd.prog 13 [.c (dI k), .g [dT c, dT r]] (.t [.c (dT (encT k c r)), .c (dB (encB k c r))]) := by
  cases h : encB k c r with
  | false => 
    have := spEncodeRecord_no k c r h
    rwa [show encT k c r = [] by unfold encT; rw [if_neg (by rw [h]; decide)]]
  | true =>
    obtain ⟨n, rfl, hn, hr⟩ := enc_yes h
    have := spEncodeRecord_p n c r hn hr
    rwa [show encT (n : Int) c r = lineT n c r ++ [10] by unfold encT; rw [if_pos h, Int.toNat_natCast]]

end Go.Proofs.YtdnkmgbbkggmdaaDoor

namespace Go.Proofs.YtdnkmgbbkggmdaaDoor
open Go.RowKit
set_option linter.unusedSectionVars false
variable [Glb]
set_option maxRecDepth 10000
set_option maxHeartbeats 4000000
abbrev dW (n : Int) : D := .lit (.int .u64 n)
abbrev CurB (code : Tx) (a s : Int) : List BC := [.k (eB code), .o (dI a), .o (dW s)]
def CurR (a N : Int) (Q : Res → Prop) (ds : List D) (res : Res) : Prop := ∃ a' s', (a ≤ a' ∧ a' ≤ a + N) ∧ ds = [dI a', dW s'] ∧ Q res
theorem emod_bd {x n : Int} (hx : 0 ≤ x) (hn : 1 < n) : 0 ≤ x % n ∧ x % n < n ∧ x % n ≤ x := by
  refine ⟨Int.emod_nonneg _ (by omega), Int.emod_lt_of_pos _ (by omega), ?_⟩
  have h1 := Int.emod_add_mul_ediv x n
  have h2 : 0 ≤ n * (x / n) := Int.mul_nonneg (by omega) (Int.ediv_nonneg hx (by omega))
  omega
theorem pick_bd {x n : Int} (h0 : 0 ≤ x) (h1 : x ≤ 65535) (hn : 1 < n) : 0 ≤ x % n ∧ x % n ≤ 65535 ∧ (n ≤ 1 → x % n = 0) ∧ (1 < n → x % n < n) := by
  have := emod_bd h0 hn
  omega
theorem curNext_p (code : Tx) (a s : Int) (h0 : 0 ≤ a) (h1 : a ≤ 4611686018427387904) : PX Tryd.prog 79 (CurB code a s) [] (CurR a 1 fun res => ∃ x : Int, (0 ≤ x ∧ x ≤ 255) ∧ res = .p (.c (dI x))) := by
  have hb := byt_lt code a
  refine px_intro Tryd.func79 rfl rfl rfl (by kernel_rfl) rfl rfl rfl ?_; intro kv
  repeat' (first | (refine so_is (.assign _) ?_; (refine so_q (qt_asC rfl) rfl ?_)) | (refine so_is (.move _) ?_; (refine so_q (qt_mvC rfl) rfl ?_)) | (refine so_is (.nilCheck _) ?_; (refine so_q (qt_nilCheck_lp rfl) rfl ?_)) | (refine so_is (.fieldAddr 79 _ 1) ?_; (refine so_q (qt_fld_lp (off := 1) rfl (by kernel_rfl)) rfl ?_)) | (refine so_is (.load 3 _) ?_; (refine so_q (qt_load_box rfl rfl (by kernel_rfl) rfl) rfl ?_)) | (refine so_is (.fieldAddr 79 _ 0) ?_; (refine so_q (qt_fld_lp (off := 0) rfl (by kernel_rfl)) rfl ?_)) | (refine so_is (.load 53 _) ?_; (refine so_q (qt_load_same rfl rfl (by kernel_rfl) rfl) rfl ?_)) | (refine so_is (.call ⟨.builtin .len, _, #[53]⟩) ?_; (refine so_q (qt_len_d rfl (by kernel_rfl)) rfl ?_)) | (refine so_is (.binOp .lss 3 _ _ _) ?_; refine so_q (qt_lss rfl rfl) rfl ?_) | (refine so_is (.indexAddr 53 _ _) ?_; (refine so_q (qt_idxY rfl rfl (by kernel_rfl) (by (omega)) (by (omega))) rfl ?_)) | (refine so_is (.load 5 _) ?_; (refine so_q (qt_load_pt rfl (by kernel_rfl) rfl) rfl ?_)) | (refine so_is (.convert 5 3 _) ?_; (refine so_q (qt_convI (k' := .i64) rfl (by kernel_rfl) (by kernel_rfl) (by (exact IntWalk.i64_in _ (by (omega))))) rfl ?_)) | (refine so_is (.binOp .add 3 _ _ _) ?_; refine so_q (qt_addI rfl rfl (by (omega))) rfl ?_) | (refine so_is (.store 3 _ _) ?_; (refine so_store_box1 rfl rfl rfl rfl (by kernel_rfl) rfl rfl ?_)) | (refine so_is (.fieldAddr 79 _ 2) ?_; (refine so_q (qt_fld_lp (off := 2) rfl (by kernel_rfl)) rfl ?_)) | (refine so_is (.load 77 _) ?_; (refine so_q (qt_load_box rfl rfl (by kernel_rfl) rfl) rfl ?_)) | (refine so_is (.binOp .mul 77 _ _ _) ?_; refine so_q (qt_mul rfl rfl) rfl ?_) | (refine so_is (.convert 3 77 _) ?_; (refine so_q (qt_convI (k' := .u64) rfl (by kernel_rfl) (by kernel_rfl) (by (first | rfl | exact wrapU64 (by (omega))))) rfl ?_)) | (refine so_is (.binOp .add 77 _ _ _) ?_; refine so_q (qt_add rfl rfl) rfl ?_) | (refine so_is (.store 77 _ _) ?_; (refine so_store_box1 rfl rfl rfl rfl (by kernel_rfl) rfl rfl ?_)) | (refine so_is (.binOp .leq 3 _ _ _) ?_; refine so_q (qt_leq rfl rfl) rfl ?_) | (refine so_is (.binOp .shr 77 _ _ _) ?_; refine so_q (qt_shrC (c := 1099511627776) rfl rfl (by decide)) rfl ?_) | (refine so_is (.binOp .and 77 _ _ _) ?_; refine so_q (qt_andMU 8 (c := 256) rfl rfl (by decide)) rfl ?_) | (refine so_is (.convert 77 3 _) ?_; (refine so_q (qt_convI (k' := .i64) rfl (by kernel_rfl) (by kernel_rfl) (by (exact IntWalk.i64_in _ (by (omega))))) rfl ?_)) | refine so_nil ?_ | refine sk_seq ?_ | refine sk_skip ?_ | refine sk_region ?_ | refine sk_drawQ 2 (fun _ => false) (.step 0 true (.step 1 true (.step 2 true (.step 3 true (.step 4 true (.step 5 true (.step 6 true (.step 7 true (.step 8 true (.step 9 true .nil)))))))))) [(0, 1023, 1023, true), (1, 1022, 1023, true), (2, 1021, 1023, true), (4, 1019, 1023, false), (0, 1023, 1023, true), (16, 1007, 1023, true), (32, 991, 1023, true), (64, 959, 1023, false), (128, 895, 1023, true), (264, 759, 1023, true)] (by kernel_rfl) (by kernel_rfl) ?_ | refine sk_drawQ 3 (fun _ => false) (.step 0 true (.step 1 true (.step 2 true (.step 3 true (.step 4 true (.step 5 true (.step 6 true (.step 7 true (.step 8 true (.step 9 true (.step 10 true (.step 11 true .nil)))))))))))) [(0, 4095, 4095, true), (1, 4094, 4095, true), (2, 4093, 4095, true), (4, 4091, 4095, false), (0, 4095, 4095, true), (16, 4079, 4095, true), (32, 4063, 4095, true), (64, 4031, 4095, false), (136, 3959, 4095, true), (256, 3839, 4095, false), (512, 3583, 4095, true), (2047, 3071, 4095, true)] (by kernel_rfl) (by kernel_rfl) ?_ | refine sk_drawQ 6 (fun _ => false) (.step 0 true (.step 1 true (.step 2 true (.step 3 true (.step 4 true (.step 5 true (.step 6 true (.step 7 true (.step 8 true (.step 9 true .nil)))))))))) [(0, 1023, 1023, true), (1, 1022, 1023, true), (2, 1021, 1023, true), (4, 1019, 1023, false), (0, 1023, 1023, true), (16, 1007, 1023, true), (32, 991, 1023, true), (64, 959, 1023, false), (128, 895, 1023, true), (264, 759, 1023, true)] (by kernel_rfl) (by kernel_rfl) ?_ | refine sk_if rfl (fun hc => ?_) (fun hc => ?_))
  all_goals (apply sk_xret; (· (apply RetX.p; (· rfl); (· (repeat (first | exact BxO.nil _ | apply BxO.k | (apply BxO.o; (· (exact .lit _)))))); (· (apply GvA.cons; (· exact .tmp _); (· exact GvP.c (.lit _))); exact GvA.nil); (· (decide)))))
  all_goals exact ⟨_, _, by omega, rfl, _, by omega, rfl⟩
theorem curPick_p (code : Tx) (a s n : Int) (h0 : 0 ≤ a) (h1 : a ≤ 4611686018427387000) : PX Tryd.prog 61 (CurB code a s) [.v (.c (dI n))] (CurR a 2 fun res => ∃ x : Int, (0 ≤ x ∧ x ≤ 65535 ∧ (n ≤ 1 → x = 0) ∧ (1 < n → x < n)) ∧ res = .p (.c (dI x))) := by
  refine px_intro Tryd.func61 rfl rfl rfl (by kernel_rfl) rfl rfl rfl ?_; intro kv
  repeat' (first | (refine so_is (.assign _) ?_; (refine so_q (qt_asC rfl) rfl ?_)) | (refine so_is (.move _) ?_; (refine so_q (qt_mvC rfl) rfl ?_)) | (refine so_is (.binOp .leq 3 _ _ _) ?_; refine so_q (qt_leq rfl rfl) rfl ?_) | (refine so_is (.binOp .gtr 3 _ _ _) ?_; refine so_q (qt_gtr rfl rfl) rfl ?_) | (refine so_is (.binOp .mul 3 _ _ _) ?_; refine so_q (qt_mulI rfl rfl (by (omega))) rfl ?_) | (refine so_is (.binOp .add 3 _ _ _) ?_; refine so_q (qt_addI rfl rfl (by (omega))) rfl ?_) | (refine so_is (.binOp .rem 3 _ _ _) ?_; (refine so_q (qt_remN rfl rfl (by (omega)) (by (omega)) (by (omega))) rfl ?_)) | (refine so_is (.call ⟨.value (.func 79), _, _⟩) ?_; (apply so_callX (fid := 79); (· rfl); (· rfl); (· (repeat (first | exact BxI.nil | apply BxI.ks | (apply BxI.o; (· (exact .lit _)))))); (· (repeat (exact ArX.nil))); (· (decide)); (· (decide)); (· exact curNext_p code _ _ (by omega) (by omega)); (· rfl); (· (intro b hb1 hb2; omega)); (· rfl); (rintro _ _ ⟨a1, s1, ha1, rfl, x1, hx1, rfl⟩; refine ⟨(by first | rfl | simp [*]), ?_⟩))) | refine so_nil ?_ | refine sk_seq ?_ | refine sk_skip ?_ | refine sk_region ?_ | refine sk_if rfl (fun hc => ?_) (fun hc => ?_))
  all_goals (apply sk_xret; (· (apply RetX.p; (· rfl); (· (repeat (first | exact BxO.nil _ | apply BxO.k | (apply BxO.o; (· (exact .lit _)))))); (· (apply GvA.cons; (· exact .tmp _); (· exact GvP.c (.lit _))); exact GvA.nil); (· (decide)))))
  · exact ⟨_, _, by omega, rfl, _, by omega, rfl⟩
  · exact ⟨_, _, by omega, rfl, _, pick_bd (by omega) (by omega) (by omega), rfl⟩
  · exact ⟨_, _, by omega, rfl, _, pick_bd (by omega) (by omega) (by omega), rfl⟩
theorem curOne_p (code : Tx) (a s n : Int) (h0 : 0 ≤ a) (h1 : a ≤ 4611686018427387000) : PX Tryd.prog 60 (CurB code a s) [.v (.c (dI n))] (CurR a 2 fun res => ∃ b : Bool, res = .p (.c (dB b))) := by
  refine px_intro Tryd.func60 rfl rfl rfl (by kernel_rfl) rfl rfl rfl ?_; intro kv
  repeat' (first | (refine so_is (.assign _) ?_; (refine so_q (qt_asC rfl) rfl ?_)) | (refine so_is (.move _) ?_; (refine so_q (qt_mvC rfl) rfl ?_)) | (refine so_is (.binOp .eql 3 _ _ _) ?_; refine so_q (qt_eql rfl rfl) rfl ?_) | (refine so_is (.call ⟨.value (.func 61), _, _⟩) ?_; (apply so_callX (fid := 61); (· rfl); (· rfl); (· (repeat (first | exact BxI.nil | apply BxI.ks | (apply BxI.o; (· (exact .lit _)))))); (· (repeat (first | exact ArX.nil | apply ArX.v (.c (.d _))))); (· (decide)); (· (decide)); (· exact curPick_p code _ _ _ (by omega) (by omega)); (· rfl); (· (intro b hb1 hb2; omega)); (· rfl); (rintro _ _ ⟨a1, s1, ha1, rfl, x1, hx1, rfl⟩; refine ⟨(by first | rfl | simp [*]), ?_⟩))) | refine so_nil ?_ | refine sk_seq ?_ | refine sk_region ?_)
  all_goals (apply sk_xret; (· (apply RetX.p; (· rfl); (· (repeat (first | exact BxO.nil _ | apply BxO.k | (apply BxO.o; (· (exact .lit _)))))); (· (apply GvA.cons; (· exact .tmp _); (· exact GvP.c (.lit _))); exact GvA.nil); (· (decide)))))
  all_goals exact ⟨_, _, by omega, rfl, _, rfl⟩
theorem mem_at {α : Type} [Inhabited α] {l : List α} {x : Int} (h0 : 0 ≤ x) (h1 : x < l.length) : atZ l x ∈ l := List.mem_of_getElem? (atZ_some h0 h1)
theorem curOf_p (code : Tx) (a s : Int) (l : List Tx) (hl : 0 < l.length) (h0 : 0 ≤ a) (h1 : a ≤ 4611686018427387000) : PX Tryd.prog 78 (CurB code a s) [.v (.c (eT l))] (CurR a 2 fun res => ∃ t : Tx, t ∈ l ∧ res = .p (.c (dT t))) := by
  refine px_intro Tryd.func78 rfl rfl rfl (by kernel_rfl) rfl rfl rfl ?_; intro kv
  repeat' (first | (refine so_is (.assign _) ?_; (refine so_q (qt_asC rfl) rfl ?_)) | (refine so_is (.move _) ?_; (refine so_q (qt_mvC rfl) rfl ?_)) | (refine so_is (.call ⟨.builtin .len, _, #[92]⟩) ?_; (refine so_q (qt_len_d rfl (by kernel_rfl)) rfl ?_)) | (refine so_is (.indexAddr 92 _ _) ?_; (refine so_q (qt_idxT rfl rfl (by kernel_rfl) (by (omega)) (by (omega))) rfl ?_)) | (refine so_is (.load 9 _) ?_; (refine so_q (qt_load_pt rfl (by kernel_rfl) rfl) rfl ?_)) | (refine so_is (.call ⟨.value (.func 61), _, _⟩) ?_; (apply so_callX (fid := 61); (· rfl); (· rfl); (· (repeat (first | exact BxI.nil | apply BxI.ks | (apply BxI.o; (· (exact .lit _)))))); (· (repeat (first | exact ArX.nil | apply ArX.v (.c (.d _))))); (· (decide)); (· (decide)); (· exact curPick_p code _ _ _ (by omega) (by omega)); (· rfl); (· (intro b hb1 hb2; omega)); (· rfl); (rintro _ _ ⟨a1, s1, ha1, rfl, x1, hx1, rfl⟩; refine ⟨(by first | rfl | simp [*]), ?_⟩))) | refine so_nil ?_ | refine sk_seq ?_ | refine sk_region ?_)
  all_goals (apply sk_xret; (· (apply RetX.p; (· rfl); (· (repeat (first | exact BxO.nil _ | apply BxO.k | (apply BxO.o; (· (exact .lit _)))))); (· (apply GvA.cons; (· exact .tmp _); (· exact GvP.c (.lit _))); exact GvA.nil); (· (decide)))))
  all_goals exact ⟨_, _, by omega, rfl, _, mem_at (by omega) (by omega), rfl⟩
theorem curAmong_p (code : Tx) (a s : Int) (l : List Int) (hl : 0 < l.length) (h0 : 0 ≤ a) (h1 : a ≤ 4611686018427387000) : PX Tryd.prog 58 (CurB code a s) [.v (.c (eI l))] (CurR a 2 fun res => ∃ t : Int, t ∈ l ∧ res = .p (.c (dI t))) := by
  refine px_intro Tryd.func58 rfl rfl rfl (by kernel_rfl) rfl rfl rfl ?_; intro kv
  repeat' (first | (refine so_is (.assign _) ?_; (refine so_q (qt_asC rfl) rfl ?_)) | (refine so_is (.move _) ?_; (refine so_q (qt_mvC rfl) rfl ?_)) | (refine so_is (.call ⟨.builtin .len, _, #[71]⟩) ?_; (refine so_q (qt_len_d rfl (by kernel_rfl)) rfl ?_)) | (refine so_is (.indexAddr 71 _ _) ?_; (refine so_q (qt_idxI rfl rfl (by kernel_rfl) (by (omega)) (by (omega))) rfl ?_)) | (refine so_is (.load 3 _) ?_; (refine so_q (qt_load_pt rfl (by kernel_rfl) rfl) rfl ?_)) | (refine so_is (.call ⟨.value (.func 61), _, _⟩) ?_; (apply so_callX (fid := 61); (· rfl); (· rfl); (· (repeat (first | exact BxI.nil | apply BxI.ks | (apply BxI.o; (· (exact .lit _)))))); (· (repeat (first | exact ArX.nil | apply ArX.v (.c (.d _))))); (· (decide)); (· (decide)); (· exact curPick_p code _ _ _ (by omega) (by omega)); (· rfl); (· (intro b hb1 hb2; omega)); (· rfl); (rintro _ _ ⟨a1, s1, ha1, rfl, x1, hx1, rfl⟩; refine ⟨(by first | rfl | simp [*]), ?_⟩))) | refine so_nil ?_ | refine sk_seq ?_ | refine sk_region ?_)
  all_goals (apply sk_xret; (· (apply RetX.p; (· rfl); (· (repeat (first | exact BxO.nil _ | apply BxO.k | (apply BxO.o; (· (exact .lit _)))))); (· (apply GvA.cons; (· exact .tmp _); (· exact GvP.c (.lit _))); exact GvA.nil); (· (decide)))))
  all_goals exact ⟨_, _, by omega, rfl, _, mem_at (by omega) (by omega), rfl⟩
theorem partZ_len2 {α : Type} {l : List α} {i j : Int} : (partZ l i j).length ≤ l.length := partZ_le l i j
theorem curSpoilt_p (code : Tx) (a s : Int) (t w : Tx) (ht : t.length ≤ 1000000) (hw : 0 < w.length ∧ w.length ≤ 1000000) (h0 : 0 ≤ a) (h1 : a ≤ 4611686018427386000) : PX Tryd.prog 65 (CurB code a s) [.v (.c (dT t)), .v (.c (dT w))] (CurR a 6 fun res => ∃ u : Tx, u.length ≤ t.length + 1 ∧ res = .p (.c (dT u))) := by
  by_cases hz : t = []
  · subst hz
    refine px_intro Tryd.func65 rfl rfl rfl (by kernel_rfl) rfl rfl rfl ?_; intro kv
    repeat' (first | (refine so_is (.assign _) ?_; (refine so_q (qt_asC rfl) rfl ?_)) | (refine so_is (.move _) ?_; (refine so_q (qt_mvC rfl) rfl ?_)) | (refine so_is (.binOp .eql 9 _ _ _) ?_; (refine so_q (qt_eqlT rfl rfl) rfl ?_)) | (refine so_is (.slice 9 _ none (some _) none) ?_; (refine so_q (qt_sliceT01 rfl rfl (by kernel_rfl) (by (omega)) (by (omega))) rfl ?_)) | refine so_nil ?_ | refine sk_seq ?_ | refine sk_region ?_ | refine sk_true rfl ?_)
    all_goals first | (exfalso; simp_all; done) | skip
    all_goals (apply sk_xret; (· (apply RetX.p; (· rfl); (· (repeat (first | exact BxO.nil _ | apply BxO.k | (apply BxO.o; (· (exact .lit _)))))); (· (apply GvA.cons; (· exact .tmp _); (· exact GvP.c (.lit _))); exact GvA.nil); (· (decide)))))
    all_goals exact ⟨_, _, by omega, rfl, _, by simp [partZ]; omega, rfl⟩
  · have hl : 0 < t.length := List.length_pos_iff.2 hz
    refine px_intro Tryd.func65 rfl rfl rfl (by kernel_rfl) rfl rfl rfl ?_; intro kv
    repeat' (first | (refine so_is (.assign _) ?_; (refine so_q (qt_asC rfl) rfl ?_)) | (refine so_is (.move _) ?_; (refine so_q (qt_mvC rfl) rfl ?_)) | (refine so_is (.binOp .eql 9 _ _ _) ?_; (refine so_q (qt_eqlT rfl rfl) rfl ?_)) | (refine so_is (.slice 9 _ none (some _) none) ?_; (refine so_q (qt_sliceT01 rfl rfl (by kernel_rfl) (by (omega)) (by (first | omega | (simp only [List.length_map, List.length_append, List.length_replicate, fillL_len, rowF_len, gridF_len, mkI_len, mkII_len, partZ_min] at *; omega)))) rfl ?_)) | (refine so_is (.call ⟨.builtin .len, _, #[9]⟩) ?_; (refine so_q (qt_lenT rfl (by kernel_rfl)) rfl ?_)) | (refine so_is (.call ⟨.value (.func 61), _, _⟩) ?_; (first | (apply so_callX (d := 16) (fid := 61); (· rfl); (· rfl); (· (repeat (first | exact BxI.nil | apply BxI.ks | (apply BxI.o; (· (exact .lit _)))))); (· (repeat (first | exact ArX.nil | apply ArX.v (.c (.d _))))); (· (decide)); (· (decide)); (· exact curPick_p code _ _ _ (by omega) (by omega)); (· rfl); (· (intro b hb1 hb2; omega)); (· rfl); (rintro _ _ ⟨a1, s1, ha1, rfl, x1, hx1, rfl⟩; refine ⟨(by first | rfl | simp [*]), ?_⟩)) | (apply so_callX (d := 21) (fid := 61); (· rfl); (· rfl); (· (repeat (first | exact BxI.nil | apply BxI.ks | (apply BxI.o; (· (exact .lit _)))))); (· (repeat (first | exact ArX.nil | apply ArX.v (.c (.d _))))); (· (decide)); (· (decide)); (· exact curPick_p code _ _ _ (by omega) (by omega)); (· rfl); (· (intro b hb1 hb2; omega)); (· rfl); (rintro _ _ ⟨a2, s2, ha2, rfl, x2, hx2, rfl⟩; refine ⟨(by first | rfl | simp [*]), ?_⟩)) | (apply so_callX (d := 25) (fid := 61); (· rfl); (· rfl); (· (repeat (first | exact BxI.nil | apply BxI.ks | (apply BxI.o; (· (exact .lit _)))))); (· (repeat (first | exact ArX.nil | apply ArX.v (.c (.d _))))); (· (decide)); (· (decide)); (· exact curPick_p code _ _ _ (by omega) (by omega)); (· rfl); (· (intro b hb1 hb2; omega)); (· rfl); (rintro _ _ ⟨a3, s3, ha3, rfl, x3, hx3, rfl⟩; refine ⟨(by first | rfl | simp [*]), ?_⟩)))) | (refine so_is (.slice 9 _ (some _) none none) ?_; (refine so_q (qt_sliceT10 rfl rfl (by kernel_rfl) (by (omega)) (by (omega))) rfl ?_)) | (refine so_is (.binOp .eql 3 _ _ _) ?_; refine so_q (qt_eql rfl rfl) rfl ?_) | (refine so_is (.binOp .add 9 _ _ _) ?_; (refine so_q (qt_addT rfl rfl (by ((simp only [List.length_map, List.length_append, List.length_replicate, fillL_len, rowF_len, gridF_len, mkI_len, mkII_len, partZ_min] at *; omega)))) rfl ?_)) | (refine so_is (.binOp .add 3 _ _ _) ?_; refine so_q (qt_addI rfl rfl (by (omega))) rfl ?_) | refine so_nil ?_ | refine sk_seq ?_ | refine sk_block ?_ | refine sk_blk ?_ | refine sk_skip ?_ | refine sk_region ?_ | refine sk_drawQ 7 (fun _ => false) (.step 0 true (.step 1 true (.step 2 true (.step 3 true (.step 4 true (.step 5 true (.step 6 true (.step 7 true (.step 8 true (.step 9 true .nil)))))))))) [(0, 1023, 1023, true), (0, 1023, 1023, true), (3, 1020, 1023, true), (0, 1023, 1023, true), (12, 1011, 1023, true), (0, 1023, 1023, true), (0, 1023, 1023, true), (96, 927, 1023, true), (144, 879, 1023, true), (511, 767, 1023, true)] (by kernel_rfl) (by kernel_rfl) ?_ | refine sk_drawQ 9 (fun _ => false) (.step 0 true (.step 1 true (.step 2 true (.step 3 true (.step 4 true (.step 5 true (.step 6 true (.step 7 true (.step 8 true (.step 9 true (.step 10 true .nil))))))))))) [(0, 2047, 2047, true), (0, 2047, 2047, true), (3, 2044, 2047, true), (0, 2047, 2047, true), (12, 2035, 2047, true), (0, 2047, 2047, true), (0, 2047, 2047, true), (64, 1983, 2047, true), (160, 1887, 2047, true), (272, 1775, 2047, true), (1023, 1535, 2047, true)] (by kernel_rfl) (by kernel_rfl) ?_ | refine sk_drawQ 10 (fun _ => false) (.step 0 true (.step 1 true (.step 2 true (.step 3 true (.step 4 true (.step 5 true (.step 6 true (.step 7 true (.step 8 true .nil))))))))) [(0, 511, 511, true), (0, 511, 511, true), (3, 508, 511, true), (0, 511, 511, true), (0, 511, 511, true), (16, 495, 511, true), (40, 471, 511, true), (68, 443, 511, true), (255, 383, 511, true)] (by kernel_rfl) (by kernel_rfl) ?_ | refine sk_if rfl (fun hc => ?_) (fun hc => ?_))
    all_goals first | (exfalso; simp_all; done) | skip
    all_goals (apply sk_xret; (· (apply RetX.p; (· rfl); (· (repeat (first | exact BxO.nil _ | apply BxO.k | (apply BxO.o; (· (exact .lit _)))))); (· (apply GvA.cons; (· exact .tmp _); (· exact GvP.c (.lit _))); exact GvA.nil); (· (decide)))))
    all_goals exact ⟨_, _, by omega, rfl, _, by simp only [List.length_append, partZ_min]; omega, rfl⟩
theorem curOfD_p (code : Tx) (a s : Int) (n : Nat) (ds : List D) (N : Nat) (hn : n = ds.length) (h2 : 0 < n) (h : ∀ x ∈ ds, ∃ t : Tx, x = dT t ∧ t.length ≤ N) (h0 : 0 ≤ a) (h1 : a ≤ 4611686018427387000) : PX Tryd.prog 78 (CurB code a s) [.v (.c (.sl 1 n ds))] (CurR a 2 fun res => ∃ t : Tx, t.length ≤ N ∧ res = .p (.c (dT t))) := by
  have : ∃ l : List Tx, ds = l.map dT ∧ ∀ t ∈ l, t.length ≤ N := by
    clear hn h2
    induction ds with
    | nil => exact ⟨[], rfl, fun t ht => by cases ht⟩
    | cons x ds ih =>
      obtain ⟨t, e, ht⟩ := h x (List.mem_cons_self ..)
      obtain ⟨l, e2, hl⟩ := ih fun y hy => h y (List.mem_cons_of_mem _ hy)
      exact ⟨t :: l, by rw [List.map_cons, e, e2], fun u hu => by rcases List.mem_cons.1 hu with e3 | hu; rw [e3]; exact ht; exact hl u hu⟩
  obtain ⟨l, rfl, hl⟩ := this
  rw [List.length_map] at hn
  subst hn
  refine (curOf_p code a s l h2 h0 h1).mono ?_
  rintro ds res ⟨a1, s1, ha, rfl, t, ht, rfl⟩
  exact ⟨_, _, ha, rfl, t, hl t ht, rfl⟩
theorem curAmongD_p (code : Tx) (a s : Int) (n : Nat) (ds : List D) (Q : Int → Prop) (hn : n = ds.length) (h2 : 0 < n) (h : ∀ x ∈ ds, ∃ t : Int, x = dI t ∧ Q t) (h0 : 0 ≤ a) (h1 : a ≤ 4611686018427387000) : PX Tryd.prog 58 (CurB code a s) [.v (.c (.sl 1 n ds))] (CurR a 2 fun res => ∃ t : Int, Q t ∧ res = .p (.c (dI t))) := by
  have : ∃ l : List Int, ds = l.map dI ∧ ∀ t ∈ l, Q t := by
    clear hn h2
    induction ds with
    | nil => exact ⟨[], rfl, fun t ht => by cases ht⟩
    | cons x ds ih =>
      obtain ⟨t, e, ht⟩ := h x (List.mem_cons_self ..)
      obtain ⟨l, e2, hl⟩ := ih fun y hy => h y (List.mem_cons_of_mem _ hy)
      exact ⟨t :: l, by rw [List.map_cons, e, e2], fun u hu => by rcases List.mem_cons.1 hu with e3 | hu; rw [e3]; exact ht; exact hl u hu⟩
  obtain ⟨l, rfl, hl⟩ := this
  rw [List.length_map] at hn
  subst hn
  refine (curAmong_p code a s l h2 h0 h1).mono ?_
  rintro ds res ⟨a1, s1, ha, rfl, t, ht, rfl⟩
  exact ⟨_, _, ha, rfl, t, hl t ht, rfl⟩

end Go.Proofs.YtdnkmgbbkggmdaaDoor

namespace Go.Proofs.YtdnkmgbbkggmdaaDoor
open Go.RowKit
set_option linter.unusedSectionVars false
variable [Glb]
set_option maxRecDepth 10000
set_option maxHeartbeats 4000000
theorem part_nil (s : Tx) (i : Int) : partZ s i i = [] := by simp [partZ]
theorem part_last {s : Tx} {f : Nat} (h : f ≤ s.length) : partZ s f s.length = s.drop f := by
  unfold partZ
  rw [List.take_of_length_le (by simp)]
  simp
theorem part_snoc {s : Tx} {f i : Nat} (h : f ≤ i) (h2 : i < s.length) : partZ s f (i + 1) = partZ s f i ++ [s[i]] := by
  unfold partZ
  have e1 : ((i : Int) + 1).toNat - (f : Int).toNat = (i - f) + 1 := by omega
  have e2 : (i : Int).toNat - (f : Int).toNat = i - f := by omega
  rw [e1, e2]
  have h3 : i - f < (s.drop (f : Int).toNat).length := by simp; omega
  rw [List.take_succ_eq_append_getElem h3]
  congr 2
  rw [List.getElem_drop]
  congr 1
  omega
theorem l1Split_p (s : Tx) (b : UInt8) (hs : s.length ≤ 4000000) : PC Tryd.prog 73 [.c (dT s), .c (.lit (.int .u8 b.toNat))] (.p (.c (eT (splitT b s)))) := by
  refine pc_intro Tryd.func73 rfl rfl rfl (by kernel_rfl) rfl rfl ?_; intro _
  repeat' (first | (refine so_is (.assign _) ?_; (refine so_q (qt_asC rfl) rfl ?_)) | (refine so_is (.buildSlice 92 0 _) ?_; (apply so_bslice (sz := 1) (by_ := 16); (· kernel_rfl); (· decide); (· (repeat (exact GvS.nil _))); (· (decide)); (· rfl); (· rfl); (· rfl))) | refine so_nil ?_ | refine sk_seq ?_ | refine sk_block ?_ | refine sk_region ?_)
  apply sk_packC [0, 1, 5, 6, 7] [8, 25, 26, 33, 34] rfl; (· (repeat (first | exact Pf.nil | apply Pf.cons (.c rfl (.d rfl)) | apply Pf.cons (.c rfl (.ls rfl))))); (· (repeat (first | exact Pb.nil | apply Pb.cons (.row rfl) | apply Pb.skip)))
  refine sk_loopL [0, 1] [25, 26, 33, 34] (fun (g : List Tx × Nat × Nat) => [(5, .c (.ls 8 1 0 g.1.length)), (6, iN g.2.1), (7, iN g.2.2)]) (fun g => [(8, .row 1 (g.1.map dT))]) (fun g => g.1.length ≤ g.2.2 ∧ g.2.1 ≤ g.2.2 ∧ g.2.2 ≤ s.length ∧ g.1 ++ preT (partZ s g.2.1 g.2.2) (splitT b (s.drop g.2.2)) = splitT b s) (fun g => s.length - g.2.2) (([], 0, 0)) ?_ (by (repeat (first | exact trivial | refine ⟨(by (rfl)), ?_⟩))) (by (repeat (first | exact trivial | refine ⟨(by ((refine row_eq rfl ?_; simp; done))), ?_⟩))) ?_
  · simp [partZ, preT_nil (splitT_ne b s)]
  rintro ⟨out, f, i⟩ ⟨h0, h1, h2, h3⟩
  simp only at h0 h1 h2 h3 ⊢
  by_cases h : i < s.length
  · repeat' (first | (refine so_is (.assign _) ?_; (refine so_q (qt_asC rfl) rfl ?_)) | (refine so_is (.move _) ?_; (refine so_q (qt_mvC rfl) rfl ?_)) | (refine so_is (.call ⟨.builtin .len, _, #[9]⟩) ?_; (refine so_q (qt_lenT rfl (by kernel_rfl)) rfl ?_)) | (refine so_is (.binOp .lss 3 _ _ _) ?_; refine so_q (qt_lss rfl rfl) rfl ?_) | (refine so_is (.index 9 _ _) ?_; (refine so_q (qt_indexT rfl rfl (by kernel_rfl) (by (omega)) (by (omega))) rfl ?_)) | (refine so_is (.binOp .eql 5 _ _ _) ?_; refine so_q (qt_eql rfl rfl) rfl ?_) | (refine so_is (.slice 9 _ (some _) (some _) none) ?_; (refine so_q (qt_sliceT11 rfl rfl rfl (by kernel_rfl) (by (omega)) (by (omega)) (by (omega))) rfl ?_)) | (refine so_is (.buildSlice 92 1 _) ?_; (apply so_bslice (sz := 1) (by_ := 16); (· kernel_rfl); (· decide); (· (repeat (first | exact GvS.nil _ | apply GvS.c rfl rfl (.lit _) rfl))); (· (decide)); (· rfl); (· rfl); (· rfl))) | (refine so_is (.call ⟨.builtin .append, _, #[92, 92]⟩) ?_; ((apply so_appR (sz := 1) (by_ := 16); (· rfl); (· rfl); (· ((simp; done))); (· exact .row _ _ _ _ rfl (by ((simp; done)))); (· (decide)); (· kernel_rfl); (· decide); (· (omega)); (· (omega)); (· rfl); (· rfl); (· rfl)))) | (refine so_is (.binOp .add 3 _ _ _) ?_; refine so_q (qt_addI rfl rfl (by (omega))) rfl ?_) | (refine so_is (.slice 9 _ (some _) none none) ?_; (refine so_q (qt_sliceT10 rfl rfl (by kernel_rfl) (by (omega)) (by (omega))) rfl ?_)) | refine so_nil ?_ | refine sk_seq ?_ | refine sk_block ?_ | refine sk_blk ?_ | refine sk_exit rfl ?_ | refine sk_skip ?_ | refine sk_region ?_ | refine sk_if rfl (fun hc => ?_) (fun hc => ?_))
    all_goals first | (exfalso; omega) | skip
    · have e : s[i] = b := UInt8.toNat_inj.1 (by have := byt_nat h; omega)
      refine sk_back ?_; refine ⟨(out ++ [partZ s f i], i + 1, i + 1), ?_, ?_, le_at rfl (by (repeat (first | exact trivial | refine ⟨(by (first | rfl | (refine ls_eq rfl ?_; ((simp; done))))), ?_⟩))) (by (repeat (first | exact trivial | refine ⟨rfl, ?_⟩))) (by (repeat (first | exact trivial | refine ⟨(by ((refine row_eq rfl ?_; simp; done))), ?_⟩))) (by (repeat (first | exact trivial | refine ⟨.inr rfl, ?_⟩)))⟩
      · rw [split_hit h e, ← List.append_assoc] at h3
        refine ⟨by simp; omega, Nat.le_refl _, by simp only; omega, ?_⟩
        simp only [part_nil]
        exact h3
      · simp only; omega
    · have e : s[i] ≠ b := fun e => by have := byt_nat h; rw [e] at this; contradiction
      refine sk_back ?_; refine ⟨(out, f, i + 1), ?_, ?_, le_at rfl (by (repeat (first | exact trivial | refine ⟨(by (rfl)), ?_⟩))) (by (repeat (first | exact trivial | refine ⟨rfl, ?_⟩))) (by (repeat (first | exact trivial | refine ⟨(by ((refine row_eq rfl ?_; simp; done))), ?_⟩))) (by (repeat (first | exact trivial | refine ⟨.inr rfl, ?_⟩)))⟩
      · rw [split_no h e, ← part_snoc h1 h] at h3
        refine ⟨by simp only; omega, by simp only; omega, by simp only; omega, ?_⟩
        simpa using h3
      · simp only; omega
  · have hi : i = s.length := by omega
    subst hi
    rw [List.drop_length, show splitT b [] = [[]] from rfl, show ∀ p : Tx, preT p [[]] = [p ++ []] from fun _ => rfl, List.append_nil] at h3
    repeat' (first | (refine so_is (.assign _) ?_; (refine so_q (qt_asC rfl) rfl ?_)) | (refine so_is (.move _) ?_; (refine so_q (qt_mvC rfl) rfl ?_)) | (refine so_is (.call ⟨.builtin .len, _, #[9]⟩) ?_; (refine so_q (qt_lenT rfl (by kernel_rfl)) rfl ?_)) | (refine so_is (.binOp .lss 3 _ _ _) ?_; refine so_q (qt_lss rfl rfl) rfl ?_) | (refine so_is (.index 9 _ _) ?_; (refine so_q (qt_indexT rfl rfl (by kernel_rfl) (by (omega)) (by (omega))) rfl ?_)) | (refine so_is (.binOp .eql 5 _ _ _) ?_; refine so_q (qt_eql rfl rfl) rfl ?_) | (refine so_is (.slice 9 _ (some _) (some _) none) ?_; (refine so_q (qt_sliceT11 rfl rfl rfl (by kernel_rfl) (by (omega)) (by (omega)) (by (omega))) rfl ?_)) | (refine so_is (.buildSlice 92 1 _) ?_; (apply so_bslice (sz := 1) (by_ := 16); (· kernel_rfl); (· decide); (· (repeat (first | exact GvS.nil _ | apply GvS.c rfl rfl (.lit _) rfl))); (· (decide)); (· rfl); (· rfl); (· rfl))) | (refine so_is (.call ⟨.builtin .append, _, #[92, 92]⟩) ?_; ((apply so_appR (sz := 1) (by_ := 16); (· rfl); (· rfl); (· ((simp; done))); (· exact .row _ _ _ _ rfl (by ((simp; done)))); (· (decide)); (· kernel_rfl); (· decide); (· (omega)); (· (omega)); (· rfl); (· rfl); (· rfl)))) | (refine so_is (.binOp .add 3 _ _ _) ?_; refine so_q (qt_addI rfl rfl (by (omega))) rfl ?_) | (refine so_is (.slice 9 _ (some _) none none) ?_; (refine so_q (qt_sliceT10 rfl rfl (by kernel_rfl) (by (omega)) (by (omega))) rfl ?_)) | refine so_nil ?_ | refine sk_seq ?_ | refine sk_block ?_ | refine sk_blk ?_ | refine sk_exit rfl ?_ | refine sk_skip ?_ | refine sk_region ?_ | refine sk_if rfl (fun hc => ?_) (fun hc => ?_))
    all_goals first | (exfalso; omega) | skip
    all_goals (apply sk_ret; apply ret_eq; (· apply RetOK.p; (· (apply GvA.cons; (· exact .tmp _); (· (exact GvP.c (.row _ _ _ _ rfl (by ((simp; done))))))); exact GvA.nil); (· (decide))))
    all_goals rw [← h3]
    all_goals simp

end Go.Proofs.YtdnkmgbbkggmdaaDoor

namespace Go.Proofs.YtdnkmgbbkggmdaaDoor
open Go.RowKit
set_option linter.unusedSectionVars false
variable [Glb]
set_option maxRecDepth 10000
set_option maxHeartbeats 4000000
theorem bef_len (b : UInt8) (s : Tx) : (bef b s).length ≤ s.length := by
  by_cases h : b ∈ s
  · have := congrArg List.length (split_at_b h).1
    simp at this; omega
  · rw [bef_miss h]; omega
theorem ahd_len {k : Nat} (h : k < 60) : (ahdT k).length ≤ 3 := by have := num60 h; simp [ahdT]; omega
theorem part_to (s : Tx) (n : Nat) : partZ s 0 n = s.take n := by simp [partZ]
theorem part_from (s : Tx) (n : Nat) (h : n ≤ s.length) : partZ s n s.length = s.drop n := by
  unfold partZ; rw [List.take_of_length_le (by simp)]; simp
def restS (k : Nat) (l : Tx) : Tx := (rstT k l).drop ((bef 64 (rstT k l)).length + 1)
theorem dec_1 (k : Nat) (l : Tx) (hk : k < 60) (hl : l.length ≤ 1000000) (h : (bef 35 l).length < (ahdT k).length ∨ (bef 35 l).take (ahdT k).length ≠ ahdT k) : PC Tryd.prog 74 [.c (dT l), .c (dI k)] (.t [.g [dT [], dT []], .c (dB false)]) := by
  have b1 := bef_len 35 l
  have h3 := ahd_len hk
  have h4 := num60 hk
  unfold ahdT at h h3
  rw [← part_to] at h
  refine pc_intro Tryd.func74 rfl rfl rfl (by kernel_rfl) rfl rfl ?_; intro _
  repeat' (first | (refine so_is (.alloc 27) ?_; refine so_alloc (zs := [.string ByteArray.empty, .string ByteArray.empty]) (by kernel_rfl) rfl ?_) | (refine so_is (.assign _) ?_; (refine so_q (qt_asC rfl) rfl ?_)) | (refine so_is (.move _) ?_; (refine so_q (qt_mvC rfl) rfl ?_)) | (refine so_is (.binOp .add 9 _ _ _) ?_; (refine so_q (qt_addT rfl rfl (by ((simp only [List.length_map, List.length_append, List.length_replicate, fillL_len, rowF_len, gridF_len, mkI_len, mkII_len, partZ_min] at *; omega)))) rfl ?_)) | (refine so_is (.indexAddr 92 _ _) ?_; (refine so_q (qt_idx0 rfl rfl (by kernel_rfl)) rfl ?_)) | (refine so_is (.load 9 _) ?_; (refine so_q (qt_load_pt rfl (by kernel_rfl) rfl) rfl ?_)) | (refine so_is (.call ⟨.builtin .len, _, #[9]⟩) ?_; (refine so_q (qt_lenT rfl (by kernel_rfl)) rfl ?_)) | (refine so_is (.binOp .lss 3 _ _ _) ?_; refine so_q (qt_lss rfl rfl) rfl ?_) | (refine so_is (.slice 9 _ none (some _) none) ?_; (refine so_q (qt_sliceT01 rfl rfl (by kernel_rfl) (by (omega)) (by (omega))) rfl ?_)) | (refine so_is (.binOp .neq 9 _ _ _) ?_; (refine so_q (qt_neqT rfl rfl) rfl ?_)) | (refine so_is (.pick _ _ _) ?_; (refine so_q (qt_pkC rfl rfl) rfl ?_)) | (refine so_is (.build 27 _) ?_; refine so_q (qt_build (cs := [_, _]) [(0, 1), (1, 1)] [.string ByteArray.empty, .string ByteArray.empty] (by kernel_rfl) (by kernel_rfl) rfl) rfl ?_) | (refine so_is (.store 27 _ _) ?_; (refine so_store_box rfl rfl rfl (by kernel_rfl) rfl rfl ?_)) | (refine so_is (.slice 9 _ (some _) none none) ?_; (refine so_q (qt_sliceT10 rfl rfl (by kernel_rfl) (by (omega)) (by (omega))) rfl ?_)) | (refine so_is (.call ⟨.value (.func 69), _, _⟩) ?_; (apply so_call0 (fid := 69); (· (repeat (first | exact SeA.nil | apply SeA.cons (.c (.d _))))); (· exact l1Num_p _ (by omega)); (· rfl))) | (refine so_is (.call ⟨.value (.func 73), _, _⟩) ?_; (apply so_call0 (fid := 73); (· (repeat (first | exact SeA.nil | apply SeA.cons (.c (.d _))))); (· exact l1Split_p _ 35 (by omega)); (· rfl))) | refine so_nil ?_ | refine so_g_no rfl rfl rfl rfl ?_ | refine so_g_yes rfl rfl rfl rfl ?_ | refine so_g_if rfl rfl (fun hg => ?_) (fun hg => ?_) | refine sk_seq ?_ | refine sk_skip ?_ | refine sk_region ?_ | refine sk_true rfl ?_ | refine sk_if rfl (fun hc => ?_) (fun hc => ?_))
  all_goals first | (exfalso; rcases h with h | h; (omega); (exact absurd h (by assumption))) | skip
  all_goals (apply sk_ret; apply ret_eq; (· apply RetOK.t; (· (apply GvA.cons; (· (apply RV.cellN (n := 2); (· rfl); (· rfl); (· kernel_rfl); (· rfl))); (· (apply GvP.g; (· (apply GvL.cons (.lit _)); (apply GvL.cons (.lit _)); exact GvL.nil)))); (apply GvA.cons; (· exact .tmp _); (· exact GvP.c (.lit _))); exact GvA.nil); (· rfl); (· (decide))))
  all_goals rfl
theorem dec_2 (k : Nat) (l : Tx) (hk : k < 60) (hl : l.length ≤ 1000000) (h : ¬ ((bef 35 l).length < (ahdT k).length ∨ (bef 35 l).take (ahdT k).length ≠ ahdT k)) (h2 : (bef 64 (rstT k l)).length = (rstT k l).length) : PC Tryd.prog 74 [.c (dT l), .c (dI k)] (.t [.g [dT [], dT []], .c (dB false)]) := by
  have b1 := bef_len 35 l
  have h3 := ahd_len hk
  have h4 := num60 hk
  rw [not_or] at h
  unfold rstT at h2
  unfold ahdT at h h3 h2
  rw [← part_from _ _ (by omega)] at h2
  rw [← part_to] at h
  have b2 := partZ_le (bef 35 l) (numT k ++ [32]).length (bef 35 l).length
  refine pc_intro Tryd.func74 rfl rfl rfl (by kernel_rfl) rfl rfl ?_; intro _
  repeat' (first | (refine so_is (.alloc 27) ?_; refine so_alloc (zs := [.string ByteArray.empty, .string ByteArray.empty]) (by kernel_rfl) rfl ?_) | (refine so_is (.assign _) ?_; (refine so_q (qt_asC rfl) rfl ?_)) | (refine so_is (.move _) ?_; (refine so_q (qt_mvC rfl) rfl ?_)) | (refine so_is (.binOp .add 9 _ _ _) ?_; (refine so_q (qt_addT rfl rfl (by ((simp only [List.length_map, List.length_append, List.length_replicate, fillL_len, rowF_len, gridF_len, mkI_len, mkII_len, partZ_min] at *; omega)))) rfl ?_)) | (refine so_is (.call ⟨.value (.func 73), _, _⟩) ?_; (first | (apply so_call0 (d := 15) (fid := 73); (· (repeat (first | exact SeA.nil | apply SeA.cons (.c (.d _))))); (· exact l1Split_p _ 35 (by omega)); (· rfl)) | (apply so_call0 (d := 37) (fid := 73); (· (repeat (first | exact SeA.nil | apply SeA.cons (.c (.d _))))); (· exact l1Split_p _ 64 (by omega)); (· rfl)))) | (refine so_is (.indexAddr 92 _ _) ?_; (refine so_q (qt_idx0 rfl rfl (by kernel_rfl)) rfl ?_)) | (refine so_is (.load 9 _) ?_; (refine so_q (qt_load_pt rfl (by kernel_rfl) rfl) rfl ?_)) | (refine so_is (.call ⟨.builtin .len, _, #[9]⟩) ?_; (refine so_q (qt_lenT rfl (by kernel_rfl)) rfl ?_)) | (refine so_is (.binOp .lss 3 _ _ _) ?_; refine so_q (qt_lss rfl rfl) rfl ?_) | (refine so_is (.slice 9 _ none (some _) none) ?_; (refine so_q (qt_sliceT01 rfl rfl (by kernel_rfl) (by (omega)) (by (omega))) rfl ?_)) | (refine so_is (.binOp .neq 9 _ _ _) ?_; (refine so_q (qt_neqT rfl rfl) rfl ?_)) | (refine so_is (.pick _ _ _) ?_; (refine so_q (qt_pkC rfl rfl) rfl ?_)) | (refine so_is (.build 27 _) ?_; refine so_q (qt_build (cs := [_, _]) [(0, 1), (1, 1)] [.string ByteArray.empty, .string ByteArray.empty] (by kernel_rfl) (by kernel_rfl) rfl) rfl ?_) | (refine so_is (.store 27 _ _) ?_; (refine so_store_box rfl rfl rfl (by kernel_rfl) rfl rfl ?_)) | (refine so_is (.slice 9 _ (some _) none none) ?_; (refine so_q (qt_sliceT10 rfl rfl (by kernel_rfl) (by (omega)) (by (omega))) rfl ?_)) | (refine so_is (.binOp .eql 3 _ _ _) ?_; refine so_q (qt_eql rfl rfl) rfl ?_) | (refine so_is (.binOp .add 3 _ _ _) ?_; refine so_q (qt_addI rfl rfl (by (omega))) rfl ?_) | (refine so_is (.load 27 _) ?_; (refine so_q (qt_load_boxs rfl rfl (by kernel_rfl : tAgg _ 27 2 = true) rfl) rfl ?_)) | (refine so_is (.call ⟨.value (.func 69), _, _⟩) ?_; (apply so_call0 (fid := 69); (· (repeat (first | exact SeA.nil | apply SeA.cons (.c (.d _))))); (· exact l1Num_p _ (by omega)); (· rfl))) | refine so_nil ?_ | refine so_g_no rfl rfl rfl rfl ?_ | refine so_g_yes rfl rfl rfl rfl ?_ | refine so_g_if rfl rfl (fun hg => ?_) (fun hg => ?_) | refine sk_seq ?_ | refine sk_skip ?_ | refine sk_region ?_ | refine sk_drawQ 10 (fun i => i == 11) (.step 0 true (.step 1 true (.step 2 false (.step 3 true (.step 4 true (.step 5 true (.step 7 true (.step 8 true (.step 6 false (.step 9 true (.step 10 true (.step 11 false (.step 12 true .nil))))))))))))) [(0, 8191, 8191, false), (0, 8191, 8191, false), (2, 8189, 8191, false), (4, 8187, 8191, true), (8, 8183, 8191, true), (8, 8183, 8191, false), (56, 8135, 8191, false), (8, 8183, 6143, true), (136, 8055, 6143, true), (328, 7863, 6143, true), (520, 7671, 6143, true), (65, 8190, 8191, false), (4095, 7167, 6143, true)] (by kernel_rfl) (by kernel_rfl) ?_ | refine sk_true rfl ?_ | refine sk_if rfl (fun hc => ?_) (fun hc => ?_))
  all_goals first | (exfalso; omega) | (exfalso; exact absurd (by assumption) h.2) | skip
  all_goals (apply sk_ret; apply ret_eq; (· apply RetOK.t; (· (apply GvA.cons; (· (apply RV.cellN (n := 2); (· rfl); (· rfl); (· kernel_rfl); (· rfl))); (· (apply GvP.g; (· (apply GvL.cons (.lit _)); (apply GvL.cons (.lit _)); exact GvL.nil)))); (apply GvA.cons; (· exact .tmp _); (· exact GvP.c (.lit _))); exact GvA.nil); (· rfl); (· (decide))))
  all_goals rfl
theorem dec_3 (k : Nat) (l : Tx) (hk : k < 60) (hl : l.length ≤ 1000000) (h : ¬ ((bef 35 l).length < (ahdT k).length ∨ (bef 35 l).take (ahdT k).length ≠ ahdT k)) (h2 : (bef 64 (rstT k l)).length ≠ (rstT k l).length) : PC Tryd.prog 74 [.c (dT l), .c (dI k)] (.t [.g [dT (bef 64 (rstT k l)), dT (restS k l)], .c (dB (recB (bef 64 (rstT k l)) (restS k l) && decide (lineT k (bef 64 (rstT k l)) (restS k l) = l)))]) := by
  have b1 := bef_len 35 l
  have h3 := ahd_len hk
  have h4 := num60 hk
  rw [not_or] at h
  have b3 := bef_len 64 (rstT k l)
  unfold restS
  rw [← part_from (rstT k l) _ (by omega)]
  unfold rstT at h2 b3 ⊢
  unfold ahdT at h h3 h2 b3 ⊢
  rw [← part_from _ _ (by omega)] at h2 b3 ⊢
  rw [← part_to] at h
  have hc1 : ∀ n : Nat, ((n + 1 : Nat) : Int) = (n : Int) + 1 := fun n => by omega
  simp only [hc1]
  clear hc1
  have b2 := partZ_le (bef 35 l) (numT k ++ [32]).length (bef 35 l).length
  have b4 := partZ_le (partZ (bef 35 l) (numT k ++ [32]).length (bef 35 l).length) (((bef 64 (partZ (bef 35 l) (numT k ++ [32]).length (bef 35 l).length)).length : Int) + 1) (partZ (bef 35 l) (numT k ++ [32]).length (bef 35 l).length).length
  refine pc_intro Tryd.func74 rfl rfl rfl (by kernel_rfl) rfl rfl ?_; intro _
  repeat' (first | (refine so_is (.alloc 27) ?_; refine so_alloc (zs := [.string ByteArray.empty, .string ByteArray.empty]) (by kernel_rfl) rfl ?_) | (refine so_is (.assign _) ?_; (refine so_q (qt_asC rfl) rfl ?_)) | (refine so_is (.move _) ?_; (refine so_q (qt_mvC rfl) rfl ?_)) | (refine so_is (.binOp .add 9 _ _ _) ?_; (refine so_q (qt_addT rfl rfl (by (first | (simp only [List.length_map, List.length_append, List.length_replicate, fillL_len, rowF_len, gridF_len, mkI_len, mkII_len, partZ_min] at *; omega) | (simp at *; omega)))) rfl ?_)) | (refine so_is (.call ⟨.value (.func 73), _, _⟩) ?_; (first | (apply so_call0 (d := 15) (fid := 73); (· (repeat (first | exact SeA.nil | apply SeA.cons (.c (.d _))))); (· exact l1Split_p _ 35 (by omega)); (· rfl)) | (apply so_call0 (d := 37) (fid := 73); (· (repeat (first | exact SeA.nil | apply SeA.cons (.c (.d _))))); (· exact l1Split_p _ 64 (by omega)); (· rfl)))) | (refine so_is (.indexAddr 92 _ _) ?_; (refine so_q (qt_idx0 rfl rfl (by kernel_rfl)) rfl ?_)) | (refine so_is (.load 9 _) ?_; (refine so_q (qt_load_pt rfl (by kernel_rfl) rfl) rfl ?_)) | (refine so_is (.call ⟨.builtin .len, _, #[9]⟩) ?_; (refine so_q (qt_lenT rfl (by kernel_rfl)) rfl ?_)) | (refine so_is (.binOp .lss 3 _ _ _) ?_; refine so_q (qt_lss rfl rfl) rfl ?_) | (refine so_is (.slice 9 _ none (some _) none) ?_; (refine so_q (qt_sliceT01 rfl rfl (by kernel_rfl) (by (omega)) (by (omega))) rfl ?_)) | (refine so_is (.binOp .neq 9 _ _ _) ?_; (refine so_q (qt_neqT rfl rfl) rfl ?_)) | (refine so_is (.pick _ _ _) ?_; (refine so_q (qt_pkC rfl rfl) rfl ?_)) | (refine so_is (.build 27 _) ?_; refine so_q (qt_build (cs := [_, _]) [(0, 1), (1, 1)] [.string ByteArray.empty, .string ByteArray.empty] (by kernel_rfl) (by kernel_rfl) rfl) rfl ?_) | (refine so_is (.store 27 _ _) ?_; (refine so_store_box rfl rfl rfl (by kernel_rfl) rfl rfl ?_)) | (refine so_is (.slice 9 _ (some _) none none) ?_; (refine so_q (qt_sliceT10 rfl rfl (by kernel_rfl) (by (omega)) (by (omega))) rfl ?_)) | (refine so_is (.binOp .eql 3 _ _ _) ?_; refine so_q (qt_eql rfl rfl) rfl ?_) | (refine so_is (.binOp .add 3 _ _ _) ?_; refine so_q (qt_addI rfl rfl (by (omega))) rfl ?_) | (refine so_is (.load 27 _) ?_; (refine so_q (qt_load_boxs rfl rfl (by kernel_rfl : tAgg _ 27 2 = true) rfl) rfl ?_)) | (refine so_is (.binOp .eql 9 _ _ _) ?_; (refine so_q (qt_eqlT rfl rfl) rfl ?_)) | (refine so_is (.call ⟨.value (.func 69), _, _⟩) ?_; (apply so_call0 (fid := 69); (· (repeat (first | exact SeA.nil | apply SeA.cons (.c (.d _))))); (· exact l1Num_p _ (by omega)); (· rfl))) | (refine so_is (.call ⟨.value (.func 46), _, _⟩) ?_; (apply so_call0 (fid := 46); (· (repeat (first | exact SeA.nil | (apply SeA.cons; (· (apply SeP.g; (repeat (first | exact SeL.nil | apply SeL.cons (.d _))))))))); (· exact l12Record_p _ _); (· rfl))) | (refine so_is (.call ⟨.value (.func 47), _, _⟩) ?_; (apply so_call0 (fid := 47); (· (repeat (first | exact SeA.nil | apply SeA.cons (.c (.d _)) | (apply SeA.cons; (· (apply SeP.g; (repeat (first | exact SeL.nil | apply SeL.cons (.d _))))))))); (· exact l12Line_p _ _ _ hk (by omega) (by omega)); (· rfl))) | refine so_nil ?_ | refine so_g_no rfl rfl rfl rfl ?_ | refine so_g_yes rfl rfl rfl rfl ?_ | refine so_g_if rfl rfl (fun hg => ?_) (fun hg => ?_) | refine so_g_b rfl rfl (fun hg => ?_) (fun hg => ?_) | refine sk_seq ?_ | refine sk_skip ?_ | refine sk_region ?_ | refine sk_drawQ 10 (fun i => i == 11) (.step 0 true (.step 1 true (.step 2 false (.step 3 true (.step 4 true (.step 5 true (.step 7 true (.step 8 true (.step 6 false (.step 9 true (.step 10 true (.step 11 false (.step 12 true .nil))))))))))))) [(0, 8191, 8191, false), (0, 8191, 8191, false), (2, 8189, 8191, false), (4, 8187, 8191, true), (8, 8183, 8191, true), (8, 8183, 8191, false), (56, 8135, 8191, false), (8, 8183, 6143, true), (136, 8055, 6143, true), (328, 7863, 6143, true), (520, 7671, 6143, true), (65, 8190, 8191, false), (4095, 7167, 6143, true)] (by kernel_rfl) (by kernel_rfl) ?_ | refine sk_true rfl ?_ | refine sk_if rfl (fun hc => ?_) (fun hc => ?_))
  all_goals first | (exfalso; omega) | (exfalso; exact absurd (by assumption) h.2) | skip
  all_goals (apply sk_ret; apply ret_eq; (· apply RetOK.t; (· (apply GvA.cons; (· (apply RV.cellN (n := 2); (· rfl); (· rfl); (· kernel_rfl); (· rfl))); (· (apply GvP.g; (· (apply GvL.cons (.lit _)); (apply GvL.cons (.lit _)); exact GvL.nil)))); (apply GvA.cons; (· exact .tmp _); (· exact GvP.c (.lit _))); exact GvA.nil); (· rfl); (· (decide))))
  all_goals simp_all

end Go.Proofs.YtdnkmgbbkggmdaaDoor

namespace Go.Proofs.YtdnkmgbbkggmdaaDoor
open Go.RowKit
set_option linter.unusedSectionVars false
variable [Glb]
set_option maxRecDepth 10000
set_option maxHeartbeats 4000000
theorem l12Decode_c (k : Nat) (l : Tx) (hk : k < 60) (hl : l.length ≤ 1000000) : ∃ c r b, (b = true → decT k l = some (c, r)) ∧ (b = false → decT k l = none) ∧ PC Tryd.prog 74 [.c (dT l), .c (dI k)] (.t [.g [dT c, dT r], .c (dB b)]) := by
  by_cases h : (bef 35 l).length < (ahdT k).length ∨ (bef 35 l).take (ahdT k).length ≠ ahdT k
  · exact ⟨_, _, _, fun h => (by cases h), fun _ => decS1 h, dec_1 k l hk hl h⟩
  · by_cases h2 : (bef 64 (rstT k l)).length = (rstT k l).length
    · exact ⟨_, _, _, fun h => (by cases h), fun _ => decS2 h2, dec_2 k l hk hl h h2⟩
    · refine ⟨_, _, _, fun h3 => ?_, fun h3 => ?_, dec_3 k l hk hl h h2⟩
      · simp only [Bool.and_eq_true, decide_eq_true_eq] at h3; exact decS3.1 h3
      · refine decS3.2 fun h4 => ?_
        have : (recB (bef 64 (rstT k l)) (restS k l) && decide (lineT k (bef 64 (rstT k l)) (restS k l) = l)) = true := by simp only [Bool.and_eq_true, decide_eq_true_eq]; exact h4
        rw [this] at h3; cases h3
theorem l12Open_p (s : Tx) (hs : s.length ≤ 1000000) : PC Tryd.prog 51 [.c (dT s)] (.t [.c (eR (recsT s)), .c (dI (endT s))]) := by
  refine pc_intro Tryd.func51 rfl rfl rfl (by kernel_rfl) rfl rfl ?_; intro _
  repeat' (first | (refine so_is (.assign _) ?_; (refine so_q (qt_asC rfl) rfl ?_)) | (refine so_is (.buildSlice 48 0 _) ?_; (apply so_bslice (sz := 2) (by_ := 32); (· kernel_rfl); (· decide); (· (repeat (exact GvS.nil _))); (· (decide)); (· rfl); (· rfl); (· rfl))) | refine so_nil ?_ | refine sk_seq ?_ | refine sk_block ?_ | refine sk_region ?_)
  apply sk_packC [0, 4, 5] [7, 9, 22, 41, 42] rfl; (· (repeat (first | exact Pf.nil | apply Pf.cons (.c rfl (.d rfl)) | apply Pf.cons (.c rfl (.ls rfl))))); (· (repeat (first | exact Pb.nil | apply Pb.cons (.row rfl) | apply Pb.skip)))
  refine sk_loopL [0] [22, 7, 41, 42] (fun j => [(4, .c (.ls 9 2 0 j)), (5, iN (endsT s j))]) (fun j => [(9, .row 2 (recD ((recsT s).take j)))]) (fun j => j ≤ numR s) (fun j => 60 - j) (0) ?_ (by (repeat (first | exact trivial | refine ⟨(by (rfl)), ?_⟩))) (by (repeat (first | exact trivial | refine ⟨(by ((refine row_eq rfl ?_; simp  [ends_zero, recD]; done))), ?_⟩))) ?_
  · omega
  intro j hj
  have h60 := log_len s
  have hle := ends_le s j
  have hlr : ((recsT s).take j).length = j := by rw [List.length_take, recs_len]; omega
  have hrl : (recD ((recsT s).take j)).length = j * 2 := by rw [recD_len, hlr]
  have hrest : partZ s (endsT s j) s.length = s.drop (endsT s j) := part_from s _ hle
  have hfin : numR s = j → (recsT s).take j = recsT s ∧ endT s = endsT s j := fun e => ⟨by rw [List.take_of_length_le (by rw [recs_len]; omega)], by unfold endT; rw [e]⟩
  have hpl := partZ_le s (endsT s j) s.length
  have hbl := bef_len 10 (partZ s (endsT s j) s.length)
  by_cases h : endsT s j < s.length ∧ j < 60
  · obtain ⟨c, r, b, hb1, hb2, hpc⟩ := l12Decode_c j (bef 10 (partZ s (endsT s j) s.length)) h.2 (by omega)
    have hsl := splitT_len 10 (partZ s (endsT s j) s.length)
    by_cases hm : 10 ∈ partZ s (endsT s j) s.length
    · cases hb : b with
      | true =>
        subst hb
        have hst : stepT j (s.drop (endsT s j)) = some ((c, r), (bef 10 (s.drop (endsT s j))).length + 1) := step_some (by rw [← hrest]; exact hm) (by rw [← hrest]; exact hb1 rfl)
        obtain ⟨g1, g2, g3⟩ := log_go hj h.2 hst
        rw [← hrest] at g3
        rw [show ((splitT 10 (partZ s (endsT s j) s.length)).length < 2 ↔ 10 ∉ (partZ s (endsT s j) s.length)) ↔ True by simp [hsl]] at hsl
        have hsl2 : ¬ (splitT 10 (partZ s (endsT s j) s.length)).length < 2 := fun h => absurd hm ((splitT_len 10 _).1 h)
        clear hfin hrest hst hb1 hb2
        repeat' (first | (refine so_is (.assign _) ?_; (refine so_q (qt_asC rfl) rfl ?_)) | (refine so_is (.move _) ?_; (first | refine so_q (qt_mvC rfl) rfl ?_ | refine so_q (qt_mvT rfl) rfl ?_)) | (refine so_is (.call ⟨.builtin .len, _, #[9]⟩) ?_; (refine so_q (qt_lenT rfl (by kernel_rfl)) rfl ?_)) | (refine so_is (.binOp .lss 3 _ _ _) ?_; refine so_q (qt_lss rfl rfl) rfl ?_) | (refine so_is (.call ⟨.builtin .len, _, #[48]⟩) ?_; (refine so_q (qt_len_ls rfl (by kernel_rfl)) rfl ?_)) | (refine so_is (.pick _ _ _) ?_; (refine so_q (qt_pkC rfl rfl) rfl ?_)) | (refine so_is (.slice 9 _ (some _) none none) ?_; (refine so_q (qt_sliceT10 rfl rfl (by kernel_rfl) (by (omega)) (by (omega))) rfl ?_)) | (refine so_is (.indexAddr 92 _ _) ?_; (refine so_q (qt_idx0 rfl rfl (by kernel_rfl)) rfl ?_)) | (refine so_is (.load 9 _) ?_; (refine so_q (qt_load_pt rfl (by kernel_rfl) rfl) rfl ?_)) | (refine so_is (.extract _ _) ?_; refine so_q (qt_extract rfl rfl) rfl ?_) | (refine so_is (.alloc 27) ?_; refine so_alloc (zs := [.string ByteArray.empty, .string ByteArray.empty]) (by kernel_rfl) rfl ?_) | (refine so_is (.store 27 _ _) ?_; (refine so_store_box rfl rfl rfl (by kernel_rfl) rfl rfl ?_)) | (refine so_is (.call ⟨.builtin .len, _, #[92]⟩) ?_; (refine so_q (qt_len_d rfl (by kernel_rfl)) rfl ?_)) | (refine so_is (.unOp .not 4 _) ?_; refine so_q (qt_not rfl) rfl ?_) | (refine so_is (.load 27 _) ?_; (refine so_q (qt_load_boxs rfl rfl (by kernel_rfl : tAgg _ 27 2 = true) rfl) rfl ?_)) | (refine so_is (.buildSlice 48 1 _) ?_; (apply so_bslice (sz := 2) (by_ := 32); (· kernel_rfl); (· decide); (· (repeat (first | exact GvS.nil _ | (apply GvS.g rfl; (· (repeat (first | exact GvL.nil | apply GvL.cons (.lit _)))); (· rfl))))); (· (decide)); (· rfl); (· rfl); (· rfl))) | (refine so_is (.call ⟨.builtin .append, _, #[48, 48]⟩) ?_; ((apply so_appR (sz := 2) (by_ := 32); (· rfl); (· rfl); (· (assumption)); (· exact .row _ _ _ _ rfl (by ((simp; done)))); (· (decide)); (· kernel_rfl); (· decide); (· (omega)); (· (omega)); (· rfl); (· rfl); (· rfl)))) | (refine so_is (.binOp .add 3 _ _ _) ?_; refine so_q (qt_addI rfl rfl (by (omega))) rfl ?_) | (refine so_is (.call ⟨.value (.func 73), _, _⟩) ?_; ((apply so_call0 (fid := 73); (· (repeat (first | exact SeA.nil | apply SeA.cons (.c (.d _))))); (· exact l1Split_p _ 10 (by omega)); (· rfl)))) | (refine so_is (.call ⟨.value (.func 74), _, _⟩) ?_; (apply so_call0 (fid := 74); (· (repeat (first | exact SeA.nil | apply SeA.cons (.c (.d _))))); (· exact hpc); (· rfl))) | refine so_nil ?_ | refine so_g_no rfl rfl rfl rfl ?_ | refine so_g_yes rfl rfl rfl rfl ?_ | refine so_g_if rfl rfl (fun hg => ?_) (fun hg => ?_) | refine sk_seq ?_ | refine sk_block ?_ | refine sk_blk ?_ | refine sk_exit rfl ?_ | refine sk_skip ?_ | refine sk_region ?_ | refine sk_true rfl ?_ | refine sk_false rfl ?_ | refine sk_if rfl (fun hc => ?_) (fun hc => ?_))
        all_goals first | (exfalso; omega) | (exfalso; simp_all; done) | skip
        refine sk_back ?_; refine ⟨j + 1, ?_, ?_, le_at rfl (by (repeat (first | exact trivial | refine ⟨(by (first | rfl | (refine int_eq rfl ?_; (omega)))), ?_⟩))) (by (repeat (first | exact trivial | refine ⟨rfl, ?_⟩))) (by (repeat (first | exact trivial | refine ⟨(by ((refine row_eq rfl ?_; simp  [recs_snoc g2, g3, Nat.add_assoc]; done))), ?_⟩))) (by (repeat (first | exact trivial | refine ⟨.inr rfl, ?_⟩ | refine ⟨.inl rfl, ?_⟩)))⟩
        · omega
        · omega
      | false =>
        subst hb
        have hst := log_stop hj (step_none (by rw [← hrest]; exact hb2 rfl))
        obtain ⟨f1, f2⟩ := hfin hst; have f3 : (recsT s).length = j := (recs_len s).trans hst
        clear hfin hrest hb1 hb2
        repeat' (first | (refine so_is (.assign _) ?_; (refine so_q (qt_asC rfl) rfl ?_)) | (refine so_is (.move _) ?_; (first | refine so_q (qt_mvC rfl) rfl ?_ | refine so_q (qt_mvT rfl) rfl ?_)) | (refine so_is (.call ⟨.builtin .len, _, #[9]⟩) ?_; (refine so_q (qt_lenT rfl (by kernel_rfl)) rfl ?_)) | (refine so_is (.binOp .lss 3 _ _ _) ?_; refine so_q (qt_lss rfl rfl) rfl ?_) | (refine so_is (.call ⟨.builtin .len, _, #[48]⟩) ?_; (refine so_q (qt_len_ls rfl (by kernel_rfl)) rfl ?_)) | (refine so_is (.pick _ _ _) ?_; (refine so_q (qt_pkC rfl rfl) rfl ?_)) | (refine so_is (.slice 9 _ (some _) none none) ?_; (refine so_q (qt_sliceT10 rfl rfl (by kernel_rfl) (by (omega)) (by (omega))) rfl ?_)) | (refine so_is (.indexAddr 92 _ _) ?_; (refine so_q (qt_idx0 rfl rfl (by kernel_rfl)) rfl ?_)) | (refine so_is (.load 9 _) ?_; (refine so_q (qt_load_pt rfl (by kernel_rfl) rfl) rfl ?_)) | (refine so_is (.extract _ _) ?_; refine so_q (qt_extract rfl rfl) rfl ?_) | (refine so_is (.alloc 27) ?_; refine so_alloc (zs := [.string ByteArray.empty, .string ByteArray.empty]) (by kernel_rfl) rfl ?_) | (refine so_is (.store 27 _ _) ?_; (refine so_store_box rfl rfl rfl (by kernel_rfl) rfl rfl ?_)) | (refine so_is (.call ⟨.builtin .len, _, #[92]⟩) ?_; (refine so_q (qt_len_d rfl (by kernel_rfl)) rfl ?_)) | (refine so_is (.unOp .not 4 _) ?_; refine so_q (qt_not rfl) rfl ?_) | (refine so_is (.call ⟨.value (.func 73), _, _⟩) ?_; ((apply so_call0 (fid := 73); (· (repeat (first | exact SeA.nil | apply SeA.cons (.c (.d _))))); (· exact l1Split_p _ 10 (by omega)); (· rfl)))) | (refine so_is (.call ⟨.value (.func 74), _, _⟩) ?_; (apply so_call0 (fid := 74); (· (repeat (first | exact SeA.nil | apply SeA.cons (.c (.d _))))); (· exact hpc); (· rfl))) | refine so_nil ?_ | refine so_g_no rfl rfl rfl rfl ?_ | refine so_g_yes rfl rfl rfl rfl ?_ | refine so_g_if rfl rfl (fun hg => ?_) (fun hg => ?_) | refine sk_seq ?_ | refine sk_block ?_ | refine sk_exit rfl ?_ | refine sk_skip ?_ | refine sk_region ?_ | refine sk_true rfl ?_ | refine sk_false rfl ?_ | refine sk_if rfl (fun hc => ?_) (fun hc => ?_))
        all_goals first | (exfalso; omega) | (exfalso; simp_all; done) | skip
        all_goals (apply sk_ret; apply ret_eq; (· apply RetOK.t; (· (apply GvA.cons; (· exact .tmp _); (· (exact GvP.c (.row _ _ _ _ rfl (by (assumption)))))); (apply GvA.cons; (· exact .tmp _); (· exact GvP.c (.lit _))); exact GvA.nil); (· rfl); (· (decide))))
        all_goals simp only [eR, f1, f2, f3]
    · have hst := log_stop hj (step_no (by rw [← hrest]; exact hm))
      obtain ⟨f1, f2⟩ := hfin hst; have f3 : (recsT s).length = j := (recs_len s).trans hst
      have hsl2 : (splitT 10 (partZ s (endsT s j) s.length)).length < 2 := hsl.2 hm
      clear hfin hrest hb1 hb2
      repeat' (first | (refine so_is (.assign _) ?_; (refine so_q (qt_asC rfl) rfl ?_)) | (refine so_is (.move _) ?_; (first | refine so_q (qt_mvC rfl) rfl ?_ | refine so_q (qt_mvT rfl) rfl ?_)) | (refine so_is (.call ⟨.builtin .len, _, #[9]⟩) ?_; (refine so_q (qt_lenT rfl (by kernel_rfl)) rfl ?_)) | (refine so_is (.binOp .lss 3 _ _ _) ?_; refine so_q (qt_lss rfl rfl) rfl ?_) | (refine so_is (.call ⟨.builtin .len, _, #[48]⟩) ?_; (refine so_q (qt_len_ls rfl (by kernel_rfl)) rfl ?_)) | (refine so_is (.pick _ _ _) ?_; (refine so_q (qt_pkC rfl rfl) rfl ?_)) | (refine so_is (.slice 9 _ (some _) none none) ?_; (refine so_q (qt_sliceT10 rfl rfl (by kernel_rfl) (by (omega)) (by (omega))) rfl ?_)) | (refine so_is (.indexAddr 92 _ _) ?_; (refine so_q (qt_idx0 rfl rfl (by kernel_rfl)) rfl ?_)) | (refine so_is (.load 9 _) ?_; (refine so_q (qt_load_pt rfl (by kernel_rfl) rfl) rfl ?_)) | (refine so_is (.extract _ _) ?_; refine so_q (qt_extract rfl rfl) rfl ?_) | (refine so_is (.alloc 27) ?_; refine so_alloc (zs := [.string ByteArray.empty, .string ByteArray.empty]) (by kernel_rfl) rfl ?_) | (refine so_is (.store 27 _ _) ?_; (refine so_store_box rfl rfl rfl (by kernel_rfl) rfl rfl ?_)) | (refine so_is (.call ⟨.builtin .len, _, #[92]⟩) ?_; (refine so_q (qt_len_d rfl (by kernel_rfl)) rfl ?_)) | (refine so_is (.unOp .not 4 _) ?_; refine so_q (qt_not rfl) rfl ?_) | (refine so_is (.load 27 _) ?_; (refine so_q (qt_load_boxs rfl rfl (by kernel_rfl : tAgg _ 27 2 = true) rfl) rfl ?_)) | (refine so_is (.buildSlice 48 1 _) ?_; (apply so_bslice (sz := 2) (by_ := 32); (· kernel_rfl); (· decide); (· (repeat (first | exact GvS.nil _ | (apply GvS.g rfl; (· (repeat (first | exact GvL.nil | apply GvL.cons (.lit _)))); (· rfl))))); (· (decide)); (· rfl); (· rfl); (· rfl))) | (refine so_is (.call ⟨.builtin .append, _, #[48, 48]⟩) ?_; ((apply so_appR (sz := 2) (by_ := 32); (· rfl); (· rfl); (· (assumption)); (· exact .row _ _ _ _ rfl (by ((simp; done)))); (· (decide)); (· kernel_rfl); (· decide); (· (omega)); (· (omega)); (· rfl); (· rfl); (· rfl)))) | (refine so_is (.binOp .add 3 _ _ _) ?_; refine so_q (qt_addI rfl rfl (by (omega))) rfl ?_) | (refine so_is (.call ⟨.value (.func 73), _, _⟩) ?_; ((apply so_call0 (fid := 73); (· (repeat (first | exact SeA.nil | apply SeA.cons (.c (.d _))))); (· exact l1Split_p _ 10 (by omega)); (· rfl)))) | (refine so_is (.call ⟨.value (.func 74), _, _⟩) ?_; (apply so_call0 (fid := 74); (· (repeat (first | exact SeA.nil | apply SeA.cons (.c (.d _))))); (· exact hpc); (· rfl))) | refine so_nil ?_ | refine so_g_no rfl rfl rfl rfl ?_ | refine so_g_yes rfl rfl rfl rfl ?_ | refine so_g_if rfl rfl (fun hg => ?_) (fun hg => ?_) | refine sk_seq ?_ | refine sk_block ?_ | refine sk_blk ?_ | refine sk_exit rfl ?_ | refine sk_skip ?_ | refine sk_region ?_ | refine sk_true rfl ?_ | refine sk_false rfl ?_ | refine sk_if rfl (fun hc => ?_) (fun hc => ?_) | refine sk_not rfl (fun hc => ?_) (fun hc => ?_))
      all_goals first | (exfalso; omega) | (exfalso; simp_all; done) | skip
      all_goals (apply sk_ret; apply ret_eq; (· apply RetOK.t; (· (apply GvA.cons; (· exact .tmp _); (· (exact GvP.c (.row _ _ _ _ rfl (by (assumption)))))); (apply GvA.cons; (· exact .tmp _); (· exact GvP.c (.lit _))); exact GvA.nil); (· rfl); (· (decide))))
      all_goals simp only [eR, f1, f2, f3]
  · have hst : numR s = j := by
      by_cases h2 : j < 60
      · refine log_stop hj (step_no ?_)
        rw [List.drop_eq_nil_of_le (by omega)]; simp
      · omega
    obtain ⟨f1, f2⟩ := hfin hst; have f3 : (recsT s).length = j := (recs_len s).trans hst
    clear hfin hrest
    repeat' (first | (refine so_is (.assign _) ?_; (refine so_q (qt_asC rfl) rfl ?_)) | (refine so_is (.move _) ?_; (refine so_q (qt_mvC rfl) rfl ?_)) | (refine so_is (.call ⟨.builtin .len, _, #[9]⟩) ?_; (refine so_q (qt_lenT rfl (by kernel_rfl)) rfl ?_)) | (refine so_is (.binOp .lss 3 _ _ _) ?_; refine so_q (qt_lss rfl rfl) rfl ?_) | (refine so_is (.call ⟨.builtin .len, _, #[48]⟩) ?_; (refine so_q (qt_len_ls rfl (by kernel_rfl)) rfl ?_)) | (refine so_is (.pick _ _ _) ?_; (refine so_q (qt_pkC rfl rfl) rfl ?_)) | (refine so_is (.slice 9 _ (some _) none none) ?_; (refine so_q (qt_sliceT10 rfl rfl (by kernel_rfl) (by (omega)) (by (omega))) rfl ?_)) | refine so_nil ?_ | refine so_g_no rfl rfl rfl rfl ?_ | refine so_g_yes rfl rfl rfl rfl ?_ | refine so_g_if rfl rfl (fun hg => ?_) (fun hg => ?_) | refine sk_seq ?_ | refine sk_block ?_ | refine sk_exit rfl ?_ | refine sk_skip ?_ | refine sk_region ?_ | refine sk_false rfl ?_ | refine sk_if rfl (fun hc => ?_) (fun hc => ?_))
    all_goals first | (exfalso; omega) | (exfalso; simp_all; done) | skip
    all_goals (apply sk_ret; apply ret_eq; (· apply RetOK.t; (· (apply GvA.cons; (· exact .tmp _); (· (exact GvP.c (.row _ _ _ _ rfl (by (assumption)))))); (apply GvA.cons; (· exact .tmp _); (· exact GvP.c (.lit _))); exact GvA.nil); (· rfl); (· (decide))))
    all_goals simp only [eR, f1, f2, f3]

end Go.Proofs.YtdnkmgbbkggmdaaDoor

namespace Go.Proofs.YtdnkmgbbkggmdaaDoor
open Go.RowKit
set_option linter.unusedSectionVars false
variable [Glb]
set_option maxRecDepth 10000
set_option maxHeartbeats 4000000
theorem l12Valid_p (d p : Tx) (c : Int) (hb : (d.length : Int) + p.length ≤ 1000000000) : PC Tryd.prog 53 [.g [dT d, dT p, dI c]] (.p (.c (dB (validB d p c)))) := by
  refine pc_intro Tryd.func53 rfl rfl rfl (by kernel_rfl) rfl rfl ?_; rintro ⟨hf, -⟩
  have hf0 := FitT (hf (dT d) (by simp))
  have hf1 := FitT (hf (dT p) (by simp))
  clear hf
  by_cases h : (d.length : Int) + p.length ≤ 30000
  · have h1 := recs_len (d ++ p)
    have h2 : ((d ++ p).length : Int) = d.length + p.length := by simp
    repeat' (first | (refine so_is (.box 31 _) ?_; refine so_box rfl rfl ?_) | (refine so_is (.assign _) ?_; (refine so_q (qt_asC rfl) rfl ?_)) | (refine so_is (.fieldAddr 31 _ 0) ?_; (refine so_q (qt_fld_lp (off := 0) rfl (by kernel_rfl)) rfl ?_)) | (refine so_is (.load 9 _) ?_; (refine so_q (qt_load_box rfl rfl (by kernel_rfl) rfl) rfl ?_)) | (refine so_is (.call ⟨.builtin .len, _, #[9]⟩) ?_; (refine so_q (qt_lenT rfl (by kernel_rfl)) rfl ?_)) | (refine so_is (.fieldAddr 31 _ 1) ?_; (refine so_q (qt_fld_lp (off := 1) rfl (by kernel_rfl)) rfl ?_)) | (refine so_is (.binOp .add 3 _ _ _) ?_; refine so_q (qt_addI rfl rfl (by (omega))) rfl ?_) | (refine so_is (.binOp .gtr 3 _ _ _) ?_; refine so_q (qt_gtr rfl rfl) rfl ?_) | (refine so_is (.binOp .add 9 _ _ _) ?_; (refine so_q (qt_addT rfl rfl (by (omega))) rfl ?_)) | (refine so_is (.call ⟨.value (.func 51), _, _⟩) ?_; (first | (apply so_call0 (d := 21) (fid := 51); (· (repeat (first | exact SeA.nil | apply SeA.cons (.c (.d _))))); (· exact l12Open_p _ (by simp; omega)); (· rfl)) | (apply so_call0 (d := 27) (fid := 51); (· (repeat (first | exact SeA.nil | apply SeA.cons (.c (.d _))))); (· exact l12Open_p _ (by omega)); (· rfl)))) | (refine so_is (.move _) ?_; (first | refine so_q (qt_mvC rfl) rfl ?_ | refine so_q (qt_mvT rfl) rfl ?_)) | (refine so_is (.extract _ _) ?_; refine so_q (qt_extract rfl rfl) rfl ?_) | (refine so_is (.binOp .eql 3 _ _ _) ?_; refine so_q (qt_eql rfl rfl) rfl ?_) | (refine so_is (.pick _ _ _) ?_; (refine so_q (qt_pkC rfl rfl) rfl ?_)) | (refine so_is (.call ⟨.builtin .len, _, #[48]⟩) ?_; (refine so_q (qt_len_d rfl (by kernel_rfl)) rfl ?_)) | (refine so_is (.fieldAddr 31 _ 2) ?_; (refine so_q (qt_fld_lp (off := 2) rfl (by kernel_rfl)) rfl ?_)) | (refine so_is (.load 3 _) ?_; (refine so_q (qt_load_box rfl rfl (by kernel_rfl) rfl) rfl ?_)) | refine so_nil ?_ | refine so_g_no rfl rfl rfl rfl ?_ | refine so_g_yes rfl rfl rfl rfl ?_ | refine so_g_if rfl rfl (fun hg => ?_) (fun hg => ?_) | refine sk_seq ?_ | refine sk_skip ?_ | refine sk_region ?_ | refine sk_if rfl (fun hc => ?_) (fun hc => ?_))
    all_goals first | (exfalso; omega) | skip
    all_goals (apply sk_ret; apply ret_eq; (· apply RetOK.p; (· (apply GvA.cons; (· exact .tmp _); (· exact GvP.c (.lit _))); exact GvA.nil); (· (decide))))
    all_goals refine dB_eq (Bool.eq_iff_iff.2 ?_)
    all_goals rw [valid_iff h]
    · rw [decide_eq_true_eq]; omega
    · simp only [Bool.false_eq_true, false_iff]; omega
    · simp only [Bool.false_eq_true, false_iff]; omega
  · repeat' (first | (refine so_is (.box 31 _) ?_; refine so_box rfl rfl ?_) | (refine so_is (.assign _) ?_; (refine so_q (qt_asC rfl) rfl ?_)) | (refine so_is (.fieldAddr 31 _ 0) ?_; (refine so_q (qt_fld_lp (off := 0) rfl (by kernel_rfl)) rfl ?_)) | (refine so_is (.load 9 _) ?_; (refine so_q (qt_load_box rfl rfl (by kernel_rfl) rfl) rfl ?_)) | (refine so_is (.call ⟨.builtin .len, _, #[9]⟩) ?_; (refine so_q (qt_lenT rfl (by kernel_rfl)) rfl ?_)) | (refine so_is (.fieldAddr 31 _ 1) ?_; (refine so_q (qt_fld_lp (off := 1) rfl (by kernel_rfl)) rfl ?_)) | (refine so_is (.binOp .add 3 _ _ _) ?_; refine so_q (qt_addI rfl rfl (by (omega))) rfl ?_) | (refine so_is (.binOp .gtr 3 _ _ _) ?_; refine so_q (qt_gtr rfl rfl) rfl ?_) | (refine so_is (.binOp .add 9 _ _ _) ?_; (refine so_q (qt_addT rfl rfl (by (omega))) rfl ?_)) | (refine so_is (.call ⟨.value (.func 51), _, _⟩) ?_; (first | (apply so_call0 (d := 21) (fid := 51); (· (repeat (first | exact SeA.nil | apply SeA.cons (.c (.d _))))); (· exact l12Open_p _ (by simp; omega)); (· rfl)) | (apply so_call0 (d := 27) (fid := 51); (· (repeat (first | exact SeA.nil | apply SeA.cons (.c (.d _))))); (· exact l12Open_p _ (by omega)); (· rfl)))) | (refine so_is (.move _) ?_; (first | refine so_q (qt_mvC rfl) rfl ?_ | refine so_q (qt_mvT rfl) rfl ?_)) | (refine so_is (.extract _ _) ?_; refine so_q (qt_extract rfl rfl) rfl ?_) | (refine so_is (.binOp .eql 3 _ _ _) ?_; refine so_q (qt_eql rfl rfl) rfl ?_) | (refine so_is (.pick _ _ _) ?_; (refine so_q (qt_pkC rfl rfl) rfl ?_)) | (refine so_is (.call ⟨.builtin .len, _, #[48]⟩) ?_; (refine so_q (qt_len_d rfl (by kernel_rfl)) rfl ?_)) | (refine so_is (.fieldAddr 31 _ 2) ?_; (refine so_q (qt_fld_lp (off := 2) rfl (by kernel_rfl)) rfl ?_)) | (refine so_is (.load 3 _) ?_; (refine so_q (qt_load_box rfl rfl (by kernel_rfl) rfl) rfl ?_)) | refine so_nil ?_ | refine so_g_no rfl rfl rfl rfl ?_ | refine so_g_yes rfl rfl rfl rfl ?_ | refine so_g_if rfl rfl (fun hg => ?_) (fun hg => ?_) | refine sk_seq ?_ | refine sk_skip ?_ | refine sk_region ?_ | refine sk_if rfl (fun hc => ?_) (fun hc => ?_))
    all_goals first | (exfalso; omega) | skip
    all_goals (apply sk_ret; apply ret_eq; (· apply RetOK.p; (· (apply GvA.cons; (· exact .tmp _); (· exact GvP.c (.lit _))); exact GvA.nil); (· (decide))))
    all_goals rw [valid_long h]

end Go.Proofs.YtdnkmgbbkggmdaaDoor

namespace Go.Proofs.YtdnkmgbbkggmdaaDoor
open Go.RowKit
set_option linter.unusedSectionVars false
variable [Glb]
set_option maxRecDepth 10000
set_option maxHeartbeats 4000000
theorem spAppendRecord_no (d p : Tx) (n : Int) (c r : Tx) (hb : (d.length : Int) + p.length ≤ 1000000000) (h : (validB d p n && recB c r) = false) : PC Tryd.prog 27 [.g [dT d, dT p, dI n], .g [dT c, dT r]] (.t [.g [dT d, dT p, dI n], .c (dI 1)]) := by
  refine pc_intro Tryd.func27 rfl rfl rfl (by kernel_rfl) rfl rfl ?_; intro _
  repeat' (first | (refine so_is (.box 31 _) ?_; refine so_box rfl rfl ?_) | (refine so_is (.box 27 _) ?_; refine so_box rfl rfl ?_) | (refine so_is (.alloc 31) ?_; refine so_alloc (zs := [.string ByteArray.empty, .string ByteArray.empty, .int .i64 0]) (by kernel_rfl) rfl ?_) | (refine so_is (.assign _) ?_; (refine so_q (qt_asC rfl) rfl ?_)) | (refine so_is (.load 31 _) ?_; (refine so_q (qt_load_boxs rfl rfl (by kernel_rfl : tAgg _ 31 3 = true) rfl) rfl ?_)) | (refine so_is (.unOp .not 4 _) ?_; refine so_q (qt_not rfl) rfl ?_) | (refine so_is (.move _) ?_; (refine so_q (qt_mvC rfl) rfl ?_)) | (refine so_is (.load 27 _) ?_; (refine so_q (qt_load_boxs rfl rfl (by kernel_rfl : tAgg _ 27 2 = true) rfl) rfl ?_)) | (refine so_is (.pick _ _ _) ?_; (refine so_q (qt_pkC rfl rfl) rfl ?_)) | (refine so_is (.store 31 _ _) ?_; (refine so_store_box rfl rfl rfl (by kernel_rfl) rfl rfl ?_)) | (refine so_is (.fieldAddr 31 _ 2) ?_; (refine so_q (qt_fld_lp (off := 2) rfl (by kernel_rfl)) rfl ?_)) | (refine so_is (.load 3 _) ?_; (refine so_q (qt_load_box rfl rfl (by kernel_rfl) rfl) rfl ?_)) | (refine so_is (.binOp .eql 3 _ _ _) ?_; refine so_q (qt_eql rfl rfl) rfl ?_) | (refine so_is (.fieldAddr 31 _ 1) ?_; (refine so_q (qt_fld_lp (off := 1) rfl (by kernel_rfl)) rfl ?_)) | (refine so_is (.load 9 _) ?_; (refine so_q (qt_load_box rfl rfl (by kernel_rfl) rfl) rfl ?_)) | (refine so_is (.call ⟨.value (.func 53), _, _⟩) ?_; (apply so_call0 (fid := 53); (· (repeat (first | exact SeA.nil | (apply SeA.cons; (· (apply SeP.g; (repeat (first | exact SeL.nil | apply SeL.cons (.d _))))))))); (· exact l12Valid_p _ _ _ (by omega)); (· rfl))) | (refine so_is (.call ⟨.value (.func 46), _, _⟩) ?_; (apply so_call0 (fid := 46); (· (repeat (first | exact SeA.nil | (apply SeA.cons; (· (apply SeP.g; (repeat (first | exact SeL.nil | apply SeL.cons (.d _))))))))); (· exact l12Record_p _ _); (· rfl))) | refine so_nil ?_ | refine so_g_no rfl rfl rfl rfl ?_ | refine so_g_yes rfl rfl rfl rfl ?_ | refine so_g_b rfl rfl (fun hg => ?_) (fun hg => ?_) | refine sk_seq ?_ | refine sk_skip ?_ | refine sk_region ?_ | refine sk_drawQ 5 (fun i => i == 8) (.step 0 true (.step 1 true (.step 2 true (.step 3 true (.step 4 true (.step 5 false (.step 6 true (.step 7 true (.step 8 false .nil))))))))) [(0, 511, 511, true), (1, 510, 511, false), (0, 511, 511, true), (4, 507, 511, false), (0, 511, 511, false), (24, 487, 511, false), (34, 477, 511, true), (127, 511, 511, true), (255, 319, 511, false)] (by kernel_rfl) (by kernel_rfl) ?_ | refine sk_true rfl ?_ | refine sk_if rfl (fun hc => ?_) (fun hc => ?_) | refine sk_not rfl (fun hc => ?_) (fun hc => ?_))
  all_goals first | (exfalso; simp_all; done) | skip
  all_goals (apply sk_ret; apply ret_eq; (· apply RetOK.t; (· (apply GvA.cons; (· (apply RV.cellN (n := 3); (· rfl); (· rfl); (· kernel_rfl); (· rfl))); (· (apply GvP.g; (· (apply GvL.cons (.lit _)); (apply GvL.cons (.lit _)); (apply GvL.cons (.lit _)); exact GvL.nil)))); (apply GvA.cons; (· exact .tmp _); (· exact GvP.c (.lit _))); exact GvA.nil); (· rfl); (· (decide))))
  all_goals rfl
theorem spAppendRecord_full (d p : Tx) (n : Int) (c r : Tx) (hb : (d.length : Int) + p.length ≤ 1000000000) (h : validB d p n = true) (h2 : recB c r = true) (h3 : 60 ≤ n) : PC Tryd.prog 27 [.g [dT d, dT p, dI n], .g [dT c, dT r]] (.t [.g [dT d, dT p, dI n], .c (dI 2)]) := by
  have h5 := (validB_p h).cnt
  have h4 := log_len (d ++ p)
  have h6 : inB n 0 59 = false := by rw [inB_iffF]; omega
  refine pc_intro Tryd.func27 rfl rfl rfl (by kernel_rfl) rfl rfl ?_; intro _
  repeat' (first | (refine so_is (.box 31 _) ?_; refine so_box rfl rfl ?_) | (refine so_is (.box 27 _) ?_; refine so_box rfl rfl ?_) | (refine so_is (.alloc 31) ?_; refine so_alloc (zs := [.string ByteArray.empty, .string ByteArray.empty, .int .i64 0]) (by kernel_rfl) rfl ?_) | (refine so_is (.assign _) ?_; (refine so_q (qt_asC rfl) rfl ?_)) | (refine so_is (.load 31 _) ?_; (refine so_q (qt_load_boxs rfl rfl (by kernel_rfl : tAgg _ 31 3 = true) rfl) rfl ?_)) | (refine so_is (.unOp .not 4 _) ?_; refine so_q (qt_not rfl) rfl ?_) | (refine so_is (.move _) ?_; (refine so_q (qt_mvC rfl) rfl ?_)) | (refine so_is (.load 27 _) ?_; (refine so_q (qt_load_boxs rfl rfl (by kernel_rfl : tAgg _ 27 2 = true) rfl) rfl ?_)) | (refine so_is (.pick _ _ _) ?_; (refine so_q (qt_pkC rfl rfl) rfl ?_)) | (refine so_is (.store 31 _ _) ?_; (refine so_store_box rfl rfl rfl (by kernel_rfl) rfl rfl ?_)) | (refine so_is (.fieldAddr 31 _ 2) ?_; (refine so_q (qt_fld_lp (off := 2) rfl (by kernel_rfl)) rfl ?_)) | (refine so_is (.load 3 _) ?_; (refine so_q (qt_load_box rfl rfl (by kernel_rfl) rfl) rfl ?_)) | (refine so_is (.binOp .eql 3 _ _ _) ?_; refine so_q (qt_eql rfl rfl) rfl ?_) | (refine so_is (.fieldAddr 31 _ 1) ?_; (refine so_q (qt_fld_lp (off := 1) rfl (by kernel_rfl)) rfl ?_)) | (refine so_is (.load 9 _) ?_; (refine so_q (qt_load_box rfl rfl (by kernel_rfl) rfl) rfl ?_)) | (refine so_is (.call ⟨.value (.func 53), _, _⟩) ?_; (apply so_call0 (fid := 53); (· (repeat (first | exact SeA.nil | (apply SeA.cons; (· (apply SeP.g; (repeat (first | exact SeL.nil | apply SeL.cons (.d _))))))))); (· exact l12Valid_p _ _ _ (by omega)); (· rfl))) | (refine so_is (.call ⟨.value (.func 46), _, _⟩) ?_; (apply so_call0 (fid := 46); (· (repeat (first | exact SeA.nil | (apply SeA.cons; (· (apply SeP.g; (repeat (first | exact SeL.nil | apply SeL.cons (.d _))))))))); (· exact l12Record_p _ _); (· rfl))) | refine so_nil ?_ | refine so_g_no rfl rfl rfl rfl ?_ | refine so_g_yes rfl rfl rfl rfl ?_ | refine so_g_b rfl rfl (fun hg => ?_) (fun hg => ?_) | refine sk_seq ?_ | refine sk_skip ?_ | refine sk_region ?_ | refine sk_drawQ 5 (fun i => i == 8) (.step 0 true (.step 1 true (.step 2 true (.step 3 true (.step 4 true (.step 5 false (.step 6 true (.step 7 true (.step 8 false .nil))))))))) [(0, 511, 511, true), (1, 510, 511, false), (0, 511, 511, true), (4, 507, 511, false), (0, 511, 511, false), (24, 487, 511, false), (34, 477, 511, true), (127, 511, 511, true), (255, 319, 511, false)] (by kernel_rfl) (by kernel_rfl) ?_ | refine sk_true rfl ?_ | refine sk_if rfl (fun hc => ?_) (fun hc => ?_) | refine sk_not rfl (fun hc => ?_) (fun hc => ?_))
  all_goals first | (exfalso; simp_all; done) | (exfalso; omega) | skip
  all_goals (apply sk_ret; apply ret_eq; (· apply RetOK.t; (· (apply GvA.cons; (· (apply RV.cellN (n := 3); (· rfl); (· rfl); (· kernel_rfl); (· rfl))); (· (apply GvP.g; (· (apply GvL.cons (.lit _)); (apply GvL.cons (.lit _)); (apply GvL.cons (.lit _)); exact GvL.nil)))); (apply GvA.cons; (· exact .tmp _); (· exact GvP.c (.lit _))); exact GvA.nil); (· rfl); (· (decide))))
  all_goals rfl
theorem spAppendRecord_p (d p : Tx) (k : Nat) (c r : Tx) (hb : (d.length : Int) + p.length ≤ 1000000000) (h : validB d p k = true) (h2 : recB c r = true) (h3 : k < 60) : PC Tryd.prog 27 [.g [dT d, dT p, dI k], .g [dT c, dT r]] (.t [.g [dT d, dT (p ++ (lineT k c r ++ [10])), dI (k + 1)], .c (dI 0)]) := by
  have h4 := (validB_p h).len
  have h5 := text_len h3 (recB_p h2)
  have h6 := seal_len (textT k c r)
  have h7 : (lineT k c r).length ≤ 500 := by unfold lineT; omega
  have h8 := (recB_p h2).cl
  have h9 := (recB_p h2).rl
  clear h5 h6
  refine pc_intro Tryd.func27 rfl rfl rfl (by kernel_rfl) rfl rfl ?_; intro _
  repeat' (first | (refine so_is (.box 31 _) ?_; refine so_box rfl rfl ?_) | (refine so_is (.box 27 _) ?_; refine so_box rfl rfl ?_) | (refine so_is (.alloc 31) ?_; refine so_alloc (zs := [.string ByteArray.empty, .string ByteArray.empty, .int .i64 0]) (by kernel_rfl) rfl ?_) | (refine so_is (.assign _) ?_; (refine so_q (qt_asC rfl) rfl ?_)) | (refine so_is (.load 31 _) ?_; (refine so_q (qt_load_boxs rfl rfl (by kernel_rfl : tAgg _ 31 3 = true) rfl) rfl ?_)) | (refine so_is (.unOp .not 4 _) ?_; refine so_q (qt_not rfl) rfl ?_) | (refine so_is (.move _) ?_; (refine so_q (qt_mvC rfl) rfl ?_)) | (refine so_is (.load 27 _) ?_; (refine so_q (qt_load_boxs rfl rfl (by kernel_rfl : tAgg _ 27 2 = true) rfl) rfl ?_)) | (refine so_is (.pick _ _ _) ?_; (refine so_q (qt_pkC rfl rfl) rfl ?_)) | (refine so_is (.store 31 _ _) ?_; (refine so_store_box rfl rfl rfl (by kernel_rfl) rfl rfl ?_)) | (refine so_is (.fieldAddr 31 _ 2) ?_; (refine so_q (qt_fld_lp (off := 2) rfl (by kernel_rfl)) rfl ?_)) | (refine so_is (.load 3 _) ?_; (refine so_q (qt_load_box rfl rfl (by kernel_rfl) rfl) rfl ?_)) | (refine so_is (.binOp .eql 3 _ _ _) ?_; refine so_q (qt_eql rfl rfl) rfl ?_) | (refine so_is (.fieldAddr 31 _ 1) ?_; (refine so_q (qt_fld_lp (off := 1) rfl (by kernel_rfl)) rfl ?_)) | (refine so_is (.load 9 _) ?_; (refine so_q (qt_load_box rfl rfl (by kernel_rfl) rfl) rfl ?_)) | (refine so_is (.binOp .add 9 _ _ _) ?_; (refine so_q (qt_addT rfl rfl (by ((simp at *; omega)))) rfl ?_)) | (refine so_is (.store 9 _ _) ?_; (refine so_store_box1 rfl rfl rfl rfl (by kernel_rfl) rfl rfl ?_)) | (refine so_is (.binOp .add 3 _ _ _) ?_; refine so_q (qt_addI rfl rfl (by (omega))) rfl ?_) | (refine so_is (.store 3 _ _) ?_; (refine so_store_box1 rfl rfl rfl rfl (by kernel_rfl) rfl rfl ?_)) | (refine so_is (.call ⟨.value (.func 53), _, _⟩) ?_; (apply so_call0 (fid := 53); (· (repeat (first | exact SeA.nil | (apply SeA.cons; (· (apply SeP.g; (repeat (first | exact SeL.nil | apply SeL.cons (.d _))))))))); (· exact l12Valid_p _ _ _ (by omega)); (· rfl))) | (refine so_is (.call ⟨.value (.func 46), _, _⟩) ?_; (apply so_call0 (fid := 46); (· (repeat (first | exact SeA.nil | (apply SeA.cons; (· (apply SeP.g; (repeat (first | exact SeL.nil | apply SeL.cons (.d _))))))))); (· exact l12Record_p _ _); (· rfl))) | (refine so_is (.call ⟨.value (.func 47), _, _⟩) ?_; (apply so_call0 (fid := 47); (· (repeat (first | exact SeA.nil | apply SeA.cons (.c (.d _)) | (apply SeA.cons; (· (apply SeP.g; (repeat (first | exact SeL.nil | apply SeL.cons (.d _))))))))); (· exact l12Line_p _ _ _ h3 (by omega) (by omega)); (· rfl))) | refine so_nil ?_ | refine so_g_no rfl rfl rfl rfl ?_ | refine so_g_yes rfl rfl rfl rfl ?_ | refine so_g_b rfl rfl (fun hg => ?_) (fun hg => ?_) | refine sk_seq ?_ | refine sk_skip ?_ | refine sk_region ?_ | refine sk_drawQ 5 (fun i => i == 8) (.step 0 true (.step 1 true (.step 2 true (.step 3 true (.step 4 true (.step 5 false (.step 6 true (.step 7 true (.step 8 false .nil))))))))) [(0, 511, 511, true), (1, 510, 511, false), (0, 511, 511, true), (4, 507, 511, false), (0, 511, 511, false), (24, 487, 511, false), (34, 477, 511, true), (127, 511, 511, true), (255, 319, 511, false)] (by kernel_rfl) (by kernel_rfl) ?_ | refine sk_true rfl ?_ | refine sk_if rfl (fun hc => ?_) (fun hc => ?_) | refine sk_not rfl (fun hc => ?_) (fun hc => ?_))
  all_goals first | (exfalso; simp_all; done) | (exfalso; omega) | skip
  all_goals (apply sk_ret; apply ret_eq; (· apply RetOK.t; (· (apply GvA.cons; (· (apply RV.cellN (n := 3); (· rfl); (· rfl); (· kernel_rfl); (· rfl))); (· (apply GvP.g; (· (apply GvL.cons (.lit _)); (apply GvL.cons (.lit _)); (apply GvL.cons (.lit _)); exact GvL.nil)))); (apply GvA.cons; (· exact .tmp _); (· exact GvP.c (.lit _))); exact GvA.nil); (· rfl); (· (decide))))
  all_goals rfl

end Go.Proofs.YtdnkmgbbkggmdaaDoor

namespace Go.Proofs.YtdnkmgbbkggmdaaDoor
open Go.RowKit
set_option linter.unusedSectionVars false
variable [Glb]
set_option maxRecDepth 10000
set_option maxHeartbeats 4000000
theorem spSyncLog_p (d p : Tx) (c : Int) (hb : (d.length : Int) + p.length ≤ 1000000000) : PC Tryd.prog 25 [.g [dT d, dT p, dI c]] (.t [.g [dT (if validB d p c then d ++ p else []), dT [], dI (if validB d p c then c else 0)], .c (dB (validB d p c))]) := by
  cases hv : validB d p c
  all_goals
    refine pc_intro Tryd.func25 rfl rfl rfl (by kernel_rfl) rfl rfl ?_; intro _
    repeat' (first | (refine so_is (.box 31 _) ?_; refine so_box rfl rfl ?_) | (refine so_is (.alloc 31) ?_; refine so_alloc (zs := [.string ByteArray.empty, .string ByteArray.empty, .int .i64 0]) (by kernel_rfl) rfl ?_) | (refine so_is (.assign _) ?_; (refine so_q (qt_asC rfl) rfl ?_)) | (refine so_is (.load 31 _) ?_; (refine so_q (qt_load_boxs rfl rfl (by kernel_rfl : tAgg _ 31 3 = true) rfl) rfl ?_)) | (refine so_is (.unOp .not 4 _) ?_; refine so_q (qt_not rfl) rfl ?_) | (refine so_is (.build 31 _) ?_; refine so_q (qt_build (cs := [_, _, _]) [(0, 1), (1, 1), (2, 1)] [.string ByteArray.empty, .string ByteArray.empty, .int .i64 0] (by kernel_rfl) (by kernel_rfl) rfl) rfl ?_) | (refine so_is (.store 31 _ _) ?_; (refine so_store_box rfl rfl rfl (by kernel_rfl) rfl rfl ?_)) | (refine so_is (.fieldAddr 31 _ 0) ?_; (refine so_q (qt_fld_lp (off := 0) rfl (by kernel_rfl)) rfl ?_)) | (refine so_is (.load 9 _) ?_; (refine so_q (qt_load_box rfl rfl (by kernel_rfl) rfl) rfl ?_)) | (refine so_is (.fieldAddr 31 _ 1) ?_; (refine so_q (qt_fld_lp (off := 1) rfl (by kernel_rfl)) rfl ?_)) | (refine so_is (.binOp .add 9 _ _ _) ?_; (refine so_q (qt_addT rfl rfl (by (omega))) rfl ?_)) | (refine so_is (.fieldAddr 31 _ 2) ?_; (refine so_q (qt_fld_lp (off := 2) rfl (by kernel_rfl)) rfl ?_)) | (refine so_is (.load 3 _) ?_; (refine so_q (qt_load_box rfl rfl (by kernel_rfl) rfl) rfl ?_)) | (refine so_is (.call ⟨.value (.func 53), _, _⟩) ?_; (apply so_call0 (fid := 53); (· (repeat (first | exact SeA.nil | (apply SeA.cons; (· (apply SeP.g; (repeat (first | exact SeL.nil | apply SeL.cons (.d _))))))))); (· exact l12Valid_p _ _ _ (by omega)); (· rfl))) | refine so_nil ?_ | refine sk_seq ?_ | refine sk_skip ?_ | refine sk_region ?_ | refine sk_not rfl (fun hc => ?_) (fun hc => ?_))
    all_goals first | (exfalso; simp_all; done) | skip
    all_goals (apply sk_ret; apply ret_eq; (· apply RetOK.t; (· (apply GvA.cons; (· (apply RV.cellN (n := 3); (· rfl); (· rfl); (· kernel_rfl); (· rfl))); (· (apply GvP.g; (· (apply GvL.cons (.lit _)); (apply GvL.cons (.lit _)); (apply GvL.cons (.lit _)); exact GvL.nil)))); (apply GvA.cons; (· exact .tmp _); (· exact GvP.c (.lit _))); exact GvA.nil); (· rfl); (· (decide))))
    all_goals simp [bsT_emp, bsT_nil]

end Go.Proofs.YtdnkmgbbkggmdaaDoor

namespace Go.Proofs.YtdnkmgbbkggmdaaDoor
open Go.RowKit
set_option linter.unusedSectionVars false
variable [Glb]
set_option maxRecDepth 10000
set_option maxHeartbeats 4000000
theorem curLogRecord_p (code : Tx) (a s : Int) (h0 : 0 ≤ a) (h1 : a ≤ 4611686018427386000) : PX Tryd.prog 57 (CurB code a s) [] (CurR a 8 fun res => ∃ c r : Tx, (c.length ≤ 10 ∧ r.length ≤ 10) ∧ res = .p (.g [dT c, dT r])) := by
  refine px_intro Tryd.func57 rfl rfl rfl (by kernel_rfl) rfl rfl rfl ?_; intro kv
  repeat' (first | (refine so_is (.alloc 27) ?_; refine so_alloc (zs := [.string ByteArray.empty, .string ByteArray.empty]) (by kernel_rfl) rfl ?_) | (refine so_is (.move _) ?_; (refine so_q (qt_mvC rfl) rfl ?_)) | (refine so_is (.buildSlice 92 5 _) ?_; (apply so_bslice (sz := 1) (by_ := 16); (· kernel_rfl); (· decide); (· (repeat (first | exact GvS.nil _ | apply GvS.c rfl rfl (.lit _) rfl))); (· (decide)); (· rfl); (· rfl); (· rfl))) | (refine so_is (.build 27 _) ?_; refine so_q (qt_build (cs := [_, _]) [(0, 1), (1, 1)] [.string ByteArray.empty, .string ByteArray.empty] (by kernel_rfl) (by kernel_rfl) rfl) rfl ?_) | (refine so_is (.store 27 _ _) ?_; (refine so_store_box rfl rfl rfl (by kernel_rfl) rfl rfl ?_)) | (refine so_is (.call ⟨.value (.func 61), _, _⟩) ?_; (apply so_callX (d := 12) (fid := 61); (· rfl); (· rfl); (· (repeat (first | exact BxI.nil | apply BxI.ks | (apply BxI.o; (· (exact .lit _)))))); (· (repeat (first | exact ArX.nil | apply ArX.v (.c (.d _))))); (· (decide)); (· (decide)); (· exact curPick_p code _ _ _ (by omega) (by omega)); (· rfl); (· (intro b hb1 hb2; omega)); (· rfl); (rintro _ _ ⟨a1, s1, ha1, rfl, x1, hx1, rfl⟩; refine ⟨(by first | rfl | simp [*]), ?_⟩))) | (refine so_is (.binOp .eql 3 _ _ _) ?_; refine so_q (qt_eql rfl rfl) rfl ?_) | (refine so_is (.assign _) ?_; (refine so_q (qt_asC rfl) rfl ?_)) | (refine so_is (.makeSlice 53 _ _) ?_; (refine so_make (by_ := 1) (z := .int .u8 0) (y := .lit (.int .u8 0)) rfl rfl (by kernel_rfl) (by kernel_rfl) rfl (fun _ => .lit _ rfl) (by (omega)) (by (omega)) (by (omega)) rfl ?_)) | (refine so_is (.convert 53 9 _) ?_; (refine so_convB0 rfl rfl (by ((simp; done))) (by kernel_rfl) rfl ?_)) | (refine so_is (.fieldAddr 27 _ 0) ?_; (refine so_q (qt_fld_lp (off := 0) rfl (by kernel_rfl)) rfl ?_)) | (refine so_is (.store 9 _ _) ?_; (refine so_store_box1 rfl rfl rfl rfl (by kernel_rfl) rfl rfl ?_)) | (refine so_is (.buildSlice 92 3 _) ?_; (apply so_bslice (sz := 1) (by_ := 16); (· kernel_rfl); (· decide); (· (repeat (first | exact GvS.nil _ | apply GvS.c rfl rfl (.lit _) rfl))); (· (decide)); (· rfl); (· rfl); (· rfl))) | (refine so_is (.fieldAddr 27 _ 1) ?_; (refine so_q (qt_fld_lp (off := 1) rfl (by kernel_rfl)) rfl ?_)) | (refine so_is (.load 27 _) ?_; (refine so_q (qt_load_boxs rfl rfl (by kernel_rfl : tAgg _ 27 2 = true) rfl) rfl ?_)) | (refine so_is (.call ⟨.value (.func 78), _, _⟩) ?_; (apply so_callX (fid := 78); (· rfl); (· rfl); (· (repeat (first | exact BxI.nil | apply BxI.ks | (apply BxI.o; (· (exact .lit _)))))); (· (repeat (first | exact ArX.nil | apply ArX.v (.c (.row _ _ _ _ rfl (by ((simp; done)))))))); (· (decide)); (· (decide)); (· exact curOfD_p code _ _ _ _ 10 rfl (by decide) (by repeat (first | exact fun x hx => absurd hx List.not_mem_nil | (refine List.forall_mem_cons.2 ⟨⟨_, rfl, by decide⟩, ?_⟩))) (by omega) (by omega)); (· rfl); (· (intro b hb1 hb2; omega)); (· rfl); (rintro _ _ ⟨a2, s2, ha2, rfl, t2, ht2, rfl⟩; refine ⟨(by first | rfl | simp [*]), ?_⟩))) | refine so_nil ?_ | refine sk_seq ?_ | refine sk_block ?_ | refine sk_blk ?_ | refine sk_skip ?_ | refine sk_region ?_ | refine sk_if rfl (fun hc => ?_) (fun hc => ?_))
  all_goals (apply sk_xret; (· (apply RetX.p; (· rfl); (· (repeat (first | exact BxO.nil _ | apply BxO.k | (apply BxO.o; (· (exact .lit _)))))); (· (apply GvA.cons; (· (apply RV.cellN (n := 2); (· rfl); (· rfl); (· kernel_rfl); (· rfl))); (· (apply GvP.g; (· (apply GvL.cons (.lit _)); (apply GvL.cons (.lit _)); exact GvL.nil)))); exact GvA.nil); (· (decide)))))
  all_goals exact ⟨_, _, by omega, rfl, _, _, by omega, rfl⟩

end Go.Proofs.YtdnkmgbbkggmdaaDoor
